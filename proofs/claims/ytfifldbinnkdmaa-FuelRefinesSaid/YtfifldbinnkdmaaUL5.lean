/- fuel: FuelRefines walked. -/
import Derived.Test.YtfifldbinnkdmaaRrf
import Derived.Test.YtfifldbinnkdmaaBookOf
import Derived.Test.YtfifldbinnkdmaaKitB2
import Derived.Test.YtfifldbinnkdmaaWake
import Derived.Test.YtfifldbinnkdmaaKK
import Derived.Test.YtfifldbinnkdmaaOpenB
import Derived.Test.YtfifldbinnkdmaaK1
set_option linter.unusedVariables false
set_option linter.unusedSimpArgs false
set_option linter.unnecessarySimpa false
namespace Go.Proofs.Ytfifldbinnkdmaa
open Go.RowKit Go.Shelf
set_option maxRecDepth 100000

theorem bt_names' {accounts moves : Nat} {L W : Int} {b : Bok} {O C V : List Int} (h : BookTruth accounts moves L W b O C V) (h8 : accounts ≤ 8) : nameOk b.accs := by
  have key : ∀ k, k < 8 → (nmAt k).size ≤ maxLen := by decide +kernel
  intro a ha
  obtain ⟨i, hi, rfl⟩ := List.getElem_of_mem ha
  have h1 := (h.acc i hi).name
  rw [ga_get hi] at h1
  rw [h1]
  exact key i (by have := h.n8; omega)
section
variable (l1 h1 l2 h2 : Nat) (va vm : Value) (b : Bok) (w : World) (ha : Accs l1 h1 w va b.accs) (hm : Mvs l2 h2 w vm b.mvs) (b1 : h1 ≤ w.heap.size) (b2 : h2 ≤ w.heap.size)
include ha hm b1 b2
theorem wideB2 : HasB 0 w.heap.size w va vm b := ⟨Sl.wide ha (Nat.zero_le _) b1, Sl.wide hm (Nat.zero_le _) b2⟩
theorem ownBook2 (hs1 : b.accs.length ≤ 100000000000) (hs2 : b.mvs.length ≤ 100000000000) : Calls Try.prog 19 #[.agg #[va, vm]] w (fun e w' => ∃ (a1 : Option Addr) (c1 : Nat) (a2 : Option Addr) (c2 lo hi : Nat), e = .returned (.agg #[.slice a1 b.accs.length c1, .slice a2 b.mvs.length c2]) ∧ (w.heap.size ≤ lo ∧ hi ≤ w'.heap.size) ∧ HasB lo hi w' (.slice a1 b.accs.length c1) (.slice a2 b.mvs.length c2) b ∧ w.grownBy w' none) := by
  refine (ownBook_c 0 w.heap.size va vm b w (wideB2 l1 h1 l2 h2 va vm b w ha hm b1 b2) (Nat.le_refl _) hs1 hs2).mono ?_
  rintro e w' ⟨va', vm', rfl, hB, hg⟩
  obtain ⟨a1, c1, a2, c2, rfl, rfl⟩ := hB.vals
  exact ⟨a1, c1, a2, c2, _, _, rfl, ⟨Nat.le_refl _, Nat.le_refl _⟩, hB, hg⟩
theorem sameBooks2 (l3 h3 l4 h4 : Nat) (va' vm' : Value) (ha' : Accs l3 h3 w va' b.accs) (hm' : Mvs l4 h4 w vm' b.mvs) (b3 : h3 ≤ w.heap.size) (b4 : h4 ≤ w.heap.size) : Calls Try.prog 26 #[.agg #[va, vm], .agg #[va', vm']] w (Ret (.bool true) w) :=
  sameBooks_c 0 w.heap.size 0 w.heap.size va vm va' vm' b w (wideB2 l1 h1 l2 h2 va vm b w ha hm b1 b2) (wideB2 l3 h3 l4 h4 va' vm' b w ha' hm' b3 b4)
end
theorem rng_refines_walk (t : Nat → Value) : ((List.range 135).map t).toArray = List.toArray [t 0, t 1, t 2, t 3, t 4, t 5, t 6, t 7, t 8, t 9, t 10, t 11, t 12, t 13, t 14, t 15, t 16, t 17, t 18, t 19, t 20, t 21, t 22, t 23, t 24, t 25, t 26, t 27, t 28, t 29, t 30, t 31, t 32, t 33, t 34, t 35, t 36, t 37, t 38, t 39, t 40, t 41, t 42, t 43, t 44, t 45, t 46, t 47, t 48, t 49, t 50, t 51, t 52, t 53, t 54, t 55, t 56, t 57, t 58, t 59, t 60, t 61, t 62, t 63, t 64, t 65, t 66, t 67, t 68, t 69, t 70, t 71, t 72, t 73, t 74, t 75, t 76, t 77, t 78, t 79, t 80, t 81, t 82, t 83, t 84, t 85, t 86, t 87, t 88, t 89, t 90, t 91, t 92, t 93, t 94, t 95, t 96, t 97, t 98, t 99, t 100, t 101, t 102, t 103, t 104, t 105, t 106, t 107, t 108, t 109, t 110, t 111, t 112, t 113, t 114, t 115, t 116, t 117, t 118, t 119, t 120, t 121, t 122, t 123, t 124, t 125, t 126, t 127, t 128, t 129, t 130, t 131, t 132, t 133, t 134] := rfl
set_option maxHeartbeats 32000000 in
theorem refines_walk (va vm : Value) (b : Bok) (m : Mv) (vn : Value) (zs : List Int) (w : World) (hb : HasB 0 w.heap.size w va vm b) (hn : nameOk b.accs) (hz : Ints 0 w.heap.size w vn zs) :
    Calls Try.prog 12 #[.agg #[va, vm], .agg #[.int .i64 m.fr, .int .i64 m.to, .int .i64 m.li.lo, .int .i64 m.li.hi], vn] w (Ret (.bool true) w) := by
  have F1 : Bun w [] w := Bun.nil _
  obtain ⟨hba, hbm⟩ := id hb
  clear hb
  have hm_ac := hba.len
  unfold maxLen at hm_ac
  obtain ⟨aa, ak, rfl⟩ := hba.any
  have F2 := F1.sl0 hba (Nat.le_refl _) rfl
  clear F1
  clear hba
  have hm_mv := hbm.len
  unfold maxLen at hm_mv
  obtain ⟨ma, mk, rfl⟩ := hbm.any
  have F3 := F2.sl0 hbm (Nat.le_refl _) rfl
  clear F2
  clear hbm
  have HN := Lib.hid hn
  clear hn
  obtain ⟨na, nc, rfl⟩ := hz.any
  have hm_nums := hz.len
  unfold maxLen at hm_nums
  have F4 := F3.sl0 hz (Nat.le_refl _) rfl
  clear F3
  clear hz
  go_enter Try.func12, Try.ntmps12
  go_wp2_with fail
  have F5 := F4.new 25 #[.slice aa b.accs.length ak, .slice ma b.mvs.length mk] (n := w.heap.size) (by simp)
  clear F4
  have F6 := F5.new 76 #[.int .i64 m.fr, .int .i64 m.to, .int .i64 m.li.lo, .int .i64 m.li.hi] (n := (w.heap.size + 1)) (by simp)
  clear F5
  refine (big_c 0 w.heap.size _ _ b _ ⟨(F6.at 4 rfl : Sl accEnc 6 0 w.heap.size _ (.slice aa b.accs.length ak) b.accs), (F6.at 3 rfl : Sl mvEnc 4 0 w.heap.size _ (.slice ma b.mvs.length mk) b.mvs)⟩ HN.out).mono ?_
  rintro e w9 ⟨rb, rfl, hrb, hg7⟩
  have hg7s := hg7.size
  (try simp at hg7s)
  have F10 := F6.gn hg7
  clear F6
  clear hg7
  cases c11 : rb
  · skip
    have c11H := Lib.hid c11
    have hlen := hrb (by first | exact c11 | rfl)
    clear hrb
    go_wp2_with fail
    refine (newSeed_c 0 w.heap.size _ zs _ (F10.at 2 rfl : Sl intEnc 1 0 w.heap.size _ (.slice na zs.length nc) zs)).mono ?_
    rintro e w14 ⟨sb, rfl, hsb, hsbs, hg12⟩
    have hsbl := hsbs.lt
    have hg12s := hg12.size
    (try simp at hg12s)
    have F15 := F10.add (rseed sb) hg12 (hsbs) (fun g e => by cases e; exact ⟨hsb, hsbs.lt⟩)
    clear F10
    clear hg12
    go_wp2_with fail
    have F18 := F15.new 3 #[.int .i64 20, .int .i64 1000] (n := w14.heap.size) (by simp)
    clear F15
    refine (of2_c sb _ w14.heap.size 2 20 1000 (F18.at 1 rfl : SeedAt _ sb) (by omega) (F18.cl 0 0 rfl rfl) (F18.cl 0 1 rfl rfl)).mono ?_
    rintro e w21 ⟨r16, rfl, hr17, hs20, hg19⟩
    have hg19s := hg19.size
    (try simp at hg19s)
    have F22 := F18.seedAt 1 rfl hg19 hs20
    clear F18
    clear hg19
    go_wp2_with fail
    have F25 := F22.new 3 #[.int .i64 0, .int .i64 3, .int .i64 50] (n := w21.heap.size) (by simp)
    clear F22
    refine (of3_c sb _ w21.heap.size 3 0 3 50 (F25.at 2 rfl : SeedAt _ sb) (by omega) (F25.cl 0 0 rfl rfl) (F25.cl 0 1 rfl rfl) (F25.cl 0 2 rfl rfl)).mono ?_
    rintro e w28 ⟨r23, rfl, hr24, hs27, hg26⟩
    have hg26s := hg26.size
    (try simp at hg26s)
    have F29 := F25.seedAt 2 rfl hg26 hs27
    clear F25
    clear hg26
    go_wp2_with fail
    refine (bookOf_b sb 6 8 r16 r23 _ ((F29.front 2 rfl rfl).at 0 rfl : SeedAt _ sb) (by omega) (by omega) (by omega) (by omega)).mono ?_
    rintro e w31 ⟨va_, vm_, bb, vo_, vc_, vv_, OO, CC, VV, rfl, hT, hB32⟩
    have hB32s := hB32.gb.size
    (try simp at hB32s)
    have F33 := (F29.front 2 rfl rfl).join (L2 := [rown accEnc 79 6 w28.heap.size va_ bb.accs, rown mvEnc 76 4 w28.heap.size vm_ bb.mvs, rown intEnc 3 1 w28.heap.size vo_ OO, rown intEnc 3 1 w28.heap.size vc_ CC, rown intEnc 3 1 w28.heap.size vv_ VV]) hB32 rfl
    clear F29
    clear hB32
    (try dsimp only [List.cons_append, List.nil_append] at F33)
    have HNB := Lib.hid (bt_names' hT (by omega))
    have hb8 := hT.n8
    have hb1 := hT.n0
    have hb10 := hT.m
    have hol := hT.olen
    have hcl := hT.clen
    have hvl := hT.vlen
    have hll : ((OO.length ≤ bb.accs.length ∧ bb.accs.length ≤ OO.length) ∧ CC.length ≤ bb.accs.length ∧ bb.accs.length ≤ CC.length) ∧ VV.length ≤ bb.mvs.length ∧ bb.mvs.length ≤ VV.length := by omega
    have HTB := Lib.hid hT
    clear hT hol hcl hvl
    obtain ⟨pa34, pc35, e_⟩ := (Own.sl (F33.at 0 rfl : Own accEnc 79 6 w28.heap.size _ va_ bb.accs) (fun _ => rfl)).any
    subst e_
    obtain ⟨pa36, pc37, e_⟩ := (Own.sl (F33.at 1 rfl : Own mvEnc 76 4 w28.heap.size _ vm_ bb.mvs) (fun _ => rfl)).any
    subst e_
    obtain ⟨pa38, pc39, e_⟩ := (Own.sl (F33.at 2 rfl : Own intEnc 3 1 w28.heap.size _ vo_ OO) (fun _ => rfl)).any
    subst e_
    obtain ⟨pa40, pc41, e_⟩ := (Own.sl (F33.at 3 rfl : Own intEnc 3 1 w28.heap.size _ vc_ CC) (fun _ => rfl)).any
    subst e_
    obtain ⟨pa42, pc43, e_⟩ := (Own.sl (F33.at 4 rfl : Own intEnc 3 1 w28.heap.size _ vv_ VV) (fun _ => rfl)).any
    subst e_
    go_wp2_with fail
    have F46 := F33.new 25 #[.slice pa34 bb.accs.length pc35, .slice pa36 bb.mvs.length pc37] (n := w31.heap.size) (by simp)
    clear F33
    have F47 := F46.new 32 #[.slice pa38 OO.length pc39, .slice pa40 CC.length pc41, .slice pa42 VV.length pc43] (n := (w31.heap.size + 1)) (by simp)
    clear F46
    refine (below_c sb (bb.accs.length : Int) _ (F47.at 7 rfl : SeedAt _ sb) (by omega) (by omega)).mono ?_
    rintro e w50 ⟨r44, rfl, hr45, hs49, hg48⟩
    unfold belowR at hr45
    have hg48s := hg48.size
    (try simp at hg48s)
    have F51 := F47.seedAt 7 rfl hg48 hs49
    clear F47
    clear hg48
    go_wp2_with fail
    refine (below_c sb (bb.accs.length : Int) _ (F51.at 7 rfl : SeedAt _ sb) (by omega) (by omega)).mono ?_
    rintro e w56 ⟨r52, rfl, hr53, hs55, hg54⟩
    unfold belowR at hr53
    have hg54s := hg54.size
    (try simp at hg54s)
    have F57 := F51.seedAt 7 rfl hg54 hs55
    clear F51
    clear hg54
    go_wp2_with fail
    refine (spanOf_c sb 0 30 _ (F57.at 7 rfl : SeedAt _ sb) (by omega) (by omega) (by omega)).mono ?_
    rintro e w63 ⟨_, rfl, ⟨lo58, hi59, rfl, hr60a, hr60b, hr60c⟩, hs62, hg61⟩
    have hg61s := hg61.size
    (try simp at hg61s)
    have F64 := F57.seedAt 7 rfl hg61 hs62
    clear F57
    clear hg61
    go_wp2_with fail
    have F65 := F64.new 76 #[.int .i64 r44, .int .i64 r52, .int .i64 lo58, .int .i64 hi59] (n := w63.heap.size) (by simp)
    clear F64
    have Fn_ := (((F65.drop 1 rfl).drop 8 rfl).drop 8 rfl)
    (try dsimp only [List.eraseIdx_cons_succ, List.eraseIdx_cons_zero] at Fn_)
    obtain ⟨w66, hx67, F69, hxs68⟩ := Fn_.name
    (try simp at hxs68)
    rw [hx67]
    clear hx67 F65 Fn_
    go_wp2_with fail
    have F70 := (((((F69.drop 4 rfl).drop 4 rfl).drop 4 rfl).drop 4 rfl).drop 6 rfl).drew
    clear F69
    refine ru_begin (fun W => W.cell? ⟨w.heap.size, 0, none⟩ = some (.slice aa b.accs.length ak) ∧ W.cell? ⟨w.heap.size, 1, none⟩ = some (.slice ma b.mvs.length mk) ∧ W.cell? ⟨w31.heap.size, 0, none⟩ = some (.slice pa34 bb.accs.length pc35) ∧ W.cell? ⟨w31.heap.size, 1, none⟩ = some (.slice pa36 bb.mvs.length pc37) ∧ W.cell? ⟨(w.heap.size + 1), 0, none⟩ = some (.int .i64 m.fr) ∧ W.cell? ⟨(w.heap.size + 1), 1, none⟩ = some (.int .i64 m.to) ∧ W.cell? ⟨(w.heap.size + 1), 2, none⟩ = some (.int .i64 m.li.lo) ∧ W.cell? ⟨(w.heap.size + 1), 3, none⟩ = some (.int .i64 m.li.hi) ∧ W.cell? ⟨w63.heap.size, 0, none⟩ = some (.int .i64 r44) ∧ W.cell? ⟨w63.heap.size, 1, none⟩ = some (.int .i64 r52) ∧ W.cell? ⟨w63.heap.size, 2, none⟩ = some (.int .i64 lo58) ∧ W.cell? ⟨w63.heap.size, 3, none⟩ = some (.int .i64 hi59)) 9 (by kernel_rfl) ?_ ?_
    · exact ⟨F70.cl 5 0 rfl rfl, F70.cl 5 1 rfl rfl, F70.cl 1 0 rfl rfl, F70.cl 1 1 rfl rfl, F70.cl 4 0 rfl rfl, F70.cl 4 1 rfl rfl, F70.cl 4 2 rfl rfl, F70.cl 4 3 rfl rfl, F70.cl 0 0 rfl rfl, F70.cl 0 1 rfl rfl, F70.cl 0 2 rfl rfl, F70.cl 0 3 rfl rfl⟩
    obtain ⟨wd72, hwd_⟩ : ∃ x : World, w66.drew = x := ⟨_, rfl⟩
    rw [hwd_] at F70 ⊢
    have wd72s : w66.heap.size ≤ wd72.heap.size := by rw [← hwd_]; exact Nat.le_refl _
    clear hwd_
    have hS71 := (And.intro (F70.cl 5 0 rfl rfl) (And.intro (F70.cl 5 1 rfl rfl) (And.intro (F70.cl 1 0 rfl rfl) (And.intro (F70.cl 1 1 rfl rfl) (And.intro (F70.cl 4 0 rfl rfl) (And.intro (F70.cl 4 1 rfl rfl) (And.intro (F70.cl 4 2 rfl rfl) (And.intro (F70.cl 4 3 rfl rfl) (And.intro (F70.cl 0 0 rfl rfl) (And.intro (F70.cl 0 1 rfl rfl) (And.intro (F70.cl 0 2 rfl rfl) (F70.cl 0 3 rfl rfl))))))))))))
    refine ru_t 0 [] ?_
    refine ru_t 1 [] ?_
    refine ru_t 2 [] ?_
    refine ru_t 4 [] ?_
    refine ru_t 5 [] ?_
    refine ru_t 6 [] ?_
    (try simp only [Act.put, List.setIfInBounds_toArray, List.set_cons_zero, List.set_cons_succ])
    clear hS71
    refine ru_state 135 (fun t w_ => ∃ (yg3 : Nat) (yg7 : Nat), t 12 = .slice (some ⟨yg3, 0, none⟩) 3 3 ∧ t 13 = .slice (some ⟨yg7, 0, none⟩) 3 3 ∧ w66.heap.size ≤ w_.heap.size ∧ Bun w [rbox yg7 76 #[.int .i64 m.fr, .int .i64 m.to, .int .i64 m.li.lo, .int .i64 m.li.hi, .int .i64 r44, .int .i64 r52, .int .i64 lo58, .int .i64 hi59, .int .i64 m.fr, .int .i64 m.to, .int .i64 m.li.lo, .int .i64 m.li.hi], rbox yg3 25 #[.slice aa b.accs.length ak, .slice ma b.mvs.length mk, .slice pa34 bb.accs.length pc35, .slice pa36 bb.mvs.length pc37, .slice pa34 bb.accs.length pc35, .slice pa36 bb.mvs.length pc37], rbox w63.heap.size 76 #[.int .i64 r44, .int .i64 r52, .int .i64 lo58, .int .i64 hi59], rbox w31.heap.size 25 #[.slice pa34 bb.accs.length pc35, .slice pa36 bb.mvs.length pc37], rown accEnc 79 6 w28.heap.size (.slice pa34 bb.accs.length pc35) bb.accs, rown mvEnc 76 4 w28.heap.size (.slice pa36 bb.mvs.length pc37) bb.mvs, rbox (w.heap.size + 1) 76 #[.int .i64 m.fr, .int .i64 m.to, .int .i64 m.li.lo, .int .i64 m.li.hi], rbox w.heap.size 25 #[.slice aa b.accs.length ak, .slice ma b.mvs.length mk], rsl mvEnc 4 0 w.heap.size (.slice ma b.mvs.length mk) b.mvs, rsl accEnc 6 0 w.heap.size (.slice aa b.accs.length ak) b.accs] w_) #[true, true, true, true, true, true, true, true, true, true] 0 ?st73 ?nx73
    case st73 =>
      rintro t w74 ⟨yg3, yg7, e12, e13, hsz73, F75⟩
      clear F70
      rw [rng_refines_walk t, e12, e13]
      clear e12 e13
      have hws73 := F75.gb.size
      have yg7l := F75.ltAt 0 rfl yg7 rfl
      have yg7b := yg7l.2 rfl
      have yg3l := F75.ltAt 1 rfl yg3 rfl
      have yg3b := yg3l.2 rfl
      refine ru_done (by kernel_rfl) ?_
      have Fn_ := ((((F75.drop 2 rfl).drop 2 rfl).drop 4 rfl).drop 4 rfl)
      (try dsimp only [List.eraseIdx_cons_succ, List.eraseIdx_cons_zero] at Fn_)
      obtain ⟨w76, hx77, F79, hxs78⟩ := Fn_.name
      (try simp at hxs78)
      rw [hx77]
      clear hx77 F75 Fn_
      go_wp2_with fail
      refine wp_loop_rounds 4 ?_
      rw [rounds_succ]
      have b81 := F79.bx6 1 rfl
      go_wp2_with fail
      clear b81
      refine (ownBook2 _ _ _ _ _ _ b _ (F79.at 5 rfl : Sl accEnc 6 0 w.heap.size _ (.slice aa b.accs.length ak) b.accs) (F79.at 4 rfl : Sl mvEnc 4 0 w.heap.size _ (.slice ma b.mvs.length mk) b.mvs) (by first | omega | (simp; omega)) (by first | omega | (simp; omega)) (by omega) (by omega)).mono ?_
      rintro e w84 ⟨ba80, bc80, bm80, bn80, bl80, bh80, rfl, ⟨bx80, by80⟩, bz80, hg82⟩
      have hg82s := hg82.size
      (try simp at hg82s)
      have F85 := F79.add (rbook bl80 bh80 (.slice ba80 b.accs.length bc80) (.slice bm80 b.mvs.length bn80) b) hg82 (bz80) (fun g e => ⟨Nat.le_trans bx80 e.1, Nat.lt_of_lt_of_le e.2 by80⟩)
      clear F79
      clear hg82
      go_wp2_with fail
      have F86 := F85.new 25 #[.slice ba80 b.accs.length bc80, .slice bm80 b.mvs.length bn80] (n := w84.heap.size) (by simp)
      clear F85
      refine (fref_t _ _ _ _ _ _ b _ ((F86.at 1 rfl : HasB bl80 bh80 _ (.slice ba80 b.accs.length bc80) (.slice bm80 b.mvs.length bn80) b)).1 ((F86.at 1 rfl : HasB bl80 bh80 _ (.slice ba80 b.accs.length bc80) (.slice bm80 b.mvs.length bn80) b)).2 (by first | omega | (simp; omega)) (by first | omega | (simp; omega)) HN.out).mono ?_
      rintro e w89 ⟨taa73_0, tca73_0, tma73_0, tna73_0, tla73_0, tha73_0, rfl, ⟨txa73_0, tya73_0⟩, tza73_0, hg87⟩
      have hg87s := hg87.size
      (try simp at hg87s)
      have F90 := F86.add (rbook tla73_0 tha73_0 (.slice taa73_0 ((refR b).accs.length) tca73_0) (.slice tma73_0 ((refR b).mvs.length) tna73_0) (refR b)) hg87 (tza73_0) (fun g e => ⟨Nat.le_trans txa73_0 e.1, Nat.lt_of_lt_of_le e.2 tya73_0⟩)
      clear F86
      clear hg87
      have b91 := F90.bx6 4 rfl
      go_wp2_with fail
      clear b91
      have F92 := F90.new 25 #[.slice taa73_0 ((refR b).accs.length) tca73_0, .slice tma73_0 ((refR b).mvs.length) tna73_0] (n := w89.heap.size) (by simp)
      clear F90
      refine (rref_t _ _ _ _ _ _ b _ (F92.at 9 rfl : Sl accEnc 6 0 w.heap.size _ (.slice aa b.accs.length ak) b.accs) (F92.at 8 rfl : Sl mvEnc 4 0 w.heap.size _ (.slice ma b.mvs.length mk) b.mvs) (by first | omega | (simp; omega)) (by first | omega | (simp; omega)) HN.out).mono ?_
      rintro e w95 ⟨tac81_0, tcc81_0, tmc81_0, tnc81_0, tlc81_0, thc81_0, rfl, ⟨txc81_0, tyc81_0⟩, tzc81_0, hg93⟩
      have hg93s := hg93.size
      (try simp at hg93s)
      have F96 := F92.add (rbook tlc81_0 thc81_0 (.slice tac81_0 ((refR b).accs.length) tcc81_0) (.slice tmc81_0 ((refR b).mvs.length) tnc81_0) (refR b)) hg93 (tzc81_0) (fun g e => ⟨Nat.le_trans txc81_0 e.1, Nat.lt_of_lt_of_le e.2 tyc81_0⟩)
      clear F92
      clear hg93
      go_wp2_with fail
      have F97 := F96.new 25 #[.slice tac81_0 ((refR b).accs.length) tcc81_0, .slice tmc81_0 ((refR b).mvs.length) tnc81_0] (n := w95.heap.size) (by simp)
      clear F96
      have Fn_ := F97
      (try dsimp only [List.eraseIdx_cons_succ, List.eraseIdx_cons_zero] at Fn_)
      obtain ⟨w98, hx99, F101, hxs100⟩ := Fn_.name
      (try simp at hxs100)
      rw [hx99]
      clear hx99 F97 Fn_
      refine wp_cutK 135 (fun t wr => ∃ (g14_20 : Nat) (tax90_0 : Option Addr) (tcx90_0 : Nat) (tmx90_0 : Option Addr) (tnx90_0 : Nat) (tlx90_0 : Nat) (thx90_0 : Nat), t 12 = .slice (some ⟨yg3, 0, none⟩) 3 3 ∧ t 13 = .slice (some ⟨yg7, 0, none⟩) 3 3 ∧ t 14 = .int .i64 0 ∧ t 15 = .pointer (some ⟨w84.heap.size, 0, none⟩) ∧ t 16 = .pointer (some ⟨w89.heap.size, 0, none⟩) ∧ t 17 = .int .i64 (checkE b) ∧ t 18 = .pointer (some ⟨w95.heap.size, 0, none⟩) ∧ t 19 = .int .i64 (checkE b) ∧ t 20 = .pointer (some ⟨g14_20, 0, none⟩) ∧ t 21 = .int .i64 (postX b m) ∧ w98.heap.size ≤ wr.heap.size ∧ (thx90_0 ≤ wr.heap.size) ∧ Bun w [rbox g14_20 25 #[.slice tax90_0 ((postR b m).accs.length) tcx90_0, .slice tmx90_0 ((postR b m).mvs.length) tnx90_0], rbox w95.heap.size 25 #[.slice tac81_0 ((refR b).accs.length) tcc81_0, .slice tmc81_0 ((refR b).mvs.length) tnc81_0], rbook tlc81_0 thc81_0 (.slice tac81_0 ((refR b).accs.length) tcc81_0) (.slice tmc81_0 ((refR b).mvs.length) tnc81_0) (refR b), rbox w89.heap.size 25 #[.slice taa73_0 ((refR b).accs.length) tca73_0, .slice tma73_0 ((refR b).mvs.length) tna73_0], rbook tla73_0 tha73_0 (.slice taa73_0 ((refR b).accs.length) tca73_0) (.slice tma73_0 ((refR b).mvs.length) tna73_0) (refR b), rbox w84.heap.size 25 #[.slice ba80 b.accs.length bc80, .slice bm80 b.mvs.length bn80], rbook bl80 bh80 (.slice ba80 b.accs.length bc80) (.slice bm80 b.mvs.length bn80) b, rbox yg7 76 #[.int .i64 m.fr, .int .i64 m.to, .int .i64 m.li.lo, .int .i64 m.li.hi, .int .i64 r44, .int .i64 r52, .int .i64 lo58, .int .i64 hi59, .int .i64 m.fr, .int .i64 m.to, .int .i64 m.li.lo, .int .i64 m.li.hi], rbox yg3 25 #[.slice aa b.accs.length ak, .slice ma b.mvs.length mk, .slice pa34 bb.accs.length pc35, .slice pa36 bb.mvs.length pc37, .slice pa34 bb.accs.length pc35, .slice pa36 bb.mvs.length pc37], rown accEnc 79 6 w28.heap.size (.slice pa34 bb.accs.length pc35) bb.accs, rown mvEnc 76 4 w28.heap.size (.slice pa36 bb.mvs.length pc37) bb.mvs, rsl mvEnc 4 0 w.heap.size (.slice ma b.mvs.length mk) b.mvs, rsl accEnc 6 0 w.heap.size (.slice aa b.accs.length ak) b.accs, rbook tlx90_0 thx90_0 (.slice tax90_0 ((postR b m).accs.length) tcx90_0) (.slice tmx90_0 ((postR b m).mvs.length) tnx90_0) (postR b m)] wr) ?first1 ?rest1
      case rest1 =>
        rintro t wr ⟨g14_20, tax90_0, tcx90_0, tmx90_0, tnx90_0, tlx90_0, thx90_0, e12, e13, e14, e15, e16, e17, e18, e19, e20, e21, hrel⟩
        have e : ((List.range 135).map t).toArray = #[t 0, t 1, t 2, t 3, t 4, t 5, t 6, t 7, t 8, t 9, t 10, t 11, t 12, t 13, t 14, t 15, t 16, t 17, t 18, t 19, t 20, t 21, t 22, t 23, t 24, t 25, t 26, t 27, t 28, t 29, t 30, t 31, t 32, t 33, t 34, t 35, t 36, t 37, t 38, t 39, t 40, t 41, t 42, t 43, t 44, t 45, t 46, t 47, t 48, t 49, t 50, t 51, t 52, t 53, t 54, t 55, t 56, t 57, t 58, t 59, t 60, t 61, t 62, t 63, t 64, t 65, t 66, t 67, t 68, t 69, t 70, t 71, t 72, t 73, t 74, t 75, t 76, t 77, t 78, t 79, t 80, t 81, t 82, t 83, t 84, t 85, t 86, t 87, t 88, t 89, t 90, t 91, t 92, t 93, t 94, t 95, t 96, t 97, t 98, t 99, t 100, t 101, t 102, t 103, t 104, t 105, t 106, t 107, t 108, t 109, t 110, t 111, t 112, t 113, t 114, t 115, t 116, t 117, t 118, t 119, t 120, t 121, t 122, t 123, t 124, t 125, t 126, t 127, t 128, t 129, t 130, t 131, t 132, t 133, t 134] := rfl
        (try dsimp only at e)
        rw [e12, e13, e14, e15, e16, e17, e18, e19, e20, e21] at e
        rw [e]
        clear e e12 e13 e14 e15 e16 e17 e18 e19 e20 e21
        obtain ⟨hs103, tyx90_0, hF102⟩ := hrel
        clear F101
        obtain ⟨w104, rfl⟩ : ∃ x_ : World, x_ = wr := ⟨_, rfl⟩
        go_wp2_with fail
        refine wp_cutK 135 (fun t wr => ∃ (g15_22 : Nat) (tay102_0 : Option Addr) (tcy102_0 : Nat) (tmy102_0 : Option Addr) (tny102_0 : Nat) (tly102_0 : Nat) (thy102_0 : Nat), t 12 = .slice (some ⟨yg3, 0, none⟩) 3 3 ∧ t 13 = .slice (some ⟨yg7, 0, none⟩) 3 3 ∧ t 14 = .int .i64 0 ∧ t 15 = .pointer (some ⟨w84.heap.size, 0, none⟩) ∧ t 16 = .pointer (some ⟨w89.heap.size, 0, none⟩) ∧ t 17 = .int .i64 (checkE b) ∧ t 18 = .pointer (some ⟨w95.heap.size, 0, none⟩) ∧ t 19 = .int .i64 (checkE b) ∧ t 20 = .pointer (some ⟨g14_20, 0, none⟩) ∧ t 21 = .int .i64 (postX b m) ∧ t 22 = .pointer (some ⟨g15_22, 0, none⟩) ∧ t 23 = .int .i64 (postX b m) ∧ w104.heap.size ≤ wr.heap.size ∧ (thy102_0 ≤ wr.heap.size) ∧ Bun w [rbox g15_22 25 #[.slice tay102_0 ((postR b m).accs.length) tcy102_0, .slice tmy102_0 ((postR b m).mvs.length) tny102_0], rbox g14_20 25 #[.slice tax90_0 ((postR b m).accs.length) tcx90_0, .slice tmx90_0 ((postR b m).mvs.length) tnx90_0], rbox w95.heap.size 25 #[.slice tac81_0 ((refR b).accs.length) tcc81_0, .slice tmc81_0 ((refR b).mvs.length) tnc81_0], rbook tlc81_0 thc81_0 (.slice tac81_0 ((refR b).accs.length) tcc81_0) (.slice tmc81_0 ((refR b).mvs.length) tnc81_0) (refR b), rbox w89.heap.size 25 #[.slice taa73_0 ((refR b).accs.length) tca73_0, .slice tma73_0 ((refR b).mvs.length) tna73_0], rbook tla73_0 tha73_0 (.slice taa73_0 ((refR b).accs.length) tca73_0) (.slice tma73_0 ((refR b).mvs.length) tna73_0) (refR b), rbox w84.heap.size 25 #[.slice ba80 b.accs.length bc80, .slice bm80 b.mvs.length bn80], rbook bl80 bh80 (.slice ba80 b.accs.length bc80) (.slice bm80 b.mvs.length bn80) b, rbox yg7 76 #[.int .i64 m.fr, .int .i64 m.to, .int .i64 m.li.lo, .int .i64 m.li.hi, .int .i64 r44, .int .i64 r52, .int .i64 lo58, .int .i64 hi59, .int .i64 m.fr, .int .i64 m.to, .int .i64 m.li.lo, .int .i64 m.li.hi], rbox yg3 25 #[.slice aa b.accs.length ak, .slice ma b.mvs.length mk, .slice pa34 bb.accs.length pc35, .slice pa36 bb.mvs.length pc37, .slice pa34 bb.accs.length pc35, .slice pa36 bb.mvs.length pc37], rown accEnc 79 6 w28.heap.size (.slice pa34 bb.accs.length pc35) bb.accs, rown mvEnc 76 4 w28.heap.size (.slice pa36 bb.mvs.length pc37) bb.mvs, rsl mvEnc 4 0 w.heap.size (.slice ma b.mvs.length mk) b.mvs, rsl accEnc 6 0 w.heap.size (.slice aa b.accs.length ak) b.accs, rbook tlx90_0 thx90_0 (.slice tax90_0 ((postR b m).accs.length) tcx90_0) (.slice tmx90_0 ((postR b m).mvs.length) tnx90_0) (postR b m), rbook tly102_0 thy102_0 (.slice tay102_0 ((postR b m).accs.length) tcy102_0) (.slice tmy102_0 ((postR b m).mvs.length) tny102_0) (postR b m)] wr) ?first2 ?rest2
        case rest2 =>
          rintro t wr ⟨g15_22, tay102_0, tcy102_0, tmy102_0, tny102_0, tly102_0, thy102_0, e12, e13, e14, e15, e16, e17, e18, e19, e20, e21, e22, e23, hrel⟩
          have e : ((List.range 135).map t).toArray = #[t 0, t 1, t 2, t 3, t 4, t 5, t 6, t 7, t 8, t 9, t 10, t 11, t 12, t 13, t 14, t 15, t 16, t 17, t 18, t 19, t 20, t 21, t 22, t 23, t 24, t 25, t 26, t 27, t 28, t 29, t 30, t 31, t 32, t 33, t 34, t 35, t 36, t 37, t 38, t 39, t 40, t 41, t 42, t 43, t 44, t 45, t 46, t 47, t 48, t 49, t 50, t 51, t 52, t 53, t 54, t 55, t 56, t 57, t 58, t 59, t 60, t 61, t 62, t 63, t 64, t 65, t 66, t 67, t 68, t 69, t 70, t 71, t 72, t 73, t 74, t 75, t 76, t 77, t 78, t 79, t 80, t 81, t 82, t 83, t 84, t 85, t 86, t 87, t 88, t 89, t 90, t 91, t 92, t 93, t 94, t 95, t 96, t 97, t 98, t 99, t 100, t 101, t 102, t 103, t 104, t 105, t 106, t 107, t 108, t 109, t 110, t 111, t 112, t 113, t 114, t 115, t 116, t 117, t 118, t 119, t 120, t 121, t 122, t 123, t 124, t 125, t 126, t 127, t 128, t 129, t 130, t 131, t 132, t 133, t 134] := rfl
          (try dsimp only at e)
          rw [e12, e13, e14, e15, e16, e17, e18, e19, e20, e21, e22, e23] at e
          rw [e]
          clear e e12 e13 e14 e15 e16 e17 e18 e19 e20 e21 e22 e23
          obtain ⟨hs106, tyy102_0, hF105⟩ := hrel
          clear hF102
          obtain ⟨w107, rfl⟩ : ∃ x_ : World, x_ = wr := ⟨_, rfl⟩
          go_wp2_with fail
          have F108 := hF105.drew
          clear hF105
          refine ru_begin (fun W => W.cell? ⟨w89.heap.size, 0, none⟩ = some (.slice taa73_0 ((refR b).accs.length) tca73_0) ∧ W.cell? ⟨w89.heap.size, 1, none⟩ = some (.slice tma73_0 ((refR b).mvs.length) tna73_0) ∧ W.cell? ⟨w95.heap.size, 0, none⟩ = some (.slice tac81_0 ((refR b).accs.length) tcc81_0) ∧ W.cell? ⟨w95.heap.size, 1, none⟩ = some (.slice tmc81_0 ((refR b).mvs.length) tnc81_0) ∧ W.cell? ⟨g14_20, 0, none⟩ = some (.slice tax90_0 ((postR b m).accs.length) tcx90_0) ∧ W.cell? ⟨g14_20, 1, none⟩ = some (.slice tmx90_0 ((postR b m).mvs.length) tnx90_0) ∧ W.cell? ⟨g15_22, 0, none⟩ = some (.slice tay102_0 ((postR b m).accs.length) tcy102_0) ∧ W.cell? ⟨g15_22, 1, none⟩ = some (.slice tmy102_0 ((postR b m).mvs.length) tny102_0) ∧ W.cell? ⟨w84.heap.size, 0, none⟩ = some (.slice ba80 b.accs.length bc80) ∧ W.cell? ⟨w84.heap.size, 1, none⟩ = some (.slice bm80 b.mvs.length bn80) ∧ W.cell? ⟨yg3, 0, none⟩ = some (.slice aa b.accs.length ak) ∧ W.cell? ⟨yg3, 1, none⟩ = some (.slice ma b.mvs.length mk)) 28 (by kernel_rfl) ?_ ?_
          · exact ⟨F108.cl 4 0 rfl rfl, F108.cl 4 1 rfl rfl, F108.cl 2 0 rfl rfl, F108.cl 2 1 rfl rfl, F108.cl 1 0 rfl rfl, F108.cl 1 1 rfl rfl, F108.cl 0 0 rfl rfl, F108.cl 0 1 rfl rfl, F108.cl 6 0 rfl rfl, F108.cl 6 1 rfl rfl, F108.cl 9 0 rfl rfl, F108.cl 9 1 rfl rfl⟩
          obtain ⟨wd110, hwd_⟩ : ∃ x : World, w107.drew = x := ⟨_, rfl⟩
          rw [hwd_] at F108 ⊢
          have wd110s : w107.heap.size ≤ wd110.heap.size := by rw [← hwd_]; exact Nat.le_refl _
          clear hwd_
          have hS109 := (And.intro (F108.cl 4 0 rfl rfl) (And.intro (F108.cl 4 1 rfl rfl) (And.intro (F108.cl 2 0 rfl rfl) (And.intro (F108.cl 2 1 rfl rfl) (And.intro (F108.cl 1 0 rfl rfl) (And.intro (F108.cl 1 1 rfl rfl) (And.intro (F108.cl 0 0 rfl rfl) (And.intro (F108.cl 0 1 rfl rfl) (And.intro (F108.cl 6 0 rfl rfl) (And.intro (F108.cl 6 1 rfl rfl) (And.intro (F108.cl 9 0 rfl rfl) (F108.cl 9 1 rfl rfl))))))))))))
          refine ru_t 0 [20, 17, 14, 11, 8, 3, 2] ?_
          refine ru_t 1 [20, 17, 14, 11, 8, 3, 2] ?_
          refine ru_t 2 [20, 17, 14, 11, 8, 3] ?_
          refine ru_t 3 [20, 17, 14, 11, 8] ?_
          refine ru_t 4 [20, 17, 14, 11, 8, 7, 6] ?_
          refine ru_t 5 [20, 17, 14, 11, 8, 7, 6] ?_
          refine ru_t 6 [20, 17, 14, 11, 8, 7] ?_
          refine ru_t 7 [20, 17, 14, 11, 8] ?_
          refine ru_t 8 [20, 17, 14, 11] ?_
          refine ru_t 9 [20, 17, 14, 11] ?_
          refine ru_t 10 [20, 17, 14, 11] ?_
          (try simp only [Act.put, List.setIfInBounds_toArray, List.set_cons_zero, List.set_cons_succ])
          clear hS109
          refine ru_one 11 rfl (by kernel_rfl) (fun K hK => ?_)
          go_simp
          refine (sameBooks2 _ _ _ _ _ _ (refR b) _ ((F108.at 5 rfl : HasB tla73_0 tha73_0 _ (.slice taa73_0 ((refR b).accs.length) tca73_0) (.slice tma73_0 ((refR b).mvs.length) tna73_0) (refR b))).1 ((F108.at 5 rfl : HasB tla73_0 tha73_0 _ (.slice taa73_0 ((refR b).accs.length) tca73_0) (.slice tma73_0 ((refR b).mvs.length) tna73_0) (refR b))).2 (by first | omega | (simp; omega)) (by first | omega | (simp; omega)) _ _ _ _ _ _ ((F108.at 3 rfl : HasB tlc81_0 thc81_0 _ (.slice tac81_0 ((refR b).accs.length) tcc81_0) (.slice tmc81_0 ((refR b).mvs.length) tnc81_0) (refR b))).1 ((F108.at 3 rfl : HasB tlc81_0 thc81_0 _ (.slice tac81_0 ((refR b).accs.length) tcc81_0) (.slice tmc81_0 ((refR b).mvs.length) tnc81_0) (refR b))).2 (by first | omega | (simp; omega)) (by first | omega | (simp; omega))).mono ?_
          rintro e w113 ⟨rfl, hg111⟩
          have hg111s := hg111.size
          (try simp at hg111s)
          have F114 := F108.gn hg111
          clear F108
          refine ru_back hK (by exact ⟨F114.cl 4 0 rfl rfl, F114.cl 4 1 rfl rfl, F114.cl 2 0 rfl rfl, F114.cl 2 1 rfl rfl, F114.cl 1 0 rfl rfl, F114.cl 1 1 rfl rfl, F114.cl 0 0 rfl rfl, F114.cl 0 1 rfl rfl, F114.cl 6 0 rfl rfl, F114.cl 6 1 rfl rfl, F114.cl 9 0 rfl rfl, F114.cl 9 1 rfl rfl⟩) (fun hHeld => ?_)
          clear hK K
          (try simp only [Act.put, List.setIfInBounds_toArray, List.set_cons_zero, List.set_cons_succ])
          refine ru_p 12 ?_
          (try simp only [Act.put, List.setIfInBounds_toArray, List.set_cons_zero, List.set_cons_succ])
          refine ru_p 13 ?_
          (try simp only [Act.put, List.setIfInBounds_toArray, List.set_cons_zero, List.set_cons_succ])
          refine ru_p 14 ?_
          (try simp only [Act.put, List.setIfInBounds_toArray, List.set_cons_zero, List.set_cons_succ])
          refine ru_t 15 [20, 17] ?_
          refine ru_t 16 [20, 17] ?_
          (try simp only [Act.put, List.setIfInBounds_toArray, List.set_cons_zero, List.set_cons_succ])
          refine ru_one 17 rfl (by kernel_rfl) (fun K hK => ?_)
          go_simp
          refine (sameBooks2 _ _ _ _ _ _ (postR b m) _ ((F114.at 14 rfl : HasB tlx90_0 thx90_0 _ (.slice tax90_0 ((postR b m).accs.length) tcx90_0) (.slice tmx90_0 ((postR b m).mvs.length) tnx90_0) (postR b m))).1 ((F114.at 14 rfl : HasB tlx90_0 thx90_0 _ (.slice tax90_0 ((postR b m).accs.length) tcx90_0) (.slice tmx90_0 ((postR b m).mvs.length) tnx90_0) (postR b m))).2 (by first | omega | (simp; omega)) (by first | omega | (simp; omega)) _ _ _ _ _ _ ((F114.at 15 rfl : HasB tly102_0 thy102_0 _ (.slice tay102_0 ((postR b m).accs.length) tcy102_0) (.slice tmy102_0 ((postR b m).mvs.length) tny102_0) (postR b m))).1 ((F114.at 15 rfl : HasB tly102_0 thy102_0 _ (.slice tay102_0 ((postR b m).accs.length) tcy102_0) (.slice tmy102_0 ((postR b m).mvs.length) tny102_0) (postR b m))).2 (by first | omega | (simp; omega)) (by first | omega | (simp; omega))).mono ?_
          rintro e w117 ⟨rfl, hg115⟩
          have hg115s := hg115.size
          (try simp at hg115s)
          have F118 := F114.gn hg115
          clear F114
          refine ru_back hK (by exact ⟨F118.cl 4 0 rfl rfl, F118.cl 4 1 rfl rfl, F118.cl 2 0 rfl rfl, F118.cl 2 1 rfl rfl, F118.cl 1 0 rfl rfl, F118.cl 1 1 rfl rfl, F118.cl 0 0 rfl rfl, F118.cl 0 1 rfl rfl, F118.cl 6 0 rfl rfl, F118.cl 6 1 rfl rfl, F118.cl 9 0 rfl rfl, F118.cl 9 1 rfl rfl⟩) (fun hHeld => ?_)
          clear hK K
          (try simp only [Act.put, List.setIfInBounds_toArray, List.set_cons_zero, List.set_cons_succ])
          refine ru_p 18 ?_
          (try simp only [Act.put, List.setIfInBounds_toArray, List.set_cons_zero, List.set_cons_succ])
          refine ru_p 19 ?_
          (try simp only [Act.put, List.setIfInBounds_toArray, List.set_cons_zero, List.set_cons_succ])
          refine ru_p 20 ?_
          (try simp only [Act.put, List.setIfInBounds_toArray, List.set_cons_zero, List.set_cons_succ])
          refine ru_p 22 ?_
          refine ru_p 23 ?_
          (try simp only [Act.put, List.setIfInBounds_toArray, List.set_cons_zero, List.set_cons_succ])
          refine ru_p 24 ?_
          (try simp only [Act.put, List.setIfInBounds_toArray, List.set_cons_zero, List.set_cons_succ])
          refine ru_t 21 [27, 26] ?_
          refine ru_t 25 [27, 26] ?_
          (try simp only [Act.put, List.setIfInBounds_toArray, List.set_cons_zero, List.set_cons_succ])
          refine ru_one 26 rfl (by kernel_rfl) (fun K hK => ?_)
          go_simp
          refine (sameBooks2 _ _ _ _ _ _ b _ ((F118.at 7 rfl : HasB bl80 bh80 _ (.slice ba80 b.accs.length bc80) (.slice bm80 b.mvs.length bn80) b)).1 ((F118.at 7 rfl : HasB bl80 bh80 _ (.slice ba80 b.accs.length bc80) (.slice bm80 b.mvs.length bn80) b)).2 (by first | omega | (simp; omega)) (by first | omega | (simp; omega)) _ _ _ _ _ _ (F118.at 13 rfl : Sl accEnc 6 0 w.heap.size _ (.slice aa b.accs.length ak) b.accs) (F118.at 12 rfl : Sl mvEnc 4 0 w.heap.size _ (.slice ma b.mvs.length mk) b.mvs) (by first | omega | (simp; omega)) (by first | omega | (simp; omega))).mono ?_
          rintro e w121 ⟨rfl, hg119⟩
          have hg119s := hg119.size
          (try simp at hg119s)
          have F122 := F118.gn hg119
          clear F118
          refine ru_back hK (by exact ⟨F122.cl 4 0 rfl rfl, F122.cl 4 1 rfl rfl, F122.cl 2 0 rfl rfl, F122.cl 2 1 rfl rfl, F122.cl 1 0 rfl rfl, F122.cl 1 1 rfl rfl, F122.cl 0 0 rfl rfl, F122.cl 0 1 rfl rfl, F122.cl 6 0 rfl rfl, F122.cl 6 1 rfl rfl, F122.cl 9 0 rfl rfl, F122.cl 9 1 rfl rfl⟩) (fun hHeld => ?_)
          clear hK K
          (try simp only [Act.put, List.setIfInBounds_toArray, List.set_cons_zero, List.set_cons_succ])
          refine ru_p 27 ?_
          (try simp only [Act.put, List.setIfInBounds_toArray, List.set_cons_zero, List.set_cons_succ])
          refine ru_one 28 rfl (by kernel_rfl) (fun K hK => ?_)
          go_simp
          refine ru_back_late hK (by kernel_rfl) ?_
          clear hK K
          (try simp only [Act.put, List.setIfInBounds_toArray, List.set_cons_zero, List.set_cons_succ])
          refine ru_done (by kernel_rfl) ?_
          have Fn_ := (((((F122.drop 0 rfl).drop 0 rfl).drop 0 rfl).drop 1 rfl).drop 2 rfl)
          (try dsimp only [List.eraseIdx_cons_succ, List.eraseIdx_cons_zero] at Fn_)
          obtain ⟨w123, hx124, F126, hxs125⟩ := Fn_.name
          (try simp at hxs125)
          rw [hx124]
          clear hx124 F122 Fn_
          go_wp2_with fail
          rw [rounds_succ]
          have Fn_ := (((((F126.drop 0 rfl).drop 0 rfl).drop 0 rfl).drop 6 rfl).drop 6 rfl)
          (try dsimp only [List.eraseIdx_cons_succ, List.eraseIdx_cons_zero] at Fn_)
          obtain ⟨w127, hx128, F130, hxs129⟩ := Fn_.name
          (try simp at hxs129)
          rw [hx128]
          clear hx128 F126 Fn_
          have b132 := F130.bx6 1 rfl
          go_wp2_with fail
          clear b132
          refine (ownBook2 _ _ _ _ _ _ bb _ (Own.sl (F130.at 2 rfl : Own accEnc 79 6 w28.heap.size _ (.slice pa34 bb.accs.length pc35) bb.accs) (fun _ => rfl)) (Own.sl (F130.at 3 rfl : Own mvEnc 76 4 w28.heap.size _ (.slice pa36 bb.mvs.length pc37) bb.mvs) (fun _ => rfl)) (Nat.le_refl _) (Nat.le_refl _) (by omega) (by omega)).mono ?_
          rintro e w135 ⟨ba131, bc131, bm131, bn131, bl131, bh131, rfl, ⟨bx131, by131⟩, bz131, hg133⟩
          have hg133s := hg133.size
          (try simp at hg133s)
          have F136 := F130.add (rbook bl131 bh131 (.slice ba131 bb.accs.length bc131) (.slice bm131 bb.mvs.length bn131) bb) hg133 (bz131) (fun g e => ⟨Nat.le_trans bx131 e.1, Nat.lt_of_lt_of_le e.2 by131⟩)
          clear F130
          clear hg133
          go_wp2_with fail
          have F137 := F136.new 25 #[.slice ba131 bb.accs.length bc131, .slice bm131 bb.mvs.length bn131] (n := w135.heap.size) (by simp)
          clear F136
          refine (fref_t _ _ _ _ _ _ bb _ ((F137.at 1 rfl : HasB bl131 bh131 _ (.slice ba131 bb.accs.length bc131) (.slice bm131 bb.mvs.length bn131) bb)).1 ((F137.at 1 rfl : HasB bl131 bh131 _ (.slice ba131 bb.accs.length bc131) (.slice bm131 bb.mvs.length bn131) bb)).2 (by first | omega | (simp; omega)) (by first | omega | (simp; omega)) HNB.out).mono ?_
          rintro e w140 ⟨taa73_1, tca73_1, tma73_1, tna73_1, tla73_1, tha73_1, rfl, ⟨txa73_1, tya73_1⟩, tza73_1, hg138⟩
          have hg138s := hg138.size
          (try simp at hg138s)
          have F141 := F137.add (rbook tla73_1 tha73_1 (.slice taa73_1 ((refR bb).accs.length) tca73_1) (.slice tma73_1 ((refR bb).mvs.length) tna73_1) (refR bb)) hg138 (tza73_1) (fun g e => ⟨Nat.le_trans txa73_1 e.1, Nat.lt_of_lt_of_le e.2 tya73_1⟩)
          clear F137
          clear hg138
          have b142 := F141.bx6 4 rfl
          go_wp2_with fail
          clear b142
          have F143 := F141.new 25 #[.slice taa73_1 ((refR bb).accs.length) tca73_1, .slice tma73_1 ((refR bb).mvs.length) tna73_1] (n := w140.heap.size) (by simp)
          clear F141
          refine (rref_t _ _ _ _ _ _ bb _ (Own.sl (F143.at 6 rfl : Own accEnc 79 6 w28.heap.size _ (.slice pa34 bb.accs.length pc35) bb.accs) (fun _ => rfl)) (Own.sl (F143.at 7 rfl : Own mvEnc 76 4 w28.heap.size _ (.slice pa36 bb.mvs.length pc37) bb.mvs) (fun _ => rfl)) (Nat.le_refl _) (Nat.le_refl _) HNB.out).mono ?_
          rintro e w146 ⟨tac81_1, tcc81_1, tmc81_1, tnc81_1, tlc81_1, thc81_1, rfl, ⟨txc81_1, tyc81_1⟩, tzc81_1, hg144⟩
          have hg144s := hg144.size
          (try simp at hg144s)
          have F147 := F143.add (rbook tlc81_1 thc81_1 (.slice tac81_1 ((refR bb).accs.length) tcc81_1) (.slice tmc81_1 ((refR bb).mvs.length) tnc81_1) (refR bb)) hg144 (tzc81_1) (fun g e => ⟨Nat.le_trans txc81_1 e.1, Nat.lt_of_lt_of_le e.2 tyc81_1⟩)
          clear F143
          clear hg144
          go_wp2_with fail
          have F148 := F147.new 25 #[.slice tac81_1 ((refR bb).accs.length) tcc81_1, .slice tmc81_1 ((refR bb).mvs.length) tnc81_1] (n := w146.heap.size) (by simp)
          clear F147
          have Fn_ := F148
          (try dsimp only [List.eraseIdx_cons_succ, List.eraseIdx_cons_zero] at Fn_)
          obtain ⟨w149, hx150, F152, hxs151⟩ := Fn_.name
          (try simp at hxs151)
          rw [hx150]
          clear hx150 F148 Fn_
          refine wp_cutK 135 (fun t wr => ∃ (g14_20 : Nat) (tax90_1 : Option Addr) (tcx90_1 : Nat) (tmx90_1 : Option Addr) (tnx90_1 : Nat) (tlx90_1 : Nat) (thx90_1 : Nat), t 12 = .slice (some ⟨yg3, 0, none⟩) 3 3 ∧ t 13 = .slice (some ⟨yg7, 0, none⟩) 3 3 ∧ t 14 = .int .i64 1 ∧ t 15 = .pointer (some ⟨w135.heap.size, 0, none⟩) ∧ t 16 = .pointer (some ⟨w140.heap.size, 0, none⟩) ∧ t 17 = .int .i64 (checkE bb) ∧ t 18 = .pointer (some ⟨w146.heap.size, 0, none⟩) ∧ t 19 = .int .i64 (checkE bb) ∧ t 20 = .pointer (some ⟨g14_20, 0, none⟩) ∧ t 21 = .int .i64 (postX bb (⟨r44, r52, ⟨lo58, hi59⟩⟩ : Mv)) ∧ w149.heap.size ≤ wr.heap.size ∧ (thx90_1 ≤ wr.heap.size) ∧ Bun w [rbox g14_20 25 #[.slice tax90_1 ((postR bb (⟨r44, r52, ⟨lo58, hi59⟩⟩ : Mv)).accs.length) tcx90_1, .slice tmx90_1 ((postR bb (⟨r44, r52, ⟨lo58, hi59⟩⟩ : Mv)).mvs.length) tnx90_1], rbox w146.heap.size 25 #[.slice tac81_1 ((refR bb).accs.length) tcc81_1, .slice tmc81_1 ((refR bb).mvs.length) tnc81_1], rbook tlc81_1 thc81_1 (.slice tac81_1 ((refR bb).accs.length) tcc81_1) (.slice tmc81_1 ((refR bb).mvs.length) tnc81_1) (refR bb), rbox w140.heap.size 25 #[.slice taa73_1 ((refR bb).accs.length) tca73_1, .slice tma73_1 ((refR bb).mvs.length) tna73_1], rbook tla73_1 tha73_1 (.slice taa73_1 ((refR bb).accs.length) tca73_1) (.slice tma73_1 ((refR bb).mvs.length) tna73_1) (refR bb), rbox w135.heap.size 25 #[.slice ba131 bb.accs.length bc131, .slice bm131 bb.mvs.length bn131], rbook bl131 bh131 (.slice ba131 bb.accs.length bc131) (.slice bm131 bb.mvs.length bn131) bb, rbox yg7 76 #[.int .i64 m.fr, .int .i64 m.to, .int .i64 m.li.lo, .int .i64 m.li.hi, .int .i64 r44, .int .i64 r52, .int .i64 lo58, .int .i64 hi59, .int .i64 m.fr, .int .i64 m.to, .int .i64 m.li.lo, .int .i64 m.li.hi], rbox yg3 25 #[.slice aa b.accs.length ak, .slice ma b.mvs.length mk, .slice pa34 bb.accs.length pc35, .slice pa36 bb.mvs.length pc37, .slice pa34 bb.accs.length pc35, .slice pa36 bb.mvs.length pc37], rown accEnc 79 6 w28.heap.size (.slice pa34 bb.accs.length pc35) bb.accs, rown mvEnc 76 4 w28.heap.size (.slice pa36 bb.mvs.length pc37) bb.mvs, rsl mvEnc 4 0 w.heap.size (.slice ma b.mvs.length mk) b.mvs, rsl accEnc 6 0 w.heap.size (.slice aa b.accs.length ak) b.accs, rbook tlx90_1 thx90_1 (.slice tax90_1 ((postR bb (⟨r44, r52, ⟨lo58, hi59⟩⟩ : Mv)).accs.length) tcx90_1) (.slice tmx90_1 ((postR bb (⟨r44, r52, ⟨lo58, hi59⟩⟩ : Mv)).mvs.length) tnx90_1) (postR bb (⟨r44, r52, ⟨lo58, hi59⟩⟩ : Mv))] wr) ?first3 ?rest3
          case rest3 =>
            rintro t wr ⟨g14_20, tax90_1, tcx90_1, tmx90_1, tnx90_1, tlx90_1, thx90_1, e12, e13, e14, e15, e16, e17, e18, e19, e20, e21, hrel⟩
            have e : ((List.range 135).map t).toArray = #[t 0, t 1, t 2, t 3, t 4, t 5, t 6, t 7, t 8, t 9, t 10, t 11, t 12, t 13, t 14, t 15, t 16, t 17, t 18, t 19, t 20, t 21, t 22, t 23, t 24, t 25, t 26, t 27, t 28, t 29, t 30, t 31, t 32, t 33, t 34, t 35, t 36, t 37, t 38, t 39, t 40, t 41, t 42, t 43, t 44, t 45, t 46, t 47, t 48, t 49, t 50, t 51, t 52, t 53, t 54, t 55, t 56, t 57, t 58, t 59, t 60, t 61, t 62, t 63, t 64, t 65, t 66, t 67, t 68, t 69, t 70, t 71, t 72, t 73, t 74, t 75, t 76, t 77, t 78, t 79, t 80, t 81, t 82, t 83, t 84, t 85, t 86, t 87, t 88, t 89, t 90, t 91, t 92, t 93, t 94, t 95, t 96, t 97, t 98, t 99, t 100, t 101, t 102, t 103, t 104, t 105, t 106, t 107, t 108, t 109, t 110, t 111, t 112, t 113, t 114, t 115, t 116, t 117, t 118, t 119, t 120, t 121, t 122, t 123, t 124, t 125, t 126, t 127, t 128, t 129, t 130, t 131, t 132, t 133, t 134] := rfl
            (try dsimp only at e)
            rw [e12, e13, e14, e15, e16, e17, e18, e19, e20, e21] at e
            rw [e]
            clear e e12 e13 e14 e15 e16 e17 e18 e19 e20 e21
            obtain ⟨hs154, tyx90_1, hF153⟩ := hrel
            clear F152
            obtain ⟨w155, rfl⟩ : ∃ x_ : World, x_ = wr := ⟨_, rfl⟩
            go_wp2_with fail
            refine wp_cutK 135 (fun t wr => ∃ (g15_22 : Nat) (tay102_1 : Option Addr) (tcy102_1 : Nat) (tmy102_1 : Option Addr) (tny102_1 : Nat) (tly102_1 : Nat) (thy102_1 : Nat), t 12 = .slice (some ⟨yg3, 0, none⟩) 3 3 ∧ t 13 = .slice (some ⟨yg7, 0, none⟩) 3 3 ∧ t 14 = .int .i64 1 ∧ t 15 = .pointer (some ⟨w135.heap.size, 0, none⟩) ∧ t 16 = .pointer (some ⟨w140.heap.size, 0, none⟩) ∧ t 17 = .int .i64 (checkE bb) ∧ t 18 = .pointer (some ⟨w146.heap.size, 0, none⟩) ∧ t 19 = .int .i64 (checkE bb) ∧ t 20 = .pointer (some ⟨g14_20, 0, none⟩) ∧ t 21 = .int .i64 (postX bb (⟨r44, r52, ⟨lo58, hi59⟩⟩ : Mv)) ∧ t 22 = .pointer (some ⟨g15_22, 0, none⟩) ∧ t 23 = .int .i64 (postX bb (⟨r44, r52, ⟨lo58, hi59⟩⟩ : Mv)) ∧ w155.heap.size ≤ wr.heap.size ∧ (thy102_1 ≤ wr.heap.size) ∧ Bun w [rbox g15_22 25 #[.slice tay102_1 ((postR bb (⟨r44, r52, ⟨lo58, hi59⟩⟩ : Mv)).accs.length) tcy102_1, .slice tmy102_1 ((postR bb (⟨r44, r52, ⟨lo58, hi59⟩⟩ : Mv)).mvs.length) tny102_1], rbox g14_20 25 #[.slice tax90_1 ((postR bb (⟨r44, r52, ⟨lo58, hi59⟩⟩ : Mv)).accs.length) tcx90_1, .slice tmx90_1 ((postR bb (⟨r44, r52, ⟨lo58, hi59⟩⟩ : Mv)).mvs.length) tnx90_1], rbox w146.heap.size 25 #[.slice tac81_1 ((refR bb).accs.length) tcc81_1, .slice tmc81_1 ((refR bb).mvs.length) tnc81_1], rbook tlc81_1 thc81_1 (.slice tac81_1 ((refR bb).accs.length) tcc81_1) (.slice tmc81_1 ((refR bb).mvs.length) tnc81_1) (refR bb), rbox w140.heap.size 25 #[.slice taa73_1 ((refR bb).accs.length) tca73_1, .slice tma73_1 ((refR bb).mvs.length) tna73_1], rbook tla73_1 tha73_1 (.slice taa73_1 ((refR bb).accs.length) tca73_1) (.slice tma73_1 ((refR bb).mvs.length) tna73_1) (refR bb), rbox w135.heap.size 25 #[.slice ba131 bb.accs.length bc131, .slice bm131 bb.mvs.length bn131], rbook bl131 bh131 (.slice ba131 bb.accs.length bc131) (.slice bm131 bb.mvs.length bn131) bb, rbox yg7 76 #[.int .i64 m.fr, .int .i64 m.to, .int .i64 m.li.lo, .int .i64 m.li.hi, .int .i64 r44, .int .i64 r52, .int .i64 lo58, .int .i64 hi59, .int .i64 m.fr, .int .i64 m.to, .int .i64 m.li.lo, .int .i64 m.li.hi], rbox yg3 25 #[.slice aa b.accs.length ak, .slice ma b.mvs.length mk, .slice pa34 bb.accs.length pc35, .slice pa36 bb.mvs.length pc37, .slice pa34 bb.accs.length pc35, .slice pa36 bb.mvs.length pc37], rown accEnc 79 6 w28.heap.size (.slice pa34 bb.accs.length pc35) bb.accs, rown mvEnc 76 4 w28.heap.size (.slice pa36 bb.mvs.length pc37) bb.mvs, rsl mvEnc 4 0 w.heap.size (.slice ma b.mvs.length mk) b.mvs, rsl accEnc 6 0 w.heap.size (.slice aa b.accs.length ak) b.accs, rbook tlx90_1 thx90_1 (.slice tax90_1 ((postR bb (⟨r44, r52, ⟨lo58, hi59⟩⟩ : Mv)).accs.length) tcx90_1) (.slice tmx90_1 ((postR bb (⟨r44, r52, ⟨lo58, hi59⟩⟩ : Mv)).mvs.length) tnx90_1) (postR bb (⟨r44, r52, ⟨lo58, hi59⟩⟩ : Mv)), rbook tly102_1 thy102_1 (.slice tay102_1 ((postR bb (⟨r44, r52, ⟨lo58, hi59⟩⟩ : Mv)).accs.length) tcy102_1) (.slice tmy102_1 ((postR bb (⟨r44, r52, ⟨lo58, hi59⟩⟩ : Mv)).mvs.length) tny102_1) (postR bb (⟨r44, r52, ⟨lo58, hi59⟩⟩ : Mv))] wr) ?first4 ?rest4
            case rest4 =>
              rintro t wr ⟨g15_22, tay102_1, tcy102_1, tmy102_1, tny102_1, tly102_1, thy102_1, e12, e13, e14, e15, e16, e17, e18, e19, e20, e21, e22, e23, hrel⟩
              have e : ((List.range 135).map t).toArray = #[t 0, t 1, t 2, t 3, t 4, t 5, t 6, t 7, t 8, t 9, t 10, t 11, t 12, t 13, t 14, t 15, t 16, t 17, t 18, t 19, t 20, t 21, t 22, t 23, t 24, t 25, t 26, t 27, t 28, t 29, t 30, t 31, t 32, t 33, t 34, t 35, t 36, t 37, t 38, t 39, t 40, t 41, t 42, t 43, t 44, t 45, t 46, t 47, t 48, t 49, t 50, t 51, t 52, t 53, t 54, t 55, t 56, t 57, t 58, t 59, t 60, t 61, t 62, t 63, t 64, t 65, t 66, t 67, t 68, t 69, t 70, t 71, t 72, t 73, t 74, t 75, t 76, t 77, t 78, t 79, t 80, t 81, t 82, t 83, t 84, t 85, t 86, t 87, t 88, t 89, t 90, t 91, t 92, t 93, t 94, t 95, t 96, t 97, t 98, t 99, t 100, t 101, t 102, t 103, t 104, t 105, t 106, t 107, t 108, t 109, t 110, t 111, t 112, t 113, t 114, t 115, t 116, t 117, t 118, t 119, t 120, t 121, t 122, t 123, t 124, t 125, t 126, t 127, t 128, t 129, t 130, t 131, t 132, t 133, t 134] := rfl
              (try dsimp only at e)
              rw [e12, e13, e14, e15, e16, e17, e18, e19, e20, e21, e22, e23] at e
              rw [e]
              clear e e12 e13 e14 e15 e16 e17 e18 e19 e20 e21 e22 e23
              obtain ⟨hs157, tyy102_1, hF156⟩ := hrel
              clear hF153
              obtain ⟨w158, rfl⟩ : ∃ x_ : World, x_ = wr := ⟨_, rfl⟩
              go_wp2_with fail
              have F159 := hF156.drew
              clear hF156
              refine ru_begin (fun W => W.cell? ⟨w140.heap.size, 0, none⟩ = some (.slice taa73_1 ((refR bb).accs.length) tca73_1) ∧ W.cell? ⟨w140.heap.size, 1, none⟩ = some (.slice tma73_1 ((refR bb).mvs.length) tna73_1) ∧ W.cell? ⟨w146.heap.size, 0, none⟩ = some (.slice tac81_1 ((refR bb).accs.length) tcc81_1) ∧ W.cell? ⟨w146.heap.size, 1, none⟩ = some (.slice tmc81_1 ((refR bb).mvs.length) tnc81_1) ∧ W.cell? ⟨g14_20, 0, none⟩ = some (.slice tax90_1 ((postR bb (⟨r44, r52, ⟨lo58, hi59⟩⟩ : Mv)).accs.length) tcx90_1) ∧ W.cell? ⟨g14_20, 1, none⟩ = some (.slice tmx90_1 ((postR bb (⟨r44, r52, ⟨lo58, hi59⟩⟩ : Mv)).mvs.length) tnx90_1) ∧ W.cell? ⟨g15_22, 0, none⟩ = some (.slice tay102_1 ((postR bb (⟨r44, r52, ⟨lo58, hi59⟩⟩ : Mv)).accs.length) tcy102_1) ∧ W.cell? ⟨g15_22, 1, none⟩ = some (.slice tmy102_1 ((postR bb (⟨r44, r52, ⟨lo58, hi59⟩⟩ : Mv)).mvs.length) tny102_1) ∧ W.cell? ⟨w135.heap.size, 0, none⟩ = some (.slice ba131 bb.accs.length bc131) ∧ W.cell? ⟨w135.heap.size, 1, none⟩ = some (.slice bm131 bb.mvs.length bn131) ∧ W.cell? ⟨yg3, 2, none⟩ = some (.slice pa34 bb.accs.length pc35) ∧ W.cell? ⟨yg3, 3, none⟩ = some (.slice pa36 bb.mvs.length pc37)) 28 (by kernel_rfl) ?_ ?_
              · exact ⟨F159.cl 4 0 rfl rfl, F159.cl 4 1 rfl rfl, F159.cl 2 0 rfl rfl, F159.cl 2 1 rfl rfl, F159.cl 1 0 rfl rfl, F159.cl 1 1 rfl rfl, F159.cl 0 0 rfl rfl, F159.cl 0 1 rfl rfl, F159.cl 6 0 rfl rfl, F159.cl 6 1 rfl rfl, F159.cl 9 2 rfl rfl, F159.cl 9 3 rfl rfl⟩
              obtain ⟨wd161, hwd_⟩ : ∃ x : World, w158.drew = x := ⟨_, rfl⟩
              rw [hwd_] at F159 ⊢
              have wd161s : w158.heap.size ≤ wd161.heap.size := by rw [← hwd_]; exact Nat.le_refl _
              clear hwd_
              have hS160 := (And.intro (F159.cl 4 0 rfl rfl) (And.intro (F159.cl 4 1 rfl rfl) (And.intro (F159.cl 2 0 rfl rfl) (And.intro (F159.cl 2 1 rfl rfl) (And.intro (F159.cl 1 0 rfl rfl) (And.intro (F159.cl 1 1 rfl rfl) (And.intro (F159.cl 0 0 rfl rfl) (And.intro (F159.cl 0 1 rfl rfl) (And.intro (F159.cl 6 0 rfl rfl) (And.intro (F159.cl 6 1 rfl rfl) (And.intro (F159.cl 9 2 rfl rfl) (F159.cl 9 3 rfl rfl))))))))))))
              refine ru_t 0 [20, 17, 14, 11, 8, 3, 2] ?_
              refine ru_t 1 [20, 17, 14, 11, 8, 3, 2] ?_
              refine ru_t 2 [20, 17, 14, 11, 8, 3] ?_
              refine ru_t 3 [20, 17, 14, 11, 8] ?_
              refine ru_t 4 [20, 17, 14, 11, 8, 7, 6] ?_
              refine ru_t 5 [20, 17, 14, 11, 8, 7, 6] ?_
              refine ru_t 6 [20, 17, 14, 11, 8, 7] ?_
              refine ru_t 7 [20, 17, 14, 11, 8] ?_
              refine ru_t 8 [20, 17, 14, 11] ?_
              refine ru_t 9 [20, 17, 14, 11] ?_
              refine ru_t 10 [20, 17, 14, 11] ?_
              (try simp only [Act.put, List.setIfInBounds_toArray, List.set_cons_zero, List.set_cons_succ])
              clear hS160
              refine ru_one 11 rfl (by kernel_rfl) (fun K hK => ?_)
              go_simp
              refine (sameBooks2 _ _ _ _ _ _ (refR bb) _ ((F159.at 5 rfl : HasB tla73_1 tha73_1 _ (.slice taa73_1 ((refR bb).accs.length) tca73_1) (.slice tma73_1 ((refR bb).mvs.length) tna73_1) (refR bb))).1 ((F159.at 5 rfl : HasB tla73_1 tha73_1 _ (.slice taa73_1 ((refR bb).accs.length) tca73_1) (.slice tma73_1 ((refR bb).mvs.length) tna73_1) (refR bb))).2 (by first | omega | (simp; omega)) (by first | omega | (simp; omega)) _ _ _ _ _ _ ((F159.at 3 rfl : HasB tlc81_1 thc81_1 _ (.slice tac81_1 ((refR bb).accs.length) tcc81_1) (.slice tmc81_1 ((refR bb).mvs.length) tnc81_1) (refR bb))).1 ((F159.at 3 rfl : HasB tlc81_1 thc81_1 _ (.slice tac81_1 ((refR bb).accs.length) tcc81_1) (.slice tmc81_1 ((refR bb).mvs.length) tnc81_1) (refR bb))).2 (by first | omega | (simp; omega)) (by first | omega | (simp; omega))).mono ?_
              rintro e w164 ⟨rfl, hg162⟩
              have hg162s := hg162.size
              (try simp at hg162s)
              have F165 := F159.gn hg162
              clear F159
              refine ru_back hK (by exact ⟨F165.cl 4 0 rfl rfl, F165.cl 4 1 rfl rfl, F165.cl 2 0 rfl rfl, F165.cl 2 1 rfl rfl, F165.cl 1 0 rfl rfl, F165.cl 1 1 rfl rfl, F165.cl 0 0 rfl rfl, F165.cl 0 1 rfl rfl, F165.cl 6 0 rfl rfl, F165.cl 6 1 rfl rfl, F165.cl 9 2 rfl rfl, F165.cl 9 3 rfl rfl⟩) (fun hHeld => ?_)
              clear hK K
              (try simp only [Act.put, List.setIfInBounds_toArray, List.set_cons_zero, List.set_cons_succ])
              refine ru_p 12 ?_
              (try simp only [Act.put, List.setIfInBounds_toArray, List.set_cons_zero, List.set_cons_succ])
              refine ru_p 13 ?_
              (try simp only [Act.put, List.setIfInBounds_toArray, List.set_cons_zero, List.set_cons_succ])
              refine ru_p 14 ?_
              (try simp only [Act.put, List.setIfInBounds_toArray, List.set_cons_zero, List.set_cons_succ])
              refine ru_t 15 [20, 17] ?_
              refine ru_t 16 [20, 17] ?_
              (try simp only [Act.put, List.setIfInBounds_toArray, List.set_cons_zero, List.set_cons_succ])
              refine ru_one 17 rfl (by kernel_rfl) (fun K hK => ?_)
              go_simp
              refine (sameBooks2 _ _ _ _ _ _ (postR bb (⟨r44, r52, ⟨lo58, hi59⟩⟩ : Mv)) _ ((F165.at 14 rfl : HasB tlx90_1 thx90_1 _ (.slice tax90_1 ((postR bb (⟨r44, r52, ⟨lo58, hi59⟩⟩ : Mv)).accs.length) tcx90_1) (.slice tmx90_1 ((postR bb (⟨r44, r52, ⟨lo58, hi59⟩⟩ : Mv)).mvs.length) tnx90_1) (postR bb (⟨r44, r52, ⟨lo58, hi59⟩⟩ : Mv)))).1 ((F165.at 14 rfl : HasB tlx90_1 thx90_1 _ (.slice tax90_1 ((postR bb (⟨r44, r52, ⟨lo58, hi59⟩⟩ : Mv)).accs.length) tcx90_1) (.slice tmx90_1 ((postR bb (⟨r44, r52, ⟨lo58, hi59⟩⟩ : Mv)).mvs.length) tnx90_1) (postR bb (⟨r44, r52, ⟨lo58, hi59⟩⟩ : Mv)))).2 (by first | omega | (simp; omega)) (by first | omega | (simp; omega)) _ _ _ _ _ _ ((F165.at 15 rfl : HasB tly102_1 thy102_1 _ (.slice tay102_1 ((postR bb (⟨r44, r52, ⟨lo58, hi59⟩⟩ : Mv)).accs.length) tcy102_1) (.slice tmy102_1 ((postR bb (⟨r44, r52, ⟨lo58, hi59⟩⟩ : Mv)).mvs.length) tny102_1) (postR bb (⟨r44, r52, ⟨lo58, hi59⟩⟩ : Mv)))).1 ((F165.at 15 rfl : HasB tly102_1 thy102_1 _ (.slice tay102_1 ((postR bb (⟨r44, r52, ⟨lo58, hi59⟩⟩ : Mv)).accs.length) tcy102_1) (.slice tmy102_1 ((postR bb (⟨r44, r52, ⟨lo58, hi59⟩⟩ : Mv)).mvs.length) tny102_1) (postR bb (⟨r44, r52, ⟨lo58, hi59⟩⟩ : Mv)))).2 (by first | omega | (simp; omega)) (by first | omega | (simp; omega))).mono ?_
              rintro e w168 ⟨rfl, hg166⟩
              have hg166s := hg166.size
              (try simp at hg166s)
              have F169 := F165.gn hg166
              clear F165
              refine ru_back hK (by exact ⟨F169.cl 4 0 rfl rfl, F169.cl 4 1 rfl rfl, F169.cl 2 0 rfl rfl, F169.cl 2 1 rfl rfl, F169.cl 1 0 rfl rfl, F169.cl 1 1 rfl rfl, F169.cl 0 0 rfl rfl, F169.cl 0 1 rfl rfl, F169.cl 6 0 rfl rfl, F169.cl 6 1 rfl rfl, F169.cl 9 2 rfl rfl, F169.cl 9 3 rfl rfl⟩) (fun hHeld => ?_)
              clear hK K
              (try simp only [Act.put, List.setIfInBounds_toArray, List.set_cons_zero, List.set_cons_succ])
              refine ru_p 18 ?_
              (try simp only [Act.put, List.setIfInBounds_toArray, List.set_cons_zero, List.set_cons_succ])
              refine ru_p 19 ?_
              (try simp only [Act.put, List.setIfInBounds_toArray, List.set_cons_zero, List.set_cons_succ])
              refine ru_p 20 ?_
              (try simp only [Act.put, List.setIfInBounds_toArray, List.set_cons_zero, List.set_cons_succ])
              refine ru_p 22 ?_
              refine ru_p 23 ?_
              (try simp only [Act.put, List.setIfInBounds_toArray, List.set_cons_zero, List.set_cons_succ])
              refine ru_p 24 ?_
              (try simp only [Act.put, List.setIfInBounds_toArray, List.set_cons_zero, List.set_cons_succ])
              refine ru_t 21 [27, 26] ?_
              refine ru_t 25 [27, 26] ?_
              (try simp only [Act.put, List.setIfInBounds_toArray, List.set_cons_zero, List.set_cons_succ])
              refine ru_one 26 rfl (by kernel_rfl) (fun K hK => ?_)
              go_simp
              refine (sameBooks2 _ _ _ _ _ _ bb _ ((F169.at 7 rfl : HasB bl131 bh131 _ (.slice ba131 bb.accs.length bc131) (.slice bm131 bb.mvs.length bn131) bb)).1 ((F169.at 7 rfl : HasB bl131 bh131 _ (.slice ba131 bb.accs.length bc131) (.slice bm131 bb.mvs.length bn131) bb)).2 (by first | omega | (simp; omega)) (by first | omega | (simp; omega)) _ _ _ _ _ _ (Own.sl (F169.at 10 rfl : Own accEnc 79 6 w28.heap.size _ (.slice pa34 bb.accs.length pc35) bb.accs) (fun _ => rfl)) (Own.sl (F169.at 11 rfl : Own mvEnc 76 4 w28.heap.size _ (.slice pa36 bb.mvs.length pc37) bb.mvs) (fun _ => rfl)) (Nat.le_refl _) (Nat.le_refl _)).mono ?_
              rintro e w172 ⟨rfl, hg170⟩
              have hg170s := hg170.size
              (try simp at hg170s)
              have F173 := F169.gn hg170
              clear F169
              refine ru_back hK (by exact ⟨F173.cl 4 0 rfl rfl, F173.cl 4 1 rfl rfl, F173.cl 2 0 rfl rfl, F173.cl 2 1 rfl rfl, F173.cl 1 0 rfl rfl, F173.cl 1 1 rfl rfl, F173.cl 0 0 rfl rfl, F173.cl 0 1 rfl rfl, F173.cl 6 0 rfl rfl, F173.cl 6 1 rfl rfl, F173.cl 9 2 rfl rfl, F173.cl 9 3 rfl rfl⟩) (fun hHeld => ?_)
              clear hK K
              (try simp only [Act.put, List.setIfInBounds_toArray, List.set_cons_zero, List.set_cons_succ])
              refine ru_p 27 ?_
              (try simp only [Act.put, List.setIfInBounds_toArray, List.set_cons_zero, List.set_cons_succ])
              refine ru_one 28 rfl (by kernel_rfl) (fun K hK => ?_)
              go_simp
              refine ru_back_late hK (by kernel_rfl) ?_
              clear hK K
              (try simp only [Act.put, List.setIfInBounds_toArray, List.set_cons_zero, List.set_cons_succ])
              refine ru_done (by kernel_rfl) ?_
              have Fn_ := (((((F173.drop 0 rfl).drop 0 rfl).drop 0 rfl).drop 1 rfl).drop 2 rfl)
              (try dsimp only [List.eraseIdx_cons_succ, List.eraseIdx_cons_zero] at Fn_)
              obtain ⟨w174, hx175, F177, hxs176⟩ := Fn_.name
              (try simp at hxs176)
              rw [hx175]
              clear hx175 F173 Fn_
              go_wp2_with fail
              rw [rounds_succ]
              have Fn_ := (((((F177.drop 0 rfl).drop 0 rfl).drop 0 rfl).drop 6 rfl).drop 6 rfl)
              (try dsimp only [List.eraseIdx_cons_succ, List.eraseIdx_cons_zero] at Fn_)
              obtain ⟨w178, hx179, F181, hxs180⟩ := Fn_.name
              (try simp at hxs180)
              rw [hx179]
              clear hx179 F177 Fn_
              have b183 := F181.bx6 1 rfl
              go_wp2_with fail
              clear b183
              refine (ownBook2 _ _ _ _ _ _ bb _ (Own.sl (F181.at 2 rfl : Own accEnc 79 6 w28.heap.size _ (.slice pa34 bb.accs.length pc35) bb.accs) (fun _ => rfl)) (Own.sl (F181.at 3 rfl : Own mvEnc 76 4 w28.heap.size _ (.slice pa36 bb.mvs.length pc37) bb.mvs) (fun _ => rfl)) (Nat.le_refl _) (Nat.le_refl _) (by omega) (by omega)).mono ?_
              rintro e w186 ⟨ba182, bc182, bm182, bn182, bl182, bh182, rfl, ⟨bx182, by182⟩, bz182, hg184⟩
              have hg184s := hg184.size
              (try simp at hg184s)
              have F187 := F181.add (rbook bl182 bh182 (.slice ba182 bb.accs.length bc182) (.slice bm182 bb.mvs.length bn182) bb) hg184 (bz182) (fun g e => ⟨Nat.le_trans bx182 e.1, Nat.lt_of_lt_of_le e.2 by182⟩)
              clear F181
              clear hg184
              go_wp2_with fail
              have F188 := F187.new 25 #[.slice ba182 bb.accs.length bc182, .slice bm182 bb.mvs.length bn182] (n := w186.heap.size) (by simp)
              clear F187
              refine (fref_t _ _ _ _ _ _ bb _ ((F188.at 1 rfl : HasB bl182 bh182 _ (.slice ba182 bb.accs.length bc182) (.slice bm182 bb.mvs.length bn182) bb)).1 ((F188.at 1 rfl : HasB bl182 bh182 _ (.slice ba182 bb.accs.length bc182) (.slice bm182 bb.mvs.length bn182) bb)).2 (by first | omega | (simp; omega)) (by first | omega | (simp; omega)) HNB.out).mono ?_
              rintro e w191 ⟨taa73_2, tca73_2, tma73_2, tna73_2, tla73_2, tha73_2, rfl, ⟨txa73_2, tya73_2⟩, tza73_2, hg189⟩
              have hg189s := hg189.size
              (try simp at hg189s)
              have F192 := F188.add (rbook tla73_2 tha73_2 (.slice taa73_2 ((refR bb).accs.length) tca73_2) (.slice tma73_2 ((refR bb).mvs.length) tna73_2) (refR bb)) hg189 (tza73_2) (fun g e => ⟨Nat.le_trans txa73_2 e.1, Nat.lt_of_lt_of_le e.2 tya73_2⟩)
              clear F188
              clear hg189
              have b193 := F192.bx6 4 rfl
              go_wp2_with fail
              clear b193
              have F194 := F192.new 25 #[.slice taa73_2 ((refR bb).accs.length) tca73_2, .slice tma73_2 ((refR bb).mvs.length) tna73_2] (n := w191.heap.size) (by simp)
              clear F192
              refine (rref_t _ _ _ _ _ _ bb _ (Own.sl (F194.at 6 rfl : Own accEnc 79 6 w28.heap.size _ (.slice pa34 bb.accs.length pc35) bb.accs) (fun _ => rfl)) (Own.sl (F194.at 7 rfl : Own mvEnc 76 4 w28.heap.size _ (.slice pa36 bb.mvs.length pc37) bb.mvs) (fun _ => rfl)) (Nat.le_refl _) (Nat.le_refl _) HNB.out).mono ?_
              rintro e w197 ⟨tac81_2, tcc81_2, tmc81_2, tnc81_2, tlc81_2, thc81_2, rfl, ⟨txc81_2, tyc81_2⟩, tzc81_2, hg195⟩
              have hg195s := hg195.size
              (try simp at hg195s)
              have F198 := F194.add (rbook tlc81_2 thc81_2 (.slice tac81_2 ((refR bb).accs.length) tcc81_2) (.slice tmc81_2 ((refR bb).mvs.length) tnc81_2) (refR bb)) hg195 (tzc81_2) (fun g e => ⟨Nat.le_trans txc81_2 e.1, Nat.lt_of_lt_of_le e.2 tyc81_2⟩)
              clear F194
              clear hg195
              go_wp2_with fail
              have F199 := F198.new 25 #[.slice tac81_2 ((refR bb).accs.length) tcc81_2, .slice tmc81_2 ((refR bb).mvs.length) tnc81_2] (n := w197.heap.size) (by simp)
              clear F198
              have Fn_ := F199
              (try dsimp only [List.eraseIdx_cons_succ, List.eraseIdx_cons_zero] at Fn_)
              obtain ⟨w200, hx201, F203, hxs202⟩ := Fn_.name
              (try simp at hxs202)
              rw [hx201]
              clear hx201 F199 Fn_
              refine wp_cutK 135 (fun t wr => ∃ (g14_20 : Nat) (tax90_2 : Option Addr) (tcx90_2 : Nat) (tmx90_2 : Option Addr) (tnx90_2 : Nat) (tlx90_2 : Nat) (thx90_2 : Nat), t 12 = .slice (some ⟨yg3, 0, none⟩) 3 3 ∧ t 13 = .slice (some ⟨yg7, 0, none⟩) 3 3 ∧ t 14 = .int .i64 2 ∧ t 15 = .pointer (some ⟨w186.heap.size, 0, none⟩) ∧ t 16 = .pointer (some ⟨w191.heap.size, 0, none⟩) ∧ t 17 = .int .i64 (checkE bb) ∧ t 18 = .pointer (some ⟨w197.heap.size, 0, none⟩) ∧ t 19 = .int .i64 (checkE bb) ∧ t 20 = .pointer (some ⟨g14_20, 0, none⟩) ∧ t 21 = .int .i64 (postX bb m) ∧ w200.heap.size ≤ wr.heap.size ∧ (thx90_2 ≤ wr.heap.size) ∧ Bun w [rbox g14_20 25 #[.slice tax90_2 ((postR bb m).accs.length) tcx90_2, .slice tmx90_2 ((postR bb m).mvs.length) tnx90_2], rbox w197.heap.size 25 #[.slice tac81_2 ((refR bb).accs.length) tcc81_2, .slice tmc81_2 ((refR bb).mvs.length) tnc81_2], rbook tlc81_2 thc81_2 (.slice tac81_2 ((refR bb).accs.length) tcc81_2) (.slice tmc81_2 ((refR bb).mvs.length) tnc81_2) (refR bb), rbox w191.heap.size 25 #[.slice taa73_2 ((refR bb).accs.length) tca73_2, .slice tma73_2 ((refR bb).mvs.length) tna73_2], rbook tla73_2 tha73_2 (.slice taa73_2 ((refR bb).accs.length) tca73_2) (.slice tma73_2 ((refR bb).mvs.length) tna73_2) (refR bb), rbox w186.heap.size 25 #[.slice ba182 bb.accs.length bc182, .slice bm182 bb.mvs.length bn182], rbook bl182 bh182 (.slice ba182 bb.accs.length bc182) (.slice bm182 bb.mvs.length bn182) bb, rbox yg7 76 #[.int .i64 m.fr, .int .i64 m.to, .int .i64 m.li.lo, .int .i64 m.li.hi, .int .i64 r44, .int .i64 r52, .int .i64 lo58, .int .i64 hi59, .int .i64 m.fr, .int .i64 m.to, .int .i64 m.li.lo, .int .i64 m.li.hi], rbox yg3 25 #[.slice aa b.accs.length ak, .slice ma b.mvs.length mk, .slice pa34 bb.accs.length pc35, .slice pa36 bb.mvs.length pc37, .slice pa34 bb.accs.length pc35, .slice pa36 bb.mvs.length pc37], rown accEnc 79 6 w28.heap.size (.slice pa34 bb.accs.length pc35) bb.accs, rown mvEnc 76 4 w28.heap.size (.slice pa36 bb.mvs.length pc37) bb.mvs, rsl mvEnc 4 0 w.heap.size (.slice ma b.mvs.length mk) b.mvs, rsl accEnc 6 0 w.heap.size (.slice aa b.accs.length ak) b.accs, rbook tlx90_2 thx90_2 (.slice tax90_2 ((postR bb m).accs.length) tcx90_2) (.slice tmx90_2 ((postR bb m).mvs.length) tnx90_2) (postR bb m)] wr) ?first5 ?rest5
              case rest5 =>
                rintro t wr ⟨g14_20, tax90_2, tcx90_2, tmx90_2, tnx90_2, tlx90_2, thx90_2, e12, e13, e14, e15, e16, e17, e18, e19, e20, e21, hrel⟩
                have e : ((List.range 135).map t).toArray = #[t 0, t 1, t 2, t 3, t 4, t 5, t 6, t 7, t 8, t 9, t 10, t 11, t 12, t 13, t 14, t 15, t 16, t 17, t 18, t 19, t 20, t 21, t 22, t 23, t 24, t 25, t 26, t 27, t 28, t 29, t 30, t 31, t 32, t 33, t 34, t 35, t 36, t 37, t 38, t 39, t 40, t 41, t 42, t 43, t 44, t 45, t 46, t 47, t 48, t 49, t 50, t 51, t 52, t 53, t 54, t 55, t 56, t 57, t 58, t 59, t 60, t 61, t 62, t 63, t 64, t 65, t 66, t 67, t 68, t 69, t 70, t 71, t 72, t 73, t 74, t 75, t 76, t 77, t 78, t 79, t 80, t 81, t 82, t 83, t 84, t 85, t 86, t 87, t 88, t 89, t 90, t 91, t 92, t 93, t 94, t 95, t 96, t 97, t 98, t 99, t 100, t 101, t 102, t 103, t 104, t 105, t 106, t 107, t 108, t 109, t 110, t 111, t 112, t 113, t 114, t 115, t 116, t 117, t 118, t 119, t 120, t 121, t 122, t 123, t 124, t 125, t 126, t 127, t 128, t 129, t 130, t 131, t 132, t 133, t 134] := rfl
                (try dsimp only at e)
                rw [e12, e13, e14, e15, e16, e17, e18, e19, e20, e21] at e
                rw [e]
                clear e e12 e13 e14 e15 e16 e17 e18 e19 e20 e21
                obtain ⟨hs205, tyx90_2, hF204⟩ := hrel
                clear F203
                obtain ⟨w206, rfl⟩ : ∃ x_ : World, x_ = wr := ⟨_, rfl⟩
                go_wp2_with fail
                refine wp_cutK 135 (fun t wr => ∃ (g15_22 : Nat) (tay102_2 : Option Addr) (tcy102_2 : Nat) (tmy102_2 : Option Addr) (tny102_2 : Nat) (tly102_2 : Nat) (thy102_2 : Nat), t 12 = .slice (some ⟨yg3, 0, none⟩) 3 3 ∧ t 13 = .slice (some ⟨yg7, 0, none⟩) 3 3 ∧ t 14 = .int .i64 2 ∧ t 15 = .pointer (some ⟨w186.heap.size, 0, none⟩) ∧ t 16 = .pointer (some ⟨w191.heap.size, 0, none⟩) ∧ t 17 = .int .i64 (checkE bb) ∧ t 18 = .pointer (some ⟨w197.heap.size, 0, none⟩) ∧ t 19 = .int .i64 (checkE bb) ∧ t 20 = .pointer (some ⟨g14_20, 0, none⟩) ∧ t 21 = .int .i64 (postX bb m) ∧ t 22 = .pointer (some ⟨g15_22, 0, none⟩) ∧ t 23 = .int .i64 (postX bb m) ∧ w206.heap.size ≤ wr.heap.size ∧ (thy102_2 ≤ wr.heap.size) ∧ Bun w [rbox g15_22 25 #[.slice tay102_2 ((postR bb m).accs.length) tcy102_2, .slice tmy102_2 ((postR bb m).mvs.length) tny102_2], rbox g14_20 25 #[.slice tax90_2 ((postR bb m).accs.length) tcx90_2, .slice tmx90_2 ((postR bb m).mvs.length) tnx90_2], rbox w197.heap.size 25 #[.slice tac81_2 ((refR bb).accs.length) tcc81_2, .slice tmc81_2 ((refR bb).mvs.length) tnc81_2], rbook tlc81_2 thc81_2 (.slice tac81_2 ((refR bb).accs.length) tcc81_2) (.slice tmc81_2 ((refR bb).mvs.length) tnc81_2) (refR bb), rbox w191.heap.size 25 #[.slice taa73_2 ((refR bb).accs.length) tca73_2, .slice tma73_2 ((refR bb).mvs.length) tna73_2], rbook tla73_2 tha73_2 (.slice taa73_2 ((refR bb).accs.length) tca73_2) (.slice tma73_2 ((refR bb).mvs.length) tna73_2) (refR bb), rbox w186.heap.size 25 #[.slice ba182 bb.accs.length bc182, .slice bm182 bb.mvs.length bn182], rbook bl182 bh182 (.slice ba182 bb.accs.length bc182) (.slice bm182 bb.mvs.length bn182) bb, rbox yg7 76 #[.int .i64 m.fr, .int .i64 m.to, .int .i64 m.li.lo, .int .i64 m.li.hi, .int .i64 r44, .int .i64 r52, .int .i64 lo58, .int .i64 hi59, .int .i64 m.fr, .int .i64 m.to, .int .i64 m.li.lo, .int .i64 m.li.hi], rbox yg3 25 #[.slice aa b.accs.length ak, .slice ma b.mvs.length mk, .slice pa34 bb.accs.length pc35, .slice pa36 bb.mvs.length pc37, .slice pa34 bb.accs.length pc35, .slice pa36 bb.mvs.length pc37], rown accEnc 79 6 w28.heap.size (.slice pa34 bb.accs.length pc35) bb.accs, rown mvEnc 76 4 w28.heap.size (.slice pa36 bb.mvs.length pc37) bb.mvs, rsl mvEnc 4 0 w.heap.size (.slice ma b.mvs.length mk) b.mvs, rsl accEnc 6 0 w.heap.size (.slice aa b.accs.length ak) b.accs, rbook tlx90_2 thx90_2 (.slice tax90_2 ((postR bb m).accs.length) tcx90_2) (.slice tmx90_2 ((postR bb m).mvs.length) tnx90_2) (postR bb m), rbook tly102_2 thy102_2 (.slice tay102_2 ((postR bb m).accs.length) tcy102_2) (.slice tmy102_2 ((postR bb m).mvs.length) tny102_2) (postR bb m)] wr) ?first6 ?rest6
                case rest6 =>
                  rintro t wr ⟨g15_22, tay102_2, tcy102_2, tmy102_2, tny102_2, tly102_2, thy102_2, e12, e13, e14, e15, e16, e17, e18, e19, e20, e21, e22, e23, hrel⟩
                  have e : ((List.range 135).map t).toArray = #[t 0, t 1, t 2, t 3, t 4, t 5, t 6, t 7, t 8, t 9, t 10, t 11, t 12, t 13, t 14, t 15, t 16, t 17, t 18, t 19, t 20, t 21, t 22, t 23, t 24, t 25, t 26, t 27, t 28, t 29, t 30, t 31, t 32, t 33, t 34, t 35, t 36, t 37, t 38, t 39, t 40, t 41, t 42, t 43, t 44, t 45, t 46, t 47, t 48, t 49, t 50, t 51, t 52, t 53, t 54, t 55, t 56, t 57, t 58, t 59, t 60, t 61, t 62, t 63, t 64, t 65, t 66, t 67, t 68, t 69, t 70, t 71, t 72, t 73, t 74, t 75, t 76, t 77, t 78, t 79, t 80, t 81, t 82, t 83, t 84, t 85, t 86, t 87, t 88, t 89, t 90, t 91, t 92, t 93, t 94, t 95, t 96, t 97, t 98, t 99, t 100, t 101, t 102, t 103, t 104, t 105, t 106, t 107, t 108, t 109, t 110, t 111, t 112, t 113, t 114, t 115, t 116, t 117, t 118, t 119, t 120, t 121, t 122, t 123, t 124, t 125, t 126, t 127, t 128, t 129, t 130, t 131, t 132, t 133, t 134] := rfl
                  (try dsimp only at e)
                  rw [e12, e13, e14, e15, e16, e17, e18, e19, e20, e21, e22, e23] at e
                  rw [e]
                  clear e e12 e13 e14 e15 e16 e17 e18 e19 e20 e21 e22 e23
                  obtain ⟨hs208, tyy102_2, hF207⟩ := hrel
                  clear hF204
                  obtain ⟨w209, rfl⟩ : ∃ x_ : World, x_ = wr := ⟨_, rfl⟩
                  go_wp2_with fail
                  have F210 := hF207.drew
                  clear hF207
                  refine ru_begin (fun W => W.cell? ⟨w191.heap.size, 0, none⟩ = some (.slice taa73_2 ((refR bb).accs.length) tca73_2) ∧ W.cell? ⟨w191.heap.size, 1, none⟩ = some (.slice tma73_2 ((refR bb).mvs.length) tna73_2) ∧ W.cell? ⟨w197.heap.size, 0, none⟩ = some (.slice tac81_2 ((refR bb).accs.length) tcc81_2) ∧ W.cell? ⟨w197.heap.size, 1, none⟩ = some (.slice tmc81_2 ((refR bb).mvs.length) tnc81_2) ∧ W.cell? ⟨g14_20, 0, none⟩ = some (.slice tax90_2 ((postR bb m).accs.length) tcx90_2) ∧ W.cell? ⟨g14_20, 1, none⟩ = some (.slice tmx90_2 ((postR bb m).mvs.length) tnx90_2) ∧ W.cell? ⟨g15_22, 0, none⟩ = some (.slice tay102_2 ((postR bb m).accs.length) tcy102_2) ∧ W.cell? ⟨g15_22, 1, none⟩ = some (.slice tmy102_2 ((postR bb m).mvs.length) tny102_2) ∧ W.cell? ⟨w186.heap.size, 0, none⟩ = some (.slice ba182 bb.accs.length bc182) ∧ W.cell? ⟨w186.heap.size, 1, none⟩ = some (.slice bm182 bb.mvs.length bn182) ∧ W.cell? ⟨yg3, 4, none⟩ = some (.slice pa34 bb.accs.length pc35) ∧ W.cell? ⟨yg3, 5, none⟩ = some (.slice pa36 bb.mvs.length pc37)) 28 (by kernel_rfl) ?_ ?_
                  · exact ⟨F210.cl 4 0 rfl rfl, F210.cl 4 1 rfl rfl, F210.cl 2 0 rfl rfl, F210.cl 2 1 rfl rfl, F210.cl 1 0 rfl rfl, F210.cl 1 1 rfl rfl, F210.cl 0 0 rfl rfl, F210.cl 0 1 rfl rfl, F210.cl 6 0 rfl rfl, F210.cl 6 1 rfl rfl, F210.cl 9 4 rfl rfl, F210.cl 9 5 rfl rfl⟩
                  obtain ⟨wd212, hwd_⟩ : ∃ x : World, w209.drew = x := ⟨_, rfl⟩
                  rw [hwd_] at F210 ⊢
                  have wd212s : w209.heap.size ≤ wd212.heap.size := by rw [← hwd_]; exact Nat.le_refl _
                  clear hwd_
                  have hS211 := (And.intro (F210.cl 4 0 rfl rfl) (And.intro (F210.cl 4 1 rfl rfl) (And.intro (F210.cl 2 0 rfl rfl) (And.intro (F210.cl 2 1 rfl rfl) (And.intro (F210.cl 1 0 rfl rfl) (And.intro (F210.cl 1 1 rfl rfl) (And.intro (F210.cl 0 0 rfl rfl) (And.intro (F210.cl 0 1 rfl rfl) (And.intro (F210.cl 6 0 rfl rfl) (And.intro (F210.cl 6 1 rfl rfl) (And.intro (F210.cl 9 4 rfl rfl) (F210.cl 9 5 rfl rfl))))))))))))
                  refine ru_t 0 [20, 17, 14, 11, 8, 3, 2] ?_
                  refine ru_t 1 [20, 17, 14, 11, 8, 3, 2] ?_
                  refine ru_t 2 [20, 17, 14, 11, 8, 3] ?_
                  refine ru_t 3 [20, 17, 14, 11, 8] ?_
                  refine ru_t 4 [20, 17, 14, 11, 8, 7, 6] ?_
                  refine ru_t 5 [20, 17, 14, 11, 8, 7, 6] ?_
                  refine ru_t 6 [20, 17, 14, 11, 8, 7] ?_
                  refine ru_t 7 [20, 17, 14, 11, 8] ?_
                  refine ru_t 8 [20, 17, 14, 11] ?_
                  refine ru_t 9 [20, 17, 14, 11] ?_
                  refine ru_t 10 [20, 17, 14, 11] ?_
                  (try simp only [Act.put, List.setIfInBounds_toArray, List.set_cons_zero, List.set_cons_succ])
                  clear hS211
                  refine ru_one 11 rfl (by kernel_rfl) (fun K hK => ?_)
                  go_simp
                  refine (sameBooks2 _ _ _ _ _ _ (refR bb) _ ((F210.at 5 rfl : HasB tla73_2 tha73_2 _ (.slice taa73_2 ((refR bb).accs.length) tca73_2) (.slice tma73_2 ((refR bb).mvs.length) tna73_2) (refR bb))).1 ((F210.at 5 rfl : HasB tla73_2 tha73_2 _ (.slice taa73_2 ((refR bb).accs.length) tca73_2) (.slice tma73_2 ((refR bb).mvs.length) tna73_2) (refR bb))).2 (by first | omega | (simp; omega)) (by first | omega | (simp; omega)) _ _ _ _ _ _ ((F210.at 3 rfl : HasB tlc81_2 thc81_2 _ (.slice tac81_2 ((refR bb).accs.length) tcc81_2) (.slice tmc81_2 ((refR bb).mvs.length) tnc81_2) (refR bb))).1 ((F210.at 3 rfl : HasB tlc81_2 thc81_2 _ (.slice tac81_2 ((refR bb).accs.length) tcc81_2) (.slice tmc81_2 ((refR bb).mvs.length) tnc81_2) (refR bb))).2 (by first | omega | (simp; omega)) (by first | omega | (simp; omega))).mono ?_
                  rintro e w215 ⟨rfl, hg213⟩
                  have hg213s := hg213.size
                  (try simp at hg213s)
                  have F216 := F210.gn hg213
                  clear F210
                  refine ru_back hK (by exact ⟨F216.cl 4 0 rfl rfl, F216.cl 4 1 rfl rfl, F216.cl 2 0 rfl rfl, F216.cl 2 1 rfl rfl, F216.cl 1 0 rfl rfl, F216.cl 1 1 rfl rfl, F216.cl 0 0 rfl rfl, F216.cl 0 1 rfl rfl, F216.cl 6 0 rfl rfl, F216.cl 6 1 rfl rfl, F216.cl 9 4 rfl rfl, F216.cl 9 5 rfl rfl⟩) (fun hHeld => ?_)
                  clear hK K
                  (try simp only [Act.put, List.setIfInBounds_toArray, List.set_cons_zero, List.set_cons_succ])
                  refine ru_p 12 ?_
                  (try simp only [Act.put, List.setIfInBounds_toArray, List.set_cons_zero, List.set_cons_succ])
                  refine ru_p 13 ?_
                  (try simp only [Act.put, List.setIfInBounds_toArray, List.set_cons_zero, List.set_cons_succ])
                  refine ru_p 14 ?_
                  (try simp only [Act.put, List.setIfInBounds_toArray, List.set_cons_zero, List.set_cons_succ])
                  refine ru_t 15 [20, 17] ?_
                  refine ru_t 16 [20, 17] ?_
                  (try simp only [Act.put, List.setIfInBounds_toArray, List.set_cons_zero, List.set_cons_succ])
                  refine ru_one 17 rfl (by kernel_rfl) (fun K hK => ?_)
                  go_simp
                  refine (sameBooks2 _ _ _ _ _ _ (postR bb m) _ ((F216.at 14 rfl : HasB tlx90_2 thx90_2 _ (.slice tax90_2 ((postR bb m).accs.length) tcx90_2) (.slice tmx90_2 ((postR bb m).mvs.length) tnx90_2) (postR bb m))).1 ((F216.at 14 rfl : HasB tlx90_2 thx90_2 _ (.slice tax90_2 ((postR bb m).accs.length) tcx90_2) (.slice tmx90_2 ((postR bb m).mvs.length) tnx90_2) (postR bb m))).2 (by first | omega | (simp; omega)) (by first | omega | (simp; omega)) _ _ _ _ _ _ ((F216.at 15 rfl : HasB tly102_2 thy102_2 _ (.slice tay102_2 ((postR bb m).accs.length) tcy102_2) (.slice tmy102_2 ((postR bb m).mvs.length) tny102_2) (postR bb m))).1 ((F216.at 15 rfl : HasB tly102_2 thy102_2 _ (.slice tay102_2 ((postR bb m).accs.length) tcy102_2) (.slice tmy102_2 ((postR bb m).mvs.length) tny102_2) (postR bb m))).2 (by first | omega | (simp; omega)) (by first | omega | (simp; omega))).mono ?_
                  rintro e w219 ⟨rfl, hg217⟩
                  have hg217s := hg217.size
                  (try simp at hg217s)
                  have F220 := F216.gn hg217
                  clear F216
                  refine ru_back hK (by exact ⟨F220.cl 4 0 rfl rfl, F220.cl 4 1 rfl rfl, F220.cl 2 0 rfl rfl, F220.cl 2 1 rfl rfl, F220.cl 1 0 rfl rfl, F220.cl 1 1 rfl rfl, F220.cl 0 0 rfl rfl, F220.cl 0 1 rfl rfl, F220.cl 6 0 rfl rfl, F220.cl 6 1 rfl rfl, F220.cl 9 4 rfl rfl, F220.cl 9 5 rfl rfl⟩) (fun hHeld => ?_)
                  clear hK K
                  (try simp only [Act.put, List.setIfInBounds_toArray, List.set_cons_zero, List.set_cons_succ])
                  refine ru_p 18 ?_
                  (try simp only [Act.put, List.setIfInBounds_toArray, List.set_cons_zero, List.set_cons_succ])
                  refine ru_p 19 ?_
                  (try simp only [Act.put, List.setIfInBounds_toArray, List.set_cons_zero, List.set_cons_succ])
                  refine ru_p 20 ?_
                  (try simp only [Act.put, List.setIfInBounds_toArray, List.set_cons_zero, List.set_cons_succ])
                  refine ru_p 22 ?_
                  refine ru_p 23 ?_
                  (try simp only [Act.put, List.setIfInBounds_toArray, List.set_cons_zero, List.set_cons_succ])
                  refine ru_p 24 ?_
                  (try simp only [Act.put, List.setIfInBounds_toArray, List.set_cons_zero, List.set_cons_succ])
                  refine ru_t 21 [27, 26] ?_
                  refine ru_t 25 [27, 26] ?_
                  (try simp only [Act.put, List.setIfInBounds_toArray, List.set_cons_zero, List.set_cons_succ])
                  refine ru_one 26 rfl (by kernel_rfl) (fun K hK => ?_)
                  go_simp
                  refine (sameBooks2 _ _ _ _ _ _ bb _ ((F220.at 7 rfl : HasB bl182 bh182 _ (.slice ba182 bb.accs.length bc182) (.slice bm182 bb.mvs.length bn182) bb)).1 ((F220.at 7 rfl : HasB bl182 bh182 _ (.slice ba182 bb.accs.length bc182) (.slice bm182 bb.mvs.length bn182) bb)).2 (by first | omega | (simp; omega)) (by first | omega | (simp; omega)) _ _ _ _ _ _ (Own.sl (F220.at 10 rfl : Own accEnc 79 6 w28.heap.size _ (.slice pa34 bb.accs.length pc35) bb.accs) (fun _ => rfl)) (Own.sl (F220.at 11 rfl : Own mvEnc 76 4 w28.heap.size _ (.slice pa36 bb.mvs.length pc37) bb.mvs) (fun _ => rfl)) (Nat.le_refl _) (Nat.le_refl _)).mono ?_
                  rintro e w223 ⟨rfl, hg221⟩
                  have hg221s := hg221.size
                  (try simp at hg221s)
                  have F224 := F220.gn hg221
                  clear F220
                  refine ru_back hK (by exact ⟨F224.cl 4 0 rfl rfl, F224.cl 4 1 rfl rfl, F224.cl 2 0 rfl rfl, F224.cl 2 1 rfl rfl, F224.cl 1 0 rfl rfl, F224.cl 1 1 rfl rfl, F224.cl 0 0 rfl rfl, F224.cl 0 1 rfl rfl, F224.cl 6 0 rfl rfl, F224.cl 6 1 rfl rfl, F224.cl 9 4 rfl rfl, F224.cl 9 5 rfl rfl⟩) (fun hHeld => ?_)
                  clear hK K
                  (try simp only [Act.put, List.setIfInBounds_toArray, List.set_cons_zero, List.set_cons_succ])
                  refine ru_p 27 ?_
                  (try simp only [Act.put, List.setIfInBounds_toArray, List.set_cons_zero, List.set_cons_succ])
                  refine ru_one 28 rfl (by kernel_rfl) (fun K hK => ?_)
                  go_simp
                  refine ru_back_late hK (by kernel_rfl) ?_
                  clear hK K
                  (try simp only [Act.put, List.setIfInBounds_toArray, List.set_cons_zero, List.set_cons_succ])
                  refine ru_done (by kernel_rfl) ?_
                  have Fn_ := (((((F224.drop 0 rfl).drop 0 rfl).drop 0 rfl).drop 1 rfl).drop 2 rfl)
                  (try dsimp only [List.eraseIdx_cons_succ, List.eraseIdx_cons_zero] at Fn_)
                  obtain ⟨w225, hx226, F228, hxs227⟩ := Fn_.name
                  (try simp at hxs227)
                  rw [hx226]
                  clear hx226 F224 Fn_
                  go_wp2_with fail
                  rw [rounds_succ]
                  have Fn_ := (((((F228.drop 0 rfl).drop 0 rfl).drop 0 rfl).drop 6 rfl).drop 6 rfl)
                  (try dsimp only [List.eraseIdx_cons_succ, List.eraseIdx_cons_zero] at Fn_)
                  obtain ⟨w229, hx230, F232, hxs231⟩ := Fn_.name
                  (try simp at hxs231)
                  rw [hx230]
                  clear hx230 F228 Fn_
                  go_wp2_with fail
                  refine (awake_c _).mono ?_
                  rintro e w235 ⟨rfl, hg233⟩
                  have hg233s := hg233.size
                  (try simp at hg233s)
                  have F236 := F232.gn hg233
                  clear F232
                  clear hg233
                  go_wp2_with fail
                  go_ret
                  exact ⟨rfl, F236.gb⟩
                case first6 =>
                  have F237 := hF204.drew
                  clear hF204
                  refine ru_begin (fun W => W.cell? ⟨yg3, 4, none⟩ = some (.slice pa34 bb.accs.length pc35) ∧ W.cell? ⟨yg3, 5, none⟩ = some (.slice pa36 bb.mvs.length pc37) ∧ W.cell? ⟨yg7, 8, none⟩ = some (.int .i64 m.fr) ∧ W.cell? ⟨yg7, 9, none⟩ = some (.int .i64 m.to) ∧ W.cell? ⟨yg7, 10, none⟩ = some (.int .i64 m.li.lo) ∧ W.cell? ⟨yg7, 11, none⟩ = some (.int .i64 m.li.hi)) 13 (by kernel_rfl) ?_ ?_
                  · exact ⟨F237.cl 8 4 rfl rfl, F237.cl 8 5 rfl rfl, F237.cl 7 8 rfl rfl, F237.cl 7 9 rfl rfl, F237.cl 7 10 rfl rfl, F237.cl 7 11 rfl rfl⟩
                  obtain ⟨wd239, hwd_⟩ : ∃ x : World, w206.drew = x := ⟨_, rfl⟩
                  rw [hwd_] at F237 ⊢
                  have wd239s : w206.heap.size ≤ wd239.heap.size := by rw [← hwd_]; exact Nat.le_refl _
                  clear hwd_
                  have hS238 := (And.intro (F237.cl 8 4 rfl rfl) (And.intro (F237.cl 8 5 rfl rfl) (And.intro (F237.cl 7 8 rfl rfl) (And.intro (F237.cl 7 9 rfl rfl) (And.intro (F237.cl 7 10 rfl rfl) (F237.cl 7 11 rfl rfl))))))
                  refine ru_t 0 [] ?_
                  refine ru_t 1 [] ?_
                  refine ru_t 2 [] ?_
                  refine ru_t 3 [] ?_
                  refine ru_t 4 [] ?_
                  refine ru_t 5 [] ?_
                  refine ru_t 6 [] ?_
                  refine ru_t 7 [] ?_
                  (try simp only [Act.put, List.setIfInBounds_toArray, List.set_cons_zero, List.set_cons_succ])
                  clear hS238
                  refine ru_two 8 12 rfl rfl (by kernel_rfl) ?_ ?_
                  · intro K hK
                    go_simp
                    refine (rpost_t _ _ _ _ _ _ bb _ (Own.sl (F237.at 9 rfl : Own accEnc 79 6 w28.heap.size _ (.slice pa34 bb.accs.length pc35) bb.accs) (fun _ => rfl)) (Own.sl (F237.at 10 rfl : Own mvEnc 76 4 w28.heap.size _ (.slice pa36 bb.mvs.length pc37) bb.mvs) (fun _ => rfl)) (Nat.le_refl _) (Nat.le_refl _) HNB.out m (by omega) (by omega)).mono ?_
                    rintro e w242 ⟨tay102_2, tcy102_2, tmy102_2, tny102_2, tly102_2, thy102_2, rfl, ⟨txy102_2, tyy102_2⟩, tzy102_2, hg240⟩
                    have hg240s := hg240.size
                    (try simp at hg240s)
                    have F243 := F237.add (rbook tly102_2 thy102_2 (.slice tay102_2 ((postR bb m).accs.length) tcy102_2) (.slice tmy102_2 ((postR bb m).mvs.length) tny102_2) (postR bb m)) hg240 (tzy102_2) (fun g e => ⟨Nat.le_trans txy102_2 e.1, Nat.lt_of_lt_of_le e.2 tyy102_2⟩)
                    clear F237
                    refine ru_back hK (by exact ⟨F243.cl 9 4 rfl rfl, F243.cl 9 5 rfl rfl, F243.cl 8 8 rfl rfl, F243.cl 8 9 rfl rfl, F243.cl 8 10 rfl rfl, F243.cl 8 11 rfl rfl⟩) (fun hHeld => ?_)
                    clear hK K
                    (try simp only [Act.put, List.setIfInBounds_toArray, List.set_cons_zero, List.set_cons_succ])
                    refine ru_p 9 ?_
                    (try simp only [Act.put, List.setIfInBounds_toArray, List.set_cons_zero, List.set_cons_succ])
                    refine ru_p 10 ?_
                    refine ru_p 11 ?_
                    (try simp only [Act.put, List.setIfInBounds_toArray, List.set_cons_zero, List.set_cons_succ])
                    refine ru_one 12 rfl (by kernel_rfl) (fun K hK => ?_)
                    go_simp
                    have F244 := F243.new 25 #[.slice none 0 0, .slice none 0 0] (n := w242.heap.size) (by simp)
                    clear F243
                    refine ru_back hK (by exact ⟨F244.cl 10 4 rfl rfl, F244.cl 10 5 rfl rfl, F244.cl 9 8 rfl rfl, F244.cl 9 9 rfl rfl, F244.cl 9 10 rfl rfl, F244.cl 9 11 rfl rfl⟩) (fun hHeld => ?_)
                    clear hK K
                    (try simp only [Act.put, List.setIfInBounds_toArray, List.set_cons_zero, List.set_cons_succ])
                    refine ru_one 13 rfl (by kernel_rfl) (fun K hK => ?_)
                    have Fn_ := F244
                    (try dsimp only [List.eraseIdx_cons_succ, List.eraseIdx_cons_zero] at Fn_)
                    obtain ⟨w245, hx246, F248, hxs247⟩ := Fn_.name
                    (try simp at hxs247)
                    rw [hx246]
                    clear hx246 F244 Fn_
                    have kb_ := F248.bx2 0 rfl
                    go_simp
                    clear kb_
                    have F249 := F248.pt2 (.slice tay102_2 ((postR bb m).accs.length) tcy102_2) (.slice tmy102_2 ((postR bb m).mvs.length) tny102_2)
                    clear F248
                    refine ru_back_late hK (by kernel_rfl) ?_
                    clear hK K
                    (try simp only [Act.put, List.setIfInBounds_toArray, List.set_cons_zero, List.set_cons_succ])
                    refine ru_one 14 rfl (by kernel_rfl) (fun K hK => ?_)
                    go_simp
                    refine ru_back_late hK (by kernel_rfl) ?_
                    clear hK K
                    (try simp only [Act.put, List.setIfInBounds_toArray, List.set_cons_zero, List.set_cons_succ])
                    refine ru_done (by kernel_rfl) ?_
                    exact ⟨(by first | kernel_rfl | rfl), rfl, w242.heap.size, tay102_2, tcy102_2, tmy102_2, tny102_2, tly102_2, thy102_2, (by first | kernel_rfl | rfl), (by first | kernel_rfl | rfl), (by first | kernel_rfl | rfl), (by first | kernel_rfl | rfl), (by first | kernel_rfl | rfl), (by first | kernel_rfl | rfl), (by first | kernel_rfl | rfl), (by first | kernel_rfl | rfl), (by first | kernel_rfl | rfl), (by first | kernel_rfl | rfl), (by first | kernel_rfl | rfl), (by first | kernel_rfl | rfl), (by first | omega | (simp; done) | (simp; omega)), (by first | omega | (simp; omega)), (F249.pick [0, 2, 3, 4, 5, 6, 7, 8, 9, 10, 11, 12, 13, 14, 15, 1] (by decide) rfl)⟩
                  · intro K hK
                    go_simp
                    have F250 := F237.new 25 #[.slice none 0 0, .slice none 0 0] (n := wd239.heap.size) (by simp)
                    clear F237
                    refine ru_back hK (by exact ⟨F250.cl 9 4 rfl rfl, F250.cl 9 5 rfl rfl, F250.cl 8 8 rfl rfl, F250.cl 8 9 rfl rfl, F250.cl 8 10 rfl rfl, F250.cl 8 11 rfl rfl⟩) (fun hHeld => ?_)
                    clear hK K
                    (try simp only [Act.put, List.setIfInBounds_toArray, List.set_cons_zero, List.set_cons_succ])
                    refine ru_one 8 rfl (by kernel_rfl) (fun K hK => ?_)
                    go_simp
                    refine (rpost_t _ _ _ _ _ _ bb _ (Own.sl (F250.at 10 rfl : Own accEnc 79 6 w28.heap.size _ (.slice pa34 bb.accs.length pc35) bb.accs) (fun _ => rfl)) (Own.sl (F250.at 11 rfl : Own mvEnc 76 4 w28.heap.size _ (.slice pa36 bb.mvs.length pc37) bb.mvs) (fun _ => rfl)) (Nat.le_refl _) (Nat.le_refl _) HNB.out m (by omega) (by omega)).mono ?_
                    rintro e w253 ⟨tay102_2, tcy102_2, tmy102_2, tny102_2, tly102_2, thy102_2, rfl, ⟨txy102_2, tyy102_2⟩, tzy102_2, hg251⟩
                    have hg251s := hg251.size
                    (try simp at hg251s)
                    have F254 := F250.add (rbook tly102_2 thy102_2 (.slice tay102_2 ((postR bb m).accs.length) tcy102_2) (.slice tmy102_2 ((postR bb m).mvs.length) tny102_2) (postR bb m)) hg251 (tzy102_2) (fun g e => ⟨Nat.le_trans txy102_2 e.1, Nat.lt_of_lt_of_le e.2 tyy102_2⟩)
                    clear F250
                    refine ru_back hK (by exact ⟨F254.cl 10 4 rfl rfl, F254.cl 10 5 rfl rfl, F254.cl 9 8 rfl rfl, F254.cl 9 9 rfl rfl, F254.cl 9 10 rfl rfl, F254.cl 9 11 rfl rfl⟩) (fun hHeld => ?_)
                    clear hK K
                    (try simp only [Act.put, List.setIfInBounds_toArray, List.set_cons_zero, List.set_cons_succ])
                    refine ru_p 9 ?_
                    (try simp only [Act.put, List.setIfInBounds_toArray, List.set_cons_zero, List.set_cons_succ])
                    refine ru_p 10 ?_
                    refine ru_p 11 ?_
                    (try simp only [Act.put, List.setIfInBounds_toArray, List.set_cons_zero, List.set_cons_succ])
                    refine ru_one 13 rfl (by kernel_rfl) (fun K hK => ?_)
                    have kb_ := F254.bx2 1 rfl
                    go_simp
                    clear kb_
                    have F255 := (F254.front 1 rfl rfl).pt2 (.slice tay102_2 ((postR bb m).accs.length) tcy102_2) (.slice tmy102_2 ((postR bb m).mvs.length) tny102_2)
                    clear F254
                    refine ru_back_late hK (by kernel_rfl) ?_
                    clear hK K
                    (try simp only [Act.put, List.setIfInBounds_toArray, List.set_cons_zero, List.set_cons_succ])
                    refine ru_one 14 rfl (by kernel_rfl) (fun K hK => ?_)
                    go_simp
                    refine ru_back_late hK (by kernel_rfl) ?_
                    clear hK K
                    (try simp only [Act.put, List.setIfInBounds_toArray, List.set_cons_zero, List.set_cons_succ])
                    refine ru_done (by kernel_rfl) ?_
                    exact ⟨(by first | kernel_rfl | rfl), rfl, wd239.heap.size, tay102_2, tcy102_2, tmy102_2, tny102_2, tly102_2, thy102_2, (by first | kernel_rfl | rfl), (by first | kernel_rfl | rfl), (by first | kernel_rfl | rfl), (by first | kernel_rfl | rfl), (by first | kernel_rfl | rfl), (by first | kernel_rfl | rfl), (by first | kernel_rfl | rfl), (by first | kernel_rfl | rfl), (by first | kernel_rfl | rfl), (by first | kernel_rfl | rfl), (by first | kernel_rfl | rfl), (by first | kernel_rfl | rfl), (by first | omega | (simp; done) | (simp; omega)), (by first | omega | (simp; omega)), (F255.pick [0, 2, 3, 4, 5, 6, 7, 8, 9, 10, 11, 12, 13, 14, 15, 1] (by decide) rfl)⟩
              case first5 =>
                have F256 := F203.drew
                clear F203
                refine ru_begin (fun W => W.cell? ⟨w186.heap.size, 0, none⟩ = some (.slice ba182 bb.accs.length bc182) ∧ W.cell? ⟨w186.heap.size, 1, none⟩ = some (.slice bm182 bb.mvs.length bn182) ∧ W.cell? ⟨yg7, 8, none⟩ = some (.int .i64 m.fr) ∧ W.cell? ⟨yg7, 9, none⟩ = some (.int .i64 m.to) ∧ W.cell? ⟨yg7, 10, none⟩ = some (.int .i64 m.li.lo) ∧ W.cell? ⟨yg7, 11, none⟩ = some (.int .i64 m.li.hi)) 10 (by kernel_rfl) ?_ ?_
                · exact ⟨F256.cl 4 0 rfl rfl, F256.cl 4 1 rfl rfl, F256.cl 6 8 rfl rfl, F256.cl 6 9 rfl rfl, F256.cl 6 10 rfl rfl, F256.cl 6 11 rfl rfl⟩
                obtain ⟨wd258, hwd_⟩ : ∃ x : World, w200.drew = x := ⟨_, rfl⟩
                rw [hwd_] at F256 ⊢
                have wd258s : w200.heap.size ≤ wd258.heap.size := by rw [← hwd_]; exact Nat.le_refl _
                clear hwd_
                have hS257 := (And.intro (F256.cl 4 0 rfl rfl) (And.intro (F256.cl 4 1 rfl rfl) (And.intro (F256.cl 6 8 rfl rfl) (And.intro (F256.cl 6 9 rfl rfl) (And.intro (F256.cl 6 10 rfl rfl) (F256.cl 6 11 rfl rfl))))))
                refine ru_t 0 [] ?_
                refine ru_t 1 [] ?_
                refine ru_t 2 [] ?_
                refine ru_t 3 [] ?_
                refine ru_t 4 [] ?_
                (try simp only [Act.put, List.setIfInBounds_toArray, List.set_cons_zero, List.set_cons_succ])
                clear hS257
                refine ru_two 5 9 rfl rfl (by kernel_rfl) ?_ ?_
                · intro K hK
                  go_simp
                  refine (fpost_t _ _ _ _ _ _ bb _ ((F256.at 5 rfl : HasB bl182 bh182 _ (.slice ba182 bb.accs.length bc182) (.slice bm182 bb.mvs.length bn182) bb)).1 ((F256.at 5 rfl : HasB bl182 bh182 _ (.slice ba182 bb.accs.length bc182) (.slice bm182 bb.mvs.length bn182) bb)).2 (by first | omega | (simp; omega)) (by first | omega | (simp; omega)) HNB.out m (by omega) (by omega)).mono ?_
                  rintro e w261 ⟨tax90_2, tcx90_2, tmx90_2, tnx90_2, tlx90_2, thx90_2, rfl, ⟨txx90_2, tyx90_2⟩, tzx90_2, hg259⟩
                  have hg259s := hg259.size
                  (try simp at hg259s)
                  have F262 := F256.add (rbook tlx90_2 thx90_2 (.slice tax90_2 ((postR bb m).accs.length) tcx90_2) (.slice tmx90_2 ((postR bb m).mvs.length) tnx90_2) (postR bb m)) hg259 (tzx90_2) (fun g e => ⟨Nat.le_trans txx90_2 e.1, Nat.lt_of_lt_of_le e.2 tyx90_2⟩)
                  clear F256
                  refine ru_back hK (by exact ⟨F262.cl 5 0 rfl rfl, F262.cl 5 1 rfl rfl, F262.cl 7 8 rfl rfl, F262.cl 7 9 rfl rfl, F262.cl 7 10 rfl rfl, F262.cl 7 11 rfl rfl⟩) (fun hHeld => ?_)
                  clear hK K
                  (try simp only [Act.put, List.setIfInBounds_toArray, List.set_cons_zero, List.set_cons_succ])
                  refine ru_p 6 ?_
                  (try simp only [Act.put, List.setIfInBounds_toArray, List.set_cons_zero, List.set_cons_succ])
                  refine ru_p 7 ?_
                  refine ru_p 8 ?_
                  (try simp only [Act.put, List.setIfInBounds_toArray, List.set_cons_zero, List.set_cons_succ])
                  refine ru_one 9 rfl (by kernel_rfl) (fun K hK => ?_)
                  go_simp
                  have F263 := F262.new 25 #[.slice none 0 0, .slice none 0 0] (n := w261.heap.size) (by simp)
                  clear F262
                  refine ru_back hK (by exact ⟨F263.cl 6 0 rfl rfl, F263.cl 6 1 rfl rfl, F263.cl 8 8 rfl rfl, F263.cl 8 9 rfl rfl, F263.cl 8 10 rfl rfl, F263.cl 8 11 rfl rfl⟩) (fun hHeld => ?_)
                  clear hK K
                  (try simp only [Act.put, List.setIfInBounds_toArray, List.set_cons_zero, List.set_cons_succ])
                  refine ru_one 10 rfl (by kernel_rfl) (fun K hK => ?_)
                  have Fn_ := F263
                  (try dsimp only [List.eraseIdx_cons_succ, List.eraseIdx_cons_zero] at Fn_)
                  obtain ⟨w264, hx265, F267, hxs266⟩ := Fn_.name
                  (try simp at hxs266)
                  rw [hx265]
                  clear hx265 F263 Fn_
                  have kb_ := F267.bx2 0 rfl
                  go_simp
                  clear kb_
                  have F268 := F267.pt2 (.slice tax90_2 ((postR bb m).accs.length) tcx90_2) (.slice tmx90_2 ((postR bb m).mvs.length) tnx90_2)
                  clear F267
                  refine ru_back_late hK (by kernel_rfl) ?_
                  clear hK K
                  (try simp only [Act.put, List.setIfInBounds_toArray, List.set_cons_zero, List.set_cons_succ])
                  refine ru_one 11 rfl (by kernel_rfl) (fun K hK => ?_)
                  go_simp
                  refine ru_back_late hK (by kernel_rfl) ?_
                  clear hK K
                  (try simp only [Act.put, List.setIfInBounds_toArray, List.set_cons_zero, List.set_cons_succ])
                  refine ru_done (by kernel_rfl) ?_
                  exact ⟨(by first | kernel_rfl | rfl), rfl, w261.heap.size, tax90_2, tcx90_2, tmx90_2, tnx90_2, tlx90_2, thx90_2, (by first | kernel_rfl | rfl), (by first | kernel_rfl | rfl), (by first | kernel_rfl | rfl), (by first | kernel_rfl | rfl), (by first | kernel_rfl | rfl), (by first | kernel_rfl | rfl), (by first | kernel_rfl | rfl), (by first | kernel_rfl | rfl), (by first | kernel_rfl | rfl), (by first | kernel_rfl | rfl), (by first | omega | (simp; done) | (simp; omega)), (by first | omega | (simp; omega)), (F268.pick [0, 2, 3, 4, 5, 6, 7, 8, 9, 10, 11, 12, 13, 1] (by decide) rfl)⟩
                · intro K hK
                  go_simp
                  have F269 := F256.new 25 #[.slice none 0 0, .slice none 0 0] (n := wd258.heap.size) (by simp)
                  clear F256
                  refine ru_back hK (by exact ⟨F269.cl 5 0 rfl rfl, F269.cl 5 1 rfl rfl, F269.cl 7 8 rfl rfl, F269.cl 7 9 rfl rfl, F269.cl 7 10 rfl rfl, F269.cl 7 11 rfl rfl⟩) (fun hHeld => ?_)
                  clear hK K
                  (try simp only [Act.put, List.setIfInBounds_toArray, List.set_cons_zero, List.set_cons_succ])
                  refine ru_one 5 rfl (by kernel_rfl) (fun K hK => ?_)
                  go_simp
                  refine (fpost_t _ _ _ _ _ _ bb _ ((F269.at 6 rfl : HasB bl182 bh182 _ (.slice ba182 bb.accs.length bc182) (.slice bm182 bb.mvs.length bn182) bb)).1 ((F269.at 6 rfl : HasB bl182 bh182 _ (.slice ba182 bb.accs.length bc182) (.slice bm182 bb.mvs.length bn182) bb)).2 (by first | omega | (simp; omega)) (by first | omega | (simp; omega)) HNB.out m (by omega) (by omega)).mono ?_
                  rintro e w272 ⟨tax90_2, tcx90_2, tmx90_2, tnx90_2, tlx90_2, thx90_2, rfl, ⟨txx90_2, tyx90_2⟩, tzx90_2, hg270⟩
                  have hg270s := hg270.size
                  (try simp at hg270s)
                  have F273 := F269.add (rbook tlx90_2 thx90_2 (.slice tax90_2 ((postR bb m).accs.length) tcx90_2) (.slice tmx90_2 ((postR bb m).mvs.length) tnx90_2) (postR bb m)) hg270 (tzx90_2) (fun g e => ⟨Nat.le_trans txx90_2 e.1, Nat.lt_of_lt_of_le e.2 tyx90_2⟩)
                  clear F269
                  refine ru_back hK (by exact ⟨F273.cl 6 0 rfl rfl, F273.cl 6 1 rfl rfl, F273.cl 8 8 rfl rfl, F273.cl 8 9 rfl rfl, F273.cl 8 10 rfl rfl, F273.cl 8 11 rfl rfl⟩) (fun hHeld => ?_)
                  clear hK K
                  (try simp only [Act.put, List.setIfInBounds_toArray, List.set_cons_zero, List.set_cons_succ])
                  refine ru_p 6 ?_
                  (try simp only [Act.put, List.setIfInBounds_toArray, List.set_cons_zero, List.set_cons_succ])
                  refine ru_p 7 ?_
                  refine ru_p 8 ?_
                  (try simp only [Act.put, List.setIfInBounds_toArray, List.set_cons_zero, List.set_cons_succ])
                  refine ru_one 10 rfl (by kernel_rfl) (fun K hK => ?_)
                  have kb_ := F273.bx2 1 rfl
                  go_simp
                  clear kb_
                  have F274 := (F273.front 1 rfl rfl).pt2 (.slice tax90_2 ((postR bb m).accs.length) tcx90_2) (.slice tmx90_2 ((postR bb m).mvs.length) tnx90_2)
                  clear F273
                  refine ru_back_late hK (by kernel_rfl) ?_
                  clear hK K
                  (try simp only [Act.put, List.setIfInBounds_toArray, List.set_cons_zero, List.set_cons_succ])
                  refine ru_one 11 rfl (by kernel_rfl) (fun K hK => ?_)
                  go_simp
                  refine ru_back_late hK (by kernel_rfl) ?_
                  clear hK K
                  (try simp only [Act.put, List.setIfInBounds_toArray, List.set_cons_zero, List.set_cons_succ])
                  refine ru_done (by kernel_rfl) ?_
                  exact ⟨(by first | kernel_rfl | rfl), rfl, wd258.heap.size, tax90_2, tcx90_2, tmx90_2, tnx90_2, tlx90_2, thx90_2, (by first | kernel_rfl | rfl), (by first | kernel_rfl | rfl), (by first | kernel_rfl | rfl), (by first | kernel_rfl | rfl), (by first | kernel_rfl | rfl), (by first | kernel_rfl | rfl), (by first | kernel_rfl | rfl), (by first | kernel_rfl | rfl), (by first | kernel_rfl | rfl), (by first | kernel_rfl | rfl), (by first | omega | (simp; done) | (simp; omega)), (by first | omega | (simp; omega)), (F274.pick [0, 2, 3, 4, 5, 6, 7, 8, 9, 10, 11, 12, 13, 1] (by decide) rfl)⟩
            case first4 =>
              have F275 := hF153.drew
              clear hF153
              refine ru_begin (fun W => W.cell? ⟨yg3, 2, none⟩ = some (.slice pa34 bb.accs.length pc35) ∧ W.cell? ⟨yg3, 3, none⟩ = some (.slice pa36 bb.mvs.length pc37) ∧ W.cell? ⟨yg7, 4, none⟩ = some (.int .i64 r44) ∧ W.cell? ⟨yg7, 5, none⟩ = some (.int .i64 r52) ∧ W.cell? ⟨yg7, 6, none⟩ = some (.int .i64 lo58) ∧ W.cell? ⟨yg7, 7, none⟩ = some (.int .i64 hi59)) 13 (by kernel_rfl) ?_ ?_
              · exact ⟨F275.cl 8 2 rfl rfl, F275.cl 8 3 rfl rfl, F275.cl 7 4 rfl rfl, F275.cl 7 5 rfl rfl, F275.cl 7 6 rfl rfl, F275.cl 7 7 rfl rfl⟩
              obtain ⟨wd277, hwd_⟩ : ∃ x : World, w155.drew = x := ⟨_, rfl⟩
              rw [hwd_] at F275 ⊢
              have wd277s : w155.heap.size ≤ wd277.heap.size := by rw [← hwd_]; exact Nat.le_refl _
              clear hwd_
              have hS276 := (And.intro (F275.cl 8 2 rfl rfl) (And.intro (F275.cl 8 3 rfl rfl) (And.intro (F275.cl 7 4 rfl rfl) (And.intro (F275.cl 7 5 rfl rfl) (And.intro (F275.cl 7 6 rfl rfl) (F275.cl 7 7 rfl rfl))))))
              refine ru_t 0 [] ?_
              refine ru_t 1 [] ?_
              refine ru_t 2 [] ?_
              refine ru_t 3 [] ?_
              refine ru_t 4 [] ?_
              refine ru_t 5 [] ?_
              refine ru_t 6 [] ?_
              refine ru_t 7 [] ?_
              (try simp only [Act.put, List.setIfInBounds_toArray, List.set_cons_zero, List.set_cons_succ])
              clear hS276
              refine ru_two 8 12 rfl rfl (by kernel_rfl) ?_ ?_
              · intro K hK
                go_simp
                refine (rpost_t _ _ _ _ _ _ bb _ (Own.sl (F275.at 9 rfl : Own accEnc 79 6 w28.heap.size _ (.slice pa34 bb.accs.length pc35) bb.accs) (fun _ => rfl)) (Own.sl (F275.at 10 rfl : Own mvEnc 76 4 w28.heap.size _ (.slice pa36 bb.mvs.length pc37) bb.mvs) (fun _ => rfl)) (Nat.le_refl _) (Nat.le_refl _) HNB.out (⟨r44, r52, ⟨lo58, hi59⟩⟩ : Mv) (by omega) (by omega)).mono ?_
                rintro e w280 ⟨tay102_1, tcy102_1, tmy102_1, tny102_1, tly102_1, thy102_1, rfl, ⟨txy102_1, tyy102_1⟩, tzy102_1, hg278⟩
                have hg278s := hg278.size
                (try simp at hg278s)
                have F281 := F275.add (rbook tly102_1 thy102_1 (.slice tay102_1 ((postR bb (⟨r44, r52, ⟨lo58, hi59⟩⟩ : Mv)).accs.length) tcy102_1) (.slice tmy102_1 ((postR bb (⟨r44, r52, ⟨lo58, hi59⟩⟩ : Mv)).mvs.length) tny102_1) (postR bb (⟨r44, r52, ⟨lo58, hi59⟩⟩ : Mv))) hg278 (tzy102_1) (fun g e => ⟨Nat.le_trans txy102_1 e.1, Nat.lt_of_lt_of_le e.2 tyy102_1⟩)
                clear F275
                refine ru_back hK (by exact ⟨F281.cl 9 2 rfl rfl, F281.cl 9 3 rfl rfl, F281.cl 8 4 rfl rfl, F281.cl 8 5 rfl rfl, F281.cl 8 6 rfl rfl, F281.cl 8 7 rfl rfl⟩) (fun hHeld => ?_)
                clear hK K
                (try simp only [Act.put, List.setIfInBounds_toArray, List.set_cons_zero, List.set_cons_succ])
                refine ru_p 9 ?_
                (try simp only [Act.put, List.setIfInBounds_toArray, List.set_cons_zero, List.set_cons_succ])
                refine ru_p 10 ?_
                refine ru_p 11 ?_
                (try simp only [Act.put, List.setIfInBounds_toArray, List.set_cons_zero, List.set_cons_succ])
                refine ru_one 12 rfl (by kernel_rfl) (fun K hK => ?_)
                go_simp
                have F282 := F281.new 25 #[.slice none 0 0, .slice none 0 0] (n := w280.heap.size) (by simp)
                clear F281
                refine ru_back hK (by exact ⟨F282.cl 10 2 rfl rfl, F282.cl 10 3 rfl rfl, F282.cl 9 4 rfl rfl, F282.cl 9 5 rfl rfl, F282.cl 9 6 rfl rfl, F282.cl 9 7 rfl rfl⟩) (fun hHeld => ?_)
                clear hK K
                (try simp only [Act.put, List.setIfInBounds_toArray, List.set_cons_zero, List.set_cons_succ])
                refine ru_one 13 rfl (by kernel_rfl) (fun K hK => ?_)
                have Fn_ := F282
                (try dsimp only [List.eraseIdx_cons_succ, List.eraseIdx_cons_zero] at Fn_)
                obtain ⟨w283, hx284, F286, hxs285⟩ := Fn_.name
                (try simp at hxs285)
                rw [hx284]
                clear hx284 F282 Fn_
                have kb_ := F286.bx2 0 rfl
                go_simp
                clear kb_
                have F287 := F286.pt2 (.slice tay102_1 ((postR bb (⟨r44, r52, ⟨lo58, hi59⟩⟩ : Mv)).accs.length) tcy102_1) (.slice tmy102_1 ((postR bb (⟨r44, r52, ⟨lo58, hi59⟩⟩ : Mv)).mvs.length) tny102_1)
                clear F286
                refine ru_back_late hK (by kernel_rfl) ?_
                clear hK K
                (try simp only [Act.put, List.setIfInBounds_toArray, List.set_cons_zero, List.set_cons_succ])
                refine ru_one 14 rfl (by kernel_rfl) (fun K hK => ?_)
                go_simp
                refine ru_back_late hK (by kernel_rfl) ?_
                clear hK K
                (try simp only [Act.put, List.setIfInBounds_toArray, List.set_cons_zero, List.set_cons_succ])
                refine ru_done (by kernel_rfl) ?_
                exact ⟨(by first | kernel_rfl | rfl), rfl, w280.heap.size, tay102_1, tcy102_1, tmy102_1, tny102_1, tly102_1, thy102_1, (by first | kernel_rfl | rfl), (by first | kernel_rfl | rfl), (by first | kernel_rfl | rfl), (by first | kernel_rfl | rfl), (by first | kernel_rfl | rfl), (by first | kernel_rfl | rfl), (by first | kernel_rfl | rfl), (by first | kernel_rfl | rfl), (by first | kernel_rfl | rfl), (by first | kernel_rfl | rfl), (by first | kernel_rfl | rfl), (by first | kernel_rfl | rfl), (by first | omega | (simp; done) | (simp; omega)), (by first | omega | (simp; omega)), (F287.pick [0, 2, 3, 4, 5, 6, 7, 8, 9, 10, 11, 12, 13, 14, 15, 1] (by decide) rfl)⟩
              · intro K hK
                go_simp
                have F288 := F275.new 25 #[.slice none 0 0, .slice none 0 0] (n := wd277.heap.size) (by simp)
                clear F275
                refine ru_back hK (by exact ⟨F288.cl 9 2 rfl rfl, F288.cl 9 3 rfl rfl, F288.cl 8 4 rfl rfl, F288.cl 8 5 rfl rfl, F288.cl 8 6 rfl rfl, F288.cl 8 7 rfl rfl⟩) (fun hHeld => ?_)
                clear hK K
                (try simp only [Act.put, List.setIfInBounds_toArray, List.set_cons_zero, List.set_cons_succ])
                refine ru_one 8 rfl (by kernel_rfl) (fun K hK => ?_)
                go_simp
                refine (rpost_t _ _ _ _ _ _ bb _ (Own.sl (F288.at 10 rfl : Own accEnc 79 6 w28.heap.size _ (.slice pa34 bb.accs.length pc35) bb.accs) (fun _ => rfl)) (Own.sl (F288.at 11 rfl : Own mvEnc 76 4 w28.heap.size _ (.slice pa36 bb.mvs.length pc37) bb.mvs) (fun _ => rfl)) (Nat.le_refl _) (Nat.le_refl _) HNB.out (⟨r44, r52, ⟨lo58, hi59⟩⟩ : Mv) (by omega) (by omega)).mono ?_
                rintro e w291 ⟨tay102_1, tcy102_1, tmy102_1, tny102_1, tly102_1, thy102_1, rfl, ⟨txy102_1, tyy102_1⟩, tzy102_1, hg289⟩
                have hg289s := hg289.size
                (try simp at hg289s)
                have F292 := F288.add (rbook tly102_1 thy102_1 (.slice tay102_1 ((postR bb (⟨r44, r52, ⟨lo58, hi59⟩⟩ : Mv)).accs.length) tcy102_1) (.slice tmy102_1 ((postR bb (⟨r44, r52, ⟨lo58, hi59⟩⟩ : Mv)).mvs.length) tny102_1) (postR bb (⟨r44, r52, ⟨lo58, hi59⟩⟩ : Mv))) hg289 (tzy102_1) (fun g e => ⟨Nat.le_trans txy102_1 e.1, Nat.lt_of_lt_of_le e.2 tyy102_1⟩)
                clear F288
                refine ru_back hK (by exact ⟨F292.cl 10 2 rfl rfl, F292.cl 10 3 rfl rfl, F292.cl 9 4 rfl rfl, F292.cl 9 5 rfl rfl, F292.cl 9 6 rfl rfl, F292.cl 9 7 rfl rfl⟩) (fun hHeld => ?_)
                clear hK K
                (try simp only [Act.put, List.setIfInBounds_toArray, List.set_cons_zero, List.set_cons_succ])
                refine ru_p 9 ?_
                (try simp only [Act.put, List.setIfInBounds_toArray, List.set_cons_zero, List.set_cons_succ])
                refine ru_p 10 ?_
                refine ru_p 11 ?_
                (try simp only [Act.put, List.setIfInBounds_toArray, List.set_cons_zero, List.set_cons_succ])
                refine ru_one 13 rfl (by kernel_rfl) (fun K hK => ?_)
                have kb_ := F292.bx2 1 rfl
                go_simp
                clear kb_
                have F293 := (F292.front 1 rfl rfl).pt2 (.slice tay102_1 ((postR bb (⟨r44, r52, ⟨lo58, hi59⟩⟩ : Mv)).accs.length) tcy102_1) (.slice tmy102_1 ((postR bb (⟨r44, r52, ⟨lo58, hi59⟩⟩ : Mv)).mvs.length) tny102_1)
                clear F292
                refine ru_back_late hK (by kernel_rfl) ?_
                clear hK K
                (try simp only [Act.put, List.setIfInBounds_toArray, List.set_cons_zero, List.set_cons_succ])
                refine ru_one 14 rfl (by kernel_rfl) (fun K hK => ?_)
                go_simp
                refine ru_back_late hK (by kernel_rfl) ?_
                clear hK K
                (try simp only [Act.put, List.setIfInBounds_toArray, List.set_cons_zero, List.set_cons_succ])
                refine ru_done (by kernel_rfl) ?_
                exact ⟨(by first | kernel_rfl | rfl), rfl, wd277.heap.size, tay102_1, tcy102_1, tmy102_1, tny102_1, tly102_1, thy102_1, (by first | kernel_rfl | rfl), (by first | kernel_rfl | rfl), (by first | kernel_rfl | rfl), (by first | kernel_rfl | rfl), (by first | kernel_rfl | rfl), (by first | kernel_rfl | rfl), (by first | kernel_rfl | rfl), (by first | kernel_rfl | rfl), (by first | kernel_rfl | rfl), (by first | kernel_rfl | rfl), (by first | kernel_rfl | rfl), (by first | kernel_rfl | rfl), (by first | omega | (simp; done) | (simp; omega)), (by first | omega | (simp; omega)), (F293.pick [0, 2, 3, 4, 5, 6, 7, 8, 9, 10, 11, 12, 13, 14, 15, 1] (by decide) rfl)⟩
          case first3 =>
            have F294 := F152.drew
            clear F152
            refine ru_begin (fun W => W.cell? ⟨w135.heap.size, 0, none⟩ = some (.slice ba131 bb.accs.length bc131) ∧ W.cell? ⟨w135.heap.size, 1, none⟩ = some (.slice bm131 bb.mvs.length bn131) ∧ W.cell? ⟨yg7, 4, none⟩ = some (.int .i64 r44) ∧ W.cell? ⟨yg7, 5, none⟩ = some (.int .i64 r52) ∧ W.cell? ⟨yg7, 6, none⟩ = some (.int .i64 lo58) ∧ W.cell? ⟨yg7, 7, none⟩ = some (.int .i64 hi59)) 10 (by kernel_rfl) ?_ ?_
            · exact ⟨F294.cl 4 0 rfl rfl, F294.cl 4 1 rfl rfl, F294.cl 6 4 rfl rfl, F294.cl 6 5 rfl rfl, F294.cl 6 6 rfl rfl, F294.cl 6 7 rfl rfl⟩
            obtain ⟨wd296, hwd_⟩ : ∃ x : World, w149.drew = x := ⟨_, rfl⟩
            rw [hwd_] at F294 ⊢
            have wd296s : w149.heap.size ≤ wd296.heap.size := by rw [← hwd_]; exact Nat.le_refl _
            clear hwd_
            have hS295 := (And.intro (F294.cl 4 0 rfl rfl) (And.intro (F294.cl 4 1 rfl rfl) (And.intro (F294.cl 6 4 rfl rfl) (And.intro (F294.cl 6 5 rfl rfl) (And.intro (F294.cl 6 6 rfl rfl) (F294.cl 6 7 rfl rfl))))))
            refine ru_t 0 [] ?_
            refine ru_t 1 [] ?_
            refine ru_t 2 [] ?_
            refine ru_t 3 [] ?_
            refine ru_t 4 [] ?_
            (try simp only [Act.put, List.setIfInBounds_toArray, List.set_cons_zero, List.set_cons_succ])
            clear hS295
            refine ru_two 5 9 rfl rfl (by kernel_rfl) ?_ ?_
            · intro K hK
              go_simp
              refine (fpost_t _ _ _ _ _ _ bb _ ((F294.at 5 rfl : HasB bl131 bh131 _ (.slice ba131 bb.accs.length bc131) (.slice bm131 bb.mvs.length bn131) bb)).1 ((F294.at 5 rfl : HasB bl131 bh131 _ (.slice ba131 bb.accs.length bc131) (.slice bm131 bb.mvs.length bn131) bb)).2 (by first | omega | (simp; omega)) (by first | omega | (simp; omega)) HNB.out (⟨r44, r52, ⟨lo58, hi59⟩⟩ : Mv) (by omega) (by omega)).mono ?_
              rintro e w299 ⟨tax90_1, tcx90_1, tmx90_1, tnx90_1, tlx90_1, thx90_1, rfl, ⟨txx90_1, tyx90_1⟩, tzx90_1, hg297⟩
              have hg297s := hg297.size
              (try simp at hg297s)
              have F300 := F294.add (rbook tlx90_1 thx90_1 (.slice tax90_1 ((postR bb (⟨r44, r52, ⟨lo58, hi59⟩⟩ : Mv)).accs.length) tcx90_1) (.slice tmx90_1 ((postR bb (⟨r44, r52, ⟨lo58, hi59⟩⟩ : Mv)).mvs.length) tnx90_1) (postR bb (⟨r44, r52, ⟨lo58, hi59⟩⟩ : Mv))) hg297 (tzx90_1) (fun g e => ⟨Nat.le_trans txx90_1 e.1, Nat.lt_of_lt_of_le e.2 tyx90_1⟩)
              clear F294
              refine ru_back hK (by exact ⟨F300.cl 5 0 rfl rfl, F300.cl 5 1 rfl rfl, F300.cl 7 4 rfl rfl, F300.cl 7 5 rfl rfl, F300.cl 7 6 rfl rfl, F300.cl 7 7 rfl rfl⟩) (fun hHeld => ?_)
              clear hK K
              (try simp only [Act.put, List.setIfInBounds_toArray, List.set_cons_zero, List.set_cons_succ])
              refine ru_p 6 ?_
              (try simp only [Act.put, List.setIfInBounds_toArray, List.set_cons_zero, List.set_cons_succ])
              refine ru_p 7 ?_
              refine ru_p 8 ?_
              (try simp only [Act.put, List.setIfInBounds_toArray, List.set_cons_zero, List.set_cons_succ])
              refine ru_one 9 rfl (by kernel_rfl) (fun K hK => ?_)
              go_simp
              have F301 := F300.new 25 #[.slice none 0 0, .slice none 0 0] (n := w299.heap.size) (by simp)
              clear F300
              refine ru_back hK (by exact ⟨F301.cl 6 0 rfl rfl, F301.cl 6 1 rfl rfl, F301.cl 8 4 rfl rfl, F301.cl 8 5 rfl rfl, F301.cl 8 6 rfl rfl, F301.cl 8 7 rfl rfl⟩) (fun hHeld => ?_)
              clear hK K
              (try simp only [Act.put, List.setIfInBounds_toArray, List.set_cons_zero, List.set_cons_succ])
              refine ru_one 10 rfl (by kernel_rfl) (fun K hK => ?_)
              have Fn_ := F301
              (try dsimp only [List.eraseIdx_cons_succ, List.eraseIdx_cons_zero] at Fn_)
              obtain ⟨w302, hx303, F305, hxs304⟩ := Fn_.name
              (try simp at hxs304)
              rw [hx303]
              clear hx303 F301 Fn_
              have kb_ := F305.bx2 0 rfl
              go_simp
              clear kb_
              have F306 := F305.pt2 (.slice tax90_1 ((postR bb (⟨r44, r52, ⟨lo58, hi59⟩⟩ : Mv)).accs.length) tcx90_1) (.slice tmx90_1 ((postR bb (⟨r44, r52, ⟨lo58, hi59⟩⟩ : Mv)).mvs.length) tnx90_1)
              clear F305
              refine ru_back_late hK (by kernel_rfl) ?_
              clear hK K
              (try simp only [Act.put, List.setIfInBounds_toArray, List.set_cons_zero, List.set_cons_succ])
              refine ru_one 11 rfl (by kernel_rfl) (fun K hK => ?_)
              go_simp
              refine ru_back_late hK (by kernel_rfl) ?_
              clear hK K
              (try simp only [Act.put, List.setIfInBounds_toArray, List.set_cons_zero, List.set_cons_succ])
              refine ru_done (by kernel_rfl) ?_
              exact ⟨(by first | kernel_rfl | rfl), rfl, w299.heap.size, tax90_1, tcx90_1, tmx90_1, tnx90_1, tlx90_1, thx90_1, (by first | kernel_rfl | rfl), (by first | kernel_rfl | rfl), (by first | kernel_rfl | rfl), (by first | kernel_rfl | rfl), (by first | kernel_rfl | rfl), (by first | kernel_rfl | rfl), (by first | kernel_rfl | rfl), (by first | kernel_rfl | rfl), (by first | kernel_rfl | rfl), (by first | kernel_rfl | rfl), (by first | omega | (simp; done) | (simp; omega)), (by first | omega | (simp; omega)), (F306.pick [0, 2, 3, 4, 5, 6, 7, 8, 9, 10, 11, 12, 13, 1] (by decide) rfl)⟩
            · intro K hK
              go_simp
              have F307 := F294.new 25 #[.slice none 0 0, .slice none 0 0] (n := wd296.heap.size) (by simp)
              clear F294
              refine ru_back hK (by exact ⟨F307.cl 5 0 rfl rfl, F307.cl 5 1 rfl rfl, F307.cl 7 4 rfl rfl, F307.cl 7 5 rfl rfl, F307.cl 7 6 rfl rfl, F307.cl 7 7 rfl rfl⟩) (fun hHeld => ?_)
              clear hK K
              (try simp only [Act.put, List.setIfInBounds_toArray, List.set_cons_zero, List.set_cons_succ])
              refine ru_one 5 rfl (by kernel_rfl) (fun K hK => ?_)
              go_simp
              refine (fpost_t _ _ _ _ _ _ bb _ ((F307.at 6 rfl : HasB bl131 bh131 _ (.slice ba131 bb.accs.length bc131) (.slice bm131 bb.mvs.length bn131) bb)).1 ((F307.at 6 rfl : HasB bl131 bh131 _ (.slice ba131 bb.accs.length bc131) (.slice bm131 bb.mvs.length bn131) bb)).2 (by first | omega | (simp; omega)) (by first | omega | (simp; omega)) HNB.out (⟨r44, r52, ⟨lo58, hi59⟩⟩ : Mv) (by omega) (by omega)).mono ?_
              rintro e w310 ⟨tax90_1, tcx90_1, tmx90_1, tnx90_1, tlx90_1, thx90_1, rfl, ⟨txx90_1, tyx90_1⟩, tzx90_1, hg308⟩
              have hg308s := hg308.size
              (try simp at hg308s)
              have F311 := F307.add (rbook tlx90_1 thx90_1 (.slice tax90_1 ((postR bb (⟨r44, r52, ⟨lo58, hi59⟩⟩ : Mv)).accs.length) tcx90_1) (.slice tmx90_1 ((postR bb (⟨r44, r52, ⟨lo58, hi59⟩⟩ : Mv)).mvs.length) tnx90_1) (postR bb (⟨r44, r52, ⟨lo58, hi59⟩⟩ : Mv))) hg308 (tzx90_1) (fun g e => ⟨Nat.le_trans txx90_1 e.1, Nat.lt_of_lt_of_le e.2 tyx90_1⟩)
              clear F307
              refine ru_back hK (by exact ⟨F311.cl 6 0 rfl rfl, F311.cl 6 1 rfl rfl, F311.cl 8 4 rfl rfl, F311.cl 8 5 rfl rfl, F311.cl 8 6 rfl rfl, F311.cl 8 7 rfl rfl⟩) (fun hHeld => ?_)
              clear hK K
              (try simp only [Act.put, List.setIfInBounds_toArray, List.set_cons_zero, List.set_cons_succ])
              refine ru_p 6 ?_
              (try simp only [Act.put, List.setIfInBounds_toArray, List.set_cons_zero, List.set_cons_succ])
              refine ru_p 7 ?_
              refine ru_p 8 ?_
              (try simp only [Act.put, List.setIfInBounds_toArray, List.set_cons_zero, List.set_cons_succ])
              refine ru_one 10 rfl (by kernel_rfl) (fun K hK => ?_)
              have kb_ := F311.bx2 1 rfl
              go_simp
              clear kb_
              have F312 := (F311.front 1 rfl rfl).pt2 (.slice tax90_1 ((postR bb (⟨r44, r52, ⟨lo58, hi59⟩⟩ : Mv)).accs.length) tcx90_1) (.slice tmx90_1 ((postR bb (⟨r44, r52, ⟨lo58, hi59⟩⟩ : Mv)).mvs.length) tnx90_1)
              clear F311
              refine ru_back_late hK (by kernel_rfl) ?_
              clear hK K
              (try simp only [Act.put, List.setIfInBounds_toArray, List.set_cons_zero, List.set_cons_succ])
              refine ru_one 11 rfl (by kernel_rfl) (fun K hK => ?_)
              go_simp
              refine ru_back_late hK (by kernel_rfl) ?_
              clear hK K
              (try simp only [Act.put, List.setIfInBounds_toArray, List.set_cons_zero, List.set_cons_succ])
              refine ru_done (by kernel_rfl) ?_
              exact ⟨(by first | kernel_rfl | rfl), rfl, wd296.heap.size, tax90_1, tcx90_1, tmx90_1, tnx90_1, tlx90_1, thx90_1, (by first | kernel_rfl | rfl), (by first | kernel_rfl | rfl), (by first | kernel_rfl | rfl), (by first | kernel_rfl | rfl), (by first | kernel_rfl | rfl), (by first | kernel_rfl | rfl), (by first | kernel_rfl | rfl), (by first | kernel_rfl | rfl), (by first | kernel_rfl | rfl), (by first | kernel_rfl | rfl), (by first | omega | (simp; done) | (simp; omega)), (by first | omega | (simp; omega)), (F312.pick [0, 2, 3, 4, 5, 6, 7, 8, 9, 10, 11, 12, 13, 1] (by decide) rfl)⟩
        case first2 =>
          have F313 := hF102.drew
          clear hF102
          refine ru_begin (fun W => W.cell? ⟨yg3, 0, none⟩ = some (.slice aa b.accs.length ak) ∧ W.cell? ⟨yg3, 1, none⟩ = some (.slice ma b.mvs.length mk) ∧ W.cell? ⟨yg7, 0, none⟩ = some (.int .i64 m.fr) ∧ W.cell? ⟨yg7, 1, none⟩ = some (.int .i64 m.to) ∧ W.cell? ⟨yg7, 2, none⟩ = some (.int .i64 m.li.lo) ∧ W.cell? ⟨yg7, 3, none⟩ = some (.int .i64 m.li.hi)) 13 (by kernel_rfl) ?_ ?_
          · exact ⟨F313.cl 8 0 rfl rfl, F313.cl 8 1 rfl rfl, F313.cl 7 0 rfl rfl, F313.cl 7 1 rfl rfl, F313.cl 7 2 rfl rfl, F313.cl 7 3 rfl rfl⟩
          obtain ⟨wd315, hwd_⟩ : ∃ x : World, w104.drew = x := ⟨_, rfl⟩
          rw [hwd_] at F313 ⊢
          have wd315s : w104.heap.size ≤ wd315.heap.size := by rw [← hwd_]; exact Nat.le_refl _
          clear hwd_
          have hS314 := (And.intro (F313.cl 8 0 rfl rfl) (And.intro (F313.cl 8 1 rfl rfl) (And.intro (F313.cl 7 0 rfl rfl) (And.intro (F313.cl 7 1 rfl rfl) (And.intro (F313.cl 7 2 rfl rfl) (F313.cl 7 3 rfl rfl))))))
          refine ru_t 0 [] ?_
          refine ru_t 1 [] ?_
          refine ru_t 2 [] ?_
          refine ru_t 3 [] ?_
          refine ru_t 4 [] ?_
          refine ru_t 5 [] ?_
          refine ru_t 6 [] ?_
          refine ru_t 7 [] ?_
          (try simp only [Act.put, List.setIfInBounds_toArray, List.set_cons_zero, List.set_cons_succ])
          clear hS314
          refine ru_two 8 12 rfl rfl (by kernel_rfl) ?_ ?_
          · intro K hK
            go_simp
            refine (rpost_t _ _ _ _ _ _ b _ (F313.at 12 rfl : Sl accEnc 6 0 w.heap.size _ (.slice aa b.accs.length ak) b.accs) (F313.at 11 rfl : Sl mvEnc 4 0 w.heap.size _ (.slice ma b.mvs.length mk) b.mvs) (by first | omega | (simp; omega)) (by first | omega | (simp; omega)) HN.out m (by omega) (by omega)).mono ?_
            rintro e w318 ⟨tay102_0, tcy102_0, tmy102_0, tny102_0, tly102_0, thy102_0, rfl, ⟨txy102_0, tyy102_0⟩, tzy102_0, hg316⟩
            have hg316s := hg316.size
            (try simp at hg316s)
            have F319 := F313.add (rbook tly102_0 thy102_0 (.slice tay102_0 ((postR b m).accs.length) tcy102_0) (.slice tmy102_0 ((postR b m).mvs.length) tny102_0) (postR b m)) hg316 (tzy102_0) (fun g e => ⟨Nat.le_trans txy102_0 e.1, Nat.lt_of_lt_of_le e.2 tyy102_0⟩)
            clear F313
            refine ru_back hK (by exact ⟨F319.cl 9 0 rfl rfl, F319.cl 9 1 rfl rfl, F319.cl 8 0 rfl rfl, F319.cl 8 1 rfl rfl, F319.cl 8 2 rfl rfl, F319.cl 8 3 rfl rfl⟩) (fun hHeld => ?_)
            clear hK K
            (try simp only [Act.put, List.setIfInBounds_toArray, List.set_cons_zero, List.set_cons_succ])
            refine ru_p 9 ?_
            (try simp only [Act.put, List.setIfInBounds_toArray, List.set_cons_zero, List.set_cons_succ])
            refine ru_p 10 ?_
            refine ru_p 11 ?_
            (try simp only [Act.put, List.setIfInBounds_toArray, List.set_cons_zero, List.set_cons_succ])
            refine ru_one 12 rfl (by kernel_rfl) (fun K hK => ?_)
            go_simp
            have F320 := F319.new 25 #[.slice none 0 0, .slice none 0 0] (n := w318.heap.size) (by simp)
            clear F319
            refine ru_back hK (by exact ⟨F320.cl 10 0 rfl rfl, F320.cl 10 1 rfl rfl, F320.cl 9 0 rfl rfl, F320.cl 9 1 rfl rfl, F320.cl 9 2 rfl rfl, F320.cl 9 3 rfl rfl⟩) (fun hHeld => ?_)
            clear hK K
            (try simp only [Act.put, List.setIfInBounds_toArray, List.set_cons_zero, List.set_cons_succ])
            refine ru_one 13 rfl (by kernel_rfl) (fun K hK => ?_)
            have Fn_ := F320
            (try dsimp only [List.eraseIdx_cons_succ, List.eraseIdx_cons_zero] at Fn_)
            obtain ⟨w321, hx322, F324, hxs323⟩ := Fn_.name
            (try simp at hxs323)
            rw [hx322]
            clear hx322 F320 Fn_
            have kb_ := F324.bx2 0 rfl
            go_simp
            clear kb_
            have F325 := F324.pt2 (.slice tay102_0 ((postR b m).accs.length) tcy102_0) (.slice tmy102_0 ((postR b m).mvs.length) tny102_0)
            clear F324
            refine ru_back_late hK (by kernel_rfl) ?_
            clear hK K
            (try simp only [Act.put, List.setIfInBounds_toArray, List.set_cons_zero, List.set_cons_succ])
            refine ru_one 14 rfl (by kernel_rfl) (fun K hK => ?_)
            go_simp
            refine ru_back_late hK (by kernel_rfl) ?_
            clear hK K
            (try simp only [Act.put, List.setIfInBounds_toArray, List.set_cons_zero, List.set_cons_succ])
            refine ru_done (by kernel_rfl) ?_
            exact ⟨(by first | kernel_rfl | rfl), rfl, w318.heap.size, tay102_0, tcy102_0, tmy102_0, tny102_0, tly102_0, thy102_0, (by first | kernel_rfl | rfl), (by first | kernel_rfl | rfl), (by first | kernel_rfl | rfl), (by first | kernel_rfl | rfl), (by first | kernel_rfl | rfl), (by first | kernel_rfl | rfl), (by first | kernel_rfl | rfl), (by first | kernel_rfl | rfl), (by first | kernel_rfl | rfl), (by first | kernel_rfl | rfl), (by first | kernel_rfl | rfl), (by first | kernel_rfl | rfl), (by first | omega | (simp; done) | (simp; omega)), (by first | omega | (simp; omega)), (F325.pick [0, 2, 3, 4, 5, 6, 7, 8, 9, 10, 11, 12, 13, 14, 15, 1] (by decide) rfl)⟩
          · intro K hK
            go_simp
            have F326 := F313.new 25 #[.slice none 0 0, .slice none 0 0] (n := wd315.heap.size) (by simp)
            clear F313
            refine ru_back hK (by exact ⟨F326.cl 9 0 rfl rfl, F326.cl 9 1 rfl rfl, F326.cl 8 0 rfl rfl, F326.cl 8 1 rfl rfl, F326.cl 8 2 rfl rfl, F326.cl 8 3 rfl rfl⟩) (fun hHeld => ?_)
            clear hK K
            (try simp only [Act.put, List.setIfInBounds_toArray, List.set_cons_zero, List.set_cons_succ])
            refine ru_one 8 rfl (by kernel_rfl) (fun K hK => ?_)
            go_simp
            refine (rpost_t _ _ _ _ _ _ b _ (F326.at 13 rfl : Sl accEnc 6 0 w.heap.size _ (.slice aa b.accs.length ak) b.accs) (F326.at 12 rfl : Sl mvEnc 4 0 w.heap.size _ (.slice ma b.mvs.length mk) b.mvs) (by first | omega | (simp; omega)) (by first | omega | (simp; omega)) HN.out m (by omega) (by omega)).mono ?_
            rintro e w329 ⟨tay102_0, tcy102_0, tmy102_0, tny102_0, tly102_0, thy102_0, rfl, ⟨txy102_0, tyy102_0⟩, tzy102_0, hg327⟩
            have hg327s := hg327.size
            (try simp at hg327s)
            have F330 := F326.add (rbook tly102_0 thy102_0 (.slice tay102_0 ((postR b m).accs.length) tcy102_0) (.slice tmy102_0 ((postR b m).mvs.length) tny102_0) (postR b m)) hg327 (tzy102_0) (fun g e => ⟨Nat.le_trans txy102_0 e.1, Nat.lt_of_lt_of_le e.2 tyy102_0⟩)
            clear F326
            refine ru_back hK (by exact ⟨F330.cl 10 0 rfl rfl, F330.cl 10 1 rfl rfl, F330.cl 9 0 rfl rfl, F330.cl 9 1 rfl rfl, F330.cl 9 2 rfl rfl, F330.cl 9 3 rfl rfl⟩) (fun hHeld => ?_)
            clear hK K
            (try simp only [Act.put, List.setIfInBounds_toArray, List.set_cons_zero, List.set_cons_succ])
            refine ru_p 9 ?_
            (try simp only [Act.put, List.setIfInBounds_toArray, List.set_cons_zero, List.set_cons_succ])
            refine ru_p 10 ?_
            refine ru_p 11 ?_
            (try simp only [Act.put, List.setIfInBounds_toArray, List.set_cons_zero, List.set_cons_succ])
            refine ru_one 13 rfl (by kernel_rfl) (fun K hK => ?_)
            have kb_ := F330.bx2 1 rfl
            go_simp
            clear kb_
            have F331 := (F330.front 1 rfl rfl).pt2 (.slice tay102_0 ((postR b m).accs.length) tcy102_0) (.slice tmy102_0 ((postR b m).mvs.length) tny102_0)
            clear F330
            refine ru_back_late hK (by kernel_rfl) ?_
            clear hK K
            (try simp only [Act.put, List.setIfInBounds_toArray, List.set_cons_zero, List.set_cons_succ])
            refine ru_one 14 rfl (by kernel_rfl) (fun K hK => ?_)
            go_simp
            refine ru_back_late hK (by kernel_rfl) ?_
            clear hK K
            (try simp only [Act.put, List.setIfInBounds_toArray, List.set_cons_zero, List.set_cons_succ])
            refine ru_done (by kernel_rfl) ?_
            exact ⟨(by first | kernel_rfl | rfl), rfl, wd315.heap.size, tay102_0, tcy102_0, tmy102_0, tny102_0, tly102_0, thy102_0, (by first | kernel_rfl | rfl), (by first | kernel_rfl | rfl), (by first | kernel_rfl | rfl), (by first | kernel_rfl | rfl), (by first | kernel_rfl | rfl), (by first | kernel_rfl | rfl), (by first | kernel_rfl | rfl), (by first | kernel_rfl | rfl), (by first | kernel_rfl | rfl), (by first | kernel_rfl | rfl), (by first | kernel_rfl | rfl), (by first | kernel_rfl | rfl), (by first | omega | (simp; done) | (simp; omega)), (by first | omega | (simp; omega)), (F331.pick [0, 2, 3, 4, 5, 6, 7, 8, 9, 10, 11, 12, 13, 14, 15, 1] (by decide) rfl)⟩
      case first1 =>
        have F332 := F101.drew
        clear F101
        refine ru_begin (fun W => W.cell? ⟨w84.heap.size, 0, none⟩ = some (.slice ba80 b.accs.length bc80) ∧ W.cell? ⟨w84.heap.size, 1, none⟩ = some (.slice bm80 b.mvs.length bn80) ∧ W.cell? ⟨yg7, 0, none⟩ = some (.int .i64 m.fr) ∧ W.cell? ⟨yg7, 1, none⟩ = some (.int .i64 m.to) ∧ W.cell? ⟨yg7, 2, none⟩ = some (.int .i64 m.li.lo) ∧ W.cell? ⟨yg7, 3, none⟩ = some (.int .i64 m.li.hi)) 10 (by kernel_rfl) ?_ ?_
        · exact ⟨F332.cl 4 0 rfl rfl, F332.cl 4 1 rfl rfl, F332.cl 6 0 rfl rfl, F332.cl 6 1 rfl rfl, F332.cl 6 2 rfl rfl, F332.cl 6 3 rfl rfl⟩
        obtain ⟨wd334, hwd_⟩ : ∃ x : World, w98.drew = x := ⟨_, rfl⟩
        rw [hwd_] at F332 ⊢
        have wd334s : w98.heap.size ≤ wd334.heap.size := by rw [← hwd_]; exact Nat.le_refl _
        clear hwd_
        have hS333 := (And.intro (F332.cl 4 0 rfl rfl) (And.intro (F332.cl 4 1 rfl rfl) (And.intro (F332.cl 6 0 rfl rfl) (And.intro (F332.cl 6 1 rfl rfl) (And.intro (F332.cl 6 2 rfl rfl) (F332.cl 6 3 rfl rfl))))))
        refine ru_t 0 [] ?_
        refine ru_t 1 [] ?_
        refine ru_t 2 [] ?_
        refine ru_t 3 [] ?_
        refine ru_t 4 [] ?_
        (try simp only [Act.put, List.setIfInBounds_toArray, List.set_cons_zero, List.set_cons_succ])
        clear hS333
        refine ru_two 5 9 rfl rfl (by kernel_rfl) ?_ ?_
        · intro K hK
          go_simp
          refine (fpost_t _ _ _ _ _ _ b _ ((F332.at 5 rfl : HasB bl80 bh80 _ (.slice ba80 b.accs.length bc80) (.slice bm80 b.mvs.length bn80) b)).1 ((F332.at 5 rfl : HasB bl80 bh80 _ (.slice ba80 b.accs.length bc80) (.slice bm80 b.mvs.length bn80) b)).2 (by first | omega | (simp; omega)) (by first | omega | (simp; omega)) HN.out m (by omega) (by omega)).mono ?_
          rintro e w337 ⟨tax90_0, tcx90_0, tmx90_0, tnx90_0, tlx90_0, thx90_0, rfl, ⟨txx90_0, tyx90_0⟩, tzx90_0, hg335⟩
          have hg335s := hg335.size
          (try simp at hg335s)
          have F338 := F332.add (rbook tlx90_0 thx90_0 (.slice tax90_0 ((postR b m).accs.length) tcx90_0) (.slice tmx90_0 ((postR b m).mvs.length) tnx90_0) (postR b m)) hg335 (tzx90_0) (fun g e => ⟨Nat.le_trans txx90_0 e.1, Nat.lt_of_lt_of_le e.2 tyx90_0⟩)
          clear F332
          refine ru_back hK (by exact ⟨F338.cl 5 0 rfl rfl, F338.cl 5 1 rfl rfl, F338.cl 7 0 rfl rfl, F338.cl 7 1 rfl rfl, F338.cl 7 2 rfl rfl, F338.cl 7 3 rfl rfl⟩) (fun hHeld => ?_)
          clear hK K
          (try simp only [Act.put, List.setIfInBounds_toArray, List.set_cons_zero, List.set_cons_succ])
          refine ru_p 6 ?_
          (try simp only [Act.put, List.setIfInBounds_toArray, List.set_cons_zero, List.set_cons_succ])
          refine ru_p 7 ?_
          refine ru_p 8 ?_
          (try simp only [Act.put, List.setIfInBounds_toArray, List.set_cons_zero, List.set_cons_succ])
          refine ru_one 9 rfl (by kernel_rfl) (fun K hK => ?_)
          go_simp
          have F339 := F338.new 25 #[.slice none 0 0, .slice none 0 0] (n := w337.heap.size) (by simp)
          clear F338
          refine ru_back hK (by exact ⟨F339.cl 6 0 rfl rfl, F339.cl 6 1 rfl rfl, F339.cl 8 0 rfl rfl, F339.cl 8 1 rfl rfl, F339.cl 8 2 rfl rfl, F339.cl 8 3 rfl rfl⟩) (fun hHeld => ?_)
          clear hK K
          (try simp only [Act.put, List.setIfInBounds_toArray, List.set_cons_zero, List.set_cons_succ])
          refine ru_one 10 rfl (by kernel_rfl) (fun K hK => ?_)
          have Fn_ := F339
          (try dsimp only [List.eraseIdx_cons_succ, List.eraseIdx_cons_zero] at Fn_)
          obtain ⟨w340, hx341, F343, hxs342⟩ := Fn_.name
          (try simp at hxs342)
          rw [hx341]
          clear hx341 F339 Fn_
          have kb_ := F343.bx2 0 rfl
          go_simp
          clear kb_
          have F344 := F343.pt2 (.slice tax90_0 ((postR b m).accs.length) tcx90_0) (.slice tmx90_0 ((postR b m).mvs.length) tnx90_0)
          clear F343
          refine ru_back_late hK (by kernel_rfl) ?_
          clear hK K
          (try simp only [Act.put, List.setIfInBounds_toArray, List.set_cons_zero, List.set_cons_succ])
          refine ru_one 11 rfl (by kernel_rfl) (fun K hK => ?_)
          go_simp
          refine ru_back_late hK (by kernel_rfl) ?_
          clear hK K
          (try simp only [Act.put, List.setIfInBounds_toArray, List.set_cons_zero, List.set_cons_succ])
          refine ru_done (by kernel_rfl) ?_
          exact ⟨(by first | kernel_rfl | rfl), rfl, w337.heap.size, tax90_0, tcx90_0, tmx90_0, tnx90_0, tlx90_0, thx90_0, (by first | kernel_rfl | rfl), (by first | kernel_rfl | rfl), (by first | kernel_rfl | rfl), (by first | kernel_rfl | rfl), (by first | kernel_rfl | rfl), (by first | kernel_rfl | rfl), (by first | kernel_rfl | rfl), (by first | kernel_rfl | rfl), (by first | kernel_rfl | rfl), (by first | kernel_rfl | rfl), (by first | omega | (simp; done) | (simp; omega)), (by first | omega | (simp; omega)), (F344.pick [0, 2, 3, 4, 5, 6, 7, 8, 9, 10, 11, 12, 13, 1] (by decide) rfl)⟩
        · intro K hK
          go_simp
          have F345 := F332.new 25 #[.slice none 0 0, .slice none 0 0] (n := wd334.heap.size) (by simp)
          clear F332
          refine ru_back hK (by exact ⟨F345.cl 5 0 rfl rfl, F345.cl 5 1 rfl rfl, F345.cl 7 0 rfl rfl, F345.cl 7 1 rfl rfl, F345.cl 7 2 rfl rfl, F345.cl 7 3 rfl rfl⟩) (fun hHeld => ?_)
          clear hK K
          (try simp only [Act.put, List.setIfInBounds_toArray, List.set_cons_zero, List.set_cons_succ])
          refine ru_one 5 rfl (by kernel_rfl) (fun K hK => ?_)
          go_simp
          refine (fpost_t _ _ _ _ _ _ b _ ((F345.at 6 rfl : HasB bl80 bh80 _ (.slice ba80 b.accs.length bc80) (.slice bm80 b.mvs.length bn80) b)).1 ((F345.at 6 rfl : HasB bl80 bh80 _ (.slice ba80 b.accs.length bc80) (.slice bm80 b.mvs.length bn80) b)).2 (by first | omega | (simp; omega)) (by first | omega | (simp; omega)) HN.out m (by omega) (by omega)).mono ?_
          rintro e w348 ⟨tax90_0, tcx90_0, tmx90_0, tnx90_0, tlx90_0, thx90_0, rfl, ⟨txx90_0, tyx90_0⟩, tzx90_0, hg346⟩
          have hg346s := hg346.size
          (try simp at hg346s)
          have F349 := F345.add (rbook tlx90_0 thx90_0 (.slice tax90_0 ((postR b m).accs.length) tcx90_0) (.slice tmx90_0 ((postR b m).mvs.length) tnx90_0) (postR b m)) hg346 (tzx90_0) (fun g e => ⟨Nat.le_trans txx90_0 e.1, Nat.lt_of_lt_of_le e.2 tyx90_0⟩)
          clear F345
          refine ru_back hK (by exact ⟨F349.cl 6 0 rfl rfl, F349.cl 6 1 rfl rfl, F349.cl 8 0 rfl rfl, F349.cl 8 1 rfl rfl, F349.cl 8 2 rfl rfl, F349.cl 8 3 rfl rfl⟩) (fun hHeld => ?_)
          clear hK K
          (try simp only [Act.put, List.setIfInBounds_toArray, List.set_cons_zero, List.set_cons_succ])
          refine ru_p 6 ?_
          (try simp only [Act.put, List.setIfInBounds_toArray, List.set_cons_zero, List.set_cons_succ])
          refine ru_p 7 ?_
          refine ru_p 8 ?_
          (try simp only [Act.put, List.setIfInBounds_toArray, List.set_cons_zero, List.set_cons_succ])
          refine ru_one 10 rfl (by kernel_rfl) (fun K hK => ?_)
          have kb_ := F349.bx2 1 rfl
          go_simp
          clear kb_
          have F350 := (F349.front 1 rfl rfl).pt2 (.slice tax90_0 ((postR b m).accs.length) tcx90_0) (.slice tmx90_0 ((postR b m).mvs.length) tnx90_0)
          clear F349
          refine ru_back_late hK (by kernel_rfl) ?_
          clear hK K
          (try simp only [Act.put, List.setIfInBounds_toArray, List.set_cons_zero, List.set_cons_succ])
          refine ru_one 11 rfl (by kernel_rfl) (fun K hK => ?_)
          go_simp
          refine ru_back_late hK (by kernel_rfl) ?_
          clear hK K
          (try simp only [Act.put, List.setIfInBounds_toArray, List.set_cons_zero, List.set_cons_succ])
          refine ru_done (by kernel_rfl) ?_
          exact ⟨(by first | kernel_rfl | rfl), rfl, wd334.heap.size, tax90_0, tcx90_0, tmx90_0, tnx90_0, tlx90_0, thx90_0, (by first | kernel_rfl | rfl), (by first | kernel_rfl | rfl), (by first | kernel_rfl | rfl), (by first | kernel_rfl | rfl), (by first | kernel_rfl | rfl), (by first | kernel_rfl | rfl), (by first | kernel_rfl | rfl), (by first | kernel_rfl | rfl), (by first | kernel_rfl | rfl), (by first | kernel_rfl | rfl), (by first | omega | (simp; done) | (simp; omega)), (by first | omega | (simp; omega)), (F350.pick [0, 2, 3, 4, 5, 6, 7, 8, 9, 10, 11, 12, 13, 1] (by decide) rfl)⟩
    intro hZ73
    refine ru_state 135 (fun t w_ => ∃ (yg3 : Nat) (yg7 : Nat), t 12 = .slice (some ⟨yg3, 0, none⟩) 3 3 ∧ t 59 = .slice (some ⟨yg7, 0, none⟩) 3 3 ∧ w66.heap.size ≤ w_.heap.size ∧ Bun w [rbox yg7 76 #[.int .i64 m.fr, .int .i64 m.to, .int .i64 m.li.lo, .int .i64 m.li.hi, .int .i64 r44, .int .i64 r52, .int .i64 lo58, .int .i64 hi59, .int .i64 m.fr, .int .i64 m.to, .int .i64 m.li.lo, .int .i64 m.li.hi], rbox yg3 25 #[.slice aa b.accs.length ak, .slice ma b.mvs.length mk, .slice pa34 bb.accs.length pc35, .slice pa36 bb.mvs.length pc37, .slice pa34 bb.accs.length pc35, .slice pa36 bb.mvs.length pc37], rbox w63.heap.size 76 #[.int .i64 r44, .int .i64 r52, .int .i64 lo58, .int .i64 hi59], rbox w31.heap.size 25 #[.slice pa34 bb.accs.length pc35, .slice pa36 bb.mvs.length pc37], rown accEnc 79 6 w28.heap.size (.slice pa34 bb.accs.length pc35) bb.accs, rown mvEnc 76 4 w28.heap.size (.slice pa36 bb.mvs.length pc37) bb.mvs, rbox (w.heap.size + 1) 76 #[.int .i64 m.fr, .int .i64 m.to, .int .i64 m.li.lo, .int .i64 m.li.hi], rbox w.heap.size 25 #[.slice aa b.accs.length ak, .slice ma b.mvs.length mk], rsl mvEnc 4 0 w.heap.size (.slice ma b.mvs.length mk) b.mvs, rsl accEnc 6 0 w.heap.size (.slice aa b.accs.length ak) b.accs] w_) #[true, true, true, true, true, true, true, true, true, false] 1 ?st351 ?nx351
    case st351 =>
      rintro t w352 ⟨yg3, yg7, e12, e59, hsz351, F353⟩
      clear F70
      rw [rng_refines_walk t, e12, e59]
      clear e12 e59
      have hws351 := F353.gb.size
      have yg7l := F353.ltAt 0 rfl yg7 rfl
      have yg7b := yg7l.2 rfl
      have yg3l := F353.ltAt 1 rfl yg3 rfl
      have yg3b := yg3l.2 rfl
      refine ru_one 9 rfl (by kernel_rfl) (fun K hK => ?_)
      go_simp
      refine ru_back_late hK (by kernel_rfl) ?_
      exact hZ73.out _ _ _ (by kernel_rfl) (by kernel_rfl) rfl ⟨yg3, yg7, (by kernel_rfl), (by kernel_rfl), (by first | omega | (simp; done) | (simp; omega)), F353⟩
    intro hZ351
    refine ru_state 135 (fun t w_ => ∃ (yg3 : Nat), t 12 = .slice (some ⟨yg3, 0, none⟩) 3 3 ∧ t 56 = .agg #[.int .i64 m.fr, .int .i64 m.to, .int .i64 m.li.lo, .int .i64 m.li.hi] ∧ t 57 = .agg #[.int .i64 r44, .int .i64 r52, .int .i64 lo58, .int .i64 hi59] ∧ t 58 = .agg #[.int .i64 m.fr, .int .i64 m.to, .int .i64 m.li.lo, .int .i64 m.li.hi] ∧ w66.heap.size ≤ w_.heap.size ∧ Bun w [rbox yg3 25 #[.slice aa b.accs.length ak, .slice ma b.mvs.length mk, .slice pa34 bb.accs.length pc35, .slice pa36 bb.mvs.length pc37, .slice pa34 bb.accs.length pc35, .slice pa36 bb.mvs.length pc37], rbox w63.heap.size 76 #[.int .i64 r44, .int .i64 r52, .int .i64 lo58, .int .i64 hi59], rbox w31.heap.size 25 #[.slice pa34 bb.accs.length pc35, .slice pa36 bb.mvs.length pc37], rown accEnc 79 6 w28.heap.size (.slice pa34 bb.accs.length pc35) bb.accs, rown mvEnc 76 4 w28.heap.size (.slice pa36 bb.mvs.length pc37) bb.mvs, rbox (w.heap.size + 1) 76 #[.int .i64 m.fr, .int .i64 m.to, .int .i64 m.li.lo, .int .i64 m.li.hi], rbox w.heap.size 25 #[.slice aa b.accs.length ak, .slice ma b.mvs.length mk], rsl mvEnc 4 0 w.heap.size (.slice ma b.mvs.length mk) b.mvs, rsl accEnc 6 0 w.heap.size (.slice aa b.accs.length ak) b.accs] w_) #[true, true, true, true, true, true, true, false, true, false] 2 ?st354 ?nx354
    case st354 =>
      rintro t w355 ⟨yg3, e12, e56, e57, e58, hsz354, F356⟩
      clear F70
      rw [rng_refines_walk t, e12, e56, e57, e58]
      clear e12 e56 e57 e58
      have hws354 := F356.gb.size
      have yg3l := F356.ltAt 0 rfl yg3 rfl
      have yg3b := yg3l.2 rfl
      refine ru_one 7 rfl (by kernel_rfl) (fun K hK => ?_)
      go_simp
      have F357 := F356.new 76 #[.int .i64 m.fr, .int .i64 m.to, .int .i64 m.li.lo, .int .i64 m.li.hi, .int .i64 r44, .int .i64 r52, .int .i64 lo58, .int .i64 hi59, .int .i64 m.fr, .int .i64 m.to, .int .i64 m.li.lo, .int .i64 m.li.hi] (n := w355.heap.size) (by simp)
      clear F356
      refine ru_back hK (by exact ⟨F357.cl 7 0 rfl rfl, F357.cl 7 1 rfl rfl, F357.cl 3 0 rfl rfl, F357.cl 3 1 rfl rfl, F357.cl 6 0 rfl rfl, F357.cl 6 1 rfl rfl, F357.cl 6 2 rfl rfl, F357.cl 6 3 rfl rfl, F357.cl 2 0 rfl rfl, F357.cl 2 1 rfl rfl, F357.cl 2 2 rfl rfl, F357.cl 2 3 rfl rfl⟩) (fun _ => ?_)
      exact hZ351.out _ _ _ (by kernel_rfl) (by kernel_rfl) rfl ⟨yg3, w355.heap.size, (by kernel_rfl), (by kernel_rfl), (by first | omega | (simp; done) | (simp; omega)), F357⟩
    intro hZ354
    refine ru_state 135 (fun t w_ => ∃ (yg7 : Nat), t 52 = .agg #[.slice aa b.accs.length ak, .slice ma b.mvs.length mk] ∧ t 53 = .agg #[.slice pa34 bb.accs.length pc35, .slice pa36 bb.mvs.length pc37] ∧ t 54 = .agg #[.slice pa34 bb.accs.length pc35, .slice pa36 bb.mvs.length pc37] ∧ t 59 = .slice (some ⟨yg7, 0, none⟩) 3 3 ∧ w66.heap.size ≤ w_.heap.size ∧ Bun w [rbox yg7 76 #[.int .i64 m.fr, .int .i64 m.to, .int .i64 m.li.lo, .int .i64 m.li.hi, .int .i64 r44, .int .i64 r52, .int .i64 lo58, .int .i64 hi59, .int .i64 m.fr, .int .i64 m.to, .int .i64 m.li.lo, .int .i64 m.li.hi], rbox w63.heap.size 76 #[.int .i64 r44, .int .i64 r52, .int .i64 lo58, .int .i64 hi59], rbox w31.heap.size 25 #[.slice pa34 bb.accs.length pc35, .slice pa36 bb.mvs.length pc37], rown accEnc 79 6 w28.heap.size (.slice pa34 bb.accs.length pc35) bb.accs, rown mvEnc 76 4 w28.heap.size (.slice pa36 bb.mvs.length pc37) bb.mvs, rbox (w.heap.size + 1) 76 #[.int .i64 m.fr, .int .i64 m.to, .int .i64 m.li.lo, .int .i64 m.li.hi], rbox w.heap.size 25 #[.slice aa b.accs.length ak, .slice ma b.mvs.length mk], rsl mvEnc 4 0 w.heap.size (.slice ma b.mvs.length mk) b.mvs, rsl accEnc 6 0 w.heap.size (.slice aa b.accs.length ak) b.accs] w_) #[true, true, true, false, true, true, true, true, false, false] 3 ?st358 ?nx358
    case st358 =>
      rintro t w359 ⟨yg7, e52, e53, e54, e59, hsz358, F360⟩
      clear F70
      rw [rng_refines_walk t, e52, e53, e54, e59]
      clear e52 e53 e54 e59
      have hws358 := F360.gb.size
      have yg7l := F360.ltAt 0 rfl yg7 rfl
      have yg7b := yg7l.2 rfl
      refine ru_one 3 rfl (by kernel_rfl) (fun K hK => ?_)
      go_simp
      have F361 := F360.new 25 #[.slice aa b.accs.length ak, .slice ma b.mvs.length mk, .slice pa34 bb.accs.length pc35, .slice pa36 bb.mvs.length pc37, .slice pa34 bb.accs.length pc35, .slice pa36 bb.mvs.length pc37] (n := w359.heap.size) (by simp)
      clear F360
      refine ru_back hK (by exact ⟨F361.cl 7 0 rfl rfl, F361.cl 7 1 rfl rfl, F361.cl 3 0 rfl rfl, F361.cl 3 1 rfl rfl, F361.cl 6 0 rfl rfl, F361.cl 6 1 rfl rfl, F361.cl 6 2 rfl rfl, F361.cl 6 3 rfl rfl, F361.cl 2 0 rfl rfl, F361.cl 2 1 rfl rfl, F361.cl 2 2 rfl rfl, F361.cl 2 3 rfl rfl⟩) (fun hHeld => ?_)
      clear hK K
      (try simp only [Act.put, List.setIfInBounds_toArray, List.set_cons_zero, List.set_cons_succ])
      refine ru_p 8 ?_
      (try simp only [Act.put, List.setIfInBounds_toArray, List.set_cons_zero, List.set_cons_succ])
      exact hZ351.out _ _ _ (by kernel_rfl) (by kernel_rfl) rfl ⟨w359.heap.size, yg7, (by kernel_rfl), (by kernel_rfl), (by first | omega | (simp; done) | (simp; omega)), (F361.pick [1, 0, 2, 3, 4, 5, 6, 7, 8, 9] (by decide) rfl)⟩
    intro hZ358
    refine ru_two 3 7 rfl rfl (by kernel_rfl) ?_ ?_
    · intro K hK
      go_simp
      have F362 := F70.new 25 #[.slice aa b.accs.length ak, .slice ma b.mvs.length mk, .slice pa34 bb.accs.length pc35, .slice pa36 bb.mvs.length pc37, .slice pa34 bb.accs.length pc35, .slice pa36 bb.mvs.length pc37] (n := wd72.heap.size) (by simp)
      clear F70
      refine ru_back hK (by exact ⟨F362.cl 6 0 rfl rfl, F362.cl 6 1 rfl rfl, F362.cl 2 0 rfl rfl, F362.cl 2 1 rfl rfl, F362.cl 5 0 rfl rfl, F362.cl 5 1 rfl rfl, F362.cl 5 2 rfl rfl, F362.cl 5 3 rfl rfl, F362.cl 1 0 rfl rfl, F362.cl 1 1 rfl rfl, F362.cl 1 2 rfl rfl, F362.cl 1 3 rfl rfl⟩) (fun hHeld => ?_)
      clear hK K
      (try simp only [Act.put, List.setIfInBounds_toArray, List.set_cons_zero, List.set_cons_succ])
      refine ru_p 8 ?_
      (try simp only [Act.put, List.setIfInBounds_toArray, List.set_cons_zero, List.set_cons_succ])
      exact hZ354.out _ _ _ (by kernel_rfl) (by kernel_rfl) rfl ⟨wd72.heap.size, (by kernel_rfl), (by kernel_rfl), (by kernel_rfl), (by kernel_rfl), (by first | omega | (simp; done) | (simp; omega)), F362⟩
    · intro K hK
      go_simp
      have F363 := F70.new 76 #[.int .i64 m.fr, .int .i64 m.to, .int .i64 m.li.lo, .int .i64 m.li.hi, .int .i64 r44, .int .i64 r52, .int .i64 lo58, .int .i64 hi59, .int .i64 m.fr, .int .i64 m.to, .int .i64 m.li.lo, .int .i64 m.li.hi] (n := wd72.heap.size) (by simp)
      clear F70
      refine ru_back hK (by exact ⟨F363.cl 6 0 rfl rfl, F363.cl 6 1 rfl rfl, F363.cl 2 0 rfl rfl, F363.cl 2 1 rfl rfl, F363.cl 5 0 rfl rfl, F363.cl 5 1 rfl rfl, F363.cl 5 2 rfl rfl, F363.cl 5 3 rfl rfl, F363.cl 1 0 rfl rfl, F363.cl 1 1 rfl rfl, F363.cl 1 2 rfl rfl, F363.cl 1 3 rfl rfl⟩) (fun _ => ?_)
      exact hZ358.out _ _ _ (by kernel_rfl) (by kernel_rfl) rfl ⟨wd72.heap.size, (by kernel_rfl), (by kernel_rfl), (by kernel_rfl), (by kernel_rfl), (by first | omega | (simp; done) | (simp; omega)), F363⟩
  · skip
    have c11H := Lib.hid c11
    go_wp2_with fail
    refine (awake_c _).mono ?_
    rintro e w366 ⟨rfl, hg364⟩
    have hg364s := hg364.size
    (try simp at hg364s)
    have F367 := F10.gn hg364
    clear F10
    clear hg364
    go_wp2_with fail
    go_ret
    exact ⟨rfl, F367.gb⟩

end Go.Proofs.Ytfifldbinnkdmaa
