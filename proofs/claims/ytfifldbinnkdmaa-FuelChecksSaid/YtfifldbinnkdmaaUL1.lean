/- fuel: FuelChecks walked. -/
import Derived.Test.YtfifldbinnkdmaaBal1
import Derived.Test.YtfifldbinnkdmaaBal2
import Derived.Test.YtfifldbinnkdmaaBookOf
import Derived.Test.YtfifldbinnkdmaaKitB2
import Derived.Test.YtfifldbinnkdmaaWake
import Derived.Test.YtfifldbinnkdmaaKit1
import Derived.Test.YtfifldbinnkdmaaKit3
import Derived.Test.YtfifldbinnkdmaaOpenB
import Derived.Test.YtfifldbinnkdmaaK1
import Derived.Test.YtfifldbinnkdmaaNewS
set_option linter.unusedVariables false
set_option linter.unusedSimpArgs false
set_option linter.unnecessarySimpa false
namespace Go.Proofs.Ytfifldbinnkdmaa
open Go.RowKit Go.Shelf
set_option maxRecDepth 100000

theorem bt_names' {accounts moves : Nat} {L W : Int} {b : Bok} {O C V : List Int} (h : BookTruth accounts moves L W b O C V) (h8 : accounts ≤ 8) : nameOk b.accs := by
  have key : ∀ k, k < 8 → (nmAt k).size ≤ maxLen := by decide +kernel
  intro a ha
  obtain ⟨i, hi, rfl⟩ := List.getElem_of_mem ha
  have h1 := (h.acc i hi).name
  rw [ga_get hi] at h1
  rw [h1]
  exact key i (by have := h.n8; omega)
def BalS (b : Bok) (O C V : List Int) (w : World) : Ending → World → Prop := fun e w' => ∃ (a : Option Addr) (c lo hi : Nat), e = .returned (.tuple #[.slice a (balL b O C V).length c, .int .i64 (balE b O C V)]) ∧ (w.heap.size ≤ lo ∧ hi ≤ w'.heap.size) ∧ Sl intEnc 1 lo hi w' (.slice a (balL b O C V).length c) (balL b O C V) ∧ w.grownBy w' none
theorem BalPost.s {b : Bok} {w : World} {O C V : List Int} {e : Ending} {w' : World} (h : BalPost b O C V w e w') : BalS b O C V w e w' := by
  obtain ⟨v, rfl, hs, hg⟩ := h
  obtain ⟨a, c, rfl⟩ := hs.any
  exact ⟨a, c, _, _, rfl, ⟨Nat.le_refl _, Nat.le_refl _⟩, hs, hg⟩
section
variable (l1 h1 l2 h2 : Nat) (va vm : Value) (b : Bok) (w : World) (ha : Accs l1 h1 w va b.accs) (hm : Mvs l2 h2 w vm b.mvs) (b1 : h1 ≤ w.heap.size) (b2 : h2 ≤ w.heap.size)
include ha hm b1 b2
theorem wideB : HasB 0 w.heap.size w va vm b := ⟨Sl.wide ha (Nat.zero_le _) b1, Sl.wide hm (Nat.zero_le _) b2⟩
theorem rCheck2 (hn : nameOk b.accs) : Calls Try.prog 45 #[.agg #[va, vm]] w (Ret (.int .i64 (checkE b)) w) := rCheck_c 0 w.heap.size va vm b w (wideB l1 h1 l2 h2 va vm b w ha hm b1 b2) hn (Nat.le_refl _)
theorem ownBook2 (hs1 : b.accs.length ≤ 100000000000) (hs2 : b.mvs.length ≤ 100000000000) : Calls Try.prog 19 #[.agg #[va, vm]] w (fun e w' => ∃ (a1 : Option Addr) (c1 : Nat) (a2 : Option Addr) (c2 lo hi : Nat), e = .returned (.agg #[.slice a1 b.accs.length c1, .slice a2 b.mvs.length c2]) ∧ (w.heap.size ≤ lo ∧ hi ≤ w'.heap.size) ∧ HasB lo hi w' (.slice a1 b.accs.length c1) (.slice a2 b.mvs.length c2) b ∧ w.grownBy w' none) := by
  refine (ownBook_c 0 w.heap.size va vm b w (wideB l1 h1 l2 h2 va vm b w ha hm b1 b2) (Nat.le_refl _) hs1 hs2).mono ?_
  rintro e w' ⟨va', vm', rfl, hB, hg⟩
  obtain ⟨a1, c1, a2, c2, rfl, rfl⟩ := hB.vals
  exact ⟨a1, c1, a2, c2, _, _, rfl, ⟨Nat.le_refl _, Nat.le_refl _⟩, hB, hg⟩
theorem sameBooks2 (l3 h3 l4 h4 : Nat) (va' vm' : Value) (ha' : Accs l3 h3 w va' b.accs) (hm' : Mvs l4 h4 w vm' b.mvs) (b3 : h3 ≤ w.heap.size) (b4 : h4 ≤ w.heap.size) : Calls Try.prog 26 #[.agg #[va, vm], .agg #[va', vm']] w (Ret (.bool true) w) :=
  sameBooks_c 0 w.heap.size 0 w.heap.size va vm va' vm' b w (wideB l1 h1 l2 h2 va vm b w ha hm b1 b2) (wideB l3 h3 l4 h4 va' vm' b w ha' hm' b3 b4)
variable (hn : nameOk b.accs) (o1 o2 o3 o4 o5 o6 : Nat) (vo vc vv : Value) (O C V : List Int) (ho : Ints o1 o2 w vo O) (q1 : o2 ≤ w.heap.size) (hc : Ints o3 o4 w vc C) (q2 : o4 ≤ w.heap.size) (hv : Ints o5 o6 w vv V) (q3 : o6 ≤ w.heap.size)
include hn ho q1 hc q2 hv q3
theorem balance2 : Calls Try.prog 42 #[.agg #[va, vm], .agg #[vo, vc, vv]] w (BalS b O C V w) :=
  (balance_c 0 w.heap.size va vm b o1 o2 o3 o4 o5 o6 vo vc vv O C V w (wideB l1 h1 l2 h2 va vm b w ha hm b1 b2) hn (Nat.le_refl _) ho q1 hc q2 hv q3).mono fun _ _ h => BalPost.s h
theorem rbalance2 : Calls Try.prog 43 #[.agg #[va, vm], .agg #[vo, vc, vv]] w (BalS b O C V w) :=
  (rbalance_c 0 w.heap.size va vm b o1 o2 o3 o4 o5 o6 vo vc vv O C V w (wideB l1 h1 l2 h2 va vm b w ha hm b1 b2) hn (Nat.le_refl _) ho q1 hc q2 hv q3).mono fun _ _ h => BalPost.s h
end
def SlInts (l : List Int) (w : World) : Ending → World → Prop := fun e w' => ∃ (a : Option Addr) (c lo hi : Nat), e = .returned (.slice a l.length c) ∧ (w.heap.size ≤ lo ∧ hi ≤ w'.heap.size) ∧ Sl intEnc 1 lo hi w' (.slice a l.length c) l ∧ w.grownBy w' none
theorem own_s (lo hi : Nat) (v : Value) (l : List Int) (w : World) (h : Ints lo hi w v l) (hb : l.length ≤ 100000000000) : Calls Try.prog 29 #[v] w (SlInts l w) := by
  refine (own_c lo hi v l w h hb).mono ?_
  rintro e w' ⟨v', rfl, hs, hg⟩
  obtain ⟨a, c, rfl⟩ := hs.any
  exact ⟨a, c, _, _, rfl, ⟨Nat.le_refl _, Nat.le_refl _⟩, hs, hg⟩
theorem same_t (lo hi lo' hi' : Nat) (v v' : Value) (l : List Int) (w : World) (hx : Ints lo hi w v l) (hy : Ints lo' hi' w v' l) : Calls Try.prog 25 #[v, v'] w (Ret (.bool true) w) := by
  have h := same_c lo hi lo' hi' v v' l l w hx hy
  rw [sameB_self] at h
  exact h
theorem rng_checks_walk (t : Nat → Value) : ((List.range 186).map t).toArray = List.toArray [t 0, t 1, t 2, t 3, t 4, t 5, t 6, t 7, t 8, t 9, t 10, t 11, t 12, t 13, t 14, t 15, t 16, t 17, t 18, t 19, t 20, t 21, t 22, t 23, t 24, t 25, t 26, t 27, t 28, t 29, t 30, t 31, t 32, t 33, t 34, t 35, t 36, t 37, t 38, t 39, t 40, t 41, t 42, t 43, t 44, t 45, t 46, t 47, t 48, t 49, t 50, t 51, t 52, t 53, t 54, t 55, t 56, t 57, t 58, t 59, t 60, t 61, t 62, t 63, t 64, t 65, t 66, t 67, t 68, t 69, t 70, t 71, t 72, t 73, t 74, t 75, t 76, t 77, t 78, t 79, t 80, t 81, t 82, t 83, t 84, t 85, t 86, t 87, t 88, t 89, t 90, t 91, t 92, t 93, t 94, t 95, t 96, t 97, t 98, t 99, t 100, t 101, t 102, t 103, t 104, t 105, t 106, t 107, t 108, t 109, t 110, t 111, t 112, t 113, t 114, t 115, t 116, t 117, t 118, t 119, t 120, t 121, t 122, t 123, t 124, t 125, t 126, t 127, t 128, t 129, t 130, t 131, t 132, t 133, t 134, t 135, t 136, t 137, t 138, t 139, t 140, t 141, t 142, t 143, t 144, t 145, t 146, t 147, t 148, t 149, t 150, t 151, t 152, t 153, t 154, t 155, t 156, t 157, t 158, t 159, t 160, t 161, t 162, t 163, t 164, t 165, t 166, t 167, t 168, t 169, t 170, t 171, t 172, t 173, t 174, t 175, t 176, t 177, t 178, t 179, t 180, t 181, t 182, t 183, t 184, t 185] := rfl
set_option maxHeartbeats 16000000 in
theorem checks_walk (va vm : Value) (b : Bok) (vo vc vv : Value) (O C V : List Int) (vn : Value) (zs : List Int) (w : World) (hb : HasB 0 w.heap.size w va vm b) (hn : nameOk b.accs) (ho : Ints 0 w.heap.size w vo O) (hc : Ints 0 w.heap.size w vc C) (hv : Ints 0 w.heap.size w vv V) (hz : Ints 0 w.heap.size w vn zs) :
    Calls Try.prog 6 #[.agg #[va, vm], .agg #[vo, vc, vv], vn] w (Ret (.bool true) w) := by
  have F1 : Bun w [] w := Bun.nil _
  obtain ⟨hba, hbm⟩ := id hb
  clear hb
  have hm_ac := hba.len
  unfold maxLen at hm_ac
  obtain ⟨aa, ak, rfl⟩ := hba.any
  have F2 := F1.sl0 hba (Nat.le_refl _) rfl
  clear F1
  clear hba
  have hm_mv := hbm.len
  unfold maxLen at hm_mv
  obtain ⟨ma, mk, rfl⟩ := hbm.any
  have F3 := F2.sl0 hbm (Nat.le_refl _) rfl
  clear F2
  clear hbm
  have HN := Lib.hid hn
  clear hn
  have hm_to := ho.len
  unfold maxLen at hm_to
  obtain ⟨toa, tok, rfl⟩ := ho.any
  have F4 := F3.sl0 ho (Nat.le_refl _) rfl
  clear F3
  clear ho
  have hm_tc := hc.len
  unfold maxLen at hm_tc
  obtain ⟨tca, tck, rfl⟩ := hc.any
  have F5 := F4.sl0 hc (Nat.le_refl _) rfl
  clear F4
  clear hc
  have hm_tv := hv.len
  unfold maxLen at hm_tv
  obtain ⟨tva, tvk, rfl⟩ := hv.any
  have F6 := F5.sl0 hv (Nat.le_refl _) rfl
  clear F5
  clear hv
  obtain ⟨na, nc, rfl⟩ := hz.any
  have hm_nums := hz.len
  unfold maxLen at hm_nums
  have F7 := F6.sl0 hz (Nat.le_refl _) rfl
  clear F6
  clear hz
  go_enter Try.func6, Try.ntmps6
  go_wp2_with fail
  have F8 := F7.new 25 #[.slice aa b.accs.length ak, .slice ma b.mvs.length mk] (n := w.heap.size) (by simp)
  clear F7
  have F9 := F8.new 32 #[.slice toa O.length tok, .slice tca C.length tck, .slice tva V.length tvk] (n := (w.heap.size + 1)) (by simp)
  clear F8
  refine (big_c 0 w.heap.size _ _ b _ ⟨(F9.at 7 rfl : Sl accEnc 6 0 w.heap.size _ (.slice aa b.accs.length ak) b.accs), (F9.at 6 rfl : Sl mvEnc 4 0 w.heap.size _ (.slice ma b.mvs.length mk) b.mvs)⟩ HN.out).mono ?_
  rintro e w12 ⟨rb, rfl, hrb, hg10⟩
  have hg10s := hg10.size
  (try simp at hg10s)
  have F13 := F9.gn hg10
  clear F9
  clear hg10
  cases c14 : rb
  · skip
    have c14H := Lib.hid c14
    have hlen := hrb (by first | exact c14 | rfl)
    clear hrb
    by_cases c15 : 50 < (O.length : Int)
    · skip
      have c15H := Lib.hid c15
      have b16 := F13.bx3 0 rfl
      go_wp2_with fail
      clear b16
      refine (awake_c _).mono ?_
      rintro e w19 ⟨rfl, hg17⟩
      have hg17s := hg17.size
      (try simp at hg17s)
      have F20 := F13.gn hg17
      clear F13
      clear hg17
      go_wp2_with fail
      go_ret
      exact ⟨rfl, F20.gb⟩
    · skip
      have c15H := Lib.hid c15
      have c15a : decide (50 < (O.length : Int)) = false := dec_f c15
      by_cases c21 : 50 < (C.length : Int)
      · skip
        have c21H := Lib.hid c21
        have b22 := F13.bx3 0 rfl
        go_wp2_with fail
        clear b22
        refine (awake_c _).mono ?_
        rintro e w25 ⟨rfl, hg23⟩
        have hg23s := hg23.size
        (try simp at hg23s)
        have F26 := F13.gn hg23
        clear F13
        clear hg23
        go_wp2_with fail
        go_ret
        exact ⟨rfl, F26.gb⟩
      · skip
        have c21H := Lib.hid c21
        have c21a : decide (50 < (C.length : Int)) = false := dec_f c21
        by_cases c27 : 50 < (V.length : Int)
        · skip
          have c27H := Lib.hid c27
          have b28 := F13.bx3 0 rfl
          go_wp2_with fail
          clear b28
          refine (awake_c _).mono ?_
          rintro e w31 ⟨rfl, hg29⟩
          have hg29s := hg29.size
          (try simp at hg29s)
          have F32 := F13.gn hg29
          clear F13
          clear hg29
          go_wp2_with fail
          go_ret
          exact ⟨rfl, F32.gb⟩
        · skip
          have c27H := Lib.hid c27
          have c27a : decide (50 < (V.length : Int)) = false := dec_f c27
          have b33 := F13.bx3 0 rfl
          go_wp2_with fail
          clear b33
          refine (newSeed_c 0 w.heap.size _ zs _ (F13.at 2 rfl : Sl intEnc 1 0 w.heap.size _ (.slice na zs.length nc) zs)).mono ?_
          rintro e w36 ⟨sb, rfl, hsb, hsbs, hg34⟩
          have hsbl := hsbs.lt
          have hg34s := hg34.size
          (try simp at hg34s)
          have F37 := F13.add (rseed sb) hg34 (hsbs) (fun g e => by cases e; exact ⟨hsb, hsbs.lt⟩)
          clear F13
          clear hg34
          go_wp2_with fail
          have F40 := F37.new 3 #[.int .i64 0, .int .i64 3, .int .i64 50] (n := w36.heap.size) (by simp)
          clear F37
          refine (of3_c sb _ w36.heap.size 3 0 3 50 (F40.at 1 rfl : SeedAt _ sb) (by omega) (F40.cl 0 0 rfl rfl) (F40.cl 0 1 rfl rfl) (F40.cl 0 2 rfl rfl)).mono ?_
          rintro e w43 ⟨r38, rfl, hr39, hs42, hg41⟩
          have hg41s := hg41.size
          (try simp at hg41s)
          have F44 := F40.seedAt 1 rfl hg41 hs42
          clear F40
          clear hg41
          go_wp2_with fail
          refine (bookOf_b sb 6 8 1000 r38 _ ((F44.front 1 rfl rfl).at 0 rfl : SeedAt _ sb) (by omega) (by omega) (by omega) (by omega)).mono ?_
          rintro e w46 ⟨va_, vm_, bb, vo_, vc_, vv_, OO, CC, VV, rfl, hT, hB47⟩
          have hB47s := hB47.gb.size
          (try simp at hB47s)
          have F48 := (F44.front 1 rfl rfl).join (L2 := [rown accEnc 79 6 w43.heap.size va_ bb.accs, rown mvEnc 76 4 w43.heap.size vm_ bb.mvs, rown intEnc 3 1 w43.heap.size vo_ OO, rown intEnc 3 1 w43.heap.size vc_ CC, rown intEnc 3 1 w43.heap.size vv_ VV]) hB47 rfl
          clear F44
          clear hB47
          (try dsimp only [List.cons_append, List.nil_append] at F48)
          have HNB := Lib.hid (bt_names' hT (by omega))
          have hb8 := hT.n8
          have hb1 := hT.n0
          have hb10 := hT.m
          have hol := hT.olen
          have hcl := hT.clen
          have hvl := hT.vlen
          have hll : ((OO.length ≤ bb.accs.length ∧ bb.accs.length ≤ OO.length) ∧ CC.length ≤ bb.accs.length ∧ bb.accs.length ≤ CC.length) ∧ VV.length ≤ bb.mvs.length ∧ bb.mvs.length ≤ VV.length := by omega
          have HTB := Lib.hid hT
          clear hT hol hcl hvl
          obtain ⟨pa49, pc50, e_⟩ := (Own.sl (F48.at 0 rfl : Own accEnc 79 6 w43.heap.size _ va_ bb.accs) (fun _ => rfl)).any
          subst e_
          obtain ⟨pa51, pc52, e_⟩ := (Own.sl (F48.at 1 rfl : Own mvEnc 76 4 w43.heap.size _ vm_ bb.mvs) (fun _ => rfl)).any
          subst e_
          obtain ⟨pa53, pc54, e_⟩ := (Own.sl (F48.at 2 rfl : Own intEnc 3 1 w43.heap.size _ vo_ OO) (fun _ => rfl)).any
          subst e_
          obtain ⟨pa55, pc56, e_⟩ := (Own.sl (F48.at 3 rfl : Own intEnc 3 1 w43.heap.size _ vc_ CC) (fun _ => rfl)).any
          subst e_
          obtain ⟨pa57, pc58, e_⟩ := (Own.sl (F48.at 4 rfl : Own intEnc 3 1 w43.heap.size _ vv_ VV) (fun _ => rfl)).any
          subst e_
          go_wp2_with fail
          have F59 := F48.new 25 #[.slice pa49 bb.accs.length pc50, .slice pa51 bb.mvs.length pc52] (n := w46.heap.size) (by simp)
          clear F48
          have F60 := F59.new 32 #[.slice pa53 OO.length pc54, .slice pa55 CC.length pc56, .slice pa57 VV.length pc58] (n := (w46.heap.size + 1)) (by simp)
          clear F59
          have Fn_ := (F60.drop 8 rfl)
          (try dsimp only [List.eraseIdx_cons_succ, List.eraseIdx_cons_zero] at Fn_)
          obtain ⟨w61, hx62, F64, hxs63⟩ := Fn_.name
          (try simp at hxs63)
          rw [hx62]
          clear hx62 F60 Fn_
          rename_i k2_ hk2_ k1_ hk1_ k0_ hk0_
          refine cut_then (K0 := k2_) 186 (fun t wr => ∃ (C3 : List Int), t 3 = .pointer (some ⟨w.heap.size, 0, none⟩) ∧ t 4 = .pointer (some ⟨w.heap.size + 1, 0, none⟩) ∧ t 8 = .pointer (some ⟨w46.heap.size, 0, none⟩) ∧ t 9 = .pointer (some ⟨w46.heap.size + 1, 0, none⟩) ∧ w61.heap.size ≤ wr.heap.size ∧ (C3.length ≤ CC.length ∧ CC.length ≤ C3.length) ∧ Bun w [rbox (w46.heap.size + 1) 32 #[.slice pa53 OO.length pc54, .slice pa55 CC.length pc56, .slice pa57 VV.length pc58], rbox w46.heap.size 25 #[.slice pa49 bb.accs.length pc50, .slice pa51 bb.mvs.length pc52], rown accEnc 79 6 w43.heap.size (.slice pa49 bb.accs.length pc50) bb.accs, rown mvEnc 76 4 w43.heap.size (.slice pa51 bb.mvs.length pc52) bb.mvs, rown intEnc 3 1 w43.heap.size (.slice pa53 OO.length pc54) OO, rown intEnc 3 1 w43.heap.size (.slice pa55 CC.length pc56) C3, rown intEnc 3 1 w43.heap.size (.slice pa57 VV.length pc58) VV, rseed sb, rbox (w.heap.size + 1) 32 #[.slice toa O.length tok, .slice tca C.length tck, .slice tva V.length tvk], rbox w.heap.size 25 #[.slice aa b.accs.length ak, .slice ma b.mvs.length mk], rsl intEnc 1 0 w.heap.size (.slice na zs.length nc) zs, rsl intEnc 1 0 w.heap.size (.slice tva V.length tvk) V, rsl intEnc 1 0 w.heap.size (.slice tca C.length tck) C, rsl intEnc 1 0 w.heap.size (.slice toa O.length tok) O, rsl mvEnc 4 0 w.heap.size (.slice ma b.mvs.length mk) b.mvs, rsl accEnc 6 0 w.heap.size (.slice aa b.accs.length ak) b.accs] wr) ?first4 ?rest4
          case rest4 =>
            rintro t wr ⟨C3, e3, e4, e8, e9, hrel⟩
            have e : ((List.range 186).map t).toArray = #[t 0, t 1, t 2, t 3, t 4, t 5, t 6, t 7, t 8, t 9, t 10, t 11, t 12, t 13, t 14, t 15, t 16, t 17, t 18, t 19, t 20, t 21, t 22, t 23, t 24, t 25, t 26, t 27, t 28, t 29, t 30, t 31, t 32, t 33, t 34, t 35, t 36, t 37, t 38, t 39, t 40, t 41, t 42, t 43, t 44, t 45, t 46, t 47, t 48, t 49, t 50, t 51, t 52, t 53, t 54, t 55, t 56, t 57, t 58, t 59, t 60, t 61, t 62, t 63, t 64, t 65, t 66, t 67, t 68, t 69, t 70, t 71, t 72, t 73, t 74, t 75, t 76, t 77, t 78, t 79, t 80, t 81, t 82, t 83, t 84, t 85, t 86, t 87, t 88, t 89, t 90, t 91, t 92, t 93, t 94, t 95, t 96, t 97, t 98, t 99, t 100, t 101, t 102, t 103, t 104, t 105, t 106, t 107, t 108, t 109, t 110, t 111, t 112, t 113, t 114, t 115, t 116, t 117, t 118, t 119, t 120, t 121, t 122, t 123, t 124, t 125, t 126, t 127, t 128, t 129, t 130, t 131, t 132, t 133, t 134, t 135, t 136, t 137, t 138, t 139, t 140, t 141, t 142, t 143, t 144, t 145, t 146, t 147, t 148, t 149, t 150, t 151, t 152, t 153, t 154, t 155, t 156, t 157, t 158, t 159, t 160, t 161, t 162, t 163, t 164, t 165, t 166, t 167, t 168, t 169, t 170, t 171, t 172, t 173, t 174, t 175, t 176, t 177, t 178, t 179, t 180, t 181, t 182, t 183, t 184, t 185] := rfl
            (try dsimp only at e)
            rw [e3, e4, e8, e9] at e
            rw [e]
            clear e e3 e4 e8 e9
            obtain ⟨hs66, hc3, hF65⟩ := hrel
            clear F64
            obtain ⟨w67, rfl⟩ : ∃ x_ : World, x_ = wr := ⟨_, rfl⟩
            refine hk2_ _ _ ?_
            clear hk2_
            go_wp2_with fail
            have F68 := hF65.drew
            clear hF65
            refine ru_begin (fun W => W.cell? ⟨w.heap.size, 0, none⟩ = some (.slice aa b.accs.length ak) ∧ W.cell? ⟨w.heap.size, 1, none⟩ = some (.slice ma b.mvs.length mk) ∧ W.cell? ⟨w46.heap.size, 0, none⟩ = some (.slice pa49 bb.accs.length pc50) ∧ W.cell? ⟨w46.heap.size, 1, none⟩ = some (.slice pa51 bb.mvs.length pc52) ∧ W.cell? ⟨(w.heap.size + 1), 0, none⟩ = some (.slice toa O.length tok) ∧ W.cell? ⟨(w.heap.size + 1), 1, none⟩ = some (.slice tca C.length tck) ∧ W.cell? ⟨(w.heap.size + 1), 2, none⟩ = some (.slice tva V.length tvk) ∧ W.cell? ⟨(w46.heap.size + 1), 0, none⟩ = some (.slice pa53 OO.length pc54) ∧ W.cell? ⟨(w46.heap.size + 1), 1, none⟩ = some (.slice pa55 CC.length pc56) ∧ W.cell? ⟨(w46.heap.size + 1), 2, none⟩ = some (.slice pa57 VV.length pc58)) 9 (by kernel_rfl) ?_ ?_
            · exact ⟨F68.cl 9 0 rfl rfl, F68.cl 9 1 rfl rfl, F68.cl 1 0 rfl rfl, F68.cl 1 1 rfl rfl, F68.cl 8 0 rfl rfl, F68.cl 8 1 rfl rfl, F68.cl 8 2 rfl rfl, F68.cl 0 0 rfl rfl, F68.cl 0 1 rfl rfl, F68.cl 0 2 rfl rfl⟩
            obtain ⟨wd70, hwd_⟩ : ∃ x : World, w67.drew = x := ⟨_, rfl⟩
            rw [hwd_] at F68 ⊢
            have wd70s : w67.heap.size ≤ wd70.heap.size := by rw [← hwd_]; exact Nat.le_refl _
            clear hwd_
            have hS69 := (And.intro (F68.cl 9 0 rfl rfl) (And.intro (F68.cl 9 1 rfl rfl) (And.intro (F68.cl 1 0 rfl rfl) (And.intro (F68.cl 1 1 rfl rfl) (And.intro (F68.cl 8 0 rfl rfl) (And.intro (F68.cl 8 1 rfl rfl) (And.intro (F68.cl 8 2 rfl rfl) (And.intro (F68.cl 0 0 rfl rfl) (And.intro (F68.cl 0 1 rfl rfl) (F68.cl 0 2 rfl rfl))))))))))
            refine ru_t 0 [] ?_
            refine ru_t 1 [] ?_
            refine ru_t 2 [] ?_
            refine ru_t 4 [] ?_
            refine ru_t 5 [] ?_
            refine ru_t 6 [] ?_
            (try simp only [Act.put, List.setIfInBounds_toArray, List.set_cons_zero, List.set_cons_succ])
            clear hS69
            have hSS := ru_hS F68 (S := fun W => W.cell? ⟨w.heap.size, 0, none⟩ = some (.slice aa b.accs.length ak) ∧ W.cell? ⟨w.heap.size, 1, none⟩ = some (.slice ma b.mvs.length mk) ∧ W.cell? ⟨w46.heap.size, 0, none⟩ = some (.slice pa49 bb.accs.length pc50) ∧ W.cell? ⟨w46.heap.size, 1, none⟩ = some (.slice pa51 bb.mvs.length pc52) ∧ W.cell? ⟨(w.heap.size + 1), 0, none⟩ = some (.slice toa O.length tok) ∧ W.cell? ⟨(w.heap.size + 1), 1, none⟩ = some (.slice tca C.length tck) ∧ W.cell? ⟨(w.heap.size + 1), 2, none⟩ = some (.slice tva V.length tvk) ∧ W.cell? ⟨(w46.heap.size + 1), 0, none⟩ = some (.slice pa53 OO.length pc54) ∧ W.cell? ⟨(w46.heap.size + 1), 1, none⟩ = some (.slice pa55 CC.length pc56) ∧ W.cell? ⟨(w46.heap.size + 1), 2, none⟩ = some (.slice pa57 VV.length pc58)) (fun _ _ F_ => ⟨F_.cl 9 0 rfl rfl, F_.cl 9 1 rfl rfl, F_.cl 1 0 rfl rfl, F_.cl 1 1 rfl rfl, F_.cl 8 0 rfl rfl, F_.cl 8 1 rfl rfl, F_.cl 8 2 rfl rfl, F_.cl 0 0 rfl rfl, F_.cl 0 1 rfl rfl, F_.cl 0 2 rfl rfl⟩)
            refine ru_mixN 186 [⟨3, 73, 25, fun t => #[.slice aa b.accs.length ak, .slice ma b.mvs.length mk, .slice pa49 bb.accs.length pc50, .slice pa51 bb.mvs.length pc52, .slice pa49 bb.accs.length pc50, .slice pa51 bb.mvs.length pc52], fun g => .slice (some ⟨g, 0, none⟩) 3 3, fun t => t 70 = .agg #[.slice aa b.accs.length ak, .slice ma b.mvs.length mk] ∧ t 71 = .agg #[.slice pa49 bb.accs.length pc50, .slice pa51 bb.mvs.length pc52] ∧ t 72 = .agg #[.slice pa49 bb.accs.length pc50, .slice pa51 bb.mvs.length pc52]⟩, ⟨7, 77, 32, fun t => #[.slice toa O.length tok, .slice tca C.length tck, .slice tva V.length tvk, .slice pa53 OO.length pc54, .slice pa55 CC.length pc56, .slice pa57 VV.length pc58, .slice toa O.length tok, .slice tca C.length tck, .slice tva V.length tvk], fun g => .slice (some ⟨g, 0, none⟩) 3 3, fun t => t 74 = .agg #[.slice toa O.length tok, .slice tca C.length tck, .slice tva V.length tvk] ∧ t 75 = .agg #[.slice pa53 OO.length pc54, .slice pa55 CC.length pc56, .slice pa57 VV.length pc58] ∧ t 76 = .agg #[.slice toa O.length tok, .slice tca C.length tck, .slice tva V.length tvk]⟩] [⟨8, 11, 3, 73⟩, ⟨9, 12, 7, 77⟩] [] F68 (by kernel_rfl) (by kernel_rfl) (by kernel_rfl) (fun _ _ _ _ _ h => h) (U0 := (fun t => t 70 = .agg #[.slice aa b.accs.length ak, .slice ma b.mvs.length mk] ∧ t 71 = .agg #[.slice pa49 bb.accs.length pc50, .slice pa51 bb.mvs.length pc52] ∧ t 72 = .agg #[.slice pa49 bb.accs.length pc50, .slice pa51 bb.mvs.length pc52] ∧ t 74 = .agg #[.slice toa O.length tok, .slice tca C.length tck, .slice tva V.length tvk] ∧ t 75 = .agg #[.slice pa53 OO.length pc54, .slice pa55 CC.length pc56, .slice pa57 VV.length pc58] ∧ t 76 = .agg #[.slice toa O.length tok, .slice tca C.length tck, .slice tva V.length tvk])) (Um := (fun t => t 70 = .agg #[.slice aa b.accs.length ak, .slice ma b.mvs.length mk] ∧ t 71 = .agg #[.slice pa49 bb.accs.length pc50, .slice pa51 bb.mvs.length pc52] ∧ t 72 = .agg #[.slice pa49 bb.accs.length pc50, .slice pa51 bb.mvs.length pc52] ∧ t 74 = .agg #[.slice toa O.length tok, .slice tca C.length tck, .slice tva V.length tvk] ∧ t 75 = .agg #[.slice pa53 OO.length pc54, .slice pa55 CC.length pc56, .slice pa57 VV.length pc58] ∧ t 76 = .agg #[.slice toa O.length tok, .slice tca C.length tck, .slice tva V.length tvk])) ?chM71 ?alM71 ?mvM71 (List.forall_mem_cons.2 ⟨List.forall_mem_cons.2 ⟨fun _ _ => rfl, List.forall_mem_cons.2 ⟨fun _ _ => rfl, List.forall_mem_cons.2 ⟨fun _ _ => rfl, List.forall_mem_cons.2 ⟨fun _ _ => rfl, fun _ h => (by cases h)⟩⟩⟩⟩, List.forall_mem_cons.2 ⟨List.forall_mem_cons.2 ⟨fun _ _ => rfl, List.forall_mem_cons.2 ⟨fun _ _ => rfl, List.forall_mem_cons.2 ⟨fun _ _ => rfl, List.forall_mem_cons.2 ⟨fun _ _ => rfl, fun _ h => (by cases h)⟩⟩⟩⟩, fun _ h => (by cases h)⟩⟩) ⟨(by kernel_rfl), rfl, ⟨(by kernel_rfl), (by kernel_rfl), (by kernel_rfl), (by kernel_rfl), (by kernel_rfl), (by kernel_rfl)⟩⟩ ?restM71
            case chM71 =>
              exact ChainL.nil _ _ _ (List.forall_mem_cons.2 ⟨fun _ _ u => u, List.forall_mem_cons.2 ⟨fun _ _ u => u, List.forall_mem_cons.2 ⟨fun _ _ u => u, List.forall_mem_cons.2 ⟨fun _ _ u => u, fun _ h => (by cases h)⟩⟩⟩⟩) hSS (List.forall_mem_cons.2 ⟨fun _ t ⟨e70, e71, e72, e74, e75, e76⟩ => ⟨e70, e71, e72⟩, List.forall_mem_cons.2 ⟨fun _ t ⟨e70, e71, e72, e74, e75, e76⟩ => ⟨e74, e75, e76⟩, fun _ h => (by cases h)⟩⟩)
            case alM71 =>
              refine List.forall_mem_cons.2 ⟨fun t w K hv h => ?_, ?_⟩
              · obtain ⟨e70, e71, e72⟩ := hv; (try dsimp only at h); rw [rng_checks_walk t, e70, e71, e72] at h ⊢; exact wpOp_step rfl (fun K hK => by go_simp; exact hK _ _ h)
              refine List.forall_mem_cons.2 ⟨fun t w K hv h => ?_, ?_⟩
              · obtain ⟨e74, e75, e76⟩ := hv; (try dsimp only at h); rw [rng_checks_walk t, e74, e75, e76] at h ⊢; exact wpOp_step rfl (fun K hK => by go_simp; exact hK _ _ h)
              exact fun _ h => (by cases h)
            case mvM71 => exact List.forall_mem_cons.2 ⟨⟨_, rfl, fun t => .inl ⟨by first | kernel_rfl | rfl, fun w_ _ => by rw [rng_checks_walk t]; go_simp; (try with_reducible rfl)⟩⟩, List.forall_mem_cons.2 ⟨⟨_, rfl, fun t => .inl ⟨by first | kernel_rfl | rfl, fun w_ _ => by rw [rng_checks_walk t]; go_simp; (try with_reducible rfl)⟩⟩, fun _ h => (by cases h)⟩⟩
            case restM71 =>
              rintro t w74 g ⟨e70, e71, e72, e74, e75, e76⟩ hA hB ⟨F_, hwnM71⟩
              clear hSS
              clear F68
              have hA0_0 : t 73 = .slice (some ⟨g 3, 0, none⟩) 3 3 := hA _ (.head _)
              have hA0_1 : t 11 = .slice (some ⟨g 3, 0, none⟩) 3 3 := hB _ (.head _) _ (.head _) rfl
              have hA1_0 : t 77 = .slice (some ⟨g 7, 0, none⟩) 3 3 := hA _ (.tail _ (.head _))
              have hA1_1 : t 12 = .slice (some ⟨g 7, 0, none⟩) 3 3 := hB _ (.tail _ (.head _)) _ (.tail _ (.head _)) rfl
              (try simp only [List.map_cons, List.map_nil, List.cons_append, List.nil_append] at F_)
              have F75 := F_
              clear hA hB F_
              obtain ⟨g72, hgx_⟩ : ∃ x_, g 3 = x_ := ⟨_, rfl⟩
              rw [hgx_] at hA0_0 hA0_1 F75; clear hgx_
              obtain ⟨g73, hgx_⟩ : ∃ x_, g 7 = x_ := ⟨_, rfl⟩
              rw [hgx_] at hA1_0 hA1_1 F75; clear hgx_
              have hws := F75.gb.size
              have g72l := (F75.at 0 rfl : Bk _ _ _ _).lt
              have g73l := (F75.at 1 rfl : Bk _ _ _ _).lt
              rw [rng_checks_walk t, e70, e71, e72, e74, e75, e76, hA0_0, hA0_1, hA1_0, hA1_1]
              clear e70 e71 e72 e74 e75 e76 hA0_0 hA0_1 hA1_0 hA1_1
              have Fn_ := ((((F75.drop 2 rfl).drop 2 rfl).drop 8 rfl).drop 8 rfl)
              (try dsimp only [List.eraseIdx_cons_succ, List.eraseIdx_cons_zero] at Fn_)
              obtain ⟨w76, hx77, F79, hxs78⟩ := Fn_.name
              (try simp at hxs78)
              rw [hx77]
              clear hx77 F75 Fn_
              go_wp2_with fail
              refine wp_loop_rounds 4 ?_
              rw [rounds_succ]
              have b81 := F79.bx6 0 rfl
              go_wp2_with fail
              clear b81
              refine (ownBook2 _ _ _ _ _ _ b _ (F79.at 13 rfl : Sl accEnc 6 0 w.heap.size _ (.slice aa b.accs.length ak) b.accs) (F79.at 12 rfl : Sl mvEnc 4 0 w.heap.size _ (.slice ma b.mvs.length mk) b.mvs) (by first | omega | (simp; omega)) (by first | omega | (simp; omega)) (by omega) (by omega)).mono ?_
              rintro e w84 ⟨ba80, bc80, bm80, bn80, bl80, bh80, rfl, ⟨bx80, by80⟩, bz80, hg82⟩
              have hg82s := hg82.size
              (try simp at hg82s)
              have F85 := F79.add (rbook bl80 bh80 (.slice ba80 b.accs.length bc80) (.slice bm80 b.mvs.length bn80) b) hg82 (bz80) (fun g e => ⟨Nat.le_trans bx80 e.1, Nat.lt_of_lt_of_le e.2 by80⟩)
              clear F79
              clear hg82
              go_wp2_with fail
              have F86 := F85.new 25 #[.slice ba80 b.accs.length bc80, .slice bm80 b.mvs.length bn80] (n := w84.heap.size) (by simp)
              clear F85
              have Fn_ := F86
              (try dsimp only [List.eraseIdx_cons_succ, List.eraseIdx_cons_zero] at Fn_)
              obtain ⟨w87, hx88, F90, hxs89⟩ := Fn_.name
              (try simp at hxs89)
              rw [hx88]
              clear hx88 F86 Fn_
              refine wp_cutK 186 (fun t wr => ∃ (g13_15 : Nat) (oa94_0 : Option Addr) (oc94_0 : Nat) (ol94_0 : Nat) (oh94_0 : Nat) (oa100_0 : Option Addr) (oc100_0 : Nat) (ol100_0 : Nat) (oh100_0 : Nat) (oa106_0 : Option Addr) (oc106_0 : Nat) (ol106_0 : Nat) (oh106_0 : Nat), t 11 = .slice (some ⟨g72, 0, none⟩) 3 3 ∧ t 12 = .slice (some ⟨g73, 0, none⟩) 3 3 ∧ t 13 = .int .i64 0 ∧ t 14 = .pointer (some ⟨w84.heap.size, 0, none⟩) ∧ t 15 = .pointer (some ⟨g13_15, 0, none⟩) ∧ w87.heap.size ≤ wr.heap.size ∧ (oh94_0 ≤ wr.heap.size) ∧ (oh100_0 ≤ wr.heap.size) ∧ (oh106_0 ≤ wr.heap.size) ∧ Bun w [rbox g13_15 32 #[.slice oa94_0 O.length oc94_0, .slice oa100_0 C.length oc100_0, .slice oa106_0 V.length oc106_0], rbox w84.heap.size 25 #[.slice ba80 b.accs.length bc80, .slice bm80 b.mvs.length bn80], rbook bl80 bh80 (.slice ba80 b.accs.length bc80) (.slice bm80 b.mvs.length bn80) b, rbox g72 25 #[.slice aa b.accs.length ak, .slice ma b.mvs.length mk, .slice pa49 bb.accs.length pc50, .slice pa51 bb.mvs.length pc52, .slice pa49 bb.accs.length pc50, .slice pa51 bb.mvs.length pc52], rbox g73 32 #[.slice toa O.length tok, .slice tca C.length tck, .slice tva V.length tvk, .slice pa53 OO.length pc54, .slice pa55 CC.length pc56, .slice pa57 VV.length pc58, .slice toa O.length tok, .slice tca C.length tck, .slice tva V.length tvk], rown accEnc 79 6 w43.heap.size (.slice pa49 bb.accs.length pc50) bb.accs, rown mvEnc 76 4 w43.heap.size (.slice pa51 bb.mvs.length pc52) bb.mvs, rown intEnc 3 1 w43.heap.size (.slice pa53 OO.length pc54) OO, rown intEnc 3 1 w43.heap.size (.slice pa55 CC.length pc56) C3, rown intEnc 3 1 w43.heap.size (.slice pa57 VV.length pc58) VV, rseed sb, rsl intEnc 1 0 w.heap.size (.slice na zs.length nc) zs, rsl intEnc 1 0 w.heap.size (.slice tva V.length tvk) V, rsl intEnc 1 0 w.heap.size (.slice tca C.length tck) C, rsl intEnc 1 0 w.heap.size (.slice toa O.length tok) O, rsl mvEnc 4 0 w.heap.size (.slice ma b.mvs.length mk) b.mvs, rsl accEnc 6 0 w.heap.size (.slice aa b.accs.length ak) b.accs, rsl intEnc 1 ol94_0 oh94_0 (.slice oa94_0 O.length oc94_0) O, rsl intEnc 1 ol100_0 oh100_0 (.slice oa100_0 C.length oc100_0) C, rsl intEnc 1 ol106_0 oh106_0 (.slice oa106_0 V.length oc106_0) V] wr) ?first1 ?rest1
              case rest1 =>
                rintro t wr ⟨g13_15, oa94_0, oc94_0, ol94_0, oh94_0, oa100_0, oc100_0, ol100_0, oh100_0, oa106_0, oc106_0, ol106_0, oh106_0, e11, e12, e13, e14, e15, hrel⟩
                have e : ((List.range 186).map t).toArray = #[t 0, t 1, t 2, t 3, t 4, t 5, t 6, t 7, t 8, t 9, t 10, t 11, t 12, t 13, t 14, t 15, t 16, t 17, t 18, t 19, t 20, t 21, t 22, t 23, t 24, t 25, t 26, t 27, t 28, t 29, t 30, t 31, t 32, t 33, t 34, t 35, t 36, t 37, t 38, t 39, t 40, t 41, t 42, t 43, t 44, t 45, t 46, t 47, t 48, t 49, t 50, t 51, t 52, t 53, t 54, t 55, t 56, t 57, t 58, t 59, t 60, t 61, t 62, t 63, t 64, t 65, t 66, t 67, t 68, t 69, t 70, t 71, t 72, t 73, t 74, t 75, t 76, t 77, t 78, t 79, t 80, t 81, t 82, t 83, t 84, t 85, t 86, t 87, t 88, t 89, t 90, t 91, t 92, t 93, t 94, t 95, t 96, t 97, t 98, t 99, t 100, t 101, t 102, t 103, t 104, t 105, t 106, t 107, t 108, t 109, t 110, t 111, t 112, t 113, t 114, t 115, t 116, t 117, t 118, t 119, t 120, t 121, t 122, t 123, t 124, t 125, t 126, t 127, t 128, t 129, t 130, t 131, t 132, t 133, t 134, t 135, t 136, t 137, t 138, t 139, t 140, t 141, t 142, t 143, t 144, t 145, t 146, t 147, t 148, t 149, t 150, t 151, t 152, t 153, t 154, t 155, t 156, t 157, t 158, t 159, t 160, t 161, t 162, t 163, t 164, t 165, t 166, t 167, t 168, t 169, t 170, t 171, t 172, t 173, t 174, t 175, t 176, t 177, t 178, t 179, t 180, t 181, t 182, t 183, t 184, t 185] := rfl
                (try dsimp only at e)
                rw [e11, e12, e13, e14, e15] at e
                rw [e]
                clear e e11 e12 e13 e14 e15
                obtain ⟨hs92, oy94_0, oy100_0, oy106_0, hF91⟩ := hrel
                clear F90
                obtain ⟨w93, rfl⟩ : ∃ x_ : World, x_ = wr := ⟨_, rfl⟩
                have b95 := hF91.bx3 0 rfl
                have b96 := hF91.bx2 1 rfl
                go_wp2_with fail
                clear b95 b96
                refine (balance2 _ _ _ _ _ _ b _ ((hF91.at 2 rfl : HasB bl80 bh80 _ (.slice ba80 b.accs.length bc80) (.slice bm80 b.mvs.length bn80) b)).1 ((hF91.at 2 rfl : HasB bl80 bh80 _ (.slice ba80 b.accs.length bc80) (.slice bm80 b.mvs.length bn80) b)).2 (by first | omega | (simp; omega)) (by first | omega | (simp; omega)) HN.out _ _ _ _ _ _ _ _ _ O C V (hF91.at 17 rfl : Sl intEnc 1 ol94_0 oh94_0 _ (.slice oa94_0 O.length oc94_0) O) (by first | omega | (simp; omega)) (hF91.at 18 rfl : Sl intEnc 1 ol100_0 oh100_0 _ (.slice oa100_0 C.length oc100_0) C) (by first | omega | (simp; omega)) (hF91.at 19 rfl : Sl intEnc 1 ol106_0 oh106_0 _ (.slice oa106_0 V.length oc106_0) V) (by first | omega | (simp; omega))).mono ?_
                rintro e w99 ⟨yay94, ycy94, yly94, yhy94, rfl, ⟨yxy94, yyy94⟩, yzy94, hg97⟩
                have hg97s := hg97.size
                (try simp at hg97s)
                have F100 := hF91.add (rsl intEnc 1 yly94 yhy94 (.slice yay94 (balL b O C V).length ycy94) (balL b O C V)) hg97 (yzy94) (fun g e => ⟨Nat.le_trans yxy94 e.1, Nat.lt_of_lt_of_le e.2 yyy94⟩)
                clear hF91
                clear hg97
                go_wp2_with fail
                have F103 := F100.drew
                clear F100
                refine ru_begin (fun W => W.cell? ⟨g72, 0, none⟩ = some (.slice aa b.accs.length ak) ∧ W.cell? ⟨g72, 1, none⟩ = some (.slice ma b.mvs.length mk) ∧ W.cell? ⟨g73, 0, none⟩ = some (.slice toa O.length tok) ∧ W.cell? ⟨g73, 1, none⟩ = some (.slice tca C.length tck) ∧ W.cell? ⟨g73, 2, none⟩ = some (.slice tva V.length tvk)) 13 (by kernel_rfl) ?_ ?_
                · exact ⟨F103.cl 4 0 rfl rfl, F103.cl 4 1 rfl rfl, F103.cl 5 0 rfl rfl, F103.cl 5 1 rfl rfl, F103.cl 5 2 rfl rfl⟩
                obtain ⟨wd105, hwd_⟩ : ∃ x : World, w99.drew = x := ⟨_, rfl⟩
                rw [hwd_] at F103 ⊢
                have wd105s : w99.heap.size ≤ wd105.heap.size := by rw [← hwd_]; exact Nat.le_refl _
                clear hwd_
                have hS104 := (And.intro (F103.cl 4 0 rfl rfl) (And.intro (F103.cl 4 1 rfl rfl) (And.intro (F103.cl 5 0 rfl rfl) (And.intro (F103.cl 5 1 rfl rfl) (F103.cl 5 2 rfl rfl)))))
                refine ru_t 0 [] ?_
                refine ru_t 1 [] ?_
                refine ru_t 2 [] ?_
                refine ru_t 3 [] ?_
                refine ru_t 4 [] ?_
                refine ru_t 5 [] ?_
                refine ru_t 6 [] ?_
                refine ru_t 7 [] ?_
                (try simp only [Act.put, List.setIfInBounds_toArray, List.set_cons_zero, List.set_cons_succ])
                clear hS104
                refine ru_one 8 rfl (by kernel_rfl) (fun K hK => ?_)
                go_simp
                refine (rbalance2 _ _ _ _ _ _ b _ (F103.at 17 rfl : Sl accEnc 6 0 w.heap.size _ (.slice aa b.accs.length ak) b.accs) (F103.at 16 rfl : Sl mvEnc 4 0 w.heap.size _ (.slice ma b.mvs.length mk) b.mvs) (by first | omega | (simp; omega)) (by first | omega | (simp; omega)) HN.out _ _ _ _ _ _ _ _ _ O C V (F103.at 15 rfl : Sl intEnc 1 0 w.heap.size _ (.slice toa O.length tok) O) (by first | omega | (simp; omega)) (F103.at 14 rfl : Sl intEnc 1 0 w.heap.size _ (.slice tca C.length tck) C) (by first | omega | (simp; omega)) (F103.at 13 rfl : Sl intEnc 1 0 w.heap.size _ (.slice tva V.length tvk) V) (by first | omega | (simp; omega))).mono ?_
                rintro e w109 ⟨yay106, ycy106, yly106, yhy106, rfl, ⟨yxy106, yyy106⟩, yzy106, hg107⟩
                have hg107s := hg107.size
                (try simp at hg107s)
                have F110 := F103.add (rsl intEnc 1 yly106 yhy106 (.slice yay106 (balL b O C V).length ycy106) (balL b O C V)) hg107 (yzy106) (fun g e => ⟨Nat.le_trans yxy106 e.1, Nat.lt_of_lt_of_le e.2 yyy106⟩)
                clear F103
                refine ru_back hK (by exact ⟨F110.cl 5 0 rfl rfl, F110.cl 5 1 rfl rfl, F110.cl 6 0 rfl rfl, F110.cl 6 1 rfl rfl, F110.cl 6 2 rfl rfl⟩) (fun hHeld => ?_)
                clear hK K
                (try simp only [Act.put, List.setIfInBounds_toArray, List.set_cons_zero, List.set_cons_succ])
                refine ru_p 9 ?_
                (try simp only [Act.put, List.setIfInBounds_toArray, List.set_cons_zero, List.set_cons_succ])
                refine ru_p 10 ?_
                refine ru_p 11 ?_
                (try simp only [Act.put, List.setIfInBounds_toArray, List.set_cons_zero, List.set_cons_succ])
                refine ru_p 12 ?_
                (try simp only [Act.put, List.setIfInBounds_toArray, List.set_cons_zero, List.set_cons_succ])
                refine ru_one 13 rfl (by kernel_rfl) (fun K hK => ?_)
                go_simp
                refine ru_back_late hK (by kernel_rfl) ?_
                clear hK K
                (try simp only [Act.put, List.setIfInBounds_toArray, List.set_cons_zero, List.set_cons_succ])
                refine ru_done (by kernel_rfl) ?_
                have Fn_ := F110
                (try dsimp only [List.eraseIdx_cons_succ, List.eraseIdx_cons_zero] at Fn_)
                obtain ⟨w111, hx112, F114, hxs113⟩ := Fn_.name
                (try simp at hxs113)
                rw [hx112]
                clear hx112 F110 Fn_
                go_wp2_with fail
                have F115 := F114.drew
                clear F114
                refine ru_begin (fun W => W.cell? ⟨w84.heap.size, 0, none⟩ = some (.slice ba80 b.accs.length bc80) ∧ W.cell? ⟨w84.heap.size, 1, none⟩ = some (.slice bm80 b.mvs.length bn80) ∧ W.cell? ⟨g72, 0, none⟩ = some (.slice aa b.accs.length ak) ∧ W.cell? ⟨g72, 1, none⟩ = some (.slice ma b.mvs.length mk)) 27 (by kernel_rfl) ?_ ?_
                · exact ⟨F115.cl 3 0 rfl rfl, F115.cl 3 1 rfl rfl, F115.cl 5 0 rfl rfl, F115.cl 5 1 rfl rfl⟩
                obtain ⟨wd117, hwd_⟩ : ∃ x : World, w111.drew = x := ⟨_, rfl⟩
                rw [hwd_] at F115 ⊢
                have wd117s : w111.heap.size ≤ wd117.heap.size := by rw [← hwd_]; exact Nat.le_refl _
                clear hwd_
                have hS116 := (And.intro (F115.cl 3 0 rfl rfl) (And.intro (F115.cl 3 1 rfl rfl) (And.intro (F115.cl 5 0 rfl rfl) (F115.cl 5 1 rfl rfl))))
                refine ru_t 0 [19, 16, 13, 8, 6, 1] ?_
                refine ru_t 2 [19, 16, 13, 8, 6, 5, 4] ?_
                refine ru_t 3 [19, 16, 13, 8, 6, 5, 4] ?_
                refine ru_t 4 [19, 16, 13, 8, 6, 5] ?_
                refine ru_t 5 [19, 16, 13, 8, 6] ?_
                (try simp only [Act.put, List.setIfInBounds_toArray, List.set_cons_zero, List.set_cons_succ])
                clear hS116
                refine ru_one 1 rfl (by kernel_rfl) (fun K hK => ?_)
                go_simp
                refine (check_c _ _ _ _ _ _ b _ ((F115.at 4 rfl : HasB bl80 bh80 _ (.slice ba80 b.accs.length bc80) (.slice bm80 b.mvs.length bn80) b)).1 ((F115.at 4 rfl : HasB bl80 bh80 _ (.slice ba80 b.accs.length bc80) (.slice bm80 b.mvs.length bn80) b)).2 HN.out (by first | omega | (simp; omega)) (by first | omega | (simp; omega))).mono ?_
                rintro e w120 ⟨rfl, hg118⟩
                have hg118s := hg118.size
                (try simp at hg118s)
                have F121 := F115.gn hg118
                clear F115
                refine ru_back hK (by exact ⟨F121.cl 3 0 rfl rfl, F121.cl 3 1 rfl rfl, F121.cl 5 0 rfl rfl, F121.cl 5 1 rfl rfl⟩) (fun hHeld => ?_)
                clear hK K
                (try simp only [Act.put, List.setIfInBounds_toArray, List.set_cons_zero, List.set_cons_succ])
                refine ru_one 6 rfl (by kernel_rfl) (fun K hK => ?_)
                go_simp
                refine (rCheck2 _ _ _ _ _ _ b _ (F121.at 18 rfl : Sl accEnc 6 0 w.heap.size _ (.slice aa b.accs.length ak) b.accs) (F121.at 17 rfl : Sl mvEnc 4 0 w.heap.size _ (.slice ma b.mvs.length mk) b.mvs) (by first | omega | (simp; omega)) (by first | omega | (simp; omega)) HN.out).mono ?_
                rintro e w124 ⟨rfl, hg122⟩
                have hg122s := hg122.size
                (try simp at hg122s)
                have F125 := F121.gn hg122
                clear F121
                refine ru_back hK (by exact ⟨F125.cl 3 0 rfl rfl, F125.cl 3 1 rfl rfl, F125.cl 5 0 rfl rfl, F125.cl 5 1 rfl rfl⟩) (fun hHeld => ?_)
                clear hK K
                (try simp only [Act.put, List.setIfInBounds_toArray, List.set_cons_zero, List.set_cons_succ])
                refine ru_p 7 ?_
                (try simp only [Act.put, List.setIfInBounds_toArray, List.set_cons_zero, List.set_cons_succ])
                refine ru_p 8 ?_
                (try simp only [Act.put, List.setIfInBounds_toArray, List.set_cons_zero, List.set_cons_succ])
                refine ru_p 9 ?_
                refine ru_p 10 ?_
                (try simp only [Act.put, List.setIfInBounds_toArray, List.set_cons_zero, List.set_cons_succ])
                refine ru_p 11 ?_
                (try simp only [Act.put, List.setIfInBounds_toArray, List.set_cons_zero, List.set_cons_succ])
                refine ru_p 12 ?_
                (try simp only [Act.put, List.setIfInBounds_toArray, List.set_cons_zero, List.set_cons_succ])
                refine ru_p 13 ?_
                (try simp only [Act.put, List.setIfInBounds_toArray, List.set_cons_zero, List.set_cons_succ])
                refine ru_p 14 ?_
                refine ru_p 15 ?_
                (try simp only [Act.put, List.setIfInBounds_toArray, List.set_cons_zero, List.set_cons_succ])
                refine ru_one 16 rfl (by kernel_rfl) (fun K hK => ?_)
                go_simp
                refine (same_t _ _ _ _ _ _ (balL b O C V) _ (F125.at 1 rfl : Sl intEnc 1 yly94 yhy94 _ (.slice yay94 (balL b O C V).length ycy94) (balL b O C V)) (F125.at 0 rfl : Sl intEnc 1 yly106 yhy106 _ (.slice yay106 (balL b O C V).length ycy106) (balL b O C V))).mono ?_
                rintro e w128 ⟨rfl, hg126⟩
                have hg126s := hg126.size
                (try simp at hg126s)
                have F129 := F125.gn hg126
                clear F125
                refine ru_back hK (by exact ⟨F129.cl 3 0 rfl rfl, F129.cl 3 1 rfl rfl, F129.cl 5 0 rfl rfl, F129.cl 5 1 rfl rfl⟩) (fun hHeld => ?_)
                clear hK K
                (try simp only [Act.put, List.setIfInBounds_toArray, List.set_cons_zero, List.set_cons_succ])
                refine ru_p 17 ?_
                (try simp only [Act.put, List.setIfInBounds_toArray, List.set_cons_zero, List.set_cons_succ])
                refine ru_p 18 ?_
                (try simp only [Act.put, List.setIfInBounds_toArray, List.set_cons_zero, List.set_cons_succ])
                refine ru_p 19 ?_
                (try simp only [Act.put, List.setIfInBounds_toArray, List.set_cons_zero, List.set_cons_succ])
                refine ru_p 21 ?_
                refine ru_p 22 ?_
                (try simp only [Act.put, List.setIfInBounds_toArray, List.set_cons_zero, List.set_cons_succ])
                refine ru_p 23 ?_
                (try simp only [Act.put, List.setIfInBounds_toArray, List.set_cons_zero, List.set_cons_succ])
                refine ru_t 20 [26, 25] ?_
                refine ru_t 24 [26, 25] ?_
                (try simp only [Act.put, List.setIfInBounds_toArray, List.set_cons_zero, List.set_cons_succ])
                refine ru_one 25 rfl (by kernel_rfl) (fun K hK => ?_)
                go_simp
                refine (sameBooks2 _ _ _ _ _ _ b _ ((F129.at 4 rfl : HasB bl80 bh80 _ (.slice ba80 b.accs.length bc80) (.slice bm80 b.mvs.length bn80) b)).1 ((F129.at 4 rfl : HasB bl80 bh80 _ (.slice ba80 b.accs.length bc80) (.slice bm80 b.mvs.length bn80) b)).2 (by first | omega | (simp; omega)) (by first | omega | (simp; omega)) _ _ _ _ _ _ (F129.at 18 rfl : Sl accEnc 6 0 w.heap.size _ (.slice aa b.accs.length ak) b.accs) (F129.at 17 rfl : Sl mvEnc 4 0 w.heap.size _ (.slice ma b.mvs.length mk) b.mvs) (by first | omega | (simp; omega)) (by first | omega | (simp; omega))).mono ?_
                rintro e w132 ⟨rfl, hg130⟩
                have hg130s := hg130.size
                (try simp at hg130s)
                have F133 := F129.gn hg130
                clear F129
                refine ru_back hK (by exact ⟨F133.cl 3 0 rfl rfl, F133.cl 3 1 rfl rfl, F133.cl 5 0 rfl rfl, F133.cl 5 1 rfl rfl⟩) (fun hHeld => ?_)
                clear hK K
                (try simp only [Act.put, List.setIfInBounds_toArray, List.set_cons_zero, List.set_cons_succ])
                refine ru_p 26 ?_
                (try simp only [Act.put, List.setIfInBounds_toArray, List.set_cons_zero, List.set_cons_succ])
                refine ru_one 27 rfl (by kernel_rfl) (fun K hK => ?_)
                go_simp
                refine ru_back_late hK (by kernel_rfl) ?_
                clear hK K
                (try simp only [Act.put, List.setIfInBounds_toArray, List.set_cons_zero, List.set_cons_succ])
                refine ru_done (by kernel_rfl) ?_
                have Fn_ := (F133.drop 3 rfl)
                (try dsimp only [List.eraseIdx_cons_succ, List.eraseIdx_cons_zero] at Fn_)
                obtain ⟨w134, hx135, F137, hxs136⟩ := Fn_.name
                (try simp at hxs136)
                rw [hx135]
                clear hx135 F133 Fn_
                go_wp2_with fail
                have F138 := F137.drew
                clear F137
                refine ru_begin (fun W => W.cell? ⟨g13_15, 0, none⟩ = some (.slice oa94_0 O.length oc94_0) ∧ W.cell? ⟨g73, 0, none⟩ = some (.slice toa O.length tok) ∧ W.cell? ⟨g13_15, 1, none⟩ = some (.slice oa100_0 C.length oc100_0) ∧ W.cell? ⟨g73, 1, none⟩ = some (.slice tca C.length tck) ∧ W.cell? ⟨g13_15, 2, none⟩ = some (.slice oa106_0 V.length oc106_0) ∧ W.cell? ⟨g73, 2, none⟩ = some (.slice tva V.length tvk)) 30 (by kernel_rfl) ?_ ?_
                · exact ⟨F138.cl 2 0 rfl rfl, F138.cl 5 0 rfl rfl, F138.cl 2 1 rfl rfl, F138.cl 5 1 rfl rfl, F138.cl 2 2 rfl rfl, F138.cl 5 2 rfl rfl⟩
                obtain ⟨wd140, hwd_⟩ : ∃ x : World, w134.drew = x := ⟨_, rfl⟩
                rw [hwd_] at F138 ⊢
                have wd140s : w134.heap.size ≤ wd140.heap.size := by rw [← hwd_]; exact Nat.le_refl _
                clear hwd_
                have hS139 := (And.intro (F138.cl 2 0 rfl rfl) (And.intro (F138.cl 5 0 rfl rfl) (And.intro (F138.cl 2 1 rfl rfl) (And.intro (F138.cl 5 1 rfl rfl) (And.intro (F138.cl 2 2 rfl rfl) (F138.cl 5 2 rfl rfl))))))
                refine ru_t 0 [20, 17, 9, 7, 1] ?_
                refine ru_t 1 [20, 17, 9, 7] ?_
                refine ru_t 2 [20, 17, 9, 7, 6, 5, 4] ?_
                refine ru_t 3 [20, 17, 9, 7, 6, 5, 4] ?_
                refine ru_t 4 [20, 17, 9, 7, 6, 5] ?_
                refine ru_t 5 [20, 17, 9, 7, 6] ?_
                refine ru_t 6 [20, 17, 9, 7] ?_
                (try simp only [Act.put, List.setIfInBounds_toArray, List.set_cons_zero, List.set_cons_succ])
                clear hS139
                refine ru_one 7 rfl (by kernel_rfl) (fun K hK => ?_)
                go_simp
                refine (same_t _ _ _ _ _ _ O _ (F138.at 18 rfl : Sl intEnc 1 ol94_0 oh94_0 _ (.slice oa94_0 O.length oc94_0) O) (F138.at 15 rfl : Sl intEnc 1 0 w.heap.size _ (.slice toa O.length tok) O)).mono ?_
                rintro e w143 ⟨rfl, hg141⟩
                have hg141s := hg141.size
                (try simp at hg141s)
                have F144 := F138.gn hg141
                clear F138
                refine ru_back hK (by exact ⟨F144.cl 2 0 rfl rfl, F144.cl 5 0 rfl rfl, F144.cl 2 1 rfl rfl, F144.cl 5 1 rfl rfl, F144.cl 2 2 rfl rfl, F144.cl 5 2 rfl rfl⟩) (fun hHeld => ?_)
                clear hK K
                (try simp only [Act.put, List.setIfInBounds_toArray, List.set_cons_zero, List.set_cons_succ])
                refine ru_p 8 ?_
                (try simp only [Act.put, List.setIfInBounds_toArray, List.set_cons_zero, List.set_cons_succ])
                refine ru_p 9 ?_
                (try simp only [Act.put, List.setIfInBounds_toArray, List.set_cons_zero, List.set_cons_succ])
                refine ru_p 10 ?_
                refine ru_p 12 ?_
                refine ru_p 13 ?_
                (try simp only [Act.put, List.setIfInBounds_toArray, List.set_cons_zero, List.set_cons_succ])
                refine ru_p 14 ?_
                (try simp only [Act.put, List.setIfInBounds_toArray, List.set_cons_zero, List.set_cons_succ])
                refine ru_p 15 ?_
                (try simp only [Act.put, List.setIfInBounds_toArray, List.set_cons_zero, List.set_cons_succ])
                refine ru_t 11 [20, 17] ?_
                refine ru_t 16 [20, 17] ?_
                (try simp only [Act.put, List.setIfInBounds_toArray, List.set_cons_zero, List.set_cons_succ])
                refine ru_one 17 rfl (by kernel_rfl) (fun K hK => ?_)
                go_simp
                refine (same_t _ _ _ _ _ _ C _ (F144.at 19 rfl : Sl intEnc 1 ol100_0 oh100_0 _ (.slice oa100_0 C.length oc100_0) C) (F144.at 14 rfl : Sl intEnc 1 0 w.heap.size _ (.slice tca C.length tck) C)).mono ?_
                rintro e w147 ⟨rfl, hg145⟩
                have hg145s := hg145.size
                (try simp at hg145s)
                have F148 := F144.gn hg145
                clear F144
                refine ru_back hK (by exact ⟨F148.cl 2 0 rfl rfl, F148.cl 5 0 rfl rfl, F148.cl 2 1 rfl rfl, F148.cl 5 1 rfl rfl, F148.cl 2 2 rfl rfl, F148.cl 5 2 rfl rfl⟩) (fun hHeld => ?_)
                clear hK K
                (try simp only [Act.put, List.setIfInBounds_toArray, List.set_cons_zero, List.set_cons_succ])
                refine ru_p 18 ?_
                (try simp only [Act.put, List.setIfInBounds_toArray, List.set_cons_zero, List.set_cons_succ])
                refine ru_p 19 ?_
                (try simp only [Act.put, List.setIfInBounds_toArray, List.set_cons_zero, List.set_cons_succ])
                refine ru_p 20 ?_
                (try simp only [Act.put, List.setIfInBounds_toArray, List.set_cons_zero, List.set_cons_succ])
                refine ru_p 21 ?_
                refine ru_p 23 ?_
                refine ru_p 24 ?_
                (try simp only [Act.put, List.setIfInBounds_toArray, List.set_cons_zero, List.set_cons_succ])
                refine ru_p 25 ?_
                (try simp only [Act.put, List.setIfInBounds_toArray, List.set_cons_zero, List.set_cons_succ])
                refine ru_p 26 ?_
                (try simp only [Act.put, List.setIfInBounds_toArray, List.set_cons_zero, List.set_cons_succ])
                refine ru_t 22 [29, 28] ?_
                refine ru_t 27 [29, 28] ?_
                (try simp only [Act.put, List.setIfInBounds_toArray, List.set_cons_zero, List.set_cons_succ])
                refine ru_one 28 rfl (by kernel_rfl) (fun K hK => ?_)
                go_simp
                refine (same_t _ _ _ _ _ _ V _ (F148.at 20 rfl : Sl intEnc 1 ol106_0 oh106_0 _ (.slice oa106_0 V.length oc106_0) V) (F148.at 13 rfl : Sl intEnc 1 0 w.heap.size _ (.slice tva V.length tvk) V)).mono ?_
                rintro e w151 ⟨rfl, hg149⟩
                have hg149s := hg149.size
                (try simp at hg149s)
                have F152 := F148.gn hg149
                clear F148
                refine ru_back hK (by exact ⟨F152.cl 2 0 rfl rfl, F152.cl 5 0 rfl rfl, F152.cl 2 1 rfl rfl, F152.cl 5 1 rfl rfl, F152.cl 2 2 rfl rfl, F152.cl 5 2 rfl rfl⟩) (fun hHeld => ?_)
                clear hK K
                (try simp only [Act.put, List.setIfInBounds_toArray, List.set_cons_zero, List.set_cons_succ])
                refine ru_p 29 ?_
                (try simp only [Act.put, List.setIfInBounds_toArray, List.set_cons_zero, List.set_cons_succ])
                refine ru_one 30 rfl (by kernel_rfl) (fun K hK => ?_)
                go_simp
                refine ru_back_late hK (by kernel_rfl) ?_
                clear hK K
                (try simp only [Act.put, List.setIfInBounds_toArray, List.set_cons_zero, List.set_cons_succ])
                refine ru_done (by kernel_rfl) ?_
                have Fn_ := (F152.drop 2 rfl)
                (try dsimp only [List.eraseIdx_cons_succ, List.eraseIdx_cons_zero] at Fn_)
                obtain ⟨w153, hx154, F156, hxs155⟩ := Fn_.name
                (try simp at hxs155)
                rw [hx154]
                clear hx154 F152 Fn_
                go_wp2_with fail
                rw [rounds_succ]
                have b158 := F156.bx6 3 rfl
                go_wp2_with fail
                clear b158
                refine (ownBook2 _ _ _ _ _ _ bb _ (Own.sl (F156.at 5 rfl : Own accEnc 79 6 w43.heap.size _ (.slice pa49 bb.accs.length pc50) bb.accs) (fun _ => rfl)) (Own.sl (F156.at 6 rfl : Own mvEnc 76 4 w43.heap.size _ (.slice pa51 bb.mvs.length pc52) bb.mvs) (fun _ => rfl)) (Nat.le_refl _) (Nat.le_refl _) (by omega) (by omega)).mono ?_
                rintro e w161 ⟨ba157, bc157, bm157, bn157, bl157, bh157, rfl, ⟨bx157, by157⟩, bz157, hg159⟩
                have hg159s := hg159.size
                (try simp at hg159s)
                have F162 := F156.add (rbook bl157 bh157 (.slice ba157 bb.accs.length bc157) (.slice bm157 bb.mvs.length bn157) bb) hg159 (bz157) (fun g e => ⟨Nat.le_trans bx157 e.1, Nat.lt_of_lt_of_le e.2 by157⟩)
                clear F156
                clear hg159
                go_wp2_with fail
                have F163 := F162.new 25 #[.slice ba157 bb.accs.length bc157, .slice bm157 bb.mvs.length bn157] (n := w161.heap.size) (by simp)
                clear F162
                have Fn_ := F163
                (try dsimp only [List.eraseIdx_cons_succ, List.eraseIdx_cons_zero] at Fn_)
                obtain ⟨w164, hx165, F167, hxs166⟩ := Fn_.name
                (try simp at hxs166)
                rw [hx165]
                clear hx165 F163 Fn_
                refine wp_cutK 186 (fun t wr => ∃ (g13_15 : Nat) (oa94_1 : Option Addr) (oc94_1 : Nat) (ol94_1 : Nat) (oh94_1 : Nat) (oa100_1 : Option Addr) (oc100_1 : Nat) (ol100_1 : Nat) (oh100_1 : Nat) (oa106_1 : Option Addr) (oc106_1 : Nat) (ol106_1 : Nat) (oh106_1 : Nat), t 11 = .slice (some ⟨g72, 0, none⟩) 3 3 ∧ t 12 = .slice (some ⟨g73, 0, none⟩) 3 3 ∧ t 13 = .int .i64 1 ∧ t 14 = .pointer (some ⟨w161.heap.size, 0, none⟩) ∧ t 15 = .pointer (some ⟨g13_15, 0, none⟩) ∧ w164.heap.size ≤ wr.heap.size ∧ (oh94_1 ≤ wr.heap.size) ∧ (oh100_1 ≤ wr.heap.size) ∧ (oh106_1 ≤ wr.heap.size) ∧ Bun w [rbox g13_15 32 #[.slice oa94_1 OO.length oc94_1, .slice oa100_1 C3.length oc100_1, .slice oa106_1 VV.length oc106_1], rbox w161.heap.size 25 #[.slice ba157 bb.accs.length bc157, .slice bm157 bb.mvs.length bn157], rbook bl157 bh157 (.slice ba157 bb.accs.length bc157) (.slice bm157 bb.mvs.length bn157) bb, rsl intEnc 1 yly106 yhy106 (.slice yay106 (balL b O C V).length ycy106) (balL b O C V), rsl intEnc 1 yly94 yhy94 (.slice yay94 (balL b O C V).length ycy94) (balL b O C V), rbook bl80 bh80 (.slice ba80 b.accs.length bc80) (.slice bm80 b.mvs.length bn80) b, rbox g72 25 #[.slice aa b.accs.length ak, .slice ma b.mvs.length mk, .slice pa49 bb.accs.length pc50, .slice pa51 bb.mvs.length pc52, .slice pa49 bb.accs.length pc50, .slice pa51 bb.mvs.length pc52], rbox g73 32 #[.slice toa O.length tok, .slice tca C.length tck, .slice tva V.length tvk, .slice pa53 OO.length pc54, .slice pa55 CC.length pc56, .slice pa57 VV.length pc58, .slice toa O.length tok, .slice tca C.length tck, .slice tva V.length tvk], rown accEnc 79 6 w43.heap.size (.slice pa49 bb.accs.length pc50) bb.accs, rown mvEnc 76 4 w43.heap.size (.slice pa51 bb.mvs.length pc52) bb.mvs, rown intEnc 3 1 w43.heap.size (.slice pa53 OO.length pc54) OO, rown intEnc 3 1 w43.heap.size (.slice pa55 CC.length pc56) C3, rown intEnc 3 1 w43.heap.size (.slice pa57 VV.length pc58) VV, rseed sb, rsl intEnc 1 0 w.heap.size (.slice na zs.length nc) zs, rsl intEnc 1 0 w.heap.size (.slice tva V.length tvk) V, rsl intEnc 1 0 w.heap.size (.slice tca C.length tck) C, rsl intEnc 1 0 w.heap.size (.slice toa O.length tok) O, rsl mvEnc 4 0 w.heap.size (.slice ma b.mvs.length mk) b.mvs, rsl accEnc 6 0 w.heap.size (.slice aa b.accs.length ak) b.accs, rsl intEnc 1 ol94_0 oh94_0 (.slice oa94_0 O.length oc94_0) O, rsl intEnc 1 ol100_0 oh100_0 (.slice oa100_0 C.length oc100_0) C, rsl intEnc 1 ol106_0 oh106_0 (.slice oa106_0 V.length oc106_0) V, rsl intEnc 1 ol94_1 oh94_1 (.slice oa94_1 OO.length oc94_1) OO, rsl intEnc 1 ol100_1 oh100_1 (.slice oa100_1 C3.length oc100_1) C3, rsl intEnc 1 ol106_1 oh106_1 (.slice oa106_1 VV.length oc106_1) VV] wr) ?first2 ?rest2
                case rest2 =>
                  rintro t wr ⟨g13_15, oa94_1, oc94_1, ol94_1, oh94_1, oa100_1, oc100_1, ol100_1, oh100_1, oa106_1, oc106_1, ol106_1, oh106_1, e11, e12, e13, e14, e15, hrel⟩
                  have e : ((List.range 186).map t).toArray = #[t 0, t 1, t 2, t 3, t 4, t 5, t 6, t 7, t 8, t 9, t 10, t 11, t 12, t 13, t 14, t 15, t 16, t 17, t 18, t 19, t 20, t 21, t 22, t 23, t 24, t 25, t 26, t 27, t 28, t 29, t 30, t 31, t 32, t 33, t 34, t 35, t 36, t 37, t 38, t 39, t 40, t 41, t 42, t 43, t 44, t 45, t 46, t 47, t 48, t 49, t 50, t 51, t 52, t 53, t 54, t 55, t 56, t 57, t 58, t 59, t 60, t 61, t 62, t 63, t 64, t 65, t 66, t 67, t 68, t 69, t 70, t 71, t 72, t 73, t 74, t 75, t 76, t 77, t 78, t 79, t 80, t 81, t 82, t 83, t 84, t 85, t 86, t 87, t 88, t 89, t 90, t 91, t 92, t 93, t 94, t 95, t 96, t 97, t 98, t 99, t 100, t 101, t 102, t 103, t 104, t 105, t 106, t 107, t 108, t 109, t 110, t 111, t 112, t 113, t 114, t 115, t 116, t 117, t 118, t 119, t 120, t 121, t 122, t 123, t 124, t 125, t 126, t 127, t 128, t 129, t 130, t 131, t 132, t 133, t 134, t 135, t 136, t 137, t 138, t 139, t 140, t 141, t 142, t 143, t 144, t 145, t 146, t 147, t 148, t 149, t 150, t 151, t 152, t 153, t 154, t 155, t 156, t 157, t 158, t 159, t 160, t 161, t 162, t 163, t 164, t 165, t 166, t 167, t 168, t 169, t 170, t 171, t 172, t 173, t 174, t 175, t 176, t 177, t 178, t 179, t 180, t 181, t 182, t 183, t 184, t 185] := rfl
                  (try dsimp only at e)
                  rw [e11, e12, e13, e14, e15] at e
                  rw [e]
                  clear e e11 e12 e13 e14 e15
                  obtain ⟨hs169, oy94_1, oy100_1, oy106_1, hF168⟩ := hrel
                  clear F167
                  obtain ⟨w170, rfl⟩ : ∃ x_ : World, x_ = wr := ⟨_, rfl⟩
                  have b172 := hF168.bx3 0 rfl
                  have b173 := hF168.bx2 1 rfl
                  go_wp2_with fail
                  clear b172 b173
                  refine (balance2 _ _ _ _ _ _ bb _ ((hF168.at 2 rfl : HasB bl157 bh157 _ (.slice ba157 bb.accs.length bc157) (.slice bm157 bb.mvs.length bn157) bb)).1 ((hF168.at 2 rfl : HasB bl157 bh157 _ (.slice ba157 bb.accs.length bc157) (.slice bm157 bb.mvs.length bn157) bb)).2 (by first | omega | (simp; omega)) (by first | omega | (simp; omega)) HNB.out _ _ _ _ _ _ _ _ _ OO C3 VV (hF168.at 23 rfl : Sl intEnc 1 ol94_1 oh94_1 _ (.slice oa94_1 OO.length oc94_1) OO) (by first | omega | (simp; omega)) (hF168.at 24 rfl : Sl intEnc 1 ol100_1 oh100_1 _ (.slice oa100_1 C3.length oc100_1) C3) (by first | omega | (simp; omega)) (hF168.at 25 rfl : Sl intEnc 1 ol106_1 oh106_1 _ (.slice oa106_1 VV.length oc106_1) VV) (by first | omega | (simp; omega))).mono ?_
                  rintro e w176 ⟨yay171, ycy171, yly171, yhy171, rfl, ⟨yxy171, yyy171⟩, yzy171, hg174⟩
                  have hg174s := hg174.size
                  (try simp at hg174s)
                  have F177 := hF168.add (rsl intEnc 1 yly171 yhy171 (.slice yay171 (balL bb OO C3 VV).length ycy171) (balL bb OO C3 VV)) hg174 (yzy171) (fun g e => ⟨Nat.le_trans yxy171 e.1, Nat.lt_of_lt_of_le e.2 yyy171⟩)
                  clear hF168
                  clear hg174
                  go_wp2_with fail
                  have F180 := F177.drew
                  clear F177
                  refine ru_begin (fun W => W.cell? ⟨g72, 2, none⟩ = some (.slice pa49 bb.accs.length pc50) ∧ W.cell? ⟨g72, 3, none⟩ = some (.slice pa51 bb.mvs.length pc52) ∧ W.cell? ⟨g73, 3, none⟩ = some (.slice pa53 OO.length pc54) ∧ W.cell? ⟨g73, 4, none⟩ = some (.slice pa55 CC.length pc56) ∧ W.cell? ⟨g73, 5, none⟩ = some (.slice pa57 VV.length pc58)) 13 (by kernel_rfl) ?_ ?_
                  · exact ⟨F180.cl 7 2 rfl rfl, F180.cl 7 3 rfl rfl, F180.cl 8 3 rfl rfl, F180.cl 8 4 rfl rfl, F180.cl 8 5 rfl rfl⟩
                  obtain ⟨wd182, hwd_⟩ : ∃ x : World, w176.drew = x := ⟨_, rfl⟩
                  rw [hwd_] at F180 ⊢
                  have wd182s : w176.heap.size ≤ wd182.heap.size := by rw [← hwd_]; exact Nat.le_refl _
                  clear hwd_
                  have hS181 := (And.intro (F180.cl 7 2 rfl rfl) (And.intro (F180.cl 7 3 rfl rfl) (And.intro (F180.cl 8 3 rfl rfl) (And.intro (F180.cl 8 4 rfl rfl) (F180.cl 8 5 rfl rfl)))))
                  refine ru_t 0 [] ?_
                  refine ru_t 1 [] ?_
                  refine ru_t 2 [] ?_
                  refine ru_t 3 [] ?_
                  refine ru_t 4 [] ?_
                  refine ru_t 5 [] ?_
                  refine ru_t 6 [] ?_
                  refine ru_t 7 [] ?_
                  (try simp only [Act.put, List.setIfInBounds_toArray, List.set_cons_zero, List.set_cons_succ])
                  clear hS181
                  refine ru_one 8 rfl (by kernel_rfl) (fun K hK => ?_)
                  go_simp
                  refine (rbalance2 _ _ _ _ _ _ bb _ (Own.sl (F180.at 9 rfl : Own accEnc 79 6 w43.heap.size _ (.slice pa49 bb.accs.length pc50) bb.accs) (fun _ => rfl)) (Own.sl (F180.at 10 rfl : Own mvEnc 76 4 w43.heap.size _ (.slice pa51 bb.mvs.length pc52) bb.mvs) (fun _ => rfl)) (Nat.le_refl _) (Nat.le_refl _) HNB.out _ _ _ _ _ _ _ _ _ OO C3 VV (Own.sl (F180.at 11 rfl : Own intEnc 3 1 w43.heap.size _ (.slice pa53 OO.length pc54) OO) (fun _ => rfl)) (Nat.le_refl _) (Own.sl (F180.at 12 rfl : Own intEnc 3 1 w43.heap.size _ (.slice pa55 CC.length pc56) C3) (fun _ => rfl)) (Nat.le_refl _) (Own.sl (F180.at 13 rfl : Own intEnc 3 1 w43.heap.size _ (.slice pa57 VV.length pc58) VV) (fun _ => rfl)) (Nat.le_refl _)).mono ?_
                  rintro e w186 ⟨yay183, ycy183, yly183, yhy183, rfl, ⟨yxy183, yyy183⟩, yzy183, hg184⟩
                  have hg184s := hg184.size
                  (try simp at hg184s)
                  have F187 := F180.add (rsl intEnc 1 yly183 yhy183 (.slice yay183 (balL bb OO C3 VV).length ycy183) (balL bb OO C3 VV)) hg184 (yzy183) (fun g e => ⟨Nat.le_trans yxy183 e.1, Nat.lt_of_lt_of_le e.2 yyy183⟩)
                  clear F180
                  refine ru_back hK (by exact ⟨F187.cl 8 2 rfl rfl, F187.cl 8 3 rfl rfl, F187.cl 9 3 rfl rfl, F187.cl 9 4 rfl rfl, F187.cl 9 5 rfl rfl⟩) (fun hHeld => ?_)
                  clear hK K
                  (try simp only [Act.put, List.setIfInBounds_toArray, List.set_cons_zero, List.set_cons_succ])
                  refine ru_p 9 ?_
                  (try simp only [Act.put, List.setIfInBounds_toArray, List.set_cons_zero, List.set_cons_succ])
                  refine ru_p 10 ?_
                  refine ru_p 11 ?_
                  (try simp only [Act.put, List.setIfInBounds_toArray, List.set_cons_zero, List.set_cons_succ])
                  refine ru_p 12 ?_
                  (try simp only [Act.put, List.setIfInBounds_toArray, List.set_cons_zero, List.set_cons_succ])
                  refine ru_one 13 rfl (by kernel_rfl) (fun K hK => ?_)
                  go_simp
                  refine ru_back_late hK (by kernel_rfl) ?_
                  clear hK K
                  (try simp only [Act.put, List.setIfInBounds_toArray, List.set_cons_zero, List.set_cons_succ])
                  refine ru_done (by kernel_rfl) ?_
                  have Fn_ := F187
                  (try dsimp only [List.eraseIdx_cons_succ, List.eraseIdx_cons_zero] at Fn_)
                  obtain ⟨w188, hx189, F191, hxs190⟩ := Fn_.name
                  (try simp at hxs190)
                  rw [hx189]
                  clear hx189 F187 Fn_
                  go_wp2_with fail
                  have F192 := F191.drew
                  clear F191
                  refine ru_begin (fun W => W.cell? ⟨w161.heap.size, 0, none⟩ = some (.slice ba157 bb.accs.length bc157) ∧ W.cell? ⟨w161.heap.size, 1, none⟩ = some (.slice bm157 bb.mvs.length bn157) ∧ W.cell? ⟨g72, 2, none⟩ = some (.slice pa49 bb.accs.length pc50) ∧ W.cell? ⟨g72, 3, none⟩ = some (.slice pa51 bb.mvs.length pc52)) 27 (by kernel_rfl) ?_ ?_
                  · exact ⟨F192.cl 3 0 rfl rfl, F192.cl 3 1 rfl rfl, F192.cl 8 2 rfl rfl, F192.cl 8 3 rfl rfl⟩
                  obtain ⟨wd194, hwd_⟩ : ∃ x : World, w188.drew = x := ⟨_, rfl⟩
                  rw [hwd_] at F192 ⊢
                  have wd194s : w188.heap.size ≤ wd194.heap.size := by rw [← hwd_]; exact Nat.le_refl _
                  clear hwd_
                  have hS193 := (And.intro (F192.cl 3 0 rfl rfl) (And.intro (F192.cl 3 1 rfl rfl) (And.intro (F192.cl 8 2 rfl rfl) (F192.cl 8 3 rfl rfl))))
                  refine ru_t 0 [19, 16, 13, 8, 6, 1] ?_
                  refine ru_t 2 [19, 16, 13, 8, 6, 5, 4] ?_
                  refine ru_t 3 [19, 16, 13, 8, 6, 5, 4] ?_
                  refine ru_t 4 [19, 16, 13, 8, 6, 5] ?_
                  refine ru_t 5 [19, 16, 13, 8, 6] ?_
                  (try simp only [Act.put, List.setIfInBounds_toArray, List.set_cons_zero, List.set_cons_succ])
                  clear hS193
                  refine ru_one 1 rfl (by kernel_rfl) (fun K hK => ?_)
                  go_simp
                  refine (check_c _ _ _ _ _ _ bb _ ((F192.at 4 rfl : HasB bl157 bh157 _ (.slice ba157 bb.accs.length bc157) (.slice bm157 bb.mvs.length bn157) bb)).1 ((F192.at 4 rfl : HasB bl157 bh157 _ (.slice ba157 bb.accs.length bc157) (.slice bm157 bb.mvs.length bn157) bb)).2 HNB.out (by first | omega | (simp; omega)) (by first | omega | (simp; omega))).mono ?_
                  rintro e w197 ⟨rfl, hg195⟩
                  have hg195s := hg195.size
                  (try simp at hg195s)
                  have F198 := F192.gn hg195
                  clear F192
                  refine ru_back hK (by exact ⟨F198.cl 3 0 rfl rfl, F198.cl 3 1 rfl rfl, F198.cl 8 2 rfl rfl, F198.cl 8 3 rfl rfl⟩) (fun hHeld => ?_)
                  clear hK K
                  (try simp only [Act.put, List.setIfInBounds_toArray, List.set_cons_zero, List.set_cons_succ])
                  refine ru_one 6 rfl (by kernel_rfl) (fun K hK => ?_)
                  go_simp
                  refine (rCheck2 _ _ _ _ _ _ bb _ (Own.sl (F198.at 10 rfl : Own accEnc 79 6 w43.heap.size _ (.slice pa49 bb.accs.length pc50) bb.accs) (fun _ => rfl)) (Own.sl (F198.at 11 rfl : Own mvEnc 76 4 w43.heap.size _ (.slice pa51 bb.mvs.length pc52) bb.mvs) (fun _ => rfl)) (Nat.le_refl _) (Nat.le_refl _) HNB.out).mono ?_
                  rintro e w201 ⟨rfl, hg199⟩
                  have hg199s := hg199.size
                  (try simp at hg199s)
                  have F202 := F198.gn hg199
                  clear F198
                  refine ru_back hK (by exact ⟨F202.cl 3 0 rfl rfl, F202.cl 3 1 rfl rfl, F202.cl 8 2 rfl rfl, F202.cl 8 3 rfl rfl⟩) (fun hHeld => ?_)
                  clear hK K
                  (try simp only [Act.put, List.setIfInBounds_toArray, List.set_cons_zero, List.set_cons_succ])
                  refine ru_p 7 ?_
                  (try simp only [Act.put, List.setIfInBounds_toArray, List.set_cons_zero, List.set_cons_succ])
                  refine ru_p 8 ?_
                  (try simp only [Act.put, List.setIfInBounds_toArray, List.set_cons_zero, List.set_cons_succ])
                  refine ru_p 9 ?_
                  refine ru_p 10 ?_
                  (try simp only [Act.put, List.setIfInBounds_toArray, List.set_cons_zero, List.set_cons_succ])
                  refine ru_p 11 ?_
                  (try simp only [Act.put, List.setIfInBounds_toArray, List.set_cons_zero, List.set_cons_succ])
                  refine ru_p 12 ?_
                  (try simp only [Act.put, List.setIfInBounds_toArray, List.set_cons_zero, List.set_cons_succ])
                  refine ru_p 13 ?_
                  (try simp only [Act.put, List.setIfInBounds_toArray, List.set_cons_zero, List.set_cons_succ])
                  refine ru_p 14 ?_
                  refine ru_p 15 ?_
                  (try simp only [Act.put, List.setIfInBounds_toArray, List.set_cons_zero, List.set_cons_succ])
                  refine ru_one 16 rfl (by kernel_rfl) (fun K hK => ?_)
                  go_simp
                  refine (same_t _ _ _ _ _ _ (balL bb OO C3 VV) _ (F202.at 1 rfl : Sl intEnc 1 yly171 yhy171 _ (.slice yay171 (balL bb OO C3 VV).length ycy171) (balL bb OO C3 VV)) (F202.at 0 rfl : Sl intEnc 1 yly183 yhy183 _ (.slice yay183 (balL bb OO C3 VV).length ycy183) (balL bb OO C3 VV))).mono ?_
                  rintro e w205 ⟨rfl, hg203⟩
                  have hg203s := hg203.size
                  (try simp at hg203s)
                  have F206 := F202.gn hg203
                  clear F202
                  refine ru_back hK (by exact ⟨F206.cl 3 0 rfl rfl, F206.cl 3 1 rfl rfl, F206.cl 8 2 rfl rfl, F206.cl 8 3 rfl rfl⟩) (fun hHeld => ?_)
                  clear hK K
                  (try simp only [Act.put, List.setIfInBounds_toArray, List.set_cons_zero, List.set_cons_succ])
                  refine ru_p 17 ?_
                  (try simp only [Act.put, List.setIfInBounds_toArray, List.set_cons_zero, List.set_cons_succ])
                  refine ru_p 18 ?_
                  (try simp only [Act.put, List.setIfInBounds_toArray, List.set_cons_zero, List.set_cons_succ])
                  refine ru_p 19 ?_
                  (try simp only [Act.put, List.setIfInBounds_toArray, List.set_cons_zero, List.set_cons_succ])
                  refine ru_p 21 ?_
                  refine ru_p 22 ?_
                  (try simp only [Act.put, List.setIfInBounds_toArray, List.set_cons_zero, List.set_cons_succ])
                  refine ru_p 23 ?_
                  (try simp only [Act.put, List.setIfInBounds_toArray, List.set_cons_zero, List.set_cons_succ])
                  refine ru_t 20 [26, 25] ?_
                  refine ru_t 24 [26, 25] ?_
                  (try simp only [Act.put, List.setIfInBounds_toArray, List.set_cons_zero, List.set_cons_succ])
                  refine ru_one 25 rfl (by kernel_rfl) (fun K hK => ?_)
                  go_simp
                  refine (sameBooks2 _ _ _ _ _ _ bb _ ((F206.at 4 rfl : HasB bl157 bh157 _ (.slice ba157 bb.accs.length bc157) (.slice bm157 bb.mvs.length bn157) bb)).1 ((F206.at 4 rfl : HasB bl157 bh157 _ (.slice ba157 bb.accs.length bc157) (.slice bm157 bb.mvs.length bn157) bb)).2 (by first | omega | (simp; omega)) (by first | omega | (simp; omega)) _ _ _ _ _ _ (Own.sl (F206.at 10 rfl : Own accEnc 79 6 w43.heap.size _ (.slice pa49 bb.accs.length pc50) bb.accs) (fun _ => rfl)) (Own.sl (F206.at 11 rfl : Own mvEnc 76 4 w43.heap.size _ (.slice pa51 bb.mvs.length pc52) bb.mvs) (fun _ => rfl)) (Nat.le_refl _) (Nat.le_refl _)).mono ?_
                  rintro e w209 ⟨rfl, hg207⟩
                  have hg207s := hg207.size
                  (try simp at hg207s)
                  have F210 := F206.gn hg207
                  clear F206
                  refine ru_back hK (by exact ⟨F210.cl 3 0 rfl rfl, F210.cl 3 1 rfl rfl, F210.cl 8 2 rfl rfl, F210.cl 8 3 rfl rfl⟩) (fun hHeld => ?_)
                  clear hK K
                  (try simp only [Act.put, List.setIfInBounds_toArray, List.set_cons_zero, List.set_cons_succ])
                  refine ru_p 26 ?_
                  (try simp only [Act.put, List.setIfInBounds_toArray, List.set_cons_zero, List.set_cons_succ])
                  refine ru_one 27 rfl (by kernel_rfl) (fun K hK => ?_)
                  go_simp
                  refine ru_back_late hK (by kernel_rfl) ?_
                  clear hK K
                  (try simp only [Act.put, List.setIfInBounds_toArray, List.set_cons_zero, List.set_cons_succ])
                  refine ru_done (by kernel_rfl) ?_
                  have Fn_ := (F210.drop 3 rfl)
                  (try dsimp only [List.eraseIdx_cons_succ, List.eraseIdx_cons_zero] at Fn_)
                  obtain ⟨w211, hx212, F214, hxs213⟩ := Fn_.name
                  (try simp at hxs213)
                  rw [hx212]
                  clear hx212 F210 Fn_
                  go_wp2_with fail
                  have F215 := F214.drew
                  clear F214
                  refine ru_begin (fun W => W.cell? ⟨g13_15, 0, none⟩ = some (.slice oa94_1 OO.length oc94_1) ∧ W.cell? ⟨g73, 3, none⟩ = some (.slice pa53 OO.length pc54) ∧ W.cell? ⟨g13_15, 1, none⟩ = some (.slice oa100_1 C3.length oc100_1) ∧ W.cell? ⟨g73, 4, none⟩ = some (.slice pa55 CC.length pc56) ∧ W.cell? ⟨g13_15, 2, none⟩ = some (.slice oa106_1 VV.length oc106_1) ∧ W.cell? ⟨g73, 5, none⟩ = some (.slice pa57 VV.length pc58)) 30 (by kernel_rfl) ?_ ?_
                  · exact ⟨F215.cl 2 0 rfl rfl, F215.cl 8 3 rfl rfl, F215.cl 2 1 rfl rfl, F215.cl 8 4 rfl rfl, F215.cl 2 2 rfl rfl, F215.cl 8 5 rfl rfl⟩
                  obtain ⟨wd217, hwd_⟩ : ∃ x : World, w211.drew = x := ⟨_, rfl⟩
                  rw [hwd_] at F215 ⊢
                  have wd217s : w211.heap.size ≤ wd217.heap.size := by rw [← hwd_]; exact Nat.le_refl _
                  clear hwd_
                  have hS216 := (And.intro (F215.cl 2 0 rfl rfl) (And.intro (F215.cl 8 3 rfl rfl) (And.intro (F215.cl 2 1 rfl rfl) (And.intro (F215.cl 8 4 rfl rfl) (And.intro (F215.cl 2 2 rfl rfl) (F215.cl 8 5 rfl rfl))))))
                  refine ru_t 0 [20, 17, 9, 7, 1] ?_
                  refine ru_t 1 [20, 17, 9, 7] ?_
                  refine ru_t 2 [20, 17, 9, 7, 6, 5, 4] ?_
                  refine ru_t 3 [20, 17, 9, 7, 6, 5, 4] ?_
                  refine ru_t 4 [20, 17, 9, 7, 6, 5] ?_
                  refine ru_t 5 [20, 17, 9, 7, 6] ?_
                  refine ru_t 6 [20, 17, 9, 7] ?_
                  (try simp only [Act.put, List.setIfInBounds_toArray, List.set_cons_zero, List.set_cons_succ])
                  clear hS216
                  refine ru_one 7 rfl (by kernel_rfl) (fun K hK => ?_)
                  go_simp
                  refine (same_t _ _ _ _ _ _ OO _ (F215.at 24 rfl : Sl intEnc 1 ol94_1 oh94_1 _ (.slice oa94_1 OO.length oc94_1) OO) (Own.sl (F215.at 11 rfl : Own intEnc 3 1 w43.heap.size _ (.slice pa53 OO.length pc54) OO) (fun _ => rfl))).mono ?_
                  rintro e w220 ⟨rfl, hg218⟩
                  have hg218s := hg218.size
                  (try simp at hg218s)
                  have F221 := F215.gn hg218
                  clear F215
                  refine ru_back hK (by exact ⟨F221.cl 2 0 rfl rfl, F221.cl 8 3 rfl rfl, F221.cl 2 1 rfl rfl, F221.cl 8 4 rfl rfl, F221.cl 2 2 rfl rfl, F221.cl 8 5 rfl rfl⟩) (fun hHeld => ?_)
                  clear hK K
                  (try simp only [Act.put, List.setIfInBounds_toArray, List.set_cons_zero, List.set_cons_succ])
                  refine ru_p 8 ?_
                  (try simp only [Act.put, List.setIfInBounds_toArray, List.set_cons_zero, List.set_cons_succ])
                  refine ru_p 9 ?_
                  (try simp only [Act.put, List.setIfInBounds_toArray, List.set_cons_zero, List.set_cons_succ])
                  refine ru_p 10 ?_
                  refine ru_p 12 ?_
                  refine ru_p 13 ?_
                  (try simp only [Act.put, List.setIfInBounds_toArray, List.set_cons_zero, List.set_cons_succ])
                  refine ru_p 14 ?_
                  (try simp only [Act.put, List.setIfInBounds_toArray, List.set_cons_zero, List.set_cons_succ])
                  refine ru_p 15 ?_
                  (try simp only [Act.put, List.setIfInBounds_toArray, List.set_cons_zero, List.set_cons_succ])
                  refine ru_t 11 [20, 17] ?_
                  refine ru_t 16 [20, 17] ?_
                  (try simp only [Act.put, List.setIfInBounds_toArray, List.set_cons_zero, List.set_cons_succ])
                  refine ru_one 17 rfl (by kernel_rfl) (fun K hK => ?_)
                  go_simp
                  refine (same_t _ _ _ _ _ _ C3 _ (F221.at 25 rfl : Sl intEnc 1 ol100_1 oh100_1 _ (.slice oa100_1 C3.length oc100_1) C3) (Own.sl (F221.at 12 rfl : Own intEnc 3 1 w43.heap.size _ (.slice pa55 CC.length pc56) C3) (fun _ => rfl))).mono ?_
                  rintro e w224 ⟨rfl, hg222⟩
                  have hg222s := hg222.size
                  (try simp at hg222s)
                  have F225 := F221.gn hg222
                  clear F221
                  refine ru_back hK (by exact ⟨F225.cl 2 0 rfl rfl, F225.cl 8 3 rfl rfl, F225.cl 2 1 rfl rfl, F225.cl 8 4 rfl rfl, F225.cl 2 2 rfl rfl, F225.cl 8 5 rfl rfl⟩) (fun hHeld => ?_)
                  clear hK K
                  (try simp only [Act.put, List.setIfInBounds_toArray, List.set_cons_zero, List.set_cons_succ])
                  refine ru_p 18 ?_
                  (try simp only [Act.put, List.setIfInBounds_toArray, List.set_cons_zero, List.set_cons_succ])
                  refine ru_p 19 ?_
                  (try simp only [Act.put, List.setIfInBounds_toArray, List.set_cons_zero, List.set_cons_succ])
                  refine ru_p 20 ?_
                  (try simp only [Act.put, List.setIfInBounds_toArray, List.set_cons_zero, List.set_cons_succ])
                  refine ru_p 21 ?_
                  refine ru_p 23 ?_
                  refine ru_p 24 ?_
                  (try simp only [Act.put, List.setIfInBounds_toArray, List.set_cons_zero, List.set_cons_succ])
                  refine ru_p 25 ?_
                  (try simp only [Act.put, List.setIfInBounds_toArray, List.set_cons_zero, List.set_cons_succ])
                  refine ru_p 26 ?_
                  (try simp only [Act.put, List.setIfInBounds_toArray, List.set_cons_zero, List.set_cons_succ])
                  refine ru_t 22 [29, 28] ?_
                  refine ru_t 27 [29, 28] ?_
                  (try simp only [Act.put, List.setIfInBounds_toArray, List.set_cons_zero, List.set_cons_succ])
                  refine ru_one 28 rfl (by kernel_rfl) (fun K hK => ?_)
                  go_simp
                  refine (same_t _ _ _ _ _ _ VV _ (F225.at 26 rfl : Sl intEnc 1 ol106_1 oh106_1 _ (.slice oa106_1 VV.length oc106_1) VV) (Own.sl (F225.at 13 rfl : Own intEnc 3 1 w43.heap.size _ (.slice pa57 VV.length pc58) VV) (fun _ => rfl))).mono ?_
                  rintro e w228 ⟨rfl, hg226⟩
                  have hg226s := hg226.size
                  (try simp at hg226s)
                  have F229 := F225.gn hg226
                  clear F225
                  refine ru_back hK (by exact ⟨F229.cl 2 0 rfl rfl, F229.cl 8 3 rfl rfl, F229.cl 2 1 rfl rfl, F229.cl 8 4 rfl rfl, F229.cl 2 2 rfl rfl, F229.cl 8 5 rfl rfl⟩) (fun hHeld => ?_)
                  clear hK K
                  (try simp only [Act.put, List.setIfInBounds_toArray, List.set_cons_zero, List.set_cons_succ])
                  refine ru_p 29 ?_
                  (try simp only [Act.put, List.setIfInBounds_toArray, List.set_cons_zero, List.set_cons_succ])
                  refine ru_one 30 rfl (by kernel_rfl) (fun K hK => ?_)
                  go_simp
                  refine ru_back_late hK (by kernel_rfl) ?_
                  clear hK K
                  (try simp only [Act.put, List.setIfInBounds_toArray, List.set_cons_zero, List.set_cons_succ])
                  refine ru_done (by kernel_rfl) ?_
                  have Fn_ := (F229.drop 2 rfl)
                  (try dsimp only [List.eraseIdx_cons_succ, List.eraseIdx_cons_zero] at Fn_)
                  obtain ⟨w230, hx231, F233, hxs232⟩ := Fn_.name
                  (try simp at hxs232)
                  rw [hx231]
                  clear hx231 F229 Fn_
                  go_wp2_with fail
                  rw [rounds_succ]
                  have b235 := F233.bx6 6 rfl
                  go_wp2_with fail
                  clear b235
                  refine (ownBook2 _ _ _ _ _ _ bb _ (Own.sl (F233.at 8 rfl : Own accEnc 79 6 w43.heap.size _ (.slice pa49 bb.accs.length pc50) bb.accs) (fun _ => rfl)) (Own.sl (F233.at 9 rfl : Own mvEnc 76 4 w43.heap.size _ (.slice pa51 bb.mvs.length pc52) bb.mvs) (fun _ => rfl)) (Nat.le_refl _) (Nat.le_refl _) (by omega) (by omega)).mono ?_
                  rintro e w238 ⟨ba234, bc234, bm234, bn234, bl234, bh234, rfl, ⟨bx234, by234⟩, bz234, hg236⟩
                  have hg236s := hg236.size
                  (try simp at hg236s)
                  have F239 := F233.add (rbook bl234 bh234 (.slice ba234 bb.accs.length bc234) (.slice bm234 bb.mvs.length bn234) bb) hg236 (bz234) (fun g e => ⟨Nat.le_trans bx234 e.1, Nat.lt_of_lt_of_le e.2 by234⟩)
                  clear F233
                  clear hg236
                  go_wp2_with fail
                  have F240 := F239.new 25 #[.slice ba234 bb.accs.length bc234, .slice bm234 bb.mvs.length bn234] (n := w238.heap.size) (by simp)
                  clear F239
                  have Fn_ := F240
                  (try dsimp only [List.eraseIdx_cons_succ, List.eraseIdx_cons_zero] at Fn_)
                  obtain ⟨w241, hx242, F244, hxs243⟩ := Fn_.name
                  (try simp at hxs243)
                  rw [hx242]
                  clear hx242 F240 Fn_
                  refine wp_cutK 186 (fun t wr => ∃ (g13_15 : Nat) (oa94_2 : Option Addr) (oc94_2 : Nat) (ol94_2 : Nat) (oh94_2 : Nat) (oa100_2 : Option Addr) (oc100_2 : Nat) (ol100_2 : Nat) (oh100_2 : Nat) (oa106_2 : Option Addr) (oc106_2 : Nat) (ol106_2 : Nat) (oh106_2 : Nat), t 11 = .slice (some ⟨g72, 0, none⟩) 3 3 ∧ t 12 = .slice (some ⟨g73, 0, none⟩) 3 3 ∧ t 13 = .int .i64 2 ∧ t 14 = .pointer (some ⟨w238.heap.size, 0, none⟩) ∧ t 15 = .pointer (some ⟨g13_15, 0, none⟩) ∧ w241.heap.size ≤ wr.heap.size ∧ (oh94_2 ≤ wr.heap.size) ∧ (oh100_2 ≤ wr.heap.size) ∧ (oh106_2 ≤ wr.heap.size) ∧ Bun w [rbox g13_15 32 #[.slice oa94_2 O.length oc94_2, .slice oa100_2 C.length oc100_2, .slice oa106_2 V.length oc106_2], rbox w238.heap.size 25 #[.slice ba234 bb.accs.length bc234, .slice bm234 bb.mvs.length bn234], rbook bl234 bh234 (.slice ba234 bb.accs.length bc234) (.slice bm234 bb.mvs.length bn234) bb, rsl intEnc 1 yly183 yhy183 (.slice yay183 (balL bb OO C3 VV).length ycy183) (balL bb OO C3 VV), rsl intEnc 1 yly171 yhy171 (.slice yay171 (balL bb OO C3 VV).length ycy171) (balL bb OO C3 VV), rbook bl157 bh157 (.slice ba157 bb.accs.length bc157) (.slice bm157 bb.mvs.length bn157) bb, rsl intEnc 1 yly106 yhy106 (.slice yay106 (balL b O C V).length ycy106) (balL b O C V), rsl intEnc 1 yly94 yhy94 (.slice yay94 (balL b O C V).length ycy94) (balL b O C V), rbook bl80 bh80 (.slice ba80 b.accs.length bc80) (.slice bm80 b.mvs.length bn80) b, rbox g72 25 #[.slice aa b.accs.length ak, .slice ma b.mvs.length mk, .slice pa49 bb.accs.length pc50, .slice pa51 bb.mvs.length pc52, .slice pa49 bb.accs.length pc50, .slice pa51 bb.mvs.length pc52], rbox g73 32 #[.slice toa O.length tok, .slice tca C.length tck, .slice tva V.length tvk, .slice pa53 OO.length pc54, .slice pa55 CC.length pc56, .slice pa57 VV.length pc58, .slice toa O.length tok, .slice tca C.length tck, .slice tva V.length tvk], rown accEnc 79 6 w43.heap.size (.slice pa49 bb.accs.length pc50) bb.accs, rown mvEnc 76 4 w43.heap.size (.slice pa51 bb.mvs.length pc52) bb.mvs, rown intEnc 3 1 w43.heap.size (.slice pa53 OO.length pc54) OO, rown intEnc 3 1 w43.heap.size (.slice pa55 CC.length pc56) C3, rown intEnc 3 1 w43.heap.size (.slice pa57 VV.length pc58) VV, rseed sb, rsl intEnc 1 0 w.heap.size (.slice na zs.length nc) zs, rsl intEnc 1 0 w.heap.size (.slice tva V.length tvk) V, rsl intEnc 1 0 w.heap.size (.slice tca C.length tck) C, rsl intEnc 1 0 w.heap.size (.slice toa O.length tok) O, rsl mvEnc 4 0 w.heap.size (.slice ma b.mvs.length mk) b.mvs, rsl accEnc 6 0 w.heap.size (.slice aa b.accs.length ak) b.accs, rsl intEnc 1 ol94_0 oh94_0 (.slice oa94_0 O.length oc94_0) O, rsl intEnc 1 ol100_0 oh100_0 (.slice oa100_0 C.length oc100_0) C, rsl intEnc 1 ol106_0 oh106_0 (.slice oa106_0 V.length oc106_0) V, rsl intEnc 1 ol94_1 oh94_1 (.slice oa94_1 OO.length oc94_1) OO, rsl intEnc 1 ol100_1 oh100_1 (.slice oa100_1 C3.length oc100_1) C3, rsl intEnc 1 ol106_1 oh106_1 (.slice oa106_1 VV.length oc106_1) VV, rsl intEnc 1 ol94_2 oh94_2 (.slice oa94_2 O.length oc94_2) O, rsl intEnc 1 ol100_2 oh100_2 (.slice oa100_2 C.length oc100_2) C, rsl intEnc 1 ol106_2 oh106_2 (.slice oa106_2 V.length oc106_2) V] wr) ?first3 ?rest3
                  case rest3 =>
                    rintro t wr ⟨g13_15, oa94_2, oc94_2, ol94_2, oh94_2, oa100_2, oc100_2, ol100_2, oh100_2, oa106_2, oc106_2, ol106_2, oh106_2, e11, e12, e13, e14, e15, hrel⟩
                    have e : ((List.range 186).map t).toArray = #[t 0, t 1, t 2, t 3, t 4, t 5, t 6, t 7, t 8, t 9, t 10, t 11, t 12, t 13, t 14, t 15, t 16, t 17, t 18, t 19, t 20, t 21, t 22, t 23, t 24, t 25, t 26, t 27, t 28, t 29, t 30, t 31, t 32, t 33, t 34, t 35, t 36, t 37, t 38, t 39, t 40, t 41, t 42, t 43, t 44, t 45, t 46, t 47, t 48, t 49, t 50, t 51, t 52, t 53, t 54, t 55, t 56, t 57, t 58, t 59, t 60, t 61, t 62, t 63, t 64, t 65, t 66, t 67, t 68, t 69, t 70, t 71, t 72, t 73, t 74, t 75, t 76, t 77, t 78, t 79, t 80, t 81, t 82, t 83, t 84, t 85, t 86, t 87, t 88, t 89, t 90, t 91, t 92, t 93, t 94, t 95, t 96, t 97, t 98, t 99, t 100, t 101, t 102, t 103, t 104, t 105, t 106, t 107, t 108, t 109, t 110, t 111, t 112, t 113, t 114, t 115, t 116, t 117, t 118, t 119, t 120, t 121, t 122, t 123, t 124, t 125, t 126, t 127, t 128, t 129, t 130, t 131, t 132, t 133, t 134, t 135, t 136, t 137, t 138, t 139, t 140, t 141, t 142, t 143, t 144, t 145, t 146, t 147, t 148, t 149, t 150, t 151, t 152, t 153, t 154, t 155, t 156, t 157, t 158, t 159, t 160, t 161, t 162, t 163, t 164, t 165, t 166, t 167, t 168, t 169, t 170, t 171, t 172, t 173, t 174, t 175, t 176, t 177, t 178, t 179, t 180, t 181, t 182, t 183, t 184, t 185] := rfl
                    (try dsimp only at e)
                    rw [e11, e12, e13, e14, e15] at e
                    rw [e]
                    clear e e11 e12 e13 e14 e15
                    obtain ⟨hs246, oy94_2, oy100_2, oy106_2, hF245⟩ := hrel
                    clear F244
                    obtain ⟨w247, rfl⟩ : ∃ x_ : World, x_ = wr := ⟨_, rfl⟩
                    have b249 := hF245.bx3 0 rfl
                    have b250 := hF245.bx2 1 rfl
                    go_wp2_with fail
                    clear b249 b250
                    refine (balance2 _ _ _ _ _ _ bb _ ((hF245.at 2 rfl : HasB bl234 bh234 _ (.slice ba234 bb.accs.length bc234) (.slice bm234 bb.mvs.length bn234) bb)).1 ((hF245.at 2 rfl : HasB bl234 bh234 _ (.slice ba234 bb.accs.length bc234) (.slice bm234 bb.mvs.length bn234) bb)).2 (by first | omega | (simp; omega)) (by first | omega | (simp; omega)) HNB.out _ _ _ _ _ _ _ _ _ O C V (hF245.at 29 rfl : Sl intEnc 1 ol94_2 oh94_2 _ (.slice oa94_2 O.length oc94_2) O) (by first | omega | (simp; omega)) (hF245.at 30 rfl : Sl intEnc 1 ol100_2 oh100_2 _ (.slice oa100_2 C.length oc100_2) C) (by first | omega | (simp; omega)) (hF245.at 31 rfl : Sl intEnc 1 ol106_2 oh106_2 _ (.slice oa106_2 V.length oc106_2) V) (by first | omega | (simp; omega))).mono ?_
                    rintro e w253 ⟨yay248, ycy248, yly248, yhy248, rfl, ⟨yxy248, yyy248⟩, yzy248, hg251⟩
                    have hg251s := hg251.size
                    (try simp at hg251s)
                    have F254 := hF245.add (rsl intEnc 1 yly248 yhy248 (.slice yay248 (balL bb O C V).length ycy248) (balL bb O C V)) hg251 (yzy248) (fun g e => ⟨Nat.le_trans yxy248 e.1, Nat.lt_of_lt_of_le e.2 yyy248⟩)
                    clear hF245
                    clear hg251
                    go_wp2_with fail
                    have F257 := F254.drew
                    clear F254
                    refine ru_begin (fun W => W.cell? ⟨g72, 4, none⟩ = some (.slice pa49 bb.accs.length pc50) ∧ W.cell? ⟨g72, 5, none⟩ = some (.slice pa51 bb.mvs.length pc52) ∧ W.cell? ⟨g73, 6, none⟩ = some (.slice toa O.length tok) ∧ W.cell? ⟨g73, 7, none⟩ = some (.slice tca C.length tck) ∧ W.cell? ⟨g73, 8, none⟩ = some (.slice tva V.length tvk)) 13 (by kernel_rfl) ?_ ?_
                    · exact ⟨F257.cl 10 4 rfl rfl, F257.cl 10 5 rfl rfl, F257.cl 11 6 rfl rfl, F257.cl 11 7 rfl rfl, F257.cl 11 8 rfl rfl⟩
                    obtain ⟨wd259, hwd_⟩ : ∃ x : World, w253.drew = x := ⟨_, rfl⟩
                    rw [hwd_] at F257 ⊢
                    have wd259s : w253.heap.size ≤ wd259.heap.size := by rw [← hwd_]; exact Nat.le_refl _
                    clear hwd_
                    have hS258 := (And.intro (F257.cl 10 4 rfl rfl) (And.intro (F257.cl 10 5 rfl rfl) (And.intro (F257.cl 11 6 rfl rfl) (And.intro (F257.cl 11 7 rfl rfl) (F257.cl 11 8 rfl rfl)))))
                    refine ru_t 0 [] ?_
                    refine ru_t 1 [] ?_
                    refine ru_t 2 [] ?_
                    refine ru_t 3 [] ?_
                    refine ru_t 4 [] ?_
                    refine ru_t 5 [] ?_
                    refine ru_t 6 [] ?_
                    refine ru_t 7 [] ?_
                    (try simp only [Act.put, List.setIfInBounds_toArray, List.set_cons_zero, List.set_cons_succ])
                    clear hS258
                    refine ru_one 8 rfl (by kernel_rfl) (fun K hK => ?_)
                    go_simp
                    refine (rbalance2 _ _ _ _ _ _ bb _ (Own.sl (F257.at 12 rfl : Own accEnc 79 6 w43.heap.size _ (.slice pa49 bb.accs.length pc50) bb.accs) (fun _ => rfl)) (Own.sl (F257.at 13 rfl : Own mvEnc 76 4 w43.heap.size _ (.slice pa51 bb.mvs.length pc52) bb.mvs) (fun _ => rfl)) (Nat.le_refl _) (Nat.le_refl _) HNB.out _ _ _ _ _ _ _ _ _ O C V (F257.at 21 rfl : Sl intEnc 1 0 w.heap.size _ (.slice toa O.length tok) O) (by first | omega | (simp; omega)) (F257.at 20 rfl : Sl intEnc 1 0 w.heap.size _ (.slice tca C.length tck) C) (by first | omega | (simp; omega)) (F257.at 19 rfl : Sl intEnc 1 0 w.heap.size _ (.slice tva V.length tvk) V) (by first | omega | (simp; omega))).mono ?_
                    rintro e w263 ⟨yay260, ycy260, yly260, yhy260, rfl, ⟨yxy260, yyy260⟩, yzy260, hg261⟩
                    have hg261s := hg261.size
                    (try simp at hg261s)
                    have F264 := F257.add (rsl intEnc 1 yly260 yhy260 (.slice yay260 (balL bb O C V).length ycy260) (balL bb O C V)) hg261 (yzy260) (fun g e => ⟨Nat.le_trans yxy260 e.1, Nat.lt_of_lt_of_le e.2 yyy260⟩)
                    clear F257
                    refine ru_back hK (by exact ⟨F264.cl 11 4 rfl rfl, F264.cl 11 5 rfl rfl, F264.cl 12 6 rfl rfl, F264.cl 12 7 rfl rfl, F264.cl 12 8 rfl rfl⟩) (fun hHeld => ?_)
                    clear hK K
                    (try simp only [Act.put, List.setIfInBounds_toArray, List.set_cons_zero, List.set_cons_succ])
                    refine ru_p 9 ?_
                    (try simp only [Act.put, List.setIfInBounds_toArray, List.set_cons_zero, List.set_cons_succ])
                    refine ru_p 10 ?_
                    refine ru_p 11 ?_
                    (try simp only [Act.put, List.setIfInBounds_toArray, List.set_cons_zero, List.set_cons_succ])
                    refine ru_p 12 ?_
                    (try simp only [Act.put, List.setIfInBounds_toArray, List.set_cons_zero, List.set_cons_succ])
                    refine ru_one 13 rfl (by kernel_rfl) (fun K hK => ?_)
                    go_simp
                    refine ru_back_late hK (by kernel_rfl) ?_
                    clear hK K
                    (try simp only [Act.put, List.setIfInBounds_toArray, List.set_cons_zero, List.set_cons_succ])
                    refine ru_done (by kernel_rfl) ?_
                    have Fn_ := F264
                    (try dsimp only [List.eraseIdx_cons_succ, List.eraseIdx_cons_zero] at Fn_)
                    obtain ⟨w265, hx266, F268, hxs267⟩ := Fn_.name
                    (try simp at hxs267)
                    rw [hx266]
                    clear hx266 F264 Fn_
                    go_wp2_with fail
                    have F269 := F268.drew
                    clear F268
                    refine ru_begin (fun W => W.cell? ⟨w238.heap.size, 0, none⟩ = some (.slice ba234 bb.accs.length bc234) ∧ W.cell? ⟨w238.heap.size, 1, none⟩ = some (.slice bm234 bb.mvs.length bn234) ∧ W.cell? ⟨g72, 4, none⟩ = some (.slice pa49 bb.accs.length pc50) ∧ W.cell? ⟨g72, 5, none⟩ = some (.slice pa51 bb.mvs.length pc52)) 27 (by kernel_rfl) ?_ ?_
                    · exact ⟨F269.cl 3 0 rfl rfl, F269.cl 3 1 rfl rfl, F269.cl 11 4 rfl rfl, F269.cl 11 5 rfl rfl⟩
                    obtain ⟨wd271, hwd_⟩ : ∃ x : World, w265.drew = x := ⟨_, rfl⟩
                    rw [hwd_] at F269 ⊢
                    have wd271s : w265.heap.size ≤ wd271.heap.size := by rw [← hwd_]; exact Nat.le_refl _
                    clear hwd_
                    have hS270 := (And.intro (F269.cl 3 0 rfl rfl) (And.intro (F269.cl 3 1 rfl rfl) (And.intro (F269.cl 11 4 rfl rfl) (F269.cl 11 5 rfl rfl))))
                    refine ru_t 0 [19, 16, 13, 8, 6, 1] ?_
                    refine ru_t 2 [19, 16, 13, 8, 6, 5, 4] ?_
                    refine ru_t 3 [19, 16, 13, 8, 6, 5, 4] ?_
                    refine ru_t 4 [19, 16, 13, 8, 6, 5] ?_
                    refine ru_t 5 [19, 16, 13, 8, 6] ?_
                    (try simp only [Act.put, List.setIfInBounds_toArray, List.set_cons_zero, List.set_cons_succ])
                    clear hS270
                    refine ru_one 1 rfl (by kernel_rfl) (fun K hK => ?_)
                    go_simp
                    refine (check_c _ _ _ _ _ _ bb _ ((F269.at 4 rfl : HasB bl234 bh234 _ (.slice ba234 bb.accs.length bc234) (.slice bm234 bb.mvs.length bn234) bb)).1 ((F269.at 4 rfl : HasB bl234 bh234 _ (.slice ba234 bb.accs.length bc234) (.slice bm234 bb.mvs.length bn234) bb)).2 HNB.out (by first | omega | (simp; omega)) (by first | omega | (simp; omega))).mono ?_
                    rintro e w274 ⟨rfl, hg272⟩
                    have hg272s := hg272.size
                    (try simp at hg272s)
                    have F275 := F269.gn hg272
                    clear F269
                    refine ru_back hK (by exact ⟨F275.cl 3 0 rfl rfl, F275.cl 3 1 rfl rfl, F275.cl 11 4 rfl rfl, F275.cl 11 5 rfl rfl⟩) (fun hHeld => ?_)
                    clear hK K
                    (try simp only [Act.put, List.setIfInBounds_toArray, List.set_cons_zero, List.set_cons_succ])
                    refine ru_one 6 rfl (by kernel_rfl) (fun K hK => ?_)
                    go_simp
                    refine (rCheck2 _ _ _ _ _ _ bb _ (Own.sl (F275.at 13 rfl : Own accEnc 79 6 w43.heap.size _ (.slice pa49 bb.accs.length pc50) bb.accs) (fun _ => rfl)) (Own.sl (F275.at 14 rfl : Own mvEnc 76 4 w43.heap.size _ (.slice pa51 bb.mvs.length pc52) bb.mvs) (fun _ => rfl)) (Nat.le_refl _) (Nat.le_refl _) HNB.out).mono ?_
                    rintro e w278 ⟨rfl, hg276⟩
                    have hg276s := hg276.size
                    (try simp at hg276s)
                    have F279 := F275.gn hg276
                    clear F275
                    refine ru_back hK (by exact ⟨F279.cl 3 0 rfl rfl, F279.cl 3 1 rfl rfl, F279.cl 11 4 rfl rfl, F279.cl 11 5 rfl rfl⟩) (fun hHeld => ?_)
                    clear hK K
                    (try simp only [Act.put, List.setIfInBounds_toArray, List.set_cons_zero, List.set_cons_succ])
                    refine ru_p 7 ?_
                    (try simp only [Act.put, List.setIfInBounds_toArray, List.set_cons_zero, List.set_cons_succ])
                    refine ru_p 8 ?_
                    (try simp only [Act.put, List.setIfInBounds_toArray, List.set_cons_zero, List.set_cons_succ])
                    refine ru_p 9 ?_
                    refine ru_p 10 ?_
                    (try simp only [Act.put, List.setIfInBounds_toArray, List.set_cons_zero, List.set_cons_succ])
                    refine ru_p 11 ?_
                    (try simp only [Act.put, List.setIfInBounds_toArray, List.set_cons_zero, List.set_cons_succ])
                    refine ru_p 12 ?_
                    (try simp only [Act.put, List.setIfInBounds_toArray, List.set_cons_zero, List.set_cons_succ])
                    refine ru_p 13 ?_
                    (try simp only [Act.put, List.setIfInBounds_toArray, List.set_cons_zero, List.set_cons_succ])
                    refine ru_p 14 ?_
                    refine ru_p 15 ?_
                    (try simp only [Act.put, List.setIfInBounds_toArray, List.set_cons_zero, List.set_cons_succ])
                    refine ru_one 16 rfl (by kernel_rfl) (fun K hK => ?_)
                    go_simp
                    refine (same_t _ _ _ _ _ _ (balL bb O C V) _ (F279.at 1 rfl : Sl intEnc 1 yly248 yhy248 _ (.slice yay248 (balL bb O C V).length ycy248) (balL bb O C V)) (F279.at 0 rfl : Sl intEnc 1 yly260 yhy260 _ (.slice yay260 (balL bb O C V).length ycy260) (balL bb O C V))).mono ?_
                    rintro e w282 ⟨rfl, hg280⟩
                    have hg280s := hg280.size
                    (try simp at hg280s)
                    have F283 := F279.gn hg280
                    clear F279
                    refine ru_back hK (by exact ⟨F283.cl 3 0 rfl rfl, F283.cl 3 1 rfl rfl, F283.cl 11 4 rfl rfl, F283.cl 11 5 rfl rfl⟩) (fun hHeld => ?_)
                    clear hK K
                    (try simp only [Act.put, List.setIfInBounds_toArray, List.set_cons_zero, List.set_cons_succ])
                    refine ru_p 17 ?_
                    (try simp only [Act.put, List.setIfInBounds_toArray, List.set_cons_zero, List.set_cons_succ])
                    refine ru_p 18 ?_
                    (try simp only [Act.put, List.setIfInBounds_toArray, List.set_cons_zero, List.set_cons_succ])
                    refine ru_p 19 ?_
                    (try simp only [Act.put, List.setIfInBounds_toArray, List.set_cons_zero, List.set_cons_succ])
                    refine ru_p 21 ?_
                    refine ru_p 22 ?_
                    (try simp only [Act.put, List.setIfInBounds_toArray, List.set_cons_zero, List.set_cons_succ])
                    refine ru_p 23 ?_
                    (try simp only [Act.put, List.setIfInBounds_toArray, List.set_cons_zero, List.set_cons_succ])
                    refine ru_t 20 [26, 25] ?_
                    refine ru_t 24 [26, 25] ?_
                    (try simp only [Act.put, List.setIfInBounds_toArray, List.set_cons_zero, List.set_cons_succ])
                    refine ru_one 25 rfl (by kernel_rfl) (fun K hK => ?_)
                    go_simp
                    refine (sameBooks2 _ _ _ _ _ _ bb _ ((F283.at 4 rfl : HasB bl234 bh234 _ (.slice ba234 bb.accs.length bc234) (.slice bm234 bb.mvs.length bn234) bb)).1 ((F283.at 4 rfl : HasB bl234 bh234 _ (.slice ba234 bb.accs.length bc234) (.slice bm234 bb.mvs.length bn234) bb)).2 (by first | omega | (simp; omega)) (by first | omega | (simp; omega)) _ _ _ _ _ _ (Own.sl (F283.at 13 rfl : Own accEnc 79 6 w43.heap.size _ (.slice pa49 bb.accs.length pc50) bb.accs) (fun _ => rfl)) (Own.sl (F283.at 14 rfl : Own mvEnc 76 4 w43.heap.size _ (.slice pa51 bb.mvs.length pc52) bb.mvs) (fun _ => rfl)) (Nat.le_refl _) (Nat.le_refl _)).mono ?_
                    rintro e w286 ⟨rfl, hg284⟩
                    have hg284s := hg284.size
                    (try simp at hg284s)
                    have F287 := F283.gn hg284
                    clear F283
                    refine ru_back hK (by exact ⟨F287.cl 3 0 rfl rfl, F287.cl 3 1 rfl rfl, F287.cl 11 4 rfl rfl, F287.cl 11 5 rfl rfl⟩) (fun hHeld => ?_)
                    clear hK K
                    (try simp only [Act.put, List.setIfInBounds_toArray, List.set_cons_zero, List.set_cons_succ])
                    refine ru_p 26 ?_
                    (try simp only [Act.put, List.setIfInBounds_toArray, List.set_cons_zero, List.set_cons_succ])
                    refine ru_one 27 rfl (by kernel_rfl) (fun K hK => ?_)
                    go_simp
                    refine ru_back_late hK (by kernel_rfl) ?_
                    clear hK K
                    (try simp only [Act.put, List.setIfInBounds_toArray, List.set_cons_zero, List.set_cons_succ])
                    refine ru_done (by kernel_rfl) ?_
                    have Fn_ := (F287.drop 3 rfl)
                    (try dsimp only [List.eraseIdx_cons_succ, List.eraseIdx_cons_zero] at Fn_)
                    obtain ⟨w288, hx289, F291, hxs290⟩ := Fn_.name
                    (try simp at hxs290)
                    rw [hx289]
                    clear hx289 F287 Fn_
                    go_wp2_with fail
                    have F292 := F291.drew
                    clear F291
                    refine ru_begin (fun W => W.cell? ⟨g13_15, 0, none⟩ = some (.slice oa94_2 O.length oc94_2) ∧ W.cell? ⟨g73, 6, none⟩ = some (.slice toa O.length tok) ∧ W.cell? ⟨g13_15, 1, none⟩ = some (.slice oa100_2 C.length oc100_2) ∧ W.cell? ⟨g73, 7, none⟩ = some (.slice tca C.length tck) ∧ W.cell? ⟨g13_15, 2, none⟩ = some (.slice oa106_2 V.length oc106_2) ∧ W.cell? ⟨g73, 8, none⟩ = some (.slice tva V.length tvk)) 30 (by kernel_rfl) ?_ ?_
                    · exact ⟨F292.cl 2 0 rfl rfl, F292.cl 11 6 rfl rfl, F292.cl 2 1 rfl rfl, F292.cl 11 7 rfl rfl, F292.cl 2 2 rfl rfl, F292.cl 11 8 rfl rfl⟩
                    obtain ⟨wd294, hwd_⟩ : ∃ x : World, w288.drew = x := ⟨_, rfl⟩
                    rw [hwd_] at F292 ⊢
                    have wd294s : w288.heap.size ≤ wd294.heap.size := by rw [← hwd_]; exact Nat.le_refl _
                    clear hwd_
                    have hS293 := (And.intro (F292.cl 2 0 rfl rfl) (And.intro (F292.cl 11 6 rfl rfl) (And.intro (F292.cl 2 1 rfl rfl) (And.intro (F292.cl 11 7 rfl rfl) (And.intro (F292.cl 2 2 rfl rfl) (F292.cl 11 8 rfl rfl))))))
                    refine ru_t 0 [20, 17, 9, 7, 1] ?_
                    refine ru_t 1 [20, 17, 9, 7] ?_
                    refine ru_t 2 [20, 17, 9, 7, 6, 5, 4] ?_
                    refine ru_t 3 [20, 17, 9, 7, 6, 5, 4] ?_
                    refine ru_t 4 [20, 17, 9, 7, 6, 5] ?_
                    refine ru_t 5 [20, 17, 9, 7, 6] ?_
                    refine ru_t 6 [20, 17, 9, 7] ?_
                    (try simp only [Act.put, List.setIfInBounds_toArray, List.set_cons_zero, List.set_cons_succ])
                    clear hS293
                    refine ru_one 7 rfl (by kernel_rfl) (fun K hK => ?_)
                    go_simp
                    refine (same_t _ _ _ _ _ _ O _ (F292.at 30 rfl : Sl intEnc 1 ol94_2 oh94_2 _ (.slice oa94_2 O.length oc94_2) O) (F292.at 21 rfl : Sl intEnc 1 0 w.heap.size _ (.slice toa O.length tok) O)).mono ?_
                    rintro e w297 ⟨rfl, hg295⟩
                    have hg295s := hg295.size
                    (try simp at hg295s)
                    have F298 := F292.gn hg295
                    clear F292
                    refine ru_back hK (by exact ⟨F298.cl 2 0 rfl rfl, F298.cl 11 6 rfl rfl, F298.cl 2 1 rfl rfl, F298.cl 11 7 rfl rfl, F298.cl 2 2 rfl rfl, F298.cl 11 8 rfl rfl⟩) (fun hHeld => ?_)
                    clear hK K
                    (try simp only [Act.put, List.setIfInBounds_toArray, List.set_cons_zero, List.set_cons_succ])
                    refine ru_p 8 ?_
                    (try simp only [Act.put, List.setIfInBounds_toArray, List.set_cons_zero, List.set_cons_succ])
                    refine ru_p 9 ?_
                    (try simp only [Act.put, List.setIfInBounds_toArray, List.set_cons_zero, List.set_cons_succ])
                    refine ru_p 10 ?_
                    refine ru_p 12 ?_
                    refine ru_p 13 ?_
                    (try simp only [Act.put, List.setIfInBounds_toArray, List.set_cons_zero, List.set_cons_succ])
                    refine ru_p 14 ?_
                    (try simp only [Act.put, List.setIfInBounds_toArray, List.set_cons_zero, List.set_cons_succ])
                    refine ru_p 15 ?_
                    (try simp only [Act.put, List.setIfInBounds_toArray, List.set_cons_zero, List.set_cons_succ])
                    refine ru_t 11 [20, 17] ?_
                    refine ru_t 16 [20, 17] ?_
                    (try simp only [Act.put, List.setIfInBounds_toArray, List.set_cons_zero, List.set_cons_succ])
                    refine ru_one 17 rfl (by kernel_rfl) (fun K hK => ?_)
                    go_simp
                    refine (same_t _ _ _ _ _ _ C _ (F298.at 31 rfl : Sl intEnc 1 ol100_2 oh100_2 _ (.slice oa100_2 C.length oc100_2) C) (F298.at 20 rfl : Sl intEnc 1 0 w.heap.size _ (.slice tca C.length tck) C)).mono ?_
                    rintro e w301 ⟨rfl, hg299⟩
                    have hg299s := hg299.size
                    (try simp at hg299s)
                    have F302 := F298.gn hg299
                    clear F298
                    refine ru_back hK (by exact ⟨F302.cl 2 0 rfl rfl, F302.cl 11 6 rfl rfl, F302.cl 2 1 rfl rfl, F302.cl 11 7 rfl rfl, F302.cl 2 2 rfl rfl, F302.cl 11 8 rfl rfl⟩) (fun hHeld => ?_)
                    clear hK K
                    (try simp only [Act.put, List.setIfInBounds_toArray, List.set_cons_zero, List.set_cons_succ])
                    refine ru_p 18 ?_
                    (try simp only [Act.put, List.setIfInBounds_toArray, List.set_cons_zero, List.set_cons_succ])
                    refine ru_p 19 ?_
                    (try simp only [Act.put, List.setIfInBounds_toArray, List.set_cons_zero, List.set_cons_succ])
                    refine ru_p 20 ?_
                    (try simp only [Act.put, List.setIfInBounds_toArray, List.set_cons_zero, List.set_cons_succ])
                    refine ru_p 21 ?_
                    refine ru_p 23 ?_
                    refine ru_p 24 ?_
                    (try simp only [Act.put, List.setIfInBounds_toArray, List.set_cons_zero, List.set_cons_succ])
                    refine ru_p 25 ?_
                    (try simp only [Act.put, List.setIfInBounds_toArray, List.set_cons_zero, List.set_cons_succ])
                    refine ru_p 26 ?_
                    (try simp only [Act.put, List.setIfInBounds_toArray, List.set_cons_zero, List.set_cons_succ])
                    refine ru_t 22 [29, 28] ?_
                    refine ru_t 27 [29, 28] ?_
                    (try simp only [Act.put, List.setIfInBounds_toArray, List.set_cons_zero, List.set_cons_succ])
                    refine ru_one 28 rfl (by kernel_rfl) (fun K hK => ?_)
                    go_simp
                    refine (same_t _ _ _ _ _ _ V _ (F302.at 32 rfl : Sl intEnc 1 ol106_2 oh106_2 _ (.slice oa106_2 V.length oc106_2) V) (F302.at 19 rfl : Sl intEnc 1 0 w.heap.size _ (.slice tva V.length tvk) V)).mono ?_
                    rintro e w305 ⟨rfl, hg303⟩
                    have hg303s := hg303.size
                    (try simp at hg303s)
                    have F306 := F302.gn hg303
                    clear F302
                    refine ru_back hK (by exact ⟨F306.cl 2 0 rfl rfl, F306.cl 11 6 rfl rfl, F306.cl 2 1 rfl rfl, F306.cl 11 7 rfl rfl, F306.cl 2 2 rfl rfl, F306.cl 11 8 rfl rfl⟩) (fun hHeld => ?_)
                    clear hK K
                    (try simp only [Act.put, List.setIfInBounds_toArray, List.set_cons_zero, List.set_cons_succ])
                    refine ru_p 29 ?_
                    (try simp only [Act.put, List.setIfInBounds_toArray, List.set_cons_zero, List.set_cons_succ])
                    refine ru_one 30 rfl (by kernel_rfl) (fun K hK => ?_)
                    go_simp
                    refine ru_back_late hK (by kernel_rfl) ?_
                    clear hK K
                    (try simp only [Act.put, List.setIfInBounds_toArray, List.set_cons_zero, List.set_cons_succ])
                    refine ru_done (by kernel_rfl) ?_
                    have Fn_ := (F306.drop 2 rfl)
                    (try dsimp only [List.eraseIdx_cons_succ, List.eraseIdx_cons_zero] at Fn_)
                    obtain ⟨w307, hx308, F310, hxs309⟩ := Fn_.name
                    (try simp at hxs309)
                    rw [hx308]
                    clear hx308 F306 Fn_
                    go_wp2_with fail
                    rw [rounds_succ]
                    go_wp2_with fail
                    refine (awake_c _).mono ?_
                    rintro e w313 ⟨rfl, hg311⟩
                    have hg311s := hg311.size
                    (try simp at hg311s)
                    have F314 := F310.gn hg311
                    clear F310
                    clear hg311
                    go_wp2_with fail
                    go_ret
                    exact ⟨rfl, F314.gb⟩
                  case first3 =>
                    have F315 := F244.drew
                    clear F244
                    refine ru_begin (fun W => W.cell? ⟨g73, 6, none⟩ = some (.slice toa O.length tok) ∧ W.cell? ⟨g73, 7, none⟩ = some (.slice tca C.length tck) ∧ W.cell? ⟨g73, 8, none⟩ = some (.slice tva V.length tvk)) 20 (by kernel_rfl) ?_ ?_
                    · exact ⟨F315.cl 9 6 rfl rfl, F315.cl 9 7 rfl rfl, F315.cl 9 8 rfl rfl⟩
                    obtain ⟨wd317, hwd_⟩ : ∃ x : World, w241.drew = x := ⟨_, rfl⟩
                    rw [hwd_] at F315 ⊢
                    have wd317s : w241.heap.size ≤ wd317.heap.size := by rw [← hwd_]; exact Nat.le_refl _
                    clear hwd_
                    have hS316 := (And.intro (F315.cl 9 6 rfl rfl) (And.intro (F315.cl 9 7 rfl rfl) (F315.cl 9 8 rfl rfl)))
                    refine ru_t 0 [] ?_
                    refine ru_t 1 [] ?_
                    refine ru_t 2 [] ?_
                    refine ru_t 3 [] ?_
                    refine ru_t 4 [] ?_
                    refine ru_t 6 [] ?_
                    refine ru_t 7 [] ?_
                    refine ru_t 8 [] ?_
                    refine ru_t 9 [] ?_
                    refine ru_t 10 [] ?_
                    refine ru_t 12 [] ?_
                    refine ru_t 13 [] ?_
                    refine ru_t 14 [] ?_
                    refine ru_t 15 [] ?_
                    refine ru_t 16 [] ?_
                    (try simp only [Act.put, List.setIfInBounds_toArray, List.set_cons_zero, List.set_cons_succ])
                    clear hS316
                    refine ru_two 5 19 rfl rfl (by kernel_rfl) ?_ ?_
                    · intro K hK
                      go_simp
                      refine (own_s _ _ _ O _ (F315.at 19 rfl : Sl intEnc 1 0 w.heap.size _ (.slice toa O.length tok) O) (by omega)).mono ?_
                      rintro e w320 ⟨oa94_2, oc94_2, ol94_2, oh94_2, rfl, ⟨ox94_2, oy94_2⟩, oz94_2, hg318⟩
                      have hg318s := hg318.size
                      (try simp at hg318s)
                      have F321 := F315.add (rsl intEnc 1 ol94_2 oh94_2 (.slice oa94_2 O.length oc94_2) O) hg318 (oz94_2) (fun g e => ⟨Nat.le_trans ox94_2 e.1, Nat.lt_of_lt_of_le e.2 oy94_2⟩)
                      clear F315
                      refine ru_back hK (by exact ⟨F321.cl 10 6 rfl rfl, F321.cl 10 7 rfl rfl, F321.cl 10 8 rfl rfl⟩) (fun hHeld => ?_)
                      clear hK K
                      (try simp only [Act.put, List.setIfInBounds_toArray, List.set_cons_zero, List.set_cons_succ])
                      refine ru_two 11 19 rfl rfl (by kernel_rfl) ?_ ?_
                      · intro K hK
                        go_simp
                        refine (own_s _ _ _ C _ (F321.at 19 rfl : Sl intEnc 1 0 w.heap.size _ (.slice tca C.length tck) C) (by omega)).mono ?_
                        rintro e w324 ⟨oa100_2, oc100_2, ol100_2, oh100_2, rfl, ⟨ox100_2, oy100_2⟩, oz100_2, hg322⟩
                        have hg322s := hg322.size
                        (try simp at hg322s)
                        have F325 := F321.add (rsl intEnc 1 ol100_2 oh100_2 (.slice oa100_2 C.length oc100_2) C) hg322 (oz100_2) (fun g e => ⟨Nat.le_trans ox100_2 e.1, Nat.lt_of_lt_of_le e.2 oy100_2⟩)
                        clear F321
                        refine ru_back hK (by exact ⟨F325.cl 11 6 rfl rfl, F325.cl 11 7 rfl rfl, F325.cl 11 8 rfl rfl⟩) (fun hHeld => ?_)
                        clear hK K
                        (try simp only [Act.put, List.setIfInBounds_toArray, List.set_cons_zero, List.set_cons_succ])
                        refine ru_two 17 19 rfl rfl (by kernel_rfl) ?_ ?_
                        · intro K hK
                          go_simp
                          refine (own_s _ _ _ V _ (F325.at 19 rfl : Sl intEnc 1 0 w.heap.size _ (.slice tva V.length tvk) V) (by omega)).mono ?_
                          rintro e w328 ⟨oa106_2, oc106_2, ol106_2, oh106_2, rfl, ⟨ox106_2, oy106_2⟩, oz106_2, hg326⟩
                          have hg326s := hg326.size
                          (try simp at hg326s)
                          have F329 := F325.add (rsl intEnc 1 ol106_2 oh106_2 (.slice oa106_2 V.length oc106_2) V) hg326 (oz106_2) (fun g e => ⟨Nat.le_trans ox106_2 e.1, Nat.lt_of_lt_of_le e.2 oy106_2⟩)
                          clear F325
                          refine ru_back hK (by exact ⟨F329.cl 12 6 rfl rfl, F329.cl 12 7 rfl rfl, F329.cl 12 8 rfl rfl⟩) (fun hHeld => ?_)
                          clear hK K
                          (try simp only [Act.put, List.setIfInBounds_toArray, List.set_cons_zero, List.set_cons_succ])
                          refine ru_p 18 ?_
                          (try simp only [Act.put, List.setIfInBounds_toArray, List.set_cons_zero, List.set_cons_succ])
                          refine ru_one 19 rfl (by kernel_rfl) (fun K hK => ?_)
                          go_simp
                          have F330 := F329.new 32 #[.slice none 0 0, .slice none 0 0, .slice none 0 0] (n := w328.heap.size) (by simp)
                          clear F329
                          refine ru_back hK (by exact ⟨F330.cl 13 6 rfl rfl, F330.cl 13 7 rfl rfl, F330.cl 13 8 rfl rfl⟩) (fun hHeld => ?_)
                          clear hK K
                          (try simp only [Act.put, List.setIfInBounds_toArray, List.set_cons_zero, List.set_cons_succ])
                          refine ru_one 20 rfl (by kernel_rfl) (fun K hK => ?_)
                          have Fn_ := F330
                          (try dsimp only [List.eraseIdx_cons_succ, List.eraseIdx_cons_zero] at Fn_)
                          obtain ⟨w331, hx332, F334, hxs333⟩ := Fn_.name
                          (try simp at hxs333)
                          rw [hx332]
                          clear hx332 F330 Fn_
                          have kb_ := F334.bx3 0 rfl
                          go_simp
                          clear kb_
                          have F335 := F334.pt3 (.slice oa94_2 O.length oc94_2) (.slice oa100_2 C.length oc100_2) (.slice oa106_2 V.length oc106_2)
                          clear F334
                          refine ru_back_late hK (by kernel_rfl) ?_
                          clear hK K
                          (try simp only [Act.put, List.setIfInBounds_toArray, List.set_cons_zero, List.set_cons_succ])
                          refine ru_done (by kernel_rfl) ?_
                          have F336 : Bun w [rbox w328.heap.size 32 #[.slice oa94_2 O.length oc94_2, .slice oa100_2 C.length oc100_2, .slice oa106_2 V.length oc106_2], rbox w238.heap.size 25 #[.slice ba234 bb.accs.length bc234, .slice bm234 bb.mvs.length bn234], rbook bl234 bh234 (.slice ba234 bb.accs.length bc234) (.slice bm234 bb.mvs.length bn234) bb, rsl intEnc 1 yly183 yhy183 (.slice yay183 (balL bb OO C3 VV).length ycy183) (balL bb OO C3 VV), rsl intEnc 1 yly171 yhy171 (.slice yay171 (balL bb OO C3 VV).length ycy171) (balL bb OO C3 VV), rbook bl157 bh157 (.slice ba157 bb.accs.length bc157) (.slice bm157 bb.mvs.length bn157) bb, rsl intEnc 1 yly106 yhy106 (.slice yay106 (balL b O C V).length ycy106) (balL b O C V), rsl intEnc 1 yly94 yhy94 (.slice yay94 (balL b O C V).length ycy94) (balL b O C V), rbook bl80 bh80 (.slice ba80 b.accs.length bc80) (.slice bm80 b.mvs.length bn80) b, rbox g72 25 #[.slice aa b.accs.length ak, .slice ma b.mvs.length mk, .slice pa49 bb.accs.length pc50, .slice pa51 bb.mvs.length pc52, .slice pa49 bb.accs.length pc50, .slice pa51 bb.mvs.length pc52], rbox g73 32 #[.slice toa O.length tok, .slice tca C.length tck, .slice tva V.length tvk, .slice pa53 OO.length pc54, .slice pa55 CC.length pc56, .slice pa57 VV.length pc58, .slice toa O.length tok, .slice tca C.length tck, .slice tva V.length tvk], rown accEnc 79 6 w43.heap.size (.slice pa49 bb.accs.length pc50) bb.accs, rown mvEnc 76 4 w43.heap.size (.slice pa51 bb.mvs.length pc52) bb.mvs, rown intEnc 3 1 w43.heap.size (.slice pa53 OO.length pc54) OO, rown intEnc 3 1 w43.heap.size (.slice pa55 CC.length pc56) C3, rown intEnc 3 1 w43.heap.size (.slice pa57 VV.length pc58) VV, rseed sb, rsl intEnc 1 0 w.heap.size (.slice na zs.length nc) zs, rsl intEnc 1 0 w.heap.size (.slice tva V.length tvk) V, rsl intEnc 1 0 w.heap.size (.slice tca C.length tck) C, rsl intEnc 1 0 w.heap.size (.slice toa O.length tok) O, rsl mvEnc 4 0 w.heap.size (.slice ma b.mvs.length mk) b.mvs, rsl accEnc 6 0 w.heap.size (.slice aa b.accs.length ak) b.accs, rsl intEnc 1 ol94_0 oh94_0 (.slice oa94_0 O.length oc94_0) O, rsl intEnc 1 ol100_0 oh100_0 (.slice oa100_0 C.length oc100_0) C, rsl intEnc 1 ol106_0 oh106_0 (.slice oa106_0 V.length oc106_0) V, rsl intEnc 1 ol94_1 oh94_1 (.slice oa94_1 OO.length oc94_1) OO, rsl intEnc 1 ol100_1 oh100_1 (.slice oa100_1 C3.length oc100_1) C3, rsl intEnc 1 ol106_1 oh106_1 (.slice oa106_1 VV.length oc106_1) VV, rsl intEnc 1 ol94_2 oh94_2 (.slice oa94_2 O.length oc94_2) O, rsl intEnc 1 ol100_2 oh100_2 (.slice oa100_2 C.length oc100_2) C, rsl intEnc 1 ol106_2 oh106_2 (.slice oa106_2 V.length oc106_2) V] _ := F335.pick [0, 4, 5, 6, 7, 8, 9, 10, 11, 12, 13, 14, 15, 16, 17, 18, 19, 20, 21, 22, 23, 24, 25, 26, 27, 28, 29, 30, 31, 3, 2, 1] (by decide) rfl
                          clear F335
                          exact ⟨(by first | kernel_rfl | rfl), rfl, w328.heap.size, oa94_2, oc94_2, ol94_2, oh94_2, oa100_2, oc100_2, ol100_2, oh100_2, oa106_2, oc106_2, ol106_2, oh106_2, (by first | kernel_rfl | rfl), (by first | kernel_rfl | rfl), (by first | kernel_rfl | rfl), (by first | kernel_rfl | rfl), (by first | kernel_rfl | rfl), (by first | omega | (simp; done) | (simp; omega)), (by first | omega | (simp; omega)), (by first | omega | (simp; omega)), (by first | omega | (simp; omega)), F336⟩
                        · intro K hK
                          go_simp
                          have F337 := F325.new 32 #[.slice none 0 0, .slice none 0 0, .slice none 0 0] (n := w324.heap.size) (by simp)
                          clear F325
                          refine ru_back hK (by exact ⟨F337.cl 12 6 rfl rfl, F337.cl 12 7 rfl rfl, F337.cl 12 8 rfl rfl⟩) (fun hHeld => ?_)
                          clear hK K
                          (try simp only [Act.put, List.setIfInBounds_toArray, List.set_cons_zero, List.set_cons_succ])
                          refine ru_one 17 rfl (by kernel_rfl) (fun K hK => ?_)
                          go_simp
                          refine (own_s _ _ _ V _ (F337.at 20 rfl : Sl intEnc 1 0 w.heap.size _ (.slice tva V.length tvk) V) (by omega)).mono ?_
                          rintro e w340 ⟨oa106_2, oc106_2, ol106_2, oh106_2, rfl, ⟨ox106_2, oy106_2⟩, oz106_2, hg338⟩
                          have hg338s := hg338.size
                          (try simp at hg338s)
                          have F341 := F337.add (rsl intEnc 1 ol106_2 oh106_2 (.slice oa106_2 V.length oc106_2) V) hg338 (oz106_2) (fun g e => ⟨Nat.le_trans ox106_2 e.1, Nat.lt_of_lt_of_le e.2 oy106_2⟩)
                          clear F337
                          refine ru_back hK (by exact ⟨F341.cl 13 6 rfl rfl, F341.cl 13 7 rfl rfl, F341.cl 13 8 rfl rfl⟩) (fun hHeld => ?_)
                          clear hK K
                          (try simp only [Act.put, List.setIfInBounds_toArray, List.set_cons_zero, List.set_cons_succ])
                          refine ru_p 18 ?_
                          (try simp only [Act.put, List.setIfInBounds_toArray, List.set_cons_zero, List.set_cons_succ])
                          refine ru_one 20 rfl (by kernel_rfl) (fun K hK => ?_)
                          have kb_ := F341.bx3 1 rfl
                          go_simp
                          clear kb_
                          have F342 := (F341.front 1 rfl rfl).pt3 (.slice oa94_2 O.length oc94_2) (.slice oa100_2 C.length oc100_2) (.slice oa106_2 V.length oc106_2)
                          clear F341
                          refine ru_back_late hK (by kernel_rfl) ?_
                          clear hK K
                          (try simp only [Act.put, List.setIfInBounds_toArray, List.set_cons_zero, List.set_cons_succ])
                          refine ru_done (by kernel_rfl) ?_
                          have F343 : Bun w [rbox w324.heap.size 32 #[.slice oa94_2 O.length oc94_2, .slice oa100_2 C.length oc100_2, .slice oa106_2 V.length oc106_2], rbox w238.heap.size 25 #[.slice ba234 bb.accs.length bc234, .slice bm234 bb.mvs.length bn234], rbook bl234 bh234 (.slice ba234 bb.accs.length bc234) (.slice bm234 bb.mvs.length bn234) bb, rsl intEnc 1 yly183 yhy183 (.slice yay183 (balL bb OO C3 VV).length ycy183) (balL bb OO C3 VV), rsl intEnc 1 yly171 yhy171 (.slice yay171 (balL bb OO C3 VV).length ycy171) (balL bb OO C3 VV), rbook bl157 bh157 (.slice ba157 bb.accs.length bc157) (.slice bm157 bb.mvs.length bn157) bb, rsl intEnc 1 yly106 yhy106 (.slice yay106 (balL b O C V).length ycy106) (balL b O C V), rsl intEnc 1 yly94 yhy94 (.slice yay94 (balL b O C V).length ycy94) (balL b O C V), rbook bl80 bh80 (.slice ba80 b.accs.length bc80) (.slice bm80 b.mvs.length bn80) b, rbox g72 25 #[.slice aa b.accs.length ak, .slice ma b.mvs.length mk, .slice pa49 bb.accs.length pc50, .slice pa51 bb.mvs.length pc52, .slice pa49 bb.accs.length pc50, .slice pa51 bb.mvs.length pc52], rbox g73 32 #[.slice toa O.length tok, .slice tca C.length tck, .slice tva V.length tvk, .slice pa53 OO.length pc54, .slice pa55 CC.length pc56, .slice pa57 VV.length pc58, .slice toa O.length tok, .slice tca C.length tck, .slice tva V.length tvk], rown accEnc 79 6 w43.heap.size (.slice pa49 bb.accs.length pc50) bb.accs, rown mvEnc 76 4 w43.heap.size (.slice pa51 bb.mvs.length pc52) bb.mvs, rown intEnc 3 1 w43.heap.size (.slice pa53 OO.length pc54) OO, rown intEnc 3 1 w43.heap.size (.slice pa55 CC.length pc56) C3, rown intEnc 3 1 w43.heap.size (.slice pa57 VV.length pc58) VV, rseed sb, rsl intEnc 1 0 w.heap.size (.slice na zs.length nc) zs, rsl intEnc 1 0 w.heap.size (.slice tva V.length tvk) V, rsl intEnc 1 0 w.heap.size (.slice tca C.length tck) C, rsl intEnc 1 0 w.heap.size (.slice toa O.length tok) O, rsl mvEnc 4 0 w.heap.size (.slice ma b.mvs.length mk) b.mvs, rsl accEnc 6 0 w.heap.size (.slice aa b.accs.length ak) b.accs, rsl intEnc 1 ol94_0 oh94_0 (.slice oa94_0 O.length oc94_0) O, rsl intEnc 1 ol100_0 oh100_0 (.slice oa100_0 C.length oc100_0) C, rsl intEnc 1 ol106_0 oh106_0 (.slice oa106_0 V.length oc106_0) V, rsl intEnc 1 ol94_1 oh94_1 (.slice oa94_1 OO.length oc94_1) OO, rsl intEnc 1 ol100_1 oh100_1 (.slice oa100_1 C3.length oc100_1) C3, rsl intEnc 1 ol106_1 oh106_1 (.slice oa106_1 VV.length oc106_1) VV, rsl intEnc 1 ol94_2 oh94_2 (.slice oa94_2 O.length oc94_2) O, rsl intEnc 1 ol100_2 oh100_2 (.slice oa100_2 C.length oc100_2) C, rsl intEnc 1 ol106_2 oh106_2 (.slice oa106_2 V.length oc106_2) V] _ := F342.pick [0, 4, 5, 6, 7, 8, 9, 10, 11, 12, 13, 14, 15, 16, 17, 18, 19, 20, 21, 22, 23, 24, 25, 26, 27, 28, 29, 30, 31, 3, 2, 1] (by decide) rfl
                          clear F342
                          exact ⟨(by first | kernel_rfl | rfl), rfl, w324.heap.size, oa94_2, oc94_2, ol94_2, oh94_2, oa100_2, oc100_2, ol100_2, oh100_2, oa106_2, oc106_2, ol106_2, oh106_2, (by first | kernel_rfl | rfl), (by first | kernel_rfl | rfl), (by first | kernel_rfl | rfl), (by first | kernel_rfl | rfl), (by first | kernel_rfl | rfl), (by first | omega | (simp; done) | (simp; omega)), (by first | omega | (simp; omega)), (by first | omega | (simp; omega)), (by first | omega | (simp; omega)), F343⟩
                      · intro K hK
                        go_simp
                        have F344 := F321.new 32 #[.slice none 0 0, .slice none 0 0, .slice none 0 0] (n := w320.heap.size) (by simp)
                        clear F321
                        refine ru_back hK (by exact ⟨F344.cl 11 6 rfl rfl, F344.cl 11 7 rfl rfl, F344.cl 11 8 rfl rfl⟩) (fun hHeld => ?_)
                        clear hK K
                        (try simp only [Act.put, List.setIfInBounds_toArray, List.set_cons_zero, List.set_cons_succ])
                        refine ru_one 11 rfl (by kernel_rfl) (fun K hK => ?_)
                        go_simp
                        refine (own_s _ _ _ C _ (F344.at 20 rfl : Sl intEnc 1 0 w.heap.size _ (.slice tca C.length tck) C) (by omega)).mono ?_
                        rintro e w347 ⟨oa100_2, oc100_2, ol100_2, oh100_2, rfl, ⟨ox100_2, oy100_2⟩, oz100_2, hg345⟩
                        have hg345s := hg345.size
                        (try simp at hg345s)
                        have F348 := F344.add (rsl intEnc 1 ol100_2 oh100_2 (.slice oa100_2 C.length oc100_2) C) hg345 (oz100_2) (fun g e => ⟨Nat.le_trans ox100_2 e.1, Nat.lt_of_lt_of_le e.2 oy100_2⟩)
                        clear F344
                        refine ru_back hK (by exact ⟨F348.cl 12 6 rfl rfl, F348.cl 12 7 rfl rfl, F348.cl 12 8 rfl rfl⟩) (fun hHeld => ?_)
                        clear hK K
                        (try simp only [Act.put, List.setIfInBounds_toArray, List.set_cons_zero, List.set_cons_succ])
                        refine ru_one 17 rfl (by kernel_rfl) (fun K hK => ?_)
                        go_simp
                        refine (own_s _ _ _ V _ (F348.at 20 rfl : Sl intEnc 1 0 w.heap.size _ (.slice tva V.length tvk) V) (by omega)).mono ?_
                        rintro e w351 ⟨oa106_2, oc106_2, ol106_2, oh106_2, rfl, ⟨ox106_2, oy106_2⟩, oz106_2, hg349⟩
                        have hg349s := hg349.size
                        (try simp at hg349s)
                        have F352 := F348.add (rsl intEnc 1 ol106_2 oh106_2 (.slice oa106_2 V.length oc106_2) V) hg349 (oz106_2) (fun g e => ⟨Nat.le_trans ox106_2 e.1, Nat.lt_of_lt_of_le e.2 oy106_2⟩)
                        clear F348
                        refine ru_back hK (by exact ⟨F352.cl 13 6 rfl rfl, F352.cl 13 7 rfl rfl, F352.cl 13 8 rfl rfl⟩) (fun hHeld => ?_)
                        clear hK K
                        (try simp only [Act.put, List.setIfInBounds_toArray, List.set_cons_zero, List.set_cons_succ])
                        refine ru_p 18 ?_
                        (try simp only [Act.put, List.setIfInBounds_toArray, List.set_cons_zero, List.set_cons_succ])
                        refine ru_one 20 rfl (by kernel_rfl) (fun K hK => ?_)
                        have kb_ := F352.bx3 2 rfl
                        go_simp
                        clear kb_
                        have F353 := (F352.front 2 rfl rfl).pt3 (.slice oa94_2 O.length oc94_2) (.slice oa100_2 C.length oc100_2) (.slice oa106_2 V.length oc106_2)
                        clear F352
                        refine ru_back_late hK (by kernel_rfl) ?_
                        clear hK K
                        (try simp only [Act.put, List.setIfInBounds_toArray, List.set_cons_zero, List.set_cons_succ])
                        refine ru_done (by kernel_rfl) ?_
                        have F354 : Bun w [rbox w320.heap.size 32 #[.slice oa94_2 O.length oc94_2, .slice oa100_2 C.length oc100_2, .slice oa106_2 V.length oc106_2], rbox w238.heap.size 25 #[.slice ba234 bb.accs.length bc234, .slice bm234 bb.mvs.length bn234], rbook bl234 bh234 (.slice ba234 bb.accs.length bc234) (.slice bm234 bb.mvs.length bn234) bb, rsl intEnc 1 yly183 yhy183 (.slice yay183 (balL bb OO C3 VV).length ycy183) (balL bb OO C3 VV), rsl intEnc 1 yly171 yhy171 (.slice yay171 (balL bb OO C3 VV).length ycy171) (balL bb OO C3 VV), rbook bl157 bh157 (.slice ba157 bb.accs.length bc157) (.slice bm157 bb.mvs.length bn157) bb, rsl intEnc 1 yly106 yhy106 (.slice yay106 (balL b O C V).length ycy106) (balL b O C V), rsl intEnc 1 yly94 yhy94 (.slice yay94 (balL b O C V).length ycy94) (balL b O C V), rbook bl80 bh80 (.slice ba80 b.accs.length bc80) (.slice bm80 b.mvs.length bn80) b, rbox g72 25 #[.slice aa b.accs.length ak, .slice ma b.mvs.length mk, .slice pa49 bb.accs.length pc50, .slice pa51 bb.mvs.length pc52, .slice pa49 bb.accs.length pc50, .slice pa51 bb.mvs.length pc52], rbox g73 32 #[.slice toa O.length tok, .slice tca C.length tck, .slice tva V.length tvk, .slice pa53 OO.length pc54, .slice pa55 CC.length pc56, .slice pa57 VV.length pc58, .slice toa O.length tok, .slice tca C.length tck, .slice tva V.length tvk], rown accEnc 79 6 w43.heap.size (.slice pa49 bb.accs.length pc50) bb.accs, rown mvEnc 76 4 w43.heap.size (.slice pa51 bb.mvs.length pc52) bb.mvs, rown intEnc 3 1 w43.heap.size (.slice pa53 OO.length pc54) OO, rown intEnc 3 1 w43.heap.size (.slice pa55 CC.length pc56) C3, rown intEnc 3 1 w43.heap.size (.slice pa57 VV.length pc58) VV, rseed sb, rsl intEnc 1 0 w.heap.size (.slice na zs.length nc) zs, rsl intEnc 1 0 w.heap.size (.slice tva V.length tvk) V, rsl intEnc 1 0 w.heap.size (.slice tca C.length tck) C, rsl intEnc 1 0 w.heap.size (.slice toa O.length tok) O, rsl mvEnc 4 0 w.heap.size (.slice ma b.mvs.length mk) b.mvs, rsl accEnc 6 0 w.heap.size (.slice aa b.accs.length ak) b.accs, rsl intEnc 1 ol94_0 oh94_0 (.slice oa94_0 O.length oc94_0) O, rsl intEnc 1 ol100_0 oh100_0 (.slice oa100_0 C.length oc100_0) C, rsl intEnc 1 ol106_0 oh106_0 (.slice oa106_0 V.length oc106_0) V, rsl intEnc 1 ol94_1 oh94_1 (.slice oa94_1 OO.length oc94_1) OO, rsl intEnc 1 ol100_1 oh100_1 (.slice oa100_1 C3.length oc100_1) C3, rsl intEnc 1 ol106_1 oh106_1 (.slice oa106_1 VV.length oc106_1) VV, rsl intEnc 1 ol94_2 oh94_2 (.slice oa94_2 O.length oc94_2) O, rsl intEnc 1 ol100_2 oh100_2 (.slice oa100_2 C.length oc100_2) C, rsl intEnc 1 ol106_2 oh106_2 (.slice oa106_2 V.length oc106_2) V] _ := F353.pick [0, 4, 5, 6, 7, 8, 9, 10, 11, 12, 13, 14, 15, 16, 17, 18, 19, 20, 21, 22, 23, 24, 25, 26, 27, 28, 29, 30, 31, 3, 2, 1] (by decide) rfl
                        clear F353
                        exact ⟨(by first | kernel_rfl | rfl), rfl, w320.heap.size, oa94_2, oc94_2, ol94_2, oh94_2, oa100_2, oc100_2, ol100_2, oh100_2, oa106_2, oc106_2, ol106_2, oh106_2, (by first | kernel_rfl | rfl), (by first | kernel_rfl | rfl), (by first | kernel_rfl | rfl), (by first | kernel_rfl | rfl), (by first | kernel_rfl | rfl), (by first | omega | (simp; done) | (simp; omega)), (by first | omega | (simp; omega)), (by first | omega | (simp; omega)), (by first | omega | (simp; omega)), F354⟩
                    · intro K hK
                      go_simp
                      have F355 := F315.new 32 #[.slice none 0 0, .slice none 0 0, .slice none 0 0] (n := wd317.heap.size) (by simp)
                      clear F315
                      refine ru_back hK (by exact ⟨F355.cl 10 6 rfl rfl, F355.cl 10 7 rfl rfl, F355.cl 10 8 rfl rfl⟩) (fun hHeld => ?_)
                      clear hK K
                      (try simp only [Act.put, List.setIfInBounds_toArray, List.set_cons_zero, List.set_cons_succ])
                      refine ru_one 5 rfl (by kernel_rfl) (fun K hK => ?_)
                      go_simp
                      refine (own_s _ _ _ O _ (F355.at 20 rfl : Sl intEnc 1 0 w.heap.size _ (.slice toa O.length tok) O) (by omega)).mono ?_
                      rintro e w358 ⟨oa94_2, oc94_2, ol94_2, oh94_2, rfl, ⟨ox94_2, oy94_2⟩, oz94_2, hg356⟩
                      have hg356s := hg356.size
                      (try simp at hg356s)
                      have F359 := F355.add (rsl intEnc 1 ol94_2 oh94_2 (.slice oa94_2 O.length oc94_2) O) hg356 (oz94_2) (fun g e => ⟨Nat.le_trans ox94_2 e.1, Nat.lt_of_lt_of_le e.2 oy94_2⟩)
                      clear F355
                      refine ru_back hK (by exact ⟨F359.cl 11 6 rfl rfl, F359.cl 11 7 rfl rfl, F359.cl 11 8 rfl rfl⟩) (fun hHeld => ?_)
                      clear hK K
                      (try simp only [Act.put, List.setIfInBounds_toArray, List.set_cons_zero, List.set_cons_succ])
                      refine ru_one 11 rfl (by kernel_rfl) (fun K hK => ?_)
                      go_simp
                      refine (own_s _ _ _ C _ (F359.at 20 rfl : Sl intEnc 1 0 w.heap.size _ (.slice tca C.length tck) C) (by omega)).mono ?_
                      rintro e w362 ⟨oa100_2, oc100_2, ol100_2, oh100_2, rfl, ⟨ox100_2, oy100_2⟩, oz100_2, hg360⟩
                      have hg360s := hg360.size
                      (try simp at hg360s)
                      have F363 := F359.add (rsl intEnc 1 ol100_2 oh100_2 (.slice oa100_2 C.length oc100_2) C) hg360 (oz100_2) (fun g e => ⟨Nat.le_trans ox100_2 e.1, Nat.lt_of_lt_of_le e.2 oy100_2⟩)
                      clear F359
                      refine ru_back hK (by exact ⟨F363.cl 12 6 rfl rfl, F363.cl 12 7 rfl rfl, F363.cl 12 8 rfl rfl⟩) (fun hHeld => ?_)
                      clear hK K
                      (try simp only [Act.put, List.setIfInBounds_toArray, List.set_cons_zero, List.set_cons_succ])
                      refine ru_one 17 rfl (by kernel_rfl) (fun K hK => ?_)
                      go_simp
                      refine (own_s _ _ _ V _ (F363.at 20 rfl : Sl intEnc 1 0 w.heap.size _ (.slice tva V.length tvk) V) (by omega)).mono ?_
                      rintro e w366 ⟨oa106_2, oc106_2, ol106_2, oh106_2, rfl, ⟨ox106_2, oy106_2⟩, oz106_2, hg364⟩
                      have hg364s := hg364.size
                      (try simp at hg364s)
                      have F367 := F363.add (rsl intEnc 1 ol106_2 oh106_2 (.slice oa106_2 V.length oc106_2) V) hg364 (oz106_2) (fun g e => ⟨Nat.le_trans ox106_2 e.1, Nat.lt_of_lt_of_le e.2 oy106_2⟩)
                      clear F363
                      refine ru_back hK (by exact ⟨F367.cl 13 6 rfl rfl, F367.cl 13 7 rfl rfl, F367.cl 13 8 rfl rfl⟩) (fun hHeld => ?_)
                      clear hK K
                      (try simp only [Act.put, List.setIfInBounds_toArray, List.set_cons_zero, List.set_cons_succ])
                      refine ru_p 18 ?_
                      (try simp only [Act.put, List.setIfInBounds_toArray, List.set_cons_zero, List.set_cons_succ])
                      refine ru_one 20 rfl (by kernel_rfl) (fun K hK => ?_)
                      have kb_ := F367.bx3 3 rfl
                      go_simp
                      clear kb_
                      have F368 := (F367.front 3 rfl rfl).pt3 (.slice oa94_2 O.length oc94_2) (.slice oa100_2 C.length oc100_2) (.slice oa106_2 V.length oc106_2)
                      clear F367
                      refine ru_back_late hK (by kernel_rfl) ?_
                      clear hK K
                      (try simp only [Act.put, List.setIfInBounds_toArray, List.set_cons_zero, List.set_cons_succ])
                      refine ru_done (by kernel_rfl) ?_
                      have F369 : Bun w [rbox wd317.heap.size 32 #[.slice oa94_2 O.length oc94_2, .slice oa100_2 C.length oc100_2, .slice oa106_2 V.length oc106_2], rbox w238.heap.size 25 #[.slice ba234 bb.accs.length bc234, .slice bm234 bb.mvs.length bn234], rbook bl234 bh234 (.slice ba234 bb.accs.length bc234) (.slice bm234 bb.mvs.length bn234) bb, rsl intEnc 1 yly183 yhy183 (.slice yay183 (balL bb OO C3 VV).length ycy183) (balL bb OO C3 VV), rsl intEnc 1 yly171 yhy171 (.slice yay171 (balL bb OO C3 VV).length ycy171) (balL bb OO C3 VV), rbook bl157 bh157 (.slice ba157 bb.accs.length bc157) (.slice bm157 bb.mvs.length bn157) bb, rsl intEnc 1 yly106 yhy106 (.slice yay106 (balL b O C V).length ycy106) (balL b O C V), rsl intEnc 1 yly94 yhy94 (.slice yay94 (balL b O C V).length ycy94) (balL b O C V), rbook bl80 bh80 (.slice ba80 b.accs.length bc80) (.slice bm80 b.mvs.length bn80) b, rbox g72 25 #[.slice aa b.accs.length ak, .slice ma b.mvs.length mk, .slice pa49 bb.accs.length pc50, .slice pa51 bb.mvs.length pc52, .slice pa49 bb.accs.length pc50, .slice pa51 bb.mvs.length pc52], rbox g73 32 #[.slice toa O.length tok, .slice tca C.length tck, .slice tva V.length tvk, .slice pa53 OO.length pc54, .slice pa55 CC.length pc56, .slice pa57 VV.length pc58, .slice toa O.length tok, .slice tca C.length tck, .slice tva V.length tvk], rown accEnc 79 6 w43.heap.size (.slice pa49 bb.accs.length pc50) bb.accs, rown mvEnc 76 4 w43.heap.size (.slice pa51 bb.mvs.length pc52) bb.mvs, rown intEnc 3 1 w43.heap.size (.slice pa53 OO.length pc54) OO, rown intEnc 3 1 w43.heap.size (.slice pa55 CC.length pc56) C3, rown intEnc 3 1 w43.heap.size (.slice pa57 VV.length pc58) VV, rseed sb, rsl intEnc 1 0 w.heap.size (.slice na zs.length nc) zs, rsl intEnc 1 0 w.heap.size (.slice tva V.length tvk) V, rsl intEnc 1 0 w.heap.size (.slice tca C.length tck) C, rsl intEnc 1 0 w.heap.size (.slice toa O.length tok) O, rsl mvEnc 4 0 w.heap.size (.slice ma b.mvs.length mk) b.mvs, rsl accEnc 6 0 w.heap.size (.slice aa b.accs.length ak) b.accs, rsl intEnc 1 ol94_0 oh94_0 (.slice oa94_0 O.length oc94_0) O, rsl intEnc 1 ol100_0 oh100_0 (.slice oa100_0 C.length oc100_0) C, rsl intEnc 1 ol106_0 oh106_0 (.slice oa106_0 V.length oc106_0) V, rsl intEnc 1 ol94_1 oh94_1 (.slice oa94_1 OO.length oc94_1) OO, rsl intEnc 1 ol100_1 oh100_1 (.slice oa100_1 C3.length oc100_1) C3, rsl intEnc 1 ol106_1 oh106_1 (.slice oa106_1 VV.length oc106_1) VV, rsl intEnc 1 ol94_2 oh94_2 (.slice oa94_2 O.length oc94_2) O, rsl intEnc 1 ol100_2 oh100_2 (.slice oa100_2 C.length oc100_2) C, rsl intEnc 1 ol106_2 oh106_2 (.slice oa106_2 V.length oc106_2) V] _ := F368.pick [0, 4, 5, 6, 7, 8, 9, 10, 11, 12, 13, 14, 15, 16, 17, 18, 19, 20, 21, 22, 23, 24, 25, 26, 27, 28, 29, 30, 31, 3, 2, 1] (by decide) rfl
                      clear F368
                      exact ⟨(by first | kernel_rfl | rfl), rfl, wd317.heap.size, oa94_2, oc94_2, ol94_2, oh94_2, oa100_2, oc100_2, ol100_2, oh100_2, oa106_2, oc106_2, ol106_2, oh106_2, (by first | kernel_rfl | rfl), (by first | kernel_rfl | rfl), (by first | kernel_rfl | rfl), (by first | kernel_rfl | rfl), (by first | kernel_rfl | rfl), (by first | omega | (simp; done) | (simp; omega)), (by first | omega | (simp; omega)), (by first | omega | (simp; omega)), (by first | omega | (simp; omega)), F369⟩
                case first2 =>
                  have F370 := F167.drew
                  clear F167
                  refine ru_begin (fun W => W.cell? ⟨g73, 3, none⟩ = some (.slice pa53 OO.length pc54) ∧ W.cell? ⟨g73, 4, none⟩ = some (.slice pa55 CC.length pc56) ∧ W.cell? ⟨g73, 5, none⟩ = some (.slice pa57 VV.length pc58)) 20 (by kernel_rfl) ?_ ?_
                  · exact ⟨F370.cl 6 3 rfl rfl, F370.cl 6 4 rfl rfl, F370.cl 6 5 rfl rfl⟩
                  obtain ⟨wd372, hwd_⟩ : ∃ x : World, w164.drew = x := ⟨_, rfl⟩
                  rw [hwd_] at F370 ⊢
                  have wd372s : w164.heap.size ≤ wd372.heap.size := by rw [← hwd_]; exact Nat.le_refl _
                  clear hwd_
                  have hS371 := (And.intro (F370.cl 6 3 rfl rfl) (And.intro (F370.cl 6 4 rfl rfl) (F370.cl 6 5 rfl rfl)))
                  refine ru_t 0 [] ?_
                  refine ru_t 1 [] ?_
                  refine ru_t 2 [] ?_
                  refine ru_t 3 [] ?_
                  refine ru_t 4 [] ?_
                  refine ru_t 6 [] ?_
                  refine ru_t 7 [] ?_
                  refine ru_t 8 [] ?_
                  refine ru_t 9 [] ?_
                  refine ru_t 10 [] ?_
                  refine ru_t 12 [] ?_
                  refine ru_t 13 [] ?_
                  refine ru_t 14 [] ?_
                  refine ru_t 15 [] ?_
                  refine ru_t 16 [] ?_
                  (try simp only [Act.put, List.setIfInBounds_toArray, List.set_cons_zero, List.set_cons_succ])
                  clear hS371
                  refine ru_two 5 19 rfl rfl (by kernel_rfl) ?_ ?_
                  · intro K hK
                    go_simp
                    refine (own_s _ _ _ OO _ (Own.sl (F370.at 9 rfl : Own intEnc 3 1 w43.heap.size _ (.slice pa53 OO.length pc54) OO) (fun _ => rfl)) (by omega)).mono ?_
                    rintro e w375 ⟨oa94_1, oc94_1, ol94_1, oh94_1, rfl, ⟨ox94_1, oy94_1⟩, oz94_1, hg373⟩
                    have hg373s := hg373.size
                    (try simp at hg373s)
                    have F376 := F370.add (rsl intEnc 1 ol94_1 oh94_1 (.slice oa94_1 OO.length oc94_1) OO) hg373 (oz94_1) (fun g e => ⟨Nat.le_trans ox94_1 e.1, Nat.lt_of_lt_of_le e.2 oy94_1⟩)
                    clear F370
                    refine ru_back hK (by exact ⟨F376.cl 7 3 rfl rfl, F376.cl 7 4 rfl rfl, F376.cl 7 5 rfl rfl⟩) (fun hHeld => ?_)
                    clear hK K
                    (try simp only [Act.put, List.setIfInBounds_toArray, List.set_cons_zero, List.set_cons_succ])
                    refine ru_two 11 19 rfl rfl (by kernel_rfl) ?_ ?_
                    · intro K hK
                      go_simp
                      refine (own_s _ _ _ C3 _ (Own.sl (F376.at 11 rfl : Own intEnc 3 1 w43.heap.size _ (.slice pa55 CC.length pc56) C3) (fun _ => rfl)) (by omega)).mono ?_
                      rintro e w379 ⟨oa100_1, oc100_1, ol100_1, oh100_1, rfl, ⟨ox100_1, oy100_1⟩, oz100_1, hg377⟩
                      have hg377s := hg377.size
                      (try simp at hg377s)
                      have F380 := F376.add (rsl intEnc 1 ol100_1 oh100_1 (.slice oa100_1 C3.length oc100_1) C3) hg377 (oz100_1) (fun g e => ⟨Nat.le_trans ox100_1 e.1, Nat.lt_of_lt_of_le e.2 oy100_1⟩)
                      clear F376
                      refine ru_back hK (by exact ⟨F380.cl 8 3 rfl rfl, F380.cl 8 4 rfl rfl, F380.cl 8 5 rfl rfl⟩) (fun hHeld => ?_)
                      clear hK K
                      (try simp only [Act.put, List.setIfInBounds_toArray, List.set_cons_zero, List.set_cons_succ])
                      refine ru_two 17 19 rfl rfl (by kernel_rfl) ?_ ?_
                      · intro K hK
                        go_simp
                        refine (own_s _ _ _ VV _ (Own.sl (F380.at 13 rfl : Own intEnc 3 1 w43.heap.size _ (.slice pa57 VV.length pc58) VV) (fun _ => rfl)) (by omega)).mono ?_
                        rintro e w383 ⟨oa106_1, oc106_1, ol106_1, oh106_1, rfl, ⟨ox106_1, oy106_1⟩, oz106_1, hg381⟩
                        have hg381s := hg381.size
                        (try simp at hg381s)
                        have F384 := F380.add (rsl intEnc 1 ol106_1 oh106_1 (.slice oa106_1 VV.length oc106_1) VV) hg381 (oz106_1) (fun g e => ⟨Nat.le_trans ox106_1 e.1, Nat.lt_of_lt_of_le e.2 oy106_1⟩)
                        clear F380
                        refine ru_back hK (by exact ⟨F384.cl 9 3 rfl rfl, F384.cl 9 4 rfl rfl, F384.cl 9 5 rfl rfl⟩) (fun hHeld => ?_)
                        clear hK K
                        (try simp only [Act.put, List.setIfInBounds_toArray, List.set_cons_zero, List.set_cons_succ])
                        refine ru_p 18 ?_
                        (try simp only [Act.put, List.setIfInBounds_toArray, List.set_cons_zero, List.set_cons_succ])
                        refine ru_one 19 rfl (by kernel_rfl) (fun K hK => ?_)
                        go_simp
                        have F385 := F384.new 32 #[.slice none 0 0, .slice none 0 0, .slice none 0 0] (n := w383.heap.size) (by simp)
                        clear F384
                        refine ru_back hK (by exact ⟨F385.cl 10 3 rfl rfl, F385.cl 10 4 rfl rfl, F385.cl 10 5 rfl rfl⟩) (fun hHeld => ?_)
                        clear hK K
                        (try simp only [Act.put, List.setIfInBounds_toArray, List.set_cons_zero, List.set_cons_succ])
                        refine ru_one 20 rfl (by kernel_rfl) (fun K hK => ?_)
                        have Fn_ := F385
                        (try dsimp only [List.eraseIdx_cons_succ, List.eraseIdx_cons_zero] at Fn_)
                        obtain ⟨w386, hx387, F389, hxs388⟩ := Fn_.name
                        (try simp at hxs388)
                        rw [hx387]
                        clear hx387 F385 Fn_
                        have kb_ := F389.bx3 0 rfl
                        go_simp
                        clear kb_
                        have F390 := F389.pt3 (.slice oa94_1 OO.length oc94_1) (.slice oa100_1 C3.length oc100_1) (.slice oa106_1 VV.length oc106_1)
                        clear F389
                        refine ru_back_late hK (by kernel_rfl) ?_
                        clear hK K
                        (try simp only [Act.put, List.setIfInBounds_toArray, List.set_cons_zero, List.set_cons_succ])
                        refine ru_done (by kernel_rfl) ?_
                        have F391 : Bun w [rbox w383.heap.size 32 #[.slice oa94_1 OO.length oc94_1, .slice oa100_1 C3.length oc100_1, .slice oa106_1 VV.length oc106_1], rbox w161.heap.size 25 #[.slice ba157 bb.accs.length bc157, .slice bm157 bb.mvs.length bn157], rbook bl157 bh157 (.slice ba157 bb.accs.length bc157) (.slice bm157 bb.mvs.length bn157) bb, rsl intEnc 1 yly106 yhy106 (.slice yay106 (balL b O C V).length ycy106) (balL b O C V), rsl intEnc 1 yly94 yhy94 (.slice yay94 (balL b O C V).length ycy94) (balL b O C V), rbook bl80 bh80 (.slice ba80 b.accs.length bc80) (.slice bm80 b.mvs.length bn80) b, rbox g72 25 #[.slice aa b.accs.length ak, .slice ma b.mvs.length mk, .slice pa49 bb.accs.length pc50, .slice pa51 bb.mvs.length pc52, .slice pa49 bb.accs.length pc50, .slice pa51 bb.mvs.length pc52], rbox g73 32 #[.slice toa O.length tok, .slice tca C.length tck, .slice tva V.length tvk, .slice pa53 OO.length pc54, .slice pa55 CC.length pc56, .slice pa57 VV.length pc58, .slice toa O.length tok, .slice tca C.length tck, .slice tva V.length tvk], rown accEnc 79 6 w43.heap.size (.slice pa49 bb.accs.length pc50) bb.accs, rown mvEnc 76 4 w43.heap.size (.slice pa51 bb.mvs.length pc52) bb.mvs, rown intEnc 3 1 w43.heap.size (.slice pa53 OO.length pc54) OO, rown intEnc 3 1 w43.heap.size (.slice pa55 CC.length pc56) C3, rown intEnc 3 1 w43.heap.size (.slice pa57 VV.length pc58) VV, rseed sb, rsl intEnc 1 0 w.heap.size (.slice na zs.length nc) zs, rsl intEnc 1 0 w.heap.size (.slice tva V.length tvk) V, rsl intEnc 1 0 w.heap.size (.slice tca C.length tck) C, rsl intEnc 1 0 w.heap.size (.slice toa O.length tok) O, rsl mvEnc 4 0 w.heap.size (.slice ma b.mvs.length mk) b.mvs, rsl accEnc 6 0 w.heap.size (.slice aa b.accs.length ak) b.accs, rsl intEnc 1 ol94_0 oh94_0 (.slice oa94_0 O.length oc94_0) O, rsl intEnc 1 ol100_0 oh100_0 (.slice oa100_0 C.length oc100_0) C, rsl intEnc 1 ol106_0 oh106_0 (.slice oa106_0 V.length oc106_0) V, rsl intEnc 1 ol94_1 oh94_1 (.slice oa94_1 OO.length oc94_1) OO, rsl intEnc 1 ol100_1 oh100_1 (.slice oa100_1 C3.length oc100_1) C3, rsl intEnc 1 ol106_1 oh106_1 (.slice oa106_1 VV.length oc106_1) VV] _ := F390.pick [0, 4, 5, 6, 7, 8, 9, 10, 11, 12, 13, 14, 15, 16, 17, 18, 19, 20, 21, 22, 23, 24, 25, 3, 2, 1] (by decide) rfl
                        clear F390
                        exact ⟨(by first | kernel_rfl | rfl), rfl, w383.heap.size, oa94_1, oc94_1, ol94_1, oh94_1, oa100_1, oc100_1, ol100_1, oh100_1, oa106_1, oc106_1, ol106_1, oh106_1, (by first | kernel_rfl | rfl), (by first | kernel_rfl | rfl), (by first | kernel_rfl | rfl), (by first | kernel_rfl | rfl), (by first | kernel_rfl | rfl), (by first | omega | (simp; done) | (simp; omega)), (by first | omega | (simp; omega)), (by first | omega | (simp; omega)), (by first | omega | (simp; omega)), F391⟩
                      · intro K hK
                        go_simp
                        have F392 := F380.new 32 #[.slice none 0 0, .slice none 0 0, .slice none 0 0] (n := w379.heap.size) (by simp)
                        clear F380
                        refine ru_back hK (by exact ⟨F392.cl 9 3 rfl rfl, F392.cl 9 4 rfl rfl, F392.cl 9 5 rfl rfl⟩) (fun hHeld => ?_)
                        clear hK K
                        (try simp only [Act.put, List.setIfInBounds_toArray, List.set_cons_zero, List.set_cons_succ])
                        refine ru_one 17 rfl (by kernel_rfl) (fun K hK => ?_)
                        go_simp
                        refine (own_s _ _ _ VV _ (Own.sl (F392.at 14 rfl : Own intEnc 3 1 w43.heap.size _ (.slice pa57 VV.length pc58) VV) (fun _ => rfl)) (by omega)).mono ?_
                        rintro e w395 ⟨oa106_1, oc106_1, ol106_1, oh106_1, rfl, ⟨ox106_1, oy106_1⟩, oz106_1, hg393⟩
                        have hg393s := hg393.size
                        (try simp at hg393s)
                        have F396 := F392.add (rsl intEnc 1 ol106_1 oh106_1 (.slice oa106_1 VV.length oc106_1) VV) hg393 (oz106_1) (fun g e => ⟨Nat.le_trans ox106_1 e.1, Nat.lt_of_lt_of_le e.2 oy106_1⟩)
                        clear F392
                        refine ru_back hK (by exact ⟨F396.cl 10 3 rfl rfl, F396.cl 10 4 rfl rfl, F396.cl 10 5 rfl rfl⟩) (fun hHeld => ?_)
                        clear hK K
                        (try simp only [Act.put, List.setIfInBounds_toArray, List.set_cons_zero, List.set_cons_succ])
                        refine ru_p 18 ?_
                        (try simp only [Act.put, List.setIfInBounds_toArray, List.set_cons_zero, List.set_cons_succ])
                        refine ru_one 20 rfl (by kernel_rfl) (fun K hK => ?_)
                        have kb_ := F396.bx3 1 rfl
                        go_simp
                        clear kb_
                        have F397 := (F396.front 1 rfl rfl).pt3 (.slice oa94_1 OO.length oc94_1) (.slice oa100_1 C3.length oc100_1) (.slice oa106_1 VV.length oc106_1)
                        clear F396
                        refine ru_back_late hK (by kernel_rfl) ?_
                        clear hK K
                        (try simp only [Act.put, List.setIfInBounds_toArray, List.set_cons_zero, List.set_cons_succ])
                        refine ru_done (by kernel_rfl) ?_
                        have F398 : Bun w [rbox w379.heap.size 32 #[.slice oa94_1 OO.length oc94_1, .slice oa100_1 C3.length oc100_1, .slice oa106_1 VV.length oc106_1], rbox w161.heap.size 25 #[.slice ba157 bb.accs.length bc157, .slice bm157 bb.mvs.length bn157], rbook bl157 bh157 (.slice ba157 bb.accs.length bc157) (.slice bm157 bb.mvs.length bn157) bb, rsl intEnc 1 yly106 yhy106 (.slice yay106 (balL b O C V).length ycy106) (balL b O C V), rsl intEnc 1 yly94 yhy94 (.slice yay94 (balL b O C V).length ycy94) (balL b O C V), rbook bl80 bh80 (.slice ba80 b.accs.length bc80) (.slice bm80 b.mvs.length bn80) b, rbox g72 25 #[.slice aa b.accs.length ak, .slice ma b.mvs.length mk, .slice pa49 bb.accs.length pc50, .slice pa51 bb.mvs.length pc52, .slice pa49 bb.accs.length pc50, .slice pa51 bb.mvs.length pc52], rbox g73 32 #[.slice toa O.length tok, .slice tca C.length tck, .slice tva V.length tvk, .slice pa53 OO.length pc54, .slice pa55 CC.length pc56, .slice pa57 VV.length pc58, .slice toa O.length tok, .slice tca C.length tck, .slice tva V.length tvk], rown accEnc 79 6 w43.heap.size (.slice pa49 bb.accs.length pc50) bb.accs, rown mvEnc 76 4 w43.heap.size (.slice pa51 bb.mvs.length pc52) bb.mvs, rown intEnc 3 1 w43.heap.size (.slice pa53 OO.length pc54) OO, rown intEnc 3 1 w43.heap.size (.slice pa55 CC.length pc56) C3, rown intEnc 3 1 w43.heap.size (.slice pa57 VV.length pc58) VV, rseed sb, rsl intEnc 1 0 w.heap.size (.slice na zs.length nc) zs, rsl intEnc 1 0 w.heap.size (.slice tva V.length tvk) V, rsl intEnc 1 0 w.heap.size (.slice tca C.length tck) C, rsl intEnc 1 0 w.heap.size (.slice toa O.length tok) O, rsl mvEnc 4 0 w.heap.size (.slice ma b.mvs.length mk) b.mvs, rsl accEnc 6 0 w.heap.size (.slice aa b.accs.length ak) b.accs, rsl intEnc 1 ol94_0 oh94_0 (.slice oa94_0 O.length oc94_0) O, rsl intEnc 1 ol100_0 oh100_0 (.slice oa100_0 C.length oc100_0) C, rsl intEnc 1 ol106_0 oh106_0 (.slice oa106_0 V.length oc106_0) V, rsl intEnc 1 ol94_1 oh94_1 (.slice oa94_1 OO.length oc94_1) OO, rsl intEnc 1 ol100_1 oh100_1 (.slice oa100_1 C3.length oc100_1) C3, rsl intEnc 1 ol106_1 oh106_1 (.slice oa106_1 VV.length oc106_1) VV] _ := F397.pick [0, 4, 5, 6, 7, 8, 9, 10, 11, 12, 13, 14, 15, 16, 17, 18, 19, 20, 21, 22, 23, 24, 25, 3, 2, 1] (by decide) rfl
                        clear F397
                        exact ⟨(by first | kernel_rfl | rfl), rfl, w379.heap.size, oa94_1, oc94_1, ol94_1, oh94_1, oa100_1, oc100_1, ol100_1, oh100_1, oa106_1, oc106_1, ol106_1, oh106_1, (by first | kernel_rfl | rfl), (by first | kernel_rfl | rfl), (by first | kernel_rfl | rfl), (by first | kernel_rfl | rfl), (by first | kernel_rfl | rfl), (by first | omega | (simp; done) | (simp; omega)), (by first | omega | (simp; omega)), (by first | omega | (simp; omega)), (by first | omega | (simp; omega)), F398⟩
                    · intro K hK
                      go_simp
                      have F399 := F376.new 32 #[.slice none 0 0, .slice none 0 0, .slice none 0 0] (n := w375.heap.size) (by simp)
                      clear F376
                      refine ru_back hK (by exact ⟨F399.cl 8 3 rfl rfl, F399.cl 8 4 rfl rfl, F399.cl 8 5 rfl rfl⟩) (fun hHeld => ?_)
                      clear hK K
                      (try simp only [Act.put, List.setIfInBounds_toArray, List.set_cons_zero, List.set_cons_succ])
                      refine ru_one 11 rfl (by kernel_rfl) (fun K hK => ?_)
                      go_simp
                      refine (own_s _ _ _ C3 _ (Own.sl (F399.at 12 rfl : Own intEnc 3 1 w43.heap.size _ (.slice pa55 CC.length pc56) C3) (fun _ => rfl)) (by omega)).mono ?_
                      rintro e w402 ⟨oa100_1, oc100_1, ol100_1, oh100_1, rfl, ⟨ox100_1, oy100_1⟩, oz100_1, hg400⟩
                      have hg400s := hg400.size
                      (try simp at hg400s)
                      have F403 := F399.add (rsl intEnc 1 ol100_1 oh100_1 (.slice oa100_1 C3.length oc100_1) C3) hg400 (oz100_1) (fun g e => ⟨Nat.le_trans ox100_1 e.1, Nat.lt_of_lt_of_le e.2 oy100_1⟩)
                      clear F399
                      refine ru_back hK (by exact ⟨F403.cl 9 3 rfl rfl, F403.cl 9 4 rfl rfl, F403.cl 9 5 rfl rfl⟩) (fun hHeld => ?_)
                      clear hK K
                      (try simp only [Act.put, List.setIfInBounds_toArray, List.set_cons_zero, List.set_cons_succ])
                      refine ru_one 17 rfl (by kernel_rfl) (fun K hK => ?_)
                      go_simp
                      refine (own_s _ _ _ VV _ (Own.sl (F403.at 14 rfl : Own intEnc 3 1 w43.heap.size _ (.slice pa57 VV.length pc58) VV) (fun _ => rfl)) (by omega)).mono ?_
                      rintro e w406 ⟨oa106_1, oc106_1, ol106_1, oh106_1, rfl, ⟨ox106_1, oy106_1⟩, oz106_1, hg404⟩
                      have hg404s := hg404.size
                      (try simp at hg404s)
                      have F407 := F403.add (rsl intEnc 1 ol106_1 oh106_1 (.slice oa106_1 VV.length oc106_1) VV) hg404 (oz106_1) (fun g e => ⟨Nat.le_trans ox106_1 e.1, Nat.lt_of_lt_of_le e.2 oy106_1⟩)
                      clear F403
                      refine ru_back hK (by exact ⟨F407.cl 10 3 rfl rfl, F407.cl 10 4 rfl rfl, F407.cl 10 5 rfl rfl⟩) (fun hHeld => ?_)
                      clear hK K
                      (try simp only [Act.put, List.setIfInBounds_toArray, List.set_cons_zero, List.set_cons_succ])
                      refine ru_p 18 ?_
                      (try simp only [Act.put, List.setIfInBounds_toArray, List.set_cons_zero, List.set_cons_succ])
                      refine ru_one 20 rfl (by kernel_rfl) (fun K hK => ?_)
                      have kb_ := F407.bx3 2 rfl
                      go_simp
                      clear kb_
                      have F408 := (F407.front 2 rfl rfl).pt3 (.slice oa94_1 OO.length oc94_1) (.slice oa100_1 C3.length oc100_1) (.slice oa106_1 VV.length oc106_1)
                      clear F407
                      refine ru_back_late hK (by kernel_rfl) ?_
                      clear hK K
                      (try simp only [Act.put, List.setIfInBounds_toArray, List.set_cons_zero, List.set_cons_succ])
                      refine ru_done (by kernel_rfl) ?_
                      have F409 : Bun w [rbox w375.heap.size 32 #[.slice oa94_1 OO.length oc94_1, .slice oa100_1 C3.length oc100_1, .slice oa106_1 VV.length oc106_1], rbox w161.heap.size 25 #[.slice ba157 bb.accs.length bc157, .slice bm157 bb.mvs.length bn157], rbook bl157 bh157 (.slice ba157 bb.accs.length bc157) (.slice bm157 bb.mvs.length bn157) bb, rsl intEnc 1 yly106 yhy106 (.slice yay106 (balL b O C V).length ycy106) (balL b O C V), rsl intEnc 1 yly94 yhy94 (.slice yay94 (balL b O C V).length ycy94) (balL b O C V), rbook bl80 bh80 (.slice ba80 b.accs.length bc80) (.slice bm80 b.mvs.length bn80) b, rbox g72 25 #[.slice aa b.accs.length ak, .slice ma b.mvs.length mk, .slice pa49 bb.accs.length pc50, .slice pa51 bb.mvs.length pc52, .slice pa49 bb.accs.length pc50, .slice pa51 bb.mvs.length pc52], rbox g73 32 #[.slice toa O.length tok, .slice tca C.length tck, .slice tva V.length tvk, .slice pa53 OO.length pc54, .slice pa55 CC.length pc56, .slice pa57 VV.length pc58, .slice toa O.length tok, .slice tca C.length tck, .slice tva V.length tvk], rown accEnc 79 6 w43.heap.size (.slice pa49 bb.accs.length pc50) bb.accs, rown mvEnc 76 4 w43.heap.size (.slice pa51 bb.mvs.length pc52) bb.mvs, rown intEnc 3 1 w43.heap.size (.slice pa53 OO.length pc54) OO, rown intEnc 3 1 w43.heap.size (.slice pa55 CC.length pc56) C3, rown intEnc 3 1 w43.heap.size (.slice pa57 VV.length pc58) VV, rseed sb, rsl intEnc 1 0 w.heap.size (.slice na zs.length nc) zs, rsl intEnc 1 0 w.heap.size (.slice tva V.length tvk) V, rsl intEnc 1 0 w.heap.size (.slice tca C.length tck) C, rsl intEnc 1 0 w.heap.size (.slice toa O.length tok) O, rsl mvEnc 4 0 w.heap.size (.slice ma b.mvs.length mk) b.mvs, rsl accEnc 6 0 w.heap.size (.slice aa b.accs.length ak) b.accs, rsl intEnc 1 ol94_0 oh94_0 (.slice oa94_0 O.length oc94_0) O, rsl intEnc 1 ol100_0 oh100_0 (.slice oa100_0 C.length oc100_0) C, rsl intEnc 1 ol106_0 oh106_0 (.slice oa106_0 V.length oc106_0) V, rsl intEnc 1 ol94_1 oh94_1 (.slice oa94_1 OO.length oc94_1) OO, rsl intEnc 1 ol100_1 oh100_1 (.slice oa100_1 C3.length oc100_1) C3, rsl intEnc 1 ol106_1 oh106_1 (.slice oa106_1 VV.length oc106_1) VV] _ := F408.pick [0, 4, 5, 6, 7, 8, 9, 10, 11, 12, 13, 14, 15, 16, 17, 18, 19, 20, 21, 22, 23, 24, 25, 3, 2, 1] (by decide) rfl
                      clear F408
                      exact ⟨(by first | kernel_rfl | rfl), rfl, w375.heap.size, oa94_1, oc94_1, ol94_1, oh94_1, oa100_1, oc100_1, ol100_1, oh100_1, oa106_1, oc106_1, ol106_1, oh106_1, (by first | kernel_rfl | rfl), (by first | kernel_rfl | rfl), (by first | kernel_rfl | rfl), (by first | kernel_rfl | rfl), (by first | kernel_rfl | rfl), (by first | omega | (simp; done) | (simp; omega)), (by first | omega | (simp; omega)), (by first | omega | (simp; omega)), (by first | omega | (simp; omega)), F409⟩
                  · intro K hK
                    go_simp
                    have F410 := F370.new 32 #[.slice none 0 0, .slice none 0 0, .slice none 0 0] (n := wd372.heap.size) (by simp)
                    clear F370
                    refine ru_back hK (by exact ⟨F410.cl 7 3 rfl rfl, F410.cl 7 4 rfl rfl, F410.cl 7 5 rfl rfl⟩) (fun hHeld => ?_)
                    clear hK K
                    (try simp only [Act.put, List.setIfInBounds_toArray, List.set_cons_zero, List.set_cons_succ])
                    refine ru_one 5 rfl (by kernel_rfl) (fun K hK => ?_)
                    go_simp
                    refine (own_s _ _ _ OO _ (Own.sl (F410.at 10 rfl : Own intEnc 3 1 w43.heap.size _ (.slice pa53 OO.length pc54) OO) (fun _ => rfl)) (by omega)).mono ?_
                    rintro e w413 ⟨oa94_1, oc94_1, ol94_1, oh94_1, rfl, ⟨ox94_1, oy94_1⟩, oz94_1, hg411⟩
                    have hg411s := hg411.size
                    (try simp at hg411s)
                    have F414 := F410.add (rsl intEnc 1 ol94_1 oh94_1 (.slice oa94_1 OO.length oc94_1) OO) hg411 (oz94_1) (fun g e => ⟨Nat.le_trans ox94_1 e.1, Nat.lt_of_lt_of_le e.2 oy94_1⟩)
                    clear F410
                    refine ru_back hK (by exact ⟨F414.cl 8 3 rfl rfl, F414.cl 8 4 rfl rfl, F414.cl 8 5 rfl rfl⟩) (fun hHeld => ?_)
                    clear hK K
                    (try simp only [Act.put, List.setIfInBounds_toArray, List.set_cons_zero, List.set_cons_succ])
                    refine ru_one 11 rfl (by kernel_rfl) (fun K hK => ?_)
                    go_simp
                    refine (own_s _ _ _ C3 _ (Own.sl (F414.at 12 rfl : Own intEnc 3 1 w43.heap.size _ (.slice pa55 CC.length pc56) C3) (fun _ => rfl)) (by omega)).mono ?_
                    rintro e w417 ⟨oa100_1, oc100_1, ol100_1, oh100_1, rfl, ⟨ox100_1, oy100_1⟩, oz100_1, hg415⟩
                    have hg415s := hg415.size
                    (try simp at hg415s)
                    have F418 := F414.add (rsl intEnc 1 ol100_1 oh100_1 (.slice oa100_1 C3.length oc100_1) C3) hg415 (oz100_1) (fun g e => ⟨Nat.le_trans ox100_1 e.1, Nat.lt_of_lt_of_le e.2 oy100_1⟩)
                    clear F414
                    refine ru_back hK (by exact ⟨F418.cl 9 3 rfl rfl, F418.cl 9 4 rfl rfl, F418.cl 9 5 rfl rfl⟩) (fun hHeld => ?_)
                    clear hK K
                    (try simp only [Act.put, List.setIfInBounds_toArray, List.set_cons_zero, List.set_cons_succ])
                    refine ru_one 17 rfl (by kernel_rfl) (fun K hK => ?_)
                    go_simp
                    refine (own_s _ _ _ VV _ (Own.sl (F418.at 14 rfl : Own intEnc 3 1 w43.heap.size _ (.slice pa57 VV.length pc58) VV) (fun _ => rfl)) (by omega)).mono ?_
                    rintro e w421 ⟨oa106_1, oc106_1, ol106_1, oh106_1, rfl, ⟨ox106_1, oy106_1⟩, oz106_1, hg419⟩
                    have hg419s := hg419.size
                    (try simp at hg419s)
                    have F422 := F418.add (rsl intEnc 1 ol106_1 oh106_1 (.slice oa106_1 VV.length oc106_1) VV) hg419 (oz106_1) (fun g e => ⟨Nat.le_trans ox106_1 e.1, Nat.lt_of_lt_of_le e.2 oy106_1⟩)
                    clear F418
                    refine ru_back hK (by exact ⟨F422.cl 10 3 rfl rfl, F422.cl 10 4 rfl rfl, F422.cl 10 5 rfl rfl⟩) (fun hHeld => ?_)
                    clear hK K
                    (try simp only [Act.put, List.setIfInBounds_toArray, List.set_cons_zero, List.set_cons_succ])
                    refine ru_p 18 ?_
                    (try simp only [Act.put, List.setIfInBounds_toArray, List.set_cons_zero, List.set_cons_succ])
                    refine ru_one 20 rfl (by kernel_rfl) (fun K hK => ?_)
                    have kb_ := F422.bx3 3 rfl
                    go_simp
                    clear kb_
                    have F423 := (F422.front 3 rfl rfl).pt3 (.slice oa94_1 OO.length oc94_1) (.slice oa100_1 C3.length oc100_1) (.slice oa106_1 VV.length oc106_1)
                    clear F422
                    refine ru_back_late hK (by kernel_rfl) ?_
                    clear hK K
                    (try simp only [Act.put, List.setIfInBounds_toArray, List.set_cons_zero, List.set_cons_succ])
                    refine ru_done (by kernel_rfl) ?_
                    have F424 : Bun w [rbox wd372.heap.size 32 #[.slice oa94_1 OO.length oc94_1, .slice oa100_1 C3.length oc100_1, .slice oa106_1 VV.length oc106_1], rbox w161.heap.size 25 #[.slice ba157 bb.accs.length bc157, .slice bm157 bb.mvs.length bn157], rbook bl157 bh157 (.slice ba157 bb.accs.length bc157) (.slice bm157 bb.mvs.length bn157) bb, rsl intEnc 1 yly106 yhy106 (.slice yay106 (balL b O C V).length ycy106) (balL b O C V), rsl intEnc 1 yly94 yhy94 (.slice yay94 (balL b O C V).length ycy94) (balL b O C V), rbook bl80 bh80 (.slice ba80 b.accs.length bc80) (.slice bm80 b.mvs.length bn80) b, rbox g72 25 #[.slice aa b.accs.length ak, .slice ma b.mvs.length mk, .slice pa49 bb.accs.length pc50, .slice pa51 bb.mvs.length pc52, .slice pa49 bb.accs.length pc50, .slice pa51 bb.mvs.length pc52], rbox g73 32 #[.slice toa O.length tok, .slice tca C.length tck, .slice tva V.length tvk, .slice pa53 OO.length pc54, .slice pa55 CC.length pc56, .slice pa57 VV.length pc58, .slice toa O.length tok, .slice tca C.length tck, .slice tva V.length tvk], rown accEnc 79 6 w43.heap.size (.slice pa49 bb.accs.length pc50) bb.accs, rown mvEnc 76 4 w43.heap.size (.slice pa51 bb.mvs.length pc52) bb.mvs, rown intEnc 3 1 w43.heap.size (.slice pa53 OO.length pc54) OO, rown intEnc 3 1 w43.heap.size (.slice pa55 CC.length pc56) C3, rown intEnc 3 1 w43.heap.size (.slice pa57 VV.length pc58) VV, rseed sb, rsl intEnc 1 0 w.heap.size (.slice na zs.length nc) zs, rsl intEnc 1 0 w.heap.size (.slice tva V.length tvk) V, rsl intEnc 1 0 w.heap.size (.slice tca C.length tck) C, rsl intEnc 1 0 w.heap.size (.slice toa O.length tok) O, rsl mvEnc 4 0 w.heap.size (.slice ma b.mvs.length mk) b.mvs, rsl accEnc 6 0 w.heap.size (.slice aa b.accs.length ak) b.accs, rsl intEnc 1 ol94_0 oh94_0 (.slice oa94_0 O.length oc94_0) O, rsl intEnc 1 ol100_0 oh100_0 (.slice oa100_0 C.length oc100_0) C, rsl intEnc 1 ol106_0 oh106_0 (.slice oa106_0 V.length oc106_0) V, rsl intEnc 1 ol94_1 oh94_1 (.slice oa94_1 OO.length oc94_1) OO, rsl intEnc 1 ol100_1 oh100_1 (.slice oa100_1 C3.length oc100_1) C3, rsl intEnc 1 ol106_1 oh106_1 (.slice oa106_1 VV.length oc106_1) VV] _ := F423.pick [0, 4, 5, 6, 7, 8, 9, 10, 11, 12, 13, 14, 15, 16, 17, 18, 19, 20, 21, 22, 23, 24, 25, 3, 2, 1] (by decide) rfl
                    clear F423
                    exact ⟨(by first | kernel_rfl | rfl), rfl, wd372.heap.size, oa94_1, oc94_1, ol94_1, oh94_1, oa100_1, oc100_1, ol100_1, oh100_1, oa106_1, oc106_1, ol106_1, oh106_1, (by first | kernel_rfl | rfl), (by first | kernel_rfl | rfl), (by first | kernel_rfl | rfl), (by first | kernel_rfl | rfl), (by first | kernel_rfl | rfl), (by first | omega | (simp; done) | (simp; omega)), (by first | omega | (simp; omega)), (by first | omega | (simp; omega)), (by first | omega | (simp; omega)), F424⟩
              case first1 =>
                have F425 := F90.drew
                clear F90
                refine ru_begin (fun W => W.cell? ⟨g73, 0, none⟩ = some (.slice toa O.length tok) ∧ W.cell? ⟨g73, 1, none⟩ = some (.slice tca C.length tck) ∧ W.cell? ⟨g73, 2, none⟩ = some (.slice tva V.length tvk)) 20 (by kernel_rfl) ?_ ?_
                · exact ⟨F425.cl 3 0 rfl rfl, F425.cl 3 1 rfl rfl, F425.cl 3 2 rfl rfl⟩
                obtain ⟨wd427, hwd_⟩ : ∃ x : World, w87.drew = x := ⟨_, rfl⟩
                rw [hwd_] at F425 ⊢
                have wd427s : w87.heap.size ≤ wd427.heap.size := by rw [← hwd_]; exact Nat.le_refl _
                clear hwd_
                have hS426 := (And.intro (F425.cl 3 0 rfl rfl) (And.intro (F425.cl 3 1 rfl rfl) (F425.cl 3 2 rfl rfl)))
                refine ru_t 0 [] ?_
                refine ru_t 1 [] ?_
                refine ru_t 2 [] ?_
                refine ru_t 3 [] ?_
                refine ru_t 4 [] ?_
                refine ru_t 6 [] ?_
                refine ru_t 7 [] ?_
                refine ru_t 8 [] ?_
                refine ru_t 9 [] ?_
                refine ru_t 10 [] ?_
                refine ru_t 12 [] ?_
                refine ru_t 13 [] ?_
                refine ru_t 14 [] ?_
                refine ru_t 15 [] ?_
                refine ru_t 16 [] ?_
                (try simp only [Act.put, List.setIfInBounds_toArray, List.set_cons_zero, List.set_cons_succ])
                clear hS426
                refine ru_two 5 19 rfl rfl (by kernel_rfl) ?_ ?_
                · intro K hK
                  go_simp
                  refine (own_s _ _ _ O _ (F425.at 13 rfl : Sl intEnc 1 0 w.heap.size _ (.slice toa O.length tok) O) (by omega)).mono ?_
                  rintro e w430 ⟨oa94_0, oc94_0, ol94_0, oh94_0, rfl, ⟨ox94_0, oy94_0⟩, oz94_0, hg428⟩
                  have hg428s := hg428.size
                  (try simp at hg428s)
                  have F431 := F425.add (rsl intEnc 1 ol94_0 oh94_0 (.slice oa94_0 O.length oc94_0) O) hg428 (oz94_0) (fun g e => ⟨Nat.le_trans ox94_0 e.1, Nat.lt_of_lt_of_le e.2 oy94_0⟩)
                  clear F425
                  refine ru_back hK (by exact ⟨F431.cl 4 0 rfl rfl, F431.cl 4 1 rfl rfl, F431.cl 4 2 rfl rfl⟩) (fun hHeld => ?_)
                  clear hK K
                  (try simp only [Act.put, List.setIfInBounds_toArray, List.set_cons_zero, List.set_cons_succ])
                  refine ru_two 11 19 rfl rfl (by kernel_rfl) ?_ ?_
                  · intro K hK
                    go_simp
                    refine (own_s _ _ _ C _ (F431.at 13 rfl : Sl intEnc 1 0 w.heap.size _ (.slice tca C.length tck) C) (by omega)).mono ?_
                    rintro e w434 ⟨oa100_0, oc100_0, ol100_0, oh100_0, rfl, ⟨ox100_0, oy100_0⟩, oz100_0, hg432⟩
                    have hg432s := hg432.size
                    (try simp at hg432s)
                    have F435 := F431.add (rsl intEnc 1 ol100_0 oh100_0 (.slice oa100_0 C.length oc100_0) C) hg432 (oz100_0) (fun g e => ⟨Nat.le_trans ox100_0 e.1, Nat.lt_of_lt_of_le e.2 oy100_0⟩)
                    clear F431
                    refine ru_back hK (by exact ⟨F435.cl 5 0 rfl rfl, F435.cl 5 1 rfl rfl, F435.cl 5 2 rfl rfl⟩) (fun hHeld => ?_)
                    clear hK K
                    (try simp only [Act.put, List.setIfInBounds_toArray, List.set_cons_zero, List.set_cons_succ])
                    refine ru_two 17 19 rfl rfl (by kernel_rfl) ?_ ?_
                    · intro K hK
                      go_simp
                      refine (own_s _ _ _ V _ (F435.at 13 rfl : Sl intEnc 1 0 w.heap.size _ (.slice tva V.length tvk) V) (by omega)).mono ?_
                      rintro e w438 ⟨oa106_0, oc106_0, ol106_0, oh106_0, rfl, ⟨ox106_0, oy106_0⟩, oz106_0, hg436⟩
                      have hg436s := hg436.size
                      (try simp at hg436s)
                      have F439 := F435.add (rsl intEnc 1 ol106_0 oh106_0 (.slice oa106_0 V.length oc106_0) V) hg436 (oz106_0) (fun g e => ⟨Nat.le_trans ox106_0 e.1, Nat.lt_of_lt_of_le e.2 oy106_0⟩)
                      clear F435
                      refine ru_back hK (by exact ⟨F439.cl 6 0 rfl rfl, F439.cl 6 1 rfl rfl, F439.cl 6 2 rfl rfl⟩) (fun hHeld => ?_)
                      clear hK K
                      (try simp only [Act.put, List.setIfInBounds_toArray, List.set_cons_zero, List.set_cons_succ])
                      refine ru_p 18 ?_
                      (try simp only [Act.put, List.setIfInBounds_toArray, List.set_cons_zero, List.set_cons_succ])
                      refine ru_one 19 rfl (by kernel_rfl) (fun K hK => ?_)
                      go_simp
                      have F440 := F439.new 32 #[.slice none 0 0, .slice none 0 0, .slice none 0 0] (n := w438.heap.size) (by simp)
                      clear F439
                      refine ru_back hK (by exact ⟨F440.cl 7 0 rfl rfl, F440.cl 7 1 rfl rfl, F440.cl 7 2 rfl rfl⟩) (fun hHeld => ?_)
                      clear hK K
                      (try simp only [Act.put, List.setIfInBounds_toArray, List.set_cons_zero, List.set_cons_succ])
                      refine ru_one 20 rfl (by kernel_rfl) (fun K hK => ?_)
                      have Fn_ := F440
                      (try dsimp only [List.eraseIdx_cons_succ, List.eraseIdx_cons_zero] at Fn_)
                      obtain ⟨w441, hx442, F444, hxs443⟩ := Fn_.name
                      (try simp at hxs443)
                      rw [hx442]
                      clear hx442 F440 Fn_
                      have kb_ := F444.bx3 0 rfl
                      go_simp
                      clear kb_
                      have F445 := F444.pt3 (.slice oa94_0 O.length oc94_0) (.slice oa100_0 C.length oc100_0) (.slice oa106_0 V.length oc106_0)
                      clear F444
                      refine ru_back_late hK (by kernel_rfl) ?_
                      clear hK K
                      (try simp only [Act.put, List.setIfInBounds_toArray, List.set_cons_zero, List.set_cons_succ])
                      refine ru_done (by kernel_rfl) ?_
                      have F446 : Bun w [rbox w438.heap.size 32 #[.slice oa94_0 O.length oc94_0, .slice oa100_0 C.length oc100_0, .slice oa106_0 V.length oc106_0], rbox w84.heap.size 25 #[.slice ba80 b.accs.length bc80, .slice bm80 b.mvs.length bn80], rbook bl80 bh80 (.slice ba80 b.accs.length bc80) (.slice bm80 b.mvs.length bn80) b, rbox g72 25 #[.slice aa b.accs.length ak, .slice ma b.mvs.length mk, .slice pa49 bb.accs.length pc50, .slice pa51 bb.mvs.length pc52, .slice pa49 bb.accs.length pc50, .slice pa51 bb.mvs.length pc52], rbox g73 32 #[.slice toa O.length tok, .slice tca C.length tck, .slice tva V.length tvk, .slice pa53 OO.length pc54, .slice pa55 CC.length pc56, .slice pa57 VV.length pc58, .slice toa O.length tok, .slice tca C.length tck, .slice tva V.length tvk], rown accEnc 79 6 w43.heap.size (.slice pa49 bb.accs.length pc50) bb.accs, rown mvEnc 76 4 w43.heap.size (.slice pa51 bb.mvs.length pc52) bb.mvs, rown intEnc 3 1 w43.heap.size (.slice pa53 OO.length pc54) OO, rown intEnc 3 1 w43.heap.size (.slice pa55 CC.length pc56) C3, rown intEnc 3 1 w43.heap.size (.slice pa57 VV.length pc58) VV, rseed sb, rsl intEnc 1 0 w.heap.size (.slice na zs.length nc) zs, rsl intEnc 1 0 w.heap.size (.slice tva V.length tvk) V, rsl intEnc 1 0 w.heap.size (.slice tca C.length tck) C, rsl intEnc 1 0 w.heap.size (.slice toa O.length tok) O, rsl mvEnc 4 0 w.heap.size (.slice ma b.mvs.length mk) b.mvs, rsl accEnc 6 0 w.heap.size (.slice aa b.accs.length ak) b.accs, rsl intEnc 1 ol94_0 oh94_0 (.slice oa94_0 O.length oc94_0) O, rsl intEnc 1 ol100_0 oh100_0 (.slice oa100_0 C.length oc100_0) C, rsl intEnc 1 ol106_0 oh106_0 (.slice oa106_0 V.length oc106_0) V] _ := F445.pick [0, 4, 5, 6, 7, 8, 9, 10, 11, 12, 13, 14, 15, 16, 17, 18, 19, 3, 2, 1] (by decide) rfl
                      clear F445
                      exact ⟨(by first | kernel_rfl | rfl), rfl, w438.heap.size, oa94_0, oc94_0, ol94_0, oh94_0, oa100_0, oc100_0, ol100_0, oh100_0, oa106_0, oc106_0, ol106_0, oh106_0, (by first | kernel_rfl | rfl), (by first | kernel_rfl | rfl), (by first | kernel_rfl | rfl), (by first | kernel_rfl | rfl), (by first | kernel_rfl | rfl), (by first | omega | (simp; done) | (simp; omega)), (by first | omega | (simp; omega)), (by first | omega | (simp; omega)), (by first | omega | (simp; omega)), F446⟩
                    · intro K hK
                      go_simp
                      have F447 := F435.new 32 #[.slice none 0 0, .slice none 0 0, .slice none 0 0] (n := w434.heap.size) (by simp)
                      clear F435
                      refine ru_back hK (by exact ⟨F447.cl 6 0 rfl rfl, F447.cl 6 1 rfl rfl, F447.cl 6 2 rfl rfl⟩) (fun hHeld => ?_)
                      clear hK K
                      (try simp only [Act.put, List.setIfInBounds_toArray, List.set_cons_zero, List.set_cons_succ])
                      refine ru_one 17 rfl (by kernel_rfl) (fun K hK => ?_)
                      go_simp
                      refine (own_s _ _ _ V _ (F447.at 14 rfl : Sl intEnc 1 0 w.heap.size _ (.slice tva V.length tvk) V) (by omega)).mono ?_
                      rintro e w450 ⟨oa106_0, oc106_0, ol106_0, oh106_0, rfl, ⟨ox106_0, oy106_0⟩, oz106_0, hg448⟩
                      have hg448s := hg448.size
                      (try simp at hg448s)
                      have F451 := F447.add (rsl intEnc 1 ol106_0 oh106_0 (.slice oa106_0 V.length oc106_0) V) hg448 (oz106_0) (fun g e => ⟨Nat.le_trans ox106_0 e.1, Nat.lt_of_lt_of_le e.2 oy106_0⟩)
                      clear F447
                      refine ru_back hK (by exact ⟨F451.cl 7 0 rfl rfl, F451.cl 7 1 rfl rfl, F451.cl 7 2 rfl rfl⟩) (fun hHeld => ?_)
                      clear hK K
                      (try simp only [Act.put, List.setIfInBounds_toArray, List.set_cons_zero, List.set_cons_succ])
                      refine ru_p 18 ?_
                      (try simp only [Act.put, List.setIfInBounds_toArray, List.set_cons_zero, List.set_cons_succ])
                      refine ru_one 20 rfl (by kernel_rfl) (fun K hK => ?_)
                      have kb_ := F451.bx3 1 rfl
                      go_simp
                      clear kb_
                      have F452 := (F451.front 1 rfl rfl).pt3 (.slice oa94_0 O.length oc94_0) (.slice oa100_0 C.length oc100_0) (.slice oa106_0 V.length oc106_0)
                      clear F451
                      refine ru_back_late hK (by kernel_rfl) ?_
                      clear hK K
                      (try simp only [Act.put, List.setIfInBounds_toArray, List.set_cons_zero, List.set_cons_succ])
                      refine ru_done (by kernel_rfl) ?_
                      have F453 : Bun w [rbox w434.heap.size 32 #[.slice oa94_0 O.length oc94_0, .slice oa100_0 C.length oc100_0, .slice oa106_0 V.length oc106_0], rbox w84.heap.size 25 #[.slice ba80 b.accs.length bc80, .slice bm80 b.mvs.length bn80], rbook bl80 bh80 (.slice ba80 b.accs.length bc80) (.slice bm80 b.mvs.length bn80) b, rbox g72 25 #[.slice aa b.accs.length ak, .slice ma b.mvs.length mk, .slice pa49 bb.accs.length pc50, .slice pa51 bb.mvs.length pc52, .slice pa49 bb.accs.length pc50, .slice pa51 bb.mvs.length pc52], rbox g73 32 #[.slice toa O.length tok, .slice tca C.length tck, .slice tva V.length tvk, .slice pa53 OO.length pc54, .slice pa55 CC.length pc56, .slice pa57 VV.length pc58, .slice toa O.length tok, .slice tca C.length tck, .slice tva V.length tvk], rown accEnc 79 6 w43.heap.size (.slice pa49 bb.accs.length pc50) bb.accs, rown mvEnc 76 4 w43.heap.size (.slice pa51 bb.mvs.length pc52) bb.mvs, rown intEnc 3 1 w43.heap.size (.slice pa53 OO.length pc54) OO, rown intEnc 3 1 w43.heap.size (.slice pa55 CC.length pc56) C3, rown intEnc 3 1 w43.heap.size (.slice pa57 VV.length pc58) VV, rseed sb, rsl intEnc 1 0 w.heap.size (.slice na zs.length nc) zs, rsl intEnc 1 0 w.heap.size (.slice tva V.length tvk) V, rsl intEnc 1 0 w.heap.size (.slice tca C.length tck) C, rsl intEnc 1 0 w.heap.size (.slice toa O.length tok) O, rsl mvEnc 4 0 w.heap.size (.slice ma b.mvs.length mk) b.mvs, rsl accEnc 6 0 w.heap.size (.slice aa b.accs.length ak) b.accs, rsl intEnc 1 ol94_0 oh94_0 (.slice oa94_0 O.length oc94_0) O, rsl intEnc 1 ol100_0 oh100_0 (.slice oa100_0 C.length oc100_0) C, rsl intEnc 1 ol106_0 oh106_0 (.slice oa106_0 V.length oc106_0) V] _ := F452.pick [0, 4, 5, 6, 7, 8, 9, 10, 11, 12, 13, 14, 15, 16, 17, 18, 19, 3, 2, 1] (by decide) rfl
                      clear F452
                      exact ⟨(by first | kernel_rfl | rfl), rfl, w434.heap.size, oa94_0, oc94_0, ol94_0, oh94_0, oa100_0, oc100_0, ol100_0, oh100_0, oa106_0, oc106_0, ol106_0, oh106_0, (by first | kernel_rfl | rfl), (by first | kernel_rfl | rfl), (by first | kernel_rfl | rfl), (by first | kernel_rfl | rfl), (by first | kernel_rfl | rfl), (by first | omega | (simp; done) | (simp; omega)), (by first | omega | (simp; omega)), (by first | omega | (simp; omega)), (by first | omega | (simp; omega)), F453⟩
                  · intro K hK
                    go_simp
                    have F454 := F431.new 32 #[.slice none 0 0, .slice none 0 0, .slice none 0 0] (n := w430.heap.size) (by simp)
                    clear F431
                    refine ru_back hK (by exact ⟨F454.cl 5 0 rfl rfl, F454.cl 5 1 rfl rfl, F454.cl 5 2 rfl rfl⟩) (fun hHeld => ?_)
                    clear hK K
                    (try simp only [Act.put, List.setIfInBounds_toArray, List.set_cons_zero, List.set_cons_succ])
                    refine ru_one 11 rfl (by kernel_rfl) (fun K hK => ?_)
                    go_simp
                    refine (own_s _ _ _ C _ (F454.at 14 rfl : Sl intEnc 1 0 w.heap.size _ (.slice tca C.length tck) C) (by omega)).mono ?_
                    rintro e w457 ⟨oa100_0, oc100_0, ol100_0, oh100_0, rfl, ⟨ox100_0, oy100_0⟩, oz100_0, hg455⟩
                    have hg455s := hg455.size
                    (try simp at hg455s)
                    have F458 := F454.add (rsl intEnc 1 ol100_0 oh100_0 (.slice oa100_0 C.length oc100_0) C) hg455 (oz100_0) (fun g e => ⟨Nat.le_trans ox100_0 e.1, Nat.lt_of_lt_of_le e.2 oy100_0⟩)
                    clear F454
                    refine ru_back hK (by exact ⟨F458.cl 6 0 rfl rfl, F458.cl 6 1 rfl rfl, F458.cl 6 2 rfl rfl⟩) (fun hHeld => ?_)
                    clear hK K
                    (try simp only [Act.put, List.setIfInBounds_toArray, List.set_cons_zero, List.set_cons_succ])
                    refine ru_one 17 rfl (by kernel_rfl) (fun K hK => ?_)
                    go_simp
                    refine (own_s _ _ _ V _ (F458.at 14 rfl : Sl intEnc 1 0 w.heap.size _ (.slice tva V.length tvk) V) (by omega)).mono ?_
                    rintro e w461 ⟨oa106_0, oc106_0, ol106_0, oh106_0, rfl, ⟨ox106_0, oy106_0⟩, oz106_0, hg459⟩
                    have hg459s := hg459.size
                    (try simp at hg459s)
                    have F462 := F458.add (rsl intEnc 1 ol106_0 oh106_0 (.slice oa106_0 V.length oc106_0) V) hg459 (oz106_0) (fun g e => ⟨Nat.le_trans ox106_0 e.1, Nat.lt_of_lt_of_le e.2 oy106_0⟩)
                    clear F458
                    refine ru_back hK (by exact ⟨F462.cl 7 0 rfl rfl, F462.cl 7 1 rfl rfl, F462.cl 7 2 rfl rfl⟩) (fun hHeld => ?_)
                    clear hK K
                    (try simp only [Act.put, List.setIfInBounds_toArray, List.set_cons_zero, List.set_cons_succ])
                    refine ru_p 18 ?_
                    (try simp only [Act.put, List.setIfInBounds_toArray, List.set_cons_zero, List.set_cons_succ])
                    refine ru_one 20 rfl (by kernel_rfl) (fun K hK => ?_)
                    have kb_ := F462.bx3 2 rfl
                    go_simp
                    clear kb_
                    have F463 := (F462.front 2 rfl rfl).pt3 (.slice oa94_0 O.length oc94_0) (.slice oa100_0 C.length oc100_0) (.slice oa106_0 V.length oc106_0)
                    clear F462
                    refine ru_back_late hK (by kernel_rfl) ?_
                    clear hK K
                    (try simp only [Act.put, List.setIfInBounds_toArray, List.set_cons_zero, List.set_cons_succ])
                    refine ru_done (by kernel_rfl) ?_
                    have F464 : Bun w [rbox w430.heap.size 32 #[.slice oa94_0 O.length oc94_0, .slice oa100_0 C.length oc100_0, .slice oa106_0 V.length oc106_0], rbox w84.heap.size 25 #[.slice ba80 b.accs.length bc80, .slice bm80 b.mvs.length bn80], rbook bl80 bh80 (.slice ba80 b.accs.length bc80) (.slice bm80 b.mvs.length bn80) b, rbox g72 25 #[.slice aa b.accs.length ak, .slice ma b.mvs.length mk, .slice pa49 bb.accs.length pc50, .slice pa51 bb.mvs.length pc52, .slice pa49 bb.accs.length pc50, .slice pa51 bb.mvs.length pc52], rbox g73 32 #[.slice toa O.length tok, .slice tca C.length tck, .slice tva V.length tvk, .slice pa53 OO.length pc54, .slice pa55 CC.length pc56, .slice pa57 VV.length pc58, .slice toa O.length tok, .slice tca C.length tck, .slice tva V.length tvk], rown accEnc 79 6 w43.heap.size (.slice pa49 bb.accs.length pc50) bb.accs, rown mvEnc 76 4 w43.heap.size (.slice pa51 bb.mvs.length pc52) bb.mvs, rown intEnc 3 1 w43.heap.size (.slice pa53 OO.length pc54) OO, rown intEnc 3 1 w43.heap.size (.slice pa55 CC.length pc56) C3, rown intEnc 3 1 w43.heap.size (.slice pa57 VV.length pc58) VV, rseed sb, rsl intEnc 1 0 w.heap.size (.slice na zs.length nc) zs, rsl intEnc 1 0 w.heap.size (.slice tva V.length tvk) V, rsl intEnc 1 0 w.heap.size (.slice tca C.length tck) C, rsl intEnc 1 0 w.heap.size (.slice toa O.length tok) O, rsl mvEnc 4 0 w.heap.size (.slice ma b.mvs.length mk) b.mvs, rsl accEnc 6 0 w.heap.size (.slice aa b.accs.length ak) b.accs, rsl intEnc 1 ol94_0 oh94_0 (.slice oa94_0 O.length oc94_0) O, rsl intEnc 1 ol100_0 oh100_0 (.slice oa100_0 C.length oc100_0) C, rsl intEnc 1 ol106_0 oh106_0 (.slice oa106_0 V.length oc106_0) V] _ := F463.pick [0, 4, 5, 6, 7, 8, 9, 10, 11, 12, 13, 14, 15, 16, 17, 18, 19, 3, 2, 1] (by decide) rfl
                    clear F463
                    exact ⟨(by first | kernel_rfl | rfl), rfl, w430.heap.size, oa94_0, oc94_0, ol94_0, oh94_0, oa100_0, oc100_0, ol100_0, oh100_0, oa106_0, oc106_0, ol106_0, oh106_0, (by first | kernel_rfl | rfl), (by first | kernel_rfl | rfl), (by first | kernel_rfl | rfl), (by first | kernel_rfl | rfl), (by first | kernel_rfl | rfl), (by first | omega | (simp; done) | (simp; omega)), (by first | omega | (simp; omega)), (by first | omega | (simp; omega)), (by first | omega | (simp; omega)), F464⟩
                · intro K hK
                  go_simp
                  have F465 := F425.new 32 #[.slice none 0 0, .slice none 0 0, .slice none 0 0] (n := wd427.heap.size) (by simp)
                  clear F425
                  refine ru_back hK (by exact ⟨F465.cl 4 0 rfl rfl, F465.cl 4 1 rfl rfl, F465.cl 4 2 rfl rfl⟩) (fun hHeld => ?_)
                  clear hK K
                  (try simp only [Act.put, List.setIfInBounds_toArray, List.set_cons_zero, List.set_cons_succ])
                  refine ru_one 5 rfl (by kernel_rfl) (fun K hK => ?_)
                  go_simp
                  refine (own_s _ _ _ O _ (F465.at 14 rfl : Sl intEnc 1 0 w.heap.size _ (.slice toa O.length tok) O) (by omega)).mono ?_
                  rintro e w468 ⟨oa94_0, oc94_0, ol94_0, oh94_0, rfl, ⟨ox94_0, oy94_0⟩, oz94_0, hg466⟩
                  have hg466s := hg466.size
                  (try simp at hg466s)
                  have F469 := F465.add (rsl intEnc 1 ol94_0 oh94_0 (.slice oa94_0 O.length oc94_0) O) hg466 (oz94_0) (fun g e => ⟨Nat.le_trans ox94_0 e.1, Nat.lt_of_lt_of_le e.2 oy94_0⟩)
                  clear F465
                  refine ru_back hK (by exact ⟨F469.cl 5 0 rfl rfl, F469.cl 5 1 rfl rfl, F469.cl 5 2 rfl rfl⟩) (fun hHeld => ?_)
                  clear hK K
                  (try simp only [Act.put, List.setIfInBounds_toArray, List.set_cons_zero, List.set_cons_succ])
                  refine ru_one 11 rfl (by kernel_rfl) (fun K hK => ?_)
                  go_simp
                  refine (own_s _ _ _ C _ (F469.at 14 rfl : Sl intEnc 1 0 w.heap.size _ (.slice tca C.length tck) C) (by omega)).mono ?_
                  rintro e w472 ⟨oa100_0, oc100_0, ol100_0, oh100_0, rfl, ⟨ox100_0, oy100_0⟩, oz100_0, hg470⟩
                  have hg470s := hg470.size
                  (try simp at hg470s)
                  have F473 := F469.add (rsl intEnc 1 ol100_0 oh100_0 (.slice oa100_0 C.length oc100_0) C) hg470 (oz100_0) (fun g e => ⟨Nat.le_trans ox100_0 e.1, Nat.lt_of_lt_of_le e.2 oy100_0⟩)
                  clear F469
                  refine ru_back hK (by exact ⟨F473.cl 6 0 rfl rfl, F473.cl 6 1 rfl rfl, F473.cl 6 2 rfl rfl⟩) (fun hHeld => ?_)
                  clear hK K
                  (try simp only [Act.put, List.setIfInBounds_toArray, List.set_cons_zero, List.set_cons_succ])
                  refine ru_one 17 rfl (by kernel_rfl) (fun K hK => ?_)
                  go_simp
                  refine (own_s _ _ _ V _ (F473.at 14 rfl : Sl intEnc 1 0 w.heap.size _ (.slice tva V.length tvk) V) (by omega)).mono ?_
                  rintro e w476 ⟨oa106_0, oc106_0, ol106_0, oh106_0, rfl, ⟨ox106_0, oy106_0⟩, oz106_0, hg474⟩
                  have hg474s := hg474.size
                  (try simp at hg474s)
                  have F477 := F473.add (rsl intEnc 1 ol106_0 oh106_0 (.slice oa106_0 V.length oc106_0) V) hg474 (oz106_0) (fun g e => ⟨Nat.le_trans ox106_0 e.1, Nat.lt_of_lt_of_le e.2 oy106_0⟩)
                  clear F473
                  refine ru_back hK (by exact ⟨F477.cl 7 0 rfl rfl, F477.cl 7 1 rfl rfl, F477.cl 7 2 rfl rfl⟩) (fun hHeld => ?_)
                  clear hK K
                  (try simp only [Act.put, List.setIfInBounds_toArray, List.set_cons_zero, List.set_cons_succ])
                  refine ru_p 18 ?_
                  (try simp only [Act.put, List.setIfInBounds_toArray, List.set_cons_zero, List.set_cons_succ])
                  refine ru_one 20 rfl (by kernel_rfl) (fun K hK => ?_)
                  have kb_ := F477.bx3 3 rfl
                  go_simp
                  clear kb_
                  have F478 := (F477.front 3 rfl rfl).pt3 (.slice oa94_0 O.length oc94_0) (.slice oa100_0 C.length oc100_0) (.slice oa106_0 V.length oc106_0)
                  clear F477
                  refine ru_back_late hK (by kernel_rfl) ?_
                  clear hK K
                  (try simp only [Act.put, List.setIfInBounds_toArray, List.set_cons_zero, List.set_cons_succ])
                  refine ru_done (by kernel_rfl) ?_
                  have F479 : Bun w [rbox wd427.heap.size 32 #[.slice oa94_0 O.length oc94_0, .slice oa100_0 C.length oc100_0, .slice oa106_0 V.length oc106_0], rbox w84.heap.size 25 #[.slice ba80 b.accs.length bc80, .slice bm80 b.mvs.length bn80], rbook bl80 bh80 (.slice ba80 b.accs.length bc80) (.slice bm80 b.mvs.length bn80) b, rbox g72 25 #[.slice aa b.accs.length ak, .slice ma b.mvs.length mk, .slice pa49 bb.accs.length pc50, .slice pa51 bb.mvs.length pc52, .slice pa49 bb.accs.length pc50, .slice pa51 bb.mvs.length pc52], rbox g73 32 #[.slice toa O.length tok, .slice tca C.length tck, .slice tva V.length tvk, .slice pa53 OO.length pc54, .slice pa55 CC.length pc56, .slice pa57 VV.length pc58, .slice toa O.length tok, .slice tca C.length tck, .slice tva V.length tvk], rown accEnc 79 6 w43.heap.size (.slice pa49 bb.accs.length pc50) bb.accs, rown mvEnc 76 4 w43.heap.size (.slice pa51 bb.mvs.length pc52) bb.mvs, rown intEnc 3 1 w43.heap.size (.slice pa53 OO.length pc54) OO, rown intEnc 3 1 w43.heap.size (.slice pa55 CC.length pc56) C3, rown intEnc 3 1 w43.heap.size (.slice pa57 VV.length pc58) VV, rseed sb, rsl intEnc 1 0 w.heap.size (.slice na zs.length nc) zs, rsl intEnc 1 0 w.heap.size (.slice tva V.length tvk) V, rsl intEnc 1 0 w.heap.size (.slice tca C.length tck) C, rsl intEnc 1 0 w.heap.size (.slice toa O.length tok) O, rsl mvEnc 4 0 w.heap.size (.slice ma b.mvs.length mk) b.mvs, rsl accEnc 6 0 w.heap.size (.slice aa b.accs.length ak) b.accs, rsl intEnc 1 ol94_0 oh94_0 (.slice oa94_0 O.length oc94_0) O, rsl intEnc 1 ol100_0 oh100_0 (.slice oa100_0 C.length oc100_0) C, rsl intEnc 1 ol106_0 oh106_0 (.slice oa106_0 V.length oc106_0) V] _ := F478.pick [0, 4, 5, 6, 7, 8, 9, 10, 11, 12, 13, 14, 15, 16, 17, 18, 19, 3, 2, 1] (by decide) rfl
                  clear F478
                  exact ⟨(by first | kernel_rfl | rfl), rfl, wd427.heap.size, oa94_0, oc94_0, ol94_0, oh94_0, oa100_0, oc100_0, ol100_0, oh100_0, oa106_0, oc106_0, ol106_0, oh106_0, (by first | kernel_rfl | rfl), (by first | kernel_rfl | rfl), (by first | kernel_rfl | rfl), (by first | kernel_rfl | rfl), (by first | kernel_rfl | rfl), (by first | omega | (simp; done) | (simp; omega)), (by first | omega | (simp; omega)), (by first | omega | (simp; omega)), (by first | omega | (simp; omega)), F479⟩
          case first4 =>
            intro hK_
            clear hk2_
            refine (yes_c sb 2 _ (F64.at 7 rfl : SeedAt _ sb) (by omega) (by omega)).mono ?_
            rintro e w483 ⟨yb480, rfl, hs482, hg481⟩
            have hg481s := hg481.size
            (try simp at hg481s)
            have F484 := F64.seedAt 7 rfl hg481 hs482
            clear F64
            clear hg481
            cases c485 : yb480
            · skip
              have c485H := Lib.hid c485
              go_wp2_with fail
              have F486 : Bun w [rbox (w46.heap.size + 1) 32 #[.slice pa53 OO.length pc54, .slice pa55 CC.length pc56, .slice pa57 VV.length pc58], rbox w46.heap.size 25 #[.slice pa49 bb.accs.length pc50, .slice pa51 bb.mvs.length pc52], rown accEnc 79 6 w43.heap.size (.slice pa49 bb.accs.length pc50) bb.accs, rown mvEnc 76 4 w43.heap.size (.slice pa51 bb.mvs.length pc52) bb.mvs, rown intEnc 3 1 w43.heap.size (.slice pa53 OO.length pc54) OO, rown intEnc 3 1 w43.heap.size (.slice pa55 CC.length pc56) CC, rown intEnc 3 1 w43.heap.size (.slice pa57 VV.length pc58) VV, rseed sb, rbox (w.heap.size + 1) 32 #[.slice toa O.length tok, .slice tca C.length tck, .slice tva V.length tvk], rbox w.heap.size 25 #[.slice aa b.accs.length ak, .slice ma b.mvs.length mk], rsl intEnc 1 0 w.heap.size (.slice na zs.length nc) zs, rsl intEnc 1 0 w.heap.size (.slice tva V.length tvk) V, rsl intEnc 1 0 w.heap.size (.slice tca C.length tck) C, rsl intEnc 1 0 w.heap.size (.slice toa O.length tok) O, rsl mvEnc 4 0 w.heap.size (.slice ma b.mvs.length mk) b.mvs, rsl accEnc 6 0 w.heap.size (.slice aa b.accs.length ak) b.accs] _ := F484.pick [0, 1, 2, 3, 4, 5, 6, 7, 8, 9, 10, 11, 12, 13, 14, 15] (by decide) rfl
              clear F484
              show k2_ _ _
              exact hK_.out _ _ (by first | kernel_rfl | rfl) rfl ⟨CC, (by first | kernel_rfl | rfl), (by first | kernel_rfl | rfl), (by first | kernel_rfl | rfl), (by first | kernel_rfl | rfl), (by first | omega | (simp; done) | (simp; omega)), (by omega), F486⟩
            · skip
              have c485H := Lib.hid c485
              have b489 := F484.bx3 0 rfl
              go_wp2_with fail
              clear b489
              refine (below_c sb (CC.length : Int) _ (F484.at 7 rfl : SeedAt _ sb) (by omega) (by omega)).mono ?_
              rintro e w492 ⟨r487, rfl, hr488, hs491, hg490⟩
              unfold belowR at hr488
              obtain ⟨kc, rfl⟩ : ∃ kc : Nat, r487 = (kc : Int) := ⟨r487.toNat, by omega⟩
              have hkc : kc < CC.length := by omega
              have hg490s := hg490.size
              (try simp at hg490s)
              have F493 := F484.seedAt 7 rfl hg490 hs491
              clear F484
              clear hg490
              obtain ⟨gC494, cC495, e_⟩ := Own.opn (F493.at 5 rfl : Own intEnc 3 1 w43.heap.size _ (.slice pa55 CC.length pc56) CC) (by omega)
              injection e_ with e1_ _ e2_
              subst e1_ e2_
              have gC494l := (F493.ltAt 5 rfl _ rfl).1
              have hz496 : Hid (CC[kc]? = some (gi CC kc)) := Lib.hid (gi_at (by omega))
              have hcb : -2000000000 ≤ gi CC kc ∧ gi CC kc ≤ 2000000000 := by have h1_ := HTB.out.bal kc (by omega); have h2_ := HTB.out.tot kc (by omega); have h3_ : (bb.accs.length : Int) * 1000 ≤ 6 * 1000 := (by omega); omega
              go_wp2_with fail
              have F499 := F493.drew
              clear F493
              refine ru_begin (fun W => W.cell? ⟨(w46.heap.size + 1), 1, none⟩ = some (.slice (some ⟨gC494, 0, none⟩) CC.length pc56) ∧ W.cell? ⟨gC494, kc, none⟩ = some (.int .i64 (gi CC kc))) 12 (by kernel_rfl) ?_ ?_
              · exact ⟨F499.cl 0 1 rfl rfl, (by simpa using (Own.sl (F499.at 5 rfl : Own intEnc 3 1 w43.heap.size _ (.slice (some ⟨gC494, 0, none⟩) CC.length pc56) CC) (fun _ => rfl)).cells hz496.out 0 _ rfl)⟩
              obtain ⟨wd501, hwd_⟩ : ∃ x : World, w492.drew = x := ⟨_, rfl⟩
              rw [hwd_] at F499 ⊢
              have wd501s : w492.heap.size ≤ wd501.heap.size := by rw [← hwd_]; exact Nat.le_refl _
              clear hwd_
              have hS500 := (And.intro (F499.cl 0 1 rfl rfl) ((by simpa using (Own.sl (F499.at 5 rfl : Own intEnc 3 1 w43.heap.size _ (.slice (some ⟨gC494, 0, none⟩) CC.length pc56) CC) (fun _ => rfl)).cells hz496.out 0 _ rfl)))
              refine ru_t 0 [] ?_
              refine ru_t 1 [] ?_
              refine ru_t 2 [] ?_
              refine ru_t 3 [] ?_
              refine ru_t 4 [] ?_
              refine ru_t 5 [] ?_
              refine ru_t 6 [] ?_
              refine ru_t 7 [] ?_
              refine ru_t 8 [] ?_
              (try simp only [Act.put, List.setIfInBounds_toArray, List.set_cons_zero, List.set_cons_succ])
              clear hS500
              refine ru_one 9 rfl (by kernel_rfl) (fun K hK => ?_)
              go_simp
              refine (from_c sb (-3) 3 _ (F499.at 7 rfl : SeedAt _ sb) (by omega) (by omega) (by omega) (by omega)).mono ?_
              rintro e w506 ⟨r502, rfl, hr503, hs505, hg504⟩
              unfold fromR at hr503; have hr503b : (-3) ≤ r502 ∧ r502 ≤ 3 := (by omega); clear hr503
              have hg504s := hg504.size
              (try simp at hg504s)
              have F507 := F499.seedAt 7 rfl hg504 hs505
              clear F499
              refine ru_back hK (by exact ⟨F507.cl 0 1 rfl rfl, (by simpa using (Own.sl (F507.at 5 rfl : Own intEnc 3 1 w43.heap.size _ (.slice (some ⟨gC494, 0, none⟩) CC.length pc56) CC) (fun _ => rfl)).cells hz496.out 0 _ rfl)⟩) (fun hHeld => ?_)
              clear hK K
              (try simp only [Act.put, List.setIfInBounds_toArray, List.set_cons_zero, List.set_cons_succ])
              have hw508 : IntKind.i64.wrap (gi CC kc + r502) = gi CC kc + r502 := IntWalk.i64_in _ (by omega)
              refine ru_p 10 ?_
              (try simp only [Act.put, List.setIfInBounds_toArray, List.set_cons_zero, List.set_cons_succ])
              refine ru_p 11 ?_
              (try simp only [Act.put, List.setIfInBounds_toArray, List.set_cons_zero, List.set_cons_succ])
              refine ru_one 12 rfl (by kernel_rfl) (fun K hK => ?_)
              have kc_ : World.cell? _ ⟨gC494, kc, none⟩ = some (.int .i64 (gi CC kc)) := (by simpa using (Own.sl (F507.at 5 rfl : Own intEnc 3 1 w43.heap.size _ (.slice (some ⟨gC494, 0, none⟩) CC.length pc56) CC) (fun _ => rfl)).cells hz496.out 0 _ rfl)
              have kf_ : World.frozen? _ ⟨gC494, kc, none⟩ = false := Own.live (F507.at 5 rfl : Own intEnc 3 1 w43.heap.size _ (.slice (some ⟨gC494, 0, none⟩) CC.length pc56) CC) _
              go_simp
              clear kc_ kf_
              obtain ⟨C2, hC2_⟩ : ∃ z_, CC.set kc (gi CC kc + r502) = z_ := ⟨_, rfl⟩
              have hc2l : C2.length ≤ CC.length ∧ CC.length ≤ C2.length := by rw [← hC2_]; simp
              have F509 := Bun.setOwn (sz := 1) (fun _ => rfl) (F507.front 5 rfl rfl) hz496.out (y := (gi CC kc + r502)) (j := 0) (u := (.int .i64 (gi CC kc + r502))) (k := kc) (by decide) rfl (by omega)
              clear F507
              rw [hC2_] at F509
              refine ru_back_late hK (by kernel_rfl) ?_
              clear hK K
              (try simp only [Act.put, List.setIfInBounds_toArray, List.set_cons_zero, List.set_cons_succ])
              refine ru_done (by kernel_rfl) ?_
              (try clear hw508)
              have Fn_ := F509
              (try dsimp only [List.eraseIdx_cons_succ, List.eraseIdx_cons_zero] at Fn_)
              obtain ⟨w510, hx511, F513, hxs512⟩ := Fn_.name
              (try simp at hxs512)
              rw [hx511]
              clear hx511 F509 Fn_
              go_wp2_with fail
              have F514 : Bun w [rbox (w46.heap.size + 1) 32 #[.slice pa53 OO.length pc54, .slice (some ⟨gC494, 0, none⟩) CC.length pc56, .slice pa57 VV.length pc58], rbox w46.heap.size 25 #[.slice pa49 bb.accs.length pc50, .slice pa51 bb.mvs.length pc52], rown accEnc 79 6 w43.heap.size (.slice pa49 bb.accs.length pc50) bb.accs, rown mvEnc 76 4 w43.heap.size (.slice pa51 bb.mvs.length pc52) bb.mvs, rown intEnc 3 1 w43.heap.size (.slice pa53 OO.length pc54) OO, rown intEnc 3 1 w43.heap.size (.slice (some ⟨gC494, 0, none⟩) CC.length pc56) C2, rown intEnc 3 1 w43.heap.size (.slice pa57 VV.length pc58) VV, rseed sb, rbox (w.heap.size + 1) 32 #[.slice toa O.length tok, .slice tca C.length tck, .slice tva V.length tvk], rbox w.heap.size 25 #[.slice aa b.accs.length ak, .slice ma b.mvs.length mk], rsl intEnc 1 0 w.heap.size (.slice na zs.length nc) zs, rsl intEnc 1 0 w.heap.size (.slice tva V.length tvk) V, rsl intEnc 1 0 w.heap.size (.slice tca C.length tck) C, rsl intEnc 1 0 w.heap.size (.slice toa O.length tok) O, rsl mvEnc 4 0 w.heap.size (.slice ma b.mvs.length mk) b.mvs, rsl accEnc 6 0 w.heap.size (.slice aa b.accs.length ak) b.accs] _ := F513.pick [1, 2, 3, 4, 5, 0, 6, 7, 8, 9, 10, 11, 12, 13, 14, 15] (by decide) rfl
              clear F513
              show k2_ _ _
              exact hK_.out _ _ (by first | kernel_rfl | rfl) rfl ⟨C2, (by first | kernel_rfl | rfl), (by first | kernel_rfl | rfl), (by first | kernel_rfl | rfl), (by first | kernel_rfl | rfl), (by first | omega | (simp; done) | (simp; omega)), (by omega), F514⟩
  · skip
    have c14H := Lib.hid c14
    go_wp2_with fail
    refine (awake_c _).mono ?_
    rintro e w517 ⟨rfl, hg515⟩
    have hg515s := hg515.size
    (try simp at hg515s)
    have F518 := F13.gn hg515
    clear F13
    clear hg515
    go_wp2_with fail
    go_ret
    exact ⟨rfl, F518.gb⟩

end Go.Proofs.Ytfifldbinnkdmaa
