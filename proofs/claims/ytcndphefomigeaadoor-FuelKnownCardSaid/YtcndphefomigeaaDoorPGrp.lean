/- fuel.groups: all sets of accounts. -/
import Derived.Test.YtcndphefomigeaaDoorPK0
import Derived.Test.YtcndphefomigeaaDoorPSeq
import Derived.Test.YtcndphefomigeaaDoorPReg
import Derived.Deep.DeepCutAuto
import Derived.Deep.RegionHeld3
set_option linter.unusedVariables false
set_option linter.unusedSimpArgs false
set_option linter.unnecessarySimpa false
namespace Go.Proofs.YtcndphefomigeaaDoor
open Go.RowKit
set_option maxRecDepth 100000
theorem run_store_func (P : Program) (w : World) (a : Addr) (f : Fn) (x y : Array Value) (m : Mode) : (store a (.func f x y) m).run P w = stored P w a (.func f x y) m := run_store P w a _ m rfl
attribute [local go_sem] run_store_func

theorem low_bit : ∀ m < 256, (bits BinOp.and IntKind.i64 ((m : Nat) : Int) 1 == 1) = decide (m % 2 = 1) := by decide +kernel
theorem has_bit (i k : Nat) (hi : i < 256) : (bits BinOp.and IntKind.i64 ((i : Int) / 2 ^ k) 1 == 1) = i.testBit k := by
  rw [Nat.testBit_eq_decide_div_mod_eq]
  have h : ((i : Int) / 2 ^ k) = ((i / 2 ^ k : Nat) : Int) := by rw [Int.natCast_ediv, Int.natCast_pow]; rfl
  rw [h, low_bit _ (Nat.lt_of_le_of_lt (Nat.div_le_self _ _) hi)]
theorem has_c (i k p : Nat) (w : World) (v : Bool) (hi : i < 256) (hk : k < 8) (hp : Bk w p 3 #[.int .i64 i]) (hv : i.testBit k = v) :
    Calls Tryd.prog 55 #[.int .i64 k, .pointer (some ⟨p, 0, none⟩)] w fun e w' => e = .returned (.bool v) ∧ w = w' := by
  have q := hp.c1
  have hb := (has_bit i k hi).trans hv
  clear hv
  go_enter Tryd.func55, Tryd.ntmps55
  go_wp2_with fail
  go_ret
  exact ⟨rfl, rfl⟩

theorem Bk.c5 {w : World} {g : Nat} {t : TypeId} {a b c d e : Value} (h : Bk w g t #[a, b, c, d, e]) : (w.cell? ⟨g, 0, none⟩ = some a ∧ w.cell? ⟨g, 1, none⟩ = some b ∧ w.cell? ⟨g, 2, none⟩ = some c ∧ w.cell? ⟨g, 3, none⟩ = some d ∧ w.cell? ⟨g, 4, none⟩ = some e) ∧
    w.frozen? ⟨g, 0, none⟩ = false ∧ w.frozen? ⟨g, 1, none⟩ = false ∧ w.frozen? ⟨g, 2, none⟩ = false ∧ w.frozen? ⟨g, 3, none⟩ = false ∧ w.frozen? ⟨g, 4, none⟩ = false :=
  ⟨⟨h.cell 0, h.cell 1, h.cell 2, h.cell 3, h.cell 4⟩, h.frozen 0, h.frozen 1, h.frozen 2, h.frozen 3, h.frozen 4⟩

theorem Bk.eq {w : World} {g : Nat} {t : TypeId} {cs cs' : Array Value} (h : Bk w g t cs) (e : cs = cs') : Bk w g t cs' := e ▸ h

/-! ### what a set of accounts can have too much -/
structure Grp where
  least : Int
  most : Int
  ground : Bool
  rest : Bool
def Grp.v (g : Grp) (p : Nat) : Value := .agg #[.func (.func 55) #[] #[.pointer (some ⟨p, 0, none⟩)], .int .i64 g.least, .int .i64 g.most, .bool g.ground, .bool g.rest]
def grpA (l : List Acc) (i : Nat) : Nat → Grp
  | 0 => ⟨0, 0, true, true⟩
  | k + 1 => if i.testBit k then ⟨(grpA l i k).least + ((ga l k).op.lo - (ga l k).cl.hi), (grpA l i k).most + ((ga l k).op.hi - (ga l k).cl.lo), (grpA l i k).ground && ((ga l k).kind == 2), (grpA l i k).rest⟩
    else ⟨(grpA l i k).least, (grpA l i k).most, (grpA l i k).ground, (grpA l i k).rest && ((ga l k).kind == 2)⟩
theorem grpA_yes {l : List Acc} {i k : Nat} (h : i.testBit k = true) : grpA l i (k + 1) = ⟨(grpA l i k).least + ((ga l k).op.lo - (ga l k).cl.hi), (grpA l i k).most + ((ga l k).op.hi - (ga l k).cl.lo), (grpA l i k).ground && ((ga l k).kind == 2), (grpA l i k).rest⟩ := by
  rw [grpA, if_pos h]
theorem grpA_no {l : List Acc} {i k : Nat} (h : i.testBit k = false) : grpA l i (k + 1) = ⟨(grpA l i k).least, (grpA l i k).most, (grpA l i k).ground, (grpA l i k).rest && ((ga l k).kind == 2)⟩ := by
  rw [grpA, if_neg (by rw [h]; simp)]
def bitOf (i : Nat) (z : Int) : Bool := i.testBit z.toNat
def grpM (l : List Mv) (i : Nat) (g : Grp) : Nat → Grp
  | 0 => g
  | j + 1 => if (bitOf i (gm l j).to && !bitOf i (gm l j).fr) = true then { grpM l i g j with least := (grpM l i g j).least + (gm l j).li.lo, most := (grpM l i g j).most + (gm l j).li.hi }
    else if (bitOf i (gm l j).fr && !bitOf i (gm l j).to) = true then { grpM l i g j with least := (grpM l i g j).least - (gm l j).li.hi, most := (grpM l i g j).most - (gm l j).li.lo }
    else grpM l i g j
def grp (b : Bok) (i : Nat) : Grp := grpM b.mvs i (grpA b.accs i b.accs.length) b.mvs.length
/-- A book that may be gone through. -/
structure BokOk (b : Bok) : Prop where
  n0 : 0 < b.accs.length
  n8 : b.accs.length ≤ 8
  m30 : b.mvs.length ≤ 31
  acc : ∀ i, i < b.accs.length → AccOk (ga b.accs i)
  mv : ∀ i, i < b.mvs.length → MvOk b.accs.length (gm b.mvs i)
theorem grpA_bd {l : List Acc} {i : Nat} : ∀ k, k ≤ l.length → (∀ j, j < l.length → AccOk (ga l j)) → (-(1000000000 * k) ≤ (grpA l i k).least ∧ (grpA l i k).least ≤ 1000000000 * k) ∧ -(1000000000 * k) ≤ (grpA l i k).most ∧ (grpA l i k).most ≤ 1000000000 * k := by
  intro k
  induction k with
  | zero => intro _ _; simp [grpA]
  | succ k ih =>
    intro hk h
    have h1 := ih (by omega) h
    have h2 := (h k (by omega)).op
    have h3 := (h k (by omega)).cl
    unfold grpA
    split
    · simp only
      omega
    · simp only
      omega
theorem grpM_bd {l : List Mv} {i n : Nat} {g : Grp} (hg : (-8000000000 ≤ g.least ∧ g.least ≤ 8000000000) ∧ -8000000000 ≤ g.most ∧ g.most ≤ 8000000000) : ∀ k, k ≤ l.length → (∀ j, j < l.length → MvOk n (gm l j)) →
    (-(8000000000 + 1000000000 * k) ≤ (grpM l i g k).least ∧ (grpM l i g k).least ≤ 8000000000 + 1000000000 * k) ∧ -(8000000000 + 1000000000 * k) ≤ (grpM l i g k).most ∧ (grpM l i g k).most ≤ 8000000000 + 1000000000 * k := by
  intro k
  induction k with
  | zero => intro _ _; simpa [grpM] using hg
  | succ k ih =>
    intro hk h
    have h1 := ih (by omega) h
    have h2 := (h k (by omega)).li
    unfold grpM
    split
    · simp only
      omega
    · split
      · simp only
        omega
      · omega
theorem grp_bd {b : Bok} (h : BokOk b) (i : Nat) : (-40000000000 ≤ (grp b i).least ∧ (grp b i).least ≤ 40000000000) ∧ -40000000000 ≤ (grp b i).most ∧ (grp b i).most ≤ 40000000000 := by
  have h1 := grpA_bd (i := i) b.accs.length (Nat.le_refl _) h.acc
  have h8 := h.n8
  have h30 := h.m30
  have h2 := grpM_bd (i := i) (g := grpA b.accs i b.accs.length) (by omega) b.mvs.length (Nat.le_refl _) h.mv
  unfold grp
  omega
/-- What the iterator reads: the box of the book, and the book. -/
def HoldB (bx l1 h1 l2 h2 : Nat) (va vm : Value) (b : Bok) (A : World) : Prop := Bk A bx 38 #[va, vm] ∧ Accs l1 h1 A va b.accs ∧ Mvs l2 h2 A vm b.mvs
theorem HoldB.gb {bx l1 h1 l2 h2 : Nat} {va vm : Value} {b : Bok} {A B : World} (h : HoldB bx l1 h1 l2 h2 va vm b A) (hg : A.grownBy B none) : HoldB bx l1 h1 l2 h2 va vm b B :=
  ⟨h.1.gb hg (by simp), h.2.1.gb hg (by simp), h.2.2.gb hg (by simp)⟩

set_option maxHeartbeats 4000000 in
theorem groups_seq (bx l1 h1 l2 h2 : Nat) (va vm : Value) (b : Bok) (hb : BokOk b) :
    SeqG Tryd.prog 54 #[.pointer (some ⟨bx, 0, none⟩)] (2 ^ b.accs.length) (fun i p => (grp b i).v p) 3 (HoldB bx l1 h1 l2 h2 va vm b) := by
  intro l s₀ J Jx W hS0 hJ hH hY h0
  have hn0 := hb.n0
  have hn8 := hb.n8
  have hm30 := hb.m30
  have hp1 : 1 ≤ 2 ^ b.accs.length := Nat.one_le_two_pow
  have hp2 : 2 ^ b.accs.length ≤ 256 := Nat.pow_le_pow_right (n := 2) (by omega) hn8
  obtain ⟨accs, mvs⟩ := b
  simp only at *
  obtain ⟨hbk, hac, hmv⟩ := hH _ _ h0
  simp only at hac hmv
  obtain ⟨x, ox, c, rfl, _, hxh, HA⟩ := Accs.at hac hn0
  obtain ⟨a', c', rfl⟩ := hmv.any
  have q1 := hbk.c2
  have HS0 := Lib.hid hS0
  have HJ := Lib.hid hJ
  have HH := Lib.hid hH
  have HY := Lib.hid hY
  have H0 := Lib.hid h0
  clear hJ hH hY h0 hac hmv HA hS0
  obtain ⟨N, hN⟩ : ∃ N, 2 ^ accs.length = N := ⟨_, rfl⟩
  have hw : wrap64 (2 ^ accs.length) = (N : Int) := by
    have h : ((2 : Int) ^ accs.length) = (N : Int) := by rw [← hN]; norm_cast
    rw [h]
    unfold wrap64
    omega
  rw [hN] at hp1 hp2
  have HN := Lib.hid hN
  clear hN
  go_enter Tryd.func54, Tryd.ntmps54
  go_wp2_with fail
  rw [hw]
  clear hw
  go_loopw [15] (fun v wr => ∃ i : Nat, i ≤ N ∧ v = .int .i64 i ∧ J i wr) (fun v _ => N - (intOf v).toNat)
  case atStart => exact ⟨0, Nat.zero_le _, rfl, H0.out⟩
  case round =>
    clear q1 hbk H0
    obtain ⟨i, hi, rfl, hJi⟩ := hrel
    obtain ⟨A, rfl⟩ : ∃ A, A = wr := ⟨_, rfl⟩
    have HJi := Lib.hid hJi
    obtain ⟨hbk, hac, hmv⟩ := HH.out i A hJi
    have q1 := hbk.c2
    have HB := Lib.hid (And.intro hac hmv)
    have HBK := Lib.hid hbk
    have hbl := hbk.lt
    clear hac hmv hJi
    by_cases hlt : i < N
    · skip
      obtain ⟨A1, hA1⟩ : ∃ A1, ((A.alloc (.cells #[.int .i64 i] 3)).alloc (.cells #[.func (.func 55) #[] #[.pointer (some ⟨A.heap.size, 0, none⟩)], .int .i64 0, .int .i64 0, .bool true, .bool true] 72)) = A1 := ⟨_, rfl⟩
      have hC1 : Bk A1 A.heap.size 3 #[.int .i64 i] := by rw [← hA1]; exact ((Bk.new A 3 #[.int .i64 i]).alloc (.cells #[.func (.func 55) #[] #[.pointer (some ⟨A.heap.size, 0, none⟩)], .int .i64 0, .int .i64 0, .bool true, .bool true] 72))
      have hC2 : Bk A1 (A.heap.size + 1) 72 #[.func (.func 55) #[] #[.pointer (some ⟨A.heap.size, 0, none⟩)], .int .i64 0, .int .i64 0, .bool true, .bool true] := by
        have hx_ := (Bk.new (A.alloc (.cells #[.int .i64 i] 3)) 72 #[.func (.func 55) #[] #[.pointer (some ⟨A.heap.size, 0, none⟩)], .int .i64 0, .int .i64 0, .bool true, .bool true])
        rw [← hA1]
        simpa using hx_
      have hgA1 : A.grownBy A1 none := hA1 ▸ gb_alloc (gb_alloc (gb_refl _ _) _) _
      have HA1 := Lib.hid hA1
      clear hA1
      go_wp2_with fail
      rw [HA1.out]
      have hJ1 : J i A1 := HJ.out i A A1 HJi.out hgA1
      have hgr1 := Lib.hid hgA1
      clear HA1 hgA1 hbk q1
      go_loopw [23] (fun v wr => ∃ k : Nat, k ≤ accs.length ∧ v = .int .i64 k ∧ Bk wr A.heap.size 3 #[.int .i64 i] ∧ Bk wr (A.heap.size + 1) 72 #[.func (.func 55) #[] #[.pointer (some ⟨A.heap.size, 0, none⟩)], .int .i64 (grpA accs i k).least, .int .i64 (grpA accs i k).most, .bool (grpA accs i k).ground, .bool (grpA accs i k).rest] ∧ A.grownBy wr none) (fun v _ => accs.length - (intOf v).toNat)
      case atStart => exact ⟨0, Nat.zero_le _, rfl, hC1, hC2, hgr1.out⟩
      case round =>
        clear hC1 hC2 hgr1 hJ1
        obtain ⟨k, hk, rfl, hC1, hC2, hg⟩ := hrel
        by_cases hlk : k < accs.length
        · have g0 := Accs.cell (Sl.gb HB.out.1 hg (by simp)) hlk
          have hok := hb.acc k hlk
          simp only at hok
          generalize hac : ga accs k = ac at g0 hok
          have HAC := Lib.hid hac
          obtain ⟨g1, g2, g3, g4, g5, g6⟩ := g0
          have hbd := grpA_bd (l := accs) (i := i) k hk hb.acc
          generalize hgg : grpA accs i k = G at *
          have HGG := Lib.hid hgg
          obtain ⟨ok1, ok2, ok3⟩ := hok.op
          obtain ⟨ok4, ok5, ok6⟩ := hok.cl
          clear hok hac hgg
          have q2 := hC2.c5
          have hgl := hC2.lt
          have HC1 := Lib.hid hC1
          have HC2 := Lib.hid hC2
          have Hg := Lib.hid hg
          have hCC1 := Lib.hid (hC1.alloc (.cells #[.string ac.name, .int .i64 ac.kind, .int .i64 ac.op.lo, .int .i64 ac.op.hi, .int .i64 ac.cl.lo, .int .i64 ac.cl.hi] 41))
          have hgl1 := hC1.lt
          clear hC1 hC2 hg
          cases hbit : i.testBit k with
          | true =>
            have hs1 : IntKind.i64.wrap (ac.op.lo - ac.cl.hi) = ac.op.lo - ac.cl.hi := IntWalk.i64_in _ (by omega)
            have hs2 : IntKind.i64.wrap (ac.op.hi - ac.cl.lo) = ac.op.hi - ac.cl.lo := IntWalk.i64_in _ (by omega)
            have hs3 : IntKind.i64.wrap (G.least + (ac.op.lo - ac.cl.hi)) = G.least + (ac.op.lo - ac.cl.hi) := IntWalk.i64_in _ (by omega)
            have hs4 : IntKind.i64.wrap (G.most + (ac.op.hi - ac.cl.lo)) = G.most + (ac.op.hi - ac.cl.lo) := IntWalk.i64_in _ (by omega)
            have HSt : Hid (grpA accs i (k + 1) = ⟨G.least + (ac.op.lo - ac.cl.hi), G.most + (ac.op.hi - ac.cl.lo), G.ground && (ac.kind == 2), G.rest⟩) := by
              refine Lib.hid ?_
              rw [grpA_yes hbit, HGG.out, HAC.out]
            cases hgd : G.ground with
            | true =>
              rw [hgd] at q2
              go_wp2_with (go_at_call 55; refine (has_c i k _ _ true (by omega) (by omega) hCC1.out hbit).mono ?_; rintro e w' ⟨rfl, rfl⟩)
              go_roundw
              case rel =>
                refine ⟨k + 1, by omega, by go_num, ?_, ?_, ?_⟩
                · exact (((HC1.out.far (by simp) _).far (by simp) _).far (by simp) _).alloc _
                · refine (Bk.alloc (Bk.eq (((HC2.out.set 1 _).set 2 _).set 3 _) ?_) _)
                  rw [HSt.out, hgd]
                  simp
                · exact gb_alloc (gb_setCell (gb_setCell (gb_setCell Hg.out (.inr (by simp)) _) (.inr (by simp)) _) (.inr (by simp)) _) _
              case measure => simp [intOf]; omega
            | false =>
              rw [hgd] at q2
              go_wp2_with (go_at_call 55; refine (has_c i k _ _ true (by omega) (by omega) hCC1.out hbit).mono ?_; rintro e w' ⟨rfl, rfl⟩)
              go_roundw
              case rel =>
                refine ⟨k + 1, by omega, by go_num, ?_, ?_, ?_⟩
                · exact (((HC1.out.far (by simp) _).far (by simp) _).far (by simp) _).alloc _
                · refine (Bk.alloc (Bk.eq (((HC2.out.set 1 _).set 2 _).set 3 _) ?_) _)
                  rw [HSt.out, hgd]
                  simp
                · exact gb_alloc (gb_setCell (gb_setCell (gb_setCell Hg.out (.inr (by simp)) _) (.inr (by simp)) _) (.inr (by simp)) _) _
              case measure => simp [intOf]; omega
          | false =>
            have HSt : Hid (grpA accs i (k + 1) = ⟨G.least, G.most, G.ground, G.rest && (ac.kind == 2)⟩) := by
              refine Lib.hid ?_
              rw [grpA_no hbit, HGG.out, HAC.out]
            cases hgd : G.rest with
            | true =>
              rw [hgd] at q2
              go_wp2_with (go_at_call 55; refine (has_c i k _ _ false (by omega) (by omega) hCC1.out hbit).mono ?_; rintro e w' ⟨rfl, rfl⟩)
              go_roundw
              case rel =>
                refine ⟨k + 1, by omega, by go_num, ?_, ?_, ?_⟩
                · exact (HC1.out.far (by simp) _).alloc _
                · refine (Bk.alloc (Bk.eq (HC2.out.set 4 _) ?_) _)
                  rw [HSt.out, hgd]
                  simp
                · exact gb_alloc (gb_setCell Hg.out (.inr (by simp)) _) _
              case measure => simp [intOf]; omega
            | false =>
              rw [hgd] at q2
              go_wp2_with (go_at_call 55; refine (has_c i k _ _ false (by omega) (by omega) hCC1.out hbit).mono ?_; rintro e w' ⟨rfl, rfl⟩)
              go_roundw
              case rel =>
                refine ⟨k + 1, by omega, by go_num, ?_, ?_, ?_⟩
                · exact (HC1.out.far (by simp) _).alloc _
                · refine (Bk.alloc (Bk.eq (HC2.out.set 4 _) ?_) _)
                  rw [HSt.out, hgd]
                  simp
                · exact gb_alloc (gb_setCell Hg.out (.inr (by simp)) _) _
              case measure => simp [intOf]; omega
        · obtain rfl : k = accs.length := by omega
          have hG := grpA_bd (l := accs) (i := i) accs.length (Nat.le_refl _) hb.acc
          have HF : Hid (grp ⟨accs, mvs⟩ i = grpM mvs i (grpA accs i accs.length) mvs.length) := Lib.hid rfl
          generalize grpA accs i accs.length = G at *
          have q1 := (HBK.out.gb hg (by simp)).c2
          go_wp2_with fail
          go_loopw [74] (fun v wr => ∃ j : Nat, j ≤ mvs.length ∧ v = .int .i64 j ∧ Bk wr A.heap.size 3 #[.int .i64 i] ∧ Bk wr (A.heap.size + 1) 72 #[.func (.func 55) #[] #[.pointer (some ⟨A.heap.size, 0, none⟩)], .int .i64 (grpM mvs i G j).least, .int .i64 (grpM mvs i G j).most, .bool (grpM mvs i G j).ground, .bool (grpM mvs i G j).rest] ∧ A.grownBy wr none) (fun v _ => mvs.length - (intOf v).toNat)
          case atStart => exact ⟨0, Nat.zero_le _, rfl, hC1, hC2, hg⟩
          case round =>
            clear hC1 hC2 hg q1 hlk
            obtain ⟨j, hj, rfl, hC1, hC2, hg⟩ := hrel
            by_cases hlk : j < mvs.length
            · obtain ⟨y, oy, cy, ey, _, _, HMC⟩ := Mvs.at (Sl.gb HB.out.2 hg (by simp)) (by omega)
              injection ey with ey1 _ ey2
              subst ey1 ey2
              have g0 := HMC j hlk
              have hok := hb.mv j hlk
              simp only at hok
              have hbd := grpM_bd (l := mvs) (i := i) (n := accs.length) (g := G) (by omega) j hj hb.mv
              generalize hmc : gm mvs j = mc at g0 hok
              have HMC' := Lib.hid hmc
              generalize hgg : grpM mvs i G j = K at *
              have HGG := Lib.hid hgg
              obtain ⟨mfr, mto, mlo, mhi⟩ := mc
              obtain ⟨g1, g2, g3, g4⟩ := g0
              obtain ⟨ok1, ok2, ok3, ok4⟩ := hok
              simp only at g1 g2 g3 g4 ok1 ok2 ok3 ok4
              obtain ⟨kf, rfl⟩ : ∃ kf : Nat, mfr = kf := ⟨mfr.toNat, by omega⟩
              obtain ⟨kt, rfl⟩ : ∃ kt : Nat, mto = kt := ⟨mto.toNat, by omega⟩
              clear hmc hgg HMC
              have q2 := hC2.c5
              have hgl := hC2.lt
              have hgl1 := hC1.lt
              have HC1 := Lib.hid hC1
              have HC2 := Lib.hid hC2
              have Hg := Lib.hid hg
              have hCC1 := Lib.hid (hC1.alloc (.cells #[.int .i64 kf, .int .i64 kt, .int .i64 mlo, .int .i64 mhi] 43))
              clear hC1 hC2 hg
              go_wp2_with fail
              have hs0 := alc (.cells #[.int .i64 kf, .int .i64 kt, .int .i64 mlo, .int .i64 mhi] 43) q2.1.1
              have hs1 := (Bk.new wr 43 #[.int .i64 kf, .int .i64 kt, .int .i64 mlo, .int .i64 mhi]).cell 0
              have hs2 := (Bk.new wr 43 #[.int .i64 kf, .int .i64 kt, .int .i64 mlo, .int .i64 mhi]).cell 1
              simp only [List.getElem?_toArray, List.getElem?_cons_zero, List.getElem?_cons_succ] at hs1 hs2
              refine ru_begin (fun W => W.cell? ⟨A.heap.size + 1, 0, none⟩ = some (.func (.func 55) #[] #[.pointer (some ⟨A.heap.size, 0, none⟩)]) ∧ W.cell? ⟨wr.heap.size, 0, none⟩ = some (.int .i64 kf) ∧ W.cell? ⟨wr.heap.size, 1, none⟩ = some (.int .i64 kt)) 9 (by kernel_rfl) ⟨hs0, hs1, hs2⟩ ?_
              have hHeld : (fun W : World => W.cell? ⟨A.heap.size + 1, 0, none⟩ = some (.func (.func 55) #[] #[.pointer (some ⟨A.heap.size, 0, none⟩)]) ∧ W.cell? ⟨wr.heap.size, 0, none⟩ = some (.int .i64 kf) ∧ W.cell? ⟨wr.heap.size, 1, none⟩ = some (.int .i64 kt)) (wr.alloc (.cells #[.int .i64 kf, .int .i64 kt, .int .i64 mlo, .int .i64 mhi] 43)).drew := ⟨hs0, hs1, hs2⟩
              refine ru_t 0 [4, 1] ?_
              refine ru_t 1 [4] ?_
              refine ru_t 2 [4, 3] ?_
              refine ru_t 3 [4] ?_
              refine ru_t 5 [6] ?_
              refine ru_t 6 [] ?_
              refine ru_t 7 [8] ?_
              refine ru_t 8 [] ?_
              (try simp only [Act.put, List.setIfInBounds_toArray, List.set_cons_zero, List.set_cons_succ])
              refine ru_one 4 rfl (by kernel_rfl) (fun K hK => ?_)
              go_simp
              refine (has_c i kf A.heap.size _ _ (by omega) (by omega) hCC1.out.drew rfl).mono ?_
              rintro e w' ⟨rfl, rfl⟩
              refine ru_back hK (by exact ⟨hs0, hs1, hs2⟩) (fun hHeld => ?_)
              clear hK K
              (try simp only [Act.put, List.setIfInBounds_toArray, List.set_cons_zero, List.set_cons_succ])
              refine ru_one 9 rfl (by kernel_rfl) (fun K hK => ?_)
              go_simp
              refine (has_c i kt A.heap.size _ _ (by omega) (by omega) hCC1.out.drew rfl).mono ?_
              rintro e w' ⟨rfl, rfl⟩
              refine ru_back_late hK (by kernel_rfl) ?_
              clear hK K
              (try simp only [Act.put, List.setIfInBounds_toArray, List.set_cons_zero, List.set_cons_succ])
              refine ru_one 10 rfl (by kernel_rfl) (fun K hK => ?_)
              go_simp
              refine ru_back_late hK (by kernel_rfl) ?_
              clear hK K
              (try simp only [Act.put, List.setIfInBounds_toArray, List.set_cons_zero, List.set_cons_succ])
              refine ru_one 11 rfl (by kernel_rfl) (fun K hK => ?_)
              go_simp
              refine ru_back_late hK (by kernel_rfl) ?_
              clear hK K
              (try simp only [Act.put, List.setIfInBounds_toArray, List.set_cons_zero, List.set_cons_succ])
              refine ru_done (by kernel_rfl) ?_
              clear hs0 hs1 hs2 hHeld
              have a1 : IntKind.i64.wrap (K.least + mlo) = K.least + mlo := IntWalk.i64_in _ (by omega)
              have a2 : IntKind.i64.wrap (K.most + mhi) = K.most + mhi := IntWalk.i64_in _ (by omega)
              have a3 : IntKind.i64.wrap (K.least - mhi) = K.least - mhi := IntWalk.i64_in _ (by omega)
              have a4 : IntKind.i64.wrap (K.most - mlo) = K.most - mlo := IntWalk.i64_in _ (by omega)
              have HSt : Hid (grpM mvs i G (j + 1) = if (i.testBit kt && !i.testBit kf) = true then { K with least := K.least + mlo, most := K.most + mhi } else if (i.testBit kf && !i.testBit kt) = true then { K with least := K.least - mhi, most := K.most - mlo } else K) := by
                refine Lib.hid ?_
                unfold grpM
                rw [HGG.out, HMC'.out]
                rfl
              cases hbt : i.testBit kt with
              | true =>
                cases hbf : i.testBit kf with
                | true =>
                  go_wp2_with fail
                  go_roundw
                  case rel =>
                    refine ⟨j + 1, by omega, by go_num, HC1.out.alloc _, ?_, gb_drew (gb_alloc Hg.out _)⟩
                    rw [HSt.out, hbt, hbf]
                    exact HC2.out.alloc _
                  case measure => simp [intOf]; omega
                | false =>
                  go_wp2_with fail
                  go_roundw
                  case rel =>
                    refine ⟨j + 1, by omega, by go_num, (((HC1.out.far (by simp) _).far (by simp) _).alloc _).drew, ?_, gb_drew (gb_alloc (gb_setCell (gb_setCell Hg.out (.inr (by simp)) _) (.inr (by simp)) _) _)⟩
                    rw [HSt.out, hbt, hbf]
                    refine Bk.drew (Bk.alloc (Bk.eq ((HC2.out.set 1 _).set 2 _) ?_) _)
                    simp
                  case measure => simp [intOf]; omega
              | false =>
                cases hbf : i.testBit kf with
                | true =>
                  go_wp2_with fail
                  go_roundw
                  case rel =>
                    refine ⟨j + 1, by omega, by go_num, (((HC1.out.far (by simp) _).far (by simp) _).alloc _).drew, ?_, gb_drew (gb_alloc (gb_setCell (gb_setCell Hg.out (.inr (by simp)) _) (.inr (by simp)) _) _)⟩
                    rw [HSt.out, hbt, hbf]
                    refine Bk.drew (Bk.alloc (Bk.eq ((HC2.out.set 1 _).set 2 _) ?_) _)
                    simp
                  case measure => simp [intOf]; omega
                | false =>
                  go_wp2_with fail
                  go_roundw
                  case rel =>
                    refine ⟨j + 1, by omega, by go_num, HC1.out.alloc _, ?_, gb_drew (gb_alloc Hg.out _)⟩
                    rw [HSt.out, hbt, hbf]
                    exact HC2.out.alloc _
                  case measure => simp [intOf]; omega
            · have q2 := hC2.c5
              have hJw := HJ.out i A wr HJi.out hg
              obtain ⟨fn, tmps, assign, body, hy, hR⟩ := HY.out i A.heap.size wr hJw (by rw [HN.out]; exact hlt) (HS0.out i A HJi.out) hC1
              have hv : (grp ⟨accs, mvs⟩ i).v A.heap.size = .agg #[.func (.func 55) #[] #[.pointer (some ⟨A.heap.size, 0, none⟩)], .int .i64 (grpM mvs i G j).least, .int .i64 (grpM mvs i G j).most, .bool (grpM mvs i G j).ground, .bool (grpM mvs i G j).rest] := by
                rw [HF.out, show mvs.length = j by omega]; rfl
              simp only [hv] at hy
              clear hv hJw
              have Hy := Lib.hid hy
              clear hy
              refine wpIn_wide (n := 0).1 ?_
              gi_wp2
              refine wpIn_wide (n := 0).1 ?_
              have hy := Hy.out
              gi_wp2
              refine ⟨rfl, hR.mono ?_⟩
              clear hy Hy hR
              rintro e B (⟨rfl, hJB⟩ | ⟨rfl, hJx⟩)
              · gi_wp2
                go_wp2_with fail
                go_roundw
                case rel => exact ⟨i + 1, by omega, by go_num, hJB⟩
                case measure => simp [intOf]; omega
              · gi_wp2
                go_wp2_with fail
                refine bodyPost_ret (results_none rfl _ _ _) rfl ?_
                exact ⟨⟨_, rfl⟩, .inr ⟨i + 1, by rw [HN.out]; omega, hJx⟩⟩
    · go_wp2_with fail
      go_end0
      exact ⟨⟨_, rfl⟩, .inl (by rw [HN.out, show N = i by omega]; exact HJi.out)⟩
end Go.Proofs.YtcndphefomigeaaDoor
