/- fuel.losses: what the accounts of a valid book lose. -/
import Derived.Test.YtcndphefomigeaaDoorPCheck
import Derived.Test.YtcndphefomigeaaDoorPMarks
import Derived.Lib.MinMax
set_option linter.unusedVariables false
set_option linter.unusedSimpArgs false
set_option linter.unnecessarySimpa false
namespace Go.Proofs.YtcndphefomigeaaDoor
open Go.RowKit Go.Shelf
set_option maxRecDepth 100000
attribute [local go_sem] run_store_func Oper.semAt_some

def totF (b : Bok) : Nat → Sp
  | 0 => ⟨0, 1125899906842624⟩
  | i + 1 => ⟨max (totF b i).lo (grp b i).least, if (grp b i).rest = true then min (totF b i).hi (grp b i).most else (totF b i).hi⟩
/-- All accounts of set i, but account a and those before number k, are ground. -/
def othF (b : Bok) (a i : Nat) : Nat → Bool
  | 0 => true
  | k + 1 => othF b a i k && (k == a || !i.testBit k || (ga b.accs k).kind == 2)
def accF (b : Bok) (a : Nat) : Nat → Sp
  | 0 => ⟨0, 1125899906842624⟩
  | i + 1 => if i.testBit a = true then ⟨if othF b a i b.accs.length = true then max (accF b a i).lo (grp b i).least else (accF b a i).lo, min (accF b a i).hi (grp b i).most⟩ else accF b a i
def lossA (b : Bok) (a : Nat) : Sp := if (ga b.accs a).kind = 2 then ⟨0, 0⟩ else accF b a (2 ^ b.accs.length)
def lossL (b : Bok) : List Sp := (List.range b.accs.length).map (lossA b)
def lossT (b : Bok) : Sp := totF b (2 ^ b.accs.length)

/-- What losses hands back. -/
def lossPost (b : Bok) (w : World) (e : Ending) (w' : World) : Prop :=
  ∃ v, e = .returned (.tuple #[v, (lossT b).v]) ∧ Own spEnc 23 2 w.heap.size w' v (lossL b) ∧ w.grownBy w' none

set_option maxHeartbeats 4000000 in
theorem losses_c (l1 h1 l2 h2 : Nat) (va vm : Value) (b : Bok) (w : World) (ha : Accs l1 h1 w va b.accs) (hm : Mvs l2 h2 w vm b.mvs) (hok : BokOk b) (b1 : h1 ≤ w.heap.size) (b2 : h2 ≤ w.heap.size) :
    Calls Tryd.prog 52 #[.agg #[va, vm]] w (lossPost b w) := by
  obtain ⟨x, ox, c, eva, _, _, _⟩ := Accs.at ha hok.n0
  obtain ⟨a', c', evm⟩ := hm.any
  have hvA : ∃ a n c, va = .slice a n c := ⟨_, _, _, eva⟩
  have hvM : ∃ a n c, vm = .slice a n c := ⟨_, _, _, evm⟩
  subst eva evm
  have HD := Lib.hid (And.intro ha hm)
  have HV := Lib.hid (And.intro hvA hvM)
  clear ha hm hvA hvM
  obtain ⟨W0, hW0⟩ : ∃ W0, (((w.alloc (.cells #[.slice (some ⟨x, ox, none⟩) b.accs.length c, .slice a' b.mvs.length c'] 38)).alloc (.cells #[.int .i64 0, .int .i64 1125899906842624] 23)).alloc (.cells #[.slice (some ⟨x, ox, none⟩) b.accs.length c, .slice a' b.mvs.length c'] 38)) = W0 := ⟨_, rfl⟩
  have hB1 : Bk W0 w.heap.size 38 #[.slice (some ⟨x, ox, none⟩) b.accs.length c, .slice a' b.mvs.length c'] := by rw [← hW0]; exact (((Bk.new w 38 #[.slice (some ⟨x, ox, none⟩) b.accs.length c, .slice a' b.mvs.length c']).alloc (.cells #[.int .i64 0, .int .i64 1125899906842624] 23)).alloc (.cells #[.slice (some ⟨x, ox, none⟩) b.accs.length c, .slice a' b.mvs.length c'] 38))
  have hB2 : Bk W0 (w.heap.size + 1) 23 #[.int .i64 0, .int .i64 1125899906842624] := by
    have hx_ := ((Bk.new (w.alloc (.cells #[.slice (some ⟨x, ox, none⟩) b.accs.length c, .slice a' b.mvs.length c'] 38)) 23 #[.int .i64 0, .int .i64 1125899906842624]).alloc (.cells #[.slice (some ⟨x, ox, none⟩) b.accs.length c, .slice a' b.mvs.length c'] 38))
    rw [← hW0]
    simpa using hx_
  have hB3 : Bk W0 (w.heap.size + 2) 38 #[.slice (some ⟨x, ox, none⟩) b.accs.length c, .slice a' b.mvs.length c'] := by
    have hx_ := (Bk.new ((w.alloc (.cells #[.slice (some ⟨x, ox, none⟩) b.accs.length c, .slice a' b.mvs.length c'] 38)).alloc (.cells #[.int .i64 0, .int .i64 1125899906842624] 23)) 38 #[.slice (some ⟨x, ox, none⟩) b.accs.length c, .slice a' b.mvs.length c'])
    rw [← hW0]
    simpa using hx_
  have hgW0 : w.grownBy W0 none := hW0 ▸ gb_alloc (gb_alloc (gb_alloc (gb_refl _ _) _) _) _
  have HW0 := Lib.hid hW0
  clear hW0
  refine callsIn_wide.1 (callsIn_of_wp_marks (n := 0) Tryd.func52 rfl trivial ?_ rfl)
  simp only [Tryd.ntmps52, List.size_toArray, List.length_cons, List.length_nil, Nat.reduceAdd, Nat.reduceSub, Array.replicate_succ, Array.replicate_zero, List.push_toArray, List.append_toArray, List.nil_append, List.cons_append]
  refine wpIn_wide.2 ?_
  go_wp2_with (go_at_call 28; refine (groups_c _ _ _ HV.out.1 HV.out.2).mono ?_; rintro e w' ⟨rfl, rfl⟩)
  rw [HW0.out]
  have hs0 : W0.heap.size = w.heap.size + 3 := by rw [← HW0.out]; simp
  clear HW0
  have ownI : ∀ i W W' row, (HoldB (w.heap.size + 1 + 1) l1 h1 l2 h2 (.slice (some ⟨x, ox, none⟩) b.accs.length c) (.slice a' b.mvs.length c') b W ∧ Bk W w.heap.size 38 #[.slice (some ⟨x, ox, none⟩) b.accs.length c, .slice a' b.mvs.length c'] ∧ Bk W (w.heap.size + 1) 23 #[.int .i64 (totF b i).lo, .int .i64 (totF b i).hi] ∧ w.grownBy W none) →
      W.grownBy W' row → (∀ k, k < w.heap.size + 3 → some k ≠ row) → (HoldB (w.heap.size + 1 + 1) l1 h1 l2 h2 (.slice (some ⟨x, ox, none⟩) b.accs.length c) (.slice a' b.mvs.length c') b W' ∧ Bk W' w.heap.size 38 #[.slice (some ⟨x, ox, none⟩) b.accs.length c, .slice a' b.mvs.length c'] ∧ Bk W' (w.heap.size + 1) 23 #[.int .i64 (totF b i).lo, .int .i64 (totF b i).hi] ∧ w.grownBy W' none) :=
    fun i W W' row h hg hk => ⟨HoldB.row h.1 hg (hk _ (by omega)) (fun k hk' => hk k (by omega)) (fun k hk' => hk k (by omega)), h.2.1.gb hg (hk _ (by omega)), h.2.2.1.gb hg (hk _ (by omega)), gb_trans' h.2.2.2 hg (fun g e => .inr (Nat.le_of_not_lt fun h5 => hk g (by omega) e.symm))⟩
  refine wp_rangeG (gf := 54) (lb := #[.pointer (some ⟨w.heap.size + 1 + 1, 0, none⟩)]) rfl (enters_of Tryd.func54 (by kernel_rfl) rfl) rfl (groups_seq (w.heap.size + 1 + 1) l1 h1 l2 h2 _ _ b hok)
    (fun i W => HoldB (w.heap.size + 1 + 1) l1 h1 l2 h2 (.slice (some ⟨x, ox, none⟩) b.accs.length c) (.slice a' b.mvs.length c') b W ∧ Bk W w.heap.size 38 #[.slice (some ⟨x, ox, none⟩) b.accs.length c, .slice a' b.mvs.length c'] ∧ Bk W (w.heap.size + 1) 23 #[.int .i64 (totF b i).lo, .int .i64 (totF b i).hi] ∧ w.grownBy W none)
    (fun _ _ _ => False)
    ?hI (fun _ _ _ _ _ h => h.elim) (fun i A h => h.1) ?h0 ?round ?done (fun _ _ _ _ h => h.elim)
  case hI => exact ownFrom_of (fun i W W' row h hg hk => ownI i W W' row h hg (fun k hk' => hk k (by omega)))
  case h0 => exact ⟨⟨hB3, HD.out.1.gb hgW0 (by simp), HD.out.2.gb hgW0 (by simp)⟩, hB1, hB2, hgW0⟩
  case round =>
    rintro l i p W ⟨hh, hb, hr, hg⟩ hi hp hW hbp
    have hrl := hr.lt
    have hr0 := hr
    simp only [Grp.v]
    gi_wp2
    refine ⟨KeepD.of_gb (gb_alloc (gb_refl _ none) _) (by omega) (by simp) (by simp), fun W2 hg2 => ?_⟩
    obtain ⟨hh2, hb2, hr2, hg'⟩ := ownI i _ W2 _ ⟨hh.gb (gb_alloc (gb_refl _ none) (.cells #[.func (.func 55) #[] #[.pointer (some ⟨p, 0, none⟩)], .int .i64 (grp b i).least, .int .i64 (grp b i).most, .bool (grp b i).ground, .bool (grp b i).rest] 72)), hb.alloc _, hr.alloc _, gb_alloc hg _⟩ hg2 (fun k hk e => by cases e; omega)
    have hG2 := (Bk.new W 72 #[.func (.func 55) #[] #[.pointer (some ⟨p, 0, none⟩)], .int .i64 (grp b i).least, .int .i64 (grp b i).most, .bool (grp b i).ground, .bool (grp b i).rest]).gb hg2 (by simp; omega)
    have q2 := hG2.c5
    have qr := hr2.c2
    have hsz := hg2.size
    simp only [World.size_alloc] at hsz
    have HI := Lib.hid (And.intro hh2 (And.intro hb2 (And.intro hr2 hg')))
    clear hh hb hr hg hh2 hb2 hG2 hr2 hg' hg2 hr0
    have HSt : Hid (totF b (i + 1) = ⟨max (totF b i).lo (grp b i).least, if (grp b i).rest = true then min (totF b i).hi (grp b i).most else (totF b i).hi⟩) := Lib.hid rfl
    cases m2 : (grp b i).rest with
    | false =>
      rw [m2] at q2
      gi_wp2
      have hgs := gb_setCell (gb_refl W2 (some (w.heap.size + 1))) (p := ⟨w.heap.size + 1, 0, none⟩) (.inl rfl) (.int .i64 (max (totF b i).lo (grp b i).least))
      refine ⟨KeepD.of_gb hgs (by omega) (by simp; omega) (by simp; omega), HoldB.row HI.out.1 hgs (by simp) (fun k hk e => by cases e; omega) (fun k hk e => by cases e; omega), HI.out.2.1.gb hgs (by simp), ?_, gb_setCell HI.out.2.2.2 (.inr (by simp)) _⟩
      refine Bk.eq (HI.out.2.2.1.set 0 _) ?_
      rw [HSt.out, m2]
      simp
    | true =>
      rw [m2] at q2
      gi_wp2
      have hgs := gb_setCell (gb_setCell (gb_refl W2 (some (w.heap.size + 1))) (p := ⟨w.heap.size + 1, 0, none⟩) (.inl rfl) (.int .i64 (max (totF b i).lo (grp b i).least))) (p := ⟨w.heap.size + 1, 1, none⟩) (.inl rfl) (.int .i64 (min (totF b i).hi (grp b i).most))
      refine ⟨KeepD.of_gb hgs (by omega) (by simp; omega) (by simp; omega), HoldB.row HI.out.1 hgs (by simp) (fun k hk e => by cases e; omega) (fun k hk e => by cases e; omega), HI.out.2.1.gb hgs (by simp), ?_, gb_setCell (gb_setCell HI.out.2.2.2 (.inr (by simp)) _) (.inr (by simp)) _⟩
      refine Bk.eq ((HI.out.2.2.1.set 0 _).set 1 _) ?_
      rw [HSt.out, m2]
      simp
  case done =>
    rintro W ⟨hh, hb, hr, hg⟩ hK
    have qb := hb.c2
    have hW := hr.lt
    have HI := Lib.hid (And.intro hh (And.intro hb (And.intro hr (And.intro hg hK))))
    clear hh hb hr hg hK
    have hn8 := hok.n8
    have hn0 := hok.n0
    have hp2 : 2 ^ b.accs.length ≤ 256 := Nat.pow_le_pow_right (n := 2) (by omega) hn8
    go_wp2_with fail
    refine wp_loopS 98 rfl (fun t ds wr => ∃ (k : Nat) (v : Value), t 1 = .pointer (some ⟨w.heap.size, 0, none⟩) ∧ t 3 = .pointer (some ⟨w.heap.size + 1, 0, none⟩) ∧ t 2 = v ∧ t 31 = .slice (some ⟨x, ox, none⟩) b.accs.length c ∧ t 32 = .int .i64 b.accs.length ∧ t 33 = .int .i64 k ∧ k ≤ b.accs.length ∧ Own spEnc 23 2 W.heap.size wr v ((List.range k).map (lossA b)) ∧ W.grownBy wr none ∧ Marks (w.heap.size + 3) wr ds) (fun t wr => b.accs.length - (intOf (t 33)).toNat) ?atStart1 ?round1
    case round1 =>
      rintro t ds wr ⟨k, v, e1, e3, e2, e31, e32, e33, hrel⟩
      have e : ((List.range 98).map t).toArray = #[t 0, t 1, t 2, t 3, t 4, t 5, t 6, t 7, t 8, t 9, t 10, t 11, t 12, t 13, t 14, t 15, t 16, t 17, t 18, t 19, t 20, t 21, t 22, t 23, t 24, t 25, t 26, t 27, t 28, t 29, t 30, t 31, t 32, t 33, t 34, t 35, t 36, t 37, t 38, t 39, t 40, t 41, t 42, t 43, t 44, t 45, t 46, t 47, t 48, t 49, t 50, t 51, t 52, t 53, t 54, t 55, t 56, t 57, t 58, t 59, t 60, t 61, t 62, t 63, t 64, t 65, t 66, t 67, t 68, t 69, t 70, t 71, t 72, t 73, t 74, t 75, t 76, t 77, t 78, t 79, t 80, t 81, t 82, t 83, t 84, t 85, t 86, t 87, t 88, t 89, t 90, t 91, t 92, t 93, t 94, t 95, t 96, t 97] := rfl
      (try dsimp only at e)
      rw [e1, e3, e2, e31, e32, e33] at e
      rw [e]
      simp only [e3, e33]
      clear e e1 e3 e2 e31 e32 e33
      clear qb
      obtain ⟨hk, hown, hgw, hmk⟩ := hrel
      have hbw := HI.out.2.1.gb hgw (by simp)
      have hrw := HI.out.2.2.1.gb hgw (by simp)
      have hG := gb_trans HI.out.2.2.2.1 hgw
      have hrl := hrw.lt
      have hbl := hbw.lt
      have hbl1 : w.heap.size < wr.heap.size + 1 := by omega
      have hbl2 : w.heap.size < wr.heap.size + 1 + 1 := by omega
      have qb := hbw.c2
      by_cases hlt : k < b.accs.length
      · obtain ⟨g1, g2, g3, g4, g5, g6⟩ := Accs.cell (HD.out.1.gb hG (by simp)) hlt
        have HR := Lib.hid (And.intro hown (And.intro hgw (And.intro hmk (And.intro hbw (And.intro hrw hG)))))
        clear hown hgw hmk hbw hrw hG
        go_wp2_with (go_at_call 28; refine (groups_c _ _ _ HV.out.1 HV.out.2).mono ?_; rintro e w' ⟨rfl, rfl⟩)
        clear g1 g2 g3 g4 g5 g6 qb
        obtain ⟨A0, hA0⟩ : ∃ A0, ((((wr.alloc (.cells #[.int .i64 k] 3)).alloc (.cells #[.string (ga b.accs k).name, .int .i64 (ga b.accs k).kind, .int .i64 (ga b.accs k).op.lo, .int .i64 (ga b.accs k).op.hi, .int .i64 (ga b.accs k).cl.lo, .int .i64 (ga b.accs k).cl.hi] 41)).alloc (.cells #[.int .i64 0, .int .i64 1125899906842624] 23)).alloc (.cells #[.slice (some ⟨x, ox, none⟩) b.accs.length c, .slice a' b.mvs.length c'] 38)) = A0 := ⟨_, rfl⟩
        have hC1 : Bk A0 wr.heap.size 3 #[.int .i64 k] := by rw [← hA0]; exact ((((Bk.new wr 3 #[.int .i64 k]).alloc (.cells #[.string (ga b.accs k).name, .int .i64 (ga b.accs k).kind, .int .i64 (ga b.accs k).op.lo, .int .i64 (ga b.accs k).op.hi, .int .i64 (ga b.accs k).cl.lo, .int .i64 (ga b.accs k).cl.hi] 41)).alloc (.cells #[.int .i64 0, .int .i64 1125899906842624] 23)).alloc (.cells #[.slice (some ⟨x, ox, none⟩) b.accs.length c, .slice a' b.mvs.length c'] 38))
        have hC2 : Bk A0 (wr.heap.size + 1) 41 #[.string (ga b.accs k).name, .int .i64 (ga b.accs k).kind, .int .i64 (ga b.accs k).op.lo, .int .i64 (ga b.accs k).op.hi, .int .i64 (ga b.accs k).cl.lo, .int .i64 (ga b.accs k).cl.hi] := by
          have hx_ := (((Bk.new (wr.alloc (.cells #[.int .i64 k] 3)) 41 #[.string (ga b.accs k).name, .int .i64 (ga b.accs k).kind, .int .i64 (ga b.accs k).op.lo, .int .i64 (ga b.accs k).op.hi, .int .i64 (ga b.accs k).cl.lo, .int .i64 (ga b.accs k).cl.hi]).alloc (.cells #[.int .i64 0, .int .i64 1125899906842624] 23)).alloc (.cells #[.slice (some ⟨x, ox, none⟩) b.accs.length c, .slice a' b.mvs.length c'] 38))
          rw [← hA0]
          simpa using hx_
        have hC3 : Bk A0 (wr.heap.size + 2) 23 #[.int .i64 0, .int .i64 1125899906842624] := by
          have hx_ := ((Bk.new ((wr.alloc (.cells #[.int .i64 k] 3)).alloc (.cells #[.string (ga b.accs k).name, .int .i64 (ga b.accs k).kind, .int .i64 (ga b.accs k).op.lo, .int .i64 (ga b.accs k).op.hi, .int .i64 (ga b.accs k).cl.lo, .int .i64 (ga b.accs k).cl.hi] 41)) 23 #[.int .i64 0, .int .i64 1125899906842624]).alloc (.cells #[.slice (some ⟨x, ox, none⟩) b.accs.length c, .slice a' b.mvs.length c'] 38))
          rw [← hA0]
          simpa using hx_
        have hC4 : Bk A0 (wr.heap.size + 3) 38 #[.slice (some ⟨x, ox, none⟩) b.accs.length c, .slice a' b.mvs.length c'] := by
          have hx_ := (Bk.new (((wr.alloc (.cells #[.int .i64 k] 3)).alloc (.cells #[.string (ga b.accs k).name, .int .i64 (ga b.accs k).kind, .int .i64 (ga b.accs k).op.lo, .int .i64 (ga b.accs k).op.hi, .int .i64 (ga b.accs k).cl.lo, .int .i64 (ga b.accs k).cl.hi] 41)).alloc (.cells #[.int .i64 0, .int .i64 1125899906842624] 23)) 38 #[.slice (some ⟨x, ox, none⟩) b.accs.length c, .slice a' b.mvs.length c'])
          rw [← hA0]
          simpa using hx_
        have hgA0 : wr.grownBy A0 none := hA0 ▸ gb_alloc (gb_alloc (gb_alloc (gb_alloc (gb_refl _ _) _) _) _) _
        have HA0 := Lib.hid hA0
        clear hA0
        rw [HA0.out]
        have hs0 : A0.heap.size = wr.heap.size + 4 := by rw [← HA0.out]; simp
        clear HA0
        have ownI : ∀ i A A' row, (HoldB (wr.heap.size + 1 + 1 + 1) l1 h1 l2 h2 (.slice (some ⟨x, ox, none⟩) b.accs.length c) (.slice a' b.mvs.length c') b A ∧ Bk A wr.heap.size 3 #[.int .i64 k] ∧ Bk A (wr.heap.size + 1) 41 #[.string (ga b.accs k).name, .int .i64 (ga b.accs k).kind, .int .i64 (ga b.accs k).op.lo, .int .i64 (ga b.accs k).op.hi, .int .i64 (ga b.accs k).cl.lo, .int .i64 (ga b.accs k).cl.hi] ∧ Bk A (wr.heap.size + 1 + 1) 23 #[.int .i64 (accF b k i).lo, .int .i64 (accF b k i).hi] ∧ Bk A w.heap.size 38 #[.slice (some ⟨x, ox, none⟩) b.accs.length c, .slice a' b.mvs.length c'] ∧ wr.grownBy A none) →
            A.grownBy A' row → (∀ m, m < wr.heap.size + 4 → some m ≠ row) → (HoldB (wr.heap.size + 1 + 1 + 1) l1 h1 l2 h2 (.slice (some ⟨x, ox, none⟩) b.accs.length c) (.slice a' b.mvs.length c') b A' ∧ Bk A' wr.heap.size 3 #[.int .i64 k] ∧ Bk A' (wr.heap.size + 1) 41 #[.string (ga b.accs k).name, .int .i64 (ga b.accs k).kind, .int .i64 (ga b.accs k).op.lo, .int .i64 (ga b.accs k).op.hi, .int .i64 (ga b.accs k).cl.lo, .int .i64 (ga b.accs k).cl.hi] ∧ Bk A' (wr.heap.size + 1 + 1) 23 #[.int .i64 (accF b k i).lo, .int .i64 (accF b k i).hi] ∧ Bk A' w.heap.size 38 #[.slice (some ⟨x, ox, none⟩) b.accs.length c, .slice a' b.mvs.length c'] ∧ wr.grownBy A' none) :=
          fun i A A' row h hg hm => ⟨HoldB.row h.1 hg (hm _ (by omega)) (fun m hm' => hm m (by omega)) (fun m hm' => hm m (by omega)), h.2.1.gb hg (hm _ (by omega)), h.2.2.1.gb hg (hm _ (by omega)), h.2.2.2.1.gb hg (hm _ (by omega)), h.2.2.2.2.1.gb hg (hm _ (by omega)), gb_trans' h.2.2.2.2.2 hg (fun g e => .inr (Nat.le_of_not_lt fun h5 => hm g (by omega) e.symm))⟩
        refine wp_rangeG (gf := 54) (lb := #[.pointer (some ⟨wr.heap.size + 1 + 1 + 1, 0, none⟩)]) rfl (enters_of Tryd.func54 (by kernel_rfl) rfl) rfl (groups_seq (wr.heap.size + 1 + 1 + 1) l1 h1 l2 h2 _ _ b hok)
          (fun i A => HoldB (wr.heap.size + 1 + 1 + 1) l1 h1 l2 h2 (.slice (some ⟨x, ox, none⟩) b.accs.length c) (.slice a' b.mvs.length c') b A ∧ Bk A wr.heap.size 3 #[.int .i64 k] ∧ Bk A (wr.heap.size + 1) 41 #[.string (ga b.accs k).name, .int .i64 (ga b.accs k).kind, .int .i64 (ga b.accs k).op.lo, .int .i64 (ga b.accs k).op.hi, .int .i64 (ga b.accs k).cl.lo, .int .i64 (ga b.accs k).cl.hi] ∧ Bk A (wr.heap.size + 1 + 1) 23 #[.int .i64 (accF b k i).lo, .int .i64 (accF b k i).hi] ∧ Bk A w.heap.size 38 #[.slice (some ⟨x, ox, none⟩) b.accs.length c, .slice a' b.mvs.length c'] ∧ wr.grownBy A none)
          (fun _ _ _ => False)
          ?hI (fun _ _ _ _ _ h => h.elim) (fun i A h => h.1) ?h0 ?round ?done (fun _ _ _ _ h => h.elim)
        case hI => exact ownFrom_of (fun i A A' row h hg hm => ownI i A A' row h hg (fun m hm' => hm m (by omega)))
        case h0 => exact ⟨⟨hC4, (HD.out.1.gb HR.out.2.2.2.2.2 (by simp)).gb hgA0 (by simp), (HD.out.2.gb HR.out.2.2.2.2.2 (by simp)).gb hgA0 (by simp)⟩, hC1, hC2, hC3, HR.out.2.2.2.1.gb hgA0 (by simp), hgA0⟩
        case round =>
          rintro l i p A ⟨hh, hb1, hb2, hr2, hbb, hg2⟩ hi hp hA hbp
          have hi8 : i < 256 := by omega
          have hl2 := hr2.lt
          simp only [Grp.v]
          gi_wp2
          refine ⟨KeepD.of_gb (gb_alloc (gb_refl _ none) _) (by omega) (by simp) (by simp), fun W2 hg3 => ?_⟩
          obtain ⟨hh', hb1', hb2', hr2', hbb', hg'⟩ := ownI i _ W2 _ ⟨hh.gb (gb_alloc (gb_refl _ none) (.cells #[.func (.func 55) #[] #[.pointer (some ⟨p, 0, none⟩)], .int .i64 (grp b i).least, .int .i64 (grp b i).most, .bool (grp b i).ground, .bool (grp b i).rest] 72)), hb1.alloc _, hb2.alloc _, hr2.alloc _, hbb.alloc _, gb_alloc hg2 (.cells #[.func (.func 55) #[] #[.pointer (some ⟨p, 0, none⟩)], .int .i64 (grp b i).least, .int .i64 (grp b i).most, .bool (grp b i).ground, .bool (grp b i).rest] 72)⟩ hg3 (fun m hm e => by cases e; omega)
          have hG3 := (Bk.new A 72 #[.func (.func 55) #[] #[.pointer (some ⟨p, 0, none⟩)], .int .i64 (grp b i).least, .int .i64 (grp b i).most, .bool (grp b i).ground, .bool (grp b i).rest]).gb hg3 (by simp; omega)
          have hP3 := (hbp.alloc (.cells #[.func (.func 55) #[] #[.pointer (some ⟨p, 0, none⟩)], .int .i64 (grp b i).least, .int .i64 (grp b i).most, .bool (grp b i).ground, .bool (grp b i).rest] 72)).gb hg3 (by simp; omega)
          have q1 := hb1'.c1
          have q2 := hG3.c5
          have qr := hr2'.c2
          have qb := hbb'.c2
          have hsz := hg3.size
          simp only [World.size_alloc] at hsz
          have HI2 := Lib.hid (And.intro hh' (And.intro hb1' (And.intro hb2' (And.intro hr2' (And.intro hbb' hg')))))
          have HP := Lib.hid hP3
          have HG3 := Lib.hid hG3
          clear hh hb1 hb2 hr2 hbb hg2 hh' hb1' hb2' hr2' hbb' hg' hP3 hG3 hbp hg3
          cases hbit : i.testBit k with
          | false =>
            have HSt : Hid (accF b k (i + 1) = accF b k i) := Lib.hid (if_neg (by rw [hbit]; simp))
            gi_wp2_with (refine ⟨trivial, rfl, ?_⟩; gi_at_call 55; refine (CallsIn.inRound l (callsIn_wide.2 (has_c i k p _ false (by omega) (by omega) HP.out hbit))).mono ?_; rintro e w' ⟨rfl, rfl⟩)
            refine ⟨⟨rfl, rfl⟩, HI2.out.1, HI2.out.2.1, HI2.out.2.2.1, ?_, HI2.out.2.2.2.2⟩
            rw [HSt.out]
            exact HI2.out.2.2.2.1
          | true =>
            gi_wp2_with (refine ⟨trivial, rfl, ?_⟩; gi_at_call 55; refine (CallsIn.inRound l (callsIn_wide.2 (has_c i k p _ true (by omega) (by omega) HP.out hbit))).mono ?_; rintro e w' ⟨rfl, rfl⟩)
            obtain ⟨A2, hA2⟩ : ∃ A2, W2.setCell ⟨wr.heap.size + 1 + 1, 1, none⟩ (.int .i64 (min (accF b k i).hi (grp b i).most)) = A2 := ⟨_, rfl⟩
            rw [hA2]
            have hgs : W2.grownBy A2 (some (wr.heap.size + 1 + 1)) := hA2 ▸ gb_setCell (gb_refl W2 _) (.inl rfl) _
            have hrA : Bk A2 (wr.heap.size + 1 + 1) 23 #[.int .i64 (accF b k i).lo, .int .i64 (min (accF b k i).hi (grp b i).most)] := hA2 ▸ HI2.out.2.2.2.1.set 1 _
            have hgA : wr.grownBy A2 none := hA2 ▸ gb_setCell HI2.out.2.2.2.2.2 (.inr (by dsimp only; omega)) _
            clear hA2 q1 q2 qr qb
            have hsA := hgs.size
            have HA := Lib.hid (And.intro (HoldB.row HI2.out.1 hgs (by simp) (fun m hm e => by cases e; omega) (fun m hm e => by cases e; omega)) (And.intro (HI2.out.2.1.gb hgs (by simp; omega)) (And.intro (HI2.out.2.2.1.gb hgs (by simp)) (And.intro hrA (And.intro (HI2.out.2.2.2.2.1.gb hgs (by simp; omega)) hgA)))))
            have HPA := Lib.hid (HP.out.gb hgs (by simp; omega))
            have HGA := Lib.hid (HG3.out.gb hgs (by simp; omega))
            have Hgs := Lib.hid hgs
            clear hrA hgA hgs
            obtain ⟨wo, rfl⟩ : ∃ wo : World, wo = wr := ⟨_, rfl⟩
            gi_loopw [9, 56] (fun o v wq => ∃ m : Nat, m ≤ b.accs.length ∧ v = .int .i64 m ∧ o = .bool (othF b k i m) ∧ A2.grownBy wq none) (fun _ v _ => b.accs.length - (intOf v).toNat)
            case atStart => exact ⟨0, Nat.zero_le _, rfl, rfl, gb_refl _ _⟩
            case round =>
              obtain ⟨m, hm, rfl, rfl, hgq⟩ := hrel
              have qs := hgq.size
              have q1 := (HA.out.2.1.gb hgq (by simp)).c1
              have q2 := (HGA.out.gb hgq (by simp)).c5
              have HPQ := Lib.hid (HPA.out.gb hgq (by simp))
              have l1' := HA.out.2.1.lt
              have l2' := HGA.out.lt
              by_cases hlm : m < b.accs.length
              · obtain ⟨g1, g2, g3, g4, g5, g6⟩ := Accs.cell (Sl.gb HA.out.1.2.1 hgq (by simp)) hlm
                have HQ := Lib.hid hgq
                have HSo : Hid (othF b k i (m + 1) = (othF b k i m && (m == k || !i.testBit m || (ga b.accs m).kind == 2))) := Lib.hid rfl
                have HPB := Lib.hid (HPQ.out.alloc (.cells #[.string (ga b.accs m).name, .int .i64 (ga b.accs m).kind, .int .i64 (ga b.accs m).op.lo, .int .i64 (ga b.accs m).op.hi, .int .i64 (ga b.accs m).cl.lo, .int .i64 (ga b.accs m).cl.hi] 41))
                clear hgq
                have l3' : wo.heap.size < wr.heap.size := by omega
                have l4' : A.heap.size < wr.heap.size := by omega
                cases ho : othF b k i m with
                | false =>
                  gi_wp2_with (refine wpListIn_skip ?_ ?_ ?_; rfl; rfl)
                  go_roundw
                  case rel => exact ⟨m + 1, by omega, by go_num, by rw [HSo.out, ho]; rfl, gb_alloc HQ.out _⟩
                  case measure => simp [intOf]; omega
                | true =>
                  have hsz8 : wr.heap.size < wr.heap.size + 1 := by omega
                  by_cases hmk : m = k
                  · have hmk1 : ((m : Int) == (k : Int)) = true := by simp [hmk]
                    have HM := Lib.hid hmk
                    clear hmk
                    gi_wp2_with (refine wpListIn_skip ?_ ?_ ?_; rfl; rfl)
                    go_roundw
                    case rel => exact ⟨m + 1, by omega, by go_num, by rw [HSo.out, ho]; simp [HM.out], gb_alloc HQ.out _⟩
                    case measure => simp [intOf]; omega
                  · have hmk1 : ((m : Int) == (k : Int)) = false := by simp; omega
                    have HM : Hid ((m == k) = false) := Lib.hid (by simp [hmk])
                    cases hbm : i.testBit m with
                    | false =>
                      gi_wp2_with (first | (refine wpListIn_skip ?_ ?_ ?_; rfl; rfl) | (refine ⟨trivial, rfl, ?_⟩; gi_at_call 55; refine (CallsIn.inRound l (callsIn_wide.2 (has_c i m p _ false (by omega) (by omega) HPB.out hbm))).mono ?_; rintro e w' ⟨rfl, rfl⟩))
                      go_roundw
                      case rel => exact ⟨m + 1, by omega, by go_num, by rw [HSo.out, ho]; simp [HM.out, hbm], gb_alloc HQ.out _⟩
                      case measure => simp [intOf]; omega
                    | true =>
                      gi_wp2_with (first | (refine wpListIn_skip ?_ ?_ ?_; rfl; rfl) | (refine ⟨trivial, rfl, ?_⟩; gi_at_call 55; refine (CallsIn.inRound l (callsIn_wide.2 (has_c i m p _ true (by omega) (by omega) HPB.out hbm))).mono ?_; rintro e w' ⟨rfl, rfl⟩))
                      go_roundw
                      case rel => exact ⟨m + 1, by omega, by go_num, by rw [HSo.out, ho]; simp [HM.out, hbm], gb_alloc HQ.out _⟩
                      case measure => simp [intOf]; omega
              · obtain rfl : m = b.accs.length := by omega
                have qr := (HA.out.2.2.2.1.gb hgq (by simp)).c2
                have hsl := HA.out.2.2.2.1.lt
                have hsl' : wo.heap.size + 1 + 1 < wr.heap.size := by omega
                have HSt : Hid (accF b k (i + 1) = ⟨if othF b k i b.accs.length = true then max (accF b k i).lo (grp b i).least else (accF b k i).lo, min (accF b k i).hi (grp b i).most⟩) := Lib.hid (if_pos hbit)
                have HQ := Lib.hid hgq
                clear hgq hbit
                cases ho : othF b k i b.accs.length with
                | false =>
                  gi_wp2
                  refine ⟨KeepD.of_gb (gb_none Hgs.out HQ.out) (by omega) (by simp; omega) (by simp; omega), HA.out.1.gb HQ.out, HA.out.2.1.gb HQ.out (by simp), HA.out.2.2.1.gb HQ.out (by simp), ?_, HA.out.2.2.2.2.1.gb HQ.out (by simp), gb_trans HA.out.2.2.2.2.2 HQ.out⟩
                  rw [HSt.out, ho]
                  exact HA.out.2.2.2.1.gb HQ.out (by simp)
                | true =>
                  gi_wp2
                  have hgz := gb_setCell (gb_refl wr (some (wo.heap.size + 1 + 1))) (p := ⟨wo.heap.size + 1 + 1, 0, none⟩) (.inl rfl) (.int .i64 (max (accF b k i).lo (grp b i).least))
                  have hgy := gb_trans' (gb_none Hgs.out HQ.out) hgz (fun _ e => .inl e)
                  refine ⟨KeepD.of_gb hgy (by omega) (by simp; omega) (by simp; omega), HoldB.row (HA.out.1.gb HQ.out) hgz (by simp) (fun m hm e => by cases e; omega) (fun m hm e => by cases e; omega), (HA.out.2.1.gb HQ.out (by simp)).gb hgz (by simp; omega), (HA.out.2.2.1.gb HQ.out (by simp)).gb hgz (by simp), ?_, (HA.out.2.2.2.2.1.gb HQ.out (by simp)).gb hgz (by simp; omega), gb_setCell (gb_trans HA.out.2.2.2.2.2 HQ.out) (.inr (by dsimp only; omega)) _⟩
                  rw [HSt.out, ho]
                  exact (HA.out.2.2.2.1.gb HQ.out (by simp)).set 0 _
        case done =>
          rintro A ⟨hh, hb1, hb2, hr2, hbb, hg2⟩ hK2
          have hownA := HR.out.1.gb hg2 (by simp)
          have hWA := Nat.le_trans HR.out.2.1.size hg2.size
          have q2 := hr2.c2
          have qk := hb2.cell 1
          have qkf := hb2.frozen 1
          simp only [List.getElem?_toArray, List.getElem?_cons_zero, List.getElem?_cons_succ] at qk
          have hl2 := hr2.lt
          have HQ := Lib.hid (And.intro hh (And.intro hb1 (And.intro hb2 (And.intro hr2 (And.intro hbb (And.intro hg2 hK2))))))
          clear hh hb1 hb2 hr2 hbb hg2 hK2
          by_cases hkd : (ga b.accs k).kind = 2
          · have HL : Hid (lossA b k = ⟨0, 0⟩) := Lib.hid (if_pos hkd)
            rw [hkd] at qk
            clear hkd
            go_wp2_with (at_builtin; refine wpList_app _ okSp rfl _ _ rfl W.heap.size v ((List.range k).map (lossA b)) [(⟨0, 0⟩ : Sp)] rfl (by exact ((hownA.far (p := ⟨wr.heap.size + 1 + 1, 0, none⟩) (fun m e => by have := (HR.out.1.lt m e).2; dsimp only; omega) _).far (p := ⟨wr.heap.size + 1 + 1, 1, none⟩) (fun m e => by have := (HR.out.1.lt m e).2; dsimp only; omega) _).alloc _) ⟨_, 0, none⟩ 1 1 rfl rfl (by decide) (news_of (Bk.newAt _ _ _ (by simp))) (k + 1) (by simp) (by omega) (by simp; omega) _ rfl ?_; intro g cap w5 hp)
            have hl5 := hp.gb.size
            simp only [World.size_alloc, World.size_setCell] at hl5
            have hob : ∀ m, v.ownBlock = some m → W.heap.size ≤ m ∧ m < wr.heap.size := fun m e => HR.out.1.lt m e
            refine ⟨rfl, ⟨k + 1, _, rfl, rfl, rfl, rfl, rfl, ?_, by omega, ?_, ?_, ?_⟩, ?_⟩
            · show Value.int .i64 ((k : Int) + 1) = _; simp
            · rw [List.range_succ, List.map_append, List.map_cons, List.map_nil, HL.out]; exact hp.own
            · refine gb_trans' (gb_alloc (gb_setCell (gb_setCell (gb_trans HR.out.2.1 HQ.out.2.2.2.2.2.1) (.inr (by dsimp only; have := HR.out.2.1.size; omega)) _) (.inr (by dsimp only; have := HR.out.2.1.size; omega)) _) _) hp.gb (fun m e => .inr (hob m e).1)
            · rw [← hs0]
              exact Marks.own ((((Marks.cons HR.out.2.2.1 HQ.out.2.2.2.2.2.1 (by have := HI.out.2.2.2.1.size; have := HR.out.2.1.size; omega) (by omega) HQ.out.2.2.2.2.2.2).set HQ.out.2.2.2.1 0 _).set (HQ.out.2.2.2.1.set 0 _) 1 _).alloc _) (((hownA.far (p := ⟨wr.heap.size + 1 + 1, 0, none⟩) (fun m e => by have := (HR.out.1.lt m e).2; dsimp only; omega) _).far (p := ⟨wr.heap.size + 1 + 1, 1, none⟩) (fun m e => by have := (HR.out.1.lt m e).2; dsimp only; omega) _).alloc _) hp.gb
            · simp [slot, intOf]; omega
          · have HL : Hid (lossA b k = accF b k (2 ^ b.accs.length)) := Lib.hid (if_neg hkd)
            have hkd' : ((ga b.accs k).kind == 2) = false := by simp [hkd]
            clear hkd
            go_wp2_with (at_builtin; refine wpList_app _ okSp rfl _ _ rfl W.heap.size v ((List.range k).map (lossA b)) [accF b k (2 ^ b.accs.length)] rfl (by exact hownA.alloc _) ⟨_, 0, none⟩ 1 1 rfl rfl (by decide) (news_of (Bk.newAt _ _ _ (by simp))) (k + 1) (by simp) (by omega) (by simp; omega) _ rfl ?_; intro g cap w5 hp)
            have hl5 := hp.gb.size
            simp only [World.size_alloc, World.size_setCell] at hl5
            have hob : ∀ m, v.ownBlock = some m → W.heap.size ≤ m ∧ m < wr.heap.size := fun m e => HR.out.1.lt m e
            refine ⟨rfl, ⟨k + 1, _, rfl, rfl, rfl, rfl, rfl, ?_, by omega, ?_, ?_, ?_⟩, ?_⟩
            · show Value.int .i64 ((k : Int) + 1) = _; simp
            · rw [List.range_succ, List.map_append, List.map_cons, List.map_nil, HL.out]; exact hp.own
            · refine gb_trans' (gb_alloc (gb_trans HR.out.2.1 HQ.out.2.2.2.2.2.1) _) hp.gb (fun m e => .inr (hob m e).1)
            · rw [← hs0]
              exact Marks.own ((Marks.cons HR.out.2.2.1 HQ.out.2.2.2.2.2.1 (by have := HI.out.2.2.2.1.size; have := HR.out.2.1.size; omega) (by omega) HQ.out.2.2.2.2.2.2).alloc _) (hownA.alloc _) hp.gb
            · simp [slot, intOf]; omega
      · obtain rfl : k = b.accs.length := by omega
        have q3 := hrw.c2
        go_wp2_with fail
        have HZ := Lib.hid (And.intro hown (And.intro hgw (And.intro hmk (And.intro hbw (And.intro hrw hG)))))
        clear hown hgw hmk hbw hrw hG
        go_region
        go_wp2_with fail
        have hob : ∀ m, v.ownBlock = some m → W.heap.size ≤ m ∧ m < wr.heap.size := fun m e => HZ.out.1.lt m e
        refine leave_marks (((HZ.out.2.2.1.set HZ.out.2.2.2.2.1 0 (.int .i64 (totF b (2 ^ b.accs.length)).lo)).set (HZ.out.2.2.2.2.1.set 0 _) 1 (.int .i64 (totF b (2 ^ b.accs.length)).hi)) : Marks _ _ _) (.tuple #[v, (lossT b).v]) fun w' hs => ?_
        have q5 := (hs.bk (((HZ.out.2.2.2.2.1.set 0 _).set 1 _).drew)).c2
        refine ⟨by simp [results, Tryd.results52, go_sem, q5, lossT, Sp.v], v, rfl, ?_, ?_⟩
        · exact Own.base (hs.own (((HZ.out.1.far (fun m e => by have := hob m e; dsimp only; omega) _).far (fun m e => by have := hob m e; dsimp only; omega) _).drew)) (by omega)
        · exact hs.gb (gb_drew (gb_setCell (gb_setCell HZ.out.2.2.2.2.2 (.inr (by simp)) _) (.inr (by simp)) _)) (by omega)
    case atStart1 =>
      exact ⟨0, .slice none 0 0, rfl, rfl, rfl, rfl, rfl, rfl, Nat.zero_le _, Own.nil _ _ _ _ _, gb_refl _ _, Marks.one (by omega) HI.out.2.2.2.2⟩
end Go.Proofs.YtcndphefomigeaaDoor
