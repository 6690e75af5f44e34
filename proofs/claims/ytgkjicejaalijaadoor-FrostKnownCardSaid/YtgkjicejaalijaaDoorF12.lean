/- frost: what is known after each of some days, as an iterator. -/
import Derived.Test.YtgkjicejaalijaaDoorF10
import Derived.Test.YtgkjicejaalijaaDoorK1
import Derived.TacticsInMore
import Derived.OwnWalkIn
import Derived.LoopIn
set_option linter.unusedVariables false
set_option linter.unusedSimpArgs false
set_option linter.unnecessarySimpa false
namespace Go.Proofs.YtgkjicejaalijaaDoor
open Go.RowKit Go.Shelf
set_option maxRecDepth 100000

/-- Ice after the first k of some days. -/
noncomputable def stI (l : Fro) (x : Ice) (dl : List Wea) (k : Nat) : Ice := (dl.take k).foldl (aft l) x
theorem stI_zero (l : Fro) (x : Ice) (dl : List Wea) : stI l x dl 0 = x := rfl
theorem stI_succ {l : Fro} {x : Ice} {dl : List Wea} {k : Nat} {d : Wea} (h : dl[k]? = some d) : stI l x dl (k + 1) = aft l (stI l x dl k) d := by
  unfold stI
  obtain ⟨hk, rfl⟩ := List.getElem?_eq_some_iff.1 h
  rw [List.take_succ_eq_append_getElem hk, List.foldl_append]
  rfl
theorem stI_K {l : Fro} {x : Ice} {dl : List Wea} (hL : LawOk l) (hx : IceK x 0 0) (hd : ∀ d ∈ dl, WeaOk d) (hn : dl.length ≤ 400) : ∀ k : Nat, k ≤ dl.length → IceK (stI l x dl k) k k
  | 0, _ => hx
  | k + 1, hk => by
    have h := List.getElem?_eq_getElem (l := dl) (i := k) (by omega)
    rw [stI_succ h]
    have := aft_K hL (stI_K hL hx hd hn k (by omega)) (hd _ (List.mem_of_getElem? h)) (by omega)
    push_cast
    exact this

/-- What the iterator reads: its three boxes, the law's covers and the days. -/
structure HoldC (pd : Nat) (lo1 h1 lo2 h2 : Nat) (v vd : Value) (l : Fro) (x : Ice) (dl : List Wea) (A : World) : Prop where
  bd : Bk A pd 84 (froC l v)
  bx : Bk A (pd + 1) 82 (iceC x)
  bs : Bk A (pd + 2) 44 #[vd]
  cs : Sl covEnc 3 lo1 h1 A v l.cov
  ds : Sl weaEnc 6 lo2 h2 A vd dl
  n1 : h1 ≤ pd
  n2 : h2 ≤ pd
theorem HoldC.gb {pd lo1 h1 lo2 h2 : Nat} {v vd : Value} {l : Fro} {x : Ice} {dl : List Wea} {A B : World} (h : HoldC pd lo1 h1 lo2 h2 v vd l x dl A) {r : Option Nat} (hg : A.grownBy B r) (hr : ∀ g, r = some g → pd + 3 ≤ g) : HoldC pd lo1 h1 lo2 h2 v vd l x dl B :=
  ⟨h.bd.gb hg (fun e => by have := hr _ e.symm; omega), h.bx.gb hg (fun e => by have := hr _ e.symm; omega), h.bs.gb hg (fun e => by have := hr _ e.symm; omega),
    h.cs.gb hg (fun g e => by have := hr g e; have := h.n1; omega), h.ds.gb hg (fun g e => by have := hr g e; have := h.n2; omega), h.n1, h.n2⟩

theorem Bus.hand {A : World} {g : Nat} {t : TypeId} {cs : Array Value} (h : Bk A g t cs) : Bus A g [rbox g t cs] A :=
  ⟨fun r hr => (by obtain rfl := List.mem_singleton.1 hr; exact h), fun r hr g' hx => (by obtain rfl := List.mem_singleton.1 hr; cases hx; exact ⟨h.lt, fun _ => .inr rfl⟩), List.pairwise_singleton _ _, gb_refl _ _⟩
set_option maxHeartbeats 4000000 in
theorem course_seq (pd lo1 h1 lo2 h2 : Nat) (v vd : Value) (l : Fro) (x : Ice) (dl : List Wea) (hL : LawOk l) (hx : IceK x 0 0) (hd : ∀ d ∈ dl, WeaOk d) (hn : dl.length ≤ 400) :
    SeqI Tryd.prog 99 #[.pointer (some ⟨pd + 1, 0, none⟩), .pointer (some ⟨pd + 2, 0, none⟩), .pointer (some ⟨pd, 0, none⟩)] dl.length
      (fun i => #[.int .i64 i, .agg (iceC (stI l x dl (i + 1)))]) (HoldC pd lo1 h1 lo2 h2 v vd l x dl) := by
  intro ly J Jx W hJ hJx hH hY h0
  have HJ := Lib.hid hJ
  have HJx := Lib.hid hJx
  have HH := Lib.hid hH
  have HY := Lib.hid hY
  have H0 := Lib.hid h0
  have hW0 := (hH _ _ _ (h0 _ W (gb_refl _ _) rfl)).1
  have hlt := hW0.bs.lt
  obtain ⟨sa, sc, rfl⟩ := hW0.ds.any
  have qx := Bk.bx8 hW0.bx
  have qs := Bk.bx1 hW0.bs
  clear hJ hJx hH hY h0 hW0
  have HK := Lib.hid (stI_K hL hx hd hn)
  have HL := Lib.hid hL
  have HD := Lib.hid hd
  clear hL hx hd
  go_enter Tryd.func99, Tryd.ntmps99
  go_wp2_with fail
  have hJ0 := H0.out (W.heap.size + 1) (W.alloc (.cells (iceC x) 82)) (gb_alloc (gb_refl _ _) _) (by simp)
  have hB0 : Bk (W.alloc (.cells (iceC x) 82)) W.heap.size 82 (iceC x) := Bk.new _ _ _
  clear qx qs
  obtain ⟨HI_, HI0⟩ : ∃ I : (Nat → Value) → List Deferred → World → Prop, I = (fun t ds wr => ∃ (i : Nat), t 0 = .func (.yield ly) #[] #[] ∧ t 3 = .pointer (some ⟨pd, 0, none⟩) ∧ t 5 = .pointer (some ⟨W.heap.size, 0, none⟩) ∧ t 9 = .slice sa dl.length sc ∧ t 10 = .int .i64 dl.length ∧ t 11 = .int .i64 (i : Int) ∧ i ≤ dl.length ∧ ds = [] ∧ J (W.heap.size + 1) i wr ∧ Bk wr W.heap.size 82 (iceC (stI l x dl i))) := ⟨_, rfl⟩
  have HI := Lib.hid HI0
  clear HI0
  refine wp_loopS 26 rfl HI_ (fun t wr => dl.length - (intOf (t 11)).toNat) ?atStart1 ?round1
  case round1 =>
    intro t ds wr hHid
    rw [HI.out] at hHid
    obtain ⟨i, e0, e3, e5, e9, e10, e11, hrel⟩ := hHid
    have e : ((List.range 26).map t).toArray = #[t 0, t 1, t 2, t 3, t 4, t 5, t 6, t 7, t 8, t 9, t 10, t 11, t 12, t 13, t 14, t 15, t 16, t 17, t 18, t 19, t 20, t 21, t 22, t 23, t 24, t 25] := rfl
    (try dsimp only at e)
    rw [e0, e3, e5, e9, e10, e11] at e
    rw [e]
    simp only [e11]
    clear e e0 e3 e5 e9 e10 e11
    obtain ⟨hi, rfl, hj, hb⟩ := hrel
    clear hJ0 hB0
    have hc := (HH.out _ _ _ hj).1
    have hb1 := Bk.bx8 hb
    have hb2 := Bk.bx8 hc.bd
    have hm := hc.ds.len
    unfold maxLen at hm
    obtain ⟨A, rfl⟩ : ∃ A, A = wr := ⟨_, rfl⟩
    by_cases hk : (i : Int) < (dl.length : Int)
    · skip
      obtain ⟨ax, ox, rfl⟩ := Sl.addr hc.ds (by omega)
      obtain ⟨z, hz⟩ : ∃ z_, dl[i]? = some z_ := ⟨_, List.getElem?_eq_getElem (by omega)⟩
      have hz0 := hc.ds.cells hz
      have hz1 := And.intro (hz0 0 _ rfl) (And.intro (hz0 1 _ rfl) (And.intro (hz0 2 _ rfl) (And.intro (hz0 3 _ rfl) (And.intro (hz0 4 _ rfl) (hz0 5 _ rfl)))))
      rw [Nat.add_zero] at hz1
      have HZ := Lib.hid hz
      have HJA := Lib.hid hj
      have HC := Lib.hid hc
      have HB := Lib.hid hb
      have hst := stI_succ (l := l) (x := x) hz
      have HST := Lib.hid hst
      clear hz0 hz hj hc hb hst
      refine wpIn_wide (n := 0).1 ?_
      gi_wp2
      refine ⟨trivial, rfl, ?_⟩
      refine (callsIn_wide.2 (after_c lo1 h1 _ l (stI l x dl i) i z _ (HC.out.cs.gb (gb_alloc (gb_refl _ none) _) (by simp)) (by have := HC.out.n1; have := HC.out.bs.lt; simp; omega) HL.out (HK.out i hi) (by omega) (HD.out z (List.mem_of_getElem? HZ.out)))).mono ?_
      rintro e B ⟨rfl, hg⟩
      rw [← HST.out]
      have F1 := (((Bus.hand HB.out).new 42 #[.int .i64 z.cold.lo, .int .i64 z.cold.hi, .int .i64 z.fall.lo, .int .i64 z.fall.hi, .int .i64 z.water, .bool z.clear] rfl).gn hg).front 1 rfl rfl
      have q3 := F1.bx8 0 rfl
      have F2 := F1.pt8 (.int .i64 (stI l x dl (i + 1)).bl.lo) (.int .i64 (stI l x dl (i + 1)).bl.hi) (.int .i64 (stI l x dl (i + 1)).wh.lo) (.int .i64 (stI l x dl (i + 1)).wh.hi) (.int .i64 (stI l x dl (i + 1)).we.lo) (.int .i64 (stI l x dl (i + 1)).we.hi) (.int .i64 (stI l x dl (i + 1)).sn.lo) (.int .i64 (stI l x dl (i + 1)).sn.hi)
      have hJ1 := HJ.out _ _ _ _ _ HJA.out F2.gb (fun g e => by cases e; omega)
      obtain ⟨fn, tmps, assign, body, hy, hR⟩ := HY.out _ i _ hJ1 (by omega) (by omega)
      have q4 := F2.bx8 0 rfl
      have HF2 := Lib.hid F2
      clear F1 F2 hJ1 hb1 hb2 hz1 hg
      gi_wp2
      refine ⟨rfl, hR.mono ?_⟩
      rintro e D (⟨rfl, hJB, hkp⟩ | ⟨rfl, hJB⟩)
      · have hB2 : Bk D W.heap.size 82 (iceC (stI l x dl (i + 1))) := (hkp.2 W.heap.size (Nat.le_refl _) (Nat.lt_succ_self _)).trans (HF2.out.at 0 rfl)
        clear hkp hy hR q4 q3
        gi_wp2
        rw [HI.out]
        refine ⟨rfl, ⟨i + 1, rfl, rfl, rfl, rfl, rfl, (by show Value.int .i64 ((i : Int) + 1) = _; simp), by omega, rfl, hJB, hB2⟩, ?_⟩
        simp [slot, intOf]
        omega
      · clear hy hR q4 q3
        gi_wp2
        refine bodyPost_ret (results_none rfl _ _ _) rfl ?_
        exact ⟨⟨_, rfl⟩, _, Nat.le_succ _, .inr ⟨i + 1, by omega, hJB⟩⟩
    · have hkd := dec_f hk
      go_wp2_with fail
      go_end0
      exact ⟨⟨_, rfl⟩, _, Nat.le_succ _, .inl (by rw [show dl.length = i by omega]; exact hj)⟩
  case atStart1 => 
    rw [HI.out]
    exact ⟨0, rfl, rfl, rfl, rfl, rfl, rfl, Nat.zero_le _, rfl, hJ0, hB0⟩
end Go.Proofs.YtgkjicejaalijaaDoor
