/- frost: Step, Core, Bearing. -/
import Derived.Test.YtcoldeolmleeiaaGreatKF9
import Derived.Test.YtcoldeolmleeiaaGreatKK1
import Derived.TacticsInMore
import Derived.OwnWalkIn
import Derived.LoopIn
import Derived.Test.YtcoldeolmleeiaaGreatKJ9
import Derived.Test.YtcoldeolmleeiaaGreatKF8
set_option linter.unusedVariables false
set_option linter.unusedSimpArgs false
set_option linter.unnecessarySimpa false
namespace Go.Proofs.YtcoldeolmleeiaaGreat
open Go.RowKit
set_option maxRecDepth 100000
theorem allOk {l : Fro} {x : Ice} {ds : List Wea} (h : allE l x ds = 0) : LawOk l /\ iceErr x = 0 /\ IceK x 0 0 /\ ds.length <= 400 /\ ∀ d ∈ ds, WeaOk d := by
 unfold allE at h
 split at h
 · contradiction
 rename_i h1
 split at h
 · contradiction
 rename_i h2
 have h2' := Classical.not_not.1 h2
 refine ⟨lawOk (Classical.not_not.1 h1), h2', iceK h2', ?_, ?_⟩
 ·
  unfold daysE at h; split at h
  · cases h
  · omega
 unfold daysE at h; split at h
 · cases h
 have key : ∀ ds : List Wea, daysErr ds = 0 -> ∀ d ∈ ds, WeaOk d := by
  intro ds
  induction ds with
  | nil => intro _ d hd; cases hd
  | cons c cs ih =>
   intro h d hd
   unfold daysErr at h
   split at h
   · contradiction
   rename_i h3
   rcases List.mem_cons.1 hd with rfl | hd
   · exact weaOk (Classical.not_not.1 h3)
   · exact ih h d hd
 exact key ds h
open Go.RowKit Go.Shelf
noncomputable def stI (l : Fro) (x : Ice) (dl : List Wea) (k : Nat) : Ice := (dl.take k).foldl (aft l) x
theorem stI_succ {l : Fro} {x : Ice} {dl : List Wea} {k : Nat} {d : Wea} (h : dl[k]? = some d) : stI l x dl (k + 1) = aft l (stI l x dl k) d := by
 unfold stI
 obtain ⟨hk, rfl⟩ := List.getElem?_eq_some_iff.1 h
 rw [List.take_succ_eq_append_getElem hk, List.foldl_append]
 rfl
theorem stI_K {l : Fro} {x : Ice} {dl : List Wea} (hL : LawOk l) (hx : IceK x 0 0) (hd : ∀ d ∈ dl, WeaOk d) (hn : dl.length <= 400) : ∀ k : Nat, k <= dl.length -> IceK (stI l x dl k) k k
 | 0, _ => hx
 | k + 1, hk => by
  have h := List.getElem?_eq_getElem (l := dl) (i := k) (by omega)
  rw [stI_succ h]
  have := aft_K hL (stI_K hL hx hd hn k (by omega)) (hd _ (List.mem_of_getElem? h)) (by omega)
  push_cast
  exact this
structure HoldC (pd : Nat) (lo1 h1 lo2 h2 : Nat) (v vd : Value) (l : Fro) (x : Ice) (dl : List Wea) (A : World) : Prop where
 bd : Bk A pd 139 (froC l v)
 bx : Bk A (pd + 1) 142 (iceC x)
 bs : Bk A (pd + 2) 40 #[vd]
 cs : Sl covEnc 3 lo1 h1 A v l.cov
 ds : Sl weaEnc 6 lo2 h2 A vd dl
 n1 : h1 <= pd
 n2 : h2 <= pd
theorem HoldC.gb {pd lo1 h1 lo2 h2 : Nat} {v vd : Value} {l : Fro} {x : Ice} {dl : List Wea} {A B : World} (h : HoldC pd lo1 h1 lo2 h2 v vd l x dl A) {r : Option Nat} (hg : A.grownBy B r) (hr : ∀ g, r = some g -> pd + 3 <= g) : HoldC pd lo1 h1 lo2 h2 v vd l x dl B :=
 ⟨h.bd.gb hg (fun e => by have := hr _ e.symm; omega), h.bx.gb hg (fun e => by have := hr _ e.symm; omega), h.bs.gb hg (fun e => by have := hr _ e.symm; omega),
  h.cs.gb hg (fun g e => by have := hr g e; have := h.n1; omega), h.ds.gb hg (fun g e => by have := hr g e; have := h.n2; omega), h.n1, h.n2⟩
theorem Bus.hand {A : World} {g : Nat} {t : TypeId} {cs : Array Value} (h : Bk A g t cs) : Bus A g [rbox g t cs] A :=
 ⟨fun r hr => (by obtain rfl := List.mem_singleton.1 hr; exact h), fun r hr g' hx => (by obtain rfl := List.mem_singleton.1 hr; cases hx; exact ⟨h.lt, fun _ => .inr rfl⟩), List.pairwise_singleton _ _, gb_refl _ _⟩
set_option maxHeartbeats 4000000 in
theorem course_seq (pd lo1 h1 lo2 h2 : Nat) (v vd : Value) (l : Fro) (x : Ice) (dl : List Wea) (hL : LawOk l) (hx : IceK x 0 0) (hd : ∀ d ∈ dl, WeaOk d) (hn : dl.length <= 400) :
  SeqI Tryz.prog 87 #[.pointer (some ⟨pd + 1, 0, none⟩), .pointer (some ⟨pd + 2, 0, none⟩), .pointer (some ⟨pd, 0, none⟩)] dl.length
   (fun i => #[.int .i64 i, .agg (iceC (stI l x dl (i + 1)))]) (HoldC pd lo1 h1 lo2 h2 v vd l x dl) := by
 intro ly J Jx W hJ hJx hH hY h0
 have HJ := lhd hJ
 have HJx := lhd hJx
 have HH := lhd hH
 have HY := lhd hY
 have H0 := lhd h0
 have hW0 := (hH _ _ _ (h0 _ W (gb_refl _ _) rfl)).1
 have hlt := hW0.bs.lt
 obtain ⟨sa, sc, rfl⟩ := hW0.ds.any
 have qx := Bk.bx8 hW0.bx
 have qs := Bk.bx1 hW0.bs
 clear hJ hJx hH hY h0 hW0
 have HK := lhd (stI_K hL hx hd hn)
 have HL := lhd hL
 have HD := lhd hd
 clear hL hx hd
 go_enter Tryz.func87, Tryz.ntmps87
 go_wp2_with fail
 have hJ0 := H0.out (W.heap.size + 1) (W.alloc (.cells (iceC x) 142)) (gb_alloc (gb_refl _ _) _) (by simp)
 have hB0 : Bk (W.alloc (.cells (iceC x) 142)) W.heap.size 142 (iceC x) := Bk.new _ _ _
 clear qx qs
 obtain ⟨HI_, HI0⟩ : ∃ I : RelT, I = (fun t ds wr => ∃ (i : Nat), t 0 = .func (.yield ly) #[] #[] /\ t 3 = .pointer (some ⟨pd, 0, none⟩) /\ t 5 = .pointer (some ⟨W.heap.size, 0, none⟩) /\ t 9 = .slice sa dl.length sc /\ t 10 = .int .i64 dl.length /\ t 11 = .int .i64 (i : Int) /\ i <= dl.length /\ ds = [] /\ J (W.heap.size + 1) i wr /\ Bk wr W.heap.size 142 (iceC (stI l x dl i))) := ⟨_, rfl⟩
 have HI := lhd HI0
 clear HI0
 refine wp_loopS 26 rfl HI_ (fun t wr => dl.length - (intOf (t 11)).toNat) ?atStart1 ?round1
 case round1 =>
  intro t ds wr hHid
  rw [HI.out] at hHid
  obtain ⟨i, e0, e3, e5, e9, e10, e11, hrel⟩ := hHid
  have e : ((List.range 26).map t).toArray = #[t 0, t 1, t 2, t 3, t 4, t 5, t 6, t 7, t 8, t 9, t 10, t 11, t 12, t 13, t 14, t 15, t 16, t 17, t 18, t 19, t 20, t 21, t 22, t 23, t 24, t 25] := rfl
  (try dsimp only at e)
  rw [e0, e3, e5, e9, e10, e11] at e
  rw [e]
  simp only [e11]
  clear e e0 e3 e5 e9 e10 e11
  obtain ⟨hi, rfl, hj, hb⟩ := hrel
  clear hJ0 hB0
  have hc := (HH.out _ _ _ hj).1
  have hb1 := Bk.bx8 hb
  have hb2 := Bk.bx8 hc.bd
  have hm := hc.ds.len
  unfold maxLen at hm
  obtain ⟨A, rfl⟩ : ∃ A, A = wr := ⟨_, rfl⟩
  by_cases hk : (i : Int) < (dl.length : Int)
  ·
   obtain ⟨ax, ox, rfl⟩ := Sl.addr hc.ds (by omega)
   obtain ⟨z, hz⟩ : ∃ z_, dl[i]? = some z_ := ⟨_, List.getElem?_eq_getElem (by omega)⟩
   have hz0 := hc.ds.cells hz
   have hz1 := And.intro (hz0 0 _ rfl) (And.intro (hz0 1 _ rfl) (And.intro (hz0 2 _ rfl) (And.intro (hz0 3 _ rfl) (And.intro (hz0 4 _ rfl) (hz0 5 _ rfl)))))
   rw [Nat.add_zero] at hz1
   have HZ := lhd hz
   have HJA := lhd hj
   have HC := lhd hc
   have HB := lhd hb
   have hst := stI_succ (l := l) (x := x) hz
   have HST := lhd hst
   clear hz0 hz hj hc hb hst
   refine wpIn_wide (n := 0).1 ?_
   gi_wp2
   refine ⟨trivial, rfl, ?_⟩
   refine (callsIn_wide.2 (after_c lo1 h1 _ l (stI l x dl i) i z _ (HC.out.cs.gb (gb_alloc (gb_refl _ none) _) (by simp)) (by have := HC.out.n1; have := HC.out.bs.lt; simp; omega) HL.out (HK.out i hi) (by omega) (HD.out z (List.mem_of_getElem? HZ.out)))).mono ?_
   rintro e B ⟨rfl, hg⟩
   rw [← HST.out]
   have F1 := (((Bus.hand HB.out).new 61 #[.int .i64 z.cold.lo, .int .i64 z.cold.hi, .int .i64 z.fall.lo, .int .i64 z.fall.hi, .int .i64 z.water, .bool z.clear] rfl).gn hg).front 1 rfl rfl
   have q3 := F1.bx8 0 rfl
   have F2 := F1.pt8 (.int .i64 (stI l x dl (i + 1)).bl.lo) (.int .i64 (stI l x dl (i + 1)).bl.hi) (.int .i64 (stI l x dl (i + 1)).wh.lo) (.int .i64 (stI l x dl (i + 1)).wh.hi) (.int .i64 (stI l x dl (i + 1)).we.lo) (.int .i64 (stI l x dl (i + 1)).we.hi) (.int .i64 (stI l x dl (i + 1)).sn.lo) (.int .i64 (stI l x dl (i + 1)).sn.hi)
   have hJ1 := HJ.out _ _ _ _ _ HJA.out F2.gb (fun g e => by cases e; omega)
   obtain ⟨fn, tmps, assign, body, hy, hR⟩ := HY.out _ i _ hJ1 (by omega) (by omega)
   have q4 := F2.bx8 0 rfl
   have HF2 := lhd F2
   clear F1 F2 hJ1 hb1 hb2 hz1 hg
   gi_wp2
   refine ⟨rfl, hR.mono ?_⟩
   rintro e D (⟨rfl, hJB, hkp⟩ | ⟨rfl, hJB⟩)
   ·
    have hB2 : Bk D W.heap.size 142 (iceC (stI l x dl (i + 1))) := (hkp.2 W.heap.size (Nat.le_refl _) (Nat.lt_succ_self _)).trans (HF2.out.at 0 rfl)
    clear hkp hy hR q4 q3
    gi_wp2
    rw [HI.out]
    refine ⟨rfl, ⟨i + 1, rfl, rfl, rfl, rfl, rfl, (by show Value.int .i64 ((i : Int) + 1) = _; simp), by omega, rfl, hJB, hB2⟩, ?_⟩
    simp [slot, intOf]
    omega
   clear hy hR q4 q3
   gi_wp2
   refine bodyPost_ret (results_none rfl _ _ _) rfl ?_
   exact ⟨⟨_, rfl⟩, _, Nat.le_succ _, .inr ⟨i + 1, by omega, hJB⟩⟩
  have hkd := dec_f hk
  go_wp2_with fail
  go_end0
  exact ⟨⟨_, rfl⟩, _, Nat.le_succ _, .inl (by rw [show dl.length = i by omega]; exact hj)⟩
 case atStart1 => 
  rw [HI.out]
  exact ⟨0, rfl, rfl, rfl, rfl, rfl, rfl, Nat.zero_le _, rfl, hJ0, hB0⟩
def HoldX (pd : Nat) (v vd : Value) (l : Fro) (x : Ice) (A : World) : Prop := Bk A pd 139 (froC l v) /\ Bk A (pd + 1) 142 (iceC x) /\ Bk A (pd + 2) 40 #[vd]
theorem HoldX.gb {pd : Nat} {v vd : Value} {l : Fro} {x : Ice} {A B : World} (h : HoldX pd v vd l x A) {r : Option Nat} (hg : A.grownBy B r) (hr : ∀ g, r = some g -> ¬ (pd <= g /\ g < pd + 3)) : HoldX pd v vd l x B :=
 ⟨h.1.gb hg (fun e => by have := hr _ e.symm; omega), h.2.1.gb hg (fun e => by have := hr _ e.symm; omega), h.2.2.gb hg (fun e => by have := hr _ e.symm; omega)⟩
def iceEnc (x : Ice) : List Value := [.int .i64 x.bl.lo, .int .i64 x.bl.hi, .int .i64 x.wh.lo, .int .i64 x.wh.hi, .int .i64 x.we.lo, .int .i64 x.we.hi, .int .i64 x.sn.lo, .int .i64 x.sn.hi]
theorem infoIce : (Tryz.prog.info? 84).map (fun i => (i.zero, i.size, i.bytes)) = some (some (.agg #[.int .i64 0, .int .i64 0, .int .i64 0, .int .i64 0, .int .i64 0, .int .i64 0, .int .i64 0, .int .i64 0]), 8, 64) := by kernel_rfl
theorem okIce : ElemOk Tryz.prog 115 84 8 64 iceEnc where
 under := Tryz.underlying115
 info := info5 infoIce rfl
 pos := by omega
 small := by omega
 len := fun _ => rfl
 one := fun x u hu => by
  simp [iceEnc] at hu
  rcases hu with rfl | rfl | rfl | rfl | rfl | rfl | rfl | rfl <;> rfl
noncomputable def runN (l : Fro) (x : Ice) (dl : List Wea) (k : Nat) : List Ice := (List.range k).map (fun i => stI l x dl (i + 1))
theorem runN_succ (l : Fro) (x : Ice) (dl : List Wea) (k : Nat) : runN l x dl (k + 1) = runN l x dl k ++ [stI l x dl (k + 1)] := by simp [runN, List.range_succ]
theorem runN_len (l : Fro) (x : Ice) (dl : List Wea) (k : Nat) : (runN l x dl k).length = k := by simp [runN]
noncomputable def runI (l : Fro) (x : Ice) (dl : List Wea) : List Ice := if allE l x dl = 0 then runN l x dl dl.length else []
set_option maxHeartbeats 4000000 in
theorem course_c (lo hi : Nat) (v : Value) (l : Fro) (da : Option Addr) (dn dc : Nat) (x : Ice) (w : World) (hl : Sl covEnc 3 lo hi w v l.cov) (h2 : hi <= w.heap.size) :
  Calls Tryz.prog 71 #[.agg (froC l v), .agg (iceC x), .slice da dn dc] w (fun e w' => e = .returned (.func (.func 87) #[] #[.pointer (some ⟨w.heap.size + 1, 0, none⟩), .pointer (some ⟨w.heap.size + 2, 0, none⟩), .pointer (some ⟨w.heap.size, 0, none⟩)]) /\ w.grownBy w' none /\ HoldX w.heap.size v (.slice da dn dc) l x w') := by
 have F1 : Bun w [] w := Bun.nil _
 have hm_cs := hl.len
 unfold maxLen at hm_cs
 obtain ⟨sa, sc, rfl⟩ := hl.any
 replace F1 := F1.sl0 hl h2 rfl
 clear hl
 go_enter Tryz.func71, Tryz.ntmps71
 go_wp2_with fail
 replace F1 := F1.new 139 (froC l (.slice sa l.cov.length sc)) (n := w.heap.size) (by simp)
 replace F1 := F1.new 142 (iceC x) (n := (w.heap.size + 1)) (by simp)
 replace F1 := F1.new 40 #[.slice da dn dc] (n := (w.heap.size + 2)) (by simp)
 exact bodyPost_ret (v := .func (.func 87) #[] #[.pointer (some ⟨w.heap.size + 1, 0, none⟩), .pointer (some ⟨w.heap.size + 2, 0, none⟩), .pointer (some ⟨w.heap.size, 0, none⟩)]) (by simp [results, Tryz.results71, go_sem]) rfl (⟨rfl, F1.gb, (F1.b 2 rfl), (F1.b 1 rfl), (F1.b 0 rfl)⟩)
theorem course_e (lo hi : Nat) (v : Value) (da : Option Addr) (dn dc : Nat) (l : Fro) (x : Ice) (w : World) (hl : Sl covEnc 3 lo hi w v l.cov) (h2 : hi <= w.heap.size) :
  Calls Tryz.prog 71 #[.agg (froC l v), .agg (iceC x), .slice da dn dc] w (fun e w' => ∃ pd, w.heap.size = pd /\ e = .returned (.func (.func 87) #[] #[.pointer (some ⟨pd + 1, 0, none⟩), .pointer (some ⟨pd + 2, 0, none⟩), .pointer (some ⟨pd, 0, none⟩)]) /\ w.grownBy w' none /\ HoldX pd v (.slice da dn dc) l x w') :=
 (course_c lo hi v l da dn dc x w hl h2).mono fun _ _ h => ⟨_, rfl, h⟩
attribute [local go_sem] Oper.semAt_some
set_option maxHeartbeats 8000000 in
theorem run_c (lo hi : Nat) (v : Value) (l : Fro) (x : Ice) (lo2 hi2 : Nat) (vd : Value) (dl : List Wea) (w : World) (hl : Sl covEnc 3 lo hi w v l.cov) (h2 : hi <= w.heap.size) (hl2 : Sl weaEnc 6 lo2 hi2 w vd dl) (h22 : hi2 <= w.heap.size) :
  Calls Tryz.prog 57 #[.agg (froC l v), .agg (iceC x), vd] w (fun e w' => ∃ vo, e = .returned (.tuple #[vo, .int .i64 (allE l x dl)]) /\ Own iceEnc 84 8 w.heap.size w' vo (runI l x dl) /\ w.grownBy w' none) := by
 have F1 : Bun w [] w := Bun.nil _
 have hm_cs := hl.len
 unfold maxLen at hm_cs
 obtain ⟨sa, sc, rfl⟩ := hl.any
 replace F1 := F1.sl0 hl h2 rfl
 clear hl
 have hm_ds := hl2.len
 unfold maxLen at hm_ds
 obtain ⟨da, dc, rfl⟩ := hl2.any
 replace F1 := F1.sl0 hl2 h22 rfl
 clear hl2
 replace F1 := F1.marks0
 refine callsIn_wide.1 (callsIn_of_wp_marks (n := 0) Tryz.func57 rfl trivial ?_ rfl)
 simp only [Tryz.ntmps57, List.size_toArray, List.length_cons, List.length_nil, Nat.reduceAdd, Nat.reduceSub, Array.replicate_succ, Array.replicate_zero, List.push_toArray, List.append_toArray, List.nil_append, List.cons_append]
 refine wpIn_wide.2 ?_
 refine wp_mono (Q := calmQ _) ?_ calmQ_le
 go_wp2_with fail
 replace F1 := F1.new 78 (froC l (.slice sa l.cov.length sc)) (n := w.heap.size) (by simp)
 replace F1 := F1.new 84 (iceC x) (n := (w.heap.size + 1)) (by simp)
 refine (checkAll_c lo hi _ l x lo2 hi2 _ dl _ (F1.s 4 rfl) (Nat.le_trans h2 F1.gb.size) (F1.s 3 rfl) (Nat.le_trans h22 F1.gb.size)).mono ?_
 rintro e w9 ⟨rfl, hg7⟩
 have hg7s := hg7.size
 (try simp at hg7s)
 replace F1 := F1.gn hg7
 clear hg7
 by_cases c11 : allE l x dl = 0
 ·
  obtain ⟨c11a, c11b⟩ := bqt c11
  have c11H := lhd c11
  clear c11
  have HOK := lhd (allOk c11H.out)
  have hn4 := HOK.out.2.2.2.1
  go_wp2_with fail
  replace F1 := F1.new 115 #[.slice none 0 0] (n := w9.heap.size) (by simp)
  have Fn_ := F1
  (try dsimp only [lpF, lpG] at Fn_)
  obtain ⟨w14, hx15, F17, hxs16⟩ := Fn_.name
  (try simp at hxs16)
  rw [hx15]
  clear hx15 F1 Fn_
  replace F17 := F17.drew
  refine ru_begin (fun W => C8 W w.heap.size (.int .i64 l.gr) (.int .i64 l.la) (.slice sa l.cov.length sc) (.int .i64 l.melt.lo) (.int .i64 l.melt.hi) (.int .i64 l.soak) (.int .i64 l.white.lo) (.int .i64 l.white.hi) /\ C8 W (w.heap.size + 1) (.int .i64 x.bl.lo) (.int .i64 x.bl.hi) (.int .i64 x.wh.lo) (.int .i64 x.wh.hi) (.int .i64 x.we.lo) (.int .i64 x.we.hi) (.int .i64 x.sn.lo) (.int .i64 x.sn.hi)) 5 (by kernel_rfl) ?_ ?_
  · exact ⟨F17.c8 2, F17.c8 1⟩
  obtain ⟨wd20, hwd_⟩ : ∃ x : World, w14.drew = x := ⟨_, rfl⟩
  rw [hwd_] at F17 ⊢
  have wd20s : w14.heap.size <= wd20.heap.size := by rw [← hwd_]; exact Nat.le_refl _
  clear hwd_
  have hS19 := (And.intro (F17.c8 2) (F17.c8 1))
  refine ru_t 0 [1] ?_
  refine ru_t 1 [] ?_
  refine ru_t 2 [3] ?_
  refine ru_t 4 [] ?_
  (try simp only [lpX])
  clear hS19
  refine ru_o 3 fun K hK => ?_
  go_simp
  refine (layersOf_c x _).mono ?_
  rintro e w23 ⟨rfl, hg21⟩
  have hg21s := hg21.size
  (try simp at hg21s)
  replace F17 := F17.gn hg21
  refine ru_back hK (by exact ⟨F17.c8 2, F17.c8 1⟩) (fun _ => ?_)
  clear hK K
  (try simp only [lpX])
  refine ru_o 5 fun K hK => ?_
  go_simp
  refine (course_e lo hi _ _ _ _ l x _ (F17.s 5 rfl) (Nat.le_trans h2 F17.gb.size)).mono ?_
  rintro e w28 ⟨pd25, pd25e, rfl, hg26, hX25⟩
  have hg26s := hg26.size
  (try simp at hg26s)
  replace F17 := F17.add (rext pd25 (pd25 + 3) (HoldX pd25 (.slice sa l.cov.length sc) (.slice da dl.length dc) l x) (fun _ _ _ hg hr h => h.gb hg hr)) hg26 (hX25) (rext_in (by rw [← pd25e]; exact Nat.le_refl _) hX25.2.2.lt)
  refine ru_back_late hK (by kernel_rfl) ?_
  clear hK K
  (try simp only [lpX])
  refine ru_done (by kernel_rfl) ?_
  have Fn_ := ((F17.drop 2 rfl).drop 2 rfl)
  (try dsimp only [lpF, lpG] at Fn_)
  obtain ⟨w30, hx31, F33, hxs32⟩ := Fn_.name
  (try simp at hxs32)
  rw [hx31]
  clear hx31 F17 Fn_
  go_wp2_with fail
  replace F33 := F33.nilrow iceEnc 84 8
  refine wp_rangeI (gf := 87) (lb := #[.pointer (some ⟨pd25 + 1, 0, none⟩), .pointer (some ⟨pd25 + 2, 0, none⟩), .pointer (some ⟨pd25, 0, none⟩)]) rfl (enters_of Tryz.func87 (by kernel_rfl) rfl) (fun _ => rfl) (course_seq pd25 lo hi lo2 hi2 (.slice sa l.cov.length sc) (.slice da dl.length dc) l x dl HOK.out.1 HOK.out.2.2.1 HOK.out.2.2.2.2 HOK.out.2.2.2.1) (fun hq_ i A => ∃ (vo : Value), Bun w [rkeep w30.heap.size hq_ A, rown iceEnc 84 8 w.heap.size vo (runN l x dl i), rext pd25 (pd25 + 3) (HoldX pd25 (.slice sa l.cov.length sc) (.slice da dl.length dc) l x) (fun _ _ _ hg hr h => h.gb hg hr), rbox w9.heap.size 115 #[vo], rmarks [], rsl weaEnc 6 lo2 hi2 (.slice da dl.length dc) dl, rsl covEnc 3 lo hi (.slice sa l.cov.length sc) l.cov] A) (fun _ _ _ _ => False) ?hI34 ?hIx34 ?hH34 ?h034 ?round34 ?done34 ?stop34
  case hI34 =>
   rintro hq_ i A B r ⟨vo, F_⟩ hg hr
   exact ⟨vo, F_.rekeep hg hr⟩
  case hIx34 => exact fun _ _ _ _ _ _ h _ _ => h
  case hH34 =>
   rintro hq_ i A ⟨vo, F_⟩
   exact ⟨⟨(F_.at 2 rfl : HoldX _ _ _ _ _ _).1, (F_.at 2 rfl : HoldX _ _ _ _ _ _).2.1, (F_.at 2 rfl : HoldX _ _ _ _ _ _).2.2, (F_.s 6 rfl), (F_.s 5 rfl), (by omega), (by omega)⟩, F_.kept.1⟩
  case h034 =>
   intro hq_ B hg hs hle
   exact ⟨_, F33.keep0 hg (Nat.le_refl _) (by omega)⟩
  case round34 =>
   rintro l34 hi34 i W34 ⟨vo, F34_⟩ hlt34 hle34 hhW34
   clear F33
   (try simp only [iceC])
   gi_wp2_with fail
   have F36 := F34_.new 142 #[.int .i64 ((stI l x dl (i + 1)).bl.lo), .int .i64 ((stI l x dl (i + 1)).bl.hi), .int .i64 ((stI l x dl (i + 1)).wh.lo), .int .i64 ((stI l x dl (i + 1)).wh.hi), .int .i64 ((stI l x dl (i + 1)).we.lo), .int .i64 ((stI l x dl (i + 1)).we.hi), .int .i64 ((stI l x dl (i + 1)).sn.lo), .int .i64 ((stI l x dl (i + 1)).sn.hi)] (n := W34.heap.size) (by simp)
   clear F34_
   refine And.intro (F36.front 1 rfl rfl).kept (fun W34b hg34b => ?_)
   have hg34bs := hg34b.size
   (try simp at hg34bs)
   have F37 := (F36.front 1 rfl rfl).rekeep hg34b (fun g e => by cases e; omega)
   clear F36
   gi_wp2_with fail
   replace F37 := F37.drew
   refine ru_beginIn (fun W => W.cell? ⟨w9.heap.size, 0, none⟩ = some vo /\ W.cell? ⟨W34.heap.size, 0, none⟩ = some (.int .i64 ((stI l x dl (i + 1)).bl.lo)) /\ W.cell? ⟨W34.heap.size, 1, none⟩ = some (.int .i64 ((stI l x dl (i + 1)).bl.hi)) /\ W.cell? ⟨W34.heap.size, 2, none⟩ = some (.int .i64 ((stI l x dl (i + 1)).wh.lo)) /\ W.cell? ⟨W34.heap.size, 3, none⟩ = some (.int .i64 ((stI l x dl (i + 1)).wh.hi)) /\ W.cell? ⟨W34.heap.size, 4, none⟩ = some (.int .i64 ((stI l x dl (i + 1)).we.lo)) /\ W.cell? ⟨W34.heap.size, 5, none⟩ = some (.int .i64 ((stI l x dl (i + 1)).we.hi)) /\ W.cell? ⟨W34.heap.size, 6, none⟩ = some (.int .i64 ((stI l x dl (i + 1)).sn.lo)) /\ W.cell? ⟨W34.heap.size, 7, none⟩ = some (.int .i64 ((stI l x dl (i + 1)).sn.hi))) 5 (by kernel_rfl) (by kernel_rfl) (fun ⟨_, _, h_⟩ => h_) ?_ ?_
   · exact ⟨F37.q 4 0, F37.q 1 0, F37.q 1 1, F37.q 1 2, F37.q 1 3, F37.q 1 4, F37.q 1 5, F37.q 1 6, F37.q 1 7⟩
   obtain ⟨wd40, hwd_⟩ : ∃ x : World, W34b.drew = x := ⟨_, rfl⟩
   rw [hwd_] at F37 ⊢
   have wd40s : W34b.heap.size <= wd40.heap.size := by rw [← hwd_]; exact Nat.le_refl _
   clear hwd_
   have hS39 := (And.intro (F37.q 4 0) (And.intro (F37.q 1 0) (And.intro (F37.q 1 1) (And.intro (F37.q 1 2) (And.intro (F37.q 1 3) (And.intro (F37.q 1 4) (And.intro (F37.q 1 5) (And.intro (F37.q 1 6) (F37.q 1 7)))))))))
   refine ru_t 0 [] ?_
   refine ru_t 1 [] ?_
   (try simp only [lpX])
   clear hS39
   refine ru_o 2 fun K hK => ?_
   go_simp
   refine (lice_c (stI l x dl (i + 1)) _).mono ?_
   rintro e w43 ⟨rfl, hg41⟩
   have hg41s := hg41.size
   (try simp at hg41s)
   replace F37 := F37.gn hg41
   refine ru_back hK (by exact ⟨F37.q 4 0, F37.q 1 0, F37.q 1 1, F37.q 1 2, F37.q 1 3, F37.q 1 4, F37.q 1 5, F37.q 1 6, F37.q 1 7⟩) (fun _ => ?_)
   clear hK K
   (try simp only [lpX])
   refine ru_o 3 fun K hK => ?_
   go_simp
   replace F37 := F37.new 84 #[.int .i64 ((stI l x dl (i + 1)).bl.lo), .int .i64 ((stI l x dl (i + 1)).bl.hi), .int .i64 ((stI l x dl (i + 1)).wh.lo), .int .i64 ((stI l x dl (i + 1)).wh.hi), .int .i64 ((stI l x dl (i + 1)).we.lo), .int .i64 ((stI l x dl (i + 1)).we.hi), .int .i64 ((stI l x dl (i + 1)).sn.lo), .int .i64 ((stI l x dl (i + 1)).sn.hi)] (n := w43.heap.size) (by simp)
   refine ru_back hK (by exact ⟨F37.q 5 0, F37.q 2 0, F37.q 2 1, F37.q 2 2, F37.q 2 3, F37.q 2 4, F37.q 2 5, F37.q 2 6, F37.q 2 7⟩) (fun _ => ?_)
   clear hK K
   (try simp only [lpX])
   refine ru_o 4 fun K hK => ?_
   refine step_app _ okIce rfl _ _ rfl w.heap.size vo (runN l x dl i) [stI l x dl (i + 1)] rfl (by exact (F37.o 3 rfl)) ⟨_, 0, none⟩ 1 1 rfl rfl (by decide) (news_of (F37.b 0 rfl)) (i + 1) (by rw [runN_len]) (by omega) (by first | omega | (simp; omega)) _ rfl ?_
   intro g46 cap47 w48 hp49
   have hp49s := hp49.gb.size
   (try simp at hp49s)
   have F50 := (F37.front 3 rfl rfl).app hp49 (Nat.le_refl _)
   clear F37
   refine ru_back hK (by exact ⟨F50.q 5 0, F50.q 3 0, F50.q 3 1, F50.q 3 2, F50.q 3 3, F50.q 3 4, F50.q 3 5, F50.q 3 6, F50.q 3 7⟩) (fun _ => ?_)
   clear hK K
   (try simp only [lpX])
   refine ru_o 5 fun K hK => ?_
   have kb_ := F50.bx1 5 rfl
   go_simp
   clear kb_
   have F51 := ((F50.front 5 rfl rfl).set 0 (.slice (some ⟨g46, 0, none⟩) (i + 1) cap47)).nf #[.slice (some ⟨g46, 0, none⟩) (i + 1) cap47] rfl
   clear F50
   refine ru_back_late hK (by kernel_rfl) ?_
   clear hK K
   (try simp only [lpX])
   refine ru_done (by kernel_rfl) ?_
   have Fn_ := ((F51.drop 2 rfl).drop 3 rfl)
   (try dsimp only [lpF, lpG] at Fn_)
   obtain ⟨w52, hx53, F55, hxs54⟩ := Fn_.name
   (try simp at hxs54)
   rw [hx53]
   clear hx53 F51 Fn_
   gi_wp2_with fail
   have F56 : Bun w [rkeep w30.heap.size hi34 W34b, rown iceEnc 84 8 w.heap.size (.slice (some ⟨g46, 0, none⟩) (i + 1) cap47) (runN l x dl i ++ [stI l x dl (i + 1)]), rext pd25 (pd25 + 3) (HoldX pd25 (.slice sa l.cov.length sc) (.slice da dl.length dc) l x) (fun _ _ _ hg hr h => h.gb hg hr), rbox w9.heap.size 115 #[.slice (some ⟨g46, 0, none⟩) (i + 1) cap47], rmarks [], rsl weaEnc 6 lo2 hi2 (.slice da dl.length dc) dl, rsl covEnc 3 lo hi (.slice sa l.cov.length sc) l.cov] _ := F55.pick [2, 1, 3, 0, 4, 5, 6] (by decide) rfl
   clear F55
   refine And.intro F56.kept ?_
   exact ⟨_, (by rw [runN_succ]; exact F56.rekeep (gb_refl _ none) (fun _ e => by cases e))⟩
  case done34 =>
   rintro hi34 W34 hle34 ⟨vo, F34_⟩ hK34
   clear F33
   have F57 : Bun w [rkeep w30.heap.size hi34 W34, rmarks [], rown iceEnc 84 8 w.heap.size vo (runN l x dl dl.length), rext pd25 (pd25 + 3) (HoldX pd25 (.slice sa l.cov.length sc) (.slice da dl.length dc) l x) (fun _ _ _ hg hr h => h.gb hg hr), rbox w9.heap.size 115 #[vo], rsl weaEnc 6 lo2 hi2 (.slice da dl.length dc) dl, rsl covEnc 3 lo hi (.slice sa l.cov.length sc) l.cov] _ := F34_.pick [0, 4, 1, 2, 3, 5, 6] (by decide) rfl
   clear F34_
   have hiW34 := F57.kept.1
   replace F57 := F57.mark (by omega) hK34
   have b59 := F57.bx1 3 rfl
   go_wp2_with fail
   clear b59
   refine leave_marks F57.marks (.tuple #[vo, .int .i64 0]) fun w' hs => ?_
   exact ⟨by simp [results, Tryz.results57, go_sem], ⟨_, by rw [c11H.out], (hs.own ((F57.o 1 rfl)) : Own _ _ _ _ _ _ _).cast (by rw [runI, if_pos c11H.out]), hs.gb F57.gb (Nat.le_refl _)⟩⟩
  case stop34 =>
   intro _ _ _ _ _ _ h; exact h.elim
 obtain ⟨c11a, c11b⟩ := bqf c11
 have c11H := lhd c11
 clear c11
 go_wp2_with fail
 refine leave_marks (F1.front 2 rfl rfl).marks (.tuple #[.slice none 0 0, .int .i64 (allE l x dl)]) fun w' hs => ?_
 exact ⟨by simp [results, Tryz.results57, go_sem], ⟨_, rfl, (Own.nil _ _ _ _ _).cast (by rw [runI, if_neg c11H.out]), hs.gb (F1.front 2 rfl rfl).gb (Nat.le_refl _)⟩⟩
end Go.Proofs.YtcoldeolmleeiaaGreat
/- frost: Ready. -/
namespace Go.Proofs.YtcoldeolmleeiaaGreat
open Go.RowKit Go.Shelf
set_option maxRecDepth 100000
attribute [local go_sem] Oper.semAt_some
def sureB (l : Fro) (need : Int) (y : Ice) : Bool := decide (y.we.hi = 0) && decide (need <= (brs l y).lo)
def perhB (l : Fro) (need : Int) (y : Ice) : Bool := decide (y.we.lo = 0) && decide (need <= (brs l y).hi)
def fstP (p : Nat -> Bool) : Nat -> Int
 | 0 => 0
 | n + 1 => if fstP p n = 0 then (if p n = true then (n : Int) + 1 else 0) else fstP p n
theorem fstP_no {p : Nat -> Bool} : ∀ n : Nat, (∀ j, j < n -> p j = false) -> fstP p n = 0
 | 0, _ => rfl
 | n + 1, h => by rw [fstP, if_pos (fstP_no n fun j hj => h j (by omega)), if_neg (by rw [h n (by omega)]; simp)]
theorem fstP_yes {p : Nat -> Bool} {i : Nat} (h : ∀ j, j < i -> p j = false) (hi : p i = true) : ∀ n : Nat, i < n -> fstP p n = (i : Int) + 1
 | 0, hn => by omega
 | n + 1, hn => by
  rw [fstP]
  by_cases e : i = n
  · subst e; rw [if_pos (fstP_no i h), if_pos hi]
  · rw [fstP_yes h hi n (by omega), if_neg (by omega)]
noncomputable def readyE (l : Fro) (x : Ice) (dl : List Wea) (need : Int) : Int := if ¬ allE l x dl = 0 then allE l x dl else if need < 0 ∨ 5000 < need then 2 else 0
noncomputable def readyS (l : Fro) (x : Ice) (dl : List Wea) (need : Int) : Int := if readyE l x dl need = 0 then fstP (fun j => sureB l need (stI l x dl (j + 1))) dl.length else 0
noncomputable def readyP (l : Fro) (x : Ice) (dl : List Wea) (need : Int) : Int := if readyE l x dl need = 0 then fstP (fun j => perhB l need (stI l x dl (j + 1))) dl.length else 0
set_option maxHeartbeats 4000000 in
theorem sureB_c (lo hi : Nat) (v : Value) (l : Fro) (y : Ice) (k : Int) (pd pn : Nat) (need : Int) (w : World) (hl : Sl covEnc 3 lo hi w v l.cov) (h2 : hi <= w.heap.size) (hL : LawOk l) (hx : IceK y k k) (hk : 0 <= k /\ k <= 400) (hbd : Bk w pd 139 (froC l v)) (hbn : Bk w pn 3 #[.int .i64 need]) :
  Calls Tryz.prog 75 #[.agg (iceC y), .pointer (some ⟨pd, 0, none⟩), .pointer (some ⟨pn, 0, none⟩)] w (Ret (.bool (sureB l need y)) w) := by
 have F1 : Bun w [] w := Bun.nil _
 have hm_cs := hl.len
 unfold maxLen at hm_cs
 obtain ⟨sa, sc, rfl⟩ := hl.any
 replace F1 := F1.sl0 hl h2 rfl
 clear hl
 replace F1 := F1.fix0 hbd rfl
 replace F1 := F1.fix0 hbn rfl
 have HL := lhd hL
 have HX := lhd hx
 have hk0 := hk
 have hld := hbd.lt
 have hln := hbn.lt
 go_enter Tryz.func75, Tryz.ntmps75
 by_cases c5 : y.we.hi = 0
 ·
  obtain ⟨c5a, c5b⟩ := bqt c5
  have c5H := lhd c5
  clear c5
  go_wp2_with fail
  replace F1 := F1.new 142 (iceC y) (n := w.heap.size) (by simp)
  have Fn_ := F1
  (try dsimp only [lpF, lpG] at Fn_)
  obtain ⟨w7, hx8, F10, hxs9⟩ := Fn_.name
  (try simp at hxs9)
  rw [hx8]
  clear hx8 F1 Fn_
  replace F10 := F10.drew
  refine ru_begin (fun W => W.cell? ⟨w.heap.size, 5, none⟩ = some (.int .i64 y.we.hi) /\ W.cell? ⟨pd, 0, none⟩ = some (.int .i64 l.gr) /\ W.cell? ⟨pd, 1, none⟩ = some (.int .i64 l.la) /\ W.cell? ⟨pd, 2, none⟩ = some (.slice sa l.cov.length sc) /\ W.cell? ⟨pd, 3, none⟩ = some (.int .i64 l.melt.lo) /\ W.cell? ⟨pd, 4, none⟩ = some (.int .i64 l.melt.hi) /\ W.cell? ⟨pd, 5, none⟩ = some (.int .i64 l.soak) /\ W.cell? ⟨pd, 6, none⟩ = some (.int .i64 l.white.lo) /\ W.cell? ⟨pd, 7, none⟩ = some (.int .i64 l.white.hi) /\ C5 W w.heap.size (.int .i64 y.bl.lo) (.int .i64 y.bl.hi) (.int .i64 y.wh.lo) (.int .i64 y.wh.hi) (.int .i64 y.we.lo) /\ W.cell? ⟨w.heap.size, 6, none⟩ = some (.int .i64 y.sn.lo) /\ W.cell? ⟨w.heap.size, 7, none⟩ = some (.int .i64 y.sn.hi) /\ W.cell? ⟨pn, 0, none⟩ = some (.int .i64 need)) 12 (by kernel_rfl) ?_ ?_
  · exact ⟨F10.q 0 5, ((F10.b 2 rfl)).cell 0, ((F10.b 2 rfl)).cell 1, ((F10.b 2 rfl)).cell 2, ((F10.b 2 rfl)).cell 3, ((F10.b 2 rfl)).cell 4, ((F10.b 2 rfl)).cell 5, ((F10.b 2 rfl)).cell 6, ((F10.b 2 rfl)).cell 7, F10.c5 0, F10.q 0 6, F10.q 0 7, ((F10.b 1 rfl)).cell 0⟩
  obtain ⟨wd13, hwd_⟩ : ∃ x : World, w7.drew = x := ⟨_, rfl⟩
  rw [hwd_] at F10 ⊢
  have wd13s : w7.heap.size <= wd13.heap.size := by rw [← hwd_]; exact Nat.le_refl _
  clear hwd_
  have hS12 := (And.intro (F10.q 0 5) (And.intro (((F10.b 2 rfl)).cell 0) (And.intro (((F10.b 2 rfl)).cell 1) (And.intro (((F10.b 2 rfl)).cell 2) (And.intro (((F10.b 2 rfl)).cell 3) (And.intro (((F10.b 2 rfl)).cell 4) (And.intro (((F10.b 2 rfl)).cell 5) (And.intro (((F10.b 2 rfl)).cell 6) (And.intro (((F10.b 2 rfl)).cell 7) (And.intro (F10.c5 0) (And.intro (F10.q 0 6) (And.intro (F10.q 0 7) (((F10.b 1 rfl)).cell 0)))))))))))))
  refine ru_t 0 [] ?_
  refine ru_t 1 [] ?_
  refine ru_t 2 [] ?_
  refine ru_t 3 [] ?_
  refine ru_t 4 [] ?_
  refine ru_t 5 [] ?_
  refine ru_t 6 [] ?_
  refine ru_t 9 [] ?_
  (try simp only [lpX])
  clear hS12
  refine ru_o 7 fun K hK => ?_
  go_simp
  refine (bears_c lo hi _ l y k k _ (F10.s 3 rfl) (Nat.le_trans h2 F10.gb.size) HL.out HX.out (by omega)).mono ?_
  rintro e w16 ⟨rfl, hg14⟩
  have hg14s := hg14.size
  (try simp at hg14s)
  replace F10 := F10.gn hg14
  refine ru_back hK (by exact ⟨F10.q 0 5, ((F10.b 2 rfl)).cell 0, ((F10.b 2 rfl)).cell 1, ((F10.b 2 rfl)).cell 2, ((F10.b 2 rfl)).cell 3, ((F10.b 2 rfl)).cell 4, ((F10.b 2 rfl)).cell 5, ((F10.b 2 rfl)).cell 6, ((F10.b 2 rfl)).cell 7, F10.c5 0, F10.q 0 6, F10.q 0 7, ((F10.b 1 rfl)).cell 0⟩) (fun _ => ?_)
  clear hK K
  (try simp only [lpX])
  have hi18 : ∀ w, (Instr.field 32 (.agg #[.int .i64 ((brs l y).lo), .int .i64 ((brs l y).hi)]) 0).run Tryz.prog w = .ok (.int .i64 ((brs l y).lo)) w := fun _ => by kernel_rfl
  refine ru_p 8 ?_
  (try simp only [lpX])
  refine ru_p 10 ?_
  (try simp only [lpX])
  refine ru_p 11 ?_
  (try simp only [lpX])
  refine ru_o 12 fun K hK => ?_
  go_simp
  refine ru_back_late hK (by kernel_rfl) ?_
  clear hK K
  (try simp only [lpX])
  refine ru_done (by kernel_rfl) ?_
  (try clear hi18)
  have Fn_ := (F10.drop 0 rfl)
  (try dsimp only [lpF, lpG] at Fn_)
  obtain ⟨w19, hx20, F22, hxs21⟩ := Fn_.name
  (try simp at hxs21)
  rw [hx20]
  clear hx20 F10 Fn_
  have Hx23 := lhd (show ((sureB l need y : Bool)) = (decide (need <= (brs l y).lo)) by simp [sureB, c5H.out])
  go_wp2_with fail
  go_ret
  exact ⟨by rw [Hx23.out] <;> rfl, F22.gb⟩
 obtain ⟨c5a, c5b⟩ := bqf c5
 have c5H := lhd c5
 clear c5
 go_wp2_with fail
 replace F1 := F1.new 142 (iceC y) (n := w.heap.size) (by simp)
 have b25 := F1.bx8 0 rfl
 go_quiet (fail)
 clear b25
 replace F1 := F1.drewN nq
 have Fn_ := (F1.drop 0 rfl)
 (try dsimp only [lpF, lpG] at Fn_)
 obtain ⟨w27, hx28, F30, hxs29⟩ := Fn_.name
 (try simp at hxs29)
 rw [hx28]
 clear hx28 F1 Fn_
 have Hx31 := lhd (show ((sureB l need y : Bool)) = false by simp [sureB, c5H.out])
 go_wp2_with fail
 go_ret
 exact ⟨by rw [Hx31.out] <;> rfl, F30.gb⟩
set_option maxHeartbeats 4000000 in
theorem perhB_c (lo hi : Nat) (v : Value) (l : Fro) (y : Ice) (k : Int) (pd pn : Nat) (need : Int) (w : World) (hl : Sl covEnc 3 lo hi w v l.cov) (h2 : hi <= w.heap.size) (hL : LawOk l) (hx : IceK y k k) (hk : 0 <= k /\ k <= 400) (hbd : Bk w pd 139 (froC l v)) (hbn : Bk w pn 3 #[.int .i64 need]) :
  Calls Tryz.prog 77 #[.agg (iceC y), .pointer (some ⟨pd, 0, none⟩), .pointer (some ⟨pn, 0, none⟩)] w (Ret (.bool (perhB l need y)) w) := by
 have F1 : Bun w [] w := Bun.nil _
 have hm_cs := hl.len
 unfold maxLen at hm_cs
 obtain ⟨sa, sc, rfl⟩ := hl.any
 replace F1 := F1.sl0 hl h2 rfl
 clear hl
 replace F1 := F1.fix0 hbd rfl
 replace F1 := F1.fix0 hbn rfl
 have HL := lhd hL
 have HX := lhd hx
 have hk0 := hk
 have hld := hbd.lt
 have hln := hbn.lt
 go_enter Tryz.func77, Tryz.ntmps77
 by_cases c5 : y.we.lo = 0
 ·
  obtain ⟨c5a, c5b⟩ := bqt c5
  have c5H := lhd c5
  clear c5
  go_wp2_with fail
  replace F1 := F1.new 142 (iceC y) (n := w.heap.size) (by simp)
  have Fn_ := F1
  (try dsimp only [lpF, lpG] at Fn_)
  obtain ⟨w7, hx8, F10, hxs9⟩ := Fn_.name
  (try simp at hxs9)
  rw [hx8]
  clear hx8 F1 Fn_
  replace F10 := F10.drew
  refine ru_begin (fun W => W.cell? ⟨w.heap.size, 4, none⟩ = some (.int .i64 y.we.lo) /\ W.cell? ⟨pd, 0, none⟩ = some (.int .i64 l.gr) /\ W.cell? ⟨pd, 1, none⟩ = some (.int .i64 l.la) /\ W.cell? ⟨pd, 2, none⟩ = some (.slice sa l.cov.length sc) /\ W.cell? ⟨pd, 3, none⟩ = some (.int .i64 l.melt.lo) /\ W.cell? ⟨pd, 4, none⟩ = some (.int .i64 l.melt.hi) /\ W.cell? ⟨pd, 5, none⟩ = some (.int .i64 l.soak) /\ W.cell? ⟨pd, 6, none⟩ = some (.int .i64 l.white.lo) /\ W.cell? ⟨pd, 7, none⟩ = some (.int .i64 l.white.hi) /\ C4 W w.heap.size (.int .i64 y.bl.lo) (.int .i64 y.bl.hi) (.int .i64 y.wh.lo) (.int .i64 y.wh.hi) /\ W.cell? ⟨w.heap.size, 5, none⟩ = some (.int .i64 y.we.hi) /\ W.cell? ⟨w.heap.size, 6, none⟩ = some (.int .i64 y.sn.lo) /\ W.cell? ⟨w.heap.size, 7, none⟩ = some (.int .i64 y.sn.hi) /\ W.cell? ⟨pn, 0, none⟩ = some (.int .i64 need)) 12 (by kernel_rfl) ?_ ?_
  · exact ⟨F10.q 0 4, ((F10.b 2 rfl)).cell 0, ((F10.b 2 rfl)).cell 1, ((F10.b 2 rfl)).cell 2, ((F10.b 2 rfl)).cell 3, ((F10.b 2 rfl)).cell 4, ((F10.b 2 rfl)).cell 5, ((F10.b 2 rfl)).cell 6, ((F10.b 2 rfl)).cell 7, F10.c4 0, F10.q 0 5, F10.q 0 6, F10.q 0 7, ((F10.b 1 rfl)).cell 0⟩
  obtain ⟨wd13, hwd_⟩ : ∃ x : World, w7.drew = x := ⟨_, rfl⟩
  rw [hwd_] at F10 ⊢
  have wd13s : w7.heap.size <= wd13.heap.size := by rw [← hwd_]; exact Nat.le_refl _
  clear hwd_
  have hS12 := (And.intro (F10.q 0 4) (And.intro (((F10.b 2 rfl)).cell 0) (And.intro (((F10.b 2 rfl)).cell 1) (And.intro (((F10.b 2 rfl)).cell 2) (And.intro (((F10.b 2 rfl)).cell 3) (And.intro (((F10.b 2 rfl)).cell 4) (And.intro (((F10.b 2 rfl)).cell 5) (And.intro (((F10.b 2 rfl)).cell 6) (And.intro (((F10.b 2 rfl)).cell 7) (And.intro (F10.c4 0) (And.intro (F10.q 0 5) (And.intro (F10.q 0 6) (And.intro (F10.q 0 7) (((F10.b 1 rfl)).cell 0))))))))))))))
  refine ru_t 0 [] ?_
  refine ru_t 1 [] ?_
  refine ru_t 2 [] ?_
  refine ru_t 3 [] ?_
  refine ru_t 4 [] ?_
  refine ru_t 5 [] ?_
  refine ru_t 6 [] ?_
  refine ru_t 9 [] ?_
  (try simp only [lpX])
  clear hS12
  refine ru_o 7 fun K hK => ?_
  go_simp
  refine (bears_c lo hi _ l y k k _ (F10.s 3 rfl) (Nat.le_trans h2 F10.gb.size) HL.out HX.out (by omega)).mono ?_
  rintro e w16 ⟨rfl, hg14⟩
  have hg14s := hg14.size
  (try simp at hg14s)
  replace F10 := F10.gn hg14
  refine ru_back hK (by exact ⟨F10.q 0 4, ((F10.b 2 rfl)).cell 0, ((F10.b 2 rfl)).cell 1, ((F10.b 2 rfl)).cell 2, ((F10.b 2 rfl)).cell 3, ((F10.b 2 rfl)).cell 4, ((F10.b 2 rfl)).cell 5, ((F10.b 2 rfl)).cell 6, ((F10.b 2 rfl)).cell 7, F10.c4 0, F10.q 0 5, F10.q 0 6, F10.q 0 7, ((F10.b 1 rfl)).cell 0⟩) (fun _ => ?_)
  clear hK K
  (try simp only [lpX])
  have hi18 : ∀ w, (Instr.field 32 (.agg #[.int .i64 ((brs l y).lo), .int .i64 ((brs l y).hi)]) 1).run Tryz.prog w = .ok (.int .i64 ((brs l y).hi)) w := fun _ => by kernel_rfl
  refine ru_p 8 ?_
  (try simp only [lpX])
  refine ru_p 10 ?_
  (try simp only [lpX])
  refine ru_p 11 ?_
  (try simp only [lpX])
  refine ru_o 12 fun K hK => ?_
  go_simp
  refine ru_back_late hK (by kernel_rfl) ?_
  clear hK K
  (try simp only [lpX])
  refine ru_done (by kernel_rfl) ?_
  (try clear hi18)
  have Fn_ := (F10.drop 0 rfl)
  (try dsimp only [lpF, lpG] at Fn_)
  obtain ⟨w19, hx20, F22, hxs21⟩ := Fn_.name
  (try simp at hxs21)
  rw [hx20]
  clear hx20 F10 Fn_
  have Hx23 := lhd (show ((perhB l need y : Bool)) = (decide (need <= (brs l y).hi)) by simp [perhB, c5H.out])
  go_wp2_with fail
  go_ret
  exact ⟨by rw [Hx23.out] <;> rfl, F22.gb⟩
 obtain ⟨c5a, c5b⟩ := bqf c5
 have c5H := lhd c5
 clear c5
 go_wp2_with fail
 replace F1 := F1.new 142 (iceC y) (n := w.heap.size) (by simp)
 have b25 := F1.bx8 0 rfl
 go_quiet (fail)
 clear b25
 replace F1 := F1.drewN nq
 have Fn_ := (F1.drop 0 rfl)
 (try dsimp only [lpF, lpG] at Fn_)
 obtain ⟨w27, hx28, F30, hxs29⟩ := Fn_.name
 (try simp at hxs29)
 rw [hx28]
 clear hx28 F1 Fn_
 have Hx31 := lhd (show ((perhB l need y : Bool)) = false by simp [perhB, c5H.out])
 go_wp2_with fail
 go_ret
 exact ⟨by rw [Hx31.out] <;> rfl, F30.gb⟩
end Go.Proofs.YtcoldeolmleeiaaGreat
