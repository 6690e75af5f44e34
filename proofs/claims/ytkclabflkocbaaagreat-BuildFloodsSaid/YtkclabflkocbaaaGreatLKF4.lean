/- frost: contracts as the laws use them. -/
import Derived.Test.YtkclabflkocbaaaGreatLJ9
import Derived.Test.YtkclabflkocbaaaGreatLF31
import Derived.Test.YtkclabflkocbaaaGreatLKF1
import Derived.Test.YtkclabflkocbaaaGreatLKF2
import Derived.Test.YtkclabflkocbaaaGreatLK1
import Derived.Test.YtkclabflkocbaaaGreatLF22
import Derived.Test.YtkclabflkocbaaaGreatLF40
import Derived.Test.YtkclabflkocbaaaGreatLKA
set_option linter.unusedVariables false
set_option linter.unusedSimpArgs false
set_option linter.unnecessarySimpa false
namespace Go.Proofs.YtkclabflkocbaaaGreat
open Go.RowKit
set_option maxRecDepth 100000
theorem runN_get {l : Fro} {x : Ice} {dl : List Wea} {k n : Nat} (h : k < n) : (runN l x dl n)[k]? = some (stI l x dl (k + 1)) := by simp [runN, h]
theorem Own.slC {α : Type} {enc : α -> List Value} {e : TypeId} {sz base : Nat} {w : World} {v : Value} {l : List α} (h : Own enc e sz base w v l) (hsz : ∀ x, (enc x).length = sz) : ∃ (a : Option Addr) (c : Nat), v = .slice a l.length c /\ l.length <= c /\ Sl enc sz base w.heap.size w (.slice a l.length c) l := by
 have h1 := h.sl hsz
 obtain ⟨a, c, rfl⟩ := h1.any
 refine ⟨a, c, rfl, ?_, h1⟩
 obtain ⟨h0, h2⟩ := h
 rcases h2 with ⟨e2, hn⟩ | ⟨g, cap, cur, e2, hb, hh, hnc, hcm, hcs, htk⟩
 ·
  injection e2 with e3 e4 e5
  omega
 injection e2 with e3 e4 e5
 omega
def DaysS (sb : Nat) (most : Int) (frost : Bool) (w : World) : Ending -> World -> Prop := fun e w' => ∃ (l : List Wea) (a : Option Addr) (c lo hi : Nat), e = .returned (.slice a l.length c) /\ (w.heap.size <= lo /\ hi <= w'.heap.size /\ l.length <= c) /\ Sl weaEnc 6 lo hi w' (.slice a l.length c) l /\ (l.length : Int) <= most /\ (∀ d ∈ l, weaErr d = 0 /\ (frost = true -> 0 <= d.cold.lo)) /\ SeedAt w' sb /\ w.grownBy w' (some sb)
theorem daysOf_s (sb : Nat) (most : Int) (frost : Bool) (w : World) (hs : SeedAt w sb) (hm : 0 <= most /\ most <= 100) : Calls Tryz.prog 8 #[.pointer (some ⟨sb, 0, none⟩), .int .i64 most, .bool frost] w (DaysS sb most frost w) := by
 refine (daysOf_c sb most frost w hs hm).mono ?_
 rintro e w' ⟨vo, l, rfl, ho, h1, h2, h3, h4⟩
 obtain ⟨a, c, rfl, hc, hsl⟩ := ho.slC (fun _ => rfl)
 exact ⟨l, a, c, _, _, rfl, ⟨Nat.le_refl _, Nat.le_refl _, hc⟩, hsl, h1, h2, h3, h4⟩
theorem allE_of {l : Fro} {x : Ice} {ds : List Wea} (h1 : froErr l = 0) (h2 : iceErr x = 0) (h3 : ∀ d ∈ ds, weaErr d = 0) (h4 : ds.length <= 400) : allE l x ds = 0 := by
 rw [allE, if_neg (not_not_intro h1), if_neg (not_not_intro h2), daysE, if_neg (by omega)]
 exact daysErr_of ds h3
attribute [local go_sem] Oper.semAt_some
def RRunPost (l : Fro) (x : Ice) (dl : List Wea) (w : World) : Ending -> World -> Prop := fun e w' => ∃ (a : Option Addr) (c lo hi : Nat), e = .returned (.slice a dl.length c) /\ w.heap.size <= lo /\ hi <= w'.heap.size /\ Sl iceEnc 8 lo hi w' (.slice a dl.length c) (runN l x dl dl.length) /\ w.grownBy w' none
set_option maxHeartbeats 8000000 in
theorem rrunL_c (lo hi : Nat) (v : Value) (l : Fro) (x : Ice) (lo2 hi2 : Nat) (vd : Value) (dl : List Wea) (w : World) (hl : Sl covEnc 3 lo hi w v l.cov) (h2 : hi <= w.heap.size) (hl2 : Sl weaEnc 6 lo2 hi2 w vd dl) (h22 : hi2 <= w.heap.size) (hOK : LawOk l /\ iceErr x = 0 /\ IceK x 0 0 /\ dl.length <= 400 /\ ∀ d ∈ dl, WeaOk d) :
  Calls Tryz.prog 55 #[.agg (froC l v), .agg (iceC x), vd] w (RRunPost l x dl w) := by
 have F1 : Bun w [] w := Bun.nil _
 have hm_cs := hl.len
 unfold maxLen at hm_cs
 obtain ⟨sa, sc, rfl⟩ := hl.any
 replace F1 := F1.sl0 hl h2 rfl
 clear hl
 have hm_ds := hl2.len
 unfold maxLen at hm_ds
 obtain ⟨da, dc, rfl⟩ := hl2.any
 replace F1 := F1.sl0 hl2 h22 rfl
 clear hl2
 have hn4 := hOK.2.2.2.1
 have HK := lhd (stI_K hOK.1 hOK.2.2.1 hOK.2.2.2.2 hOK.2.2.2.1)
 have HOK := lhd hOK
 clear hOK
 go_enter Tryz.func55, Tryz.ntmps55
 go_wp2_with fail
 replace F1 := F1.new 26 (froC l (.slice sa l.cov.length sc)) (n := w.heap.size) (by simp)
 replace F1 := F1.new 28 (iceC x) (n := (w.heap.size + 1)) (by simp)
 replace F1 := F1.nilrow iceEnc 28 8
 (skip)
 obtain ⟨HI7_, HI70⟩ : ∃ I : RelT, I = (fun t ds wr => ∃ (k : Nat) (vo : Value), t 2 = .slice da dl.length dc /\ t 3 = .pointer (some ⟨w.heap.size, 0, none⟩) /\ t 4 = .pointer (some ⟨w.heap.size + 1, 0, none⟩) /\ t 7 = vo /\ t 8 = .int .i64 (k : Int) /\ k <= dl.length /\ ds = [] /\ w.heap.size <= wr.heap.size /\ Bun w [rown iceEnc 28 8 w.heap.size vo (runN l x dl k), rbox (w.heap.size + 1) 28 #[.int .i64 ((stI l x dl k).bl.lo), .int .i64 ((stI l x dl k).bl.hi), .int .i64 ((stI l x dl k).wh.lo), .int .i64 ((stI l x dl k).wh.hi), .int .i64 ((stI l x dl k).we.lo), .int .i64 ((stI l x dl k).we.hi), .int .i64 ((stI l x dl k).sn.lo), .int .i64 ((stI l x dl k).sn.hi)], rbox w.heap.size 26 (froC l (.slice sa l.cov.length sc)), rsl weaEnc 6 lo2 hi2 (.slice da dl.length dc) dl, rsl covEnc 3 lo hi (.slice sa l.cov.length sc) l.cov] wr) := ⟨_, rfl⟩
 have HI7 := lhd HI70
 clear HI70
 refine wp_loopS 27 rfl HI7_ (fun t wr => dl.length - (intOf (t 8)).toNat) ?atStart1 ?round1
 case round1 =>
  intro t ds wr hHid
  rw [HI7.out] at hHid
  obtain ⟨k, vo, e2, e3, e4, e7, e8, hrel⟩ := hHid
  have e : ((List.range 27).map t).toArray = #[t 0, t 1, t 2, t 3, t 4, t 5, t 6, t 7, t 8, t 9, t 10, t 11, t 12, t 13, t 14, t 15, t 16, t 17, t 18, t 19, t 20, t 21, t 22, t 23, t 24, t 25, t 26] := rfl
  (try dsimp only at e)
  rw [e2, e3, e4, e7, e8] at e
  rw [e]
  simp only [e8]
  clear e e2 e3 e4 e7 e8
  obtain ⟨hk, rfl, hs9, hF8⟩ := hrel
  clear F1
  obtain ⟨w10, rfl⟩ : ∃ x_ : World, x_ = wr := ⟨_, rfl⟩
  by_cases c11 : (k : Int) < (dl.length : Int)
  ·
   have c11H := lhd c11
   obtain ⟨x12, o13, e_⟩ := Sl.addr (hF8.s 3 rfl) (by omega)
   subst e_
   obtain ⟨z, hz14_⟩ : ∃ z_, dl[k]? = some z_ := ⟨_, List.getElem?_eq_getElem (by omega)⟩
   have hz14 := lhd hz14_
   clear hz14_
   go_wp2_with fail
   have F15 := hF8.drew
   clear hF8
   refine ru_begin (fun W => C8 W w.heap.size (.int .i64 l.gr) (.int .i64 l.la) (.slice sa l.cov.length sc) (.int .i64 l.melt.lo) (.int .i64 l.melt.hi) (.int .i64 l.soak) (.int .i64 l.white.lo) (.int .i64 l.white.hi) /\ C8 W (w.heap.size + 1) (.int .i64 ((stI l x dl k).bl.lo)) (.int .i64 ((stI l x dl k).bl.hi)) (.int .i64 ((stI l x dl k).wh.lo)) (.int .i64 ((stI l x dl k).wh.hi)) (.int .i64 ((stI l x dl k).we.lo)) (.int .i64 ((stI l x dl k).we.hi)) (.int .i64 ((stI l x dl k).sn.lo)) (.int .i64 ((stI l x dl k).sn.hi)) /\ W.cell? ⟨x12, o13 + k * 6, none⟩ = some (.int .i64 z.cold.lo) /\ W.cell? ⟨x12, o13 + k * 6 + 1, none⟩ = some (.int .i64 z.cold.hi) /\ W.cell? ⟨x12, o13 + k * 6 + 2, none⟩ = some (.int .i64 z.fall.lo) /\ W.cell? ⟨x12, o13 + k * 6 + 3, none⟩ = some (.int .i64 z.fall.hi) /\ W.cell? ⟨x12, o13 + k * 6 + 4, none⟩ = some (.int .i64 z.water) /\ W.cell? ⟨x12, o13 + k * 6 + 5, none⟩ = some (.bool z.clear)) 7 (by kernel_rfl) ?_ ?_
   · exact ⟨F15.c8 2, F15.c8 1, (Sl.cells (F15.at 3 rfl) hz14.out 0 _ rfl), (Sl.cells (F15.at 3 rfl) hz14.out 1 _ rfl), (Sl.cells (F15.at 3 rfl) hz14.out 2 _ rfl), (Sl.cells (F15.at 3 rfl) hz14.out 3 _ rfl), (Sl.cells (F15.at 3 rfl) hz14.out 4 _ rfl), (Sl.cells (F15.at 3 rfl) hz14.out 5 _ rfl)⟩
   obtain ⟨wd17, hwd_⟩ : ∃ x : World, w10.drew = x := ⟨_, rfl⟩
   rw [hwd_] at F15 ⊢
   have wd17s : w10.heap.size <= wd17.heap.size := by rw [← hwd_]; exact Nat.le_refl _
   clear hwd_
   have hS16 := (And.intro (F15.c8 2) (And.intro (F15.c8 1) (And.intro ((Sl.cells (F15.at 3 rfl) hz14.out 0 _ rfl)) (And.intro ((Sl.cells (F15.at 3 rfl) hz14.out 1 _ rfl)) (And.intro ((Sl.cells (F15.at 3 rfl) hz14.out 2 _ rfl)) (And.intro ((Sl.cells (F15.at 3 rfl) hz14.out 3 _ rfl)) (And.intro ((Sl.cells (F15.at 3 rfl) hz14.out 4 _ rfl)) ((Sl.cells (F15.at 3 rfl) hz14.out 5 _ rfl)))))))))
   refine ru_t 0 [] ?_
   refine ru_t 1 [] ?_
   refine ru_t 2 [] ?_
   refine ru_t 3 [] ?_
   refine ru_t 4 [] ?_
   refine ru_t 5 [] ?_
   (try simp only [lpX])
   clear hS16
   refine ru_o 6 fun K hK => ?_
   go_simp
   refine (rstep_c lo hi _ l (stI l x dl k) k z _ (F15.s 4 rfl) (Nat.le_trans h2 F15.gb.size) HOK.out.1 (HK.out k hk) (by omega) (HOK.out.2.2.2.2 _ (List.mem_of_getElem? hz14.out))).mono ?_
   rintro e w20 ⟨rfl, hg18⟩
   have hg18s := hg18.size
   (try simp at hg18s)
   replace F15 := F15.gn hg18
   refine ru_back hK (by exact ⟨F15.c8 2, F15.c8 1, (Sl.cells (F15.at 3 rfl) hz14.out 0 _ rfl), (Sl.cells (F15.at 3 rfl) hz14.out 1 _ rfl), (Sl.cells (F15.at 3 rfl) hz14.out 2 _ rfl), (Sl.cells (F15.at 3 rfl) hz14.out 3 _ rfl), (Sl.cells (F15.at 3 rfl) hz14.out 4 _ rfl), (Sl.cells (F15.at 3 rfl) hz14.out 5 _ rfl)⟩) (fun _ => ?_)
   clear hK K
   (try simp only [lpX])
   refine ru_o 7 fun K hK => ?_
   have kb_ := F15.bx8 1 rfl
   go_simp
   clear kb_
   have F22 := (F15.front 1 rfl rfl).pt8 (.int .i64 ((aft l (stI l x dl k) z).bl.lo)) (.int .i64 ((aft l (stI l x dl k) z).bl.hi)) (.int .i64 ((aft l (stI l x dl k) z).wh.lo)) (.int .i64 ((aft l (stI l x dl k) z).wh.hi)) (.int .i64 ((aft l (stI l x dl k) z).we.lo)) (.int .i64 ((aft l (stI l x dl k) z).we.hi)) (.int .i64 ((aft l (stI l x dl k) z).sn.lo)) (.int .i64 ((aft l (stI l x dl k) z).sn.hi))
   clear F15
   refine ru_back_late hK (by kernel_rfl) ?_
   clear hK K
   (try simp only [lpX])
   refine ru_done (by kernel_rfl) ?_
   have Fn_ := F22
   (try dsimp only [lpF, lpG] at Fn_)
   obtain ⟨w23, hx24, F26, hxs25⟩ := Fn_.name
   (try simp at hxs25)
   rw [hx24]
   clear hx24 F22 Fn_
   have b27 := F26.bx8 0 rfl
   go_wp2_with (at_builtin; refine wpList_app _ okIce rfl _ _ rfl w.heap.size vo (runN l x dl k) [aft l (stI l x dl k) z] rfl (by exact ((F26.o 1 rfl)).alloc _) ⟨_, 0, none⟩ 1 1 rfl rfl (by decide) (news_of (Bk.newAt _ _ _ (by simp))) (k + 1) (by rw [runN_len]) (by omega) (by first | omega | (simp; omega)) _ rfl ?_; intro g28 cap29 w30 hp31; refine Hid.out ?_)
   refine lhd ?_
   have hp31s := hp31.gb.size
   (try simp at hp31s)
   clear b27
   have F32 := ((F26.alloc (.cells #[.int .i64 ((aft l (stI l x dl k) z).bl.lo), .int .i64 ((aft l (stI l x dl k) z).bl.hi), .int .i64 ((aft l (stI l x dl k) z).wh.lo), .int .i64 ((aft l (stI l x dl k) z).wh.hi), .int .i64 ((aft l (stI l x dl k) z).we.lo), .int .i64 ((aft l (stI l x dl k) z).we.hi), .int .i64 ((aft l (stI l x dl k) z).sn.lo), .int .i64 ((aft l (stI l x dl k) z).sn.hi)] 28)).front 1 rfl rfl).app hp31 (by simp)
   clear F26
   go_wp2_with fail
   (first | refine ⟨rfl, ?_, ?_⟩ | refine ⟨?_, ?_⟩)
   · rw [HI7.out]; exact ⟨k + 1, _, rfl, rfl, rfl, rfl, (by show Value.int .i64 ((k : Int) + 1) = _; simp), (by omega), (by first | rfl | simp), (by first | omega | (simp; done) | (simp; omega)), (by rw [runN_succ, stI_succ hz14.out]; exact F32)⟩
   · simp [slot, intOf]; omega
  have c11H := lhd c11
  have c11a := dec_f c11
  go_wp2_with fail
  exact bodyPost_ret (v := vo) (by simp [results, Tryz.results55, go_sem]) rfl ((by obtain ⟨a_, c_, e_, s_⟩ := Own.slN (hF8.o 0 rfl) (fun _ => rfl) (runN_len _ _ _ _); subst e_; obtain rfl : k = dl.length := (by omega); exact ⟨a_, c_, _, _, rfl, Nat.le_refl _, Nat.le_refl _, s_, hF8.gb⟩))
 case atStart1 =>
  rw [HI7.out]
  exact ⟨0, _, rfl, rfl, rfl, rfl, rfl, Nat.zero_le _, rfl, (by first | exact Nat.le_refl _ | omega | (simp; done) | (simp; omega)), F1⟩
end Go.Proofs.YtkclabflkocbaaaGreat
/- the reference of frost: bearing. -/
namespace Go.Proofs.YtkclabflkocbaaaGreat
open Go.RowKit
set_option maxRecDepth 100000
theorem rng_rbears_c (t : Nat -> Value) : ((List.range 43).map t).toArray = List.toArray [t 0, t 1, t 2, t 3, t 4, t 5, t 6, t 7, t 8, t 9, t 10, t 11, t 12, t 13, t 14, t 15, t 16, t 17, t 18, t 19, t 20, t 21, t 22, t 23, t 24, t 25, t 26, t 27, t 28, t 29, t 30, t 31, t 32, t 33, t 34, t 35, t 36, t 37, t 38, t 39, t 40, t 41, t 42] := rfl
set_option maxHeartbeats 8000000 in
theorem rbears_c (lo hi : Nat) (v : Value) (l : Fro) (x : Ice) (k m : Int) (w : World) (hl : Sl covEnc 3 lo hi w v l.cov) (h2 : hi <= w.heap.size) (hL : LawOk l) (hx : IceK x k m) (hk : (0 <= k /\ k <= 401) /\ 0 <= m /\ m <= 401) :
  Calls Tryz.prog 58 #[.agg (froC l v), .agg (iceC x)] w (Ret (.tuple #[.agg #[.int .i64 ((brs l x).lo), .int .i64 ((brs l x).hi)], .int .i64 (soundV x)]) w) := by
 have F1 : Bun w [] w := Bun.nil _
 have hm_cs := hl.len
 unfold maxLen at hm_cs
 obtain ⟨sa, sc, rfl⟩ := hl.any
 replace F1 := F1.sl0 hl h2 rfl
 clear hl
 obtain ⟨⟨hg1, hg2⟩, ⟨hl1, hl2⟩, ⟨hn1, hn2⟩, hpt, ⟨hm1, hm2, hm3⟩, ⟨hs1, hs2⟩, ⟨hw1, hw2, hw3⟩⟩ := id hL
 have HL := lhd hL
 clear hL hpt
 obtain ⟨⟨⟨xb1, xb2⟩, xb3, xb4⟩, ⟨⟨xw1, xw2⟩, xw3, xw4⟩, ⟨xe1, xe2⟩, ⟨xs1, xs2⟩, xm1, xm2⟩ := hx
 go_enter Tryz.func58, Tryz.ntmps58
 go_wp2_with fail
 replace F1 := F1.new 26 (froC l (.slice sa l.cov.length sc)) (n := w.heap.size) (by simp)
 replace F1 := F1.new 28 (iceC x) (n := (w.heap.size + 1)) (by simp)
 replace F1 := F1.new 24 #[.int .i64 0, .int .i64 0] (n := (w.heap.size + 2)) (by simp)
 have Fn_ := F1
 (try dsimp only [lpF, lpG] at Fn_)
 obtain ⟨w8, hx9, F11, hxs10⟩ := Fn_.name
 (try simp at hxs10)
 rw [hx9]
 clear hx9 F1 Fn_
 replace F11 := F11.drew
 refine ru_begin (fun W => W.cell? ⟨(w.heap.size + 1), 0, none⟩ = some (.int .i64 x.bl.lo) /\ W.cell? ⟨(w.heap.size + 1), 2, none⟩ = some (.int .i64 x.wh.lo) /\ W.cell? ⟨w.heap.size, 6, none⟩ = some (.int .i64 l.white.lo) /\ W.cell? ⟨(w.heap.size + 1), 1, none⟩ = some (.int .i64 x.bl.hi) /\ W.cell? ⟨(w.heap.size + 1), 3, none⟩ = some (.int .i64 x.wh.hi) /\ W.cell? ⟨w.heap.size, 7, none⟩ = some (.int .i64 l.white.hi)) 24 (by kernel_rfl) ?_ ?_
 · exact ⟨F11.q 1 0, F11.q 1 2, F11.q 2 6, F11.q 1 1, F11.q 1 3, F11.q 2 7⟩
 obtain ⟨wd14, hwd_⟩ : ∃ x : World, w8.drew = x := ⟨_, rfl⟩
 rw [hwd_] at F11 ⊢
 have wd14s : w8.heap.size <= wd14.heap.size := by rw [← hwd_]; exact Nat.le_refl _
 clear hwd_
 have hS13 := (And.intro (F11.q 1 0) (And.intro (F11.q 1 2) (And.intro (F11.q 2 6) (And.intro (F11.q 1 1) (And.intro (F11.q 1 3) (F11.q 2 7))))))
 refine ru_t 0 [] ?_
 refine ru_t 1 [] ?_
 refine ru_t 2 [] ?_
 refine ru_t 3 [] ?_
 refine ru_t 4 [] ?_
 refine ru_t 5 [] ?_
 refine ru_t 6 [] ?_
 refine ru_t 7 [] ?_
 refine ru_t 8 [] ?_
 refine ru_t 11 [] ?_
 refine ru_t 12 [] ?_
 refine ru_t 13 [] ?_
 refine ru_t 14 [] ?_
 refine ru_t 15 [] ?_
 refine ru_t 16 [] ?_
 refine ru_t 17 [] ?_
 refine ru_t 18 [] ?_
 refine ru_t 19 [] ?_
 (try simp only [lpX])
 clear hS13
 have hSS : ∀ (LA : List Res) (W : World), Bun w ([rbox (w.heap.size + 2) 24 #[.int .i64 0, .int .i64 0], rbox (w.heap.size + 1) 28 (iceC x), rbox w.heap.size 26 (froC l (.slice sa l.cov.length sc)), rsl covEnc 3 lo hi (.slice sa l.cov.length sc) l.cov] ++ LA) W /\ w8.heap.size <= W.heap.size -> W.cell? ⟨(w.heap.size + 1), 0, none⟩ = some (.int .i64 x.bl.lo) /\ W.cell? ⟨(w.heap.size + 1), 2, none⟩ = some (.int .i64 x.wh.lo) /\ W.cell? ⟨w.heap.size, 6, none⟩ = some (.int .i64 l.white.lo) /\ W.cell? ⟨(w.heap.size + 1), 1, none⟩ = some (.int .i64 x.bl.hi) /\ W.cell? ⟨(w.heap.size + 1), 3, none⟩ = some (.int .i64 x.wh.hi) /\ W.cell? ⟨w.heap.size, 7, none⟩ = some (.int .i64 l.white.hi) := fun _ _ ⟨F_, _⟩ => ⟨F_.q 1 0, F_.q 1 2, F_.q 2 6, F_.q 1 1, F_.q 1 3, F_.q 2 7⟩
 refine ru_mix (goodBunS _ w8.heap.size) 43 [⟨23, 6, 24, #[.int .i64 0, .int .i64 0], ptrOf⟩] [9, 10, 20, 21, 22] 1 (by kernel_rfl) (by kernel_rfl) (fun _ _ _ _ _ h => h) (V := fun t => True) (U0 := (fun t => t 3 = .pointer (some ⟨w.heap.size + 1, 0, none⟩) /\ t 4 = .pointer (some ⟨w.heap.size + 2, 0, none⟩) /\ t 9 = .int .i64 x.bl.lo /\ t 12 = .int .i64 x.wh.lo /\ t 15 = .int .i64 l.white.lo /\ t 20 = .int .i64 x.bl.hi /\ t 23 = .int .i64 x.wh.hi /\ t 26 = .int .i64 l.white.hi)) (Um := (fun t => t 3 = .pointer (some ⟨w.heap.size + 1, 0, none⟩) /\ t 4 = .pointer (some ⟨w.heap.size + 2, 0, none⟩) /\ t 29 = .agg #[.int .i64 (x.bl.lo + (dn x.wh.lo l.white.lo)), .int .i64 (x.bl.hi + (upp x.wh.hi l.white.hi))])) (L0 := [rbox (w.heap.size + 2) 24 #[.int .i64 0, .int .i64 0], rbox (w.heap.size + 1) 28 (iceC x), rbox w.heap.size 26 (froC l (.slice sa l.cov.length sc)), rsl covEnc 3 lo hi (.slice sa l.cov.length sc) l.cov]) (Lm := [rbox (w.heap.size + 2) 24 #[.int .i64 0, .int .i64 0], rbox (w.heap.size + 1) 28 (iceC x), rbox w.heap.size 26 (froC l (.slice sa l.cov.length sc)), rsl covEnc 3 lo hi (.slice sa l.cov.length sc) l.cov]) ?chM15 ?alM15 ⟨(by kernel_rfl), rfl, ⟨(by kernel_rfl), (by kernel_rfl), (by kernel_rfl), (by kernel_rfl), (by kernel_rfl), (by kernel_rfl), (by kernel_rfl), (by kernel_rfl)⟩⟩ ⟨F11, (by first | assumption | omega)⟩ ?restM15
 case chM15 =>
  refine Chain.callS 9 (fun t => t 3 = .pointer (some ⟨w.heap.size + 1, 0, none⟩) /\ t 4 = .pointer (some ⟨w.heap.size + 2, 0, none⟩) /\ t 9 = .int .i64 x.bl.lo /\ t 16 = .int .i64 (dn x.wh.lo l.white.lo) /\ t 20 = .int .i64 x.bl.hi /\ t 23 = .int .i64 x.wh.hi /\ t 26 = .int .i64 l.white.hi) (lfm ⟨fun _ _ u => u, fun _ h => (by cases h)⟩) hSS (fun t ⟨e3, e4, e9, e12, e15, e20, e23, e26⟩ => trivial) (by kernel_rfl) ?_ ?_
  ·
   rintro t w_ LA ⟨e3, e4, e9, e12, e15, e20, e23, e26⟩ ⟨F_, hwn_⟩
   have hws := F_.gb.size
   rw [rng_rbears_c t, e3, e4, e9, e12, e15, e20, e23, e26]
   clear e3 e4 e9 e12 e15 e20 e23 e26
   refine wpOp_stepH rfl (fun K hK => ?_)
   go_simp
   refine (rdown_c _ _ _ (by omega) (by omega) (by omega) (by omega)).mono ?_
   rintro e _ ⟨rfl, rfl⟩
   have hd16 := dn_bd (n := x.wh.lo) (p := l.white.lo) (by omega) (by omega) (by omega)
   exact hK.out _ _ ⟨(by kernel_rfl), rfl, ⟨(by kernel_rfl), (by kernel_rfl), (by kernel_rfl), (by kernel_rfl), (by kernel_rfl), (by kernel_rfl), (by kernel_rfl)⟩, lfm ⟨(by kernel_rfl), fun _ h => (by cases h)⟩, ⟨F_, hwn_⟩, hSS _ _ ⟨F_, hwn_⟩⟩
  refine Chain.pureS 10 (fun t => t 3 = .pointer (some ⟨w.heap.size + 1, 0, none⟩) /\ t 4 = .pointer (some ⟨w.heap.size + 2, 0, none⟩) /\ t 17 = .int .i64 (x.bl.lo + (dn x.wh.lo l.white.lo)) /\ t 20 = .int .i64 x.bl.hi /\ t 23 = .int .i64 x.wh.hi /\ t 26 = .int .i64 l.white.hi) rfl (lfm ⟨fun _ _ u => u, fun _ h => (by cases h)⟩) hSS (fun t ⟨e3, e4, e9, e16, e20, e23, e26⟩ => trivial) (by kernel_rfl) ?_ ?_
  ·
   rintro t ⟨e3, e4, e9, e16, e20, e23, e26⟩
   rw [rng_rbears_c t, e3, e4, e9, e16, e20, e23, e26]
   clear e3 e4 e9 e16 e20 e23 e26
   have hd16 := dn_bd (n := x.wh.lo) (p := l.white.lo) (by omega) (by omega) (by omega)
   have hw17 : IntKind.i64.wrap (x.bl.lo + (dn x.wh.lo l.white.lo)) = x.bl.lo + (dn x.wh.lo l.white.lo) := IntWalk.i64_in _ (by omega)
   refine ⟨.int .i64 (x.bl.lo + (dn x.wh.lo l.white.lo)), .inl ⟨by first | kernel_rfl | rfl, ?_⟩, ⟨(by kernel_rfl), rfl⟩, ⟨(by kernel_rfl), (by kernel_rfl), (by kernel_rfl), (by kernel_rfl), (by kernel_rfl), (by kernel_rfl)⟩, lfm ⟨(by kernel_rfl), fun _ h => (by cases h)⟩⟩
   intro wS _
   go_simp
   (try with_reducible rfl)
  refine Chain.callS 20 (fun t => t 3 = .pointer (some ⟨w.heap.size + 1, 0, none⟩) /\ t 4 = .pointer (some ⟨w.heap.size + 2, 0, none⟩) /\ t 17 = .int .i64 (x.bl.lo + (dn x.wh.lo l.white.lo)) /\ t 20 = .int .i64 x.bl.hi /\ t 27 = .int .i64 (upp x.wh.hi l.white.hi)) (lfm ⟨fun _ _ u => u, fun _ h => (by cases h)⟩) hSS (fun t ⟨e3, e4, e17, e20, e23, e26⟩ => trivial) (by kernel_rfl) ?_ ?_
  ·
   rintro t w_ LA ⟨e3, e4, e17, e20, e23, e26⟩ ⟨F_, hwn_⟩
   have hd16 := dn_bd (n := x.wh.lo) (p := l.white.lo) (by omega) (by omega) (by omega)
   have hws := F_.gb.size
   rw [rng_rbears_c t, e3, e4, e17, e20, e23, e26]
   clear e3 e4 e17 e20 e23 e26
   refine wpOp_stepH rfl (fun K hK => ?_)
   go_simp
   refine (rup_c _ _ _ (by omega) (by omega) (by omega) (by omega)).mono ?_
   rintro e _ ⟨rfl, rfl⟩
   have hd18 := up_bd (n := x.wh.hi) (p := l.white.hi) (by omega) (by omega) (by omega)
   exact hK.out _ _ ⟨(by kernel_rfl), rfl, ⟨(by kernel_rfl), (by kernel_rfl), (by kernel_rfl), (by kernel_rfl), (by kernel_rfl)⟩, lfm ⟨(by kernel_rfl), fun _ h => (by cases h)⟩, ⟨F_, hwn_⟩, hSS _ _ ⟨F_, hwn_⟩⟩
  refine Chain.pureS 21 (fun t => t 3 = .pointer (some ⟨w.heap.size + 1, 0, none⟩) /\ t 4 = .pointer (some ⟨w.heap.size + 2, 0, none⟩) /\ t 17 = .int .i64 (x.bl.lo + (dn x.wh.lo l.white.lo)) /\ t 28 = .int .i64 (x.bl.hi + (upp x.wh.hi l.white.hi))) rfl (lfm ⟨fun _ _ u => u, fun _ h => (by cases h)⟩) hSS (fun t ⟨e3, e4, e17, e20, e27⟩ => trivial) (by kernel_rfl) ?_ ?_
  ·
   rintro t ⟨e3, e4, e17, e20, e27⟩
   rw [rng_rbears_c t, e3, e4, e17, e20, e27]
   clear e3 e4 e17 e20 e27
   have hd16 := dn_bd (n := x.wh.lo) (p := l.white.lo) (by omega) (by omega) (by omega)
   have hd18 := up_bd (n := x.wh.hi) (p := l.white.hi) (by omega) (by omega) (by omega)
   have hw19 : IntKind.i64.wrap (x.bl.hi + (upp x.wh.hi l.white.hi)) = x.bl.hi + (upp x.wh.hi l.white.hi) := IntWalk.i64_in _ (by omega)
   refine ⟨.int .i64 (x.bl.hi + (upp x.wh.hi l.white.hi)), .inl ⟨by first | kernel_rfl | rfl, ?_⟩, ⟨(by kernel_rfl), rfl⟩, ⟨(by kernel_rfl), (by kernel_rfl), (by kernel_rfl), (by kernel_rfl)⟩, lfm ⟨(by kernel_rfl), fun _ h => (by cases h)⟩⟩
   intro wS _
   go_simp
   (try with_reducible rfl)
  refine Chain.pureS 22 (fun t => t 3 = .pointer (some ⟨w.heap.size + 1, 0, none⟩) /\ t 4 = .pointer (some ⟨w.heap.size + 2, 0, none⟩) /\ t 29 = .agg #[.int .i64 (x.bl.lo + (dn x.wh.lo l.white.lo)), .int .i64 (x.bl.hi + (upp x.wh.hi l.white.hi))]) rfl (lfm ⟨fun _ _ u => u, fun _ h => (by cases h)⟩) hSS (fun t ⟨e3, e4, e17, e28⟩ => trivial) (by kernel_rfl) ?_ ?_
  ·
   rintro t ⟨e3, e4, e17, e28⟩
   rw [rng_rbears_c t, e3, e4, e17, e28]
   clear e3 e4 e17 e28
   have hd16 := dn_bd (n := x.wh.lo) (p := l.white.lo) (by omega) (by omega) (by omega)
   have hd18 := up_bd (n := x.wh.hi) (p := l.white.hi) (by omega) (by omega) (by omega)
   refine ⟨.agg #[.int .i64 (x.bl.lo + (dn x.wh.lo l.white.lo)), .int .i64 (x.bl.hi + (upp x.wh.hi l.white.hi))], .inl ⟨by first | kernel_rfl | rfl, ?_⟩, ⟨(by kernel_rfl), rfl⟩, ⟨(by kernel_rfl), (by kernel_rfl), (by kernel_rfl)⟩, lfm ⟨(by kernel_rfl), fun _ h => (by cases h)⟩⟩
   intro wS _
   go_simp
   (try with_reducible rfl)
  exact Chain.nil _ _ _ (lfm ⟨fun _ _ u => u, fun _ h => (by cases h)⟩) hSS (fun t ⟨e3, e4, e29⟩ => trivial)
 case alM15 => exact lfm ⟨fun _ _ _ _ h => wpOp_step rfl (fun K hK => by go_simp; exact hK _ _ h), fun _ h => (by cases h)⟩
 case restM15 =>
  rintro t w23 g ⟨e3, e4, e29⟩ hA ⟨F_, hwnM15⟩
  clear hSS
  clear F11
  have hA0 : t 6 = .pointer (some ⟨g 23, 0, none⟩) := hA _ (.head _)
  have F24 : Bun w [rbox (g 23) 24 #[.int .i64 0, .int .i64 0], rbox (w.heap.size + 2) 24 #[.int .i64 0, .int .i64 0], rbox (w.heap.size + 1) 28 (iceC x), rbox w.heap.size 26 (froC l (.slice sa l.cov.length sc)), rsl covEnc 3 lo hi (.slice sa l.cov.length sc) l.cov] w23 := F_
  clear hA F_
  obtain ⟨g22, hgx_⟩ : ∃ x_, g 23 = x_ := ⟨_, rfl⟩
  rw [hgx_] at hA0 F24; clear hgx_
  have hd16 := dn_bd (n := x.wh.lo) (p := l.white.lo) (by omega) (by omega) (by omega)
  have hd18 := up_bd (n := x.wh.hi) (p := l.white.hi) (by omega) (by omega) (by omega)
  have hws := F24.gb.size
  have g22l := (F24.bx2 0 rfl).2.2
  rw [rng_rbears_c t, e3, e4, e29, hA0]
  clear e3 e4 e29 hA0
  refine ru_o 24 fun K hK => ?_
  have kb_ := F24.bx2 0 rfl
  go_simp
  clear kb_
  replace F24 := F24.pt2 (.int .i64 (x.bl.lo + (dn x.wh.lo l.white.lo))) (.int .i64 (x.bl.hi + (upp x.wh.hi l.white.hi)))
  refine ru_back_late hK (by kernel_rfl) ?_
  clear hK K
  (try simp only [lpX])
  refine ru_done (by kernel_rfl) ?_
  have Fn_ := (F24.drop 3 rfl)
  (try dsimp only [lpF, lpG] at Fn_)
  obtain ⟨w26, hx27, F29, hxs28⟩ := Fn_.name
  (try simp at hxs28)
  rw [hx27]
  clear hx27 F24 Fn_
  by_cases c30 : x.we.hi = 0
  ·
   obtain ⟨c30a, c30b⟩ := bqt c30
   have c30H := lhd c30
   clear c30
   have Hx31 := lhd (show ((brs l x).lo) = x.bl.lo + (dn x.wh.lo l.white.lo) by rfl)
   have Hx32 := lhd (show ((brs l x).hi) = x.bl.hi + (upp x.wh.hi l.white.hi) by rfl)
   have Hx33 := lhd (show (soundV x) = 1 by unfold soundV; (repeat' split) <;> first | rfl | (exfalso; have := c30H.out; omega))
   have b34 := F29.bx2 0 rfl
   have b35 := F29.bx2 1 rfl
   have b36 := F29.bx8 2 rfl
   go_wp2_with fail
   clear b34 b35 b36
   have F37 := (F29.front 1 rfl rfl).pt2 (.int .i64 (x.bl.lo + (dn x.wh.lo l.white.lo))) (.int .i64 (x.bl.hi + (upp x.wh.hi l.white.hi)))
   clear F29
   have kb38 := F37.bx2 0 rfl
   go_wp2_with fail
   exact bodyPost_ret (v := .tuple #[.agg #[.int .i64 (x.bl.lo + (dn x.wh.lo l.white.lo)), .int .i64 (x.bl.hi + (upp x.wh.hi l.white.hi))], .int .i64 1]) (by simp [results, Tryz.results58, go_sem, kb38]) rfl (⟨by rw [Hx31.out, Hx32.out, Hx33.out] <;> rfl, F37.gb⟩)
  obtain ⟨c30a, c30b⟩ := bqf c30
  have c30H := lhd c30
  clear c30
  by_cases c39 : 0 < x.we.lo
  ·
   have c39H := lhd c39
   have Hx40 := lhd (show ((brs l x).lo) = x.bl.lo + (dn x.wh.lo l.white.lo) by rfl)
   have Hx41 := lhd (show ((brs l x).hi) = x.bl.hi + (upp x.wh.hi l.white.hi) by rfl)
   have Hx42 := lhd (show (soundV x) = 2 by unfold soundV; (repeat' split) <;> first | rfl | (exfalso; have := c30H.out; have := c39H.out; omega))
   have b43 := F29.bx2 0 rfl
   have b44 := F29.bx2 1 rfl
   have b45 := F29.bx8 2 rfl
   go_wp2_with fail
   clear b43 b44 b45
   have F46 := (F29.front 1 rfl rfl).pt2 (.int .i64 (x.bl.lo + (dn x.wh.lo l.white.lo))) (.int .i64 (x.bl.hi + (upp x.wh.hi l.white.hi)))
   clear F29
   have kb47 := F46.bx2 0 rfl
   go_wp2_with fail
   exact bodyPost_ret (v := .tuple #[.agg #[.int .i64 (x.bl.lo + (dn x.wh.lo l.white.lo)), .int .i64 (x.bl.hi + (upp x.wh.hi l.white.hi))], .int .i64 2]) (by simp [results, Tryz.results58, go_sem, kb47]) rfl (⟨by rw [Hx40.out, Hx41.out, Hx42.out] <;> rfl, F46.gb⟩)
  have c39H := lhd c39
  have c39a := dec_f c39
  have Hx48 := lhd (show ((brs l x).lo) = x.bl.lo + (dn x.wh.lo l.white.lo) by rfl)
  have Hx49 := lhd (show ((brs l x).hi) = x.bl.hi + (upp x.wh.hi l.white.hi) by rfl)
  have Hx50 := lhd (show (soundV x) = 3 by unfold soundV; (repeat' split) <;> first | rfl | (exfalso; have := c30H.out; have := c39H.out; omega))
  have b51 := F29.bx2 0 rfl
  have b52 := F29.bx2 1 rfl
  have b53 := F29.bx8 2 rfl
  go_wp2_with fail
  clear b51 b52 b53
  have F54 := (F29.front 1 rfl rfl).pt2 (.int .i64 (x.bl.lo + (dn x.wh.lo l.white.lo))) (.int .i64 (x.bl.hi + (upp x.wh.hi l.white.hi)))
  clear F29
  have kb55 := F54.bx2 0 rfl
  go_wp2_with fail
  exact bodyPost_ret (v := .tuple #[.agg #[.int .i64 (x.bl.lo + (dn x.wh.lo l.white.lo)), .int .i64 (x.bl.hi + (upp x.wh.hi l.white.hi))], .int .i64 3]) (by simp [results, Tryz.results58, go_sem, kb55]) rfl (⟨by rw [Hx48.out, Hx49.out, Hx50.out] <;> rfl, F54.gb⟩)
open Go.Shelf
theorem grtP_spec (p : Nat -> Bool) : ∀ c : Nat, (grtP p c = -1 /\ ∀ k, k < c -> p k = false) ∨ ∃ k : Nat, k < c /\ grtP p c = k /\ p k = true /\ ∀ j, k < j -> j < c -> p j = false
 | 0 => .inl ⟨rfl, fun k h => by omega⟩
 | c + 1 => by
  have e : grtP p (c + 1) = if p c = true then (c : Int) else grtP p c := rfl
  by_cases h : p c = true
  · exact .inr ⟨c, by omega, by rw [e, if_pos h], h, fun j h1 h2 => by omega⟩
  rcases grtP_spec p c with ⟨h1, h2⟩ | ⟨k, h1, h2, h3, h4⟩
  ·
   refine .inl ⟨by rw [e, if_neg h, h1], fun k hk => ?_⟩
   rcases Nat.lt_or_ge k c with h5 | h5
   · exact h2 k h5
   obtain rfl : k = c := by omega
   simpa using h
  refine .inr ⟨k, by omega, by rw [e, if_neg h, h2], h3, fun j hj hj2 => ?_⟩
  rcases Nat.lt_or_ge j c with h5 | h5
  · exact h4 j hj h5
  obtain rfl : j = c := by omega
  simpa using h
def FloodF (l : Fro) (x : Ice) (dl : List Wea) (m : Nat) (most n : Int) : Prop := (-1 <= n /\ n <= most) /\ (0 <= n -> dryB l x (setW dl m n) = true) /\ (n < most -> dryB l x (setW dl m (n + 1)) = false)
theorem floodF {l : Fro} {x : Ice} {dl : List Wea} {m : Nat} {most : Int} (h0 : 0 <= most) : FloodF l x dl m most (grtP (fun k : Nat => dryB l x (setW dl m (k : Int))) (most.toNat + 1)) := by
 rcases grtP_spec (fun k : Nat => dryB l x (setW dl m (k : Int))) (most.toNat + 1) with ⟨h1, h2⟩ | ⟨k, h1, h2, h3, h4⟩
 ·
  rw [h1]
  exact ⟨⟨by omega, by omega⟩, fun h => by omega, fun _ => h2 0 (by omega)⟩
 rw [h2]
 refine ⟨⟨by omega, by omega⟩, fun _ => h3, fun h => ?_⟩
 have := h4 (k + 1) (by omega) (by omega)
 push_cast at this
 exact this
theorem allE_take {l : Fro} {x : Ice} {dl : List Wea} (k : Nat) (h1 : froErr l = 0) (h2 : iceErr x = 0) (h3 : ∀ d ∈ dl, weaErr d = 0) (h4 : dl.length <= 400) : allE l x (dl.take k) = 0 := allE_of h1 h2 (fun d hd => h3 d (List.mem_of_mem_take hd)) (by rw [List.length_take]; omega)
def RunGPost (l : Fro) (x : Ice) (dl : List Wea) (w : World) : Ending -> World -> Prop := fun e w' => ∃ (a : Option Addr) (c lo hi : Nat), e = .returned (.tuple #[.slice a (runI l x dl).length c, .int .i64 (allE l x dl)]) /\ (w.heap.size <= lo /\ hi <= w'.heap.size) /\ Sl iceEnc 8 lo hi w' (.slice a (runI l x dl).length c) (runI l x dl) /\ w.grownBy w' none
set_option maxHeartbeats 8000000 in
theorem rrun_g (lo hi : Nat) (v : Value) (l : Fro) (x : Ice) (lo2 hi2 : Nat) (vd : Value) (dl : List Wea) (w : World) (hl : Sl covEnc 3 lo hi w v l.cov) (h2 : hi <= w.heap.size) (hl2 : Sl weaEnc 6 lo2 hi2 w vd dl) (h22 : hi2 <= w.heap.size) :
  Calls Tryz.prog 32 #[.agg (froC l v), .agg (iceC x), vd] w (RunGPost l x dl w) := by
 have F1 : Bun w [] w := Bun.nil _
 have hm_cs := hl.len
 unfold maxLen at hm_cs
 obtain ⟨sa, sc, rfl⟩ := hl.any
 replace F1 := F1.sl0 hl h2 rfl
 clear hl
 have hm_ds := hl2.len
 unfold maxLen at hm_ds
 obtain ⟨da, dc, rfl⟩ := hl2.any
 replace F1 := F1.sl0 hl2 h22 rfl
 clear hl2
 go_enter Tryz.func32, Tryz.ntmps32
 go_wp2_with fail
 replace F1 := F1.new 26 (froC l (.slice sa l.cov.length sc)) (n := w.heap.size) (by simp)
 replace F1 := F1.new 28 (iceC x) (n := (w.heap.size + 1)) (by simp)
 refine (rcheckAll_c lo hi _ l x lo2 hi2 _ dl _ (F1.s 3 rfl) (Nat.le_trans h2 F1.gb.size) (F1.s 2 rfl) (Nat.le_trans h22 F1.gb.size)).mono ?_
 rintro e w8 ⟨rfl, hg6⟩
 have hg6s := hg6.size
 (try simp at hg6s)
 replace F1 := F1.gn hg6
 clear hg6
 by_cases c10 : allE l x dl = 0
 ·
  obtain ⟨c10a, c10b⟩ := bqt c10
  have c10H := lhd c10
  clear c10
  have HOK := lhd (allOk c10H.out)
  have hn4 := HOK.out.2.2.2.1
  have b12 := F1.bx8 0 rfl
  have b13 := F1.bx8 1 rfl
  go_wp2_with fail
  clear b12 b13
  refine (rrunL_c lo hi _ l x lo2 hi2 _ dl _ (F1.s 3 rfl) (Nat.le_trans h2 F1.gb.size) (F1.s 2 rfl) (Nat.le_trans h22 F1.gb.size) HOK.out).mono ?_
  rintro e w16 ⟨a_11, c_11, lo_11, hi_11, rfl, hx11, hy11, hsl11, hg14⟩
  have hg14s := hg14.size
  (try simp at hg14s)
  replace F1 := F1.add (rsl iceEnc 8 lo_11 hi_11 (.slice a_11 dl.length c_11) (runN l x dl dl.length)) hg14 (hsl11) (fun g e => ⟨Nat.le_trans hx11 e.1, Nat.lt_of_lt_of_le e.2 hy11⟩)
  clear hg14
  go_wp2_with fail
  exact bodyPost_ret (v := .tuple #[.slice a_11 dl.length c_11, .int .i64 0]) (by simp [results, Tryz.results32, go_sem]) rfl (⟨a_11, c_11, lo_11, hi_11, (by rw [runI, if_pos c10H.out, runN_len, c10H.out]), ⟨(by first | omega | (simp at *; omega)), (by first | omega | (simp at *; omega))⟩, (by rw [runI, if_pos c10H.out, runN_len]; exact (F1.s 0 rfl)), F1.gb⟩)
 obtain ⟨c10a, c10b⟩ := bqf c10
 have c10H := lhd c10
 clear c10
 go_wp2_with fail
 exact bodyPost_ret (v := .tuple #[.slice none 0 0, .int .i64 (allE l x dl)]) (by simp [results, Tryz.results32, go_sem]) rfl (⟨none, 0, w.heap.size, w.heap.size, (by rw [runI, if_neg c10H.out]; rfl), ⟨Nat.le_refl _, F1.gb.size⟩, (by rw [runI, if_neg c10H.out]; exact Sl.of_nil _ _), F1.gb⟩)
end Go.Proofs.YtkclabflkocbaaaGreat
