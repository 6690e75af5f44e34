/- the reference of frost: days one after the other. -/
import Derived.Test.YthblaiefalbomaaF22
import Derived.Test.YthblaiefalbomaaF37
set_option linter.unusedVariables false
set_option linter.unusedSimpArgs false
set_option linter.unnecessarySimpa false
namespace Go.Proofs.Ythblaiefalbomaa
open Go.RowKit
set_option maxRecDepth 100000
attribute [local go_sem] Oper.semAt_some

def RRunPost (l : Fro) (x : Ice) (dl : List Wea) (w : World) : Ending → World → Prop := fun e w' => ∃ (a : Option Addr) (c lo hi : Nat), e = .returned (.slice a dl.length c) ∧ w.heap.size ≤ lo ∧ hi ≤ w'.heap.size ∧ Sl iceEnc 8 lo hi w' (.slice a dl.length c) (runN l x dl dl.length) ∧ w.grownBy w' none
set_option maxHeartbeats 8000000 in
theorem rrunL_c (lo hi : Nat) (v : Value) (l : Fro) (x : Ice) (lo2 hi2 : Nat) (vd : Value) (dl : List Wea) (w : World) (hl : Sl covEnc 3 lo hi w v l.cov) (h2 : hi ≤ w.heap.size) (hl2 : Sl weaEnc 6 lo2 hi2 w vd dl) (h22 : hi2 ≤ w.heap.size) (hOK : LawOk l ∧ iceErr x = 0 ∧ IceK x 0 0 ∧ dl.length ≤ 400 ∧ ∀ d ∈ dl, WeaOk d) :
    Calls Try.prog 75 #[.agg (froC l v), .agg (iceC x), vd] w (RRunPost l x dl w) := by
  have F1 : Bun w [] w := Bun.nil _
  have hm_cs := hl.len
  unfold maxLen at hm_cs
  obtain ⟨sa, sc, rfl⟩ := hl.any
  have F2 := F1.sl0 hl h2 rfl
  clear F1
  clear hl
  have hm_ds := hl2.len
  unfold maxLen at hm_ds
  obtain ⟨da, dc, rfl⟩ := hl2.any
  have F3 := F2.sl0 hl2 h22 rfl
  clear F2
  clear hl2
  have hn4 := hOK.2.2.2.1
  have HK := Lib.hid (stI_K hOK.1 hOK.2.2.1 hOK.2.2.2.2 hOK.2.2.2.1)
  have HOK := Lib.hid hOK
  clear hOK
  go_enter Try.func75, Try.ntmps75
  go_wp2_with fail
  have F4 := F3.new 29 (froC l (.slice sa l.cov.length sc)) (n := w.heap.size) (by simp)
  clear F3
  have F5 := F4.new 32 (iceC x) (n := (w.heap.size + 1)) (by simp)
  clear F4
  have F6 := F5.nilrow iceEnc 32 8
  clear F5
  (skip)
  obtain ⟨HI7_, HI70⟩ : ∃ I : (Nat → Value) → List Deferred → World → Prop, I = (fun t ds wr => ∃ (k : Nat) (vo : Value), t 2 = .slice da dl.length dc ∧ t 3 = .pointer (some ⟨w.heap.size, 0, none⟩) ∧ t 4 = .pointer (some ⟨w.heap.size + 1, 0, none⟩) ∧ t 7 = vo ∧ t 8 = .int .i64 (k : Int) ∧ k ≤ dl.length ∧ ds = [] ∧ w.heap.size ≤ wr.heap.size ∧ Bun w [rown iceEnc 32 8 w.heap.size vo (runN l x dl k), rbox (w.heap.size + 1) 32 #[.int .i64 ((stI l x dl k).bl.lo), .int .i64 ((stI l x dl k).bl.hi), .int .i64 ((stI l x dl k).wh.lo), .int .i64 ((stI l x dl k).wh.hi), .int .i64 ((stI l x dl k).we.lo), .int .i64 ((stI l x dl k).we.hi), .int .i64 ((stI l x dl k).sn.lo), .int .i64 ((stI l x dl k).sn.hi)], rbox w.heap.size 29 (froC l (.slice sa l.cov.length sc)), rsl weaEnc 6 lo2 hi2 (.slice da dl.length dc) dl, rsl covEnc 3 lo hi (.slice sa l.cov.length sc) l.cov] wr) := ⟨_, rfl⟩
  have HI7 := Lib.hid HI70
  clear HI70
  refine wp_loopS 27 rfl HI7_ (fun t wr => dl.length - (intOf (t 8)).toNat) ?atStart12 ?round12
  case round12 =>
    intro t ds wr hHid
    rw [HI7.out] at hHid
    obtain ⟨k, vo, e2, e3, e4, e7, e8, hrel⟩ := hHid
    have e : ((List.range 27).map t).toArray = #[t 0, t 1, t 2, t 3, t 4, t 5, t 6, t 7, t 8, t 9, t 10, t 11, t 12, t 13, t 14, t 15, t 16, t 17, t 18, t 19, t 20, t 21, t 22, t 23, t 24, t 25, t 26] := rfl
    (try dsimp only at e)
    rw [e2, e3, e4, e7, e8] at e
    rw [e]
    simp only [e8]
    clear e e2 e3 e4 e7 e8
    obtain ⟨hk, rfl, hs9, hF8⟩ := hrel
    clear F6
    obtain ⟨w10, rfl⟩ : ∃ x_ : World, x_ = wr := ⟨_, rfl⟩
    by_cases c11 : (k : Int) < (dl.length : Int)
    · skip
      have c11H := Lib.hid c11
      obtain ⟨x12, o13, e_⟩ := Sl.addr (hF8.at 3 rfl : Sl weaEnc 6 lo2 hi2 _ (.slice da dl.length dc) dl) (by omega)
      subst e_
      obtain ⟨z, hz14_⟩ : ∃ z_, dl[k]? = some z_ := ⟨_, List.getElem?_eq_getElem (by omega)⟩
      have hz14 := Lib.hid hz14_
      clear hz14_
      go_wp2_with fail
      have F15 := hF8.drew
      clear hF8
      refine ru_begin (fun W => W.cell? ⟨w.heap.size, 0, none⟩ = some (.int .i64 l.gr) ∧ W.cell? ⟨w.heap.size, 1, none⟩ = some (.int .i64 l.la) ∧ W.cell? ⟨w.heap.size, 2, none⟩ = some (.slice sa l.cov.length sc) ∧ W.cell? ⟨w.heap.size, 3, none⟩ = some (.int .i64 l.melt.lo) ∧ W.cell? ⟨w.heap.size, 4, none⟩ = some (.int .i64 l.melt.hi) ∧ W.cell? ⟨w.heap.size, 5, none⟩ = some (.int .i64 l.soak) ∧ W.cell? ⟨w.heap.size, 6, none⟩ = some (.int .i64 l.white.lo) ∧ W.cell? ⟨w.heap.size, 7, none⟩ = some (.int .i64 l.white.hi) ∧ W.cell? ⟨(w.heap.size + 1), 0, none⟩ = some (.int .i64 ((stI l x dl k).bl.lo)) ∧ W.cell? ⟨(w.heap.size + 1), 1, none⟩ = some (.int .i64 ((stI l x dl k).bl.hi)) ∧ W.cell? ⟨(w.heap.size + 1), 2, none⟩ = some (.int .i64 ((stI l x dl k).wh.lo)) ∧ W.cell? ⟨(w.heap.size + 1), 3, none⟩ = some (.int .i64 ((stI l x dl k).wh.hi)) ∧ W.cell? ⟨(w.heap.size + 1), 4, none⟩ = some (.int .i64 ((stI l x dl k).we.lo)) ∧ W.cell? ⟨(w.heap.size + 1), 5, none⟩ = some (.int .i64 ((stI l x dl k).we.hi)) ∧ W.cell? ⟨(w.heap.size + 1), 6, none⟩ = some (.int .i64 ((stI l x dl k).sn.lo)) ∧ W.cell? ⟨(w.heap.size + 1), 7, none⟩ = some (.int .i64 ((stI l x dl k).sn.hi)) ∧ W.cell? ⟨x12, o13 + k * 6, none⟩ = some (.int .i64 z.cold.lo) ∧ W.cell? ⟨x12, o13 + k * 6 + 1, none⟩ = some (.int .i64 z.cold.hi) ∧ W.cell? ⟨x12, o13 + k * 6 + 2, none⟩ = some (.int .i64 z.fall.lo) ∧ W.cell? ⟨x12, o13 + k * 6 + 3, none⟩ = some (.int .i64 z.fall.hi) ∧ W.cell? ⟨x12, o13 + k * 6 + 4, none⟩ = some (.int .i64 z.water) ∧ W.cell? ⟨x12, o13 + k * 6 + 5, none⟩ = some (.bool z.clear)) 7 (by kernel_rfl) ?_ ?_
      · exact ⟨F15.cl 2 0 rfl rfl, F15.cl 2 1 rfl rfl, F15.cl 2 2 rfl rfl, F15.cl 2 3 rfl rfl, F15.cl 2 4 rfl rfl, F15.cl 2 5 rfl rfl, F15.cl 2 6 rfl rfl, F15.cl 2 7 rfl rfl, F15.cl 1 0 rfl rfl, F15.cl 1 1 rfl rfl, F15.cl 1 2 rfl rfl, F15.cl 1 3 rfl rfl, F15.cl 1 4 rfl rfl, F15.cl 1 5 rfl rfl, F15.cl 1 6 rfl rfl, F15.cl 1 7 rfl rfl, (((F15.at 3 rfl : Sl weaEnc 6 lo2 hi2 _ (.slice (some ⟨x12, o13, none⟩) dl.length dc) dl)).cells hz14.out 0 _ rfl), (((F15.at 3 rfl : Sl weaEnc 6 lo2 hi2 _ (.slice (some ⟨x12, o13, none⟩) dl.length dc) dl)).cells hz14.out 1 _ rfl), (((F15.at 3 rfl : Sl weaEnc 6 lo2 hi2 _ (.slice (some ⟨x12, o13, none⟩) dl.length dc) dl)).cells hz14.out 2 _ rfl), (((F15.at 3 rfl : Sl weaEnc 6 lo2 hi2 _ (.slice (some ⟨x12, o13, none⟩) dl.length dc) dl)).cells hz14.out 3 _ rfl), (((F15.at 3 rfl : Sl weaEnc 6 lo2 hi2 _ (.slice (some ⟨x12, o13, none⟩) dl.length dc) dl)).cells hz14.out 4 _ rfl), (((F15.at 3 rfl : Sl weaEnc 6 lo2 hi2 _ (.slice (some ⟨x12, o13, none⟩) dl.length dc) dl)).cells hz14.out 5 _ rfl)⟩
      obtain ⟨wd17, hwd_⟩ : ∃ x : World, w10.drew = x := ⟨_, rfl⟩
      rw [hwd_] at F15 ⊢
      have wd17s : w10.heap.size ≤ wd17.heap.size := by rw [← hwd_]; exact Nat.le_refl _
      clear hwd_
      have hS16 := (And.intro (F15.cl 2 0 rfl rfl) (And.intro (F15.cl 2 1 rfl rfl) (And.intro (F15.cl 2 2 rfl rfl) (And.intro (F15.cl 2 3 rfl rfl) (And.intro (F15.cl 2 4 rfl rfl) (And.intro (F15.cl 2 5 rfl rfl) (And.intro (F15.cl 2 6 rfl rfl) (And.intro (F15.cl 2 7 rfl rfl) (And.intro (F15.cl 1 0 rfl rfl) (And.intro (F15.cl 1 1 rfl rfl) (And.intro (F15.cl 1 2 rfl rfl) (And.intro (F15.cl 1 3 rfl rfl) (And.intro (F15.cl 1 4 rfl rfl) (And.intro (F15.cl 1 5 rfl rfl) (And.intro (F15.cl 1 6 rfl rfl) (And.intro (F15.cl 1 7 rfl rfl) (And.intro ((((F15.at 3 rfl : Sl weaEnc 6 lo2 hi2 _ (.slice (some ⟨x12, o13, none⟩) dl.length dc) dl)).cells hz14.out 0 _ rfl)) (And.intro ((((F15.at 3 rfl : Sl weaEnc 6 lo2 hi2 _ (.slice (some ⟨x12, o13, none⟩) dl.length dc) dl)).cells hz14.out 1 _ rfl)) (And.intro ((((F15.at 3 rfl : Sl weaEnc 6 lo2 hi2 _ (.slice (some ⟨x12, o13, none⟩) dl.length dc) dl)).cells hz14.out 2 _ rfl)) (And.intro ((((F15.at 3 rfl : Sl weaEnc 6 lo2 hi2 _ (.slice (some ⟨x12, o13, none⟩) dl.length dc) dl)).cells hz14.out 3 _ rfl)) (And.intro ((((F15.at 3 rfl : Sl weaEnc 6 lo2 hi2 _ (.slice (some ⟨x12, o13, none⟩) dl.length dc) dl)).cells hz14.out 4 _ rfl)) ((((F15.at 3 rfl : Sl weaEnc 6 lo2 hi2 _ (.slice (some ⟨x12, o13, none⟩) dl.length dc) dl)).cells hz14.out 5 _ rfl)))))))))))))))))))))))
      refine ru_t 0 [] ?_
      refine ru_t 1 [] ?_
      refine ru_t 2 [] ?_
      refine ru_t 3 [] ?_
      refine ru_t 4 [] ?_
      refine ru_t 5 [] ?_
      (try simp only [Act.put, List.setIfInBounds_toArray, List.set_cons_zero, List.set_cons_succ])
      clear hS16
      refine ru_one 6 rfl (by kernel_rfl) (fun K hK => ?_)
      go_simp
      refine (rstep_c lo hi _ l (stI l x dl k) k z _ (F15.at 4 rfl : Sl covEnc 3 lo hi _ (.slice sa l.cov.length sc) l.cov) (Nat.le_trans h2 F15.gb.size) HOK.out.1 (HK.out k hk) (by omega) (HOK.out.2.2.2.2 _ (List.mem_of_getElem? hz14.out))).mono ?_
      rintro e w20 ⟨rfl, hg18⟩
      have hg18s := hg18.size
      (try simp at hg18s)
      have F21 := F15.gn hg18
      clear F15
      refine ru_back hK (by exact ⟨F21.cl 2 0 rfl rfl, F21.cl 2 1 rfl rfl, F21.cl 2 2 rfl rfl, F21.cl 2 3 rfl rfl, F21.cl 2 4 rfl rfl, F21.cl 2 5 rfl rfl, F21.cl 2 6 rfl rfl, F21.cl 2 7 rfl rfl, F21.cl 1 0 rfl rfl, F21.cl 1 1 rfl rfl, F21.cl 1 2 rfl rfl, F21.cl 1 3 rfl rfl, F21.cl 1 4 rfl rfl, F21.cl 1 5 rfl rfl, F21.cl 1 6 rfl rfl, F21.cl 1 7 rfl rfl, (((F21.at 3 rfl : Sl weaEnc 6 lo2 hi2 _ (.slice (some ⟨x12, o13, none⟩) dl.length dc) dl)).cells hz14.out 0 _ rfl), (((F21.at 3 rfl : Sl weaEnc 6 lo2 hi2 _ (.slice (some ⟨x12, o13, none⟩) dl.length dc) dl)).cells hz14.out 1 _ rfl), (((F21.at 3 rfl : Sl weaEnc 6 lo2 hi2 _ (.slice (some ⟨x12, o13, none⟩) dl.length dc) dl)).cells hz14.out 2 _ rfl), (((F21.at 3 rfl : Sl weaEnc 6 lo2 hi2 _ (.slice (some ⟨x12, o13, none⟩) dl.length dc) dl)).cells hz14.out 3 _ rfl), (((F21.at 3 rfl : Sl weaEnc 6 lo2 hi2 _ (.slice (some ⟨x12, o13, none⟩) dl.length dc) dl)).cells hz14.out 4 _ rfl), (((F21.at 3 rfl : Sl weaEnc 6 lo2 hi2 _ (.slice (some ⟨x12, o13, none⟩) dl.length dc) dl)).cells hz14.out 5 _ rfl)⟩) (fun hHeld => ?_)
      clear hK K
      (try simp only [Act.put, List.setIfInBounds_toArray, List.set_cons_zero, List.set_cons_succ])
      refine ru_one 7 rfl (by kernel_rfl) (fun K hK => ?_)
      have kb_ := F21.bx8 1 rfl
      go_simp
      clear kb_
      have F22 := (F21.front 1 rfl rfl).pt8 (.int .i64 ((aft l (stI l x dl k) z).bl.lo)) (.int .i64 ((aft l (stI l x dl k) z).bl.hi)) (.int .i64 ((aft l (stI l x dl k) z).wh.lo)) (.int .i64 ((aft l (stI l x dl k) z).wh.hi)) (.int .i64 ((aft l (stI l x dl k) z).we.lo)) (.int .i64 ((aft l (stI l x dl k) z).we.hi)) (.int .i64 ((aft l (stI l x dl k) z).sn.lo)) (.int .i64 ((aft l (stI l x dl k) z).sn.hi))
      clear F21
      refine ru_back_late hK (by kernel_rfl) ?_
      clear hK K
      (try simp only [Act.put, List.setIfInBounds_toArray, List.set_cons_zero, List.set_cons_succ])
      refine ru_done (by kernel_rfl) ?_
      obtain ⟨w23, hx24, F26, hxs25⟩ := (show Bun w [rbox (w.heap.size + 1) 32 #[.int .i64 ((aft l (stI l x dl k) z).bl.lo), .int .i64 ((aft l (stI l x dl k) z).bl.hi), .int .i64 ((aft l (stI l x dl k) z).wh.lo), .int .i64 ((aft l (stI l x dl k) z).wh.hi), .int .i64 ((aft l (stI l x dl k) z).we.lo), .int .i64 ((aft l (stI l x dl k) z).we.hi), .int .i64 ((aft l (stI l x dl k) z).sn.lo), .int .i64 ((aft l (stI l x dl k) z).sn.hi)], rown iceEnc 32 8 w.heap.size vo (runN l x dl k), rbox w.heap.size 29 (froC l (.slice sa l.cov.length sc)), rsl weaEnc 6 lo2 hi2 (.slice (some ⟨x12, o13, none⟩) dl.length dc) dl, rsl covEnc 3 lo hi (.slice sa l.cov.length sc) l.cov] _ from F22).name
      (try simp at hxs25)
      rw [hx24]
      clear hx24 F22
      have b27 := F26.bx8 0 rfl
      go_wp2_with (at_builtin; refine wpList_app _ okIce rfl _ _ rfl w.heap.size vo (runN l x dl k) [aft l (stI l x dl k) z] rfl (by exact ((F26.at 1 rfl : Own iceEnc 32 8 w.heap.size _ vo (runN l x dl k))).alloc _) ⟨_, 0, none⟩ 1 1 rfl rfl (by decide) (news_of (Bk.newAt _ _ _ (by simp))) (k + 1) (by rw [runN_len]) (by omega) (by first | omega | (simp; omega)) _ rfl ?_; intro g28 cap29 w30 hp31; refine Hid.out ?_)
      refine Lib.hid ?_
      have hp31s := hp31.gb.size
      (try simp at hp31s)
      clear b27
      have F32 := ((F26.alloc (.cells #[.int .i64 ((aft l (stI l x dl k) z).bl.lo), .int .i64 ((aft l (stI l x dl k) z).bl.hi), .int .i64 ((aft l (stI l x dl k) z).wh.lo), .int .i64 ((aft l (stI l x dl k) z).wh.hi), .int .i64 ((aft l (stI l x dl k) z).we.lo), .int .i64 ((aft l (stI l x dl k) z).we.hi), .int .i64 ((aft l (stI l x dl k) z).sn.lo), .int .i64 ((aft l (stI l x dl k) z).sn.hi)] 32)).front 1 rfl rfl).app hp31 (by simp)
      clear F26
      go_wp2_with fail
      (first | refine ⟨rfl, ?_, ?_⟩ | refine ⟨?_, ?_⟩)
      · rw [HI7.out]; exact ⟨k + 1, _, rfl, rfl, rfl, rfl, (by show Value.int .i64 ((k : Int) + 1) = _; simp), (by omega), (by first | rfl | simp), (by first | omega | (simp; done) | (simp; omega)), (by rw [runN_succ, stI_succ hz14.out]; exact F32)⟩
      · simp [slot, intOf]; omega
    · skip
      have c11H := Lib.hid c11
      have c11a : decide ((k : Int) < (dl.length : Int)) = false := dec_f c11
      go_wp2_with fail
      exact bodyPost_ret (v := vo) (by simp [results, Try.results75, go_sem]) rfl ((by obtain ⟨a_, c_, e_, s_⟩ := Own.slN (hF8.at 0 rfl : Own iceEnc 32 8 w.heap.size _ vo (runN l x dl k)) (fun _ => rfl) (runN_len _ _ _ _); subst e_; obtain rfl : k = dl.length := (by omega); exact ⟨a_, c_, _, _, rfl, Nat.le_refl _, Nat.le_refl _, s_, hF8.gb⟩))
  case atStart12 =>
    rw [HI7.out]
    exact ⟨0, _, rfl, rfl, rfl, rfl, rfl, Nat.zero_le _, rfl, (by first | exact Nat.le_refl _ | omega | (simp; done) | (simp; omega)), F6⟩

end Go.Proofs.Ythblaiefalbomaa
