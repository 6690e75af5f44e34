/- fuel: what accounts lose; sums; truths inside a book. -/
import Derived.Test.YtfifldbinnkdmaaKP
import Derived.Test.YtfifldbinnkdmaaBal
import Derived.Test.YtfifldbinnkdmaaBal1
import Derived.Test.YtfifldbinnkdmaaKF
import Derived.Test.YtfifldbinnkdmaaHasB
import Derived.Test.YtfifldbinnkdmaaK1
set_option linter.unusedVariables false
set_option linter.unusedSimpArgs false
set_option linter.unnecessarySimpa false
namespace Go.Proofs.Ytfifldbinnkdmaa
open Go.RowKit Go.Shelf
set_option maxRecDepth 100000

/-- What accounts lose, the first of them, one by one. -/
def lsT (O C : List Int) (i : Nat) : List Int := (List.range i).map fun k => gi O k - gi C k
theorem lsT_len (O C : List Int) (i : Nat) : (lsT O C i).length = i := by simp [lsT]
theorem lsT_step (O C : List Int) (i : Nat) : lsT O C i ++ [gi O i - gi C i] = lsT O C (i + 1) := by simp [lsT, List.range_succ]
theorem lsT_all (b : Bok) (O C V : List Int) : lsT O C b.accs.length = lsM b O C V 0 := by
  refine List.ext_getElem (by rw [lsT_len, lsM_len]) fun j h1 h2 => ?_
  rw [lsT_len] at h1
  simp [lsM, lsA, lsT, h1]
def SlIntsB (l : List Int) (n : Nat) (w : World) : Ending → World → Prop := fun e w' => ∃ (a : Option Addr) (c lo hi : Nat), e = .returned (.slice a n c) ∧ (w.heap.size ≤ lo ∧ hi ≤ w'.heap.size) ∧ Sl intEnc 1 lo hi w' (.slice a n c) l ∧ w.grownBy w' none
def OwnIntsB (l : List Int) (n : Nat) (w : World) : Ending → World → Prop := fun e w' => ∃ (a : Option Addr) (c : Nat), e = .returned (.slice a n c) ∧ Bun w [rown intEnc 3 1 w.heap.size (.slice a n c) l] w'
theorem OwnIntsB.s {l : List Int} {n : Nat} {w w' : World} {e : Ending} (h : OwnIntsB l n w e w') : SlIntsB l n w e w' := by
  obtain ⟨a, c, rfl, hB⟩ := h
  have h0 : Own intEnc 3 1 w.heap.size w' (.slice a n c) l := hB.at 0 rfl
  have h1 := h0.sl (fun _ => rfl)
  have hb := fun x hx => (hB.bd _ (.head _) x hx).2 rfl
  rcases Nat.eq_zero_or_pos l.length with h2 | h2
  · obtain ⟨p1, a', c', p2, _⟩ := h1
    exact ⟨a, c, w.heap.size, w'.heap.size, rfl, ⟨Nat.le_refl _, Nat.le_refl _⟩, ⟨p1, a', c', p2, .inl (List.length_eq_zero_iff.1 h2)⟩, hB.gb⟩
  · obtain ⟨g, cap, hv⟩ := Own.opn h0 h2
    injection hv with e1 e2 e3
    subst e1
    have h3 := hb g rfl
    have h4 := (h0.lt g rfl).2
    exact ⟨_, c, w.heap.size, w'.heap.size, rfl, ⟨Nat.le_refl _, Nat.le_refl _⟩, Sl.wide (Own.slG h0 (fun _ => rfl)) h3 h4, hB.gb⟩
theorem sumN_bd {l : List Int} (h : ∀ k, k < l.length → -10000000000000 ≤ gi l k ∧ gi l k ≤ 10000000000000) : ∀ i, i ≤ l.length → -(10000000000000 * (i : Int)) ≤ sumN (fun k => gi l k) i ∧ sumN (fun k => gi l k) i ≤ 10000000000000 * (i : Int)
  | 0, _ => by simp [sumN]
  | i + 1, hi => by
    have h1 := sumN_bd h i (by omega)
    have h2 := h i (by omega)
    simp only [sumN]
    omega
theorem has_t (a b n : Int) (w : World) (h : a ≤ n ∧ n ≤ b) : Calls Try.prog 60 #[.agg #[.int .i64 a, .int .i64 b], .int .i64 n] w (Ret (.bool true) w) := by
  have h1 := h.1
  have h2 := h.2
  go_enter Try.func60, Try.ntmps60
  go_wp2_with fail
  go_ret
  exact ⟨rfl, gb_alloc (gb_refl _ _) _⟩
theorem shaped_t (a1 a2 a3 a4 : Option Addr) (c1 c2 c3 c4 n m : Nat) (w : World) : Calls Try.prog 52 #[.agg #[.slice a1 n c1, .slice a2 m c2], .agg #[.slice a3 n c3, .slice a4 m c4]] w (Ret (.bool true) w) := by
  go_enter Try.func52, Try.ntmps52
  go_wp2_with fail
  go_ret
  exact ⟨rfl, gb_trans (gb_alloc (gb_refl _ _) _) (gb_alloc (gb_refl _ _) _)⟩
set_option maxHeartbeats 16000000 in
theorem losing_q (lo hi : Nat) (va vm : Value) (b : Bok) (l1 h1 l2 h2 l3 h3 : Nat) (vo vc vv : Value) (O C V : List Int) (w : World) (hb : HasB lo hi w va vm b) (hn : nameOk b.accs) (hh : hi ≤ w.heap.size) (ho : Ints l1 h1 w vo O) (q1 : h1 ≤ w.heap.size) (hc : Ints l2 h2 w vc C) (q2 : h2 ≤ w.heap.size) (hv : Ints l3 h3 w vv V) (q3 : h3 ≤ w.heap.size) (hok : BokOk b) (hln : O.length = b.accs.length ∧ C.length = b.accs.length ∧ V.length = b.mvs.length) (hta : ∀ q, q < b.accs.length → truA b O C q) (htm : ∀ q, q < b.mvs.length → truM b V q) :
    Calls Try.prog 63 #[.agg #[va, vm], .agg #[vo, vc, vv]] w (OwnIntsB (lsM b O C V b.mvs.length) b.accs.length w) := by
  have F1 : Bun w [] w := Bun.nil _
  obtain ⟨hba, hbm⟩ := id hb
  clear hb
  have hm_ac := hba.len
  unfold maxLen at hm_ac
  obtain ⟨aa, ak, rfl⟩ := hba.any
  have F2 := F1.sl0 hba hh rfl
  clear F1
  clear hba
  have hm_mv := hbm.len
  unfold maxLen at hm_mv
  obtain ⟨ma, mk, rfl⟩ := hbm.any
  have F3 := F2.sl0 hbm hh rfl
  clear F2
  clear hbm
  have HN := Lib.hid hn
  clear hn
  have hm_to := ho.len
  unfold maxLen at hm_to
  obtain ⟨toa, tok, rfl⟩ := ho.any
  have F4 := F3.sl0 ho q1 rfl
  clear F3
  clear ho
  have hm_tc := hc.len
  unfold maxLen at hm_tc
  obtain ⟨tca, tck, rfl⟩ := hc.any
  have F5 := F4.sl0 hc q2 rfl
  clear F4
  clear hc
  have hm_tv := hv.len
  unfold maxLen at hm_tv
  obtain ⟨tva, tvk, rfl⟩ := hv.any
  have F6 := F5.sl0 hv q3 rfl
  clear F5
  clear hv
  have HOK := Lib.hid hok
  have hn0 := hok.n0
  have hn8 := hok.n8
  have hm31 := hok.m30
  have HTA := Lib.hid hta
  have HTM := Lib.hid htm
  have hlo := hln.1
  have hlc := hln.2.1
  have hlv := hln.2.2
  have hll : ((O.length ≤ b.accs.length ∧ b.accs.length ≤ O.length) ∧ C.length ≤ b.accs.length ∧ b.accs.length ≤ C.length) ∧ V.length ≤ b.mvs.length ∧ b.mvs.length ≤ V.length := by omega
  clear hok hta htm hlo hlc hlv hln
  go_enter Try.func63, Try.ntmps63
  go_wp2_with fail
  have F7 := F6.new 25 #[.slice aa b.accs.length ak, .slice ma b.mvs.length mk] (n := w.heap.size) (by simp)
  clear F6
  have F8 := F7.new 32 #[.slice toa O.length tok, .slice tca C.length tck, .slice tva V.length tvk] (n := (w.heap.size + 1)) (by simp)
  clear F7
  have F9 := F8.rowN intEnc 3 1
  clear F8
  (skip)
  obtain ⟨HI10_, HI100⟩ : ∃ I : (Nat → Value) → List Deferred → World → Prop, I = (fun t ds wr => ∃ (i : Nat) (vo_ : Value), t 2 = .pointer (some ⟨w.heap.size, 0, none⟩) ∧ t 3 = .pointer (some ⟨w.heap.size + 1, 0, none⟩) ∧ t 5 = vo_ ∧ t 6 = .int .i64 (i : Int) ∧ i ≤ b.accs.length ∧ ds = [] ∧ w.heap.size ≤ wr.heap.size ∧ Bun w [rown intEnc 3 1 w.heap.size vo_ (lsT O C i), rbox (w.heap.size + 1) 32 #[.slice toa O.length tok, .slice tca C.length tck, .slice tva V.length tvk], rbox w.heap.size 25 #[.slice aa b.accs.length ak, .slice ma b.mvs.length mk], rsl intEnc 1 l3 h3 (.slice tva V.length tvk) V, rsl intEnc 1 l2 h2 (.slice tca C.length tck) C, rsl intEnc 1 l1 h1 (.slice toa O.length tok) O, rsl mvEnc 4 lo hi (.slice ma b.mvs.length mk) b.mvs, rsl accEnc 6 lo hi (.slice aa b.accs.length ak) b.accs] wr) := ⟨_, rfl⟩
  have HI10 := Lib.hid HI100
  clear HI100
  refine wp_loopS 83 rfl HI10_ (fun t wr => b.accs.length - (intOf (t 6)).toNat) ?atStart1 ?round1
  case round1 =>
    intro t ds wr hHid
    rw [HI10.out] at hHid
    obtain ⟨i, vo_, e2, e3, e5, e6, hrel⟩ := hHid
    have e : ((List.range 83).map t).toArray = #[t 0, t 1, t 2, t 3, t 4, t 5, t 6, t 7, t 8, t 9, t 10, t 11, t 12, t 13, t 14, t 15, t 16, t 17, t 18, t 19, t 20, t 21, t 22, t 23, t 24, t 25, t 26, t 27, t 28, t 29, t 30, t 31, t 32, t 33, t 34, t 35, t 36, t 37, t 38, t 39, t 40, t 41, t 42, t 43, t 44, t 45, t 46, t 47, t 48, t 49, t 50, t 51, t 52, t 53, t 54, t 55, t 56, t 57, t 58, t 59, t 60, t 61, t 62, t 63, t 64, t 65, t 66, t 67, t 68, t 69, t 70, t 71, t 72, t 73, t 74, t 75, t 76, t 77, t 78, t 79, t 80, t 81, t 82] := rfl
    (try dsimp only at e)
    rw [e2, e3, e5, e6] at e
    rw [e]
    simp only [e6]
    clear e e2 e3 e5 e6
    obtain ⟨hi0, rfl, hs12, hF11⟩ := hrel
    clear F9
    obtain ⟨w13, rfl⟩ : ∃ x_ : World, x_ = wr := ⟨_, rfl⟩
    by_cases c14 : (i : Int) < (b.accs.length : Int)
    · skip
      have c14H := Lib.hid c14
      obtain ⟨x15, o16, e_⟩ := Sl.addr (hF11.at 5 rfl : Sl intEnc 1 l1 h1 _ (.slice toa O.length tok) O) (by omega)
      subst e_
      obtain ⟨x17, o18, e_⟩ := Sl.addr (hF11.at 4 rfl : Sl intEnc 1 l2 h2 _ (.slice tca C.length tck) C) (by omega)
      subst e_
      have hz19 : Hid (O[i]? = some (gi O i)) := Lib.hid (gi_at (by omega))
      have hz20 : Hid (C[i]? = some (gi C i)) := Lib.hid (gi_at (by omega))
      have hio : i < O.length := by omega
      have hic : i < C.length := by omega
      have htai := HTA.out i (by omega)
      unfold truA at htai
      have haop := (HOK.out.acc i (by omega)).op
      have hacl := (HOK.out.acc i (by omega)).cl
      have b22 := hF11.bx2 2 rfl
      go_wp2_with fail
      clear b22
      have hw21 : IntKind.i64.wrap (gi O i - (gi C i)) = gi O i - (gi C i) := IntWalk.i64_in _ (by omega)
      have F23 := hF11.drew
      clear hF11
      refine ru_begin (fun W => W.cell? ⟨(w.heap.size + 1), 0, none⟩ = some (.slice (some ⟨x15, o16, none⟩) O.length tok) ∧ W.cell? ⟨x15, o16 + i, none⟩ = some (.int .i64 (gi O i)) ∧ W.cell? ⟨(w.heap.size + 1), 1, none⟩ = some (.slice (some ⟨x17, o18, none⟩) C.length tck) ∧ W.cell? ⟨x17, o18 + i, none⟩ = some (.int .i64 (gi C i))) 14 (by kernel_rfl) ?_ ?_
      · exact ⟨F23.cl 1 0 rfl rfl, (by have h_ := ((F23.at 5 rfl : Sl intEnc 1 l1 h1 _ (.slice (some ⟨x15, o16, none⟩) O.length tok) O)).cells hz19.out 0 _ rfl; simpa using h_), F23.cl 1 1 rfl rfl, (by have h_ := ((F23.at 4 rfl : Sl intEnc 1 l2 h2 _ (.slice (some ⟨x17, o18, none⟩) C.length tck) C)).cells hz20.out 0 _ rfl; simpa using h_)⟩
      obtain ⟨wd25, hwd_⟩ : ∃ x : World, w13.drew = x := ⟨_, rfl⟩
      rw [hwd_] at F23 ⊢
      have wd25s : w13.heap.size ≤ wd25.heap.size := by rw [← hwd_]; exact Nat.le_refl _
      clear hwd_
      have hS24 := (And.intro (F23.cl 1 0 rfl rfl) (And.intro ((by have h_ := ((F23.at 5 rfl : Sl intEnc 1 l1 h1 _ (.slice (some ⟨x15, o16, none⟩) O.length tok) O)).cells hz19.out 0 _ rfl; simpa using h_)) (And.intro (F23.cl 1 1 rfl rfl) ((by have h_ := ((F23.at 4 rfl : Sl intEnc 1 l2 h2 _ (.slice (some ⟨x17, o18, none⟩) C.length tck) C)).cells hz20.out 0 _ rfl; simpa using h_)))))
      refine ru_t 0 [] ?_
      refine ru_t 1 [] ?_
      refine ru_t 2 [] ?_
      refine ru_t 3 [] ?_
      refine ru_t 4 [] ?_
      refine ru_t 5 [] ?_
      refine ru_t 6 [] ?_
      refine ru_t 7 [] ?_
      refine ru_t 8 [] ?_
      refine ru_t 9 [] ?_
      refine ru_t 10 [] ?_
      refine ru_t 11 [] ?_
      (try simp only [Act.put, List.setIfInBounds_toArray, List.set_cons_zero, List.set_cons_succ])
      clear hS24
      refine ru_one 12 rfl (by kernel_rfl) (fun K hK => ?_)
      go_simp
      have F26 := F23.new 3 #[.int .i64 (gi O i - (gi C i))] (n := wd25.heap.size) (by simp)
      clear F23
      refine ru_back hK (by exact ⟨F26.cl 2 0 rfl rfl, (by have h_ := ((F26.at 6 rfl : Sl intEnc 1 l1 h1 _ (.slice (some ⟨x15, o16, none⟩) O.length tok) O)).cells hz19.out 0 _ rfl; simpa using h_), F26.cl 2 1 rfl rfl, (by have h_ := ((F26.at 5 rfl : Sl intEnc 1 l2 h2 _ (.slice (some ⟨x17, o18, none⟩) C.length tck) C)).cells hz20.out 0 _ rfl; simpa using h_)⟩) (fun hHeld => ?_)
      clear hK K
      (try simp only [Act.put, List.setIfInBounds_toArray, List.set_cons_zero, List.set_cons_succ])
      refine ru_one 13 rfl (by kernel_rfl) (fun K hK => ?_)
      refine step_app _ okInt rfl _ _ rfl w.heap.size vo_ (lsT O C i) [gi O i - gi C i] rfl (by exact (F26.at 1 rfl : Own intEnc 3 1 w.heap.size _ vo_ (lsT O C i))) ⟨_, 0, none⟩ 1 1 rfl rfl (by decide) (news_of (F26.at 0 rfl : Bk _ wd25.heap.size 3 #[.int .i64 (gi O i - (gi C i))])) (i + 1) (by rw [lsT_len]) (by omega) (by first | omega | (simp; omega)) _ rfl ?_
      intro g27 cap28 w29 hp30
      have hp30s := hp30.gb.size
      (try simp at hp30s)
      have F31 := (F26.front 1 rfl rfl).app hp30 (Nat.le_refl _)
      clear F26
      refine ru_back hK (by exact ⟨F31.cl 2 0 rfl rfl, (by have h_ := ((F31.at 6 rfl : Sl intEnc 1 l1 h1 _ (.slice (some ⟨x15, o16, none⟩) O.length tok) O)).cells hz19.out 0 _ rfl; simpa using h_), F31.cl 2 1 rfl rfl, (by have h_ := ((F31.at 5 rfl : Sl intEnc 1 l2 h2 _ (.slice (some ⟨x17, o18, none⟩) C.length tck) C)).cells hz20.out 0 _ rfl; simpa using h_)⟩) (fun hHeld => ?_)
      clear hK K
      (try simp only [Act.put, List.setIfInBounds_toArray, List.set_cons_zero, List.set_cons_succ])
      refine ru_one 14 rfl (by kernel_rfl) (fun K hK => ?_)
      go_simp
      refine ru_back_late hK (by kernel_rfl) ?_
      clear hK K
      (try simp only [Act.put, List.setIfInBounds_toArray, List.set_cons_zero, List.set_cons_succ])
      refine ru_done (by kernel_rfl) ?_
      (try clear hw21)
      obtain ⟨w32, hx33, F35, hxs34⟩ := (show Bun w [rown intEnc 3 1 w.heap.size (.slice (some ⟨g27, 0, none⟩) (i + 1) cap28) ((lsT O C i) ++ [gi O i - gi C i]), rbox (w.heap.size + 1) 32 #[.slice (some ⟨x15, o16, none⟩) O.length tok, .slice (some ⟨x17, o18, none⟩) C.length tck, .slice tva V.length tvk], rbox w.heap.size 25 #[.slice aa b.accs.length ak, .slice ma b.mvs.length mk], rsl intEnc 1 l3 h3 (.slice tva V.length tvk) V, rsl intEnc 1 l2 h2 (.slice (some ⟨x17, o18, none⟩) C.length tck) C, rsl intEnc 1 l1 h1 (.slice (some ⟨x15, o16, none⟩) O.length tok) O, rsl mvEnc 4 lo hi (.slice ma b.mvs.length mk) b.mvs, rsl accEnc 6 lo hi (.slice aa b.accs.length ak) b.accs] _ from (F31.drop 1 rfl)).name
      (try simp at hxs34)
      rw [hx33]
      clear hx33 F31
      go_wp2_with fail
      rw [lsT_step] at F35
      (first | refine ⟨by kernel_rfl, ?_, ?_⟩ | refine ⟨rfl, ?_, ?_⟩ | refine ⟨?_, ?_⟩)
      · rw [HI10.out]; exact ⟨i + 1, _, (by first | kernel_rfl | rfl), (by first | kernel_rfl | rfl), (by first | kernel_rfl | rfl), (by show Value.int .i64 ((i : Int) + 1) = _; simp), (by omega), (by first | rfl | simp), (by first | omega | (simp; done) | (simp; omega)), F35⟩
      · simp [slot, intOf]; omega
    · skip
      have c14H := Lib.hid c14
      have c14a : decide ((i : Int) < (b.accs.length : Int)) = false := dec_f c14
      have b36 := hF11.bx2 2 rfl
      go_wp2_with fail
      clear b36
      have hie : i = b.accs.length := by omega
      subst hie
      rw [lsT_all b O C V] at hF11
      obtain ⟨go, co, e_⟩ := Own.opn (hF11.at 0 rfl : Own intEnc 3 1 w.heap.size _ vo_ (lsM b O C V 0)) (by rw [lsM_len]; omega)
      rw [lsM_len] at e_
      subst e_
      have gol := (hF11.ltAt 0 rfl _ rfl).1
      (skip)
      obtain ⟨HI37_, HI370⟩ : ∃ I : (Nat → Value) → List Deferred → World → Prop, I = (fun t ds wr => ∃ (k : Nat), t 2 = .pointer (some ⟨w.heap.size, 0, none⟩) ∧ t 3 = .pointer (some ⟨w.heap.size + 1, 0, none⟩) ∧ t 5 = .slice (some ⟨go, 0, none⟩) b.accs.length co ∧ t 7 = .int .i64 (k : Int) ∧ k ≤ b.mvs.length ∧ ds = [] ∧ w13.heap.size ≤ wr.heap.size ∧ Bun w [rown intEnc 3 1 w.heap.size (.slice (some ⟨go, 0, none⟩) b.accs.length co) (lsM b O C V k), rbox (w.heap.size + 1) 32 #[.slice toa O.length tok, .slice tca C.length tck, .slice tva V.length tvk], rbox w.heap.size 25 #[.slice aa b.accs.length ak, .slice ma b.mvs.length mk], rsl intEnc 1 l3 h3 (.slice tva V.length tvk) V, rsl intEnc 1 l2 h2 (.slice tca C.length tck) C, rsl intEnc 1 l1 h1 (.slice toa O.length tok) O, rsl mvEnc 4 lo hi (.slice ma b.mvs.length mk) b.mvs, rsl accEnc 6 lo hi (.slice aa b.accs.length ak) b.accs] wr) := ⟨_, rfl⟩
      have HI37 := Lib.hid HI370
      clear HI370
      refine wp_loopS 83 rfl HI37_ (fun t wr => b.mvs.length - (intOf (t 7)).toNat) ?atStart2 ?round2
      case round2 =>
        intro t ds wr hHid
        rw [HI37.out] at hHid
        obtain ⟨k, e2, e3, e5, e7, hrel⟩ := hHid
        have e : ((List.range 83).map t).toArray = #[t 0, t 1, t 2, t 3, t 4, t 5, t 6, t 7, t 8, t 9, t 10, t 11, t 12, t 13, t 14, t 15, t 16, t 17, t 18, t 19, t 20, t 21, t 22, t 23, t 24, t 25, t 26, t 27, t 28, t 29, t 30, t 31, t 32, t 33, t 34, t 35, t 36, t 37, t 38, t 39, t 40, t 41, t 42, t 43, t 44, t 45, t 46, t 47, t 48, t 49, t 50, t 51, t 52, t 53, t 54, t 55, t 56, t 57, t 58, t 59, t 60, t 61, t 62, t 63, t 64, t 65, t 66, t 67, t 68, t 69, t 70, t 71, t 72, t 73, t 74, t 75, t 76, t 77, t 78, t 79, t 80, t 81, t 82] := rfl
        (try dsimp only at e)
        rw [e2, e3, e5, e7] at e
        rw [e]
        simp only [e7]
        clear e e2 e3 e5 e7
        obtain ⟨hk0, rfl, hs39, hF38⟩ := hrel
        clear hF11
        obtain ⟨w40, rfl⟩ : ∃ x_ : World, x_ = wr := ⟨_, rfl⟩
        by_cases c41 : (k : Int) < (b.mvs.length : Int)
        · skip
          have c41H := Lib.hid c41
          obtain ⟨x42, o43, e_⟩ := Sl.addr (hF38.at 6 rfl : Sl mvEnc 4 lo hi _ (.slice ma b.mvs.length mk) b.mvs) (by omega)
          subst e_
          obtain ⟨x44, o45, e_⟩ := Sl.addr (hF38.at 3 rfl : Sl intEnc 1 l3 h3 _ (.slice tva V.length tvk) V) (by omega)
          subst e_
          have hz46 : Hid (b.mvs[k]? = some (gm b.mvs k)) := Lib.hid (gm_at (by omega))
          have hz47 : Hid (V[k]? = some (gi V k)) := Lib.hid (gi_at (by omega))
          have hkv : k < V.length := by omega
          have hmok := HOK.out.mv k (by omega)
          have hmf := hmok.fr
          have hmt := hmok.to
          have hmne := hmok.ne
          have hli := hmok.li
          clear hmok
          have HM1 : Hid (∀ q, q < k + 1 → truM b V q) := Lib.hid (fun q hq => HTM.out q (by omega))
          have hvk : 0 ≤ gi V k ∧ gi V k ≤ 1000000000 := by have h_ := HM1.out k (by omega); unfold truM at h_; omega
          have hb1 := lsM_bdk HOK.out HTA.out HM1.out (k := k) (by omega) (j := (gm b.mvs k).fr.toNat) (by omega)
          have hb2 := mid_bdk HOK.out HTA.out HM1.out (k := k) (by omega) (j := (gm b.mvs k).to.toNat) (by omega)
          have hz48 : Hid ((lsM b O C V k)[(gm b.mvs k).fr.toNat]? = some (gi (lsM b O C V k) (gm b.mvs k).fr.toNat)) := Lib.hid (gi_at (by rw [lsM_len]; omega))
          have b50 := hF38.bx2 2 rfl
          go_wp2_with fail
          clear b50
          have hw49 : IntKind.i64.wrap (gi (lsM b O C V k) ((gm b.mvs k).fr.toNat) - (gi V k)) = gi (lsM b O C V k) ((gm b.mvs k).fr.toNat) - (gi V k) := IntWalk.i64_in _ (by omega)
          have F51 := hF38.drew
          clear hF38
          refine ru_begin (fun W => W.cell? ⟨w.heap.size, 1, none⟩ = some (.slice (some ⟨x42, o43, none⟩) b.mvs.length mk) ∧ W.cell? ⟨x42, o43 + k * 4, none⟩ = some (.int .i64 (gm b.mvs k).fr) ∧ W.cell? ⟨go, (gm b.mvs k).fr.toNat, none⟩ = some (.int .i64 (gi (lsM b O C V k) ((gm b.mvs k).fr.toNat))) ∧ W.cell? ⟨(w.heap.size + 1), 2, none⟩ = some (.slice (some ⟨x44, o45, none⟩) V.length tvk) ∧ W.cell? ⟨x44, o45 + k, none⟩ = some (.int .i64 (gi V k))) 23 (by kernel_rfl) ?_ ?_
          · exact ⟨F51.cl 2 1 rfl rfl, (((F51.at 6 rfl : Sl mvEnc 4 lo hi _ (.slice (some ⟨x42, o43, none⟩) b.mvs.length mk) b.mvs)).cells hz46.out 0 _ rfl), (by simpa using (Own.sl (F51.at 0 rfl : Own intEnc 3 1 w.heap.size _ (.slice (some ⟨go, 0, none⟩) b.accs.length co) (lsM b O C V k)) (fun _ => rfl)).cells hz48.out 0 _ rfl), F51.cl 1 2 rfl rfl, (by have h_ := ((F51.at 3 rfl : Sl intEnc 1 l3 h3 _ (.slice (some ⟨x44, o45, none⟩) V.length tvk) V)).cells hz47.out 0 _ rfl; simpa using h_)⟩
          obtain ⟨wd53, hwd_⟩ : ∃ x : World, w40.drew = x := ⟨_, rfl⟩
          rw [hwd_] at F51 ⊢
          have wd53s : w40.heap.size ≤ wd53.heap.size := by rw [← hwd_]; exact Nat.le_refl _
          clear hwd_
          have hS52 := (And.intro (F51.cl 2 1 rfl rfl) (And.intro ((((F51.at 6 rfl : Sl mvEnc 4 lo hi _ (.slice (some ⟨x42, o43, none⟩) b.mvs.length mk) b.mvs)).cells hz46.out 0 _ rfl)) (And.intro ((by simpa using (Own.sl (F51.at 0 rfl : Own intEnc 3 1 w.heap.size _ (.slice (some ⟨go, 0, none⟩) b.accs.length co) (lsM b O C V k)) (fun _ => rfl)).cells hz48.out 0 _ rfl)) (And.intro (F51.cl 1 2 rfl rfl) ((by have h_ := ((F51.at 3 rfl : Sl intEnc 1 l3 h3 _ (.slice (some ⟨x44, o45, none⟩) V.length tvk) V)).cells hz47.out 0 _ rfl; simpa using h_))))))
          refine ru_t 0 [] ?_
          refine ru_t 1 [] ?_
          refine ru_t 2 [] ?_
          refine ru_t 3 [] ?_
          refine ru_t 4 [] ?_
          refine ru_t 5 [] ?_
          refine ru_t 6 [] ?_
          refine ru_t 7 [] ?_
          refine ru_t 8 [] ?_
          refine ru_t 9 [] ?_
          refine ru_t 10 [] ?_
          refine ru_t 11 [] ?_
          refine ru_t 12 [] ?_
          refine ru_t 13 [] ?_
          refine ru_t 14 [] ?_
          refine ru_t 15 [] ?_
          refine ru_t 16 [] ?_
          refine ru_t 17 [] ?_
          refine ru_t 18 [] ?_
          refine ru_t 19 [] ?_
          refine ru_t 20 [] ?_
          refine ru_t 21 [] ?_
          refine ru_t 22 [] ?_
          (try simp only [Act.put, List.setIfInBounds_toArray, List.set_cons_zero, List.set_cons_succ])
          clear hS52
          refine ru_one 23 rfl (by kernel_rfl) (fun K hK => ?_)
          have kc_ : World.cell? _ ⟨go, (gm b.mvs k).fr.toNat, none⟩ = some (.int .i64 (gi (lsM b O C V k) ((gm b.mvs k).fr.toNat))) := (by simpa using (Own.sl (F51.at 0 rfl : Own intEnc 3 1 w.heap.size _ (.slice (some ⟨go, 0, none⟩) b.accs.length co) (lsM b O C V k)) (fun _ => rfl)).cells hz48.out 0 _ rfl)
          have kf_ : World.frozen? _ ⟨go, (gm b.mvs k).fr.toNat, none⟩ = false := Own.live (F51.at 0 rfl : Own intEnc 3 1 w.heap.size _ (.slice (some ⟨go, 0, none⟩) b.accs.length co) (lsM b O C V k)) _
          go_simp
          clear kc_ kf_
          have F54 := Bun.setOwn (sz := 1) (fun _ => rfl) F51 hz48.out (y := (gi (lsM b O C V k) ((gm b.mvs k).fr.toNat) - (gi V k))) (j := 0) (u := (.int .i64 (gi (lsM b O C V k) ((gm b.mvs k).fr.toNat) - (gi V k)))) (k := ((gm b.mvs k).fr.toNat)) (by decide) rfl (by omega)
          clear F51
          have F55 : Bun w [rown intEnc 3 1 w.heap.size (.slice (some ⟨go, 0, none⟩) b.accs.length co) (addAt (lsM b O C V k) (gm b.mvs k).fr.toNat (-(gi V k))), rbox (w.heap.size + 1) 32 #[.slice toa O.length tok, .slice tca C.length tck, .slice (some ⟨x44, o45, none⟩) V.length tvk], rbox w.heap.size 25 #[.slice aa b.accs.length ak, .slice (some ⟨x42, o43, none⟩) b.mvs.length mk], rsl intEnc 1 l3 h3 (.slice (some ⟨x44, o45, none⟩) V.length tvk) V, rsl intEnc 1 l2 h2 (.slice tca C.length tck) C, rsl intEnc 1 l1 h1 (.slice toa O.length tok) O, rsl mvEnc 4 lo hi (.slice (some ⟨x42, o43, none⟩) b.mvs.length mk) b.mvs, rsl accEnc 6 lo hi (.slice aa b.accs.length ak) b.accs] _ := F54
          clear F54
          refine ru_back_late hK (by kernel_rfl) ?_
          clear hK K
          (try simp only [Act.put, List.setIfInBounds_toArray, List.set_cons_zero, List.set_cons_succ])
          refine ru_done (by kernel_rfl) ?_
          (try clear hw49)
          obtain ⟨w56, hx57, F59, hxs58⟩ := F55.name
          (try simp at hxs58)
          rw [hx57]
          clear hx57 F55
          have hz60 : Hid ((addAt (lsM b O C V k) (gm b.mvs k).fr.toNat (-(gi V k)))[(gm b.mvs k).to.toNat]? = some (gi (addAt (lsM b O C V k) (gm b.mvs k).fr.toNat (-(gi V k))) (gm b.mvs k).to.toNat)) := Lib.hid (gi_at (by rw [addAt_len, lsM_len]; omega))
          go_wp2_with fail
          have hw61 : IntKind.i64.wrap (gi (addAt (lsM b O C V k) (gm b.mvs k).fr.toNat (-(gi V k))) ((gm b.mvs k).to.toNat) + (gi V k)) = gi (addAt (lsM b O C V k) (gm b.mvs k).fr.toNat (-(gi V k))) ((gm b.mvs k).to.toNat) + (gi V k) := IntWalk.i64_in _ (by omega)
          have F62 := F59.drew
          clear F59
          refine ru_begin (fun W => W.cell? ⟨w.heap.size, 1, none⟩ = some (.slice (some ⟨x42, o43, none⟩) b.mvs.length mk) ∧ W.cell? ⟨x42, o43 + k * 4 + 1, none⟩ = some (.int .i64 (gm b.mvs k).to) ∧ W.cell? ⟨go, (gm b.mvs k).to.toNat, none⟩ = some (.int .i64 (gi (addAt (lsM b O C V k) (gm b.mvs k).fr.toNat (-(gi V k))) ((gm b.mvs k).to.toNat))) ∧ W.cell? ⟨(w.heap.size + 1), 2, none⟩ = some (.slice (some ⟨x44, o45, none⟩) V.length tvk) ∧ W.cell? ⟨x44, o45 + k, none⟩ = some (.int .i64 (gi V k))) 23 (by kernel_rfl) ?_ ?_
          · exact ⟨F62.cl 2 1 rfl rfl, (((F62.at 6 rfl : Sl mvEnc 4 lo hi _ (.slice (some ⟨x42, o43, none⟩) b.mvs.length mk) b.mvs)).cells hz46.out 1 _ rfl), (by simpa using (Own.sl (F62.at 0 rfl : Own intEnc 3 1 w.heap.size _ (.slice (some ⟨go, 0, none⟩) b.accs.length co) (addAt (lsM b O C V k) (gm b.mvs k).fr.toNat (-(gi V k)))) (fun _ => rfl)).cells hz60.out 0 _ rfl), F62.cl 1 2 rfl rfl, (by have h_ := ((F62.at 3 rfl : Sl intEnc 1 l3 h3 _ (.slice (some ⟨x44, o45, none⟩) V.length tvk) V)).cells hz47.out 0 _ rfl; simpa using h_)⟩
          obtain ⟨wd64, hwd_⟩ : ∃ x : World, w56.drew = x := ⟨_, rfl⟩
          rw [hwd_] at F62 ⊢
          have wd64s : w56.heap.size ≤ wd64.heap.size := by rw [← hwd_]; exact Nat.le_refl _
          clear hwd_
          have hS63 := (And.intro (F62.cl 2 1 rfl rfl) (And.intro ((((F62.at 6 rfl : Sl mvEnc 4 lo hi _ (.slice (some ⟨x42, o43, none⟩) b.mvs.length mk) b.mvs)).cells hz46.out 1 _ rfl)) (And.intro ((by simpa using (Own.sl (F62.at 0 rfl : Own intEnc 3 1 w.heap.size _ (.slice (some ⟨go, 0, none⟩) b.accs.length co) (addAt (lsM b O C V k) (gm b.mvs k).fr.toNat (-(gi V k)))) (fun _ => rfl)).cells hz60.out 0 _ rfl)) (And.intro (F62.cl 1 2 rfl rfl) ((by have h_ := ((F62.at 3 rfl : Sl intEnc 1 l3 h3 _ (.slice (some ⟨x44, o45, none⟩) V.length tvk) V)).cells hz47.out 0 _ rfl; simpa using h_))))))
          refine ru_t 0 [] ?_
          refine ru_t 1 [] ?_
          refine ru_t 2 [] ?_
          refine ru_t 3 [] ?_
          refine ru_t 4 [] ?_
          refine ru_t 5 [] ?_
          refine ru_t 6 [] ?_
          refine ru_t 7 [] ?_
          refine ru_t 8 [] ?_
          refine ru_t 9 [] ?_
          refine ru_t 10 [] ?_
          refine ru_t 11 [] ?_
          refine ru_t 12 [] ?_
          refine ru_t 13 [] ?_
          refine ru_t 14 [] ?_
          refine ru_t 15 [] ?_
          refine ru_t 16 [] ?_
          refine ru_t 17 [] ?_
          refine ru_t 18 [] ?_
          refine ru_t 19 [] ?_
          refine ru_t 20 [] ?_
          refine ru_t 21 [] ?_
          refine ru_t 22 [] ?_
          (try simp only [Act.put, List.setIfInBounds_toArray, List.set_cons_zero, List.set_cons_succ])
          clear hS63
          refine ru_one 23 rfl (by kernel_rfl) (fun K hK => ?_)
          have kc_ : World.cell? _ ⟨go, (gm b.mvs k).to.toNat, none⟩ = some (.int .i64 (gi (addAt (lsM b O C V k) (gm b.mvs k).fr.toNat (-(gi V k))) ((gm b.mvs k).to.toNat))) := (by simpa using (Own.sl (F62.at 0 rfl : Own intEnc 3 1 w.heap.size _ (.slice (some ⟨go, 0, none⟩) b.accs.length co) (addAt (lsM b O C V k) (gm b.mvs k).fr.toNat (-(gi V k)))) (fun _ => rfl)).cells hz60.out 0 _ rfl)
          have kf_ : World.frozen? _ ⟨go, (gm b.mvs k).to.toNat, none⟩ = false := Own.live (F62.at 0 rfl : Own intEnc 3 1 w.heap.size _ (.slice (some ⟨go, 0, none⟩) b.accs.length co) (addAt (lsM b O C V k) (gm b.mvs k).fr.toNat (-(gi V k)))) _
          go_simp
          clear kc_ kf_
          have F65 := Bun.setOwn (sz := 1) (fun _ => rfl) F62 hz60.out (y := (gi (addAt (lsM b O C V k) (gm b.mvs k).fr.toNat (-(gi V k))) ((gm b.mvs k).to.toNat) + (gi V k))) (j := 0) (u := (.int .i64 (gi (addAt (lsM b O C V k) (gm b.mvs k).fr.toNat (-(gi V k))) ((gm b.mvs k).to.toNat) + (gi V k)))) (k := ((gm b.mvs k).to.toNat)) (by decide) rfl (by omega)
          clear F62
          have F66 : Bun w [rown intEnc 3 1 w.heap.size (.slice (some ⟨go, 0, none⟩) b.accs.length co) (lsM b O C V (k + 1)), rbox (w.heap.size + 1) 32 #[.slice toa O.length tok, .slice tca C.length tck, .slice (some ⟨x44, o45, none⟩) V.length tvk], rbox w.heap.size 25 #[.slice aa b.accs.length ak, .slice (some ⟨x42, o43, none⟩) b.mvs.length mk], rsl intEnc 1 l3 h3 (.slice (some ⟨x44, o45, none⟩) V.length tvk) V, rsl intEnc 1 l2 h2 (.slice tca C.length tck) C, rsl intEnc 1 l1 h1 (.slice toa O.length tok) O, rsl mvEnc 4 lo hi (.slice (some ⟨x42, o43, none⟩) b.mvs.length mk) b.mvs, rsl accEnc 6 lo hi (.slice aa b.accs.length ak) b.accs] _ := F65
          clear F65
          refine ru_back_late hK (by kernel_rfl) ?_
          clear hK K
          (try simp only [Act.put, List.setIfInBounds_toArray, List.set_cons_zero, List.set_cons_succ])
          refine ru_done (by kernel_rfl) ?_
          (try clear hw61)
          obtain ⟨w67, hx68, F70, hxs69⟩ := F66.name
          (try simp at hxs69)
          rw [hx68]
          clear hx68 F66
          go_wp2_with fail
          (first | refine ⟨by kernel_rfl, ?_, ?_⟩ | refine ⟨rfl, ?_, ?_⟩ | refine ⟨?_, ?_⟩)
          · rw [HI37.out]; exact ⟨k + 1, (by first | kernel_rfl | rfl), (by first | kernel_rfl | rfl), (by first | kernel_rfl | rfl), (by show Value.int .i64 ((k : Int) + 1) = _; simp), (by omega), (by first | rfl | simp), (by first | omega | (simp; done) | (simp; omega)), F70⟩
          · simp [slot, intOf]; omega
        · skip
          have c41H := Lib.hid c41
          have c41a : decide ((k : Int) < (b.mvs.length : Int)) = false := dec_f c41
          have b71 := hF38.bx2 2 rfl
          go_wp2_with fail
          clear b71
          have hke : k = b.mvs.length := by omega
          subst hke
          exact bodyPost_ret (v := .slice (some ⟨go, 0, none⟩) b.accs.length co) (by simp [results, Try.results63, go_sem]) rfl (⟨_, _, rfl, hF38.pick [0] (by decide) rfl⟩)
      case atStart2 =>
        rw [HI37.out]
        exact ⟨0, (by first | kernel_rfl | rfl), (by first | kernel_rfl | rfl), (by first | kernel_rfl | rfl), rfl, Nat.zero_le _, rfl, (by first | exact Nat.le_refl _ | omega | (simp; done) | (simp; omega)), hF11⟩
  case atStart1 =>
    rw [HI10.out]
    exact ⟨0, _, (by first | kernel_rfl | rfl), (by first | kernel_rfl | rfl), rfl, rfl, Nat.zero_le _, rfl, (by first | exact Nat.le_refl _ | omega | (simp; done) | (simp; omega)), F9⟩

theorem losing_c (lo hi : Nat) (va vm : Value) (b : Bok) (l1 h1 l2 h2 l3 h3 : Nat) (vo vc vv : Value) (O C V : List Int) (w : World) (hb : HasB lo hi w va vm b) (hn : nameOk b.accs) (hh : hi ≤ w.heap.size) (ho : Ints l1 h1 w vo O) (q1 : h1 ≤ w.heap.size) (hc : Ints l2 h2 w vc C) (q2 : h2 ≤ w.heap.size) (hv : Ints l3 h3 w vv V) (q3 : h3 ≤ w.heap.size) (hok : BokOk b) (hln : O.length = b.accs.length ∧ C.length = b.accs.length ∧ V.length = b.mvs.length) (hta : ∀ q, q < b.accs.length → truA b O C q) (htm : ∀ q, q < b.mvs.length → truM b V q) :
    Calls Try.prog 63 #[.agg #[va, vm], .agg #[vo, vc, vv]] w (SlIntsB (lsM b O C V b.mvs.length) b.accs.length w) :=
  (losing_q lo hi va vm b l1 h1 l2 h2 l3 h3 vo vc vv O C V w hb hn hh ho q1 hc q2 hv q3 hok hln hta htm).mono fun _ _ h => h.s
set_option maxHeartbeats 8000000 in
theorem sum_c (lo hi : Nat) (v : Value) (l : List Int) (w : World) (hl : Ints lo hi w v l) (h2 : hi ≤ w.heap.size) (hbd : ∀ k, k < l.length → -10000000000000 ≤ gi l k ∧ gi l k ≤ 10000000000000) (hc : l.length ≤ 100) :
    Calls Try.prog 64 #[v] w (Ret (.int .i64 (sumN (fun k => gi l k) l.length)) w) := by
  have F1 : Bun w [] w := Bun.nil _
  have hm_l := hl.len
  unfold maxLen at hm_l
  obtain ⟨la, lc, rfl⟩ := hl.any
  have F2 := F1.sl0 hl h2 rfl
  clear F1
  clear hl
  go_enter Try.func64, Try.ntmps64
  go_wp2_with fail
  obtain ⟨HI3_, HI30⟩ : ∃ I : (Nat → Value) → List Deferred → World → Prop, I = (fun t ds wr => ∃ (i : Nat), t 0 = .slice la l.length lc ∧ t 3 = .int .i64 (sumN (fun k => gi l k) i) ∧ t 4 = .int .i64 (i : Int) ∧ i ≤ l.length ∧ ds = [] ∧ w.heap.size ≤ wr.heap.size ∧ Bun w [rsl intEnc 1 lo hi (.slice la l.length lc) l] wr) := ⟨_, rfl⟩
  have HI3 := Lib.hid HI30
  clear HI30
  refine wp_loopS 18 rfl HI3_ (fun t wr => l.length - (intOf (t 4)).toNat) ?atStart3 ?round3
  case round3 =>
    intro t ds wr hHid
    rw [HI3.out] at hHid
    obtain ⟨i, e0, e3, e4, hrel⟩ := hHid
    have e : ((List.range 18).map t).toArray = #[t 0, t 1, t 2, t 3, t 4, t 5, t 6, t 7, t 8, t 9, t 10, t 11, t 12, t 13, t 14, t 15, t 16, t 17] := rfl
    (try dsimp only at e)
    rw [e0, e3, e4] at e
    rw [e]
    simp only [e4]
    clear e e0 e3 e4
    obtain ⟨hi0, rfl, hs5, hF4⟩ := hrel
    clear F2
    obtain ⟨w6, rfl⟩ : ∃ x_ : World, x_ = wr := ⟨_, rfl⟩
    by_cases c7 : (i : Int) < (l.length : Int)
    · skip
      have c7H := Lib.hid c7
      obtain ⟨x8, o9, e_⟩ := Sl.addr (hF4.at 0 rfl : Sl intEnc 1 lo hi _ (.slice la l.length lc) l) (by omega)
      subst e_
      have hz10 : Hid (l[i]? = some (gi l i)) := Lib.hid (gi_at (by omega))
      have hgi := hbd i (by omega)
      have hsi := sumN_bd hbd i (by omega)
      have hi_c : (i : Int) ≤ 100 := by omega
      have ge11 : World.cell? _ ⟨x8, o9 + i, none⟩ = some (.int .i64 (gi l i)) := (by have h_ := ((hF4.at 0 rfl : Sl intEnc 1 lo hi _ (.slice (some ⟨x8, o9, none⟩) l.length lc) l)).cells hz10.out 0 _ rfl; simpa using h_)
      have gl12 := cell_lt ge11
      go_wp2_with fail
      clear ge11 gl12
      (first | refine ⟨rfl, ?_, ?_⟩ | refine ⟨?_, ?_⟩)
      · rw [HI3.out]; exact ⟨i + 1, rfl, (by first | rfl | (simp only [sumN]; rfl)), (by show Value.int .i64 ((i : Int) + 1) = _; simp), (by omega), (by first | rfl | simp), (by first | omega | (simp; done) | (simp; omega)), hF4⟩
      · simp [slot, intOf]; omega
    · skip
      have c7H := Lib.hid c7
      have c7a : decide ((i : Int) < (l.length : Int)) = false := dec_f c7
      have hie : i = l.length := by omega
      subst hie
      go_wp2_with fail
      go_ret
      exact ⟨rfl, hF4.gb⟩
  case atStart3 =>
    rw [HI3.out]
    exact ⟨0, rfl, rfl, rfl, Nat.zero_le _, rfl, (by first | exact Nat.le_refl _ | omega | (simp; done) | (simp; omega)), F2⟩

set_option maxHeartbeats 8000000 in
theorem insideT_c (lo hi : Nat) (va vm : Value) (b : Bok) (l1 h1 l2 h2 l3 h3 : Nat) (vo vc vv : Value) (O C V : List Int) (w : World) (hb : HasB lo hi w va vm b) (hn : nameOk b.accs) (hh : hi ≤ w.heap.size) (ho : Ints l1 h1 w vo O) (q1 : h1 ≤ w.heap.size) (hc : Ints l2 h2 w vc C) (q2 : h2 ≤ w.heap.size) (hv : Ints l3 h3 w vv V) (q3 : h3 ≤ w.heap.size) (hln : O.length = b.accs.length ∧ C.length = b.accs.length ∧ V.length = b.mvs.length) (hta : ∀ q, q < b.accs.length → truA b O C q) (htm : ∀ q, q < b.mvs.length → truM b V q) :
    Calls Try.prog 65 #[.agg #[va, vm], .agg #[vo, vc, vv]] w (Ret (.bool true) w) := by
  have F1 : Bun w [] w := Bun.nil _
  obtain ⟨hba, hbm⟩ := id hb
  clear hb
  have hm_ac := hba.len
  unfold maxLen at hm_ac
  obtain ⟨aa, ak, rfl⟩ := hba.any
  have F2 := F1.sl0 hba hh rfl
  clear F1
  clear hba
  have hm_mv := hbm.len
  unfold maxLen at hm_mv
  obtain ⟨ma, mk, rfl⟩ := hbm.any
  have F3 := F2.sl0 hbm hh rfl
  clear F2
  clear hbm
  have HN := Lib.hid hn
  clear hn
  have hm_to := ho.len
  unfold maxLen at hm_to
  obtain ⟨toa, tok, rfl⟩ := ho.any
  have F4 := F3.sl0 ho q1 rfl
  clear F3
  clear ho
  have hm_tc := hc.len
  unfold maxLen at hm_tc
  obtain ⟨tca, tck, rfl⟩ := hc.any
  have F5 := F4.sl0 hc q2 rfl
  clear F4
  clear hc
  have hm_tv := hv.len
  unfold maxLen at hm_tv
  obtain ⟨tva, tvk, rfl⟩ := hv.any
  have F6 := F5.sl0 hv q3 rfl
  clear F5
  clear hv
  have hlo := hln.1
  have hlc := hln.2.1
  have hlv := hln.2.2
  have hll : ((O.length ≤ b.accs.length ∧ b.accs.length ≤ O.length) ∧ C.length ≤ b.accs.length ∧ b.accs.length ≤ C.length) ∧ V.length ≤ b.mvs.length ∧ b.mvs.length ≤ V.length := by omega
  have HTA := Lib.hid hta
  have HTM := Lib.hid htm
  clear hlo hlc hlv hln hta htm
  go_enter Try.func65, Try.ntmps65
  go_wp2_with fail
  have F7 := F6.new 25 #[.slice aa b.accs.length ak, .slice ma b.mvs.length mk] (n := w.heap.size) (by simp)
  clear F6
  have F8 := F7.new 32 #[.slice toa O.length tok, .slice tca C.length tck, .slice tva V.length tvk] (n := (w.heap.size + 1)) (by simp)
  clear F7
  obtain ⟨HI9_, HI90⟩ : ∃ I : (Nat → Value) → List Deferred → World → Prop, I = (fun t ds wr => ∃ (i : Nat), t 2 = .pointer (some ⟨w.heap.size, 0, none⟩) ∧ t 3 = .pointer (some ⟨w.heap.size + 1, 0, none⟩) ∧ t 5 = .int .i64 (i : Int) ∧ i ≤ b.accs.length ∧ ds = [] ∧ w.heap.size ≤ wr.heap.size ∧ Bun w [rbox (w.heap.size + 1) 32 #[.slice toa O.length tok, .slice tca C.length tck, .slice tva V.length tvk], rbox w.heap.size 25 #[.slice aa b.accs.length ak, .slice ma b.mvs.length mk], rsl intEnc 1 l3 h3 (.slice tva V.length tvk) V, rsl intEnc 1 l2 h2 (.slice tca C.length tck) C, rsl intEnc 1 l1 h1 (.slice toa O.length tok) O, rsl mvEnc 4 lo hi (.slice ma b.mvs.length mk) b.mvs, rsl accEnc 6 lo hi (.slice aa b.accs.length ak) b.accs] wr) := ⟨_, rfl⟩
  have HI9 := Lib.hid HI90
  clear HI90
  refine wp_loopS 62 rfl HI9_ (fun t wr => b.accs.length - (intOf (t 5)).toNat) ?atStart4 ?round4
  case round4 =>
    intro t ds wr hHid
    rw [HI9.out] at hHid
    obtain ⟨i, e2, e3, e5, hrel⟩ := hHid
    have e : ((List.range 62).map t).toArray = #[t 0, t 1, t 2, t 3, t 4, t 5, t 6, t 7, t 8, t 9, t 10, t 11, t 12, t 13, t 14, t 15, t 16, t 17, t 18, t 19, t 20, t 21, t 22, t 23, t 24, t 25, t 26, t 27, t 28, t 29, t 30, t 31, t 32, t 33, t 34, t 35, t 36, t 37, t 38, t 39, t 40, t 41, t 42, t 43, t 44, t 45, t 46, t 47, t 48, t 49, t 50, t 51, t 52, t 53, t 54, t 55, t 56, t 57, t 58, t 59, t 60, t 61] := rfl
    (try dsimp only at e)
    rw [e2, e3, e5] at e
    rw [e]
    simp only [e5]
    clear e e2 e3 e5
    obtain ⟨hi0, rfl, hs11, hF10⟩ := hrel
    clear F8
    obtain ⟨w12, rfl⟩ : ∃ x_ : World, x_ = wr := ⟨_, rfl⟩
    by_cases c13 : (i : Int) < (b.accs.length : Int)
    · skip
      have c13H := Lib.hid c13
      obtain ⟨x14, o15, e_⟩ := Sl.addr (hF10.at 6 rfl : Sl accEnc 6 lo hi _ (.slice aa b.accs.length ak) b.accs) (by omega)
      subst e_
      obtain ⟨x16, o17, e_⟩ := Sl.addr (hF10.at 4 rfl : Sl intEnc 1 l1 h1 _ (.slice toa O.length tok) O) (by omega)
      subst e_
      obtain ⟨x18, o19, e_⟩ := Sl.addr (hF10.at 3 rfl : Sl intEnc 1 l2 h2 _ (.slice tca C.length tck) C) (by omega)
      subst e_
      have hz20 : Hid (b.accs[i]? = some (ga b.accs i)) := Lib.hid (ga_at (by omega))
      have hz21 : Hid (O[i]? = some (gi O i)) := Lib.hid (gi_at (by omega))
      have hz22 : Hid (C[i]? = some (gi C i)) := Lib.hid (gi_at (by omega))
      have hio : i < O.length := by omega
      have hic : i < C.length := by omega
      have HTI := Lib.hid (HTA.out i (by omega))
      have b23 := hF10.bx2 1 rfl
      go_wp2_with fail
      clear b23
      have F24 := hF10.drew
      clear hF10
      refine ru_begin (fun W => W.cell? ⟨w.heap.size, 0, none⟩ = some (.slice (some ⟨x14, o15, none⟩) b.accs.length ak) ∧ W.cell? ⟨x14, o15 + i * 6 + 2, none⟩ = some (.int .i64 (ga b.accs i).op.lo) ∧ W.cell? ⟨x14, o15 + i * 6 + 2 + 1, none⟩ = some (.int .i64 (ga b.accs i).op.hi) ∧ W.cell? ⟨(w.heap.size + 1), 0, none⟩ = some (.slice (some ⟨x16, o17, none⟩) O.length tok) ∧ W.cell? ⟨x16, o17 + i, none⟩ = some (.int .i64 (gi O i)) ∧ W.cell? ⟨x14, o15 + i * 6 + 4, none⟩ = some (.int .i64 (ga b.accs i).cl.lo) ∧ W.cell? ⟨x14, o15 + i * 6 + 4 + 1, none⟩ = some (.int .i64 (ga b.accs i).cl.hi) ∧ W.cell? ⟨(w.heap.size + 1), 1, none⟩ = some (.slice (some ⟨x18, o19, none⟩) C.length tck) ∧ W.cell? ⟨x18, o19 + i, none⟩ = some (.int .i64 (gi C i))) 27 (by kernel_rfl) ?_ ?_
      · exact ⟨F24.cl 1 0 rfl rfl, (((F24.at 6 rfl : Sl accEnc 6 lo hi _ (.slice (some ⟨x14, o15, none⟩) b.accs.length ak) b.accs)).cells hz20.out 2 _ rfl), (((F24.at 6 rfl : Sl accEnc 6 lo hi _ (.slice (some ⟨x14, o15, none⟩) b.accs.length ak) b.accs)).cells hz20.out 3 _ rfl), F24.cl 0 0 rfl rfl, (by have h_ := ((F24.at 4 rfl : Sl intEnc 1 l1 h1 _ (.slice (some ⟨x16, o17, none⟩) O.length tok) O)).cells hz21.out 0 _ rfl; simpa using h_), (((F24.at 6 rfl : Sl accEnc 6 lo hi _ (.slice (some ⟨x14, o15, none⟩) b.accs.length ak) b.accs)).cells hz20.out 4 _ rfl), (((F24.at 6 rfl : Sl accEnc 6 lo hi _ (.slice (some ⟨x14, o15, none⟩) b.accs.length ak) b.accs)).cells hz20.out 5 _ rfl), F24.cl 0 1 rfl rfl, (by have h_ := ((F24.at 3 rfl : Sl intEnc 1 l2 h2 _ (.slice (some ⟨x18, o19, none⟩) C.length tck) C)).cells hz22.out 0 _ rfl; simpa using h_)⟩
      obtain ⟨wd26, hwd_⟩ : ∃ x : World, w12.drew = x := ⟨_, rfl⟩
      rw [hwd_] at F24 ⊢
      have wd26s : w12.heap.size ≤ wd26.heap.size := by rw [← hwd_]; exact Nat.le_refl _
      clear hwd_
      have hS25 := (And.intro (F24.cl 1 0 rfl rfl) (And.intro ((((F24.at 6 rfl : Sl accEnc 6 lo hi _ (.slice (some ⟨x14, o15, none⟩) b.accs.length ak) b.accs)).cells hz20.out 2 _ rfl)) (And.intro ((((F24.at 6 rfl : Sl accEnc 6 lo hi _ (.slice (some ⟨x14, o15, none⟩) b.accs.length ak) b.accs)).cells hz20.out 3 _ rfl)) (And.intro (F24.cl 0 0 rfl rfl) (And.intro ((by have h_ := ((F24.at 4 rfl : Sl intEnc 1 l1 h1 _ (.slice (some ⟨x16, o17, none⟩) O.length tok) O)).cells hz21.out 0 _ rfl; simpa using h_)) (And.intro ((((F24.at 6 rfl : Sl accEnc 6 lo hi _ (.slice (some ⟨x14, o15, none⟩) b.accs.length ak) b.accs)).cells hz20.out 4 _ rfl)) (And.intro ((((F24.at 6 rfl : Sl accEnc 6 lo hi _ (.slice (some ⟨x14, o15, none⟩) b.accs.length ak) b.accs)).cells hz20.out 5 _ rfl)) (And.intro (F24.cl 0 1 rfl rfl) ((by have h_ := ((F24.at 3 rfl : Sl intEnc 1 l2 h2 _ (.slice (some ⟨x18, o19, none⟩) C.length tck) C)).cells hz22.out 0 _ rfl; simpa using h_))))))))))
      refine ru_t 0 [13, 11, 5, 4, 3, 1] ?_
      refine ru_t 1 [13, 11, 5, 4, 3] ?_
      refine ru_t 2 [13, 11, 5, 4, 3] ?_
      refine ru_t 3 [13, 11, 5, 4] ?_
      refine ru_t 4 [13, 11, 5] ?_
      refine ru_t 5 [13, 11] ?_
      refine ru_t 6 [13, 11, 10, 9, 7] ?_
      refine ru_t 7 [13, 11, 10, 9] ?_
      refine ru_t 8 [13, 11, 10, 9] ?_
      refine ru_t 9 [13, 11, 10] ?_
      refine ru_t 10 [13, 11] ?_
      (try simp only [Act.put, List.setIfInBounds_toArray, List.set_cons_zero, List.set_cons_succ])
      clear hS25
      refine ru_one 11 rfl (by kernel_rfl) (fun K hK => ?_)
      go_simp
      refine (has_t _ _ _ _ HTI.out.1).mono ?_
      rintro e w29 ⟨rfl, hg27⟩
      have hg27s := hg27.size
      (try simp at hg27s)
      have F30 := F24.gn hg27
      clear F24
      refine ru_back hK (by exact ⟨F30.cl 1 0 rfl rfl, (((F30.at 6 rfl : Sl accEnc 6 lo hi _ (.slice (some ⟨x14, o15, none⟩) b.accs.length ak) b.accs)).cells hz20.out 2 _ rfl), (((F30.at 6 rfl : Sl accEnc 6 lo hi _ (.slice (some ⟨x14, o15, none⟩) b.accs.length ak) b.accs)).cells hz20.out 3 _ rfl), F30.cl 0 0 rfl rfl, (by have h_ := ((F30.at 4 rfl : Sl intEnc 1 l1 h1 _ (.slice (some ⟨x16, o17, none⟩) O.length tok) O)).cells hz21.out 0 _ rfl; simpa using h_), (((F30.at 6 rfl : Sl accEnc 6 lo hi _ (.slice (some ⟨x14, o15, none⟩) b.accs.length ak) b.accs)).cells hz20.out 4 _ rfl), (((F30.at 6 rfl : Sl accEnc 6 lo hi _ (.slice (some ⟨x14, o15, none⟩) b.accs.length ak) b.accs)).cells hz20.out 5 _ rfl), F30.cl 0 1 rfl rfl, (by have h_ := ((F30.at 3 rfl : Sl intEnc 1 l2 h2 _ (.slice (some ⟨x18, o19, none⟩) C.length tck) C)).cells hz22.out 0 _ rfl; simpa using h_)⟩) (fun hHeld => ?_)
      clear hK K
      (try simp only [Act.put, List.setIfInBounds_toArray, List.set_cons_zero, List.set_cons_succ])
      refine ru_p 12 ?_
      (try simp only [Act.put, List.setIfInBounds_toArray, List.set_cons_zero, List.set_cons_succ])
      refine ru_p 13 ?_
      (try simp only [Act.put, List.setIfInBounds_toArray, List.set_cons_zero, List.set_cons_succ])
      refine ru_p 14 ?_
      refine ru_p 16 ?_
      refine ru_p 20 ?_
      refine ru_p 22 ?_
      (try simp only [Act.put, List.setIfInBounds_toArray, List.set_cons_zero, List.set_cons_succ])
      refine ru_t 15 [26, 25, 19, 18, 17] ?_
      refine ru_t 21 [26, 25, 24, 23] ?_
      (try simp only [Act.put, List.setIfInBounds_toArray, List.set_cons_zero, List.set_cons_succ])
      refine ru_p 17 ?_
      refine ru_p 23 ?_
      (try simp only [Act.put, List.setIfInBounds_toArray, List.set_cons_zero, List.set_cons_succ])
      refine ru_p 18 ?_
      (try simp only [Act.put, List.setIfInBounds_toArray, List.set_cons_zero, List.set_cons_succ])
      refine ru_t 19 [26, 25] ?_
      refine ru_t 24 [26, 25] ?_
      (try simp only [Act.put, List.setIfInBounds_toArray, List.set_cons_zero, List.set_cons_succ])
      refine ru_one 25 rfl (by kernel_rfl) (fun K hK => ?_)
      go_simp
      refine (has_t _ _ _ _ HTI.out.2).mono ?_
      rintro e w33 ⟨rfl, hg31⟩
      have hg31s := hg31.size
      (try simp at hg31s)
      have F34 := F30.gn hg31
      clear F30
      refine ru_back hK (by exact ⟨F34.cl 1 0 rfl rfl, (((F34.at 6 rfl : Sl accEnc 6 lo hi _ (.slice (some ⟨x14, o15, none⟩) b.accs.length ak) b.accs)).cells hz20.out 2 _ rfl), (((F34.at 6 rfl : Sl accEnc 6 lo hi _ (.slice (some ⟨x14, o15, none⟩) b.accs.length ak) b.accs)).cells hz20.out 3 _ rfl), F34.cl 0 0 rfl rfl, (by have h_ := ((F34.at 4 rfl : Sl intEnc 1 l1 h1 _ (.slice (some ⟨x16, o17, none⟩) O.length tok) O)).cells hz21.out 0 _ rfl; simpa using h_), (((F34.at 6 rfl : Sl accEnc 6 lo hi _ (.slice (some ⟨x14, o15, none⟩) b.accs.length ak) b.accs)).cells hz20.out 4 _ rfl), (((F34.at 6 rfl : Sl accEnc 6 lo hi _ (.slice (some ⟨x14, o15, none⟩) b.accs.length ak) b.accs)).cells hz20.out 5 _ rfl), F34.cl 0 1 rfl rfl, (by have h_ := ((F34.at 3 rfl : Sl intEnc 1 l2 h2 _ (.slice (some ⟨x18, o19, none⟩) C.length tck) C)).cells hz22.out 0 _ rfl; simpa using h_)⟩) (fun hHeld => ?_)
      clear hK K
      (try simp only [Act.put, List.setIfInBounds_toArray, List.set_cons_zero, List.set_cons_succ])
      refine ru_p 26 ?_
      (try simp only [Act.put, List.setIfInBounds_toArray, List.set_cons_zero, List.set_cons_succ])
      refine ru_one 27 rfl (by kernel_rfl) (fun K hK => ?_)
      go_simp
      refine ru_back_late hK (by kernel_rfl) ?_
      clear hK K
      (try simp only [Act.put, List.setIfInBounds_toArray, List.set_cons_zero, List.set_cons_succ])
      refine ru_done (by kernel_rfl) ?_
      obtain ⟨w35, hx36, F38, hxs37⟩ := (show Bun w [rbox (w.heap.size + 1) 32 #[.slice (some ⟨x16, o17, none⟩) O.length tok, .slice (some ⟨x18, o19, none⟩) C.length tck, .slice tva V.length tvk], rbox w.heap.size 25 #[.slice (some ⟨x14, o15, none⟩) b.accs.length ak, .slice ma b.mvs.length mk], rsl intEnc 1 l3 h3 (.slice tva V.length tvk) V, rsl intEnc 1 l2 h2 (.slice (some ⟨x18, o19, none⟩) C.length tck) C, rsl intEnc 1 l1 h1 (.slice (some ⟨x16, o17, none⟩) O.length tok) O, rsl mvEnc 4 lo hi (.slice ma b.mvs.length mk) b.mvs, rsl accEnc 6 lo hi (.slice (some ⟨x14, o15, none⟩) b.accs.length ak) b.accs] _ from F34).name
      (try simp at hxs37)
      rw [hx36]
      clear hx36 F34
      go_wp2_with fail
      (first | refine ⟨by kernel_rfl, ?_, ?_⟩ | refine ⟨rfl, ?_, ?_⟩ | refine ⟨?_, ?_⟩)
      · rw [HI9.out]; exact ⟨i + 1, (by first | kernel_rfl | rfl), (by first | kernel_rfl | rfl), (by show Value.int .i64 ((i : Int) + 1) = _; simp), (by omega), (by first | rfl | simp), (by first | omega | (simp; done) | (simp; omega)), F38⟩
      · simp [slot, intOf]; omega
    · skip
      have c13H := Lib.hid c13
      have c13a : decide ((i : Int) < (b.accs.length : Int)) = false := dec_f c13
      have b39 := hF10.bx2 1 rfl
      go_wp2_with fail
      clear b39
      obtain ⟨HI40_, HI400⟩ : ∃ I : (Nat → Value) → List Deferred → World → Prop, I = (fun t ds wr => ∃ (k : Nat), t 2 = .pointer (some ⟨w.heap.size, 0, none⟩) ∧ t 3 = .pointer (some ⟨w.heap.size + 1, 0, none⟩) ∧ t 6 = .int .i64 (k : Int) ∧ k ≤ b.mvs.length ∧ ds = [] ∧ w12.heap.size ≤ wr.heap.size ∧ Bun w [rbox (w.heap.size + 1) 32 #[.slice toa O.length tok, .slice tca C.length tck, .slice tva V.length tvk], rbox w.heap.size 25 #[.slice aa b.accs.length ak, .slice ma b.mvs.length mk], rsl intEnc 1 l3 h3 (.slice tva V.length tvk) V, rsl intEnc 1 l2 h2 (.slice tca C.length tck) C, rsl intEnc 1 l1 h1 (.slice toa O.length tok) O, rsl mvEnc 4 lo hi (.slice ma b.mvs.length mk) b.mvs, rsl accEnc 6 lo hi (.slice aa b.accs.length ak) b.accs] wr) := ⟨_, rfl⟩
      have HI40 := Lib.hid HI400
      clear HI400
      refine wp_loopS 62 rfl HI40_ (fun t wr => b.mvs.length - (intOf (t 6)).toNat) ?atStart5 ?round5
      case round5 =>
        intro t ds wr hHid
        rw [HI40.out] at hHid
        obtain ⟨k, e2, e3, e6, hrel⟩ := hHid
        have e : ((List.range 62).map t).toArray = #[t 0, t 1, t 2, t 3, t 4, t 5, t 6, t 7, t 8, t 9, t 10, t 11, t 12, t 13, t 14, t 15, t 16, t 17, t 18, t 19, t 20, t 21, t 22, t 23, t 24, t 25, t 26, t 27, t 28, t 29, t 30, t 31, t 32, t 33, t 34, t 35, t 36, t 37, t 38, t 39, t 40, t 41, t 42, t 43, t 44, t 45, t 46, t 47, t 48, t 49, t 50, t 51, t 52, t 53, t 54, t 55, t 56, t 57, t 58, t 59, t 60, t 61] := rfl
        (try dsimp only at e)
        rw [e2, e3, e6] at e
        rw [e]
        simp only [e6]
        clear e e2 e3 e6
        obtain ⟨hk0, rfl, hs42, hF41⟩ := hrel
        clear hF10
        obtain ⟨w43, rfl⟩ : ∃ x_ : World, x_ = wr := ⟨_, rfl⟩
        by_cases c44 : (k : Int) < (b.mvs.length : Int)
        · skip
          have c44H := Lib.hid c44
          obtain ⟨x45, o46, e_⟩ := Sl.addr (hF41.at 5 rfl : Sl mvEnc 4 lo hi _ (.slice ma b.mvs.length mk) b.mvs) (by omega)
          subst e_
          obtain ⟨x47, o48, e_⟩ := Sl.addr (hF41.at 2 rfl : Sl intEnc 1 l3 h3 _ (.slice tva V.length tvk) V) (by omega)
          subst e_
          have hz49 : Hid (b.mvs[k]? = some (gm b.mvs k)) := Lib.hid (gm_at (by omega))
          have hz50 : Hid (V[k]? = some (gi V k)) := Lib.hid (gi_at (by omega))
          have hkv : k < V.length := by omega
          have HTK := Lib.hid (HTM.out k (by omega))
          have b51 := hF41.bx2 1 rfl
          go_wp2_with fail
          clear b51
          have F52 := hF41.drew
          clear hF41
          refine ru_begin (fun W => W.cell? ⟨w.heap.size, 1, none⟩ = some (.slice (some ⟨x45, o46, none⟩) b.mvs.length mk) ∧ W.cell? ⟨x45, o46 + k * 4 + 2, none⟩ = some (.int .i64 (gm b.mvs k).li.lo) ∧ W.cell? ⟨x45, o46 + k * 4 + 2 + 1, none⟩ = some (.int .i64 (gm b.mvs k).li.hi) ∧ W.cell? ⟨(w.heap.size + 1), 2, none⟩ = some (.slice (some ⟨x47, o48, none⟩) V.length tvk) ∧ W.cell? ⟨x47, o48 + k, none⟩ = some (.int .i64 (gi V k))) 12 (by kernel_rfl) ?_ ?_
          · exact ⟨F52.cl 1 1 rfl rfl, (((F52.at 5 rfl : Sl mvEnc 4 lo hi _ (.slice (some ⟨x45, o46, none⟩) b.mvs.length mk) b.mvs)).cells hz49.out 2 _ rfl), (((F52.at 5 rfl : Sl mvEnc 4 lo hi _ (.slice (some ⟨x45, o46, none⟩) b.mvs.length mk) b.mvs)).cells hz49.out 3 _ rfl), F52.cl 0 2 rfl rfl, (by have h_ := ((F52.at 2 rfl : Sl intEnc 1 l3 h3 _ (.slice (some ⟨x47, o48, none⟩) V.length tvk) V)).cells hz50.out 0 _ rfl; simpa using h_)⟩
          obtain ⟨wd54, hwd_⟩ : ∃ x : World, w43.drew = x := ⟨_, rfl⟩
          rw [hwd_] at F52 ⊢
          have wd54s : w43.heap.size ≤ wd54.heap.size := by rw [← hwd_]; exact Nat.le_refl _
          clear hwd_
          have hS53 := (And.intro (F52.cl 1 1 rfl rfl) (And.intro ((((F52.at 5 rfl : Sl mvEnc 4 lo hi _ (.slice (some ⟨x45, o46, none⟩) b.mvs.length mk) b.mvs)).cells hz49.out 2 _ rfl)) (And.intro ((((F52.at 5 rfl : Sl mvEnc 4 lo hi _ (.slice (some ⟨x45, o46, none⟩) b.mvs.length mk) b.mvs)).cells hz49.out 3 _ rfl)) (And.intro (F52.cl 0 2 rfl rfl) ((by have h_ := ((F52.at 2 rfl : Sl intEnc 1 l3 h3 _ (.slice (some ⟨x47, o48, none⟩) V.length tvk) V)).cells hz50.out 0 _ rfl; simpa using h_))))))
          refine ru_t 0 [11, 5, 4, 3, 1] ?_
          refine ru_t 1 [11, 5, 4, 3] ?_
          refine ru_t 2 [11, 5, 4, 3] ?_
          refine ru_t 3 [11, 5, 4] ?_
          refine ru_t 4 [11, 5] ?_
          refine ru_t 5 [11] ?_
          refine ru_t 6 [11, 10, 9, 7] ?_
          refine ru_t 7 [11, 10, 9] ?_
          refine ru_t 8 [11, 10, 9] ?_
          refine ru_t 9 [11, 10] ?_
          refine ru_t 10 [11] ?_
          (try simp only [Act.put, List.setIfInBounds_toArray, List.set_cons_zero, List.set_cons_succ])
          clear hS53
          refine ru_one 11 rfl (by kernel_rfl) (fun K hK => ?_)
          go_simp
          refine (has_t _ _ _ _ HTK.out).mono ?_
          rintro e w57 ⟨rfl, hg55⟩
          have hg55s := hg55.size
          (try simp at hg55s)
          have F58 := F52.gn hg55
          clear F52
          refine ru_back hK (by exact ⟨F58.cl 1 1 rfl rfl, (((F58.at 5 rfl : Sl mvEnc 4 lo hi _ (.slice (some ⟨x45, o46, none⟩) b.mvs.length mk) b.mvs)).cells hz49.out 2 _ rfl), (((F58.at 5 rfl : Sl mvEnc 4 lo hi _ (.slice (some ⟨x45, o46, none⟩) b.mvs.length mk) b.mvs)).cells hz49.out 3 _ rfl), F58.cl 0 2 rfl rfl, (by have h_ := ((F58.at 2 rfl : Sl intEnc 1 l3 h3 _ (.slice (some ⟨x47, o48, none⟩) V.length tvk) V)).cells hz50.out 0 _ rfl; simpa using h_)⟩) (fun hHeld => ?_)
          clear hK K
          (try simp only [Act.put, List.setIfInBounds_toArray, List.set_cons_zero, List.set_cons_succ])
          refine ru_one 12 rfl (by kernel_rfl) (fun K hK => ?_)
          go_simp
          refine ru_back_late hK (by kernel_rfl) ?_
          clear hK K
          (try simp only [Act.put, List.setIfInBounds_toArray, List.set_cons_zero, List.set_cons_succ])
          refine ru_done (by kernel_rfl) ?_
          obtain ⟨w59, hx60, F62, hxs61⟩ := (show Bun w [rbox (w.heap.size + 1) 32 #[.slice toa O.length tok, .slice tca C.length tck, .slice (some ⟨x47, o48, none⟩) V.length tvk], rbox w.heap.size 25 #[.slice aa b.accs.length ak, .slice (some ⟨x45, o46, none⟩) b.mvs.length mk], rsl intEnc 1 l3 h3 (.slice (some ⟨x47, o48, none⟩) V.length tvk) V, rsl intEnc 1 l2 h2 (.slice tca C.length tck) C, rsl intEnc 1 l1 h1 (.slice toa O.length tok) O, rsl mvEnc 4 lo hi (.slice (some ⟨x45, o46, none⟩) b.mvs.length mk) b.mvs, rsl accEnc 6 lo hi (.slice aa b.accs.length ak) b.accs] _ from F58).name
          (try simp at hxs61)
          rw [hx60]
          clear hx60 F58
          go_wp2_with fail
          (first | refine ⟨by kernel_rfl, ?_, ?_⟩ | refine ⟨rfl, ?_, ?_⟩ | refine ⟨?_, ?_⟩)
          · rw [HI40.out]; exact ⟨k + 1, (by first | kernel_rfl | rfl), (by first | kernel_rfl | rfl), (by show Value.int .i64 ((k : Int) + 1) = _; simp), (by omega), (by first | rfl | simp), (by first | omega | (simp; done) | (simp; omega)), F62⟩
          · simp [slot, intOf]; omega
        · skip
          have c44H := Lib.hid c44
          have c44a : decide ((k : Int) < (b.mvs.length : Int)) = false := dec_f c44
          have b63 := hF41.bx2 1 rfl
          go_wp2_with fail
          clear b63
          go_ret
          exact ⟨rfl, hF41.gb⟩
      case atStart5 =>
        rw [HI40.out]
        exact ⟨0, (by first | kernel_rfl | rfl), (by first | kernel_rfl | rfl), rfl, Nat.zero_le _, rfl, (by first | exact Nat.le_refl _ | omega | (simp; done) | (simp; omega)), hF10⟩
  case atStart4 =>
    rw [HI9.out]
    exact ⟨0, (by first | kernel_rfl | rfl), (by first | kernel_rfl | rfl), rfl, Nat.zero_le _, rfl, (by first | exact Nat.le_refl _ | omega | (simp; done) | (simp; omega)), F8⟩

end Go.Proofs.Ytfifldbinnkdmaa
