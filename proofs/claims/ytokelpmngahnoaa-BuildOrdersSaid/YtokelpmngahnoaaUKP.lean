/- the reference: tasks in an order by the reference. -/
import Derived.Test.YtokelpmngahnoaaUKO
import Derived.Test.YtokelpmngahnoaaUG4
import Derived.Test.YtokelpmngahnoaaUJK4
import Derived.Test.YtokelpmngahnoaaUG5
set_option linter.unusedVariables false
set_option linter.unusedSimpArgs false
set_option linter.unnecessarySimpa false
namespace Go.Proofs.Ytokelpmngahnoaa
open Go.RowKit
set_option maxRecDepth 100000
attribute [local go_sem] Oper.semAt_some
theorem rgKP72 (t : Nat -> Value) : ((List.range 72).map t).toArray = #[t 0, t 1, t 2, t 3, t 4, t 5, t 6, t 7, t 8, t 9, t 10, t 11, t 12, t 13, t 14, t 15, t 16, t 17, t 18, t 19, t 20, t 21, t 22, t 23, t 24, t 25, t 26, t 27, t 28, t 29, t 30, t 31, t 32, t 33, t 34, t 35, t 36, t 37, t 38, t 39, t 40, t 41, t 42, t 43, t 44, t 45, t 46, t 47, t 48, t 49, t 50, t 51, t 52, t 53, t 54, t 55, t 56, t 57, t 58, t 59, t 60, t 61, t 62, t 63, t 64, t 65, t 66, t 67, t 68, t 69, t 70, t 71] := rfl
def plL (o : List Nat) : Nat -> List Int
 | 0 => List.replicate o.length 0
 | i + 1 => (plL o i).set ((o[i]?).getD 0) (i : Int)
theorem plL_len (o : List Nat) : ∀ i, (plL o i).length = o.length
 | 0 => by rw [plL, List.length_replicate]
 | i + 1 => by rw [plL, List.length_set, plL_len o i]
theorem plL_next {o : List Nat} {i x : Nat} (h : o[i]? = some x) : plL o (i + 1) = (plL o i).set x (i : Int) := by rw [plL, h]; rfl
theorem plL_ex {o : List Nat} {i x : Nat} (h : x < o.length) : ∃ v, (plL o i)[x]? = some v := ⟨_, List.getElem?_eq_getElem (by rw [plL_len]; exact h)⟩
theorem plL_at {o : List Nat} (hn : o.Nodup) (hl : ∀ x ∈ o, x < o.length) : ∀ {i q x : Nat}, i <= o.length -> q < i -> o[q]? = some x -> (plL o i)[x]? = some (q : Int)
 | 0, q, x, _, hq, _ => absurd hq (by omega)
 | i + 1, q, x, hi, hq, hx => by
  obtain ⟨y, hy⟩ : ∃ y, o[i]? = some y := ⟨_, List.getElem?_eq_getElem (by omega)⟩
  rw [plL_next hy]
  by_cases e : q = i
  ·
   subst e
   rw [hy] at hx
   obtain rfl := Option.some.inj hx
   exact List.getElem?_set_self (by rw [plL_len]; exact hl _ (List.mem_of_getElem? hy))
  rw [List.getElem?_set_ne ?_]
  · exact plL_at hn hl (by omega) (by omega) hx
  intro e2
  subst e2
  obtain ⟨a1, a2⟩ := List.getElem?_eq_some_iff.1 hx
  obtain ⟨b1, b2⟩ := List.getElem?_eq_some_iff.1 hy
  exact e ((List.getElem_inj hn).1 (a2.trans b2.symm))
theorem plL_pos {o : List Nat} (hn : o.Nodup) (hl : ∀ x ∈ o, x < o.length) {x : Nat} (h : x ∈ o) : (plL o o.length)[x]? = some ((posN o x : Nat) : Int) := plL_at hn hl (Nat.le_refl _) (posN_lt h) (posN_at h)
set_option maxHeartbeats 32000000 in
theorem rordered_c (lo hi : Nat) (vm vt : Value) (ms : List Mch) (ts : List Tsk) (lo4 hi4 : Nat) (vo : Value) (o : List Nat) (w : World) (hj : JobAt lo hi w vm vt ms ts) (h2 : hi <= w.heap.size) (ho : Sl intEnc 1 lo4 hi4 w vo (ints o)) (h5 : hi4 <= w.heap.size) (hok : JobOk ms ts) (hop : OrdP ts o) (hol : o.length = ts.length) :
  Calls Try.prog 48 #[.agg #[vm, vt], vo] w (OrdJ vm ts o w) := by
 have F1 : Bun w [] w := Bun.nil _
 obtain ⟨hms, hts, haf⟩ := hj
 have hm_ms := hms.len
 unfold maxLen at hm_ms
 obtain ⟨aM, cM, rfl⟩ := hms.any
 replace F1 := F1.sl0 hms h2 rfl
 clear hms
 have hm_ts := hts.len
 unfold maxLen at hm_ts
 obtain ⟨aT, cT, rfl⟩ := hts.any
 replace F1 := F1.sl0 hts h2 rfl
 clear hts
 replace F1 := F1.non0 (rafs lo hi ts) haf (fun _ h_ => Nat.lt_of_lt_of_le h_.2 h2) rfl rfl
 clear haf
 have hm_o := ho.len
 unfold maxLen at hm_o
 obtain ⟨aO, cO, rfl⟩ := ho.any
 replace F1 := F1.sl0 ho h5 rfl
 clear ho
 have HOK := lhd hok
 have HOP := lhd hop
 have hol2 : o.length <= ts.length /\ ts.length <= o.length := by omega
 have HOL := lhd hol
 have hnt := hok.nt
 rw [ints_len] at *
 clear hok hop hol
 have HOX : Hid (∀ x ∈ o, x < o.length) := lhd (fun x h_ => by have h2_ := HOP.out.lt x h_; omega)
 go_enter Try.func48, Try.ntmps48
 replace F1 := F1.new 25 #[.slice aM ms.length cM, .slice aT ts.length cT] (n := w.heap.size) (by simp)
 replace F1 := F1.new 25 #[.slice none 0 0, .slice none 0 0] (n := (w.heap.size + 1)) (by simp)
 replace F1 := F1.new 25 #[.slice aM ms.length cM, .slice none 0 0] (n := (w.heap.size + 2)) (by simp)
 go_wp2_with (at_make; refine wpList_mkInt rfl _ _ rfl o.length rfl rfl F1 (by omega) (w.heap.size + 3) (by first | rfl | simp) ?_; intro w9 hB10 hs11; refine Hid.out ?_)
 refine lhd ?_
 (try simp at hs11)
 have F12 := hB10
 clear F1
 go_wp2_with fail
 obtain ⟨HI13_, HI130⟩ : ∃ I : RelT, I = (fun t ds wr => ∃ (i : Nat), t 1 = .slice aO o.length cO /\ t 2 = .pointer (some ⟨w.heap.size, 0, none⟩) /\ t 4 = .pointer (some ⟨w.heap.size + 1, 0, none⟩) /\ t 5 = .pointer (some ⟨w.heap.size + 2, 0, none⟩) /\ t 6 = .slice (some ⟨w.heap.size + 3, 0, none⟩) o.length o.length /\ t 7 = .int .i64 (i : Int) /\ i <= o.length /\ ds = [] /\ w9.heap.size <= wr.heap.size /\ Bun w [rown intEnc 3 1 w.heap.size (.slice (some ⟨w.heap.size + 3, 0, none⟩) o.length o.length) (plL o i), rbox (w.heap.size + 2) 25 #[.slice aM ms.length cM, .slice none 0 0], rbox (w.heap.size + 1) 25 #[.slice none 0 0, .slice none 0 0], rbox w.heap.size 25 #[.slice aM ms.length cM, .slice aT ts.length cT], rsl intEnc 1 lo4 hi4 (.slice aO o.length cO) (ints o), rafs lo hi ts, rsl tskEnc 8 lo hi (.slice aT ts.length cT) ts, rsl mchEnc 3 lo hi (.slice aM ms.length cM) ms] wr) := ⟨_, rfl⟩
 have HI13 := lhd HI130
 clear HI130
 refine wp_loopS 72 rfl HI13_ (fun t wr => o.length - (intOf (t 7)).toNat) ?atStart1 ?round1
 case round1 =>
  intro t ds wr hHid
  rw [HI13.out] at hHid
  obtain ⟨i, e1, e2, e4, e5, e6, e7, hrel⟩ := hHid
  have e := rgKP72 t
  (try dsimp only at e)
  rw [e1, e2, e4, e5, e6, e7] at e
  rw [e]
  simp only [e7]
  clear e e1 e2 e4 e5 e6 e7
  obtain ⟨hi_, rfl, hs15, hF14⟩ := hrel
  clear F12
  obtain ⟨w16, rfl⟩ : ∃ x_ : World, x_ = wr := ⟨_, rfl⟩
  by_cases c17 : (i : Int) < (o.length : Int)
  ·
   have c17H := lhd c17
   obtain ⟨x18, o19, e_⟩ := Sl.addr (hF14.at 4 rfl : Sl intEnc 1 lo4 hi4 _ (.slice aO o.length cO) (ints o)) (by rw [ints_len]; omega)
   subst e_
   obtain ⟨x, hx_⟩ : ∃ x_, o[i]? = some x_ := ⟨_, List.getElem?_eq_getElem (by omega)⟩
   have HX := lhd hx_
   have hxt := HOP.out.lt x (List.mem_of_getElem? hx_)
   clear hx_
   have hxi : (x : Int) < (ts.length : Int) := by omega
   have hz20 : Hid ((ints o)[i]? = some ((x : Nat) : Int)) := lhd (ints_get HX.out)
   obtain ⟨pv, hpv_⟩ := plL_ex (o := o) (i := i) (x := x) (by omega)
   have HPV := lhd hpv_
   clear hpv_
   have hz21 : Hid ((plL o i)[x]? = some pv) := lhd (HPV.out)
   have ge22 : World.cell? _ ⟨x18, o19 + i, none⟩ = some (.int .i64 (x : Int)) := (by have h_ := Sl.cells (hF14.at 4 rfl) hz20.out 0 _ rfl; simpa using h_)
   have gl23 := cell_lt ge22
   have ge24 : World.cell? _ ⟨w.heap.size + 3, x, none⟩ = some (.int .i64 pv) := (by simpa using (Own.sl (hF14.at 0 rfl : Own intEnc 3 1 w.heap.size _ (.slice (some ⟨w.heap.size + 3, 0, none⟩) o.length o.length) (plL o i)) (fun _ => rfl)).cells hz21.out 0 _ rfl)
   have gl25 := cell_lt ge24
   have ge26 : World.frozen? _ ⟨w.heap.size + 3, x, none⟩ = false := Own.live (hF14.at 0 rfl : Own intEnc 3 1 w.heap.size _ (.slice (some ⟨w.heap.size + 3, 0, none⟩) o.length o.length) (plL o i)) _
   go_wp2_with fail
   clear ge22 gl23 ge24 gl25 ge26
   have F27 := Bun.setOwn (sz := 1) (fun _ => rfl) hF14 hz21.out (y := (i : Int)) (j := 0) (u := (.int .i64 (i : Int))) (k := x) (by decide) rfl (by omega)
   clear hF14
   (first | refine ⟨by kernel_rfl, ?_, ?_⟩ | refine ⟨rfl, ?_, ?_⟩ | refine ⟨?_, ?_⟩)
   · rw [HI13.out]; exact ⟨i + 1, by (iterate 5 refine ⟨by kernel_rfl, ?_⟩); exact ⟨(by show Value.int .i64 ((i : Int) + 1) = _; simp), (by omega), (by first | rfl | simp), (by first | omega | (simp; done) | (simp; omega)), (by rw [plL_next HX.out]; exact F27)⟩⟩
   · simp [slot, intOf]; omega
  have c17H := lhd c17
  have c17a : decide ((i : Int) < (o.length : Int)) = false := dec_f c17
  go_wp2_with fail
  have hio_ : i = o.length := by omega
  rw [hio_] at hF14
  clear hio_
  have F28 := hF14.nilrow tskEncS 79 8
  clear hF14
  replace F28 := F28.afo0 w.heap.size
  (skip)
  obtain ⟨HI30_, HI300⟩ : ∃ I : RelT, I = (fun t ds wr => ∃ (i : Nat) (tv : Value) (lt : List Tsk), t 1 = .slice aO o.length cO /\ t 2 = .pointer (some ⟨w.heap.size, 0, none⟩) /\ t 4 = .pointer (some ⟨w.heap.size + 1, 0, none⟩) /\ t 5 = .pointer (some ⟨w.heap.size + 2, 0, none⟩) /\ t 6 = .slice (some ⟨w.heap.size + 3, 0, none⟩) o.length o.length /\ t 8 = .int .i64 (i : Int) /\ i <= o.length /\ Hid (ordM ts o i lt) /\ ds = [] /\ w16.heap.size <= wr.heap.size /\ Bun w [rafo w.heap.size lt, rown tskEncS 79 8 w.heap.size tv lt, rown intEnc 3 1 w.heap.size (.slice (some ⟨w.heap.size + 3, 0, none⟩) o.length o.length) (plL o o.length), rbox (w.heap.size + 2) 25 #[.slice aM ms.length cM, tv], rbox (w.heap.size + 1) 25 #[.slice none 0 0, .slice none 0 0], rbox w.heap.size 25 #[.slice aM ms.length cM, .slice aT ts.length cT], rsl intEnc 1 lo4 hi4 (.slice aO o.length cO) (ints o), rafs lo hi ts, rsl tskEnc 8 lo hi (.slice aT ts.length cT) ts, rsl mchEnc 3 lo hi (.slice aM ms.length cM) ms] wr) := ⟨_, rfl⟩
  have HI30 := lhd HI300
  clear HI300
  refine wp_loopS 72 rfl HI30_ (fun t wr => o.length - (intOf (t 8)).toNat) ?atStart2 ?round2
  case round2 =>
   intro t ds wr hHid
   rw [HI30.out] at hHid
   obtain ⟨i, tv, lt, e1, e2, e4, e5, e6, e8, hrel⟩ := hHid
   have e := rgKP72 t
   (try dsimp only at e)
   rw [e1, e2, e4, e5, e6, e8] at e
   rw [e]
   simp only [e8]
   clear e e1 e2 e4 e5 e6 e8
   obtain ⟨hi_, HM, rfl, hs32, hF31⟩ := hrel
   clear F28
   obtain ⟨w33, rfl⟩ : ∃ x_ : World, x_ = wr := ⟨_, rfl⟩
   by_cases c34 : (i : Int) < (o.length : Int)
   ·
    have c34H := lhd c34
    obtain ⟨x35, o36, e_⟩ := Sl.addr (hF31.at 6 rfl : Sl intEnc 1 lo4 hi4 _ (.slice aO o.length cO) (ints o)) (by rw [ints_len]; omega)
    subst e_
    obtain ⟨x, hx_⟩ : ∃ x_, o[i]? = some x_ := ⟨_, List.getElem?_eq_getElem (by omega)⟩
    have HX := lhd hx_
    have hxt := HOP.out.lt x (List.mem_of_getElem? hx_)
    clear hx_
    have hxi : (x : Int) < (ts.length : Int) := by omega
    have hz37 : Hid ((ints o)[i]? = some ((x : Nat) : Int)) := lhd (ints_get HX.out)
    obtain ⟨x38, o39, e_⟩ := Sl.addr (hF31.at 8 rfl : Sl tskEnc 8 lo hi _ (.slice aT ts.length cT) ts) (by omega)
    subst e_
    obtain ⟨z, hz40_⟩ : ∃ z_, ts[x]? = some z_ := ⟨_, List.getElem?_eq_getElem (by omega)⟩
    have hz40 := lhd hz40_
    clear hz40_
    obtain ⟨a_z, c_z, hav_z, hcap_z, hsl_z⟩ := Afs.open (hF31.at 7 rfl : Afs lo hi _ ts) hz40.out
    have HAV_z := lhd hav_z
    clear hav_z
    have F41 := hF31.more 7 (rsl intEnc 1 lo hi (.slice a_z z.af.length c_z) z.af) rfl rfl rfl (fun _ h_ => h_) hsl_z
    clear hF31
    have hm_z := (F41.at 0 rfl : Sl intEnc 1 lo hi _ (.slice a_z z.af.length c_z) z.af).len
    unfold maxLen at hm_z
    have HZA : Hid (∀ a ∈ z.af, 0 <= a /\ a < (x : Int) /\ a.toNat ∈ o) := lhd (fun a h_ => by have h2_ := (HOK.out.to_ x z hz40.out).af a h_; exact ⟨h2_.1, h2_.2, HOP.out.all HOL.out (by omega)⟩)
    have HZT : Hid (tk ts x = z) := lhd (tk_get hz40.out)
    have hafl : z.af.length <= x := by have h_ := HOK.out.to_ x z hz40.out; exact af_lenO h_.nd h_.af
    go_wp2_with fail
    replace F41 := F41.drew
    refine ru_begin (fun W => W.cell? ⟨w.heap.size, 1, none⟩ = some (.slice (some ⟨x38, o39, none⟩) ts.length cT) /\ W.cell? ⟨x35, o36 + i, none⟩ = some (.int .i64 (x : Int)) /\ W.cell? ⟨x38, o39 + x * 8, none⟩ = some (.int .i64 z.m) /\ W.cell? ⟨x38, o39 + x * 8 + 1, none⟩ = some (.int .i64 z.ho.lo) /\ W.cell? ⟨x38, o39 + x * 8 + 2, none⟩ = some (.int .i64 z.ho.hi) /\ W.cell? ⟨x38, o39 + x * 8 + 3, none⟩ = some (.int .i64 z.wa.lo) /\ W.cell? ⟨x38, o39 + x * 8 + 4, none⟩ = some (.int .i64 z.wa.hi) /\ W.cell? ⟨x38, o39 + x * 8 + 5, none⟩ = some (.int .i64 z.fr.lo) /\ W.cell? ⟨x38, o39 + x * 8 + 6, none⟩ = some (.int .i64 z.fr.hi) /\ W.cell? ⟨x38, o39 + x * 8 + 7, none⟩ = some (.slice a_z z.af.length c_z)) 9 (by kernel_rfl) ?_ ?_
    · exact ⟨F41.q 6 1, (by have h_ := Sl.cells (F41.at 7 rfl) hz37.out 0 _ rfl; simpa using h_), (Sl.cells (F41.at 9 rfl) hz40.out 0 _ rfl), (Sl.cells (F41.at 9 rfl) hz40.out 1 _ rfl), (Sl.cells (F41.at 9 rfl) hz40.out 2 _ rfl), (Sl.cells (F41.at 9 rfl) hz40.out 3 _ rfl), (Sl.cells (F41.at 9 rfl) hz40.out 4 _ rfl), (Sl.cells (F41.at 9 rfl) hz40.out 5 _ rfl), (Sl.cells (F41.at 9 rfl) hz40.out 6 _ rfl), (HAV_z.out ▸ (Sl.cells (F41.at 9 rfl) hz40.out 7 _ rfl))⟩
    obtain ⟨wd44, hwd_⟩ : ∃ x : World, w33.drew = x := ⟨_, rfl⟩
    rw [hwd_] at F41 ⊢
    have wd44s : w33.heap.size <= wd44.heap.size := by rw [← hwd_]; exact Nat.le_refl _
    clear hwd_
    have hS43 := (And.intro (F41.q 6 1) (And.intro ((by have h_ := Sl.cells (F41.at 7 rfl) hz37.out 0 _ rfl; simpa using h_)) (And.intro ((Sl.cells (F41.at 9 rfl) hz40.out 0 _ rfl)) (And.intro ((Sl.cells (F41.at 9 rfl) hz40.out 1 _ rfl)) (And.intro ((Sl.cells (F41.at 9 rfl) hz40.out 2 _ rfl)) (And.intro ((Sl.cells (F41.at 9 rfl) hz40.out 3 _ rfl)) (And.intro ((Sl.cells (F41.at 9 rfl) hz40.out 4 _ rfl)) (And.intro ((Sl.cells (F41.at 9 rfl) hz40.out 5 _ rfl)) (And.intro ((Sl.cells (F41.at 9 rfl) hz40.out 6 _ rfl)) ((HAV_z.out ▸ (Sl.cells (F41.at 9 rfl) hz40.out 7 _ rfl))))))))))))
    refine ru_t 0 [] ?_
    refine ru_t 1 [] ?_
    refine ru_t 2 [] ?_
    refine ru_t 3 [] ?_
    refine ru_t 4 [] ?_
    refine ru_t 5 [] ?_
    refine ru_t 6 [] ?_
    refine ru_t 7 [] ?_
    (try simp only [lpX])
    clear hS43
    refine ru_one 8 rfl (by kernel_rfl) (fun K hK => ?_)
    go_simp
    replace F41 := F41.new 79 #[.int .i64 0, .int .i64 0, .int .i64 0, .int .i64 0, .int .i64 0, .int .i64 0, .int .i64 0, .slice none 0 0] (n := wd44.heap.size) (by simp)
    refine ru_back hK (by exact ⟨F41.q 7 1, (by have h_ := Sl.cells (F41.at 8 rfl) hz37.out 0 _ rfl; simpa using h_), (Sl.cells (F41.at 10 rfl) hz40.out 0 _ rfl), (Sl.cells (F41.at 10 rfl) hz40.out 1 _ rfl), (Sl.cells (F41.at 10 rfl) hz40.out 2 _ rfl), (Sl.cells (F41.at 10 rfl) hz40.out 3 _ rfl), (Sl.cells (F41.at 10 rfl) hz40.out 4 _ rfl), (Sl.cells (F41.at 10 rfl) hz40.out 5 _ rfl), (Sl.cells (F41.at 10 rfl) hz40.out 6 _ rfl), (HAV_z.out ▸ (Sl.cells (F41.at 10 rfl) hz40.out 7 _ rfl))⟩) (fun _ => ?_)
    clear hK K
    (try simp only [lpX])
    refine ru_one 9 rfl (by kernel_rfl) (fun K hK => ?_)
    have Fn_ := F41
    (try dsimp only [List.eraseIdx_cons_succ, List.eraseIdx_cons_zero] at Fn_)
    obtain ⟨w46, hx47, F49, hxs48⟩ := Fn_.name
    (try simp at hxs48)
    rw [hx47]
    clear hx47 F41 Fn_
    have kb_ := F49.bx8 0 rfl
    go_simp
    clear kb_
    replace F49 := F49.pt8 (.int .i64 z.m) (.int .i64 z.ho.lo) (.int .i64 z.ho.hi) (.int .i64 z.wa.lo) (.int .i64 z.wa.hi) (.int .i64 z.fr.lo) (.int .i64 z.fr.hi) (.slice a_z z.af.length c_z)
    refine ru_back_late hK (by kernel_rfl) ?_
    clear hK K
    (try simp only [lpX])
    refine ru_done (by kernel_rfl) ?_
    have Fn_ := F49
    (try dsimp only [List.eraseIdx_cons_succ, List.eraseIdx_cons_zero] at Fn_)
    obtain ⟨w51, hx52, F54, hxs53⟩ := Fn_.name
    (try simp at hxs53)
    rw [hx52]
    clear hx52 F49 Fn_
    go_wp2_with fail
    replace F54 := F54.nilrow intEnc 3 1
    (skip)
    obtain ⟨HI56_, HI560⟩ : ∃ I : RelT, I = (fun t ds wr => ∃ (j : Nat) (av : Value), t 1 = .slice (some ⟨x35, o36, none⟩) o.length cO /\ t 2 = .pointer (some ⟨w.heap.size, 0, none⟩) /\ t 4 = .pointer (some ⟨w.heap.size + 1, 0, none⟩) /\ t 5 = .pointer (some ⟨w.heap.size + 2, 0, none⟩) /\ t 6 = .slice (some ⟨w.heap.size + 3, 0, none⟩) o.length o.length /\ t 8 = .int .i64 (i : Int) /\ t 9 = .pointer (some ⟨wd44.heap.size, 0, none⟩) /\ t 10 = av /\ t 11 = .int .i64 (j : Int) /\ j <= z.af.length /\ ds = [] /\ w51.heap.size <= wr.heap.size /\ Bun w [rown intEnc 3 1 w.heap.size av (afP o z.af j), rbox wd44.heap.size 79 #[.int .i64 z.m, .int .i64 z.ho.lo, .int .i64 z.ho.hi, .int .i64 z.wa.lo, .int .i64 z.wa.hi, .int .i64 z.fr.lo, .int .i64 z.fr.hi, .slice a_z z.af.length c_z], rsl intEnc 1 lo hi (.slice a_z z.af.length c_z) z.af, rafo w.heap.size lt, rown tskEncS 79 8 w.heap.size tv lt, rown intEnc 3 1 w.heap.size (.slice (some ⟨w.heap.size + 3, 0, none⟩) o.length o.length) (plL o o.length), rbox (w.heap.size + 2) 25 #[.slice aM ms.length cM, tv], rbox (w.heap.size + 1) 25 #[.slice none 0 0, .slice none 0 0], rbox w.heap.size 25 #[.slice aM ms.length cM, .slice (some ⟨x38, o39, none⟩) ts.length cT], rsl intEnc 1 lo4 hi4 (.slice (some ⟨x35, o36, none⟩) o.length cO) (ints o), rafs lo hi ts, rsl tskEnc 8 lo hi (.slice (some ⟨x38, o39, none⟩) ts.length cT) ts, rsl mchEnc 3 lo hi (.slice aM ms.length cM) ms] wr) := ⟨_, rfl⟩
    have HI56 := lhd HI560
    clear HI560
    refine wp_loopS 72 rfl HI56_ (fun t wr => z.af.length - (intOf (t 11)).toNat) ?atStart3 ?round3
    case round3 =>
     intro t ds wr hHid
     rw [HI56.out] at hHid
     obtain ⟨j, av, e1, e2, e4, e5, e6, e8, e9, e10, e11, hrel⟩ := hHid
     have e := rgKP72 t
     (try dsimp only at e)
     rw [e1, e2, e4, e5, e6, e8, e9, e10, e11] at e
     rw [e]
     simp only [e11]
     clear e e1 e2 e4 e5 e6 e8 e9 e10 e11
     obtain ⟨hj_, rfl, hs58, hF57⟩ := hrel
     clear F54
     obtain ⟨w59, rfl⟩ : ∃ x_ : World, x_ = wr := ⟨_, rfl⟩
     by_cases c60 : (j : Int) < (z.af.length : Int)
     ·
      have c60H := lhd c60
      obtain ⟨x61, o62, e_⟩ := Sl.addr (hF57.at 2 rfl : Sl intEnc 1 lo hi _ (.slice a_z z.af.length c_z) z.af) (by omega)
      subst e_
      obtain ⟨y, hz63_⟩ : ∃ z_, z.af[j]? = some z_ := ⟨_, List.getElem?_eq_getElem (by omega)⟩
      have hz63 := lhd hz63_
      clear hz63_
      have hya := HZA.out y (List.mem_of_getElem? hz63.out)
      have hyl : y.toNat < o.length := by omega
      have HPY := lhd (plL_pos HOP.out.nd HOX.out hya.2.2)
      have hyy : ((y.toNat : Nat) : Int) = y := by omega
      have hz64 : Hid ((plL o o.length)[y.toNat]? = some ((posN o y.toNat : Nat) : Int)) := lhd (HPY.out)
      have b65 := hF57.bx8 1 rfl
      have ge66 : World.cell? _ ⟨x61, o62 + j, none⟩ = some (.int .i64 y) := (by have h_ := Sl.cells (hF57.at 2 rfl) hz63.out 0 _ rfl; simpa using h_)
      have gl67 := cell_lt ge66
      have ge68 : World.cell? _ ⟨w.heap.size + 3, y.toNat, none⟩ = some (.int .i64 ((posN o y.toNat : Nat) : Int)) := (by simpa using (Own.sl (hF57.at 5 rfl : Own intEnc 3 1 w.heap.size _ (.slice (some ⟨w.heap.size + 3, 0, none⟩) o.length o.length) (plL o o.length)) (fun _ => rfl)).cells hz64.out 0 _ rfl)
      have gl69 := cell_lt ge68
      go_wp2_with (at_builtin; refine wpList_app _ okInt rfl _ _ rfl w.heap.size av (afP o z.af j) [((posN o y.toNat : Nat) : Int)] rfl (by exact ((hF57.at 0 rfl : Own intEnc 3 1 w.heap.size _ av (afP o z.af j))).alloc _) ⟨_, 0, none⟩ 1 1 rfl rfl (by decide) (news_of (Bk.newAt _ _ _ (by simp))) (j + 1) (by rw [afP_len (o := o) (l := z.af) (j := j) (by omega)]) (by omega) (by first | omega | (simp; omega)) _ rfl ?_; intro g70 cap71 w72 hp73; refine Hid.out ?_)
      refine lhd ?_
      have hp73s := hp73.gb.size
      (try simp at hp73s)
      clear b65 ge66 gl67 ge68 gl69
      have F74 := ((hF57.alloc (.cells #[.int .i64 ((posN o y.toNat : Nat) : Int)] 3)).front 0 rfl rfl).app hp73 (by simp)
      clear hF57
      go_wp2_with fail
      (first | refine ⟨by kernel_rfl, ?_, ?_⟩ | refine ⟨rfl, ?_, ?_⟩ | refine ⟨?_, ?_⟩)
      · rw [HI56.out]; exact ⟨j + 1, _, by (iterate 8 refine ⟨by kernel_rfl, ?_⟩); exact ⟨(by show Value.int .i64 ((j : Int) + 1) = _; simp), (by omega), (by first | rfl | simp), (by first | omega | (simp; done) | (simp; omega)), (by rw [afP_next hz63.out]; exact F74)⟩⟩
      · simp [slot, intOf]; omega
     have c60H := lhd c60
     have c60a : decide ((j : Int) < (z.af.length : Int)) = false := dec_f c60
     have b75 := hF57.bx8 1 rfl
     have hjz_ : j = z.af.length := by omega
     rw [hjz_] at hF57
     clear hjz_
     obtain ⟨aa76, ac77, e_⟩ := (Own.sl (hF57.at 0 rfl : Own intEnc 3 1 w.heap.size _ av (afP o z.af z.af.length)) (fun _ => rfl)).any
     subst e_
     obtain ⟨av78, vc79, e_, _⟩ := Own.slN (hF57.at 4 rfl : Own tskEncS 79 8 w.heap.size _ tv lt) (fun _ => rfl) HM.out.1
     subst e_
     have b80 := hF57.bx8 1 rfl
     have b81 := hF57.bx2 6 rfl
     have F82 := ((hF57.front 1 rfl rfl).set 7 (.slice aa76 (((afP o z.af z.af.length)).length) ac77)).nf #[.int .i64 z.m, .int .i64 z.ho.lo, .int .i64 z.ho.hi, .int .i64 z.wa.lo, .int .i64 z.wa.hi, .int .i64 z.fr.lo, .int .i64 z.fr.hi, .slice aa76 (((afP o z.af z.af.length)).length) ac77] rfl
     clear hF57
     go_wp2_with (at_builtin; refine wpList_app _ okTskS rfl _ _ rfl w.heap.size (.slice av78 i vc79) lt [(⟨z.m, ⟨z.ho.lo, z.ho.hi⟩, ⟨z.wa.lo, z.wa.hi⟩, ⟨z.fr.lo, z.fr.hi⟩, (afP o z.af z.af.length), .slice aa76 (((afP o z.af z.af.length)).length) ac77⟩ : Tsk)] rfl (by exact ((F82.at 4 rfl : Own tskEncS 79 8 w.heap.size _ (.slice av78 i vc79) lt)).alloc _) ⟨_, 0, none⟩ 1 1 rfl rfl (by decide) (news_of (Bk.newAt _ _ _ (by simp))) (i + 1) (by have h_ := HM.out.1; omega) (by omega) (by first | omega | (simp; omega)) _ rfl ?_; intro g83 cap84 w85 hp86; refine Hid.out ?_)
     refine lhd ?_
     have hp86s := hp86.gb.size
     (try simp at hp86s)
     clear b80 b81
     have F87 := ((F82.alloc (.cells #[.int .i64 z.m, .int .i64 z.ho.lo, .int .i64 z.ho.hi, .int .i64 z.wa.lo, .int .i64 z.wa.hi, .int .i64 z.fr.lo, .int .i64 z.fr.hi, .slice aa76 (((afP o z.af z.af.length)).length) ac77] 79)).front 4 rfl rfl).app hp86 (by simp)
     clear F82
     have b88 := F87.bx2 6 rfl
     go_wp2_with fail
     clear b88
     clear b75
     have F89 := ((F87.front 6 rfl rfl).set 1 (.slice (some ⟨g83, 0, none⟩) (i + 1) cap84)).nf #[.slice aM ms.length cM, .slice (some ⟨g83, 0, none⟩) (i + 1) cap84] rfl
     clear F87
     have F90 : Bun w [rown intEnc 3 1 w.heap.size (.slice aa76 ((afP o z.af z.af.length)).length ac77) (afP o z.af z.af.length), rafo w.heap.size lt, rbox (w.heap.size + 2) 25 #[.slice aM ms.length cM, .slice (some ⟨g83, 0, none⟩) (i + 1) cap84], rown tskEncS 79 8 w.heap.size (.slice (some ⟨g83, 0, none⟩) (i + 1) cap84) (lt ++ [(⟨z.m, ⟨z.ho.lo, z.ho.hi⟩, ⟨z.wa.lo, z.wa.hi⟩, ⟨z.fr.lo, z.fr.hi⟩, (afP o z.af z.af.length), .slice aa76 (((afP o z.af z.af.length)).length) ac77⟩ : Tsk)]), rbox wd44.heap.size 79 #[.int .i64 z.m, .int .i64 z.ho.lo, .int .i64 z.ho.hi, .int .i64 z.wa.lo, .int .i64 z.wa.hi, .int .i64 z.fr.lo, .int .i64 z.fr.hi, .slice aa76 (((afP o z.af z.af.length)).length) ac77], rsl intEnc 1 lo hi (.slice a_z z.af.length c_z) z.af, rown intEnc 3 1 w.heap.size (.slice (some ⟨w.heap.size + 3, 0, none⟩) o.length o.length) (plL o o.length), rbox (w.heap.size + 1) 25 #[.slice none 0 0, .slice none 0 0], rbox w.heap.size 25 #[.slice aM ms.length cM, .slice (some ⟨x38, o39, none⟩) ts.length cT], rsl intEnc 1 lo4 hi4 (.slice (some ⟨x35, o36, none⟩) o.length cO) (ints o), rafs lo hi ts, rsl tskEnc 8 lo hi (.slice (some ⟨x38, o39, none⟩) ts.length cT) ts, rsl mchEnc 3 lo hi (.slice aM ms.length cM) ms] _ := F89.pick [3, 5, 0, 1, 2, 4, 6, 7, 8, 9, 10, 11, 12] (by decide) rfl
     clear F89
     replace F90 := F90.afo (⟨z.m, ⟨z.ho.lo, z.ho.hi⟩, ⟨z.wa.lo, z.wa.hi⟩, ⟨z.fr.lo, z.fr.hi⟩, (afP o z.af z.af.length), .slice aa76 (((afP o z.af z.af.length)).length) ac77⟩ : Tsk) rfl rfl
     go_wp2_with fail
     have F92 : Bun w [rafo w.heap.size (lt ++ [(⟨z.m, ⟨z.ho.lo, z.ho.hi⟩, ⟨z.wa.lo, z.wa.hi⟩, ⟨z.fr.lo, z.fr.hi⟩, (afP o z.af z.af.length), .slice aa76 (((afP o z.af z.af.length)).length) ac77⟩ : Tsk)]), rown tskEncS 79 8 w.heap.size (.slice (some ⟨g83, 0, none⟩) (i + 1) cap84) (lt ++ [(⟨z.m, ⟨z.ho.lo, z.ho.hi⟩, ⟨z.wa.lo, z.wa.hi⟩, ⟨z.fr.lo, z.fr.hi⟩, (afP o z.af z.af.length), .slice aa76 (((afP o z.af z.af.length)).length) ac77⟩ : Tsk)]), rown intEnc 3 1 w.heap.size (.slice (some ⟨w.heap.size + 3, 0, none⟩) o.length o.length) (plL o o.length), rbox (w.heap.size + 2) 25 #[.slice aM ms.length cM, .slice (some ⟨g83, 0, none⟩) (i + 1) cap84], rbox (w.heap.size + 1) 25 #[.slice none 0 0, .slice none 0 0], rbox w.heap.size 25 #[.slice aM ms.length cM, .slice (some ⟨x38, o39, none⟩) ts.length cT], rsl intEnc 1 lo4 hi4 (.slice (some ⟨x35, o36, none⟩) o.length cO) (ints o), rafs lo hi ts, rsl tskEnc 8 lo hi (.slice (some ⟨x38, o39, none⟩) ts.length cT) ts, rsl mchEnc 3 lo hi (.slice aM ms.length cM) ms] _ := F90.pick [0, 2, 5, 1, 6, 7, 8, 9, 10, 11] (by decide) rfl
     clear F90
     (first | refine ⟨by kernel_rfl, ?_, ?_⟩ | refine ⟨rfl, ?_, ?_⟩ | refine ⟨?_, ?_⟩)
     · rw [HI30.out]; exact ⟨i + 1, _, _, by (iterate 5 refine ⟨by kernel_rfl, ?_⟩); exact ⟨(by show Value.int .i64 ((i : Int) + 1) = _; simp), (by omega), (lhd (HM.out.snoc HX.out (by rw [ordOf, HZT.out, ← afP_all]; exact ⟨rfl, rfl, rfl, rfl, rfl⟩) rfl)), (by first | rfl | simp), (by first | omega | (simp; done) | (simp; omega)), F92⟩⟩
     · simp [slot, intOf]; omega
    case atStart3 =>
     rw [HI56.out]
     exact ⟨0, _, by (iterate 7 refine ⟨by kernel_rfl, ?_⟩); exact ⟨rfl, rfl, Nat.zero_le _, rfl, (by first | exact Nat.le_refl _ | omega | (simp; done) | (simp; omega)), F54⟩⟩
   have c34H := lhd c34
   have c34a : decide ((i : Int) < (o.length : Int)) = false := dec_f c34
   obtain ⟨av93, vc94, e_, _⟩ := Own.slN (hF31.at 1 rfl : Own tskEncS 79 8 w.heap.size _ tv lt) (fun _ => rfl) HM.out.1
   subst e_
   have b95 := hF31.bx2 3 rfl
   have b96 := hF31.bx2 4 rfl
   go_wp2_with fail
   clear b95 b96
   have F97 := (hF31.front 4 rfl rfl).pt2 (.slice aM ms.length cM) (.slice av93 i vc94)
   clear hF31
   have kb98 := F97.bx2 0 rfl
   go_wp2_with fail
   exact bodyPost_ret (v := .agg #[.slice aM ms.length cM, .slice av93 i vc94]) (by simp [results, Try.results48, go_sem, kb98]) rfl ((OrdJ.of rfl (by have h_ : i = o.length := (by omega); have h2_ := HM.out; rwa [h_] at h2_) HOL.out (F97.at 2 rfl : Own tskEncS 79 8 w.heap.size _ (.slice av93 i vc94) lt) (F97.at 1 rfl : ∀ t ∈ lt, Own intEnc 3 1 w.heap.size _ t.av t.af) F97.gb))
  case atStart2 =>
   rw [HI30.out]
   exact ⟨0, _, [], by (iterate 5 refine ⟨by kernel_rfl, ?_⟩); exact ⟨rfl, Nat.zero_le _, (lhd ⟨rfl, (fun q x t _ h => by simp at h), (fun _ h => by cases h)⟩), rfl, (by first | exact Nat.le_refl _ | omega | (simp; done) | (simp; omega)), F28⟩⟩
 case atStart1 =>
  rw [HI13.out]
  exact ⟨0, by (iterate 5 refine ⟨by kernel_rfl, ?_⟩); exact ⟨rfl, Nat.zero_le _, rfl, (by first | exact Nat.le_refl _ | omega | (simp; done) | (simp; omega)), F12⟩⟩
end Go.Proofs.Ytokelpmngahnoaa
/- build: an order in which two neighbours change places; the first order. Plain maths. -/
namespace Go.Proofs.Ytokelpmngahnoaa
open Go.RowKit
set_option maxRecDepth 100000
def swpO (o : List Nat) (p x y : Nat) : List Nat := o.take p ++ y :: x :: o.drop (p + 2)
theorem swp_split {o : List Nat} {p x y : Nat} (hx : o[p]? = some x) (hy : o[p + 1]? = some y) : o = o.take p ++ x :: y :: o.drop (p + 2) := by
 have h := List.take_append_drop p o
 rw [drop_cons hx, drop_cons hy] at h
 exact h.symm
theorem OrdP.swapL {ts : List Tsk} {A B : List Nat} {x y : Nat} (h : OrdP ts (A ++ x :: y :: B)) (hn : ∀ a ∈ (tk ts y).af, a.toNat ≠ x) : OrdP ts (A ++ y :: x :: B) := by
 have hp : (A ++ x :: y :: B).Perm (A ++ y :: x :: B) := (List.Perm.swap y x B).append_left A
 refine ⟨hp.nodup_iff.1 h.nd, fun z hz => h.lt z (hp.mem_iff.2 hz), fun i z hi a ha => ?_⟩
 rcases Nat.lt_trichotomy i A.length with hlt | heq | hgt
 ·
  rw [List.getElem?_append_left hlt] at hi
  have h2 := h.af i z (by rw [List.getElem?_append_left hlt]; exact hi) a ha
  rw [List.take_append_of_le_length (by omega)] at h2 ⊢
  exact h2
 ·
  subst heq
  rw [List.getElem?_append_right (Nat.le_refl _), Nat.sub_self] at hi
  obtain rfl : y = z := by simpa using hi
  have h2 := h.af (A.length + 1) y (by rw [List.getElem?_append_right (by omega)]; simp) a ha
  rw [List.take_append_of_le_length (Nat.le_refl _), List.take_length]
  have e : (A ++ x :: y :: B).take (A.length + 1) = A ++ [x] := by rw [List.take_append, List.take_of_length_le (by omega)]; simp
  rw [e] at h2
  rcases List.mem_append.1 h2 with h3 | h3
  · exact h3
  · exact absurd (List.mem_singleton.1 h3) (hn a ha)
 obtain ⟨d, rfl⟩ : ∃ d, i = A.length + 1 + d := ⟨i - (A.length + 1), by omega⟩
 rw [List.getElem?_append_right (by omega), show A.length + 1 + d - A.length = d + 1 by omega] at hi
 cases d with
 | zero =>
  obtain rfl : x = z := by simpa using hi
  have h2 := h.af A.length x (by rw [List.getElem?_append_right (Nat.le_refl _)]; simp) a ha
  rw [List.take_append_of_le_length (Nat.le_refl _), List.take_length] at h2
  rw [List.take_append]
  exact List.mem_append.2 (.inl (by rw [List.take_of_length_le (by omega)]; exact h2))
 | succ k =>
  have hz : B[k]? = some z := by simpa using hi
  have h2 := h.af (A.length + 1 + (k + 1)) z (by rw [List.getElem?_append_right (by omega), show A.length + 1 + (k + 1) - A.length = k + 2 by omega]; simpa using hz) a ha
  rw [List.take_append, List.take_of_length_le (by omega), show A.length + 1 + (k + 1) - A.length = k + 2 by omega] at h2 ⊢
  simp only [List.take_succ_cons, List.mem_append, List.mem_cons] at h2 ⊢
  rcases h2 with h2 | h2 | h2 | h2
  · exact .inl h2
  · exact .inr (.inr (.inl h2))
  · exact .inr (.inl h2)
  · exact .inr (.inr (.inr h2))
theorem OrdP.swap {ts : List Tsk} {o : List Nat} {p x y : Nat} (h : OrdP ts o) (hx : o[p]? = some x) (hy : o[p + 1]? = some y) (hn : ∀ a ∈ (tk ts y).af, a.toNat ≠ x) : OrdP ts (swpO o p x y) := by
 rw [swp_split hx hy] at h
 exact h.swapL hn
end Go.Proofs.Ytokelpmngahnoaa
/- the law: neighbours change places. -/
namespace Go.Proofs.Ytokelpmngahnoaa
open Go.RowKit
set_option maxRecDepth 100000
attribute [local go_sem] Oper.semAt_some
def SwapR (ts : List Tsk) (w : World) : Ending -> World -> Prop := fun e w' => ∃ (a : Option Addr) (c lo hi : Nat) (b : Bool) (o' : List Nat), e = .returned (.tuple #[.slice a o'.length c, .bool b]) /\ (w.heap.size <= lo /\ hi <= w'.heap.size) /\ Sl intEnc 1 lo hi w' (.slice a o'.length c) (ints o') /\ (OrdP ts o' /\ o'.length = ts.length) /\ w.grownBy w' none
theorem SwapR.of {ts : List Tsk} {w w' : World} {e : Ending} {v : Value} {b : Bool} {o' : List Nat} (he : e = .returned (.tuple #[v, .bool b])) (hop : OrdP ts o') (hol : o'.length = ts.length) (ho : Own intEnc 3 1 w.heap.size w' v (ints o')) (hg : w.grownBy w' none) : SwapR ts w e w' := by
 obtain ⟨a, c, rfl, hs⟩ := Own.slN ho (fun _ => rfl) (ints_len _)
 exact ⟨a, c, w.heap.size, w'.heap.size, b, o', he, ⟨Nat.le_refl _, Nat.le_refl _⟩, hs, ⟨hop, hol⟩, hg⟩
end Go.Proofs.Ytokelpmngahnoaa
