/- frost: true ice after a day; picks. -/
import Derived.Test.YthblaiefalbomaaFP3
import Derived.Test.YthblaiefalbomaaF33
import Derived.Test.YthblaiefalbomaaF37
import Derived.Test.YthblaiefalbomaaF25
import Derived.Test.YthblaiefalbomaaHs
set_option linter.unusedVariables false
set_option linter.unusedSimpArgs false
set_option linter.unnecessarySimpa false
namespace Go.Proofs.Ythblaiefalbomaa
open Go.RowKit
set_option maxRecDepth 100000

/-- A row of numbers is handed back. -/
def SlI (l : List Int) (w : World) : Ending → World → Prop := fun e w' => ∃ (a : Option Addr) (c lo hi : Nat), e = .returned (.slice a l.length c) ∧ (w.heap.size ≤ lo ∧ hi ≤ w'.heap.size) ∧ Sl intEnc 1 lo hi w' (.slice a l.length c) l ∧ w.grownBy w' none
theorem OwnI.sl {b0 : Nat} {l : List Int} {w : World} {e : Ending} {w' : World} (h : OwnI b0 l w e w') (hb : b0 = w.heap.size) : SlI l w e w' := by
  obtain ⟨vo, rfl, ho, _, hg⟩ := h
  obtain ⟨a, c, rfl, hs⟩ := Own.slN ho (fun _ => rfl) rfl
  exact ⟨a, c, _, _, rfl, ⟨by omega, Nat.le_refl _⟩, hs, hg⟩
theorem ends_s (s : Sp) (w : World) : Calls Try.prog 19 #[.agg #[.int .i64 s.lo, .int .i64 s.hi]] w (SlI (endsI s) w) :=
  (ends_c w.heap.size s w (Nat.le_refl _)).mono fun _ _ h => h.sl rfl
theorem colds_s (s : Sp) (w : World) : Calls Try.prog 20 #[.agg #[.int .i64 s.lo, .int .i64 s.hi]] w (SlI (coldsI s) w) :=
  (colds_c w.heap.size s w (Nat.le_refl _)).mono fun _ _ h => h.sl rfl
/-- True ice as cells. -/
def truEnc (t : Tr) : List Value := [.int .i64 t.bl, .int .i64 t.wh, .int .i64 t.we, .int .i64 t.sn]
theorem infoTru : (Try.prog.info? 48).map (fun i => (i.zero, i.size, i.bytes)) = some (some (.agg #[.int .i64 0, .int .i64 0, .int .i64 0, .int .i64 0]), 4, 32) := by kernel_rfl
theorem okTru : ElemOk Try.prog 45 48 4 32 truEnc where
  under := Try.underlying45
  info := info5 infoTru rfl
  pos := by omega
  small := by omega
  len := fun _ => rfl
  one := fun x u hu => by
    simp [truEnc] at hu
    rcases hu with rfl | rfl | rfl | rfl <;> rfl
theorem map_snoc {f : Int → Tr} {l : List Int} {k : Nat} {z : Int} {lo : List Tr} (h : lo = (l.take k).map f) (hz : l[k]? = some z) : lo ++ [f z] = (l.take (k + 1)).map f := by
  rw [List.take_add_one, hz, h]
  simp
theorem flat_snoc {f : Int → List Tr} {l : List Int} {k : Nat} {z : Int} {lo : List Tr} (h : lo = (l.take k).flatMap f) (hz : l[k]? = some z) : lo ++ f z = (l.take (k + 1)).flatMap f := by
  rw [List.take_add_one, hz, h]
  simp
/-- A row of true ice is handed back. -/
def SlT (l : List Tr) (w : World) : Ending → World → Prop := fun e w' => ∃ (a : Option Addr) (c lo hi : Nat), e = .returned (.slice a l.length c) ∧ (w.heap.size ≤ lo ∧ hi ≤ w'.heap.size) ∧ Sl truEnc 4 lo hi w' (.slice a l.length c) l ∧ w.grownBy w' none
theorem SlT.mk {l l' : List Tr} {w w' : World} {vo : Value} (h : Own truEnc 48 4 w.heap.size w' vo l') (hl : l = l') (hg : w.grownBy w' none) : SlT l w (.returned vo) w' := by
  subst hl
  obtain ⟨a, c, rfl, hs⟩ := Own.slN h (fun _ => rfl) rfl
  exact ⟨a, c, _, _, rfl, ⟨Nat.le_refl _, Nat.le_refl _⟩, hs, hg⟩
theorem pk_cons {l : List Int} {ls : List (List Int)} {n q n' : Nat} {z : Int} {r : List Int} (hz : l[q]? = some z) (hq : q = n % l.length) (hn : n' = n / l.length) (h : pkL ls n' = r) : pkL (l :: ls) n = z :: r := by
  subst hq hn h
  show l.getD (n % l.length) 0 :: _ = _
  rw [List.getD_eq_getElem?_getD, hz]
  rfl
set_option maxHeartbeats 16000000 in
theorem days_c (lo hi : Nat) (v : Value) (l : Fro) (y : Tr) (k : Int) (d : Wea) (c f : Int) (w : World) (hl : Sl covEnc 3 lo hi w v l.cov) (h2 : hi ≤ w.heap.size) (hL : LawOk l) (ht : TrK y k k) (hk : 0 ≤ k ∧ k ≤ 400) (hd : WeaOk d) (hc : d.cold.lo ≤ c ∧ c ≤ d.cold.hi) (hf : d.fall.lo ≤ f ∧ f ≤ d.fall.hi) :
    Calls Try.prog 22 #[.agg (froC l v), .agg #[.int .i64 y.bl, .int .i64 y.wh, .int .i64 y.we, .int .i64 y.sn], .agg (weaC d d.clear), .int .i64 c, .int .i64 f] w (SlT (daysI l y d c f) w) := by
  have F1 : Bun w [] w := Bun.nil _
  have hm_cs := hl.len
  unfold maxLen at hm_cs
  obtain ⟨sa, sc, rfl⟩ := hl.any
  have F2 := F1.sl0 hl h2 rfl
  clear F1
  clear hl
  have HL := Lib.hid hL
  have HT := Lib.hid ht
  have HD := Lib.hid hd
  have hdc := hd.cold
  have hdf := hd.fall
  clear hL ht hd
  go_enter Try.func22, Try.ntmps22
  go_wp2_with fail
  have F3 := F2.new 29 (froC l (.slice sa l.cov.length sc)) (n := w.heap.size) (by simp)
  clear F2
  have F4 := F3.new 48 #[.int .i64 y.bl, .int .i64 y.wh, .int .i64 y.we, .int .i64 y.sn] (n := (w.heap.size + 1)) (by simp)
  clear F3
  have F5 := F4.new 35 (weaC d d.clear) (n := (w.heap.size + 2)) (by simp)
  clear F4
  refine (opened_c lo hi _ l y k k d f _ (F5.at 3 rfl : Sl covEnc 3 lo hi _ (.slice sa l.cov.length sc) l.cov) (Nat.le_trans h2 F5.gb.size) HL.out HT.out (by omega) HD.out (by omega)).mono ?_
  rintro e w8 ⟨rfl, hg6⟩
  have HO := Lib.hid (opn_K HL.out HT.out HD.out (f := f) (by omega))
  have hg6s := hg6.size
  (try simp at hg6s)
  have F9 := F5.gn hg6
  clear F5
  clear hg6
  by_cases c10 : c < 0
  · skip
    have c10H := Lib.hid c10
    have b12 := F9.bx4 1 rfl
    have b13 := F9.bx8 2 rfl
    go_wp2_with fail
    clear b12 b13
    have F14 := (F9.front 1 rfl rfl).pt4 (.int .i64 ((opn l y d f).bl)) (.int .i64 ((opn l y d f).wh)) (.int .i64 ((opn l y d f).we)) (.int .i64 ((opn l y d f).sn))
    clear F9
    refine (thawed_c lo hi _ l (-c) _ (F14.at 3 rfl : Sl covEnc 3 lo hi _ (.slice sa l.cov.length sc) l.cov) (Nat.le_trans h2 F14.gb.size) HL.out (by omega)).mono ?_
    rintro e w17 ⟨rfl, hg15⟩
    have hb11 := thW_bd HL.out (n := (-c)) (by omega)
    have hb11l : (thW l (-c)).lo ≤ (thW l (-c)).hi := Int.le_trans (dn_mono (by omega) (Int.le_refl _) HL.out.melt.1 HL.out.melt.2.1) dn_le_upp
    have hg15s := hg15.size
    (try simp at hg15s)
    have F18 := F14.gn hg15
    clear F14
    clear hg15
    go_wp2_with fail
    refine (ends_s (thW l (-c)) _).mono ?_
    rintro e w22 ⟨ea_n19, ec_n19, le_n19, he_n19, rfl, ⟨hexn19, heyn19⟩, hezn19, hg20⟩
    have heln19 := endsI_len (thW l (-c))
    have hg20s := hg20.size
    (try simp at hg20s)
    have F23 := F18.add (rsl intEnc 1 le_n19 he_n19 (.slice ea_n19 (endsI (thW l (-c))).length ec_n19) (endsI (thW l (-c)))) hg20 (hezn19) (fun g e => ⟨Nat.le_trans hexn19 e.1, Nat.lt_of_lt_of_le e.2 heyn19⟩)
    clear F18
    clear hg20
    go_wp2_with fail
    have F24 := F23.nilrow truEnc 48 4
    clear F23
    (skip)
    obtain ⟨HI25_, HI250⟩ : ∃ I : (Nat → Value) → List Deferred → World → Prop, I = (fun t ds wr => ∃ (j : Nat) (vo : Value) (lo_ : List Tr), t 6 = .pointer (some ⟨w.heap.size + 1, 0, none⟩) ∧ t 11 = vo ∧ t 12 = .slice ea_n19 ((endsI (thW l (-c))).length) ec_n19 ∧ t 13 = .int .i64 (j : Int) ∧ j ≤ (endsI (thW l (-c))).length ∧ lo_.length = j ∧ lo_ = ((endsI (thW l (-c))).take j).map (mlT (opn l y d f)) ∧ ds = [] ∧ w22.heap.size ≤ wr.heap.size ∧ Bun w [rown truEnc 48 4 w.heap.size vo lo_, rsl intEnc 1 le_n19 he_n19 (.slice ea_n19 (endsI (thW l (-c))).length ec_n19) (endsI (thW l (-c))), rbox (w.heap.size + 1) 48 #[.int .i64 ((opn l y d f).bl), .int .i64 ((opn l y d f).wh), .int .i64 ((opn l y d f).we), .int .i64 ((opn l y d f).sn)], rsl covEnc 3 lo hi (.slice sa l.cov.length sc) l.cov] wr) := ⟨_, rfl⟩
    have HI25 := Lib.hid HI250
    clear HI250
    refine wp_loopS 74 rfl HI25_ (fun t wr => (endsI (thW l (-c))).length - (intOf (t 13)).toNat) ?atStart17 ?round17
    case round17 =>
      intro t ds wr hHid
      rw [HI25.out] at hHid
      obtain ⟨j, vo, lo_, e6, e11, e12, e13, hrel⟩ := hHid
      have e : ((List.range 74).map t).toArray = #[t 0, t 1, t 2, t 3, t 4, t 5, t 6, t 7, t 8, t 9, t 10, t 11, t 12, t 13, t 14, t 15, t 16, t 17, t 18, t 19, t 20, t 21, t 22, t 23, t 24, t 25, t 26, t 27, t 28, t 29, t 30, t 31, t 32, t 33, t 34, t 35, t 36, t 37, t 38, t 39, t 40, t 41, t 42, t 43, t 44, t 45, t 46, t 47, t 48, t 49, t 50, t 51, t 52, t 53, t 54, t 55, t 56, t 57, t 58, t 59, t 60, t 61, t 62, t 63, t 64, t 65, t 66, t 67, t 68, t 69, t 70, t 71, t 72, t 73] := rfl
      (try dsimp only at e)
      rw [e6, e11, e12, e13] at e
      rw [e]
      simp only [e13]
      clear e e6 e11 e12 e13
      obtain ⟨hj, hlen, hlo, rfl, hs27, hF26⟩ := hrel
      clear F24
      obtain ⟨w28, rfl⟩ : ∃ x_ : World, x_ = wr := ⟨_, rfl⟩
      have HLO := Lib.hid hlo
      clear hlo
      by_cases c29 : (j : Int) < ((endsI (thW l (-c))).length : Int)
      · skip
        have c29H := Lib.hid c29
        obtain ⟨x30, o31, e_⟩ := Sl.addr (hF26.at 1 rfl : Sl intEnc 1 le_n19 he_n19 _ (.slice ea_n19 (endsI (thW l (-c))).length ec_n19) (endsI (thW l (-c)))) (by omega)
        subst e_
        obtain ⟨z, hz32_⟩ : ∃ z_, (endsI (thW l (-c)))[j]? = some z_ := ⟨_, List.getElem?_eq_getElem (by omega)⟩
        have hz32 := Lib.hid hz32_
        clear hz32_
        have hzb : 0 ≤ z ∧ z ≤ 100000 ∧ (z ≤ 1000 ∨ c < 0) := by have h_ := endsI_mem.1 (List.mem_of_getElem? hz32.out); unfold endS at h_; rcases h_ with h_ | h_ <;> omega
        go_wp2_with fail
        have F33 := hF26.drew
        clear hF26
        refine ru_begin (fun W => W.cell? ⟨(w.heap.size + 1), 0, none⟩ = some (.int .i64 ((opn l y d f).bl)) ∧ W.cell? ⟨(w.heap.size + 1), 1, none⟩ = some (.int .i64 ((opn l y d f).wh)) ∧ W.cell? ⟨(w.heap.size + 1), 2, none⟩ = some (.int .i64 ((opn l y d f).we)) ∧ W.cell? ⟨(w.heap.size + 1), 3, none⟩ = some (.int .i64 ((opn l y d f).sn)) ∧ W.cell? ⟨x30, o31 + j, none⟩ = some (.int .i64 z)) 9 (by kernel_rfl) ?_ ?_
        · exact ⟨F33.cl 2 0 rfl rfl, F33.cl 2 1 rfl rfl, F33.cl 2 2 rfl rfl, F33.cl 2 3 rfl rfl, (by have h_ := ((F33.at 1 rfl : Sl intEnc 1 le_n19 he_n19 _ (.slice (some ⟨x30, o31, none⟩) (endsI (thW l (-c))).length ec_n19) (endsI (thW l (-c))))).cells hz32.out 0 _ rfl; simpa using h_)⟩
        obtain ⟨wd35, hwd_⟩ : ∃ x : World, w28.drew = x := ⟨_, rfl⟩
        rw [hwd_] at F33 ⊢
        have wd35s : w28.heap.size ≤ wd35.heap.size := by rw [← hwd_]; exact Nat.le_refl _
        clear hwd_
        have hS34 := (And.intro (F33.cl 2 0 rfl rfl) (And.intro (F33.cl 2 1 rfl rfl) (And.intro (F33.cl 2 2 rfl rfl) (And.intro (F33.cl 2 3 rfl rfl) ((by have h_ := ((F33.at 1 rfl : Sl intEnc 1 le_n19 he_n19 _ (.slice (some ⟨x30, o31, none⟩) (endsI (thW l (-c))).length ec_n19) (endsI (thW l (-c))))).cells hz32.out 0 _ rfl; simpa using h_))))))
        refine ru_t 0 [] ?_
        refine ru_t 1 [] ?_
        refine ru_t 2 [] ?_
        refine ru_t 3 [] ?_
        refine ru_t 4 [] ?_
        refine ru_t 5 [] ?_
        (try simp only [Act.put, List.setIfInBounds_toArray, List.set_cons_zero, List.set_cons_succ])
        clear hS34
        refine ru_one 6 rfl (by kernel_rfl) (fun K hK => ?_)
        go_simp
        refine (rmelted_c (opn l y d f) k (k + 1) z _ HO.out (by omega) (by omega)).mono ?_
        rintro e w38 ⟨rfl, hg36⟩
        have hg36s := hg36.size
        (try simp at hg36s)
        have F39 := F33.gn hg36
        clear F33
        refine ru_back hK (by exact ⟨F39.cl 2 0 rfl rfl, F39.cl 2 1 rfl rfl, F39.cl 2 2 rfl rfl, F39.cl 2 3 rfl rfl, (by have h_ := ((F39.at 1 rfl : Sl intEnc 1 le_n19 he_n19 _ (.slice (some ⟨x30, o31, none⟩) (endsI (thW l (-c))).length ec_n19) (endsI (thW l (-c))))).cells hz32.out 0 _ rfl; simpa using h_)⟩) (fun hHeld => ?_)
        clear hK K
        (try simp only [Act.put, List.setIfInBounds_toArray, List.set_cons_zero, List.set_cons_succ])
        refine ru_one 7 rfl (by kernel_rfl) (fun K hK => ?_)
        go_simp
        have F40 := F39.new 48 #[.int .i64 ((mlT (opn l y d f) z).bl), .int .i64 ((mlT (opn l y d f) z).wh), .int .i64 ((mlT (opn l y d f) z).we), .int .i64 ((mlT (opn l y d f) z).sn)] (n := w38.heap.size) (by simp)
        clear F39
        refine ru_back hK (by exact ⟨F40.cl 3 0 rfl rfl, F40.cl 3 1 rfl rfl, F40.cl 3 2 rfl rfl, F40.cl 3 3 rfl rfl, (by have h_ := ((F40.at 2 rfl : Sl intEnc 1 le_n19 he_n19 _ (.slice (some ⟨x30, o31, none⟩) (endsI (thW l (-c))).length ec_n19) (endsI (thW l (-c))))).cells hz32.out 0 _ rfl; simpa using h_)⟩) (fun hHeld => ?_)
        clear hK K
        (try simp only [Act.put, List.setIfInBounds_toArray, List.set_cons_zero, List.set_cons_succ])
        refine ru_one 8 rfl (by kernel_rfl) (fun K hK => ?_)
        refine step_app _ okTru rfl _ _ rfl w.heap.size vo lo_ [(mlT (opn l y d f) z)] rfl (by exact (F40.at 1 rfl : Own truEnc 48 4 w.heap.size _ vo lo_)) ⟨_, 0, none⟩ 1 1 rfl rfl (by decide) (news_of (F40.at 0 rfl : Bk _ w38.heap.size 48 #[.int .i64 ((mlT (opn l y d f) z).bl), .int .i64 ((mlT (opn l y d f) z).wh), .int .i64 ((mlT (opn l y d f) z).we), .int .i64 ((mlT (opn l y d f) z).sn)])) (j + 1) (by simp; omega) (by omega) (by first | omega | (simp; omega)) _ rfl ?_
        intro g41 cap42 w43 hp44
        have hp44s := hp44.gb.size
        (try simp at hp44s)
        have F45 := (F40.front 1 rfl rfl).app hp44 (Nat.le_refl _)
        clear F40
        refine ru_back hK (by exact ⟨F45.cl 3 0 rfl rfl, F45.cl 3 1 rfl rfl, F45.cl 3 2 rfl rfl, F45.cl 3 3 rfl rfl, (by have h_ := ((F45.at 2 rfl : Sl intEnc 1 le_n19 he_n19 _ (.slice (some ⟨x30, o31, none⟩) (endsI (thW l (-c))).length ec_n19) (endsI (thW l (-c))))).cells hz32.out 0 _ rfl; simpa using h_)⟩) (fun hHeld => ?_)
        clear hK K
        (try simp only [Act.put, List.setIfInBounds_toArray, List.set_cons_zero, List.set_cons_succ])
        refine ru_one 9 rfl (by kernel_rfl) (fun K hK => ?_)
        go_simp
        refine ru_back_late hK (by kernel_rfl) ?_
        clear hK K
        (try simp only [Act.put, List.setIfInBounds_toArray, List.set_cons_zero, List.set_cons_succ])
        refine ru_done (by kernel_rfl) ?_
        obtain ⟨w46, hx47, F49, hxs48⟩ := (show Bun w [rown truEnc 48 4 w.heap.size (.slice (some ⟨g41, 0, none⟩) (j + 1) cap42) (lo_ ++ [(mlT (opn l y d f) z)]), rsl intEnc 1 le_n19 he_n19 (.slice (some ⟨x30, o31, none⟩) (endsI (thW l (-c))).length ec_n19) (endsI (thW l (-c))), rbox (w.heap.size + 1) 48 #[.int .i64 ((opn l y d f).bl), .int .i64 ((opn l y d f).wh), .int .i64 ((opn l y d f).we), .int .i64 ((opn l y d f).sn)], rsl covEnc 3 lo hi (.slice sa l.cov.length sc) l.cov] _ from (F45.drop 1 rfl)).name
        (try simp at hxs48)
        rw [hx47]
        clear hx47 F45
        go_wp2_with fail
        (first | refine ⟨by kernel_rfl, ?_, ?_⟩ | refine ⟨rfl, ?_, ?_⟩ | refine ⟨?_, ?_⟩)
        · rw [HI25.out]; exact ⟨j + 1, _, _, (by first | kernel_rfl | rfl), (by first | kernel_rfl | rfl), (by first | kernel_rfl | rfl), (by show Value.int .i64 ((j : Int) + 1) = _; simp), (by omega), (by simp; omega), (map_snoc HLO.out hz32.out), (by first | rfl | simp), (by first | omega | (simp; done) | (simp; omega)), F49⟩
        · simp [slot, intOf]; omega
      · skip
        have c29H := Lib.hid c29
        have c29a : decide ((j : Int) < ((endsI (thW l (-c))).length : Int)) = false := dec_f c29
        go_wp2_with fail
        exact bodyPost_ret (v := vo) (by simp [results, Try.results22, go_sem]) rfl (SlT.mk (hF26.at 0 rfl : Own truEnc 48 4 w.heap.size _ vo lo_) (by rw [daysI, if_pos (by omega), HLO.out, List.take_of_length_le (by omega)]) hF26.gb)
    case atStart17 =>
      rw [HI25.out]
      exact ⟨0, _, [], (by first | kernel_rfl | rfl), rfl, (by first | kernel_rfl | rfl), rfl, Nat.zero_le _, rfl, rfl, rfl, (by first | exact Nat.le_refl _ | omega | (simp; done) | (simp; omega)), ((F24.drop 3 rfl).drop 3 rfl)⟩
  · skip
    have c10H := Lib.hid c10
    have c10a : decide (c < 0) = false := dec_f c10
    have b51 := F9.bx4 1 rfl
    have b52 := F9.bx8 2 rfl
    go_wp2_with fail
    clear b51 b52
    have F53 := (F9.front 1 rfl rfl).pt4 (.int .i64 ((opn l y d f).bl)) (.int .i64 ((opn l y d f).wh)) (.int .i64 ((opn l y d f).we)) (.int .i64 ((opn l y d f).sn))
    clear F9
    refine (rthrough_c lo hi _ l ((opn l y d f).sn) c _ (F53.at 3 rfl : Sl covEnc 3 lo hi _ (.slice sa l.cov.length sc) l.cov) (Nat.le_trans h2 F53.gb.size) HL.out (by omega)).mono ?_
    rintro e w56 ⟨rfl, hg54⟩
    have hb50 := thC_bd HL.out ((opn l y d f).sn) (c := c) (by omega)
    have hb50l : (thC l ((opn l y d f).sn) c).lo ≤ (thC l ((opn l y d f).sn) c).hi := Int.le_trans (dn_mono (by omega) (Int.le_refl _) (thr_ok HL.out _).1 (thr_ok HL.out _).2.1) dn_le_upp
    have hg54s := hg54.size
    (try simp at hg54s)
    have F57 := F53.gn hg54
    clear F53
    clear hg54
    go_wp2_with fail
    refine (ends_s (thC l ((opn l y d f).sn) c) _).mono ?_
    rintro e w61 ⟨ea_n58, ec_n58, le_n58, he_n58, rfl, ⟨hexn58, heyn58⟩, hezn58, hg59⟩
    have heln58 := endsI_len (thC l ((opn l y d f).sn) c)
    have hg59s := hg59.size
    (try simp at hg59s)
    have F62 := F57.add (rsl intEnc 1 le_n58 he_n58 (.slice ea_n58 (endsI (thC l ((opn l y d f).sn) c)).length ec_n58) (endsI (thC l ((opn l y d f).sn) c))) hg59 (hezn58) (fun g e => ⟨Nat.le_trans hexn58 e.1, Nat.lt_of_lt_of_le e.2 heyn58⟩)
    clear F57
    clear hg59
    go_wp2_with fail
    have F63 := F62.nilrow truEnc 48 4
    clear F62
    (skip)
    obtain ⟨HI64_, HI640⟩ : ∃ I : (Nat → Value) → List Deferred → World → Prop, I = (fun t ds wr => ∃ (j : Nat) (vo : Value) (lo_ : List Tr), t 5 = .pointer (some ⟨w.heap.size, 0, none⟩) ∧ t 6 = .pointer (some ⟨w.heap.size + 1, 0, none⟩) ∧ t 11 = vo ∧ t 14 = .slice ea_n58 ((endsI (thC l ((opn l y d f).sn) c)).length) ec_n58 ∧ t 15 = .int .i64 (j : Int) ∧ j ≤ (endsI (thC l (opn l y d f).sn c)).length ∧ lo_.length = 2 * j ∧ lo_ = ((endsI (thC l (opn l y d f).sn c)).take j).flatMap (fun n => [frT l (opn l y d f) n false, frT l (opn l y d f) n true]) ∧ ds = [] ∧ w61.heap.size ≤ wr.heap.size ∧ Bun w [rown truEnc 48 4 w.heap.size vo lo_, rsl intEnc 1 le_n58 he_n58 (.slice ea_n58 (endsI (thC l ((opn l y d f).sn) c)).length ec_n58) (endsI (thC l ((opn l y d f).sn) c)), rbox (w.heap.size + 1) 48 #[.int .i64 ((opn l y d f).bl), .int .i64 ((opn l y d f).wh), .int .i64 ((opn l y d f).we), .int .i64 ((opn l y d f).sn)], rbox w.heap.size 29 (froC l (.slice sa l.cov.length sc)), rsl covEnc 3 lo hi (.slice sa l.cov.length sc) l.cov] wr) := ⟨_, rfl⟩
    have HI64 := Lib.hid HI640
    clear HI640
    refine wp_loopS 74 rfl HI64_ (fun t wr => (endsI (thC l (opn l y d f).sn c)).length - (intOf (t 15)).toNat) ?atStart18 ?round18
    case round18 =>
      intro t ds wr hHid
      rw [HI64.out] at hHid
      obtain ⟨j, vo, lo_, e5, e6, e11, e14, e15, hrel⟩ := hHid
      have e : ((List.range 74).map t).toArray = #[t 0, t 1, t 2, t 3, t 4, t 5, t 6, t 7, t 8, t 9, t 10, t 11, t 12, t 13, t 14, t 15, t 16, t 17, t 18, t 19, t 20, t 21, t 22, t 23, t 24, t 25, t 26, t 27, t 28, t 29, t 30, t 31, t 32, t 33, t 34, t 35, t 36, t 37, t 38, t 39, t 40, t 41, t 42, t 43, t 44, t 45, t 46, t 47, t 48, t 49, t 50, t 51, t 52, t 53, t 54, t 55, t 56, t 57, t 58, t 59, t 60, t 61, t 62, t 63, t 64, t 65, t 66, t 67, t 68, t 69, t 70, t 71, t 72, t 73] := rfl
      (try dsimp only at e)
      rw [e5, e6, e11, e14, e15] at e
      rw [e]
      simp only [e15]
      clear e e5 e6 e11 e14 e15
      obtain ⟨hj, hlen, hlo, rfl, hs66, hF65⟩ := hrel
      clear F63
      obtain ⟨w67, rfl⟩ : ∃ x_ : World, x_ = wr := ⟨_, rfl⟩
      have HLO := Lib.hid hlo
      clear hlo
      by_cases c68 : (j : Int) < ((endsI (thC l ((opn l y d f).sn) c)).length : Int)
      · skip
        have c68H := Lib.hid c68
        obtain ⟨x69, o70, e_⟩ := Sl.addr (hF65.at 1 rfl : Sl intEnc 1 le_n58 he_n58 _ (.slice ea_n58 (endsI (thC l ((opn l y d f).sn) c)).length ec_n58) (endsI (thC l ((opn l y d f).sn) c))) (by omega)
        subst e_
        obtain ⟨z, hz71_⟩ : ∃ z_, (endsI (thC l ((opn l y d f).sn) c))[j]? = some z_ := ⟨_, List.getElem?_eq_getElem (by omega)⟩
        have hz71 := Lib.hid hz71_
        clear hz71_
        have hzb : 0 ≤ z ∧ z ≤ 100000 ∧ (z ≤ 1000 ∨ c < 0) := by have h_ := endsI_mem.1 (List.mem_of_getElem? hz71.out); unfold endS at h_; rcases h_ with h_ | h_ <;> omega
        go_wp2_with fail
        have F72 := hF65.drew
        clear hF65
        refine ru_begin (fun W => W.cell? ⟨w.heap.size, 0, none⟩ = some (.int .i64 l.gr) ∧ W.cell? ⟨w.heap.size, 1, none⟩ = some (.int .i64 l.la) ∧ W.cell? ⟨w.heap.size, 2, none⟩ = some (.slice sa l.cov.length sc) ∧ W.cell? ⟨w.heap.size, 3, none⟩ = some (.int .i64 l.melt.lo) ∧ W.cell? ⟨w.heap.size, 4, none⟩ = some (.int .i64 l.melt.hi) ∧ W.cell? ⟨w.heap.size, 5, none⟩ = some (.int .i64 l.soak) ∧ W.cell? ⟨w.heap.size, 6, none⟩ = some (.int .i64 l.white.lo) ∧ W.cell? ⟨w.heap.size, 7, none⟩ = some (.int .i64 l.white.hi) ∧ W.cell? ⟨(w.heap.size + 1), 0, none⟩ = some (.int .i64 ((opn l y d f).bl)) ∧ W.cell? ⟨(w.heap.size + 1), 1, none⟩ = some (.int .i64 ((opn l y d f).wh)) ∧ W.cell? ⟨(w.heap.size + 1), 2, none⟩ = some (.int .i64 ((opn l y d f).we)) ∧ W.cell? ⟨(w.heap.size + 1), 3, none⟩ = some (.int .i64 ((opn l y d f).sn)) ∧ W.cell? ⟨x69, o70 + j, none⟩ = some (.int .i64 z)) 17 (by kernel_rfl) ?_ ?_
        · exact ⟨F72.cl 3 0 rfl rfl, F72.cl 3 1 rfl rfl, F72.cl 3 2 rfl rfl, F72.cl 3 3 rfl rfl, F72.cl 3 4 rfl rfl, F72.cl 3 5 rfl rfl, F72.cl 3 6 rfl rfl, F72.cl 3 7 rfl rfl, F72.cl 2 0 rfl rfl, F72.cl 2 1 rfl rfl, F72.cl 2 2 rfl rfl, F72.cl 2 3 rfl rfl, (by have h_ := ((F72.at 1 rfl : Sl intEnc 1 le_n58 he_n58 _ (.slice (some ⟨x69, o70, none⟩) (endsI (thC l ((opn l y d f).sn) c)).length ec_n58) (endsI (thC l ((opn l y d f).sn) c)))).cells hz71.out 0 _ rfl; simpa using h_)⟩
        obtain ⟨wd74, hwd_⟩ : ∃ x : World, w67.drew = x := ⟨_, rfl⟩
        rw [hwd_] at F72 ⊢
        have wd74s : w67.heap.size ≤ wd74.heap.size := by rw [← hwd_]; exact Nat.le_refl _
        clear hwd_
        have hS73 := (And.intro (F72.cl 3 0 rfl rfl) (And.intro (F72.cl 3 1 rfl rfl) (And.intro (F72.cl 3 2 rfl rfl) (And.intro (F72.cl 3 3 rfl rfl) (And.intro (F72.cl 3 4 rfl rfl) (And.intro (F72.cl 3 5 rfl rfl) (And.intro (F72.cl 3 6 rfl rfl) (And.intro (F72.cl 3 7 rfl rfl) (And.intro (F72.cl 2 0 rfl rfl) (And.intro (F72.cl 2 1 rfl rfl) (And.intro (F72.cl 2 2 rfl rfl) (And.intro (F72.cl 2 3 rfl rfl) ((by have h_ := ((F72.at 1 rfl : Sl intEnc 1 le_n58 he_n58 _ (.slice (some ⟨x69, o70, none⟩) (endsI (thC l ((opn l y d f).sn) c)).length ec_n58) (endsI (thC l ((opn l y d f).sn) c)))).cells hz71.out 0 _ rfl; simpa using h_))))))))))))))
        refine ru_t 0 [] ?_
        refine ru_t 1 [] ?_
        refine ru_t 2 [] ?_
        refine ru_t 3 [] ?_
        refine ru_t 4 [] ?_
        refine ru_t 5 [] ?_
        refine ru_t 6 [] ?_
        refine ru_t 8 [] ?_
        refine ru_t 9 [] ?_
        refine ru_t 10 [] ?_
        refine ru_t 11 [] ?_
        refine ru_t 12 [] ?_
        refine ru_t 13 [] ?_
        (try simp only [Act.put, List.setIfInBounds_toArray, List.set_cons_zero, List.set_cons_succ])
        clear hS73
        refine ru_one 7 rfl (by kernel_rfl) (fun K hK => ?_)
        go_simp
        refine (rfrozen_c lo hi _ l (opn l y d f) k (k + 1) z false _ (F72.at 4 rfl : Sl covEnc 3 lo hi _ (.slice sa l.cov.length sc) l.cov) (Nat.le_trans h2 F72.gb.size) HL.out HO.out (by omega) (by omega)).mono ?_
        rintro e w77 ⟨rfl, hg75⟩
        have hg75s := hg75.size
        (try simp at hg75s)
        have F78 := F72.gn hg75
        clear F72
        refine ru_back hK (by exact ⟨F78.cl 3 0 rfl rfl, F78.cl 3 1 rfl rfl, F78.cl 3 2 rfl rfl, F78.cl 3 3 rfl rfl, F78.cl 3 4 rfl rfl, F78.cl 3 5 rfl rfl, F78.cl 3 6 rfl rfl, F78.cl 3 7 rfl rfl, F78.cl 2 0 rfl rfl, F78.cl 2 1 rfl rfl, F78.cl 2 2 rfl rfl, F78.cl 2 3 rfl rfl, (by have h_ := ((F78.at 1 rfl : Sl intEnc 1 le_n58 he_n58 _ (.slice (some ⟨x69, o70, none⟩) (endsI (thC l ((opn l y d f).sn) c)).length ec_n58) (endsI (thC l ((opn l y d f).sn) c)))).cells hz71.out 0 _ rfl; simpa using h_)⟩) (fun hHeld => ?_)
        clear hK K
        (try simp only [Act.put, List.setIfInBounds_toArray, List.set_cons_zero, List.set_cons_succ])
        refine ru_one 14 rfl (by kernel_rfl) (fun K hK => ?_)
        go_simp
        refine (rfrozen_c lo hi _ l (opn l y d f) k (k + 1) z true _ (F78.at 4 rfl : Sl covEnc 3 lo hi _ (.slice sa l.cov.length sc) l.cov) (Nat.le_trans h2 F78.gb.size) HL.out HO.out (by omega) (by omega)).mono ?_
        rintro e w81 ⟨rfl, hg79⟩
        have hg79s := hg79.size
        (try simp at hg79s)
        have F82 := F78.gn hg79
        clear F78
        refine ru_back hK (by exact ⟨F82.cl 3 0 rfl rfl, F82.cl 3 1 rfl rfl, F82.cl 3 2 rfl rfl, F82.cl 3 3 rfl rfl, F82.cl 3 4 rfl rfl, F82.cl 3 5 rfl rfl, F82.cl 3 6 rfl rfl, F82.cl 3 7 rfl rfl, F82.cl 2 0 rfl rfl, F82.cl 2 1 rfl rfl, F82.cl 2 2 rfl rfl, F82.cl 2 3 rfl rfl, (by have h_ := ((F82.at 1 rfl : Sl intEnc 1 le_n58 he_n58 _ (.slice (some ⟨x69, o70, none⟩) (endsI (thC l ((opn l y d f).sn) c)).length ec_n58) (endsI (thC l ((opn l y d f).sn) c)))).cells hz71.out 0 _ rfl; simpa using h_)⟩) (fun hHeld => ?_)
        clear hK K
        (try simp only [Act.put, List.setIfInBounds_toArray, List.set_cons_zero, List.set_cons_succ])
        refine ru_one 15 rfl (by kernel_rfl) (fun K hK => ?_)
        go_simp
        have F83 := F82.new 48 #[.int .i64 ((frT l (opn l y d f) z false).bl), .int .i64 ((frT l (opn l y d f) z false).wh), .int .i64 ((frT l (opn l y d f) z false).we), .int .i64 ((frT l (opn l y d f) z false).sn), .int .i64 ((frT l (opn l y d f) z true).bl), .int .i64 ((frT l (opn l y d f) z true).wh), .int .i64 ((frT l (opn l y d f) z true).we), .int .i64 ((frT l (opn l y d f) z true).sn)] (n := w81.heap.size) (by simp)
        clear F82
        refine ru_back hK (by exact ⟨F83.cl 4 0 rfl rfl, F83.cl 4 1 rfl rfl, F83.cl 4 2 rfl rfl, F83.cl 4 3 rfl rfl, F83.cl 4 4 rfl rfl, F83.cl 4 5 rfl rfl, F83.cl 4 6 rfl rfl, F83.cl 4 7 rfl rfl, F83.cl 3 0 rfl rfl, F83.cl 3 1 rfl rfl, F83.cl 3 2 rfl rfl, F83.cl 3 3 rfl rfl, (by have h_ := ((F83.at 2 rfl : Sl intEnc 1 le_n58 he_n58 _ (.slice (some ⟨x69, o70, none⟩) (endsI (thC l ((opn l y d f).sn) c)).length ec_n58) (endsI (thC l ((opn l y d f).sn) c)))).cells hz71.out 0 _ rfl; simpa using h_)⟩) (fun hHeld => ?_)
        clear hK K
        (try simp only [Act.put, List.setIfInBounds_toArray, List.set_cons_zero, List.set_cons_succ])
        refine ru_one 16 rfl (by kernel_rfl) (fun K hK => ?_)
        refine step_app _ okTru rfl _ _ rfl w.heap.size vo lo_ [(frT l (opn l y d f) z false), (frT l (opn l y d f) z true)] rfl (by exact (F83.at 1 rfl : Own truEnc 48 4 w.heap.size _ vo lo_)) ⟨_, 0, none⟩ 2 2 rfl rfl (by decide) (news_of (F83.at 0 rfl : Bk _ w81.heap.size 48 #[.int .i64 ((frT l (opn l y d f) z false).bl), .int .i64 ((frT l (opn l y d f) z false).wh), .int .i64 ((frT l (opn l y d f) z false).we), .int .i64 ((frT l (opn l y d f) z false).sn), .int .i64 ((frT l (opn l y d f) z true).bl), .int .i64 ((frT l (opn l y d f) z true).wh), .int .i64 ((frT l (opn l y d f) z true).we), .int .i64 ((frT l (opn l y d f) z true).sn)])) (2 * j + 2) (by simp; omega) (by omega) (by first | omega | (simp; omega)) _ rfl ?_
        intro g84 cap85 w86 hp87
        have hp87s := hp87.gb.size
        (try simp at hp87s)
        have F88 := (F83.front 1 rfl rfl).app hp87 (Nat.le_refl _)
        clear F83
        refine ru_back hK (by exact ⟨F88.cl 4 0 rfl rfl, F88.cl 4 1 rfl rfl, F88.cl 4 2 rfl rfl, F88.cl 4 3 rfl rfl, F88.cl 4 4 rfl rfl, F88.cl 4 5 rfl rfl, F88.cl 4 6 rfl rfl, F88.cl 4 7 rfl rfl, F88.cl 3 0 rfl rfl, F88.cl 3 1 rfl rfl, F88.cl 3 2 rfl rfl, F88.cl 3 3 rfl rfl, (by have h_ := ((F88.at 2 rfl : Sl intEnc 1 le_n58 he_n58 _ (.slice (some ⟨x69, o70, none⟩) (endsI (thC l ((opn l y d f).sn) c)).length ec_n58) (endsI (thC l ((opn l y d f).sn) c)))).cells hz71.out 0 _ rfl; simpa using h_)⟩) (fun hHeld => ?_)
        clear hK K
        (try simp only [Act.put, List.setIfInBounds_toArray, List.set_cons_zero, List.set_cons_succ])
        refine ru_one 17 rfl (by kernel_rfl) (fun K hK => ?_)
        go_simp
        refine ru_back_late hK (by kernel_rfl) ?_
        clear hK K
        (try simp only [Act.put, List.setIfInBounds_toArray, List.set_cons_zero, List.set_cons_succ])
        refine ru_done (by kernel_rfl) ?_
        obtain ⟨w89, hx90, F92, hxs91⟩ := (show Bun w [rown truEnc 48 4 w.heap.size (.slice (some ⟨g84, 0, none⟩) (2 * j + 2) cap85) (lo_ ++ [(frT l (opn l y d f) z false), (frT l (opn l y d f) z true)]), rsl intEnc 1 le_n58 he_n58 (.slice (some ⟨x69, o70, none⟩) (endsI (thC l ((opn l y d f).sn) c)).length ec_n58) (endsI (thC l ((opn l y d f).sn) c)), rbox (w.heap.size + 1) 48 #[.int .i64 ((opn l y d f).bl), .int .i64 ((opn l y d f).wh), .int .i64 ((opn l y d f).we), .int .i64 ((opn l y d f).sn)], rbox w.heap.size 29 (froC l (.slice sa l.cov.length sc)), rsl covEnc 3 lo hi (.slice sa l.cov.length sc) l.cov] _ from (F88.drop 1 rfl)).name
        (try simp at hxs91)
        rw [hx90]
        clear hx90 F88
        go_wp2_with fail
        (first | refine ⟨by kernel_rfl, ?_, ?_⟩ | refine ⟨rfl, ?_, ?_⟩ | refine ⟨?_, ?_⟩)
        · rw [HI64.out]; exact ⟨j + 1, _, _, (by first | kernel_rfl | rfl), (by first | kernel_rfl | rfl), (by first | kernel_rfl | rfl), (by first | kernel_rfl | rfl), (by show Value.int .i64 ((j : Int) + 1) = _; simp), (by omega), (by simp; omega), (flat_snoc (f := fun n => [frT l (opn l y d f) n false, frT l (opn l y d f) n true]) HLO.out hz71.out), (by first | rfl | simp), (by first | omega | (simp; done) | (simp; omega)), F92⟩
        · simp [slot, intOf]; omega
      · skip
        have c68H := Lib.hid c68
        have c68a : decide ((j : Int) < ((endsI (thC l ((opn l y d f).sn) c)).length : Int)) = false := dec_f c68
        go_wp2_with fail
        exact bodyPost_ret (v := vo) (by simp [results, Try.results22, go_sem]) rfl (SlT.mk (hF65.at 0 rfl : Own truEnc 48 4 w.heap.size _ vo lo_) (by rw [daysI, if_neg (by omega), HLO.out, List.take_of_length_le (by omega)]) hF65.gb)
    case atStart18 =>
      rw [HI64.out]
      exact ⟨0, _, [], (by first | kernel_rfl | rfl), (by first | kernel_rfl | rfl), rfl, (by first | kernel_rfl | rfl), rfl, Nat.zero_le _, rfl, rfl, rfl, (by first | exact Nat.le_refl _ | omega | (simp; done) | (simp; omega)), (F63.drop 3 rfl)⟩

set_option maxHeartbeats 16000000 in
theorem picked_c (g n : Nat) (x0 x1 x2 x3 x4 x5 : Option Addr) (c0 lo0 hi0 c1 lo1 hi1 c2 lo2 hi2 c3 lo3 hi3 c4 lo4 hi4 c5 lo5 hi5 : Nat) (A0 A1 A2 A3 A4 A5 : List Int) (w : World)  (hB : Bk w g 22 #[.slice x0 A0.length c0, .slice x1 A1.length c1, .slice x2 A2.length c2, .slice x3 A3.length c3, .slice x4 A4.length c4, .slice x5 A5.length c5]) (hn : n ≤ 100000) (h0 : Sl intEnc 1 lo0 hi0 w (.slice x0 A0.length c0) A0) (t0 : hi0 ≤ w.heap.size) (p0 : 1 ≤ A0.length ∧ A0.length ≤ 4) (h1 : Sl intEnc 1 lo1 hi1 w (.slice x1 A1.length c1) A1) (t1 : hi1 ≤ w.heap.size) (p1 : 1 ≤ A1.length ∧ A1.length ≤ 4) (h2 : Sl intEnc 1 lo2 hi2 w (.slice x2 A2.length c2) A2) (t2 : hi2 ≤ w.heap.size) (p2 : 1 ≤ A2.length ∧ A2.length ≤ 4) (h3 : Sl intEnc 1 lo3 hi3 w (.slice x3 A3.length c3) A3) (t3 : hi3 ≤ w.heap.size) (p3 : 1 ≤ A3.length ∧ A3.length ≤ 4) (h4 : Sl intEnc 1 lo4 hi4 w (.slice x4 A4.length c4) A4) (t4 : hi4 ≤ w.heap.size) (p4 : 1 ≤ A4.length ∧ A4.length ≤ 4) (h5 : Sl intEnc 1 lo5 hi5 w (.slice x5 A5.length c5) A5) (t5 : hi5 ≤ w.heap.size) (p5 : 1 ≤ A5.length ∧ A5.length ≤ 4) :
    Calls Try.prog 21 #[.slice (some ⟨g, 0, none⟩) 6 6, .int .i64 (n : Int)] w (SlI (pkL [A0, A1, A2, A3, A4, A5] n) w) := by
  have F1 : Bun w [] w := Bun.nil _
  have F2 := F1.fix0 hB rfl
  clear F1
  clear hB
  have F3 := F2.sl0 h0 t0 rfl
  clear F2
  clear h0
  have F4 := F3.sl0 h1 t1 rfl
  clear F3
  clear h1
  have F5 := F4.sl0 h2 t2 rfl
  clear F4
  clear h2
  have F6 := F5.sl0 h3 t3 rfl
  clear F5
  clear h3
  have F7 := F6.sl0 h4 t4 rfl
  clear F6
  clear h4
  have F8 := F7.sl0 h5 t5 rfl
  clear F7
  clear h5
  obtain ⟨x9, o10, e_⟩ := Sl.addr (F8.at 5 rfl : Sl intEnc 1 lo0 hi0 _ (.slice x0 A0.length c0) A0) (by omega)
  subst e_
  obtain ⟨x11, o12, e_⟩ := Sl.addr (F8.at 4 rfl : Sl intEnc 1 lo1 hi1 _ (.slice x1 A1.length c1) A1) (by omega)
  subst e_
  obtain ⟨x13, o14, e_⟩ := Sl.addr (F8.at 3 rfl : Sl intEnc 1 lo2 hi2 _ (.slice x2 A2.length c2) A2) (by omega)
  subst e_
  obtain ⟨x15, o16, e_⟩ := Sl.addr (F8.at 2 rfl : Sl intEnc 1 lo3 hi3 _ (.slice x3 A3.length c3) A3) (by omega)
  subst e_
  obtain ⟨x17, o18, e_⟩ := Sl.addr (F8.at 1 rfl : Sl intEnc 1 lo4 hi4 _ (.slice x4 A4.length c4) A4) (by omega)
  subst e_
  obtain ⟨x19, o20, e_⟩ := Sl.addr (F8.at 0 rfl : Sl intEnc 1 lo5 hi5 _ (.slice x5 A5.length c5) A5) (by omega)
  subst e_
  have hne0 : ¬ A0 = [] := fun e => by rw [e] at p0; exact absurd p0.1 (by decide)
  have hne1 : ¬ A1 = [] := fun e => by rw [e] at p1; exact absurd p1.1 (by decide)
  have hne2 : ¬ A2 = [] := fun e => by rw [e] at p2; exact absurd p2.1 (by decide)
  have hne3 : ¬ A3 = [] := fun e => by rw [e] at p3; exact absurd p3.1 (by decide)
  have hne4 : ¬ A4 = [] := fun e => by rw [e] at p4; exact absurd p4.1 (by decide)
  have hne5 : ¬ A5 = [] := fun e => by rw [e] at p5; exact absurd p5.1 (by decide)
  have F21 := F8.nilrow intEnc 3 1
  clear F8
  go_enter Try.func21, Try.ntmps21
  go_wp2_with fail
  refine wp_loop_rounds 7 ?_
  rw [rounds_succ]
  obtain ⟨q0, hq_⟩ : ∃ q : Nat, q = n % A0.length := ⟨_, rfl⟩
  obtain ⟨n1, hn_⟩ : ∃ q : Nat, q = n / A0.length := ⟨_, rfl⟩
  have hql0 : q0 < A0.length := by rw [hq_]; exact Nat.mod_lt _ (by omega)
  have hnl0 : n1 ≤ n := by rw [hn_]; exact Nat.div_le_self _ _
  have hqt0 : Int.tmod (n : Int) (A0.length : Int) = (q0 : Int) := by rw [hq_]; rfl
  have hnt0 : Int.tdiv (n : Int) (A0.length : Int) = (n1 : Int) := by rw [hn_]; rfl
  have hwt0 : IntKind.i64.wrap (n1 : Int) = (n1 : Int) := IntWalk.i64_in _ (by omega)
  have HQ0 := Lib.hid hq_
  have HN0 := Lib.hid hn_
  clear hq_ hn_
  obtain ⟨z0, hz22_⟩ : ∃ z_, A0[q0]? = some z_ := ⟨_, List.getElem?_eq_getElem (by omega)⟩
  have hz22 := Lib.hid hz22_
  clear hz22_
  go_wp2_with fail
  have F23 := F21.drew
  clear F21
  refine ru_begin (fun W => W.cell? ⟨g, 0, none⟩ = some (.slice (some ⟨x9, o10, none⟩) A0.length c0) ∧ W.cell? ⟨x9, o10 + q0, none⟩ = some (.int .i64 z0)) 16 (by kernel_rfl) ?_ ?_
  · exact ⟨((F23.at 7 rfl : Bk _ g 22 #[.slice (some ⟨x9, o10, none⟩) A0.length c0, .slice (some ⟨x11, o12, none⟩) A1.length c1, .slice (some ⟨x13, o14, none⟩) A2.length c2, .slice (some ⟨x15, o16, none⟩) A3.length c3, .slice (some ⟨x17, o18, none⟩) A4.length c4, .slice (some ⟨x19, o20, none⟩) A5.length c5])).cell 0, (by have h_ := ((F23.at 6 rfl : Sl intEnc 1 lo0 hi0 _ (.slice (some ⟨x9, o10, none⟩) A0.length c0) A0)).cells hz22.out 0 _ rfl; simpa using h_)⟩
  obtain ⟨wd25, hwd_⟩ : ∃ x : World, w.drew = x := ⟨_, rfl⟩
  rw [hwd_] at F23 ⊢
  have wd25s : w.heap.size ≤ wd25.heap.size := by rw [← hwd_]; exact Nat.le_refl _
  clear hwd_
  have hS24 := (And.intro (((F23.at 7 rfl : Bk _ g 22 #[.slice (some ⟨x9, o10, none⟩) A0.length c0, .slice (some ⟨x11, o12, none⟩) A1.length c1, .slice (some ⟨x13, o14, none⟩) A2.length c2, .slice (some ⟨x15, o16, none⟩) A3.length c3, .slice (some ⟨x17, o18, none⟩) A4.length c4, .slice (some ⟨x19, o20, none⟩) A5.length c5])).cell 0) ((by have h_ := ((F23.at 6 rfl : Sl intEnc 1 lo0 hi0 _ (.slice (some ⟨x9, o10, none⟩) A0.length c0) A0)).cells hz22.out 0 _ rfl; simpa using h_)))
  refine ru_t 0 [] ?_
  refine ru_t 1 [] ?_
  refine ru_t 2 [] ?_
  refine ru_t 3 [] ?_
  refine ru_t 4 [] ?_
  refine ru_t 5 [] ?_
  refine ru_t 6 [] ?_
  refine ru_t 7 [] ?_
  refine ru_t 8 [] ?_
  refine ru_t 9 [] ?_
  refine ru_t 10 [] ?_
  refine ru_t 11 [] ?_
  refine ru_t 12 [] ?_
  refine ru_t 13 [] ?_
  (try simp only [Act.put, List.setIfInBounds_toArray, List.set_cons_zero, List.set_cons_succ])
  clear hS24
  refine ru_one 14 rfl (by kernel_rfl) (fun K hK => ?_)
  go_simp
  have F26 := F23.new 3 #[.int .i64 z0] (n := wd25.heap.size) (by simp)
  clear F23
  refine ru_back hK (by exact ⟨((F26.at 8 rfl : Bk _ g 22 #[.slice (some ⟨x9, o10, none⟩) A0.length c0, .slice (some ⟨x11, o12, none⟩) A1.length c1, .slice (some ⟨x13, o14, none⟩) A2.length c2, .slice (some ⟨x15, o16, none⟩) A3.length c3, .slice (some ⟨x17, o18, none⟩) A4.length c4, .slice (some ⟨x19, o20, none⟩) A5.length c5])).cell 0, (by have h_ := ((F26.at 7 rfl : Sl intEnc 1 lo0 hi0 _ (.slice (some ⟨x9, o10, none⟩) A0.length c0) A0)).cells hz22.out 0 _ rfl; simpa using h_)⟩) (fun hHeld => ?_)
  clear hK K
  (try simp only [Act.put, List.setIfInBounds_toArray, List.set_cons_zero, List.set_cons_succ])
  refine ru_one 15 rfl (by kernel_rfl) (fun K hK => ?_)
  refine step_app _ okInt rfl _ _ rfl w.heap.size (.slice none 0 0) [] [z0] rfl (by exact (F26.at 1 rfl : Own intEnc 3 1 w.heap.size _ (.slice none 0 0) [])) ⟨_, 0, none⟩ 1 1 rfl rfl (by decide) (news_of (F26.at 0 rfl : Bk _ wd25.heap.size 3 #[.int .i64 z0])) 1 (by rfl) (by omega) (by first | omega | (simp; omega)) _ rfl ?_
  intro g27 cap28 w29 hp30
  have hp30s := hp30.gb.size
  (try simp at hp30s)
  have F31 := (F26.front 1 rfl rfl).app hp30 (Nat.le_refl _)
  clear F26
  refine ru_back hK (by exact ⟨((F31.at 8 rfl : Bk _ g 22 #[.slice (some ⟨x9, o10, none⟩) A0.length c0, .slice (some ⟨x11, o12, none⟩) A1.length c1, .slice (some ⟨x13, o14, none⟩) A2.length c2, .slice (some ⟨x15, o16, none⟩) A3.length c3, .slice (some ⟨x17, o18, none⟩) A4.length c4, .slice (some ⟨x19, o20, none⟩) A5.length c5])).cell 0, (by have h_ := ((F31.at 7 rfl : Sl intEnc 1 lo0 hi0 _ (.slice (some ⟨x9, o10, none⟩) A0.length c0) A0)).cells hz22.out 0 _ rfl; simpa using h_)⟩) (fun hHeld => ?_)
  clear hK K
  (try simp only [Act.put, List.setIfInBounds_toArray, List.set_cons_zero, List.set_cons_succ])
  refine ru_one 16 rfl (by kernel_rfl) (fun K hK => ?_)
  go_simp
  refine ru_back_late hK (by kernel_rfl) ?_
  clear hK K
  (try simp only [Act.put, List.setIfInBounds_toArray, List.set_cons_zero, List.set_cons_succ])
  refine ru_done (by kernel_rfl) ?_
  obtain ⟨w32, hx33, F35, hxs34⟩ := (show Bun w [rown intEnc 3 1 w.heap.size (.slice (some ⟨g27, 0, none⟩) 1 cap28) ([] ++ [z0]), rsl intEnc 1 lo5 hi5 (.slice (some ⟨x19, o20, none⟩) A5.length c5) A5, rsl intEnc 1 lo4 hi4 (.slice (some ⟨x17, o18, none⟩) A4.length c4) A4, rsl intEnc 1 lo3 hi3 (.slice (some ⟨x15, o16, none⟩) A3.length c3) A3, rsl intEnc 1 lo2 hi2 (.slice (some ⟨x13, o14, none⟩) A2.length c2) A2, rsl intEnc 1 lo1 hi1 (.slice (some ⟨x11, o12, none⟩) A1.length c1) A1, rsl intEnc 1 lo0 hi0 (.slice (some ⟨x9, o10, none⟩) A0.length c0) A0, rfix g 22 #[.slice (some ⟨x9, o10, none⟩) A0.length c0, .slice (some ⟨x11, o12, none⟩) A1.length c1, .slice (some ⟨x13, o14, none⟩) A2.length c2, .slice (some ⟨x15, o16, none⟩) A3.length c3, .slice (some ⟨x17, o18, none⟩) A4.length c4, .slice (some ⟨x19, o20, none⟩) A5.length c5]] _ from (F31.drop 1 rfl)).name
  (try simp at hxs34)
  rw [hx33]
  clear hx33 F31
  have b36 := Bk.bx6 (F35.at 7 rfl : Bk _ g 22 #[.slice (some ⟨x9, o10, none⟩) A0.length c0, .slice (some ⟨x11, o12, none⟩) A1.length c1, .slice (some ⟨x13, o14, none⟩) A2.length c2, .slice (some ⟨x15, o16, none⟩) A3.length c3, .slice (some ⟨x17, o18, none⟩) A4.length c4, .slice (some ⟨x19, o20, none⟩) A5.length c5])
  go_wp2_with fail
  clear b36
  rw [rounds_succ]
  obtain ⟨q1, hq_⟩ : ∃ q : Nat, q = n1 % A1.length := ⟨_, rfl⟩
  obtain ⟨n2, hn_⟩ : ∃ q : Nat, q = n1 / A1.length := ⟨_, rfl⟩
  have hql1 : q1 < A1.length := by rw [hq_]; exact Nat.mod_lt _ (by omega)
  have hnl1 : n2 ≤ n1 := by rw [hn_]; exact Nat.div_le_self _ _
  have hqt1 : Int.tmod (n1 : Int) (A1.length : Int) = (q1 : Int) := by rw [hq_]; rfl
  have hnt1 : Int.tdiv (n1 : Int) (A1.length : Int) = (n2 : Int) := by rw [hn_]; rfl
  have hwt1 : IntKind.i64.wrap (n2 : Int) = (n2 : Int) := IntWalk.i64_in _ (by omega)
  have HQ1 := Lib.hid hq_
  have HN1 := Lib.hid hn_
  clear hq_ hn_
  obtain ⟨z1, hz37_⟩ : ∃ z_, A1[q1]? = some z_ := ⟨_, List.getElem?_eq_getElem (by omega)⟩
  have hz37 := Lib.hid hz37_
  clear hz37_
  go_wp2_with fail
  have F38 := F35.drew
  clear F35
  refine ru_begin (fun W => W.cell? ⟨g, 1, none⟩ = some (.slice (some ⟨x11, o12, none⟩) A1.length c1) ∧ W.cell? ⟨x11, o12 + q1, none⟩ = some (.int .i64 z1)) 16 (by kernel_rfl) ?_ ?_
  · exact ⟨((F38.at 7 rfl : Bk _ g 22 #[.slice (some ⟨x9, o10, none⟩) A0.length c0, .slice (some ⟨x11, o12, none⟩) A1.length c1, .slice (some ⟨x13, o14, none⟩) A2.length c2, .slice (some ⟨x15, o16, none⟩) A3.length c3, .slice (some ⟨x17, o18, none⟩) A4.length c4, .slice (some ⟨x19, o20, none⟩) A5.length c5])).cell 1, (by have h_ := ((F38.at 5 rfl : Sl intEnc 1 lo1 hi1 _ (.slice (some ⟨x11, o12, none⟩) A1.length c1) A1)).cells hz37.out 0 _ rfl; simpa using h_)⟩
  obtain ⟨wd40, hwd_⟩ : ∃ x : World, w32.drew = x := ⟨_, rfl⟩
  rw [hwd_] at F38 ⊢
  have wd40s : w32.heap.size ≤ wd40.heap.size := by rw [← hwd_]; exact Nat.le_refl _
  clear hwd_
  have hS39 := (And.intro (((F38.at 7 rfl : Bk _ g 22 #[.slice (some ⟨x9, o10, none⟩) A0.length c0, .slice (some ⟨x11, o12, none⟩) A1.length c1, .slice (some ⟨x13, o14, none⟩) A2.length c2, .slice (some ⟨x15, o16, none⟩) A3.length c3, .slice (some ⟨x17, o18, none⟩) A4.length c4, .slice (some ⟨x19, o20, none⟩) A5.length c5])).cell 1) ((by have h_ := ((F38.at 5 rfl : Sl intEnc 1 lo1 hi1 _ (.slice (some ⟨x11, o12, none⟩) A1.length c1) A1)).cells hz37.out 0 _ rfl; simpa using h_)))
  refine ru_t 0 [] ?_
  refine ru_t 1 [] ?_
  refine ru_t 2 [] ?_
  refine ru_t 3 [] ?_
  refine ru_t 4 [] ?_
  refine ru_t 5 [] ?_
  refine ru_t 6 [] ?_
  refine ru_t 7 [] ?_
  refine ru_t 8 [] ?_
  refine ru_t 9 [] ?_
  refine ru_t 10 [] ?_
  refine ru_t 11 [] ?_
  refine ru_t 12 [] ?_
  refine ru_t 13 [] ?_
  (try simp only [Act.put, List.setIfInBounds_toArray, List.set_cons_zero, List.set_cons_succ])
  clear hS39
  refine ru_one 14 rfl (by kernel_rfl) (fun K hK => ?_)
  go_simp
  have F41 := F38.new 3 #[.int .i64 z1] (n := wd40.heap.size) (by simp)
  clear F38
  refine ru_back hK (by exact ⟨((F41.at 8 rfl : Bk _ g 22 #[.slice (some ⟨x9, o10, none⟩) A0.length c0, .slice (some ⟨x11, o12, none⟩) A1.length c1, .slice (some ⟨x13, o14, none⟩) A2.length c2, .slice (some ⟨x15, o16, none⟩) A3.length c3, .slice (some ⟨x17, o18, none⟩) A4.length c4, .slice (some ⟨x19, o20, none⟩) A5.length c5])).cell 1, (by have h_ := ((F41.at 6 rfl : Sl intEnc 1 lo1 hi1 _ (.slice (some ⟨x11, o12, none⟩) A1.length c1) A1)).cells hz37.out 0 _ rfl; simpa using h_)⟩) (fun hHeld => ?_)
  clear hK K
  (try simp only [Act.put, List.setIfInBounds_toArray, List.set_cons_zero, List.set_cons_succ])
  refine ru_one 15 rfl (by kernel_rfl) (fun K hK => ?_)
  refine step_app _ okInt rfl _ _ rfl w.heap.size (.slice (some ⟨g27, 0, none⟩) 1 cap28) ([] ++ [z0]) [z1] rfl (by exact (F41.at 1 rfl : Own intEnc 3 1 w.heap.size _ (.slice (some ⟨g27, 0, none⟩) 1 cap28) ([] ++ [z0]))) ⟨_, 0, none⟩ 1 1 rfl rfl (by decide) (news_of (F41.at 0 rfl : Bk _ wd40.heap.size 3 #[.int .i64 z1])) 2 (by rfl) (by omega) (by first | omega | (simp; omega)) _ rfl ?_
  intro g42 cap43 w44 hp45
  have hp45s := hp45.gb.size
  (try simp at hp45s)
  have F46 := (F41.front 1 rfl rfl).app hp45 (Nat.le_refl _)
  clear F41
  refine ru_back hK (by exact ⟨((F46.at 8 rfl : Bk _ g 22 #[.slice (some ⟨x9, o10, none⟩) A0.length c0, .slice (some ⟨x11, o12, none⟩) A1.length c1, .slice (some ⟨x13, o14, none⟩) A2.length c2, .slice (some ⟨x15, o16, none⟩) A3.length c3, .slice (some ⟨x17, o18, none⟩) A4.length c4, .slice (some ⟨x19, o20, none⟩) A5.length c5])).cell 1, (by have h_ := ((F46.at 6 rfl : Sl intEnc 1 lo1 hi1 _ (.slice (some ⟨x11, o12, none⟩) A1.length c1) A1)).cells hz37.out 0 _ rfl; simpa using h_)⟩) (fun hHeld => ?_)
  clear hK K
  (try simp only [Act.put, List.setIfInBounds_toArray, List.set_cons_zero, List.set_cons_succ])
  refine ru_one 16 rfl (by kernel_rfl) (fun K hK => ?_)
  go_simp
  refine ru_back_late hK (by kernel_rfl) ?_
  clear hK K
  (try simp only [Act.put, List.setIfInBounds_toArray, List.set_cons_zero, List.set_cons_succ])
  refine ru_done (by kernel_rfl) ?_
  obtain ⟨w47, hx48, F50, hxs49⟩ := (show Bun w [rown intEnc 3 1 w.heap.size (.slice (some ⟨g42, 0, none⟩) 2 cap43) ([] ++ [z0] ++ [z1]), rsl intEnc 1 lo5 hi5 (.slice (some ⟨x19, o20, none⟩) A5.length c5) A5, rsl intEnc 1 lo4 hi4 (.slice (some ⟨x17, o18, none⟩) A4.length c4) A4, rsl intEnc 1 lo3 hi3 (.slice (some ⟨x15, o16, none⟩) A3.length c3) A3, rsl intEnc 1 lo2 hi2 (.slice (some ⟨x13, o14, none⟩) A2.length c2) A2, rsl intEnc 1 lo1 hi1 (.slice (some ⟨x11, o12, none⟩) A1.length c1) A1, rsl intEnc 1 lo0 hi0 (.slice (some ⟨x9, o10, none⟩) A0.length c0) A0, rfix g 22 #[.slice (some ⟨x9, o10, none⟩) A0.length c0, .slice (some ⟨x11, o12, none⟩) A1.length c1, .slice (some ⟨x13, o14, none⟩) A2.length c2, .slice (some ⟨x15, o16, none⟩) A3.length c3, .slice (some ⟨x17, o18, none⟩) A4.length c4, .slice (some ⟨x19, o20, none⟩) A5.length c5]] _ from (F46.drop 1 rfl)).name
  (try simp at hxs49)
  rw [hx48]
  clear hx48 F46
  have b51 := Bk.bx6 (F50.at 7 rfl : Bk _ g 22 #[.slice (some ⟨x9, o10, none⟩) A0.length c0, .slice (some ⟨x11, o12, none⟩) A1.length c1, .slice (some ⟨x13, o14, none⟩) A2.length c2, .slice (some ⟨x15, o16, none⟩) A3.length c3, .slice (some ⟨x17, o18, none⟩) A4.length c4, .slice (some ⟨x19, o20, none⟩) A5.length c5])
  go_wp2_with fail
  clear b51
  rw [rounds_succ]
  obtain ⟨q2, hq_⟩ : ∃ q : Nat, q = n2 % A2.length := ⟨_, rfl⟩
  obtain ⟨n3, hn_⟩ : ∃ q : Nat, q = n2 / A2.length := ⟨_, rfl⟩
  have hql2 : q2 < A2.length := by rw [hq_]; exact Nat.mod_lt _ (by omega)
  have hnl2 : n3 ≤ n2 := by rw [hn_]; exact Nat.div_le_self _ _
  have hqt2 : Int.tmod (n2 : Int) (A2.length : Int) = (q2 : Int) := by rw [hq_]; rfl
  have hnt2 : Int.tdiv (n2 : Int) (A2.length : Int) = (n3 : Int) := by rw [hn_]; rfl
  have hwt2 : IntKind.i64.wrap (n3 : Int) = (n3 : Int) := IntWalk.i64_in _ (by omega)
  have HQ2 := Lib.hid hq_
  have HN2 := Lib.hid hn_
  clear hq_ hn_
  obtain ⟨z2, hz52_⟩ : ∃ z_, A2[q2]? = some z_ := ⟨_, List.getElem?_eq_getElem (by omega)⟩
  have hz52 := Lib.hid hz52_
  clear hz52_
  go_wp2_with fail
  have F53 := F50.drew
  clear F50
  refine ru_begin (fun W => W.cell? ⟨g, 2, none⟩ = some (.slice (some ⟨x13, o14, none⟩) A2.length c2) ∧ W.cell? ⟨x13, o14 + q2, none⟩ = some (.int .i64 z2)) 16 (by kernel_rfl) ?_ ?_
  · exact ⟨((F53.at 7 rfl : Bk _ g 22 #[.slice (some ⟨x9, o10, none⟩) A0.length c0, .slice (some ⟨x11, o12, none⟩) A1.length c1, .slice (some ⟨x13, o14, none⟩) A2.length c2, .slice (some ⟨x15, o16, none⟩) A3.length c3, .slice (some ⟨x17, o18, none⟩) A4.length c4, .slice (some ⟨x19, o20, none⟩) A5.length c5])).cell 2, (by have h_ := ((F53.at 4 rfl : Sl intEnc 1 lo2 hi2 _ (.slice (some ⟨x13, o14, none⟩) A2.length c2) A2)).cells hz52.out 0 _ rfl; simpa using h_)⟩
  obtain ⟨wd55, hwd_⟩ : ∃ x : World, w47.drew = x := ⟨_, rfl⟩
  rw [hwd_] at F53 ⊢
  have wd55s : w47.heap.size ≤ wd55.heap.size := by rw [← hwd_]; exact Nat.le_refl _
  clear hwd_
  have hS54 := (And.intro (((F53.at 7 rfl : Bk _ g 22 #[.slice (some ⟨x9, o10, none⟩) A0.length c0, .slice (some ⟨x11, o12, none⟩) A1.length c1, .slice (some ⟨x13, o14, none⟩) A2.length c2, .slice (some ⟨x15, o16, none⟩) A3.length c3, .slice (some ⟨x17, o18, none⟩) A4.length c4, .slice (some ⟨x19, o20, none⟩) A5.length c5])).cell 2) ((by have h_ := ((F53.at 4 rfl : Sl intEnc 1 lo2 hi2 _ (.slice (some ⟨x13, o14, none⟩) A2.length c2) A2)).cells hz52.out 0 _ rfl; simpa using h_)))
  refine ru_t 0 [] ?_
  refine ru_t 1 [] ?_
  refine ru_t 2 [] ?_
  refine ru_t 3 [] ?_
  refine ru_t 4 [] ?_
  refine ru_t 5 [] ?_
  refine ru_t 6 [] ?_
  refine ru_t 7 [] ?_
  refine ru_t 8 [] ?_
  refine ru_t 9 [] ?_
  refine ru_t 10 [] ?_
  refine ru_t 11 [] ?_
  refine ru_t 12 [] ?_
  refine ru_t 13 [] ?_
  (try simp only [Act.put, List.setIfInBounds_toArray, List.set_cons_zero, List.set_cons_succ])
  clear hS54
  refine ru_one 14 rfl (by kernel_rfl) (fun K hK => ?_)
  go_simp
  have F56 := F53.new 3 #[.int .i64 z2] (n := wd55.heap.size) (by simp)
  clear F53
  refine ru_back hK (by exact ⟨((F56.at 8 rfl : Bk _ g 22 #[.slice (some ⟨x9, o10, none⟩) A0.length c0, .slice (some ⟨x11, o12, none⟩) A1.length c1, .slice (some ⟨x13, o14, none⟩) A2.length c2, .slice (some ⟨x15, o16, none⟩) A3.length c3, .slice (some ⟨x17, o18, none⟩) A4.length c4, .slice (some ⟨x19, o20, none⟩) A5.length c5])).cell 2, (by have h_ := ((F56.at 5 rfl : Sl intEnc 1 lo2 hi2 _ (.slice (some ⟨x13, o14, none⟩) A2.length c2) A2)).cells hz52.out 0 _ rfl; simpa using h_)⟩) (fun hHeld => ?_)
  clear hK K
  (try simp only [Act.put, List.setIfInBounds_toArray, List.set_cons_zero, List.set_cons_succ])
  refine ru_one 15 rfl (by kernel_rfl) (fun K hK => ?_)
  refine step_app _ okInt rfl _ _ rfl w.heap.size (.slice (some ⟨g42, 0, none⟩) 2 cap43) ([] ++ [z0] ++ [z1]) [z2] rfl (by exact (F56.at 1 rfl : Own intEnc 3 1 w.heap.size _ (.slice (some ⟨g42, 0, none⟩) 2 cap43) ([] ++ [z0] ++ [z1]))) ⟨_, 0, none⟩ 1 1 rfl rfl (by decide) (news_of (F56.at 0 rfl : Bk _ wd55.heap.size 3 #[.int .i64 z2])) 3 (by rfl) (by omega) (by first | omega | (simp; omega)) _ rfl ?_
  intro g57 cap58 w59 hp60
  have hp60s := hp60.gb.size
  (try simp at hp60s)
  have F61 := (F56.front 1 rfl rfl).app hp60 (Nat.le_refl _)
  clear F56
  refine ru_back hK (by exact ⟨((F61.at 8 rfl : Bk _ g 22 #[.slice (some ⟨x9, o10, none⟩) A0.length c0, .slice (some ⟨x11, o12, none⟩) A1.length c1, .slice (some ⟨x13, o14, none⟩) A2.length c2, .slice (some ⟨x15, o16, none⟩) A3.length c3, .slice (some ⟨x17, o18, none⟩) A4.length c4, .slice (some ⟨x19, o20, none⟩) A5.length c5])).cell 2, (by have h_ := ((F61.at 5 rfl : Sl intEnc 1 lo2 hi2 _ (.slice (some ⟨x13, o14, none⟩) A2.length c2) A2)).cells hz52.out 0 _ rfl; simpa using h_)⟩) (fun hHeld => ?_)
  clear hK K
  (try simp only [Act.put, List.setIfInBounds_toArray, List.set_cons_zero, List.set_cons_succ])
  refine ru_one 16 rfl (by kernel_rfl) (fun K hK => ?_)
  go_simp
  refine ru_back_late hK (by kernel_rfl) ?_
  clear hK K
  (try simp only [Act.put, List.setIfInBounds_toArray, List.set_cons_zero, List.set_cons_succ])
  refine ru_done (by kernel_rfl) ?_
  obtain ⟨w62, hx63, F65, hxs64⟩ := (show Bun w [rown intEnc 3 1 w.heap.size (.slice (some ⟨g57, 0, none⟩) 3 cap58) ([] ++ [z0] ++ [z1] ++ [z2]), rsl intEnc 1 lo5 hi5 (.slice (some ⟨x19, o20, none⟩) A5.length c5) A5, rsl intEnc 1 lo4 hi4 (.slice (some ⟨x17, o18, none⟩) A4.length c4) A4, rsl intEnc 1 lo3 hi3 (.slice (some ⟨x15, o16, none⟩) A3.length c3) A3, rsl intEnc 1 lo2 hi2 (.slice (some ⟨x13, o14, none⟩) A2.length c2) A2, rsl intEnc 1 lo1 hi1 (.slice (some ⟨x11, o12, none⟩) A1.length c1) A1, rsl intEnc 1 lo0 hi0 (.slice (some ⟨x9, o10, none⟩) A0.length c0) A0, rfix g 22 #[.slice (some ⟨x9, o10, none⟩) A0.length c0, .slice (some ⟨x11, o12, none⟩) A1.length c1, .slice (some ⟨x13, o14, none⟩) A2.length c2, .slice (some ⟨x15, o16, none⟩) A3.length c3, .slice (some ⟨x17, o18, none⟩) A4.length c4, .slice (some ⟨x19, o20, none⟩) A5.length c5]] _ from (F61.drop 1 rfl)).name
  (try simp at hxs64)
  rw [hx63]
  clear hx63 F61
  have b66 := Bk.bx6 (F65.at 7 rfl : Bk _ g 22 #[.slice (some ⟨x9, o10, none⟩) A0.length c0, .slice (some ⟨x11, o12, none⟩) A1.length c1, .slice (some ⟨x13, o14, none⟩) A2.length c2, .slice (some ⟨x15, o16, none⟩) A3.length c3, .slice (some ⟨x17, o18, none⟩) A4.length c4, .slice (some ⟨x19, o20, none⟩) A5.length c5])
  go_wp2_with fail
  clear b66
  rw [rounds_succ]
  obtain ⟨q3, hq_⟩ : ∃ q : Nat, q = n3 % A3.length := ⟨_, rfl⟩
  obtain ⟨n4, hn_⟩ : ∃ q : Nat, q = n3 / A3.length := ⟨_, rfl⟩
  have hql3 : q3 < A3.length := by rw [hq_]; exact Nat.mod_lt _ (by omega)
  have hnl3 : n4 ≤ n3 := by rw [hn_]; exact Nat.div_le_self _ _
  have hqt3 : Int.tmod (n3 : Int) (A3.length : Int) = (q3 : Int) := by rw [hq_]; rfl
  have hnt3 : Int.tdiv (n3 : Int) (A3.length : Int) = (n4 : Int) := by rw [hn_]; rfl
  have hwt3 : IntKind.i64.wrap (n4 : Int) = (n4 : Int) := IntWalk.i64_in _ (by omega)
  have HQ3 := Lib.hid hq_
  have HN3 := Lib.hid hn_
  clear hq_ hn_
  obtain ⟨z3, hz67_⟩ : ∃ z_, A3[q3]? = some z_ := ⟨_, List.getElem?_eq_getElem (by omega)⟩
  have hz67 := Lib.hid hz67_
  clear hz67_
  go_wp2_with fail
  have F68 := F65.drew
  clear F65
  refine ru_begin (fun W => W.cell? ⟨g, 3, none⟩ = some (.slice (some ⟨x15, o16, none⟩) A3.length c3) ∧ W.cell? ⟨x15, o16 + q3, none⟩ = some (.int .i64 z3)) 16 (by kernel_rfl) ?_ ?_
  · exact ⟨((F68.at 7 rfl : Bk _ g 22 #[.slice (some ⟨x9, o10, none⟩) A0.length c0, .slice (some ⟨x11, o12, none⟩) A1.length c1, .slice (some ⟨x13, o14, none⟩) A2.length c2, .slice (some ⟨x15, o16, none⟩) A3.length c3, .slice (some ⟨x17, o18, none⟩) A4.length c4, .slice (some ⟨x19, o20, none⟩) A5.length c5])).cell 3, (by have h_ := ((F68.at 3 rfl : Sl intEnc 1 lo3 hi3 _ (.slice (some ⟨x15, o16, none⟩) A3.length c3) A3)).cells hz67.out 0 _ rfl; simpa using h_)⟩
  obtain ⟨wd70, hwd_⟩ : ∃ x : World, w62.drew = x := ⟨_, rfl⟩
  rw [hwd_] at F68 ⊢
  have wd70s : w62.heap.size ≤ wd70.heap.size := by rw [← hwd_]; exact Nat.le_refl _
  clear hwd_
  have hS69 := (And.intro (((F68.at 7 rfl : Bk _ g 22 #[.slice (some ⟨x9, o10, none⟩) A0.length c0, .slice (some ⟨x11, o12, none⟩) A1.length c1, .slice (some ⟨x13, o14, none⟩) A2.length c2, .slice (some ⟨x15, o16, none⟩) A3.length c3, .slice (some ⟨x17, o18, none⟩) A4.length c4, .slice (some ⟨x19, o20, none⟩) A5.length c5])).cell 3) ((by have h_ := ((F68.at 3 rfl : Sl intEnc 1 lo3 hi3 _ (.slice (some ⟨x15, o16, none⟩) A3.length c3) A3)).cells hz67.out 0 _ rfl; simpa using h_)))
  refine ru_t 0 [] ?_
  refine ru_t 1 [] ?_
  refine ru_t 2 [] ?_
  refine ru_t 3 [] ?_
  refine ru_t 4 [] ?_
  refine ru_t 5 [] ?_
  refine ru_t 6 [] ?_
  refine ru_t 7 [] ?_
  refine ru_t 8 [] ?_
  refine ru_t 9 [] ?_
  refine ru_t 10 [] ?_
  refine ru_t 11 [] ?_
  refine ru_t 12 [] ?_
  refine ru_t 13 [] ?_
  (try simp only [Act.put, List.setIfInBounds_toArray, List.set_cons_zero, List.set_cons_succ])
  clear hS69
  refine ru_one 14 rfl (by kernel_rfl) (fun K hK => ?_)
  go_simp
  have F71 := F68.new 3 #[.int .i64 z3] (n := wd70.heap.size) (by simp)
  clear F68
  refine ru_back hK (by exact ⟨((F71.at 8 rfl : Bk _ g 22 #[.slice (some ⟨x9, o10, none⟩) A0.length c0, .slice (some ⟨x11, o12, none⟩) A1.length c1, .slice (some ⟨x13, o14, none⟩) A2.length c2, .slice (some ⟨x15, o16, none⟩) A3.length c3, .slice (some ⟨x17, o18, none⟩) A4.length c4, .slice (some ⟨x19, o20, none⟩) A5.length c5])).cell 3, (by have h_ := ((F71.at 4 rfl : Sl intEnc 1 lo3 hi3 _ (.slice (some ⟨x15, o16, none⟩) A3.length c3) A3)).cells hz67.out 0 _ rfl; simpa using h_)⟩) (fun hHeld => ?_)
  clear hK K
  (try simp only [Act.put, List.setIfInBounds_toArray, List.set_cons_zero, List.set_cons_succ])
  refine ru_one 15 rfl (by kernel_rfl) (fun K hK => ?_)
  refine step_app _ okInt rfl _ _ rfl w.heap.size (.slice (some ⟨g57, 0, none⟩) 3 cap58) ([] ++ [z0] ++ [z1] ++ [z2]) [z3] rfl (by exact (F71.at 1 rfl : Own intEnc 3 1 w.heap.size _ (.slice (some ⟨g57, 0, none⟩) 3 cap58) ([] ++ [z0] ++ [z1] ++ [z2]))) ⟨_, 0, none⟩ 1 1 rfl rfl (by decide) (news_of (F71.at 0 rfl : Bk _ wd70.heap.size 3 #[.int .i64 z3])) 4 (by rfl) (by omega) (by first | omega | (simp; omega)) _ rfl ?_
  intro g72 cap73 w74 hp75
  have hp75s := hp75.gb.size
  (try simp at hp75s)
  have F76 := (F71.front 1 rfl rfl).app hp75 (Nat.le_refl _)
  clear F71
  refine ru_back hK (by exact ⟨((F76.at 8 rfl : Bk _ g 22 #[.slice (some ⟨x9, o10, none⟩) A0.length c0, .slice (some ⟨x11, o12, none⟩) A1.length c1, .slice (some ⟨x13, o14, none⟩) A2.length c2, .slice (some ⟨x15, o16, none⟩) A3.length c3, .slice (some ⟨x17, o18, none⟩) A4.length c4, .slice (some ⟨x19, o20, none⟩) A5.length c5])).cell 3, (by have h_ := ((F76.at 4 rfl : Sl intEnc 1 lo3 hi3 _ (.slice (some ⟨x15, o16, none⟩) A3.length c3) A3)).cells hz67.out 0 _ rfl; simpa using h_)⟩) (fun hHeld => ?_)
  clear hK K
  (try simp only [Act.put, List.setIfInBounds_toArray, List.set_cons_zero, List.set_cons_succ])
  refine ru_one 16 rfl (by kernel_rfl) (fun K hK => ?_)
  go_simp
  refine ru_back_late hK (by kernel_rfl) ?_
  clear hK K
  (try simp only [Act.put, List.setIfInBounds_toArray, List.set_cons_zero, List.set_cons_succ])
  refine ru_done (by kernel_rfl) ?_
  obtain ⟨w77, hx78, F80, hxs79⟩ := (show Bun w [rown intEnc 3 1 w.heap.size (.slice (some ⟨g72, 0, none⟩) 4 cap73) ([] ++ [z0] ++ [z1] ++ [z2] ++ [z3]), rsl intEnc 1 lo5 hi5 (.slice (some ⟨x19, o20, none⟩) A5.length c5) A5, rsl intEnc 1 lo4 hi4 (.slice (some ⟨x17, o18, none⟩) A4.length c4) A4, rsl intEnc 1 lo3 hi3 (.slice (some ⟨x15, o16, none⟩) A3.length c3) A3, rsl intEnc 1 lo2 hi2 (.slice (some ⟨x13, o14, none⟩) A2.length c2) A2, rsl intEnc 1 lo1 hi1 (.slice (some ⟨x11, o12, none⟩) A1.length c1) A1, rsl intEnc 1 lo0 hi0 (.slice (some ⟨x9, o10, none⟩) A0.length c0) A0, rfix g 22 #[.slice (some ⟨x9, o10, none⟩) A0.length c0, .slice (some ⟨x11, o12, none⟩) A1.length c1, .slice (some ⟨x13, o14, none⟩) A2.length c2, .slice (some ⟨x15, o16, none⟩) A3.length c3, .slice (some ⟨x17, o18, none⟩) A4.length c4, .slice (some ⟨x19, o20, none⟩) A5.length c5]] _ from (F76.drop 1 rfl)).name
  (try simp at hxs79)
  rw [hx78]
  clear hx78 F76
  have b81 := Bk.bx6 (F80.at 7 rfl : Bk _ g 22 #[.slice (some ⟨x9, o10, none⟩) A0.length c0, .slice (some ⟨x11, o12, none⟩) A1.length c1, .slice (some ⟨x13, o14, none⟩) A2.length c2, .slice (some ⟨x15, o16, none⟩) A3.length c3, .slice (some ⟨x17, o18, none⟩) A4.length c4, .slice (some ⟨x19, o20, none⟩) A5.length c5])
  go_wp2_with fail
  clear b81
  rw [rounds_succ]
  obtain ⟨q4, hq_⟩ : ∃ q : Nat, q = n4 % A4.length := ⟨_, rfl⟩
  obtain ⟨n5, hn_⟩ : ∃ q : Nat, q = n4 / A4.length := ⟨_, rfl⟩
  have hql4 : q4 < A4.length := by rw [hq_]; exact Nat.mod_lt _ (by omega)
  have hnl4 : n5 ≤ n4 := by rw [hn_]; exact Nat.div_le_self _ _
  have hqt4 : Int.tmod (n4 : Int) (A4.length : Int) = (q4 : Int) := by rw [hq_]; rfl
  have hnt4 : Int.tdiv (n4 : Int) (A4.length : Int) = (n5 : Int) := by rw [hn_]; rfl
  have hwt4 : IntKind.i64.wrap (n5 : Int) = (n5 : Int) := IntWalk.i64_in _ (by omega)
  have HQ4 := Lib.hid hq_
  have HN4 := Lib.hid hn_
  clear hq_ hn_
  obtain ⟨z4, hz82_⟩ : ∃ z_, A4[q4]? = some z_ := ⟨_, List.getElem?_eq_getElem (by omega)⟩
  have hz82 := Lib.hid hz82_
  clear hz82_
  go_wp2_with fail
  have F83 := F80.drew
  clear F80
  refine ru_begin (fun W => W.cell? ⟨g, 4, none⟩ = some (.slice (some ⟨x17, o18, none⟩) A4.length c4) ∧ W.cell? ⟨x17, o18 + q4, none⟩ = some (.int .i64 z4)) 16 (by kernel_rfl) ?_ ?_
  · exact ⟨((F83.at 7 rfl : Bk _ g 22 #[.slice (some ⟨x9, o10, none⟩) A0.length c0, .slice (some ⟨x11, o12, none⟩) A1.length c1, .slice (some ⟨x13, o14, none⟩) A2.length c2, .slice (some ⟨x15, o16, none⟩) A3.length c3, .slice (some ⟨x17, o18, none⟩) A4.length c4, .slice (some ⟨x19, o20, none⟩) A5.length c5])).cell 4, (by have h_ := ((F83.at 2 rfl : Sl intEnc 1 lo4 hi4 _ (.slice (some ⟨x17, o18, none⟩) A4.length c4) A4)).cells hz82.out 0 _ rfl; simpa using h_)⟩
  obtain ⟨wd85, hwd_⟩ : ∃ x : World, w77.drew = x := ⟨_, rfl⟩
  rw [hwd_] at F83 ⊢
  have wd85s : w77.heap.size ≤ wd85.heap.size := by rw [← hwd_]; exact Nat.le_refl _
  clear hwd_
  have hS84 := (And.intro (((F83.at 7 rfl : Bk _ g 22 #[.slice (some ⟨x9, o10, none⟩) A0.length c0, .slice (some ⟨x11, o12, none⟩) A1.length c1, .slice (some ⟨x13, o14, none⟩) A2.length c2, .slice (some ⟨x15, o16, none⟩) A3.length c3, .slice (some ⟨x17, o18, none⟩) A4.length c4, .slice (some ⟨x19, o20, none⟩) A5.length c5])).cell 4) ((by have h_ := ((F83.at 2 rfl : Sl intEnc 1 lo4 hi4 _ (.slice (some ⟨x17, o18, none⟩) A4.length c4) A4)).cells hz82.out 0 _ rfl; simpa using h_)))
  refine ru_t 0 [] ?_
  refine ru_t 1 [] ?_
  refine ru_t 2 [] ?_
  refine ru_t 3 [] ?_
  refine ru_t 4 [] ?_
  refine ru_t 5 [] ?_
  refine ru_t 6 [] ?_
  refine ru_t 7 [] ?_
  refine ru_t 8 [] ?_
  refine ru_t 9 [] ?_
  refine ru_t 10 [] ?_
  refine ru_t 11 [] ?_
  refine ru_t 12 [] ?_
  refine ru_t 13 [] ?_
  (try simp only [Act.put, List.setIfInBounds_toArray, List.set_cons_zero, List.set_cons_succ])
  clear hS84
  refine ru_one 14 rfl (by kernel_rfl) (fun K hK => ?_)
  go_simp
  have F86 := F83.new 3 #[.int .i64 z4] (n := wd85.heap.size) (by simp)
  clear F83
  refine ru_back hK (by exact ⟨((F86.at 8 rfl : Bk _ g 22 #[.slice (some ⟨x9, o10, none⟩) A0.length c0, .slice (some ⟨x11, o12, none⟩) A1.length c1, .slice (some ⟨x13, o14, none⟩) A2.length c2, .slice (some ⟨x15, o16, none⟩) A3.length c3, .slice (some ⟨x17, o18, none⟩) A4.length c4, .slice (some ⟨x19, o20, none⟩) A5.length c5])).cell 4, (by have h_ := ((F86.at 3 rfl : Sl intEnc 1 lo4 hi4 _ (.slice (some ⟨x17, o18, none⟩) A4.length c4) A4)).cells hz82.out 0 _ rfl; simpa using h_)⟩) (fun hHeld => ?_)
  clear hK K
  (try simp only [Act.put, List.setIfInBounds_toArray, List.set_cons_zero, List.set_cons_succ])
  refine ru_one 15 rfl (by kernel_rfl) (fun K hK => ?_)
  refine step_app _ okInt rfl _ _ rfl w.heap.size (.slice (some ⟨g72, 0, none⟩) 4 cap73) ([] ++ [z0] ++ [z1] ++ [z2] ++ [z3]) [z4] rfl (by exact (F86.at 1 rfl : Own intEnc 3 1 w.heap.size _ (.slice (some ⟨g72, 0, none⟩) 4 cap73) ([] ++ [z0] ++ [z1] ++ [z2] ++ [z3]))) ⟨_, 0, none⟩ 1 1 rfl rfl (by decide) (news_of (F86.at 0 rfl : Bk _ wd85.heap.size 3 #[.int .i64 z4])) 5 (by rfl) (by omega) (by first | omega | (simp; omega)) _ rfl ?_
  intro g87 cap88 w89 hp90
  have hp90s := hp90.gb.size
  (try simp at hp90s)
  have F91 := (F86.front 1 rfl rfl).app hp90 (Nat.le_refl _)
  clear F86
  refine ru_back hK (by exact ⟨((F91.at 8 rfl : Bk _ g 22 #[.slice (some ⟨x9, o10, none⟩) A0.length c0, .slice (some ⟨x11, o12, none⟩) A1.length c1, .slice (some ⟨x13, o14, none⟩) A2.length c2, .slice (some ⟨x15, o16, none⟩) A3.length c3, .slice (some ⟨x17, o18, none⟩) A4.length c4, .slice (some ⟨x19, o20, none⟩) A5.length c5])).cell 4, (by have h_ := ((F91.at 3 rfl : Sl intEnc 1 lo4 hi4 _ (.slice (some ⟨x17, o18, none⟩) A4.length c4) A4)).cells hz82.out 0 _ rfl; simpa using h_)⟩) (fun hHeld => ?_)
  clear hK K
  (try simp only [Act.put, List.setIfInBounds_toArray, List.set_cons_zero, List.set_cons_succ])
  refine ru_one 16 rfl (by kernel_rfl) (fun K hK => ?_)
  go_simp
  refine ru_back_late hK (by kernel_rfl) ?_
  clear hK K
  (try simp only [Act.put, List.setIfInBounds_toArray, List.set_cons_zero, List.set_cons_succ])
  refine ru_done (by kernel_rfl) ?_
  obtain ⟨w92, hx93, F95, hxs94⟩ := (show Bun w [rown intEnc 3 1 w.heap.size (.slice (some ⟨g87, 0, none⟩) 5 cap88) ([] ++ [z0] ++ [z1] ++ [z2] ++ [z3] ++ [z4]), rsl intEnc 1 lo5 hi5 (.slice (some ⟨x19, o20, none⟩) A5.length c5) A5, rsl intEnc 1 lo4 hi4 (.slice (some ⟨x17, o18, none⟩) A4.length c4) A4, rsl intEnc 1 lo3 hi3 (.slice (some ⟨x15, o16, none⟩) A3.length c3) A3, rsl intEnc 1 lo2 hi2 (.slice (some ⟨x13, o14, none⟩) A2.length c2) A2, rsl intEnc 1 lo1 hi1 (.slice (some ⟨x11, o12, none⟩) A1.length c1) A1, rsl intEnc 1 lo0 hi0 (.slice (some ⟨x9, o10, none⟩) A0.length c0) A0, rfix g 22 #[.slice (some ⟨x9, o10, none⟩) A0.length c0, .slice (some ⟨x11, o12, none⟩) A1.length c1, .slice (some ⟨x13, o14, none⟩) A2.length c2, .slice (some ⟨x15, o16, none⟩) A3.length c3, .slice (some ⟨x17, o18, none⟩) A4.length c4, .slice (some ⟨x19, o20, none⟩) A5.length c5]] _ from (F91.drop 1 rfl)).name
  (try simp at hxs94)
  rw [hx93]
  clear hx93 F91
  have b96 := Bk.bx6 (F95.at 7 rfl : Bk _ g 22 #[.slice (some ⟨x9, o10, none⟩) A0.length c0, .slice (some ⟨x11, o12, none⟩) A1.length c1, .slice (some ⟨x13, o14, none⟩) A2.length c2, .slice (some ⟨x15, o16, none⟩) A3.length c3, .slice (some ⟨x17, o18, none⟩) A4.length c4, .slice (some ⟨x19, o20, none⟩) A5.length c5])
  go_wp2_with fail
  clear b96
  rw [rounds_succ]
  obtain ⟨q5, hq_⟩ : ∃ q : Nat, q = n5 % A5.length := ⟨_, rfl⟩
  obtain ⟨n6, hn_⟩ : ∃ q : Nat, q = n5 / A5.length := ⟨_, rfl⟩
  have hql5 : q5 < A5.length := by rw [hq_]; exact Nat.mod_lt _ (by omega)
  have hnl5 : n6 ≤ n5 := by rw [hn_]; exact Nat.div_le_self _ _
  have hqt5 : Int.tmod (n5 : Int) (A5.length : Int) = (q5 : Int) := by rw [hq_]; rfl
  have hnt5 : Int.tdiv (n5 : Int) (A5.length : Int) = (n6 : Int) := by rw [hn_]; rfl
  have hwt5 : IntKind.i64.wrap (n6 : Int) = (n6 : Int) := IntWalk.i64_in _ (by omega)
  have HQ5 := Lib.hid hq_
  have HN5 := Lib.hid hn_
  clear hq_ hn_
  obtain ⟨z5, hz97_⟩ : ∃ z_, A5[q5]? = some z_ := ⟨_, List.getElem?_eq_getElem (by omega)⟩
  have hz97 := Lib.hid hz97_
  clear hz97_
  go_wp2_with fail
  have F98 := F95.drew
  clear F95
  refine ru_begin (fun W => W.cell? ⟨g, 5, none⟩ = some (.slice (some ⟨x19, o20, none⟩) A5.length c5) ∧ W.cell? ⟨x19, o20 + q5, none⟩ = some (.int .i64 z5)) 16 (by kernel_rfl) ?_ ?_
  · exact ⟨((F98.at 7 rfl : Bk _ g 22 #[.slice (some ⟨x9, o10, none⟩) A0.length c0, .slice (some ⟨x11, o12, none⟩) A1.length c1, .slice (some ⟨x13, o14, none⟩) A2.length c2, .slice (some ⟨x15, o16, none⟩) A3.length c3, .slice (some ⟨x17, o18, none⟩) A4.length c4, .slice (some ⟨x19, o20, none⟩) A5.length c5])).cell 5, (by have h_ := ((F98.at 1 rfl : Sl intEnc 1 lo5 hi5 _ (.slice (some ⟨x19, o20, none⟩) A5.length c5) A5)).cells hz97.out 0 _ rfl; simpa using h_)⟩
  obtain ⟨wd100, hwd_⟩ : ∃ x : World, w92.drew = x := ⟨_, rfl⟩
  rw [hwd_] at F98 ⊢
  have wd100s : w92.heap.size ≤ wd100.heap.size := by rw [← hwd_]; exact Nat.le_refl _
  clear hwd_
  have hS99 := (And.intro (((F98.at 7 rfl : Bk _ g 22 #[.slice (some ⟨x9, o10, none⟩) A0.length c0, .slice (some ⟨x11, o12, none⟩) A1.length c1, .slice (some ⟨x13, o14, none⟩) A2.length c2, .slice (some ⟨x15, o16, none⟩) A3.length c3, .slice (some ⟨x17, o18, none⟩) A4.length c4, .slice (some ⟨x19, o20, none⟩) A5.length c5])).cell 5) ((by have h_ := ((F98.at 1 rfl : Sl intEnc 1 lo5 hi5 _ (.slice (some ⟨x19, o20, none⟩) A5.length c5) A5)).cells hz97.out 0 _ rfl; simpa using h_)))
  refine ru_t 0 [] ?_
  refine ru_t 1 [] ?_
  refine ru_t 2 [] ?_
  refine ru_t 3 [] ?_
  refine ru_t 4 [] ?_
  refine ru_t 5 [] ?_
  refine ru_t 6 [] ?_
  refine ru_t 7 [] ?_
  refine ru_t 8 [] ?_
  refine ru_t 9 [] ?_
  refine ru_t 10 [] ?_
  refine ru_t 11 [] ?_
  refine ru_t 12 [] ?_
  refine ru_t 13 [] ?_
  (try simp only [Act.put, List.setIfInBounds_toArray, List.set_cons_zero, List.set_cons_succ])
  clear hS99
  refine ru_one 14 rfl (by kernel_rfl) (fun K hK => ?_)
  go_simp
  have F101 := F98.new 3 #[.int .i64 z5] (n := wd100.heap.size) (by simp)
  clear F98
  refine ru_back hK (by exact ⟨((F101.at 8 rfl : Bk _ g 22 #[.slice (some ⟨x9, o10, none⟩) A0.length c0, .slice (some ⟨x11, o12, none⟩) A1.length c1, .slice (some ⟨x13, o14, none⟩) A2.length c2, .slice (some ⟨x15, o16, none⟩) A3.length c3, .slice (some ⟨x17, o18, none⟩) A4.length c4, .slice (some ⟨x19, o20, none⟩) A5.length c5])).cell 5, (by have h_ := ((F101.at 2 rfl : Sl intEnc 1 lo5 hi5 _ (.slice (some ⟨x19, o20, none⟩) A5.length c5) A5)).cells hz97.out 0 _ rfl; simpa using h_)⟩) (fun hHeld => ?_)
  clear hK K
  (try simp only [Act.put, List.setIfInBounds_toArray, List.set_cons_zero, List.set_cons_succ])
  refine ru_one 15 rfl (by kernel_rfl) (fun K hK => ?_)
  refine step_app _ okInt rfl _ _ rfl w.heap.size (.slice (some ⟨g87, 0, none⟩) 5 cap88) ([] ++ [z0] ++ [z1] ++ [z2] ++ [z3] ++ [z4]) [z5] rfl (by exact (F101.at 1 rfl : Own intEnc 3 1 w.heap.size _ (.slice (some ⟨g87, 0, none⟩) 5 cap88) ([] ++ [z0] ++ [z1] ++ [z2] ++ [z3] ++ [z4]))) ⟨_, 0, none⟩ 1 1 rfl rfl (by decide) (news_of (F101.at 0 rfl : Bk _ wd100.heap.size 3 #[.int .i64 z5])) 6 (by rfl) (by omega) (by first | omega | (simp; omega)) _ rfl ?_
  intro g102 cap103 w104 hp105
  have hp105s := hp105.gb.size
  (try simp at hp105s)
  have F106 := (F101.front 1 rfl rfl).app hp105 (Nat.le_refl _)
  clear F101
  refine ru_back hK (by exact ⟨((F106.at 8 rfl : Bk _ g 22 #[.slice (some ⟨x9, o10, none⟩) A0.length c0, .slice (some ⟨x11, o12, none⟩) A1.length c1, .slice (some ⟨x13, o14, none⟩) A2.length c2, .slice (some ⟨x15, o16, none⟩) A3.length c3, .slice (some ⟨x17, o18, none⟩) A4.length c4, .slice (some ⟨x19, o20, none⟩) A5.length c5])).cell 5, (by have h_ := ((F106.at 2 rfl : Sl intEnc 1 lo5 hi5 _ (.slice (some ⟨x19, o20, none⟩) A5.length c5) A5)).cells hz97.out 0 _ rfl; simpa using h_)⟩) (fun hHeld => ?_)
  clear hK K
  (try simp only [Act.put, List.setIfInBounds_toArray, List.set_cons_zero, List.set_cons_succ])
  refine ru_one 16 rfl (by kernel_rfl) (fun K hK => ?_)
  go_simp
  refine ru_back_late hK (by kernel_rfl) ?_
  clear hK K
  (try simp only [Act.put, List.setIfInBounds_toArray, List.set_cons_zero, List.set_cons_succ])
  refine ru_done (by kernel_rfl) ?_
  obtain ⟨w107, hx108, F110, hxs109⟩ := (show Bun w [rown intEnc 3 1 w.heap.size (.slice (some ⟨g102, 0, none⟩) 6 cap103) ([] ++ [z0] ++ [z1] ++ [z2] ++ [z3] ++ [z4] ++ [z5]), rsl intEnc 1 lo5 hi5 (.slice (some ⟨x19, o20, none⟩) A5.length c5) A5, rsl intEnc 1 lo4 hi4 (.slice (some ⟨x17, o18, none⟩) A4.length c4) A4, rsl intEnc 1 lo3 hi3 (.slice (some ⟨x15, o16, none⟩) A3.length c3) A3, rsl intEnc 1 lo2 hi2 (.slice (some ⟨x13, o14, none⟩) A2.length c2) A2, rsl intEnc 1 lo1 hi1 (.slice (some ⟨x11, o12, none⟩) A1.length c1) A1, rsl intEnc 1 lo0 hi0 (.slice (some ⟨x9, o10, none⟩) A0.length c0) A0, rfix g 22 #[.slice (some ⟨x9, o10, none⟩) A0.length c0, .slice (some ⟨x11, o12, none⟩) A1.length c1, .slice (some ⟨x13, o14, none⟩) A2.length c2, .slice (some ⟨x15, o16, none⟩) A3.length c3, .slice (some ⟨x17, o18, none⟩) A4.length c4, .slice (some ⟨x19, o20, none⟩) A5.length c5]] _ from (F106.drop 1 rfl)).name
  (try simp at hxs109)
  rw [hx108]
  clear hx108 F106
  have b111 := Bk.bx6 (F110.at 7 rfl : Bk _ g 22 #[.slice (some ⟨x9, o10, none⟩) A0.length c0, .slice (some ⟨x11, o12, none⟩) A1.length c1, .slice (some ⟨x13, o14, none⟩) A2.length c2, .slice (some ⟨x15, o16, none⟩) A3.length c3, .slice (some ⟨x17, o18, none⟩) A4.length c4, .slice (some ⟨x19, o20, none⟩) A5.length c5])
  go_wp2_with fail
  clear b111
  rw [rounds_succ]
  go_wp2_with fail
  exact bodyPost_ret (v := .slice (some ⟨g102, 0, none⟩) 6 cap103) (by simp [results, Try.results21, go_sem]) rfl (⟨some ⟨g102, 0, none⟩, cap103, w.heap.size, _, rfl, ⟨Nat.le_refl _, Nat.le_refl _⟩, (Own.sl (Own.cast (F110.at 0 rfl : Own intEnc 3 1 w.heap.size _ (.slice (some ⟨g102, 0, none⟩) 6 cap103) ([] ++ [z0] ++ [z1] ++ [z2] ++ [z3] ++ [z4] ++ [z5])) (pk_cons hz22.out HQ0.out HN0.out (pk_cons hz37.out HQ1.out HN1.out (pk_cons hz52.out HQ2.out HN2.out (pk_cons hz67.out HQ3.out HN3.out (pk_cons hz82.out HQ4.out HN4.out (pk_cons hz97.out HQ5.out HN5.out (rfl : pkL [] n6 = [])))))))) (fun _ => rfl)), F110.gb⟩)

end Go.Proofs.Ythblaiefalbomaa
