/- frost: Run. -/
import Derived.Test.YthblaiefalbomaaF13
set_option linter.unusedVariables false
set_option linter.unusedSimpArgs false
set_option linter.unnecessarySimpa false
namespace Go.Proofs.Ythblaiefalbomaa
open Go.RowKit Go.Shelf
set_option maxRecDepth 100000
attribute [local go_sem] Oper.semAt_some

theorem Own.cast {α : Type} {enc : α → List Value} {e : TypeId} {sz base : Nat} {w : World} {v : Value} {l l' : List α} (h : Own enc e sz base w v l) (hl : l' = l) : Own enc e sz base w v l' := hl ▸ h
theorem Bun.nilrow {α : Type} (enc : α → List Value) (e : TypeId) (sz : Nat) {w0 A : World} {L : List Res} (h : Bun w0 L A) : Bun w0 (rown enc e sz w0.heap.size (.slice none 0 0) [] :: L) A :=
  h.add (rown enc e sz w0.heap.size (.slice none 0 0) []) (gb_refl _ _) (Own.nil _ _ _ _ _) fun g e => by cases e
set_option maxHeartbeats 8000000 in
theorem run_c (lo hi : Nat) (v : Value) (l : Fro) (x : Ice) (lo2 hi2 : Nat) (vd : Value) (dl : List Wea) (w : World) (hl : Sl covEnc 3 lo hi w v l.cov) (h2 : hi ≤ w.heap.size) (hl2 : Sl weaEnc 6 lo2 hi2 w vd dl) (h22 : hi2 ≤ w.heap.size) :
    Calls Try.prog 27 #[.agg (froC l v), .agg (iceC x), vd] w (fun e w' => ∃ vo, e = .returned (.tuple #[vo, .int .i64 (allE l x dl)]) ∧ Own iceEnc 32 8 w.heap.size w' vo (runI l x dl) ∧ w.grownBy w' none) := by
  have F1 : Bun w [] w := Bun.nil _
  have hm_cs := hl.len
  unfold maxLen at hm_cs
  obtain ⟨sa, sc, rfl⟩ := hl.any
  have F2 := F1.sl0 hl h2 rfl
  clear F1
  clear hl
  have hm_ds := hl2.len
  unfold maxLen at hm_ds
  obtain ⟨da, dc, rfl⟩ := hl2.any
  have F3 := F2.sl0 hl2 h22 rfl
  clear F2
  clear hl2
  have F4 := F3.marks0
  clear F3
  refine callsIn_wide.1 (callsIn_of_wp_marks (n := 0) Try.func27 rfl trivial ?_ rfl)
  simp only [Try.ntmps27, List.size_toArray, List.length_cons, List.length_nil, Nat.reduceAdd, Nat.reduceSub, Array.replicate_succ, Array.replicate_zero, List.push_toArray, List.append_toArray, List.nil_append, List.cons_append]
  refine wpIn_wide.2 ?_
  refine wp_mono (Q := calm _) ?_ calm_le
  go_wp2_with fail
  have F5 := F4.new 29 (froC l (.slice sa l.cov.length sc)) (n := w.heap.size) (by simp)
  clear F4
  have F6 := F5.new 32 (iceC x) (n := (w.heap.size + 1)) (by simp)
  clear F5
  refine (checkAll_c lo hi _ l x lo2 hi2 _ dl _ (F6.at 4 rfl : Sl covEnc 3 lo hi _ (.slice sa l.cov.length sc) l.cov) (Nat.le_trans h2 F6.gb.size) (F6.at 3 rfl : Sl weaEnc 6 lo2 hi2 _ (.slice da dl.length dc) dl) (Nat.le_trans h22 F6.gb.size)).mono ?_
  rintro e w9 ⟨rfl, hg7⟩
  have hg7s := hg7.size
  (try simp at hg7s)
  have F10 := F6.gn hg7
  clear F6
  clear hg7
  by_cases c11 : allE l x dl = 0
  · skip
    have c11a : ((allE l x dl) == 0) = true := beq_t c11
    have c11b : ((allE l x dl) != 0) = false := bne_f c11
    have c11H := Lib.hid c11
    clear c11
    have HOK := Lib.hid (allOk c11H.out)
    have hn4 := HOK.out.2.2.2.1
    go_wp2_with fail
    have F13 := F10.new 54 #[.slice none 0 0] (n := w9.heap.size) (by simp)
    clear F10
    obtain ⟨w14, hx15, F17, hxs16⟩ := (show Bun w [rbox w9.heap.size 54 #[.slice none 0 0], rbox (w.heap.size + 1) 32 (iceC x), rbox w.heap.size 29 (froC l (.slice sa l.cov.length sc)), rmarks [], rsl weaEnc 6 lo2 hi2 (.slice da dl.length dc) dl, rsl covEnc 3 lo hi (.slice sa l.cov.length sc) l.cov] _ from F13).name
    (try simp at hxs16)
    rw [hx15]
    clear hx15 F13
    have F18 := F17.drew
    clear F17
    refine ru_begin (fun W => W.cell? ⟨w.heap.size, 0, none⟩ = some (.int .i64 l.gr) ∧ W.cell? ⟨w.heap.size, 1, none⟩ = some (.int .i64 l.la) ∧ W.cell? ⟨w.heap.size, 2, none⟩ = some (.slice sa l.cov.length sc) ∧ W.cell? ⟨w.heap.size, 3, none⟩ = some (.int .i64 l.melt.lo) ∧ W.cell? ⟨w.heap.size, 4, none⟩ = some (.int .i64 l.melt.hi) ∧ W.cell? ⟨w.heap.size, 5, none⟩ = some (.int .i64 l.soak) ∧ W.cell? ⟨w.heap.size, 6, none⟩ = some (.int .i64 l.white.lo) ∧ W.cell? ⟨w.heap.size, 7, none⟩ = some (.int .i64 l.white.hi) ∧ W.cell? ⟨(w.heap.size + 1), 0, none⟩ = some (.int .i64 x.bl.lo) ∧ W.cell? ⟨(w.heap.size + 1), 1, none⟩ = some (.int .i64 x.bl.hi) ∧ W.cell? ⟨(w.heap.size + 1), 2, none⟩ = some (.int .i64 x.wh.lo) ∧ W.cell? ⟨(w.heap.size + 1), 3, none⟩ = some (.int .i64 x.wh.hi) ∧ W.cell? ⟨(w.heap.size + 1), 4, none⟩ = some (.int .i64 x.we.lo) ∧ W.cell? ⟨(w.heap.size + 1), 5, none⟩ = some (.int .i64 x.we.hi) ∧ W.cell? ⟨(w.heap.size + 1), 6, none⟩ = some (.int .i64 x.sn.lo) ∧ W.cell? ⟨(w.heap.size + 1), 7, none⟩ = some (.int .i64 x.sn.hi)) 5 (by kernel_rfl) ?_ ?_
    · exact ⟨F18.cl 2 0 rfl rfl, F18.cl 2 1 rfl rfl, F18.cl 2 2 rfl rfl, F18.cl 2 3 rfl rfl, F18.cl 2 4 rfl rfl, F18.cl 2 5 rfl rfl, F18.cl 2 6 rfl rfl, F18.cl 2 7 rfl rfl, F18.cl 1 0 rfl rfl, F18.cl 1 1 rfl rfl, F18.cl 1 2 rfl rfl, F18.cl 1 3 rfl rfl, F18.cl 1 4 rfl rfl, F18.cl 1 5 rfl rfl, F18.cl 1 6 rfl rfl, F18.cl 1 7 rfl rfl⟩
    obtain ⟨wd20, hwd_⟩ : ∃ x : World, w14.drew = x := ⟨_, rfl⟩
    rw [hwd_] at F18 ⊢
    have wd20s : w14.heap.size ≤ wd20.heap.size := by rw [← hwd_]; exact Nat.le_refl _
    clear hwd_
    have hS19 := (And.intro (F18.cl 2 0 rfl rfl) (And.intro (F18.cl 2 1 rfl rfl) (And.intro (F18.cl 2 2 rfl rfl) (And.intro (F18.cl 2 3 rfl rfl) (And.intro (F18.cl 2 4 rfl rfl) (And.intro (F18.cl 2 5 rfl rfl) (And.intro (F18.cl 2 6 rfl rfl) (And.intro (F18.cl 2 7 rfl rfl) (And.intro (F18.cl 1 0 rfl rfl) (And.intro (F18.cl 1 1 rfl rfl) (And.intro (F18.cl 1 2 rfl rfl) (And.intro (F18.cl 1 3 rfl rfl) (And.intro (F18.cl 1 4 rfl rfl) (And.intro (F18.cl 1 5 rfl rfl) (And.intro (F18.cl 1 6 rfl rfl) (F18.cl 1 7 rfl rfl))))))))))))))))
    refine ru_t 0 [1] ?_
    refine ru_t 1 [] ?_
    refine ru_t 2 [3] ?_
    refine ru_t 4 [] ?_
    (try simp only [Act.put, List.setIfInBounds_toArray, List.set_cons_zero, List.set_cons_succ])
    clear hS19
    refine ru_one 3 rfl (by kernel_rfl) (fun K hK => ?_)
    go_simp
    refine (layersOf_c x _).mono ?_
    rintro e w23 ⟨rfl, hg21⟩
    have hg21s := hg21.size
    (try simp at hg21s)
    have F24 := F18.gn hg21
    clear F18
    refine ru_back hK (by exact ⟨F24.cl 2 0 rfl rfl, F24.cl 2 1 rfl rfl, F24.cl 2 2 rfl rfl, F24.cl 2 3 rfl rfl, F24.cl 2 4 rfl rfl, F24.cl 2 5 rfl rfl, F24.cl 2 6 rfl rfl, F24.cl 2 7 rfl rfl, F24.cl 1 0 rfl rfl, F24.cl 1 1 rfl rfl, F24.cl 1 2 rfl rfl, F24.cl 1 3 rfl rfl, F24.cl 1 4 rfl rfl, F24.cl 1 5 rfl rfl, F24.cl 1 6 rfl rfl, F24.cl 1 7 rfl rfl⟩) (fun hHeld => ?_)
    clear hK K
    (try simp only [Act.put, List.setIfInBounds_toArray, List.set_cons_zero, List.set_cons_succ])
    refine ru_one 5 rfl (by kernel_rfl) (fun K hK => ?_)
    go_simp
    refine (course_e lo hi _ _ _ _ l x _ (F24.at 5 rfl : Sl covEnc 3 lo hi _ (.slice sa l.cov.length sc) l.cov) (Nat.le_trans h2 F24.gb.size)).mono ?_
    rintro e w28 ⟨pd25, pd25e, rfl, hg26, hX25⟩
    have hg26s := hg26.size
    (try simp at hg26s)
    have F29 := F24.add (rext pd25 (pd25 + 3) (HoldX pd25 (.slice sa l.cov.length sc) (.slice da dl.length dc) l x) (fun _ _ _ hg hr h => h.gb hg hr)) hg26 (hX25) (rext_in (by rw [← pd25e]; exact Nat.le_refl _) hX25.2.2.lt)
    clear F24
    refine ru_back_late hK (by kernel_rfl) ?_
    clear hK K
    (try simp only [Act.put, List.setIfInBounds_toArray, List.set_cons_zero, List.set_cons_succ])
    refine ru_done (by kernel_rfl) ?_
    obtain ⟨w30, hx31, F33, hxs32⟩ := (show Bun w [rext pd25 (pd25 + 3) (HoldX pd25 (.slice sa l.cov.length sc) (.slice da dl.length dc) l x) (fun _ _ _ hg hr h => h.gb hg hr), rbox w9.heap.size 54 #[.slice none 0 0], rmarks [], rsl weaEnc 6 lo2 hi2 (.slice da dl.length dc) dl, rsl covEnc 3 lo hi (.slice sa l.cov.length sc) l.cov] _ from ((F29.drop 2 rfl).drop 2 rfl)).name
    (try simp at hxs32)
    rw [hx31]
    clear hx31 F29
    go_wp2_with fail
    have F35 := F33.nilrow iceEnc 32 8
    clear F33
    refine wp_rangeI (gf := 97) (lb := #[.pointer (some ⟨pd25 + 1, 0, none⟩), .pointer (some ⟨pd25 + 2, 0, none⟩), .pointer (some ⟨pd25, 0, none⟩)]) rfl (enters_of Try.func97 (by kernel_rfl) rfl) (fun _ => rfl) (course_seq pd25 lo hi lo2 hi2 (.slice sa l.cov.length sc) (.slice da dl.length dc) l x dl HOK.out.1 HOK.out.2.2.1 HOK.out.2.2.2.2 HOK.out.2.2.2.1) (fun hq_ i A => ∃ (vo : Value), Bun w [rkeep w30.heap.size hq_ A, rown iceEnc 32 8 w.heap.size vo (runN l x dl i), rext pd25 (pd25 + 3) (HoldX pd25 (.slice sa l.cov.length sc) (.slice da dl.length dc) l x) (fun _ _ _ hg hr h => h.gb hg hr), rbox w9.heap.size 54 #[vo], rmarks [], rsl weaEnc 6 lo2 hi2 (.slice da dl.length dc) dl, rsl covEnc 3 lo hi (.slice sa l.cov.length sc) l.cov] A) (fun _ _ _ _ => False) ?hI34 ?hIx34 ?hH34 ?h034 ?round34 ?done34 ?stop34
    case hI34 =>
      rintro hq_ i A B r ⟨vo, F_⟩ hg hr
      exact ⟨vo, F_.rekeep hg hr⟩
    case hIx34 => exact fun _ _ _ _ _ _ h _ _ => h
    case hH34 =>
      rintro hq_ i A ⟨vo, F_⟩
      exact ⟨⟨(F_.at 2 rfl : HoldX _ _ _ _ _ _).1, (F_.at 2 rfl : HoldX _ _ _ _ _ _).2.1, (F_.at 2 rfl : HoldX _ _ _ _ _ _).2.2, (F_.at 6 rfl : Sl covEnc 3 lo hi _ (.slice sa l.cov.length sc) l.cov), (F_.at 5 rfl : Sl weaEnc 6 lo2 hi2 _ (.slice da dl.length dc) dl), (by omega), (by omega)⟩, F_.kept.1⟩
    case h034 =>
      intro hq_ B hg hs hle
      exact ⟨_, F35.keep0 hg (Nat.le_refl _) (by omega)⟩
    case round34 =>
      rintro l34 hi34 i W34 ⟨vo, F34_⟩ hlt34 hle34 hhW34
      clear F35
      (try simp only [iceC])
      gi_wp2_with fail
      have F36 := F34_.new 97 #[.int .i64 ((stI l x dl (i + 1)).bl.lo), .int .i64 ((stI l x dl (i + 1)).bl.hi), .int .i64 ((stI l x dl (i + 1)).wh.lo), .int .i64 ((stI l x dl (i + 1)).wh.hi), .int .i64 ((stI l x dl (i + 1)).we.lo), .int .i64 ((stI l x dl (i + 1)).we.hi), .int .i64 ((stI l x dl (i + 1)).sn.lo), .int .i64 ((stI l x dl (i + 1)).sn.hi)] (n := W34.heap.size) (by simp)
      clear F34_
      refine And.intro (F36.front 1 rfl rfl).kept (fun W34b hg34b => ?_)
      have hg34bs := hg34b.size
      (try simp at hg34bs)
      have F37 := (F36.front 1 rfl rfl).rekeep hg34b (fun g e => by cases e; omega)
      clear F36
      gi_wp2_with fail
      have F38 := F37.drew
      clear F37
      refine ru_beginIn (fun W => W.cell? ⟨w9.heap.size, 0, none⟩ = some vo ∧ W.cell? ⟨W34.heap.size, 0, none⟩ = some (.int .i64 ((stI l x dl (i + 1)).bl.lo)) ∧ W.cell? ⟨W34.heap.size, 1, none⟩ = some (.int .i64 ((stI l x dl (i + 1)).bl.hi)) ∧ W.cell? ⟨W34.heap.size, 2, none⟩ = some (.int .i64 ((stI l x dl (i + 1)).wh.lo)) ∧ W.cell? ⟨W34.heap.size, 3, none⟩ = some (.int .i64 ((stI l x dl (i + 1)).wh.hi)) ∧ W.cell? ⟨W34.heap.size, 4, none⟩ = some (.int .i64 ((stI l x dl (i + 1)).we.lo)) ∧ W.cell? ⟨W34.heap.size, 5, none⟩ = some (.int .i64 ((stI l x dl (i + 1)).we.hi)) ∧ W.cell? ⟨W34.heap.size, 6, none⟩ = some (.int .i64 ((stI l x dl (i + 1)).sn.lo)) ∧ W.cell? ⟨W34.heap.size, 7, none⟩ = some (.int .i64 ((stI l x dl (i + 1)).sn.hi))) 5 (by kernel_rfl) (by kernel_rfl) (fun ⟨_, _, h_⟩ => h_) ?_ ?_
      · exact ⟨F38.cl 4 0 rfl rfl, F38.cl 1 0 rfl rfl, F38.cl 1 1 rfl rfl, F38.cl 1 2 rfl rfl, F38.cl 1 3 rfl rfl, F38.cl 1 4 rfl rfl, F38.cl 1 5 rfl rfl, F38.cl 1 6 rfl rfl, F38.cl 1 7 rfl rfl⟩
      obtain ⟨wd40, hwd_⟩ : ∃ x : World, W34b.drew = x := ⟨_, rfl⟩
      rw [hwd_] at F38 ⊢
      have wd40s : W34b.heap.size ≤ wd40.heap.size := by rw [← hwd_]; exact Nat.le_refl _
      clear hwd_
      have hS39 := (And.intro (F38.cl 4 0 rfl rfl) (And.intro (F38.cl 1 0 rfl rfl) (And.intro (F38.cl 1 1 rfl rfl) (And.intro (F38.cl 1 2 rfl rfl) (And.intro (F38.cl 1 3 rfl rfl) (And.intro (F38.cl 1 4 rfl rfl) (And.intro (F38.cl 1 5 rfl rfl) (And.intro (F38.cl 1 6 rfl rfl) (F38.cl 1 7 rfl rfl)))))))))
      refine ru_t 0 [] ?_
      refine ru_t 1 [] ?_
      (try simp only [Act.put, List.setIfInBounds_toArray, List.set_cons_zero, List.set_cons_succ])
      clear hS39
      refine ru_one 2 rfl (by kernel_rfl) (fun K hK => ?_)
      go_simp
      refine (lice_c (stI l x dl (i + 1)) _).mono ?_
      rintro e w43 ⟨rfl, hg41⟩
      have hg41s := hg41.size
      (try simp at hg41s)
      have F44 := F38.gn hg41
      clear F38
      refine ru_back hK (by exact ⟨F44.cl 4 0 rfl rfl, F44.cl 1 0 rfl rfl, F44.cl 1 1 rfl rfl, F44.cl 1 2 rfl rfl, F44.cl 1 3 rfl rfl, F44.cl 1 4 rfl rfl, F44.cl 1 5 rfl rfl, F44.cl 1 6 rfl rfl, F44.cl 1 7 rfl rfl⟩) (fun hHeld => ?_)
      clear hK K
      (try simp only [Act.put, List.setIfInBounds_toArray, List.set_cons_zero, List.set_cons_succ])
      refine ru_one 3 rfl (by kernel_rfl) (fun K hK => ?_)
      go_simp
      have F45 := F44.new 32 #[.int .i64 ((stI l x dl (i + 1)).bl.lo), .int .i64 ((stI l x dl (i + 1)).bl.hi), .int .i64 ((stI l x dl (i + 1)).wh.lo), .int .i64 ((stI l x dl (i + 1)).wh.hi), .int .i64 ((stI l x dl (i + 1)).we.lo), .int .i64 ((stI l x dl (i + 1)).we.hi), .int .i64 ((stI l x dl (i + 1)).sn.lo), .int .i64 ((stI l x dl (i + 1)).sn.hi)] (n := w43.heap.size) (by simp)
      clear F44
      refine ru_back hK (by exact ⟨F45.cl 5 0 rfl rfl, F45.cl 2 0 rfl rfl, F45.cl 2 1 rfl rfl, F45.cl 2 2 rfl rfl, F45.cl 2 3 rfl rfl, F45.cl 2 4 rfl rfl, F45.cl 2 5 rfl rfl, F45.cl 2 6 rfl rfl, F45.cl 2 7 rfl rfl⟩) (fun hHeld => ?_)
      clear hK K
      (try simp only [Act.put, List.setIfInBounds_toArray, List.set_cons_zero, List.set_cons_succ])
      refine ru_one 4 rfl (by kernel_rfl) (fun K hK => ?_)
      refine step_app _ okIce rfl _ _ rfl w.heap.size vo (runN l x dl i) [stI l x dl (i + 1)] rfl (by exact (F45.at 3 rfl : Own iceEnc 32 8 w.heap.size _ vo (runN l x dl i))) ⟨_, 0, none⟩ 1 1 rfl rfl (by decide) (news_of (F45.at 0 rfl : Bk _ w43.heap.size 32 #[.int .i64 ((stI l x dl (i + 1)).bl.lo), .int .i64 ((stI l x dl (i + 1)).bl.hi), .int .i64 ((stI l x dl (i + 1)).wh.lo), .int .i64 ((stI l x dl (i + 1)).wh.hi), .int .i64 ((stI l x dl (i + 1)).we.lo), .int .i64 ((stI l x dl (i + 1)).we.hi), .int .i64 ((stI l x dl (i + 1)).sn.lo), .int .i64 ((stI l x dl (i + 1)).sn.hi)])) (i + 1) (by rw [runN_len]) (by omega) (by first | omega | (simp; omega)) _ rfl ?_
      intro g46 cap47 w48 hp49
      have hp49s := hp49.gb.size
      (try simp at hp49s)
      have F50 := (F45.front 3 rfl rfl).app hp49 (Nat.le_refl _)
      clear F45
      refine ru_back hK (by exact ⟨F50.cl 5 0 rfl rfl, F50.cl 3 0 rfl rfl, F50.cl 3 1 rfl rfl, F50.cl 3 2 rfl rfl, F50.cl 3 3 rfl rfl, F50.cl 3 4 rfl rfl, F50.cl 3 5 rfl rfl, F50.cl 3 6 rfl rfl, F50.cl 3 7 rfl rfl⟩) (fun hHeld => ?_)
      clear hK K
      (try simp only [Act.put, List.setIfInBounds_toArray, List.set_cons_zero, List.set_cons_succ])
      refine ru_one 5 rfl (by kernel_rfl) (fun K hK => ?_)
      have kb_ := F50.bx1 5 rfl
      go_simp
      clear kb_
      have F51 := ((F50.front 5 rfl rfl).set 0 (.slice (some ⟨g46, 0, none⟩) (i + 1) cap47)).nf #[.slice (some ⟨g46, 0, none⟩) (i + 1) cap47] rfl
      clear F50
      refine ru_back_late hK (by kernel_rfl) ?_
      clear hK K
      (try simp only [Act.put, List.setIfInBounds_toArray, List.set_cons_zero, List.set_cons_succ])
      refine ru_done (by kernel_rfl) ?_
      obtain ⟨w52, hx53, F55, hxs54⟩ := (show Bun w [rbox w9.heap.size 54 #[.slice (some ⟨g46, 0, none⟩) (i + 1) cap47], rown iceEnc 32 8 w.heap.size (.slice (some ⟨g46, 0, none⟩) (i + 1) cap47) (runN l x dl i ++ [stI l x dl (i + 1)]), rkeep w30.heap.size hi34 W34b, rext pd25 (pd25 + 3) (HoldX pd25 (.slice sa l.cov.length sc) (.slice da dl.length dc) l x) (fun _ _ _ hg hr h => h.gb hg hr), rmarks [], rsl weaEnc 6 lo2 hi2 (.slice da dl.length dc) dl, rsl covEnc 3 lo hi (.slice sa l.cov.length sc) l.cov] _ from ((F51.drop 2 rfl).drop 3 rfl)).name
      (try simp at hxs54)
      rw [hx53]
      clear hx53 F51
      gi_wp2_with fail
      have F56 : Bun w [rkeep w30.heap.size hi34 W34b, rown iceEnc 32 8 w.heap.size (.slice (some ⟨g46, 0, none⟩) (i + 1) cap47) (runN l x dl i ++ [stI l x dl (i + 1)]), rext pd25 (pd25 + 3) (HoldX pd25 (.slice sa l.cov.length sc) (.slice da dl.length dc) l x) (fun _ _ _ hg hr h => h.gb hg hr), rbox w9.heap.size 54 #[.slice (some ⟨g46, 0, none⟩) (i + 1) cap47], rmarks [], rsl weaEnc 6 lo2 hi2 (.slice da dl.length dc) dl, rsl covEnc 3 lo hi (.slice sa l.cov.length sc) l.cov] _ := F55.pick [2, 1, 3, 0, 4, 5, 6] (by decide) rfl
      clear F55
      refine And.intro F56.kept ?_
      exact ⟨_, (by rw [runN_succ]; exact F56.rekeep (gb_refl _ none) (fun _ e => by cases e))⟩
    case done34 =>
      rintro hi34 W34 hle34 ⟨vo, F34_⟩ hK34
      clear F35
      have F57 : Bun w [rkeep w30.heap.size hi34 W34, rmarks [], rown iceEnc 32 8 w.heap.size vo (runN l x dl dl.length), rext pd25 (pd25 + 3) (HoldX pd25 (.slice sa l.cov.length sc) (.slice da dl.length dc) l x) (fun _ _ _ hg hr h => h.gb hg hr), rbox w9.heap.size 54 #[vo], rsl weaEnc 6 lo2 hi2 (.slice da dl.length dc) dl, rsl covEnc 3 lo hi (.slice sa l.cov.length sc) l.cov] _ := F34_.pick [0, 4, 1, 2, 3, 5, 6] (by decide) rfl
      clear F34_
      have hiW34 := F57.kept.1
      have F58 := F57.mark (by omega) hK34
      clear F57
      have b59 := F58.bx1 3 rfl
      go_wp2_with fail
      clear b59
      refine leave_marks F58.marks (.tuple #[vo, .int .i64 0]) fun w' hs => ?_
      exact ⟨by simp [results, Try.results27, go_sem], ⟨_, by rw [c11H.out], (hs.own ((F58.at 1 rfl : Own iceEnc 32 8 w.heap.size _ vo (runN l x dl dl.length))) : Own _ _ _ _ _ _ _).cast (by rw [runI, if_pos c11H.out]), hs.gb F58.gb (Nat.le_refl _)⟩⟩
    case stop34 =>
      intro _ _ _ _ _ _ h; exact h.elim
  · skip
    have c11a : ((allE l x dl) == 0) = false := beq_f c11
    have c11b : ((allE l x dl) != 0) = true := bne_t c11
    have c11H := Lib.hid c11
    clear c11
    go_wp2_with fail
    refine leave_marks (F10.front 2 rfl rfl).marks (.tuple #[.slice none 0 0, .int .i64 (allE l x dl)]) fun w' hs => ?_
    exact ⟨by simp [results, Try.results27, go_sem], ⟨_, rfl, (Own.nil _ _ _ _ _).cast (by rw [runI, if_neg c11H.out]), hs.gb (F10.front 2 rfl rfl).gb (Nat.le_refl _)⟩⟩

end Go.Proofs.Ythblaiefalbomaa
