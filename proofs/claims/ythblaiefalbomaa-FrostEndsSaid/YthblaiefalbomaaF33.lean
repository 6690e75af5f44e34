/- the kit of frost: true ice after a day, made of numbers. -/
import Derived.Test.YthblaiefalbomaaF29
import Derived.Test.YthblaiefalbomaaFP2
import Derived.Test.YthblaiefalbomaaK1
import Derived.Test.YthblaiefalbomaaF19
set_option linter.unusedVariables false
set_option linter.unusedSimpArgs false
set_option linter.unnecessarySimpa false
namespace Go.Proofs.Ythblaiefalbomaa
open Go.RowKit
set_option maxRecDepth 100000

/-- True ice after a day: whatever is chosen. -/
def AfterPost (sb : Nat) (l : Fro) (t : Tr) (d : Wea) (w : World) : Ending → World → Prop := fun e w' => ∃ u : Tr, e = .returned (.agg #[.int .i64 u.bl, .int .i64 u.wh, .int .i64 u.we, .int .i64 u.sn]) ∧ (∀ (x : Ice) (k : Int), IceK x k k → inI t x → inI u (aft l x d)) ∧ SeedAt w' sb ∧ w.grownBy w' (some sb)
set_option maxHeartbeats 16000000 in
theorem afterK_c (sb lo hi : Nat) (v : Value) (l : Fro) (t : Tr) (k : Int) (d : Wea) (w : World) (hs : SeedAt w sb) (hl : Sl covEnc 3 lo hi w v l.cov) (h2 : hi ≤ w.heap.size) (hxs : ¬ (lo ≤ sb ∧ sb < hi)) (hL : LawOk l) (hF : Falls l.cov) (ht : TrK t k k) (hk : 0 ≤ k ∧ k ≤ 400) (hd : WeaOk d) :
    Calls Try.prog 50 #[.pointer (some ⟨sb, 0, none⟩), .agg (froC l v), .agg #[.int .i64 t.bl, .int .i64 t.wh, .int .i64 t.we, .int .i64 t.sn], .agg (weaC d d.clear)] w (AfterPost sb l t d w) := by
  have F1 : Bus w sb [rseed sb] w := Bus.ofSeed hs
  have hsl := hs.lt
  clear hs
  have hm_cs := hl.len
  unfold maxLen at hm_cs
  obtain ⟨sa, sc, rfl⟩ := hl.any
  have F2 := F1.sl0 hl h2 hxs (onlyS_seed _)
  clear F1
  clear hl
  have HL := Lib.hid hL
  have HF := Lib.hid hF
  have HT := Lib.hid ht
  have HD := Lib.hid hd
  have hdc := hd.cold
  have hdf := hd.fall
  clear hL hF ht hd
  go_enter Try.func50, Try.ntmps50
  go_wp2_with fail
  have F5 := F2.new 29 (froC l (.slice sa l.cov.length sc)) (n := w.heap.size) (by simp)
  clear F2
  have F6 := F5.new 48 #[.int .i64 t.bl, .int .i64 t.wh, .int .i64 t.we, .int .i64 t.sn] (n := (w.heap.size + 1)) (by simp)
  clear F5
  have F7 := F6.new 35 (weaC d d.clear) (n := (w.heap.size + 2)) (by simp)
  clear F6
  have F8 := F7.new 48 #[.int .i64 0, .int .i64 0, .int .i64 0, .int .i64 0] (n := (w.heap.size + 3)) (by simp)
  clear F7
  refine (inside_c sb d.cold.lo d.cold.hi _ (F8.at 5 rfl : SeedAt _ sb) (by omega) (by omega) (by omega) (by omega)).mono ?_
  rintro e w11 ⟨r3, rfl, hr4, hs10, hg9⟩
  unfold insideR fromR at hr4; have hr4b : d.cold.lo ≤ r3 ∧ r3 ≤ d.cold.hi := (by omega); clear hr4
  have hg9s := hg9.size
  (try simp at hg9s)
  have F12 := F8.seedAt 5 rfl hg9 hs10
  clear F8
  clear hg9
  go_wp2_with fail
  have F15 := F12.drew
  clear F12
  refine ru_begin (fun W => W.cell? ⟨w.heap.size, 0, none⟩ = some (.int .i64 l.gr) ∧ W.cell? ⟨w.heap.size, 1, none⟩ = some (.int .i64 l.la) ∧ W.cell? ⟨w.heap.size, 2, none⟩ = some (.slice sa l.cov.length sc) ∧ W.cell? ⟨w.heap.size, 3, none⟩ = some (.int .i64 l.melt.lo) ∧ W.cell? ⟨w.heap.size, 4, none⟩ = some (.int .i64 l.melt.hi) ∧ W.cell? ⟨w.heap.size, 5, none⟩ = some (.int .i64 l.soak) ∧ W.cell? ⟨w.heap.size, 6, none⟩ = some (.int .i64 l.white.lo) ∧ W.cell? ⟨w.heap.size, 7, none⟩ = some (.int .i64 l.white.hi) ∧ W.cell? ⟨(w.heap.size + 1), 0, none⟩ = some (.int .i64 t.bl) ∧ W.cell? ⟨(w.heap.size + 1), 1, none⟩ = some (.int .i64 t.wh) ∧ W.cell? ⟨(w.heap.size + 1), 2, none⟩ = some (.int .i64 t.we) ∧ W.cell? ⟨(w.heap.size + 1), 3, none⟩ = some (.int .i64 t.sn) ∧ W.cell? ⟨(w.heap.size + 2), 0, none⟩ = some (.int .i64 d.cold.lo) ∧ W.cell? ⟨(w.heap.size + 2), 1, none⟩ = some (.int .i64 d.cold.hi) ∧ W.cell? ⟨(w.heap.size + 2), 2, none⟩ = some (.int .i64 d.fall.lo) ∧ W.cell? ⟨(w.heap.size + 2), 3, none⟩ = some (.int .i64 d.fall.hi) ∧ W.cell? ⟨(w.heap.size + 2), 4, none⟩ = some (.int .i64 d.water) ∧ W.cell? ⟨(w.heap.size + 2), 5, none⟩ = some (.bool d.clear)) 8 (by kernel_rfl) ?_ ?_
  · exact ⟨F15.cl 3 0 rfl rfl, F15.cl 3 1 rfl rfl, F15.cl 3 2 rfl rfl, F15.cl 3 3 rfl rfl, F15.cl 3 4 rfl rfl, F15.cl 3 5 rfl rfl, F15.cl 3 6 rfl rfl, F15.cl 3 7 rfl rfl, F15.cl 2 0 rfl rfl, F15.cl 2 1 rfl rfl, F15.cl 2 2 rfl rfl, F15.cl 2 3 rfl rfl, F15.cl 1 0 rfl rfl, F15.cl 1 1 rfl rfl, F15.cl 1 2 rfl rfl, F15.cl 1 3 rfl rfl, F15.cl 1 4 rfl rfl, F15.cl 1 5 rfl rfl⟩
  obtain ⟨wd17, hwd_⟩ : ∃ x : World, w11.drew = x := ⟨_, rfl⟩
  rw [hwd_] at F15 ⊢
  have wd17s : w11.heap.size ≤ wd17.heap.size := by rw [← hwd_]; exact Nat.le_refl _
  clear hwd_
  have hS16 := (And.intro (F15.cl 3 0 rfl rfl) (And.intro (F15.cl 3 1 rfl rfl) (And.intro (F15.cl 3 2 rfl rfl) (And.intro (F15.cl 3 3 rfl rfl) (And.intro (F15.cl 3 4 rfl rfl) (And.intro (F15.cl 3 5 rfl rfl) (And.intro (F15.cl 3 6 rfl rfl) (And.intro (F15.cl 3 7 rfl rfl) (And.intro (F15.cl 2 0 rfl rfl) (And.intro (F15.cl 2 1 rfl rfl) (And.intro (F15.cl 2 2 rfl rfl) (And.intro (F15.cl 2 3 rfl rfl) (And.intro (F15.cl 1 0 rfl rfl) (And.intro (F15.cl 1 1 rfl rfl) (And.intro (F15.cl 1 2 rfl rfl) (And.intro (F15.cl 1 3 rfl rfl) (And.intro (F15.cl 1 4 rfl rfl) (F15.cl 1 5 rfl rfl))))))))))))))))))
  refine ru_t 0 [] ?_
  refine ru_t 1 [] ?_
  refine ru_t 2 [] ?_
  refine ru_t 3 [] ?_
  refine ru_t 4 [] ?_
  refine ru_t 5 [] ?_
  (try simp only [Act.put, List.setIfInBounds_toArray, List.set_cons_zero, List.set_cons_succ])
  clear hS16
  refine ru_one 6 rfl (by kernel_rfl) (fun K hK => ?_)
  go_simp
  refine (inside_c sb d.fall.lo d.fall.hi _ (F15.at 5 rfl : SeedAt _ sb) (by omega) (by omega) (by omega) (by omega)).mono ?_
  rintro e w22 ⟨r18, rfl, hr19, hs21, hg20⟩
  unfold insideR fromR at hr19; have hr19b : d.fall.lo ≤ r18 ∧ r18 ≤ d.fall.hi := (by omega); clear hr19
  have hg20s := hg20.size
  (try simp at hg20s)
  have F23 := F15.seedAt 5 rfl hg20 hs21
  clear F15
  refine ru_back hK (by exact ⟨F23.cl 3 0 rfl rfl, F23.cl 3 1 rfl rfl, F23.cl 3 2 rfl rfl, F23.cl 3 3 rfl rfl, F23.cl 3 4 rfl rfl, F23.cl 3 5 rfl rfl, F23.cl 3 6 rfl rfl, F23.cl 3 7 rfl rfl, F23.cl 2 0 rfl rfl, F23.cl 2 1 rfl rfl, F23.cl 2 2 rfl rfl, F23.cl 2 3 rfl rfl, F23.cl 1 0 rfl rfl, F23.cl 1 1 rfl rfl, F23.cl 1 2 rfl rfl, F23.cl 1 3 rfl rfl, F23.cl 1 4 rfl rfl, F23.cl 1 5 rfl rfl⟩) (fun hHeld => ?_)
  clear hK K
  (try simp only [Act.put, List.setIfInBounds_toArray, List.set_cons_zero, List.set_cons_succ])
  refine ru_one 7 rfl (by kernel_rfl) (fun K hK => ?_)
  go_simp
  refine (opened_c lo hi _ l t k k d r18 _ (F23.at 4 rfl : Sl covEnc 3 lo hi _ (.slice sa l.cov.length sc) l.cov) (Nat.le_trans h2 F23.gb.size) HL.out HT.out (by omega) HD.out (by omega)).mono ?_
  rintro e w26 ⟨rfl, hg24⟩
  have HO := Lib.hid (opn_K HL.out HT.out HD.out (f := r18) (by omega))
  have hg24s := hg24.size
  (try simp at hg24s)
  have F27 := F23.gn hg24
  clear F23
  refine ru_back hK (by exact ⟨F27.cl 3 0 rfl rfl, F27.cl 3 1 rfl rfl, F27.cl 3 2 rfl rfl, F27.cl 3 3 rfl rfl, F27.cl 3 4 rfl rfl, F27.cl 3 5 rfl rfl, F27.cl 3 6 rfl rfl, F27.cl 3 7 rfl rfl, F27.cl 2 0 rfl rfl, F27.cl 2 1 rfl rfl, F27.cl 2 2 rfl rfl, F27.cl 2 3 rfl rfl, F27.cl 1 0 rfl rfl, F27.cl 1 1 rfl rfl, F27.cl 1 2 rfl rfl, F27.cl 1 3 rfl rfl, F27.cl 1 4 rfl rfl, F27.cl 1 5 rfl rfl⟩) (fun hHeld => ?_)
  clear hK K
  (try simp only [Act.put, List.setIfInBounds_toArray, List.set_cons_zero, List.set_cons_succ])
  refine ru_one 8 rfl (by kernel_rfl) (fun K hK => ?_)
  have kb_ := F27.bx4 2 rfl
  go_simp
  clear kb_
  have F28 := (F27.front 2 rfl rfl).pt4 (.int .i64 ((opn l t d r18).bl)) (.int .i64 ((opn l t d r18).wh)) (.int .i64 ((opn l t d r18).we)) (.int .i64 ((opn l t d r18).sn))
  clear F27
  refine ru_back_late hK (by kernel_rfl) ?_
  clear hK K
  (try simp only [Act.put, List.setIfInBounds_toArray, List.set_cons_zero, List.set_cons_succ])
  refine ru_done (by kernel_rfl) ?_
  obtain ⟨w29, hx30, F32, hxs31⟩ := (show Bus w sb [rbox (w.heap.size + 1) 48 #[.int .i64 ((opn l t d r18).bl), .int .i64 ((opn l t d r18).wh), .int .i64 ((opn l t d r18).we), .int .i64 ((opn l t d r18).sn)], rbox (w.heap.size + 3) 48 #[.int .i64 0, .int .i64 0, .int .i64 0, .int .i64 0], rbox w.heap.size 29 (froC l (.slice sa l.cov.length sc)), rsl covEnc 3 lo hi (.slice sa l.cov.length sc) l.cov, rseed sb] _ from (F28.drop 2 rfl)).name
  (try simp at hxs31)
  rw [hx30]
  clear hx30 F28
  by_cases c33 : r3 < 0
  · skip
    have c33H := Lib.hid c33
    go_wp2_with fail
    have hw37 : IntKind.i64.wrap (-r3) = -r3 := IntWalk.i64_in _ (by omega)
    have F38 := F32.drew
    clear F32
    refine ru_begin (fun W => W.cell? ⟨(w.heap.size + 1), 0, none⟩ = some (.int .i64 ((opn l t d r18).bl)) ∧ W.cell? ⟨(w.heap.size + 1), 1, none⟩ = some (.int .i64 ((opn l t d r18).wh)) ∧ W.cell? ⟨(w.heap.size + 1), 2, none⟩ = some (.int .i64 ((opn l t d r18).we)) ∧ W.cell? ⟨(w.heap.size + 1), 3, none⟩ = some (.int .i64 ((opn l t d r18).sn)) ∧ W.cell? ⟨w.heap.size, 0, none⟩ = some (.int .i64 l.gr) ∧ W.cell? ⟨w.heap.size, 1, none⟩ = some (.int .i64 l.la) ∧ W.cell? ⟨w.heap.size, 2, none⟩ = some (.slice sa l.cov.length sc) ∧ W.cell? ⟨w.heap.size, 3, none⟩ = some (.int .i64 l.melt.lo) ∧ W.cell? ⟨w.heap.size, 4, none⟩ = some (.int .i64 l.melt.hi) ∧ W.cell? ⟨w.heap.size, 5, none⟩ = some (.int .i64 l.soak) ∧ W.cell? ⟨w.heap.size, 6, none⟩ = some (.int .i64 l.white.lo) ∧ W.cell? ⟨w.heap.size, 7, none⟩ = some (.int .i64 l.white.hi)) 8 (by kernel_rfl) ?_ ?_
    · exact ⟨F38.cl 0 0 rfl rfl, F38.cl 0 1 rfl rfl, F38.cl 0 2 rfl rfl, F38.cl 0 3 rfl rfl, F38.cl 2 0 rfl rfl, F38.cl 2 1 rfl rfl, F38.cl 2 2 rfl rfl, F38.cl 2 3 rfl rfl, F38.cl 2 4 rfl rfl, F38.cl 2 5 rfl rfl, F38.cl 2 6 rfl rfl, F38.cl 2 7 rfl rfl⟩
    obtain ⟨wd40, hwd_⟩ : ∃ x : World, w29.drew = x := ⟨_, rfl⟩
    rw [hwd_] at F38 ⊢
    have wd40s : w29.heap.size ≤ wd40.heap.size := by rw [← hwd_]; exact Nat.le_refl _
    clear hwd_
    have hS39 := (And.intro (F38.cl 0 0 rfl rfl) (And.intro (F38.cl 0 1 rfl rfl) (And.intro (F38.cl 0 2 rfl rfl) (And.intro (F38.cl 0 3 rfl rfl) (And.intro (F38.cl 2 0 rfl rfl) (And.intro (F38.cl 2 1 rfl rfl) (And.intro (F38.cl 2 2 rfl rfl) (And.intro (F38.cl 2 3 rfl rfl) (And.intro (F38.cl 2 4 rfl rfl) (And.intro (F38.cl 2 5 rfl rfl) (And.intro (F38.cl 2 6 rfl rfl) (F38.cl 2 7 rfl rfl))))))))))))
    refine ru_t 0 [] ?_
    refine ru_t 1 [] ?_
    refine ru_t 2 [] ?_
    refine ru_t 3 [] ?_
    refine ru_t 4 [] ?_
    (try simp only [Act.put, List.setIfInBounds_toArray, List.set_cons_zero, List.set_cons_succ])
    clear hS39
    refine ru_one 5 rfl (by kernel_rfl) (fun K hK => ?_)
    go_simp
    refine (thawed_c lo hi _ l (-r3) _ (F38.at 3 rfl : Sl covEnc 3 lo hi _ (.slice sa l.cov.length sc) l.cov) (Nat.le_trans h2 F38.gb.size) HL.out (by omega)).mono ?_
    rintro e w44 ⟨rfl, hg42⟩
    have hb41 := thW_bd HL.out (n := (-r3)) (by omega)
    have hb41l : (thW l (-r3)).lo ≤ (thW l (-r3)).hi := Int.le_trans (dn_mono (by omega) (Int.le_refl _) HL.out.melt.1 HL.out.melt.2.1) dn_le_upp
    have hg42s := hg42.size
    (try simp at hg42s)
    have F45 := F38.gn hg42
    clear F38
    refine ru_back hK (by exact ⟨F45.cl 0 0 rfl rfl, F45.cl 0 1 rfl rfl, F45.cl 0 2 rfl rfl, F45.cl 0 3 rfl rfl, F45.cl 2 0 rfl rfl, F45.cl 2 1 rfl rfl, F45.cl 2 2 rfl rfl, F45.cl 2 3 rfl rfl, F45.cl 2 4 rfl rfl, F45.cl 2 5 rfl rfl, F45.cl 2 6 rfl rfl, F45.cl 2 7 rfl rfl⟩) (fun hHeld => ?_)
    clear hK K
    (try simp only [Act.put, List.setIfInBounds_toArray, List.set_cons_zero, List.set_cons_succ])
    refine ru_one 6 rfl (by kernel_rfl) (fun K hK => ?_)
    go_simp
    refine (inside_c sb ((thW l (-r3)).lo) ((thW l (-r3)).hi) _ (F45.at 4 rfl : SeedAt _ sb) (by omega) (by omega) (by omega) (by omega)).mono ?_
    rintro e w50 ⟨r46, rfl, hr47, hs49, hg48⟩
    unfold insideR fromR at hr47; have hr47b : ((thW l (-r3)).lo) ≤ r46 ∧ r46 ≤ ((thW l (-r3)).hi) := (by omega); clear hr47
    have hg48s := hg48.size
    (try simp at hg48s)
    have F51 := F45.seedAt 4 rfl hg48 hs49
    clear F45
    refine ru_back hK (by exact ⟨F51.cl 0 0 rfl rfl, F51.cl 0 1 rfl rfl, F51.cl 0 2 rfl rfl, F51.cl 0 3 rfl rfl, F51.cl 2 0 rfl rfl, F51.cl 2 1 rfl rfl, F51.cl 2 2 rfl rfl, F51.cl 2 3 rfl rfl, F51.cl 2 4 rfl rfl, F51.cl 2 5 rfl rfl, F51.cl 2 6 rfl rfl, F51.cl 2 7 rfl rfl⟩) (fun hHeld => ?_)
    clear hK K
    (try simp only [Act.put, List.setIfInBounds_toArray, List.set_cons_zero, List.set_cons_succ])
    refine ru_one 7 rfl (by kernel_rfl) (fun K hK => ?_)
    go_simp
    refine (rmelted_c (opn l t d r18) k (k + 1) r46 _ HO.out (by omega) (by omega)).mono ?_
    rintro e w54 ⟨rfl, hg52⟩
    have hg52s := hg52.size
    (try simp at hg52s)
    have F55 := F51.gn hg52
    clear F51
    refine ru_back hK (by exact ⟨F55.cl 0 0 rfl rfl, F55.cl 0 1 rfl rfl, F55.cl 0 2 rfl rfl, F55.cl 0 3 rfl rfl, F55.cl 2 0 rfl rfl, F55.cl 2 1 rfl rfl, F55.cl 2 2 rfl rfl, F55.cl 2 3 rfl rfl, F55.cl 2 4 rfl rfl, F55.cl 2 5 rfl rfl, F55.cl 2 6 rfl rfl, F55.cl 2 7 rfl rfl⟩) (fun hHeld => ?_)
    clear hK K
    (try simp only [Act.put, List.setIfInBounds_toArray, List.set_cons_zero, List.set_cons_succ])
    refine ru_one 8 rfl (by kernel_rfl) (fun K hK => ?_)
    have kb_ := F55.bx4 1 rfl
    go_simp
    clear kb_
    have F56 := (F55.front 1 rfl rfl).pt4 (.int .i64 ((mlT (opn l t d r18) r46).bl)) (.int .i64 ((mlT (opn l t d r18) r46).wh)) (.int .i64 ((mlT (opn l t d r18) r46).we)) (.int .i64 ((mlT (opn l t d r18) r46).sn))
    clear F55
    refine ru_back_late hK (by kernel_rfl) ?_
    clear hK K
    (try simp only [Act.put, List.setIfInBounds_toArray, List.set_cons_zero, List.set_cons_succ])
    refine ru_done (by kernel_rfl) ?_
    (try clear hw37)
    obtain ⟨w57, hx58, F60, hxs59⟩ := (show Bus w sb [rbox (w.heap.size + 3) 48 #[.int .i64 ((mlT (opn l t d r18) r46).bl), .int .i64 ((mlT (opn l t d r18) r46).wh), .int .i64 ((mlT (opn l t d r18) r46).we), .int .i64 ((mlT (opn l t d r18) r46).sn)], rsl covEnc 3 lo hi (.slice sa l.cov.length sc) l.cov, rseed sb] _ from ((F56.drop 1 rfl).drop 1 rfl)).name
    (try simp at hxs59)
    rw [hx58]
    clear hx58 F56
    go_wp2_with fail
    have kb61 := F60.bx4 0 rfl
    go_wp2_with fail
    exact bodyPost_ret (v := .agg #[.int .i64 ((mlT (opn l t d r18) r46).bl), .int .i64 ((mlT (opn l t d r18) r46).wh), .int .i64 ((mlT (opn l t d r18) r46).we), .int .i64 ((mlT (opn l t d r18) r46).sn)]) (by simp [results, Try.results50, go_sem, kb61]) rfl (⟨(mlT (opn l t d r18) r46), rfl, fun x_ k_ hxk hin => aft_warm HL.out hxk HD.out hin (by omega) (by omega) (by omega) (by omega), (F60.at 2 rfl : SeedAt _ sb), F60.gb⟩)
  · skip
    have c33H := Lib.hid c33
    have c33a : decide (r3 < 0) = false := dec_f c33
    go_wp2_with fail
    have F66 := F32.drew
    clear F32
    refine ru_begin (fun W => W.cell? ⟨w.heap.size, 0, none⟩ = some (.int .i64 l.gr) ∧ W.cell? ⟨w.heap.size, 1, none⟩ = some (.int .i64 l.la) ∧ W.cell? ⟨w.heap.size, 2, none⟩ = some (.slice sa l.cov.length sc) ∧ W.cell? ⟨w.heap.size, 3, none⟩ = some (.int .i64 l.melt.lo) ∧ W.cell? ⟨w.heap.size, 4, none⟩ = some (.int .i64 l.melt.hi) ∧ W.cell? ⟨w.heap.size, 5, none⟩ = some (.int .i64 l.soak) ∧ W.cell? ⟨w.heap.size, 6, none⟩ = some (.int .i64 l.white.lo) ∧ W.cell? ⟨w.heap.size, 7, none⟩ = some (.int .i64 l.white.hi) ∧ W.cell? ⟨(w.heap.size + 1), 0, none⟩ = some (.int .i64 ((opn l t d r18).bl)) ∧ W.cell? ⟨(w.heap.size + 1), 1, none⟩ = some (.int .i64 ((opn l t d r18).wh)) ∧ W.cell? ⟨(w.heap.size + 1), 2, none⟩ = some (.int .i64 ((opn l t d r18).we)) ∧ W.cell? ⟨(w.heap.size + 1), 3, none⟩ = some (.int .i64 ((opn l t d r18).sn))) 12 (by kernel_rfl) ?_ ?_
    · exact ⟨F66.cl 2 0 rfl rfl, F66.cl 2 1 rfl rfl, F66.cl 2 2 rfl rfl, F66.cl 2 3 rfl rfl, F66.cl 2 4 rfl rfl, F66.cl 2 5 rfl rfl, F66.cl 2 6 rfl rfl, F66.cl 2 7 rfl rfl, F66.cl 0 0 rfl rfl, F66.cl 0 1 rfl rfl, F66.cl 0 2 rfl rfl, F66.cl 0 3 rfl rfl⟩
    obtain ⟨wd68, hwd_⟩ : ∃ x : World, w29.drew = x := ⟨_, rfl⟩
    rw [hwd_] at F66 ⊢
    have wd68s : w29.heap.size ≤ wd68.heap.size := by rw [← hwd_]; exact Nat.le_refl _
    clear hwd_
    have hS67 := (And.intro (F66.cl 2 0 rfl rfl) (And.intro (F66.cl 2 1 rfl rfl) (And.intro (F66.cl 2 2 rfl rfl) (And.intro (F66.cl 2 3 rfl rfl) (And.intro (F66.cl 2 4 rfl rfl) (And.intro (F66.cl 2 5 rfl rfl) (And.intro (F66.cl 2 6 rfl rfl) (And.intro (F66.cl 2 7 rfl rfl) (And.intro (F66.cl 0 0 rfl rfl) (And.intro (F66.cl 0 1 rfl rfl) (And.intro (F66.cl 0 2 rfl rfl) (F66.cl 0 3 rfl rfl))))))))))))
    refine ru_t 0 [] ?_
    refine ru_t 1 [] ?_
    refine ru_t 2 [] ?_
    refine ru_t 3 [] ?_
    refine ru_t 4 [] ?_
    refine ru_t 5 [] ?_
    refine ru_t 6 [] ?_
    refine ru_t 9 [] ?_
    (try simp only [Act.put, List.setIfInBounds_toArray, List.set_cons_zero, List.set_cons_succ])
    clear hS67
    refine ru_one 7 rfl (by kernel_rfl) (fun K hK => ?_)
    go_simp
    refine (rthrough_c lo hi _ l ((opn l t d r18).sn) r3 _ (F66.at 3 rfl : Sl covEnc 3 lo hi _ (.slice sa l.cov.length sc) l.cov) (Nat.le_trans h2 F66.gb.size) HL.out (by omega)).mono ?_
    rintro e w72 ⟨rfl, hg70⟩
    have hb69 := thC_bd HL.out ((opn l t d r18).sn) (c := r3) (by omega)
    have hb69l : (thC l ((opn l t d r18).sn) r3).lo ≤ (thC l ((opn l t d r18).sn) r3).hi := Int.le_trans (dn_mono (by omega) (Int.le_refl _) (thr_ok HL.out _).1 (thr_ok HL.out _).2.1) dn_le_upp
    have hg70s := hg70.size
    (try simp at hg70s)
    have F73 := F66.gn hg70
    clear F66
    refine ru_back hK (by exact ⟨F73.cl 2 0 rfl rfl, F73.cl 2 1 rfl rfl, F73.cl 2 2 rfl rfl, F73.cl 2 3 rfl rfl, F73.cl 2 4 rfl rfl, F73.cl 2 5 rfl rfl, F73.cl 2 6 rfl rfl, F73.cl 2 7 rfl rfl, F73.cl 0 0 rfl rfl, F73.cl 0 1 rfl rfl, F73.cl 0 2 rfl rfl, F73.cl 0 3 rfl rfl⟩) (fun hHeld => ?_)
    clear hK K
    (try simp only [Act.put, List.setIfInBounds_toArray, List.set_cons_zero, List.set_cons_succ])
    refine ru_one 8 rfl (by kernel_rfl) (fun K hK => ?_)
    go_simp
    refine (inside_c sb ((thC l ((opn l t d r18).sn) r3).lo) ((thC l ((opn l t d r18).sn) r3).hi) _ (F73.at 4 rfl : SeedAt _ sb) (by omega) (by omega) (by omega) (by omega)).mono ?_
    rintro e w78 ⟨r74, rfl, hr75, hs77, hg76⟩
    unfold insideR fromR at hr75; have hr75b : ((thC l ((opn l t d r18).sn) r3).lo) ≤ r74 ∧ r74 ≤ ((thC l ((opn l t d r18).sn) r3).hi) := (by omega); clear hr75
    have hg76s := hg76.size
    (try simp at hg76s)
    have F79 := F73.seedAt 4 rfl hg76 hs77
    clear F73
    refine ru_back hK (by exact ⟨F79.cl 2 0 rfl rfl, F79.cl 2 1 rfl rfl, F79.cl 2 2 rfl rfl, F79.cl 2 3 rfl rfl, F79.cl 2 4 rfl rfl, F79.cl 2 5 rfl rfl, F79.cl 2 6 rfl rfl, F79.cl 2 7 rfl rfl, F79.cl 0 0 rfl rfl, F79.cl 0 1 rfl rfl, F79.cl 0 2 rfl rfl, F79.cl 0 3 rfl rfl⟩) (fun hHeld => ?_)
    clear hK K
    (try simp only [Act.put, List.setIfInBounds_toArray, List.set_cons_zero, List.set_cons_succ])
    refine ru_one 10 rfl (by kernel_rfl) (fun K hK => ?_)
    go_simp
    refine (yes_c sb 2 _ (F79.at 4 rfl : SeedAt _ sb) (by omega) (by omega)).mono ?_
    rintro e w83 ⟨yb80, rfl, hs82, hg81⟩
    have hg81s := hg81.size
    (try simp at hg81s)
    have F84 := F79.seedAt 4 rfl hg81 hs82
    clear F79
    refine ru_back hK (by exact ⟨F84.cl 2 0 rfl rfl, F84.cl 2 1 rfl rfl, F84.cl 2 2 rfl rfl, F84.cl 2 3 rfl rfl, F84.cl 2 4 rfl rfl, F84.cl 2 5 rfl rfl, F84.cl 2 6 rfl rfl, F84.cl 2 7 rfl rfl, F84.cl 0 0 rfl rfl, F84.cl 0 1 rfl rfl, F84.cl 0 2 rfl rfl, F84.cl 0 3 rfl rfl⟩) (fun hHeld => ?_)
    clear hK K
    (try simp only [Act.put, List.setIfInBounds_toArray, List.set_cons_zero, List.set_cons_succ])
    refine ru_one 11 rfl (by kernel_rfl) (fun K hK => ?_)
    go_simp
    refine (rfrozen_c lo hi _ l (opn l t d r18) k (k + 1) r74 yb80 _ (F84.at 3 rfl : Sl covEnc 3 lo hi _ (.slice sa l.cov.length sc) l.cov) (Nat.le_trans h2 F84.gb.size) HL.out HO.out (by omega) (by omega)).mono ?_
    rintro e w87 ⟨rfl, hg85⟩
    have hg85s := hg85.size
    (try simp at hg85s)
    have F88 := F84.gn hg85
    clear F84
    refine ru_back hK (by exact ⟨F88.cl 2 0 rfl rfl, F88.cl 2 1 rfl rfl, F88.cl 2 2 rfl rfl, F88.cl 2 3 rfl rfl, F88.cl 2 4 rfl rfl, F88.cl 2 5 rfl rfl, F88.cl 2 6 rfl rfl, F88.cl 2 7 rfl rfl, F88.cl 0 0 rfl rfl, F88.cl 0 1 rfl rfl, F88.cl 0 2 rfl rfl, F88.cl 0 3 rfl rfl⟩) (fun hHeld => ?_)
    clear hK K
    (try simp only [Act.put, List.setIfInBounds_toArray, List.set_cons_zero, List.set_cons_succ])
    refine ru_one 12 rfl (by kernel_rfl) (fun K hK => ?_)
    have kb_ := F88.bx4 1 rfl
    go_simp
    clear kb_
    have F89 := (F88.front 1 rfl rfl).pt4 (.int .i64 ((frT l (opn l t d r18) r74 yb80).bl)) (.int .i64 ((frT l (opn l t d r18) r74 yb80).wh)) (.int .i64 ((frT l (opn l t d r18) r74 yb80).we)) (.int .i64 ((frT l (opn l t d r18) r74 yb80).sn))
    clear F88
    refine ru_back_late hK (by kernel_rfl) ?_
    clear hK K
    (try simp only [Act.put, List.setIfInBounds_toArray, List.set_cons_zero, List.set_cons_succ])
    refine ru_done (by kernel_rfl) ?_
    obtain ⟨w90, hx91, F93, hxs92⟩ := (show Bus w sb [rbox (w.heap.size + 3) 48 #[.int .i64 ((frT l (opn l t d r18) r74 yb80).bl), .int .i64 ((frT l (opn l t d r18) r74 yb80).wh), .int .i64 ((frT l (opn l t d r18) r74 yb80).we), .int .i64 ((frT l (opn l t d r18) r74 yb80).sn)], rsl covEnc 3 lo hi (.slice sa l.cov.length sc) l.cov, rseed sb] _ from ((F89.drop 1 rfl).drop 1 rfl)).name
    (try simp at hxs92)
    rw [hx91]
    clear hx91 F89
    go_wp2_with fail
    have kb94 := F93.bx4 0 rfl
    go_wp2_with fail
    exact bodyPost_ret (v := .agg #[.int .i64 ((frT l (opn l t d r18) r74 yb80).bl), .int .i64 ((frT l (opn l t d r18) r74 yb80).wh), .int .i64 ((frT l (opn l t d r18) r74 yb80).we), .int .i64 ((frT l (opn l t d r18) r74 yb80).sn)]) (by simp [results, Try.results50, go_sem, kb94]) rfl (⟨(frT l (opn l t d r18) r74 yb80), rfl, fun x_ k_ hxk hin => aft_frost HL.out HF.out hxk HD.out hin (by omega) (by omega) (by omega) (by omega), (F93.at 2 rfl : SeedAt _ sb), F93.gb⟩)

end Go.Proofs.Ythblaiefalbomaa
