/- the kit of frost: true ice after a day, made of numbers. -/
import Derived.Test.YtdgplekokdeafaaGreatPF29
import Derived.Test.YtdgplekokdeafaaGreatPKF2
import Derived.Test.YtdgplekokdeafaaGreatPK1
set_option linter.unusedVariables false
set_option linter.unusedSimpArgs false
set_option linter.unnecessarySimpa false
namespace Go.Proofs.YtdgplekokdeafaaGreat
open Go.RowKit
set_option maxRecDepth 100000
def AfterPost (sb : Nat) (l : Fro) (t : Tr) (d : Wea) (w : World) : Ending -> World -> Prop := fun e w' => ∃ u : Tr, e = .returned (.agg #[.int .i64 u.bl, .int .i64 u.wh, .int .i64 u.we, .int .i64 u.sn]) /\ (∀ (x : Ice) (k : Int), IceK x k k -> inI t x -> inI u (aft l x d)) /\ SeedAt w' sb /\ w.grownBy w' (some sb)
set_option maxHeartbeats 16000000 in
theorem afterK_c (sb lo hi : Nat) (v : Value) (l : Fro) (t : Tr) (k : Int) (d : Wea) (w : World) (hs : SeedAt w sb) (hl : Sl covEnc 3 lo hi w v l.cov) (h2 : hi <= w.heap.size) (hxs : ¬ (lo <= sb /\ sb < hi)) (hL : LawOk l) (hF : Falls l.cov) (ht : TrK t k k) (hk : 0 <= k /\ k <= 400) (hd : WeaOk d) :
  Calls Tryz.prog 13 #[.pointer (some ⟨sb, 0, none⟩), .agg (froC l v), .agg #[.int .i64 t.bl, .int .i64 t.wh, .int .i64 t.we, .int .i64 t.sn], .agg (weaC d d.clear)] w (AfterPost sb l t d w) := by
 have F1 : Bus w sb [rseed sb] w := Bus.ofSeed hs
 have hsl := hs.lt
 clear hs
 have hm_cs := hl.len
 unfold maxLen at hm_cs
 obtain ⟨sa, sc, rfl⟩ := hl.any
 replace F1 := F1.sl0 hl h2 hxs (onlyS_seed _)
 clear hl
 have HL := lhd hL
 have HF := lhd hF
 have HT := lhd ht
 have HD := lhd hd
 have hdc := hd.cold
 have hdf := hd.fall
 clear hL hF ht hd
 go_enter Tryz.func13, Tryz.ntmps13
 go_wp2_with fail
 replace F1 := F1.new 29 (froC l (.slice sa l.cov.length sc)) (n := w.heap.size) (by simp)
 replace F1 := F1.new 47 #[.int .i64 t.bl, .int .i64 t.wh, .int .i64 t.we, .int .i64 t.sn] (n := (w.heap.size + 1)) (by simp)
 replace F1 := F1.new 51 (weaC d d.clear) (n := (w.heap.size + 2)) (by simp)
 replace F1 := F1.new 47 #[.int .i64 0, .int .i64 0, .int .i64 0, .int .i64 0] (n := (w.heap.size + 3)) (by simp)
 refine (inside_c sb d.cold.lo d.cold.hi _ (F1.e 5 rfl) (by omega) (by omega) (by omega) (by omega)).mono ?_
 rintro e w11 ⟨r3, rfl, hr4, hs10, hg9⟩
 unfold insideR fromR at hr4; have hr4b : d.cold.lo <= r3 /\ r3 <= d.cold.hi := (by omega); clear hr4
 have hg9s := hg9.size
 (try simp at hg9s)
 replace F1 := F1.seedAt 5 rfl hg9 hs10
 clear hg9
 go_wp2_with fail
 replace F1 := F1.drew
 refine ru_begin (fun W => C8 W w.heap.size (.int .i64 l.gr) (.int .i64 l.la) (.slice sa l.cov.length sc) (.int .i64 l.melt.lo) (.int .i64 l.melt.hi) (.int .i64 l.soak) (.int .i64 l.white.lo) (.int .i64 l.white.hi) /\ C4 W (w.heap.size + 1) (.int .i64 t.bl) (.int .i64 t.wh) (.int .i64 t.we) (.int .i64 t.sn) /\ C6 W (w.heap.size + 2) (.int .i64 d.cold.lo) (.int .i64 d.cold.hi) (.int .i64 d.fall.lo) (.int .i64 d.fall.hi) (.int .i64 d.water) (.bool d.clear)) 8 (by kernel_rfl) ?_ ?_
 · exact ⟨F1.c8 3, F1.c4 2, F1.c6 1⟩
 obtain ⟨wd17, hwd_⟩ : ∃ x : World, w11.drew = x := ⟨_, rfl⟩
 rw [hwd_] at F1 ⊢
 have wd17s : w11.heap.size <= wd17.heap.size := by rw [← hwd_]; exact Nat.le_refl _
 clear hwd_
 have hS16 := (And.intro (F1.c8 3) (And.intro (F1.c4 2) (F1.c6 1)))
 refine ru_t 0 [] ?_
 refine ru_t 1 [] ?_
 refine ru_t 2 [] ?_
 refine ru_t 3 [] ?_
 refine ru_t 4 [] ?_
 refine ru_t 5 [] ?_
 (try simp only [lpX])
 clear hS16
 refine ru_o 6 fun K hK => ?_
 go_simp
 refine (inside_c sb d.fall.lo d.fall.hi _ (F1.e 5 rfl) (by omega) (by omega) (by omega) (by omega)).mono ?_
 rintro e w22 ⟨r18, rfl, hr19, hs21, hg20⟩
 unfold insideR fromR at hr19; have hr19b : d.fall.lo <= r18 /\ r18 <= d.fall.hi := (by omega); clear hr19
 have hg20s := hg20.size
 (try simp at hg20s)
 replace F1 := F1.seedAt 5 rfl hg20 hs21
 refine ru_back hK (by exact ⟨F1.c8 3, F1.c4 2, F1.c6 1⟩) (fun _ => ?_)
 clear hK K
 (try simp only [lpX])
 refine ru_o 7 fun K hK => ?_
 go_simp
 refine (opened_c lo hi _ l t k k d r18 _ (F1.s 4 rfl) (Nat.le_trans h2 F1.gb.size) HL.out HT.out (by omega) HD.out (by omega)).mono ?_
 rintro e w26 ⟨rfl, hg24⟩
 have HO := lhd (opn_K HL.out HT.out HD.out (f := r18) (by omega))
 have hg24s := hg24.size
 (try simp at hg24s)
 replace F1 := F1.gn hg24
 refine ru_back hK (by exact ⟨F1.c8 3, F1.c4 2, F1.c6 1⟩) (fun _ => ?_)
 clear hK K
 (try simp only [lpX])
 refine ru_o 8 fun K hK => ?_
 have kb_ := F1.bx4 2 rfl
 go_simp
 clear kb_
 have F28 := (F1.front 2 rfl rfl).pt4 (.int .i64 ((opn l t d r18).bl)) (.int .i64 ((opn l t d r18).wh)) (.int .i64 ((opn l t d r18).we)) (.int .i64 ((opn l t d r18).sn))
 clear F1
 refine ru_back_late hK (by kernel_rfl) ?_
 clear hK K
 (try simp only [lpX])
 refine ru_done (by kernel_rfl) ?_
 have Fn_ := (F28.drop 2 rfl)
 (try dsimp only [lpF, lpG] at Fn_)
 obtain ⟨w29, hx30, F32, hxs31⟩ := Fn_.name
 (try simp at hxs31)
 rw [hx30]
 clear hx30 F28 Fn_
 by_cases c33 : r3 < 0
 ·
  have c33H := lhd c33
  go_wp2_with fail
  have hw37 : IntKind.i64.wrap (-r3) = -r3 := IntWalk.i64_in _ (by omega)
  replace F32 := F32.drew
  refine ru_begin (fun W => C4 W (w.heap.size + 1) (.int .i64 ((opn l t d r18).bl)) (.int .i64 ((opn l t d r18).wh)) (.int .i64 ((opn l t d r18).we)) (.int .i64 ((opn l t d r18).sn)) /\ C8 W w.heap.size (.int .i64 l.gr) (.int .i64 l.la) (.slice sa l.cov.length sc) (.int .i64 l.melt.lo) (.int .i64 l.melt.hi) (.int .i64 l.soak) (.int .i64 l.white.lo) (.int .i64 l.white.hi)) 8 (by kernel_rfl) ?_ ?_
  · exact ⟨F32.c4 0, F32.c8 2⟩
  obtain ⟨wd40, hwd_⟩ : ∃ x : World, w29.drew = x := ⟨_, rfl⟩
  rw [hwd_] at F32 ⊢
  have wd40s : w29.heap.size <= wd40.heap.size := by rw [← hwd_]; exact Nat.le_refl _
  clear hwd_
  have hS39 := (And.intro (F32.c4 0) (F32.c8 2))
  refine ru_t 0 [] ?_
  refine ru_t 1 [] ?_
  refine ru_t 2 [] ?_
  refine ru_t 3 [] ?_
  refine ru_t 4 [] ?_
  (try simp only [lpX])
  clear hS39
  refine ru_o 5 fun K hK => ?_
  go_simp
  refine (thawed_c lo hi _ l (-r3) _ (F32.s 3 rfl) (Nat.le_trans h2 F32.gb.size) HL.out (by omega)).mono ?_
  rintro e w44 ⟨rfl, hg42⟩
  have hb41 := thW_bd HL.out (n := (-r3)) (by omega)
  have hb41l : (thW l (-r3)).lo <= (thW l (-r3)).hi := Int.le_trans (dn_mono (by omega) (Int.le_refl _) HL.out.melt.1 HL.out.melt.2.1) dn_le_upp
  have hg42s := hg42.size
  (try simp at hg42s)
  replace F32 := F32.gn hg42
  refine ru_back hK (by exact ⟨F32.c4 0, F32.c8 2⟩) (fun _ => ?_)
  clear hK K
  (try simp only [lpX])
  refine ru_o 6 fun K hK => ?_
  go_simp
  refine (inside_c sb ((thW l (-r3)).lo) ((thW l (-r3)).hi) _ (F32.e 4 rfl) (by omega) (by omega) (by omega) (by omega)).mono ?_
  rintro e w50 ⟨r46, rfl, hr47, hs49, hg48⟩
  unfold insideR fromR at hr47; have hr47b : ((thW l (-r3)).lo) <= r46 /\ r46 <= ((thW l (-r3)).hi) := (by omega); clear hr47
  have hg48s := hg48.size
  (try simp at hg48s)
  replace F32 := F32.seedAt 4 rfl hg48 hs49
  refine ru_back hK (by exact ⟨F32.c4 0, F32.c8 2⟩) (fun _ => ?_)
  clear hK K
  (try simp only [lpX])
  refine ru_o 7 fun K hK => ?_
  go_simp
  refine (rmelted_c (opn l t d r18) k (k + 1) r46 _ HO.out (by omega) (by omega)).mono ?_
  rintro e w54 ⟨rfl, hg52⟩
  have hg52s := hg52.size
  (try simp at hg52s)
  replace F32 := F32.gn hg52
  refine ru_back hK (by exact ⟨F32.c4 0, F32.c8 2⟩) (fun _ => ?_)
  clear hK K
  (try simp only [lpX])
  refine ru_o 8 fun K hK => ?_
  have kb_ := F32.bx4 1 rfl
  go_simp
  clear kb_
  have F56 := (F32.front 1 rfl rfl).pt4 (.int .i64 ((mlT (opn l t d r18) r46).bl)) (.int .i64 ((mlT (opn l t d r18) r46).wh)) (.int .i64 ((mlT (opn l t d r18) r46).we)) (.int .i64 ((mlT (opn l t d r18) r46).sn))
  clear F32
  refine ru_back_late hK (by kernel_rfl) ?_
  clear hK K
  (try simp only [lpX])
  refine ru_done (by kernel_rfl) ?_
  (try clear hw37)
  have Fn_ := ((F56.drop 1 rfl).drop 1 rfl)
  (try dsimp only [lpF, lpG] at Fn_)
  obtain ⟨w57, hx58, F60, hxs59⟩ := Fn_.name
  (try simp at hxs59)
  rw [hx58]
  clear hx58 F56 Fn_
  go_wp2_with fail
  have kb61 := F60.bx4 0 rfl
  go_wp2_with fail
  exact bodyPost_ret (v := .agg #[.int .i64 ((mlT (opn l t d r18) r46).bl), .int .i64 ((mlT (opn l t d r18) r46).wh), .int .i64 ((mlT (opn l t d r18) r46).we), .int .i64 ((mlT (opn l t d r18) r46).sn)]) (by simp [results, Tryz.results13, go_sem, kb61]) rfl (⟨(mlT (opn l t d r18) r46), rfl, fun x_ k_ hxk hin => aft_warm HL.out hxk HD.out hin (by omega) (by omega) (by omega) (by omega), (F60.e 2 rfl), F60.gb⟩)
 have c33H := lhd c33
 have c33a := dec_f c33
 go_wp2_with fail
 replace F32 := F32.drew
 refine ru_begin (fun W => C8 W w.heap.size (.int .i64 l.gr) (.int .i64 l.la) (.slice sa l.cov.length sc) (.int .i64 l.melt.lo) (.int .i64 l.melt.hi) (.int .i64 l.soak) (.int .i64 l.white.lo) (.int .i64 l.white.hi) /\ C4 W (w.heap.size + 1) (.int .i64 ((opn l t d r18).bl)) (.int .i64 ((opn l t d r18).wh)) (.int .i64 ((opn l t d r18).we)) (.int .i64 ((opn l t d r18).sn))) 12 (by kernel_rfl) ?_ ?_
 · exact ⟨F32.c8 2, F32.c4 0⟩
 obtain ⟨wd68, hwd_⟩ : ∃ x : World, w29.drew = x := ⟨_, rfl⟩
 rw [hwd_] at F32 ⊢
 have wd68s : w29.heap.size <= wd68.heap.size := by rw [← hwd_]; exact Nat.le_refl _
 clear hwd_
 have hS67 := (And.intro (F32.c8 2) (F32.c4 0))
 refine ru_t 0 [] ?_
 refine ru_t 1 [] ?_
 refine ru_t 2 [] ?_
 refine ru_t 3 [] ?_
 refine ru_t 4 [] ?_
 refine ru_t 5 [] ?_
 refine ru_t 6 [] ?_
 refine ru_t 9 [] ?_
 (try simp only [lpX])
 clear hS67
 refine ru_o 7 fun K hK => ?_
 go_simp
 refine (rthrough_c lo hi _ l ((opn l t d r18).sn) r3 _ (F32.s 3 rfl) (Nat.le_trans h2 F32.gb.size) HL.out (by omega)).mono ?_
 rintro e w72 ⟨rfl, hg70⟩
 have hb69 := thC_bd HL.out ((opn l t d r18).sn) (c := r3) (by omega)
 have hb69l : (thC l ((opn l t d r18).sn) r3).lo <= (thC l ((opn l t d r18).sn) r3).hi := Int.le_trans (dn_mono (by omega) (Int.le_refl _) (thr_ok HL.out _).1 (thr_ok HL.out _).2.1) dn_le_upp
 have hg70s := hg70.size
 (try simp at hg70s)
 replace F32 := F32.gn hg70
 refine ru_back hK (by exact ⟨F32.c8 2, F32.c4 0⟩) (fun _ => ?_)
 clear hK K
 (try simp only [lpX])
 refine ru_o 8 fun K hK => ?_
 go_simp
 refine (inside_c sb ((thC l ((opn l t d r18).sn) r3).lo) ((thC l ((opn l t d r18).sn) r3).hi) _ (F32.e 4 rfl) (by omega) (by omega) (by omega) (by omega)).mono ?_
 rintro e w78 ⟨r74, rfl, hr75, hs77, hg76⟩
 unfold insideR fromR at hr75; have hr75b : ((thC l ((opn l t d r18).sn) r3).lo) <= r74 /\ r74 <= ((thC l ((opn l t d r18).sn) r3).hi) := (by omega); clear hr75
 have hg76s := hg76.size
 (try simp at hg76s)
 replace F32 := F32.seedAt 4 rfl hg76 hs77
 refine ru_back hK (by exact ⟨F32.c8 2, F32.c4 0⟩) (fun _ => ?_)
 clear hK K
 (try simp only [lpX])
 refine ru_o 10 fun K hK => ?_
 go_simp
 refine (yes_c sb 2 _ (F32.e 4 rfl) (by omega) (by omega)).mono ?_
 rintro e w83 ⟨yb80, rfl, hs82, hg81⟩
 have hg81s := hg81.size
 (try simp at hg81s)
 replace F32 := F32.seedAt 4 rfl hg81 hs82
 refine ru_back hK (by exact ⟨F32.c8 2, F32.c4 0⟩) (fun _ => ?_)
 clear hK K
 (try simp only [lpX])
 refine ru_o 11 fun K hK => ?_
 go_simp
 refine (rfrozen_c lo hi _ l (opn l t d r18) k (k + 1) r74 yb80 _ (F32.s 3 rfl) (Nat.le_trans h2 F32.gb.size) HL.out HO.out (by omega) (by omega)).mono ?_
 rintro e w87 ⟨rfl, hg85⟩
 have hg85s := hg85.size
 (try simp at hg85s)
 replace F32 := F32.gn hg85
 refine ru_back hK (by exact ⟨F32.c8 2, F32.c4 0⟩) (fun _ => ?_)
 clear hK K
 (try simp only [lpX])
 refine ru_o 12 fun K hK => ?_
 have kb_ := F32.bx4 1 rfl
 go_simp
 clear kb_
 have F89 := (F32.front 1 rfl rfl).pt4 (.int .i64 ((frT l (opn l t d r18) r74 yb80).bl)) (.int .i64 ((frT l (opn l t d r18) r74 yb80).wh)) (.int .i64 ((frT l (opn l t d r18) r74 yb80).we)) (.int .i64 ((frT l (opn l t d r18) r74 yb80).sn))
 clear F32
 refine ru_back_late hK (by kernel_rfl) ?_
 clear hK K
 (try simp only [lpX])
 refine ru_done (by kernel_rfl) ?_
 have Fn_ := ((F89.drop 1 rfl).drop 1 rfl)
 (try dsimp only [lpF, lpG] at Fn_)
 obtain ⟨w90, hx91, F93, hxs92⟩ := Fn_.name
 (try simp at hxs92)
 rw [hx91]
 clear hx91 F89 Fn_
 go_wp2_with fail
 have kb94 := F93.bx4 0 rfl
 go_wp2_with fail
 exact bodyPost_ret (v := .agg #[.int .i64 ((frT l (opn l t d r18) r74 yb80).bl), .int .i64 ((frT l (opn l t d r18) r74 yb80).wh), .int .i64 ((frT l (opn l t d r18) r74 yb80).we), .int .i64 ((frT l (opn l t d r18) r74 yb80).sn)]) (by simp [results, Tryz.results13, go_sem, kb94]) rfl (⟨(frT l (opn l t d r18) r74 yb80), rfl, fun x_ k_ hxk hin => aft_frost HL.out HF.out hxk HD.out hin (by omega) (by omega) (by omega) (by omega), (F93.e 2 rfl), F93.gb⟩)
end Go.Proofs.YtdgplekokdeafaaGreat
