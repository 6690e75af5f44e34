/- sastrugikit.TankOf: a valid tank made of numbers. -/
import Derived.Test.YtfifldbinnkdmaaApp
import Derived.Test.YtfifldbinnkdmaaSeed3
import Derived.Test.YtfifldbinnkdmaaTank1
import Derived.Test.YtfifldbinnkdmaaReg
namespace Go.Proofs.Ytfifldbinnkdmaa
open Go.RowKit

/-- Heights and litres of a tank as it is made: n of them. -/
def TankInv (hs ls : List Int) (n : Nat) : Prop := hs.length = n ∧ ls.length = n ∧ 0 < n ∧ n ≤ 6 ∧
  (∀ i, i < n → (0 ≤ gi hs i ∧ gi hs i ≤ 20 + 40 * i) ∧ 0 ≤ gi ls i ∧ gi ls i ≤ 100 + 5000 * i) ∧ (∀ i, 0 < i → i < n → gi hs (i - 1) < gi hs i ∧ gi ls (i - 1) ≤ gi ls i)
theorem gi_app_l {l : List Int} {x : Int} {i : Nat} (h : i < l.length) : gi (l ++ [x]) i = gi l i := by
  simp only [gi, List.getD_eq_getElem?_getD]
  rw [List.getElem?_append_left h]
theorem gi_app_r {l : List Int} {x : Int} : gi (l ++ [x]) l.length = x := by
  simp only [gi, List.getD_eq_getElem?_getD]
  rw [List.getElem?_append_right (Nat.le_refl _)]
  simp
theorem TankInv.step {hs ls : List Int} {n : Nat} (h : TankInv hs ls n) {x y : Int} (hx : 1 ≤ x ∧ x ≤ 40) (hy : 0 ≤ y ∧ y ≤ 5000) (hn : n ≤ 5) : TankInv (hs ++ [gi hs (n - 1) + x]) (ls ++ [gi ls (n - 1) + y]) (n + 1) := by
  obtain ⟨h1, h2, h3, h4, h5, h6⟩ := h
  refine ⟨by simp [h1], by simp [h2], by omega, by omega, fun i hi => ?_, fun i h0 hi => ?_⟩
  · rcases Nat.lt_or_ge i n with hin | hin
    · rw [gi_app_l (by omega), gi_app_l (by omega)]
      exact h5 i hin
    · obtain rfl : i = n := by omega
      have ha : gi (hs ++ [gi hs (i - 1) + x]) i = gi hs (i - 1) + x := by have := gi_app_r (l := hs) (x := gi hs (i - 1) + x); rwa [h1] at this
      have hb : gi (ls ++ [gi ls (i - 1) + y]) i = gi ls (i - 1) + y := by have := gi_app_r (l := ls) (x := gi ls (i - 1) + y); rwa [h2] at this
      have := h5 (i - 1) (by omega)
      rw [ha, hb]
      omega
  · rcases Nat.lt_or_ge i n with hin | hin
    · rw [gi_app_l (by omega), gi_app_l (by omega), gi_app_l (by omega), gi_app_l (by omega)]
      exact h6 i h0 hin
    · obtain rfl : i = n := by omega
      have ha : gi (hs ++ [gi hs (i - 1) + x]) i = gi hs (i - 1) + x := by have := gi_app_r (l := hs) (x := gi hs (i - 1) + x); rwa [h1] at this
      have hb : gi (ls ++ [gi ls (i - 1) + y]) i = gi ls (i - 1) + y := by have := gi_app_r (l := ls) (x := gi ls (i - 1) + y); rwa [h2] at this
      rw [ha, hb, gi_app_l (by omega), gi_app_l (by omega)]
      omega

/-- What TankOf hands back. -/
def tankOfR (lo : Nat) (v : Value) (w' : World) : Prop := ∃ vh vl hs ls n, v = .agg #[vh, vl] ∧ Ints lo w'.heap.size w' vh hs ∧ Ints lo w'.heap.size w' vl ls ∧ TankInv hs ls n ∧ 2 ≤ n

/-- What holds at the head of each round: the tank's own block T, its two rows, the seed. -/
def TankRel (b base T N : Nat) (w0 : World) (i : Value) (wr : World) : Prop :=
  ∃ (k n g cap g' cap' : Nat) (hs ls : List Int), i = .int .i64 k ∧ n + k = N ∧ Bk wr T 51 #[.slice (some ⟨g, 0, none⟩) n cap, .slice (some ⟨g', 0, none⟩) n cap'] ∧
    Own intEnc 3 1 base wr (.slice (some ⟨g, 0, none⟩) n cap) hs ∧ Own intEnc 3 1 base wr (.slice (some ⟨g', 0, none⟩) n cap') ls ∧ g ≠ g' ∧ TankInv hs ls n ∧ SeedAt wr b ∧
    Bk wr base 51 #[.slice none 0 0, .slice none 0 0] ∧ w0.grownBy wr (some b)
theorem Own.of_new (w : World) (base : Nat) (x : Int) (hb : base ≤ w.heap.size) : Own intEnc 3 1 base (w.alloc (.cells #[.int .i64 x] 3)) (.slice (some ⟨w.heap.size, 0, none⟩) 1 1) [x] :=
  ⟨rfl, .inr ⟨w.heap.size, 1, #[.int .i64 x], rfl, hb, Bk.new w _ _, Nat.le_refl _, by simp [maxLen], rfl, rfl⟩⟩

set_option maxRecDepth 100000 in
set_option maxHeartbeats 4000000 in
theorem tankOf_c (b : Nat) (w : World) (hs : SeedAt w b) :
    Calls Try.prog 27 #[.pointer (some ⟨b, 0, none⟩)] w (GenV (tankOfR w.heap.size) b w) := by
  have hbl := hs.lt
  go_enter Try.func27, Try.ntmps27
  go_wp2_with fail
  refine (below_c b 20 _ (hs.alloc _) (by omega) (by omega)).mono ?_
  rintro e w1 ⟨x, rfl, ⟨hx1, hx2⟩, hs1, hg1⟩
  have hne : some w.heap.size ≠ some b := by simp; omega
  have hO := (Bk.new w 51 #[.slice none 0 0, .slice none 0 0]).gb hg1 hne
  have hG1 := gb_trans (gb_alloc (gb_refl w (some b)) _) hg1
  clear hg1
  go_wp2_with fail
  refine (below_c b 100 _ (hs1.alloc _) (by omega) (by omega)).mono ?_
  rintro e w2 ⟨y, rfl, ⟨hy1, hy2⟩, hs2, hg2⟩
  have hl1 : w.heap.size < w1.heap.size := hO.lt
  have hR := (Own.of_new w1 w.heap.size x (by omega)).gb hg2 (by simp [Value.ownBlock]; omega)
  replace hO := (hO.alloc (.cells #[.int .i64 x] 3)).gb hg2 hne
  have hG2 := gb_trans (gb_alloc hG1 _) hg2
  have hl2 : w1.heap.size < w2.heap.size := (hR.lt _ rfl).2
  clear hg2 hG1 hs1
  go_wp2_with fail
  have hR2 := Own.of_new w2 w.heap.size y (by omega)
  refine (from_c b 1 5 _ ((hs2.alloc _).alloc _) (by omega) (by omega) (by omega) (by omega)).mono ?_
  rintro e w3 ⟨N, rfl, ⟨hN1, hN2⟩, hs3, hg3⟩
  have hnb : ∀ k, some b = some k → ∀ g, w.heap.size ≤ g → some g ≠ some k := by
    intro k e g hg
    cases e
    simp
    omega
  replace hR := ((hR.alloc (.cells #[.int .i64 y] 3)).alloc _).gb hg3 (fun k e => hnb k e w1.heap.size (by omega))
  replace hR2 := (hR2.alloc _).gb hg3 (fun k e => hnb k e w2.heap.size (by omega))
  replace hO := ((hO.alloc (.cells #[.int .i64 y] 3)).alloc _).gb hg3 hne
  have hT := (Bk.new (w2.alloc (.cells #[.int .i64 y] 3)) 51 #[.slice (some ⟨w1.heap.size, 0, none⟩) 1 1, .slice (some ⟨w2.heap.size, 0, none⟩) 1 1]).gb hg3 (by simp; omega)
  have hG3 := gb_trans (gb_alloc (gb_alloc hG2 _) _) hg3
  obtain ⟨N, rfl⟩ := Int.eq_ofNat_of_zero_le (show 0 ≤ N by omega)
  have hI : TankInv [x] [y] 1 := by
    refine ⟨rfl, rfl, by omega, by omega, fun i hi => ?_, fun i h0 hi => by omega⟩
    obtain rfl : i = 0 := by omega
    exact ⟨⟨hx1, by show x ≤ _; omega⟩, hy1, by show y ≤ _; omega⟩
  have hrel0 : TankRel b w.heap.size (w2.heap.size + 1) (N + 1) w (.int .i64 N) w3 := ⟨N, 1, _, _, _, _, [x], [y], rfl, by omega, by simpa using hT, hR, hR2, by omega, hI, hs3, hO, hG3⟩
  have HR := Lib.hid hrel0
  clear hg3 hR hR2 hO hT hG3 hI hrel0 hs3 hs2 hG2 hnb hx1 hx2 hy1 hy2
  go_wp2_with fail
  go_loopw [4] (fun i wr => TankRel b w.heap.size (w2.heap.size + 1) (N + 1) w i wr) (fun i _ => (intOf i).toNat)
  case atStart => exact HR.out
  case round =>
    obtain ⟨k, n, g, cap, g', cap', hs', ls', rfl, hkn, hT, hR, hR2, hgg, hI, hsd, hO, hG⟩ := hrel
    have hTc := hT.c2
    by_cases hk : 0 < k
    · obtain ⟨hn, hn', hn0, hn6, hIb, hIs⟩ := id hI
      have hb1 := hIb (n - 1) (by omega)
      have x0 := hR.at (i := n - 1) (by omega)
      have y0 := hR2.at (i := n - 1) (by omega)
      have HIH := Lib.hid (And.intro hIb (And.intro hIs (And.intro hn hn')))
      have m1 : (1 : Int) ≤ (n : Int) := by omega
      have m2 : 1 ≤ n := hn0
      have m3 : (0 : Int) ≤ (n : Int) - 1 := by omega
      have m4 : (n : Int) - 1 < (n : Int) := by omega
      have m5 : ((n : Int) - 1).toNat = n - 1 := by omega
      clear hIb hIs hn hn'
      have hne' : ∀ {c : Nat}, w.heap.size ≤ c → some c ≠ some b := fun h => by simp; omega
      have hgl := (hR.lt g rfl)
      have hgl' := (hR2.lt g' rfl)
      have hTl := hT.lt
      have nO : g ≠ w.heap.size := fun e => hR.ne hO (by decide) (by simp [Value.ownBlock, e])
      have nO' : g' ≠ w.heap.size := fun e => hR2.ne hO (by decide) (by simp [Value.ownBlock, e])
      have nT : g ≠ w2.heap.size + 1 := fun e => hR.ne hT (by decide) (by simp [Value.ownBlock, e])
      have nT' : g' ≠ w2.heap.size + 1 := fun e => hR2.ne hT (by decide) (by simp [Value.ownBlock, e])
      go_wp2_with fail
      refine ru_begin (fun W => W.cell? ⟨w2.heap.size + 1, 0, none⟩ = some (.slice (some ⟨g, 0, none⟩) n cap) ∧ W.cell? ⟨w2.heap.size + 1, 1, none⟩ = some (.slice (some ⟨g', 0, none⟩) n cap') ∧
          W.cell? ⟨g, n - 1, none⟩ = some (.int .i64 (gi hs' (n - 1))) ∧ W.cell? ⟨g', n - 1, none⟩ = some (.int .i64 (gi ls' (n - 1)))) 30 (by kernel_rfl) ⟨hTc.1, hTc.2.1, x0, y0⟩ ?_
      have hHeld := (⟨hTc.1, hTc.2.1, x0, y0⟩ : (fun W : World => W.cell? ⟨w2.heap.size + 1, 0, none⟩ = some (.slice (some ⟨g, 0, none⟩) n cap) ∧ W.cell? ⟨w2.heap.size + 1, 1, none⟩ = some (.slice (some ⟨g', 0, none⟩) n cap') ∧
          W.cell? ⟨g, n - 1, none⟩ = some (.int .i64 (gi hs' (n - 1))) ∧ W.cell? ⟨g', n - 1, none⟩ = some (.int .i64 (gi ls' (n - 1)))) wr.drew)
      refine ru_take 0 [] (v := ?_) rfl (by kernel_rfl) (fun _ _ _ h => h) (by assumption) (.inl ⟨by rfl, ?_⟩) ?_
      rotate_left
      · (intro wS hwS; (try dsimp only at hwS); go_simp; (try with_reducible rfl))
      (try simp only [Act.put, List.setIfInBounds_toArray, List.set_cons_zero, List.set_cons_succ])
      refine ru_take 1 [] (v := ?_) rfl (by kernel_rfl) (fun _ _ _ h => h) (by assumption) (.inl ⟨by rfl, ?_⟩) ?_
      rotate_left
      · (intro wS hwS; (try dsimp only at hwS); go_simp; (try with_reducible rfl))
      (try simp only [Act.put, List.setIfInBounds_toArray, List.set_cons_zero, List.set_cons_succ])
      refine ru_take 2 [] (v := ?_) rfl (by kernel_rfl) (fun _ _ _ h => h) (by assumption) (.inl ⟨by rfl, ?_⟩) ?_
      rotate_left
      · (intro wS hwS; (try dsimp only at hwS); go_simp; (try with_reducible rfl))
      (try simp only [Act.put, List.setIfInBounds_toArray, List.set_cons_zero, List.set_cons_succ])
      refine ru_take 3 [] (v := ?_) rfl (by kernel_rfl) (fun _ _ _ h => h) (by assumption) (.inl ⟨by rfl, ?_⟩) ?_
      rotate_left
      · (intro wS hwS; (try dsimp only at hwS); go_simp; (try with_reducible rfl))
      (try simp only [Act.put, List.setIfInBounds_toArray, List.set_cons_zero, List.set_cons_succ])
      refine ru_take 4 [] (v := ?_) rfl (by kernel_rfl) (fun _ _ _ h => h) (by assumption) (.inl ⟨by rfl, ?_⟩) ?_
      rotate_left
      · (intro wS hwS; (try dsimp only at hwS); go_simp; (try with_reducible rfl))
      (try simp only [Act.put, List.setIfInBounds_toArray, List.set_cons_zero, List.set_cons_succ])
      refine ru_take 5 [] (v := ?_) rfl (by kernel_rfl) (fun _ _ _ h => h) (by assumption) (.inl ⟨by rfl, ?_⟩) ?_
      rotate_left
      · (intro wS hwS; (try dsimp only at hwS); go_simp; (try with_reducible rfl))
      (try simp only [Act.put, List.setIfInBounds_toArray, List.set_cons_zero, List.set_cons_succ])
      refine ru_take 6 [] (v := ?_) rfl (by kernel_rfl) (fun _ _ _ h => h) (by assumption) (.inl ⟨by rfl, ?_⟩) ?_
      rotate_left
      · (intro wS hwS; (try dsimp only at hwS); go_simp; (try with_reducible rfl))
      (try simp only [Act.put, List.setIfInBounds_toArray, List.set_cons_zero, List.set_cons_succ])
      refine ru_take 7 [] (v := ?_) rfl (by kernel_rfl) (fun _ _ _ h => h) (by assumption) (.inl ⟨by rfl, ?_⟩) ?_
      rotate_left
      · (intro wS hwS; (try dsimp only at hwS); go_simp; (try with_reducible rfl))
      (try simp only [Act.put, List.setIfInBounds_toArray, List.set_cons_zero, List.set_cons_succ])
      refine ru_take 12 [] (v := ?_) rfl (by kernel_rfl) (fun _ _ _ h => h) (by assumption) (.inl ⟨by rfl, ?_⟩) ?_
      rotate_left
      · (intro wS hwS; (try dsimp only at hwS); go_simp; (try with_reducible rfl))
      (try simp only [Act.put, List.setIfInBounds_toArray, List.set_cons_zero, List.set_cons_succ])
      refine ru_take 13 [] (v := ?_) rfl (by kernel_rfl) (fun _ _ _ h => h) (by assumption) (.inl ⟨by rfl, ?_⟩) ?_
      rotate_left
      · (intro wS hwS; (try dsimp only at hwS); go_simp; (try with_reducible rfl))
      (try simp only [Act.put, List.setIfInBounds_toArray, List.set_cons_zero, List.set_cons_succ])
      refine ru_take 14 [] (v := ?_) rfl (by kernel_rfl) (fun _ _ _ h => h) (by assumption) (.inl ⟨by rfl, ?_⟩) ?_
      rotate_left
      · (intro wS hwS; (try dsimp only at hwS); go_simp; (try with_reducible rfl))
      (try simp only [Act.put, List.setIfInBounds_toArray, List.set_cons_zero, List.set_cons_succ])
      refine ru_take 15 [] (v := ?_) rfl (by kernel_rfl) (fun _ _ _ h => h) (by assumption) (.inl ⟨by rfl, ?_⟩) ?_
      rotate_left
      · (intro wS hwS; (try dsimp only at hwS); go_simp; (try with_reducible rfl))
      (try simp only [Act.put, List.setIfInBounds_toArray, List.set_cons_zero, List.set_cons_succ])
      refine ru_take 16 [28, 27, 26, 18, 17] (v := ?_) rfl (by kernel_rfl) (fun _ _ _ h => h) (by assumption) (.inl ⟨by rfl, ?_⟩) ?_
      rotate_left
      · (intro wS hwS; (try dsimp only at hwS); go_simp; (try with_reducible rfl))
      (try simp only [Act.put, List.setIfInBounds_toArray, List.set_cons_zero, List.set_cons_succ])
      refine ru_take 17 [28, 27, 26, 18] (v := ?_) rfl (by kernel_rfl) (fun _ _ _ h => h) (by assumption) (.inl ⟨by rfl, ?_⟩) ?_
      rotate_left
      · (intro wS hwS; (try dsimp only at hwS); go_simp; (try with_reducible rfl))
      (try simp only [Act.put, List.setIfInBounds_toArray, List.set_cons_zero, List.set_cons_succ])
      refine ru_take 18 [28, 27, 26] (v := ?_) rfl (by kernel_rfl) (fun _ _ _ h => h) (by assumption) (.inl ⟨by rfl, ?_⟩) ?_
      rotate_left
      · (intro wS hwS; (try dsimp only at hwS); go_simp; (try with_reducible rfl))
      (try simp only [Act.put, List.setIfInBounds_toArray, List.set_cons_zero, List.set_cons_succ])
      refine ru_take 19 [28, 25] (v := ?_) rfl (by kernel_rfl) (fun _ _ _ h => h) (by assumption) (.inl ⟨by rfl, ?_⟩) ?_
      rotate_left
      · (intro wS hwS; (try dsimp only at hwS); go_simp; (try with_reducible rfl))
      (try simp only [Act.put, List.setIfInBounds_toArray, List.set_cons_zero, List.set_cons_succ])
      refine ru_take 20 [28, 25, 23, 21] (v := ?_) rfl (by kernel_rfl) (fun _ _ _ h => h) (by assumption) (.inl ⟨by rfl, ?_⟩) ?_
      rotate_left
      · (intro wS hwS; (try dsimp only at hwS); go_simp; (try with_reducible rfl))
      (try simp only [Act.put, List.setIfInBounds_toArray, List.set_cons_zero, List.set_cons_succ])
      refine ru_take 22 [28, 25, 23] (v := ?_) rfl (by kernel_rfl) (fun _ _ _ h => h) (by assumption) (.inl ⟨by rfl, ?_⟩) ?_
      rotate_left
      · (intro wS hwS; (try dsimp only at hwS); go_simp; (try with_reducible rfl))
      (try simp only [Act.put, List.setIfInBounds_toArray, List.set_cons_zero, List.set_cons_succ])
      refine ru_one 8 rfl (by kernel_rfl) (fun K hK => ?_)
      go_simp
      refine (from_c b 1 40 _ hsd.drew (by omega) (by omega) (by omega) (by omega)).mono ?_
      rintro e w4 ⟨r, rfl, ⟨hr1, hr2⟩, hs4, hg4⟩
      have ta0 := gbc hg4 (hne' (by omega)) hTc.1
      have ta1 := gbc hg4 (hne' (by omega)) hTc.2.1
      have ta2 := gbc hg4 (hne' (by omega)) x0
      have ta3 := gbc hg4 (hne' (by omega)) y0
      have hw1 : IntKind.i64.wrap (gi hs' (n - 1) + r) = gi hs' (n - 1) + r := IntWalk.i64_in _ (by omega)
      have hR4 := hR.drew.gb hg4 (fun k e => by cases e; simp [Value.ownBlock]; omega)
      have hR24 := hR2.drew.gb hg4 (fun k e => by cases e; simp [Value.ownBlock]; omega)
      have hl4 : wr.heap.size ≤ w4.heap.size := hg4.size
      refine ru_back hK (by exact ⟨ta0, ta1, ta2, ta3⟩) (fun hHeld => ?_)
      clear hK K
      (try simp only [Act.put, List.setIfInBounds_toArray, List.set_cons_zero, List.set_cons_succ])
      refine ru_take 9 [] (v := ?_) rfl (by kernel_rfl) (fun _ _ _ h => h) (by assumption) (.inl ⟨by rfl, ?_⟩) ?_
      rotate_left
      · (intro wS hwS; (try dsimp only at hwS); go_simp; (try with_reducible rfl))
      (try simp only [Act.put, List.setIfInBounds_toArray, List.set_cons_zero, List.set_cons_succ])
      refine ru_one 10 rfl (by kernel_rfl) (fun K hK => ?_)
      go_simp
      refine ru_back hK (by exact ⟨alc _ ta0, alc _ ta1, alc _ ta2, alc _ ta3⟩) (fun hHeld => ?_)
      clear hK K
      (try simp only [Act.put, List.setIfInBounds_toArray, List.set_cons_zero, List.set_cons_succ])
      refine ru_one 11 rfl (by kernel_rfl) (fun K hK => ?_)
      refine step_app _ okInt rfl _ _ rfl w.heap.size (.slice (some ⟨g, 0, none⟩) n cap) hs' [gi hs' (n - 1) + r] rfl (hR4.alloc _) ⟨w4.heap.size, 0, none⟩ 1 1 rfl rfl (by decide) (news_of (Bk.new w4 _ _)) (n + 1) (by have := HIH.out.2.2.1; omega) (by omega) (by simp; omega) (w4.heap.size + 1) (by simp) ?_
      intro g1 cap1 w5 hp1
      have hl5 : w4.heap.size + 1 ≤ w5.heap.size := by have := hp1.gb.size; simpa using this
      have tb0 := gbc hp1.gb (by simp [Value.ownBlock]; omega) (alc _ ta0)
      have tb1 := gbc hp1.gb (by simp [Value.ownBlock]; omega) (alc _ ta1)
      have tb2 := hp1.old.at (i := n - 1) (by have := HIH.out.2.2.1; omega)
      have tb3 := gbc hp1.gb (by simp [Value.ownBlock]; omega) (alc _ ta3)
      have hs5 := (hs4.alloc (.cells #[.int .i64 (gi hs' (n - 1) + r)] 3)).gb hp1.gb (by simp [Value.ownBlock]; omega)
      have hR25 := (hR24.alloc (.cells #[.int .i64 (gi hs' (n - 1) + r)] 3)).gb hp1.gb (fun k e => by simp [Value.ownBlock] at e; simp [Value.ownBlock]; omega)
      refine ru_back hK (by exact ⟨tb0, tb1, tb2, tb3⟩) (fun hHeld => ?_)
      clear hK K
      (try simp only [Act.put, List.setIfInBounds_toArray, List.set_cons_zero, List.set_cons_succ])
      refine ru_take 29 [] (v := ?_) rfl (by kernel_rfl) (fun _ _ _ h => h) (by assumption) (.inl ⟨by rfl, ?_⟩) ?_
      rotate_left
      · (intro wS hwS; (try dsimp only at hwS); go_simp; (try with_reducible rfl))
      (try simp only [Act.put, List.setIfInBounds_toArray, List.set_cons_zero, List.set_cons_succ])
      refine ru_one 21 rfl (by kernel_rfl) (fun K hK => ?_)
      go_simp
      refine (below_c b _ _ hs5 (by omega) (by omega)).mono ?_
      rintro e w6 ⟨r2, rfl, ⟨hr3, hr4⟩, hs6, hg6⟩
      have hl6 : w5.heap.size ≤ w6.heap.size := hg6.size
      refine ru_back hK (by exact ⟨gbc hg6 (hne' (by omega)) tb0, gbc hg6 (hne' (by omega)) tb1, gbc hg6 (hne' (by omega)) tb2, gbc hg6 (hne' (by omega)) tb3⟩) (fun hHeld => ?_)
      clear hK K
      (try simp only [Act.put, List.setIfInBounds_toArray, List.set_cons_zero, List.set_cons_succ])
      refine ru_one 23 rfl (by kernel_rfl) (fun K hK => ?_)
      go_simp
      refine (below_c b _ _ hs6 (by omega) (by omega)).mono ?_
      rintro e w7 ⟨r3, rfl, ⟨hr5, hr6⟩, hs7, hg7⟩
      have hl7 : w6.heap.size ≤ w7.heap.size := hg7.size
      obtain ⟨hh0, hh1, hh2, hh3⟩ := hHeld
      refine ru_back hK (by exact ⟨gbc hg7 (hne' (by omega)) hh0, gbc hg7 (hne' (by omega)) hh1, gbc hg7 (hne' (by omega)) hh2, gbc hg7 (hne' (by omega)) hh3⟩) (fun hHeld => ?_)
      clear hK K
      (try simp only [Act.put, List.setIfInBounds_toArray, List.set_cons_zero, List.set_cons_succ])
      obtain ⟨hh0, hh1, hh2, hh3⟩ := id hHeld
      refine ru_one 24 rfl (by kernel_rfl) (fun K hK => ?_)
      go_simp
      refine ru_back hK (by exact ⟨alc _ hh0, alc _ hh1, alc _ hh2, alc _ hh3⟩) (fun hHeld => ?_)
      clear hK K
      (try simp only [Act.put, List.setIfInBounds_toArray, List.set_cons_zero, List.set_cons_succ])
      refine ru_one 25 rfl (by kernel_rfl) (fun K hK => ?_)
      go_simp
      refine (of_c b _ (hs7.alloc _) w7.heap.size 0 3 3 (fun i => [0, r2, r3].getD i 0) (by decide) (by decide) (by omega) (fun i hi => by rcases i with _ | _ | _ | i <;> first | (simp [go_sem]; done) | omega)).mono ?_
      rintro e w8 ⟨r4, rfl, hr7, hs8, hg8⟩
      have hl8 : w7.heap.size + 1 ≤ w8.heap.size := by have := hg8.size; simpa using this
      have hr8 : 0 ≤ r4 ∧ r4 ≤ 5000 := by
        obtain ⟨i, hi, rfl⟩ := hr7
        rcases i with _ | _ | _ | i
        · show (0 : Int) ≤ 0 ∧ (0 : Int) ≤ 5000; omega
        · show 0 ≤ r2 ∧ r2 ≤ 5000; omega
        · show 0 ≤ r3 ∧ r3 ≤ 5000; omega
        · omega
      have hw2 : IntKind.i64.wrap (gi ls' (n - 1) + r4) = gi ls' (n - 1) + r4 := IntWalk.i64_in _ (by omega)
      have hR28 := (((hR25.gb hg6 (fun k e => by cases e; simp [Value.ownBlock]; omega)).gb hg7 (fun k e => by cases e; simp [Value.ownBlock]; omega)).alloc (.cells #[.int .i64 0, .int .i64 r2, .int .i64 r3] 3)).gb hg8 (fun k e => by cases e; simp [Value.ownBlock]; omega)
      have te0 := gbc hg8 (hne' (by omega)) (alc _ hh0)
      have te1 := gbc hg8 (hne' (by omega)) (alc _ hh1)
      have te2 := gbc hg8 (hne' (by omega)) (alc _ hh2)
      have te3 := gbc hg8 (hne' (by omega)) (alc _ hh3)
      refine ru_back hK (by exact ⟨te0, te1, te2, te3⟩) (fun hHeld => ?_)
      clear hK K
      (try simp only [Act.put, List.setIfInBounds_toArray, List.set_cons_zero, List.set_cons_succ])
      refine ru_take 26 [28, 27] (v := ?_) rfl (by kernel_rfl) (fun _ _ _ h => h) (by assumption) (.inl ⟨by rfl, ?_⟩) ?_
      rotate_left
      · (intro wS hwS; (try dsimp only at hwS); go_simp; (try with_reducible rfl))
      (try simp only [Act.put, List.setIfInBounds_toArray, List.set_cons_zero, List.set_cons_succ])
      refine ru_one 27 rfl (by kernel_rfl) (fun K hK => ?_)
      go_simp
      refine ru_back hK (by exact ⟨alc _ te0, alc _ te1, alc _ te2, alc _ te3⟩) (fun hHeld => ?_)
      clear hK K
      (try simp only [Act.put, List.setIfInBounds_toArray, List.set_cons_zero, List.set_cons_succ])
      refine ru_one 28 rfl (by kernel_rfl) (fun K hK => ?_)
      refine step_app _ okInt rfl _ _ rfl w.heap.size (.slice (some ⟨g', 0, none⟩) n cap') ls' [gi ls' (n - 1) + r4] rfl (hR28.alloc _) ⟨w8.heap.size, 0, none⟩ 1 1 rfl rfl (by decide) (news_of (Bk.new w8 _ _)) (n + 1) (by have := HIH.out.2.2.2; omega) (by omega) (by simp; omega) (w8.heap.size + 1) (by simp) ?_
      intro g2 cap2 w9 hp2
      have hl9 : w8.heap.size + 1 ≤ w9.heap.size := by have := hp2.gb.size; simpa using this
      refine ru_back hK (by exact ⟨gbc hp2.gb (by simp [Value.ownBlock]; omega) (alc _ te0), gbc hp2.gb (by simp [Value.ownBlock]; omega) (alc _ te1), gbc hp2.gb (by simp [Value.ownBlock]; omega) (alc _ te2), hp2.old.at (i := n - 1) (by have := HIH.out.2.2.2; omega)⟩) (fun hHeld => ?_)
      clear hK K
      (try simp only [Act.put, List.setIfInBounds_toArray, List.set_cons_zero, List.set_cons_succ])
      -- the tank's own block, the rows, the seed, the result's block in the world at hand
      have nb : ∀ {t : Nat}, w.heap.size ≤ t → some t ≠ some b := fun h => hne' h
      have hT9 := (((((((hT.drew.gb hg4 (nb (by omega))).alloc (.cells #[.int .i64 (gi hs' (n - 1) + r)] 3)).gb hp1.gb (by simp [Value.ownBlock]; omega)).gb hg6 (nb (by omega))).gb hg7 (nb (by omega))).alloc (.cells #[.int .i64 0, .int .i64 r2, .int .i64 r3] 3)).gb hg8 (nb (by omega))).alloc (.cells #[.int .i64 (gi ls' (n - 1) + r4)] 3)
      replace hT9 := hT9.gb hp2.gb (by simp [Value.ownBlock]; omega)
      have hTf := hT9.c2
      have hO9 := (((((((hO.drew.gb hg4 (nb (by omega))).alloc (.cells #[.int .i64 (gi hs' (n - 1) + r)] 3)).gb hp1.gb (by simp [Value.ownBlock]; omega)).gb hg6 (nb (by omega))).gb hg7 (nb (by omega))).alloc (.cells #[.int .i64 0, .int .i64 r2, .int .i64 r3] 3)).gb hg8 (nb (by omega))).alloc (.cells #[.int .i64 (gi ls' (n - 1) + r4)] 3)
      replace hO9 := hO9.gb hp2.gb (by simp [Value.ownBlock]; omega)
      have hs9 := (hs8.alloc (.cells #[.int .i64 (gi ls' (n - 1) + r4)] 3)).gb hp2.gb (by simp [Value.ownBlock]; omega)
      have hg1' : g1 ≠ g' := by
        rcases hp1.at_ with e | e
        · simp [Value.ownBlock] at e; omega
        · omega
      have hg1lo := (hp1.own.lt g1 rfl).1
      have hg2lo := (hp2.own.lt g2 rfl).1
      have hg1lt := hp1.lt
      have hP1 := ((((hp1.own.gb hg6 (fun k e => by cases e; simp [Value.ownBlock]; omega)).gb hg7 (fun k e => by cases e; simp [Value.ownBlock]; omega)).alloc (.cells #[.int .i64 0, .int .i64 r2, .int .i64 r3] 3)).gb hg8 (fun k e => by cases e; simp [Value.ownBlock]; omega)).alloc (.cells #[.int .i64 (gi ls' (n - 1) + r4)] 3)
      replace hP1 := hP1.gb hp2.gb (fun k e => by simp [Value.ownBlock] at e; simp [Value.ownBlock]; omega)
      have hg12 : g1 ≠ g2 := by
        rcases hp2.at_ with e | e
        · simp [Value.ownBlock] at e; omega
        · omega
      have nT1 : g1 ≠ w2.heap.size + 1 := fun e => hP1.ne hT9 (by decide) (by simp [Value.ownBlock, e])
      have nT2 : g2 ≠ w2.heap.size + 1 := fun e => hp2.own.ne hT9 (by decide) (by simp [Value.ownBlock, e])
      have hGG : w.grownBy w9 (some b) := by
        refine gb_trans' (gb_alloc (gb_trans (gb_alloc (gb_trans (gb_trans (gb_trans' (gb_alloc (gb_trans (gb_drew hG) hg4) _) hp1.gb ?_) hg6) hg7) _) hg8) _) hp2.gb ?_
        · intro k e; simp [Value.ownBlock] at e; exact .inr (by omega)
        · intro k e; simp [Value.ownBlock] at e; exact .inr (by omega)
      have hfin : TankRel b w.heap.size (w2.heap.size + 1) (N + 1) w (.int .i64 ((k : Int) - 1)) ((w9.setCell ⟨w2.heap.size + 1, 0, none⟩ (.slice (some ⟨g1, 0, none⟩) (n + 1) cap1)).setCell ⟨w2.heap.size + 1, 1, none⟩ (.slice (some ⟨g2, 0, none⟩) (n + 1) cap2)) :=
        ⟨k - 1, n + 1, g1, cap1, g2, cap2, _, _, by rw [show ((k : Int) - 1) = ((k - 1 : Nat) : Int) by omega], by omega, (hT9.set 0 _).set 1 _,
          (hP1.far (fun k e => by simp [Value.ownBlock] at e; dsimp only; omega) _).far (fun k e => by simp [Value.ownBlock] at e; dsimp only; omega) _,
          (hp2.own.far (fun k e => by simp [Value.ownBlock] at e; dsimp only; omega) _).far (fun k e => by simp [Value.ownBlock] at e; dsimp only; omega) _,
          hg12, hI.step ⟨hr1, by omega⟩ hr8 (by omega), (hs9.far (by dsimp only; omega) _).far (by dsimp only; omega) _, (hO9.far (by dsimp only; omega) _).far (by dsimp only; omega) _,
          gb_setCell (gb_setCell hGG (.inr (by dsimp only; omega)) _) (.inr (by dsimp only; omega)) _⟩
      have HF := Lib.hid hfin
      clear hfin
      refine ru_one 30 rfl (by kernel_rfl) (fun K hK => ?_)
      go_simp
      refine ru_back_late hK (by kernel_rfl) ?_
      clear hK K
      (try simp only [Act.put, List.setIfInBounds_toArray, List.set_cons_zero, List.set_cons_succ])
      refine ru_one 31 rfl (by kernel_rfl) (fun K hK => ?_)
      go_simp
      refine ru_back_late hK (by kernel_rfl) ?_
      clear hK K
      (try simp only [Act.put, List.setIfInBounds_toArray, List.set_cons_zero, List.set_cons_succ])
      refine ru_one 32 rfl (by kernel_rfl) (fun K hK => ?_)
      go_simp
      refine ru_back_late hK (by kernel_rfl) ?_
      clear hK K
      (try simp only [Act.put, List.setIfInBounds_toArray, List.set_cons_zero, List.set_cons_succ])
      refine ru_done (by kernel_rfl) ?_
      clear hh0 hh1 hh2 hh3 te0 te1 te2 te3 ta0 ta1 ta2 ta3 tb0 tb1 tb2 tb3 x0 y0 hw1 hw2 hTf
      go_wp2_with fail
      go_roundw
      case rel => exact HF.out
      case measure => simp [intOf]; omega
    · have hOc := hO.c2
      obtain ⟨hn, hn', hn0, hn6, hIb, hIs⟩ := id hI
      have hRL := hR.sl (fun _ => rfl)
      have hRL2 := hR2.sl (fun _ => rfl)
      have nO : g ≠ w.heap.size := fun e => hR.ne hO (by decide) (by simp [Value.ownBlock, e])
      have nO' : g' ≠ w.heap.size := fun e => hR2.ne hO (by decide) (by simp [Value.ownBlock, e])
      clear hIb hIs
      go_wp2_with fail
      refine bodyPost_ret (v := .agg #[.slice (some ⟨g, 0, none⟩) n cap, .slice (some ⟨g', 0, none⟩) n cap']) (by simp [results, Try.results27, go_sem, hOc]) rfl ?_
      have hOwn := (hR.far (p := ⟨w.heap.size, 0, none⟩) (fun k e => by simp [Value.ownBlock] at e; dsimp only; omega) (.slice (some ⟨g, 0, none⟩) n cap)).far (p := ⟨w.heap.size, 1, none⟩) (fun k e => by simp [Value.ownBlock] at e; dsimp only; omega) (.slice (some ⟨g', 0, none⟩) n cap')
      have hOwn2 := (hR2.far (p := ⟨w.heap.size, 0, none⟩) (fun k e => by simp [Value.ownBlock] at e; dsimp only; omega) (.slice (some ⟨g, 0, none⟩) n cap)).far (p := ⟨w.heap.size, 1, none⟩) (fun k e => by simp [Value.ownBlock] at e; dsimp only; omega) (.slice (some ⟨g', 0, none⟩) n cap')
      exact ⟨_, rfl, ⟨_, _, _, _, n, rfl, hOwn.sl (fun _ => rfl), hOwn2.sl (fun _ => rfl), hI, by omega⟩, (hsd.far (by dsimp only; omega) _).far (by dsimp only; omega) _, gb_setCell (gb_setCell hG (.inr (by dsimp only; omega)) _) (.inr (by dsimp only; omega)) _⟩
end Go.Proofs.Ytfifldbinnkdmaa
