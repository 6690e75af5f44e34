/- frost: water that freezes through. -/
import Derived.Test.YthblaiefalbomaaF40
import Derived.Test.YthblaiefalbomaaF37
set_option linter.unusedVariables false
set_option linter.unusedSimpArgs false
set_option linter.unnecessarySimpa false
namespace Go.Proofs.Ythblaiefalbomaa
open Go.RowKit
set_option maxRecDepth 100000
open Go.Shelf

theorem setW_allE {l : Fro} {x : Ice} {dl : List Wea} {m : Nat} {n : Int} (h : allE l x dl = 0) (hn : 0 ≤ n ∧ n ≤ 200) : allE l x (setW dl m n) = 0 := by
  unfold allE at h ⊢
  split at h
  · contradiction
  · rename_i h1
    split at h
    · contradiction
    · rename_i h2
      rw [if_neg h1, if_neg h2]
      unfold daysE at h ⊢
      rw [setW_len]
      split at h
      · cases h
      · rename_i h3
        rw [if_neg h3]
        refine daysErr_of _ fun d hd => ?_
        have key : ∀ (ds : List Wea), daysErr ds = 0 → ∀ d ∈ ds, weaErr d = 0 := by
          intro ds
          induction ds with
          | nil => intro _ d hd; cases hd
          | cons c cs ih =>
            intro h d hd
            unfold daysErr at h
            split at h
            · contradiction
            · rename_i h3
              rcases List.mem_cons.1 hd with rfl | hd
              · exact Classical.not_not.1 h3
              · exact ih h d hd
        rcases setW_mem hd with hd | ⟨z, hz, rfl⟩
        · exact key dl h d hd
        · have h5 := key dl h z hz
          unfold weaErr at h5 ⊢
          split at h5
          · contradiction
          · rename_i h6
            split at h5
            · contradiction
            · rename_i h7
              rw [if_neg h6, if_neg h7, if_neg (by simp only; omega)]
theorem Own.weak {α : Type} {enc : α → List Value} {e : TypeId} {sz base b0 : Nat} {w : World} {v : Value} {l : List α} (h : Own enc e sz base w v l) (hb : b0 ≤ base) : Own enc e sz b0 w v l := by
  obtain ⟨h1, h2⟩ := h
  refine ⟨h1, ?_⟩
  rcases h2 with h2 | ⟨g, cap, cur, hv, hg, h3⟩
  · exact .inl h2
  · exact .inr ⟨g, cap, cur, hv, Nat.le_trans hb hg, h3⟩
/-- Days made of numbers, as a row of one's own. -/
def DaysO (sb b0 : Nat) (most : Int) (frost : Bool) (w : World) : Ending → World → Prop := fun e w' => ∃ vo l, e = .returned vo ∧ Own weaEnc 35 6 b0 w' vo l ∧ (∀ g, vo.ownBlock = some g → w.heap.size ≤ g ∧ g < w'.heap.size) ∧ (l.length : Int) ≤ most ∧ (∀ d ∈ l, weaErr d = 0 ∧ (frost = true → 0 ≤ d.cold.lo)) ∧ SeedAt w' sb ∧ w.grownBy w' (some sb)
theorem daysOf_o (sb b0 : Nat) (most : Int) (frost : Bool) (w : World) (hs : SeedAt w sb) (hm : 0 ≤ most ∧ most ≤ 100) (hb : b0 ≤ w.heap.size) : Calls Try.prog 16 #[.pointer (some ⟨sb, 0, none⟩), .int .i64 most, .bool frost] w (DaysO sb b0 most frost w) := by
  refine (daysOf_c sb most frost w hs hm).mono ?_
  rintro e w' ⟨vo, l, rfl, ho, h1, h2, h3, h4⟩
  exact ⟨vo, l, rfl, ho.weak hb, ho.lt, h1, h2, h3, h4⟩
theorem grtP_spec (p : Nat → Bool) : ∀ c : Nat, (grtP p c = -1 ∧ ∀ k, k < c → p k = false) ∨ ∃ k : Nat, k < c ∧ grtP p c = k ∧ p k = true ∧ ∀ j, k < j → j < c → p j = false
  | 0 => .inl ⟨rfl, fun k h => by omega⟩
  | c + 1 => by
    have e : grtP p (c + 1) = if p c = true then (c : Int) else grtP p c := rfl
    by_cases h : p c = true
    · exact .inr ⟨c, by omega, by rw [e, if_pos h], h, fun j h1 h2 => by omega⟩
    · rcases grtP_spec p c with ⟨h1, h2⟩ | ⟨k, h1, h2, h3, h4⟩
      · refine .inl ⟨by rw [e, if_neg h, h1], fun k hk => ?_⟩
        rcases Nat.lt_or_ge k c with h5 | h5
        · exact h2 k h5
        · obtain rfl : k = c := by omega
          simpa using h
      · refine .inr ⟨k, by omega, by rw [e, if_neg h, h2], h3, fun j hj hj2 => ?_⟩
        rcases Nat.lt_or_ge j c with h5 | h5
        · exact h4 j hj h5
        · obtain rfl : j = c := by omega
          simpa using h
/-- What Flood's number says. -/
def FloodF (l : Fro) (x : Ice) (dl : List Wea) (m : Nat) (most n : Int) : Prop := (-1 ≤ n ∧ n ≤ most) ∧ (0 ≤ n → dryB l x (setW dl m n) = true) ∧ (n < most → dryB l x (setW dl m (n + 1)) = false)
theorem floodF {l : Fro} {x : Ice} {dl : List Wea} {m : Nat} {most : Int} (h0 : 0 ≤ most) : FloodF l x dl m most (grtP (fun k : Nat => dryB l x (setW dl m (k : Int))) (most.toNat + 1)) := by
  rcases grtP_spec (fun k : Nat => dryB l x (setW dl m (k : Int))) (most.toNat + 1) with ⟨h1, h2⟩ | ⟨k, h1, h2, h3, h4⟩
  · rw [h1]
    exact ⟨⟨by omega, by omega⟩, fun h => by omega, fun _ => h2 0 (by omega)⟩
  · rw [h2]
    refine ⟨⟨by omega, by omega⟩, fun _ => h3, fun h => ?_⟩
    have := h4 (k + 1) (by omega) (by omega)
    push_cast at this
    exact this
/-- Flood on what is valid. -/
def FloodPost (l : Fro) (x : Ice) (dl : List Wea) (att most : Int) (w : World) : Ending → World → Prop := fun e w' => ∃ n : Int, e = .returned (.tuple #[.int .i64 n, .int .i64 0]) ∧ FloodF l x dl (att - 1).toNat most n ∧ w.grownBy w' none
theorem flood_ok (lo hi : Nat) (v : Value) (l : Fro) (x : Ice) (lo2 hi2 : Nat) (vd : Value) (dl : List Wea) (att most : Int) (w : World) (hl : Sl covEnc 3 lo hi w v l.cov) (h2 : hi ≤ w.heap.size) (hl2 : Sl weaEnc 6 lo2 hi2 w vd dl) (h22 : hi2 ≤ w.heap.size) (h0 : allE l x dl = 0) (ha : 1 ≤ att ∧ att ≤ (dl.length : Int)) (hm : 0 ≤ most ∧ most ≤ 200) :
    Calls Try.prog 48 #[.agg (froC l v), .agg (iceC x), vd, .int .i64 att, .int .i64 most] w (FloodPost l x dl att most w) := by
  have he : floodE l x dl att most = 0 := by rw [floodE, if_neg (not_not_intro h0), if_neg (by omega)]
  have h := flood_c lo hi v l x lo2 hi2 vd dl att most w hl h2 hl2 h22
  rw [floodI, if_pos he, he] at h
  refine h.mono ?_
  rintro e w' ⟨rfl, hg⟩
  exact ⟨_, rfl, floodF hm.1, hg⟩
set_option maxHeartbeats 16000000 in
theorem left_c (lo hi : Nat) (v : Value) (l : Fro) (x : Ice) (lo2 hi2 : Nat) (vd : Value) (dl : List Wea) (m : Nat) (n : Int) (w : World) (hl : Sl covEnc 3 lo hi w v l.cov) (h2 : hi ≤ w.heap.size) (hl2 : Sl weaEnc 6 lo2 hi2 w vd dl) (h22 : hi2 ≤ w.heap.size) (hOK : allE l x dl = 0) (hmL : m < dl.length) (hnn : 0 ≤ n ∧ n ≤ 200) :
    Calls Try.prog 55 #[.agg (froC l v), .agg (iceC x), vd, .int .i64 ((m : Int) + 1), .int .i64 n] w (Ret (.bool (!dryB l x (setW dl m n))) w) := by
  have F1 : Bun w [] w := Bun.nil _
  have hm_cs := hl.len
  unfold maxLen at hm_cs
  obtain ⟨sa, sc, rfl⟩ := hl.any
  have F2 := F1.sl0 hl h2 rfl
  clear F1
  clear hl
  have hm_ds := hl2.len
  unfold maxLen at hm_ds
  obtain ⟨da, dc, rfl⟩ := hl2.any
  have F3 := F2.sl0 hl2 h22 rfl
  clear F2
  clear hl2
  have hmL2 : (m : Int) < (dl.length : Int) := by omega
  have hm0 : (0 : Int) ≤ (m : Int) := by omega
  have hwm : IntKind.i64.wrap ((m : Int) + 1 - 1) = (m : Int) := by rw [show (m : Int) + 1 - 1 = (m : Int) by omega]; exact IntWalk.i64_in _ (by omega)
  have hwm2 : IntKind.i64.wrap (m : Int) = (m : Int) := IntWalk.i64_in _ (by omega)
  have HOK := Lib.hid hOK
  have HFO : Hid (LawOk l ∧ iceErr x = 0 ∧ IceK x 0 0 ∧ (setW dl m n).length ≤ 400 ∧ ∀ d ∈ (setW dl m n), WeaOk d) := Lib.hid ⟨(allOk hOK).1, (allOk hOK).2.1, (allOk hOK).2.2.1, by rw [setW_len]; exact (allOk hOK).2.2.2.1, setW_ok (allOk hOK).2.2.2.2 (by omega)⟩
  have hfl1 : (setW dl m n).length ≤ dl.length := Nat.le_of_eq (setW_len _ _ _)
  have hfl2 : dl.length ≤ (setW dl m n).length := Nat.le_of_eq (setW_len _ _ _).symm
  have HAE : Hid (allE l x (setW dl m n) = 0) := Lib.hid (setW_allE hOK (by omega))
  have hn4 : dl.length ≤ 400 := (allOk hOK).2.2.2.1
  have hwe := (stI_K HFO.out.1 HFO.out.2.2.1 HFO.out.2.2.2.2 HFO.out.2.2.2.1 (setW dl m n).length (Nat.le_refl _)).we.2
  clear hOK
  go_enter Try.func55, Try.ntmps55
  have F4 := F3.new 29 (froC l (.slice sa l.cov.length sc)) (n := w.heap.size) (by simp)
  clear F3
  have F5 := F4.new 32 (iceC x) (n := (w.heap.size + 1)) (by simp)
  clear F4
  go_wp2_with (at_builtin; refine wpList_copyB okWea rfl _ _ rfl w.heap.size (w.heap.size + 2) rfl (F5.new 35 #[] (n := (w.heap.size + 2)) (by simp)) (by first | omega | (simp; omega)) lo2 hi2 (.slice da dl.length dc) dl rfl ((F5.new 35 #[] (n := (w.heap.size + 2)) (by simp)).at 3 rfl) (by omega) ?_; intro vc6 w7 hB8 hs9; refine Hid.out ?_)
  refine Lib.hid ?_
  (try simp at hs9)
  have F10 := hB8
  clear F5
  obtain ⟨g11, cap12, e_⟩ := Own.opn (F10.at 0 rfl : Own weaEnc 35 6 w.heap.size _ vc6 dl) (by omega)
  subst e_
  have g11l := (F10.ltAt 0 rfl _ rfl).1
  obtain ⟨z, hz13_⟩ : ∃ z_, dl[m]? = some z_ := ⟨_, List.getElem?_eq_getElem (by omega)⟩
  have hz13 := Lib.hid hz13_
  clear hz13_
  have b14 := F10.bx8 1 rfl
  have b15 := F10.bx8 2 rfl
  have ge16 : World.cell? _ ⟨g11, m * 6 + 4, none⟩ = some (.int .i64 z.water) := (by simpa using (Own.sl (F10.at 0 rfl : Own weaEnc 35 6 w.heap.size _ (.slice (some ⟨g11, 0, none⟩) dl.length cap12) dl) (fun _ => rfl)).cells hz13.out 4 _ rfl)
  have gl17 := cell_lt ge16
  have ge18 : World.frozen? _ ⟨g11, m * 6 + 4, none⟩ = false := Own.live (F10.at 0 rfl : Own weaEnc 35 6 w.heap.size _ (.slice (some ⟨g11, 0, none⟩) dl.length cap12) dl) _
  have hne19 : ¬ g11 = w.heap.size := F10.neAt 0 2 rfl rfl (by decide) (.inl rfl) g11 rfl
  have hne19s : ¬ w.heap.size = g11 := fun e => hne19 e.symm
  have hne20 : ¬ g11 = (w.heap.size + 1) := F10.neAt 0 1 rfl rfl (by decide) (.inl rfl) g11 rfl
  have hne20s : ¬ (w.heap.size + 1) = g11 := fun e => hne20 e.symm
  go_wp2_with fail
  clear b14 b15 ge16 gl17 ge18 hne19 hne19s hne20 hne20s
  have F21 := Bun.setOwn (sz := 6) (fun _ => rfl) F10 hz13.out (y := (⟨z.cold, z.fall, n, z.clear⟩ : Wea)) (j := 4) (u := (.int .i64 n)) (by decide) rfl rfl
  clear F10
  have eW_ : dl.set m (⟨z.cold, z.fall, n, z.clear⟩ : Wea) = (setW dl m n) := (setW_at hz13.out n)
  rw [eW_] at F21
  clear eW_
  refine (run_ok lo hi _ l x g11 (g11 + 1) _ (setW dl m n) _ (F21.at 4 rfl : Sl covEnc 3 lo hi _ (.slice sa l.cov.length sc) l.cov) (Nat.le_trans h2 F21.gb.size) (Own.slG (F21.at 0 rfl : Own weaEnc 35 6 w.heap.size _ (.slice (some ⟨g11, 0, none⟩) dl.length cap12) (setW dl m n)) (fun _ => rfl)) (F21.ltAt 0 rfl _ rfl).1 HAE.out).mono ?_
  rintro e w24 ⟨ra_o, rc_o, rl_o, rh_o, rfl, ⟨rxo, ryo, rzo⟩, rwo, hg22⟩
  have hg22s := hg22.size
  (try simp at hg22s)
  have F25 := F21.add (rsl iceEnc 8 rl_o rh_o (.slice ra_o (setW dl m n).length rc_o) (runN l x (setW dl m n) (setW dl m n).length)) hg22 (rwo) (fun g e => ⟨Nat.le_trans rxo e.1, Nat.lt_of_lt_of_le e.2 ryo⟩)
  clear F21
  clear hg22
  have kn26 : ((setW dl m n).length : Int) = (dl.length : Int) := (by omega)
  have kn26H := Lib.hid kn26
  have kn26a : (((setW dl m n).length : Int) == (dl.length : Int)) = true := beq_t kn26
  have kn26b : (((setW dl m n).length : Int) != (dl.length : Int)) = false := bne_f kn26
  clear kn26
  have hq1 : (1 : Int) ≤ ((setW dl m n).length : Int) := by omega
  have hq2 : 0 ≤ ((setW dl m n).length : Int) - 1 := by omega
  have hq3 : ((setW dl m n).length : Int) - 1 < ((setW dl m n).length : Int) := by omega
  have hq4 : (((setW dl m n).length : Int) - 1).toNat = (setW dl m n).length - 1 := by omega
  have hq5 : IntKind.i64.wrap (((setW dl m n).length : Int) - 1) = ((setW dl m n).length : Int) - 1 := IntWalk.i64_in _ (by omega)
  obtain ⟨x27, o28, e_⟩ := Sl.addr (F25.at 0 rfl : Sl iceEnc 8 rl_o rh_o _ (.slice ra_o (setW dl m n).length rc_o) (runN l x (setW dl m n) (setW dl m n).length)) (by rw [runN_len]; omega)
  subst e_
  obtain ⟨zz, hz29_⟩ : ∃ z_, (runN l x (setW dl m n) (setW dl m n).length)[((setW dl m n).length - 1)]? = some z_ := ⟨_, List.getElem?_eq_getElem (by rw [runN_len]; omega)⟩
  have hz29 := Lib.hid hz29_
  clear hz29_
  obtain rfl : zz = (stI l x (setW dl m n) (setW dl m n).length) := by have h_ := hz29.out; rw [runN_get (by omega), show (setW dl m n).length - 1 + 1 = (setW dl m n).length by omega] at h_; injection h_ with h_; exact h_.symm
  have Hx30 := Lib.hid (show ((!dryB l x (setW dl m n) : Bool)) = (decide (0 < (stI l x (setW dl m n) (setW dl m n).length).we.hi)) by first | rfl | (unfold dryB; rw [Bool.eq_iff_iff]; simp; omega))
  have ge31 : World.cell? _ ⟨x27, o28 + (((setW dl m n).length - 1)) * 8 + 4 + 1, none⟩ = some (.int .i64 ((stI l x (setW dl m n) (setW dl m n).length).we.hi)) := (((F25.at 0 rfl : Sl iceEnc 8 rl_o rh_o _ (.slice (some ⟨x27, o28, none⟩) (setW dl m n).length rc_o) (runN l x (setW dl m n) (setW dl m n).length))).cells hz29.out 5 _ rfl)
  have gl32 := cell_lt ge31
  go_wp2_with fail
  clear ge31 gl32
  go_ret
  exact ⟨by rw [Hx30.out] <;> rfl, F25.gb⟩

/-- left, its answer known. -/
theorem left_v (b : Bool) (lo hi : Nat) (v : Value) (l : Fro) (x : Ice) (lo2 hi2 : Nat) (vd : Value) (dl : List Wea) (m : Nat) (att n : Int) (w : World) (hl : Sl covEnc 3 lo hi w v l.cov) (h2 : hi ≤ w.heap.size) (hl2 : Sl weaEnc 6 lo2 hi2 w vd dl) (h22 : hi2 ≤ w.heap.size) (hOK : allE l x dl = 0) (hm : att = (m : Int) + 1) (hmL : m < dl.length) (hnn : 0 ≤ n ∧ n ≤ 200) (hb : dryB l x (setW dl m n) = !b) :
    Calls Try.prog 55 #[.agg (froC l v), .agg (iceC x), vd, .int .i64 att, .int .i64 n] w (Ret (.bool b) w) := by
  subst hm
  have h := left_c lo hi v l x lo2 hi2 vd dl m n w hl h2 hl2 h22 hOK hmL hnn
  rw [hb, Bool.not_not] at h
  exact h
end Go.Proofs.Ythblaiefalbomaa
