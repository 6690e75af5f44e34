/- Books with a truth, made of numbers: the walk. -/
import Derived.Test.YtfifldbinnkdmaaPBook
import Derived.Test.YtfifldbinnkdmaaBus
import Derived.Test.YtfifldbinnkdmaaAround
import Derived.Test.YtfifldbinnkdmaaKitB
import Derived.Test.YtfifldbinnkdmaaCutB
import Derived.Lib.MinMax
set_option linter.unusedVariables false
set_option linter.unusedSimpArgs false
set_option linter.unnecessarySimpa false
namespace Go.Proofs.Ytfifldbinnkdmaa
open Go.RowKit Go.Shelf
set_option maxRecDepth 100000

def nmC : Array Value := #[.string ⟨#[114, 97, 99, 107]⟩, .string ⟨#[99, 97, 109, 112]⟩, .string ⟨#[103, 114, 111, 117, 110, 100]⟩, .string ⟨#[116, 114, 117, 99, 107]⟩, .string ⟨#[109, 105, 110, 101]⟩, .string ⟨#[97]⟩, .string ⟨#[97, 98, 99, 100, 101, 102, 103, 104]⟩, .string ⟨#[122]⟩]
theorem nmC_at {k : Nat} (h : k < 8) : nmC[k]? = some (.string (nmAt k)) := by
  rcases k with _ | _ | _ | _ | _ | _ | _ | _ | k
  all_goals first | rfl | omega
theorem gi_some {l : List Int} {i : Nat} (h : i < l.length) : l[i]? = some (gi l i) := by rw [gi_get h]; exact List.getElem?_eq_getElem h
theorem ga_some {l : List Acc} {i : Nat} (h : i < l.length) : l[i]? = some (ga l i) := by rw [ga_get h]; exact List.getElem?_eq_getElem h
theorem mod_wrap {i q n : Nat} (hi : i < n) (hq : 1 ≤ q ∧ q < n) : ∃ k : Nat, ((i : Int) + q) % n = k ∧ k < n ∧ k ≠ i := by
  by_cases h : i + q < n
  · exact ⟨i + q, by rw [Int.emod_eq_of_lt (by omega) (by omega)]; omega, h, by omega⟩
  · refine ⟨i + q - n, ?_, by omega, by omega⟩
    have e : ((i : Int) + q) = ((i + q - n : Nat) : Int) + (n : Int) := by omega
    rw [e, Int.add_emod_right, Int.emod_eq_of_lt (by omega) (by omega)]
/-- What BookOf hands back: each row in a block of its own. -/
def BookOfPostB (sb : Nat) (accounts moves : Nat) (L W : Int) (w : World) (e : Ending) (w' : World) : Prop :=
  ∃ va vm b vo vc vv O C V, e = .returned (.tuple #[.agg #[va, vm], .agg #[vo, vc, vv]]) ∧ BookTruth accounts moves L W b O C V ∧
    Bus w sb [rown accEnc 79 6 w.heap.size va b.accs, rown mvEnc 76 4 w.heap.size vm b.mvs, rown intEnc 3 1 w.heap.size vo O, rown intEnc 3 1 w.heap.size vc C, rown intEnc 3 1 w.heap.size vv V, rseed sb] w'
/-- What BookOf hands back. -/
def BookOfPost (sb : Nat) (accounts moves : Nat) (L W : Int) (w : World) (e : Ending) (w' : World) : Prop :=
  ∃ va vm b vo vc vv O C V, e = .returned (.tuple #[.agg #[va, vm], .agg #[vo, vc, vv]]) ∧ HasB w.heap.size w'.heap.size w' va vm b ∧ Ints w.heap.size w'.heap.size w' vo O ∧ Ints w.heap.size w'.heap.size w' vc C ∧ Ints w.heap.size w'.heap.size w' vv V ∧
    BookTruth accounts moves L W b O C V ∧ SeedAt w' sb ∧ w.grownBy w' (some sb)

set_option maxHeartbeats 8000000 in
theorem bookOf_b (sb : Nat) (accounts moves : Nat) (litres wide : Int) (w : World) (hs : SeedAt w sb) (ha : 1 ≤ accounts ∧ accounts ≤ 8) (hm : moves ≤ 12) (hl : 0 ≤ litres ∧ litres ≤ 1000000) (hw : 0 ≤ wide ∧ wide ≤ 1000) :
    Calls Try.prog 17 #[.pointer (some ⟨sb, 0, none⟩), .int .i64 accounts, .int .i64 moves, .int .i64 litres, .int .i64 wide] w (BookOfPostB sb accounts moves litres wide w) := by
  have hsl := hs.lt
  have F0 : Bus w sb [rseed sb] w := Bus.ofSeed hs
  clear hs
  go_enter Try.func17, Try.ntmps17
  have F1 := F0.new 25 #[.slice none 0 0, .slice none 0 0] (n := w.heap.size) (by simp)
  clear F0
  have F2 := F1.new 32 #[.slice none 0 0, .slice none 0 0, .slice none 0 0] (n := (w.heap.size + 1)) (by simp)
  clear F1
  have F3 := F2.new 25 #[.slice none 0 0, .slice none 0 0] (n := (w.heap.size + 2)) (by simp)
  clear F2
  have F4 := F3.new 32 #[.slice none 0 0, .slice none 0 0, .slice none 0 0] (n := (w.heap.size + 3)) (by simp)
  clear F3
  have F5 := F4.new 9 nmC (n := (w.heap.size + 4)) (by simp)
  clear F4
  have F6 := F5.add (rown accEnc 79 6 w.heap.size (.slice none 0 0) []) (gb_refl _ _) (Own.nil _ _ _ _ _) (fun g e => by simp [rown, Value.ownBlock] at e)
  clear F5
  have F7 := F6.add (rown mvEnc 76 4 w.heap.size (.slice none 0 0) []) (gb_refl _ _) (Own.nil _ _ _ _ _) (fun g e => by simp [rown, Value.ownBlock] at e)
  clear F6
  have F8 := F7.add (rown intEnc 3 1 w.heap.size (.slice none 0 0) []) (gb_refl _ _) (Own.nil _ _ _ _ _) (fun g e => by simp [rown, Value.ownBlock] at e)
  clear F7
  have F9 := F8.add (rown intEnc 3 1 w.heap.size (.slice none 0 0) []) (gb_refl _ _) (Own.nil _ _ _ _ _) (fun g e => by simp [rown, Value.ownBlock] at e)
  clear F8
  have F10 := F9.add (rown intEnc 3 1 w.heap.size (.slice none 0 0) []) (gb_refl _ _) (Own.nil _ _ _ _ _) (fun g e => by simp [rown, Value.ownBlock] at e)
  clear F9
  have F11 := F10.add (rown intEnc 3 1 w.heap.size (.slice none 0 0) []) (gb_refl _ _) (Own.nil _ _ _ _ _) (fun g e => by simp [rown, Value.ownBlock] at e)
  clear F10
  have F12 : Bus w sb [rseed sb, rown intEnc 3 1 w.heap.size (.slice none 0 0) [], rown intEnc 3 1 w.heap.size (.slice none 0 0) [], rown intEnc 3 1 w.heap.size (.slice none 0 0) [], rown intEnc 3 1 w.heap.size (.slice none 0 0) [], rown mvEnc 76 4 w.heap.size (.slice none 0 0) [], rown accEnc 79 6 w.heap.size (.slice none 0 0) [], rbox (w.heap.size + 4) 9 nmC, rbox (w.heap.size + 3) 32 #[.slice none 0 0, .slice none 0 0, .slice none 0 0], rbox (w.heap.size + 2) 25 #[.slice none 0 0, .slice none 0 0], rbox (w.heap.size + 1) 32 #[.slice none 0 0, .slice none 0 0, .slice none 0 0], rbox w.heap.size 25 #[.slice none 0 0, .slice none 0 0]] _ := F11.pick [11, 0, 1, 2, 3, 4, 5, 6, 7, 8, 9, 10] (by decide) rfl
  clear F11
  go_wp2_with fail
  refine (from_c sb 1 (min accounts 8 : Int) _ (F12.at 0 rfl) (by omega) (by omega) (by omega) (by omega)).mono ?_
  rintro e w1 ⟨r, rfl, hr, hs1, hg1⟩
  have hr1 : 1 ≤ r ∧ r ≤ accounts := by unfold fromR at hr; omega
  clear hr
  have hg1s := hg1.size
  (try simp at hg1s)
  have F13 := F12.seed hg1 hs1
  clear F12
  clear hg1
  have F14 : Bus w sb [rseed sb, rbox (w.heap.size + 2) 25 #[.slice none 0 0, .slice none 0 0], rbox (w.heap.size + 3) 32 #[.slice none 0 0, .slice none 0 0, .slice none 0 0], rown intEnc 3 1 w.heap.size (.slice none 0 0) [], rown intEnc 3 1 w.heap.size (.slice none 0 0) [], rown accEnc 79 6 w.heap.size (.slice none 0 0) [], rown mvEnc 76 4 w.heap.size (.slice none 0 0) [], rown intEnc 3 1 w.heap.size (.slice none 0 0) [], rown intEnc 3 1 w.heap.size (.slice none 0 0) [], rbox w.heap.size 25 #[.slice none 0 0, .slice none 0 0], rbox (w.heap.size + 1) 32 #[.slice none 0 0, .slice none 0 0, .slice none 0 0], rbox (w.heap.size + 4) 9 nmC] _ := F13.pick [0, 9, 8, 1, 4, 6, 5, 3, 2, 11, 10, 7] (by decide) rfl
  clear F13
  go_wp2_with fail
  obtain ⟨HI15_, HI150⟩ : ∃ I : (Nat → Value) → List Deferred → World → Prop, I = (fun t ds wr => ∃ (k : Nat) (A : List Acc) (O : List Int) (va vo vh : Value), t 0 = .pointer (some ⟨sb, 0, none⟩) ∧ t 2 = .int .i64 moves ∧ t 3 = .int .i64 litres ∧ t 4 = .int .i64 wide ∧ t 10 = .pointer (some ⟨w.heap.size, 0, none⟩) ∧ t 11 = .pointer (some ⟨(w.heap.size + 1), 0, none⟩) ∧ t 12 = .pointer (some ⟨(w.heap.size + 2), 0, none⟩) ∧ t 13 = .pointer (some ⟨(w.heap.size + 3), 0, none⟩) ∧ t 14 = .slice (some ⟨(w.heap.size + 4), 0, none⟩) 8 8 ∧ t 15 = vh ∧ t 16 = .int .i64 k ∧ (1 ≤ A.length + k ∧ A.length + k ≤ accounts) ∧ ds = [] ∧ w1.heap.size ≤ wr.heap.size ∧ PhA wide litres A O ∧ Bus w sb [rseed sb, rbox (w.heap.size + 2) 25 #[va, .slice none 0 0], rbox (w.heap.size + 3) 32 #[vo, .slice none 0 0, .slice none 0 0], rown intEnc 3 1 w.heap.size vh O, rown intEnc 3 1 w.heap.size vo O, rown accEnc 79 6 w.heap.size va A, rown mvEnc 76 4 w.heap.size (.slice none 0 0) [], rown intEnc 3 1 w.heap.size (.slice none 0 0) [], rown intEnc 3 1 w.heap.size (.slice none 0 0) [], rbox w.heap.size 25 #[.slice none 0 0, .slice none 0 0], rbox (w.heap.size + 1) 32 #[.slice none 0 0, .slice none 0 0, .slice none 0 0], rbox (w.heap.size + 4) 9 nmC] wr) := ⟨_, rfl⟩
  have HI15 := Lib.hid HI150
  clear HI150
  refine wp_loopS 203 rfl HI15_ (fun t wr => (intOf (t 16)).toNat) ?atStart1 ?round1
  case round1 =>
    intro t ds wr hHid
    rw [HI15.out] at hHid
    obtain ⟨k, A, O, va, vo, vh, e0, e2, e3, e4, e10, e11, e12, e13, e14, e15, e16, hrel⟩ := hHid
    have e : ((List.range 203).map t).toArray = #[t 0, t 1, t 2, t 3, t 4, t 5, t 6, t 7, t 8, t 9, t 10, t 11, t 12, t 13, t 14, t 15, t 16, t 17, t 18, t 19, t 20, t 21, t 22, t 23, t 24, t 25, t 26, t 27, t 28, t 29, t 30, t 31, t 32, t 33, t 34, t 35, t 36, t 37, t 38, t 39, t 40, t 41, t 42, t 43, t 44, t 45, t 46, t 47, t 48, t 49, t 50, t 51, t 52, t 53, t 54, t 55, t 56, t 57, t 58, t 59, t 60, t 61, t 62, t 63, t 64, t 65, t 66, t 67, t 68, t 69, t 70, t 71, t 72, t 73, t 74, t 75, t 76, t 77, t 78, t 79, t 80, t 81, t 82, t 83, t 84, t 85, t 86, t 87, t 88, t 89, t 90, t 91, t 92, t 93, t 94, t 95, t 96, t 97, t 98, t 99, t 100, t 101, t 102, t 103, t 104, t 105, t 106, t 107, t 108, t 109, t 110, t 111, t 112, t 113, t 114, t 115, t 116, t 117, t 118, t 119, t 120, t 121, t 122, t 123, t 124, t 125, t 126, t 127, t 128, t 129, t 130, t 131, t 132, t 133, t 134, t 135, t 136, t 137, t 138, t 139, t 140, t 141, t 142, t 143, t 144, t 145, t 146, t 147, t 148, t 149, t 150, t 151, t 152, t 153, t 154, t 155, t 156, t 157, t 158, t 159, t 160, t 161, t 162, t 163, t 164, t 165, t 166, t 167, t 168, t 169, t 170, t 171, t 172, t 173, t 174, t 175, t 176, t 177, t 178, t 179, t 180, t 181, t 182, t 183, t 184, t 185, t 186, t 187, t 188, t 189, t 190, t 191, t 192, t 193, t 194, t 195, t 196, t 197, t 198, t 199, t 200, t 201, t 202] := rfl
    (try dsimp only at e)
    rw [e0, e2, e3, e4, e10, e11, e12, e13, e14, e15, e16] at e
    rw [e]
    simp only [e16]
    clear e e0 e2 e3 e4 e10 e11 e12 e13 e14 e15 e16
    clear F14
    obtain ⟨hk, rfl, hws, hI, hF⟩ := hrel
    have hlO := Lib.hid hI.len
    by_cases hk0 : 0 < k
    · skip
      obtain ⟨pa16, pc17, e_⟩ := (Own.sl (hF.at 5 rfl : Own accEnc 79 6 w.heap.size _ va A) (fun _ => rfl)).any
      subst e_
      obtain ⟨pa18, pc19, e_⟩ := (Own.sl (hF.at 4 rfl : Own intEnc 3 1 w.heap.size _ vo O) (fun _ => rfl)).any
      subst e_
      obtain ⟨pa20, pc21, e_⟩ := (Own.sl (hF.at 3 rfl : Own intEnc 3 1 w.heap.size _ vh O) (fun _ => rfl)).any
      subst e_
      have HPI := Lib.hid hI
      clear hI
      have b22 : Bk _ (w.heap.size + 2) 25 #[.slice pa16 A.length pc17, .slice none 0 0] := hF.at 1 rfl
      have l23 := b22.lt
      have q24 : World.cell? _ ⟨(w.heap.size + 2), 0, none⟩ = some (.slice pa16 A.length pc17) := b22.cell 0
      have z25 := b22.frozen 0
      have q26 : World.cell? _ ⟨(w.heap.size + 2), 1, none⟩ = some (.slice none 0 0) := b22.cell 1
      have z27 := b22.frozen 1
      go_wp2_with fail
      clear b22 l23 q24 z25 q26 z27
      refine (yes_c sb 3 _ (hF.at 0 rfl) (by omega) (by omega)).mono ?_
      rintro e w2 ⟨q, rfl, hs2, hg2⟩
      have hg2s := hg2.size
      (try simp at hg2s)
      have F28 := hF.seed hg2 hs2
      clear hF
      clear hg2
      cases q
      · skip
        go_wp2_with fail
        refine (below_c sb (litres + 1) _ (F28.at 0 rfl) (by omega) (by omega)).mono ?_
        rintro e w3 ⟨r1, rfl, ⟨hb1, hb2⟩, hs3, hg3⟩
        have hg3s := hg3.size
        (try simp at hg3s)
        have F29 := F28.seed hg3 hs3
        clear F28
        clear hg3
        go_wp2_with fail
        have F30 := F29.new 3 #[.int .i64 0, .int .i64 r1] (n := w3.heap.size) (by simp)
        clear F29
        refine (of_c sb _ ((F30.front 1 rfl rfl).at 0 rfl) w3.heap.size 0 2 2 (fun i => [0, r1].getD i 0) (by decide) (by decide) (by omega) (fun i hi => by rcases i with _ | _ | i <;> first | (simp [go_sem]; done) | omega)).mono ?_
        rintro e w4 ⟨n, rfl, hn, hs4, hg4⟩
        have hg4s := hg4.size
        (try simp at hg4s)
        have hn1 : 0 ≤ n ∧ n ≤ litres := by
          obtain ⟨i, hi, rfl⟩ := hn
          rcases i with _ | _ | i
          · show (0 : Int) ≤ 0 ∧ (0 : Int) ≤ litres; omega
          · show 0 ≤ r1 ∧ r1 ≤ litres; omega
          · omega
        clear hn
        have F31 := (F30.front 1 rfl rfl).seed hg4 hs4
        (try dsimp only [List.eraseIdx_cons_succ, List.eraseIdx_cons_zero] at F31)
        clear F30
        clear hg4
        go_wp2_with fail
        have hk8 : A.length < 8 := by omega
        have hk8i : (A.length : Int) < 8 := by omega
        have hO8 : O.length < 8 := by have := hlO.out; omega
        have F32 := (F31.drop 1 rfl).drew
        (try dsimp only [List.eraseIdx_cons_succ, List.eraseIdx_cons_zero] at F32)
        clear F31
        refine ru_begin (fun W => W.cell? ⟨(w.heap.size + 2), 0, none⟩ = some (.slice pa16 A.length pc17) ∧ W.cell? ⟨(w.heap.size + 4), A.length, none⟩ = some (.string (nmAt A.length))) 15 (by kernel_rfl) ?_ ?_
        · exact ⟨((F32.at 1 rfl : Bk _ (w.heap.size + 2) 25 #[.slice pa16 A.length pc17, .slice none 0 0])).cell 0, ((F32.at 11 rfl : Bk _ (w.heap.size + 4) 9 nmC).cell A.length).trans (nmC_at hk8)⟩
        have hS33 : World.cell? _ ⟨(w.heap.size + 2), 0, none⟩ = some (.slice pa16 A.length pc17) ∧ World.cell? _ ⟨(w.heap.size + 4), A.length, none⟩ = some (.string (nmAt A.length)) := ⟨((F32.at 1 rfl : Bk _ (w.heap.size + 2) 25 #[.slice pa16 A.length pc17, .slice none 0 0])).cell 0, ((F32.at 11 rfl : Bk _ (w.heap.size + 4) 9 nmC).cell A.length).trans (nmC_at hk8)⟩
        refine ru_t 0 [] ?_
        refine ru_t 1 [] ?_
        refine ru_t 2 [] ?_
        refine ru_t 3 [] ?_
        refine ru_t 4 [] ?_
        refine ru_t 5 [] ?_
        refine ru_t 6 [] ?_
        refine ru_t 7 [] ?_
        refine ru_t 8 [] ?_
        refine ru_t 9 [] ?_
        (try simp only [Act.put, List.setIfInBounds_toArray, List.set_cons_zero, List.set_cons_succ])
        clear hS33
        refine ru_one 10 rfl (by kernel_rfl) (fun K hK => ?_)
        go_simp
        refine (around_c sb n wide _ (F32.at 0 rfl) hn1.1 (by omega) (by omega) (by omega)).mono ?_
        rintro e w37 ⟨v, rfl, ⟨s1, s2, rfl, hs5, hs6, hs7⟩, hs36, hg35⟩
        have hg35s := hg35.size
        (try simp at hg35s)
        have F38 := F32.seed hg35 hs36
        clear F32
        refine ru_back hK (by exact ⟨((F38.at 1 rfl : Bk _ (w.heap.size + 2) 25 #[.slice pa16 A.length pc17, .slice none 0 0])).cell 0, ((F38.at 11 rfl : Bk _ (w.heap.size + 4) 9 nmC).cell A.length).trans (nmC_at hk8)⟩) (fun hHeld => ?_)
        clear hK K
        (try simp only [Act.put, List.setIfInBounds_toArray, List.set_cons_zero, List.set_cons_succ])
        refine ru_one 11 rfl (by kernel_rfl) (fun K hK => ?_)
        go_simp
        refine ru_back hK (by exact ⟨((F38.at 1 rfl : Bk _ (w.heap.size + 2) 25 #[.slice pa16 A.length pc17, .slice none 0 0])).cell 0, ((F38.at 11 rfl : Bk _ (w.heap.size + 4) 9 nmC).cell A.length).trans (nmC_at hk8)⟩) (fun hHeld => ?_)
        clear hK K
        (try simp only [Act.put, List.setIfInBounds_toArray, List.set_cons_zero, List.set_cons_succ])
        refine ru_one 12 rfl (by kernel_rfl) (fun K hK => ?_)
        go_simp
        have F39 := F38.new 79 #[.string (nmAt A.length), .int .i64 1, .int .i64 s1, .int .i64 s2, .int .i64 0, .int .i64 0] (n := w37.heap.size) (by simp)
        clear F38
        refine ru_back hK (by exact ⟨((F39.at 2 rfl : Bk _ (w.heap.size + 2) 25 #[.slice pa16 A.length pc17, .slice none 0 0])).cell 0, ((F39.at 12 rfl : Bk _ (w.heap.size + 4) 9 nmC).cell A.length).trans (nmC_at hk8)⟩) (fun hHeld => ?_)
        clear hK K
        (try simp only [Act.put, List.setIfInBounds_toArray, List.set_cons_zero, List.set_cons_succ])
        refine ru_one 13 rfl (by kernel_rfl) (fun K hK => ?_)
        refine step_app _ okAc rfl _ _ rfl w.heap.size (.slice pa16 A.length pc17) A [(⟨nmAt A.length, 1, ⟨s1, s2⟩, ⟨0, 0⟩⟩ : Acc)] rfl (by exact (F39.at 6 rfl : Own accEnc 79 6 w.heap.size _ (.slice pa16 A.length pc17) A)) ⟨_, 0, none⟩ 1 1 rfl rfl (by decide) (news_of (F39.at 0 rfl : Bk _ w37.heap.size 79 #[.string (nmAt A.length), .int .i64 1, .int .i64 s1, .int .i64 s2, .int .i64 0, .int .i64 0])) (A.length + 1) (by simp) (by omega) (by first | omega | (simp; omega)) _ rfl ?_
        intro g40 cap41 w42 hp43
        have hp43s := hp43.gb.size
        (try simp at hp43s)
        have F44 := (F39.front 6 rfl rfl).app hp43 (Nat.le_refl _)
        (try dsimp only [List.eraseIdx_cons_succ, List.eraseIdx_cons_zero] at F44)
        clear F39
        refine ru_back hK (by exact ⟨((F44.at 3 rfl : Bk _ (w.heap.size + 2) 25 #[.slice pa16 A.length pc17, .slice none 0 0])).cell 0, ((F44.at 12 rfl : Bk _ (w.heap.size + 4) 9 nmC).cell A.length).trans (nmC_at hk8)⟩) (fun hHeld => ?_)
        clear hK K
        (try simp only [Act.put, List.setIfInBounds_toArray, List.set_cons_zero, List.set_cons_succ])
        refine ru_one 14 rfl (by kernel_rfl) (fun K hK => ?_)
        go_simp
        refine ru_back hK (by exact ⟨((F44.at 3 rfl : Bk _ (w.heap.size + 2) 25 #[.slice pa16 A.length pc17, .slice none 0 0])).cell 0, ((F44.at 12 rfl : Bk _ (w.heap.size + 4) 9 nmC).cell A.length).trans (nmC_at hk8)⟩) (fun hHeld => ?_)
        clear hK K
        (try simp only [Act.put, List.setIfInBounds_toArray, List.set_cons_zero, List.set_cons_succ])
        refine ru_one 15 rfl (by kernel_rfl) (fun K hK => ?_)
        have kb_ : Bk _ (w.heap.size + 2) 25 #[.slice pa16 A.length pc17, .slice none 0 0] := (F44.front 3 rfl rfl).at 0 rfl
        have kl_ := kb_.lt
        have kc0_ : World.cell? _ ⟨(w.heap.size + 2), 0, none⟩ = some (.slice pa16 A.length pc17) := kb_.cell 0
        have kf0_ : World.frozen? _ ⟨(w.heap.size + 2), 0, none⟩ = false := kb_.frozen 0
        have kc1_ : World.cell? _ ⟨(w.heap.size + 2), 1, none⟩ = some (.slice none 0 0) := kb_.cell 1
        have kf1_ : World.frozen? _ ⟨(w.heap.size + 2), 1, none⟩ = false := kb_.frozen 1
        go_simp
        clear kl_ kc0_ kf0_ kc1_ kf1_ kb_
        have F45 := (F44.front 3 rfl rfl).set 0 (.slice (some ⟨g40, 0, none⟩) (A.length + 1) cap41)
        (try dsimp only [List.eraseIdx_cons_succ, List.eraseIdx_cons_zero, List.setIfInBounds_toArray, List.set_cons_succ, List.set_cons_zero] at F45)
        clear F44
        refine ru_back_late hK (by kernel_rfl) ?_
        clear hK K
        (try simp only [Act.put, List.setIfInBounds_toArray, List.set_cons_zero, List.set_cons_succ])
        refine ru_done (by kernel_rfl) ?_
        have F46 : Bus w sb [rseed sb, rbox (w.heap.size + 2) 25 #[.slice (some ⟨g40, 0, none⟩) (A.length + 1) cap41, .slice none 0 0], rbox (w.heap.size + 3) 32 #[.slice pa18 O.length pc19, .slice none 0 0, .slice none 0 0], rown intEnc 3 1 w.heap.size (.slice pa20 O.length pc21) O, rown intEnc 3 1 w.heap.size (.slice pa18 O.length pc19) O, rown accEnc 79 6 w.heap.size (.slice (some ⟨g40, 0, none⟩) (A.length + 1) cap41) (A ++ [(⟨nmAt A.length, 1, ⟨s1, s2⟩, ⟨0, 0⟩⟩ : Acc)]), rown mvEnc 76 4 w.heap.size (.slice none 0 0) [], rown intEnc 3 1 w.heap.size (.slice none 0 0) [], rown intEnc 3 1 w.heap.size (.slice none 0 0) [], rbox w.heap.size 25 #[.slice none 0 0, .slice none 0 0], rbox (w.heap.size + 1) 32 #[.slice none 0 0, .slice none 0 0, .slice none 0 0], rbox (w.heap.size + 4) 9 nmC] _ := (F45.drop 2 rfl).pick [2, 0, 3, 4, 5, 1, 6, 7, 8, 9, 10, 11] (by decide) rfl
        clear F45
        go_wp2_with fail
        have F47 := F46.drew
        clear F46
        refine ru_begin (fun W => W.cell? ⟨(w.heap.size + 3), 0, none⟩ = some (.slice pa18 O.length pc19)) 11 (by kernel_rfl) ?_ ?_
        · exact ((F47.at 2 rfl : Bk _ (w.heap.size + 3) 32 #[.slice pa18 O.length pc19, .slice none 0 0, .slice none 0 0])).cell 0
        have hS48 : World.cell? _ ⟨(w.heap.size + 3), 0, none⟩ = some (.slice pa18 O.length pc19) := ((F47.at 2 rfl : Bk _ (w.heap.size + 3) 32 #[.slice pa18 O.length pc19, .slice none 0 0, .slice none 0 0])).cell 0
        refine ru_t 0 [] ?_
        refine ru_t 1 [] ?_
        refine ru_t 4 [] ?_
        refine ru_t 5 [] ?_
        refine ru_t 6 [] ?_
        (try simp only [Act.put, List.setIfInBounds_toArray, List.set_cons_zero, List.set_cons_succ])
        clear hS48
        refine ru_two 2 7 rfl rfl (by kernel_rfl) ?_ ?_
        · intro K hK
          go_simp
          have F50 := F47.new 3 #[.int .i64 n] (n := w42.heap.size) (by simp)
          clear F47
          refine ru_back hK (by exact ((F50.at 3 rfl : Bk _ (w.heap.size + 3) 32 #[.slice pa18 O.length pc19, .slice none 0 0, .slice none 0 0])).cell 0) (fun hHeld => ?_)
          clear hK K
          (try simp only [Act.put, List.setIfInBounds_toArray, List.set_cons_zero, List.set_cons_succ])
          refine ru_two 3 7 rfl rfl (by kernel_rfl) ?_ ?_
          · intro K hK
            refine step_app _ okInt rfl _ _ rfl w.heap.size (.slice pa20 O.length pc21) O [n] rfl (by exact (F50.at 4 rfl : Own intEnc 3 1 w.heap.size _ (.slice pa20 O.length pc21) O)) ⟨_, 0, none⟩ 1 1 rfl rfl (by decide) (news_of (F50.at 0 rfl : Bk _ w42.heap.size 3 #[.int .i64 n])) (O.length + 1) (by simp) (by omega) (by first | omega | (simp; omega)) _ rfl ?_
            intro g51 cap52 w53 hp54
            have hp54s := hp54.gb.size
            (try simp at hp54s)
            have F55 := (F50.front 4 rfl rfl).app hp54 (Nat.le_refl _)
            (try dsimp only [List.eraseIdx_cons_succ, List.eraseIdx_cons_zero] at F55)
            clear F50
            refine ru_back hK (by exact ((F55.at 4 rfl : Bk _ (w.heap.size + 3) 32 #[.slice pa18 O.length pc19, .slice none 0 0, .slice none 0 0])).cell 0) (fun hHeld => ?_)
            clear hK K
            (try simp only [Act.put, List.setIfInBounds_toArray, List.set_cons_zero, List.set_cons_succ])
            refine ru_one 7 rfl (by kernel_rfl) (fun K hK => ?_)
            go_simp
            have F56 := F55.new 3 #[.int .i64 n] (n := w53.heap.size) (by simp)
            clear F55
            refine ru_back hK (by exact ((F56.at 5 rfl : Bk _ (w.heap.size + 3) 32 #[.slice pa18 O.length pc19, .slice none 0 0, .slice none 0 0])).cell 0) (fun hHeld => ?_)
            clear hK K
            (try simp only [Act.put, List.setIfInBounds_toArray, List.set_cons_zero, List.set_cons_succ])
            refine ru_one 8 rfl (by kernel_rfl) (fun K hK => ?_)
            refine step_app _ okInt rfl _ _ rfl w.heap.size (.slice pa18 O.length pc19) O [n] rfl (by exact (F56.at 6 rfl : Own intEnc 3 1 w.heap.size _ (.slice pa18 O.length pc19) O)) ⟨_, 0, none⟩ 1 1 rfl rfl (by decide) (news_of (F56.at 0 rfl : Bk _ w53.heap.size 3 #[.int .i64 n])) (O.length + 1) (by simp) (by omega) (by first | omega | (simp; omega)) _ rfl ?_
            intro g57 cap58 w59 hp60
            have hp60s := hp60.gb.size
            (try simp at hp60s)
            have F61 := (F56.front 6 rfl rfl).app hp60 (Nat.le_refl _)
            (try dsimp only [List.eraseIdx_cons_succ, List.eraseIdx_cons_zero] at F61)
            clear F56
            refine ru_back hK (by exact ((F61.at 6 rfl : Bk _ (w.heap.size + 3) 32 #[.slice pa18 O.length pc19, .slice none 0 0, .slice none 0 0])).cell 0) (fun hHeld => ?_)
            clear hK K
            (try simp only [Act.put, List.setIfInBounds_toArray, List.set_cons_zero, List.set_cons_succ])
            refine ru_one 9 rfl (by kernel_rfl) (fun K hK => ?_)
            go_simp
            refine ru_back hK (by exact ((F61.at 6 rfl : Bk _ (w.heap.size + 3) 32 #[.slice pa18 O.length pc19, .slice none 0 0, .slice none 0 0])).cell 0) (fun hHeld => ?_)
            clear hK K
            (try simp only [Act.put, List.setIfInBounds_toArray, List.set_cons_zero, List.set_cons_succ])
            refine ru_one 10 rfl (by kernel_rfl) (fun K hK => ?_)
            go_simp
            refine ru_back hK (by exact ((F61.at 6 rfl : Bk _ (w.heap.size + 3) 32 #[.slice pa18 O.length pc19, .slice none 0 0, .slice none 0 0])).cell 0) (fun hHeld => ?_)
            clear hK K
            (try simp only [Act.put, List.setIfInBounds_toArray, List.set_cons_zero, List.set_cons_succ])
            refine ru_one 11 rfl (by kernel_rfl) (fun K hK => ?_)
            have kb_ : Bk _ (w.heap.size + 3) 32 #[.slice pa18 O.length pc19, .slice none 0 0, .slice none 0 0] := (F61.front 6 rfl rfl).at 0 rfl
            have kl_ := kb_.lt
            have kc0_ : World.cell? _ ⟨(w.heap.size + 3), 0, none⟩ = some (.slice pa18 O.length pc19) := kb_.cell 0
            have kf0_ : World.frozen? _ ⟨(w.heap.size + 3), 0, none⟩ = false := kb_.frozen 0
            have kc1_ : World.cell? _ ⟨(w.heap.size + 3), 1, none⟩ = some (.slice none 0 0) := kb_.cell 1
            have kf1_ : World.frozen? _ ⟨(w.heap.size + 3), 1, none⟩ = false := kb_.frozen 1
            have kc2_ : World.cell? _ ⟨(w.heap.size + 3), 2, none⟩ = some (.slice none 0 0) := kb_.cell 2
            have kf2_ : World.frozen? _ ⟨(w.heap.size + 3), 2, none⟩ = false := kb_.frozen 2
            go_simp
            clear kl_ kc0_ kf0_ kc1_ kf1_ kc2_ kf2_ kb_
            have F62 := (F61.front 6 rfl rfl).set 0 (.slice (some ⟨g57, 0, none⟩) (O.length + 1) cap58)
            (try dsimp only [List.eraseIdx_cons_succ, List.eraseIdx_cons_zero, List.setIfInBounds_toArray, List.set_cons_succ, List.set_cons_zero] at F62)
            clear F61
            refine ru_back_late hK (by kernel_rfl) ?_
            clear hK K
            (try simp only [Act.put, List.setIfInBounds_toArray, List.set_cons_zero, List.set_cons_succ])
            refine ru_done (by kernel_rfl) ?_
            have F63 : Bus w sb [rseed sb, rbox (w.heap.size + 2) 25 #[.slice (some ⟨g40, 0, none⟩) (A.length + 1) cap41, .slice none 0 0], rbox (w.heap.size + 3) 32 #[.slice (some ⟨g57, 0, none⟩) (O.length + 1) cap58, .slice none 0 0, .slice none 0 0], rown intEnc 3 1 w.heap.size (.slice (some ⟨g51, 0, none⟩) (O.length + 1) cap52) (O ++ [n]), rown intEnc 3 1 w.heap.size (.slice (some ⟨g57, 0, none⟩) (O.length + 1) cap58) (O ++ [n]), rown accEnc 79 6 w.heap.size (.slice (some ⟨g40, 0, none⟩) (A.length + 1) cap41) (A ++ [(⟨nmAt A.length, 1, ⟨s1, s2⟩, ⟨0, 0⟩⟩ : Acc)]), rown mvEnc 76 4 w.heap.size (.slice none 0 0) [], rown intEnc 3 1 w.heap.size (.slice none 0 0) [], rown intEnc 3 1 w.heap.size (.slice none 0 0) [], rbox w.heap.size 25 #[.slice none 0 0, .slice none 0 0], rbox (w.heap.size + 1) 32 #[.slice none 0 0, .slice none 0 0, .slice none 0 0], rbox (w.heap.size + 4) 9 nmC] _ := ((F62.drop 4 rfl).drop 2 rfl).pick [3, 4, 0, 2, 1, 5, 6, 7, 8, 9, 10, 11] (by decide) rfl
            clear F62
            go_wp2_with fail
            (first | refine ⟨rfl, ?_, ?_⟩ | refine ⟨?_, ?_⟩)
            · rw [HI15.out]; exact ⟨k - 1, A ++ [(⟨nmAt A.length, 1, ⟨s1, s2⟩, ⟨0, 0⟩⟩ : Acc)], O ++ [n], _, _, _, rfl, rfl, rfl, rfl, rfl, rfl, rfl, rfl, rfl, rfl, (by show Value.int .i64 ((k : Int) - 1) = _; rw [show ((k : Int) - 1) = ((k - 1 : Nat) : Int) by omega]), (by simp; omega), (by simp), (by first | omega | (simp; omega)), HPI.out.step (by decide) hn1 ⟨hs5, hs6, hs7⟩, F63⟩
            · simp [slot, intOf]; omega
          · intro K hK
            go_simp
            have F64 := F50.new 3 #[.int .i64 n] (n := (w42.heap.size + 1)) (by simp)
            clear F50
            refine ru_back hK (by exact ((F64.at 4 rfl : Bk _ (w.heap.size + 3) 32 #[.slice pa18 O.length pc19, .slice none 0 0, .slice none 0 0])).cell 0) (fun hHeld => ?_)
            clear hK K
            (try simp only [Act.put, List.setIfInBounds_toArray, List.set_cons_zero, List.set_cons_succ])
            refine ru_one 3 rfl (by kernel_rfl) (fun K hK => ?_)
            refine step_app _ okInt rfl _ _ rfl w.heap.size (.slice pa20 O.length pc21) O [n] rfl (by exact (F64.at 5 rfl : Own intEnc 3 1 w.heap.size _ (.slice pa20 O.length pc21) O)) ⟨_, 0, none⟩ 1 1 rfl rfl (by decide) (news_of (F64.at 1 rfl : Bk _ w42.heap.size 3 #[.int .i64 n])) (O.length + 1) (by simp) (by omega) (by first | omega | (simp; omega)) _ rfl ?_
            intro g65 cap66 w67 hp68
            have hp68s := hp68.gb.size
            (try simp at hp68s)
            have F69 := (F64.front 5 rfl rfl).app hp68 (Nat.le_refl _)
            (try dsimp only [List.eraseIdx_cons_succ, List.eraseIdx_cons_zero] at F69)
            clear F64
            refine ru_back hK (by exact ((F69.at 5 rfl : Bk _ (w.heap.size + 3) 32 #[.slice pa18 O.length pc19, .slice none 0 0, .slice none 0 0])).cell 0) (fun hHeld => ?_)
            clear hK K
            (try simp only [Act.put, List.setIfInBounds_toArray, List.set_cons_zero, List.set_cons_succ])
            refine ru_one 8 rfl (by kernel_rfl) (fun K hK => ?_)
            refine step_app _ okInt rfl _ _ rfl w.heap.size (.slice pa18 O.length pc19) O [n] rfl (by exact (F69.at 6 rfl : Own intEnc 3 1 w.heap.size _ (.slice pa18 O.length pc19) O)) ⟨_, 0, none⟩ 1 1 rfl rfl (by decide) (news_of (F69.at 1 rfl : Bk _ (w42.heap.size + 1) 3 #[.int .i64 n])) (O.length + 1) (by simp) (by omega) (by first | omega | (simp; omega)) _ rfl ?_
            intro g70 cap71 w72 hp73
            have hp73s := hp73.gb.size
            (try simp at hp73s)
            have F74 := (F69.front 6 rfl rfl).app hp73 (Nat.le_refl _)
            (try dsimp only [List.eraseIdx_cons_succ, List.eraseIdx_cons_zero] at F74)
            clear F69
            refine ru_back hK (by exact ((F74.at 6 rfl : Bk _ (w.heap.size + 3) 32 #[.slice pa18 O.length pc19, .slice none 0 0, .slice none 0 0])).cell 0) (fun hHeld => ?_)
            clear hK K
            (try simp only [Act.put, List.setIfInBounds_toArray, List.set_cons_zero, List.set_cons_succ])
            refine ru_one 9 rfl (by kernel_rfl) (fun K hK => ?_)
            go_simp
            refine ru_back hK (by exact ((F74.at 6 rfl : Bk _ (w.heap.size + 3) 32 #[.slice pa18 O.length pc19, .slice none 0 0, .slice none 0 0])).cell 0) (fun hHeld => ?_)
            clear hK K
            (try simp only [Act.put, List.setIfInBounds_toArray, List.set_cons_zero, List.set_cons_succ])
            refine ru_one 10 rfl (by kernel_rfl) (fun K hK => ?_)
            go_simp
            refine ru_back hK (by exact ((F74.at 6 rfl : Bk _ (w.heap.size + 3) 32 #[.slice pa18 O.length pc19, .slice none 0 0, .slice none 0 0])).cell 0) (fun hHeld => ?_)
            clear hK K
            (try simp only [Act.put, List.setIfInBounds_toArray, List.set_cons_zero, List.set_cons_succ])
            refine ru_one 11 rfl (by kernel_rfl) (fun K hK => ?_)
            have kb_ : Bk _ (w.heap.size + 3) 32 #[.slice pa18 O.length pc19, .slice none 0 0, .slice none 0 0] := (F74.front 6 rfl rfl).at 0 rfl
            have kl_ := kb_.lt
            have kc0_ : World.cell? _ ⟨(w.heap.size + 3), 0, none⟩ = some (.slice pa18 O.length pc19) := kb_.cell 0
            have kf0_ : World.frozen? _ ⟨(w.heap.size + 3), 0, none⟩ = false := kb_.frozen 0
            have kc1_ : World.cell? _ ⟨(w.heap.size + 3), 1, none⟩ = some (.slice none 0 0) := kb_.cell 1
            have kf1_ : World.frozen? _ ⟨(w.heap.size + 3), 1, none⟩ = false := kb_.frozen 1
            have kc2_ : World.cell? _ ⟨(w.heap.size + 3), 2, none⟩ = some (.slice none 0 0) := kb_.cell 2
            have kf2_ : World.frozen? _ ⟨(w.heap.size + 3), 2, none⟩ = false := kb_.frozen 2
            go_simp
            clear kl_ kc0_ kf0_ kc1_ kf1_ kc2_ kf2_ kb_
            have F75 := (F74.front 6 rfl rfl).set 0 (.slice (some ⟨g70, 0, none⟩) (O.length + 1) cap71)
            (try dsimp only [List.eraseIdx_cons_succ, List.eraseIdx_cons_zero, List.setIfInBounds_toArray, List.set_cons_succ, List.set_cons_zero] at F75)
            clear F74
            refine ru_back_late hK (by kernel_rfl) ?_
            clear hK K
            (try simp only [Act.put, List.setIfInBounds_toArray, List.set_cons_zero, List.set_cons_succ])
            refine ru_done (by kernel_rfl) ?_
            have F76 : Bus w sb [rseed sb, rbox (w.heap.size + 2) 25 #[.slice (some ⟨g40, 0, none⟩) (A.length + 1) cap41, .slice none 0 0], rbox (w.heap.size + 3) 32 #[.slice (some ⟨g70, 0, none⟩) (O.length + 1) cap71, .slice none 0 0, .slice none 0 0], rown intEnc 3 1 w.heap.size (.slice (some ⟨g65, 0, none⟩) (O.length + 1) cap66) (O ++ [n]), rown intEnc 3 1 w.heap.size (.slice (some ⟨g70, 0, none⟩) (O.length + 1) cap71) (O ++ [n]), rown accEnc 79 6 w.heap.size (.slice (some ⟨g40, 0, none⟩) (A.length + 1) cap41) (A ++ [(⟨nmAt A.length, 1, ⟨s1, s2⟩, ⟨0, 0⟩⟩ : Acc)]), rown mvEnc 76 4 w.heap.size (.slice none 0 0) [], rown intEnc 3 1 w.heap.size (.slice none 0 0) [], rown intEnc 3 1 w.heap.size (.slice none 0 0) [], rbox w.heap.size 25 #[.slice none 0 0, .slice none 0 0], rbox (w.heap.size + 1) 32 #[.slice none 0 0, .slice none 0 0, .slice none 0 0], rbox (w.heap.size + 4) 9 nmC] _ := ((F75.drop 4 rfl).drop 3 rfl).pick [3, 4, 0, 2, 1, 5, 6, 7, 8, 9, 10, 11] (by decide) rfl
            clear F75
            go_wp2_with fail
            (first | refine ⟨rfl, ?_, ?_⟩ | refine ⟨?_, ?_⟩)
            · rw [HI15.out]; exact ⟨k - 1, A ++ [(⟨nmAt A.length, 1, ⟨s1, s2⟩, ⟨0, 0⟩⟩ : Acc)], O ++ [n], _, _, _, rfl, rfl, rfl, rfl, rfl, rfl, rfl, rfl, rfl, rfl, (by show Value.int .i64 ((k : Int) - 1) = _; rw [show ((k : Int) - 1) = ((k - 1 : Nat) : Int) by omega]), (by simp; omega), (by simp), (by first | omega | (simp; omega)), HPI.out.step (by decide) hn1 ⟨hs5, hs6, hs7⟩, F76⟩
            · simp [slot, intOf]; omega
        · intro K hK
          go_simp
          have F77 := F47.new 3 #[.int .i64 n] (n := w42.heap.size) (by simp)
          clear F47
          refine ru_back hK (by exact ((F77.at 3 rfl : Bk _ (w.heap.size + 3) 32 #[.slice pa18 O.length pc19, .slice none 0 0, .slice none 0 0])).cell 0) (fun hHeld => ?_)
          clear hK K
          (try simp only [Act.put, List.setIfInBounds_toArray, List.set_cons_zero, List.set_cons_succ])
          refine ru_one 2 rfl (by kernel_rfl) (fun K hK => ?_)
          go_simp
          have F78 := F77.new 3 #[.int .i64 n] (n := (w42.heap.size + 1)) (by simp)
          clear F77
          refine ru_back hK (by exact ((F78.at 4 rfl : Bk _ (w.heap.size + 3) 32 #[.slice pa18 O.length pc19, .slice none 0 0, .slice none 0 0])).cell 0) (fun hHeld => ?_)
          clear hK K
          (try simp only [Act.put, List.setIfInBounds_toArray, List.set_cons_zero, List.set_cons_succ])
          refine ru_one 3 rfl (by kernel_rfl) (fun K hK => ?_)
          refine step_app _ okInt rfl _ _ rfl w.heap.size (.slice pa20 O.length pc21) O [n] rfl (by exact (F78.at 5 rfl : Own intEnc 3 1 w.heap.size _ (.slice pa20 O.length pc21) O)) ⟨_, 0, none⟩ 1 1 rfl rfl (by decide) (news_of (F78.at 0 rfl : Bk _ (w42.heap.size + 1) 3 #[.int .i64 n])) (O.length + 1) (by simp) (by omega) (by first | omega | (simp; omega)) _ rfl ?_
          intro g79 cap80 w81 hp82
          have hp82s := hp82.gb.size
          (try simp at hp82s)
          have F83 := (F78.front 5 rfl rfl).app hp82 (Nat.le_refl _)
          (try dsimp only [List.eraseIdx_cons_succ, List.eraseIdx_cons_zero] at F83)
          clear F78
          refine ru_back hK (by exact ((F83.at 5 rfl : Bk _ (w.heap.size + 3) 32 #[.slice pa18 O.length pc19, .slice none 0 0, .slice none 0 0])).cell 0) (fun hHeld => ?_)
          clear hK K
          (try simp only [Act.put, List.setIfInBounds_toArray, List.set_cons_zero, List.set_cons_succ])
          refine ru_one 8 rfl (by kernel_rfl) (fun K hK => ?_)
          refine step_app _ okInt rfl _ _ rfl w.heap.size (.slice pa18 O.length pc19) O [n] rfl (by exact (F83.at 6 rfl : Own intEnc 3 1 w.heap.size _ (.slice pa18 O.length pc19) O)) ⟨_, 0, none⟩ 1 1 rfl rfl (by decide) (news_of (F83.at 2 rfl : Bk _ w42.heap.size 3 #[.int .i64 n])) (O.length + 1) (by simp) (by omega) (by first | omega | (simp; omega)) _ rfl ?_
          intro g84 cap85 w86 hp87
          have hp87s := hp87.gb.size
          (try simp at hp87s)
          have F88 := (F83.front 6 rfl rfl).app hp87 (Nat.le_refl _)
          (try dsimp only [List.eraseIdx_cons_succ, List.eraseIdx_cons_zero] at F88)
          clear F83
          refine ru_back hK (by exact ((F88.at 6 rfl : Bk _ (w.heap.size + 3) 32 #[.slice pa18 O.length pc19, .slice none 0 0, .slice none 0 0])).cell 0) (fun hHeld => ?_)
          clear hK K
          (try simp only [Act.put, List.setIfInBounds_toArray, List.set_cons_zero, List.set_cons_succ])
          refine ru_one 9 rfl (by kernel_rfl) (fun K hK => ?_)
          go_simp
          refine ru_back hK (by exact ((F88.at 6 rfl : Bk _ (w.heap.size + 3) 32 #[.slice pa18 O.length pc19, .slice none 0 0, .slice none 0 0])).cell 0) (fun hHeld => ?_)
          clear hK K
          (try simp only [Act.put, List.setIfInBounds_toArray, List.set_cons_zero, List.set_cons_succ])
          refine ru_one 10 rfl (by kernel_rfl) (fun K hK => ?_)
          go_simp
          refine ru_back hK (by exact ((F88.at 6 rfl : Bk _ (w.heap.size + 3) 32 #[.slice pa18 O.length pc19, .slice none 0 0, .slice none 0 0])).cell 0) (fun hHeld => ?_)
          clear hK K
          (try simp only [Act.put, List.setIfInBounds_toArray, List.set_cons_zero, List.set_cons_succ])
          refine ru_one 11 rfl (by kernel_rfl) (fun K hK => ?_)
          have kb_ : Bk _ (w.heap.size + 3) 32 #[.slice pa18 O.length pc19, .slice none 0 0, .slice none 0 0] := (F88.front 6 rfl rfl).at 0 rfl
          have kl_ := kb_.lt
          have kc0_ : World.cell? _ ⟨(w.heap.size + 3), 0, none⟩ = some (.slice pa18 O.length pc19) := kb_.cell 0
          have kf0_ : World.frozen? _ ⟨(w.heap.size + 3), 0, none⟩ = false := kb_.frozen 0
          have kc1_ : World.cell? _ ⟨(w.heap.size + 3), 1, none⟩ = some (.slice none 0 0) := kb_.cell 1
          have kf1_ : World.frozen? _ ⟨(w.heap.size + 3), 1, none⟩ = false := kb_.frozen 1
          have kc2_ : World.cell? _ ⟨(w.heap.size + 3), 2, none⟩ = some (.slice none 0 0) := kb_.cell 2
          have kf2_ : World.frozen? _ ⟨(w.heap.size + 3), 2, none⟩ = false := kb_.frozen 2
          go_simp
          clear kl_ kc0_ kf0_ kc1_ kf1_ kc2_ kf2_ kb_
          have F89 := (F88.front 6 rfl rfl).set 0 (.slice (some ⟨g84, 0, none⟩) (O.length + 1) cap85)
          (try dsimp only [List.eraseIdx_cons_succ, List.eraseIdx_cons_zero, List.setIfInBounds_toArray, List.set_cons_succ, List.set_cons_zero] at F89)
          clear F88
          refine ru_back_late hK (by kernel_rfl) ?_
          clear hK K
          (try simp only [Act.put, List.setIfInBounds_toArray, List.set_cons_zero, List.set_cons_succ])
          refine ru_done (by kernel_rfl) ?_
          have F90 : Bus w sb [rseed sb, rbox (w.heap.size + 2) 25 #[.slice (some ⟨g40, 0, none⟩) (A.length + 1) cap41, .slice none 0 0], rbox (w.heap.size + 3) 32 #[.slice (some ⟨g84, 0, none⟩) (O.length + 1) cap85, .slice none 0 0, .slice none 0 0], rown intEnc 3 1 w.heap.size (.slice (some ⟨g79, 0, none⟩) (O.length + 1) cap80) (O ++ [n]), rown intEnc 3 1 w.heap.size (.slice (some ⟨g84, 0, none⟩) (O.length + 1) cap85) (O ++ [n]), rown accEnc 79 6 w.heap.size (.slice (some ⟨g40, 0, none⟩) (A.length + 1) cap41) (A ++ [(⟨nmAt A.length, 1, ⟨s1, s2⟩, ⟨0, 0⟩⟩ : Acc)]), rown mvEnc 76 4 w.heap.size (.slice none 0 0) [], rown intEnc 3 1 w.heap.size (.slice none 0 0) [], rown intEnc 3 1 w.heap.size (.slice none 0 0) [], rbox w.heap.size 25 #[.slice none 0 0, .slice none 0 0], rbox (w.heap.size + 1) 32 #[.slice none 0 0, .slice none 0 0, .slice none 0 0], rbox (w.heap.size + 4) 9 nmC] _ := ((F89.drop 3 rfl).drop 3 rfl).pick [3, 4, 0, 2, 1, 5, 6, 7, 8, 9, 10, 11] (by decide) rfl
          clear F89
          go_wp2_with fail
          (first | refine ⟨rfl, ?_, ?_⟩ | refine ⟨?_, ?_⟩)
          · rw [HI15.out]; exact ⟨k - 1, A ++ [(⟨nmAt A.length, 1, ⟨s1, s2⟩, ⟨0, 0⟩⟩ : Acc)], O ++ [n], _, _, _, rfl, rfl, rfl, rfl, rfl, rfl, rfl, rfl, rfl, rfl, (by show Value.int .i64 ((k : Int) - 1) = _; rw [show ((k : Int) - 1) = ((k - 1 : Nat) : Int) by omega]), (by simp; omega), (by simp), (by first | omega | (simp; omega)), HPI.out.step (by decide) hn1 ⟨hs5, hs6, hs7⟩, F90⟩
          · simp [slot, intOf]; omega
      · skip
        go_wp2_with fail
        refine (below_c sb (litres + 1) _ (F28.at 0 rfl) (by omega) (by omega)).mono ?_
        rintro e w3 ⟨r1, rfl, ⟨hb1, hb2⟩, hs3, hg3⟩
        have hg3s := hg3.size
        (try simp at hg3s)
        have F91 := F28.seed hg3 hs3
        clear F28
        clear hg3
        go_wp2_with fail
        have F92 := F91.new 3 #[.int .i64 0, .int .i64 r1] (n := w3.heap.size) (by simp)
        clear F91
        refine (of_c sb _ ((F92.front 1 rfl rfl).at 0 rfl) w3.heap.size 0 2 2 (fun i => [0, r1].getD i 0) (by decide) (by decide) (by omega) (fun i hi => by rcases i with _ | _ | i <;> first | (simp [go_sem]; done) | omega)).mono ?_
        rintro e w4 ⟨n, rfl, hn, hs4, hg4⟩
        have hg4s := hg4.size
        (try simp at hg4s)
        have hn1 : 0 ≤ n ∧ n ≤ litres := by
          obtain ⟨i, hi, rfl⟩ := hn
          rcases i with _ | _ | i
          · show (0 : Int) ≤ 0 ∧ (0 : Int) ≤ litres; omega
          · show 0 ≤ r1 ∧ r1 ≤ litres; omega
          · omega
        clear hn
        have F93 := (F92.front 1 rfl rfl).seed hg4 hs4
        (try dsimp only [List.eraseIdx_cons_succ, List.eraseIdx_cons_zero] at F93)
        clear F92
        clear hg4
        go_wp2_with fail
        have hk8 : A.length < 8 := by omega
        have hk8i : (A.length : Int) < 8 := by omega
        have hO8 : O.length < 8 := by have := hlO.out; omega
        have F94 := (F93.drop 1 rfl).drew
        (try dsimp only [List.eraseIdx_cons_succ, List.eraseIdx_cons_zero] at F94)
        clear F93
        refine ru_begin (fun W => W.cell? ⟨(w.heap.size + 2), 0, none⟩ = some (.slice pa16 A.length pc17) ∧ W.cell? ⟨(w.heap.size + 4), A.length, none⟩ = some (.string (nmAt A.length))) 15 (by kernel_rfl) ?_ ?_
        · exact ⟨((F94.at 1 rfl : Bk _ (w.heap.size + 2) 25 #[.slice pa16 A.length pc17, .slice none 0 0])).cell 0, ((F94.at 11 rfl : Bk _ (w.heap.size + 4) 9 nmC).cell A.length).trans (nmC_at hk8)⟩
        have hS95 : World.cell? _ ⟨(w.heap.size + 2), 0, none⟩ = some (.slice pa16 A.length pc17) ∧ World.cell? _ ⟨(w.heap.size + 4), A.length, none⟩ = some (.string (nmAt A.length)) := ⟨((F94.at 1 rfl : Bk _ (w.heap.size + 2) 25 #[.slice pa16 A.length pc17, .slice none 0 0])).cell 0, ((F94.at 11 rfl : Bk _ (w.heap.size + 4) 9 nmC).cell A.length).trans (nmC_at hk8)⟩
        refine ru_t 0 [] ?_
        refine ru_t 1 [] ?_
        refine ru_t 2 [] ?_
        refine ru_t 3 [] ?_
        refine ru_t 4 [] ?_
        refine ru_t 5 [] ?_
        refine ru_t 6 [] ?_
        refine ru_t 7 [] ?_
        refine ru_t 8 [] ?_
        refine ru_t 9 [] ?_
        (try simp only [Act.put, List.setIfInBounds_toArray, List.set_cons_zero, List.set_cons_succ])
        clear hS95
        refine ru_one 10 rfl (by kernel_rfl) (fun K hK => ?_)
        go_simp
        refine (around_c sb n wide _ (F94.at 0 rfl) hn1.1 (by omega) (by omega) (by omega)).mono ?_
        rintro e w99 ⟨v, rfl, ⟨s1, s2, rfl, hs5, hs6, hs7⟩, hs98, hg97⟩
        have hg97s := hg97.size
        (try simp at hg97s)
        have F100 := F94.seed hg97 hs98
        clear F94
        refine ru_back hK (by exact ⟨((F100.at 1 rfl : Bk _ (w.heap.size + 2) 25 #[.slice pa16 A.length pc17, .slice none 0 0])).cell 0, ((F100.at 11 rfl : Bk _ (w.heap.size + 4) 9 nmC).cell A.length).trans (nmC_at hk8)⟩) (fun hHeld => ?_)
        clear hK K
        (try simp only [Act.put, List.setIfInBounds_toArray, List.set_cons_zero, List.set_cons_succ])
        refine ru_one 11 rfl (by kernel_rfl) (fun K hK => ?_)
        go_simp
        refine ru_back hK (by exact ⟨((F100.at 1 rfl : Bk _ (w.heap.size + 2) 25 #[.slice pa16 A.length pc17, .slice none 0 0])).cell 0, ((F100.at 11 rfl : Bk _ (w.heap.size + 4) 9 nmC).cell A.length).trans (nmC_at hk8)⟩) (fun hHeld => ?_)
        clear hK K
        (try simp only [Act.put, List.setIfInBounds_toArray, List.set_cons_zero, List.set_cons_succ])
        refine ru_one 12 rfl (by kernel_rfl) (fun K hK => ?_)
        go_simp
        have F101 := F100.new 79 #[.string (nmAt A.length), .int .i64 2, .int .i64 s1, .int .i64 s2, .int .i64 0, .int .i64 0] (n := w99.heap.size) (by simp)
        clear F100
        refine ru_back hK (by exact ⟨((F101.at 2 rfl : Bk _ (w.heap.size + 2) 25 #[.slice pa16 A.length pc17, .slice none 0 0])).cell 0, ((F101.at 12 rfl : Bk _ (w.heap.size + 4) 9 nmC).cell A.length).trans (nmC_at hk8)⟩) (fun hHeld => ?_)
        clear hK K
        (try simp only [Act.put, List.setIfInBounds_toArray, List.set_cons_zero, List.set_cons_succ])
        refine ru_one 13 rfl (by kernel_rfl) (fun K hK => ?_)
        refine step_app _ okAc rfl _ _ rfl w.heap.size (.slice pa16 A.length pc17) A [(⟨nmAt A.length, 2, ⟨s1, s2⟩, ⟨0, 0⟩⟩ : Acc)] rfl (by exact (F101.at 6 rfl : Own accEnc 79 6 w.heap.size _ (.slice pa16 A.length pc17) A)) ⟨_, 0, none⟩ 1 1 rfl rfl (by decide) (news_of (F101.at 0 rfl : Bk _ w99.heap.size 79 #[.string (nmAt A.length), .int .i64 2, .int .i64 s1, .int .i64 s2, .int .i64 0, .int .i64 0])) (A.length + 1) (by simp) (by omega) (by first | omega | (simp; omega)) _ rfl ?_
        intro g102 cap103 w104 hp105
        have hp105s := hp105.gb.size
        (try simp at hp105s)
        have F106 := (F101.front 6 rfl rfl).app hp105 (Nat.le_refl _)
        (try dsimp only [List.eraseIdx_cons_succ, List.eraseIdx_cons_zero] at F106)
        clear F101
        refine ru_back hK (by exact ⟨((F106.at 3 rfl : Bk _ (w.heap.size + 2) 25 #[.slice pa16 A.length pc17, .slice none 0 0])).cell 0, ((F106.at 12 rfl : Bk _ (w.heap.size + 4) 9 nmC).cell A.length).trans (nmC_at hk8)⟩) (fun hHeld => ?_)
        clear hK K
        (try simp only [Act.put, List.setIfInBounds_toArray, List.set_cons_zero, List.set_cons_succ])
        refine ru_one 14 rfl (by kernel_rfl) (fun K hK => ?_)
        go_simp
        refine ru_back hK (by exact ⟨((F106.at 3 rfl : Bk _ (w.heap.size + 2) 25 #[.slice pa16 A.length pc17, .slice none 0 0])).cell 0, ((F106.at 12 rfl : Bk _ (w.heap.size + 4) 9 nmC).cell A.length).trans (nmC_at hk8)⟩) (fun hHeld => ?_)
        clear hK K
        (try simp only [Act.put, List.setIfInBounds_toArray, List.set_cons_zero, List.set_cons_succ])
        refine ru_one 15 rfl (by kernel_rfl) (fun K hK => ?_)
        have kb_ : Bk _ (w.heap.size + 2) 25 #[.slice pa16 A.length pc17, .slice none 0 0] := (F106.front 3 rfl rfl).at 0 rfl
        have kl_ := kb_.lt
        have kc0_ : World.cell? _ ⟨(w.heap.size + 2), 0, none⟩ = some (.slice pa16 A.length pc17) := kb_.cell 0
        have kf0_ : World.frozen? _ ⟨(w.heap.size + 2), 0, none⟩ = false := kb_.frozen 0
        have kc1_ : World.cell? _ ⟨(w.heap.size + 2), 1, none⟩ = some (.slice none 0 0) := kb_.cell 1
        have kf1_ : World.frozen? _ ⟨(w.heap.size + 2), 1, none⟩ = false := kb_.frozen 1
        go_simp
        clear kl_ kc0_ kf0_ kc1_ kf1_ kb_
        have F107 := (F106.front 3 rfl rfl).set 0 (.slice (some ⟨g102, 0, none⟩) (A.length + 1) cap103)
        (try dsimp only [List.eraseIdx_cons_succ, List.eraseIdx_cons_zero, List.setIfInBounds_toArray, List.set_cons_succ, List.set_cons_zero] at F107)
        clear F106
        refine ru_back_late hK (by kernel_rfl) ?_
        clear hK K
        (try simp only [Act.put, List.setIfInBounds_toArray, List.set_cons_zero, List.set_cons_succ])
        refine ru_done (by kernel_rfl) ?_
        have F108 : Bus w sb [rseed sb, rbox (w.heap.size + 2) 25 #[.slice (some ⟨g102, 0, none⟩) (A.length + 1) cap103, .slice none 0 0], rbox (w.heap.size + 3) 32 #[.slice pa18 O.length pc19, .slice none 0 0, .slice none 0 0], rown intEnc 3 1 w.heap.size (.slice pa20 O.length pc21) O, rown intEnc 3 1 w.heap.size (.slice pa18 O.length pc19) O, rown accEnc 79 6 w.heap.size (.slice (some ⟨g102, 0, none⟩) (A.length + 1) cap103) (A ++ [(⟨nmAt A.length, 2, ⟨s1, s2⟩, ⟨0, 0⟩⟩ : Acc)]), rown mvEnc 76 4 w.heap.size (.slice none 0 0) [], rown intEnc 3 1 w.heap.size (.slice none 0 0) [], rown intEnc 3 1 w.heap.size (.slice none 0 0) [], rbox w.heap.size 25 #[.slice none 0 0, .slice none 0 0], rbox (w.heap.size + 1) 32 #[.slice none 0 0, .slice none 0 0, .slice none 0 0], rbox (w.heap.size + 4) 9 nmC] _ := (F107.drop 2 rfl).pick [2, 0, 3, 4, 5, 1, 6, 7, 8, 9, 10, 11] (by decide) rfl
        clear F107
        go_wp2_with fail
        have F109 := F108.drew
        clear F108
        refine ru_begin (fun W => W.cell? ⟨(w.heap.size + 3), 0, none⟩ = some (.slice pa18 O.length pc19)) 11 (by kernel_rfl) ?_ ?_
        · exact ((F109.at 2 rfl : Bk _ (w.heap.size + 3) 32 #[.slice pa18 O.length pc19, .slice none 0 0, .slice none 0 0])).cell 0
        have hS110 : World.cell? _ ⟨(w.heap.size + 3), 0, none⟩ = some (.slice pa18 O.length pc19) := ((F109.at 2 rfl : Bk _ (w.heap.size + 3) 32 #[.slice pa18 O.length pc19, .slice none 0 0, .slice none 0 0])).cell 0
        refine ru_t 0 [] ?_
        refine ru_t 1 [] ?_
        refine ru_t 4 [] ?_
        refine ru_t 5 [] ?_
        refine ru_t 6 [] ?_
        (try simp only [Act.put, List.setIfInBounds_toArray, List.set_cons_zero, List.set_cons_succ])
        clear hS110
        refine ru_two 2 7 rfl rfl (by kernel_rfl) ?_ ?_
        · intro K hK
          go_simp
          have F112 := F109.new 3 #[.int .i64 n] (n := w104.heap.size) (by simp)
          clear F109
          refine ru_back hK (by exact ((F112.at 3 rfl : Bk _ (w.heap.size + 3) 32 #[.slice pa18 O.length pc19, .slice none 0 0, .slice none 0 0])).cell 0) (fun hHeld => ?_)
          clear hK K
          (try simp only [Act.put, List.setIfInBounds_toArray, List.set_cons_zero, List.set_cons_succ])
          refine ru_two 3 7 rfl rfl (by kernel_rfl) ?_ ?_
          · intro K hK
            refine step_app _ okInt rfl _ _ rfl w.heap.size (.slice pa20 O.length pc21) O [n] rfl (by exact (F112.at 4 rfl : Own intEnc 3 1 w.heap.size _ (.slice pa20 O.length pc21) O)) ⟨_, 0, none⟩ 1 1 rfl rfl (by decide) (news_of (F112.at 0 rfl : Bk _ w104.heap.size 3 #[.int .i64 n])) (O.length + 1) (by simp) (by omega) (by first | omega | (simp; omega)) _ rfl ?_
            intro g113 cap114 w115 hp116
            have hp116s := hp116.gb.size
            (try simp at hp116s)
            have F117 := (F112.front 4 rfl rfl).app hp116 (Nat.le_refl _)
            (try dsimp only [List.eraseIdx_cons_succ, List.eraseIdx_cons_zero] at F117)
            clear F112
            refine ru_back hK (by exact ((F117.at 4 rfl : Bk _ (w.heap.size + 3) 32 #[.slice pa18 O.length pc19, .slice none 0 0, .slice none 0 0])).cell 0) (fun hHeld => ?_)
            clear hK K
            (try simp only [Act.put, List.setIfInBounds_toArray, List.set_cons_zero, List.set_cons_succ])
            refine ru_one 7 rfl (by kernel_rfl) (fun K hK => ?_)
            go_simp
            have F118 := F117.new 3 #[.int .i64 n] (n := w115.heap.size) (by simp)
            clear F117
            refine ru_back hK (by exact ((F118.at 5 rfl : Bk _ (w.heap.size + 3) 32 #[.slice pa18 O.length pc19, .slice none 0 0, .slice none 0 0])).cell 0) (fun hHeld => ?_)
            clear hK K
            (try simp only [Act.put, List.setIfInBounds_toArray, List.set_cons_zero, List.set_cons_succ])
            refine ru_one 8 rfl (by kernel_rfl) (fun K hK => ?_)
            refine step_app _ okInt rfl _ _ rfl w.heap.size (.slice pa18 O.length pc19) O [n] rfl (by exact (F118.at 6 rfl : Own intEnc 3 1 w.heap.size _ (.slice pa18 O.length pc19) O)) ⟨_, 0, none⟩ 1 1 rfl rfl (by decide) (news_of (F118.at 0 rfl : Bk _ w115.heap.size 3 #[.int .i64 n])) (O.length + 1) (by simp) (by omega) (by first | omega | (simp; omega)) _ rfl ?_
            intro g119 cap120 w121 hp122
            have hp122s := hp122.gb.size
            (try simp at hp122s)
            have F123 := (F118.front 6 rfl rfl).app hp122 (Nat.le_refl _)
            (try dsimp only [List.eraseIdx_cons_succ, List.eraseIdx_cons_zero] at F123)
            clear F118
            refine ru_back hK (by exact ((F123.at 6 rfl : Bk _ (w.heap.size + 3) 32 #[.slice pa18 O.length pc19, .slice none 0 0, .slice none 0 0])).cell 0) (fun hHeld => ?_)
            clear hK K
            (try simp only [Act.put, List.setIfInBounds_toArray, List.set_cons_zero, List.set_cons_succ])
            refine ru_one 9 rfl (by kernel_rfl) (fun K hK => ?_)
            go_simp
            refine ru_back hK (by exact ((F123.at 6 rfl : Bk _ (w.heap.size + 3) 32 #[.slice pa18 O.length pc19, .slice none 0 0, .slice none 0 0])).cell 0) (fun hHeld => ?_)
            clear hK K
            (try simp only [Act.put, List.setIfInBounds_toArray, List.set_cons_zero, List.set_cons_succ])
            refine ru_one 10 rfl (by kernel_rfl) (fun K hK => ?_)
            go_simp
            refine ru_back hK (by exact ((F123.at 6 rfl : Bk _ (w.heap.size + 3) 32 #[.slice pa18 O.length pc19, .slice none 0 0, .slice none 0 0])).cell 0) (fun hHeld => ?_)
            clear hK K
            (try simp only [Act.put, List.setIfInBounds_toArray, List.set_cons_zero, List.set_cons_succ])
            refine ru_one 11 rfl (by kernel_rfl) (fun K hK => ?_)
            have kb_ : Bk _ (w.heap.size + 3) 32 #[.slice pa18 O.length pc19, .slice none 0 0, .slice none 0 0] := (F123.front 6 rfl rfl).at 0 rfl
            have kl_ := kb_.lt
            have kc0_ : World.cell? _ ⟨(w.heap.size + 3), 0, none⟩ = some (.slice pa18 O.length pc19) := kb_.cell 0
            have kf0_ : World.frozen? _ ⟨(w.heap.size + 3), 0, none⟩ = false := kb_.frozen 0
            have kc1_ : World.cell? _ ⟨(w.heap.size + 3), 1, none⟩ = some (.slice none 0 0) := kb_.cell 1
            have kf1_ : World.frozen? _ ⟨(w.heap.size + 3), 1, none⟩ = false := kb_.frozen 1
            have kc2_ : World.cell? _ ⟨(w.heap.size + 3), 2, none⟩ = some (.slice none 0 0) := kb_.cell 2
            have kf2_ : World.frozen? _ ⟨(w.heap.size + 3), 2, none⟩ = false := kb_.frozen 2
            go_simp
            clear kl_ kc0_ kf0_ kc1_ kf1_ kc2_ kf2_ kb_
            have F124 := (F123.front 6 rfl rfl).set 0 (.slice (some ⟨g119, 0, none⟩) (O.length + 1) cap120)
            (try dsimp only [List.eraseIdx_cons_succ, List.eraseIdx_cons_zero, List.setIfInBounds_toArray, List.set_cons_succ, List.set_cons_zero] at F124)
            clear F123
            refine ru_back_late hK (by kernel_rfl) ?_
            clear hK K
            (try simp only [Act.put, List.setIfInBounds_toArray, List.set_cons_zero, List.set_cons_succ])
            refine ru_done (by kernel_rfl) ?_
            have F125 : Bus w sb [rseed sb, rbox (w.heap.size + 2) 25 #[.slice (some ⟨g102, 0, none⟩) (A.length + 1) cap103, .slice none 0 0], rbox (w.heap.size + 3) 32 #[.slice (some ⟨g119, 0, none⟩) (O.length + 1) cap120, .slice none 0 0, .slice none 0 0], rown intEnc 3 1 w.heap.size (.slice (some ⟨g113, 0, none⟩) (O.length + 1) cap114) (O ++ [n]), rown intEnc 3 1 w.heap.size (.slice (some ⟨g119, 0, none⟩) (O.length + 1) cap120) (O ++ [n]), rown accEnc 79 6 w.heap.size (.slice (some ⟨g102, 0, none⟩) (A.length + 1) cap103) (A ++ [(⟨nmAt A.length, 2, ⟨s1, s2⟩, ⟨0, 0⟩⟩ : Acc)]), rown mvEnc 76 4 w.heap.size (.slice none 0 0) [], rown intEnc 3 1 w.heap.size (.slice none 0 0) [], rown intEnc 3 1 w.heap.size (.slice none 0 0) [], rbox w.heap.size 25 #[.slice none 0 0, .slice none 0 0], rbox (w.heap.size + 1) 32 #[.slice none 0 0, .slice none 0 0, .slice none 0 0], rbox (w.heap.size + 4) 9 nmC] _ := ((F124.drop 4 rfl).drop 2 rfl).pick [3, 4, 0, 2, 1, 5, 6, 7, 8, 9, 10, 11] (by decide) rfl
            clear F124
            go_wp2_with fail
            (first | refine ⟨rfl, ?_, ?_⟩ | refine ⟨?_, ?_⟩)
            · rw [HI15.out]; exact ⟨k - 1, A ++ [(⟨nmAt A.length, 2, ⟨s1, s2⟩, ⟨0, 0⟩⟩ : Acc)], O ++ [n], _, _, _, rfl, rfl, rfl, rfl, rfl, rfl, rfl, rfl, rfl, rfl, (by show Value.int .i64 ((k : Int) - 1) = _; rw [show ((k : Int) - 1) = ((k - 1 : Nat) : Int) by omega]), (by simp; omega), (by simp), (by first | omega | (simp; omega)), HPI.out.step (by decide) hn1 ⟨hs5, hs6, hs7⟩, F125⟩
            · simp [slot, intOf]; omega
          · intro K hK
            go_simp
            have F126 := F112.new 3 #[.int .i64 n] (n := (w104.heap.size + 1)) (by simp)
            clear F112
            refine ru_back hK (by exact ((F126.at 4 rfl : Bk _ (w.heap.size + 3) 32 #[.slice pa18 O.length pc19, .slice none 0 0, .slice none 0 0])).cell 0) (fun hHeld => ?_)
            clear hK K
            (try simp only [Act.put, List.setIfInBounds_toArray, List.set_cons_zero, List.set_cons_succ])
            refine ru_one 3 rfl (by kernel_rfl) (fun K hK => ?_)
            refine step_app _ okInt rfl _ _ rfl w.heap.size (.slice pa20 O.length pc21) O [n] rfl (by exact (F126.at 5 rfl : Own intEnc 3 1 w.heap.size _ (.slice pa20 O.length pc21) O)) ⟨_, 0, none⟩ 1 1 rfl rfl (by decide) (news_of (F126.at 1 rfl : Bk _ w104.heap.size 3 #[.int .i64 n])) (O.length + 1) (by simp) (by omega) (by first | omega | (simp; omega)) _ rfl ?_
            intro g127 cap128 w129 hp130
            have hp130s := hp130.gb.size
            (try simp at hp130s)
            have F131 := (F126.front 5 rfl rfl).app hp130 (Nat.le_refl _)
            (try dsimp only [List.eraseIdx_cons_succ, List.eraseIdx_cons_zero] at F131)
            clear F126
            refine ru_back hK (by exact ((F131.at 5 rfl : Bk _ (w.heap.size + 3) 32 #[.slice pa18 O.length pc19, .slice none 0 0, .slice none 0 0])).cell 0) (fun hHeld => ?_)
            clear hK K
            (try simp only [Act.put, List.setIfInBounds_toArray, List.set_cons_zero, List.set_cons_succ])
            refine ru_one 8 rfl (by kernel_rfl) (fun K hK => ?_)
            refine step_app _ okInt rfl _ _ rfl w.heap.size (.slice pa18 O.length pc19) O [n] rfl (by exact (F131.at 6 rfl : Own intEnc 3 1 w.heap.size _ (.slice pa18 O.length pc19) O)) ⟨_, 0, none⟩ 1 1 rfl rfl (by decide) (news_of (F131.at 1 rfl : Bk _ (w104.heap.size + 1) 3 #[.int .i64 n])) (O.length + 1) (by simp) (by omega) (by first | omega | (simp; omega)) _ rfl ?_
            intro g132 cap133 w134 hp135
            have hp135s := hp135.gb.size
            (try simp at hp135s)
            have F136 := (F131.front 6 rfl rfl).app hp135 (Nat.le_refl _)
            (try dsimp only [List.eraseIdx_cons_succ, List.eraseIdx_cons_zero] at F136)
            clear F131
            refine ru_back hK (by exact ((F136.at 6 rfl : Bk _ (w.heap.size + 3) 32 #[.slice pa18 O.length pc19, .slice none 0 0, .slice none 0 0])).cell 0) (fun hHeld => ?_)
            clear hK K
            (try simp only [Act.put, List.setIfInBounds_toArray, List.set_cons_zero, List.set_cons_succ])
            refine ru_one 9 rfl (by kernel_rfl) (fun K hK => ?_)
            go_simp
            refine ru_back hK (by exact ((F136.at 6 rfl : Bk _ (w.heap.size + 3) 32 #[.slice pa18 O.length pc19, .slice none 0 0, .slice none 0 0])).cell 0) (fun hHeld => ?_)
            clear hK K
            (try simp only [Act.put, List.setIfInBounds_toArray, List.set_cons_zero, List.set_cons_succ])
            refine ru_one 10 rfl (by kernel_rfl) (fun K hK => ?_)
            go_simp
            refine ru_back hK (by exact ((F136.at 6 rfl : Bk _ (w.heap.size + 3) 32 #[.slice pa18 O.length pc19, .slice none 0 0, .slice none 0 0])).cell 0) (fun hHeld => ?_)
            clear hK K
            (try simp only [Act.put, List.setIfInBounds_toArray, List.set_cons_zero, List.set_cons_succ])
            refine ru_one 11 rfl (by kernel_rfl) (fun K hK => ?_)
            have kb_ : Bk _ (w.heap.size + 3) 32 #[.slice pa18 O.length pc19, .slice none 0 0, .slice none 0 0] := (F136.front 6 rfl rfl).at 0 rfl
            have kl_ := kb_.lt
            have kc0_ : World.cell? _ ⟨(w.heap.size + 3), 0, none⟩ = some (.slice pa18 O.length pc19) := kb_.cell 0
            have kf0_ : World.frozen? _ ⟨(w.heap.size + 3), 0, none⟩ = false := kb_.frozen 0
            have kc1_ : World.cell? _ ⟨(w.heap.size + 3), 1, none⟩ = some (.slice none 0 0) := kb_.cell 1
            have kf1_ : World.frozen? _ ⟨(w.heap.size + 3), 1, none⟩ = false := kb_.frozen 1
            have kc2_ : World.cell? _ ⟨(w.heap.size + 3), 2, none⟩ = some (.slice none 0 0) := kb_.cell 2
            have kf2_ : World.frozen? _ ⟨(w.heap.size + 3), 2, none⟩ = false := kb_.frozen 2
            go_simp
            clear kl_ kc0_ kf0_ kc1_ kf1_ kc2_ kf2_ kb_
            have F137 := (F136.front 6 rfl rfl).set 0 (.slice (some ⟨g132, 0, none⟩) (O.length + 1) cap133)
            (try dsimp only [List.eraseIdx_cons_succ, List.eraseIdx_cons_zero, List.setIfInBounds_toArray, List.set_cons_succ, List.set_cons_zero] at F137)
            clear F136
            refine ru_back_late hK (by kernel_rfl) ?_
            clear hK K
            (try simp only [Act.put, List.setIfInBounds_toArray, List.set_cons_zero, List.set_cons_succ])
            refine ru_done (by kernel_rfl) ?_
            have F138 : Bus w sb [rseed sb, rbox (w.heap.size + 2) 25 #[.slice (some ⟨g102, 0, none⟩) (A.length + 1) cap103, .slice none 0 0], rbox (w.heap.size + 3) 32 #[.slice (some ⟨g132, 0, none⟩) (O.length + 1) cap133, .slice none 0 0, .slice none 0 0], rown intEnc 3 1 w.heap.size (.slice (some ⟨g127, 0, none⟩) (O.length + 1) cap128) (O ++ [n]), rown intEnc 3 1 w.heap.size (.slice (some ⟨g132, 0, none⟩) (O.length + 1) cap133) (O ++ [n]), rown accEnc 79 6 w.heap.size (.slice (some ⟨g102, 0, none⟩) (A.length + 1) cap103) (A ++ [(⟨nmAt A.length, 2, ⟨s1, s2⟩, ⟨0, 0⟩⟩ : Acc)]), rown mvEnc 76 4 w.heap.size (.slice none 0 0) [], rown intEnc 3 1 w.heap.size (.slice none 0 0) [], rown intEnc 3 1 w.heap.size (.slice none 0 0) [], rbox w.heap.size 25 #[.slice none 0 0, .slice none 0 0], rbox (w.heap.size + 1) 32 #[.slice none 0 0, .slice none 0 0, .slice none 0 0], rbox (w.heap.size + 4) 9 nmC] _ := ((F137.drop 4 rfl).drop 3 rfl).pick [3, 4, 0, 2, 1, 5, 6, 7, 8, 9, 10, 11] (by decide) rfl
            clear F137
            go_wp2_with fail
            (first | refine ⟨rfl, ?_, ?_⟩ | refine ⟨?_, ?_⟩)
            · rw [HI15.out]; exact ⟨k - 1, A ++ [(⟨nmAt A.length, 2, ⟨s1, s2⟩, ⟨0, 0⟩⟩ : Acc)], O ++ [n], _, _, _, rfl, rfl, rfl, rfl, rfl, rfl, rfl, rfl, rfl, rfl, (by show Value.int .i64 ((k : Int) - 1) = _; rw [show ((k : Int) - 1) = ((k - 1 : Nat) : Int) by omega]), (by simp; omega), (by simp), (by first | omega | (simp; omega)), HPI.out.step (by decide) hn1 ⟨hs5, hs6, hs7⟩, F138⟩
            · simp [slot, intOf]; omega
        · intro K hK
          go_simp
          have F139 := F109.new 3 #[.int .i64 n] (n := w104.heap.size) (by simp)
          clear F109
          refine ru_back hK (by exact ((F139.at 3 rfl : Bk _ (w.heap.size + 3) 32 #[.slice pa18 O.length pc19, .slice none 0 0, .slice none 0 0])).cell 0) (fun hHeld => ?_)
          clear hK K
          (try simp only [Act.put, List.setIfInBounds_toArray, List.set_cons_zero, List.set_cons_succ])
          refine ru_one 2 rfl (by kernel_rfl) (fun K hK => ?_)
          go_simp
          have F140 := F139.new 3 #[.int .i64 n] (n := (w104.heap.size + 1)) (by simp)
          clear F139
          refine ru_back hK (by exact ((F140.at 4 rfl : Bk _ (w.heap.size + 3) 32 #[.slice pa18 O.length pc19, .slice none 0 0, .slice none 0 0])).cell 0) (fun hHeld => ?_)
          clear hK K
          (try simp only [Act.put, List.setIfInBounds_toArray, List.set_cons_zero, List.set_cons_succ])
          refine ru_one 3 rfl (by kernel_rfl) (fun K hK => ?_)
          refine step_app _ okInt rfl _ _ rfl w.heap.size (.slice pa20 O.length pc21) O [n] rfl (by exact (F140.at 5 rfl : Own intEnc 3 1 w.heap.size _ (.slice pa20 O.length pc21) O)) ⟨_, 0, none⟩ 1 1 rfl rfl (by decide) (news_of (F140.at 0 rfl : Bk _ (w104.heap.size + 1) 3 #[.int .i64 n])) (O.length + 1) (by simp) (by omega) (by first | omega | (simp; omega)) _ rfl ?_
          intro g141 cap142 w143 hp144
          have hp144s := hp144.gb.size
          (try simp at hp144s)
          have F145 := (F140.front 5 rfl rfl).app hp144 (Nat.le_refl _)
          (try dsimp only [List.eraseIdx_cons_succ, List.eraseIdx_cons_zero] at F145)
          clear F140
          refine ru_back hK (by exact ((F145.at 5 rfl : Bk _ (w.heap.size + 3) 32 #[.slice pa18 O.length pc19, .slice none 0 0, .slice none 0 0])).cell 0) (fun hHeld => ?_)
          clear hK K
          (try simp only [Act.put, List.setIfInBounds_toArray, List.set_cons_zero, List.set_cons_succ])
          refine ru_one 8 rfl (by kernel_rfl) (fun K hK => ?_)
          refine step_app _ okInt rfl _ _ rfl w.heap.size (.slice pa18 O.length pc19) O [n] rfl (by exact (F145.at 6 rfl : Own intEnc 3 1 w.heap.size _ (.slice pa18 O.length pc19) O)) ⟨_, 0, none⟩ 1 1 rfl rfl (by decide) (news_of (F145.at 2 rfl : Bk _ w104.heap.size 3 #[.int .i64 n])) (O.length + 1) (by simp) (by omega) (by first | omega | (simp; omega)) _ rfl ?_
          intro g146 cap147 w148 hp149
          have hp149s := hp149.gb.size
          (try simp at hp149s)
          have F150 := (F145.front 6 rfl rfl).app hp149 (Nat.le_refl _)
          (try dsimp only [List.eraseIdx_cons_succ, List.eraseIdx_cons_zero] at F150)
          clear F145
          refine ru_back hK (by exact ((F150.at 6 rfl : Bk _ (w.heap.size + 3) 32 #[.slice pa18 O.length pc19, .slice none 0 0, .slice none 0 0])).cell 0) (fun hHeld => ?_)
          clear hK K
          (try simp only [Act.put, List.setIfInBounds_toArray, List.set_cons_zero, List.set_cons_succ])
          refine ru_one 9 rfl (by kernel_rfl) (fun K hK => ?_)
          go_simp
          refine ru_back hK (by exact ((F150.at 6 rfl : Bk _ (w.heap.size + 3) 32 #[.slice pa18 O.length pc19, .slice none 0 0, .slice none 0 0])).cell 0) (fun hHeld => ?_)
          clear hK K
          (try simp only [Act.put, List.setIfInBounds_toArray, List.set_cons_zero, List.set_cons_succ])
          refine ru_one 10 rfl (by kernel_rfl) (fun K hK => ?_)
          go_simp
          refine ru_back hK (by exact ((F150.at 6 rfl : Bk _ (w.heap.size + 3) 32 #[.slice pa18 O.length pc19, .slice none 0 0, .slice none 0 0])).cell 0) (fun hHeld => ?_)
          clear hK K
          (try simp only [Act.put, List.setIfInBounds_toArray, List.set_cons_zero, List.set_cons_succ])
          refine ru_one 11 rfl (by kernel_rfl) (fun K hK => ?_)
          have kb_ : Bk _ (w.heap.size + 3) 32 #[.slice pa18 O.length pc19, .slice none 0 0, .slice none 0 0] := (F150.front 6 rfl rfl).at 0 rfl
          have kl_ := kb_.lt
          have kc0_ : World.cell? _ ⟨(w.heap.size + 3), 0, none⟩ = some (.slice pa18 O.length pc19) := kb_.cell 0
          have kf0_ : World.frozen? _ ⟨(w.heap.size + 3), 0, none⟩ = false := kb_.frozen 0
          have kc1_ : World.cell? _ ⟨(w.heap.size + 3), 1, none⟩ = some (.slice none 0 0) := kb_.cell 1
          have kf1_ : World.frozen? _ ⟨(w.heap.size + 3), 1, none⟩ = false := kb_.frozen 1
          have kc2_ : World.cell? _ ⟨(w.heap.size + 3), 2, none⟩ = some (.slice none 0 0) := kb_.cell 2
          have kf2_ : World.frozen? _ ⟨(w.heap.size + 3), 2, none⟩ = false := kb_.frozen 2
          go_simp
          clear kl_ kc0_ kf0_ kc1_ kf1_ kc2_ kf2_ kb_
          have F151 := (F150.front 6 rfl rfl).set 0 (.slice (some ⟨g146, 0, none⟩) (O.length + 1) cap147)
          (try dsimp only [List.eraseIdx_cons_succ, List.eraseIdx_cons_zero, List.setIfInBounds_toArray, List.set_cons_succ, List.set_cons_zero] at F151)
          clear F150
          refine ru_back_late hK (by kernel_rfl) ?_
          clear hK K
          (try simp only [Act.put, List.setIfInBounds_toArray, List.set_cons_zero, List.set_cons_succ])
          refine ru_done (by kernel_rfl) ?_
          have F152 : Bus w sb [rseed sb, rbox (w.heap.size + 2) 25 #[.slice (some ⟨g102, 0, none⟩) (A.length + 1) cap103, .slice none 0 0], rbox (w.heap.size + 3) 32 #[.slice (some ⟨g146, 0, none⟩) (O.length + 1) cap147, .slice none 0 0, .slice none 0 0], rown intEnc 3 1 w.heap.size (.slice (some ⟨g141, 0, none⟩) (O.length + 1) cap142) (O ++ [n]), rown intEnc 3 1 w.heap.size (.slice (some ⟨g146, 0, none⟩) (O.length + 1) cap147) (O ++ [n]), rown accEnc 79 6 w.heap.size (.slice (some ⟨g102, 0, none⟩) (A.length + 1) cap103) (A ++ [(⟨nmAt A.length, 2, ⟨s1, s2⟩, ⟨0, 0⟩⟩ : Acc)]), rown mvEnc 76 4 w.heap.size (.slice none 0 0) [], rown intEnc 3 1 w.heap.size (.slice none 0 0) [], rown intEnc 3 1 w.heap.size (.slice none 0 0) [], rbox w.heap.size 25 #[.slice none 0 0, .slice none 0 0], rbox (w.heap.size + 1) 32 #[.slice none 0 0, .slice none 0 0, .slice none 0 0], rbox (w.heap.size + 4) 9 nmC] _ := ((F151.drop 3 rfl).drop 3 rfl).pick [3, 4, 0, 2, 1, 5, 6, 7, 8, 9, 10, 11] (by decide) rfl
          clear F151
          go_wp2_with fail
          (first | refine ⟨rfl, ?_, ?_⟩ | refine ⟨?_, ?_⟩)
          · rw [HI15.out]; exact ⟨k - 1, A ++ [(⟨nmAt A.length, 2, ⟨s1, s2⟩, ⟨0, 0⟩⟩ : Acc)], O ++ [n], _, _, _, rfl, rfl, rfl, rfl, rfl, rfl, rfl, rfl, rfl, rfl, (by show Value.int .i64 ((k : Int) - 1) = _; rw [show ((k : Int) - 1) = ((k - 1 : Nat) : Int) by omega]), (by simp; omega), (by simp), (by first | omega | (simp; omega)), HPI.out.step (by decide) hn1 ⟨hs5, hs6, hs7⟩, F152⟩
          · simp [slot, intOf]; omega
    · obtain rfl : k = 0 := by omega
      have HPA := Lib.hid hI
      have hA0 : 0 < A.length ∧ A.length ≤ accounts := by omega
      clear hI hk hk0
      go_wp2_with fail
      refine (below_c sb (moves + 1) _ (hF.at 0 rfl) (by omega) (by omega)).mono ?_
      rintro e w5 ⟨r2, rfl, ⟨hm1, hm2⟩, hs5, hg5⟩
      have hg5s := hg5.size
      (try simp at hg5s)
      have F153 := hF.seed hg5 hs5
      clear hF
      clear hg5
      obtain ⟨pa154, pc155, e_⟩ := (Own.sl (F153.at 3 rfl : Own intEnc 3 1 w.heap.size _ vh O) (fun _ => rfl)).any
      subst e_
      go_wp2_with fail
      have hO : Hid (O.length = A.length) := Lib.hid HPA.out.len.symm
      have hSb : Hid ((A.length : Int) * litres ≤ 8000000) := Lib.hid (by have h_ := Int.mul_le_mul (show (A.length : Int) ≤ 8 by omega) hl.2 hl.1 (by omega); omega)
      obtain ⟨HC2_, HC20⟩ : ∃ R : (Nat → Value) → World → Prop, R = (fun t wr => ∃ (M : List Mv) (V H : List Int) (vm vv vh : Value), t 0 = .pointer (some ⟨sb, 0, none⟩) ∧ t 2 = .int .i64 moves ∧ t 3 = .int .i64 litres ∧ t 4 = .int .i64 wide ∧ t 10 = .pointer (some ⟨w.heap.size, 0, none⟩) ∧ t 11 = .pointer (some ⟨(w.heap.size + 1), 0, none⟩) ∧ t 12 = .pointer (some ⟨(w.heap.size + 2), 0, none⟩) ∧ t 13 = .pointer (some ⟨(w.heap.size + 3), 0, none⟩) ∧ t 14 = .slice (some ⟨(w.heap.size + 4), 0, none⟩) 8 8 ∧ t 15 = vh ∧ M.length ≤ moves ∧ w5.heap.size ≤ wr.heap.size ∧ PhM O.length wide (A.length * litres) O M V H ∧ Bus w sb [rseed sb, rbox (w.heap.size + 2) 25 #[va, vm], rbox (w.heap.size + 3) 32 #[vo, .slice none 0 0, vv], rown intEnc 3 1 w.heap.size vh H, rown intEnc 3 1 w.heap.size vo O, rown accEnc 79 6 w.heap.size va A, rown mvEnc 76 4 w.heap.size vm M, rown intEnc 3 1 w.heap.size (.slice none 0 0) [], rown intEnc 3 1 w.heap.size vv V, rbox w.heap.size 25 #[.slice none 0 0, .slice none 0 0], rbox (w.heap.size + 1) 32 #[.slice none 0 0, .slice none 0 0, .slice none 0 0], rbox (w.heap.size + 4) 9 nmC] wr) := ⟨_, rfl⟩
      have HC2 := Lib.hid HC20
      clear HC20
      refine wp_cutB 2 203 HC2_ ?first4 ?rest4
      case rest4 =>
        intro t wr hHid
        rw [HC2.out] at hHid
        obtain ⟨M, V, H, vm, vv, vh, e0, e2, e3, e4, e10, e11, e12, e13, e14, e15, hrel⟩ := hHid
        have e : ((List.range 203).map t).toArray = #[t 0, t 1, t 2, t 3, t 4, t 5, t 6, t 7, t 8, t 9, t 10, t 11, t 12, t 13, t 14, t 15, t 16, t 17, t 18, t 19, t 20, t 21, t 22, t 23, t 24, t 25, t 26, t 27, t 28, t 29, t 30, t 31, t 32, t 33, t 34, t 35, t 36, t 37, t 38, t 39, t 40, t 41, t 42, t 43, t 44, t 45, t 46, t 47, t 48, t 49, t 50, t 51, t 52, t 53, t 54, t 55, t 56, t 57, t 58, t 59, t 60, t 61, t 62, t 63, t 64, t 65, t 66, t 67, t 68, t 69, t 70, t 71, t 72, t 73, t 74, t 75, t 76, t 77, t 78, t 79, t 80, t 81, t 82, t 83, t 84, t 85, t 86, t 87, t 88, t 89, t 90, t 91, t 92, t 93, t 94, t 95, t 96, t 97, t 98, t 99, t 100, t 101, t 102, t 103, t 104, t 105, t 106, t 107, t 108, t 109, t 110, t 111, t 112, t 113, t 114, t 115, t 116, t 117, t 118, t 119, t 120, t 121, t 122, t 123, t 124, t 125, t 126, t 127, t 128, t 129, t 130, t 131, t 132, t 133, t 134, t 135, t 136, t 137, t 138, t 139, t 140, t 141, t 142, t 143, t 144, t 145, t 146, t 147, t 148, t 149, t 150, t 151, t 152, t 153, t 154, t 155, t 156, t 157, t 158, t 159, t 160, t 161, t 162, t 163, t 164, t 165, t 166, t 167, t 168, t 169, t 170, t 171, t 172, t 173, t 174, t 175, t 176, t 177, t 178, t 179, t 180, t 181, t 182, t 183, t 184, t 185, t 186, t 187, t 188, t 189, t 190, t 191, t 192, t 193, t 194, t 195, t 196, t 197, t 198, t 199, t 200, t 201, t 202] := rfl
        (try dsimp only at e)
        rw [e0, e2, e3, e4, e10, e11, e12, e13, e14, e15] at e
        rw [e]
        clear e e0 e2 e3 e4 e10 e11 e12 e13 e14 e15
        obtain ⟨hmm, hws6, hM, hF⟩ := hrel
        obtain ⟨w6, rfl⟩ : ∃ w6 : World, w6 = wr := ⟨_, rfl⟩
        have HPM := Lib.hid hM
        have hHl : Hid (H.length = A.length) := Lib.hid (hM.hlen.trans hO.out)
        clear hM
        obtain ⟨pa156, pc157, e_⟩ := (Own.sl (hF.at 3 rfl : Own intEnc 3 1 w.heap.size _ vh H) (fun _ => rfl)).any
        subst e_
        go_wp2_with fail
        obtain ⟨HI158_, HI1580⟩ : ∃ I : (Nat → Value) → List Deferred → World → Prop, I = (fun t ds wr => ∃ (j : Nat) (A' : List Acc) (C : List Int) (va vc : Value), t 0 = .pointer (some ⟨sb, 0, none⟩) ∧ t 2 = .int .i64 moves ∧ t 3 = .int .i64 litres ∧ t 4 = .int .i64 wide ∧ t 10 = .pointer (some ⟨w.heap.size, 0, none⟩) ∧ t 11 = .pointer (some ⟨(w.heap.size + 1), 0, none⟩) ∧ t 12 = .pointer (some ⟨(w.heap.size + 2), 0, none⟩) ∧ t 13 = .pointer (some ⟨(w.heap.size + 3), 0, none⟩) ∧ t 14 = .slice (some ⟨(w.heap.size + 4), 0, none⟩) 8 8 ∧ t 15 = .slice pa156 H.length pc157 ∧ t 24 = .int .i64 j ∧ j ≤ H.length ∧ ds = [] ∧ w6.heap.size ≤ wr.heap.size ∧ PhC wide A H A' C j ∧ Bus w sb [rseed sb, rbox (w.heap.size + 2) 25 #[va, vm], rbox (w.heap.size + 3) 32 #[vo, vc, vv], rown intEnc 3 1 w.heap.size (.slice pa156 H.length pc157) H, rown intEnc 3 1 w.heap.size vo O, rown accEnc 79 6 w.heap.size va A', rown mvEnc 76 4 w.heap.size vm M, rown intEnc 3 1 w.heap.size vc C, rown intEnc 3 1 w.heap.size vv V, rbox w.heap.size 25 #[.slice none 0 0, .slice none 0 0], rbox (w.heap.size + 1) 32 #[.slice none 0 0, .slice none 0 0, .slice none 0 0], rbox (w.heap.size + 4) 9 nmC] wr) := ⟨_, rfl⟩
        have HI158 := Lib.hid HI1580
        clear HI1580
        refine wp_loopS 203 rfl HI158_ (fun t wr => H.length - (intOf (t 24)).toNat) ?atStart2 ?round2
        case round2 =>
          intro t ds wr hHid
          rw [HI158.out] at hHid
          obtain ⟨j, A', C, va, vc, e0, e2, e3, e4, e10, e11, e12, e13, e14, e15, e24, hrel⟩ := hHid
          have e : ((List.range 203).map t).toArray = #[t 0, t 1, t 2, t 3, t 4, t 5, t 6, t 7, t 8, t 9, t 10, t 11, t 12, t 13, t 14, t 15, t 16, t 17, t 18, t 19, t 20, t 21, t 22, t 23, t 24, t 25, t 26, t 27, t 28, t 29, t 30, t 31, t 32, t 33, t 34, t 35, t 36, t 37, t 38, t 39, t 40, t 41, t 42, t 43, t 44, t 45, t 46, t 47, t 48, t 49, t 50, t 51, t 52, t 53, t 54, t 55, t 56, t 57, t 58, t 59, t 60, t 61, t 62, t 63, t 64, t 65, t 66, t 67, t 68, t 69, t 70, t 71, t 72, t 73, t 74, t 75, t 76, t 77, t 78, t 79, t 80, t 81, t 82, t 83, t 84, t 85, t 86, t 87, t 88, t 89, t 90, t 91, t 92, t 93, t 94, t 95, t 96, t 97, t 98, t 99, t 100, t 101, t 102, t 103, t 104, t 105, t 106, t 107, t 108, t 109, t 110, t 111, t 112, t 113, t 114, t 115, t 116, t 117, t 118, t 119, t 120, t 121, t 122, t 123, t 124, t 125, t 126, t 127, t 128, t 129, t 130, t 131, t 132, t 133, t 134, t 135, t 136, t 137, t 138, t 139, t 140, t 141, t 142, t 143, t 144, t 145, t 146, t 147, t 148, t 149, t 150, t 151, t 152, t 153, t 154, t 155, t 156, t 157, t 158, t 159, t 160, t 161, t 162, t 163, t 164, t 165, t 166, t 167, t 168, t 169, t 170, t 171, t 172, t 173, t 174, t 175, t 176, t 177, t 178, t 179, t 180, t 181, t 182, t 183, t 184, t 185, t 186, t 187, t 188, t 189, t 190, t 191, t 192, t 193, t 194, t 195, t 196, t 197, t 198, t 199, t 200, t 201, t 202] := rfl
          (try dsimp only at e)
          rw [e0, e2, e3, e4, e10, e11, e12, e13, e14, e15, e24] at e
          rw [e]
          simp only [e24]
          clear e e0 e2 e3 e4 e10 e11 e12 e13 e14 e15 e24
          clear hF
          obtain ⟨hj, rfl, hws7, hC, hF⟩ := hrel
          by_cases hlt : j < H.length
          · skip
            have hAl : Hid (A'.length = A.length) := Lib.hid hC.len
            have hCl := Lib.hid hC.clen
            have hA' : j < A'.length := by have := hAl.out; have := hHl.out; omega
            have hjA : j < A.length := by have := hHl.out; omega
            have hC8 : C.length ≤ 8 := by have := hCl.out; omega
            have hsame := Lib.hid (hC.same j hjA)
            have hkk : Hid ((ga A' j).kind = 1 ∨ (ga A' j).kind = 2) := Lib.hid (by rw [(hC.same j hjA).2.1]; exact (HPA.out.one j hjA).kind)
            have hHj := HPM.out.bd (Int.le_trans (sumL_le O litres (fun i hi => (HPA.out.one i (by have := hO.out; omega)).ob.2)) (by rw [hO.out]; exact Int.le_refl _)) (i := j) (by have := hO.out; omega)
            have hHj8 : 0 ≤ gi H j ∧ gi H j ≤ 8000000 := ⟨hHj.1, Int.le_trans hHj.2 hSb.out⟩
            clear hHj
            have HPC := Lib.hid hC
            clear hC
            obtain ⟨gh, ch, e_, _, _⟩ := Own.form (hF.at 3 rfl : Own intEnc 3 1 w.heap.size _ (.slice pa156 H.length pc157) H) (by omega)
            injection e_ with e1_ e2_ e3_
            subst e1_ e3_
            clear e2_
            obtain ⟨gA, cA, e_, _, _⟩ := Own.form (hF.at 5 rfl : Own accEnc 79 6 w.heap.size _ va A') (by omega)
            subst e_
            obtain ⟨pc, cc, e_⟩ := (Own.sl (hF.at 7 rfl : Own intEnc 3 1 w.heap.size _ vc C) (fun _ => rfl)).any
            subst e_
            have g1 := Own.at (hF.at 3 rfl : Own intEnc 3 1 w.heap.size _ (.slice (some ⟨gh, 0, none⟩) H.length pc157) H) hlt
            have HAC : Hid (ga A' j = ga A' j) := Lib.hid rfl
            obtain ⟨kd, hkd⟩ : ∃ kd, (ga A' j).kind = kd := ⟨_, rfl⟩
            have HKD := Lib.hid hkd
            rw [hkd] at hkk
            clear hkd
            have g2 := (Accs.cell (Own.sl (hF.at 5 rfl : Own accEnc 79 6 w.heap.size _ (.slice (some ⟨gA, 0, none⟩) A'.length cA) A') (fun _ => rfl)) hA').2.1
            rw [HKD.out] at g2
            simp only [Nat.zero_add] at g1 g2
            obtain ⟨hj_, hhj⟩ : ∃ z, gi H j = z := ⟨_, rfl⟩
            rw [hhj] at g1 hHj8
            have HHJ := Lib.hid hhj
            clear hhj
            by_cases hd : kd = 1
            · have e1 : (kd == 1) = true := by simp [hd]
              have HD := Lib.hid hd
              clear hd
              have b159 : Bk _ (w.heap.size + 2) 25 #[.slice (some ⟨gA, 0, none⟩) A'.length cA, vm] := hF.at 1 rfl
              have l160 := b159.lt
              have q161 : World.cell? _ ⟨(w.heap.size + 2), 0, none⟩ = some (.slice (some ⟨gA, 0, none⟩) A'.length cA) := b159.cell 0
              have z162 := b159.frozen 0
              have q163 : World.cell? _ ⟨(w.heap.size + 2), 1, none⟩ = some vm := b159.cell 1
              have z164 := b159.frozen 1
              go_wp2_with fail
              refine (yes_c sb 2 _ (hF.at 0 rfl) (by omega) (by omega)).mono ?_
              rintro e w8 ⟨q, rfl, hs8, hg8⟩
              have hg8s := hg8.size
              (try simp at hg8s)
              clear b159 l160 q161 z162 q163 z164
              have F165 := hF.seed hg8 hs8
              clear hF
              clear hg8 g1 g2
              cases q
              · skip
                have hAj : j < A'.length := hA'
                go_wp2_with fail
                have F166 := F165.drew
                clear F165
                refine ru_begin (fun W => W.cell? ⟨(w.heap.size + 2), 0, none⟩ = some (.slice (some ⟨gA, 0, none⟩) A'.length cA)) 9 (by kernel_rfl) ?_ ?_
                · exact ((F166.at 1 rfl : Bk _ (w.heap.size + 2) 25 #[.slice (some ⟨gA, 0, none⟩) A'.length cA, vm])).cell 0
                have hS167 : World.cell? _ ⟨(w.heap.size + 2), 0, none⟩ = some (.slice (some ⟨gA, 0, none⟩) A'.length cA) := ((F166.at 1 rfl : Bk _ (w.heap.size + 2) 25 #[.slice (some ⟨gA, 0, none⟩) A'.length cA, vm])).cell 0
                refine ru_t 0 [] ?_
                refine ru_t 1 [] ?_
                refine ru_t 2 [] ?_
                refine ru_t 3 [] ?_
                refine ru_t 4 [] ?_
                refine ru_t 5 [] ?_
                (try simp only [Act.put, List.setIfInBounds_toArray, List.set_cons_zero, List.set_cons_succ])
                clear hS167
                refine ru_one 6 rfl (by kernel_rfl) (fun K hK => ?_)
                go_simp
                refine (around_c sb hj_ wide _ (F166.at 0 rfl) (by omega) (by omega) (by omega) (by omega)).mono ?_
                rintro e w171 ⟨v, rfl, ⟨s1, s2, rfl, hs5, hs6, hs7⟩, hs170, hg169⟩
                have hg169s := hg169.size
                (try simp at hg169s)
                have F172 := F166.seed hg169 hs170
                clear F166
                refine ru_back hK (by exact ((F172.at 1 rfl : Bk _ (w.heap.size + 2) 25 #[.slice (some ⟨gA, 0, none⟩) A'.length cA, vm])).cell 0) (fun hHeld => ?_)
                clear hK K
                (try simp only [Act.put, List.setIfInBounds_toArray, List.set_cons_zero, List.set_cons_succ])
                refine ru_one 7 rfl (by kernel_rfl) (fun K hK => ?_)
                go_simp
                refine ru_back hK (by exact ((F172.at 1 rfl : Bk _ (w.heap.size + 2) 25 #[.slice (some ⟨gA, 0, none⟩) A'.length cA, vm])).cell 0) (fun hHeld => ?_)
                clear hK K
                (try simp only [Act.put, List.setIfInBounds_toArray, List.set_cons_zero, List.set_cons_succ])
                refine ru_one 8 rfl (by kernel_rfl) (fun K hK => ?_)
                go_simp
                refine ru_back hK (by exact ((F172.at 1 rfl : Bk _ (w.heap.size + 2) 25 #[.slice (some ⟨gA, 0, none⟩) A'.length cA, vm])).cell 0) (fun hHeld => ?_)
                clear hK K
                (try simp only [Act.put, List.setIfInBounds_toArray, List.set_cons_zero, List.set_cons_succ])
                refine ru_one 9 rfl (by kernel_rfl) (fun K hK => ?_)
                have cc_ := Accs.cell (Own.sl ((F172.front 5 rfl rfl).at 0 rfl : Own accEnc 79 6 w.heap.size _ (.slice (some ⟨gA, 0, none⟩) A'.length cA) A') (fun _ => rfl)) hA'
                simp only [Nat.zero_add] at cc_
                obtain ⟨_, _, _, _, c5_, c6_⟩ := cc_
                have l5_ := Own.live ((F172.front 5 rfl rfl).at 0 rfl : Own accEnc 79 6 w.heap.size _ (.slice (some ⟨gA, 0, none⟩) A'.length cA) A') (j * 6 + 4)
                have l6_ := Own.live ((F172.front 5 rfl rfl).at 0 rfl : Own accEnc 79 6 w.heap.size _ (.slice (some ⟨gA, 0, none⟩) A'.length cA) A') (j * 6 + 5)
                go_simp
                clear c5_ c6_ l5_ l6_
                have F173 := Bus.setOwn (sz := 6) (fun _ => rfl) (F172.front 5 rfl rfl) (i := j) (j := 4) (x := ga A' j) (y := { ga A' j with cl := ⟨s1, (ga A' j).cl.hi⟩ }) (u := .int .i64 s1) (ga_some hA') (by decide) rfl rfl
                have F174 := Bus.setOwn (sz := 6) (fun _ => rfl) F173 (i := j) (j := 5) (x := { ga A' j with cl := ⟨s1, (ga A' j).cl.hi⟩ }) (y := { ga A' j with cl := ⟨s1, s2⟩ }) (u := .int .i64 s2) (by rw [List.getElem?_set_self (by simpa using hA')]) (by decide) rfl rfl
                rw [List.set_set] at F174
                clear F173 F172
                have F176 := F174
                clear F174
                refine ru_back_late hK (by kernel_rfl) ?_
                clear hK K
                (try simp only [Act.put, List.setIfInBounds_toArray, List.set_cons_zero, List.set_cons_succ])
                refine ru_done (by kernel_rfl) ?_
                have F177 : Bus w sb [rseed sb, rbox (w.heap.size + 2) 25 #[.slice (some ⟨gA, 0, none⟩) A'.length cA, vm], rbox (w.heap.size + 3) 32 #[vo, .slice pc C.length cc, vv], rown intEnc 3 1 w.heap.size (.slice (some ⟨gh, 0, none⟩) H.length pc157) H, rown intEnc 3 1 w.heap.size vo O, rown accEnc 79 6 w.heap.size (.slice (some ⟨gA, 0, none⟩) A'.length cA) (A'.set j { ga A' j with cl := ⟨s1, s2⟩ }), rown mvEnc 76 4 w.heap.size vm M, rown intEnc 3 1 w.heap.size (.slice pc C.length cc) C, rown intEnc 3 1 w.heap.size vv V, rbox w.heap.size 25 #[.slice none 0 0, .slice none 0 0], rbox (w.heap.size + 1) 32 #[.slice none 0 0, .slice none 0 0, .slice none 0 0], rbox (w.heap.size + 4) 9 nmC] _ := F176.pick [1, 2, 3, 4, 5, 0, 6, 7, 8, 9, 10, 11] (by decide) rfl
                clear F176
                have b178 : Bk _ (w.heap.size + 3) 32 #[vo, .slice pc C.length cc, vv] := F177.at 2 rfl
                have l179 := b178.lt
                have q180 : World.cell? _ ⟨(w.heap.size + 3), 0, none⟩ = some vo := b178.cell 0
                have z181 := b178.frozen 0
                have q182 : World.cell? _ ⟨(w.heap.size + 3), 1, none⟩ = some (.slice pc C.length cc) := b178.cell 1
                have z183 := b178.frozen 1
                have q184 : World.cell? _ ⟨(w.heap.size + 3), 2, none⟩ = some vv := b178.cell 2
                have z185 := b178.frozen 2
                go_wp2_with (at_builtin; refine wpList_app _ okInt rfl _ _ rfl w.heap.size (.slice pc C.length cc) C [(hj_ : Int)] rfl (by exact ((F177.at 7 rfl : Own intEnc 3 1 w.heap.size _ (.slice pc C.length cc) C)).alloc _) ⟨_, 0, none⟩ 1 1 rfl rfl (by decide) (news_of (Bk.newAt _ _ _ (by simp))) (C.length + 1) (by simp) (by omega) (by first | omega | (simp; omega)) _ rfl ?_; intro g187 cap188 w186 hp189; have G_ := ((F177.alloc (.cells #[.int .i64 hj_] 3)).front 7 rfl rfl).app hp189 (by simp); have fb0_ : Bk _ (w.heap.size + 3) 32 #[vo, .slice pc C.length cc, vv] := G_.at 3 rfl; have fl0_ := fb0_.lt; have fc0_0_ : World.cell? _ ⟨(w.heap.size + 3), 0, none⟩ = some vo := fb0_.cell 0; have ff0_0_ := fb0_.frozen 0; have fc0_1_ : World.cell? _ ⟨(w.heap.size + 3), 1, none⟩ = some (.slice pc C.length cc) := fb0_.cell 1; have ff0_1_ := fb0_.frozen 1; have fc0_2_ : World.cell? _ ⟨(w.heap.size + 3), 2, none⟩ = some vv := fb0_.cell 2; have ff0_2_ := fb0_.frozen 2)
                have hp189s := hp189.gb.size
                (try simp at hp189s)
                clear b178 l179 q180 z181 q182 z183 q184 z185
                have F190 := ((F177.alloc (.cells #[.int .i64 hj_] 3)).front 7 rfl rfl).app hp189 (by simp)
                (try dsimp only [List.eraseIdx_cons_succ, List.eraseIdx_cons_zero] at F190)
                clear F177
                go_wp2_with fail
                have F191 := (F190.front 3 rfl rfl).set 1 (.slice (some ⟨g187, 0, none⟩) (C.length + 1) cap188)
                (try dsimp only [List.eraseIdx_cons_succ, List.eraseIdx_cons_zero, List.setIfInBounds_toArray, List.set_cons_succ, List.set_cons_zero] at F191)
                clear F190
                have F192 : Bus w sb [rseed sb, rbox (w.heap.size + 2) 25 #[.slice (some ⟨gA, 0, none⟩) A'.length cA, vm], rbox (w.heap.size + 3) 32 #[vo, .slice (some ⟨g187, 0, none⟩) (C.length + 1) cap188, vv], rown intEnc 3 1 w.heap.size (.slice (some ⟨gh, 0, none⟩) H.length pc157) H, rown intEnc 3 1 w.heap.size vo O, rown accEnc 79 6 w.heap.size (.slice (some ⟨gA, 0, none⟩) A'.length cA) (A'.set j { ga A' j with cl := ⟨s1, s2⟩ }), rown mvEnc 76 4 w.heap.size vm M, rown intEnc 3 1 w.heap.size (.slice (some ⟨g187, 0, none⟩) (C.length + 1) cap188) (C ++ [(hj_ : Int)]), rown intEnc 3 1 w.heap.size vv V, rbox w.heap.size 25 #[.slice none 0 0, .slice none 0 0], rbox (w.heap.size + 1) 32 #[.slice none 0 0, .slice none 0 0, .slice none 0 0], rbox (w.heap.size + 4) 9 nmC] _ := F191.pick [2, 3, 0, 4, 5, 6, 7, 1, 8, 9, 10, 11] (by decide) rfl
                clear F191
                (first | refine ⟨rfl, ?_, ?_⟩ | refine ⟨?_, ?_⟩)
                · rw [HI158.out]; exact ⟨j + 1, A'.set j { ga A' j with cl := ⟨s1, s2⟩ }, C ++ [hj_], _, _, rfl, rfl, rfl, rfl, rfl, rfl, rfl, rfl, rfl, rfl, (by show Value.int .i64 ((j : Int) + 1) = _; simp), by omega, (by simp), (by first | omega | (simp; omega)), HPC.out.step hjA (by rw [HHJ.out]; exact ⟨by omega, Int.le_refl _⟩) (by rw [HHJ.out]; exact fun _ => rfl) ⟨hs5, hs6, hs7⟩, F192⟩
                · simp [slot, intOf]; omega
              · skip
                go_wp2_with fail
                refine (below_c sb (min hj_ (2 * wide + 1) + 1) _ (F165.at 0 rfl) (by omega) (by omega)).mono ?_
                rintro e w9 ⟨r9, rfl, ⟨hc1, hc2⟩, hs9, hg9⟩
                have hg9s := hg9.size
                (try simp at hg9s)
                have F193 := F165.seed hg9 hs9
                clear F165
                clear hg9
                have hn9 : 0 ≤ hj_ - r9 ∧ hj_ - r9 ≤ hj_ := by omega
                obtain ⟨n9, hn9e⟩ : ∃ n9, hj_ - r9 = n9 := ⟨_, rfl⟩
                have e9 : IntKind.i64.wrap (hj_ - r9) = n9 := by rw [← hn9e]; exact IntWalk.i64_in _ (by omega)
                rw [hn9e] at hn9
                have H9 := Lib.hid hn9e
                clear hn9e
                have hAj : j < A'.length := hA'
                go_wp2_with fail
                have F194 := F193.drew
                clear F193
                refine ru_begin (fun W => W.cell? ⟨(w.heap.size + 2), 0, none⟩ = some (.slice (some ⟨gA, 0, none⟩) A'.length cA)) 9 (by kernel_rfl) ?_ ?_
                · exact ((F194.at 1 rfl : Bk _ (w.heap.size + 2) 25 #[.slice (some ⟨gA, 0, none⟩) A'.length cA, vm])).cell 0
                have hS195 : World.cell? _ ⟨(w.heap.size + 2), 0, none⟩ = some (.slice (some ⟨gA, 0, none⟩) A'.length cA) := ((F194.at 1 rfl : Bk _ (w.heap.size + 2) 25 #[.slice (some ⟨gA, 0, none⟩) A'.length cA, vm])).cell 0
                refine ru_t 0 [] ?_
                refine ru_t 1 [] ?_
                refine ru_t 2 [] ?_
                refine ru_t 3 [] ?_
                refine ru_t 4 [] ?_
                refine ru_t 5 [] ?_
                (try simp only [Act.put, List.setIfInBounds_toArray, List.set_cons_zero, List.set_cons_succ])
                clear hS195
                refine ru_one 6 rfl (by kernel_rfl) (fun K hK => ?_)
                go_simp
                refine (around_c sb n9 wide _ (F194.at 0 rfl) (by omega) (by omega) (by omega) (by omega)).mono ?_
                rintro e w199 ⟨v, rfl, ⟨s1, s2, rfl, hs5, hs6, hs7⟩, hs198, hg197⟩
                have hg197s := hg197.size
                (try simp at hg197s)
                have F200 := F194.seed hg197 hs198
                clear F194
                refine ru_back hK (by exact ((F200.at 1 rfl : Bk _ (w.heap.size + 2) 25 #[.slice (some ⟨gA, 0, none⟩) A'.length cA, vm])).cell 0) (fun hHeld => ?_)
                clear hK K
                (try simp only [Act.put, List.setIfInBounds_toArray, List.set_cons_zero, List.set_cons_succ])
                refine ru_one 7 rfl (by kernel_rfl) (fun K hK => ?_)
                go_simp
                refine ru_back hK (by exact ((F200.at 1 rfl : Bk _ (w.heap.size + 2) 25 #[.slice (some ⟨gA, 0, none⟩) A'.length cA, vm])).cell 0) (fun hHeld => ?_)
                clear hK K
                (try simp only [Act.put, List.setIfInBounds_toArray, List.set_cons_zero, List.set_cons_succ])
                refine ru_one 8 rfl (by kernel_rfl) (fun K hK => ?_)
                go_simp
                refine ru_back hK (by exact ((F200.at 1 rfl : Bk _ (w.heap.size + 2) 25 #[.slice (some ⟨gA, 0, none⟩) A'.length cA, vm])).cell 0) (fun hHeld => ?_)
                clear hK K
                (try simp only [Act.put, List.setIfInBounds_toArray, List.set_cons_zero, List.set_cons_succ])
                refine ru_one 9 rfl (by kernel_rfl) (fun K hK => ?_)
                have cc_ := Accs.cell (Own.sl ((F200.front 5 rfl rfl).at 0 rfl : Own accEnc 79 6 w.heap.size _ (.slice (some ⟨gA, 0, none⟩) A'.length cA) A') (fun _ => rfl)) hA'
                simp only [Nat.zero_add] at cc_
                obtain ⟨_, _, _, _, c5_, c6_⟩ := cc_
                have l5_ := Own.live ((F200.front 5 rfl rfl).at 0 rfl : Own accEnc 79 6 w.heap.size _ (.slice (some ⟨gA, 0, none⟩) A'.length cA) A') (j * 6 + 4)
                have l6_ := Own.live ((F200.front 5 rfl rfl).at 0 rfl : Own accEnc 79 6 w.heap.size _ (.slice (some ⟨gA, 0, none⟩) A'.length cA) A') (j * 6 + 5)
                go_simp
                clear c5_ c6_ l5_ l6_
                have F201 := Bus.setOwn (sz := 6) (fun _ => rfl) (F200.front 5 rfl rfl) (i := j) (j := 4) (x := ga A' j) (y := { ga A' j with cl := ⟨s1, (ga A' j).cl.hi⟩ }) (u := .int .i64 s1) (ga_some hA') (by decide) rfl rfl
                have F202 := Bus.setOwn (sz := 6) (fun _ => rfl) F201 (i := j) (j := 5) (x := { ga A' j with cl := ⟨s1, (ga A' j).cl.hi⟩ }) (y := { ga A' j with cl := ⟨s1, s2⟩ }) (u := .int .i64 s2) (by rw [List.getElem?_set_self (by simpa using hA')]) (by decide) rfl rfl
                rw [List.set_set] at F202
                clear F201 F200
                have F204 := F202
                clear F202
                refine ru_back_late hK (by kernel_rfl) ?_
                clear hK K
                (try simp only [Act.put, List.setIfInBounds_toArray, List.set_cons_zero, List.set_cons_succ])
                refine ru_done (by kernel_rfl) ?_
                have F205 : Bus w sb [rseed sb, rbox (w.heap.size + 2) 25 #[.slice (some ⟨gA, 0, none⟩) A'.length cA, vm], rbox (w.heap.size + 3) 32 #[vo, .slice pc C.length cc, vv], rown intEnc 3 1 w.heap.size (.slice (some ⟨gh, 0, none⟩) H.length pc157) H, rown intEnc 3 1 w.heap.size vo O, rown accEnc 79 6 w.heap.size (.slice (some ⟨gA, 0, none⟩) A'.length cA) (A'.set j { ga A' j with cl := ⟨s1, s2⟩ }), rown mvEnc 76 4 w.heap.size vm M, rown intEnc 3 1 w.heap.size (.slice pc C.length cc) C, rown intEnc 3 1 w.heap.size vv V, rbox w.heap.size 25 #[.slice none 0 0, .slice none 0 0], rbox (w.heap.size + 1) 32 #[.slice none 0 0, .slice none 0 0, .slice none 0 0], rbox (w.heap.size + 4) 9 nmC] _ := F204.pick [1, 2, 3, 4, 5, 0, 6, 7, 8, 9, 10, 11] (by decide) rfl
                clear F204
                have b206 : Bk _ (w.heap.size + 3) 32 #[vo, .slice pc C.length cc, vv] := F205.at 2 rfl
                have l207 := b206.lt
                have q208 : World.cell? _ ⟨(w.heap.size + 3), 0, none⟩ = some vo := b206.cell 0
                have z209 := b206.frozen 0
                have q210 : World.cell? _ ⟨(w.heap.size + 3), 1, none⟩ = some (.slice pc C.length cc) := b206.cell 1
                have z211 := b206.frozen 1
                have q212 : World.cell? _ ⟨(w.heap.size + 3), 2, none⟩ = some vv := b206.cell 2
                have z213 := b206.frozen 2
                go_wp2_with (at_builtin; refine wpList_app _ okInt rfl _ _ rfl w.heap.size (.slice pc C.length cc) C [(n9 : Int)] rfl (by exact ((F205.at 7 rfl : Own intEnc 3 1 w.heap.size _ (.slice pc C.length cc) C)).alloc _) ⟨_, 0, none⟩ 1 1 rfl rfl (by decide) (news_of (Bk.newAt _ _ _ (by simp))) (C.length + 1) (by simp) (by omega) (by first | omega | (simp; omega)) _ rfl ?_; intro g215 cap216 w214 hp217; have G_ := ((F205.alloc (.cells #[.int .i64 n9] 3)).front 7 rfl rfl).app hp217 (by simp); have fb0_ : Bk _ (w.heap.size + 3) 32 #[vo, .slice pc C.length cc, vv] := G_.at 3 rfl; have fl0_ := fb0_.lt; have fc0_0_ : World.cell? _ ⟨(w.heap.size + 3), 0, none⟩ = some vo := fb0_.cell 0; have ff0_0_ := fb0_.frozen 0; have fc0_1_ : World.cell? _ ⟨(w.heap.size + 3), 1, none⟩ = some (.slice pc C.length cc) := fb0_.cell 1; have ff0_1_ := fb0_.frozen 1; have fc0_2_ : World.cell? _ ⟨(w.heap.size + 3), 2, none⟩ = some vv := fb0_.cell 2; have ff0_2_ := fb0_.frozen 2)
                have hp217s := hp217.gb.size
                (try simp at hp217s)
                clear b206 l207 q208 z209 q210 z211 q212 z213
                have F218 := ((F205.alloc (.cells #[.int .i64 n9] 3)).front 7 rfl rfl).app hp217 (by simp)
                (try dsimp only [List.eraseIdx_cons_succ, List.eraseIdx_cons_zero] at F218)
                clear F205
                go_wp2_with fail
                have F219 := (F218.front 3 rfl rfl).set 1 (.slice (some ⟨g215, 0, none⟩) (C.length + 1) cap216)
                (try dsimp only [List.eraseIdx_cons_succ, List.eraseIdx_cons_zero, List.setIfInBounds_toArray, List.set_cons_succ, List.set_cons_zero] at F219)
                clear F218
                have F220 : Bus w sb [rseed sb, rbox (w.heap.size + 2) 25 #[.slice (some ⟨gA, 0, none⟩) A'.length cA, vm], rbox (w.heap.size + 3) 32 #[vo, .slice (some ⟨g215, 0, none⟩) (C.length + 1) cap216, vv], rown intEnc 3 1 w.heap.size (.slice (some ⟨gh, 0, none⟩) H.length pc157) H, rown intEnc 3 1 w.heap.size vo O, rown accEnc 79 6 w.heap.size (.slice (some ⟨gA, 0, none⟩) A'.length cA) (A'.set j { ga A' j with cl := ⟨s1, s2⟩ }), rown mvEnc 76 4 w.heap.size vm M, rown intEnc 3 1 w.heap.size (.slice (some ⟨g215, 0, none⟩) (C.length + 1) cap216) (C ++ [(n9 : Int)]), rown intEnc 3 1 w.heap.size vv V, rbox w.heap.size 25 #[.slice none 0 0, .slice none 0 0], rbox (w.heap.size + 1) 32 #[.slice none 0 0, .slice none 0 0, .slice none 0 0], rbox (w.heap.size + 4) 9 nmC] _ := F219.pick [2, 3, 0, 4, 5, 6, 7, 1, 8, 9, 10, 11] (by decide) rfl
                clear F219
                (first | refine ⟨rfl, ?_, ?_⟩ | refine ⟨?_, ?_⟩)
                · rw [HI158.out]; exact ⟨j + 1, A'.set j { ga A' j with cl := ⟨s1, s2⟩ }, C ++ [n9], _, _, rfl, rfl, rfl, rfl, rfl, rfl, rfl, rfl, rfl, rfl, (by show Value.int .i64 ((j : Int) + 1) = _; simp), by omega, (by simp), (by first | omega | (simp; omega)), HPC.out.step hjA (by rw [HHJ.out]; exact hn9) (by rw [HHJ.out]; exact fun h => by rw [← (hsame.out).2.1, HKD.out, HD.out] at h; cases h) ⟨hs5, hs6, hs7⟩, F220⟩
                · simp [slot, intOf]; omega
            · have e1 : (kd == 1) = false := by simp [hd]
              clear hd
              have b221 : Bk _ (w.heap.size + 2) 25 #[.slice (some ⟨gA, 0, none⟩) A'.length cA, vm] := hF.at 1 rfl
              have l222 := b221.lt
              have q223 : World.cell? _ ⟨(w.heap.size + 2), 0, none⟩ = some (.slice (some ⟨gA, 0, none⟩) A'.length cA) := b221.cell 0
              have z224 := b221.frozen 0
              have q225 : World.cell? _ ⟨(w.heap.size + 2), 1, none⟩ = some vm := b221.cell 1
              have z226 := b221.frozen 1
              go_wp2_with fail
              clear b221 l222 q223 z224 q225 z226
              clear g1 g2
              have hAj : j < A'.length := hA'
              go_wp2_with fail
              have F227 := hF.drew
              clear hF
              refine ru_begin (fun W => W.cell? ⟨(w.heap.size + 2), 0, none⟩ = some (.slice (some ⟨gA, 0, none⟩) A'.length cA)) 9 (by kernel_rfl) ?_ ?_
              · exact ((F227.at 1 rfl : Bk _ (w.heap.size + 2) 25 #[.slice (some ⟨gA, 0, none⟩) A'.length cA, vm])).cell 0
              have hS228 : World.cell? _ ⟨(w.heap.size + 2), 0, none⟩ = some (.slice (some ⟨gA, 0, none⟩) A'.length cA) := ((F227.at 1 rfl : Bk _ (w.heap.size + 2) 25 #[.slice (some ⟨gA, 0, none⟩) A'.length cA, vm])).cell 0
              refine ru_t 0 [] ?_
              refine ru_t 1 [] ?_
              refine ru_t 2 [] ?_
              refine ru_t 3 [] ?_
              refine ru_t 4 [] ?_
              refine ru_t 5 [] ?_
              (try simp only [Act.put, List.setIfInBounds_toArray, List.set_cons_zero, List.set_cons_succ])
              clear hS228
              refine ru_one 6 rfl (by kernel_rfl) (fun K hK => ?_)
              go_simp
              refine (around_c sb hj_ wide _ (F227.at 0 rfl) (by omega) (by omega) (by omega) (by omega)).mono ?_
              rintro e w232 ⟨v, rfl, ⟨s1, s2, rfl, hs5, hs6, hs7⟩, hs231, hg230⟩
              have hg230s := hg230.size
              (try simp at hg230s)
              have F233 := F227.seed hg230 hs231
              clear F227
              refine ru_back hK (by exact ((F233.at 1 rfl : Bk _ (w.heap.size + 2) 25 #[.slice (some ⟨gA, 0, none⟩) A'.length cA, vm])).cell 0) (fun hHeld => ?_)
              clear hK K
              (try simp only [Act.put, List.setIfInBounds_toArray, List.set_cons_zero, List.set_cons_succ])
              refine ru_one 7 rfl (by kernel_rfl) (fun K hK => ?_)
              go_simp
              refine ru_back hK (by exact ((F233.at 1 rfl : Bk _ (w.heap.size + 2) 25 #[.slice (some ⟨gA, 0, none⟩) A'.length cA, vm])).cell 0) (fun hHeld => ?_)
              clear hK K
              (try simp only [Act.put, List.setIfInBounds_toArray, List.set_cons_zero, List.set_cons_succ])
              refine ru_one 8 rfl (by kernel_rfl) (fun K hK => ?_)
              go_simp
              refine ru_back hK (by exact ((F233.at 1 rfl : Bk _ (w.heap.size + 2) 25 #[.slice (some ⟨gA, 0, none⟩) A'.length cA, vm])).cell 0) (fun hHeld => ?_)
              clear hK K
              (try simp only [Act.put, List.setIfInBounds_toArray, List.set_cons_zero, List.set_cons_succ])
              refine ru_one 9 rfl (by kernel_rfl) (fun K hK => ?_)
              have cc_ := Accs.cell (Own.sl ((F233.front 5 rfl rfl).at 0 rfl : Own accEnc 79 6 w.heap.size _ (.slice (some ⟨gA, 0, none⟩) A'.length cA) A') (fun _ => rfl)) hA'
              simp only [Nat.zero_add] at cc_
              obtain ⟨_, _, _, _, c5_, c6_⟩ := cc_
              have l5_ := Own.live ((F233.front 5 rfl rfl).at 0 rfl : Own accEnc 79 6 w.heap.size _ (.slice (some ⟨gA, 0, none⟩) A'.length cA) A') (j * 6 + 4)
              have l6_ := Own.live ((F233.front 5 rfl rfl).at 0 rfl : Own accEnc 79 6 w.heap.size _ (.slice (some ⟨gA, 0, none⟩) A'.length cA) A') (j * 6 + 5)
              go_simp
              clear c5_ c6_ l5_ l6_
              have F234 := Bus.setOwn (sz := 6) (fun _ => rfl) (F233.front 5 rfl rfl) (i := j) (j := 4) (x := ga A' j) (y := { ga A' j with cl := ⟨s1, (ga A' j).cl.hi⟩ }) (u := .int .i64 s1) (ga_some hA') (by decide) rfl rfl
              have F235 := Bus.setOwn (sz := 6) (fun _ => rfl) F234 (i := j) (j := 5) (x := { ga A' j with cl := ⟨s1, (ga A' j).cl.hi⟩ }) (y := { ga A' j with cl := ⟨s1, s2⟩ }) (u := .int .i64 s2) (by rw [List.getElem?_set_self (by simpa using hA')]) (by decide) rfl rfl
              rw [List.set_set] at F235
              clear F234 F233
              have F237 := F235
              clear F235
              refine ru_back_late hK (by kernel_rfl) ?_
              clear hK K
              (try simp only [Act.put, List.setIfInBounds_toArray, List.set_cons_zero, List.set_cons_succ])
              refine ru_done (by kernel_rfl) ?_
              have F238 : Bus w sb [rseed sb, rbox (w.heap.size + 2) 25 #[.slice (some ⟨gA, 0, none⟩) A'.length cA, vm], rbox (w.heap.size + 3) 32 #[vo, .slice pc C.length cc, vv], rown intEnc 3 1 w.heap.size (.slice (some ⟨gh, 0, none⟩) H.length pc157) H, rown intEnc 3 1 w.heap.size vo O, rown accEnc 79 6 w.heap.size (.slice (some ⟨gA, 0, none⟩) A'.length cA) (A'.set j { ga A' j with cl := ⟨s1, s2⟩ }), rown mvEnc 76 4 w.heap.size vm M, rown intEnc 3 1 w.heap.size (.slice pc C.length cc) C, rown intEnc 3 1 w.heap.size vv V, rbox w.heap.size 25 #[.slice none 0 0, .slice none 0 0], rbox (w.heap.size + 1) 32 #[.slice none 0 0, .slice none 0 0, .slice none 0 0], rbox (w.heap.size + 4) 9 nmC] _ := F237.pick [1, 2, 3, 4, 5, 0, 6, 7, 8, 9, 10, 11] (by decide) rfl
              clear F237
              have b239 : Bk _ (w.heap.size + 3) 32 #[vo, .slice pc C.length cc, vv] := F238.at 2 rfl
              have l240 := b239.lt
              have q241 : World.cell? _ ⟨(w.heap.size + 3), 0, none⟩ = some vo := b239.cell 0
              have z242 := b239.frozen 0
              have q243 : World.cell? _ ⟨(w.heap.size + 3), 1, none⟩ = some (.slice pc C.length cc) := b239.cell 1
              have z244 := b239.frozen 1
              have q245 : World.cell? _ ⟨(w.heap.size + 3), 2, none⟩ = some vv := b239.cell 2
              have z246 := b239.frozen 2
              go_wp2_with (at_builtin; refine wpList_app _ okInt rfl _ _ rfl w.heap.size (.slice pc C.length cc) C [(hj_ : Int)] rfl (by exact ((F238.at 7 rfl : Own intEnc 3 1 w.heap.size _ (.slice pc C.length cc) C)).alloc _) ⟨_, 0, none⟩ 1 1 rfl rfl (by decide) (news_of (Bk.newAt _ _ _ (by simp))) (C.length + 1) (by simp) (by omega) (by first | omega | (simp; omega)) _ rfl ?_; intro g248 cap249 w247 hp250; have G_ := ((F238.alloc (.cells #[.int .i64 hj_] 3)).front 7 rfl rfl).app hp250 (by simp); have fb0_ : Bk _ (w.heap.size + 3) 32 #[vo, .slice pc C.length cc, vv] := G_.at 3 rfl; have fl0_ := fb0_.lt; have fc0_0_ : World.cell? _ ⟨(w.heap.size + 3), 0, none⟩ = some vo := fb0_.cell 0; have ff0_0_ := fb0_.frozen 0; have fc0_1_ : World.cell? _ ⟨(w.heap.size + 3), 1, none⟩ = some (.slice pc C.length cc) := fb0_.cell 1; have ff0_1_ := fb0_.frozen 1; have fc0_2_ : World.cell? _ ⟨(w.heap.size + 3), 2, none⟩ = some vv := fb0_.cell 2; have ff0_2_ := fb0_.frozen 2)
              have hp250s := hp250.gb.size
              (try simp at hp250s)
              clear b239 l240 q241 z242 q243 z244 q245 z246
              have F251 := ((F238.alloc (.cells #[.int .i64 hj_] 3)).front 7 rfl rfl).app hp250 (by simp)
              (try dsimp only [List.eraseIdx_cons_succ, List.eraseIdx_cons_zero] at F251)
              clear F238
              go_wp2_with fail
              have F252 := (F251.front 3 rfl rfl).set 1 (.slice (some ⟨g248, 0, none⟩) (C.length + 1) cap249)
              (try dsimp only [List.eraseIdx_cons_succ, List.eraseIdx_cons_zero, List.setIfInBounds_toArray, List.set_cons_succ, List.set_cons_zero] at F252)
              clear F251
              have F253 : Bus w sb [rseed sb, rbox (w.heap.size + 2) 25 #[.slice (some ⟨gA, 0, none⟩) A'.length cA, vm], rbox (w.heap.size + 3) 32 #[vo, .slice (some ⟨g248, 0, none⟩) (C.length + 1) cap249, vv], rown intEnc 3 1 w.heap.size (.slice (some ⟨gh, 0, none⟩) H.length pc157) H, rown intEnc 3 1 w.heap.size vo O, rown accEnc 79 6 w.heap.size (.slice (some ⟨gA, 0, none⟩) A'.length cA) (A'.set j { ga A' j with cl := ⟨s1, s2⟩ }), rown mvEnc 76 4 w.heap.size vm M, rown intEnc 3 1 w.heap.size (.slice (some ⟨g248, 0, none⟩) (C.length + 1) cap249) (C ++ [(hj_ : Int)]), rown intEnc 3 1 w.heap.size vv V, rbox w.heap.size 25 #[.slice none 0 0, .slice none 0 0], rbox (w.heap.size + 1) 32 #[.slice none 0 0, .slice none 0 0, .slice none 0 0], rbox (w.heap.size + 4) 9 nmC] _ := F252.pick [2, 3, 0, 4, 5, 6, 7, 1, 8, 9, 10, 11] (by decide) rfl
              clear F252
              (first | refine ⟨rfl, ?_, ?_⟩ | refine ⟨?_, ?_⟩)
              · rw [HI158.out]; exact ⟨j + 1, A'.set j { ga A' j with cl := ⟨s1, s2⟩ }, C ++ [hj_], _, _, rfl, rfl, rfl, rfl, rfl, rfl, rfl, rfl, rfl, rfl, (by show Value.int .i64 ((j : Int) + 1) = _; simp), by omega, (by simp), (by first | omega | (simp; omega)), HPC.out.step hjA (by rw [HHJ.out]; exact ⟨by omega, Int.le_refl _⟩) (by rw [HHJ.out]; exact fun _ => rfl) ⟨hs5, hs6, hs7⟩, F253⟩
              · simp [slot, intOf]; omega
          · obtain rfl : j = H.length := by omega
            have HBT := Lib.hid (BookTruth.mk' (accounts := accounts) (moves := moves) HPA.out HPM.out (by rw [hHl.out] at hC; exact hC) hA0.1 hA0.2 hmm)
            clear hC
            obtain ⟨pa254, pc255, e_⟩ := (Own.sl (hF.at 6 rfl : Own mvEnc 76 4 w.heap.size _ vm M) (fun _ => rfl)).any
            subst e_
            obtain ⟨pa256, pc257, e_⟩ := (Own.sl (hF.at 8 rfl : Own intEnc 3 1 w.heap.size _ vv V) (fun _ => rfl)).any
            subst e_
            obtain ⟨pa258, pc259, e_⟩ := (Own.sl (hF.at 4 rfl : Own intEnc 3 1 w.heap.size _ vo O) (fun _ => rfl)).any
            subst e_
            obtain ⟨pa260, pc261, e_⟩ := (Own.sl (hF.at 5 rfl : Own accEnc 79 6 w.heap.size _ va A') (fun _ => rfl)).any
            subst e_
            obtain ⟨pa262, pc263, e_⟩ := (Own.sl (hF.at 7 rfl : Own intEnc 3 1 w.heap.size _ vc C) (fun _ => rfl)).any
            subst e_
            go_wp2_with fail
            have F264 := hF.drew
            clear hF
            refine ru_begin (fun W => W.cell? ⟨(w.heap.size + 2), 0, none⟩ = some (.slice pa260 A'.length pc261) ∧ W.cell? ⟨(w.heap.size + 2), 1, none⟩ = some (.slice pa254 M.length pc255) ∧ W.cell? ⟨(w.heap.size + 3), 0, none⟩ = some (.slice pa258 O.length pc259) ∧ W.cell? ⟨(w.heap.size + 3), 1, none⟩ = some (.slice pa262 C.length pc263) ∧ W.cell? ⟨(w.heap.size + 3), 2, none⟩ = some (.slice pa256 V.length pc257)) 3 (by kernel_rfl) ?_ ?_
            · exact ⟨((F264.at 1 rfl : Bk _ (w.heap.size + 2) 25 #[.slice pa260 A'.length pc261, .slice pa254 M.length pc255])).cell 0, ((F264.at 1 rfl : Bk _ (w.heap.size + 2) 25 #[.slice pa260 A'.length pc261, .slice pa254 M.length pc255])).cell 1, ((F264.at 2 rfl : Bk _ (w.heap.size + 3) 32 #[.slice pa258 O.length pc259, .slice pa262 C.length pc263, .slice pa256 V.length pc257])).cell 0, ((F264.at 2 rfl : Bk _ (w.heap.size + 3) 32 #[.slice pa258 O.length pc259, .slice pa262 C.length pc263, .slice pa256 V.length pc257])).cell 1, ((F264.at 2 rfl : Bk _ (w.heap.size + 3) 32 #[.slice pa258 O.length pc259, .slice pa262 C.length pc263, .slice pa256 V.length pc257])).cell 2⟩
            obtain ⟨wd266, hwd_⟩ : ∃ x : World, wr.drew = x := ⟨_, rfl⟩
            rw [hwd_] at F264 ⊢
            have wd266s : wr.heap.size ≤ wd266.heap.size := by rw [← hwd_]; exact Nat.le_refl _
            clear hwd_
            have hS265 : World.cell? _ ⟨(w.heap.size + 2), 0, none⟩ = some (.slice pa260 A'.length pc261) ∧ World.cell? _ ⟨(w.heap.size + 2), 1, none⟩ = some (.slice pa254 M.length pc255) ∧ World.cell? _ ⟨(w.heap.size + 3), 0, none⟩ = some (.slice pa258 O.length pc259) ∧ World.cell? _ ⟨(w.heap.size + 3), 1, none⟩ = some (.slice pa262 C.length pc263) ∧ World.cell? _ ⟨(w.heap.size + 3), 2, none⟩ = some (.slice pa256 V.length pc257) := ⟨((F264.at 1 rfl : Bk _ (w.heap.size + 2) 25 #[.slice pa260 A'.length pc261, .slice pa254 M.length pc255])).cell 0, ((F264.at 1 rfl : Bk _ (w.heap.size + 2) 25 #[.slice pa260 A'.length pc261, .slice pa254 M.length pc255])).cell 1, ((F264.at 2 rfl : Bk _ (w.heap.size + 3) 32 #[.slice pa258 O.length pc259, .slice pa262 C.length pc263, .slice pa256 V.length pc257])).cell 0, ((F264.at 2 rfl : Bk _ (w.heap.size + 3) 32 #[.slice pa258 O.length pc259, .slice pa262 C.length pc263, .slice pa256 V.length pc257])).cell 1, ((F264.at 2 rfl : Bk _ (w.heap.size + 3) 32 #[.slice pa258 O.length pc259, .slice pa262 C.length pc263, .slice pa256 V.length pc257])).cell 2⟩
            refine ru_t 0 [] ?_
            refine ru_t 1 [] ?_
            (try simp only [Act.put, List.setIfInBounds_toArray, List.set_cons_zero, List.set_cons_succ])
            clear hS265
            refine ru_one 2 rfl (by kernel_rfl) (fun K hK => ?_)
            have kb_ : Bk _ w.heap.size 25 #[.slice none 0 0, .slice none 0 0] := (F264.front 9 rfl rfl).at 0 rfl
            have kl_ := kb_.lt
            have kc0_ : World.cell? _ ⟨w.heap.size, 0, none⟩ = some (.slice none 0 0) := kb_.cell 0
            have kf0_ : World.frozen? _ ⟨w.heap.size, 0, none⟩ = false := kb_.frozen 0
            have kc1_ : World.cell? _ ⟨w.heap.size, 1, none⟩ = some (.slice none 0 0) := kb_.cell 1
            have kf1_ : World.frozen? _ ⟨w.heap.size, 1, none⟩ = false := kb_.frozen 1
            go_simp
            clear kl_ kc0_ kf0_ kc1_ kf1_ kb_
            have F267 := ((F264.front 9 rfl rfl).set 0 (.slice pa260 A'.length pc261)).set 1 (.slice pa254 M.length pc255)
            (try dsimp only [List.eraseIdx_cons_succ, List.eraseIdx_cons_zero, List.setIfInBounds_toArray, List.set_cons_succ, List.set_cons_zero] at F267)
            clear F264
            refine ru_back hK (by exact ⟨((F267.at 2 rfl : Bk _ (w.heap.size + 2) 25 #[.slice pa260 A'.length pc261, .slice pa254 M.length pc255])).cell 0, ((F267.at 2 rfl : Bk _ (w.heap.size + 2) 25 #[.slice pa260 A'.length pc261, .slice pa254 M.length pc255])).cell 1, ((F267.at 3 rfl : Bk _ (w.heap.size + 3) 32 #[.slice pa258 O.length pc259, .slice pa262 C.length pc263, .slice pa256 V.length pc257])).cell 0, ((F267.at 3 rfl : Bk _ (w.heap.size + 3) 32 #[.slice pa258 O.length pc259, .slice pa262 C.length pc263, .slice pa256 V.length pc257])).cell 1, ((F267.at 3 rfl : Bk _ (w.heap.size + 3) 32 #[.slice pa258 O.length pc259, .slice pa262 C.length pc263, .slice pa256 V.length pc257])).cell 2⟩) (fun hHeld => ?_)
            clear hK K
            (try simp only [Act.put, List.setIfInBounds_toArray, List.set_cons_zero, List.set_cons_succ])
            refine ru_one 3 rfl (by kernel_rfl) (fun K hK => ?_)
            have kb_ : Bk _ (w.heap.size + 1) 32 #[.slice none 0 0, .slice none 0 0, .slice none 0 0] := (F267.front 10 rfl rfl).at 0 rfl
            have kl_ := kb_.lt
            have kc0_ : World.cell? _ ⟨(w.heap.size + 1), 0, none⟩ = some (.slice none 0 0) := kb_.cell 0
            have kf0_ : World.frozen? _ ⟨(w.heap.size + 1), 0, none⟩ = false := kb_.frozen 0
            have kc1_ : World.cell? _ ⟨(w.heap.size + 1), 1, none⟩ = some (.slice none 0 0) := kb_.cell 1
            have kf1_ : World.frozen? _ ⟨(w.heap.size + 1), 1, none⟩ = false := kb_.frozen 1
            have kc2_ : World.cell? _ ⟨(w.heap.size + 1), 2, none⟩ = some (.slice none 0 0) := kb_.cell 2
            have kf2_ : World.frozen? _ ⟨(w.heap.size + 1), 2, none⟩ = false := kb_.frozen 2
            go_simp
            clear kl_ kc0_ kf0_ kc1_ kf1_ kc2_ kf2_ kb_
            have F268 := (((F267.front 10 rfl rfl).set 0 (.slice pa258 O.length pc259)).set 1 (.slice pa262 C.length pc263)).set 2 (.slice pa256 V.length pc257)
            (try dsimp only [List.eraseIdx_cons_succ, List.eraseIdx_cons_zero, List.setIfInBounds_toArray, List.set_cons_succ, List.set_cons_zero] at F268)
            clear F267
            refine ru_back_late hK (by kernel_rfl) ?_
            clear hK K
            (try simp only [Act.put, List.setIfInBounds_toArray, List.set_cons_zero, List.set_cons_succ])
            refine ru_done (by kernel_rfl) ?_
            have kb : Bk _ w.heap.size 25 #[.slice pa260 A'.length pc261, .slice pa254 M.length pc255] := (F268.at 1 rfl : Bk _ w.heap.size 25 #[.slice pa260 A'.length pc261, .slice pa254 M.length pc255])
            have kc := kb.c2
            have kb3 : Bk _ (w.heap.size + 1) 32 #[.slice pa258 O.length pc259, .slice pa262 C.length pc263, .slice pa256 V.length pc257] := (F268.at 0 rfl : Bk _ (w.heap.size + 1) 32 #[.slice pa258 O.length pc259, .slice pa262 C.length pc263, .slice pa256 V.length pc257])
            have kc3 := kb3.c3
            go_wp2_with fail
            exact bodyPost_ret (v := .tuple #[.agg #[.slice pa260 A'.length pc261, .slice pa254 M.length pc255], .agg #[.slice pa258 O.length pc259, .slice pa262 C.length pc263, .slice pa256 V.length pc257]]) (by simp [results, Try.results17, go_sem, kc, kc3]) rfl ⟨_, _, ⟨A', M⟩, _, _, _, O, C, V, rfl, HBT.out, F268.pick [7, 8, 6, 9, 10, 2] (by decide) rfl⟩
        case atStart2 =>
          rw [HI158.out]
          exact ⟨0, A, [], _, _, rfl, rfl, rfl, rfl, rfl, rfl, rfl, rfl, rfl, rfl, rfl, Nat.zero_le _, rfl, Nat.le_refl _, PhC.start _ _ _, hF⟩
      case first4 =>
        obtain ⟨HI269_, HI2690⟩ : ∃ I : (Nat → Value) → List Deferred → World → Prop, I = (fun t ds wr => ∃ (k : Nat) (M : List Mv) (V H : List Int) (vm vv vh : Value), t 0 = .pointer (some ⟨sb, 0, none⟩) ∧ t 2 = .int .i64 moves ∧ t 3 = .int .i64 litres ∧ t 4 = .int .i64 wide ∧ t 10 = .pointer (some ⟨w.heap.size, 0, none⟩) ∧ t 11 = .pointer (some ⟨(w.heap.size + 1), 0, none⟩) ∧ t 12 = .pointer (some ⟨(w.heap.size + 2), 0, none⟩) ∧ t 13 = .pointer (some ⟨(w.heap.size + 3), 0, none⟩) ∧ t 14 = .slice (some ⟨(w.heap.size + 4), 0, none⟩) 8 8 ∧ t 15 = vh ∧ t 20 = .int .i64 k ∧ M.length + k ≤ moves ∧ ds = [] ∧ w5.heap.size ≤ wr.heap.size ∧ PhM O.length wide (A.length * litres) O M V H ∧ Bus w sb [rseed sb, rbox (w.heap.size + 2) 25 #[va, vm], rbox (w.heap.size + 3) 32 #[vo, .slice none 0 0, vv], rown intEnc 3 1 w.heap.size vh H, rown intEnc 3 1 w.heap.size vo O, rown accEnc 79 6 w.heap.size va A, rown mvEnc 76 4 w.heap.size vm M, rown intEnc 3 1 w.heap.size (.slice none 0 0) [], rown intEnc 3 1 w.heap.size vv V, rbox w.heap.size 25 #[.slice none 0 0, .slice none 0 0], rbox (w.heap.size + 1) 32 #[.slice none 0 0, .slice none 0 0, .slice none 0 0], rbox (w.heap.size + 4) 9 nmC] wr) := ⟨_, rfl⟩
        have HI269 := Lib.hid HI2690
        clear HI2690
        refine wp_loopS 203 rfl HI269_ (fun t wr => (intOf (t 20)).toNat) ?atStart3 ?round3
        case round3 =>
          intro t ds wr hHid
          rw [HI269.out] at hHid
          obtain ⟨k, M, V, H, vm, vv, vh, e0, e2, e3, e4, e10, e11, e12, e13, e14, e15, e20, hrel⟩ := hHid
          have e : ((List.range 203).map t).toArray = #[t 0, t 1, t 2, t 3, t 4, t 5, t 6, t 7, t 8, t 9, t 10, t 11, t 12, t 13, t 14, t 15, t 16, t 17, t 18, t 19, t 20, t 21, t 22, t 23, t 24, t 25, t 26, t 27, t 28, t 29, t 30, t 31, t 32, t 33, t 34, t 35, t 36, t 37, t 38, t 39, t 40, t 41, t 42, t 43, t 44, t 45, t 46, t 47, t 48, t 49, t 50, t 51, t 52, t 53, t 54, t 55, t 56, t 57, t 58, t 59, t 60, t 61, t 62, t 63, t 64, t 65, t 66, t 67, t 68, t 69, t 70, t 71, t 72, t 73, t 74, t 75, t 76, t 77, t 78, t 79, t 80, t 81, t 82, t 83, t 84, t 85, t 86, t 87, t 88, t 89, t 90, t 91, t 92, t 93, t 94, t 95, t 96, t 97, t 98, t 99, t 100, t 101, t 102, t 103, t 104, t 105, t 106, t 107, t 108, t 109, t 110, t 111, t 112, t 113, t 114, t 115, t 116, t 117, t 118, t 119, t 120, t 121, t 122, t 123, t 124, t 125, t 126, t 127, t 128, t 129, t 130, t 131, t 132, t 133, t 134, t 135, t 136, t 137, t 138, t 139, t 140, t 141, t 142, t 143, t 144, t 145, t 146, t 147, t 148, t 149, t 150, t 151, t 152, t 153, t 154, t 155, t 156, t 157, t 158, t 159, t 160, t 161, t 162, t 163, t 164, t 165, t 166, t 167, t 168, t 169, t 170, t 171, t 172, t 173, t 174, t 175, t 176, t 177, t 178, t 179, t 180, t 181, t 182, t 183, t 184, t 185, t 186, t 187, t 188, t 189, t 190, t 191, t 192, t 193, t 194, t 195, t 196, t 197, t 198, t 199, t 200, t 201, t 202] := rfl
          (try dsimp only at e)
          rw [e0, e2, e3, e4, e10, e11, e12, e13, e14, e15, e20] at e
          rw [e]
          simp only [e20]
          clear e e0 e2 e3 e4 e10 e11 e12 e13 e14 e15 e20
          clear F153
          obtain ⟨hk, rfl, hws6, hM, hF⟩ := hrel
          have hMl := Lib.hid hM.len
          have hHl := Lib.hid (hM.hlen.trans hO.out)
          have HPM := Lib.hid hM
          clear hM
          obtain ⟨pa270, pc271, e_⟩ := (Own.sl (hF.at 3 rfl : Own intEnc 3 1 w.heap.size _ vh H) (fun _ => rfl)).any
          subst e_
          by_cases hk0 : 0 < k
          · skip
            by_cases hn1 : 1 < H.length
            · skip
              obtain ⟨gh, ch, e_, _, _⟩ := Own.form (hF.at 3 rfl : Own intEnc 3 1 w.heap.size _ (.slice pa270 H.length pc271) H) (by omega)
              injection e_ with e1_ e2_ e3_
              subst e1_ e3_
              clear e2_
              have hH8 : H.length ≤ 8 := by have := hHl.out; omega
              have hV8 : V.length ≤ 12 := by have := hMl.out; omega
              go_wp2_with fail
              refine (below_c sb H.length _ (hF.at 0 rfl) (by omega) (by omega)).mono ?_
              rintro e w6 ⟨r1, rfl, ⟨hb1, hb2⟩, hs6, hg6⟩
              have hg6s := hg6.size
              (try simp at hg6s)
              have F272 := hF.seed hg6 hs6
              clear hF
              clear hg6
              obtain ⟨i, rfl⟩ := Int.eq_ofNat_of_zero_le hb1
              have hi : i < H.length := by omega
              clear hb1 hb2
              go_wp2_with fail
              refine (from_c sb 1 (H.length - 1 : Int) _ (F272.at 0 rfl) (by omega) (by omega) (by omega) (by omega)).mono ?_
              rintro e w7 ⟨r2, rfl, hr, hs7, hg7⟩
              have hg7s := hg7.size
              (try simp at hg7s)
              have F273 := F272.seed hg7 hs7
              clear F272
              clear hg7
              have hr1 : 1 ≤ r2 ∧ r2 < H.length := by unfold fromR at hr; omega
              clear hr
              obtain ⟨q, rfl⟩ := Int.eq_ofNat_of_zero_le (show 0 ≤ r2 by omega)
              obtain ⟨j, hj, hjl, hji⟩ := mod_wrap (n := H.length) (q := q) hi (by omega)
              have HJ := Lib.hid hj
              clear hj
              go_wp2_with fail
              refine (wrap_c (i + q) H.length _ (by omega) (by omega)).mono ?_
              rintro e w8 ⟨rfl, hg8⟩
              have hg8s := hg8.size
              (try simp at hg8s)
              rw [HJ.out]
              have F274 := F273.gn hg8
              clear F273
              clear hg8
              have hsm := Lib.hid (Int.le_trans (sumL_le O litres (fun i hi => (HPA.out.one i (by have := hO.out; omega)).ob.2)) (show (O.length : Int) * litres ≤ A.length * litres by rw [hO.out]; exact Int.le_refl _))
              have hi1 := HPM.out.bd hsm.out (i := i) (by have := hO.out; have := hHl.out; omega)
              have hj1 := HPM.out.bd hsm.out (i := j) (by have := hO.out; have := hHl.out; omega)
              have hi8 : 0 ≤ gi H i ∧ gi H i ≤ 8000000 := ⟨hi1.1, Int.le_trans hi1.2 hSb.out⟩
              have hj8 : 0 ≤ gi H j ∧ gi H j ≤ 8000000 := ⟨hj1.1, Int.le_trans hj1.2 hSb.out⟩
              clear hi1 hj1
              have hii : (i : Int) < (H.length : Int) := by omega
              have hjj : (j : Int) < (H.length : Int) := by omega
              obtain ⟨zi, hzi⟩ : ∃ z, gi H i = z := ⟨_, rfl⟩
              obtain ⟨zj, hzj⟩ : ∃ z, gi H j = z := ⟨_, rfl⟩
              rw [hzi] at hi8
              rw [hzj] at hj8
              have HZI := Lib.hid hzi
              have HZJ := Lib.hid hzj
              clear hzi hzj
              go_wp2_with fail
              have hq2 : Int.tdiv zi 2 = zi / 2 := Int.tdiv_eq_ediv_of_nonneg hi8.1
              have w1_ : IntKind.i64.wrap (zi + 1) = zi + 1 := IntWalk.i64_in _ (by omega)
              have w2_ : IntKind.i64.wrap (zi / 2 + 1) = zi / 2 + 1 := IntWalk.i64_in _ (by omega)
              have w3_ : IntKind.i64.wrap (zi / 2) = zi / 2 := IntWalk.i64_in _ (by omega)
              have F275 := F274.drew
              clear F274
              refine ru_begin (fun W => W.cell? ⟨gh, i, none⟩ = some (.int .i64 zi)) 18 (by kernel_rfl) ?_ ?_
              · exact (by have h_ := Own.at (F275.at 3 rfl : Own intEnc 3 1 w.heap.size _ (.slice (some ⟨gh, 0, none⟩) H.length pc271) H) hi; rw [HZI.out] at h_; exact h_)
              have hS276 : World.cell? _ ⟨gh, i, none⟩ = some (.int .i64 zi) := (by have h_ := Own.at (F275.at 3 rfl : Own intEnc 3 1 w.heap.size _ (.slice (some ⟨gh, 0, none⟩) H.length pc271) H) hi; rw [HZI.out] at h_; exact h_)
              refine ru_t 0 [] ?_
              refine ru_t 1 [] ?_
              refine ru_t 2 [] ?_
              refine ru_t 3 [] ?_
              refine ru_t 4 [] ?_
              refine ru_t 5 [] ?_
              refine ru_t 6 [] ?_
              refine ru_t 8 [] ?_
              refine ru_t 9 [] ?_
              refine ru_t 10 [] ?_
              refine ru_t 11 [] ?_
              refine ru_t 12 [] ?_
              refine ru_t 13 [] ?_
              refine ru_t 14 [] ?_
              (try simp only [Act.put, List.setIfInBounds_toArray, List.set_cons_zero, List.set_cons_succ])
              clear hS276
              refine ru_one 7 rfl (by kernel_rfl) (fun K hK => ?_)
              go_simp
              refine (below_c sb (zi + 1) _ (F275.at 0 rfl) (by omega) (by omega)).mono ?_
              rintro e w280 ⟨r3, rfl, ⟨hb3, hb4⟩, hs279, hg278⟩
              have hg278s := hg278.size
              (try simp at hg278s)
              have F281 := F275.seed hg278 hs279
              clear F275
              refine ru_back hK (by exact (by have h_ := Own.at (F281.at 3 rfl : Own intEnc 3 1 w.heap.size _ (.slice (some ⟨gh, 0, none⟩) H.length pc271) H) hi; rw [HZI.out] at h_; exact h_)) (fun hHeld => ?_)
              clear hK K
              (try simp only [Act.put, List.setIfInBounds_toArray, List.set_cons_zero, List.set_cons_succ])
              refine ru_one 15 rfl (by kernel_rfl) (fun K hK => ?_)
              go_simp
              refine (below_c sb (zi / 2 + 1) _ (F281.at 0 rfl) (by omega) (by omega)).mono ?_
              rintro e w284 ⟨r4, rfl, ⟨hb5, hb6⟩, hs283, hg282⟩
              have hg282s := hg282.size
              (try simp at hg282s)
              have F285 := F281.seed hg282 hs283
              clear F281
              refine ru_back hK (by exact (by have h_ := Own.at (F285.at 3 rfl : Own intEnc 3 1 w.heap.size _ (.slice (some ⟨gh, 0, none⟩) H.length pc271) H) hi; rw [HZI.out] at h_; exact h_)) (fun hHeld => ?_)
              clear hK K
              (try simp only [Act.put, List.setIfInBounds_toArray, List.set_cons_zero, List.set_cons_succ])
              refine ru_one 16 rfl (by kernel_rfl) (fun K hK => ?_)
              go_simp
              have F286 := F285.new 3 #[.int .i64 r3, .int .i64 r4] (n := w284.heap.size) (by simp)
              clear F285
              refine ru_back hK (by exact (by have h_ := Own.at (F286.at 4 rfl : Own intEnc 3 1 w.heap.size _ (.slice (some ⟨gh, 0, none⟩) H.length pc271) H) hi; rw [HZI.out] at h_; exact h_)) (fun hHeld => ?_)
              clear hK K
              (try simp only [Act.put, List.setIfInBounds_toArray, List.set_cons_zero, List.set_cons_succ])
              refine ru_one 17 rfl (by kernel_rfl) (fun K hK => ?_)
              go_simp
              refine (of_c sb _ ((F286.front 1 rfl rfl).at 0 rfl) w284.heap.size 0 2 2 (fun i => [r3, r4].getD i 0) (by decide) (by decide) (by have := ((F286.front 1 rfl rfl).ltAt 0 rfl sb rfl).1; omega) (fun i hi => by rcases i with _ | _ | i; exact (((F286.front 1 rfl rfl).at 1 rfl : Bk _ w284.heap.size 3 #[.int .i64 r3, .int .i64 r4])).cell 0; exact (((F286.front 1 rfl rfl).at 1 rfl : Bk _ w284.heap.size 3 #[.int .i64 r3, .int .i64 r4])).cell 1; omega)).mono ?_
              rintro e w289 ⟨v, rfl, hv, hs288, hg287⟩
              have hv1 : 0 ≤ v ∧ v ≤ zi := by
                obtain ⟨i, hi, rfl⟩ := hv
                rcases i with _ | _ | i
                · show 0 ≤ r3 ∧ r3 ≤ zi; omega
                · show 0 ≤ r4 ∧ r4 ≤ zi; omega
                · omega
              clear hv
              have hg287s := hg287.size
              (try simp at hg287s)
              have F290 := (F286.front 1 rfl rfl).seed hg287 hs288
              (try dsimp only [List.eraseIdx_cons_succ, List.eraseIdx_cons_zero] at F290)
              clear F286
              refine ru_back hK (by exact (by have h_ := Own.at (F290.at 4 rfl : Own intEnc 3 1 w.heap.size _ (.slice (some ⟨gh, 0, none⟩) H.length pc271) H) hi; rw [HZI.out] at h_; exact h_)) (fun hHeld => ?_)
              clear hK K
              (try simp only [Act.put, List.setIfInBounds_toArray, List.set_cons_zero, List.set_cons_succ])
              refine ru_one 18 rfl (by kernel_rfl) (fun K hK => ?_)
              go_simp
              refine ru_back_late hK (by kernel_rfl) ?_
              clear hK K
              (try simp only [Act.put, List.setIfInBounds_toArray, List.set_cons_zero, List.set_cons_succ])
              refine ru_done (by kernel_rfl) ?_
              have F291 : Bus w sb [rseed sb, rbox (w.heap.size + 2) 25 #[va, vm], rbox (w.heap.size + 3) 32 #[vo, .slice none 0 0, vv], rown intEnc 3 1 w.heap.size (.slice (some ⟨gh, 0, none⟩) H.length pc271) H, rown intEnc 3 1 w.heap.size vo O, rown accEnc 79 6 w.heap.size va A, rown mvEnc 76 4 w.heap.size vm M, rown intEnc 3 1 w.heap.size (.slice none 0 0) [], rown intEnc 3 1 w.heap.size vv V, rbox w.heap.size 25 #[.slice none 0 0, .slice none 0 0], rbox (w.heap.size + 1) 32 #[.slice none 0 0, .slice none 0 0, .slice none 0 0], rbox (w.heap.size + 4) 9 nmC] _ := (F290.drop 1 rfl).pick [0, 1, 2, 3, 4, 5, 6, 7, 8, 9, 10, 11] (by decide) rfl
              clear F290
              go_wp2_with fail
              have e1 : IntKind.i64.wrap (zi - v) = zi - v := IntWalk.i64_in _ (by omega)
              have e2 : IntKind.i64.wrap (zj + v) = zj + v := IntWalk.i64_in _ (by omega)
              have F292 := F291.drew
              clear F291
              refine ru_begin (fun W => W.cell? ⟨gh, i, none⟩ = some (.int .i64 zi) ∧ W.cell? ⟨gh, j, none⟩ = some (.int .i64 zj)) 17 (by kernel_rfl) ?_ ?_
              · exact ⟨(by have h_ := Own.at (F292.at 3 rfl : Own intEnc 3 1 w.heap.size _ (.slice (some ⟨gh, 0, none⟩) H.length pc271) H) hi; rw [HZI.out] at h_; exact h_), (by have h_ := Own.at (F292.at 3 rfl : Own intEnc 3 1 w.heap.size _ (.slice (some ⟨gh, 0, none⟩) H.length pc271) H) hjl; rw [HZJ.out] at h_; exact h_)⟩
              have hS293 : World.cell? _ ⟨gh, i, none⟩ = some (.int .i64 zi) ∧ World.cell? _ ⟨gh, j, none⟩ = some (.int .i64 zj) := ⟨(by have h_ := Own.at (F292.at 3 rfl : Own intEnc 3 1 w.heap.size _ (.slice (some ⟨gh, 0, none⟩) H.length pc271) H) hi; rw [HZI.out] at h_; exact h_), (by have h_ := Own.at (F292.at 3 rfl : Own intEnc 3 1 w.heap.size _ (.slice (some ⟨gh, 0, none⟩) H.length pc271) H) hjl; rw [HZJ.out] at h_; exact h_)⟩
              refine ru_t 0 [] ?_
              refine ru_t 1 [] ?_
              refine ru_t 4 [] ?_
              refine ru_t 5 [] ?_
              refine ru_t 6 [] ?_
              refine ru_t 7 [] ?_
              refine ru_t 8 [] ?_
              refine ru_t 9 [] ?_
              refine ru_t 10 [13, 12] ?_
              refine ru_t 11 [13, 12] ?_
              refine ru_t 12 [13] ?_
              refine ru_t 13 [] ?_
              (try simp only [Act.put, List.setIfInBounds_toArray, List.set_cons_zero, List.set_cons_succ])
              refine ru_p 2 ?_
              refine ru_p 3 ?_
              refine ru_p 14 ?_
              (try simp only [Act.put, List.setIfInBounds_toArray, List.set_cons_zero, List.set_cons_succ])
              refine ru_p 15 ?_
              (try simp only [Act.put, List.setIfInBounds_toArray, List.set_cons_zero, List.set_cons_succ])
              clear hS293
              refine ru_one 16 rfl (by kernel_rfl) (fun K hK => ?_)
              go_simp
              refine ru_back hK (by exact ⟨(by have h_ := Own.at (F292.at 3 rfl : Own intEnc 3 1 w.heap.size _ (.slice (some ⟨gh, 0, none⟩) H.length pc271) H) hi; rw [HZI.out] at h_; exact h_), (by have h_ := Own.at (F292.at 3 rfl : Own intEnc 3 1 w.heap.size _ (.slice (some ⟨gh, 0, none⟩) H.length pc271) H) hjl; rw [HZJ.out] at h_; exact h_)⟩) (fun hHeld => ?_)
              clear hK K
              (try simp only [Act.put, List.setIfInBounds_toArray, List.set_cons_zero, List.set_cons_succ])
              refine ru_one 17 rfl (by kernel_rfl) (fun K hK => ?_)
              have ci_ : World.cell? w289 ⟨gh, i, none⟩ = some (.int .i64 zi) := (by have h_ := Own.at ((F292.front 3 rfl rfl).at 0 rfl : Own intEnc 3 1 w.heap.size _ (.slice (some ⟨gh, 0, none⟩) H.length pc271) H) hi; rw [HZI.out] at h_; exact h_)
              have li_ : World.frozen? w289 ⟨gh, i, none⟩ = false := Own.live ((F292.front 3 rfl rfl).at 0 rfl : Own intEnc 3 1 w.heap.size _ (.slice (some ⟨gh, 0, none⟩) H.length pc271) H) i
              have cj_ : World.cell? w289 ⟨gh, j, none⟩ = some (.int .i64 zj) := (by have h_ := Own.at ((F292.front 3 rfl rfl).at 0 rfl : Own intEnc 3 1 w.heap.size _ (.slice (some ⟨gh, 0, none⟩) H.length pc271) H) hjl; rw [HZJ.out] at h_; exact h_)
              have lj_ : World.frozen? w289 ⟨gh, j, none⟩ = false := Own.live ((F292.front 3 rfl rfl).at 0 rfl : Own intEnc 3 1 w.heap.size _ (.slice (some ⟨gh, 0, none⟩) H.length pc271) H) j
              go_simp
              clear ci_ li_
              have F295 := Bus.setOwn (sz := 1) (fun _ => rfl) (F292.front 3 rfl rfl) (i := i) (j := 0) (y := zi - v) (u := .int .i64 (zi - v)) (gi_some hi) (by decide) rfl (k := i) (by omega)
              clear F292
              have F296 := F295
              clear F295
              refine ru_back_late hK (by kernel_rfl) ?_
              clear hK K
              (try simp only [Act.put, List.setIfInBounds_toArray, List.set_cons_zero, List.set_cons_succ])
              refine ru_one 18 rfl (by kernel_rfl) (fun K hK => ?_)
              go_simp
              refine ru_back_late hK (by kernel_rfl) ?_
              clear hK K
              (try simp only [Act.put, List.setIfInBounds_toArray, List.set_cons_zero, List.set_cons_succ])
              refine ru_one 19 rfl (by kernel_rfl) (fun K hK => ?_)
              go_simp
              clear cj_ lj_
              have F297 := Bus.setOwn (sz := 1) (fun _ => rfl) F296 (i := j) (j := 0) (y := zj + v) (u := .int .i64 (zj + v)) (gi_some (show j < (H.set i (zi - v)).length by simpa using hjl)) (by decide) rfl (k := j) (by omega)
              clear F296
              have F298 := F297
              clear F297
              refine ru_back_late hK (by kernel_rfl) ?_
              clear hK K
              (try simp only [Act.put, List.setIfInBounds_toArray, List.set_cons_zero, List.set_cons_succ])
              refine ru_done (by kernel_rfl) ?_
              have F299 : Bus w sb [rseed sb, rbox (w.heap.size + 2) 25 #[va, vm], rbox (w.heap.size + 3) 32 #[vo, .slice none 0 0, vv], rown intEnc 3 1 w.heap.size (.slice (some ⟨gh, 0, none⟩) H.length pc271) (((H).set i (zi - v)).set j (zj + v)), rown intEnc 3 1 w.heap.size vo O, rown accEnc 79 6 w.heap.size va A, rown mvEnc 76 4 w.heap.size vm M, rown intEnc 3 1 w.heap.size (.slice none 0 0) [], rown intEnc 3 1 w.heap.size vv V, rbox w.heap.size 25 #[.slice none 0 0, .slice none 0 0], rbox (w.heap.size + 1) 32 #[.slice none 0 0, .slice none 0 0, .slice none 0 0], rbox (w.heap.size + 4) 9 nmC] _ := F298.pick [1, 2, 3, 0, 4, 5, 6, 7, 8, 9, 10, 11] (by decide) rfl
              clear F298
              go_wp2_with fail
              have F300 := F299.drew
              clear F299
              refine ru_begin (fun W => W.cell? ⟨(w.heap.size + 2), 1, none⟩ = some vm ∧ W.cell? ⟨(w.heap.size + 3), 2, none⟩ = some vv) 17 (by kernel_rfl) ?_ ?_
              · exact ⟨((F300.at 1 rfl : Bk _ (w.heap.size + 2) 25 #[va, vm])).cell 1, ((F300.at 2 rfl : Bk _ (w.heap.size + 3) 32 #[vo, .slice none 0 0, vv])).cell 2⟩
              have hS301 : World.cell? _ ⟨(w.heap.size + 2), 1, none⟩ = some vm ∧ World.cell? _ ⟨(w.heap.size + 3), 2, none⟩ = some vv := ⟨((F300.at 1 rfl : Bk _ (w.heap.size + 2) 25 #[va, vm])).cell 1, ((F300.at 2 rfl : Bk _ (w.heap.size + 3) 32 #[vo, .slice none 0 0, vv])).cell 2⟩
              refine ru_t 0 [] ?_
              refine ru_t 1 [] ?_
              refine ru_t 2 [] ?_
              refine ru_t 3 [] ?_
              refine ru_t 4 [] ?_
              refine ru_t 5 [] ?_
              refine ru_t 6 [] ?_
              refine ru_t 11 [15, 12] ?_
              refine ru_t 12 [15] ?_
              refine ru_t 13 [15, 14] ?_
              (try simp only [Act.put, List.setIfInBounds_toArray, List.set_cons_zero, List.set_cons_succ])
              clear hS301
              refine ru_two 7 14 rfl rfl (by kernel_rfl) ?_ ?_
              · intro K hK
                go_simp
                refine (around_c sb v wide _ (F300.at 0 rfl) (by omega) (by omega) (by omega) (by omega)).mono ?_
                rintro e w305 ⟨vx, rfl, ⟨s1, s2, rfl, hs5, hs6_, hs7_⟩, hs304, hg303⟩
                have hg303s := hg303.size
                (try simp at hg303s)
                have F306 := F300.seed hg303 hs304
                clear F300
                refine ru_back hK (by exact ⟨((F306.at 1 rfl : Bk _ (w.heap.size + 2) 25 #[va, vm])).cell 1, ((F306.at 2 rfl : Bk _ (w.heap.size + 3) 32 #[vo, .slice none 0 0, vv])).cell 2⟩) (fun hHeld => ?_)
                clear hK K
                (try simp only [Act.put, List.setIfInBounds_toArray, List.set_cons_zero, List.set_cons_succ])
                refine ru_two 8 14 rfl rfl (by kernel_rfl) ?_ ?_
                · intro K hK
                  go_simp
                  refine ru_back hK (by exact ⟨((F306.at 1 rfl : Bk _ (w.heap.size + 2) 25 #[va, vm])).cell 1, ((F306.at 2 rfl : Bk _ (w.heap.size + 3) 32 #[vo, .slice none 0 0, vv])).cell 2⟩) (fun hHeld => ?_)
                  clear hK K
                  (try simp only [Act.put, List.setIfInBounds_toArray, List.set_cons_zero, List.set_cons_succ])
                  refine ru_two 9 14 rfl rfl (by kernel_rfl) ?_ ?_
                  · intro K hK
                    go_simp
                    have F307 := F306.new 76 #[.int .i64 i, .int .i64 j, .int .i64 s1, .int .i64 s2] (n := w305.heap.size) (by simp)
                    clear F306
                    refine ru_back hK (by exact ⟨((F307.at 2 rfl : Bk _ (w.heap.size + 2) 25 #[va, vm])).cell 1, ((F307.at 3 rfl : Bk _ (w.heap.size + 3) 32 #[vo, .slice none 0 0, vv])).cell 2⟩) (fun hHeld => ?_)
                    clear hK K
                    (try simp only [Act.put, List.setIfInBounds_toArray, List.set_cons_zero, List.set_cons_succ])
                    refine ru_two 10 14 rfl rfl (by kernel_rfl) ?_ ?_
                    · intro K hK
                      refine step_app _ okMv rfl _ _ rfl w.heap.size vm M [(⟨i, j, ⟨s1, s2⟩⟩ : Mv)] rfl (by exact (F307.at 7 rfl : Own mvEnc 76 4 w.heap.size _ vm M)) ⟨_, 0, none⟩ 1 1 rfl rfl (by decide) (news_of (F307.at 0 rfl : Bk _ w305.heap.size 76 #[.int .i64 i, .int .i64 j, .int .i64 s1, .int .i64 s2])) (M.length + 1) (by simp) (by omega) (by first | omega | (simp; omega)) _ rfl ?_
                      intro g308 cap309 w310 hp311
                      have hp311s := hp311.gb.size
                      (try simp at hp311s)
                      have F312 := (F307.front 7 rfl rfl).app hp311 (Nat.le_refl _)
                      (try dsimp only [List.eraseIdx_cons_succ, List.eraseIdx_cons_zero] at F312)
                      clear F307
                      refine ru_back hK (by exact ⟨((F312.at 3 rfl : Bk _ (w.heap.size + 2) 25 #[va, vm])).cell 1, ((F312.at 4 rfl : Bk _ (w.heap.size + 3) 32 #[vo, .slice none 0 0, vv])).cell 2⟩) (fun hHeld => ?_)
                      clear hK K
                      (try simp only [Act.put, List.setIfInBounds_toArray, List.set_cons_zero, List.set_cons_succ])
                      refine ru_p 16 ?_
                      (try simp only [Act.put, List.setIfInBounds_toArray, List.set_cons_zero, List.set_cons_succ])
                      refine ru_one 14 rfl (by kernel_rfl) (fun K hK => ?_)
                      go_simp
                      have F313 := F312.new 3 #[.int .i64 v] (n := w310.heap.size) (by simp)
                      clear F312
                      refine ru_back hK (by exact ⟨((F313.at 4 rfl : Bk _ (w.heap.size + 2) 25 #[va, vm])).cell 1, ((F313.at 5 rfl : Bk _ (w.heap.size + 3) 32 #[vo, .slice none 0 0, vv])).cell 2⟩) (fun hHeld => ?_)
                      clear hK K
                      (try simp only [Act.put, List.setIfInBounds_toArray, List.set_cons_zero, List.set_cons_succ])
                      refine ru_one 15 rfl (by kernel_rfl) (fun K hK => ?_)
                      refine step_app _ okInt rfl _ _ rfl w.heap.size vv V [v] rfl (by exact (F313.at 10 rfl : Own intEnc 3 1 w.heap.size _ vv V)) ⟨_, 0, none⟩ 1 1 rfl rfl (by decide) (news_of (F313.at 0 rfl : Bk _ w310.heap.size 3 #[.int .i64 v])) (V.length + 1) (by simp) (by omega) (by first | omega | (simp; omega)) _ rfl ?_
                      intro g314 cap315 w316 hp317
                      have hp317s := hp317.gb.size
                      (try simp at hp317s)
                      have F318 := (F313.front 10 rfl rfl).app hp317 (Nat.le_refl _)
                      (try dsimp only [List.eraseIdx_cons_succ, List.eraseIdx_cons_zero] at F318)
                      clear F313
                      refine ru_back hK (by exact ⟨((F318.at 5 rfl : Bk _ (w.heap.size + 2) 25 #[va, vm])).cell 1, ((F318.at 6 rfl : Bk _ (w.heap.size + 3) 32 #[vo, .slice none 0 0, vv])).cell 2⟩) (fun hHeld => ?_)
                      clear hK K
                      (try simp only [Act.put, List.setIfInBounds_toArray, List.set_cons_zero, List.set_cons_succ])
                      refine ru_one 17 rfl (by kernel_rfl) (fun K hK => ?_)
                      have kb_ : Bk _ (w.heap.size + 2) 25 #[va, vm] := (F318.front 5 rfl rfl).at 0 rfl
                      have kl_ := kb_.lt
                      have kc0_ : World.cell? _ ⟨(w.heap.size + 2), 0, none⟩ = some va := kb_.cell 0
                      have kf0_ : World.frozen? _ ⟨(w.heap.size + 2), 0, none⟩ = false := kb_.frozen 0
                      have kc1_ : World.cell? _ ⟨(w.heap.size + 2), 1, none⟩ = some vm := kb_.cell 1
                      have kf1_ : World.frozen? _ ⟨(w.heap.size + 2), 1, none⟩ = false := kb_.frozen 1
                      go_simp
                      clear kl_ kc0_ kf0_ kc1_ kf1_ kb_
                      have F319 := (F318.front 5 rfl rfl).set 1 (.slice (some ⟨g308, 0, none⟩) (M.length + 1) cap309)
                      (try dsimp only [List.eraseIdx_cons_succ, List.eraseIdx_cons_zero, List.setIfInBounds_toArray, List.set_cons_succ, List.set_cons_zero] at F319)
                      clear F318
                      refine ru_back_late hK (by kernel_rfl) ?_
                      clear hK K
                      (try simp only [Act.put, List.setIfInBounds_toArray, List.set_cons_zero, List.set_cons_succ])
                      refine ru_one 18 rfl (by kernel_rfl) (fun K hK => ?_)
                      go_simp
                      refine ru_back_late hK (by kernel_rfl) ?_
                      clear hK K
                      (try simp only [Act.put, List.setIfInBounds_toArray, List.set_cons_zero, List.set_cons_succ])
                      refine ru_one 19 rfl (by kernel_rfl) (fun K hK => ?_)
                      have kb_ : Bk _ (w.heap.size + 3) 32 #[vo, .slice none 0 0, vv] := (F319.front 6 rfl rfl).at 0 rfl
                      have kl_ := kb_.lt
                      have kc0_ : World.cell? _ ⟨(w.heap.size + 3), 0, none⟩ = some vo := kb_.cell 0
                      have kf0_ : World.frozen? _ ⟨(w.heap.size + 3), 0, none⟩ = false := kb_.frozen 0
                      have kc1_ : World.cell? _ ⟨(w.heap.size + 3), 1, none⟩ = some (.slice none 0 0) := kb_.cell 1
                      have kf1_ : World.frozen? _ ⟨(w.heap.size + 3), 1, none⟩ = false := kb_.frozen 1
                      have kc2_ : World.cell? _ ⟨(w.heap.size + 3), 2, none⟩ = some vv := kb_.cell 2
                      have kf2_ : World.frozen? _ ⟨(w.heap.size + 3), 2, none⟩ = false := kb_.frozen 2
                      go_simp
                      clear kl_ kc0_ kf0_ kc1_ kf1_ kc2_ kf2_ kb_
                      have F320 := (F319.front 6 rfl rfl).set 2 (.slice (some ⟨g314, 0, none⟩) (V.length + 1) cap315)
                      (try dsimp only [List.eraseIdx_cons_succ, List.eraseIdx_cons_zero, List.setIfInBounds_toArray, List.set_cons_succ, List.set_cons_zero] at F320)
                      clear F319
                      refine ru_back_late hK (by kernel_rfl) ?_
                      clear hK K
                      (try simp only [Act.put, List.setIfInBounds_toArray, List.set_cons_zero, List.set_cons_succ])
                      refine ru_done (by kernel_rfl) ?_
                      have F321 : Bus w sb [rseed sb, rbox (w.heap.size + 2) 25 #[va, .slice (some ⟨g308, 0, none⟩) (M.length + 1) cap309], rbox (w.heap.size + 3) 32 #[vo, .slice none 0 0, .slice (some ⟨g314, 0, none⟩) (V.length + 1) cap315], rown intEnc 3 1 w.heap.size (.slice (some ⟨gh, 0, none⟩) H.length pc271) (((H).set i (zi - v)).set j (zj + v)), rown intEnc 3 1 w.heap.size vo O, rown accEnc 79 6 w.heap.size va A, rown mvEnc 76 4 w.heap.size (.slice (some ⟨g308, 0, none⟩) (M.length + 1) cap309) (M ++ [(⟨i, j, ⟨s1, s2⟩⟩ : Mv)]), rown intEnc 3 1 w.heap.size (.slice none 0 0) [], rown intEnc 3 1 w.heap.size (.slice (some ⟨g314, 0, none⟩) (V.length + 1) cap315) (V ++ [v]), rbox w.heap.size 25 #[.slice none 0 0, .slice none 0 0], rbox (w.heap.size + 1) 32 #[.slice none 0 0, .slice none 0 0, .slice none 0 0], rbox (w.heap.size + 4) 9 nmC] _ := ((F320.drop 5 rfl).drop 3 rfl).pick [4, 1, 0, 5, 6, 7, 3, 8, 2, 9, 10, 11] (by decide) rfl
                      clear F320
                      go_wp2_with fail
                      (first | refine ⟨rfl, ?_, ?_⟩ | refine ⟨?_, ?_⟩)
                      · rw [HI269.out]; exact ⟨k - 1, M ++ [(⟨i, j, ⟨s1, s2⟩⟩ : Mv)], V ++ [v], _, _, _, _, rfl, rfl, rfl, rfl, rfl, rfl, rfl, rfl, rfl, rfl, (by show Value.int .i64 ((k : Int) - 1) = _; rw [show ((k : Int) - 1) = ((k - 1 : Nat) : Int) by omega]), (by simp; omega), (by simp), (by first | omega | (simp; omega)), HPM.out.step hsm.out (i := i) (k := j) (by have := hO.out; have := hHl.out; omega) (by have := hO.out; have := hHl.out; omega) (fun e => hji e.symm) (by rw [HZI.out]; exact hv1) ⟨hs5, hs6_, hs7_⟩, (by rw [HZI.out, HZJ.out]; exact F321)⟩
                      · simp [slot, intOf]; omega
                    · intro K hK
                      go_simp
                      have F322 := F307.new 3 #[.int .i64 v] (n := (w305.heap.size + 1)) (by simp)
                      clear F307
                      refine ru_back hK (by exact ⟨((F322.at 3 rfl : Bk _ (w.heap.size + 2) 25 #[va, vm])).cell 1, ((F322.at 4 rfl : Bk _ (w.heap.size + 3) 32 #[vo, .slice none 0 0, vv])).cell 2⟩) (fun hHeld => ?_)
                      clear hK K
                      (try simp only [Act.put, List.setIfInBounds_toArray, List.set_cons_zero, List.set_cons_succ])
                      refine ru_one 10 rfl (by kernel_rfl) (fun K hK => ?_)
                      refine step_app _ okMv rfl _ _ rfl w.heap.size vm M [(⟨i, j, ⟨s1, s2⟩⟩ : Mv)] rfl (by exact (F322.at 8 rfl : Own mvEnc 76 4 w.heap.size _ vm M)) ⟨_, 0, none⟩ 1 1 rfl rfl (by decide) (news_of (F322.at 1 rfl : Bk _ w305.heap.size 76 #[.int .i64 i, .int .i64 j, .int .i64 s1, .int .i64 s2])) (M.length + 1) (by simp) (by omega) (by first | omega | (simp; omega)) _ rfl ?_
                      intro g323 cap324 w325 hp326
                      have hp326s := hp326.gb.size
                      (try simp at hp326s)
                      have F327 := (F322.front 8 rfl rfl).app hp326 (Nat.le_refl _)
                      (try dsimp only [List.eraseIdx_cons_succ, List.eraseIdx_cons_zero] at F327)
                      clear F322
                      refine ru_back hK (by exact ⟨((F327.at 4 rfl : Bk _ (w.heap.size + 2) 25 #[va, vm])).cell 1, ((F327.at 5 rfl : Bk _ (w.heap.size + 3) 32 #[vo, .slice none 0 0, vv])).cell 2⟩) (fun hHeld => ?_)
                      clear hK K
                      (try simp only [Act.put, List.setIfInBounds_toArray, List.set_cons_zero, List.set_cons_succ])
                      refine ru_p 16 ?_
                      (try simp only [Act.put, List.setIfInBounds_toArray, List.set_cons_zero, List.set_cons_succ])
                      refine ru_one 15 rfl (by kernel_rfl) (fun K hK => ?_)
                      refine step_app _ okInt rfl _ _ rfl w.heap.size vv V [v] rfl (by exact (F327.at 10 rfl : Own intEnc 3 1 w.heap.size _ vv V)) ⟨_, 0, none⟩ 1 1 rfl rfl (by decide) (news_of (F327.at 1 rfl : Bk _ (w305.heap.size + 1) 3 #[.int .i64 v])) (V.length + 1) (by simp) (by omega) (by first | omega | (simp; omega)) _ rfl ?_
                      intro g328 cap329 w330 hp331
                      have hp331s := hp331.gb.size
                      (try simp at hp331s)
                      have F332 := (F327.front 10 rfl rfl).app hp331 (Nat.le_refl _)
                      (try dsimp only [List.eraseIdx_cons_succ, List.eraseIdx_cons_zero] at F332)
                      clear F327
                      refine ru_back hK (by exact ⟨((F332.at 5 rfl : Bk _ (w.heap.size + 2) 25 #[va, vm])).cell 1, ((F332.at 6 rfl : Bk _ (w.heap.size + 3) 32 #[vo, .slice none 0 0, vv])).cell 2⟩) (fun hHeld => ?_)
                      clear hK K
                      (try simp only [Act.put, List.setIfInBounds_toArray, List.set_cons_zero, List.set_cons_succ])
                      refine ru_one 17 rfl (by kernel_rfl) (fun K hK => ?_)
                      have kb_ : Bk _ (w.heap.size + 2) 25 #[va, vm] := (F332.front 5 rfl rfl).at 0 rfl
                      have kl_ := kb_.lt
                      have kc0_ : World.cell? _ ⟨(w.heap.size + 2), 0, none⟩ = some va := kb_.cell 0
                      have kf0_ : World.frozen? _ ⟨(w.heap.size + 2), 0, none⟩ = false := kb_.frozen 0
                      have kc1_ : World.cell? _ ⟨(w.heap.size + 2), 1, none⟩ = some vm := kb_.cell 1
                      have kf1_ : World.frozen? _ ⟨(w.heap.size + 2), 1, none⟩ = false := kb_.frozen 1
                      go_simp
                      clear kl_ kc0_ kf0_ kc1_ kf1_ kb_
                      have F333 := (F332.front 5 rfl rfl).set 1 (.slice (some ⟨g323, 0, none⟩) (M.length + 1) cap324)
                      (try dsimp only [List.eraseIdx_cons_succ, List.eraseIdx_cons_zero, List.setIfInBounds_toArray, List.set_cons_succ, List.set_cons_zero] at F333)
                      clear F332
                      refine ru_back_late hK (by kernel_rfl) ?_
                      clear hK K
                      (try simp only [Act.put, List.setIfInBounds_toArray, List.set_cons_zero, List.set_cons_succ])
                      refine ru_one 18 rfl (by kernel_rfl) (fun K hK => ?_)
                      go_simp
                      refine ru_back_late hK (by kernel_rfl) ?_
                      clear hK K
                      (try simp only [Act.put, List.setIfInBounds_toArray, List.set_cons_zero, List.set_cons_succ])
                      refine ru_one 19 rfl (by kernel_rfl) (fun K hK => ?_)
                      have kb_ : Bk _ (w.heap.size + 3) 32 #[vo, .slice none 0 0, vv] := (F333.front 6 rfl rfl).at 0 rfl
                      have kl_ := kb_.lt
                      have kc0_ : World.cell? _ ⟨(w.heap.size + 3), 0, none⟩ = some vo := kb_.cell 0
                      have kf0_ : World.frozen? _ ⟨(w.heap.size + 3), 0, none⟩ = false := kb_.frozen 0
                      have kc1_ : World.cell? _ ⟨(w.heap.size + 3), 1, none⟩ = some (.slice none 0 0) := kb_.cell 1
                      have kf1_ : World.frozen? _ ⟨(w.heap.size + 3), 1, none⟩ = false := kb_.frozen 1
                      have kc2_ : World.cell? _ ⟨(w.heap.size + 3), 2, none⟩ = some vv := kb_.cell 2
                      have kf2_ : World.frozen? _ ⟨(w.heap.size + 3), 2, none⟩ = false := kb_.frozen 2
                      go_simp
                      clear kl_ kc0_ kf0_ kc1_ kf1_ kc2_ kf2_ kb_
                      have F334 := (F333.front 6 rfl rfl).set 2 (.slice (some ⟨g328, 0, none⟩) (V.length + 1) cap329)
                      (try dsimp only [List.eraseIdx_cons_succ, List.eraseIdx_cons_zero, List.setIfInBounds_toArray, List.set_cons_succ, List.set_cons_zero] at F334)
                      clear F333
                      refine ru_back_late hK (by kernel_rfl) ?_
                      clear hK K
                      (try simp only [Act.put, List.setIfInBounds_toArray, List.set_cons_zero, List.set_cons_succ])
                      refine ru_done (by kernel_rfl) ?_
                      have F335 : Bus w sb [rseed sb, rbox (w.heap.size + 2) 25 #[va, .slice (some ⟨g323, 0, none⟩) (M.length + 1) cap324], rbox (w.heap.size + 3) 32 #[vo, .slice none 0 0, .slice (some ⟨g328, 0, none⟩) (V.length + 1) cap329], rown intEnc 3 1 w.heap.size (.slice (some ⟨gh, 0, none⟩) H.length pc271) (((H).set i (zi - v)).set j (zj + v)), rown intEnc 3 1 w.heap.size vo O, rown accEnc 79 6 w.heap.size va A, rown mvEnc 76 4 w.heap.size (.slice (some ⟨g323, 0, none⟩) (M.length + 1) cap324) (M ++ [(⟨i, j, ⟨s1, s2⟩⟩ : Mv)]), rown intEnc 3 1 w.heap.size (.slice none 0 0) [], rown intEnc 3 1 w.heap.size (.slice (some ⟨g328, 0, none⟩) (V.length + 1) cap329) (V ++ [v]), rbox w.heap.size 25 #[.slice none 0 0, .slice none 0 0], rbox (w.heap.size + 1) 32 #[.slice none 0 0, .slice none 0 0, .slice none 0 0], rbox (w.heap.size + 4) 9 nmC] _ := ((F334.drop 5 rfl).drop 4 rfl).pick [4, 1, 0, 5, 6, 7, 3, 8, 2, 9, 10, 11] (by decide) rfl
                      clear F334
                      go_wp2_with fail
                      (first | refine ⟨rfl, ?_, ?_⟩ | refine ⟨?_, ?_⟩)
                      · rw [HI269.out]; exact ⟨k - 1, M ++ [(⟨i, j, ⟨s1, s2⟩⟩ : Mv)], V ++ [v], _, _, _, _, rfl, rfl, rfl, rfl, rfl, rfl, rfl, rfl, rfl, rfl, (by show Value.int .i64 ((k : Int) - 1) = _; rw [show ((k : Int) - 1) = ((k - 1 : Nat) : Int) by omega]), (by simp; omega), (by simp), (by first | omega | (simp; omega)), HPM.out.step hsm.out (i := i) (k := j) (by have := hO.out; have := hHl.out; omega) (by have := hO.out; have := hHl.out; omega) (fun e => hji e.symm) (by rw [HZI.out]; exact hv1) ⟨hs5, hs6_, hs7_⟩, (by rw [HZI.out, HZJ.out]; exact F335)⟩
                      · simp [slot, intOf]; omega
                  · intro K hK
                    go_simp
                    have F336 := F306.new 3 #[.int .i64 v] (n := w305.heap.size) (by simp)
                    clear F306
                    refine ru_back hK (by exact ⟨((F336.at 2 rfl : Bk _ (w.heap.size + 2) 25 #[va, vm])).cell 1, ((F336.at 3 rfl : Bk _ (w.heap.size + 3) 32 #[vo, .slice none 0 0, vv])).cell 2⟩) (fun hHeld => ?_)
                    clear hK K
                    (try simp only [Act.put, List.setIfInBounds_toArray, List.set_cons_zero, List.set_cons_succ])
                    refine ru_one 9 rfl (by kernel_rfl) (fun K hK => ?_)
                    go_simp
                    have F337 := F336.new 76 #[.int .i64 i, .int .i64 j, .int .i64 s1, .int .i64 s2] (n := (w305.heap.size + 1)) (by simp)
                    clear F336
                    refine ru_back hK (by exact ⟨((F337.at 3 rfl : Bk _ (w.heap.size + 2) 25 #[va, vm])).cell 1, ((F337.at 4 rfl : Bk _ (w.heap.size + 3) 32 #[vo, .slice none 0 0, vv])).cell 2⟩) (fun hHeld => ?_)
                    clear hK K
                    (try simp only [Act.put, List.setIfInBounds_toArray, List.set_cons_zero, List.set_cons_succ])
                    refine ru_one 10 rfl (by kernel_rfl) (fun K hK => ?_)
                    refine step_app _ okMv rfl _ _ rfl w.heap.size vm M [(⟨i, j, ⟨s1, s2⟩⟩ : Mv)] rfl (by exact (F337.at 8 rfl : Own mvEnc 76 4 w.heap.size _ vm M)) ⟨_, 0, none⟩ 1 1 rfl rfl (by decide) (news_of (F337.at 0 rfl : Bk _ (w305.heap.size + 1) 76 #[.int .i64 i, .int .i64 j, .int .i64 s1, .int .i64 s2])) (M.length + 1) (by simp) (by omega) (by first | omega | (simp; omega)) _ rfl ?_
                    intro g338 cap339 w340 hp341
                    have hp341s := hp341.gb.size
                    (try simp at hp341s)
                    have F342 := (F337.front 8 rfl rfl).app hp341 (Nat.le_refl _)
                    (try dsimp only [List.eraseIdx_cons_succ, List.eraseIdx_cons_zero] at F342)
                    clear F337
                    refine ru_back hK (by exact ⟨((F342.at 4 rfl : Bk _ (w.heap.size + 2) 25 #[va, vm])).cell 1, ((F342.at 5 rfl : Bk _ (w.heap.size + 3) 32 #[vo, .slice none 0 0, vv])).cell 2⟩) (fun hHeld => ?_)
                    clear hK K
                    (try simp only [Act.put, List.setIfInBounds_toArray, List.set_cons_zero, List.set_cons_succ])
                    refine ru_p 16 ?_
                    (try simp only [Act.put, List.setIfInBounds_toArray, List.set_cons_zero, List.set_cons_succ])
                    refine ru_one 15 rfl (by kernel_rfl) (fun K hK => ?_)
                    refine step_app _ okInt rfl _ _ rfl w.heap.size vv V [v] rfl (by exact (F342.at 10 rfl : Own intEnc 3 1 w.heap.size _ vv V)) ⟨_, 0, none⟩ 1 1 rfl rfl (by decide) (news_of (F342.at 2 rfl : Bk _ w305.heap.size 3 #[.int .i64 v])) (V.length + 1) (by simp) (by omega) (by first | omega | (simp; omega)) _ rfl ?_
                    intro g343 cap344 w345 hp346
                    have hp346s := hp346.gb.size
                    (try simp at hp346s)
                    have F347 := (F342.front 10 rfl rfl).app hp346 (Nat.le_refl _)
                    (try dsimp only [List.eraseIdx_cons_succ, List.eraseIdx_cons_zero] at F347)
                    clear F342
                    refine ru_back hK (by exact ⟨((F347.at 5 rfl : Bk _ (w.heap.size + 2) 25 #[va, vm])).cell 1, ((F347.at 6 rfl : Bk _ (w.heap.size + 3) 32 #[vo, .slice none 0 0, vv])).cell 2⟩) (fun hHeld => ?_)
                    clear hK K
                    (try simp only [Act.put, List.setIfInBounds_toArray, List.set_cons_zero, List.set_cons_succ])
                    refine ru_one 17 rfl (by kernel_rfl) (fun K hK => ?_)
                    have kb_ : Bk _ (w.heap.size + 2) 25 #[va, vm] := (F347.front 5 rfl rfl).at 0 rfl
                    have kl_ := kb_.lt
                    have kc0_ : World.cell? _ ⟨(w.heap.size + 2), 0, none⟩ = some va := kb_.cell 0
                    have kf0_ : World.frozen? _ ⟨(w.heap.size + 2), 0, none⟩ = false := kb_.frozen 0
                    have kc1_ : World.cell? _ ⟨(w.heap.size + 2), 1, none⟩ = some vm := kb_.cell 1
                    have kf1_ : World.frozen? _ ⟨(w.heap.size + 2), 1, none⟩ = false := kb_.frozen 1
                    go_simp
                    clear kl_ kc0_ kf0_ kc1_ kf1_ kb_
                    have F348 := (F347.front 5 rfl rfl).set 1 (.slice (some ⟨g338, 0, none⟩) (M.length + 1) cap339)
                    (try dsimp only [List.eraseIdx_cons_succ, List.eraseIdx_cons_zero, List.setIfInBounds_toArray, List.set_cons_succ, List.set_cons_zero] at F348)
                    clear F347
                    refine ru_back_late hK (by kernel_rfl) ?_
                    clear hK K
                    (try simp only [Act.put, List.setIfInBounds_toArray, List.set_cons_zero, List.set_cons_succ])
                    refine ru_one 18 rfl (by kernel_rfl) (fun K hK => ?_)
                    go_simp
                    refine ru_back_late hK (by kernel_rfl) ?_
                    clear hK K
                    (try simp only [Act.put, List.setIfInBounds_toArray, List.set_cons_zero, List.set_cons_succ])
                    refine ru_one 19 rfl (by kernel_rfl) (fun K hK => ?_)
                    have kb_ : Bk _ (w.heap.size + 3) 32 #[vo, .slice none 0 0, vv] := (F348.front 6 rfl rfl).at 0 rfl
                    have kl_ := kb_.lt
                    have kc0_ : World.cell? _ ⟨(w.heap.size + 3), 0, none⟩ = some vo := kb_.cell 0
                    have kf0_ : World.frozen? _ ⟨(w.heap.size + 3), 0, none⟩ = false := kb_.frozen 0
                    have kc1_ : World.cell? _ ⟨(w.heap.size + 3), 1, none⟩ = some (.slice none 0 0) := kb_.cell 1
                    have kf1_ : World.frozen? _ ⟨(w.heap.size + 3), 1, none⟩ = false := kb_.frozen 1
                    have kc2_ : World.cell? _ ⟨(w.heap.size + 3), 2, none⟩ = some vv := kb_.cell 2
                    have kf2_ : World.frozen? _ ⟨(w.heap.size + 3), 2, none⟩ = false := kb_.frozen 2
                    go_simp
                    clear kl_ kc0_ kf0_ kc1_ kf1_ kc2_ kf2_ kb_
                    have F349 := (F348.front 6 rfl rfl).set 2 (.slice (some ⟨g343, 0, none⟩) (V.length + 1) cap344)
                    (try dsimp only [List.eraseIdx_cons_succ, List.eraseIdx_cons_zero, List.setIfInBounds_toArray, List.set_cons_succ, List.set_cons_zero] at F349)
                    clear F348
                    refine ru_back_late hK (by kernel_rfl) ?_
                    clear hK K
                    (try simp only [Act.put, List.setIfInBounds_toArray, List.set_cons_zero, List.set_cons_succ])
                    refine ru_done (by kernel_rfl) ?_
                    have F350 : Bus w sb [rseed sb, rbox (w.heap.size + 2) 25 #[va, .slice (some ⟨g338, 0, none⟩) (M.length + 1) cap339], rbox (w.heap.size + 3) 32 #[vo, .slice none 0 0, .slice (some ⟨g343, 0, none⟩) (V.length + 1) cap344], rown intEnc 3 1 w.heap.size (.slice (some ⟨gh, 0, none⟩) H.length pc271) (((H).set i (zi - v)).set j (zj + v)), rown intEnc 3 1 w.heap.size vo O, rown accEnc 79 6 w.heap.size va A, rown mvEnc 76 4 w.heap.size (.slice (some ⟨g338, 0, none⟩) (M.length + 1) cap339) (M ++ [(⟨i, j, ⟨s1, s2⟩⟩ : Mv)]), rown intEnc 3 1 w.heap.size (.slice none 0 0) [], rown intEnc 3 1 w.heap.size (.slice (some ⟨g343, 0, none⟩) (V.length + 1) cap344) (V ++ [v]), rbox w.heap.size 25 #[.slice none 0 0, .slice none 0 0], rbox (w.heap.size + 1) 32 #[.slice none 0 0, .slice none 0 0, .slice none 0 0], rbox (w.heap.size + 4) 9 nmC] _ := ((F349.drop 4 rfl).drop 4 rfl).pick [4, 1, 0, 5, 6, 7, 3, 8, 2, 9, 10, 11] (by decide) rfl
                    clear F349
                    go_wp2_with fail
                    (first | refine ⟨rfl, ?_, ?_⟩ | refine ⟨?_, ?_⟩)
                    · rw [HI269.out]; exact ⟨k - 1, M ++ [(⟨i, j, ⟨s1, s2⟩⟩ : Mv)], V ++ [v], _, _, _, _, rfl, rfl, rfl, rfl, rfl, rfl, rfl, rfl, rfl, rfl, (by show Value.int .i64 ((k : Int) - 1) = _; rw [show ((k : Int) - 1) = ((k - 1 : Nat) : Int) by omega]), (by simp; omega), (by simp), (by first | omega | (simp; omega)), HPM.out.step hsm.out (i := i) (k := j) (by have := hO.out; have := hHl.out; omega) (by have := hO.out; have := hHl.out; omega) (fun e => hji e.symm) (by rw [HZI.out]; exact hv1) ⟨hs5, hs6_, hs7_⟩, (by rw [HZI.out, HZJ.out]; exact F350)⟩
                    · simp [slot, intOf]; omega
                · intro K hK
                  go_simp
                  have F351 := F306.new 3 #[.int .i64 v] (n := w305.heap.size) (by simp)
                  clear F306
                  refine ru_back hK (by exact ⟨((F351.at 2 rfl : Bk _ (w.heap.size + 2) 25 #[va, vm])).cell 1, ((F351.at 3 rfl : Bk _ (w.heap.size + 3) 32 #[vo, .slice none 0 0, vv])).cell 2⟩) (fun hHeld => ?_)
                  clear hK K
                  (try simp only [Act.put, List.setIfInBounds_toArray, List.set_cons_zero, List.set_cons_succ])
                  refine ru_one 8 rfl (by kernel_rfl) (fun K hK => ?_)
                  go_simp
                  refine ru_back hK (by exact ⟨((F351.at 2 rfl : Bk _ (w.heap.size + 2) 25 #[va, vm])).cell 1, ((F351.at 3 rfl : Bk _ (w.heap.size + 3) 32 #[vo, .slice none 0 0, vv])).cell 2⟩) (fun hHeld => ?_)
                  clear hK K
                  (try simp only [Act.put, List.setIfInBounds_toArray, List.set_cons_zero, List.set_cons_succ])
                  refine ru_one 9 rfl (by kernel_rfl) (fun K hK => ?_)
                  go_simp
                  have F352 := F351.new 76 #[.int .i64 i, .int .i64 j, .int .i64 s1, .int .i64 s2] (n := (w305.heap.size + 1)) (by simp)
                  clear F351
                  refine ru_back hK (by exact ⟨((F352.at 3 rfl : Bk _ (w.heap.size + 2) 25 #[va, vm])).cell 1, ((F352.at 4 rfl : Bk _ (w.heap.size + 3) 32 #[vo, .slice none 0 0, vv])).cell 2⟩) (fun hHeld => ?_)
                  clear hK K
                  (try simp only [Act.put, List.setIfInBounds_toArray, List.set_cons_zero, List.set_cons_succ])
                  refine ru_one 10 rfl (by kernel_rfl) (fun K hK => ?_)
                  refine step_app _ okMv rfl _ _ rfl w.heap.size vm M [(⟨i, j, ⟨s1, s2⟩⟩ : Mv)] rfl (by exact (F352.at 8 rfl : Own mvEnc 76 4 w.heap.size _ vm M)) ⟨_, 0, none⟩ 1 1 rfl rfl (by decide) (news_of (F352.at 0 rfl : Bk _ (w305.heap.size + 1) 76 #[.int .i64 i, .int .i64 j, .int .i64 s1, .int .i64 s2])) (M.length + 1) (by simp) (by omega) (by first | omega | (simp; omega)) _ rfl ?_
                  intro g353 cap354 w355 hp356
                  have hp356s := hp356.gb.size
                  (try simp at hp356s)
                  have F357 := (F352.front 8 rfl rfl).app hp356 (Nat.le_refl _)
                  (try dsimp only [List.eraseIdx_cons_succ, List.eraseIdx_cons_zero] at F357)
                  clear F352
                  refine ru_back hK (by exact ⟨((F357.at 4 rfl : Bk _ (w.heap.size + 2) 25 #[va, vm])).cell 1, ((F357.at 5 rfl : Bk _ (w.heap.size + 3) 32 #[vo, .slice none 0 0, vv])).cell 2⟩) (fun hHeld => ?_)
                  clear hK K
                  (try simp only [Act.put, List.setIfInBounds_toArray, List.set_cons_zero, List.set_cons_succ])
                  refine ru_p 16 ?_
                  (try simp only [Act.put, List.setIfInBounds_toArray, List.set_cons_zero, List.set_cons_succ])
                  refine ru_one 15 rfl (by kernel_rfl) (fun K hK => ?_)
                  refine step_app _ okInt rfl _ _ rfl w.heap.size vv V [v] rfl (by exact (F357.at 10 rfl : Own intEnc 3 1 w.heap.size _ vv V)) ⟨_, 0, none⟩ 1 1 rfl rfl (by decide) (news_of (F357.at 2 rfl : Bk _ w305.heap.size 3 #[.int .i64 v])) (V.length + 1) (by simp) (by omega) (by first | omega | (simp; omega)) _ rfl ?_
                  intro g358 cap359 w360 hp361
                  have hp361s := hp361.gb.size
                  (try simp at hp361s)
                  have F362 := (F357.front 10 rfl rfl).app hp361 (Nat.le_refl _)
                  (try dsimp only [List.eraseIdx_cons_succ, List.eraseIdx_cons_zero] at F362)
                  clear F357
                  refine ru_back hK (by exact ⟨((F362.at 5 rfl : Bk _ (w.heap.size + 2) 25 #[va, vm])).cell 1, ((F362.at 6 rfl : Bk _ (w.heap.size + 3) 32 #[vo, .slice none 0 0, vv])).cell 2⟩) (fun hHeld => ?_)
                  clear hK K
                  (try simp only [Act.put, List.setIfInBounds_toArray, List.set_cons_zero, List.set_cons_succ])
                  refine ru_one 17 rfl (by kernel_rfl) (fun K hK => ?_)
                  have kb_ : Bk _ (w.heap.size + 2) 25 #[va, vm] := (F362.front 5 rfl rfl).at 0 rfl
                  have kl_ := kb_.lt
                  have kc0_ : World.cell? _ ⟨(w.heap.size + 2), 0, none⟩ = some va := kb_.cell 0
                  have kf0_ : World.frozen? _ ⟨(w.heap.size + 2), 0, none⟩ = false := kb_.frozen 0
                  have kc1_ : World.cell? _ ⟨(w.heap.size + 2), 1, none⟩ = some vm := kb_.cell 1
                  have kf1_ : World.frozen? _ ⟨(w.heap.size + 2), 1, none⟩ = false := kb_.frozen 1
                  go_simp
                  clear kl_ kc0_ kf0_ kc1_ kf1_ kb_
                  have F363 := (F362.front 5 rfl rfl).set 1 (.slice (some ⟨g353, 0, none⟩) (M.length + 1) cap354)
                  (try dsimp only [List.eraseIdx_cons_succ, List.eraseIdx_cons_zero, List.setIfInBounds_toArray, List.set_cons_succ, List.set_cons_zero] at F363)
                  clear F362
                  refine ru_back_late hK (by kernel_rfl) ?_
                  clear hK K
                  (try simp only [Act.put, List.setIfInBounds_toArray, List.set_cons_zero, List.set_cons_succ])
                  refine ru_one 18 rfl (by kernel_rfl) (fun K hK => ?_)
                  go_simp
                  refine ru_back_late hK (by kernel_rfl) ?_
                  clear hK K
                  (try simp only [Act.put, List.setIfInBounds_toArray, List.set_cons_zero, List.set_cons_succ])
                  refine ru_one 19 rfl (by kernel_rfl) (fun K hK => ?_)
                  have kb_ : Bk _ (w.heap.size + 3) 32 #[vo, .slice none 0 0, vv] := (F363.front 6 rfl rfl).at 0 rfl
                  have kl_ := kb_.lt
                  have kc0_ : World.cell? _ ⟨(w.heap.size + 3), 0, none⟩ = some vo := kb_.cell 0
                  have kf0_ : World.frozen? _ ⟨(w.heap.size + 3), 0, none⟩ = false := kb_.frozen 0
                  have kc1_ : World.cell? _ ⟨(w.heap.size + 3), 1, none⟩ = some (.slice none 0 0) := kb_.cell 1
                  have kf1_ : World.frozen? _ ⟨(w.heap.size + 3), 1, none⟩ = false := kb_.frozen 1
                  have kc2_ : World.cell? _ ⟨(w.heap.size + 3), 2, none⟩ = some vv := kb_.cell 2
                  have kf2_ : World.frozen? _ ⟨(w.heap.size + 3), 2, none⟩ = false := kb_.frozen 2
                  go_simp
                  clear kl_ kc0_ kf0_ kc1_ kf1_ kc2_ kf2_ kb_
                  have F364 := (F363.front 6 rfl rfl).set 2 (.slice (some ⟨g358, 0, none⟩) (V.length + 1) cap359)
                  (try dsimp only [List.eraseIdx_cons_succ, List.eraseIdx_cons_zero, List.setIfInBounds_toArray, List.set_cons_succ, List.set_cons_zero] at F364)
                  clear F363
                  refine ru_back_late hK (by kernel_rfl) ?_
                  clear hK K
                  (try simp only [Act.put, List.setIfInBounds_toArray, List.set_cons_zero, List.set_cons_succ])
                  refine ru_done (by kernel_rfl) ?_
                  have F365 : Bus w sb [rseed sb, rbox (w.heap.size + 2) 25 #[va, .slice (some ⟨g353, 0, none⟩) (M.length + 1) cap354], rbox (w.heap.size + 3) 32 #[vo, .slice none 0 0, .slice (some ⟨g358, 0, none⟩) (V.length + 1) cap359], rown intEnc 3 1 w.heap.size (.slice (some ⟨gh, 0, none⟩) H.length pc271) (((H).set i (zi - v)).set j (zj + v)), rown intEnc 3 1 w.heap.size vo O, rown accEnc 79 6 w.heap.size va A, rown mvEnc 76 4 w.heap.size (.slice (some ⟨g353, 0, none⟩) (M.length + 1) cap354) (M ++ [(⟨i, j, ⟨s1, s2⟩⟩ : Mv)]), rown intEnc 3 1 w.heap.size (.slice none 0 0) [], rown intEnc 3 1 w.heap.size (.slice (some ⟨g358, 0, none⟩) (V.length + 1) cap359) (V ++ [v]), rbox w.heap.size 25 #[.slice none 0 0, .slice none 0 0], rbox (w.heap.size + 1) 32 #[.slice none 0 0, .slice none 0 0, .slice none 0 0], rbox (w.heap.size + 4) 9 nmC] _ := ((F364.drop 4 rfl).drop 4 rfl).pick [4, 1, 0, 5, 6, 7, 3, 8, 2, 9, 10, 11] (by decide) rfl
                  clear F364
                  go_wp2_with fail
                  (first | refine ⟨rfl, ?_, ?_⟩ | refine ⟨?_, ?_⟩)
                  · rw [HI269.out]; exact ⟨k - 1, M ++ [(⟨i, j, ⟨s1, s2⟩⟩ : Mv)], V ++ [v], _, _, _, _, rfl, rfl, rfl, rfl, rfl, rfl, rfl, rfl, rfl, rfl, (by show Value.int .i64 ((k : Int) - 1) = _; rw [show ((k : Int) - 1) = ((k - 1 : Nat) : Int) by omega]), (by simp; omega), (by simp), (by first | omega | (simp; omega)), HPM.out.step hsm.out (i := i) (k := j) (by have := hO.out; have := hHl.out; omega) (by have := hO.out; have := hHl.out; omega) (fun e => hji e.symm) (by rw [HZI.out]; exact hv1) ⟨hs5, hs6_, hs7_⟩, (by rw [HZI.out, HZJ.out]; exact F365)⟩
                  · simp [slot, intOf]; omega
              · intro K hK
                go_simp
                have F366 := F300.new 3 #[.int .i64 v] (n := w289.heap.size) (by simp)
                clear F300
                refine ru_back hK (by exact ⟨((F366.at 2 rfl : Bk _ (w.heap.size + 2) 25 #[va, vm])).cell 1, ((F366.at 3 rfl : Bk _ (w.heap.size + 3) 32 #[vo, .slice none 0 0, vv])).cell 2⟩) (fun hHeld => ?_)
                clear hK K
                (try simp only [Act.put, List.setIfInBounds_toArray, List.set_cons_zero, List.set_cons_succ])
                refine ru_one 7 rfl (by kernel_rfl) (fun K hK => ?_)
                go_simp
                refine (around_c sb v wide _ ((F366.front 1 rfl rfl).at 0 rfl) (by omega) (by omega) (by omega) (by omega)).mono ?_
                rintro e w369 ⟨vx, rfl, ⟨s1, s2, rfl, hs5, hs6_, hs7_⟩, hs368, hg367⟩
                have hg367s := hg367.size
                (try simp at hg367s)
                have F370 := (F366.front 1 rfl rfl).seed hg367 hs368
                (try dsimp only [List.eraseIdx_cons_succ, List.eraseIdx_cons_zero] at F370)
                clear F366
                refine ru_back hK (by exact ⟨((F370.at 2 rfl : Bk _ (w.heap.size + 2) 25 #[va, vm])).cell 1, ((F370.at 3 rfl : Bk _ (w.heap.size + 3) 32 #[vo, .slice none 0 0, vv])).cell 2⟩) (fun hHeld => ?_)
                clear hK K
                (try simp only [Act.put, List.setIfInBounds_toArray, List.set_cons_zero, List.set_cons_succ])
                refine ru_one 8 rfl (by kernel_rfl) (fun K hK => ?_)
                go_simp
                refine ru_back hK (by exact ⟨((F370.at 2 rfl : Bk _ (w.heap.size + 2) 25 #[va, vm])).cell 1, ((F370.at 3 rfl : Bk _ (w.heap.size + 3) 32 #[vo, .slice none 0 0, vv])).cell 2⟩) (fun hHeld => ?_)
                clear hK K
                (try simp only [Act.put, List.setIfInBounds_toArray, List.set_cons_zero, List.set_cons_succ])
                refine ru_one 9 rfl (by kernel_rfl) (fun K hK => ?_)
                go_simp
                have F371 := F370.new 76 #[.int .i64 i, .int .i64 j, .int .i64 s1, .int .i64 s2] (n := w369.heap.size) (by simp)
                clear F370
                refine ru_back hK (by exact ⟨((F371.at 3 rfl : Bk _ (w.heap.size + 2) 25 #[va, vm])).cell 1, ((F371.at 4 rfl : Bk _ (w.heap.size + 3) 32 #[vo, .slice none 0 0, vv])).cell 2⟩) (fun hHeld => ?_)
                clear hK K
                (try simp only [Act.put, List.setIfInBounds_toArray, List.set_cons_zero, List.set_cons_succ])
                refine ru_one 10 rfl (by kernel_rfl) (fun K hK => ?_)
                refine step_app _ okMv rfl _ _ rfl w.heap.size vm M [(⟨i, j, ⟨s1, s2⟩⟩ : Mv)] rfl (by exact (F371.at 8 rfl : Own mvEnc 76 4 w.heap.size _ vm M)) ⟨_, 0, none⟩ 1 1 rfl rfl (by decide) (news_of (F371.at 0 rfl : Bk _ w369.heap.size 76 #[.int .i64 i, .int .i64 j, .int .i64 s1, .int .i64 s2])) (M.length + 1) (by simp) (by omega) (by first | omega | (simp; omega)) _ rfl ?_
                intro g372 cap373 w374 hp375
                have hp375s := hp375.gb.size
                (try simp at hp375s)
                have F376 := (F371.front 8 rfl rfl).app hp375 (Nat.le_refl _)
                (try dsimp only [List.eraseIdx_cons_succ, List.eraseIdx_cons_zero] at F376)
                clear F371
                refine ru_back hK (by exact ⟨((F376.at 4 rfl : Bk _ (w.heap.size + 2) 25 #[va, vm])).cell 1, ((F376.at 5 rfl : Bk _ (w.heap.size + 3) 32 #[vo, .slice none 0 0, vv])).cell 2⟩) (fun hHeld => ?_)
                clear hK K
                (try simp only [Act.put, List.setIfInBounds_toArray, List.set_cons_zero, List.set_cons_succ])
                refine ru_p 16 ?_
                (try simp only [Act.put, List.setIfInBounds_toArray, List.set_cons_zero, List.set_cons_succ])
                refine ru_one 15 rfl (by kernel_rfl) (fun K hK => ?_)
                refine step_app _ okInt rfl _ _ rfl w.heap.size vv V [v] rfl (by exact (F376.at 10 rfl : Own intEnc 3 1 w.heap.size _ vv V)) ⟨_, 0, none⟩ 1 1 rfl rfl (by decide) (news_of (F376.at 3 rfl : Bk _ w289.heap.size 3 #[.int .i64 v])) (V.length + 1) (by simp) (by omega) (by first | omega | (simp; omega)) _ rfl ?_
                intro g377 cap378 w379 hp380
                have hp380s := hp380.gb.size
                (try simp at hp380s)
                have F381 := (F376.front 10 rfl rfl).app hp380 (Nat.le_refl _)
                (try dsimp only [List.eraseIdx_cons_succ, List.eraseIdx_cons_zero] at F381)
                clear F376
                refine ru_back hK (by exact ⟨((F381.at 5 rfl : Bk _ (w.heap.size + 2) 25 #[va, vm])).cell 1, ((F381.at 6 rfl : Bk _ (w.heap.size + 3) 32 #[vo, .slice none 0 0, vv])).cell 2⟩) (fun hHeld => ?_)
                clear hK K
                (try simp only [Act.put, List.setIfInBounds_toArray, List.set_cons_zero, List.set_cons_succ])
                refine ru_one 17 rfl (by kernel_rfl) (fun K hK => ?_)
                have kb_ : Bk _ (w.heap.size + 2) 25 #[va, vm] := (F381.front 5 rfl rfl).at 0 rfl
                have kl_ := kb_.lt
                have kc0_ : World.cell? _ ⟨(w.heap.size + 2), 0, none⟩ = some va := kb_.cell 0
                have kf0_ : World.frozen? _ ⟨(w.heap.size + 2), 0, none⟩ = false := kb_.frozen 0
                have kc1_ : World.cell? _ ⟨(w.heap.size + 2), 1, none⟩ = some vm := kb_.cell 1
                have kf1_ : World.frozen? _ ⟨(w.heap.size + 2), 1, none⟩ = false := kb_.frozen 1
                go_simp
                clear kl_ kc0_ kf0_ kc1_ kf1_ kb_
                have F382 := (F381.front 5 rfl rfl).set 1 (.slice (some ⟨g372, 0, none⟩) (M.length + 1) cap373)
                (try dsimp only [List.eraseIdx_cons_succ, List.eraseIdx_cons_zero, List.setIfInBounds_toArray, List.set_cons_succ, List.set_cons_zero] at F382)
                clear F381
                refine ru_back_late hK (by kernel_rfl) ?_
                clear hK K
                (try simp only [Act.put, List.setIfInBounds_toArray, List.set_cons_zero, List.set_cons_succ])
                refine ru_one 18 rfl (by kernel_rfl) (fun K hK => ?_)
                go_simp
                refine ru_back_late hK (by kernel_rfl) ?_
                clear hK K
                (try simp only [Act.put, List.setIfInBounds_toArray, List.set_cons_zero, List.set_cons_succ])
                refine ru_one 19 rfl (by kernel_rfl) (fun K hK => ?_)
                have kb_ : Bk _ (w.heap.size + 3) 32 #[vo, .slice none 0 0, vv] := (F382.front 6 rfl rfl).at 0 rfl
                have kl_ := kb_.lt
                have kc0_ : World.cell? _ ⟨(w.heap.size + 3), 0, none⟩ = some vo := kb_.cell 0
                have kf0_ : World.frozen? _ ⟨(w.heap.size + 3), 0, none⟩ = false := kb_.frozen 0
                have kc1_ : World.cell? _ ⟨(w.heap.size + 3), 1, none⟩ = some (.slice none 0 0) := kb_.cell 1
                have kf1_ : World.frozen? _ ⟨(w.heap.size + 3), 1, none⟩ = false := kb_.frozen 1
                have kc2_ : World.cell? _ ⟨(w.heap.size + 3), 2, none⟩ = some vv := kb_.cell 2
                have kf2_ : World.frozen? _ ⟨(w.heap.size + 3), 2, none⟩ = false := kb_.frozen 2
                go_simp
                clear kl_ kc0_ kf0_ kc1_ kf1_ kc2_ kf2_ kb_
                have F383 := (F382.front 6 rfl rfl).set 2 (.slice (some ⟨g377, 0, none⟩) (V.length + 1) cap378)
                (try dsimp only [List.eraseIdx_cons_succ, List.eraseIdx_cons_zero, List.setIfInBounds_toArray, List.set_cons_succ, List.set_cons_zero] at F383)
                clear F382
                refine ru_back_late hK (by kernel_rfl) ?_
                clear hK K
                (try simp only [Act.put, List.setIfInBounds_toArray, List.set_cons_zero, List.set_cons_succ])
                refine ru_done (by kernel_rfl) ?_
                have F384 : Bus w sb [rseed sb, rbox (w.heap.size + 2) 25 #[va, .slice (some ⟨g372, 0, none⟩) (M.length + 1) cap373], rbox (w.heap.size + 3) 32 #[vo, .slice none 0 0, .slice (some ⟨g377, 0, none⟩) (V.length + 1) cap378], rown intEnc 3 1 w.heap.size (.slice (some ⟨gh, 0, none⟩) H.length pc271) (((H).set i (zi - v)).set j (zj + v)), rown intEnc 3 1 w.heap.size vo O, rown accEnc 79 6 w.heap.size va A, rown mvEnc 76 4 w.heap.size (.slice (some ⟨g372, 0, none⟩) (M.length + 1) cap373) (M ++ [(⟨i, j, ⟨s1, s2⟩⟩ : Mv)]), rown intEnc 3 1 w.heap.size (.slice none 0 0) [], rown intEnc 3 1 w.heap.size (.slice (some ⟨g377, 0, none⟩) (V.length + 1) cap378) (V ++ [v]), rbox w.heap.size 25 #[.slice none 0 0, .slice none 0 0], rbox (w.heap.size + 1) 32 #[.slice none 0 0, .slice none 0 0, .slice none 0 0], rbox (w.heap.size + 4) 9 nmC] _ := ((F383.drop 4 rfl).drop 5 rfl).pick [4, 1, 0, 5, 6, 7, 3, 8, 2, 9, 10, 11] (by decide) rfl
                clear F383
                go_wp2_with fail
                (first | refine ⟨rfl, ?_, ?_⟩ | refine ⟨?_, ?_⟩)
                · rw [HI269.out]; exact ⟨k - 1, M ++ [(⟨i, j, ⟨s1, s2⟩⟩ : Mv)], V ++ [v], _, _, _, _, rfl, rfl, rfl, rfl, rfl, rfl, rfl, rfl, rfl, rfl, (by show Value.int .i64 ((k : Int) - 1) = _; rw [show ((k : Int) - 1) = ((k - 1 : Nat) : Int) by omega]), (by simp; omega), (by simp), (by first | omega | (simp; omega)), HPM.out.step hsm.out (i := i) (k := j) (by have := hO.out; have := hHl.out; omega) (by have := hO.out; have := hHl.out; omega) (fun e => hji e.symm) (by rw [HZI.out]; exact hv1) ⟨hs5, hs6_, hs7_⟩, (by rw [HZI.out, HZJ.out]; exact F384)⟩
                · simp [slot, intOf]; omega
            · skip
              go_wp2_with fail
              (first | refine ⟨by first | rfl | trivial, by first | rfl | trivial, ?_⟩ | refine ⟨by first | rfl | trivial, ?_⟩ | skip)
              rw [HC2.out]
              exact ⟨M, V, H, _, _, _, rfl, rfl, rfl, rfl, rfl, rfl, rfl, rfl, rfl, rfl, by omega, hws6, HPM.out, hF⟩
          · obtain rfl : k = 0 := by omega
            go_wp2_with fail
            (first | refine ⟨by first | rfl | trivial, by first | rfl | trivial, ?_⟩ | refine ⟨by first | rfl | trivial, ?_⟩ | skip)
            rw [HC2.out]
            exact ⟨M, V, H, _, _, _, rfl, rfl, rfl, rfl, rfl, rfl, rfl, rfl, rfl, rfl, by omega, hws6, HPM.out, hF⟩
        case atStart3 =>
          rw [HI269.out]
          exact ⟨r2.toNat, [], [], O, .slice none 0 0, .slice none 0 0, _, rfl, rfl, rfl, rfl, rfl, rfl, rfl, rfl, rfl, rfl, (by show _ = Value.int .i64 ((r2.toNat : Nat) : Int); rw [Int.toNat_of_nonneg (by omega)]; rfl), (by simp; omega), rfl, Nat.le_refl _, (PhM.start (fun i hi => ((HPA.out.one i (by have := hO.out; omega)).ob.1))), F153⟩
  case atStart1 =>
    rw [HI15.out]
    exact ⟨r.toNat, [], [], .slice none 0 0, .slice none 0 0, .slice none 0 0, rfl, rfl, rfl, rfl, rfl, rfl, rfl, rfl, rfl, rfl, (by show _ = Value.int .i64 ((r.toNat : Nat) : Int); rw [Int.toNat_of_nonneg (by omega)]; rfl), (by simp; omega), rfl, Nat.le_refl _, PhA.nil _ _, F14⟩
theorem bookOf_c (sb : Nat) (accounts moves : Nat) (litres wide : Int) (w : World) (hs : SeedAt w sb) (ha : 1 ≤ accounts ∧ accounts ≤ 8) (hm : moves ≤ 12) (hl : 0 ≤ litres ∧ litres ≤ 1000000) (hw : 0 ≤ wide ∧ wide ≤ 1000) :
    Calls Try.prog 17 #[.pointer (some ⟨sb, 0, none⟩), .int .i64 accounts, .int .i64 moves, .int .i64 litres, .int .i64 wide] w (BookOfPost sb accounts moves litres wide w) := by
  refine (bookOf_b sb accounts moves litres wide w hs ha hm hl hw).mono ?_
  rintro e w' ⟨va, vm, b, vo, vc, vv, O, C, V, rfl, hT, hB⟩
  exact ⟨va, vm, b, vo, vc, vv, O, C, V, rfl, ⟨Own.sl (hB.at 0 rfl : Own accEnc 79 6 w.heap.size _ va b.accs) (fun _ => rfl), Own.sl (hB.at 1 rfl : Own mvEnc 76 4 w.heap.size _ vm b.mvs) (fun _ => rfl)⟩, Own.sl (hB.at 2 rfl : Own intEnc 3 1 w.heap.size _ vo O) (fun _ => rfl), Own.sl (hB.at 3 rfl : Own intEnc 3 1 w.heap.size _ vc C) (fun _ => rfl), Own.sl (hB.at 4 rfl : Own intEnc 3 1 w.heap.size _ vv V) (fun _ => rfl), hT, hB.at 5 rfl, hB.gb⟩
end Go.Proofs.Ytfifldbinnkdmaa
