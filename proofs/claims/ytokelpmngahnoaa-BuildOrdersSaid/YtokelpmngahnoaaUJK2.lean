/- the kit of build: days made of numbers. -/
import Derived.Test.YtokelpmngahnoaaUJK
import Derived.Test.YtokelpmngahnoaaUK1
set_option linter.unusedVariables false
set_option linter.unusedSimpArgs false
set_option linter.unnecessarySimpa false
namespace Go.Proofs.Ytokelpmngahnoaa
open Go.RowKit
set_option maxRecDepth 100000
set_option maxHeartbeats 4000000 in
theorem of2s_c (sb : Nat) (a b c d : Int) (w : World) (hs : SeedAt w sb) :
  Calls Try.prog 60 #[.pointer (some ⟨sb, 0, none⟩), .agg #[.int .i64 a, .int .i64 b], .agg #[.int .i64 c, .int .i64 d]] w (fun e w' => ∃ x y : Int, e = .returned (.agg #[.int .i64 x, .int .i64 y]) /\ ((x = a /\ y = b) ∨ (x = c /\ y = d)) /\ SeedAt w' sb /\ w.grownBy w' (some sb)) := by
 have F1 : Bus w sb [rseed sb] w := Bus.ofSeed hs
 have hsl := hs.lt
 clear hs
 go_enter Try.func60, Try.ntmps60
 go_wp2_with fail
 replace F1 := F1.new 39 #[.int .i64 a, .int .i64 b] (n := w.heap.size) (by simp)
 replace F1 := F1.new 39 #[.int .i64 c, .int .i64 d] (n := (w.heap.size + 1)) (by simp)
 replace F1 := F1.new 39 #[.int .i64 0, .int .i64 0] (n := (w.heap.size + 2)) (by simp)
 refine (yes_c sb 2 _ (F1.at 3 rfl : SeedAt _ sb) (by omega) (by omega)).mono ?_
 rintro e w8 ⟨yb2, rfl, hs7, hg6⟩
 have hg6s := hg6.size
 (try simp at hg6s)
 replace F1 := F1.seedAt 3 rfl hg6 hs7
 clear hg6
 cases c10 : yb2
 ·
  have c10H := lhd c10
  have b11 := F1.bx2 0 rfl
  have b12 := F1.bx2 1 rfl
  go_wp2_with fail
  clear b11 b12
  replace F1 := F1.pt2 (.int .i64 c) (.int .i64 d)
  have kb14 := F1.bx2 0 rfl
  go_wp2_with fail
  exact bodyPost_ret (v := .agg #[.int .i64 c, .int .i64 d]) (by simp [results, Try.results60, go_sem, kb14]) rfl (⟨_, _, rfl, .inr ⟨rfl, rfl⟩, (F1.at 3 rfl : SeedAt _ sb), F1.gb⟩)
 have c10H := lhd c10
 have b15 := F1.bx2 0 rfl
 have b16 := F1.bx2 2 rfl
 go_wp2_with fail
 clear b15 b16
 replace F1 := F1.pt2 (.int .i64 a) (.int .i64 b)
 have kb18 := F1.bx2 0 rfl
 go_wp2_with fail
 exact bodyPost_ret (v := .agg #[.int .i64 a, .int .i64 b]) (by simp [results, Try.results60, go_sem, kb18]) rfl (⟨_, _, rfl, .inl ⟨rfl, rfl⟩, (F1.at 3 rfl : SeedAt _ sb), F1.gb⟩)
set_option maxHeartbeats 16000000 in
theorem weekOf_c (sb : Nat) (nt : Int) (w : World) (hs : SeedAt w sb) (hnt : 0 <= nt /\ nt <= 20) :
  Calls Try.prog 18 #[.pointer (some ⟨sb, 0, none⟩), .int .i64 nt] w (WeekP sb nt w) := by
 have F1 : Bus w sb [rseed sb] w := Bus.ofSeed hs
 have hsl := hs.lt
 clear hs
 go_enter Try.func18, Try.ntmps18
 go_wp2_with fail
 refine (from_c sb 0 nt _ (F1.at 0 rfl : SeedAt _ sb) (by omega) (by omega) (by omega) (by omega)).mono ?_
 rintro e w6 ⟨r2, rfl, hr3, hs5, hg4⟩
 unfold fromR at hr3; have hr3b : 0 <= r2 /\ r2 <= nt := (by omega); clear hr3
 have hg4s := hg4.size
 (try simp at hg4s)
 replace F1 := F1.seedAt 0 rfl hg4 hs5
 clear hg4
 go_wp2_with fail
 replace F1 := F1.nilrow weaEnc 108 6
 (skip)
 obtain ⟨HI9_, HI90⟩ : ∃ I : RelT, I = (fun t ds wr => ∃ (c : Nat) (vo : Value) (lw : List Wea), t 0 = .pointer (some ⟨sb, 0, none⟩) /\ t 5 = vo /\ t 6 = .int .i64 (c : Int) /\ ((lw.length : Int) + (c : Int) <= nt) /\ (∀ d ∈ lw, weaErr d = 0) /\ ds = [] /\ w6.heap.size <= wr.heap.size /\ Bus w sb [rown weaEnc 108 6 w.heap.size vo lw, rseed sb] wr) := ⟨_, rfl⟩
 have HI9 := lhd HI90
 clear HI90
 refine wp_loopS 25 rfl HI9_ (fun t wr => (intOf (t 6)).toNat) ?atStart1 ?round1
 case round1 =>
  intro t ds wr hHid
  rw [HI9.out] at hHid
  obtain ⟨c, vo, lw, e0, e5, e6, hrel⟩ := hHid
  have e : ((List.range 25).map t).toArray = #[t 0, t 1, t 2, t 3, t 4, t 5, t 6, t 7, t 8, t 9, t 10, t 11, t 12, t 13, t 14, t 15, t 16, t 17, t 18, t 19, t 20, t 21, t 22, t 23, t 24] := rfl
  (try dsimp only at e)
  rw [e0, e5, e6] at e
  rw [e]
  simp only [e6]
  clear e e0 e5 e6
  obtain ⟨hlen, hwe, rfl, hs11, hF10⟩ := hrel
  clear F1
  obtain ⟨w12, rfl⟩ : ∃ x_ : World, x_ = wr := ⟨_, rfl⟩
  have HWE := lhd hwe
  clear hwe
  by_cases c13 : 0 < (c : Int)
  ·
   have c13H := lhd c13
   go_wp2_with fail
   refine (spanOf_c sb 0 150 _ (hF10.at 1 rfl : SeedAt _ sb) (by omega) (by omega) (by omega)).mono ?_
   rintro e w19 ⟨_, rfl, ⟨lo14, hi15, rfl, hr16a, hr16b, hr16c⟩, hs18, hg17⟩
   have hg17s := hg17.size
   (try simp at hg17s)
   have F20 := hF10.seedAt 1 rfl hg17 hs18
   clear hF10
   clear hg17
   go_wp2_with fail
   refine (spanOf_c sb (-60) 400 _ (F20.at 1 rfl : SeedAt _ sb) (by omega) (by omega) (by omega)).mono ?_
   rintro e w26 ⟨_, rfl, ⟨lo21, hi22, rfl, hr23a, hr23b, hr23c⟩, hs25, hg24⟩
   have hg24s := hg24.size
   (try simp at hg24s)
   replace F20 := F20.seedAt 1 rfl hg24 hs25
   clear hg24
   go_wp2_with fail
   refine (of2s_c sb lo14 hi15 lo21 hi22 _ (F20.at 1 rfl : SeedAt _ sb)).mono ?_
   rintro e w33 ⟨x28, y29, rfl, ho30, hs32, hg31⟩
   have hg31s := hg31.size
   (try simp at hg31s)
   replace F20 := F20.seedAt 1 rfl hg31 hs32
   clear hg31
   go_wp2_with (at_builtin; refine wpList_app _ okWea rfl _ _ rfl w.heap.size vo lw [(⟨⟨x28, y29⟩, ⟨0, 0⟩, 0, false⟩ : Wea)] rfl (by exact ((F20.at 0 rfl : Own weaEnc 108 6 w.heap.size _ vo lw)).alloc _) ⟨_, 0, none⟩ 1 1 rfl rfl (by decide) (news_of (Bk.newAt _ _ _ (by simp))) (lw.length + 1) (by simp) (by omega) (by first | omega | (simp; omega)) _ rfl ?_; intro g35 cap36 w37 hp38; refine Hid.out ?_)
   refine lhd ?_
   have hp38s := hp38.gb.size
   (try simp at hp38s)
   have F39 := ((F20.alloc (.cells #[.int .i64 x28, .int .i64 y29, .int .i64 0, .int .i64 0, .int .i64 0, .bool false] 108)).front 0 rfl rfl).app hp38 (by simp)
   clear F20
   go_wp2_with fail
   (first | refine ⟨rfl, ?_, ?_⟩ | refine ⟨?_, ?_⟩)
   · rw [HI9.out]; exact ⟨c - 1, _, _, rfl, rfl, (by show Value.int .i64 ((c : Int) - 1) = _; rw [show ((c : Int) - 1) = ((c - 1 : Nat) : Int) by omega]), (by simp; omega), (by intro d_ h_; rcases List.mem_append.1 h_ with h_ | h_; exact HWE.out d_ h_; obtain rfl := List.mem_singleton.1 h_; unfold weaErr spanErr; simp only; (repeat' split) <;> first | rfl | (exfalso; omega) | omega), (by first | rfl | simp), (by first | omega | (simp; done) | (simp; omega)), F39⟩
   · simp [slot, intOf]; omega
  have c13H := lhd c13
  have c13a : decide (0 < (c : Int)) = false := dec_f c13
  obtain ⟨oa, oc, eo_⟩ := (Own.sl (hF10.at 0 rfl : Own weaEnc 108 6 w.heap.size _ vo lw) (fun _ => rfl)).any
  subst eo_
  go_wp2_with fail
  exact bodyPost_ret (v := (.slice oa lw.length oc)) (by simp [results, Try.results18, go_sem]) rfl ((⟨lw, _, _, w.heap.size, _, rfl, ⟨Nat.le_refl _, Nat.le_refl _⟩, (Own.sl (hF10.at 0 rfl : Own weaEnc 108 6 w.heap.size _ (.slice oa lw.length oc) lw) (fun _ => rfl)), ⟨by omega, HWE.out⟩, (hF10.at 1 rfl : SeedAt _ sb), hF10.gb⟩))
 case atStart1 =>
  rw [HI9.out]
  exact ⟨r2.toNat, _, [], rfl, rfl, (by rw [Int.toNat_of_nonneg (by omega)]; first | kernel_rfl | rfl), (by simp; omega), (fun _ h => by cases h), rfl, (by first | exact Nat.le_refl _ | omega | (simp; done) | (simp; omega)), F1⟩
end Go.Proofs.Ytokelpmngahnoaa
