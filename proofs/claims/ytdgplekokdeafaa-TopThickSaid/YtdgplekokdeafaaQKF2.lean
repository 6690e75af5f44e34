/- the reference of frost: a day of true ice. -/
import Derived.Test.YtdgplekokdeafaaQF9
import Derived.Test.YtdgplekokdeafaaQK1
import Derived.Test.YtdgplekokdeafaaQKF1
set_option linter.unusedVariables false
set_option linter.unusedSimpArgs false
set_option linter.unnecessarySimpa false
namespace Go.Proofs.Ytdgplekokdeafaa
open Go.RowKit
set_option maxRecDepth 100000
structure Tr where
 bl : Int
 wh : Int
 we : Int
 sn : Int
structure TrK (t : Tr) (k m : Int) : Prop where
 bl : 0 <= t.bl /\ t.bl <= 5000 + 4000 * k
 wh : 0 <= t.wh /\ t.wh <= 5000 + 500000 * k
 we : 0 <= t.we
 sn : 0 <= t.sn
 sum : t.we + t.sn <= 10000 + 1200 * m
/-! ### true ice within -/
def inI (t : Tr) (x : Ice) : Prop := ((x.bl.lo <= t.bl /\ t.bl <= x.bl.hi) /\ x.wh.lo <= t.wh /\ t.wh <= x.wh.hi) /\ (x.we.lo <= t.we /\ t.we <= x.we.hi) /\ x.sn.lo <= t.sn /\ t.sn <= x.sn.hi
theorem dn_mono {n n' p p' : Int} (h0 : 0 <= n) (h : n <= n') (h1 : 0 <= p) (hp : p <= p') : dn n p <= dn n' p' := by
 unfold dn
 have h2 : n * p <= n' * p' := Int.mul_le_mul h hp h1 (by omega)
 exact Int.ediv_le_ediv (by omega) h2
set_option maxHeartbeats 8000000 in
theorem iceOf_c (sb : Nat) (w : World) (hs : SeedAt w sb) :
  Calls Try.prog 6 #[.pointer (some ⟨sb, 0, none⟩)] w (fun e w' => ∃ x : Ice, e = .returned (.agg (iceC x)) /\ (iceErr x = 0 /\ x.bl.hi <= 1200 /\ x.wh.hi <= 200 /\ x.we.hi <= 60 /\ x.sn.hi <= 400) /\ SeedAt w' sb /\ w.grownBy w' (some sb)) := by
 have F1 : Bus w sb [rseed sb] w := Bus.ofSeed hs
 have hsl := hs.lt
 clear hs
 go_enter Try.func6, Try.ntmps6
 go_wp2_with fail
 replace F1 := F1.new 32 (z8) (n := w.heap.size) (by simp)
 replace F1 := F1.new 3 #[.int .i64 60, .int .i64 1200] (n := (w.heap.size + 1)) (by simp)
 refine (of2_c sb _ (w.heap.size + 1) 2 60 1200 (F1.e 2 rfl) (by omega) (F1.q 0 0) (F1.q 0 1)).mono ?_
 rintro e w8 ⟨r2, rfl, hr3, hs7, hg6⟩
 have hg6s := hg6.size
 (try simp at hg6s)
 replace F1 := F1.seedAt 2 rfl hg6 hs7
 clear hg6
 go_wp2_with fail
 refine (spanOf_c sb 0 r2 _ (F1.e 2 rfl) (by omega) (by omega) (by omega)).mono ?_
 rintro e w15 ⟨_, rfl, ⟨lo10, hi11, rfl, hr12a, hr12b, hr12c⟩, hs14, hg13⟩
 have hg13s := hg13.size
 (try simp at hg13s)
 replace F1 := F1.seedAt 2 rfl hg13 hs14
 clear hg13
 go_wp2_with fail
 replace F1 := F1.new 3 #[.int .i64 20, .int .i64 200] (n := w15.heap.size) (by simp)
 refine (of2_c sb _ w15.heap.size 2 20 200 (F1.e 3 rfl) (by omega) (F1.q 0 0) (F1.q 0 1)).mono ?_
 rintro e w22 ⟨r17, rfl, hr18, hs21, hg20⟩
 have hg20s := hg20.size
 (try simp at hg20s)
 replace F1 := F1.seedAt 3 rfl hg20 hs21
 clear hg20
 go_wp2_with fail
 refine (spanOf_c sb 0 r17 _ (F1.e 3 rfl) (by omega) (by omega) (by omega)).mono ?_
 rintro e w29 ⟨_, rfl, ⟨lo24, hi25, rfl, hr26a, hr26b, hr26c⟩, hs28, hg27⟩
 have hg27s := hg27.size
 (try simp at hg27s)
 replace F1 := F1.seedAt 3 rfl hg27 hs28
 clear hg27
 go_wp2_with fail
 replace F1 := F1.new 3 #[.int .i64 0, .int .i64 5, .int .i64 60] (n := w29.heap.size) (by simp)
 refine (of3_c sb _ w29.heap.size 3 0 5 60 (F1.e 4 rfl) (by omega) (F1.q 0 0) (F1.q 0 1) (F1.q 0 2)).mono ?_
 rintro e w36 ⟨r31, rfl, hr32, hs35, hg34⟩
 have hg34s := hg34.size
 (try simp at hg34s)
 replace F1 := F1.seedAt 4 rfl hg34 hs35
 clear hg34
 go_wp2_with fail
 refine (spanOf_c sb 0 r31 _ (F1.e 4 rfl) (by omega) (by omega) (by omega)).mono ?_
 rintro e w43 ⟨_, rfl, ⟨lo38, hi39, rfl, hr40a, hr40b, hr40c⟩, hs42, hg41⟩
 have hg41s := hg41.size
 (try simp at hg41s)
 replace F1 := F1.seedAt 4 rfl hg41 hs42
 clear hg41
 go_wp2_with fail
 replace F1 := F1.new 3 #[.int .i64 0, .int .i64 40, .int .i64 400] (n := w43.heap.size) (by simp)
 refine (of3_c sb _ w43.heap.size 3 0 40 400 (F1.e 5 rfl) (by omega) (F1.q 0 0) (F1.q 0 1) (F1.q 0 2)).mono ?_
 rintro e w50 ⟨r45, rfl, hr46, hs49, hg48⟩
 have hg48s := hg48.size
 (try simp at hg48s)
 replace F1 := F1.seedAt 5 rfl hg48 hs49
 clear hg48
 go_wp2_with fail
 refine (spanOf_c sb 0 r45 _ (F1.e 5 rfl) (by omega) (by omega) (by omega)).mono ?_
 rintro e w57 ⟨_, rfl, ⟨lo52, hi53, rfl, hr54a, hr54b, hr54c⟩, hs56, hg55⟩
 have hg55s := hg55.size
 (try simp at hg55s)
 replace F1 := F1.seedAt 5 rfl hg55 hs56
 clear hg55
 have b59 := F1.bx8 4 rfl
 go_wp2_with fail
 clear b59
 have F60 := (F1.front 4 rfl rfl).pt8 (.int .i64 lo10) (.int .i64 hi11) (.int .i64 lo24) (.int .i64 hi25) (.int .i64 lo38) (.int .i64 hi39) (.int .i64 lo52) (.int .i64 hi53)
 clear F1
 have kb61 := F60.bx8 0 rfl
 go_wp2_with fail
 exact bodyPost_ret (v := .agg #[.int .i64 lo10, .int .i64 hi11, .int .i64 lo24, .int .i64 hi25, .int .i64 lo38, .int .i64 hi39, .int .i64 lo52, .int .i64 hi53]) (by simp [results, Try.results6, go_sem, kb61]) rfl (⟨⟨⟨lo10, hi11⟩, ⟨lo24, hi25⟩, ⟨lo38, hi39⟩, ⟨lo52, hi53⟩⟩, rfl, ⟨by unfold iceErr spanErr; simp only; (repeat' split) <;> first | rfl | (exfalso; omega) | omega, by simp only; omega, by simp only; omega, by simp only; omega, by simp only; omega⟩, (F60.e 5 rfl), F60.gb⟩)
def subI (a b : Ice) : Prop := ((b.bl.lo <= a.bl.lo /\ a.bl.hi <= b.bl.hi) /\ b.wh.lo <= a.wh.lo /\ a.wh.hi <= b.wh.hi) /\ (b.we.lo <= a.we.lo /\ a.we.hi <= b.we.hi) /\ b.sn.lo <= a.sn.lo /\ a.sn.hi <= b.sn.hi
theorem iceB {x : Ice} (h : iceErr x = 0) : ((0 <= x.bl.lo /\ x.bl.lo <= x.bl.hi /\ x.bl.hi <= 5000) /\ 0 <= x.wh.lo /\ x.wh.lo <= x.wh.hi /\ x.wh.hi <= 5000) /\ (0 <= x.we.lo /\ x.we.lo <= x.we.hi /\ x.we.hi <= 5000) /\ 0 <= x.sn.lo /\ x.sn.lo <= x.sn.hi /\ x.sn.hi <= 5000 := by
 unfold iceErr at h
 split at h
 · contradiction
 rename_i h1
 split at h
 · contradiction
 rename_i h2
 split at h
 · contradiction
 rename_i h3
 exact ⟨⟨spanErr_ok (Classical.not_not.1 h1), spanErr_ok (Classical.not_not.1 h2)⟩, spanErr_ok (Classical.not_not.1 h3), spanErr_ok h⟩
structure Ends8 (M : Tr -> Prop) (z : Ice) : Prop where
 bl1 : ∃ u, M u /\ u.bl = z.bl.lo
 bl2 : ∃ u, M u /\ u.bl = z.bl.hi
 wh1 : ∃ u, M u /\ u.wh = z.wh.lo
 wh2 : ∃ u, M u /\ u.wh = z.wh.hi
 we1 : ∃ u, M u /\ u.we = z.we.lo
 we2 : ∃ u, M u /\ u.we = z.we.hi
 sn1 : ∃ u, M u /\ u.sn = z.sn.lo
 sn2 : ∃ u, M u /\ u.sn = z.sn.hi
def okI (x : Ice) : Prop := ((x.bl.lo <= x.bl.hi) /\ x.wh.lo <= x.wh.hi) /\ (x.we.lo <= x.we.hi) /\ x.sn.lo <= x.sn.hi
theorem Ends8.sub {M : Tr -> Prop} {z x : Ice} (h : Ends8 M z) (hM : ∀ u, M u -> inI u x) : subI z x := by
 obtain ⟨⟨u1, a1, e1⟩, ⟨u2, a2, e2⟩, ⟨u3, a3, e3⟩, ⟨u4, a4, e4⟩, ⟨u5, a5, e5⟩, ⟨u6, a6, e6⟩, ⟨u7, a7, e7⟩, ⟨u8, a8, e8⟩⟩ := h
 have i1 := (hM _ a1).1.1
 have i2 := (hM _ a2).1.1
 have i3 := (hM _ a3).1.2
 have i4 := (hM _ a4).1.2
 have i5 := (hM _ a5).2.1
 have i6 := (hM _ a6).2.1
 have i7 := (hM _ a7).2.2
 have i8 := (hM _ a8).2.2
 exact ⟨⟨⟨by omega, by omega⟩, by omega, by omega⟩, ⟨by omega, by omega⟩, by omega, by omega⟩
theorem okI_of {x : Ice} (h : iceErr x = 0) : okI x := by
 have := iceB h
 exact ⟨⟨by omega, by omega⟩, by omega, by omega⟩
theorem TrK.le {t : Tr} {k m k' m' : Int} (h : TrK t k m) (hk : k <= k') (hm : m <= m') : TrK t k' m' := ⟨by have := h.bl; omega, by have := h.wh; omega, h.we, h.sn, by have := h.sum; omega⟩
end Go.Proofs.Ytdgplekokdeafaa
