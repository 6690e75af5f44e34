/- frost: FrostFloods walked. -/
import Derived.Test.YthblaiefalbomaaF47
import Derived.Test.YthblaiefalbomaaF41
import Derived.Test.YthblaiefalbomaaF43
import Derived.Test.YthblaiefalbomaaF28
import Derived.Test.YthblaiefalbomaaF26
import Derived.Test.YthblaiefalbomaaF24
import Derived.Test.YthblaiefalbomaaCopy3
import Derived.Test.YthblaiefalbomaaMixG
set_option linter.unusedVariables false
set_option linter.unusedSimpArgs false
set_option linter.unnecessarySimpa false
namespace Go.Proofs.Ythblaiefalbomaa
open Go.RowKit
set_option maxRecDepth 100000

theorem rng_floods_walk (t : Nat → Value) : ((List.range 157).map t).toArray = List.toArray [t 0, t 1, t 2, t 3, t 4, t 5, t 6, t 7, t 8, t 9, t 10, t 11, t 12, t 13, t 14, t 15, t 16, t 17, t 18, t 19, t 20, t 21, t 22, t 23, t 24, t 25, t 26, t 27, t 28, t 29, t 30, t 31, t 32, t 33, t 34, t 35, t 36, t 37, t 38, t 39, t 40, t 41, t 42, t 43, t 44, t 45, t 46, t 47, t 48, t 49, t 50, t 51, t 52, t 53, t 54, t 55, t 56, t 57, t 58, t 59, t 60, t 61, t 62, t 63, t 64, t 65, t 66, t 67, t 68, t 69, t 70, t 71, t 72, t 73, t 74, t 75, t 76, t 77, t 78, t 79, t 80, t 81, t 82, t 83, t 84, t 85, t 86, t 87, t 88, t 89, t 90, t 91, t 92, t 93, t 94, t 95, t 96, t 97, t 98, t 99, t 100, t 101, t 102, t 103, t 104, t 105, t 106, t 107, t 108, t 109, t 110, t 111, t 112, t 113, t 114, t 115, t 116, t 117, t 118, t 119, t 120, t 121, t 122, t 123, t 124, t 125, t 126, t 127, t 128, t 129, t 130, t 131, t 132, t 133, t 134, t 135, t 136, t 137, t 138, t 139, t 140, t 141, t 142, t 143, t 144, t 145, t 146, t 147, t 148, t 149, t 150, t 151, t 152, t 153, t 154, t 155, t 156] := rfl
set_option maxHeartbeats 16000000 in
theorem floods_walk (l0 : Fro) (x0 : Ice) (d0 : List Wea) (att most : Int) (v vd vn : Value) (zs : List Int) (w : World) (hl : Sl covEnc 3 0 w.heap.size w v l0.cov) (hd : Sl weaEnc 6 0 w.heap.size w vd d0) (hn : Sl intEnc 1 0 w.heap.size w vn zs) :
    Calls Try.prog 9 #[.agg (froC l0 v), .agg (iceC x0), vd, .int .i64 att, .int .i64 most, vn] w (Ret (.bool true) w) := by
  have F1 : Bun w [] w := Bun.nil _
  obtain ⟨sa0, sc0, rfl⟩ := hl.any
  have hm_l0 := hl.len
  unfold maxLen at hm_l0
  have F2 := F1.sl0 hl (Nat.le_refl _) rfl
  clear F1
  clear hl
  obtain ⟨da0, dc0, rfl⟩ := hd.any
  have hm_d0 := hd.len
  unfold maxLen at hm_d0
  have F3 := F2.sl0 hd (Nat.le_refl _) rfl
  clear F2
  clear hd
  obtain ⟨na, nc, rfl⟩ := hn.any
  have hm_nums := hn.len
  unfold maxLen at hm_nums
  have F4 := F3.sl0 hn (Nat.le_refl _) rfl
  clear F3
  go_enter Try.func9, Try.ntmps9
  go_wp2_with fail
  have F5 := F4.new 29 (froC l0 (.slice sa0 l0.cov.length sc0)) (n := w.heap.size) (by simp)
  clear F4
  have F6 := F5.new 32 (iceC x0) (n := (w.heap.size + 1)) (by simp)
  clear F5
  refine (big_c _ _ _ l0 _ _ _ d0 _ (F6.at 4 rfl : Sl covEnc 3 0 w.heap.size _ (.slice sa0 l0.cov.length sc0) l0.cov) (by first | omega | (simp; omega)) (F6.at 3 rfl : Sl weaEnc 6 0 w.heap.size _ (.slice da0 d0.length dc0) d0) (by first | omega | (simp; omega))).mono ?_
  rintro e w9 ⟨rfl, hg7⟩
  have hg7s := hg7.size
  (try simp at hg7s)
  have F10 := F6.gn hg7
  clear F6
  clear hg7
  cases c11 : bigB l0 d0
  · skip
    have c11H := Lib.hid c11
    have hbg : d0.length ≤ 420 := by have h_ := c11H.out; unfold bigB at h_; simp at h_; omega
    by_cases c12 : 30 < (d0.length : Int)
    · skip
      have c12H := Lib.hid c12
      by_cases c13 : (d0.length : Int) ≤ 400
      · skip
        have c13H := Lib.hid c13
        go_wp2_with fail
        refine (awake_c _).mono ?_
        rintro e w16 ⟨rfl, hg14⟩
        have hg14s := hg14.size
        (try simp at hg14s)
        have F17 := F10.gn hg14
        clear F10
        clear hg14
        go_wp2_with fail
        go_ret
        exact ⟨rfl, F17.gb⟩
      · skip
        have c13H := Lib.hid c13
        have c13a : decide ((d0.length : Int) ≤ 400) = false := dec_f c13
        go_wp2_with fail
        refine (newSeed_c 0 w.heap.size _ zs _ (F10.at 2 rfl : Sl intEnc 1 0 w.heap.size _ (.slice na zs.length nc) zs)).mono ?_
        rintro e w20 ⟨sb, rfl, hsb, hsbs, hg18⟩
        have hsbl := hsbs.lt
        have hg18s := hg18.size
        (try simp at hg18s)
        have F21 := F10.add (rseed sb) hg18 (hsbs) (fun g e => by cases e; exact ⟨hsb, hsbs.lt⟩)
        clear F10
        clear hg18
        go_wp2_with fail
        refine (frostOf_c sb _ (F21.at 0 rfl : SeedAt _ sb)).mono ?_
        rintro e w24 ⟨l, vl, lo_l, hi_l, rfl, hxl, hyl, hzl, hfl, hs23, hg22⟩
        obtain ⟨sal, scl, rfl⟩ := hzl.any
        have HFl := Lib.hid hfl
        clear hfl
        have hml := hzl.len
        unfold maxLen at hml
        have hg22s := hg22.size
        (try simp at hg22s)
        have F25 := F21.seedAdd (rsl covEnc 3 lo_l hi_l (.slice sal l.cov.length scl) l.cov) hg22 hs23 (hzl) (fun g e => ⟨Nat.le_trans hxl e.1, Nat.lt_of_lt_of_le e.2 hyl⟩)
        clear F21
        clear hg22
        go_wp2_with fail
        refine (iceOf_c sb _ (F25.at 1 rfl : SeedAt _ sb)).mono ?_
        rintro e w28 ⟨ic, rfl, ⟨hic, hicm⟩, hs27, hg26⟩
        have hicb := iceB hic
        have hg26s := hg26.size
        (try simp at hg26s)
        have F29 := F25.seedAt 1 rfl hg26 hs27
        clear F25
        clear hg26
        go_wp2_with fail
        have F31 := F29.new 29 (froC l (.slice sal l.cov.length scl)) (n := w28.heap.size) (by simp)
        clear F29
        have F32 := F31.new 32 (iceC ic) (n := (w28.heap.size + 1)) (by simp)
        clear F31
        refine (yes_c sb 2 _ (F32.at 3 rfl : SeedAt _ sb) (by omega) (by omega)).mono ?_
        rintro e w35 ⟨yb30, rfl, hs34, hg33⟩
        have hg33s := hg33.size
        (try simp at hg33s)
        have F36 := F32.seedAt 3 rfl hg33 hs34
        clear F32
        clear hg33
        go_wp2_with fail
        refine (daysOf_o sb w.heap.size 7 yb30 _ ((F36.front 3 rfl rfl).at 0 rfl : SeedAt _ sb) (by omega) F36.gb.size).mono ?_
        rintro e w39 ⟨vo_dl, dl, rfl, hdodl, hdxdl, hdndl, hdvdl, hs38, hg37⟩
        have HDdl := Lib.hid hdvdl
        clear hdvdl
        have hg37s := hg37.size
        (try simp at hg37s)
        have F40 := (F36.front 3 rfl rfl).seedAdd (rown weaEnc 35 6 w.heap.size vo_dl dl) hg37 hs38 (hdodl) (hdxdl)
        clear F36
        clear hg37
        go_wp2_with fail
        refine (below_c sb 200 _ (F40.at 1 rfl : SeedAt _ sb) (by omega) (by omega)).mono ?_
        rintro e w45 ⟨r41, rfl, hr42, hs44, hg43⟩
        unfold belowR at hr42
        have hg43s := hg43.size
        (try simp at hg43s)
        have F46 := F40.seedAt 1 rfl hg43 hs44
        clear F40
        clear hg43
        go_wp2_with (at_builtin; refine wpList_app _ okWea rfl _ _ rfl w.heap.size vo_dl dl [(⟨⟨r41, 200⟩, ⟨0, 0⟩, 0, false⟩ : Wea)] rfl (by exact ((F46.at 0 rfl : Own weaEnc 35 6 w.heap.size _ vo_dl dl)).alloc _) ⟨_, 0, none⟩ 1 1 rfl rfl (by decide) (news_of (Bk.newAt _ _ _ (by simp))) (dl.length + 1) (by simp) (by omega) (by first | omega | (simp; omega)) _ rfl ?_; intro g47 cap48 w49 hp50; refine Hid.out ?_)
        refine Lib.hid ?_
        have hp50s := hp50.gb.size
        (try simp at hp50s)
        have F51 := ((F46.alloc (.cells #[.int .i64 r41, .int .i64 200, .int .i64 0, .int .i64 0, .int .i64 0, .bool false] 35)).front 0 rfl rfl).app hp50 (by simp)
        clear F46
        obtain ⟨al, hal_⟩ : ∃ z_, dl ++ [(⟨⟨r41, 200⟩, ⟨0, 0⟩, 0, false⟩ : Wea)] = z_ := ⟨_, rfl⟩
        rw [hal_] at F51
        have hal1 : al.length ≤ dl.length + 1 := by rw [← hal_]; simp
        have hal2 : dl.length + 1 ≤ al.length := by rw [← hal_]; simp
        have HDal : Hid (∀ d ∈ al, weaErr d = 0) := Lib.hid (by rw [← hal_]; intro d_ hd_; rcases List.mem_append.1 hd_ with h_ | h_; exact (HDdl.out d_ h_).1; obtain rfl := List.mem_singleton.1 h_; unfold weaErr spanErr; simp only; (repeat' split) <;> first | rfl | (exfalso; omega) | omega)
        clear hal_
        go_wp2_with fail
        have F56 := F51.drew
        clear F51
        refine ru_begin (fun W => W.cell? ⟨w.heap.size, 0, none⟩ = some (.int .i64 l0.gr) ∧ W.cell? ⟨w.heap.size, 1, none⟩ = some (.int .i64 l0.la) ∧ W.cell? ⟨w.heap.size, 2, none⟩ = some (.slice sa0 l0.cov.length sc0) ∧ W.cell? ⟨w.heap.size, 3, none⟩ = some (.int .i64 l0.melt.lo) ∧ W.cell? ⟨w.heap.size, 4, none⟩ = some (.int .i64 l0.melt.hi) ∧ W.cell? ⟨w.heap.size, 5, none⟩ = some (.int .i64 l0.soak) ∧ W.cell? ⟨w.heap.size, 6, none⟩ = some (.int .i64 l0.white.lo) ∧ W.cell? ⟨w.heap.size, 7, none⟩ = some (.int .i64 l0.white.hi) ∧ W.cell? ⟨w28.heap.size, 0, none⟩ = some (.int .i64 l.gr) ∧ W.cell? ⟨w28.heap.size, 1, none⟩ = some (.int .i64 l.la) ∧ W.cell? ⟨w28.heap.size, 2, none⟩ = some (.slice sal l.cov.length scl) ∧ W.cell? ⟨w28.heap.size, 3, none⟩ = some (.int .i64 l.melt.lo) ∧ W.cell? ⟨w28.heap.size, 4, none⟩ = some (.int .i64 l.melt.hi) ∧ W.cell? ⟨w28.heap.size, 5, none⟩ = some (.int .i64 l.soak) ∧ W.cell? ⟨w28.heap.size, 6, none⟩ = some (.int .i64 l.white.lo) ∧ W.cell? ⟨w28.heap.size, 7, none⟩ = some (.int .i64 l.white.hi) ∧ W.cell? ⟨(w.heap.size + 1), 0, none⟩ = some (.int .i64 x0.bl.lo) ∧ W.cell? ⟨(w.heap.size + 1), 1, none⟩ = some (.int .i64 x0.bl.hi) ∧ W.cell? ⟨(w.heap.size + 1), 2, none⟩ = some (.int .i64 x0.wh.lo) ∧ W.cell? ⟨(w.heap.size + 1), 3, none⟩ = some (.int .i64 x0.wh.hi) ∧ W.cell? ⟨(w.heap.size + 1), 4, none⟩ = some (.int .i64 x0.we.lo) ∧ W.cell? ⟨(w.heap.size + 1), 5, none⟩ = some (.int .i64 x0.we.hi) ∧ W.cell? ⟨(w.heap.size + 1), 6, none⟩ = some (.int .i64 x0.sn.lo) ∧ W.cell? ⟨(w.heap.size + 1), 7, none⟩ = some (.int .i64 x0.sn.hi) ∧ W.cell? ⟨(w28.heap.size + 1), 0, none⟩ = some (.int .i64 ic.bl.lo) ∧ W.cell? ⟨(w28.heap.size + 1), 1, none⟩ = some (.int .i64 ic.bl.hi) ∧ W.cell? ⟨(w28.heap.size + 1), 2, none⟩ = some (.int .i64 ic.wh.lo) ∧ W.cell? ⟨(w28.heap.size + 1), 3, none⟩ = some (.int .i64 ic.wh.hi) ∧ W.cell? ⟨(w28.heap.size + 1), 4, none⟩ = some (.int .i64 ic.we.lo) ∧ W.cell? ⟨(w28.heap.size + 1), 5, none⟩ = some (.int .i64 ic.we.hi) ∧ W.cell? ⟨(w28.heap.size + 1), 6, none⟩ = some (.int .i64 ic.sn.lo) ∧ W.cell? ⟨(w28.heap.size + 1), 7, none⟩ = some (.int .i64 ic.sn.hi)) 28 (by kernel_rfl) ?_ ?_
        · exact ⟨F56.cl 6 0 rfl rfl, F56.cl 6 1 rfl rfl, F56.cl 6 2 rfl rfl, F56.cl 6 3 rfl rfl, F56.cl 6 4 rfl rfl, F56.cl 6 5 rfl rfl, F56.cl 6 6 rfl rfl, F56.cl 6 7 rfl rfl, F56.cl 3 0 rfl rfl, F56.cl 3 1 rfl rfl, F56.cl 3 2 rfl rfl, F56.cl 3 3 rfl rfl, F56.cl 3 4 rfl rfl, F56.cl 3 5 rfl rfl, F56.cl 3 6 rfl rfl, F56.cl 3 7 rfl rfl, F56.cl 5 0 rfl rfl, F56.cl 5 1 rfl rfl, F56.cl 5 2 rfl rfl, F56.cl 5 3 rfl rfl, F56.cl 5 4 rfl rfl, F56.cl 5 5 rfl rfl, F56.cl 5 6 rfl rfl, F56.cl 5 7 rfl rfl, F56.cl 2 0 rfl rfl, F56.cl 2 1 rfl rfl, F56.cl 2 2 rfl rfl, F56.cl 2 3 rfl rfl, F56.cl 2 4 rfl rfl, F56.cl 2 5 rfl rfl, F56.cl 2 6 rfl rfl, F56.cl 2 7 rfl rfl⟩
        obtain ⟨wd58, hwd_⟩ : ∃ x : World, w49.drew = x := ⟨_, rfl⟩
        rw [hwd_] at F56 ⊢
        have wd58s : w49.heap.size ≤ wd58.heap.size := by rw [← hwd_]; exact Nat.le_refl _
        clear hwd_
        have hS57 := (And.intro (F56.cl 6 0 rfl rfl) (And.intro (F56.cl 6 1 rfl rfl) (And.intro (F56.cl 6 2 rfl rfl) (And.intro (F56.cl 6 3 rfl rfl) (And.intro (F56.cl 6 4 rfl rfl) (And.intro (F56.cl 6 5 rfl rfl) (And.intro (F56.cl 6 6 rfl rfl) (And.intro (F56.cl 6 7 rfl rfl) (And.intro (F56.cl 3 0 rfl rfl) (And.intro (F56.cl 3 1 rfl rfl) (And.intro (F56.cl 3 2 rfl rfl) (And.intro (F56.cl 3 3 rfl rfl) (And.intro (F56.cl 3 4 rfl rfl) (And.intro (F56.cl 3 5 rfl rfl) (And.intro (F56.cl 3 6 rfl rfl) (And.intro (F56.cl 3 7 rfl rfl) (And.intro (F56.cl 5 0 rfl rfl) (And.intro (F56.cl 5 1 rfl rfl) (And.intro (F56.cl 5 2 rfl rfl) (And.intro (F56.cl 5 3 rfl rfl) (And.intro (F56.cl 5 4 rfl rfl) (And.intro (F56.cl 5 5 rfl rfl) (And.intro (F56.cl 5 6 rfl rfl) (And.intro (F56.cl 5 7 rfl rfl) (And.intro (F56.cl 2 0 rfl rfl) (And.intro (F56.cl 2 1 rfl rfl) (And.intro (F56.cl 2 2 rfl rfl) (And.intro (F56.cl 2 3 rfl rfl) (And.intro (F56.cl 2 4 rfl rfl) (And.intro (F56.cl 2 5 rfl rfl) (And.intro (F56.cl 2 6 rfl rfl) (F56.cl 2 7 rfl rfl))))))))))))))))))))))))))))))))
        refine ru_t 0 [] ?_
        refine ru_t 1 [] ?_
        refine ru_t 2 [] ?_
        refine ru_t 4 [] ?_
        refine ru_t 5 [] ?_
        refine ru_t 6 [] ?_
        refine ru_t 8 [] ?_
        refine ru_t 9 [] ?_
        refine ru_t 10 [] ?_
        refine ru_t 12 [] ?_
        refine ru_t 13 [] ?_
        refine ru_t 14 [] ?_
        refine ru_t 15 [] ?_
        refine ru_t 17 [] ?_
        refine ru_t 19 [] ?_
        refine ru_t 20 [] ?_
        refine ru_t 22 [] ?_
        (try simp only [Act.put, List.setIfInBounds_toArray, List.set_cons_zero, List.set_cons_succ])
        clear hS57
        have hSS := ru_hS F56 (S := fun W => W.cell? ⟨w.heap.size, 0, none⟩ = some (.int .i64 l0.gr) ∧ W.cell? ⟨w.heap.size, 1, none⟩ = some (.int .i64 l0.la) ∧ W.cell? ⟨w.heap.size, 2, none⟩ = some (.slice sa0 l0.cov.length sc0) ∧ W.cell? ⟨w.heap.size, 3, none⟩ = some (.int .i64 l0.melt.lo) ∧ W.cell? ⟨w.heap.size, 4, none⟩ = some (.int .i64 l0.melt.hi) ∧ W.cell? ⟨w.heap.size, 5, none⟩ = some (.int .i64 l0.soak) ∧ W.cell? ⟨w.heap.size, 6, none⟩ = some (.int .i64 l0.white.lo) ∧ W.cell? ⟨w.heap.size, 7, none⟩ = some (.int .i64 l0.white.hi) ∧ W.cell? ⟨w28.heap.size, 0, none⟩ = some (.int .i64 l.gr) ∧ W.cell? ⟨w28.heap.size, 1, none⟩ = some (.int .i64 l.la) ∧ W.cell? ⟨w28.heap.size, 2, none⟩ = some (.slice sal l.cov.length scl) ∧ W.cell? ⟨w28.heap.size, 3, none⟩ = some (.int .i64 l.melt.lo) ∧ W.cell? ⟨w28.heap.size, 4, none⟩ = some (.int .i64 l.melt.hi) ∧ W.cell? ⟨w28.heap.size, 5, none⟩ = some (.int .i64 l.soak) ∧ W.cell? ⟨w28.heap.size, 6, none⟩ = some (.int .i64 l.white.lo) ∧ W.cell? ⟨w28.heap.size, 7, none⟩ = some (.int .i64 l.white.hi) ∧ W.cell? ⟨(w.heap.size + 1), 0, none⟩ = some (.int .i64 x0.bl.lo) ∧ W.cell? ⟨(w.heap.size + 1), 1, none⟩ = some (.int .i64 x0.bl.hi) ∧ W.cell? ⟨(w.heap.size + 1), 2, none⟩ = some (.int .i64 x0.wh.lo) ∧ W.cell? ⟨(w.heap.size + 1), 3, none⟩ = some (.int .i64 x0.wh.hi) ∧ W.cell? ⟨(w.heap.size + 1), 4, none⟩ = some (.int .i64 x0.we.lo) ∧ W.cell? ⟨(w.heap.size + 1), 5, none⟩ = some (.int .i64 x0.we.hi) ∧ W.cell? ⟨(w.heap.size + 1), 6, none⟩ = some (.int .i64 x0.sn.lo) ∧ W.cell? ⟨(w.heap.size + 1), 7, none⟩ = some (.int .i64 x0.sn.hi) ∧ W.cell? ⟨(w28.heap.size + 1), 0, none⟩ = some (.int .i64 ic.bl.lo) ∧ W.cell? ⟨(w28.heap.size + 1), 1, none⟩ = some (.int .i64 ic.bl.hi) ∧ W.cell? ⟨(w28.heap.size + 1), 2, none⟩ = some (.int .i64 ic.wh.lo) ∧ W.cell? ⟨(w28.heap.size + 1), 3, none⟩ = some (.int .i64 ic.wh.hi) ∧ W.cell? ⟨(w28.heap.size + 1), 4, none⟩ = some (.int .i64 ic.we.lo) ∧ W.cell? ⟨(w28.heap.size + 1), 5, none⟩ = some (.int .i64 ic.we.hi) ∧ W.cell? ⟨(w28.heap.size + 1), 6, none⟩ = some (.int .i64 ic.sn.lo) ∧ W.cell? ⟨(w28.heap.size + 1), 7, none⟩ = some (.int .i64 ic.sn.hi)) (fun _ _ F_ => ⟨F_.cl 6 0 rfl rfl, F_.cl 6 1 rfl rfl, F_.cl 6 2 rfl rfl, F_.cl 6 3 rfl rfl, F_.cl 6 4 rfl rfl, F_.cl 6 5 rfl rfl, F_.cl 6 6 rfl rfl, F_.cl 6 7 rfl rfl, F_.cl 3 0 rfl rfl, F_.cl 3 1 rfl rfl, F_.cl 3 2 rfl rfl, F_.cl 3 3 rfl rfl, F_.cl 3 4 rfl rfl, F_.cl 3 5 rfl rfl, F_.cl 3 6 rfl rfl, F_.cl 3 7 rfl rfl, F_.cl 5 0 rfl rfl, F_.cl 5 1 rfl rfl, F_.cl 5 2 rfl rfl, F_.cl 5 3 rfl rfl, F_.cl 5 4 rfl rfl, F_.cl 5 5 rfl rfl, F_.cl 5 6 rfl rfl, F_.cl 5 7 rfl rfl, F_.cl 2 0 rfl rfl, F_.cl 2 1 rfl rfl, F_.cl 2 2 rfl rfl, F_.cl 2 3 rfl rfl, F_.cl 2 4 rfl rfl, F_.cl 2 5 rfl rfl, F_.cl 2 6 rfl rfl, F_.cl 2 7 rfl rfl⟩)
        refine ru_mixN 157 [⟨3, 61, 29, fun t => #[.int .i64 l0.gr, .int .i64 l0.la, .slice sa0 l0.cov.length sc0, .int .i64 l0.melt.lo, .int .i64 l0.melt.hi, .int .i64 l0.soak, .int .i64 l0.white.lo, .int .i64 l0.white.hi, .int .i64 l.gr, .int .i64 l.la, .slice sal l.cov.length scl, .int .i64 l.melt.lo, .int .i64 l.melt.hi, .int .i64 l.soak, .int .i64 l.white.lo, .int .i64 l.white.hi, .int .i64 l.gr, .int .i64 l.la, .slice sal l.cov.length scl, .int .i64 l.melt.lo, .int .i64 l.melt.hi, .int .i64 l.soak, .int .i64 l.white.lo, .int .i64 l.white.hi], fun g => .slice (some ⟨g, 0, none⟩) 3 3, fun t => t 58 = .agg (froC l0 (.slice sa0 l0.cov.length sc0)) ∧ t 59 = .agg (froC l (.slice sal l.cov.length scl)) ∧ t 60 = .agg (froC l (.slice sal l.cov.length scl))⟩, ⟨7, 65, 32, fun t => #[.int .i64 x0.bl.lo, .int .i64 x0.bl.hi, .int .i64 x0.wh.lo, .int .i64 x0.wh.hi, .int .i64 x0.we.lo, .int .i64 x0.we.hi, .int .i64 x0.sn.lo, .int .i64 x0.sn.hi, .int .i64 ic.bl.lo, .int .i64 ic.bl.hi, .int .i64 ic.wh.lo, .int .i64 ic.wh.hi, .int .i64 ic.we.lo, .int .i64 ic.we.hi, .int .i64 ic.sn.lo, .int .i64 ic.sn.hi, .int .i64 ic.bl.lo, .int .i64 ic.bl.hi, .int .i64 ic.wh.lo, .int .i64 ic.wh.hi, .int .i64 ic.we.lo, .int .i64 ic.we.hi, .int .i64 ic.sn.lo, .int .i64 ic.sn.hi], fun g => .slice (some ⟨g, 0, none⟩) 3 3, fun t => t 62 = .agg (iceC x0) ∧ t 63 = .agg (iceC ic) ∧ t 64 = .agg (iceC ic)⟩, ⟨11, 69, 36, fun t => #[.slice da0 d0.length dc0, .slice (some ⟨g47, 0, none⟩) (dl.length + 1) cap48, .slice da0 d0.length dc0], fun g => .slice (some ⟨g, 0, none⟩) 3 3, fun t => t 66 = .slice da0 d0.length dc0 ∧ t 67 = .slice (some ⟨g47, 0, none⟩) (dl.length + 1) cap48 ∧ t 68 = .slice da0 d0.length dc0⟩, ⟨18, 76, 3, fun t => #[.int .i64 att, t 74, .int .i64 att], fun g => .slice (some ⟨g, 0, none⟩) 3 3, fun t => ∃ (r60 : Int), t 70 = .int .i64 att ∧ t 74 = .int .i64 r60 ∧ t 75 = .int .i64 att⟩, ⟨23, 81, 3, fun t => #[.int .i64 most, t 79, .int .i64 most], fun g => .slice (some ⟨g, 0, none⟩) 3 3, fun t => ∃ (r62 : Int), t 77 = .int .i64 most ∧ t 79 = .int .i64 r62 ∧ t 80 = .int .i64 most⟩] [⟨24, 17, 3, 61⟩, ⟨25, 18, 7, 65⟩, ⟨26, 19, 11, 69⟩, ⟨27, 20, 18, 76⟩, ⟨28, 21, 23, 81⟩] [16, 21] F56 (by kernel_rfl) (by kernel_rfl) (by kernel_rfl) (fun _ _ _ _ _ h => h) (U0 := (fun t => t 58 = .agg (froC l0 (.slice sa0 l0.cov.length sc0)) ∧ t 59 = .agg (froC l (.slice sal l.cov.length scl)) ∧ t 60 = .agg (froC l (.slice sal l.cov.length scl)) ∧ t 62 = .agg (iceC x0) ∧ t 63 = .agg (iceC ic) ∧ t 64 = .agg (iceC ic) ∧ t 66 = .slice da0 d0.length dc0 ∧ t 67 = .slice (some ⟨g47, 0, none⟩) (dl.length + 1) cap48 ∧ t 68 = .slice da0 d0.length dc0 ∧ t 70 = .int .i64 att ∧ t 71 = .pointer (some ⟨sb, 0, none⟩) ∧ t 73 = .int .i64 ((dl.length + 1) : Int) ∧ t 75 = .int .i64 att ∧ t 77 = .int .i64 most ∧ t 78 = .pointer (some ⟨sb, 0, none⟩) ∧ t 80 = .int .i64 most)) (Um := (fun t => ∃ (r60 : Int) (r62 : Int), (1 ≤ r60 ∧ r60 ≤ ((dl.length + 1) : Int)) ∧ (0 ≤ r62 ∧ (r62 < 60 ∨ r62 = 0)) ∧ t 58 = .agg (froC l0 (.slice sa0 l0.cov.length sc0)) ∧ t 59 = .agg (froC l (.slice sal l.cov.length scl)) ∧ t 60 = .agg (froC l (.slice sal l.cov.length scl)) ∧ t 62 = .agg (iceC x0) ∧ t 63 = .agg (iceC ic) ∧ t 64 = .agg (iceC ic) ∧ t 66 = .slice da0 d0.length dc0 ∧ t 67 = .slice (some ⟨g47, 0, none⟩) (dl.length + 1) cap48 ∧ t 68 = .slice da0 d0.length dc0 ∧ t 70 = .int .i64 att ∧ t 74 = .int .i64 r60 ∧ t 75 = .int .i64 att ∧ t 77 = .int .i64 most ∧ t 79 = .int .i64 r62 ∧ t 80 = .int .i64 most)) ?chM59 ?alM59 ?mvM59 (List.forall_mem_cons.2 ⟨List.forall_mem_cons.2 ⟨fun _ _ => rfl, List.forall_mem_cons.2 ⟨fun _ _ => rfl, List.forall_mem_cons.2 ⟨fun _ _ => rfl, List.forall_mem_cons.2 ⟨fun _ _ => rfl, List.forall_mem_cons.2 ⟨fun _ _ => rfl, List.forall_mem_cons.2 ⟨fun _ _ => rfl, List.forall_mem_cons.2 ⟨fun _ _ => rfl, List.forall_mem_cons.2 ⟨fun _ _ => rfl, List.forall_mem_cons.2 ⟨fun _ _ => rfl, List.forall_mem_cons.2 ⟨fun _ _ => rfl, fun _ h => (by cases h)⟩⟩⟩⟩⟩⟩⟩⟩⟩⟩, List.forall_mem_cons.2 ⟨List.forall_mem_cons.2 ⟨fun _ _ => rfl, List.forall_mem_cons.2 ⟨fun _ _ => rfl, List.forall_mem_cons.2 ⟨fun _ _ => rfl, List.forall_mem_cons.2 ⟨fun _ _ => rfl, List.forall_mem_cons.2 ⟨fun _ _ => rfl, List.forall_mem_cons.2 ⟨fun _ _ => rfl, List.forall_mem_cons.2 ⟨fun _ _ => rfl, List.forall_mem_cons.2 ⟨fun _ _ => rfl, List.forall_mem_cons.2 ⟨fun _ _ => rfl, List.forall_mem_cons.2 ⟨fun _ _ => rfl, fun _ h => (by cases h)⟩⟩⟩⟩⟩⟩⟩⟩⟩⟩, List.forall_mem_cons.2 ⟨List.forall_mem_cons.2 ⟨fun _ _ => rfl, List.forall_mem_cons.2 ⟨fun _ _ => rfl, List.forall_mem_cons.2 ⟨fun _ _ => rfl, List.forall_mem_cons.2 ⟨fun _ _ => rfl, List.forall_mem_cons.2 ⟨fun _ _ => rfl, List.forall_mem_cons.2 ⟨fun _ _ => rfl, List.forall_mem_cons.2 ⟨fun _ _ => rfl, List.forall_mem_cons.2 ⟨fun _ _ => rfl, List.forall_mem_cons.2 ⟨fun _ _ => rfl, List.forall_mem_cons.2 ⟨fun _ _ => rfl, fun _ h => (by cases h)⟩⟩⟩⟩⟩⟩⟩⟩⟩⟩, List.forall_mem_cons.2 ⟨List.forall_mem_cons.2 ⟨fun _ _ => rfl, List.forall_mem_cons.2 ⟨fun _ _ => rfl, List.forall_mem_cons.2 ⟨fun _ _ => rfl, List.forall_mem_cons.2 ⟨fun _ _ => rfl, List.forall_mem_cons.2 ⟨fun _ _ => rfl, List.forall_mem_cons.2 ⟨fun _ _ => rfl, List.forall_mem_cons.2 ⟨fun _ _ => rfl, List.forall_mem_cons.2 ⟨fun _ _ => rfl, List.forall_mem_cons.2 ⟨fun _ _ => rfl, List.forall_mem_cons.2 ⟨fun _ _ => rfl, fun _ h => (by cases h)⟩⟩⟩⟩⟩⟩⟩⟩⟩⟩, List.forall_mem_cons.2 ⟨List.forall_mem_cons.2 ⟨fun _ _ => rfl, List.forall_mem_cons.2 ⟨fun _ _ => rfl, List.forall_mem_cons.2 ⟨fun _ _ => rfl, List.forall_mem_cons.2 ⟨fun _ _ => rfl, List.forall_mem_cons.2 ⟨fun _ _ => rfl, List.forall_mem_cons.2 ⟨fun _ _ => rfl, List.forall_mem_cons.2 ⟨fun _ _ => rfl, List.forall_mem_cons.2 ⟨fun _ _ => rfl, List.forall_mem_cons.2 ⟨fun _ _ => rfl, List.forall_mem_cons.2 ⟨fun _ _ => rfl, fun _ h => (by cases h)⟩⟩⟩⟩⟩⟩⟩⟩⟩⟩, fun _ h => (by cases h)⟩⟩⟩⟩⟩) ⟨(by kernel_rfl), rfl, ⟨(by kernel_rfl), (by kernel_rfl), (by kernel_rfl), (by kernel_rfl), (by kernel_rfl), (by kernel_rfl), (by kernel_rfl), (by kernel_rfl), (by kernel_rfl), (by kernel_rfl), (by kernel_rfl), (by kernel_rfl), (by kernel_rfl), (by kernel_rfl), (by kernel_rfl), (by kernel_rfl)⟩⟩ ?restM59
        case chM59 =>
          refine ChainL.callS 16 (fun t => ∃ (r60 : Int), (1 ≤ r60 ∧ r60 ≤ ((dl.length + 1) : Int)) ∧ t 58 = .agg (froC l0 (.slice sa0 l0.cov.length sc0)) ∧ t 59 = .agg (froC l (.slice sal l.cov.length scl)) ∧ t 60 = .agg (froC l (.slice sal l.cov.length scl)) ∧ t 62 = .agg (iceC x0) ∧ t 63 = .agg (iceC ic) ∧ t 64 = .agg (iceC ic) ∧ t 66 = .slice da0 d0.length dc0 ∧ t 67 = .slice (some ⟨g47, 0, none⟩) (dl.length + 1) cap48 ∧ t 68 = .slice da0 d0.length dc0 ∧ t 70 = .int .i64 att ∧ t 74 = .int .i64 r60 ∧ t 75 = .int .i64 att ∧ t 77 = .int .i64 most ∧ t 78 = .pointer (some ⟨sb, 0, none⟩) ∧ t 80 = .int .i64 most) (List.forall_mem_cons.2 ⟨fun _ _ u => u, List.forall_mem_cons.2 ⟨fun _ _ u => u, List.forall_mem_cons.2 ⟨fun _ _ u => u, List.forall_mem_cons.2 ⟨fun _ _ u => u, List.forall_mem_cons.2 ⟨fun _ _ u => u, List.forall_mem_cons.2 ⟨fun _ _ u => u, List.forall_mem_cons.2 ⟨fun _ _ u => u, List.forall_mem_cons.2 ⟨fun _ _ u => u, List.forall_mem_cons.2 ⟨fun _ _ u => u, List.forall_mem_cons.2 ⟨fun _ _ u => u, fun _ h => (by cases h)⟩⟩⟩⟩⟩⟩⟩⟩⟩⟩) hSS (List.forall_mem_cons.2 ⟨fun _ t ⟨e58, e59, e60, e62, e63, e64, e66, e67, e68, e70, e71, e73, e75, e77, e78, e80⟩ => ⟨e58, e59, e60⟩, List.forall_mem_cons.2 ⟨fun _ t ⟨e58, e59, e60, e62, e63, e64, e66, e67, e68, e70, e71, e73, e75, e77, e78, e80⟩ => ⟨e62, e63, e64⟩, List.forall_mem_cons.2 ⟨fun _ t ⟨e58, e59, e60, e62, e63, e64, e66, e67, e68, e70, e71, e73, e75, e77, e78, e80⟩ => ⟨e66, e67, e68⟩, List.forall_mem_cons.2 ⟨fun h_ => no_dep (by kernel_rfl) h_, List.forall_mem_cons.2 ⟨fun h_ => no_dep (by kernel_rfl) h_, fun _ h => (by cases h)⟩⟩⟩⟩⟩) (by kernel_rfl) ?_ ?_
          · rintro t w_ LA ⟨e58, e59, e60, e62, e63, e64, e66, e67, e68, e70, e71, e73, e75, e77, e78, e80⟩ ⟨F_, hwn_⟩
            have hws := F_.gb.size
            rw [rng_floods_walk t, e58, e59, e60, e62, e63, e64, e66, e67, e68, e70, e71, e73, e75, e77, e78, e80]
            clear e58 e59 e60 e62 e63 e64 e66 e67 e68 e70 e71 e73 e75 e77 e78 e80
            refine wpOp_stepH rfl (fun K hK => ?_)
            go_simp
            refine (from_c sb 1 ((dl.length + 1) : Int) _ (F_.at 1 rfl : SeedAt _ sb) (by omega) (by omega) (by omega) (by omega)).mono ?_
            rintro e w64 ⟨r60, rfl, hr61, hs66, hg65⟩
            unfold fromR at hr61; have hr61b : 1 ≤ r60 ∧ r60 ≤ ((dl.length + 1) : Int) := (by omega); clear hr61
            exact hK.out _ _ ⟨(by kernel_rfl), rfl, ⟨r60, (by first | assumption | omega), (by kernel_rfl), (by kernel_rfl), (by kernel_rfl), (by kernel_rfl), (by kernel_rfl), (by kernel_rfl), (by kernel_rfl), (by kernel_rfl), (by kernel_rfl), (by kernel_rfl), (by kernel_rfl), (by kernel_rfl), (by kernel_rfl), (by kernel_rfl), (by kernel_rfl)⟩, List.forall_mem_cons.2 ⟨(by kernel_rfl), List.forall_mem_cons.2 ⟨(by kernel_rfl), List.forall_mem_cons.2 ⟨(by kernel_rfl), List.forall_mem_cons.2 ⟨(by kernel_rfl), List.forall_mem_cons.2 ⟨(by kernel_rfl), List.forall_mem_cons.2 ⟨(by kernel_rfl), List.forall_mem_cons.2 ⟨(by kernel_rfl), List.forall_mem_cons.2 ⟨(by kernel_rfl), List.forall_mem_cons.2 ⟨(by kernel_rfl), List.forall_mem_cons.2 ⟨(by kernel_rfl), fun _ h => (by cases h)⟩⟩⟩⟩⟩⟩⟩⟩⟩⟩, List.forall_mem_cons.2 ⟨fun _ => (by kernel_rfl), List.forall_mem_cons.2 ⟨fun _ => (by kernel_rfl), List.forall_mem_cons.2 ⟨fun _ => (by kernel_rfl), List.forall_mem_cons.2 ⟨fun h_ => no_dep (by kernel_rfl) h_, List.forall_mem_cons.2 ⟨fun h_ => no_dep (by kernel_rfl) h_, fun _ h => (by cases h)⟩⟩⟩⟩⟩, ⟨F_.seedAt 1 rfl hg65 hs66, Nat.le_trans hwn_ hg65.size⟩, hSS _ _ ⟨F_.seedAt 1 rfl hg65 hs66, Nat.le_trans hwn_ hg65.size⟩⟩
          refine ChainL.callS 21 (fun t => ∃ (r60 : Int) (r62 : Int), (1 ≤ r60 ∧ r60 ≤ ((dl.length + 1) : Int)) ∧ (0 ≤ r62 ∧ (r62 < 60 ∨ r62 = 0)) ∧ t 58 = .agg (froC l0 (.slice sa0 l0.cov.length sc0)) ∧ t 59 = .agg (froC l (.slice sal l.cov.length scl)) ∧ t 60 = .agg (froC l (.slice sal l.cov.length scl)) ∧ t 62 = .agg (iceC x0) ∧ t 63 = .agg (iceC ic) ∧ t 64 = .agg (iceC ic) ∧ t 66 = .slice da0 d0.length dc0 ∧ t 67 = .slice (some ⟨g47, 0, none⟩) (dl.length + 1) cap48 ∧ t 68 = .slice da0 d0.length dc0 ∧ t 70 = .int .i64 att ∧ t 74 = .int .i64 r60 ∧ t 75 = .int .i64 att ∧ t 77 = .int .i64 most ∧ t 79 = .int .i64 r62 ∧ t 80 = .int .i64 most) (List.forall_mem_cons.2 ⟨fun _ _ u => u, List.forall_mem_cons.2 ⟨fun _ _ u => u, List.forall_mem_cons.2 ⟨fun _ _ u => u, List.forall_mem_cons.2 ⟨fun _ _ u => u, List.forall_mem_cons.2 ⟨fun _ _ u => u, List.forall_mem_cons.2 ⟨fun _ _ u => u, List.forall_mem_cons.2 ⟨fun _ _ u => u, List.forall_mem_cons.2 ⟨fun _ _ u => u, List.forall_mem_cons.2 ⟨fun _ _ u => u, List.forall_mem_cons.2 ⟨fun _ _ u => u, fun _ h => (by cases h)⟩⟩⟩⟩⟩⟩⟩⟩⟩⟩) hSS (List.forall_mem_cons.2 ⟨fun _ t ⟨r60, hr61b, e58, e59, e60, e62, e63, e64, e66, e67, e68, e70, e74, e75, e77, e78, e80⟩ => ⟨e58, e59, e60⟩, List.forall_mem_cons.2 ⟨fun _ t ⟨r60, hr61b, e58, e59, e60, e62, e63, e64, e66, e67, e68, e70, e74, e75, e77, e78, e80⟩ => ⟨e62, e63, e64⟩, List.forall_mem_cons.2 ⟨fun _ t ⟨r60, hr61b, e58, e59, e60, e62, e63, e64, e66, e67, e68, e70, e74, e75, e77, e78, e80⟩ => ⟨e66, e67, e68⟩, List.forall_mem_cons.2 ⟨fun _ t ⟨r60, hr61b, e58, e59, e60, e62, e63, e64, e66, e67, e68, e70, e74, e75, e77, e78, e80⟩ => ⟨r60, e70, e74, e75⟩, List.forall_mem_cons.2 ⟨fun h_ => no_dep (by kernel_rfl) h_, fun _ h => (by cases h)⟩⟩⟩⟩⟩) (by kernel_rfl) ?_ ?_
          · rintro t w_ LA ⟨r60, hr61b, e58, e59, e60, e62, e63, e64, e66, e67, e68, e70, e74, e75, e77, e78, e80⟩ ⟨F_, hwn_⟩
            have hws := F_.gb.size
            rw [rng_floods_walk t, e58, e59, e60, e62, e63, e64, e66, e67, e68, e70, e74, e75, e77, e78, e80]
            clear e58 e59 e60 e62 e63 e64 e66 e67 e68 e70 e75 e77 e78 e80
            refine wpOp_stepH rfl (fun K hK => ?_)
            go_simp
            refine (below_c sb 60 _ (F_.at 1 rfl : SeedAt _ sb) (by omega) (by omega)).mono ?_
            rintro e w67 ⟨r62, rfl, hr63, hs69, hg68⟩
            unfold belowR at hr63
            exact hK.out _ _ ⟨(by kernel_rfl), rfl, ⟨r60, r62, (by first | assumption | omega), (by first | assumption | omega), (by kernel_rfl), (by kernel_rfl), (by kernel_rfl), (by kernel_rfl), (by kernel_rfl), (by kernel_rfl), (by kernel_rfl), (by kernel_rfl), (by kernel_rfl), (by kernel_rfl), (by kernel_rfl), (by kernel_rfl), (by kernel_rfl), (by kernel_rfl), (by kernel_rfl)⟩, List.forall_mem_cons.2 ⟨(by kernel_rfl), List.forall_mem_cons.2 ⟨(by kernel_rfl), List.forall_mem_cons.2 ⟨(by kernel_rfl), List.forall_mem_cons.2 ⟨(by kernel_rfl), List.forall_mem_cons.2 ⟨(by kernel_rfl), List.forall_mem_cons.2 ⟨(by kernel_rfl), List.forall_mem_cons.2 ⟨(by kernel_rfl), List.forall_mem_cons.2 ⟨(by kernel_rfl), List.forall_mem_cons.2 ⟨(by kernel_rfl), List.forall_mem_cons.2 ⟨(by kernel_rfl), fun _ h => (by cases h)⟩⟩⟩⟩⟩⟩⟩⟩⟩⟩, List.forall_mem_cons.2 ⟨fun _ => (by kernel_rfl), List.forall_mem_cons.2 ⟨fun _ => (by kernel_rfl), List.forall_mem_cons.2 ⟨fun _ => (by kernel_rfl), List.forall_mem_cons.2 ⟨fun _ => Eq.trans (b := #[.int .i64 att, .int .i64 r60, .int .i64 att]) (by kernel_rfl) (by show #[.int .i64 att, .int .i64 r60, .int .i64 att] = #[.int .i64 att, t 74, .int .i64 att]; rw [e74]), List.forall_mem_cons.2 ⟨fun h_ => no_dep (by kernel_rfl) h_, fun _ h => (by cases h)⟩⟩⟩⟩⟩, ⟨F_.seedAt 1 rfl hg68 hs69, Nat.le_trans hwn_ hg68.size⟩, hSS _ _ ⟨F_.seedAt 1 rfl hg68 hs69, Nat.le_trans hwn_ hg68.size⟩⟩
          exact ChainL.nil _ _ _ (List.forall_mem_cons.2 ⟨fun _ _ u => u, List.forall_mem_cons.2 ⟨fun _ _ u => u, List.forall_mem_cons.2 ⟨fun _ _ u => u, List.forall_mem_cons.2 ⟨fun _ _ u => u, List.forall_mem_cons.2 ⟨fun _ _ u => u, List.forall_mem_cons.2 ⟨fun _ _ u => u, List.forall_mem_cons.2 ⟨fun _ _ u => u, List.forall_mem_cons.2 ⟨fun _ _ u => u, List.forall_mem_cons.2 ⟨fun _ _ u => u, List.forall_mem_cons.2 ⟨fun _ _ u => u, fun _ h => (by cases h)⟩⟩⟩⟩⟩⟩⟩⟩⟩⟩) hSS (List.forall_mem_cons.2 ⟨fun _ t ⟨r60, r62, hr61b, hr63, e58, e59, e60, e62, e63, e64, e66, e67, e68, e70, e74, e75, e77, e79, e80⟩ => ⟨e58, e59, e60⟩, List.forall_mem_cons.2 ⟨fun _ t ⟨r60, r62, hr61b, hr63, e58, e59, e60, e62, e63, e64, e66, e67, e68, e70, e74, e75, e77, e79, e80⟩ => ⟨e62, e63, e64⟩, List.forall_mem_cons.2 ⟨fun _ t ⟨r60, r62, hr61b, hr63, e58, e59, e60, e62, e63, e64, e66, e67, e68, e70, e74, e75, e77, e79, e80⟩ => ⟨e66, e67, e68⟩, List.forall_mem_cons.2 ⟨fun _ t ⟨r60, r62, hr61b, hr63, e58, e59, e60, e62, e63, e64, e66, e67, e68, e70, e74, e75, e77, e79, e80⟩ => ⟨r60, e70, e74, e75⟩, List.forall_mem_cons.2 ⟨fun _ t ⟨r60, r62, hr61b, hr63, e58, e59, e60, e62, e63, e64, e66, e67, e68, e70, e74, e75, e77, e79, e80⟩ => ⟨r62, e77, e79, e80⟩, fun _ h => (by cases h)⟩⟩⟩⟩⟩)
        case alM59 =>
          refine List.forall_mem_cons.2 ⟨fun t w K hv h => ?_, ?_⟩
          · obtain ⟨e58, e59, e60⟩ := hv; (try dsimp only at h); rw [rng_floods_walk t, e58, e59, e60] at h ⊢; exact wpOp_step rfl (fun K hK => by go_simp; exact hK _ _ h)
          refine List.forall_mem_cons.2 ⟨fun t w K hv h => ?_, ?_⟩
          · obtain ⟨e62, e63, e64⟩ := hv; (try dsimp only at h); rw [rng_floods_walk t, e62, e63, e64] at h ⊢; exact wpOp_step rfl (fun K hK => by go_simp; exact hK _ _ h)
          refine List.forall_mem_cons.2 ⟨fun t w K hv h => ?_, ?_⟩
          · obtain ⟨e66, e67, e68⟩ := hv; (try dsimp only at h); rw [rng_floods_walk t, e66, e67, e68] at h ⊢; exact wpOp_step rfl (fun K hK => by go_simp; exact hK _ _ h)
          refine List.forall_mem_cons.2 ⟨fun t w K hv h => ?_, ?_⟩
          · obtain ⟨r60, e70, e74, e75⟩ := hv; (try dsimp only at h); rw [rng_floods_walk t, e70, e74, e75] at h ⊢; exact wpOp_step rfl (fun K hK => by go_simp; exact hK _ _ h)
          refine List.forall_mem_cons.2 ⟨fun t w K hv h => ?_, ?_⟩
          · obtain ⟨r62, e77, e79, e80⟩ := hv; (try dsimp only at h); rw [rng_floods_walk t, e77, e79, e80] at h ⊢; exact wpOp_step rfl (fun K hK => by go_simp; exact hK _ _ h)
          exact fun _ h => (by cases h)
        case mvM59 => exact List.forall_mem_cons.2 ⟨⟨_, rfl, fun t => .inl ⟨by first | kernel_rfl | rfl, fun w_ _ => by rw [rng_floods_walk t]; go_simp; (try with_reducible rfl)⟩⟩, List.forall_mem_cons.2 ⟨⟨_, rfl, fun t => .inl ⟨by first | kernel_rfl | rfl, fun w_ _ => by rw [rng_floods_walk t]; go_simp; (try with_reducible rfl)⟩⟩, List.forall_mem_cons.2 ⟨⟨_, rfl, fun t => .inl ⟨by first | kernel_rfl | rfl, fun w_ _ => by rw [rng_floods_walk t]; go_simp; (try with_reducible rfl)⟩⟩, List.forall_mem_cons.2 ⟨⟨_, rfl, fun t => .inl ⟨by first | kernel_rfl | rfl, fun w_ _ => by rw [rng_floods_walk t]; go_simp; (try with_reducible rfl)⟩⟩, List.forall_mem_cons.2 ⟨⟨_, rfl, fun t => .inl ⟨by first | kernel_rfl | rfl, fun w_ _ => by rw [rng_floods_walk t]; go_simp; (try with_reducible rfl)⟩⟩, fun _ h => (by cases h)⟩⟩⟩⟩⟩
        case restM59 =>
          rintro t w75 g ⟨r60, r62, hr61b, hr63, e58, e59, e60, e62, e63, e64, e66, e67, e68, e70, e74, e75, e77, e79, e80⟩ hA hB ⟨F_, hwnM59⟩
          clear hSS
          clear F56
          have hA0_0 : t 61 = .slice (some ⟨g 3, 0, none⟩) 3 3 := hA _ (.head _)
          have hA0_1 : t 17 = .slice (some ⟨g 3, 0, none⟩) 3 3 := hB _ (.head _) _ (.head _) rfl
          have hA1_0 : t 65 = .slice (some ⟨g 7, 0, none⟩) 3 3 := hA _ (.tail _ (.head _))
          have hA1_1 : t 18 = .slice (some ⟨g 7, 0, none⟩) 3 3 := hB _ (.tail _ (.head _)) _ (.tail _ (.head _)) rfl
          have hA2_0 : t 69 = .slice (some ⟨g 11, 0, none⟩) 3 3 := hA _ (.tail _ (.tail _ (.head _)))
          have hA2_1 : t 19 = .slice (some ⟨g 11, 0, none⟩) 3 3 := hB _ (.tail _ (.tail _ (.head _))) _ (.tail _ (.tail _ (.head _))) rfl
          have hA3_0 : t 76 = .slice (some ⟨g 18, 0, none⟩) 3 3 := hA _ (.tail _ (.tail _ (.tail _ (.head _))))
          have hA3_1 : t 20 = .slice (some ⟨g 18, 0, none⟩) 3 3 := hB _ (.tail _ (.tail _ (.tail _ (.head _)))) _ (.tail _ (.tail _ (.tail _ (.head _)))) rfl
          have hA4_0 : t 81 = .slice (some ⟨g 23, 0, none⟩) 3 3 := hA _ (.tail _ (.tail _ (.tail _ (.tail _ (.head _)))))
          have hA4_1 : t 21 = .slice (some ⟨g 23, 0, none⟩) 3 3 := hB _ (.tail _ (.tail _ (.tail _ (.tail _ (.head _))))) _ (.tail _ (.tail _ (.tail _ (.tail _ (.head _))))) rfl
          (try simp only [List.map_cons, List.map_nil, List.cons_append, List.nil_append] at F_)
          simp only [e74, e79] at F_
          have F76 := F_
          clear hA hB F_
          obtain ⟨g70, hgx_⟩ : ∃ x_, g 3 = x_ := ⟨_, rfl⟩
          rw [hgx_] at hA0_0 hA0_1 F76; clear hgx_
          obtain ⟨g71, hgx_⟩ : ∃ x_, g 7 = x_ := ⟨_, rfl⟩
          rw [hgx_] at hA1_0 hA1_1 F76; clear hgx_
          obtain ⟨g72, hgx_⟩ : ∃ x_, g 11 = x_ := ⟨_, rfl⟩
          rw [hgx_] at hA2_0 hA2_1 F76; clear hgx_
          obtain ⟨g73, hgx_⟩ : ∃ x_, g 18 = x_ := ⟨_, rfl⟩
          rw [hgx_] at hA3_0 hA3_1 F76; clear hgx_
          obtain ⟨g74, hgx_⟩ : ∃ x_, g 23 = x_ := ⟨_, rfl⟩
          rw [hgx_] at hA4_0 hA4_1 F76; clear hgx_
          have hws := F76.gb.size
          have g70l := (F76.at 0 rfl : Bk _ _ _ _).lt
          have g71l := (F76.at 1 rfl : Bk _ _ _ _).lt
          have g72l := (F76.at 2 rfl : Bk _ _ _ _).lt
          have g73l := (F76.at 3 rfl : Bk _ _ _ _).lt
          have g74l := (F76.at 4 rfl : Bk _ _ _ _).lt
          rw [rng_floods_walk t, e58, e59, e60, e62, e63, e64, e66, e67, e68, e70, e74, e75, e77, e79, e80, hA0_0, hA0_1, hA1_0, hA1_1, hA2_0, hA2_1, hA3_0, hA3_1, hA4_0, hA4_1]
          clear e58 e59 e60 e62 e63 e64 e66 e67 e68 e70 e74 e75 e77 e79 e80 hA0_0 hA0_1 hA1_0 hA1_1 hA2_0 hA2_1 hA3_0 hA3_1 hA4_0 hA4_1
          have Fn_ := ((((F76.drop 7 rfl).drop 7 rfl).drop 8 rfl).drop 8 rfl)
          (try dsimp only [List.eraseIdx_cons_succ, List.eraseIdx_cons_zero] at Fn_)
          obtain ⟨w77, hx78, F80, hxs79⟩ := Fn_.name
          (try simp at hxs79)
          rw [hx78]
          clear hx78 F76 Fn_
          go_wp2_with fail
          refine wp_loop_rounds 4 ?_
          rw [rounds_succ]
          have b82 := F80.bx3 2 rfl
          go_wp2_with (at_builtin; refine wpList_copyB okWea rfl _ _ rfl w.heap.size w77.heap.size rfl (F80.new 35 #[] (n := w77.heap.size) (by simp)) (by first | omega | (simp; omega)) 0 w.heap.size (.slice da0 d0.length dc0) d0 rfl ((F80.new 35 #[] (n := w77.heap.size) (by simp)).at 10 rfl) (by omega) ?_; intro vc83 w84 hB85 hs86; refine Hid.out ?_)
          refine Lib.hid ?_
          (try simp at hs86)
          clear b82
          have F87 := hB85
          clear F80
          obtain ⟨ca88, cap89, e_⟩ := (Own.sl (F87.at 0 rfl : Own weaEnc 35 6 w.heap.size _ vc83 d0) (fun _ => rfl)).any
          subst e_
          go_wp2_with fail
          have F90 := F87.drew
          clear F87
          refine ru_begin (fun W => W.cell? ⟨g70, 0, none⟩ = some (.int .i64 l0.gr) ∧ W.cell? ⟨g70, 1, none⟩ = some (.int .i64 l0.la) ∧ W.cell? ⟨g70, 2, none⟩ = some (.slice sa0 l0.cov.length sc0) ∧ W.cell? ⟨g70, 3, none⟩ = some (.int .i64 l0.melt.lo) ∧ W.cell? ⟨g70, 4, none⟩ = some (.int .i64 l0.melt.hi) ∧ W.cell? ⟨g70, 5, none⟩ = some (.int .i64 l0.soak) ∧ W.cell? ⟨g70, 6, none⟩ = some (.int .i64 l0.white.lo) ∧ W.cell? ⟨g70, 7, none⟩ = some (.int .i64 l0.white.hi) ∧ W.cell? ⟨g71, 0, none⟩ = some (.int .i64 x0.bl.lo) ∧ W.cell? ⟨g71, 1, none⟩ = some (.int .i64 x0.bl.hi) ∧ W.cell? ⟨g71, 2, none⟩ = some (.int .i64 x0.wh.lo) ∧ W.cell? ⟨g71, 3, none⟩ = some (.int .i64 x0.wh.hi) ∧ W.cell? ⟨g71, 4, none⟩ = some (.int .i64 x0.we.lo) ∧ W.cell? ⟨g71, 5, none⟩ = some (.int .i64 x0.we.hi) ∧ W.cell? ⟨g71, 6, none⟩ = some (.int .i64 x0.sn.lo) ∧ W.cell? ⟨g71, 7, none⟩ = some (.int .i64 x0.sn.hi) ∧ W.cell? ⟨g73, 0, none⟩ = some (.int .i64 att) ∧ W.cell? ⟨g74, 0, none⟩ = some (.int .i64 most)) 22 (by kernel_rfl) ?_ ?_
          · exact ⟨F90.cl 1 0 rfl rfl, F90.cl 1 1 rfl rfl, F90.cl 1 2 rfl rfl, F90.cl 1 3 rfl rfl, F90.cl 1 4 rfl rfl, F90.cl 1 5 rfl rfl, F90.cl 1 6 rfl rfl, F90.cl 1 7 rfl rfl, F90.cl 2 0 rfl rfl, F90.cl 2 1 rfl rfl, F90.cl 2 2 rfl rfl, F90.cl 2 3 rfl rfl, F90.cl 2 4 rfl rfl, F90.cl 2 5 rfl rfl, F90.cl 2 6 rfl rfl, F90.cl 2 7 rfl rfl, F90.cl 4 0 rfl rfl, F90.cl 5 0 rfl rfl⟩
          obtain ⟨wd92, hwd_⟩ : ∃ x : World, w84.drew = x := ⟨_, rfl⟩
          rw [hwd_] at F90 ⊢
          have wd92s : w84.heap.size ≤ wd92.heap.size := by rw [← hwd_]; exact Nat.le_refl _
          clear hwd_
          have hS91 := (And.intro (F90.cl 1 0 rfl rfl) (And.intro (F90.cl 1 1 rfl rfl) (And.intro (F90.cl 1 2 rfl rfl) (And.intro (F90.cl 1 3 rfl rfl) (And.intro (F90.cl 1 4 rfl rfl) (And.intro (F90.cl 1 5 rfl rfl) (And.intro (F90.cl 1 6 rfl rfl) (And.intro (F90.cl 1 7 rfl rfl) (And.intro (F90.cl 2 0 rfl rfl) (And.intro (F90.cl 2 1 rfl rfl) (And.intro (F90.cl 2 2 rfl rfl) (And.intro (F90.cl 2 3 rfl rfl) (And.intro (F90.cl 2 4 rfl rfl) (And.intro (F90.cl 2 5 rfl rfl) (And.intro (F90.cl 2 6 rfl rfl) (And.intro (F90.cl 2 7 rfl rfl) (And.intro (F90.cl 4 0 rfl rfl) (F90.cl 5 0 rfl rfl))))))))))))))))))
          refine ru_t 0 [] ?_
          refine ru_t 1 [] ?_
          refine ru_t 2 [] ?_
          refine ru_t 3 [] ?_
          refine ru_t 4 [] ?_
          refine ru_t 5 [] ?_
          refine ru_t 6 [] ?_
          refine ru_t 7 [] ?_
          refine ru_t 8 [] ?_
          refine ru_t 9 [] ?_
          refine ru_t 10 [] ?_
          refine ru_t 11 [] ?_
          refine ru_t 12 [] ?_
          refine ru_t 13 [] ?_
          refine ru_t 14 [] ?_
          refine ru_t 15 [] ?_
          refine ru_t 16 [] ?_
          (try simp only [Act.put, List.setIfInBounds_toArray, List.set_cons_zero, List.set_cons_succ])
          clear hS91
          refine ru_one 17 rfl (by kernel_rfl) (fun K hK => ?_)
          go_simp
          refine (flood_c _ _ _ l0 x0 _ _ _ d0 att most _ (F90.at 11 rfl : Sl covEnc 3 0 w.heap.size _ (.slice sa0 l0.cov.length sc0) l0.cov) (by first | omega | (simp; omega)) (Own.sl (F90.at 0 rfl : Own weaEnc 35 6 w.heap.size _ (.slice ca88 d0.length cap89) d0) (fun _ => rfl)) (Nat.le_refl _)).mono ?_
          rintro e w95 ⟨rfl, hg93⟩
          have hg93s := hg93.size
          (try simp at hg93s)
          have F96 := F90.gn hg93
          clear F90
          refine ru_back hK (by exact ⟨F96.cl 1 0 rfl rfl, F96.cl 1 1 rfl rfl, F96.cl 1 2 rfl rfl, F96.cl 1 3 rfl rfl, F96.cl 1 4 rfl rfl, F96.cl 1 5 rfl rfl, F96.cl 1 6 rfl rfl, F96.cl 1 7 rfl rfl, F96.cl 2 0 rfl rfl, F96.cl 2 1 rfl rfl, F96.cl 2 2 rfl rfl, F96.cl 2 3 rfl rfl, F96.cl 2 4 rfl rfl, F96.cl 2 5 rfl rfl, F96.cl 2 6 rfl rfl, F96.cl 2 7 rfl rfl, F96.cl 4 0 rfl rfl, F96.cl 5 0 rfl rfl⟩) (fun hHeld => ?_)
          clear hK K
          (try simp only [Act.put, List.setIfInBounds_toArray, List.set_cons_zero, List.set_cons_succ])
          refine ru_p 18 ?_
          (try simp only [Act.put, List.setIfInBounds_toArray, List.set_cons_zero, List.set_cons_succ])
          refine ru_p 19 ?_
          refine ru_p 20 ?_
          (try simp only [Act.put, List.setIfInBounds_toArray, List.set_cons_zero, List.set_cons_succ])
          refine ru_p 21 ?_
          (try simp only [Act.put, List.setIfInBounds_toArray, List.set_cons_zero, List.set_cons_succ])
          refine ru_one 22 rfl (by kernel_rfl) (fun K hK => ?_)
          go_simp
          refine ru_back_late hK (by kernel_rfl) ?_
          clear hK K
          (try simp only [Act.put, List.setIfInBounds_toArray, List.set_cons_zero, List.set_cons_succ])
          refine ru_done (by kernel_rfl) ?_
          have Fn_ := F96
          (try dsimp only [List.eraseIdx_cons_succ, List.eraseIdx_cons_zero] at Fn_)
          obtain ⟨w97, hx98, F100, hxs99⟩ := Fn_.name
          (try simp at hxs99)
          rw [hx98]
          clear hx98 F96 Fn_
          go_wp2_with fail
          have F101 := F100.drew
          clear F100
          refine ru_begin (fun W => W.cell? ⟨g70, 0, none⟩ = some (.int .i64 l0.gr) ∧ W.cell? ⟨g70, 1, none⟩ = some (.int .i64 l0.la) ∧ W.cell? ⟨g70, 2, none⟩ = some (.slice sa0 l0.cov.length sc0) ∧ W.cell? ⟨g70, 3, none⟩ = some (.int .i64 l0.melt.lo) ∧ W.cell? ⟨g70, 4, none⟩ = some (.int .i64 l0.melt.hi) ∧ W.cell? ⟨g70, 5, none⟩ = some (.int .i64 l0.soak) ∧ W.cell? ⟨g70, 6, none⟩ = some (.int .i64 l0.white.lo) ∧ W.cell? ⟨g70, 7, none⟩ = some (.int .i64 l0.white.hi) ∧ W.cell? ⟨g71, 0, none⟩ = some (.int .i64 x0.bl.lo) ∧ W.cell? ⟨g71, 1, none⟩ = some (.int .i64 x0.bl.hi) ∧ W.cell? ⟨g71, 2, none⟩ = some (.int .i64 x0.wh.lo) ∧ W.cell? ⟨g71, 3, none⟩ = some (.int .i64 x0.wh.hi) ∧ W.cell? ⟨g71, 4, none⟩ = some (.int .i64 x0.we.lo) ∧ W.cell? ⟨g71, 5, none⟩ = some (.int .i64 x0.we.hi) ∧ W.cell? ⟨g71, 6, none⟩ = some (.int .i64 x0.sn.lo) ∧ W.cell? ⟨g71, 7, none⟩ = some (.int .i64 x0.sn.hi) ∧ W.cell? ⟨g72, 0, none⟩ = some (.slice da0 d0.length dc0) ∧ W.cell? ⟨g73, 0, none⟩ = some (.int .i64 att) ∧ W.cell? ⟨g74, 0, none⟩ = some (.int .i64 most)) 25 (by kernel_rfl) ?_ ?_
          · exact ⟨F101.cl 1 0 rfl rfl, F101.cl 1 1 rfl rfl, F101.cl 1 2 rfl rfl, F101.cl 1 3 rfl rfl, F101.cl 1 4 rfl rfl, F101.cl 1 5 rfl rfl, F101.cl 1 6 rfl rfl, F101.cl 1 7 rfl rfl, F101.cl 2 0 rfl rfl, F101.cl 2 1 rfl rfl, F101.cl 2 2 rfl rfl, F101.cl 2 3 rfl rfl, F101.cl 2 4 rfl rfl, F101.cl 2 5 rfl rfl, F101.cl 2 6 rfl rfl, F101.cl 2 7 rfl rfl, F101.cl 3 0 rfl rfl, F101.cl 4 0 rfl rfl, F101.cl 5 0 rfl rfl⟩
          obtain ⟨wd103, hwd_⟩ : ∃ x : World, w97.drew = x := ⟨_, rfl⟩
          rw [hwd_] at F101 ⊢
          have wd103s : w97.heap.size ≤ wd103.heap.size := by rw [← hwd_]; exact Nat.le_refl _
          clear hwd_
          have hS102 := (And.intro (F101.cl 1 0 rfl rfl) (And.intro (F101.cl 1 1 rfl rfl) (And.intro (F101.cl 1 2 rfl rfl) (And.intro (F101.cl 1 3 rfl rfl) (And.intro (F101.cl 1 4 rfl rfl) (And.intro (F101.cl 1 5 rfl rfl) (And.intro (F101.cl 1 6 rfl rfl) (And.intro (F101.cl 1 7 rfl rfl) (And.intro (F101.cl 2 0 rfl rfl) (And.intro (F101.cl 2 1 rfl rfl) (And.intro (F101.cl 2 2 rfl rfl) (And.intro (F101.cl 2 3 rfl rfl) (And.intro (F101.cl 2 4 rfl rfl) (And.intro (F101.cl 2 5 rfl rfl) (And.intro (F101.cl 2 6 rfl rfl) (And.intro (F101.cl 2 7 rfl rfl) (And.intro (F101.cl 3 0 rfl rfl) (And.intro (F101.cl 4 0 rfl rfl) (F101.cl 5 0 rfl rfl)))))))))))))))))))
          refine ru_t 0 [] ?_
          refine ru_t 1 [] ?_
          refine ru_t 2 [] ?_
          refine ru_t 3 [] ?_
          refine ru_t 4 [] ?_
          refine ru_t 5 [] ?_
          refine ru_t 6 [] ?_
          refine ru_t 7 [] ?_
          refine ru_t 8 [] ?_
          refine ru_t 9 [] ?_
          refine ru_t 10 [] ?_
          refine ru_t 11 [] ?_
          refine ru_t 12 [] ?_
          refine ru_t 13 [] ?_
          refine ru_t 14 [] ?_
          refine ru_t 15 [] ?_
          refine ru_t 16 [] ?_
          refine ru_t 17 [] ?_
          refine ru_t 18 [] ?_
          refine ru_t 19 [] ?_
          (try simp only [Act.put, List.setIfInBounds_toArray, List.set_cons_zero, List.set_cons_succ])
          clear hS102
          refine ru_one 20 rfl (by kernel_rfl) (fun K hK => ?_)
          go_simp
          refine (rflood_c _ _ _ l0 x0 _ _ _ d0 att most _ (F101.at 11 rfl : Sl covEnc 3 0 w.heap.size _ (.slice sa0 l0.cov.length sc0) l0.cov) (by first | omega | (simp; omega)) (F101.at 10 rfl : Sl weaEnc 6 0 w.heap.size _ (.slice da0 d0.length dc0) d0) (by first | omega | (simp; omega))).mono ?_
          rintro e w106 ⟨rfl, hg104⟩
          have hg104s := hg104.size
          (try simp at hg104s)
          have F107 := F101.gn hg104
          clear F101
          refine ru_back hK (by exact ⟨F107.cl 1 0 rfl rfl, F107.cl 1 1 rfl rfl, F107.cl 1 2 rfl rfl, F107.cl 1 3 rfl rfl, F107.cl 1 4 rfl rfl, F107.cl 1 5 rfl rfl, F107.cl 1 6 rfl rfl, F107.cl 1 7 rfl rfl, F107.cl 2 0 rfl rfl, F107.cl 2 1 rfl rfl, F107.cl 2 2 rfl rfl, F107.cl 2 3 rfl rfl, F107.cl 2 4 rfl rfl, F107.cl 2 5 rfl rfl, F107.cl 2 6 rfl rfl, F107.cl 2 7 rfl rfl, F107.cl 3 0 rfl rfl, F107.cl 4 0 rfl rfl, F107.cl 5 0 rfl rfl⟩) (fun hHeld => ?_)
          clear hK K
          (try simp only [Act.put, List.setIfInBounds_toArray, List.set_cons_zero, List.set_cons_succ])
          refine ru_p 21 ?_
          (try simp only [Act.put, List.setIfInBounds_toArray, List.set_cons_zero, List.set_cons_succ])
          refine ru_p 22 ?_
          refine ru_p 23 ?_
          (try simp only [Act.put, List.setIfInBounds_toArray, List.set_cons_zero, List.set_cons_succ])
          refine ru_p 24 ?_
          (try simp only [Act.put, List.setIfInBounds_toArray, List.set_cons_zero, List.set_cons_succ])
          refine ru_one 25 rfl (by kernel_rfl) (fun K hK => ?_)
          go_simp
          refine ru_back_late hK (by kernel_rfl) ?_
          clear hK K
          (try simp only [Act.put, List.setIfInBounds_toArray, List.set_cons_zero, List.set_cons_succ])
          refine ru_done (by kernel_rfl) ?_
          have Fn_ := F107
          (try dsimp only [List.eraseIdx_cons_succ, List.eraseIdx_cons_zero] at Fn_)
          obtain ⟨w108, hx109, F111, hxs110⟩ := Fn_.name
          (try simp at hxs110)
          rw [hx109]
          clear hx109 F107 Fn_
          have b112 := F111.bx3 3 rfl
          go_wp2_with fail
          clear b112
          refine (sameDays_c _ _ _ _ _ _ d0 _ (Own.sl (F111.at 0 rfl : Own weaEnc 35 6 w.heap.size _ (.slice ca88 d0.length cap89) d0) (fun _ => rfl)) (Nat.le_refl _) (F111.at 10 rfl : Sl weaEnc 6 0 w.heap.size _ (.slice da0 d0.length dc0) d0) (by first | omega | (simp; omega))).mono ?_
          rintro e w115 ⟨rfl, hg113⟩
          have hg113s := hg113.size
          (try simp at hg113s)
          have F116 := F111.gn hg113
          clear F111
          clear hg113
          go_wp2_with fail
          rw [rounds_succ]
          have b118 := F116.bx3 3 rfl
          go_wp2_with (at_builtin; refine wpList_copyB okWea rfl _ _ rfl w.heap.size w115.heap.size rfl (F116.new 35 #[] (n := w115.heap.size) (by simp)) (by first | omega | (simp; omega)) g47 (g47 + 1) (.slice (some ⟨g47, 0, none⟩) (dl.length + 1) cap48) al rfl (Own.slG ((F116.new 35 #[] (n := w115.heap.size) (by simp)).at 7 rfl : Own weaEnc 35 6 w.heap.size _ (.slice (some ⟨g47, 0, none⟩) (dl.length + 1) cap48) al) (fun _ => rfl)) (by omega) ?_; intro vc119 w120 hB121 hs122; refine Hid.out ?_)
          refine Lib.hid ?_
          (try simp at hs122)
          clear b118
          have F123 := hB121
          clear F116
          obtain ⟨ca124, cap125, e_⟩ := (Own.sl (F123.at 0 rfl : Own weaEnc 35 6 w.heap.size _ vc119 al) (fun _ => rfl)).any
          subst e_
          go_wp2_with fail
          have F126 := F123.drew
          clear F123
          refine ru_begin (fun W => W.cell? ⟨g70, 8, none⟩ = some (.int .i64 l.gr) ∧ W.cell? ⟨g70, 9, none⟩ = some (.int .i64 l.la) ∧ W.cell? ⟨g70, 10, none⟩ = some (.slice sal l.cov.length scl) ∧ W.cell? ⟨g70, 11, none⟩ = some (.int .i64 l.melt.lo) ∧ W.cell? ⟨g70, 12, none⟩ = some (.int .i64 l.melt.hi) ∧ W.cell? ⟨g70, 13, none⟩ = some (.int .i64 l.soak) ∧ W.cell? ⟨g70, 14, none⟩ = some (.int .i64 l.white.lo) ∧ W.cell? ⟨g70, 15, none⟩ = some (.int .i64 l.white.hi) ∧ W.cell? ⟨g71, 8, none⟩ = some (.int .i64 ic.bl.lo) ∧ W.cell? ⟨g71, 9, none⟩ = some (.int .i64 ic.bl.hi) ∧ W.cell? ⟨g71, 10, none⟩ = some (.int .i64 ic.wh.lo) ∧ W.cell? ⟨g71, 11, none⟩ = some (.int .i64 ic.wh.hi) ∧ W.cell? ⟨g71, 12, none⟩ = some (.int .i64 ic.we.lo) ∧ W.cell? ⟨g71, 13, none⟩ = some (.int .i64 ic.we.hi) ∧ W.cell? ⟨g71, 14, none⟩ = some (.int .i64 ic.sn.lo) ∧ W.cell? ⟨g71, 15, none⟩ = some (.int .i64 ic.sn.hi) ∧ W.cell? ⟨g73, 1, none⟩ = some (.int .i64 r60) ∧ W.cell? ⟨g74, 1, none⟩ = some (.int .i64 r62)) 22 (by kernel_rfl) ?_ ?_
          · exact ⟨F126.cl 2 8 rfl rfl, F126.cl 2 9 rfl rfl, F126.cl 2 10 rfl rfl, F126.cl 2 11 rfl rfl, F126.cl 2 12 rfl rfl, F126.cl 2 13 rfl rfl, F126.cl 2 14 rfl rfl, F126.cl 2 15 rfl rfl, F126.cl 3 8 rfl rfl, F126.cl 3 9 rfl rfl, F126.cl 3 10 rfl rfl, F126.cl 3 11 rfl rfl, F126.cl 3 12 rfl rfl, F126.cl 3 13 rfl rfl, F126.cl 3 14 rfl rfl, F126.cl 3 15 rfl rfl, F126.cl 5 1 rfl rfl, F126.cl 6 1 rfl rfl⟩
          obtain ⟨wd128, hwd_⟩ : ∃ x : World, w120.drew = x := ⟨_, rfl⟩
          rw [hwd_] at F126 ⊢
          have wd128s : w120.heap.size ≤ wd128.heap.size := by rw [← hwd_]; exact Nat.le_refl _
          clear hwd_
          have hS127 := (And.intro (F126.cl 2 8 rfl rfl) (And.intro (F126.cl 2 9 rfl rfl) (And.intro (F126.cl 2 10 rfl rfl) (And.intro (F126.cl 2 11 rfl rfl) (And.intro (F126.cl 2 12 rfl rfl) (And.intro (F126.cl 2 13 rfl rfl) (And.intro (F126.cl 2 14 rfl rfl) (And.intro (F126.cl 2 15 rfl rfl) (And.intro (F126.cl 3 8 rfl rfl) (And.intro (F126.cl 3 9 rfl rfl) (And.intro (F126.cl 3 10 rfl rfl) (And.intro (F126.cl 3 11 rfl rfl) (And.intro (F126.cl 3 12 rfl rfl) (And.intro (F126.cl 3 13 rfl rfl) (And.intro (F126.cl 3 14 rfl rfl) (And.intro (F126.cl 3 15 rfl rfl) (And.intro (F126.cl 5 1 rfl rfl) (F126.cl 6 1 rfl rfl))))))))))))))))))
          refine ru_t 0 [] ?_
          refine ru_t 1 [] ?_
          refine ru_t 2 [] ?_
          refine ru_t 3 [] ?_
          refine ru_t 4 [] ?_
          refine ru_t 5 [] ?_
          refine ru_t 6 [] ?_
          refine ru_t 7 [] ?_
          refine ru_t 8 [] ?_
          refine ru_t 9 [] ?_
          refine ru_t 10 [] ?_
          refine ru_t 11 [] ?_
          refine ru_t 12 [] ?_
          refine ru_t 13 [] ?_
          refine ru_t 14 [] ?_
          refine ru_t 15 [] ?_
          refine ru_t 16 [] ?_
          (try simp only [Act.put, List.setIfInBounds_toArray, List.set_cons_zero, List.set_cons_succ])
          clear hS127
          refine ru_one 17 rfl (by kernel_rfl) (fun K hK => ?_)
          go_simp
          refine (flood_c _ _ _ l ic _ _ _ al r60 r62 _ (F126.at 9 rfl : Sl covEnc 3 lo_l hi_l _ (.slice sal l.cov.length scl) l.cov) (by first | omega | (simp; omega)) (Own.sl (F126.at 0 rfl : Own weaEnc 35 6 w.heap.size _ (.slice ca124 al.length cap125) al) (fun _ => rfl)) (Nat.le_refl _)).mono ?_
          rintro e w131 ⟨rfl, hg129⟩
          have hg129s := hg129.size
          (try simp at hg129s)
          have F132 := F126.gn hg129
          clear F126
          refine ru_back hK (by exact ⟨F132.cl 2 8 rfl rfl, F132.cl 2 9 rfl rfl, F132.cl 2 10 rfl rfl, F132.cl 2 11 rfl rfl, F132.cl 2 12 rfl rfl, F132.cl 2 13 rfl rfl, F132.cl 2 14 rfl rfl, F132.cl 2 15 rfl rfl, F132.cl 3 8 rfl rfl, F132.cl 3 9 rfl rfl, F132.cl 3 10 rfl rfl, F132.cl 3 11 rfl rfl, F132.cl 3 12 rfl rfl, F132.cl 3 13 rfl rfl, F132.cl 3 14 rfl rfl, F132.cl 3 15 rfl rfl, F132.cl 5 1 rfl rfl, F132.cl 6 1 rfl rfl⟩) (fun hHeld => ?_)
          clear hK K
          (try simp only [Act.put, List.setIfInBounds_toArray, List.set_cons_zero, List.set_cons_succ])
          refine ru_p 18 ?_
          (try simp only [Act.put, List.setIfInBounds_toArray, List.set_cons_zero, List.set_cons_succ])
          refine ru_p 19 ?_
          refine ru_p 20 ?_
          (try simp only [Act.put, List.setIfInBounds_toArray, List.set_cons_zero, List.set_cons_succ])
          refine ru_p 21 ?_
          (try simp only [Act.put, List.setIfInBounds_toArray, List.set_cons_zero, List.set_cons_succ])
          refine ru_one 22 rfl (by kernel_rfl) (fun K hK => ?_)
          go_simp
          refine ru_back_late hK (by kernel_rfl) ?_
          clear hK K
          (try simp only [Act.put, List.setIfInBounds_toArray, List.set_cons_zero, List.set_cons_succ])
          refine ru_done (by kernel_rfl) ?_
          have Fn_ := F132
          (try dsimp only [List.eraseIdx_cons_succ, List.eraseIdx_cons_zero] at Fn_)
          obtain ⟨w133, hx134, F136, hxs135⟩ := Fn_.name
          (try simp at hxs135)
          rw [hx134]
          clear hx134 F132 Fn_
          go_wp2_with fail
          have F137 := F136.drew
          clear F136
          refine ru_begin (fun W => W.cell? ⟨g70, 8, none⟩ = some (.int .i64 l.gr) ∧ W.cell? ⟨g70, 9, none⟩ = some (.int .i64 l.la) ∧ W.cell? ⟨g70, 10, none⟩ = some (.slice sal l.cov.length scl) ∧ W.cell? ⟨g70, 11, none⟩ = some (.int .i64 l.melt.lo) ∧ W.cell? ⟨g70, 12, none⟩ = some (.int .i64 l.melt.hi) ∧ W.cell? ⟨g70, 13, none⟩ = some (.int .i64 l.soak) ∧ W.cell? ⟨g70, 14, none⟩ = some (.int .i64 l.white.lo) ∧ W.cell? ⟨g70, 15, none⟩ = some (.int .i64 l.white.hi) ∧ W.cell? ⟨g71, 8, none⟩ = some (.int .i64 ic.bl.lo) ∧ W.cell? ⟨g71, 9, none⟩ = some (.int .i64 ic.bl.hi) ∧ W.cell? ⟨g71, 10, none⟩ = some (.int .i64 ic.wh.lo) ∧ W.cell? ⟨g71, 11, none⟩ = some (.int .i64 ic.wh.hi) ∧ W.cell? ⟨g71, 12, none⟩ = some (.int .i64 ic.we.lo) ∧ W.cell? ⟨g71, 13, none⟩ = some (.int .i64 ic.we.hi) ∧ W.cell? ⟨g71, 14, none⟩ = some (.int .i64 ic.sn.lo) ∧ W.cell? ⟨g71, 15, none⟩ = some (.int .i64 ic.sn.hi) ∧ W.cell? ⟨g72, 1, none⟩ = some (.slice (some ⟨g47, 0, none⟩) (dl.length + 1) cap48) ∧ W.cell? ⟨g73, 1, none⟩ = some (.int .i64 r60) ∧ W.cell? ⟨g74, 1, none⟩ = some (.int .i64 r62)) 25 (by kernel_rfl) ?_ ?_
          · exact ⟨F137.cl 2 8 rfl rfl, F137.cl 2 9 rfl rfl, F137.cl 2 10 rfl rfl, F137.cl 2 11 rfl rfl, F137.cl 2 12 rfl rfl, F137.cl 2 13 rfl rfl, F137.cl 2 14 rfl rfl, F137.cl 2 15 rfl rfl, F137.cl 3 8 rfl rfl, F137.cl 3 9 rfl rfl, F137.cl 3 10 rfl rfl, F137.cl 3 11 rfl rfl, F137.cl 3 12 rfl rfl, F137.cl 3 13 rfl rfl, F137.cl 3 14 rfl rfl, F137.cl 3 15 rfl rfl, F137.cl 4 1 rfl rfl, F137.cl 5 1 rfl rfl, F137.cl 6 1 rfl rfl⟩
          obtain ⟨wd139, hwd_⟩ : ∃ x : World, w133.drew = x := ⟨_, rfl⟩
          rw [hwd_] at F137 ⊢
          have wd139s : w133.heap.size ≤ wd139.heap.size := by rw [← hwd_]; exact Nat.le_refl _
          clear hwd_
          have hS138 := (And.intro (F137.cl 2 8 rfl rfl) (And.intro (F137.cl 2 9 rfl rfl) (And.intro (F137.cl 2 10 rfl rfl) (And.intro (F137.cl 2 11 rfl rfl) (And.intro (F137.cl 2 12 rfl rfl) (And.intro (F137.cl 2 13 rfl rfl) (And.intro (F137.cl 2 14 rfl rfl) (And.intro (F137.cl 2 15 rfl rfl) (And.intro (F137.cl 3 8 rfl rfl) (And.intro (F137.cl 3 9 rfl rfl) (And.intro (F137.cl 3 10 rfl rfl) (And.intro (F137.cl 3 11 rfl rfl) (And.intro (F137.cl 3 12 rfl rfl) (And.intro (F137.cl 3 13 rfl rfl) (And.intro (F137.cl 3 14 rfl rfl) (And.intro (F137.cl 3 15 rfl rfl) (And.intro (F137.cl 4 1 rfl rfl) (And.intro (F137.cl 5 1 rfl rfl) (F137.cl 6 1 rfl rfl)))))))))))))))))))
          refine ru_t 0 [] ?_
          refine ru_t 1 [] ?_
          refine ru_t 2 [] ?_
          refine ru_t 3 [] ?_
          refine ru_t 4 [] ?_
          refine ru_t 5 [] ?_
          refine ru_t 6 [] ?_
          refine ru_t 7 [] ?_
          refine ru_t 8 [] ?_
          refine ru_t 9 [] ?_
          refine ru_t 10 [] ?_
          refine ru_t 11 [] ?_
          refine ru_t 12 [] ?_
          refine ru_t 13 [] ?_
          refine ru_t 14 [] ?_
          refine ru_t 15 [] ?_
          refine ru_t 16 [] ?_
          refine ru_t 17 [] ?_
          refine ru_t 18 [] ?_
          refine ru_t 19 [] ?_
          (try simp only [Act.put, List.setIfInBounds_toArray, List.set_cons_zero, List.set_cons_succ])
          clear hS138
          refine ru_one 20 rfl (by kernel_rfl) (fun K hK => ?_)
          go_simp
          refine (rflood_c _ _ _ l ic _ _ _ al r60 r62 _ (F137.at 9 rfl : Sl covEnc 3 lo_l hi_l _ (.slice sal l.cov.length scl) l.cov) (by first | omega | (simp; omega)) (Own.sl (F137.at 7 rfl : Own weaEnc 35 6 w.heap.size _ (.slice (some ⟨g47, 0, none⟩) (dl.length + 1) cap48) al) (fun _ => rfl)) (Nat.le_refl _)).mono ?_
          rintro e w142 ⟨rfl, hg140⟩
          have hg140s := hg140.size
          (try simp at hg140s)
          have F143 := F137.gn hg140
          clear F137
          refine ru_back hK (by exact ⟨F143.cl 2 8 rfl rfl, F143.cl 2 9 rfl rfl, F143.cl 2 10 rfl rfl, F143.cl 2 11 rfl rfl, F143.cl 2 12 rfl rfl, F143.cl 2 13 rfl rfl, F143.cl 2 14 rfl rfl, F143.cl 2 15 rfl rfl, F143.cl 3 8 rfl rfl, F143.cl 3 9 rfl rfl, F143.cl 3 10 rfl rfl, F143.cl 3 11 rfl rfl, F143.cl 3 12 rfl rfl, F143.cl 3 13 rfl rfl, F143.cl 3 14 rfl rfl, F143.cl 3 15 rfl rfl, F143.cl 4 1 rfl rfl, F143.cl 5 1 rfl rfl, F143.cl 6 1 rfl rfl⟩) (fun hHeld => ?_)
          clear hK K
          (try simp only [Act.put, List.setIfInBounds_toArray, List.set_cons_zero, List.set_cons_succ])
          refine ru_p 21 ?_
          (try simp only [Act.put, List.setIfInBounds_toArray, List.set_cons_zero, List.set_cons_succ])
          refine ru_p 22 ?_
          refine ru_p 23 ?_
          (try simp only [Act.put, List.setIfInBounds_toArray, List.set_cons_zero, List.set_cons_succ])
          refine ru_p 24 ?_
          (try simp only [Act.put, List.setIfInBounds_toArray, List.set_cons_zero, List.set_cons_succ])
          refine ru_one 25 rfl (by kernel_rfl) (fun K hK => ?_)
          go_simp
          refine ru_back_late hK (by kernel_rfl) ?_
          clear hK K
          (try simp only [Act.put, List.setIfInBounds_toArray, List.set_cons_zero, List.set_cons_succ])
          refine ru_done (by kernel_rfl) ?_
          have Fn_ := F143
          (try dsimp only [List.eraseIdx_cons_succ, List.eraseIdx_cons_zero] at Fn_)
          obtain ⟨w144, hx145, F147, hxs146⟩ := Fn_.name
          (try simp at hxs146)
          rw [hx145]
          clear hx145 F143 Fn_
          have b148 := F147.bx3 4 rfl
          go_wp2_with fail
          clear b148
          refine (sameDays_c _ _ _ _ _ _ al _ (Own.sl (F147.at 0 rfl : Own weaEnc 35 6 w.heap.size _ (.slice ca124 al.length cap125) al) (fun _ => rfl)) (Nat.le_refl _) (Own.sl (F147.at 7 rfl : Own weaEnc 35 6 w.heap.size _ (.slice (some ⟨g47, 0, none⟩) (dl.length + 1) cap48) al) (fun _ => rfl)) (Nat.le_refl _)).mono ?_
          rintro e w151 ⟨rfl, hg149⟩
          have hg149s := hg149.size
          (try simp at hg149s)
          have F152 := F147.gn hg149
          clear F147
          clear hg149
          go_wp2_with fail
          rw [rounds_succ]
          have b154 := F152.bx3 4 rfl
          go_wp2_with (at_builtin; refine wpList_copyB okWea rfl _ _ rfl w.heap.size w151.heap.size rfl (F152.new 35 #[] (n := w151.heap.size) (by simp)) (by first | omega | (simp; omega)) 0 w.heap.size (.slice da0 d0.length dc0) d0 rfl ((F152.new 35 #[] (n := w151.heap.size) (by simp)).at 12 rfl) (by omega) ?_; intro vc155 w156 hB157 hs158; refine Hid.out ?_)
          refine Lib.hid ?_
          (try simp at hs158)
          clear b154
          have F159 := hB157
          clear F152
          obtain ⟨ca160, cap161, e_⟩ := (Own.sl (F159.at 0 rfl : Own weaEnc 35 6 w.heap.size _ vc155 d0) (fun _ => rfl)).any
          subst e_
          go_wp2_with fail
          have F162 := F159.drew
          clear F159
          refine ru_begin (fun W => W.cell? ⟨g70, 16, none⟩ = some (.int .i64 l.gr) ∧ W.cell? ⟨g70, 17, none⟩ = some (.int .i64 l.la) ∧ W.cell? ⟨g70, 18, none⟩ = some (.slice sal l.cov.length scl) ∧ W.cell? ⟨g70, 19, none⟩ = some (.int .i64 l.melt.lo) ∧ W.cell? ⟨g70, 20, none⟩ = some (.int .i64 l.melt.hi) ∧ W.cell? ⟨g70, 21, none⟩ = some (.int .i64 l.soak) ∧ W.cell? ⟨g70, 22, none⟩ = some (.int .i64 l.white.lo) ∧ W.cell? ⟨g70, 23, none⟩ = some (.int .i64 l.white.hi) ∧ W.cell? ⟨g71, 16, none⟩ = some (.int .i64 ic.bl.lo) ∧ W.cell? ⟨g71, 17, none⟩ = some (.int .i64 ic.bl.hi) ∧ W.cell? ⟨g71, 18, none⟩ = some (.int .i64 ic.wh.lo) ∧ W.cell? ⟨g71, 19, none⟩ = some (.int .i64 ic.wh.hi) ∧ W.cell? ⟨g71, 20, none⟩ = some (.int .i64 ic.we.lo) ∧ W.cell? ⟨g71, 21, none⟩ = some (.int .i64 ic.we.hi) ∧ W.cell? ⟨g71, 22, none⟩ = some (.int .i64 ic.sn.lo) ∧ W.cell? ⟨g71, 23, none⟩ = some (.int .i64 ic.sn.hi) ∧ W.cell? ⟨g73, 2, none⟩ = some (.int .i64 att) ∧ W.cell? ⟨g74, 2, none⟩ = some (.int .i64 most)) 22 (by kernel_rfl) ?_ ?_
          · exact ⟨F162.cl 3 16 rfl rfl, F162.cl 3 17 rfl rfl, F162.cl 3 18 rfl rfl, F162.cl 3 19 rfl rfl, F162.cl 3 20 rfl rfl, F162.cl 3 21 rfl rfl, F162.cl 3 22 rfl rfl, F162.cl 3 23 rfl rfl, F162.cl 4 16 rfl rfl, F162.cl 4 17 rfl rfl, F162.cl 4 18 rfl rfl, F162.cl 4 19 rfl rfl, F162.cl 4 20 rfl rfl, F162.cl 4 21 rfl rfl, F162.cl 4 22 rfl rfl, F162.cl 4 23 rfl rfl, F162.cl 6 2 rfl rfl, F162.cl 7 2 rfl rfl⟩
          obtain ⟨wd164, hwd_⟩ : ∃ x : World, w156.drew = x := ⟨_, rfl⟩
          rw [hwd_] at F162 ⊢
          have wd164s : w156.heap.size ≤ wd164.heap.size := by rw [← hwd_]; exact Nat.le_refl _
          clear hwd_
          have hS163 := (And.intro (F162.cl 3 16 rfl rfl) (And.intro (F162.cl 3 17 rfl rfl) (And.intro (F162.cl 3 18 rfl rfl) (And.intro (F162.cl 3 19 rfl rfl) (And.intro (F162.cl 3 20 rfl rfl) (And.intro (F162.cl 3 21 rfl rfl) (And.intro (F162.cl 3 22 rfl rfl) (And.intro (F162.cl 3 23 rfl rfl) (And.intro (F162.cl 4 16 rfl rfl) (And.intro (F162.cl 4 17 rfl rfl) (And.intro (F162.cl 4 18 rfl rfl) (And.intro (F162.cl 4 19 rfl rfl) (And.intro (F162.cl 4 20 rfl rfl) (And.intro (F162.cl 4 21 rfl rfl) (And.intro (F162.cl 4 22 rfl rfl) (And.intro (F162.cl 4 23 rfl rfl) (And.intro (F162.cl 6 2 rfl rfl) (F162.cl 7 2 rfl rfl))))))))))))))))))
          refine ru_t 0 [] ?_
          refine ru_t 1 [] ?_
          refine ru_t 2 [] ?_
          refine ru_t 3 [] ?_
          refine ru_t 4 [] ?_
          refine ru_t 5 [] ?_
          refine ru_t 6 [] ?_
          refine ru_t 7 [] ?_
          refine ru_t 8 [] ?_
          refine ru_t 9 [] ?_
          refine ru_t 10 [] ?_
          refine ru_t 11 [] ?_
          refine ru_t 12 [] ?_
          refine ru_t 13 [] ?_
          refine ru_t 14 [] ?_
          refine ru_t 15 [] ?_
          refine ru_t 16 [] ?_
          (try simp only [Act.put, List.setIfInBounds_toArray, List.set_cons_zero, List.set_cons_succ])
          clear hS163
          refine ru_one 17 rfl (by kernel_rfl) (fun K hK => ?_)
          go_simp
          refine (flood_c _ _ _ l ic _ _ _ d0 att most _ (F162.at 10 rfl : Sl covEnc 3 lo_l hi_l _ (.slice sal l.cov.length scl) l.cov) (by first | omega | (simp; omega)) (Own.sl (F162.at 0 rfl : Own weaEnc 35 6 w.heap.size _ (.slice ca160 d0.length cap161) d0) (fun _ => rfl)) (Nat.le_refl _)).mono ?_
          rintro e w167 ⟨rfl, hg165⟩
          have hg165s := hg165.size
          (try simp at hg165s)
          have F168 := F162.gn hg165
          clear F162
          refine ru_back hK (by exact ⟨F168.cl 3 16 rfl rfl, F168.cl 3 17 rfl rfl, F168.cl 3 18 rfl rfl, F168.cl 3 19 rfl rfl, F168.cl 3 20 rfl rfl, F168.cl 3 21 rfl rfl, F168.cl 3 22 rfl rfl, F168.cl 3 23 rfl rfl, F168.cl 4 16 rfl rfl, F168.cl 4 17 rfl rfl, F168.cl 4 18 rfl rfl, F168.cl 4 19 rfl rfl, F168.cl 4 20 rfl rfl, F168.cl 4 21 rfl rfl, F168.cl 4 22 rfl rfl, F168.cl 4 23 rfl rfl, F168.cl 6 2 rfl rfl, F168.cl 7 2 rfl rfl⟩) (fun hHeld => ?_)
          clear hK K
          (try simp only [Act.put, List.setIfInBounds_toArray, List.set_cons_zero, List.set_cons_succ])
          refine ru_p 18 ?_
          (try simp only [Act.put, List.setIfInBounds_toArray, List.set_cons_zero, List.set_cons_succ])
          refine ru_p 19 ?_
          refine ru_p 20 ?_
          (try simp only [Act.put, List.setIfInBounds_toArray, List.set_cons_zero, List.set_cons_succ])
          refine ru_p 21 ?_
          (try simp only [Act.put, List.setIfInBounds_toArray, List.set_cons_zero, List.set_cons_succ])
          refine ru_one 22 rfl (by kernel_rfl) (fun K hK => ?_)
          go_simp
          refine ru_back_late hK (by kernel_rfl) ?_
          clear hK K
          (try simp only [Act.put, List.setIfInBounds_toArray, List.set_cons_zero, List.set_cons_succ])
          refine ru_done (by kernel_rfl) ?_
          have Fn_ := F168
          (try dsimp only [List.eraseIdx_cons_succ, List.eraseIdx_cons_zero] at Fn_)
          obtain ⟨w169, hx170, F172, hxs171⟩ := Fn_.name
          (try simp at hxs171)
          rw [hx170]
          clear hx170 F168 Fn_
          go_wp2_with fail
          have F173 := F172.drew
          clear F172
          refine ru_begin (fun W => W.cell? ⟨g70, 16, none⟩ = some (.int .i64 l.gr) ∧ W.cell? ⟨g70, 17, none⟩ = some (.int .i64 l.la) ∧ W.cell? ⟨g70, 18, none⟩ = some (.slice sal l.cov.length scl) ∧ W.cell? ⟨g70, 19, none⟩ = some (.int .i64 l.melt.lo) ∧ W.cell? ⟨g70, 20, none⟩ = some (.int .i64 l.melt.hi) ∧ W.cell? ⟨g70, 21, none⟩ = some (.int .i64 l.soak) ∧ W.cell? ⟨g70, 22, none⟩ = some (.int .i64 l.white.lo) ∧ W.cell? ⟨g70, 23, none⟩ = some (.int .i64 l.white.hi) ∧ W.cell? ⟨g71, 16, none⟩ = some (.int .i64 ic.bl.lo) ∧ W.cell? ⟨g71, 17, none⟩ = some (.int .i64 ic.bl.hi) ∧ W.cell? ⟨g71, 18, none⟩ = some (.int .i64 ic.wh.lo) ∧ W.cell? ⟨g71, 19, none⟩ = some (.int .i64 ic.wh.hi) ∧ W.cell? ⟨g71, 20, none⟩ = some (.int .i64 ic.we.lo) ∧ W.cell? ⟨g71, 21, none⟩ = some (.int .i64 ic.we.hi) ∧ W.cell? ⟨g71, 22, none⟩ = some (.int .i64 ic.sn.lo) ∧ W.cell? ⟨g71, 23, none⟩ = some (.int .i64 ic.sn.hi) ∧ W.cell? ⟨g72, 2, none⟩ = some (.slice da0 d0.length dc0) ∧ W.cell? ⟨g73, 2, none⟩ = some (.int .i64 att) ∧ W.cell? ⟨g74, 2, none⟩ = some (.int .i64 most)) 25 (by kernel_rfl) ?_ ?_
          · exact ⟨F173.cl 3 16 rfl rfl, F173.cl 3 17 rfl rfl, F173.cl 3 18 rfl rfl, F173.cl 3 19 rfl rfl, F173.cl 3 20 rfl rfl, F173.cl 3 21 rfl rfl, F173.cl 3 22 rfl rfl, F173.cl 3 23 rfl rfl, F173.cl 4 16 rfl rfl, F173.cl 4 17 rfl rfl, F173.cl 4 18 rfl rfl, F173.cl 4 19 rfl rfl, F173.cl 4 20 rfl rfl, F173.cl 4 21 rfl rfl, F173.cl 4 22 rfl rfl, F173.cl 4 23 rfl rfl, F173.cl 5 2 rfl rfl, F173.cl 6 2 rfl rfl, F173.cl 7 2 rfl rfl⟩
          obtain ⟨wd175, hwd_⟩ : ∃ x : World, w169.drew = x := ⟨_, rfl⟩
          rw [hwd_] at F173 ⊢
          have wd175s : w169.heap.size ≤ wd175.heap.size := by rw [← hwd_]; exact Nat.le_refl _
          clear hwd_
          have hS174 := (And.intro (F173.cl 3 16 rfl rfl) (And.intro (F173.cl 3 17 rfl rfl) (And.intro (F173.cl 3 18 rfl rfl) (And.intro (F173.cl 3 19 rfl rfl) (And.intro (F173.cl 3 20 rfl rfl) (And.intro (F173.cl 3 21 rfl rfl) (And.intro (F173.cl 3 22 rfl rfl) (And.intro (F173.cl 3 23 rfl rfl) (And.intro (F173.cl 4 16 rfl rfl) (And.intro (F173.cl 4 17 rfl rfl) (And.intro (F173.cl 4 18 rfl rfl) (And.intro (F173.cl 4 19 rfl rfl) (And.intro (F173.cl 4 20 rfl rfl) (And.intro (F173.cl 4 21 rfl rfl) (And.intro (F173.cl 4 22 rfl rfl) (And.intro (F173.cl 4 23 rfl rfl) (And.intro (F173.cl 5 2 rfl rfl) (And.intro (F173.cl 6 2 rfl rfl) (F173.cl 7 2 rfl rfl)))))))))))))))))))
          refine ru_t 0 [] ?_
          refine ru_t 1 [] ?_
          refine ru_t 2 [] ?_
          refine ru_t 3 [] ?_
          refine ru_t 4 [] ?_
          refine ru_t 5 [] ?_
          refine ru_t 6 [] ?_
          refine ru_t 7 [] ?_
          refine ru_t 8 [] ?_
          refine ru_t 9 [] ?_
          refine ru_t 10 [] ?_
          refine ru_t 11 [] ?_
          refine ru_t 12 [] ?_
          refine ru_t 13 [] ?_
          refine ru_t 14 [] ?_
          refine ru_t 15 [] ?_
          refine ru_t 16 [] ?_
          refine ru_t 17 [] ?_
          refine ru_t 18 [] ?_
          refine ru_t 19 [] ?_
          (try simp only [Act.put, List.setIfInBounds_toArray, List.set_cons_zero, List.set_cons_succ])
          clear hS174
          refine ru_one 20 rfl (by kernel_rfl) (fun K hK => ?_)
          go_simp
          refine (rflood_c _ _ _ l ic _ _ _ d0 att most _ (F173.at 10 rfl : Sl covEnc 3 lo_l hi_l _ (.slice sal l.cov.length scl) l.cov) (by first | omega | (simp; omega)) (F173.at 12 rfl : Sl weaEnc 6 0 w.heap.size _ (.slice da0 d0.length dc0) d0) (by first | omega | (simp; omega))).mono ?_
          rintro e w178 ⟨rfl, hg176⟩
          have hg176s := hg176.size
          (try simp at hg176s)
          have F179 := F173.gn hg176
          clear F173
          refine ru_back hK (by exact ⟨F179.cl 3 16 rfl rfl, F179.cl 3 17 rfl rfl, F179.cl 3 18 rfl rfl, F179.cl 3 19 rfl rfl, F179.cl 3 20 rfl rfl, F179.cl 3 21 rfl rfl, F179.cl 3 22 rfl rfl, F179.cl 3 23 rfl rfl, F179.cl 4 16 rfl rfl, F179.cl 4 17 rfl rfl, F179.cl 4 18 rfl rfl, F179.cl 4 19 rfl rfl, F179.cl 4 20 rfl rfl, F179.cl 4 21 rfl rfl, F179.cl 4 22 rfl rfl, F179.cl 4 23 rfl rfl, F179.cl 5 2 rfl rfl, F179.cl 6 2 rfl rfl, F179.cl 7 2 rfl rfl⟩) (fun hHeld => ?_)
          clear hK K
          (try simp only [Act.put, List.setIfInBounds_toArray, List.set_cons_zero, List.set_cons_succ])
          refine ru_p 21 ?_
          (try simp only [Act.put, List.setIfInBounds_toArray, List.set_cons_zero, List.set_cons_succ])
          refine ru_p 22 ?_
          refine ru_p 23 ?_
          (try simp only [Act.put, List.setIfInBounds_toArray, List.set_cons_zero, List.set_cons_succ])
          refine ru_p 24 ?_
          (try simp only [Act.put, List.setIfInBounds_toArray, List.set_cons_zero, List.set_cons_succ])
          refine ru_one 25 rfl (by kernel_rfl) (fun K hK => ?_)
          go_simp
          refine ru_back_late hK (by kernel_rfl) ?_
          clear hK K
          (try simp only [Act.put, List.setIfInBounds_toArray, List.set_cons_zero, List.set_cons_succ])
          refine ru_done (by kernel_rfl) ?_
          have Fn_ := F179
          (try dsimp only [List.eraseIdx_cons_succ, List.eraseIdx_cons_zero] at Fn_)
          obtain ⟨w180, hx181, F183, hxs182⟩ := Fn_.name
          (try simp at hxs182)
          rw [hx181]
          clear hx181 F179 Fn_
          have b184 := F183.bx3 5 rfl
          go_wp2_with fail
          clear b184
          refine (sameDays_c _ _ _ _ _ _ d0 _ (Own.sl (F183.at 0 rfl : Own weaEnc 35 6 w.heap.size _ (.slice ca160 d0.length cap161) d0) (fun _ => rfl)) (Nat.le_refl _) (F183.at 12 rfl : Sl weaEnc 6 0 w.heap.size _ (.slice da0 d0.length dc0) d0) (by first | omega | (simp; omega))).mono ?_
          rintro e w187 ⟨rfl, hg185⟩
          have hg185s := hg185.size
          (try simp at hg185s)
          have F188 := F183.gn hg185
          clear F183
          clear hg185
          go_wp2_with fail
          rw [rounds_succ]
          go_wp2_with fail
          refine (awake_c _).mono ?_
          rintro e w191 ⟨rfl, hg189⟩
          have hg189s := hg189.size
          (try simp at hg189s)
          have F192 := F188.gn hg189
          clear F188
          clear hg189
          go_wp2_with fail
          go_ret
          exact ⟨rfl, F192.gb⟩
    · skip
      have c12H := Lib.hid c12
      have c12a : decide (30 < (d0.length : Int)) = false := dec_f c12
      go_wp2_with fail
      refine (newSeed_c 0 w.heap.size _ zs _ (F10.at 2 rfl : Sl intEnc 1 0 w.heap.size _ (.slice na zs.length nc) zs)).mono ?_
      rintro e w195 ⟨sb, rfl, hsb, hsbs, hg193⟩
      have hsbl := hsbs.lt
      have hg193s := hg193.size
      (try simp at hg193s)
      have F196 := F10.add (rseed sb) hg193 (hsbs) (fun g e => by cases e; exact ⟨hsb, hsbs.lt⟩)
      clear F10
      clear hg193
      go_wp2_with fail
      refine (frostOf_c sb _ (F196.at 0 rfl : SeedAt _ sb)).mono ?_
      rintro e w199 ⟨l, vl, lo_l, hi_l, rfl, hxl, hyl, hzl, hfl, hs198, hg197⟩
      obtain ⟨sal, scl, rfl⟩ := hzl.any
      have HFl := Lib.hid hfl
      clear hfl
      have hml := hzl.len
      unfold maxLen at hml
      have hg197s := hg197.size
      (try simp at hg197s)
      have F200 := F196.seedAdd (rsl covEnc 3 lo_l hi_l (.slice sal l.cov.length scl) l.cov) hg197 hs198 (hzl) (fun g e => ⟨Nat.le_trans hxl e.1, Nat.lt_of_lt_of_le e.2 hyl⟩)
      clear F196
      clear hg197
      go_wp2_with fail
      refine (iceOf_c sb _ (F200.at 1 rfl : SeedAt _ sb)).mono ?_
      rintro e w203 ⟨ic, rfl, ⟨hic, hicm⟩, hs202, hg201⟩
      have hicb := iceB hic
      have hg201s := hg201.size
      (try simp at hg201s)
      have F204 := F200.seedAt 1 rfl hg201 hs202
      clear F200
      clear hg201
      go_wp2_with fail
      have F206 := F204.new 29 (froC l (.slice sal l.cov.length scl)) (n := w203.heap.size) (by simp)
      clear F204
      have F207 := F206.new 32 (iceC ic) (n := (w203.heap.size + 1)) (by simp)
      clear F206
      refine (yes_c sb 2 _ (F207.at 3 rfl : SeedAt _ sb) (by omega) (by omega)).mono ?_
      rintro e w210 ⟨yb205, rfl, hs209, hg208⟩
      have hg208s := hg208.size
      (try simp at hg208s)
      have F211 := F207.seedAt 3 rfl hg208 hs209
      clear F207
      clear hg208
      go_wp2_with fail
      refine (daysOf_o sb w.heap.size 7 yb205 _ ((F211.front 3 rfl rfl).at 0 rfl : SeedAt _ sb) (by omega) F211.gb.size).mono ?_
      rintro e w214 ⟨vo_dl, dl, rfl, hdodl, hdxdl, hdndl, hdvdl, hs213, hg212⟩
      have HDdl := Lib.hid hdvdl
      clear hdvdl
      have hg212s := hg212.size
      (try simp at hg212s)
      have F215 := (F211.front 3 rfl rfl).seedAdd (rown weaEnc 35 6 w.heap.size vo_dl dl) hg212 hs213 (hdodl) (hdxdl)
      clear F211
      clear hg212
      go_wp2_with fail
      refine (below_c sb 200 _ (F215.at 1 rfl : SeedAt _ sb) (by omega) (by omega)).mono ?_
      rintro e w220 ⟨r216, rfl, hr217, hs219, hg218⟩
      unfold belowR at hr217
      have hg218s := hg218.size
      (try simp at hg218s)
      have F221 := F215.seedAt 1 rfl hg218 hs219
      clear F215
      clear hg218
      go_wp2_with (at_builtin; refine wpList_app _ okWea rfl _ _ rfl w.heap.size vo_dl dl [(⟨⟨r216, 200⟩, ⟨0, 0⟩, 0, false⟩ : Wea)] rfl (by exact ((F221.at 0 rfl : Own weaEnc 35 6 w.heap.size _ vo_dl dl)).alloc _) ⟨_, 0, none⟩ 1 1 rfl rfl (by decide) (news_of (Bk.newAt _ _ _ (by simp))) (dl.length + 1) (by simp) (by omega) (by first | omega | (simp; omega)) _ rfl ?_; intro g222 cap223 w224 hp225; refine Hid.out ?_)
      refine Lib.hid ?_
      have hp225s := hp225.gb.size
      (try simp at hp225s)
      have F226 := ((F221.alloc (.cells #[.int .i64 r216, .int .i64 200, .int .i64 0, .int .i64 0, .int .i64 0, .bool false] 35)).front 0 rfl rfl).app hp225 (by simp)
      clear F221
      obtain ⟨al, hal_⟩ : ∃ z_, dl ++ [(⟨⟨r216, 200⟩, ⟨0, 0⟩, 0, false⟩ : Wea)] = z_ := ⟨_, rfl⟩
      rw [hal_] at F226
      have hal1 : al.length ≤ dl.length + 1 := by rw [← hal_]; simp
      have hal2 : dl.length + 1 ≤ al.length := by rw [← hal_]; simp
      have HDal : Hid (∀ d ∈ al, weaErr d = 0) := Lib.hid (by rw [← hal_]; intro d_ hd_; rcases List.mem_append.1 hd_ with h_ | h_; exact (HDdl.out d_ h_).1; obtain rfl := List.mem_singleton.1 h_; unfold weaErr spanErr; simp only; (repeat' split) <;> first | rfl | (exfalso; omega) | omega)
      clear hal_
      go_wp2_with fail
      have F231 := F226.drew
      clear F226
      refine ru_begin (fun W => W.cell? ⟨w.heap.size, 0, none⟩ = some (.int .i64 l0.gr) ∧ W.cell? ⟨w.heap.size, 1, none⟩ = some (.int .i64 l0.la) ∧ W.cell? ⟨w.heap.size, 2, none⟩ = some (.slice sa0 l0.cov.length sc0) ∧ W.cell? ⟨w.heap.size, 3, none⟩ = some (.int .i64 l0.melt.lo) ∧ W.cell? ⟨w.heap.size, 4, none⟩ = some (.int .i64 l0.melt.hi) ∧ W.cell? ⟨w.heap.size, 5, none⟩ = some (.int .i64 l0.soak) ∧ W.cell? ⟨w.heap.size, 6, none⟩ = some (.int .i64 l0.white.lo) ∧ W.cell? ⟨w.heap.size, 7, none⟩ = some (.int .i64 l0.white.hi) ∧ W.cell? ⟨w203.heap.size, 0, none⟩ = some (.int .i64 l.gr) ∧ W.cell? ⟨w203.heap.size, 1, none⟩ = some (.int .i64 l.la) ∧ W.cell? ⟨w203.heap.size, 2, none⟩ = some (.slice sal l.cov.length scl) ∧ W.cell? ⟨w203.heap.size, 3, none⟩ = some (.int .i64 l.melt.lo) ∧ W.cell? ⟨w203.heap.size, 4, none⟩ = some (.int .i64 l.melt.hi) ∧ W.cell? ⟨w203.heap.size, 5, none⟩ = some (.int .i64 l.soak) ∧ W.cell? ⟨w203.heap.size, 6, none⟩ = some (.int .i64 l.white.lo) ∧ W.cell? ⟨w203.heap.size, 7, none⟩ = some (.int .i64 l.white.hi) ∧ W.cell? ⟨(w.heap.size + 1), 0, none⟩ = some (.int .i64 x0.bl.lo) ∧ W.cell? ⟨(w.heap.size + 1), 1, none⟩ = some (.int .i64 x0.bl.hi) ∧ W.cell? ⟨(w.heap.size + 1), 2, none⟩ = some (.int .i64 x0.wh.lo) ∧ W.cell? ⟨(w.heap.size + 1), 3, none⟩ = some (.int .i64 x0.wh.hi) ∧ W.cell? ⟨(w.heap.size + 1), 4, none⟩ = some (.int .i64 x0.we.lo) ∧ W.cell? ⟨(w.heap.size + 1), 5, none⟩ = some (.int .i64 x0.we.hi) ∧ W.cell? ⟨(w.heap.size + 1), 6, none⟩ = some (.int .i64 x0.sn.lo) ∧ W.cell? ⟨(w.heap.size + 1), 7, none⟩ = some (.int .i64 x0.sn.hi) ∧ W.cell? ⟨(w203.heap.size + 1), 0, none⟩ = some (.int .i64 ic.bl.lo) ∧ W.cell? ⟨(w203.heap.size + 1), 1, none⟩ = some (.int .i64 ic.bl.hi) ∧ W.cell? ⟨(w203.heap.size + 1), 2, none⟩ = some (.int .i64 ic.wh.lo) ∧ W.cell? ⟨(w203.heap.size + 1), 3, none⟩ = some (.int .i64 ic.wh.hi) ∧ W.cell? ⟨(w203.heap.size + 1), 4, none⟩ = some (.int .i64 ic.we.lo) ∧ W.cell? ⟨(w203.heap.size + 1), 5, none⟩ = some (.int .i64 ic.we.hi) ∧ W.cell? ⟨(w203.heap.size + 1), 6, none⟩ = some (.int .i64 ic.sn.lo) ∧ W.cell? ⟨(w203.heap.size + 1), 7, none⟩ = some (.int .i64 ic.sn.hi)) 28 (by kernel_rfl) ?_ ?_
      · exact ⟨F231.cl 6 0 rfl rfl, F231.cl 6 1 rfl rfl, F231.cl 6 2 rfl rfl, F231.cl 6 3 rfl rfl, F231.cl 6 4 rfl rfl, F231.cl 6 5 rfl rfl, F231.cl 6 6 rfl rfl, F231.cl 6 7 rfl rfl, F231.cl 3 0 rfl rfl, F231.cl 3 1 rfl rfl, F231.cl 3 2 rfl rfl, F231.cl 3 3 rfl rfl, F231.cl 3 4 rfl rfl, F231.cl 3 5 rfl rfl, F231.cl 3 6 rfl rfl, F231.cl 3 7 rfl rfl, F231.cl 5 0 rfl rfl, F231.cl 5 1 rfl rfl, F231.cl 5 2 rfl rfl, F231.cl 5 3 rfl rfl, F231.cl 5 4 rfl rfl, F231.cl 5 5 rfl rfl, F231.cl 5 6 rfl rfl, F231.cl 5 7 rfl rfl, F231.cl 2 0 rfl rfl, F231.cl 2 1 rfl rfl, F231.cl 2 2 rfl rfl, F231.cl 2 3 rfl rfl, F231.cl 2 4 rfl rfl, F231.cl 2 5 rfl rfl, F231.cl 2 6 rfl rfl, F231.cl 2 7 rfl rfl⟩
      obtain ⟨wd233, hwd_⟩ : ∃ x : World, w224.drew = x := ⟨_, rfl⟩
      rw [hwd_] at F231 ⊢
      have wd233s : w224.heap.size ≤ wd233.heap.size := by rw [← hwd_]; exact Nat.le_refl _
      clear hwd_
      have hS232 := (And.intro (F231.cl 6 0 rfl rfl) (And.intro (F231.cl 6 1 rfl rfl) (And.intro (F231.cl 6 2 rfl rfl) (And.intro (F231.cl 6 3 rfl rfl) (And.intro (F231.cl 6 4 rfl rfl) (And.intro (F231.cl 6 5 rfl rfl) (And.intro (F231.cl 6 6 rfl rfl) (And.intro (F231.cl 6 7 rfl rfl) (And.intro (F231.cl 3 0 rfl rfl) (And.intro (F231.cl 3 1 rfl rfl) (And.intro (F231.cl 3 2 rfl rfl) (And.intro (F231.cl 3 3 rfl rfl) (And.intro (F231.cl 3 4 rfl rfl) (And.intro (F231.cl 3 5 rfl rfl) (And.intro (F231.cl 3 6 rfl rfl) (And.intro (F231.cl 3 7 rfl rfl) (And.intro (F231.cl 5 0 rfl rfl) (And.intro (F231.cl 5 1 rfl rfl) (And.intro (F231.cl 5 2 rfl rfl) (And.intro (F231.cl 5 3 rfl rfl) (And.intro (F231.cl 5 4 rfl rfl) (And.intro (F231.cl 5 5 rfl rfl) (And.intro (F231.cl 5 6 rfl rfl) (And.intro (F231.cl 5 7 rfl rfl) (And.intro (F231.cl 2 0 rfl rfl) (And.intro (F231.cl 2 1 rfl rfl) (And.intro (F231.cl 2 2 rfl rfl) (And.intro (F231.cl 2 3 rfl rfl) (And.intro (F231.cl 2 4 rfl rfl) (And.intro (F231.cl 2 5 rfl rfl) (And.intro (F231.cl 2 6 rfl rfl) (F231.cl 2 7 rfl rfl))))))))))))))))))))))))))))))))
      refine ru_t 0 [] ?_
      refine ru_t 1 [] ?_
      refine ru_t 2 [] ?_
      refine ru_t 4 [] ?_
      refine ru_t 5 [] ?_
      refine ru_t 6 [] ?_
      refine ru_t 8 [] ?_
      refine ru_t 9 [] ?_
      refine ru_t 10 [] ?_
      refine ru_t 12 [] ?_
      refine ru_t 13 [] ?_
      refine ru_t 14 [] ?_
      refine ru_t 15 [] ?_
      refine ru_t 17 [] ?_
      refine ru_t 19 [] ?_
      refine ru_t 20 [] ?_
      refine ru_t 22 [] ?_
      (try simp only [Act.put, List.setIfInBounds_toArray, List.set_cons_zero, List.set_cons_succ])
      clear hS232
      have hSS := ru_hS F231 (S := fun W => W.cell? ⟨w.heap.size, 0, none⟩ = some (.int .i64 l0.gr) ∧ W.cell? ⟨w.heap.size, 1, none⟩ = some (.int .i64 l0.la) ∧ W.cell? ⟨w.heap.size, 2, none⟩ = some (.slice sa0 l0.cov.length sc0) ∧ W.cell? ⟨w.heap.size, 3, none⟩ = some (.int .i64 l0.melt.lo) ∧ W.cell? ⟨w.heap.size, 4, none⟩ = some (.int .i64 l0.melt.hi) ∧ W.cell? ⟨w.heap.size, 5, none⟩ = some (.int .i64 l0.soak) ∧ W.cell? ⟨w.heap.size, 6, none⟩ = some (.int .i64 l0.white.lo) ∧ W.cell? ⟨w.heap.size, 7, none⟩ = some (.int .i64 l0.white.hi) ∧ W.cell? ⟨w203.heap.size, 0, none⟩ = some (.int .i64 l.gr) ∧ W.cell? ⟨w203.heap.size, 1, none⟩ = some (.int .i64 l.la) ∧ W.cell? ⟨w203.heap.size, 2, none⟩ = some (.slice sal l.cov.length scl) ∧ W.cell? ⟨w203.heap.size, 3, none⟩ = some (.int .i64 l.melt.lo) ∧ W.cell? ⟨w203.heap.size, 4, none⟩ = some (.int .i64 l.melt.hi) ∧ W.cell? ⟨w203.heap.size, 5, none⟩ = some (.int .i64 l.soak) ∧ W.cell? ⟨w203.heap.size, 6, none⟩ = some (.int .i64 l.white.lo) ∧ W.cell? ⟨w203.heap.size, 7, none⟩ = some (.int .i64 l.white.hi) ∧ W.cell? ⟨(w.heap.size + 1), 0, none⟩ = some (.int .i64 x0.bl.lo) ∧ W.cell? ⟨(w.heap.size + 1), 1, none⟩ = some (.int .i64 x0.bl.hi) ∧ W.cell? ⟨(w.heap.size + 1), 2, none⟩ = some (.int .i64 x0.wh.lo) ∧ W.cell? ⟨(w.heap.size + 1), 3, none⟩ = some (.int .i64 x0.wh.hi) ∧ W.cell? ⟨(w.heap.size + 1), 4, none⟩ = some (.int .i64 x0.we.lo) ∧ W.cell? ⟨(w.heap.size + 1), 5, none⟩ = some (.int .i64 x0.we.hi) ∧ W.cell? ⟨(w.heap.size + 1), 6, none⟩ = some (.int .i64 x0.sn.lo) ∧ W.cell? ⟨(w.heap.size + 1), 7, none⟩ = some (.int .i64 x0.sn.hi) ∧ W.cell? ⟨(w203.heap.size + 1), 0, none⟩ = some (.int .i64 ic.bl.lo) ∧ W.cell? ⟨(w203.heap.size + 1), 1, none⟩ = some (.int .i64 ic.bl.hi) ∧ W.cell? ⟨(w203.heap.size + 1), 2, none⟩ = some (.int .i64 ic.wh.lo) ∧ W.cell? ⟨(w203.heap.size + 1), 3, none⟩ = some (.int .i64 ic.wh.hi) ∧ W.cell? ⟨(w203.heap.size + 1), 4, none⟩ = some (.int .i64 ic.we.lo) ∧ W.cell? ⟨(w203.heap.size + 1), 5, none⟩ = some (.int .i64 ic.we.hi) ∧ W.cell? ⟨(w203.heap.size + 1), 6, none⟩ = some (.int .i64 ic.sn.lo) ∧ W.cell? ⟨(w203.heap.size + 1), 7, none⟩ = some (.int .i64 ic.sn.hi)) (fun _ _ F_ => ⟨F_.cl 6 0 rfl rfl, F_.cl 6 1 rfl rfl, F_.cl 6 2 rfl rfl, F_.cl 6 3 rfl rfl, F_.cl 6 4 rfl rfl, F_.cl 6 5 rfl rfl, F_.cl 6 6 rfl rfl, F_.cl 6 7 rfl rfl, F_.cl 3 0 rfl rfl, F_.cl 3 1 rfl rfl, F_.cl 3 2 rfl rfl, F_.cl 3 3 rfl rfl, F_.cl 3 4 rfl rfl, F_.cl 3 5 rfl rfl, F_.cl 3 6 rfl rfl, F_.cl 3 7 rfl rfl, F_.cl 5 0 rfl rfl, F_.cl 5 1 rfl rfl, F_.cl 5 2 rfl rfl, F_.cl 5 3 rfl rfl, F_.cl 5 4 rfl rfl, F_.cl 5 5 rfl rfl, F_.cl 5 6 rfl rfl, F_.cl 5 7 rfl rfl, F_.cl 2 0 rfl rfl, F_.cl 2 1 rfl rfl, F_.cl 2 2 rfl rfl, F_.cl 2 3 rfl rfl, F_.cl 2 4 rfl rfl, F_.cl 2 5 rfl rfl, F_.cl 2 6 rfl rfl, F_.cl 2 7 rfl rfl⟩)
      refine ru_mixN 157 [⟨3, 61, 29, fun t => #[.int .i64 l0.gr, .int .i64 l0.la, .slice sa0 l0.cov.length sc0, .int .i64 l0.melt.lo, .int .i64 l0.melt.hi, .int .i64 l0.soak, .int .i64 l0.white.lo, .int .i64 l0.white.hi, .int .i64 l.gr, .int .i64 l.la, .slice sal l.cov.length scl, .int .i64 l.melt.lo, .int .i64 l.melt.hi, .int .i64 l.soak, .int .i64 l.white.lo, .int .i64 l.white.hi, .int .i64 l.gr, .int .i64 l.la, .slice sal l.cov.length scl, .int .i64 l.melt.lo, .int .i64 l.melt.hi, .int .i64 l.soak, .int .i64 l.white.lo, .int .i64 l.white.hi], fun g => .slice (some ⟨g, 0, none⟩) 3 3, fun t => t 58 = .agg (froC l0 (.slice sa0 l0.cov.length sc0)) ∧ t 59 = .agg (froC l (.slice sal l.cov.length scl)) ∧ t 60 = .agg (froC l (.slice sal l.cov.length scl))⟩, ⟨7, 65, 32, fun t => #[.int .i64 x0.bl.lo, .int .i64 x0.bl.hi, .int .i64 x0.wh.lo, .int .i64 x0.wh.hi, .int .i64 x0.we.lo, .int .i64 x0.we.hi, .int .i64 x0.sn.lo, .int .i64 x0.sn.hi, .int .i64 ic.bl.lo, .int .i64 ic.bl.hi, .int .i64 ic.wh.lo, .int .i64 ic.wh.hi, .int .i64 ic.we.lo, .int .i64 ic.we.hi, .int .i64 ic.sn.lo, .int .i64 ic.sn.hi, .int .i64 ic.bl.lo, .int .i64 ic.bl.hi, .int .i64 ic.wh.lo, .int .i64 ic.wh.hi, .int .i64 ic.we.lo, .int .i64 ic.we.hi, .int .i64 ic.sn.lo, .int .i64 ic.sn.hi], fun g => .slice (some ⟨g, 0, none⟩) 3 3, fun t => t 62 = .agg (iceC x0) ∧ t 63 = .agg (iceC ic) ∧ t 64 = .agg (iceC ic)⟩, ⟨11, 69, 36, fun t => #[.slice da0 d0.length dc0, .slice (some ⟨g222, 0, none⟩) (dl.length + 1) cap223, .slice da0 d0.length dc0], fun g => .slice (some ⟨g, 0, none⟩) 3 3, fun t => t 66 = .slice da0 d0.length dc0 ∧ t 67 = .slice (some ⟨g222, 0, none⟩) (dl.length + 1) cap223 ∧ t 68 = .slice da0 d0.length dc0⟩, ⟨18, 76, 3, fun t => #[.int .i64 att, t 74, .int .i64 att], fun g => .slice (some ⟨g, 0, none⟩) 3 3, fun t => ∃ (r235 : Int), t 70 = .int .i64 att ∧ t 74 = .int .i64 r235 ∧ t 75 = .int .i64 att⟩, ⟨23, 81, 3, fun t => #[.int .i64 most, t 79, .int .i64 most], fun g => .slice (some ⟨g, 0, none⟩) 3 3, fun t => ∃ (r237 : Int), t 77 = .int .i64 most ∧ t 79 = .int .i64 r237 ∧ t 80 = .int .i64 most⟩] [⟨24, 17, 3, 61⟩, ⟨25, 18, 7, 65⟩, ⟨26, 19, 11, 69⟩, ⟨27, 20, 18, 76⟩, ⟨28, 21, 23, 81⟩] [16, 21] F231 (by kernel_rfl) (by kernel_rfl) (by kernel_rfl) (fun _ _ _ _ _ h => h) (U0 := (fun t => t 58 = .agg (froC l0 (.slice sa0 l0.cov.length sc0)) ∧ t 59 = .agg (froC l (.slice sal l.cov.length scl)) ∧ t 60 = .agg (froC l (.slice sal l.cov.length scl)) ∧ t 62 = .agg (iceC x0) ∧ t 63 = .agg (iceC ic) ∧ t 64 = .agg (iceC ic) ∧ t 66 = .slice da0 d0.length dc0 ∧ t 67 = .slice (some ⟨g222, 0, none⟩) (dl.length + 1) cap223 ∧ t 68 = .slice da0 d0.length dc0 ∧ t 70 = .int .i64 att ∧ t 71 = .pointer (some ⟨sb, 0, none⟩) ∧ t 73 = .int .i64 ((dl.length + 1) : Int) ∧ t 75 = .int .i64 att ∧ t 77 = .int .i64 most ∧ t 78 = .pointer (some ⟨sb, 0, none⟩) ∧ t 80 = .int .i64 most)) (Um := (fun t => ∃ (r235 : Int) (r237 : Int), (1 ≤ r235 ∧ r235 ≤ ((dl.length + 1) : Int)) ∧ (0 ≤ r237 ∧ (r237 < 60 ∨ r237 = 0)) ∧ t 58 = .agg (froC l0 (.slice sa0 l0.cov.length sc0)) ∧ t 59 = .agg (froC l (.slice sal l.cov.length scl)) ∧ t 60 = .agg (froC l (.slice sal l.cov.length scl)) ∧ t 62 = .agg (iceC x0) ∧ t 63 = .agg (iceC ic) ∧ t 64 = .agg (iceC ic) ∧ t 66 = .slice da0 d0.length dc0 ∧ t 67 = .slice (some ⟨g222, 0, none⟩) (dl.length + 1) cap223 ∧ t 68 = .slice da0 d0.length dc0 ∧ t 70 = .int .i64 att ∧ t 74 = .int .i64 r235 ∧ t 75 = .int .i64 att ∧ t 77 = .int .i64 most ∧ t 79 = .int .i64 r237 ∧ t 80 = .int .i64 most)) ?chM234 ?alM234 ?mvM234 (List.forall_mem_cons.2 ⟨List.forall_mem_cons.2 ⟨fun _ _ => rfl, List.forall_mem_cons.2 ⟨fun _ _ => rfl, List.forall_mem_cons.2 ⟨fun _ _ => rfl, List.forall_mem_cons.2 ⟨fun _ _ => rfl, List.forall_mem_cons.2 ⟨fun _ _ => rfl, List.forall_mem_cons.2 ⟨fun _ _ => rfl, List.forall_mem_cons.2 ⟨fun _ _ => rfl, List.forall_mem_cons.2 ⟨fun _ _ => rfl, List.forall_mem_cons.2 ⟨fun _ _ => rfl, List.forall_mem_cons.2 ⟨fun _ _ => rfl, fun _ h => (by cases h)⟩⟩⟩⟩⟩⟩⟩⟩⟩⟩, List.forall_mem_cons.2 ⟨List.forall_mem_cons.2 ⟨fun _ _ => rfl, List.forall_mem_cons.2 ⟨fun _ _ => rfl, List.forall_mem_cons.2 ⟨fun _ _ => rfl, List.forall_mem_cons.2 ⟨fun _ _ => rfl, List.forall_mem_cons.2 ⟨fun _ _ => rfl, List.forall_mem_cons.2 ⟨fun _ _ => rfl, List.forall_mem_cons.2 ⟨fun _ _ => rfl, List.forall_mem_cons.2 ⟨fun _ _ => rfl, List.forall_mem_cons.2 ⟨fun _ _ => rfl, List.forall_mem_cons.2 ⟨fun _ _ => rfl, fun _ h => (by cases h)⟩⟩⟩⟩⟩⟩⟩⟩⟩⟩, List.forall_mem_cons.2 ⟨List.forall_mem_cons.2 ⟨fun _ _ => rfl, List.forall_mem_cons.2 ⟨fun _ _ => rfl, List.forall_mem_cons.2 ⟨fun _ _ => rfl, List.forall_mem_cons.2 ⟨fun _ _ => rfl, List.forall_mem_cons.2 ⟨fun _ _ => rfl, List.forall_mem_cons.2 ⟨fun _ _ => rfl, List.forall_mem_cons.2 ⟨fun _ _ => rfl, List.forall_mem_cons.2 ⟨fun _ _ => rfl, List.forall_mem_cons.2 ⟨fun _ _ => rfl, List.forall_mem_cons.2 ⟨fun _ _ => rfl, fun _ h => (by cases h)⟩⟩⟩⟩⟩⟩⟩⟩⟩⟩, List.forall_mem_cons.2 ⟨List.forall_mem_cons.2 ⟨fun _ _ => rfl, List.forall_mem_cons.2 ⟨fun _ _ => rfl, List.forall_mem_cons.2 ⟨fun _ _ => rfl, List.forall_mem_cons.2 ⟨fun _ _ => rfl, List.forall_mem_cons.2 ⟨fun _ _ => rfl, List.forall_mem_cons.2 ⟨fun _ _ => rfl, List.forall_mem_cons.2 ⟨fun _ _ => rfl, List.forall_mem_cons.2 ⟨fun _ _ => rfl, List.forall_mem_cons.2 ⟨fun _ _ => rfl, List.forall_mem_cons.2 ⟨fun _ _ => rfl, fun _ h => (by cases h)⟩⟩⟩⟩⟩⟩⟩⟩⟩⟩, List.forall_mem_cons.2 ⟨List.forall_mem_cons.2 ⟨fun _ _ => rfl, List.forall_mem_cons.2 ⟨fun _ _ => rfl, List.forall_mem_cons.2 ⟨fun _ _ => rfl, List.forall_mem_cons.2 ⟨fun _ _ => rfl, List.forall_mem_cons.2 ⟨fun _ _ => rfl, List.forall_mem_cons.2 ⟨fun _ _ => rfl, List.forall_mem_cons.2 ⟨fun _ _ => rfl, List.forall_mem_cons.2 ⟨fun _ _ => rfl, List.forall_mem_cons.2 ⟨fun _ _ => rfl, List.forall_mem_cons.2 ⟨fun _ _ => rfl, fun _ h => (by cases h)⟩⟩⟩⟩⟩⟩⟩⟩⟩⟩, fun _ h => (by cases h)⟩⟩⟩⟩⟩) ⟨(by kernel_rfl), rfl, ⟨(by kernel_rfl), (by kernel_rfl), (by kernel_rfl), (by kernel_rfl), (by kernel_rfl), (by kernel_rfl), (by kernel_rfl), (by kernel_rfl), (by kernel_rfl), (by kernel_rfl), (by kernel_rfl), (by kernel_rfl), (by kernel_rfl), (by kernel_rfl), (by kernel_rfl), (by kernel_rfl)⟩⟩ ?restM234
      case chM234 =>
        refine ChainL.callS 16 (fun t => ∃ (r235 : Int), (1 ≤ r235 ∧ r235 ≤ ((dl.length + 1) : Int)) ∧ t 58 = .agg (froC l0 (.slice sa0 l0.cov.length sc0)) ∧ t 59 = .agg (froC l (.slice sal l.cov.length scl)) ∧ t 60 = .agg (froC l (.slice sal l.cov.length scl)) ∧ t 62 = .agg (iceC x0) ∧ t 63 = .agg (iceC ic) ∧ t 64 = .agg (iceC ic) ∧ t 66 = .slice da0 d0.length dc0 ∧ t 67 = .slice (some ⟨g222, 0, none⟩) (dl.length + 1) cap223 ∧ t 68 = .slice da0 d0.length dc0 ∧ t 70 = .int .i64 att ∧ t 74 = .int .i64 r235 ∧ t 75 = .int .i64 att ∧ t 77 = .int .i64 most ∧ t 78 = .pointer (some ⟨sb, 0, none⟩) ∧ t 80 = .int .i64 most) (List.forall_mem_cons.2 ⟨fun _ _ u => u, List.forall_mem_cons.2 ⟨fun _ _ u => u, List.forall_mem_cons.2 ⟨fun _ _ u => u, List.forall_mem_cons.2 ⟨fun _ _ u => u, List.forall_mem_cons.2 ⟨fun _ _ u => u, List.forall_mem_cons.2 ⟨fun _ _ u => u, List.forall_mem_cons.2 ⟨fun _ _ u => u, List.forall_mem_cons.2 ⟨fun _ _ u => u, List.forall_mem_cons.2 ⟨fun _ _ u => u, List.forall_mem_cons.2 ⟨fun _ _ u => u, fun _ h => (by cases h)⟩⟩⟩⟩⟩⟩⟩⟩⟩⟩) hSS (List.forall_mem_cons.2 ⟨fun _ t ⟨e58, e59, e60, e62, e63, e64, e66, e67, e68, e70, e71, e73, e75, e77, e78, e80⟩ => ⟨e58, e59, e60⟩, List.forall_mem_cons.2 ⟨fun _ t ⟨e58, e59, e60, e62, e63, e64, e66, e67, e68, e70, e71, e73, e75, e77, e78, e80⟩ => ⟨e62, e63, e64⟩, List.forall_mem_cons.2 ⟨fun _ t ⟨e58, e59, e60, e62, e63, e64, e66, e67, e68, e70, e71, e73, e75, e77, e78, e80⟩ => ⟨e66, e67, e68⟩, List.forall_mem_cons.2 ⟨fun h_ => no_dep (by kernel_rfl) h_, List.forall_mem_cons.2 ⟨fun h_ => no_dep (by kernel_rfl) h_, fun _ h => (by cases h)⟩⟩⟩⟩⟩) (by kernel_rfl) ?_ ?_
        · rintro t w_ LA ⟨e58, e59, e60, e62, e63, e64, e66, e67, e68, e70, e71, e73, e75, e77, e78, e80⟩ ⟨F_, hwn_⟩
          have hws := F_.gb.size
          rw [rng_floods_walk t, e58, e59, e60, e62, e63, e64, e66, e67, e68, e70, e71, e73, e75, e77, e78, e80]
          clear e58 e59 e60 e62 e63 e64 e66 e67 e68 e70 e71 e73 e75 e77 e78 e80
          refine wpOp_stepH rfl (fun K hK => ?_)
          go_simp
          refine (from_c sb 1 ((dl.length + 1) : Int) _ (F_.at 1 rfl : SeedAt _ sb) (by omega) (by omega) (by omega) (by omega)).mono ?_
          rintro e w239 ⟨r235, rfl, hr236, hs241, hg240⟩
          unfold fromR at hr236; have hr236b : 1 ≤ r235 ∧ r235 ≤ ((dl.length + 1) : Int) := (by omega); clear hr236
          exact hK.out _ _ ⟨(by kernel_rfl), rfl, ⟨r235, (by first | assumption | omega), (by kernel_rfl), (by kernel_rfl), (by kernel_rfl), (by kernel_rfl), (by kernel_rfl), (by kernel_rfl), (by kernel_rfl), (by kernel_rfl), (by kernel_rfl), (by kernel_rfl), (by kernel_rfl), (by kernel_rfl), (by kernel_rfl), (by kernel_rfl), (by kernel_rfl)⟩, List.forall_mem_cons.2 ⟨(by kernel_rfl), List.forall_mem_cons.2 ⟨(by kernel_rfl), List.forall_mem_cons.2 ⟨(by kernel_rfl), List.forall_mem_cons.2 ⟨(by kernel_rfl), List.forall_mem_cons.2 ⟨(by kernel_rfl), List.forall_mem_cons.2 ⟨(by kernel_rfl), List.forall_mem_cons.2 ⟨(by kernel_rfl), List.forall_mem_cons.2 ⟨(by kernel_rfl), List.forall_mem_cons.2 ⟨(by kernel_rfl), List.forall_mem_cons.2 ⟨(by kernel_rfl), fun _ h => (by cases h)⟩⟩⟩⟩⟩⟩⟩⟩⟩⟩, List.forall_mem_cons.2 ⟨fun _ => (by kernel_rfl), List.forall_mem_cons.2 ⟨fun _ => (by kernel_rfl), List.forall_mem_cons.2 ⟨fun _ => (by kernel_rfl), List.forall_mem_cons.2 ⟨fun h_ => no_dep (by kernel_rfl) h_, List.forall_mem_cons.2 ⟨fun h_ => no_dep (by kernel_rfl) h_, fun _ h => (by cases h)⟩⟩⟩⟩⟩, ⟨F_.seedAt 1 rfl hg240 hs241, Nat.le_trans hwn_ hg240.size⟩, hSS _ _ ⟨F_.seedAt 1 rfl hg240 hs241, Nat.le_trans hwn_ hg240.size⟩⟩
        refine ChainL.callS 21 (fun t => ∃ (r235 : Int) (r237 : Int), (1 ≤ r235 ∧ r235 ≤ ((dl.length + 1) : Int)) ∧ (0 ≤ r237 ∧ (r237 < 60 ∨ r237 = 0)) ∧ t 58 = .agg (froC l0 (.slice sa0 l0.cov.length sc0)) ∧ t 59 = .agg (froC l (.slice sal l.cov.length scl)) ∧ t 60 = .agg (froC l (.slice sal l.cov.length scl)) ∧ t 62 = .agg (iceC x0) ∧ t 63 = .agg (iceC ic) ∧ t 64 = .agg (iceC ic) ∧ t 66 = .slice da0 d0.length dc0 ∧ t 67 = .slice (some ⟨g222, 0, none⟩) (dl.length + 1) cap223 ∧ t 68 = .slice da0 d0.length dc0 ∧ t 70 = .int .i64 att ∧ t 74 = .int .i64 r235 ∧ t 75 = .int .i64 att ∧ t 77 = .int .i64 most ∧ t 79 = .int .i64 r237 ∧ t 80 = .int .i64 most) (List.forall_mem_cons.2 ⟨fun _ _ u => u, List.forall_mem_cons.2 ⟨fun _ _ u => u, List.forall_mem_cons.2 ⟨fun _ _ u => u, List.forall_mem_cons.2 ⟨fun _ _ u => u, List.forall_mem_cons.2 ⟨fun _ _ u => u, List.forall_mem_cons.2 ⟨fun _ _ u => u, List.forall_mem_cons.2 ⟨fun _ _ u => u, List.forall_mem_cons.2 ⟨fun _ _ u => u, List.forall_mem_cons.2 ⟨fun _ _ u => u, List.forall_mem_cons.2 ⟨fun _ _ u => u, fun _ h => (by cases h)⟩⟩⟩⟩⟩⟩⟩⟩⟩⟩) hSS (List.forall_mem_cons.2 ⟨fun _ t ⟨r235, hr236b, e58, e59, e60, e62, e63, e64, e66, e67, e68, e70, e74, e75, e77, e78, e80⟩ => ⟨e58, e59, e60⟩, List.forall_mem_cons.2 ⟨fun _ t ⟨r235, hr236b, e58, e59, e60, e62, e63, e64, e66, e67, e68, e70, e74, e75, e77, e78, e80⟩ => ⟨e62, e63, e64⟩, List.forall_mem_cons.2 ⟨fun _ t ⟨r235, hr236b, e58, e59, e60, e62, e63, e64, e66, e67, e68, e70, e74, e75, e77, e78, e80⟩ => ⟨e66, e67, e68⟩, List.forall_mem_cons.2 ⟨fun _ t ⟨r235, hr236b, e58, e59, e60, e62, e63, e64, e66, e67, e68, e70, e74, e75, e77, e78, e80⟩ => ⟨r235, e70, e74, e75⟩, List.forall_mem_cons.2 ⟨fun h_ => no_dep (by kernel_rfl) h_, fun _ h => (by cases h)⟩⟩⟩⟩⟩) (by kernel_rfl) ?_ ?_
        · rintro t w_ LA ⟨r235, hr236b, e58, e59, e60, e62, e63, e64, e66, e67, e68, e70, e74, e75, e77, e78, e80⟩ ⟨F_, hwn_⟩
          have hws := F_.gb.size
          rw [rng_floods_walk t, e58, e59, e60, e62, e63, e64, e66, e67, e68, e70, e74, e75, e77, e78, e80]
          clear e58 e59 e60 e62 e63 e64 e66 e67 e68 e70 e75 e77 e78 e80
          refine wpOp_stepH rfl (fun K hK => ?_)
          go_simp
          refine (below_c sb 60 _ (F_.at 1 rfl : SeedAt _ sb) (by omega) (by omega)).mono ?_
          rintro e w242 ⟨r237, rfl, hr238, hs244, hg243⟩
          unfold belowR at hr238
          exact hK.out _ _ ⟨(by kernel_rfl), rfl, ⟨r235, r237, (by first | assumption | omega), (by first | assumption | omega), (by kernel_rfl), (by kernel_rfl), (by kernel_rfl), (by kernel_rfl), (by kernel_rfl), (by kernel_rfl), (by kernel_rfl), (by kernel_rfl), (by kernel_rfl), (by kernel_rfl), (by kernel_rfl), (by kernel_rfl), (by kernel_rfl), (by kernel_rfl), (by kernel_rfl)⟩, List.forall_mem_cons.2 ⟨(by kernel_rfl), List.forall_mem_cons.2 ⟨(by kernel_rfl), List.forall_mem_cons.2 ⟨(by kernel_rfl), List.forall_mem_cons.2 ⟨(by kernel_rfl), List.forall_mem_cons.2 ⟨(by kernel_rfl), List.forall_mem_cons.2 ⟨(by kernel_rfl), List.forall_mem_cons.2 ⟨(by kernel_rfl), List.forall_mem_cons.2 ⟨(by kernel_rfl), List.forall_mem_cons.2 ⟨(by kernel_rfl), List.forall_mem_cons.2 ⟨(by kernel_rfl), fun _ h => (by cases h)⟩⟩⟩⟩⟩⟩⟩⟩⟩⟩, List.forall_mem_cons.2 ⟨fun _ => (by kernel_rfl), List.forall_mem_cons.2 ⟨fun _ => (by kernel_rfl), List.forall_mem_cons.2 ⟨fun _ => (by kernel_rfl), List.forall_mem_cons.2 ⟨fun _ => Eq.trans (b := #[.int .i64 att, .int .i64 r235, .int .i64 att]) (by kernel_rfl) (by show #[.int .i64 att, .int .i64 r235, .int .i64 att] = #[.int .i64 att, t 74, .int .i64 att]; rw [e74]), List.forall_mem_cons.2 ⟨fun h_ => no_dep (by kernel_rfl) h_, fun _ h => (by cases h)⟩⟩⟩⟩⟩, ⟨F_.seedAt 1 rfl hg243 hs244, Nat.le_trans hwn_ hg243.size⟩, hSS _ _ ⟨F_.seedAt 1 rfl hg243 hs244, Nat.le_trans hwn_ hg243.size⟩⟩
        exact ChainL.nil _ _ _ (List.forall_mem_cons.2 ⟨fun _ _ u => u, List.forall_mem_cons.2 ⟨fun _ _ u => u, List.forall_mem_cons.2 ⟨fun _ _ u => u, List.forall_mem_cons.2 ⟨fun _ _ u => u, List.forall_mem_cons.2 ⟨fun _ _ u => u, List.forall_mem_cons.2 ⟨fun _ _ u => u, List.forall_mem_cons.2 ⟨fun _ _ u => u, List.forall_mem_cons.2 ⟨fun _ _ u => u, List.forall_mem_cons.2 ⟨fun _ _ u => u, List.forall_mem_cons.2 ⟨fun _ _ u => u, fun _ h => (by cases h)⟩⟩⟩⟩⟩⟩⟩⟩⟩⟩) hSS (List.forall_mem_cons.2 ⟨fun _ t ⟨r235, r237, hr236b, hr238, e58, e59, e60, e62, e63, e64, e66, e67, e68, e70, e74, e75, e77, e79, e80⟩ => ⟨e58, e59, e60⟩, List.forall_mem_cons.2 ⟨fun _ t ⟨r235, r237, hr236b, hr238, e58, e59, e60, e62, e63, e64, e66, e67, e68, e70, e74, e75, e77, e79, e80⟩ => ⟨e62, e63, e64⟩, List.forall_mem_cons.2 ⟨fun _ t ⟨r235, r237, hr236b, hr238, e58, e59, e60, e62, e63, e64, e66, e67, e68, e70, e74, e75, e77, e79, e80⟩ => ⟨e66, e67, e68⟩, List.forall_mem_cons.2 ⟨fun _ t ⟨r235, r237, hr236b, hr238, e58, e59, e60, e62, e63, e64, e66, e67, e68, e70, e74, e75, e77, e79, e80⟩ => ⟨r235, e70, e74, e75⟩, List.forall_mem_cons.2 ⟨fun _ t ⟨r235, r237, hr236b, hr238, e58, e59, e60, e62, e63, e64, e66, e67, e68, e70, e74, e75, e77, e79, e80⟩ => ⟨r237, e77, e79, e80⟩, fun _ h => (by cases h)⟩⟩⟩⟩⟩)
      case alM234 =>
        refine List.forall_mem_cons.2 ⟨fun t w K hv h => ?_, ?_⟩
        · obtain ⟨e58, e59, e60⟩ := hv; (try dsimp only at h); rw [rng_floods_walk t, e58, e59, e60] at h ⊢; exact wpOp_step rfl (fun K hK => by go_simp; exact hK _ _ h)
        refine List.forall_mem_cons.2 ⟨fun t w K hv h => ?_, ?_⟩
        · obtain ⟨e62, e63, e64⟩ := hv; (try dsimp only at h); rw [rng_floods_walk t, e62, e63, e64] at h ⊢; exact wpOp_step rfl (fun K hK => by go_simp; exact hK _ _ h)
        refine List.forall_mem_cons.2 ⟨fun t w K hv h => ?_, ?_⟩
        · obtain ⟨e66, e67, e68⟩ := hv; (try dsimp only at h); rw [rng_floods_walk t, e66, e67, e68] at h ⊢; exact wpOp_step rfl (fun K hK => by go_simp; exact hK _ _ h)
        refine List.forall_mem_cons.2 ⟨fun t w K hv h => ?_, ?_⟩
        · obtain ⟨r235, e70, e74, e75⟩ := hv; (try dsimp only at h); rw [rng_floods_walk t, e70, e74, e75] at h ⊢; exact wpOp_step rfl (fun K hK => by go_simp; exact hK _ _ h)
        refine List.forall_mem_cons.2 ⟨fun t w K hv h => ?_, ?_⟩
        · obtain ⟨r237, e77, e79, e80⟩ := hv; (try dsimp only at h); rw [rng_floods_walk t, e77, e79, e80] at h ⊢; exact wpOp_step rfl (fun K hK => by go_simp; exact hK _ _ h)
        exact fun _ h => (by cases h)
      case mvM234 => exact List.forall_mem_cons.2 ⟨⟨_, rfl, fun t => .inl ⟨by first | kernel_rfl | rfl, fun w_ _ => by rw [rng_floods_walk t]; go_simp; (try with_reducible rfl)⟩⟩, List.forall_mem_cons.2 ⟨⟨_, rfl, fun t => .inl ⟨by first | kernel_rfl | rfl, fun w_ _ => by rw [rng_floods_walk t]; go_simp; (try with_reducible rfl)⟩⟩, List.forall_mem_cons.2 ⟨⟨_, rfl, fun t => .inl ⟨by first | kernel_rfl | rfl, fun w_ _ => by rw [rng_floods_walk t]; go_simp; (try with_reducible rfl)⟩⟩, List.forall_mem_cons.2 ⟨⟨_, rfl, fun t => .inl ⟨by first | kernel_rfl | rfl, fun w_ _ => by rw [rng_floods_walk t]; go_simp; (try with_reducible rfl)⟩⟩, List.forall_mem_cons.2 ⟨⟨_, rfl, fun t => .inl ⟨by first | kernel_rfl | rfl, fun w_ _ => by rw [rng_floods_walk t]; go_simp; (try with_reducible rfl)⟩⟩, fun _ h => (by cases h)⟩⟩⟩⟩⟩
      case restM234 =>
        rintro t w250 g ⟨r235, r237, hr236b, hr238, e58, e59, e60, e62, e63, e64, e66, e67, e68, e70, e74, e75, e77, e79, e80⟩ hA hB ⟨F_, hwnM234⟩
        clear hSS
        clear F231
        have hA0_0 : t 61 = .slice (some ⟨g 3, 0, none⟩) 3 3 := hA _ (.head _)
        have hA0_1 : t 17 = .slice (some ⟨g 3, 0, none⟩) 3 3 := hB _ (.head _) _ (.head _) rfl
        have hA1_0 : t 65 = .slice (some ⟨g 7, 0, none⟩) 3 3 := hA _ (.tail _ (.head _))
        have hA1_1 : t 18 = .slice (some ⟨g 7, 0, none⟩) 3 3 := hB _ (.tail _ (.head _)) _ (.tail _ (.head _)) rfl
        have hA2_0 : t 69 = .slice (some ⟨g 11, 0, none⟩) 3 3 := hA _ (.tail _ (.tail _ (.head _)))
        have hA2_1 : t 19 = .slice (some ⟨g 11, 0, none⟩) 3 3 := hB _ (.tail _ (.tail _ (.head _))) _ (.tail _ (.tail _ (.head _))) rfl
        have hA3_0 : t 76 = .slice (some ⟨g 18, 0, none⟩) 3 3 := hA _ (.tail _ (.tail _ (.tail _ (.head _))))
        have hA3_1 : t 20 = .slice (some ⟨g 18, 0, none⟩) 3 3 := hB _ (.tail _ (.tail _ (.tail _ (.head _)))) _ (.tail _ (.tail _ (.tail _ (.head _)))) rfl
        have hA4_0 : t 81 = .slice (some ⟨g 23, 0, none⟩) 3 3 := hA _ (.tail _ (.tail _ (.tail _ (.tail _ (.head _)))))
        have hA4_1 : t 21 = .slice (some ⟨g 23, 0, none⟩) 3 3 := hB _ (.tail _ (.tail _ (.tail _ (.tail _ (.head _))))) _ (.tail _ (.tail _ (.tail _ (.tail _ (.head _))))) rfl
        (try simp only [List.map_cons, List.map_nil, List.cons_append, List.nil_append] at F_)
        simp only [e74, e79] at F_
        have F251 := F_
        clear hA hB F_
        obtain ⟨g245, hgx_⟩ : ∃ x_, g 3 = x_ := ⟨_, rfl⟩
        rw [hgx_] at hA0_0 hA0_1 F251; clear hgx_
        obtain ⟨g246, hgx_⟩ : ∃ x_, g 7 = x_ := ⟨_, rfl⟩
        rw [hgx_] at hA1_0 hA1_1 F251; clear hgx_
        obtain ⟨g247, hgx_⟩ : ∃ x_, g 11 = x_ := ⟨_, rfl⟩
        rw [hgx_] at hA2_0 hA2_1 F251; clear hgx_
        obtain ⟨g248, hgx_⟩ : ∃ x_, g 18 = x_ := ⟨_, rfl⟩
        rw [hgx_] at hA3_0 hA3_1 F251; clear hgx_
        obtain ⟨g249, hgx_⟩ : ∃ x_, g 23 = x_ := ⟨_, rfl⟩
        rw [hgx_] at hA4_0 hA4_1 F251; clear hgx_
        have hws := F251.gb.size
        have g245l := (F251.at 0 rfl : Bk _ _ _ _).lt
        have g246l := (F251.at 1 rfl : Bk _ _ _ _).lt
        have g247l := (F251.at 2 rfl : Bk _ _ _ _).lt
        have g248l := (F251.at 3 rfl : Bk _ _ _ _).lt
        have g249l := (F251.at 4 rfl : Bk _ _ _ _).lt
        rw [rng_floods_walk t, e58, e59, e60, e62, e63, e64, e66, e67, e68, e70, e74, e75, e77, e79, e80, hA0_0, hA0_1, hA1_0, hA1_1, hA2_0, hA2_1, hA3_0, hA3_1, hA4_0, hA4_1]
        clear e58 e59 e60 e62 e63 e64 e66 e67 e68 e70 e74 e75 e77 e79 e80 hA0_0 hA0_1 hA1_0 hA1_1 hA2_0 hA2_1 hA3_0 hA3_1 hA4_0 hA4_1
        have Fn_ := ((((F251.drop 7 rfl).drop 7 rfl).drop 8 rfl).drop 8 rfl)
        (try dsimp only [List.eraseIdx_cons_succ, List.eraseIdx_cons_zero] at Fn_)
        obtain ⟨w252, hx253, F255, hxs254⟩ := Fn_.name
        (try simp at hxs254)
        rw [hx253]
        clear hx253 F251 Fn_
        go_wp2_with fail
        refine wp_loop_rounds 4 ?_
        rw [rounds_succ]
        have b257 := F255.bx3 2 rfl
        go_wp2_with (at_builtin; refine wpList_copyB okWea rfl _ _ rfl w.heap.size w252.heap.size rfl (F255.new 35 #[] (n := w252.heap.size) (by simp)) (by first | omega | (simp; omega)) 0 w.heap.size (.slice da0 d0.length dc0) d0 rfl ((F255.new 35 #[] (n := w252.heap.size) (by simp)).at 10 rfl) (by omega) ?_; intro vc258 w259 hB260 hs261; refine Hid.out ?_)
        refine Lib.hid ?_
        (try simp at hs261)
        clear b257
        have F262 := hB260
        clear F255
        obtain ⟨ca263, cap264, e_⟩ := (Own.sl (F262.at 0 rfl : Own weaEnc 35 6 w.heap.size _ vc258 d0) (fun _ => rfl)).any
        subst e_
        go_wp2_with fail
        have F265 := F262.drew
        clear F262
        refine ru_begin (fun W => W.cell? ⟨g245, 0, none⟩ = some (.int .i64 l0.gr) ∧ W.cell? ⟨g245, 1, none⟩ = some (.int .i64 l0.la) ∧ W.cell? ⟨g245, 2, none⟩ = some (.slice sa0 l0.cov.length sc0) ∧ W.cell? ⟨g245, 3, none⟩ = some (.int .i64 l0.melt.lo) ∧ W.cell? ⟨g245, 4, none⟩ = some (.int .i64 l0.melt.hi) ∧ W.cell? ⟨g245, 5, none⟩ = some (.int .i64 l0.soak) ∧ W.cell? ⟨g245, 6, none⟩ = some (.int .i64 l0.white.lo) ∧ W.cell? ⟨g245, 7, none⟩ = some (.int .i64 l0.white.hi) ∧ W.cell? ⟨g246, 0, none⟩ = some (.int .i64 x0.bl.lo) ∧ W.cell? ⟨g246, 1, none⟩ = some (.int .i64 x0.bl.hi) ∧ W.cell? ⟨g246, 2, none⟩ = some (.int .i64 x0.wh.lo) ∧ W.cell? ⟨g246, 3, none⟩ = some (.int .i64 x0.wh.hi) ∧ W.cell? ⟨g246, 4, none⟩ = some (.int .i64 x0.we.lo) ∧ W.cell? ⟨g246, 5, none⟩ = some (.int .i64 x0.we.hi) ∧ W.cell? ⟨g246, 6, none⟩ = some (.int .i64 x0.sn.lo) ∧ W.cell? ⟨g246, 7, none⟩ = some (.int .i64 x0.sn.hi) ∧ W.cell? ⟨g248, 0, none⟩ = some (.int .i64 att) ∧ W.cell? ⟨g249, 0, none⟩ = some (.int .i64 most)) 22 (by kernel_rfl) ?_ ?_
        · exact ⟨F265.cl 1 0 rfl rfl, F265.cl 1 1 rfl rfl, F265.cl 1 2 rfl rfl, F265.cl 1 3 rfl rfl, F265.cl 1 4 rfl rfl, F265.cl 1 5 rfl rfl, F265.cl 1 6 rfl rfl, F265.cl 1 7 rfl rfl, F265.cl 2 0 rfl rfl, F265.cl 2 1 rfl rfl, F265.cl 2 2 rfl rfl, F265.cl 2 3 rfl rfl, F265.cl 2 4 rfl rfl, F265.cl 2 5 rfl rfl, F265.cl 2 6 rfl rfl, F265.cl 2 7 rfl rfl, F265.cl 4 0 rfl rfl, F265.cl 5 0 rfl rfl⟩
        obtain ⟨wd267, hwd_⟩ : ∃ x : World, w259.drew = x := ⟨_, rfl⟩
        rw [hwd_] at F265 ⊢
        have wd267s : w259.heap.size ≤ wd267.heap.size := by rw [← hwd_]; exact Nat.le_refl _
        clear hwd_
        have hS266 := (And.intro (F265.cl 1 0 rfl rfl) (And.intro (F265.cl 1 1 rfl rfl) (And.intro (F265.cl 1 2 rfl rfl) (And.intro (F265.cl 1 3 rfl rfl) (And.intro (F265.cl 1 4 rfl rfl) (And.intro (F265.cl 1 5 rfl rfl) (And.intro (F265.cl 1 6 rfl rfl) (And.intro (F265.cl 1 7 rfl rfl) (And.intro (F265.cl 2 0 rfl rfl) (And.intro (F265.cl 2 1 rfl rfl) (And.intro (F265.cl 2 2 rfl rfl) (And.intro (F265.cl 2 3 rfl rfl) (And.intro (F265.cl 2 4 rfl rfl) (And.intro (F265.cl 2 5 rfl rfl) (And.intro (F265.cl 2 6 rfl rfl) (And.intro (F265.cl 2 7 rfl rfl) (And.intro (F265.cl 4 0 rfl rfl) (F265.cl 5 0 rfl rfl))))))))))))))))))
        refine ru_t 0 [] ?_
        refine ru_t 1 [] ?_
        refine ru_t 2 [] ?_
        refine ru_t 3 [] ?_
        refine ru_t 4 [] ?_
        refine ru_t 5 [] ?_
        refine ru_t 6 [] ?_
        refine ru_t 7 [] ?_
        refine ru_t 8 [] ?_
        refine ru_t 9 [] ?_
        refine ru_t 10 [] ?_
        refine ru_t 11 [] ?_
        refine ru_t 12 [] ?_
        refine ru_t 13 [] ?_
        refine ru_t 14 [] ?_
        refine ru_t 15 [] ?_
        refine ru_t 16 [] ?_
        (try simp only [Act.put, List.setIfInBounds_toArray, List.set_cons_zero, List.set_cons_succ])
        clear hS266
        refine ru_one 17 rfl (by kernel_rfl) (fun K hK => ?_)
        go_simp
        refine (flood_c _ _ _ l0 x0 _ _ _ d0 att most _ (F265.at 11 rfl : Sl covEnc 3 0 w.heap.size _ (.slice sa0 l0.cov.length sc0) l0.cov) (by first | omega | (simp; omega)) (Own.sl (F265.at 0 rfl : Own weaEnc 35 6 w.heap.size _ (.slice ca263 d0.length cap264) d0) (fun _ => rfl)) (Nat.le_refl _)).mono ?_
        rintro e w270 ⟨rfl, hg268⟩
        have hg268s := hg268.size
        (try simp at hg268s)
        have F271 := F265.gn hg268
        clear F265
        refine ru_back hK (by exact ⟨F271.cl 1 0 rfl rfl, F271.cl 1 1 rfl rfl, F271.cl 1 2 rfl rfl, F271.cl 1 3 rfl rfl, F271.cl 1 4 rfl rfl, F271.cl 1 5 rfl rfl, F271.cl 1 6 rfl rfl, F271.cl 1 7 rfl rfl, F271.cl 2 0 rfl rfl, F271.cl 2 1 rfl rfl, F271.cl 2 2 rfl rfl, F271.cl 2 3 rfl rfl, F271.cl 2 4 rfl rfl, F271.cl 2 5 rfl rfl, F271.cl 2 6 rfl rfl, F271.cl 2 7 rfl rfl, F271.cl 4 0 rfl rfl, F271.cl 5 0 rfl rfl⟩) (fun hHeld => ?_)
        clear hK K
        (try simp only [Act.put, List.setIfInBounds_toArray, List.set_cons_zero, List.set_cons_succ])
        refine ru_p 18 ?_
        (try simp only [Act.put, List.setIfInBounds_toArray, List.set_cons_zero, List.set_cons_succ])
        refine ru_p 19 ?_
        refine ru_p 20 ?_
        (try simp only [Act.put, List.setIfInBounds_toArray, List.set_cons_zero, List.set_cons_succ])
        refine ru_p 21 ?_
        (try simp only [Act.put, List.setIfInBounds_toArray, List.set_cons_zero, List.set_cons_succ])
        refine ru_one 22 rfl (by kernel_rfl) (fun K hK => ?_)
        go_simp
        refine ru_back_late hK (by kernel_rfl) ?_
        clear hK K
        (try simp only [Act.put, List.setIfInBounds_toArray, List.set_cons_zero, List.set_cons_succ])
        refine ru_done (by kernel_rfl) ?_
        have Fn_ := F271
        (try dsimp only [List.eraseIdx_cons_succ, List.eraseIdx_cons_zero] at Fn_)
        obtain ⟨w272, hx273, F275, hxs274⟩ := Fn_.name
        (try simp at hxs274)
        rw [hx273]
        clear hx273 F271 Fn_
        go_wp2_with fail
        have F276 := F275.drew
        clear F275
        refine ru_begin (fun W => W.cell? ⟨g245, 0, none⟩ = some (.int .i64 l0.gr) ∧ W.cell? ⟨g245, 1, none⟩ = some (.int .i64 l0.la) ∧ W.cell? ⟨g245, 2, none⟩ = some (.slice sa0 l0.cov.length sc0) ∧ W.cell? ⟨g245, 3, none⟩ = some (.int .i64 l0.melt.lo) ∧ W.cell? ⟨g245, 4, none⟩ = some (.int .i64 l0.melt.hi) ∧ W.cell? ⟨g245, 5, none⟩ = some (.int .i64 l0.soak) ∧ W.cell? ⟨g245, 6, none⟩ = some (.int .i64 l0.white.lo) ∧ W.cell? ⟨g245, 7, none⟩ = some (.int .i64 l0.white.hi) ∧ W.cell? ⟨g246, 0, none⟩ = some (.int .i64 x0.bl.lo) ∧ W.cell? ⟨g246, 1, none⟩ = some (.int .i64 x0.bl.hi) ∧ W.cell? ⟨g246, 2, none⟩ = some (.int .i64 x0.wh.lo) ∧ W.cell? ⟨g246, 3, none⟩ = some (.int .i64 x0.wh.hi) ∧ W.cell? ⟨g246, 4, none⟩ = some (.int .i64 x0.we.lo) ∧ W.cell? ⟨g246, 5, none⟩ = some (.int .i64 x0.we.hi) ∧ W.cell? ⟨g246, 6, none⟩ = some (.int .i64 x0.sn.lo) ∧ W.cell? ⟨g246, 7, none⟩ = some (.int .i64 x0.sn.hi) ∧ W.cell? ⟨g247, 0, none⟩ = some (.slice da0 d0.length dc0) ∧ W.cell? ⟨g248, 0, none⟩ = some (.int .i64 att) ∧ W.cell? ⟨g249, 0, none⟩ = some (.int .i64 most)) 25 (by kernel_rfl) ?_ ?_
        · exact ⟨F276.cl 1 0 rfl rfl, F276.cl 1 1 rfl rfl, F276.cl 1 2 rfl rfl, F276.cl 1 3 rfl rfl, F276.cl 1 4 rfl rfl, F276.cl 1 5 rfl rfl, F276.cl 1 6 rfl rfl, F276.cl 1 7 rfl rfl, F276.cl 2 0 rfl rfl, F276.cl 2 1 rfl rfl, F276.cl 2 2 rfl rfl, F276.cl 2 3 rfl rfl, F276.cl 2 4 rfl rfl, F276.cl 2 5 rfl rfl, F276.cl 2 6 rfl rfl, F276.cl 2 7 rfl rfl, F276.cl 3 0 rfl rfl, F276.cl 4 0 rfl rfl, F276.cl 5 0 rfl rfl⟩
        obtain ⟨wd278, hwd_⟩ : ∃ x : World, w272.drew = x := ⟨_, rfl⟩
        rw [hwd_] at F276 ⊢
        have wd278s : w272.heap.size ≤ wd278.heap.size := by rw [← hwd_]; exact Nat.le_refl _
        clear hwd_
        have hS277 := (And.intro (F276.cl 1 0 rfl rfl) (And.intro (F276.cl 1 1 rfl rfl) (And.intro (F276.cl 1 2 rfl rfl) (And.intro (F276.cl 1 3 rfl rfl) (And.intro (F276.cl 1 4 rfl rfl) (And.intro (F276.cl 1 5 rfl rfl) (And.intro (F276.cl 1 6 rfl rfl) (And.intro (F276.cl 1 7 rfl rfl) (And.intro (F276.cl 2 0 rfl rfl) (And.intro (F276.cl 2 1 rfl rfl) (And.intro (F276.cl 2 2 rfl rfl) (And.intro (F276.cl 2 3 rfl rfl) (And.intro (F276.cl 2 4 rfl rfl) (And.intro (F276.cl 2 5 rfl rfl) (And.intro (F276.cl 2 6 rfl rfl) (And.intro (F276.cl 2 7 rfl rfl) (And.intro (F276.cl 3 0 rfl rfl) (And.intro (F276.cl 4 0 rfl rfl) (F276.cl 5 0 rfl rfl)))))))))))))))))))
        refine ru_t 0 [] ?_
        refine ru_t 1 [] ?_
        refine ru_t 2 [] ?_
        refine ru_t 3 [] ?_
        refine ru_t 4 [] ?_
        refine ru_t 5 [] ?_
        refine ru_t 6 [] ?_
        refine ru_t 7 [] ?_
        refine ru_t 8 [] ?_
        refine ru_t 9 [] ?_
        refine ru_t 10 [] ?_
        refine ru_t 11 [] ?_
        refine ru_t 12 [] ?_
        refine ru_t 13 [] ?_
        refine ru_t 14 [] ?_
        refine ru_t 15 [] ?_
        refine ru_t 16 [] ?_
        refine ru_t 17 [] ?_
        refine ru_t 18 [] ?_
        refine ru_t 19 [] ?_
        (try simp only [Act.put, List.setIfInBounds_toArray, List.set_cons_zero, List.set_cons_succ])
        clear hS277
        refine ru_one 20 rfl (by kernel_rfl) (fun K hK => ?_)
        go_simp
        refine (rflood_c _ _ _ l0 x0 _ _ _ d0 att most _ (F276.at 11 rfl : Sl covEnc 3 0 w.heap.size _ (.slice sa0 l0.cov.length sc0) l0.cov) (by first | omega | (simp; omega)) (F276.at 10 rfl : Sl weaEnc 6 0 w.heap.size _ (.slice da0 d0.length dc0) d0) (by first | omega | (simp; omega))).mono ?_
        rintro e w281 ⟨rfl, hg279⟩
        have hg279s := hg279.size
        (try simp at hg279s)
        have F282 := F276.gn hg279
        clear F276
        refine ru_back hK (by exact ⟨F282.cl 1 0 rfl rfl, F282.cl 1 1 rfl rfl, F282.cl 1 2 rfl rfl, F282.cl 1 3 rfl rfl, F282.cl 1 4 rfl rfl, F282.cl 1 5 rfl rfl, F282.cl 1 6 rfl rfl, F282.cl 1 7 rfl rfl, F282.cl 2 0 rfl rfl, F282.cl 2 1 rfl rfl, F282.cl 2 2 rfl rfl, F282.cl 2 3 rfl rfl, F282.cl 2 4 rfl rfl, F282.cl 2 5 rfl rfl, F282.cl 2 6 rfl rfl, F282.cl 2 7 rfl rfl, F282.cl 3 0 rfl rfl, F282.cl 4 0 rfl rfl, F282.cl 5 0 rfl rfl⟩) (fun hHeld => ?_)
        clear hK K
        (try simp only [Act.put, List.setIfInBounds_toArray, List.set_cons_zero, List.set_cons_succ])
        refine ru_p 21 ?_
        (try simp only [Act.put, List.setIfInBounds_toArray, List.set_cons_zero, List.set_cons_succ])
        refine ru_p 22 ?_
        refine ru_p 23 ?_
        (try simp only [Act.put, List.setIfInBounds_toArray, List.set_cons_zero, List.set_cons_succ])
        refine ru_p 24 ?_
        (try simp only [Act.put, List.setIfInBounds_toArray, List.set_cons_zero, List.set_cons_succ])
        refine ru_one 25 rfl (by kernel_rfl) (fun K hK => ?_)
        go_simp
        refine ru_back_late hK (by kernel_rfl) ?_
        clear hK K
        (try simp only [Act.put, List.setIfInBounds_toArray, List.set_cons_zero, List.set_cons_succ])
        refine ru_done (by kernel_rfl) ?_
        have Fn_ := F282
        (try dsimp only [List.eraseIdx_cons_succ, List.eraseIdx_cons_zero] at Fn_)
        obtain ⟨w283, hx284, F286, hxs285⟩ := Fn_.name
        (try simp at hxs285)
        rw [hx284]
        clear hx284 F282 Fn_
        have b287 := F286.bx3 3 rfl
        go_wp2_with fail
        clear b287
        refine (sameDays_c _ _ _ _ _ _ d0 _ (Own.sl (F286.at 0 rfl : Own weaEnc 35 6 w.heap.size _ (.slice ca263 d0.length cap264) d0) (fun _ => rfl)) (Nat.le_refl _) (F286.at 10 rfl : Sl weaEnc 6 0 w.heap.size _ (.slice da0 d0.length dc0) d0) (by first | omega | (simp; omega))).mono ?_
        rintro e w290 ⟨rfl, hg288⟩
        have hg288s := hg288.size
        (try simp at hg288s)
        have F291 := F286.gn hg288
        clear F286
        clear hg288
        go_wp2_with fail
        rw [rounds_succ]
        have b293 := F291.bx3 3 rfl
        go_wp2_with (at_builtin; refine wpList_copyB okWea rfl _ _ rfl w.heap.size w290.heap.size rfl (F291.new 35 #[] (n := w290.heap.size) (by simp)) (by first | omega | (simp; omega)) g222 (g222 + 1) (.slice (some ⟨g222, 0, none⟩) (dl.length + 1) cap223) al rfl (Own.slG ((F291.new 35 #[] (n := w290.heap.size) (by simp)).at 7 rfl : Own weaEnc 35 6 w.heap.size _ (.slice (some ⟨g222, 0, none⟩) (dl.length + 1) cap223) al) (fun _ => rfl)) (by omega) ?_; intro vc294 w295 hB296 hs297; refine Hid.out ?_)
        refine Lib.hid ?_
        (try simp at hs297)
        clear b293
        have F298 := hB296
        clear F291
        obtain ⟨ca299, cap300, e_⟩ := (Own.sl (F298.at 0 rfl : Own weaEnc 35 6 w.heap.size _ vc294 al) (fun _ => rfl)).any
        subst e_
        go_wp2_with fail
        have F301 := F298.drew
        clear F298
        refine ru_begin (fun W => W.cell? ⟨g245, 8, none⟩ = some (.int .i64 l.gr) ∧ W.cell? ⟨g245, 9, none⟩ = some (.int .i64 l.la) ∧ W.cell? ⟨g245, 10, none⟩ = some (.slice sal l.cov.length scl) ∧ W.cell? ⟨g245, 11, none⟩ = some (.int .i64 l.melt.lo) ∧ W.cell? ⟨g245, 12, none⟩ = some (.int .i64 l.melt.hi) ∧ W.cell? ⟨g245, 13, none⟩ = some (.int .i64 l.soak) ∧ W.cell? ⟨g245, 14, none⟩ = some (.int .i64 l.white.lo) ∧ W.cell? ⟨g245, 15, none⟩ = some (.int .i64 l.white.hi) ∧ W.cell? ⟨g246, 8, none⟩ = some (.int .i64 ic.bl.lo) ∧ W.cell? ⟨g246, 9, none⟩ = some (.int .i64 ic.bl.hi) ∧ W.cell? ⟨g246, 10, none⟩ = some (.int .i64 ic.wh.lo) ∧ W.cell? ⟨g246, 11, none⟩ = some (.int .i64 ic.wh.hi) ∧ W.cell? ⟨g246, 12, none⟩ = some (.int .i64 ic.we.lo) ∧ W.cell? ⟨g246, 13, none⟩ = some (.int .i64 ic.we.hi) ∧ W.cell? ⟨g246, 14, none⟩ = some (.int .i64 ic.sn.lo) ∧ W.cell? ⟨g246, 15, none⟩ = some (.int .i64 ic.sn.hi) ∧ W.cell? ⟨g248, 1, none⟩ = some (.int .i64 r235) ∧ W.cell? ⟨g249, 1, none⟩ = some (.int .i64 r237)) 22 (by kernel_rfl) ?_ ?_
        · exact ⟨F301.cl 2 8 rfl rfl, F301.cl 2 9 rfl rfl, F301.cl 2 10 rfl rfl, F301.cl 2 11 rfl rfl, F301.cl 2 12 rfl rfl, F301.cl 2 13 rfl rfl, F301.cl 2 14 rfl rfl, F301.cl 2 15 rfl rfl, F301.cl 3 8 rfl rfl, F301.cl 3 9 rfl rfl, F301.cl 3 10 rfl rfl, F301.cl 3 11 rfl rfl, F301.cl 3 12 rfl rfl, F301.cl 3 13 rfl rfl, F301.cl 3 14 rfl rfl, F301.cl 3 15 rfl rfl, F301.cl 5 1 rfl rfl, F301.cl 6 1 rfl rfl⟩
        obtain ⟨wd303, hwd_⟩ : ∃ x : World, w295.drew = x := ⟨_, rfl⟩
        rw [hwd_] at F301 ⊢
        have wd303s : w295.heap.size ≤ wd303.heap.size := by rw [← hwd_]; exact Nat.le_refl _
        clear hwd_
        have hS302 := (And.intro (F301.cl 2 8 rfl rfl) (And.intro (F301.cl 2 9 rfl rfl) (And.intro (F301.cl 2 10 rfl rfl) (And.intro (F301.cl 2 11 rfl rfl) (And.intro (F301.cl 2 12 rfl rfl) (And.intro (F301.cl 2 13 rfl rfl) (And.intro (F301.cl 2 14 rfl rfl) (And.intro (F301.cl 2 15 rfl rfl) (And.intro (F301.cl 3 8 rfl rfl) (And.intro (F301.cl 3 9 rfl rfl) (And.intro (F301.cl 3 10 rfl rfl) (And.intro (F301.cl 3 11 rfl rfl) (And.intro (F301.cl 3 12 rfl rfl) (And.intro (F301.cl 3 13 rfl rfl) (And.intro (F301.cl 3 14 rfl rfl) (And.intro (F301.cl 3 15 rfl rfl) (And.intro (F301.cl 5 1 rfl rfl) (F301.cl 6 1 rfl rfl))))))))))))))))))
        refine ru_t 0 [] ?_
        refine ru_t 1 [] ?_
        refine ru_t 2 [] ?_
        refine ru_t 3 [] ?_
        refine ru_t 4 [] ?_
        refine ru_t 5 [] ?_
        refine ru_t 6 [] ?_
        refine ru_t 7 [] ?_
        refine ru_t 8 [] ?_
        refine ru_t 9 [] ?_
        refine ru_t 10 [] ?_
        refine ru_t 11 [] ?_
        refine ru_t 12 [] ?_
        refine ru_t 13 [] ?_
        refine ru_t 14 [] ?_
        refine ru_t 15 [] ?_
        refine ru_t 16 [] ?_
        (try simp only [Act.put, List.setIfInBounds_toArray, List.set_cons_zero, List.set_cons_succ])
        clear hS302
        refine ru_one 17 rfl (by kernel_rfl) (fun K hK => ?_)
        go_simp
        refine (flood_c _ _ _ l ic _ _ _ al r235 r237 _ (F301.at 9 rfl : Sl covEnc 3 lo_l hi_l _ (.slice sal l.cov.length scl) l.cov) (by first | omega | (simp; omega)) (Own.sl (F301.at 0 rfl : Own weaEnc 35 6 w.heap.size _ (.slice ca299 al.length cap300) al) (fun _ => rfl)) (Nat.le_refl _)).mono ?_
        rintro e w306 ⟨rfl, hg304⟩
        have hg304s := hg304.size
        (try simp at hg304s)
        have F307 := F301.gn hg304
        clear F301
        refine ru_back hK (by exact ⟨F307.cl 2 8 rfl rfl, F307.cl 2 9 rfl rfl, F307.cl 2 10 rfl rfl, F307.cl 2 11 rfl rfl, F307.cl 2 12 rfl rfl, F307.cl 2 13 rfl rfl, F307.cl 2 14 rfl rfl, F307.cl 2 15 rfl rfl, F307.cl 3 8 rfl rfl, F307.cl 3 9 rfl rfl, F307.cl 3 10 rfl rfl, F307.cl 3 11 rfl rfl, F307.cl 3 12 rfl rfl, F307.cl 3 13 rfl rfl, F307.cl 3 14 rfl rfl, F307.cl 3 15 rfl rfl, F307.cl 5 1 rfl rfl, F307.cl 6 1 rfl rfl⟩) (fun hHeld => ?_)
        clear hK K
        (try simp only [Act.put, List.setIfInBounds_toArray, List.set_cons_zero, List.set_cons_succ])
        refine ru_p 18 ?_
        (try simp only [Act.put, List.setIfInBounds_toArray, List.set_cons_zero, List.set_cons_succ])
        refine ru_p 19 ?_
        refine ru_p 20 ?_
        (try simp only [Act.put, List.setIfInBounds_toArray, List.set_cons_zero, List.set_cons_succ])
        refine ru_p 21 ?_
        (try simp only [Act.put, List.setIfInBounds_toArray, List.set_cons_zero, List.set_cons_succ])
        refine ru_one 22 rfl (by kernel_rfl) (fun K hK => ?_)
        go_simp
        refine ru_back_late hK (by kernel_rfl) ?_
        clear hK K
        (try simp only [Act.put, List.setIfInBounds_toArray, List.set_cons_zero, List.set_cons_succ])
        refine ru_done (by kernel_rfl) ?_
        have Fn_ := F307
        (try dsimp only [List.eraseIdx_cons_succ, List.eraseIdx_cons_zero] at Fn_)
        obtain ⟨w308, hx309, F311, hxs310⟩ := Fn_.name
        (try simp at hxs310)
        rw [hx309]
        clear hx309 F307 Fn_
        go_wp2_with fail
        have F312 := F311.drew
        clear F311
        refine ru_begin (fun W => W.cell? ⟨g245, 8, none⟩ = some (.int .i64 l.gr) ∧ W.cell? ⟨g245, 9, none⟩ = some (.int .i64 l.la) ∧ W.cell? ⟨g245, 10, none⟩ = some (.slice sal l.cov.length scl) ∧ W.cell? ⟨g245, 11, none⟩ = some (.int .i64 l.melt.lo) ∧ W.cell? ⟨g245, 12, none⟩ = some (.int .i64 l.melt.hi) ∧ W.cell? ⟨g245, 13, none⟩ = some (.int .i64 l.soak) ∧ W.cell? ⟨g245, 14, none⟩ = some (.int .i64 l.white.lo) ∧ W.cell? ⟨g245, 15, none⟩ = some (.int .i64 l.white.hi) ∧ W.cell? ⟨g246, 8, none⟩ = some (.int .i64 ic.bl.lo) ∧ W.cell? ⟨g246, 9, none⟩ = some (.int .i64 ic.bl.hi) ∧ W.cell? ⟨g246, 10, none⟩ = some (.int .i64 ic.wh.lo) ∧ W.cell? ⟨g246, 11, none⟩ = some (.int .i64 ic.wh.hi) ∧ W.cell? ⟨g246, 12, none⟩ = some (.int .i64 ic.we.lo) ∧ W.cell? ⟨g246, 13, none⟩ = some (.int .i64 ic.we.hi) ∧ W.cell? ⟨g246, 14, none⟩ = some (.int .i64 ic.sn.lo) ∧ W.cell? ⟨g246, 15, none⟩ = some (.int .i64 ic.sn.hi) ∧ W.cell? ⟨g247, 1, none⟩ = some (.slice (some ⟨g222, 0, none⟩) (dl.length + 1) cap223) ∧ W.cell? ⟨g248, 1, none⟩ = some (.int .i64 r235) ∧ W.cell? ⟨g249, 1, none⟩ = some (.int .i64 r237)) 25 (by kernel_rfl) ?_ ?_
        · exact ⟨F312.cl 2 8 rfl rfl, F312.cl 2 9 rfl rfl, F312.cl 2 10 rfl rfl, F312.cl 2 11 rfl rfl, F312.cl 2 12 rfl rfl, F312.cl 2 13 rfl rfl, F312.cl 2 14 rfl rfl, F312.cl 2 15 rfl rfl, F312.cl 3 8 rfl rfl, F312.cl 3 9 rfl rfl, F312.cl 3 10 rfl rfl, F312.cl 3 11 rfl rfl, F312.cl 3 12 rfl rfl, F312.cl 3 13 rfl rfl, F312.cl 3 14 rfl rfl, F312.cl 3 15 rfl rfl, F312.cl 4 1 rfl rfl, F312.cl 5 1 rfl rfl, F312.cl 6 1 rfl rfl⟩
        obtain ⟨wd314, hwd_⟩ : ∃ x : World, w308.drew = x := ⟨_, rfl⟩
        rw [hwd_] at F312 ⊢
        have wd314s : w308.heap.size ≤ wd314.heap.size := by rw [← hwd_]; exact Nat.le_refl _
        clear hwd_
        have hS313 := (And.intro (F312.cl 2 8 rfl rfl) (And.intro (F312.cl 2 9 rfl rfl) (And.intro (F312.cl 2 10 rfl rfl) (And.intro (F312.cl 2 11 rfl rfl) (And.intro (F312.cl 2 12 rfl rfl) (And.intro (F312.cl 2 13 rfl rfl) (And.intro (F312.cl 2 14 rfl rfl) (And.intro (F312.cl 2 15 rfl rfl) (And.intro (F312.cl 3 8 rfl rfl) (And.intro (F312.cl 3 9 rfl rfl) (And.intro (F312.cl 3 10 rfl rfl) (And.intro (F312.cl 3 11 rfl rfl) (And.intro (F312.cl 3 12 rfl rfl) (And.intro (F312.cl 3 13 rfl rfl) (And.intro (F312.cl 3 14 rfl rfl) (And.intro (F312.cl 3 15 rfl rfl) (And.intro (F312.cl 4 1 rfl rfl) (And.intro (F312.cl 5 1 rfl rfl) (F312.cl 6 1 rfl rfl)))))))))))))))))))
        refine ru_t 0 [] ?_
        refine ru_t 1 [] ?_
        refine ru_t 2 [] ?_
        refine ru_t 3 [] ?_
        refine ru_t 4 [] ?_
        refine ru_t 5 [] ?_
        refine ru_t 6 [] ?_
        refine ru_t 7 [] ?_
        refine ru_t 8 [] ?_
        refine ru_t 9 [] ?_
        refine ru_t 10 [] ?_
        refine ru_t 11 [] ?_
        refine ru_t 12 [] ?_
        refine ru_t 13 [] ?_
        refine ru_t 14 [] ?_
        refine ru_t 15 [] ?_
        refine ru_t 16 [] ?_
        refine ru_t 17 [] ?_
        refine ru_t 18 [] ?_
        refine ru_t 19 [] ?_
        (try simp only [Act.put, List.setIfInBounds_toArray, List.set_cons_zero, List.set_cons_succ])
        clear hS313
        refine ru_one 20 rfl (by kernel_rfl) (fun K hK => ?_)
        go_simp
        refine (rflood_c _ _ _ l ic _ _ _ al r235 r237 _ (F312.at 9 rfl : Sl covEnc 3 lo_l hi_l _ (.slice sal l.cov.length scl) l.cov) (by first | omega | (simp; omega)) (Own.sl (F312.at 7 rfl : Own weaEnc 35 6 w.heap.size _ (.slice (some ⟨g222, 0, none⟩) (dl.length + 1) cap223) al) (fun _ => rfl)) (Nat.le_refl _)).mono ?_
        rintro e w317 ⟨rfl, hg315⟩
        have hg315s := hg315.size
        (try simp at hg315s)
        have F318 := F312.gn hg315
        clear F312
        refine ru_back hK (by exact ⟨F318.cl 2 8 rfl rfl, F318.cl 2 9 rfl rfl, F318.cl 2 10 rfl rfl, F318.cl 2 11 rfl rfl, F318.cl 2 12 rfl rfl, F318.cl 2 13 rfl rfl, F318.cl 2 14 rfl rfl, F318.cl 2 15 rfl rfl, F318.cl 3 8 rfl rfl, F318.cl 3 9 rfl rfl, F318.cl 3 10 rfl rfl, F318.cl 3 11 rfl rfl, F318.cl 3 12 rfl rfl, F318.cl 3 13 rfl rfl, F318.cl 3 14 rfl rfl, F318.cl 3 15 rfl rfl, F318.cl 4 1 rfl rfl, F318.cl 5 1 rfl rfl, F318.cl 6 1 rfl rfl⟩) (fun hHeld => ?_)
        clear hK K
        (try simp only [Act.put, List.setIfInBounds_toArray, List.set_cons_zero, List.set_cons_succ])
        refine ru_p 21 ?_
        (try simp only [Act.put, List.setIfInBounds_toArray, List.set_cons_zero, List.set_cons_succ])
        refine ru_p 22 ?_
        refine ru_p 23 ?_
        (try simp only [Act.put, List.setIfInBounds_toArray, List.set_cons_zero, List.set_cons_succ])
        refine ru_p 24 ?_
        (try simp only [Act.put, List.setIfInBounds_toArray, List.set_cons_zero, List.set_cons_succ])
        refine ru_one 25 rfl (by kernel_rfl) (fun K hK => ?_)
        go_simp
        refine ru_back_late hK (by kernel_rfl) ?_
        clear hK K
        (try simp only [Act.put, List.setIfInBounds_toArray, List.set_cons_zero, List.set_cons_succ])
        refine ru_done (by kernel_rfl) ?_
        have Fn_ := F318
        (try dsimp only [List.eraseIdx_cons_succ, List.eraseIdx_cons_zero] at Fn_)
        obtain ⟨w319, hx320, F322, hxs321⟩ := Fn_.name
        (try simp at hxs321)
        rw [hx320]
        clear hx320 F318 Fn_
        have b323 := F322.bx3 4 rfl
        go_wp2_with fail
        clear b323
        refine (sameDays_c _ _ _ _ _ _ al _ (Own.sl (F322.at 0 rfl : Own weaEnc 35 6 w.heap.size _ (.slice ca299 al.length cap300) al) (fun _ => rfl)) (Nat.le_refl _) (Own.sl (F322.at 7 rfl : Own weaEnc 35 6 w.heap.size _ (.slice (some ⟨g222, 0, none⟩) (dl.length + 1) cap223) al) (fun _ => rfl)) (Nat.le_refl _)).mono ?_
        rintro e w326 ⟨rfl, hg324⟩
        have hg324s := hg324.size
        (try simp at hg324s)
        have F327 := F322.gn hg324
        clear F322
        clear hg324
        go_wp2_with fail
        rw [rounds_succ]
        have b329 := F327.bx3 4 rfl
        go_wp2_with (at_builtin; refine wpList_copyB okWea rfl _ _ rfl w.heap.size w326.heap.size rfl (F327.new 35 #[] (n := w326.heap.size) (by simp)) (by first | omega | (simp; omega)) 0 w.heap.size (.slice da0 d0.length dc0) d0 rfl ((F327.new 35 #[] (n := w326.heap.size) (by simp)).at 12 rfl) (by omega) ?_; intro vc330 w331 hB332 hs333; refine Hid.out ?_)
        refine Lib.hid ?_
        (try simp at hs333)
        clear b329
        have F334 := hB332
        clear F327
        obtain ⟨ca335, cap336, e_⟩ := (Own.sl (F334.at 0 rfl : Own weaEnc 35 6 w.heap.size _ vc330 d0) (fun _ => rfl)).any
        subst e_
        go_wp2_with fail
        have F337 := F334.drew
        clear F334
        refine ru_begin (fun W => W.cell? ⟨g245, 16, none⟩ = some (.int .i64 l.gr) ∧ W.cell? ⟨g245, 17, none⟩ = some (.int .i64 l.la) ∧ W.cell? ⟨g245, 18, none⟩ = some (.slice sal l.cov.length scl) ∧ W.cell? ⟨g245, 19, none⟩ = some (.int .i64 l.melt.lo) ∧ W.cell? ⟨g245, 20, none⟩ = some (.int .i64 l.melt.hi) ∧ W.cell? ⟨g245, 21, none⟩ = some (.int .i64 l.soak) ∧ W.cell? ⟨g245, 22, none⟩ = some (.int .i64 l.white.lo) ∧ W.cell? ⟨g245, 23, none⟩ = some (.int .i64 l.white.hi) ∧ W.cell? ⟨g246, 16, none⟩ = some (.int .i64 ic.bl.lo) ∧ W.cell? ⟨g246, 17, none⟩ = some (.int .i64 ic.bl.hi) ∧ W.cell? ⟨g246, 18, none⟩ = some (.int .i64 ic.wh.lo) ∧ W.cell? ⟨g246, 19, none⟩ = some (.int .i64 ic.wh.hi) ∧ W.cell? ⟨g246, 20, none⟩ = some (.int .i64 ic.we.lo) ∧ W.cell? ⟨g246, 21, none⟩ = some (.int .i64 ic.we.hi) ∧ W.cell? ⟨g246, 22, none⟩ = some (.int .i64 ic.sn.lo) ∧ W.cell? ⟨g246, 23, none⟩ = some (.int .i64 ic.sn.hi) ∧ W.cell? ⟨g248, 2, none⟩ = some (.int .i64 att) ∧ W.cell? ⟨g249, 2, none⟩ = some (.int .i64 most)) 22 (by kernel_rfl) ?_ ?_
        · exact ⟨F337.cl 3 16 rfl rfl, F337.cl 3 17 rfl rfl, F337.cl 3 18 rfl rfl, F337.cl 3 19 rfl rfl, F337.cl 3 20 rfl rfl, F337.cl 3 21 rfl rfl, F337.cl 3 22 rfl rfl, F337.cl 3 23 rfl rfl, F337.cl 4 16 rfl rfl, F337.cl 4 17 rfl rfl, F337.cl 4 18 rfl rfl, F337.cl 4 19 rfl rfl, F337.cl 4 20 rfl rfl, F337.cl 4 21 rfl rfl, F337.cl 4 22 rfl rfl, F337.cl 4 23 rfl rfl, F337.cl 6 2 rfl rfl, F337.cl 7 2 rfl rfl⟩
        obtain ⟨wd339, hwd_⟩ : ∃ x : World, w331.drew = x := ⟨_, rfl⟩
        rw [hwd_] at F337 ⊢
        have wd339s : w331.heap.size ≤ wd339.heap.size := by rw [← hwd_]; exact Nat.le_refl _
        clear hwd_
        have hS338 := (And.intro (F337.cl 3 16 rfl rfl) (And.intro (F337.cl 3 17 rfl rfl) (And.intro (F337.cl 3 18 rfl rfl) (And.intro (F337.cl 3 19 rfl rfl) (And.intro (F337.cl 3 20 rfl rfl) (And.intro (F337.cl 3 21 rfl rfl) (And.intro (F337.cl 3 22 rfl rfl) (And.intro (F337.cl 3 23 rfl rfl) (And.intro (F337.cl 4 16 rfl rfl) (And.intro (F337.cl 4 17 rfl rfl) (And.intro (F337.cl 4 18 rfl rfl) (And.intro (F337.cl 4 19 rfl rfl) (And.intro (F337.cl 4 20 rfl rfl) (And.intro (F337.cl 4 21 rfl rfl) (And.intro (F337.cl 4 22 rfl rfl) (And.intro (F337.cl 4 23 rfl rfl) (And.intro (F337.cl 6 2 rfl rfl) (F337.cl 7 2 rfl rfl))))))))))))))))))
        refine ru_t 0 [] ?_
        refine ru_t 1 [] ?_
        refine ru_t 2 [] ?_
        refine ru_t 3 [] ?_
        refine ru_t 4 [] ?_
        refine ru_t 5 [] ?_
        refine ru_t 6 [] ?_
        refine ru_t 7 [] ?_
        refine ru_t 8 [] ?_
        refine ru_t 9 [] ?_
        refine ru_t 10 [] ?_
        refine ru_t 11 [] ?_
        refine ru_t 12 [] ?_
        refine ru_t 13 [] ?_
        refine ru_t 14 [] ?_
        refine ru_t 15 [] ?_
        refine ru_t 16 [] ?_
        (try simp only [Act.put, List.setIfInBounds_toArray, List.set_cons_zero, List.set_cons_succ])
        clear hS338
        refine ru_one 17 rfl (by kernel_rfl) (fun K hK => ?_)
        go_simp
        refine (flood_c _ _ _ l ic _ _ _ d0 att most _ (F337.at 10 rfl : Sl covEnc 3 lo_l hi_l _ (.slice sal l.cov.length scl) l.cov) (by first | omega | (simp; omega)) (Own.sl (F337.at 0 rfl : Own weaEnc 35 6 w.heap.size _ (.slice ca335 d0.length cap336) d0) (fun _ => rfl)) (Nat.le_refl _)).mono ?_
        rintro e w342 ⟨rfl, hg340⟩
        have hg340s := hg340.size
        (try simp at hg340s)
        have F343 := F337.gn hg340
        clear F337
        refine ru_back hK (by exact ⟨F343.cl 3 16 rfl rfl, F343.cl 3 17 rfl rfl, F343.cl 3 18 rfl rfl, F343.cl 3 19 rfl rfl, F343.cl 3 20 rfl rfl, F343.cl 3 21 rfl rfl, F343.cl 3 22 rfl rfl, F343.cl 3 23 rfl rfl, F343.cl 4 16 rfl rfl, F343.cl 4 17 rfl rfl, F343.cl 4 18 rfl rfl, F343.cl 4 19 rfl rfl, F343.cl 4 20 rfl rfl, F343.cl 4 21 rfl rfl, F343.cl 4 22 rfl rfl, F343.cl 4 23 rfl rfl, F343.cl 6 2 rfl rfl, F343.cl 7 2 rfl rfl⟩) (fun hHeld => ?_)
        clear hK K
        (try simp only [Act.put, List.setIfInBounds_toArray, List.set_cons_zero, List.set_cons_succ])
        refine ru_p 18 ?_
        (try simp only [Act.put, List.setIfInBounds_toArray, List.set_cons_zero, List.set_cons_succ])
        refine ru_p 19 ?_
        refine ru_p 20 ?_
        (try simp only [Act.put, List.setIfInBounds_toArray, List.set_cons_zero, List.set_cons_succ])
        refine ru_p 21 ?_
        (try simp only [Act.put, List.setIfInBounds_toArray, List.set_cons_zero, List.set_cons_succ])
        refine ru_one 22 rfl (by kernel_rfl) (fun K hK => ?_)
        go_simp
        refine ru_back_late hK (by kernel_rfl) ?_
        clear hK K
        (try simp only [Act.put, List.setIfInBounds_toArray, List.set_cons_zero, List.set_cons_succ])
        refine ru_done (by kernel_rfl) ?_
        have Fn_ := F343
        (try dsimp only [List.eraseIdx_cons_succ, List.eraseIdx_cons_zero] at Fn_)
        obtain ⟨w344, hx345, F347, hxs346⟩ := Fn_.name
        (try simp at hxs346)
        rw [hx345]
        clear hx345 F343 Fn_
        go_wp2_with fail
        have F348 := F347.drew
        clear F347
        refine ru_begin (fun W => W.cell? ⟨g245, 16, none⟩ = some (.int .i64 l.gr) ∧ W.cell? ⟨g245, 17, none⟩ = some (.int .i64 l.la) ∧ W.cell? ⟨g245, 18, none⟩ = some (.slice sal l.cov.length scl) ∧ W.cell? ⟨g245, 19, none⟩ = some (.int .i64 l.melt.lo) ∧ W.cell? ⟨g245, 20, none⟩ = some (.int .i64 l.melt.hi) ∧ W.cell? ⟨g245, 21, none⟩ = some (.int .i64 l.soak) ∧ W.cell? ⟨g245, 22, none⟩ = some (.int .i64 l.white.lo) ∧ W.cell? ⟨g245, 23, none⟩ = some (.int .i64 l.white.hi) ∧ W.cell? ⟨g246, 16, none⟩ = some (.int .i64 ic.bl.lo) ∧ W.cell? ⟨g246, 17, none⟩ = some (.int .i64 ic.bl.hi) ∧ W.cell? ⟨g246, 18, none⟩ = some (.int .i64 ic.wh.lo) ∧ W.cell? ⟨g246, 19, none⟩ = some (.int .i64 ic.wh.hi) ∧ W.cell? ⟨g246, 20, none⟩ = some (.int .i64 ic.we.lo) ∧ W.cell? ⟨g246, 21, none⟩ = some (.int .i64 ic.we.hi) ∧ W.cell? ⟨g246, 22, none⟩ = some (.int .i64 ic.sn.lo) ∧ W.cell? ⟨g246, 23, none⟩ = some (.int .i64 ic.sn.hi) ∧ W.cell? ⟨g247, 2, none⟩ = some (.slice da0 d0.length dc0) ∧ W.cell? ⟨g248, 2, none⟩ = some (.int .i64 att) ∧ W.cell? ⟨g249, 2, none⟩ = some (.int .i64 most)) 25 (by kernel_rfl) ?_ ?_
        · exact ⟨F348.cl 3 16 rfl rfl, F348.cl 3 17 rfl rfl, F348.cl 3 18 rfl rfl, F348.cl 3 19 rfl rfl, F348.cl 3 20 rfl rfl, F348.cl 3 21 rfl rfl, F348.cl 3 22 rfl rfl, F348.cl 3 23 rfl rfl, F348.cl 4 16 rfl rfl, F348.cl 4 17 rfl rfl, F348.cl 4 18 rfl rfl, F348.cl 4 19 rfl rfl, F348.cl 4 20 rfl rfl, F348.cl 4 21 rfl rfl, F348.cl 4 22 rfl rfl, F348.cl 4 23 rfl rfl, F348.cl 5 2 rfl rfl, F348.cl 6 2 rfl rfl, F348.cl 7 2 rfl rfl⟩
        obtain ⟨wd350, hwd_⟩ : ∃ x : World, w344.drew = x := ⟨_, rfl⟩
        rw [hwd_] at F348 ⊢
        have wd350s : w344.heap.size ≤ wd350.heap.size := by rw [← hwd_]; exact Nat.le_refl _
        clear hwd_
        have hS349 := (And.intro (F348.cl 3 16 rfl rfl) (And.intro (F348.cl 3 17 rfl rfl) (And.intro (F348.cl 3 18 rfl rfl) (And.intro (F348.cl 3 19 rfl rfl) (And.intro (F348.cl 3 20 rfl rfl) (And.intro (F348.cl 3 21 rfl rfl) (And.intro (F348.cl 3 22 rfl rfl) (And.intro (F348.cl 3 23 rfl rfl) (And.intro (F348.cl 4 16 rfl rfl) (And.intro (F348.cl 4 17 rfl rfl) (And.intro (F348.cl 4 18 rfl rfl) (And.intro (F348.cl 4 19 rfl rfl) (And.intro (F348.cl 4 20 rfl rfl) (And.intro (F348.cl 4 21 rfl rfl) (And.intro (F348.cl 4 22 rfl rfl) (And.intro (F348.cl 4 23 rfl rfl) (And.intro (F348.cl 5 2 rfl rfl) (And.intro (F348.cl 6 2 rfl rfl) (F348.cl 7 2 rfl rfl)))))))))))))))))))
        refine ru_t 0 [] ?_
        refine ru_t 1 [] ?_
        refine ru_t 2 [] ?_
        refine ru_t 3 [] ?_
        refine ru_t 4 [] ?_
        refine ru_t 5 [] ?_
        refine ru_t 6 [] ?_
        refine ru_t 7 [] ?_
        refine ru_t 8 [] ?_
        refine ru_t 9 [] ?_
        refine ru_t 10 [] ?_
        refine ru_t 11 [] ?_
        refine ru_t 12 [] ?_
        refine ru_t 13 [] ?_
        refine ru_t 14 [] ?_
        refine ru_t 15 [] ?_
        refine ru_t 16 [] ?_
        refine ru_t 17 [] ?_
        refine ru_t 18 [] ?_
        refine ru_t 19 [] ?_
        (try simp only [Act.put, List.setIfInBounds_toArray, List.set_cons_zero, List.set_cons_succ])
        clear hS349
        refine ru_one 20 rfl (by kernel_rfl) (fun K hK => ?_)
        go_simp
        refine (rflood_c _ _ _ l ic _ _ _ d0 att most _ (F348.at 10 rfl : Sl covEnc 3 lo_l hi_l _ (.slice sal l.cov.length scl) l.cov) (by first | omega | (simp; omega)) (F348.at 12 rfl : Sl weaEnc 6 0 w.heap.size _ (.slice da0 d0.length dc0) d0) (by first | omega | (simp; omega))).mono ?_
        rintro e w353 ⟨rfl, hg351⟩
        have hg351s := hg351.size
        (try simp at hg351s)
        have F354 := F348.gn hg351
        clear F348
        refine ru_back hK (by exact ⟨F354.cl 3 16 rfl rfl, F354.cl 3 17 rfl rfl, F354.cl 3 18 rfl rfl, F354.cl 3 19 rfl rfl, F354.cl 3 20 rfl rfl, F354.cl 3 21 rfl rfl, F354.cl 3 22 rfl rfl, F354.cl 3 23 rfl rfl, F354.cl 4 16 rfl rfl, F354.cl 4 17 rfl rfl, F354.cl 4 18 rfl rfl, F354.cl 4 19 rfl rfl, F354.cl 4 20 rfl rfl, F354.cl 4 21 rfl rfl, F354.cl 4 22 rfl rfl, F354.cl 4 23 rfl rfl, F354.cl 5 2 rfl rfl, F354.cl 6 2 rfl rfl, F354.cl 7 2 rfl rfl⟩) (fun hHeld => ?_)
        clear hK K
        (try simp only [Act.put, List.setIfInBounds_toArray, List.set_cons_zero, List.set_cons_succ])
        refine ru_p 21 ?_
        (try simp only [Act.put, List.setIfInBounds_toArray, List.set_cons_zero, List.set_cons_succ])
        refine ru_p 22 ?_
        refine ru_p 23 ?_
        (try simp only [Act.put, List.setIfInBounds_toArray, List.set_cons_zero, List.set_cons_succ])
        refine ru_p 24 ?_
        (try simp only [Act.put, List.setIfInBounds_toArray, List.set_cons_zero, List.set_cons_succ])
        refine ru_one 25 rfl (by kernel_rfl) (fun K hK => ?_)
        go_simp
        refine ru_back_late hK (by kernel_rfl) ?_
        clear hK K
        (try simp only [Act.put, List.setIfInBounds_toArray, List.set_cons_zero, List.set_cons_succ])
        refine ru_done (by kernel_rfl) ?_
        have Fn_ := F354
        (try dsimp only [List.eraseIdx_cons_succ, List.eraseIdx_cons_zero] at Fn_)
        obtain ⟨w355, hx356, F358, hxs357⟩ := Fn_.name
        (try simp at hxs357)
        rw [hx356]
        clear hx356 F354 Fn_
        have b359 := F358.bx3 5 rfl
        go_wp2_with fail
        clear b359
        refine (sameDays_c _ _ _ _ _ _ d0 _ (Own.sl (F358.at 0 rfl : Own weaEnc 35 6 w.heap.size _ (.slice ca335 d0.length cap336) d0) (fun _ => rfl)) (Nat.le_refl _) (F358.at 12 rfl : Sl weaEnc 6 0 w.heap.size _ (.slice da0 d0.length dc0) d0) (by first | omega | (simp; omega))).mono ?_
        rintro e w362 ⟨rfl, hg360⟩
        have hg360s := hg360.size
        (try simp at hg360s)
        have F363 := F358.gn hg360
        clear F358
        clear hg360
        go_wp2_with fail
        rw [rounds_succ]
        go_wp2_with fail
        refine (awake_c _).mono ?_
        rintro e w366 ⟨rfl, hg364⟩
        have hg364s := hg364.size
        (try simp at hg364s)
        have F367 := F363.gn hg364
        clear F363
        clear hg364
        go_wp2_with fail
        go_ret
        exact ⟨rfl, F367.gb⟩
  · skip
    have c11H := Lib.hid c11
    go_wp2_with fail
    refine (awake_c _).mono ?_
    rintro e w370 ⟨rfl, hg368⟩
    have hg368s := hg368.size
    (try simp at hg368s)
    have F371 := F10.gn hg368
    clear F10
    clear hg368
    go_wp2_with fail
    go_ret
    exact ⟨rfl, F371.gb⟩

end Go.Proofs.Ythblaiefalbomaa
