/- frost: FrostBears walked. -/
import Derived.Test.YthblaiefalbomaaF47
import Derived.Test.YthblaiefalbomaaF36
import Derived.Test.YthblaiefalbomaaF35
import Derived.Test.YthblaiefalbomaaF26
import Derived.Test.YthblaiefalbomaaF24
import Derived.Test.YthblaiefalbomaaMeet
import Derived.Test.YthblaiefalbomaaMixG
set_option linter.unusedVariables false
set_option linter.unusedSimpArgs false
set_option linter.unnecessarySimpa false
namespace Go.Proofs.Ythblaiefalbomaa
open Go.RowKit
set_option maxRecDepth 100000

theorem rrun_ok (lo hi : Nat) (v : Value) (l : Fro) (x : Ice) (lo2 hi2 : Nat) (vd : Value) (dl : List Wea) (w : World) (hl : Sl covEnc 3 lo hi w v l.cov) (h2 : hi ≤ w.heap.size) (hl2 : Sl weaEnc 6 lo2 hi2 w vd dl) (h22 : hi2 ≤ w.heap.size) (h0 : allE l x dl = 0) :
    Calls Try.prog 32 #[.agg (froC l v), .agg (iceC x), vd] w (fun e w' => ∃ (a : Option Addr) (c lo hi : Nat), e = .returned (.tuple #[.slice a dl.length c, .int .i64 0]) ∧ (w.heap.size ≤ lo ∧ hi ≤ w'.heap.size) ∧ Sl iceEnc 8 lo hi w' (.slice a dl.length c) (runN l x dl dl.length) ∧ w.grownBy w' none) := by
  refine (rrun_g lo hi v l x lo2 hi2 vd dl w hl h2 hl2 h22).mono ?_
  rintro e w' ⟨a, c, lo', hi', rfl, hx, hs, hg⟩
  rw [runI_ok h0] at hs
  rw [runN_len] at hs
  exact ⟨a, c, lo', hi', by rw [h0, runI_ok h0, runN_len], hx, hs, hg⟩
theorem rng_bears_walk (t : Nat → Value) : ((List.range 200).map t).toArray = List.toArray [t 0, t 1, t 2, t 3, t 4, t 5, t 6, t 7, t 8, t 9, t 10, t 11, t 12, t 13, t 14, t 15, t 16, t 17, t 18, t 19, t 20, t 21, t 22, t 23, t 24, t 25, t 26, t 27, t 28, t 29, t 30, t 31, t 32, t 33, t 34, t 35, t 36, t 37, t 38, t 39, t 40, t 41, t 42, t 43, t 44, t 45, t 46, t 47, t 48, t 49, t 50, t 51, t 52, t 53, t 54, t 55, t 56, t 57, t 58, t 59, t 60, t 61, t 62, t 63, t 64, t 65, t 66, t 67, t 68, t 69, t 70, t 71, t 72, t 73, t 74, t 75, t 76, t 77, t 78, t 79, t 80, t 81, t 82, t 83, t 84, t 85, t 86, t 87, t 88, t 89, t 90, t 91, t 92, t 93, t 94, t 95, t 96, t 97, t 98, t 99, t 100, t 101, t 102, t 103, t 104, t 105, t 106, t 107, t 108, t 109, t 110, t 111, t 112, t 113, t 114, t 115, t 116, t 117, t 118, t 119, t 120, t 121, t 122, t 123, t 124, t 125, t 126, t 127, t 128, t 129, t 130, t 131, t 132, t 133, t 134, t 135, t 136, t 137, t 138, t 139, t 140, t 141, t 142, t 143, t 144, t 145, t 146, t 147, t 148, t 149, t 150, t 151, t 152, t 153, t 154, t 155, t 156, t 157, t 158, t 159, t 160, t 161, t 162, t 163, t 164, t 165, t 166, t 167, t 168, t 169, t 170, t 171, t 172, t 173, t 174, t 175, t 176, t 177, t 178, t 179, t 180, t 181, t 182, t 183, t 184, t 185, t 186, t 187, t 188, t 189, t 190, t 191, t 192, t 193, t 194, t 195, t 196, t 197, t 198, t 199] := rfl
set_option maxHeartbeats 16000000 in
theorem bears_walk (l0 : Fro) (x0 : Ice) (d0 : List Wea) (need : Int) (v vd vn : Value) (zs : List Int) (w : World) (hl : Sl covEnc 3 0 w.heap.size w v l0.cov) (hd : Sl weaEnc 6 0 w.heap.size w vd d0) (hn : Sl intEnc 1 0 w.heap.size w vn zs) :
    Calls Try.prog 5 #[.agg (froC l0 v), .agg (iceC x0), vd, .int .i64 need, vn] w (Ret (.bool true) w) := by
  have F1 : Bun w [] w := Bun.nil _
  obtain ⟨sa0, sc0, rfl⟩ := hl.any
  have hm_l0 := hl.len
  unfold maxLen at hm_l0
  have F2 := F1.sl0 hl (Nat.le_refl _) rfl
  clear F1
  clear hl
  obtain ⟨da0, dc0, rfl⟩ := hd.any
  have hm_d0 := hd.len
  unfold maxLen at hm_d0
  have F3 := F2.sl0 hd (Nat.le_refl _) rfl
  clear F2
  clear hd
  obtain ⟨na, nc, rfl⟩ := hn.any
  have hm_nums := hn.len
  unfold maxLen at hm_nums
  have F4 := F3.sl0 hn (Nat.le_refl _) rfl
  clear F3
  go_enter Try.func5, Try.ntmps5
  go_wp2_with fail
  have F5 := F4.new 29 (froC l0 (.slice sa0 l0.cov.length sc0)) (n := w.heap.size) (by simp)
  clear F4
  have F6 := F5.new 32 (iceC x0) (n := (w.heap.size + 1)) (by simp)
  clear F5
  refine (big_c _ _ _ l0 _ _ _ d0 _ (F6.at 4 rfl : Sl covEnc 3 0 w.heap.size _ (.slice sa0 l0.cov.length sc0) l0.cov) (by first | omega | (simp; omega)) (F6.at 3 rfl : Sl weaEnc 6 0 w.heap.size _ (.slice da0 d0.length dc0) d0) (by first | omega | (simp; omega))).mono ?_
  rintro e w9 ⟨rfl, hg7⟩
  have hg7s := hg7.size
  (try simp at hg7s)
  have F10 := F6.gn hg7
  clear F6
  clear hg7
  cases c11 : bigB l0 d0
  · skip
    have c11H := Lib.hid c11
    have hbg : d0.length ≤ 420 := by have h_ := c11H.out; unfold bigB at h_; simp at h_; omega
    go_wp2_with fail
    refine (newSeed_c 0 w.heap.size _ zs _ (F10.at 2 rfl : Sl intEnc 1 0 w.heap.size _ (.slice na zs.length nc) zs)).mono ?_
    rintro e w14 ⟨sb, rfl, hsb, hsbs, hg12⟩
    have hsbl := hsbs.lt
    have hg12s := hg12.size
    (try simp at hg12s)
    have F15 := F10.add (rseed sb) hg12 (hsbs) (fun g e => by cases e; exact ⟨hsb, hsbs.lt⟩)
    clear F10
    clear hg12
    go_wp2_with fail
    refine (frostOf_c sb _ (F15.at 0 rfl : SeedAt _ sb)).mono ?_
    rintro e w18 ⟨l, vl, lo_l, hi_l, rfl, hxl, hyl, hzl, hfl, hs17, hg16⟩
    obtain ⟨sal, scl, rfl⟩ := hzl.any
    have HFl := Lib.hid hfl
    clear hfl
    have hml := hzl.len
    unfold maxLen at hml
    have hg16s := hg16.size
    (try simp at hg16s)
    have F19 := F15.seedAdd (rsl covEnc 3 lo_l hi_l (.slice sal l.cov.length scl) l.cov) hg16 hs17 (hzl) (fun g e => ⟨Nat.le_trans hxl e.1, Nat.lt_of_lt_of_le e.2 hyl⟩)
    clear F15
    clear hg16
    go_wp2_with fail
    refine (iceOf_c sb _ (F19.at 1 rfl : SeedAt _ sb)).mono ?_
    rintro e w22 ⟨ic, rfl, ⟨hic, hicm⟩, hs21, hg20⟩
    have hicb := iceB hic
    have hg20s := hg20.size
    (try simp at hg20s)
    have F23 := F19.seedAt 1 rfl hg20 hs21
    clear F19
    clear hg20
    go_wp2_with fail
    refine (yes_c sb 2 _ (F23.at 1 rfl : SeedAt _ sb) (by omega) (by omega)).mono ?_
    rintro e w27 ⟨yb24, rfl, hs26, hg25⟩
    have hg25s := hg25.size
    (try simp at hg25s)
    have F28 := F23.seedAt 1 rfl hg25 hs26
    clear F23
    clear hg25
    go_wp2_with fail
    refine (daysOf_s sb 10 yb24 _ ((F28.front 1 rfl rfl).at 0 rfl : SeedAt _ sb) (by omega)).mono ?_
    rintro e w31 ⟨dl, da_dl, dc_dl, ld_dl, hd_dl, rfl, ⟨hdxdl, hdydl, hdcdl⟩, hdzdl, hdndl, hdvdl, hs30, hg29⟩
    have HDdl := Lib.hid hdvdl
    clear hdvdl
    have hg29s := hg29.size
    (try simp at hg29s)
    have F32 := (F28.front 1 rfl rfl).seedAdd (rsl weaEnc 6 ld_dl hd_dl (.slice da_dl dl.length dc_dl) dl) hg29 hs30 (hdzdl) (fun g e => ⟨Nat.le_trans hdxdl e.1, Nat.lt_of_lt_of_le e.2 hdydl⟩)
    clear F28
    clear hg29
    go_wp2_with fail
    have F37 := F32.new 29 (froC l (.slice sal l.cov.length scl)) (n := w31.heap.size) (by simp)
    clear F32
    have F38 := F37.new 32 (iceC ic) (n := (w31.heap.size + 1)) (by simp)
    clear F37
    have Fn_ := F38
    (try dsimp only [List.eraseIdx_cons_succ, List.eraseIdx_cons_zero] at Fn_)
    obtain ⟨w39, hx40, F42, hxs41⟩ := Fn_.name
    (try simp at hxs41)
    rw [hx40]
    clear hx40 F38 Fn_
    have F43 := F42.drew
    clear F42
    refine ru_begin (fun W => W.cell? ⟨(w31.heap.size + 1), 0, none⟩ = some (.int .i64 ic.bl.lo)) 6 (by kernel_rfl) ?_ ?_
    · exact F43.cl 0 0 rfl rfl
    obtain ⟨wd45, hwd_⟩ : ∃ x : World, w39.drew = x := ⟨_, rfl⟩
    rw [hwd_] at F43 ⊢
    have wd45s : w39.heap.size ≤ wd45.heap.size := by rw [← hwd_]; exact Nat.le_refl _
    clear hwd_
    have hS44 := (F43.cl 0 0 rfl rfl)
    refine ru_t 0 [] ?_
    refine ru_t 1 [] ?_
    refine ru_t 2 [] ?_
    refine ru_t 3 [] ?_
    (try simp only [Act.put, List.setIfInBounds_toArray, List.set_cons_zero, List.set_cons_succ])
    clear hS44
    refine ru_one 4 rfl (by kernel_rfl) (fun K hK => ?_)
    go_simp
    refine (from_c sb (-3) 30 _ (F43.at 3 rfl : SeedAt _ sb) (by omega) (by omega) (by omega) (by omega)).mono ?_
    rintro e w50 ⟨r46, rfl, hr47, hs49, hg48⟩
    unfold fromR at hr47; have hr47b : (-3) ≤ r46 ∧ r46 ≤ 30 := (by omega); clear hr47
    have hg48s := hg48.size
    (try simp at hg48s)
    have F51 := F43.seedAt 3 rfl hg48 hs49
    clear F43
    refine ru_back hK (by exact F51.cl 0 0 rfl rfl) (fun hHeld => ?_)
    clear hK K
    (try simp only [Act.put, List.setIfInBounds_toArray, List.set_cons_zero, List.set_cons_succ])
    have hw52 : IntKind.i64.wrap (ic.bl.lo + r46) = ic.bl.lo + r46 := IntWalk.i64_in _ (by omega)
    refine ru_p 5 ?_
    (try simp only [Act.put, List.setIfInBounds_toArray, List.set_cons_zero, List.set_cons_succ])
    refine ru_one 6 rfl (by kernel_rfl) (fun K hK => ?_)
    go_simp
    refine ru_back_late hK (by kernel_rfl) ?_
    clear hK K
    (try simp only [Act.put, List.setIfInBounds_toArray, List.set_cons_zero, List.set_cons_succ])
    refine ru_done (by kernel_rfl) ?_
    (try clear hw52)
    have Fn_ := F51
    (try dsimp only [List.eraseIdx_cons_succ, List.eraseIdx_cons_zero] at Fn_)
    obtain ⟨w53, hx54, F56, hxs55⟩ := Fn_.name
    (try simp at hxs55)
    rw [hx54]
    clear hx54 F51 Fn_
    rename_i k_ hk_
    refine hk_ _ _ ?_
    refine wp_seq ?_
    refine wp_cutH 200 (fun t wr => ∃ (near : Int), t 2 = .slice da0 d0.length dc0 ∧ t 3 = .int .i64 need ∧ t 5 = .pointer (some ⟨w.heap.size, 0, none⟩) ∧ t 6 = .pointer (some ⟨w.heap.size + 1, 0, none⟩) ∧ t 12 = .pointer (some ⟨w31.heap.size, 0, none⟩) ∧ t 13 = .pointer (some ⟨w31.heap.size + 1, 0, none⟩) ∧ t 14 = .slice da_dl dl.length dc_dl ∧ t 15 = .int .i64 near ∧ w53.heap.size ≤ wr.heap.size ∧ (-10 ≤ near ∧ near ≤ 3000000) ∧ Bun w [rbox (w31.heap.size + 1) 32 (iceC ic), rbox w31.heap.size 29 (froC l (.slice sal l.cov.length scl)), rsl weaEnc 6 ld_dl hd_dl (.slice da_dl dl.length dc_dl) dl, rseed sb, rsl covEnc 3 lo_l hi_l (.slice sal l.cov.length scl) l.cov, rbox (w.heap.size + 1) 32 (iceC x0), rbox w.heap.size 29 (froC l0 (.slice sa0 l0.cov.length sc0)), rsl intEnc 1 0 w.heap.size (.slice na zs.length nc) zs, rsl weaEnc 6 0 w.heap.size (.slice da0 d0.length dc0) d0, rsl covEnc 3 0 w.heap.size (.slice sa0 l0.cov.length sc0) l0.cov] wr) ?first14 ?rest14
    case rest14 =>
      rintro t wr ⟨near, e2, e3, e5, e6, e12, e13, e14, e15, hrel⟩
      have e : ((List.range 200).map t).toArray = #[t 0, t 1, t 2, t 3, t 4, t 5, t 6, t 7, t 8, t 9, t 10, t 11, t 12, t 13, t 14, t 15, t 16, t 17, t 18, t 19, t 20, t 21, t 22, t 23, t 24, t 25, t 26, t 27, t 28, t 29, t 30, t 31, t 32, t 33, t 34, t 35, t 36, t 37, t 38, t 39, t 40, t 41, t 42, t 43, t 44, t 45, t 46, t 47, t 48, t 49, t 50, t 51, t 52, t 53, t 54, t 55, t 56, t 57, t 58, t 59, t 60, t 61, t 62, t 63, t 64, t 65, t 66, t 67, t 68, t 69, t 70, t 71, t 72, t 73, t 74, t 75, t 76, t 77, t 78, t 79, t 80, t 81, t 82, t 83, t 84, t 85, t 86, t 87, t 88, t 89, t 90, t 91, t 92, t 93, t 94, t 95, t 96, t 97, t 98, t 99, t 100, t 101, t 102, t 103, t 104, t 105, t 106, t 107, t 108, t 109, t 110, t 111, t 112, t 113, t 114, t 115, t 116, t 117, t 118, t 119, t 120, t 121, t 122, t 123, t 124, t 125, t 126, t 127, t 128, t 129, t 130, t 131, t 132, t 133, t 134, t 135, t 136, t 137, t 138, t 139, t 140, t 141, t 142, t 143, t 144, t 145, t 146, t 147, t 148, t 149, t 150, t 151, t 152, t 153, t 154, t 155, t 156, t 157, t 158, t 159, t 160, t 161, t 162, t 163, t 164, t 165, t 166, t 167, t 168, t 169, t 170, t 171, t 172, t 173, t 174, t 175, t 176, t 177, t 178, t 179, t 180, t 181, t 182, t 183, t 184, t 185, t 186, t 187, t 188, t 189, t 190, t 191, t 192, t 193, t 194, t 195, t 196, t 197, t 198, t 199] := rfl
      (try dsimp only at e)
      rw [e2, e3, e5, e6, e12, e13, e14, e15] at e
      rw [e]
      clear e e2 e3 e5 e6 e12 e13 e14 e15
      obtain ⟨hs58, hnear, hF57⟩ := hrel
      clear F56
      obtain ⟨w59, rfl⟩ : ∃ x_ : World, x_ = wr := ⟨_, rfl⟩
      go_wp2_with fail
      have F60 := hF57.drew
      clear hF57
      refine ru_begin (fun W => W.cell? ⟨w.heap.size, 0, none⟩ = some (.int .i64 l0.gr) ∧ W.cell? ⟨w.heap.size, 1, none⟩ = some (.int .i64 l0.la) ∧ W.cell? ⟨w.heap.size, 2, none⟩ = some (.slice sa0 l0.cov.length sc0) ∧ W.cell? ⟨w.heap.size, 3, none⟩ = some (.int .i64 l0.melt.lo) ∧ W.cell? ⟨w.heap.size, 4, none⟩ = some (.int .i64 l0.melt.hi) ∧ W.cell? ⟨w.heap.size, 5, none⟩ = some (.int .i64 l0.soak) ∧ W.cell? ⟨w.heap.size, 6, none⟩ = some (.int .i64 l0.white.lo) ∧ W.cell? ⟨w.heap.size, 7, none⟩ = some (.int .i64 l0.white.hi) ∧ W.cell? ⟨w31.heap.size, 0, none⟩ = some (.int .i64 l.gr) ∧ W.cell? ⟨w31.heap.size, 1, none⟩ = some (.int .i64 l.la) ∧ W.cell? ⟨w31.heap.size, 2, none⟩ = some (.slice sal l.cov.length scl) ∧ W.cell? ⟨w31.heap.size, 3, none⟩ = some (.int .i64 l.melt.lo) ∧ W.cell? ⟨w31.heap.size, 4, none⟩ = some (.int .i64 l.melt.hi) ∧ W.cell? ⟨w31.heap.size, 5, none⟩ = some (.int .i64 l.soak) ∧ W.cell? ⟨w31.heap.size, 6, none⟩ = some (.int .i64 l.white.lo) ∧ W.cell? ⟨w31.heap.size, 7, none⟩ = some (.int .i64 l.white.hi) ∧ W.cell? ⟨(w.heap.size + 1), 0, none⟩ = some (.int .i64 x0.bl.lo) ∧ W.cell? ⟨(w.heap.size + 1), 1, none⟩ = some (.int .i64 x0.bl.hi) ∧ W.cell? ⟨(w.heap.size + 1), 2, none⟩ = some (.int .i64 x0.wh.lo) ∧ W.cell? ⟨(w.heap.size + 1), 3, none⟩ = some (.int .i64 x0.wh.hi) ∧ W.cell? ⟨(w.heap.size + 1), 4, none⟩ = some (.int .i64 x0.we.lo) ∧ W.cell? ⟨(w.heap.size + 1), 5, none⟩ = some (.int .i64 x0.we.hi) ∧ W.cell? ⟨(w.heap.size + 1), 6, none⟩ = some (.int .i64 x0.sn.lo) ∧ W.cell? ⟨(w.heap.size + 1), 7, none⟩ = some (.int .i64 x0.sn.hi) ∧ W.cell? ⟨(w31.heap.size + 1), 0, none⟩ = some (.int .i64 ic.bl.lo) ∧ W.cell? ⟨(w31.heap.size + 1), 1, none⟩ = some (.int .i64 ic.bl.hi) ∧ W.cell? ⟨(w31.heap.size + 1), 2, none⟩ = some (.int .i64 ic.wh.lo) ∧ W.cell? ⟨(w31.heap.size + 1), 3, none⟩ = some (.int .i64 ic.wh.hi) ∧ W.cell? ⟨(w31.heap.size + 1), 4, none⟩ = some (.int .i64 ic.we.lo) ∧ W.cell? ⟨(w31.heap.size + 1), 5, none⟩ = some (.int .i64 ic.we.hi) ∧ W.cell? ⟨(w31.heap.size + 1), 6, none⟩ = some (.int .i64 ic.sn.lo) ∧ W.cell? ⟨(w31.heap.size + 1), 7, none⟩ = some (.int .i64 ic.sn.hi)) 19 (by kernel_rfl) ?_ ?_
      · exact ⟨F60.cl 6 0 rfl rfl, F60.cl 6 1 rfl rfl, F60.cl 6 2 rfl rfl, F60.cl 6 3 rfl rfl, F60.cl 6 4 rfl rfl, F60.cl 6 5 rfl rfl, F60.cl 6 6 rfl rfl, F60.cl 6 7 rfl rfl, F60.cl 1 0 rfl rfl, F60.cl 1 1 rfl rfl, F60.cl 1 2 rfl rfl, F60.cl 1 3 rfl rfl, F60.cl 1 4 rfl rfl, F60.cl 1 5 rfl rfl, F60.cl 1 6 rfl rfl, F60.cl 1 7 rfl rfl, F60.cl 5 0 rfl rfl, F60.cl 5 1 rfl rfl, F60.cl 5 2 rfl rfl, F60.cl 5 3 rfl rfl, F60.cl 5 4 rfl rfl, F60.cl 5 5 rfl rfl, F60.cl 5 6 rfl rfl, F60.cl 5 7 rfl rfl, F60.cl 0 0 rfl rfl, F60.cl 0 1 rfl rfl, F60.cl 0 2 rfl rfl, F60.cl 0 3 rfl rfl, F60.cl 0 4 rfl rfl, F60.cl 0 5 rfl rfl, F60.cl 0 6 rfl rfl, F60.cl 0 7 rfl rfl⟩
      obtain ⟨wd62, hwd_⟩ : ∃ x : World, w59.drew = x := ⟨_, rfl⟩
      rw [hwd_] at F60 ⊢
      have wd62s : w59.heap.size ≤ wd62.heap.size := by rw [← hwd_]; exact Nat.le_refl _
      clear hwd_
      have hS61 := (And.intro (F60.cl 6 0 rfl rfl) (And.intro (F60.cl 6 1 rfl rfl) (And.intro (F60.cl 6 2 rfl rfl) (And.intro (F60.cl 6 3 rfl rfl) (And.intro (F60.cl 6 4 rfl rfl) (And.intro (F60.cl 6 5 rfl rfl) (And.intro (F60.cl 6 6 rfl rfl) (And.intro (F60.cl 6 7 rfl rfl) (And.intro (F60.cl 1 0 rfl rfl) (And.intro (F60.cl 1 1 rfl rfl) (And.intro (F60.cl 1 2 rfl rfl) (And.intro (F60.cl 1 3 rfl rfl) (And.intro (F60.cl 1 4 rfl rfl) (And.intro (F60.cl 1 5 rfl rfl) (And.intro (F60.cl 1 6 rfl rfl) (And.intro (F60.cl 1 7 rfl rfl) (And.intro (F60.cl 5 0 rfl rfl) (And.intro (F60.cl 5 1 rfl rfl) (And.intro (F60.cl 5 2 rfl rfl) (And.intro (F60.cl 5 3 rfl rfl) (And.intro (F60.cl 5 4 rfl rfl) (And.intro (F60.cl 5 5 rfl rfl) (And.intro (F60.cl 5 6 rfl rfl) (And.intro (F60.cl 5 7 rfl rfl) (And.intro (F60.cl 0 0 rfl rfl) (And.intro (F60.cl 0 1 rfl rfl) (And.intro (F60.cl 0 2 rfl rfl) (And.intro (F60.cl 0 3 rfl rfl) (And.intro (F60.cl 0 4 rfl rfl) (And.intro (F60.cl 0 5 rfl rfl) (And.intro (F60.cl 0 6 rfl rfl) (F60.cl 0 7 rfl rfl))))))))))))))))))))))))))))))))
      refine ru_t 0 [] ?_
      refine ru_t 1 [] ?_
      refine ru_t 2 [] ?_
      refine ru_t 4 [] ?_
      refine ru_t 5 [] ?_
      refine ru_t 6 [] ?_
      refine ru_t 8 [] ?_
      refine ru_t 9 [] ?_
      refine ru_t 10 [] ?_
      refine ru_t 12 [] ?_
      refine ru_t 13 [] ?_
      refine ru_t 14 [] ?_
      (try simp only [Act.put, List.setIfInBounds_toArray, List.set_cons_zero, List.set_cons_succ])
      clear hS61
      have hSS := ru_hS F60 (S := fun W => W.cell? ⟨w.heap.size, 0, none⟩ = some (.int .i64 l0.gr) ∧ W.cell? ⟨w.heap.size, 1, none⟩ = some (.int .i64 l0.la) ∧ W.cell? ⟨w.heap.size, 2, none⟩ = some (.slice sa0 l0.cov.length sc0) ∧ W.cell? ⟨w.heap.size, 3, none⟩ = some (.int .i64 l0.melt.lo) ∧ W.cell? ⟨w.heap.size, 4, none⟩ = some (.int .i64 l0.melt.hi) ∧ W.cell? ⟨w.heap.size, 5, none⟩ = some (.int .i64 l0.soak) ∧ W.cell? ⟨w.heap.size, 6, none⟩ = some (.int .i64 l0.white.lo) ∧ W.cell? ⟨w.heap.size, 7, none⟩ = some (.int .i64 l0.white.hi) ∧ W.cell? ⟨w31.heap.size, 0, none⟩ = some (.int .i64 l.gr) ∧ W.cell? ⟨w31.heap.size, 1, none⟩ = some (.int .i64 l.la) ∧ W.cell? ⟨w31.heap.size, 2, none⟩ = some (.slice sal l.cov.length scl) ∧ W.cell? ⟨w31.heap.size, 3, none⟩ = some (.int .i64 l.melt.lo) ∧ W.cell? ⟨w31.heap.size, 4, none⟩ = some (.int .i64 l.melt.hi) ∧ W.cell? ⟨w31.heap.size, 5, none⟩ = some (.int .i64 l.soak) ∧ W.cell? ⟨w31.heap.size, 6, none⟩ = some (.int .i64 l.white.lo) ∧ W.cell? ⟨w31.heap.size, 7, none⟩ = some (.int .i64 l.white.hi) ∧ W.cell? ⟨(w.heap.size + 1), 0, none⟩ = some (.int .i64 x0.bl.lo) ∧ W.cell? ⟨(w.heap.size + 1), 1, none⟩ = some (.int .i64 x0.bl.hi) ∧ W.cell? ⟨(w.heap.size + 1), 2, none⟩ = some (.int .i64 x0.wh.lo) ∧ W.cell? ⟨(w.heap.size + 1), 3, none⟩ = some (.int .i64 x0.wh.hi) ∧ W.cell? ⟨(w.heap.size + 1), 4, none⟩ = some (.int .i64 x0.we.lo) ∧ W.cell? ⟨(w.heap.size + 1), 5, none⟩ = some (.int .i64 x0.we.hi) ∧ W.cell? ⟨(w.heap.size + 1), 6, none⟩ = some (.int .i64 x0.sn.lo) ∧ W.cell? ⟨(w.heap.size + 1), 7, none⟩ = some (.int .i64 x0.sn.hi) ∧ W.cell? ⟨(w31.heap.size + 1), 0, none⟩ = some (.int .i64 ic.bl.lo) ∧ W.cell? ⟨(w31.heap.size + 1), 1, none⟩ = some (.int .i64 ic.bl.hi) ∧ W.cell? ⟨(w31.heap.size + 1), 2, none⟩ = some (.int .i64 ic.wh.lo) ∧ W.cell? ⟨(w31.heap.size + 1), 3, none⟩ = some (.int .i64 ic.wh.hi) ∧ W.cell? ⟨(w31.heap.size + 1), 4, none⟩ = some (.int .i64 ic.we.lo) ∧ W.cell? ⟨(w31.heap.size + 1), 5, none⟩ = some (.int .i64 ic.we.hi) ∧ W.cell? ⟨(w31.heap.size + 1), 6, none⟩ = some (.int .i64 ic.sn.lo) ∧ W.cell? ⟨(w31.heap.size + 1), 7, none⟩ = some (.int .i64 ic.sn.hi)) (fun _ _ F_ => ⟨F_.cl 6 0 rfl rfl, F_.cl 6 1 rfl rfl, F_.cl 6 2 rfl rfl, F_.cl 6 3 rfl rfl, F_.cl 6 4 rfl rfl, F_.cl 6 5 rfl rfl, F_.cl 6 6 rfl rfl, F_.cl 6 7 rfl rfl, F_.cl 1 0 rfl rfl, F_.cl 1 1 rfl rfl, F_.cl 1 2 rfl rfl, F_.cl 1 3 rfl rfl, F_.cl 1 4 rfl rfl, F_.cl 1 5 rfl rfl, F_.cl 1 6 rfl rfl, F_.cl 1 7 rfl rfl, F_.cl 5 0 rfl rfl, F_.cl 5 1 rfl rfl, F_.cl 5 2 rfl rfl, F_.cl 5 3 rfl rfl, F_.cl 5 4 rfl rfl, F_.cl 5 5 rfl rfl, F_.cl 5 6 rfl rfl, F_.cl 5 7 rfl rfl, F_.cl 0 0 rfl rfl, F_.cl 0 1 rfl rfl, F_.cl 0 2 rfl rfl, F_.cl 0 3 rfl rfl, F_.cl 0 4 rfl rfl, F_.cl 0 5 rfl rfl, F_.cl 0 6 rfl rfl, F_.cl 0 7 rfl rfl⟩)
      refine ru_mixN 200 [⟨3, 84, 29, fun t => #[.int .i64 l0.gr, .int .i64 l0.la, .slice sa0 l0.cov.length sc0, .int .i64 l0.melt.lo, .int .i64 l0.melt.hi, .int .i64 l0.soak, .int .i64 l0.white.lo, .int .i64 l0.white.hi, .int .i64 l.gr, .int .i64 l.la, .slice sal l.cov.length scl, .int .i64 l.melt.lo, .int .i64 l.melt.hi, .int .i64 l.soak, .int .i64 l.white.lo, .int .i64 l.white.hi, .int .i64 l.gr, .int .i64 l.la, .slice sal l.cov.length scl, .int .i64 l.melt.lo, .int .i64 l.melt.hi, .int .i64 l.soak, .int .i64 l.white.lo, .int .i64 l.white.hi], fun g => .slice (some ⟨g, 0, none⟩) 3 3, fun t => t 81 = .agg (froC l0 (.slice sa0 l0.cov.length sc0)) ∧ t 82 = .agg (froC l (.slice sal l.cov.length scl)) ∧ t 83 = .agg (froC l (.slice sal l.cov.length scl))⟩, ⟨7, 88, 32, fun t => #[.int .i64 x0.bl.lo, .int .i64 x0.bl.hi, .int .i64 x0.wh.lo, .int .i64 x0.wh.hi, .int .i64 x0.we.lo, .int .i64 x0.we.hi, .int .i64 x0.sn.lo, .int .i64 x0.sn.hi, .int .i64 ic.bl.lo, .int .i64 ic.bl.hi, .int .i64 ic.wh.lo, .int .i64 ic.wh.hi, .int .i64 ic.we.lo, .int .i64 ic.we.hi, .int .i64 ic.sn.lo, .int .i64 ic.sn.hi, .int .i64 x0.bl.lo, .int .i64 x0.bl.hi, .int .i64 x0.wh.lo, .int .i64 x0.wh.hi, .int .i64 x0.we.lo, .int .i64 x0.we.hi, .int .i64 x0.sn.lo, .int .i64 x0.sn.hi], fun g => .slice (some ⟨g, 0, none⟩) 3 3, fun t => t 85 = .agg (iceC x0) ∧ t 86 = .agg (iceC ic) ∧ t 87 = .agg (iceC x0)⟩, ⟨11, 92, 36, fun t => #[.slice da0 d0.length dc0, .slice da_dl dl.length dc_dl, .slice da0 d0.length dc0], fun g => .slice (some ⟨g, 0, none⟩) 3 3, fun t => t 89 = .slice da0 d0.length dc0 ∧ t 90 = .slice da_dl dl.length dc_dl ∧ t 91 = .slice da0 d0.length dc0⟩, ⟨15, 96, 3, fun t => #[.int .i64 need, .int .i64 near, .int .i64 need], fun g => .slice (some ⟨g, 0, none⟩) 3 3, fun t => t 93 = .int .i64 need ∧ t 94 = .int .i64 near ∧ t 95 = .int .i64 need⟩] [⟨16, 18, 3, 84⟩, ⟨17, 19, 7, 88⟩, ⟨18, 20, 11, 92⟩, ⟨19, 21, 15, 96⟩] [] F60 (by kernel_rfl) (by kernel_rfl) (by kernel_rfl) (fun _ _ _ _ _ h => h) (U0 := (fun t => t 81 = .agg (froC l0 (.slice sa0 l0.cov.length sc0)) ∧ t 82 = .agg (froC l (.slice sal l.cov.length scl)) ∧ t 83 = .agg (froC l (.slice sal l.cov.length scl)) ∧ t 85 = .agg (iceC x0) ∧ t 86 = .agg (iceC ic) ∧ t 87 = .agg (iceC x0) ∧ t 89 = .slice da0 d0.length dc0 ∧ t 90 = .slice da_dl dl.length dc_dl ∧ t 91 = .slice da0 d0.length dc0 ∧ t 93 = .int .i64 need ∧ t 94 = .int .i64 near ∧ t 95 = .int .i64 need)) (Um := (fun t => t 81 = .agg (froC l0 (.slice sa0 l0.cov.length sc0)) ∧ t 82 = .agg (froC l (.slice sal l.cov.length scl)) ∧ t 83 = .agg (froC l (.slice sal l.cov.length scl)) ∧ t 85 = .agg (iceC x0) ∧ t 86 = .agg (iceC ic) ∧ t 87 = .agg (iceC x0) ∧ t 89 = .slice da0 d0.length dc0 ∧ t 90 = .slice da_dl dl.length dc_dl ∧ t 91 = .slice da0 d0.length dc0 ∧ t 93 = .int .i64 need ∧ t 94 = .int .i64 near ∧ t 95 = .int .i64 need)) ?chM63 ?alM63 ?mvM63 (List.forall_mem_cons.2 ⟨List.forall_mem_cons.2 ⟨fun _ _ => rfl, List.forall_mem_cons.2 ⟨fun _ _ => rfl, List.forall_mem_cons.2 ⟨fun _ _ => rfl, List.forall_mem_cons.2 ⟨fun _ _ => rfl, List.forall_mem_cons.2 ⟨fun _ _ => rfl, List.forall_mem_cons.2 ⟨fun _ _ => rfl, List.forall_mem_cons.2 ⟨fun _ _ => rfl, List.forall_mem_cons.2 ⟨fun _ _ => rfl, fun _ h => (by cases h)⟩⟩⟩⟩⟩⟩⟩⟩, List.forall_mem_cons.2 ⟨List.forall_mem_cons.2 ⟨fun _ _ => rfl, List.forall_mem_cons.2 ⟨fun _ _ => rfl, List.forall_mem_cons.2 ⟨fun _ _ => rfl, List.forall_mem_cons.2 ⟨fun _ _ => rfl, List.forall_mem_cons.2 ⟨fun _ _ => rfl, List.forall_mem_cons.2 ⟨fun _ _ => rfl, List.forall_mem_cons.2 ⟨fun _ _ => rfl, List.forall_mem_cons.2 ⟨fun _ _ => rfl, fun _ h => (by cases h)⟩⟩⟩⟩⟩⟩⟩⟩, List.forall_mem_cons.2 ⟨List.forall_mem_cons.2 ⟨fun _ _ => rfl, List.forall_mem_cons.2 ⟨fun _ _ => rfl, List.forall_mem_cons.2 ⟨fun _ _ => rfl, List.forall_mem_cons.2 ⟨fun _ _ => rfl, List.forall_mem_cons.2 ⟨fun _ _ => rfl, List.forall_mem_cons.2 ⟨fun _ _ => rfl, List.forall_mem_cons.2 ⟨fun _ _ => rfl, List.forall_mem_cons.2 ⟨fun _ _ => rfl, fun _ h => (by cases h)⟩⟩⟩⟩⟩⟩⟩⟩, List.forall_mem_cons.2 ⟨List.forall_mem_cons.2 ⟨fun _ _ => rfl, List.forall_mem_cons.2 ⟨fun _ _ => rfl, List.forall_mem_cons.2 ⟨fun _ _ => rfl, List.forall_mem_cons.2 ⟨fun _ _ => rfl, List.forall_mem_cons.2 ⟨fun _ _ => rfl, List.forall_mem_cons.2 ⟨fun _ _ => rfl, List.forall_mem_cons.2 ⟨fun _ _ => rfl, List.forall_mem_cons.2 ⟨fun _ _ => rfl, fun _ h => (by cases h)⟩⟩⟩⟩⟩⟩⟩⟩, fun _ h => (by cases h)⟩⟩⟩⟩) ⟨(by kernel_rfl), rfl, ⟨(by kernel_rfl), (by kernel_rfl), (by kernel_rfl), (by kernel_rfl), (by kernel_rfl), (by kernel_rfl), (by kernel_rfl), (by kernel_rfl), (by kernel_rfl), (by kernel_rfl), (by kernel_rfl), (by kernel_rfl)⟩⟩ ?restM63
      case chM63 =>
        exact ChainL.nil _ _ _ (List.forall_mem_cons.2 ⟨fun _ _ u => u, List.forall_mem_cons.2 ⟨fun _ _ u => u, List.forall_mem_cons.2 ⟨fun _ _ u => u, List.forall_mem_cons.2 ⟨fun _ _ u => u, List.forall_mem_cons.2 ⟨fun _ _ u => u, List.forall_mem_cons.2 ⟨fun _ _ u => u, List.forall_mem_cons.2 ⟨fun _ _ u => u, List.forall_mem_cons.2 ⟨fun _ _ u => u, fun _ h => (by cases h)⟩⟩⟩⟩⟩⟩⟩⟩) hSS (List.forall_mem_cons.2 ⟨fun _ t ⟨e81, e82, e83, e85, e86, e87, e89, e90, e91, e93, e94, e95⟩ => ⟨e81, e82, e83⟩, List.forall_mem_cons.2 ⟨fun _ t ⟨e81, e82, e83, e85, e86, e87, e89, e90, e91, e93, e94, e95⟩ => ⟨e85, e86, e87⟩, List.forall_mem_cons.2 ⟨fun _ t ⟨e81, e82, e83, e85, e86, e87, e89, e90, e91, e93, e94, e95⟩ => ⟨e89, e90, e91⟩, List.forall_mem_cons.2 ⟨fun _ t ⟨e81, e82, e83, e85, e86, e87, e89, e90, e91, e93, e94, e95⟩ => ⟨e93, e94, e95⟩, fun _ h => (by cases h)⟩⟩⟩⟩)
      case alM63 =>
        refine List.forall_mem_cons.2 ⟨fun t w K hv h => ?_, ?_⟩
        · obtain ⟨e81, e82, e83⟩ := hv; (try dsimp only at h); rw [rng_bears_walk t, e81, e82, e83] at h ⊢; exact wpOp_step rfl (fun K hK => by go_simp; exact hK _ _ h)
        refine List.forall_mem_cons.2 ⟨fun t w K hv h => ?_, ?_⟩
        · obtain ⟨e85, e86, e87⟩ := hv; (try dsimp only at h); rw [rng_bears_walk t, e85, e86, e87] at h ⊢; exact wpOp_step rfl (fun K hK => by go_simp; exact hK _ _ h)
        refine List.forall_mem_cons.2 ⟨fun t w K hv h => ?_, ?_⟩
        · obtain ⟨e89, e90, e91⟩ := hv; (try dsimp only at h); rw [rng_bears_walk t, e89, e90, e91] at h ⊢; exact wpOp_step rfl (fun K hK => by go_simp; exact hK _ _ h)
        refine List.forall_mem_cons.2 ⟨fun t w K hv h => ?_, ?_⟩
        · obtain ⟨e93, e94, e95⟩ := hv; (try dsimp only at h); rw [rng_bears_walk t, e93, e94, e95] at h ⊢; exact wpOp_step rfl (fun K hK => by go_simp; exact hK _ _ h)
        exact fun _ h => (by cases h)
      case mvM63 => exact List.forall_mem_cons.2 ⟨⟨_, rfl, fun t => .inl ⟨by first | kernel_rfl | rfl, fun w_ _ => by rw [rng_bears_walk t]; go_simp; (try with_reducible rfl)⟩⟩, List.forall_mem_cons.2 ⟨⟨_, rfl, fun t => .inl ⟨by first | kernel_rfl | rfl, fun w_ _ => by rw [rng_bears_walk t]; go_simp; (try with_reducible rfl)⟩⟩, List.forall_mem_cons.2 ⟨⟨_, rfl, fun t => .inl ⟨by first | kernel_rfl | rfl, fun w_ _ => by rw [rng_bears_walk t]; go_simp; (try with_reducible rfl)⟩⟩, List.forall_mem_cons.2 ⟨⟨_, rfl, fun t => .inl ⟨by first | kernel_rfl | rfl, fun w_ _ => by rw [rng_bears_walk t]; go_simp; (try with_reducible rfl)⟩⟩, fun _ h => (by cases h)⟩⟩⟩⟩
      case restM63 =>
        rintro t w68 g ⟨e81, e82, e83, e85, e86, e87, e89, e90, e91, e93, e94, e95⟩ hA hB ⟨F_, hwnM63⟩
        clear hSS
        clear F60
        have hA0_0 : t 84 = .slice (some ⟨g 3, 0, none⟩) 3 3 := hA _ (.head _)
        have hA0_1 : t 18 = .slice (some ⟨g 3, 0, none⟩) 3 3 := hB _ (.head _) _ (.head _) rfl
        have hA1_0 : t 88 = .slice (some ⟨g 7, 0, none⟩) 3 3 := hA _ (.tail _ (.head _))
        have hA1_1 : t 19 = .slice (some ⟨g 7, 0, none⟩) 3 3 := hB _ (.tail _ (.head _)) _ (.tail _ (.head _)) rfl
        have hA2_0 : t 92 = .slice (some ⟨g 11, 0, none⟩) 3 3 := hA _ (.tail _ (.tail _ (.head _)))
        have hA2_1 : t 20 = .slice (some ⟨g 11, 0, none⟩) 3 3 := hB _ (.tail _ (.tail _ (.head _))) _ (.tail _ (.tail _ (.head _))) rfl
        have hA3_0 : t 96 = .slice (some ⟨g 15, 0, none⟩) 3 3 := hA _ (.tail _ (.tail _ (.tail _ (.head _))))
        have hA3_1 : t 21 = .slice (some ⟨g 15, 0, none⟩) 3 3 := hB _ (.tail _ (.tail _ (.tail _ (.head _)))) _ (.tail _ (.tail _ (.tail _ (.head _)))) rfl
        (try simp only [List.map_cons, List.map_nil, List.cons_append, List.nil_append] at F_)
        have F69 := F_
        clear hA hB F_
        obtain ⟨g64, hgx_⟩ : ∃ x_, g 3 = x_ := ⟨_, rfl⟩
        rw [hgx_] at hA0_0 hA0_1 F69; clear hgx_
        obtain ⟨g65, hgx_⟩ : ∃ x_, g 7 = x_ := ⟨_, rfl⟩
        rw [hgx_] at hA1_0 hA1_1 F69; clear hgx_
        obtain ⟨g66, hgx_⟩ : ∃ x_, g 11 = x_ := ⟨_, rfl⟩
        rw [hgx_] at hA2_0 hA2_1 F69; clear hgx_
        obtain ⟨g67, hgx_⟩ : ∃ x_, g 15 = x_ := ⟨_, rfl⟩
        rw [hgx_] at hA3_0 hA3_1 F69; clear hgx_
        have hws := F69.gb.size
        have g64l := (F69.at 0 rfl : Bk _ _ _ _).lt
        have g65l := (F69.at 1 rfl : Bk _ _ _ _).lt
        have g66l := (F69.at 2 rfl : Bk _ _ _ _).lt
        have g67l := (F69.at 3 rfl : Bk _ _ _ _).lt
        rw [rng_bears_walk t, e81, e82, e83, e85, e86, e87, e89, e90, e91, e93, e94, e95, hA0_0, hA0_1, hA1_0, hA1_1, hA2_0, hA2_1, hA3_0, hA3_1]
        clear e81 e82 e83 e85 e86 e87 e89 e90 e91 e93 e94 e95 hA0_0 hA0_1 hA1_0 hA1_1 hA2_0 hA2_1 hA3_0 hA3_1
        have Fn_ := ((((F69.drop 4 rfl).drop 4 rfl).drop 7 rfl).drop 7 rfl)
        (try dsimp only [List.eraseIdx_cons_succ, List.eraseIdx_cons_zero] at Fn_)
        obtain ⟨w70, hx71, F73, hxs72⟩ := Fn_.name
        (try simp at hxs72)
        rw [hx71]
        clear hx71 F69 Fn_
        go_wp2_with fail
        refine wp_loop_rounds 4 ?_
        rw [rounds_succ]
        go_wp2_with fail
        have F74 := F73.drew
        clear F73
        refine ru_begin (fun W => W.cell? ⟨g64, 0, none⟩ = some (.int .i64 l0.gr) ∧ W.cell? ⟨g64, 1, none⟩ = some (.int .i64 l0.la) ∧ W.cell? ⟨g64, 2, none⟩ = some (.slice sa0 l0.cov.length sc0) ∧ W.cell? ⟨g64, 3, none⟩ = some (.int .i64 l0.melt.lo) ∧ W.cell? ⟨g64, 4, none⟩ = some (.int .i64 l0.melt.hi) ∧ W.cell? ⟨g64, 5, none⟩ = some (.int .i64 l0.soak) ∧ W.cell? ⟨g64, 6, none⟩ = some (.int .i64 l0.white.lo) ∧ W.cell? ⟨g64, 7, none⟩ = some (.int .i64 l0.white.hi) ∧ W.cell? ⟨g65, 0, none⟩ = some (.int .i64 x0.bl.lo) ∧ W.cell? ⟨g65, 1, none⟩ = some (.int .i64 x0.bl.hi) ∧ W.cell? ⟨g65, 2, none⟩ = some (.int .i64 x0.wh.lo) ∧ W.cell? ⟨g65, 3, none⟩ = some (.int .i64 x0.wh.hi) ∧ W.cell? ⟨g65, 4, none⟩ = some (.int .i64 x0.we.lo) ∧ W.cell? ⟨g65, 5, none⟩ = some (.int .i64 x0.we.hi) ∧ W.cell? ⟨g65, 6, none⟩ = some (.int .i64 x0.sn.lo) ∧ W.cell? ⟨g65, 7, none⟩ = some (.int .i64 x0.sn.hi)) 14 (by kernel_rfl) ?_ ?_
        · exact ⟨F74.cl 0 0 rfl rfl, F74.cl 0 1 rfl rfl, F74.cl 0 2 rfl rfl, F74.cl 0 3 rfl rfl, F74.cl 0 4 rfl rfl, F74.cl 0 5 rfl rfl, F74.cl 0 6 rfl rfl, F74.cl 0 7 rfl rfl, F74.cl 1 0 rfl rfl, F74.cl 1 1 rfl rfl, F74.cl 1 2 rfl rfl, F74.cl 1 3 rfl rfl, F74.cl 1 4 rfl rfl, F74.cl 1 5 rfl rfl, F74.cl 1 6 rfl rfl, F74.cl 1 7 rfl rfl⟩
        obtain ⟨wd76, hwd_⟩ : ∃ x : World, w70.drew = x := ⟨_, rfl⟩
        rw [hwd_] at F74 ⊢
        have wd76s : w70.heap.size ≤ wd76.heap.size := by rw [← hwd_]; exact Nat.le_refl _
        clear hwd_
        have hS75 := (And.intro (F74.cl 0 0 rfl rfl) (And.intro (F74.cl 0 1 rfl rfl) (And.intro (F74.cl 0 2 rfl rfl) (And.intro (F74.cl 0 3 rfl rfl) (And.intro (F74.cl 0 4 rfl rfl) (And.intro (F74.cl 0 5 rfl rfl) (And.intro (F74.cl 0 6 rfl rfl) (And.intro (F74.cl 0 7 rfl rfl) (And.intro (F74.cl 1 0 rfl rfl) (And.intro (F74.cl 1 1 rfl rfl) (And.intro (F74.cl 1 2 rfl rfl) (And.intro (F74.cl 1 3 rfl rfl) (And.intro (F74.cl 1 4 rfl rfl) (And.intro (F74.cl 1 5 rfl rfl) (And.intro (F74.cl 1 6 rfl rfl) (F74.cl 1 7 rfl rfl))))))))))))))))
        refine ru_t 0 [] ?_
        refine ru_t 1 [] ?_
        refine ru_t 2 [] ?_
        refine ru_t 3 [] ?_
        refine ru_t 4 [] ?_
        refine ru_t 5 [] ?_
        refine ru_t 6 [] ?_
        refine ru_t 7 [] ?_
        (try simp only [Act.put, List.setIfInBounds_toArray, List.set_cons_zero, List.set_cons_succ])
        clear hS75
        have hSS := ru_hS F74 (S := fun W => W.cell? ⟨g64, 0, none⟩ = some (.int .i64 l0.gr) ∧ W.cell? ⟨g64, 1, none⟩ = some (.int .i64 l0.la) ∧ W.cell? ⟨g64, 2, none⟩ = some (.slice sa0 l0.cov.length sc0) ∧ W.cell? ⟨g64, 3, none⟩ = some (.int .i64 l0.melt.lo) ∧ W.cell? ⟨g64, 4, none⟩ = some (.int .i64 l0.melt.hi) ∧ W.cell? ⟨g64, 5, none⟩ = some (.int .i64 l0.soak) ∧ W.cell? ⟨g64, 6, none⟩ = some (.int .i64 l0.white.lo) ∧ W.cell? ⟨g64, 7, none⟩ = some (.int .i64 l0.white.hi) ∧ W.cell? ⟨g65, 0, none⟩ = some (.int .i64 x0.bl.lo) ∧ W.cell? ⟨g65, 1, none⟩ = some (.int .i64 x0.bl.hi) ∧ W.cell? ⟨g65, 2, none⟩ = some (.int .i64 x0.wh.lo) ∧ W.cell? ⟨g65, 3, none⟩ = some (.int .i64 x0.wh.hi) ∧ W.cell? ⟨g65, 4, none⟩ = some (.int .i64 x0.we.lo) ∧ W.cell? ⟨g65, 5, none⟩ = some (.int .i64 x0.we.hi) ∧ W.cell? ⟨g65, 6, none⟩ = some (.int .i64 x0.sn.lo) ∧ W.cell? ⟨g65, 7, none⟩ = some (.int .i64 x0.sn.hi)) (fun _ _ F_ => ⟨F_.cl 0 0 rfl rfl, F_.cl 0 1 rfl rfl, F_.cl 0 2 rfl rfl, F_.cl 0 3 rfl rfl, F_.cl 0 4 rfl rfl, F_.cl 0 5 rfl rfl, F_.cl 0 6 rfl rfl, F_.cl 0 7 rfl rfl, F_.cl 1 0 rfl rfl, F_.cl 1 1 rfl rfl, F_.cl 1 2 rfl rfl, F_.cl 1 3 rfl rfl, F_.cl 1 4 rfl rfl, F_.cl 1 5 rfl rfl, F_.cl 1 6 rfl rfl, F_.cl 1 7 rfl rfl⟩)
        refine ru_mixS 200 [⟨13, 23, 27, fun t => #[.int .i64 0, .int .i64 0], ptrOf, fun t => True⟩] [] [8, 9, 10, 11, 12] 3 F74 (by kernel_rfl) (by kernel_rfl) (fun _ _ _ _ _ h => h) (U0 := (fun t => t 18 = .slice (some ⟨g64, 0, none⟩) 3 3 ∧ t 19 = .slice (some ⟨g65, 0, none⟩) 3 3 ∧ t 20 = .slice (some ⟨g66, 0, none⟩) 3 3 ∧ t 21 = .slice (some ⟨g67, 0, none⟩) 3 3 ∧ t 22 = .int .i64 0 ∧ t 107 = .agg (froC l0 (.slice sa0 l0.cov.length sc0)) ∧ t 111 = .agg (iceC x0))) (Um := (fun t => t 18 = .slice (some ⟨g64, 0, none⟩) 3 3 ∧ t 19 = .slice (some ⟨g65, 0, none⟩) 3 3 ∧ t 20 = .slice (some ⟨g66, 0, none⟩) 3 3 ∧ t 21 = .slice (some ⟨g67, 0, none⟩) 3 3 ∧ t 22 = .int .i64 0 ∧ t 113 = .agg #[.int .i64 ((bearT l0 x0).lo), .int .i64 ((bearT l0 x0).hi)] ∧ t 114 = .int .i64 (bearS l0 x0) ∧ t 115 = .int .i64 (allE l0 x0 []))) ?chM77 ?alM77 ?mvM77 (List.forall_mem_cons.2 ⟨List.forall_mem_cons.2 ⟨fun _ _ => rfl, fun _ h => (by cases h)⟩, fun _ h => (by cases h)⟩) ⟨(by kernel_rfl), rfl, ⟨(by kernel_rfl), (by kernel_rfl), (by kernel_rfl), (by kernel_rfl), (by kernel_rfl), (by kernel_rfl), (by kernel_rfl)⟩⟩ ?restM77
        case chM77 =>
          refine ChainL.callS 8 (fun t => t 18 = .slice (some ⟨g64, 0, none⟩) 3 3 ∧ t 19 = .slice (some ⟨g65, 0, none⟩) 3 3 ∧ t 20 = .slice (some ⟨g66, 0, none⟩) 3 3 ∧ t 21 = .slice (some ⟨g67, 0, none⟩) 3 3 ∧ t 22 = .int .i64 0 ∧ t 112 = .tuple #[.agg #[.int .i64 ((bearT l0 x0).lo), .int .i64 ((bearT l0 x0).hi)], .int .i64 (bearS l0 x0), .int .i64 (allE l0 x0 [])]) (List.forall_mem_cons.2 ⟨fun _ _ u => u, fun _ h => (by cases h)⟩) hSS (List.forall_mem_cons.2 ⟨fun _ t ⟨e18, e19, e20, e21, e22, e107, e111⟩ => trivial, fun _ h => (by cases h)⟩) (by kernel_rfl) ?_ ?_
          · rintro t w_ LA ⟨e18, e19, e20, e21, e22, e107, e111⟩ ⟨F_, hwn_⟩
            have hws := F_.gb.size
            rw [rng_bears_walk t, e18, e19, e20, e21, e22, e107, e111]
            clear e18 e19 e20 e21 e22 e107 e111
            refine wpOp_stepH rfl (fun K hK => ?_)
            go_simp
            refine (bearing_c _ _ _ l0 x0 _ (F_.at 9 rfl : Sl covEnc 3 0 w.heap.size _ (.slice sa0 l0.cov.length sc0) l0.cov) (by first | omega | (simp; omega))).mono ?_
            rintro e w78 ⟨rfl, hg79⟩
            exact hK.out _ _ ⟨(by kernel_rfl), rfl, ⟨(by kernel_rfl), (by kernel_rfl), (by kernel_rfl), (by kernel_rfl), (by kernel_rfl), (by kernel_rfl)⟩, List.forall_mem_cons.2 ⟨(by kernel_rfl), fun _ h => (by cases h)⟩, List.forall_mem_cons.2 ⟨fun _ => (by kernel_rfl), fun _ h => (by cases h)⟩, ⟨F_.gn hg79, Nat.le_trans hwn_ hg79.size⟩, hSS _ _ ⟨F_.gn hg79, Nat.le_trans hwn_ hg79.size⟩⟩
          refine ChainL.pureS 9 (fun t => t 18 = .slice (some ⟨g64, 0, none⟩) 3 3 ∧ t 19 = .slice (some ⟨g65, 0, none⟩) 3 3 ∧ t 20 = .slice (some ⟨g66, 0, none⟩) 3 3 ∧ t 21 = .slice (some ⟨g67, 0, none⟩) 3 3 ∧ t 22 = .int .i64 0 ∧ t 103 = .tuple #[.agg #[.int .i64 ((bearT l0 x0).lo), .int .i64 ((bearT l0 x0).hi)], .int .i64 (bearS l0 x0), .int .i64 (allE l0 x0 [])]) rfl (List.forall_mem_cons.2 ⟨fun _ _ u => u, fun _ h => (by cases h)⟩) hSS (List.forall_mem_cons.2 ⟨fun _ t ⟨e18, e19, e20, e21, e22, e112⟩ => trivial, fun _ h => (by cases h)⟩) (by kernel_rfl) ?_ ?_
          · rintro t ⟨e18, e19, e20, e21, e22, e112⟩
            rw [rng_bears_walk t, e18, e19, e20, e21, e22, e112]
            clear e18 e19 e20 e21 e22 e112
            refine ⟨.tuple #[.agg #[.int .i64 ((bearT l0 x0).lo), .int .i64 ((bearT l0 x0).hi)], .int .i64 (bearS l0 x0), .int .i64 (allE l0 x0 [])], .inl ⟨by first | kernel_rfl | rfl, ?_⟩, ⟨(by kernel_rfl), rfl⟩, ⟨(by kernel_rfl), (by kernel_rfl), (by kernel_rfl), (by kernel_rfl), (by kernel_rfl), (by kernel_rfl)⟩, List.forall_mem_cons.2 ⟨(by kernel_rfl), fun _ h => (by cases h)⟩, List.forall_mem_cons.2 ⟨fun _ => (by kernel_rfl), fun _ h => (by cases h)⟩⟩
            intro wS _
            go_simp
            (try with_reducible rfl)
          refine ChainL.pureS 10 (fun t => t 18 = .slice (some ⟨g64, 0, none⟩) 3 3 ∧ t 19 = .slice (some ⟨g65, 0, none⟩) 3 3 ∧ t 20 = .slice (some ⟨g66, 0, none⟩) 3 3 ∧ t 21 = .slice (some ⟨g67, 0, none⟩) 3 3 ∧ t 22 = .int .i64 0 ∧ t 103 = .tuple #[.agg #[.int .i64 ((bearT l0 x0).lo), .int .i64 ((bearT l0 x0).hi)], .int .i64 (bearS l0 x0), .int .i64 (allE l0 x0 [])] ∧ t 113 = .agg #[.int .i64 ((bearT l0 x0).lo), .int .i64 ((bearT l0 x0).hi)]) rfl (List.forall_mem_cons.2 ⟨fun _ _ u => u, fun _ h => (by cases h)⟩) hSS (List.forall_mem_cons.2 ⟨fun _ t ⟨e18, e19, e20, e21, e22, e103⟩ => trivial, fun _ h => (by cases h)⟩) (by kernel_rfl) ?_ ?_
          · rintro t ⟨e18, e19, e20, e21, e22, e103⟩
            rw [rng_bears_walk t, e18, e19, e20, e21, e22, e103]
            clear e18 e19 e20 e21 e22 e103
            refine ⟨.agg #[.int .i64 ((bearT l0 x0).lo), .int .i64 ((bearT l0 x0).hi)], .inl ⟨by first | kernel_rfl | rfl, ?_⟩, ⟨(by kernel_rfl), rfl⟩, ⟨(by kernel_rfl), (by kernel_rfl), (by kernel_rfl), (by kernel_rfl), (by kernel_rfl), (by kernel_rfl), (by kernel_rfl)⟩, List.forall_mem_cons.2 ⟨(by kernel_rfl), fun _ h => (by cases h)⟩, List.forall_mem_cons.2 ⟨fun _ => (by kernel_rfl), fun _ h => (by cases h)⟩⟩
            intro wS _
            go_simp
            (try with_reducible rfl)
          refine ChainL.pureS 11 (fun t => t 18 = .slice (some ⟨g64, 0, none⟩) 3 3 ∧ t 19 = .slice (some ⟨g65, 0, none⟩) 3 3 ∧ t 20 = .slice (some ⟨g66, 0, none⟩) 3 3 ∧ t 21 = .slice (some ⟨g67, 0, none⟩) 3 3 ∧ t 22 = .int .i64 0 ∧ t 103 = .tuple #[.agg #[.int .i64 ((bearT l0 x0).lo), .int .i64 ((bearT l0 x0).hi)], .int .i64 (bearS l0 x0), .int .i64 (allE l0 x0 [])] ∧ t 113 = .agg #[.int .i64 ((bearT l0 x0).lo), .int .i64 ((bearT l0 x0).hi)] ∧ t 114 = .int .i64 (bearS l0 x0)) rfl (List.forall_mem_cons.2 ⟨fun _ _ u => u, fun _ h => (by cases h)⟩) hSS (List.forall_mem_cons.2 ⟨fun _ t ⟨e18, e19, e20, e21, e22, e103, e113⟩ => trivial, fun _ h => (by cases h)⟩) (by kernel_rfl) ?_ ?_
          · rintro t ⟨e18, e19, e20, e21, e22, e103, e113⟩
            rw [rng_bears_walk t, e18, e19, e20, e21, e22, e103, e113]
            clear e18 e19 e20 e21 e22 e103 e113
            refine ⟨.int .i64 (bearS l0 x0), .inl ⟨by first | kernel_rfl | rfl, ?_⟩, ⟨(by kernel_rfl), rfl⟩, ⟨(by kernel_rfl), (by kernel_rfl), (by kernel_rfl), (by kernel_rfl), (by kernel_rfl), (by kernel_rfl), (by kernel_rfl), (by kernel_rfl)⟩, List.forall_mem_cons.2 ⟨(by kernel_rfl), fun _ h => (by cases h)⟩, List.forall_mem_cons.2 ⟨fun _ => (by kernel_rfl), fun _ h => (by cases h)⟩⟩
            intro wS _
            go_simp
            (try with_reducible rfl)
          refine ChainL.pureS 12 (fun t => t 18 = .slice (some ⟨g64, 0, none⟩) 3 3 ∧ t 19 = .slice (some ⟨g65, 0, none⟩) 3 3 ∧ t 20 = .slice (some ⟨g66, 0, none⟩) 3 3 ∧ t 21 = .slice (some ⟨g67, 0, none⟩) 3 3 ∧ t 22 = .int .i64 0 ∧ t 113 = .agg #[.int .i64 ((bearT l0 x0).lo), .int .i64 ((bearT l0 x0).hi)] ∧ t 114 = .int .i64 (bearS l0 x0) ∧ t 115 = .int .i64 (allE l0 x0 [])) rfl (List.forall_mem_cons.2 ⟨fun _ _ u => u, fun _ h => (by cases h)⟩) hSS (List.forall_mem_cons.2 ⟨fun _ t ⟨e18, e19, e20, e21, e22, e103, e113, e114⟩ => trivial, fun _ h => (by cases h)⟩) (by kernel_rfl) ?_ ?_
          · rintro t ⟨e18, e19, e20, e21, e22, e103, e113, e114⟩
            rw [rng_bears_walk t, e18, e19, e20, e21, e22, e103, e113, e114]
            clear e18 e19 e20 e21 e22 e103 e113 e114
            refine ⟨.int .i64 (allE l0 x0 []), .inl ⟨by first | kernel_rfl | rfl, ?_⟩, ⟨(by kernel_rfl), rfl⟩, ⟨(by kernel_rfl), (by kernel_rfl), (by kernel_rfl), (by kernel_rfl), (by kernel_rfl), (by kernel_rfl), (by kernel_rfl), (by kernel_rfl)⟩, List.forall_mem_cons.2 ⟨(by kernel_rfl), fun _ h => (by cases h)⟩, List.forall_mem_cons.2 ⟨fun _ => (by kernel_rfl), fun _ h => (by cases h)⟩⟩
            intro wS _
            go_simp
            (try with_reducible rfl)
          exact ChainL.nil _ _ _ (List.forall_mem_cons.2 ⟨fun _ _ u => u, fun _ h => (by cases h)⟩) hSS (List.forall_mem_cons.2 ⟨fun _ t ⟨e18, e19, e20, e21, e22, e113, e114, e115⟩ => trivial, fun _ h => (by cases h)⟩)
        case alM77 =>
          refine List.forall_mem_cons.2 ⟨fun t w K hv h => ?_, ?_⟩
          · exact wpOp_step rfl (fun K hK => by go_simp; exact hK _ _ h)
          exact fun _ h => (by cases h)
        case mvM77 => exact fun _ h => (by cases h)
        case restM77 =>
          rintro t w82 g ⟨e18, e19, e20, e21, e22, e113, e114, e115⟩ hA hB ⟨F_, hwnM77⟩
          clear hSS
          clear F74
          have hA0_0 : t 23 = .pointer (some ⟨g 13, 0, none⟩) := hA _ (.head _)
          (try simp only [List.map_cons, List.map_nil, List.cons_append, List.nil_append] at F_)
          have F83 := F_
          clear hA hB F_
          obtain ⟨g81, hgx_⟩ : ∃ x_, g 13 = x_ := ⟨_, rfl⟩
          rw [hgx_] at hA0_0 F83; clear hgx_
          have hws := F83.gb.size
          have g81l := (F83.at 0 rfl : Bk _ _ _ _).lt
          rw [rng_bears_walk t, e18, e19, e20, e21, e22, e113, e114, e115, hA0_0]
          clear e18 e19 e20 e21 e22 e113 e114 e115 hA0_0
          have hS_ : (fun W : World => W.cell? ⟨g64, 0, none⟩ = some (.int .i64 l0.gr) ∧ W.cell? ⟨g64, 1, none⟩ = some (.int .i64 l0.la) ∧ W.cell? ⟨g64, 2, none⟩ = some (.slice sa0 l0.cov.length sc0) ∧ W.cell? ⟨g64, 3, none⟩ = some (.int .i64 l0.melt.lo) ∧ W.cell? ⟨g64, 4, none⟩ = some (.int .i64 l0.melt.hi) ∧ W.cell? ⟨g64, 5, none⟩ = some (.int .i64 l0.soak) ∧ W.cell? ⟨g64, 6, none⟩ = some (.int .i64 l0.white.lo) ∧ W.cell? ⟨g64, 7, none⟩ = some (.int .i64 l0.white.hi) ∧ W.cell? ⟨g65, 0, none⟩ = some (.int .i64 x0.bl.lo) ∧ W.cell? ⟨g65, 1, none⟩ = some (.int .i64 x0.bl.hi) ∧ W.cell? ⟨g65, 2, none⟩ = some (.int .i64 x0.wh.lo) ∧ W.cell? ⟨g65, 3, none⟩ = some (.int .i64 x0.wh.hi) ∧ W.cell? ⟨g65, 4, none⟩ = some (.int .i64 x0.we.lo) ∧ W.cell? ⟨g65, 5, none⟩ = some (.int .i64 x0.we.hi) ∧ W.cell? ⟨g65, 6, none⟩ = some (.int .i64 x0.sn.lo) ∧ W.cell? ⟨g65, 7, none⟩ = some (.int .i64 x0.sn.hi)) _ := ⟨F83.cl 1 0 rfl rfl, F83.cl 1 1 rfl rfl, F83.cl 1 2 rfl rfl, F83.cl 1 3 rfl rfl, F83.cl 1 4 rfl rfl, F83.cl 1 5 rfl rfl, F83.cl 1 6 rfl rfl, F83.cl 1 7 rfl rfl, F83.cl 2 0 rfl rfl, F83.cl 2 1 rfl rfl, F83.cl 2 2 rfl rfl, F83.cl 2 3 rfl rfl, F83.cl 2 4 rfl rfl, F83.cl 2 5 rfl rfl, F83.cl 2 6 rfl rfl, F83.cl 2 7 rfl rfl⟩
          refine ru_one 14 rfl (by kernel_rfl) (fun K hK => ?_)
          have kb_ := F83.bx2 0 rfl
          go_simp
          clear kb_
          have F84 := F83.pt2 (.int .i64 ((bearT l0 x0).lo)) (.int .i64 ((bearT l0 x0).hi))
          clear F83
          refine ru_back_late hK (by kernel_rfl) ?_
          clear hK K
          (try simp only [Act.put, List.setIfInBounds_toArray, List.set_cons_zero, List.set_cons_succ])
          refine ru_one 15 rfl (by kernel_rfl) (fun K hK => ?_)
          go_simp
          refine ru_back_late hK (by kernel_rfl) ?_
          clear hK K
          (try simp only [Act.put, List.setIfInBounds_toArray, List.set_cons_zero, List.set_cons_succ])
          refine ru_one 16 rfl (by kernel_rfl) (fun K hK => ?_)
          go_simp
          refine ru_back_late hK (by kernel_rfl) ?_
          clear hK K
          (try simp only [Act.put, List.setIfInBounds_toArray, List.set_cons_zero, List.set_cons_succ])
          refine ru_done (by kernel_rfl) ?_
          have Fn_ := F84
          (try dsimp only [List.eraseIdx_cons_succ, List.eraseIdx_cons_zero] at Fn_)
          obtain ⟨w85, hx86, F88, hxs87⟩ := Fn_.name
          (try simp at hxs87)
          rw [hx86]
          clear hx86 F84 Fn_
          go_wp2_with fail
          have F89 := F88.drew
          clear F88
          refine ru_begin (fun W => W.cell? ⟨g64, 0, none⟩ = some (.int .i64 l0.gr) ∧ W.cell? ⟨g64, 1, none⟩ = some (.int .i64 l0.la) ∧ W.cell? ⟨g64, 2, none⟩ = some (.slice sa0 l0.cov.length sc0) ∧ W.cell? ⟨g64, 3, none⟩ = some (.int .i64 l0.melt.lo) ∧ W.cell? ⟨g64, 4, none⟩ = some (.int .i64 l0.melt.hi) ∧ W.cell? ⟨g64, 5, none⟩ = some (.int .i64 l0.soak) ∧ W.cell? ⟨g64, 6, none⟩ = some (.int .i64 l0.white.lo) ∧ W.cell? ⟨g64, 7, none⟩ = some (.int .i64 l0.white.hi) ∧ W.cell? ⟨g65, 0, none⟩ = some (.int .i64 x0.bl.lo) ∧ W.cell? ⟨g65, 1, none⟩ = some (.int .i64 x0.bl.hi) ∧ W.cell? ⟨g65, 2, none⟩ = some (.int .i64 x0.wh.lo) ∧ W.cell? ⟨g65, 3, none⟩ = some (.int .i64 x0.wh.hi) ∧ W.cell? ⟨g65, 4, none⟩ = some (.int .i64 x0.we.lo) ∧ W.cell? ⟨g65, 5, none⟩ = some (.int .i64 x0.we.hi) ∧ W.cell? ⟨g65, 6, none⟩ = some (.int .i64 x0.sn.lo) ∧ W.cell? ⟨g65, 7, none⟩ = some (.int .i64 x0.sn.hi)) 14 (by kernel_rfl) ?_ ?_
          · exact ⟨F89.cl 1 0 rfl rfl, F89.cl 1 1 rfl rfl, F89.cl 1 2 rfl rfl, F89.cl 1 3 rfl rfl, F89.cl 1 4 rfl rfl, F89.cl 1 5 rfl rfl, F89.cl 1 6 rfl rfl, F89.cl 1 7 rfl rfl, F89.cl 2 0 rfl rfl, F89.cl 2 1 rfl rfl, F89.cl 2 2 rfl rfl, F89.cl 2 3 rfl rfl, F89.cl 2 4 rfl rfl, F89.cl 2 5 rfl rfl, F89.cl 2 6 rfl rfl, F89.cl 2 7 rfl rfl⟩
          obtain ⟨wd91, hwd_⟩ : ∃ x : World, w85.drew = x := ⟨_, rfl⟩
          rw [hwd_] at F89 ⊢
          have wd91s : w85.heap.size ≤ wd91.heap.size := by rw [← hwd_]; exact Nat.le_refl _
          clear hwd_
          have hS90 := (And.intro (F89.cl 1 0 rfl rfl) (And.intro (F89.cl 1 1 rfl rfl) (And.intro (F89.cl 1 2 rfl rfl) (And.intro (F89.cl 1 3 rfl rfl) (And.intro (F89.cl 1 4 rfl rfl) (And.intro (F89.cl 1 5 rfl rfl) (And.intro (F89.cl 1 6 rfl rfl) (And.intro (F89.cl 1 7 rfl rfl) (And.intro (F89.cl 2 0 rfl rfl) (And.intro (F89.cl 2 1 rfl rfl) (And.intro (F89.cl 2 2 rfl rfl) (And.intro (F89.cl 2 3 rfl rfl) (And.intro (F89.cl 2 4 rfl rfl) (And.intro (F89.cl 2 5 rfl rfl) (And.intro (F89.cl 2 6 rfl rfl) (F89.cl 2 7 rfl rfl))))))))))))))))
          refine ru_t 0 [] ?_
          refine ru_t 1 [] ?_
          refine ru_t 2 [] ?_
          refine ru_t 3 [] ?_
          refine ru_t 4 [] ?_
          refine ru_t 5 [] ?_
          refine ru_t 6 [] ?_
          refine ru_t 7 [] ?_
          (try simp only [Act.put, List.setIfInBounds_toArray, List.set_cons_zero, List.set_cons_succ])
          clear hS90
          have hSS := ru_hS F89 (S := fun W => W.cell? ⟨g64, 0, none⟩ = some (.int .i64 l0.gr) ∧ W.cell? ⟨g64, 1, none⟩ = some (.int .i64 l0.la) ∧ W.cell? ⟨g64, 2, none⟩ = some (.slice sa0 l0.cov.length sc0) ∧ W.cell? ⟨g64, 3, none⟩ = some (.int .i64 l0.melt.lo) ∧ W.cell? ⟨g64, 4, none⟩ = some (.int .i64 l0.melt.hi) ∧ W.cell? ⟨g64, 5, none⟩ = some (.int .i64 l0.soak) ∧ W.cell? ⟨g64, 6, none⟩ = some (.int .i64 l0.white.lo) ∧ W.cell? ⟨g64, 7, none⟩ = some (.int .i64 l0.white.hi) ∧ W.cell? ⟨g65, 0, none⟩ = some (.int .i64 x0.bl.lo) ∧ W.cell? ⟨g65, 1, none⟩ = some (.int .i64 x0.bl.hi) ∧ W.cell? ⟨g65, 2, none⟩ = some (.int .i64 x0.wh.lo) ∧ W.cell? ⟨g65, 3, none⟩ = some (.int .i64 x0.wh.hi) ∧ W.cell? ⟨g65, 4, none⟩ = some (.int .i64 x0.we.lo) ∧ W.cell? ⟨g65, 5, none⟩ = some (.int .i64 x0.we.hi) ∧ W.cell? ⟨g65, 6, none⟩ = some (.int .i64 x0.sn.lo) ∧ W.cell? ⟨g65, 7, none⟩ = some (.int .i64 x0.sn.hi)) (fun _ _ F_ => ⟨F_.cl 1 0 rfl rfl, F_.cl 1 1 rfl rfl, F_.cl 1 2 rfl rfl, F_.cl 1 3 rfl rfl, F_.cl 1 4 rfl rfl, F_.cl 1 5 rfl rfl, F_.cl 1 6 rfl rfl, F_.cl 1 7 rfl rfl, F_.cl 2 0 rfl rfl, F_.cl 2 1 rfl rfl, F_.cl 2 2 rfl rfl, F_.cl 2 3 rfl rfl, F_.cl 2 4 rfl rfl, F_.cl 2 5 rfl rfl, F_.cl 2 6 rfl rfl, F_.cl 2 7 rfl rfl⟩)
          refine ru_mixS 200 [⟨13, 26, 27, fun t => #[.int .i64 0, .int .i64 0], ptrOf, fun t => True⟩] [] [8, 9, 10, 11, 12] 3 F89 (by kernel_rfl) (by kernel_rfl) (fun _ _ _ _ _ h => h) (U0 := (fun t => t 18 = .slice (some ⟨g64, 0, none⟩) 3 3 ∧ t 19 = .slice (some ⟨g65, 0, none⟩) 3 3 ∧ t 20 = .slice (some ⟨g66, 0, none⟩) 3 3 ∧ t 21 = .slice (some ⟨g67, 0, none⟩) 3 3 ∧ t 22 = .int .i64 0 ∧ t 23 = .pointer (some ⟨g81, 0, none⟩) ∧ t 24 = .int .i64 (bearS l0 x0) ∧ t 25 = .int .i64 (allE l0 x0 []) ∧ t 120 = .agg (froC l0 (.slice sa0 l0.cov.length sc0)) ∧ t 124 = .agg (iceC x0))) (Um := (fun t => t 18 = .slice (some ⟨g64, 0, none⟩) 3 3 ∧ t 19 = .slice (some ⟨g65, 0, none⟩) 3 3 ∧ t 20 = .slice (some ⟨g66, 0, none⟩) 3 3 ∧ t 21 = .slice (some ⟨g67, 0, none⟩) 3 3 ∧ t 22 = .int .i64 0 ∧ t 23 = .pointer (some ⟨g81, 0, none⟩) ∧ t 24 = .int .i64 (bearS l0 x0) ∧ t 25 = .int .i64 (allE l0 x0 []) ∧ t 126 = .agg #[.int .i64 ((bearT l0 x0).lo), .int .i64 ((bearT l0 x0).hi)] ∧ t 127 = .int .i64 (bearS l0 x0) ∧ t 128 = .int .i64 (allE l0 x0 []))) ?chM92 ?alM92 ?mvM92 (List.forall_mem_cons.2 ⟨List.forall_mem_cons.2 ⟨fun _ _ => rfl, fun _ h => (by cases h)⟩, fun _ h => (by cases h)⟩) ⟨(by kernel_rfl), rfl, ⟨(by kernel_rfl), (by kernel_rfl), (by kernel_rfl), (by kernel_rfl), (by kernel_rfl), (by kernel_rfl), (by kernel_rfl), (by kernel_rfl), (by kernel_rfl), (by kernel_rfl)⟩⟩ ?restM92
          case chM92 =>
            refine ChainL.callS 8 (fun t => t 18 = .slice (some ⟨g64, 0, none⟩) 3 3 ∧ t 19 = .slice (some ⟨g65, 0, none⟩) 3 3 ∧ t 20 = .slice (some ⟨g66, 0, none⟩) 3 3 ∧ t 21 = .slice (some ⟨g67, 0, none⟩) 3 3 ∧ t 22 = .int .i64 0 ∧ t 23 = .pointer (some ⟨g81, 0, none⟩) ∧ t 24 = .int .i64 (bearS l0 x0) ∧ t 25 = .int .i64 (allE l0 x0 []) ∧ t 125 = .tuple #[.agg #[.int .i64 ((bearT l0 x0).lo), .int .i64 ((bearT l0 x0).hi)], .int .i64 (bearS l0 x0), .int .i64 (allE l0 x0 [])]) (List.forall_mem_cons.2 ⟨fun _ _ u => u, fun _ h => (by cases h)⟩) hSS (List.forall_mem_cons.2 ⟨fun _ t ⟨e18, e19, e20, e21, e22, e23, e24, e25, e120, e124⟩ => trivial, fun _ h => (by cases h)⟩) (by kernel_rfl) ?_ ?_
            · rintro t w_ LA ⟨e18, e19, e20, e21, e22, e23, e24, e25, e120, e124⟩ ⟨F_, hwn_⟩
              have hws := F_.gb.size
              rw [rng_bears_walk t, e18, e19, e20, e21, e22, e23, e24, e25, e120, e124]
              clear e18 e19 e20 e21 e22 e23 e24 e25 e120 e124
              refine wpOp_stepH rfl (fun K hK => ?_)
              go_simp
              refine (rbearing_c _ _ _ l0 x0 _ (F_.at 10 rfl : Sl covEnc 3 0 w.heap.size _ (.slice sa0 l0.cov.length sc0) l0.cov) (by first | omega | (simp; omega))).mono ?_
              rintro e w93 ⟨rfl, hg94⟩
              exact hK.out _ _ ⟨(by kernel_rfl), rfl, ⟨(by kernel_rfl), (by kernel_rfl), (by kernel_rfl), (by kernel_rfl), (by kernel_rfl), (by kernel_rfl), (by kernel_rfl), (by kernel_rfl), (by kernel_rfl)⟩, List.forall_mem_cons.2 ⟨(by kernel_rfl), fun _ h => (by cases h)⟩, List.forall_mem_cons.2 ⟨fun _ => (by kernel_rfl), fun _ h => (by cases h)⟩, ⟨F_.gn hg94, Nat.le_trans hwn_ hg94.size⟩, hSS _ _ ⟨F_.gn hg94, Nat.le_trans hwn_ hg94.size⟩⟩
            refine ChainL.pureS 9 (fun t => t 18 = .slice (some ⟨g64, 0, none⟩) 3 3 ∧ t 19 = .slice (some ⟨g65, 0, none⟩) 3 3 ∧ t 20 = .slice (some ⟨g66, 0, none⟩) 3 3 ∧ t 21 = .slice (some ⟨g67, 0, none⟩) 3 3 ∧ t 22 = .int .i64 0 ∧ t 23 = .pointer (some ⟨g81, 0, none⟩) ∧ t 24 = .int .i64 (bearS l0 x0) ∧ t 25 = .int .i64 (allE l0 x0 []) ∧ t 116 = .tuple #[.agg #[.int .i64 ((bearT l0 x0).lo), .int .i64 ((bearT l0 x0).hi)], .int .i64 (bearS l0 x0), .int .i64 (allE l0 x0 [])]) rfl (List.forall_mem_cons.2 ⟨fun _ _ u => u, fun _ h => (by cases h)⟩) hSS (List.forall_mem_cons.2 ⟨fun _ t ⟨e18, e19, e20, e21, e22, e23, e24, e25, e125⟩ => trivial, fun _ h => (by cases h)⟩) (by kernel_rfl) ?_ ?_
            · rintro t ⟨e18, e19, e20, e21, e22, e23, e24, e25, e125⟩
              rw [rng_bears_walk t, e18, e19, e20, e21, e22, e23, e24, e25, e125]
              clear e18 e19 e20 e21 e22 e23 e24 e25 e125
              refine ⟨.tuple #[.agg #[.int .i64 ((bearT l0 x0).lo), .int .i64 ((bearT l0 x0).hi)], .int .i64 (bearS l0 x0), .int .i64 (allE l0 x0 [])], .inl ⟨by first | kernel_rfl | rfl, ?_⟩, ⟨(by kernel_rfl), rfl⟩, ⟨(by kernel_rfl), (by kernel_rfl), (by kernel_rfl), (by kernel_rfl), (by kernel_rfl), (by kernel_rfl), (by kernel_rfl), (by kernel_rfl), (by kernel_rfl)⟩, List.forall_mem_cons.2 ⟨(by kernel_rfl), fun _ h => (by cases h)⟩, List.forall_mem_cons.2 ⟨fun _ => (by kernel_rfl), fun _ h => (by cases h)⟩⟩
              intro wS _
              go_simp
              (try with_reducible rfl)
            refine ChainL.pureS 10 (fun t => t 18 = .slice (some ⟨g64, 0, none⟩) 3 3 ∧ t 19 = .slice (some ⟨g65, 0, none⟩) 3 3 ∧ t 20 = .slice (some ⟨g66, 0, none⟩) 3 3 ∧ t 21 = .slice (some ⟨g67, 0, none⟩) 3 3 ∧ t 22 = .int .i64 0 ∧ t 23 = .pointer (some ⟨g81, 0, none⟩) ∧ t 24 = .int .i64 (bearS l0 x0) ∧ t 25 = .int .i64 (allE l0 x0 []) ∧ t 116 = .tuple #[.agg #[.int .i64 ((bearT l0 x0).lo), .int .i64 ((bearT l0 x0).hi)], .int .i64 (bearS l0 x0), .int .i64 (allE l0 x0 [])] ∧ t 126 = .agg #[.int .i64 ((bearT l0 x0).lo), .int .i64 ((bearT l0 x0).hi)]) rfl (List.forall_mem_cons.2 ⟨fun _ _ u => u, fun _ h => (by cases h)⟩) hSS (List.forall_mem_cons.2 ⟨fun _ t ⟨e18, e19, e20, e21, e22, e23, e24, e25, e116⟩ => trivial, fun _ h => (by cases h)⟩) (by kernel_rfl) ?_ ?_
            · rintro t ⟨e18, e19, e20, e21, e22, e23, e24, e25, e116⟩
              rw [rng_bears_walk t, e18, e19, e20, e21, e22, e23, e24, e25, e116]
              clear e18 e19 e20 e21 e22 e23 e24 e25 e116
              refine ⟨.agg #[.int .i64 ((bearT l0 x0).lo), .int .i64 ((bearT l0 x0).hi)], .inl ⟨by first | kernel_rfl | rfl, ?_⟩, ⟨(by kernel_rfl), rfl⟩, ⟨(by kernel_rfl), (by kernel_rfl), (by kernel_rfl), (by kernel_rfl), (by kernel_rfl), (by kernel_rfl), (by kernel_rfl), (by kernel_rfl), (by kernel_rfl), (by kernel_rfl)⟩, List.forall_mem_cons.2 ⟨(by kernel_rfl), fun _ h => (by cases h)⟩, List.forall_mem_cons.2 ⟨fun _ => (by kernel_rfl), fun _ h => (by cases h)⟩⟩
              intro wS _
              go_simp
              (try with_reducible rfl)
            refine ChainL.pureS 11 (fun t => t 18 = .slice (some ⟨g64, 0, none⟩) 3 3 ∧ t 19 = .slice (some ⟨g65, 0, none⟩) 3 3 ∧ t 20 = .slice (some ⟨g66, 0, none⟩) 3 3 ∧ t 21 = .slice (some ⟨g67, 0, none⟩) 3 3 ∧ t 22 = .int .i64 0 ∧ t 23 = .pointer (some ⟨g81, 0, none⟩) ∧ t 24 = .int .i64 (bearS l0 x0) ∧ t 25 = .int .i64 (allE l0 x0 []) ∧ t 116 = .tuple #[.agg #[.int .i64 ((bearT l0 x0).lo), .int .i64 ((bearT l0 x0).hi)], .int .i64 (bearS l0 x0), .int .i64 (allE l0 x0 [])] ∧ t 126 = .agg #[.int .i64 ((bearT l0 x0).lo), .int .i64 ((bearT l0 x0).hi)] ∧ t 127 = .int .i64 (bearS l0 x0)) rfl (List.forall_mem_cons.2 ⟨fun _ _ u => u, fun _ h => (by cases h)⟩) hSS (List.forall_mem_cons.2 ⟨fun _ t ⟨e18, e19, e20, e21, e22, e23, e24, e25, e116, e126⟩ => trivial, fun _ h => (by cases h)⟩) (by kernel_rfl) ?_ ?_
            · rintro t ⟨e18, e19, e20, e21, e22, e23, e24, e25, e116, e126⟩
              rw [rng_bears_walk t, e18, e19, e20, e21, e22, e23, e24, e25, e116, e126]
              clear e18 e19 e20 e21 e22 e23 e24 e25 e116 e126
              refine ⟨.int .i64 (bearS l0 x0), .inl ⟨by first | kernel_rfl | rfl, ?_⟩, ⟨(by kernel_rfl), rfl⟩, ⟨(by kernel_rfl), (by kernel_rfl), (by kernel_rfl), (by kernel_rfl), (by kernel_rfl), (by kernel_rfl), (by kernel_rfl), (by kernel_rfl), (by kernel_rfl), (by kernel_rfl), (by kernel_rfl)⟩, List.forall_mem_cons.2 ⟨(by kernel_rfl), fun _ h => (by cases h)⟩, List.forall_mem_cons.2 ⟨fun _ => (by kernel_rfl), fun _ h => (by cases h)⟩⟩
              intro wS _
              go_simp
              (try with_reducible rfl)
            refine ChainL.pureS 12 (fun t => t 18 = .slice (some ⟨g64, 0, none⟩) 3 3 ∧ t 19 = .slice (some ⟨g65, 0, none⟩) 3 3 ∧ t 20 = .slice (some ⟨g66, 0, none⟩) 3 3 ∧ t 21 = .slice (some ⟨g67, 0, none⟩) 3 3 ∧ t 22 = .int .i64 0 ∧ t 23 = .pointer (some ⟨g81, 0, none⟩) ∧ t 24 = .int .i64 (bearS l0 x0) ∧ t 25 = .int .i64 (allE l0 x0 []) ∧ t 126 = .agg #[.int .i64 ((bearT l0 x0).lo), .int .i64 ((bearT l0 x0).hi)] ∧ t 127 = .int .i64 (bearS l0 x0) ∧ t 128 = .int .i64 (allE l0 x0 [])) rfl (List.forall_mem_cons.2 ⟨fun _ _ u => u, fun _ h => (by cases h)⟩) hSS (List.forall_mem_cons.2 ⟨fun _ t ⟨e18, e19, e20, e21, e22, e23, e24, e25, e116, e126, e127⟩ => trivial, fun _ h => (by cases h)⟩) (by kernel_rfl) ?_ ?_
            · rintro t ⟨e18, e19, e20, e21, e22, e23, e24, e25, e116, e126, e127⟩
              rw [rng_bears_walk t, e18, e19, e20, e21, e22, e23, e24, e25, e116, e126, e127]
              clear e18 e19 e20 e21 e22 e23 e24 e25 e116 e126 e127
              refine ⟨.int .i64 (allE l0 x0 []), .inl ⟨by first | kernel_rfl | rfl, ?_⟩, ⟨(by kernel_rfl), rfl⟩, ⟨(by kernel_rfl), (by kernel_rfl), (by kernel_rfl), (by kernel_rfl), (by kernel_rfl), (by kernel_rfl), (by kernel_rfl), (by kernel_rfl), (by kernel_rfl), (by kernel_rfl), (by kernel_rfl)⟩, List.forall_mem_cons.2 ⟨(by kernel_rfl), fun _ h => (by cases h)⟩, List.forall_mem_cons.2 ⟨fun _ => (by kernel_rfl), fun _ h => (by cases h)⟩⟩
              intro wS _
              go_simp
              (try with_reducible rfl)
            exact ChainL.nil _ _ _ (List.forall_mem_cons.2 ⟨fun _ _ u => u, fun _ h => (by cases h)⟩) hSS (List.forall_mem_cons.2 ⟨fun _ t ⟨e18, e19, e20, e21, e22, e23, e24, e25, e126, e127, e128⟩ => trivial, fun _ h => (by cases h)⟩)
          case alM92 =>
            refine List.forall_mem_cons.2 ⟨fun t w K hv h => ?_, ?_⟩
            · exact wpOp_step rfl (fun K hK => by go_simp; exact hK _ _ h)
            exact fun _ h => (by cases h)
          case mvM92 => exact fun _ h => (by cases h)
          case restM92 =>
            rintro t w97 g ⟨e18, e19, e20, e21, e22, e23, e24, e25, e126, e127, e128⟩ hA hB ⟨F_, hwnM92⟩
            clear hSS
            clear F89
            have hA0_0 : t 26 = .pointer (some ⟨g 13, 0, none⟩) := hA _ (.head _)
            (try simp only [List.map_cons, List.map_nil, List.cons_append, List.nil_append] at F_)
            have F98 := F_
            clear hA hB F_
            obtain ⟨g96, hgx_⟩ : ∃ x_, g 13 = x_ := ⟨_, rfl⟩
            rw [hgx_] at hA0_0 F98; clear hgx_
            have hws := F98.gb.size
            have g96l := (F98.at 0 rfl : Bk _ _ _ _).lt
            rw [rng_bears_walk t, e18, e19, e20, e21, e22, e23, e24, e25, e126, e127, e128, hA0_0]
            clear e18 e19 e20 e21 e22 e23 e24 e25 e126 e127 e128 hA0_0
            have hS_ : (fun W : World => W.cell? ⟨g64, 0, none⟩ = some (.int .i64 l0.gr) ∧ W.cell? ⟨g64, 1, none⟩ = some (.int .i64 l0.la) ∧ W.cell? ⟨g64, 2, none⟩ = some (.slice sa0 l0.cov.length sc0) ∧ W.cell? ⟨g64, 3, none⟩ = some (.int .i64 l0.melt.lo) ∧ W.cell? ⟨g64, 4, none⟩ = some (.int .i64 l0.melt.hi) ∧ W.cell? ⟨g64, 5, none⟩ = some (.int .i64 l0.soak) ∧ W.cell? ⟨g64, 6, none⟩ = some (.int .i64 l0.white.lo) ∧ W.cell? ⟨g64, 7, none⟩ = some (.int .i64 l0.white.hi) ∧ W.cell? ⟨g65, 0, none⟩ = some (.int .i64 x0.bl.lo) ∧ W.cell? ⟨g65, 1, none⟩ = some (.int .i64 x0.bl.hi) ∧ W.cell? ⟨g65, 2, none⟩ = some (.int .i64 x0.wh.lo) ∧ W.cell? ⟨g65, 3, none⟩ = some (.int .i64 x0.wh.hi) ∧ W.cell? ⟨g65, 4, none⟩ = some (.int .i64 x0.we.lo) ∧ W.cell? ⟨g65, 5, none⟩ = some (.int .i64 x0.we.hi) ∧ W.cell? ⟨g65, 6, none⟩ = some (.int .i64 x0.sn.lo) ∧ W.cell? ⟨g65, 7, none⟩ = some (.int .i64 x0.sn.hi)) _ := ⟨F98.cl 2 0 rfl rfl, F98.cl 2 1 rfl rfl, F98.cl 2 2 rfl rfl, F98.cl 2 3 rfl rfl, F98.cl 2 4 rfl rfl, F98.cl 2 5 rfl rfl, F98.cl 2 6 rfl rfl, F98.cl 2 7 rfl rfl, F98.cl 3 0 rfl rfl, F98.cl 3 1 rfl rfl, F98.cl 3 2 rfl rfl, F98.cl 3 3 rfl rfl, F98.cl 3 4 rfl rfl, F98.cl 3 5 rfl rfl, F98.cl 3 6 rfl rfl, F98.cl 3 7 rfl rfl⟩
            refine ru_one 14 rfl (by kernel_rfl) (fun K hK => ?_)
            have kb_ := F98.bx2 0 rfl
            go_simp
            clear kb_
            have F99 := F98.pt2 (.int .i64 ((bearT l0 x0).lo)) (.int .i64 ((bearT l0 x0).hi))
            clear F98
            refine ru_back_late hK (by kernel_rfl) ?_
            clear hK K
            (try simp only [Act.put, List.setIfInBounds_toArray, List.set_cons_zero, List.set_cons_succ])
            refine ru_one 15 rfl (by kernel_rfl) (fun K hK => ?_)
            go_simp
            refine ru_back_late hK (by kernel_rfl) ?_
            clear hK K
            (try simp only [Act.put, List.setIfInBounds_toArray, List.set_cons_zero, List.set_cons_succ])
            refine ru_one 16 rfl (by kernel_rfl) (fun K hK => ?_)
            go_simp
            refine ru_back_late hK (by kernel_rfl) ?_
            clear hK K
            (try simp only [Act.put, List.setIfInBounds_toArray, List.set_cons_zero, List.set_cons_succ])
            refine ru_done (by kernel_rfl) ?_
            have Fn_ := F99
            (try dsimp only [List.eraseIdx_cons_succ, List.eraseIdx_cons_zero] at Fn_)
            obtain ⟨w100, hx101, F103, hxs102⟩ := Fn_.name
            (try simp at hxs102)
            rw [hx101]
            clear hx101 F99 Fn_
            go_wp2_with fail
            have F104 := F103.drew
            clear F103
            refine ru_begin (fun W => W.cell? ⟨g64, 0, none⟩ = some (.int .i64 l0.gr) ∧ W.cell? ⟨g64, 1, none⟩ = some (.int .i64 l0.la) ∧ W.cell? ⟨g64, 2, none⟩ = some (.slice sa0 l0.cov.length sc0) ∧ W.cell? ⟨g64, 3, none⟩ = some (.int .i64 l0.melt.lo) ∧ W.cell? ⟨g64, 4, none⟩ = some (.int .i64 l0.melt.hi) ∧ W.cell? ⟨g64, 5, none⟩ = some (.int .i64 l0.soak) ∧ W.cell? ⟨g64, 6, none⟩ = some (.int .i64 l0.white.lo) ∧ W.cell? ⟨g64, 7, none⟩ = some (.int .i64 l0.white.hi) ∧ W.cell? ⟨g65, 0, none⟩ = some (.int .i64 x0.bl.lo) ∧ W.cell? ⟨g65, 1, none⟩ = some (.int .i64 x0.bl.hi) ∧ W.cell? ⟨g65, 2, none⟩ = some (.int .i64 x0.wh.lo) ∧ W.cell? ⟨g65, 3, none⟩ = some (.int .i64 x0.wh.hi) ∧ W.cell? ⟨g65, 4, none⟩ = some (.int .i64 x0.we.lo) ∧ W.cell? ⟨g65, 5, none⟩ = some (.int .i64 x0.we.hi) ∧ W.cell? ⟨g65, 6, none⟩ = some (.int .i64 x0.sn.lo) ∧ W.cell? ⟨g65, 7, none⟩ = some (.int .i64 x0.sn.hi) ∧ W.cell? ⟨g66, 0, none⟩ = some (.slice da0 d0.length dc0) ∧ W.cell? ⟨g67, 0, none⟩ = some (.int .i64 need)) 23 (by kernel_rfl) ?_ ?_
            · exact ⟨F104.cl 2 0 rfl rfl, F104.cl 2 1 rfl rfl, F104.cl 2 2 rfl rfl, F104.cl 2 3 rfl rfl, F104.cl 2 4 rfl rfl, F104.cl 2 5 rfl rfl, F104.cl 2 6 rfl rfl, F104.cl 2 7 rfl rfl, F104.cl 3 0 rfl rfl, F104.cl 3 1 rfl rfl, F104.cl 3 2 rfl rfl, F104.cl 3 3 rfl rfl, F104.cl 3 4 rfl rfl, F104.cl 3 5 rfl rfl, F104.cl 3 6 rfl rfl, F104.cl 3 7 rfl rfl, F104.cl 4 0 rfl rfl, F104.cl 5 0 rfl rfl⟩
            obtain ⟨wd106, hwd_⟩ : ∃ x : World, w100.drew = x := ⟨_, rfl⟩
            rw [hwd_] at F104 ⊢
            have wd106s : w100.heap.size ≤ wd106.heap.size := by rw [← hwd_]; exact Nat.le_refl _
            clear hwd_
            have hS105 := (And.intro (F104.cl 2 0 rfl rfl) (And.intro (F104.cl 2 1 rfl rfl) (And.intro (F104.cl 2 2 rfl rfl) (And.intro (F104.cl 2 3 rfl rfl) (And.intro (F104.cl 2 4 rfl rfl) (And.intro (F104.cl 2 5 rfl rfl) (And.intro (F104.cl 2 6 rfl rfl) (And.intro (F104.cl 2 7 rfl rfl) (And.intro (F104.cl 3 0 rfl rfl) (And.intro (F104.cl 3 1 rfl rfl) (And.intro (F104.cl 3 2 rfl rfl) (And.intro (F104.cl 3 3 rfl rfl) (And.intro (F104.cl 3 4 rfl rfl) (And.intro (F104.cl 3 5 rfl rfl) (And.intro (F104.cl 3 6 rfl rfl) (And.intro (F104.cl 3 7 rfl rfl) (And.intro (F104.cl 4 0 rfl rfl) (F104.cl 5 0 rfl rfl))))))))))))))))))
            refine ru_t 0 [] ?_
            refine ru_t 1 [] ?_
            refine ru_t 2 [] ?_
            refine ru_t 3 [] ?_
            refine ru_t 4 [] ?_
            refine ru_t 5 [] ?_
            refine ru_t 6 [] ?_
            refine ru_t 7 [] ?_
            refine ru_t 8 [] ?_
            refine ru_t 9 [] ?_
            refine ru_t 10 [] ?_
            refine ru_t 11 [] ?_
            refine ru_t 12 [] ?_
            refine ru_t 13 [] ?_
            refine ru_t 14 [] ?_
            refine ru_t 15 [] ?_
            (try simp only [Act.put, List.setIfInBounds_toArray, List.set_cons_zero, List.set_cons_succ])
            clear hS105
            refine ru_one 16 rfl (by kernel_rfl) (fun K hK => ?_)
            go_simp
            refine (ready_c _ _ _ l0 x0 _ _ _ d0 need _ (F104.at 11 rfl : Sl covEnc 3 0 w.heap.size _ (.slice sa0 l0.cov.length sc0) l0.cov) (by first | omega | (simp; omega)) (F104.at 10 rfl : Sl weaEnc 6 0 w.heap.size _ (.slice da0 d0.length dc0) d0) (by first | omega | (simp; omega))).mono ?_
            rintro e w109 ⟨rfl, hg107⟩
            have hg107s := hg107.size
            (try simp at hg107s)
            have F110 := F104.gn hg107
            clear F104
            refine ru_back hK (by exact ⟨F110.cl 2 0 rfl rfl, F110.cl 2 1 rfl rfl, F110.cl 2 2 rfl rfl, F110.cl 2 3 rfl rfl, F110.cl 2 4 rfl rfl, F110.cl 2 5 rfl rfl, F110.cl 2 6 rfl rfl, F110.cl 2 7 rfl rfl, F110.cl 3 0 rfl rfl, F110.cl 3 1 rfl rfl, F110.cl 3 2 rfl rfl, F110.cl 3 3 rfl rfl, F110.cl 3 4 rfl rfl, F110.cl 3 5 rfl rfl, F110.cl 3 6 rfl rfl, F110.cl 3 7 rfl rfl, F110.cl 4 0 rfl rfl, F110.cl 5 0 rfl rfl⟩) (fun hHeld => ?_)
            clear hK K
            (try simp only [Act.put, List.setIfInBounds_toArray, List.set_cons_zero, List.set_cons_succ])
            refine ru_p 17 ?_
            (try simp only [Act.put, List.setIfInBounds_toArray, List.set_cons_zero, List.set_cons_succ])
            refine ru_p 18 ?_
            refine ru_p 19 ?_
            refine ru_p 20 ?_
            (try simp only [Act.put, List.setIfInBounds_toArray, List.set_cons_zero, List.set_cons_succ])
            refine ru_p 21 ?_
            (try simp only [Act.put, List.setIfInBounds_toArray, List.set_cons_zero, List.set_cons_succ])
            refine ru_p 22 ?_
            (try simp only [Act.put, List.setIfInBounds_toArray, List.set_cons_zero, List.set_cons_succ])
            refine ru_one 23 rfl (by kernel_rfl) (fun K hK => ?_)
            go_simp
            refine ru_back_late hK (by kernel_rfl) ?_
            clear hK K
            (try simp only [Act.put, List.setIfInBounds_toArray, List.set_cons_zero, List.set_cons_succ])
            refine ru_done (by kernel_rfl) ?_
            have Fn_ := F110
            (try dsimp only [List.eraseIdx_cons_succ, List.eraseIdx_cons_zero] at Fn_)
            obtain ⟨w111, hx112, F114, hxs113⟩ := Fn_.name
            (try simp at hxs113)
            rw [hx112]
            clear hx112 F110 Fn_
            go_wp2_with fail
            have F115 := F114.drew
            clear F114
            refine ru_begin (fun W => W.cell? ⟨g64, 0, none⟩ = some (.int .i64 l0.gr) ∧ W.cell? ⟨g64, 1, none⟩ = some (.int .i64 l0.la) ∧ W.cell? ⟨g64, 2, none⟩ = some (.slice sa0 l0.cov.length sc0) ∧ W.cell? ⟨g64, 3, none⟩ = some (.int .i64 l0.melt.lo) ∧ W.cell? ⟨g64, 4, none⟩ = some (.int .i64 l0.melt.hi) ∧ W.cell? ⟨g64, 5, none⟩ = some (.int .i64 l0.soak) ∧ W.cell? ⟨g64, 6, none⟩ = some (.int .i64 l0.white.lo) ∧ W.cell? ⟨g64, 7, none⟩ = some (.int .i64 l0.white.hi) ∧ W.cell? ⟨g65, 0, none⟩ = some (.int .i64 x0.bl.lo) ∧ W.cell? ⟨g65, 1, none⟩ = some (.int .i64 x0.bl.hi) ∧ W.cell? ⟨g65, 2, none⟩ = some (.int .i64 x0.wh.lo) ∧ W.cell? ⟨g65, 3, none⟩ = some (.int .i64 x0.wh.hi) ∧ W.cell? ⟨g65, 4, none⟩ = some (.int .i64 x0.we.lo) ∧ W.cell? ⟨g65, 5, none⟩ = some (.int .i64 x0.we.hi) ∧ W.cell? ⟨g65, 6, none⟩ = some (.int .i64 x0.sn.lo) ∧ W.cell? ⟨g65, 7, none⟩ = some (.int .i64 x0.sn.hi) ∧ W.cell? ⟨g66, 0, none⟩ = some (.slice da0 d0.length dc0) ∧ W.cell? ⟨g67, 0, none⟩ = some (.int .i64 need)) 23 (by kernel_rfl) ?_ ?_
            · exact ⟨F115.cl 2 0 rfl rfl, F115.cl 2 1 rfl rfl, F115.cl 2 2 rfl rfl, F115.cl 2 3 rfl rfl, F115.cl 2 4 rfl rfl, F115.cl 2 5 rfl rfl, F115.cl 2 6 rfl rfl, F115.cl 2 7 rfl rfl, F115.cl 3 0 rfl rfl, F115.cl 3 1 rfl rfl, F115.cl 3 2 rfl rfl, F115.cl 3 3 rfl rfl, F115.cl 3 4 rfl rfl, F115.cl 3 5 rfl rfl, F115.cl 3 6 rfl rfl, F115.cl 3 7 rfl rfl, F115.cl 4 0 rfl rfl, F115.cl 5 0 rfl rfl⟩
            obtain ⟨wd117, hwd_⟩ : ∃ x : World, w111.drew = x := ⟨_, rfl⟩
            rw [hwd_] at F115 ⊢
            have wd117s : w111.heap.size ≤ wd117.heap.size := by rw [← hwd_]; exact Nat.le_refl _
            clear hwd_
            have hS116 := (And.intro (F115.cl 2 0 rfl rfl) (And.intro (F115.cl 2 1 rfl rfl) (And.intro (F115.cl 2 2 rfl rfl) (And.intro (F115.cl 2 3 rfl rfl) (And.intro (F115.cl 2 4 rfl rfl) (And.intro (F115.cl 2 5 rfl rfl) (And.intro (F115.cl 2 6 rfl rfl) (And.intro (F115.cl 2 7 rfl rfl) (And.intro (F115.cl 3 0 rfl rfl) (And.intro (F115.cl 3 1 rfl rfl) (And.intro (F115.cl 3 2 rfl rfl) (And.intro (F115.cl 3 3 rfl rfl) (And.intro (F115.cl 3 4 rfl rfl) (And.intro (F115.cl 3 5 rfl rfl) (And.intro (F115.cl 3 6 rfl rfl) (And.intro (F115.cl 3 7 rfl rfl) (And.intro (F115.cl 4 0 rfl rfl) (F115.cl 5 0 rfl rfl))))))))))))))))))
            refine ru_t 0 [] ?_
            refine ru_t 1 [] ?_
            refine ru_t 2 [] ?_
            refine ru_t 3 [] ?_
            refine ru_t 4 [] ?_
            refine ru_t 5 [] ?_
            refine ru_t 6 [] ?_
            refine ru_t 7 [] ?_
            refine ru_t 8 [] ?_
            refine ru_t 9 [] ?_
            refine ru_t 10 [] ?_
            refine ru_t 11 [] ?_
            refine ru_t 12 [] ?_
            refine ru_t 13 [] ?_
            refine ru_t 14 [] ?_
            refine ru_t 15 [] ?_
            (try simp only [Act.put, List.setIfInBounds_toArray, List.set_cons_zero, List.set_cons_succ])
            clear hS116
            refine ru_one 16 rfl (by kernel_rfl) (fun K hK => ?_)
            go_simp
            refine (rready_c _ _ _ l0 x0 _ _ _ d0 need _ (F115.at 11 rfl : Sl covEnc 3 0 w.heap.size _ (.slice sa0 l0.cov.length sc0) l0.cov) (by first | omega | (simp; omega)) (F115.at 10 rfl : Sl weaEnc 6 0 w.heap.size _ (.slice da0 d0.length dc0) d0) (by first | omega | (simp; omega))).mono ?_
            rintro e w120 ⟨rfl, hg118⟩
            have hg118s := hg118.size
            (try simp at hg118s)
            have F121 := F115.gn hg118
            clear F115
            refine ru_back hK (by exact ⟨F121.cl 2 0 rfl rfl, F121.cl 2 1 rfl rfl, F121.cl 2 2 rfl rfl, F121.cl 2 3 rfl rfl, F121.cl 2 4 rfl rfl, F121.cl 2 5 rfl rfl, F121.cl 2 6 rfl rfl, F121.cl 2 7 rfl rfl, F121.cl 3 0 rfl rfl, F121.cl 3 1 rfl rfl, F121.cl 3 2 rfl rfl, F121.cl 3 3 rfl rfl, F121.cl 3 4 rfl rfl, F121.cl 3 5 rfl rfl, F121.cl 3 6 rfl rfl, F121.cl 3 7 rfl rfl, F121.cl 4 0 rfl rfl, F121.cl 5 0 rfl rfl⟩) (fun hHeld => ?_)
            clear hK K
            (try simp only [Act.put, List.setIfInBounds_toArray, List.set_cons_zero, List.set_cons_succ])
            refine ru_p 17 ?_
            (try simp only [Act.put, List.setIfInBounds_toArray, List.set_cons_zero, List.set_cons_succ])
            refine ru_p 18 ?_
            refine ru_p 19 ?_
            refine ru_p 20 ?_
            (try simp only [Act.put, List.setIfInBounds_toArray, List.set_cons_zero, List.set_cons_succ])
            refine ru_p 21 ?_
            (try simp only [Act.put, List.setIfInBounds_toArray, List.set_cons_zero, List.set_cons_succ])
            refine ru_p 22 ?_
            (try simp only [Act.put, List.setIfInBounds_toArray, List.set_cons_zero, List.set_cons_succ])
            refine ru_one 23 rfl (by kernel_rfl) (fun K hK => ?_)
            go_simp
            refine ru_back_late hK (by kernel_rfl) ?_
            clear hK K
            (try simp only [Act.put, List.setIfInBounds_toArray, List.set_cons_zero, List.set_cons_succ])
            refine ru_done (by kernel_rfl) ?_
            have Fn_ := F121
            (try dsimp only [List.eraseIdx_cons_succ, List.eraseIdx_cons_zero] at Fn_)
            obtain ⟨w122, hx123, F125, hxs124⟩ := Fn_.name
            (try simp at hxs124)
            rw [hx123]
            clear hx123 F121 Fn_
            have b126 := F125.bx2 0 rfl
            have b127 := F125.bx2 1 rfl
            go_wp2_with fail
            clear b126 b127
            rw [rounds_succ]
            go_wp2_with fail
            have F128 := F125.drew
            clear F125
            refine ru_begin (fun W => W.cell? ⟨g64, 8, none⟩ = some (.int .i64 l.gr) ∧ W.cell? ⟨g64, 9, none⟩ = some (.int .i64 l.la) ∧ W.cell? ⟨g64, 10, none⟩ = some (.slice sal l.cov.length scl) ∧ W.cell? ⟨g64, 11, none⟩ = some (.int .i64 l.melt.lo) ∧ W.cell? ⟨g64, 12, none⟩ = some (.int .i64 l.melt.hi) ∧ W.cell? ⟨g64, 13, none⟩ = some (.int .i64 l.soak) ∧ W.cell? ⟨g64, 14, none⟩ = some (.int .i64 l.white.lo) ∧ W.cell? ⟨g64, 15, none⟩ = some (.int .i64 l.white.hi) ∧ W.cell? ⟨g65, 8, none⟩ = some (.int .i64 ic.bl.lo) ∧ W.cell? ⟨g65, 9, none⟩ = some (.int .i64 ic.bl.hi) ∧ W.cell? ⟨g65, 10, none⟩ = some (.int .i64 ic.wh.lo) ∧ W.cell? ⟨g65, 11, none⟩ = some (.int .i64 ic.wh.hi) ∧ W.cell? ⟨g65, 12, none⟩ = some (.int .i64 ic.we.lo) ∧ W.cell? ⟨g65, 13, none⟩ = some (.int .i64 ic.we.hi) ∧ W.cell? ⟨g65, 14, none⟩ = some (.int .i64 ic.sn.lo) ∧ W.cell? ⟨g65, 15, none⟩ = some (.int .i64 ic.sn.hi)) 14 (by kernel_rfl) ?_ ?_
            · exact ⟨F128.cl 2 8 rfl rfl, F128.cl 2 9 rfl rfl, F128.cl 2 10 rfl rfl, F128.cl 2 11 rfl rfl, F128.cl 2 12 rfl rfl, F128.cl 2 13 rfl rfl, F128.cl 2 14 rfl rfl, F128.cl 2 15 rfl rfl, F128.cl 3 8 rfl rfl, F128.cl 3 9 rfl rfl, F128.cl 3 10 rfl rfl, F128.cl 3 11 rfl rfl, F128.cl 3 12 rfl rfl, F128.cl 3 13 rfl rfl, F128.cl 3 14 rfl rfl, F128.cl 3 15 rfl rfl⟩
            obtain ⟨wd130, hwd_⟩ : ∃ x : World, w122.drew = x := ⟨_, rfl⟩
            rw [hwd_] at F128 ⊢
            have wd130s : w122.heap.size ≤ wd130.heap.size := by rw [← hwd_]; exact Nat.le_refl _
            clear hwd_
            have hS129 := (And.intro (F128.cl 2 8 rfl rfl) (And.intro (F128.cl 2 9 rfl rfl) (And.intro (F128.cl 2 10 rfl rfl) (And.intro (F128.cl 2 11 rfl rfl) (And.intro (F128.cl 2 12 rfl rfl) (And.intro (F128.cl 2 13 rfl rfl) (And.intro (F128.cl 2 14 rfl rfl) (And.intro (F128.cl 2 15 rfl rfl) (And.intro (F128.cl 3 8 rfl rfl) (And.intro (F128.cl 3 9 rfl rfl) (And.intro (F128.cl 3 10 rfl rfl) (And.intro (F128.cl 3 11 rfl rfl) (And.intro (F128.cl 3 12 rfl rfl) (And.intro (F128.cl 3 13 rfl rfl) (And.intro (F128.cl 3 14 rfl rfl) (F128.cl 3 15 rfl rfl))))))))))))))))
            refine ru_t 0 [] ?_
            refine ru_t 1 [] ?_
            refine ru_t 2 [] ?_
            refine ru_t 3 [] ?_
            refine ru_t 4 [] ?_
            refine ru_t 5 [] ?_
            refine ru_t 6 [] ?_
            refine ru_t 7 [] ?_
            (try simp only [Act.put, List.setIfInBounds_toArray, List.set_cons_zero, List.set_cons_succ])
            clear hS129
            have hSS := ru_hS F128 (S := fun W => W.cell? ⟨g64, 8, none⟩ = some (.int .i64 l.gr) ∧ W.cell? ⟨g64, 9, none⟩ = some (.int .i64 l.la) ∧ W.cell? ⟨g64, 10, none⟩ = some (.slice sal l.cov.length scl) ∧ W.cell? ⟨g64, 11, none⟩ = some (.int .i64 l.melt.lo) ∧ W.cell? ⟨g64, 12, none⟩ = some (.int .i64 l.melt.hi) ∧ W.cell? ⟨g64, 13, none⟩ = some (.int .i64 l.soak) ∧ W.cell? ⟨g64, 14, none⟩ = some (.int .i64 l.white.lo) ∧ W.cell? ⟨g64, 15, none⟩ = some (.int .i64 l.white.hi) ∧ W.cell? ⟨g65, 8, none⟩ = some (.int .i64 ic.bl.lo) ∧ W.cell? ⟨g65, 9, none⟩ = some (.int .i64 ic.bl.hi) ∧ W.cell? ⟨g65, 10, none⟩ = some (.int .i64 ic.wh.lo) ∧ W.cell? ⟨g65, 11, none⟩ = some (.int .i64 ic.wh.hi) ∧ W.cell? ⟨g65, 12, none⟩ = some (.int .i64 ic.we.lo) ∧ W.cell? ⟨g65, 13, none⟩ = some (.int .i64 ic.we.hi) ∧ W.cell? ⟨g65, 14, none⟩ = some (.int .i64 ic.sn.lo) ∧ W.cell? ⟨g65, 15, none⟩ = some (.int .i64 ic.sn.hi)) (fun _ _ F_ => ⟨F_.cl 2 8 rfl rfl, F_.cl 2 9 rfl rfl, F_.cl 2 10 rfl rfl, F_.cl 2 11 rfl rfl, F_.cl 2 12 rfl rfl, F_.cl 2 13 rfl rfl, F_.cl 2 14 rfl rfl, F_.cl 2 15 rfl rfl, F_.cl 3 8 rfl rfl, F_.cl 3 9 rfl rfl, F_.cl 3 10 rfl rfl, F_.cl 3 11 rfl rfl, F_.cl 3 12 rfl rfl, F_.cl 3 13 rfl rfl, F_.cl 3 14 rfl rfl, F_.cl 3 15 rfl rfl⟩)
            refine ru_mixS 200 [⟨13, 23, 27, fun t => #[.int .i64 0, .int .i64 0], ptrOf, fun t => True⟩] [] [8, 9, 10, 11, 12] 3 F128 (by kernel_rfl) (by kernel_rfl) (fun _ _ _ _ _ h => h) (U0 := (fun t => t 18 = .slice (some ⟨g64, 0, none⟩) 3 3 ∧ t 19 = .slice (some ⟨g65, 0, none⟩) 3 3 ∧ t 20 = .slice (some ⟨g66, 0, none⟩) 3 3 ∧ t 21 = .slice (some ⟨g67, 0, none⟩) 3 3 ∧ t 22 = .int .i64 1 ∧ t 107 = .agg (froC l (.slice sal l.cov.length scl)) ∧ t 111 = .agg (iceC ic) ∧ t 175 = .int .i64 (bearS l0 x0) ∧ t 176 = .int .i64 (bearS l0 x0) ∧ t 177 = .bool false ∧ t 180 = .int .i64 (allE l0 x0 []) ∧ t 181 = .int .i64 (allE l0 x0 []) ∧ t 182 = .bool false ∧ t 185 = .int .i64 (readyS l0 x0 d0 need) ∧ t 186 = .int .i64 (readyS l0 x0 d0 need) ∧ t 187 = .bool false ∧ t 190 = .int .i64 (readyP l0 x0 d0 need) ∧ t 191 = .int .i64 (readyP l0 x0 d0 need) ∧ t 192 = .bool false ∧ t 195 = .int .i64 (readyE l0 x0 d0 need) ∧ t 196 = .int .i64 (readyE l0 x0 d0 need) ∧ t 197 = .bool false)) (Um := (fun t => t 18 = .slice (some ⟨g64, 0, none⟩) 3 3 ∧ t 19 = .slice (some ⟨g65, 0, none⟩) 3 3 ∧ t 20 = .slice (some ⟨g66, 0, none⟩) 3 3 ∧ t 21 = .slice (some ⟨g67, 0, none⟩) 3 3 ∧ t 22 = .int .i64 1 ∧ t 113 = .agg #[.int .i64 ((bearT l ic).lo), .int .i64 ((bearT l ic).hi)] ∧ t 114 = .int .i64 (bearS l ic) ∧ t 115 = .int .i64 (allE l ic []) ∧ t 175 = .int .i64 (bearS l0 x0) ∧ t 176 = .int .i64 (bearS l0 x0) ∧ t 177 = .bool false ∧ t 180 = .int .i64 (allE l0 x0 []) ∧ t 181 = .int .i64 (allE l0 x0 []) ∧ t 182 = .bool false ∧ t 185 = .int .i64 (readyS l0 x0 d0 need) ∧ t 186 = .int .i64 (readyS l0 x0 d0 need) ∧ t 187 = .bool false ∧ t 190 = .int .i64 (readyP l0 x0 d0 need) ∧ t 191 = .int .i64 (readyP l0 x0 d0 need) ∧ t 192 = .bool false ∧ t 195 = .int .i64 (readyE l0 x0 d0 need) ∧ t 196 = .int .i64 (readyE l0 x0 d0 need) ∧ t 197 = .bool false)) ?chM131 ?alM131 ?mvM131 (List.forall_mem_cons.2 ⟨List.forall_mem_cons.2 ⟨fun _ _ => rfl, fun _ h => (by cases h)⟩, fun _ h => (by cases h)⟩) ⟨(by kernel_rfl), rfl, ⟨(by kernel_rfl), (by kernel_rfl), (by kernel_rfl), (by kernel_rfl), (by kernel_rfl), (by kernel_rfl), (by kernel_rfl), (by kernel_rfl), (by kernel_rfl), (by kernel_rfl), (by kernel_rfl), (by kernel_rfl), (by kernel_rfl), (by kernel_rfl), (by kernel_rfl), (by kernel_rfl), (by kernel_rfl), (by kernel_rfl), (by kernel_rfl), (by kernel_rfl), (by kernel_rfl), (by kernel_rfl)⟩⟩ ?restM131
            case chM131 =>
              refine ChainL.callS 8 (fun t => t 18 = .slice (some ⟨g64, 0, none⟩) 3 3 ∧ t 19 = .slice (some ⟨g65, 0, none⟩) 3 3 ∧ t 20 = .slice (some ⟨g66, 0, none⟩) 3 3 ∧ t 21 = .slice (some ⟨g67, 0, none⟩) 3 3 ∧ t 22 = .int .i64 1 ∧ t 112 = .tuple #[.agg #[.int .i64 ((bearT l ic).lo), .int .i64 ((bearT l ic).hi)], .int .i64 (bearS l ic), .int .i64 (allE l ic [])] ∧ t 175 = .int .i64 (bearS l0 x0) ∧ t 176 = .int .i64 (bearS l0 x0) ∧ t 177 = .bool false ∧ t 180 = .int .i64 (allE l0 x0 []) ∧ t 181 = .int .i64 (allE l0 x0 []) ∧ t 182 = .bool false ∧ t 185 = .int .i64 (readyS l0 x0 d0 need) ∧ t 186 = .int .i64 (readyS l0 x0 d0 need) ∧ t 187 = .bool false ∧ t 190 = .int .i64 (readyP l0 x0 d0 need) ∧ t 191 = .int .i64 (readyP l0 x0 d0 need) ∧ t 192 = .bool false ∧ t 195 = .int .i64 (readyE l0 x0 d0 need) ∧ t 196 = .int .i64 (readyE l0 x0 d0 need) ∧ t 197 = .bool false) (List.forall_mem_cons.2 ⟨fun _ _ u => u, fun _ h => (by cases h)⟩) hSS (List.forall_mem_cons.2 ⟨fun _ t ⟨e18, e19, e20, e21, e22, e107, e111, e175, e176, e177, e180, e181, e182, e185, e186, e187, e190, e191, e192, e195, e196, e197⟩ => trivial, fun _ h => (by cases h)⟩) (by kernel_rfl) ?_ ?_
              · rintro t w_ LA ⟨e18, e19, e20, e21, e22, e107, e111, e175, e176, e177, e180, e181, e182, e185, e186, e187, e190, e191, e192, e195, e196, e197⟩ ⟨F_, hwn_⟩
                have hws := F_.gb.size
                rw [rng_bears_walk t, e18, e19, e20, e21, e22, e107, e111, e175, e176, e177, e180, e181, e182, e185, e186, e187, e190, e191, e192, e195, e196, e197]
                clear e18 e19 e20 e21 e22 e107 e111 e175 e176 e177 e180 e181 e182 e185 e186 e187 e190 e191 e192 e195 e196 e197
                refine wpOp_stepH rfl (fun K hK => ?_)
                go_simp
                refine (bearing_c _ _ _ l ic _ (F_.at 8 rfl : Sl covEnc 3 lo_l hi_l _ (.slice sal l.cov.length scl) l.cov) (by first | omega | (simp; omega))).mono ?_
                rintro e w132 ⟨rfl, hg133⟩
                exact hK.out _ _ ⟨(by kernel_rfl), rfl, ⟨(by kernel_rfl), (by kernel_rfl), (by kernel_rfl), (by kernel_rfl), (by kernel_rfl), (by kernel_rfl), (by kernel_rfl), (by kernel_rfl), (by kernel_rfl), (by kernel_rfl), (by kernel_rfl), (by kernel_rfl), (by kernel_rfl), (by kernel_rfl), (by kernel_rfl), (by kernel_rfl), (by kernel_rfl), (by kernel_rfl), (by kernel_rfl), (by kernel_rfl), (by kernel_rfl)⟩, List.forall_mem_cons.2 ⟨(by kernel_rfl), fun _ h => (by cases h)⟩, List.forall_mem_cons.2 ⟨fun _ => (by kernel_rfl), fun _ h => (by cases h)⟩, ⟨F_.gn hg133, Nat.le_trans hwn_ hg133.size⟩, hSS _ _ ⟨F_.gn hg133, Nat.le_trans hwn_ hg133.size⟩⟩
              refine ChainL.pureS 9 (fun t => t 18 = .slice (some ⟨g64, 0, none⟩) 3 3 ∧ t 19 = .slice (some ⟨g65, 0, none⟩) 3 3 ∧ t 20 = .slice (some ⟨g66, 0, none⟩) 3 3 ∧ t 21 = .slice (some ⟨g67, 0, none⟩) 3 3 ∧ t 22 = .int .i64 1 ∧ t 103 = .tuple #[.agg #[.int .i64 ((bearT l ic).lo), .int .i64 ((bearT l ic).hi)], .int .i64 (bearS l ic), .int .i64 (allE l ic [])] ∧ t 175 = .int .i64 (bearS l0 x0) ∧ t 176 = .int .i64 (bearS l0 x0) ∧ t 177 = .bool false ∧ t 180 = .int .i64 (allE l0 x0 []) ∧ t 181 = .int .i64 (allE l0 x0 []) ∧ t 182 = .bool false ∧ t 185 = .int .i64 (readyS l0 x0 d0 need) ∧ t 186 = .int .i64 (readyS l0 x0 d0 need) ∧ t 187 = .bool false ∧ t 190 = .int .i64 (readyP l0 x0 d0 need) ∧ t 191 = .int .i64 (readyP l0 x0 d0 need) ∧ t 192 = .bool false ∧ t 195 = .int .i64 (readyE l0 x0 d0 need) ∧ t 196 = .int .i64 (readyE l0 x0 d0 need) ∧ t 197 = .bool false) rfl (List.forall_mem_cons.2 ⟨fun _ _ u => u, fun _ h => (by cases h)⟩) hSS (List.forall_mem_cons.2 ⟨fun _ t ⟨e18, e19, e20, e21, e22, e112, e175, e176, e177, e180, e181, e182, e185, e186, e187, e190, e191, e192, e195, e196, e197⟩ => trivial, fun _ h => (by cases h)⟩) (by kernel_rfl) ?_ ?_
              · rintro t ⟨e18, e19, e20, e21, e22, e112, e175, e176, e177, e180, e181, e182, e185, e186, e187, e190, e191, e192, e195, e196, e197⟩
                rw [rng_bears_walk t, e18, e19, e20, e21, e22, e112, e175, e176, e177, e180, e181, e182, e185, e186, e187, e190, e191, e192, e195, e196, e197]
                clear e18 e19 e20 e21 e22 e112 e175 e176 e177 e180 e181 e182 e185 e186 e187 e190 e191 e192 e195 e196 e197
                refine ⟨.tuple #[.agg #[.int .i64 ((bearT l ic).lo), .int .i64 ((bearT l ic).hi)], .int .i64 (bearS l ic), .int .i64 (allE l ic [])], .inl ⟨by first | kernel_rfl | rfl, ?_⟩, ⟨(by kernel_rfl), rfl⟩, ⟨(by kernel_rfl), (by kernel_rfl), (by kernel_rfl), (by kernel_rfl), (by kernel_rfl), (by kernel_rfl), (by kernel_rfl), (by kernel_rfl), (by kernel_rfl), (by kernel_rfl), (by kernel_rfl), (by kernel_rfl), (by kernel_rfl), (by kernel_rfl), (by kernel_rfl), (by kernel_rfl), (by kernel_rfl), (by kernel_rfl), (by kernel_rfl), (by kernel_rfl), (by kernel_rfl)⟩, List.forall_mem_cons.2 ⟨(by kernel_rfl), fun _ h => (by cases h)⟩, List.forall_mem_cons.2 ⟨fun _ => (by kernel_rfl), fun _ h => (by cases h)⟩⟩
                intro wS _
                go_simp
                (try with_reducible rfl)
              refine ChainL.pureS 10 (fun t => t 18 = .slice (some ⟨g64, 0, none⟩) 3 3 ∧ t 19 = .slice (some ⟨g65, 0, none⟩) 3 3 ∧ t 20 = .slice (some ⟨g66, 0, none⟩) 3 3 ∧ t 21 = .slice (some ⟨g67, 0, none⟩) 3 3 ∧ t 22 = .int .i64 1 ∧ t 103 = .tuple #[.agg #[.int .i64 ((bearT l ic).lo), .int .i64 ((bearT l ic).hi)], .int .i64 (bearS l ic), .int .i64 (allE l ic [])] ∧ t 113 = .agg #[.int .i64 ((bearT l ic).lo), .int .i64 ((bearT l ic).hi)] ∧ t 175 = .int .i64 (bearS l0 x0) ∧ t 176 = .int .i64 (bearS l0 x0) ∧ t 177 = .bool false ∧ t 180 = .int .i64 (allE l0 x0 []) ∧ t 181 = .int .i64 (allE l0 x0 []) ∧ t 182 = .bool false ∧ t 185 = .int .i64 (readyS l0 x0 d0 need) ∧ t 186 = .int .i64 (readyS l0 x0 d0 need) ∧ t 187 = .bool false ∧ t 190 = .int .i64 (readyP l0 x0 d0 need) ∧ t 191 = .int .i64 (readyP l0 x0 d0 need) ∧ t 192 = .bool false ∧ t 195 = .int .i64 (readyE l0 x0 d0 need) ∧ t 196 = .int .i64 (readyE l0 x0 d0 need) ∧ t 197 = .bool false) rfl (List.forall_mem_cons.2 ⟨fun _ _ u => u, fun _ h => (by cases h)⟩) hSS (List.forall_mem_cons.2 ⟨fun _ t ⟨e18, e19, e20, e21, e22, e103, e175, e176, e177, e180, e181, e182, e185, e186, e187, e190, e191, e192, e195, e196, e197⟩ => trivial, fun _ h => (by cases h)⟩) (by kernel_rfl) ?_ ?_
              · rintro t ⟨e18, e19, e20, e21, e22, e103, e175, e176, e177, e180, e181, e182, e185, e186, e187, e190, e191, e192, e195, e196, e197⟩
                rw [rng_bears_walk t, e18, e19, e20, e21, e22, e103, e175, e176, e177, e180, e181, e182, e185, e186, e187, e190, e191, e192, e195, e196, e197]
                clear e18 e19 e20 e21 e22 e103 e175 e176 e177 e180 e181 e182 e185 e186 e187 e190 e191 e192 e195 e196 e197
                refine ⟨.agg #[.int .i64 ((bearT l ic).lo), .int .i64 ((bearT l ic).hi)], .inl ⟨by first | kernel_rfl | rfl, ?_⟩, ⟨(by kernel_rfl), rfl⟩, ⟨(by kernel_rfl), (by kernel_rfl), (by kernel_rfl), (by kernel_rfl), (by kernel_rfl), (by kernel_rfl), (by kernel_rfl), (by kernel_rfl), (by kernel_rfl), (by kernel_rfl), (by kernel_rfl), (by kernel_rfl), (by kernel_rfl), (by kernel_rfl), (by kernel_rfl), (by kernel_rfl), (by kernel_rfl), (by kernel_rfl), (by kernel_rfl), (by kernel_rfl), (by kernel_rfl), (by kernel_rfl)⟩, List.forall_mem_cons.2 ⟨(by kernel_rfl), fun _ h => (by cases h)⟩, List.forall_mem_cons.2 ⟨fun _ => (by kernel_rfl), fun _ h => (by cases h)⟩⟩
                intro wS _
                go_simp
                (try with_reducible rfl)
              refine ChainL.pureS 11 (fun t => t 18 = .slice (some ⟨g64, 0, none⟩) 3 3 ∧ t 19 = .slice (some ⟨g65, 0, none⟩) 3 3 ∧ t 20 = .slice (some ⟨g66, 0, none⟩) 3 3 ∧ t 21 = .slice (some ⟨g67, 0, none⟩) 3 3 ∧ t 22 = .int .i64 1 ∧ t 103 = .tuple #[.agg #[.int .i64 ((bearT l ic).lo), .int .i64 ((bearT l ic).hi)], .int .i64 (bearS l ic), .int .i64 (allE l ic [])] ∧ t 113 = .agg #[.int .i64 ((bearT l ic).lo), .int .i64 ((bearT l ic).hi)] ∧ t 114 = .int .i64 (bearS l ic) ∧ t 175 = .int .i64 (bearS l0 x0) ∧ t 176 = .int .i64 (bearS l0 x0) ∧ t 177 = .bool false ∧ t 180 = .int .i64 (allE l0 x0 []) ∧ t 181 = .int .i64 (allE l0 x0 []) ∧ t 182 = .bool false ∧ t 185 = .int .i64 (readyS l0 x0 d0 need) ∧ t 186 = .int .i64 (readyS l0 x0 d0 need) ∧ t 187 = .bool false ∧ t 190 = .int .i64 (readyP l0 x0 d0 need) ∧ t 191 = .int .i64 (readyP l0 x0 d0 need) ∧ t 192 = .bool false ∧ t 195 = .int .i64 (readyE l0 x0 d0 need) ∧ t 196 = .int .i64 (readyE l0 x0 d0 need) ∧ t 197 = .bool false) rfl (List.forall_mem_cons.2 ⟨fun _ _ u => u, fun _ h => (by cases h)⟩) hSS (List.forall_mem_cons.2 ⟨fun _ t ⟨e18, e19, e20, e21, e22, e103, e113, e175, e176, e177, e180, e181, e182, e185, e186, e187, e190, e191, e192, e195, e196, e197⟩ => trivial, fun _ h => (by cases h)⟩) (by kernel_rfl) ?_ ?_
              · rintro t ⟨e18, e19, e20, e21, e22, e103, e113, e175, e176, e177, e180, e181, e182, e185, e186, e187, e190, e191, e192, e195, e196, e197⟩
                rw [rng_bears_walk t, e18, e19, e20, e21, e22, e103, e113, e175, e176, e177, e180, e181, e182, e185, e186, e187, e190, e191, e192, e195, e196, e197]
                clear e18 e19 e20 e21 e22 e103 e113 e175 e176 e177 e180 e181 e182 e185 e186 e187 e190 e191 e192 e195 e196 e197
                refine ⟨.int .i64 (bearS l ic), .inl ⟨by first | kernel_rfl | rfl, ?_⟩, ⟨(by kernel_rfl), rfl⟩, ⟨(by kernel_rfl), (by kernel_rfl), (by kernel_rfl), (by kernel_rfl), (by kernel_rfl), (by kernel_rfl), (by kernel_rfl), (by kernel_rfl), (by kernel_rfl), (by kernel_rfl), (by kernel_rfl), (by kernel_rfl), (by kernel_rfl), (by kernel_rfl), (by kernel_rfl), (by kernel_rfl), (by kernel_rfl), (by kernel_rfl), (by kernel_rfl), (by kernel_rfl), (by kernel_rfl), (by kernel_rfl), (by kernel_rfl)⟩, List.forall_mem_cons.2 ⟨(by kernel_rfl), fun _ h => (by cases h)⟩, List.forall_mem_cons.2 ⟨fun _ => (by kernel_rfl), fun _ h => (by cases h)⟩⟩
                intro wS _
                go_simp
                (try with_reducible rfl)
              refine ChainL.pureS 12 (fun t => t 18 = .slice (some ⟨g64, 0, none⟩) 3 3 ∧ t 19 = .slice (some ⟨g65, 0, none⟩) 3 3 ∧ t 20 = .slice (some ⟨g66, 0, none⟩) 3 3 ∧ t 21 = .slice (some ⟨g67, 0, none⟩) 3 3 ∧ t 22 = .int .i64 1 ∧ t 113 = .agg #[.int .i64 ((bearT l ic).lo), .int .i64 ((bearT l ic).hi)] ∧ t 114 = .int .i64 (bearS l ic) ∧ t 115 = .int .i64 (allE l ic []) ∧ t 175 = .int .i64 (bearS l0 x0) ∧ t 176 = .int .i64 (bearS l0 x0) ∧ t 177 = .bool false ∧ t 180 = .int .i64 (allE l0 x0 []) ∧ t 181 = .int .i64 (allE l0 x0 []) ∧ t 182 = .bool false ∧ t 185 = .int .i64 (readyS l0 x0 d0 need) ∧ t 186 = .int .i64 (readyS l0 x0 d0 need) ∧ t 187 = .bool false ∧ t 190 = .int .i64 (readyP l0 x0 d0 need) ∧ t 191 = .int .i64 (readyP l0 x0 d0 need) ∧ t 192 = .bool false ∧ t 195 = .int .i64 (readyE l0 x0 d0 need) ∧ t 196 = .int .i64 (readyE l0 x0 d0 need) ∧ t 197 = .bool false) rfl (List.forall_mem_cons.2 ⟨fun _ _ u => u, fun _ h => (by cases h)⟩) hSS (List.forall_mem_cons.2 ⟨fun _ t ⟨e18, e19, e20, e21, e22, e103, e113, e114, e175, e176, e177, e180, e181, e182, e185, e186, e187, e190, e191, e192, e195, e196, e197⟩ => trivial, fun _ h => (by cases h)⟩) (by kernel_rfl) ?_ ?_
              · rintro t ⟨e18, e19, e20, e21, e22, e103, e113, e114, e175, e176, e177, e180, e181, e182, e185, e186, e187, e190, e191, e192, e195, e196, e197⟩
                rw [rng_bears_walk t, e18, e19, e20, e21, e22, e103, e113, e114, e175, e176, e177, e180, e181, e182, e185, e186, e187, e190, e191, e192, e195, e196, e197]
                clear e18 e19 e20 e21 e22 e103 e113 e114 e175 e176 e177 e180 e181 e182 e185 e186 e187 e190 e191 e192 e195 e196 e197
                refine ⟨.int .i64 (allE l ic []), .inl ⟨by first | kernel_rfl | rfl, ?_⟩, ⟨(by kernel_rfl), rfl⟩, ⟨(by kernel_rfl), (by kernel_rfl), (by kernel_rfl), (by kernel_rfl), (by kernel_rfl), (by kernel_rfl), (by kernel_rfl), (by kernel_rfl), (by kernel_rfl), (by kernel_rfl), (by kernel_rfl), (by kernel_rfl), (by kernel_rfl), (by kernel_rfl), (by kernel_rfl), (by kernel_rfl), (by kernel_rfl), (by kernel_rfl), (by kernel_rfl), (by kernel_rfl), (by kernel_rfl), (by kernel_rfl), (by kernel_rfl)⟩, List.forall_mem_cons.2 ⟨(by kernel_rfl), fun _ h => (by cases h)⟩, List.forall_mem_cons.2 ⟨fun _ => (by kernel_rfl), fun _ h => (by cases h)⟩⟩
                intro wS _
                go_simp
                (try with_reducible rfl)
              exact ChainL.nil _ _ _ (List.forall_mem_cons.2 ⟨fun _ _ u => u, fun _ h => (by cases h)⟩) hSS (List.forall_mem_cons.2 ⟨fun _ t ⟨e18, e19, e20, e21, e22, e113, e114, e115, e175, e176, e177, e180, e181, e182, e185, e186, e187, e190, e191, e192, e195, e196, e197⟩ => trivial, fun _ h => (by cases h)⟩)
            case alM131 =>
              refine List.forall_mem_cons.2 ⟨fun t w K hv h => ?_, ?_⟩
              · exact wpOp_step rfl (fun K hK => by go_simp; exact hK _ _ h)
              exact fun _ h => (by cases h)
            case mvM131 => exact fun _ h => (by cases h)
            case restM131 =>
              rintro t w136 g ⟨e18, e19, e20, e21, e22, e113, e114, e115, e175, e176, e177, e180, e181, e182, e185, e186, e187, e190, e191, e192, e195, e196, e197⟩ hA hB ⟨F_, hwnM131⟩
              clear hSS
              clear F128
              have hA0_0 : t 23 = .pointer (some ⟨g 13, 0, none⟩) := hA _ (.head _)
              (try simp only [List.map_cons, List.map_nil, List.cons_append, List.nil_append] at F_)
              have F137 := F_
              clear hA hB F_
              obtain ⟨g135, hgx_⟩ : ∃ x_, g 13 = x_ := ⟨_, rfl⟩
              rw [hgx_] at hA0_0 F137; clear hgx_
              have hws := F137.gb.size
              have g135l := (F137.at 0 rfl : Bk _ _ _ _).lt
              rw [rng_bears_walk t, e18, e19, e20, e21, e22, e113, e114, e115, e175, e176, e177, e180, e181, e182, e185, e186, e187, e190, e191, e192, e195, e196, e197, hA0_0]
              clear e18 e19 e20 e21 e22 e113 e114 e115 e175 e176 e177 e180 e181 e182 e185 e186 e187 e190 e191 e192 e195 e196 e197 hA0_0
              have hS_ : (fun W : World => W.cell? ⟨g64, 8, none⟩ = some (.int .i64 l.gr) ∧ W.cell? ⟨g64, 9, none⟩ = some (.int .i64 l.la) ∧ W.cell? ⟨g64, 10, none⟩ = some (.slice sal l.cov.length scl) ∧ W.cell? ⟨g64, 11, none⟩ = some (.int .i64 l.melt.lo) ∧ W.cell? ⟨g64, 12, none⟩ = some (.int .i64 l.melt.hi) ∧ W.cell? ⟨g64, 13, none⟩ = some (.int .i64 l.soak) ∧ W.cell? ⟨g64, 14, none⟩ = some (.int .i64 l.white.lo) ∧ W.cell? ⟨g64, 15, none⟩ = some (.int .i64 l.white.hi) ∧ W.cell? ⟨g65, 8, none⟩ = some (.int .i64 ic.bl.lo) ∧ W.cell? ⟨g65, 9, none⟩ = some (.int .i64 ic.bl.hi) ∧ W.cell? ⟨g65, 10, none⟩ = some (.int .i64 ic.wh.lo) ∧ W.cell? ⟨g65, 11, none⟩ = some (.int .i64 ic.wh.hi) ∧ W.cell? ⟨g65, 12, none⟩ = some (.int .i64 ic.we.lo) ∧ W.cell? ⟨g65, 13, none⟩ = some (.int .i64 ic.we.hi) ∧ W.cell? ⟨g65, 14, none⟩ = some (.int .i64 ic.sn.lo) ∧ W.cell? ⟨g65, 15, none⟩ = some (.int .i64 ic.sn.hi)) _ := ⟨F137.cl 3 8 rfl rfl, F137.cl 3 9 rfl rfl, F137.cl 3 10 rfl rfl, F137.cl 3 11 rfl rfl, F137.cl 3 12 rfl rfl, F137.cl 3 13 rfl rfl, F137.cl 3 14 rfl rfl, F137.cl 3 15 rfl rfl, F137.cl 4 8 rfl rfl, F137.cl 4 9 rfl rfl, F137.cl 4 10 rfl rfl, F137.cl 4 11 rfl rfl, F137.cl 4 12 rfl rfl, F137.cl 4 13 rfl rfl, F137.cl 4 14 rfl rfl, F137.cl 4 15 rfl rfl⟩
              refine ru_one 14 rfl (by kernel_rfl) (fun K hK => ?_)
              have kb_ := F137.bx2 0 rfl
              go_simp
              clear kb_
              have F138 := F137.pt2 (.int .i64 ((bearT l ic).lo)) (.int .i64 ((bearT l ic).hi))
              clear F137
              refine ru_back_late hK (by kernel_rfl) ?_
              clear hK K
              (try simp only [Act.put, List.setIfInBounds_toArray, List.set_cons_zero, List.set_cons_succ])
              refine ru_one 15 rfl (by kernel_rfl) (fun K hK => ?_)
              go_simp
              refine ru_back_late hK (by kernel_rfl) ?_
              clear hK K
              (try simp only [Act.put, List.setIfInBounds_toArray, List.set_cons_zero, List.set_cons_succ])
              refine ru_one 16 rfl (by kernel_rfl) (fun K hK => ?_)
              go_simp
              refine ru_back_late hK (by kernel_rfl) ?_
              clear hK K
              (try simp only [Act.put, List.setIfInBounds_toArray, List.set_cons_zero, List.set_cons_succ])
              refine ru_done (by kernel_rfl) ?_
              have Fn_ := ((F138.drop 1 rfl).drop 1 rfl)
              (try dsimp only [List.eraseIdx_cons_succ, List.eraseIdx_cons_zero] at Fn_)
              obtain ⟨w139, hx140, F142, hxs141⟩ := Fn_.name
              (try simp at hxs141)
              rw [hx140]
              clear hx140 F138 Fn_
              go_wp2_with fail
              have F143 := F142.drew
              clear F142
              refine ru_begin (fun W => W.cell? ⟨g64, 8, none⟩ = some (.int .i64 l.gr) ∧ W.cell? ⟨g64, 9, none⟩ = some (.int .i64 l.la) ∧ W.cell? ⟨g64, 10, none⟩ = some (.slice sal l.cov.length scl) ∧ W.cell? ⟨g64, 11, none⟩ = some (.int .i64 l.melt.lo) ∧ W.cell? ⟨g64, 12, none⟩ = some (.int .i64 l.melt.hi) ∧ W.cell? ⟨g64, 13, none⟩ = some (.int .i64 l.soak) ∧ W.cell? ⟨g64, 14, none⟩ = some (.int .i64 l.white.lo) ∧ W.cell? ⟨g64, 15, none⟩ = some (.int .i64 l.white.hi) ∧ W.cell? ⟨g65, 8, none⟩ = some (.int .i64 ic.bl.lo) ∧ W.cell? ⟨g65, 9, none⟩ = some (.int .i64 ic.bl.hi) ∧ W.cell? ⟨g65, 10, none⟩ = some (.int .i64 ic.wh.lo) ∧ W.cell? ⟨g65, 11, none⟩ = some (.int .i64 ic.wh.hi) ∧ W.cell? ⟨g65, 12, none⟩ = some (.int .i64 ic.we.lo) ∧ W.cell? ⟨g65, 13, none⟩ = some (.int .i64 ic.we.hi) ∧ W.cell? ⟨g65, 14, none⟩ = some (.int .i64 ic.sn.lo) ∧ W.cell? ⟨g65, 15, none⟩ = some (.int .i64 ic.sn.hi)) 14 (by kernel_rfl) ?_ ?_
              · exact ⟨F143.cl 1 8 rfl rfl, F143.cl 1 9 rfl rfl, F143.cl 1 10 rfl rfl, F143.cl 1 11 rfl rfl, F143.cl 1 12 rfl rfl, F143.cl 1 13 rfl rfl, F143.cl 1 14 rfl rfl, F143.cl 1 15 rfl rfl, F143.cl 2 8 rfl rfl, F143.cl 2 9 rfl rfl, F143.cl 2 10 rfl rfl, F143.cl 2 11 rfl rfl, F143.cl 2 12 rfl rfl, F143.cl 2 13 rfl rfl, F143.cl 2 14 rfl rfl, F143.cl 2 15 rfl rfl⟩
              obtain ⟨wd145, hwd_⟩ : ∃ x : World, w139.drew = x := ⟨_, rfl⟩
              rw [hwd_] at F143 ⊢
              have wd145s : w139.heap.size ≤ wd145.heap.size := by rw [← hwd_]; exact Nat.le_refl _
              clear hwd_
              have hS144 := (And.intro (F143.cl 1 8 rfl rfl) (And.intro (F143.cl 1 9 rfl rfl) (And.intro (F143.cl 1 10 rfl rfl) (And.intro (F143.cl 1 11 rfl rfl) (And.intro (F143.cl 1 12 rfl rfl) (And.intro (F143.cl 1 13 rfl rfl) (And.intro (F143.cl 1 14 rfl rfl) (And.intro (F143.cl 1 15 rfl rfl) (And.intro (F143.cl 2 8 rfl rfl) (And.intro (F143.cl 2 9 rfl rfl) (And.intro (F143.cl 2 10 rfl rfl) (And.intro (F143.cl 2 11 rfl rfl) (And.intro (F143.cl 2 12 rfl rfl) (And.intro (F143.cl 2 13 rfl rfl) (And.intro (F143.cl 2 14 rfl rfl) (F143.cl 2 15 rfl rfl))))))))))))))))
              refine ru_t 0 [] ?_
              refine ru_t 1 [] ?_
              refine ru_t 2 [] ?_
              refine ru_t 3 [] ?_
              refine ru_t 4 [] ?_
              refine ru_t 5 [] ?_
              refine ru_t 6 [] ?_
              refine ru_t 7 [] ?_
              (try simp only [Act.put, List.setIfInBounds_toArray, List.set_cons_zero, List.set_cons_succ])
              clear hS144
              have hSS := ru_hS F143 (S := fun W => W.cell? ⟨g64, 8, none⟩ = some (.int .i64 l.gr) ∧ W.cell? ⟨g64, 9, none⟩ = some (.int .i64 l.la) ∧ W.cell? ⟨g64, 10, none⟩ = some (.slice sal l.cov.length scl) ∧ W.cell? ⟨g64, 11, none⟩ = some (.int .i64 l.melt.lo) ∧ W.cell? ⟨g64, 12, none⟩ = some (.int .i64 l.melt.hi) ∧ W.cell? ⟨g64, 13, none⟩ = some (.int .i64 l.soak) ∧ W.cell? ⟨g64, 14, none⟩ = some (.int .i64 l.white.lo) ∧ W.cell? ⟨g64, 15, none⟩ = some (.int .i64 l.white.hi) ∧ W.cell? ⟨g65, 8, none⟩ = some (.int .i64 ic.bl.lo) ∧ W.cell? ⟨g65, 9, none⟩ = some (.int .i64 ic.bl.hi) ∧ W.cell? ⟨g65, 10, none⟩ = some (.int .i64 ic.wh.lo) ∧ W.cell? ⟨g65, 11, none⟩ = some (.int .i64 ic.wh.hi) ∧ W.cell? ⟨g65, 12, none⟩ = some (.int .i64 ic.we.lo) ∧ W.cell? ⟨g65, 13, none⟩ = some (.int .i64 ic.we.hi) ∧ W.cell? ⟨g65, 14, none⟩ = some (.int .i64 ic.sn.lo) ∧ W.cell? ⟨g65, 15, none⟩ = some (.int .i64 ic.sn.hi)) (fun _ _ F_ => ⟨F_.cl 1 8 rfl rfl, F_.cl 1 9 rfl rfl, F_.cl 1 10 rfl rfl, F_.cl 1 11 rfl rfl, F_.cl 1 12 rfl rfl, F_.cl 1 13 rfl rfl, F_.cl 1 14 rfl rfl, F_.cl 1 15 rfl rfl, F_.cl 2 8 rfl rfl, F_.cl 2 9 rfl rfl, F_.cl 2 10 rfl rfl, F_.cl 2 11 rfl rfl, F_.cl 2 12 rfl rfl, F_.cl 2 13 rfl rfl, F_.cl 2 14 rfl rfl, F_.cl 2 15 rfl rfl⟩)
              refine ru_mixS 200 [⟨13, 26, 27, fun t => #[.int .i64 0, .int .i64 0], ptrOf, fun t => True⟩] [] [8, 9, 10, 11, 12] 3 F143 (by kernel_rfl) (by kernel_rfl) (fun _ _ _ _ _ h => h) (U0 := (fun t => t 18 = .slice (some ⟨g64, 0, none⟩) 3 3 ∧ t 19 = .slice (some ⟨g65, 0, none⟩) 3 3 ∧ t 20 = .slice (some ⟨g66, 0, none⟩) 3 3 ∧ t 21 = .slice (some ⟨g67, 0, none⟩) 3 3 ∧ t 22 = .int .i64 1 ∧ t 23 = .pointer (some ⟨g135, 0, none⟩) ∧ t 24 = .int .i64 (bearS l ic) ∧ t 25 = .int .i64 (allE l ic []) ∧ t 120 = .agg (froC l (.slice sal l.cov.length scl)) ∧ t 124 = .agg (iceC ic) ∧ t 175 = .int .i64 (bearS l0 x0) ∧ t 176 = .int .i64 (bearS l0 x0) ∧ t 177 = .bool false ∧ t 180 = .int .i64 (allE l0 x0 []) ∧ t 181 = .int .i64 (allE l0 x0 []) ∧ t 182 = .bool false ∧ t 185 = .int .i64 (readyS l0 x0 d0 need) ∧ t 186 = .int .i64 (readyS l0 x0 d0 need) ∧ t 187 = .bool false ∧ t 190 = .int .i64 (readyP l0 x0 d0 need) ∧ t 191 = .int .i64 (readyP l0 x0 d0 need) ∧ t 192 = .bool false ∧ t 195 = .int .i64 (readyE l0 x0 d0 need) ∧ t 196 = .int .i64 (readyE l0 x0 d0 need) ∧ t 197 = .bool false)) (Um := (fun t => t 18 = .slice (some ⟨g64, 0, none⟩) 3 3 ∧ t 19 = .slice (some ⟨g65, 0, none⟩) 3 3 ∧ t 20 = .slice (some ⟨g66, 0, none⟩) 3 3 ∧ t 21 = .slice (some ⟨g67, 0, none⟩) 3 3 ∧ t 22 = .int .i64 1 ∧ t 23 = .pointer (some ⟨g135, 0, none⟩) ∧ t 24 = .int .i64 (bearS l ic) ∧ t 25 = .int .i64 (allE l ic []) ∧ t 126 = .agg #[.int .i64 ((bearT l ic).lo), .int .i64 ((bearT l ic).hi)] ∧ t 127 = .int .i64 (bearS l ic) ∧ t 128 = .int .i64 (allE l ic []) ∧ t 175 = .int .i64 (bearS l0 x0) ∧ t 176 = .int .i64 (bearS l0 x0) ∧ t 177 = .bool false ∧ t 180 = .int .i64 (allE l0 x0 []) ∧ t 181 = .int .i64 (allE l0 x0 []) ∧ t 182 = .bool false ∧ t 185 = .int .i64 (readyS l0 x0 d0 need) ∧ t 186 = .int .i64 (readyS l0 x0 d0 need) ∧ t 187 = .bool false ∧ t 190 = .int .i64 (readyP l0 x0 d0 need) ∧ t 191 = .int .i64 (readyP l0 x0 d0 need) ∧ t 192 = .bool false ∧ t 195 = .int .i64 (readyE l0 x0 d0 need) ∧ t 196 = .int .i64 (readyE l0 x0 d0 need) ∧ t 197 = .bool false)) ?chM146 ?alM146 ?mvM146 (List.forall_mem_cons.2 ⟨List.forall_mem_cons.2 ⟨fun _ _ => rfl, fun _ h => (by cases h)⟩, fun _ h => (by cases h)⟩) ⟨(by kernel_rfl), rfl, ⟨(by kernel_rfl), (by kernel_rfl), (by kernel_rfl), (by kernel_rfl), (by kernel_rfl), (by kernel_rfl), (by kernel_rfl), (by kernel_rfl), (by kernel_rfl), (by kernel_rfl), (by kernel_rfl), (by kernel_rfl), (by kernel_rfl), (by kernel_rfl), (by kernel_rfl), (by kernel_rfl), (by kernel_rfl), (by kernel_rfl), (by kernel_rfl), (by kernel_rfl), (by kernel_rfl), (by kernel_rfl), (by kernel_rfl), (by kernel_rfl), (by kernel_rfl)⟩⟩ ?restM146
              case chM146 =>
                refine ChainL.callS 8 (fun t => t 18 = .slice (some ⟨g64, 0, none⟩) 3 3 ∧ t 19 = .slice (some ⟨g65, 0, none⟩) 3 3 ∧ t 20 = .slice (some ⟨g66, 0, none⟩) 3 3 ∧ t 21 = .slice (some ⟨g67, 0, none⟩) 3 3 ∧ t 22 = .int .i64 1 ∧ t 23 = .pointer (some ⟨g135, 0, none⟩) ∧ t 24 = .int .i64 (bearS l ic) ∧ t 25 = .int .i64 (allE l ic []) ∧ t 125 = .tuple #[.agg #[.int .i64 ((bearT l ic).lo), .int .i64 ((bearT l ic).hi)], .int .i64 (bearS l ic), .int .i64 (allE l ic [])] ∧ t 175 = .int .i64 (bearS l0 x0) ∧ t 176 = .int .i64 (bearS l0 x0) ∧ t 177 = .bool false ∧ t 180 = .int .i64 (allE l0 x0 []) ∧ t 181 = .int .i64 (allE l0 x0 []) ∧ t 182 = .bool false ∧ t 185 = .int .i64 (readyS l0 x0 d0 need) ∧ t 186 = .int .i64 (readyS l0 x0 d0 need) ∧ t 187 = .bool false ∧ t 190 = .int .i64 (readyP l0 x0 d0 need) ∧ t 191 = .int .i64 (readyP l0 x0 d0 need) ∧ t 192 = .bool false ∧ t 195 = .int .i64 (readyE l0 x0 d0 need) ∧ t 196 = .int .i64 (readyE l0 x0 d0 need) ∧ t 197 = .bool false) (List.forall_mem_cons.2 ⟨fun _ _ u => u, fun _ h => (by cases h)⟩) hSS (List.forall_mem_cons.2 ⟨fun _ t ⟨e18, e19, e20, e21, e22, e23, e24, e25, e120, e124, e175, e176, e177, e180, e181, e182, e185, e186, e187, e190, e191, e192, e195, e196, e197⟩ => trivial, fun _ h => (by cases h)⟩) (by kernel_rfl) ?_ ?_
                · rintro t w_ LA ⟨e18, e19, e20, e21, e22, e23, e24, e25, e120, e124, e175, e176, e177, e180, e181, e182, e185, e186, e187, e190, e191, e192, e195, e196, e197⟩ ⟨F_, hwn_⟩
                  have hws := F_.gb.size
                  rw [rng_bears_walk t, e18, e19, e20, e21, e22, e23, e24, e25, e120, e124, e175, e176, e177, e180, e181, e182, e185, e186, e187, e190, e191, e192, e195, e196, e197]
                  clear e18 e19 e20 e21 e22 e23 e24 e25 e120 e124 e175 e176 e177 e180 e181 e182 e185 e186 e187 e190 e191 e192 e195 e196 e197
                  refine wpOp_stepH rfl (fun K hK => ?_)
                  go_simp
                  refine (rbearing_c _ _ _ l ic _ (F_.at 7 rfl : Sl covEnc 3 lo_l hi_l _ (.slice sal l.cov.length scl) l.cov) (by first | omega | (simp; omega))).mono ?_
                  rintro e w147 ⟨rfl, hg148⟩
                  exact hK.out _ _ ⟨(by kernel_rfl), rfl, ⟨(by kernel_rfl), (by kernel_rfl), (by kernel_rfl), (by kernel_rfl), (by kernel_rfl), (by kernel_rfl), (by kernel_rfl), (by kernel_rfl), (by kernel_rfl), (by kernel_rfl), (by kernel_rfl), (by kernel_rfl), (by kernel_rfl), (by kernel_rfl), (by kernel_rfl), (by kernel_rfl), (by kernel_rfl), (by kernel_rfl), (by kernel_rfl), (by kernel_rfl), (by kernel_rfl), (by kernel_rfl), (by kernel_rfl), (by kernel_rfl)⟩, List.forall_mem_cons.2 ⟨(by kernel_rfl), fun _ h => (by cases h)⟩, List.forall_mem_cons.2 ⟨fun _ => (by kernel_rfl), fun _ h => (by cases h)⟩, ⟨F_.gn hg148, Nat.le_trans hwn_ hg148.size⟩, hSS _ _ ⟨F_.gn hg148, Nat.le_trans hwn_ hg148.size⟩⟩
                refine ChainL.pureS 9 (fun t => t 18 = .slice (some ⟨g64, 0, none⟩) 3 3 ∧ t 19 = .slice (some ⟨g65, 0, none⟩) 3 3 ∧ t 20 = .slice (some ⟨g66, 0, none⟩) 3 3 ∧ t 21 = .slice (some ⟨g67, 0, none⟩) 3 3 ∧ t 22 = .int .i64 1 ∧ t 23 = .pointer (some ⟨g135, 0, none⟩) ∧ t 24 = .int .i64 (bearS l ic) ∧ t 25 = .int .i64 (allE l ic []) ∧ t 116 = .tuple #[.agg #[.int .i64 ((bearT l ic).lo), .int .i64 ((bearT l ic).hi)], .int .i64 (bearS l ic), .int .i64 (allE l ic [])] ∧ t 175 = .int .i64 (bearS l0 x0) ∧ t 176 = .int .i64 (bearS l0 x0) ∧ t 177 = .bool false ∧ t 180 = .int .i64 (allE l0 x0 []) ∧ t 181 = .int .i64 (allE l0 x0 []) ∧ t 182 = .bool false ∧ t 185 = .int .i64 (readyS l0 x0 d0 need) ∧ t 186 = .int .i64 (readyS l0 x0 d0 need) ∧ t 187 = .bool false ∧ t 190 = .int .i64 (readyP l0 x0 d0 need) ∧ t 191 = .int .i64 (readyP l0 x0 d0 need) ∧ t 192 = .bool false ∧ t 195 = .int .i64 (readyE l0 x0 d0 need) ∧ t 196 = .int .i64 (readyE l0 x0 d0 need) ∧ t 197 = .bool false) rfl (List.forall_mem_cons.2 ⟨fun _ _ u => u, fun _ h => (by cases h)⟩) hSS (List.forall_mem_cons.2 ⟨fun _ t ⟨e18, e19, e20, e21, e22, e23, e24, e25, e125, e175, e176, e177, e180, e181, e182, e185, e186, e187, e190, e191, e192, e195, e196, e197⟩ => trivial, fun _ h => (by cases h)⟩) (by kernel_rfl) ?_ ?_
                · rintro t ⟨e18, e19, e20, e21, e22, e23, e24, e25, e125, e175, e176, e177, e180, e181, e182, e185, e186, e187, e190, e191, e192, e195, e196, e197⟩
                  rw [rng_bears_walk t, e18, e19, e20, e21, e22, e23, e24, e25, e125, e175, e176, e177, e180, e181, e182, e185, e186, e187, e190, e191, e192, e195, e196, e197]
                  clear e18 e19 e20 e21 e22 e23 e24 e25 e125 e175 e176 e177 e180 e181 e182 e185 e186 e187 e190 e191 e192 e195 e196 e197
                  refine ⟨.tuple #[.agg #[.int .i64 ((bearT l ic).lo), .int .i64 ((bearT l ic).hi)], .int .i64 (bearS l ic), .int .i64 (allE l ic [])], .inl ⟨by first | kernel_rfl | rfl, ?_⟩, ⟨(by kernel_rfl), rfl⟩, ⟨(by kernel_rfl), (by kernel_rfl), (by kernel_rfl), (by kernel_rfl), (by kernel_rfl), (by kernel_rfl), (by kernel_rfl), (by kernel_rfl), (by kernel_rfl), (by kernel_rfl), (by kernel_rfl), (by kernel_rfl), (by kernel_rfl), (by kernel_rfl), (by kernel_rfl), (by kernel_rfl), (by kernel_rfl), (by kernel_rfl), (by kernel_rfl), (by kernel_rfl), (by kernel_rfl), (by kernel_rfl), (by kernel_rfl), (by kernel_rfl)⟩, List.forall_mem_cons.2 ⟨(by kernel_rfl), fun _ h => (by cases h)⟩, List.forall_mem_cons.2 ⟨fun _ => (by kernel_rfl), fun _ h => (by cases h)⟩⟩
                  intro wS _
                  go_simp
                  (try with_reducible rfl)
                refine ChainL.pureS 10 (fun t => t 18 = .slice (some ⟨g64, 0, none⟩) 3 3 ∧ t 19 = .slice (some ⟨g65, 0, none⟩) 3 3 ∧ t 20 = .slice (some ⟨g66, 0, none⟩) 3 3 ∧ t 21 = .slice (some ⟨g67, 0, none⟩) 3 3 ∧ t 22 = .int .i64 1 ∧ t 23 = .pointer (some ⟨g135, 0, none⟩) ∧ t 24 = .int .i64 (bearS l ic) ∧ t 25 = .int .i64 (allE l ic []) ∧ t 116 = .tuple #[.agg #[.int .i64 ((bearT l ic).lo), .int .i64 ((bearT l ic).hi)], .int .i64 (bearS l ic), .int .i64 (allE l ic [])] ∧ t 126 = .agg #[.int .i64 ((bearT l ic).lo), .int .i64 ((bearT l ic).hi)] ∧ t 175 = .int .i64 (bearS l0 x0) ∧ t 176 = .int .i64 (bearS l0 x0) ∧ t 177 = .bool false ∧ t 180 = .int .i64 (allE l0 x0 []) ∧ t 181 = .int .i64 (allE l0 x0 []) ∧ t 182 = .bool false ∧ t 185 = .int .i64 (readyS l0 x0 d0 need) ∧ t 186 = .int .i64 (readyS l0 x0 d0 need) ∧ t 187 = .bool false ∧ t 190 = .int .i64 (readyP l0 x0 d0 need) ∧ t 191 = .int .i64 (readyP l0 x0 d0 need) ∧ t 192 = .bool false ∧ t 195 = .int .i64 (readyE l0 x0 d0 need) ∧ t 196 = .int .i64 (readyE l0 x0 d0 need) ∧ t 197 = .bool false) rfl (List.forall_mem_cons.2 ⟨fun _ _ u => u, fun _ h => (by cases h)⟩) hSS (List.forall_mem_cons.2 ⟨fun _ t ⟨e18, e19, e20, e21, e22, e23, e24, e25, e116, e175, e176, e177, e180, e181, e182, e185, e186, e187, e190, e191, e192, e195, e196, e197⟩ => trivial, fun _ h => (by cases h)⟩) (by kernel_rfl) ?_ ?_
                · rintro t ⟨e18, e19, e20, e21, e22, e23, e24, e25, e116, e175, e176, e177, e180, e181, e182, e185, e186, e187, e190, e191, e192, e195, e196, e197⟩
                  rw [rng_bears_walk t, e18, e19, e20, e21, e22, e23, e24, e25, e116, e175, e176, e177, e180, e181, e182, e185, e186, e187, e190, e191, e192, e195, e196, e197]
                  clear e18 e19 e20 e21 e22 e23 e24 e25 e116 e175 e176 e177 e180 e181 e182 e185 e186 e187 e190 e191 e192 e195 e196 e197
                  refine ⟨.agg #[.int .i64 ((bearT l ic).lo), .int .i64 ((bearT l ic).hi)], .inl ⟨by first | kernel_rfl | rfl, ?_⟩, ⟨(by kernel_rfl), rfl⟩, ⟨(by kernel_rfl), (by kernel_rfl), (by kernel_rfl), (by kernel_rfl), (by kernel_rfl), (by kernel_rfl), (by kernel_rfl), (by kernel_rfl), (by kernel_rfl), (by kernel_rfl), (by kernel_rfl), (by kernel_rfl), (by kernel_rfl), (by kernel_rfl), (by kernel_rfl), (by kernel_rfl), (by kernel_rfl), (by kernel_rfl), (by kernel_rfl), (by kernel_rfl), (by kernel_rfl), (by kernel_rfl), (by kernel_rfl), (by kernel_rfl), (by kernel_rfl)⟩, List.forall_mem_cons.2 ⟨(by kernel_rfl), fun _ h => (by cases h)⟩, List.forall_mem_cons.2 ⟨fun _ => (by kernel_rfl), fun _ h => (by cases h)⟩⟩
                  intro wS _
                  go_simp
                  (try with_reducible rfl)
                refine ChainL.pureS 11 (fun t => t 18 = .slice (some ⟨g64, 0, none⟩) 3 3 ∧ t 19 = .slice (some ⟨g65, 0, none⟩) 3 3 ∧ t 20 = .slice (some ⟨g66, 0, none⟩) 3 3 ∧ t 21 = .slice (some ⟨g67, 0, none⟩) 3 3 ∧ t 22 = .int .i64 1 ∧ t 23 = .pointer (some ⟨g135, 0, none⟩) ∧ t 24 = .int .i64 (bearS l ic) ∧ t 25 = .int .i64 (allE l ic []) ∧ t 116 = .tuple #[.agg #[.int .i64 ((bearT l ic).lo), .int .i64 ((bearT l ic).hi)], .int .i64 (bearS l ic), .int .i64 (allE l ic [])] ∧ t 126 = .agg #[.int .i64 ((bearT l ic).lo), .int .i64 ((bearT l ic).hi)] ∧ t 127 = .int .i64 (bearS l ic) ∧ t 175 = .int .i64 (bearS l0 x0) ∧ t 176 = .int .i64 (bearS l0 x0) ∧ t 177 = .bool false ∧ t 180 = .int .i64 (allE l0 x0 []) ∧ t 181 = .int .i64 (allE l0 x0 []) ∧ t 182 = .bool false ∧ t 185 = .int .i64 (readyS l0 x0 d0 need) ∧ t 186 = .int .i64 (readyS l0 x0 d0 need) ∧ t 187 = .bool false ∧ t 190 = .int .i64 (readyP l0 x0 d0 need) ∧ t 191 = .int .i64 (readyP l0 x0 d0 need) ∧ t 192 = .bool false ∧ t 195 = .int .i64 (readyE l0 x0 d0 need) ∧ t 196 = .int .i64 (readyE l0 x0 d0 need) ∧ t 197 = .bool false) rfl (List.forall_mem_cons.2 ⟨fun _ _ u => u, fun _ h => (by cases h)⟩) hSS (List.forall_mem_cons.2 ⟨fun _ t ⟨e18, e19, e20, e21, e22, e23, e24, e25, e116, e126, e175, e176, e177, e180, e181, e182, e185, e186, e187, e190, e191, e192, e195, e196, e197⟩ => trivial, fun _ h => (by cases h)⟩) (by kernel_rfl) ?_ ?_
                · rintro t ⟨e18, e19, e20, e21, e22, e23, e24, e25, e116, e126, e175, e176, e177, e180, e181, e182, e185, e186, e187, e190, e191, e192, e195, e196, e197⟩
                  rw [rng_bears_walk t, e18, e19, e20, e21, e22, e23, e24, e25, e116, e126, e175, e176, e177, e180, e181, e182, e185, e186, e187, e190, e191, e192, e195, e196, e197]
                  clear e18 e19 e20 e21 e22 e23 e24 e25 e116 e126 e175 e176 e177 e180 e181 e182 e185 e186 e187 e190 e191 e192 e195 e196 e197
                  refine ⟨.int .i64 (bearS l ic), .inl ⟨by first | kernel_rfl | rfl, ?_⟩, ⟨(by kernel_rfl), rfl⟩, ⟨(by kernel_rfl), (by kernel_rfl), (by kernel_rfl), (by kernel_rfl), (by kernel_rfl), (by kernel_rfl), (by kernel_rfl), (by kernel_rfl), (by kernel_rfl), (by kernel_rfl), (by kernel_rfl), (by kernel_rfl), (by kernel_rfl), (by kernel_rfl), (by kernel_rfl), (by kernel_rfl), (by kernel_rfl), (by kernel_rfl), (by kernel_rfl), (by kernel_rfl), (by kernel_rfl), (by kernel_rfl), (by kernel_rfl), (by kernel_rfl), (by kernel_rfl), (by kernel_rfl)⟩, List.forall_mem_cons.2 ⟨(by kernel_rfl), fun _ h => (by cases h)⟩, List.forall_mem_cons.2 ⟨fun _ => (by kernel_rfl), fun _ h => (by cases h)⟩⟩
                  intro wS _
                  go_simp
                  (try with_reducible rfl)
                refine ChainL.pureS 12 (fun t => t 18 = .slice (some ⟨g64, 0, none⟩) 3 3 ∧ t 19 = .slice (some ⟨g65, 0, none⟩) 3 3 ∧ t 20 = .slice (some ⟨g66, 0, none⟩) 3 3 ∧ t 21 = .slice (some ⟨g67, 0, none⟩) 3 3 ∧ t 22 = .int .i64 1 ∧ t 23 = .pointer (some ⟨g135, 0, none⟩) ∧ t 24 = .int .i64 (bearS l ic) ∧ t 25 = .int .i64 (allE l ic []) ∧ t 126 = .agg #[.int .i64 ((bearT l ic).lo), .int .i64 ((bearT l ic).hi)] ∧ t 127 = .int .i64 (bearS l ic) ∧ t 128 = .int .i64 (allE l ic []) ∧ t 175 = .int .i64 (bearS l0 x0) ∧ t 176 = .int .i64 (bearS l0 x0) ∧ t 177 = .bool false ∧ t 180 = .int .i64 (allE l0 x0 []) ∧ t 181 = .int .i64 (allE l0 x0 []) ∧ t 182 = .bool false ∧ t 185 = .int .i64 (readyS l0 x0 d0 need) ∧ t 186 = .int .i64 (readyS l0 x0 d0 need) ∧ t 187 = .bool false ∧ t 190 = .int .i64 (readyP l0 x0 d0 need) ∧ t 191 = .int .i64 (readyP l0 x0 d0 need) ∧ t 192 = .bool false ∧ t 195 = .int .i64 (readyE l0 x0 d0 need) ∧ t 196 = .int .i64 (readyE l0 x0 d0 need) ∧ t 197 = .bool false) rfl (List.forall_mem_cons.2 ⟨fun _ _ u => u, fun _ h => (by cases h)⟩) hSS (List.forall_mem_cons.2 ⟨fun _ t ⟨e18, e19, e20, e21, e22, e23, e24, e25, e116, e126, e127, e175, e176, e177, e180, e181, e182, e185, e186, e187, e190, e191, e192, e195, e196, e197⟩ => trivial, fun _ h => (by cases h)⟩) (by kernel_rfl) ?_ ?_
                · rintro t ⟨e18, e19, e20, e21, e22, e23, e24, e25, e116, e126, e127, e175, e176, e177, e180, e181, e182, e185, e186, e187, e190, e191, e192, e195, e196, e197⟩
                  rw [rng_bears_walk t, e18, e19, e20, e21, e22, e23, e24, e25, e116, e126, e127, e175, e176, e177, e180, e181, e182, e185, e186, e187, e190, e191, e192, e195, e196, e197]
                  clear e18 e19 e20 e21 e22 e23 e24 e25 e116 e126 e127 e175 e176 e177 e180 e181 e182 e185 e186 e187 e190 e191 e192 e195 e196 e197
                  refine ⟨.int .i64 (allE l ic []), .inl ⟨by first | kernel_rfl | rfl, ?_⟩, ⟨(by kernel_rfl), rfl⟩, ⟨(by kernel_rfl), (by kernel_rfl), (by kernel_rfl), (by kernel_rfl), (by kernel_rfl), (by kernel_rfl), (by kernel_rfl), (by kernel_rfl), (by kernel_rfl), (by kernel_rfl), (by kernel_rfl), (by kernel_rfl), (by kernel_rfl), (by kernel_rfl), (by kernel_rfl), (by kernel_rfl), (by kernel_rfl), (by kernel_rfl), (by kernel_rfl), (by kernel_rfl), (by kernel_rfl), (by kernel_rfl), (by kernel_rfl), (by kernel_rfl), (by kernel_rfl), (by kernel_rfl)⟩, List.forall_mem_cons.2 ⟨(by kernel_rfl), fun _ h => (by cases h)⟩, List.forall_mem_cons.2 ⟨fun _ => (by kernel_rfl), fun _ h => (by cases h)⟩⟩
                  intro wS _
                  go_simp
                  (try with_reducible rfl)
                exact ChainL.nil _ _ _ (List.forall_mem_cons.2 ⟨fun _ _ u => u, fun _ h => (by cases h)⟩) hSS (List.forall_mem_cons.2 ⟨fun _ t ⟨e18, e19, e20, e21, e22, e23, e24, e25, e126, e127, e128, e175, e176, e177, e180, e181, e182, e185, e186, e187, e190, e191, e192, e195, e196, e197⟩ => trivial, fun _ h => (by cases h)⟩)
              case alM146 =>
                refine List.forall_mem_cons.2 ⟨fun t w K hv h => ?_, ?_⟩
                · exact wpOp_step rfl (fun K hK => by go_simp; exact hK _ _ h)
                exact fun _ h => (by cases h)
              case mvM146 => exact fun _ h => (by cases h)
              case restM146 =>
                rintro t w151 g ⟨e18, e19, e20, e21, e22, e23, e24, e25, e126, e127, e128, e175, e176, e177, e180, e181, e182, e185, e186, e187, e190, e191, e192, e195, e196, e197⟩ hA hB ⟨F_, hwnM146⟩
                clear hSS
                clear F143
                have hA0_0 : t 26 = .pointer (some ⟨g 13, 0, none⟩) := hA _ (.head _)
                (try simp only [List.map_cons, List.map_nil, List.cons_append, List.nil_append] at F_)
                have F152 := F_
                clear hA hB F_
                obtain ⟨g150, hgx_⟩ : ∃ x_, g 13 = x_ := ⟨_, rfl⟩
                rw [hgx_] at hA0_0 F152; clear hgx_
                have hws := F152.gb.size
                have g150l := (F152.at 0 rfl : Bk _ _ _ _).lt
                rw [rng_bears_walk t, e18, e19, e20, e21, e22, e23, e24, e25, e126, e127, e128, e175, e176, e177, e180, e181, e182, e185, e186, e187, e190, e191, e192, e195, e196, e197, hA0_0]
                clear e18 e19 e20 e21 e22 e23 e24 e25 e126 e127 e128 e175 e176 e177 e180 e181 e182 e185 e186 e187 e190 e191 e192 e195 e196 e197 hA0_0
                have hS_ : (fun W : World => W.cell? ⟨g64, 8, none⟩ = some (.int .i64 l.gr) ∧ W.cell? ⟨g64, 9, none⟩ = some (.int .i64 l.la) ∧ W.cell? ⟨g64, 10, none⟩ = some (.slice sal l.cov.length scl) ∧ W.cell? ⟨g64, 11, none⟩ = some (.int .i64 l.melt.lo) ∧ W.cell? ⟨g64, 12, none⟩ = some (.int .i64 l.melt.hi) ∧ W.cell? ⟨g64, 13, none⟩ = some (.int .i64 l.soak) ∧ W.cell? ⟨g64, 14, none⟩ = some (.int .i64 l.white.lo) ∧ W.cell? ⟨g64, 15, none⟩ = some (.int .i64 l.white.hi) ∧ W.cell? ⟨g65, 8, none⟩ = some (.int .i64 ic.bl.lo) ∧ W.cell? ⟨g65, 9, none⟩ = some (.int .i64 ic.bl.hi) ∧ W.cell? ⟨g65, 10, none⟩ = some (.int .i64 ic.wh.lo) ∧ W.cell? ⟨g65, 11, none⟩ = some (.int .i64 ic.wh.hi) ∧ W.cell? ⟨g65, 12, none⟩ = some (.int .i64 ic.we.lo) ∧ W.cell? ⟨g65, 13, none⟩ = some (.int .i64 ic.we.hi) ∧ W.cell? ⟨g65, 14, none⟩ = some (.int .i64 ic.sn.lo) ∧ W.cell? ⟨g65, 15, none⟩ = some (.int .i64 ic.sn.hi)) _ := ⟨F152.cl 2 8 rfl rfl, F152.cl 2 9 rfl rfl, F152.cl 2 10 rfl rfl, F152.cl 2 11 rfl rfl, F152.cl 2 12 rfl rfl, F152.cl 2 13 rfl rfl, F152.cl 2 14 rfl rfl, F152.cl 2 15 rfl rfl, F152.cl 3 8 rfl rfl, F152.cl 3 9 rfl rfl, F152.cl 3 10 rfl rfl, F152.cl 3 11 rfl rfl, F152.cl 3 12 rfl rfl, F152.cl 3 13 rfl rfl, F152.cl 3 14 rfl rfl, F152.cl 3 15 rfl rfl⟩
                refine ru_one 14 rfl (by kernel_rfl) (fun K hK => ?_)
                have kb_ := F152.bx2 0 rfl
                go_simp
                clear kb_
                have F153 := F152.pt2 (.int .i64 ((bearT l ic).lo)) (.int .i64 ((bearT l ic).hi))
                clear F152
                refine ru_back_late hK (by kernel_rfl) ?_
                clear hK K
                (try simp only [Act.put, List.setIfInBounds_toArray, List.set_cons_zero, List.set_cons_succ])
                refine ru_one 15 rfl (by kernel_rfl) (fun K hK => ?_)
                go_simp
                refine ru_back_late hK (by kernel_rfl) ?_
                clear hK K
                (try simp only [Act.put, List.setIfInBounds_toArray, List.set_cons_zero, List.set_cons_succ])
                refine ru_one 16 rfl (by kernel_rfl) (fun K hK => ?_)
                go_simp
                refine ru_back_late hK (by kernel_rfl) ?_
                clear hK K
                (try simp only [Act.put, List.setIfInBounds_toArray, List.set_cons_zero, List.set_cons_succ])
                refine ru_done (by kernel_rfl) ?_
                have Fn_ := F153
                (try dsimp only [List.eraseIdx_cons_succ, List.eraseIdx_cons_zero] at Fn_)
                obtain ⟨w154, hx155, F157, hxs156⟩ := Fn_.name
                (try simp at hxs156)
                rw [hx155]
                clear hx155 F153 Fn_
                go_wp2_with fail
                have F158 := F157.drew
                clear F157
                refine ru_begin (fun W => W.cell? ⟨g64, 8, none⟩ = some (.int .i64 l.gr) ∧ W.cell? ⟨g64, 9, none⟩ = some (.int .i64 l.la) ∧ W.cell? ⟨g64, 10, none⟩ = some (.slice sal l.cov.length scl) ∧ W.cell? ⟨g64, 11, none⟩ = some (.int .i64 l.melt.lo) ∧ W.cell? ⟨g64, 12, none⟩ = some (.int .i64 l.melt.hi) ∧ W.cell? ⟨g64, 13, none⟩ = some (.int .i64 l.soak) ∧ W.cell? ⟨g64, 14, none⟩ = some (.int .i64 l.white.lo) ∧ W.cell? ⟨g64, 15, none⟩ = some (.int .i64 l.white.hi) ∧ W.cell? ⟨g65, 8, none⟩ = some (.int .i64 ic.bl.lo) ∧ W.cell? ⟨g65, 9, none⟩ = some (.int .i64 ic.bl.hi) ∧ W.cell? ⟨g65, 10, none⟩ = some (.int .i64 ic.wh.lo) ∧ W.cell? ⟨g65, 11, none⟩ = some (.int .i64 ic.wh.hi) ∧ W.cell? ⟨g65, 12, none⟩ = some (.int .i64 ic.we.lo) ∧ W.cell? ⟨g65, 13, none⟩ = some (.int .i64 ic.we.hi) ∧ W.cell? ⟨g65, 14, none⟩ = some (.int .i64 ic.sn.lo) ∧ W.cell? ⟨g65, 15, none⟩ = some (.int .i64 ic.sn.hi) ∧ W.cell? ⟨g66, 1, none⟩ = some (.slice da_dl dl.length dc_dl) ∧ W.cell? ⟨g67, 1, none⟩ = some (.int .i64 near)) 23 (by kernel_rfl) ?_ ?_
                · exact ⟨F158.cl 2 8 rfl rfl, F158.cl 2 9 rfl rfl, F158.cl 2 10 rfl rfl, F158.cl 2 11 rfl rfl, F158.cl 2 12 rfl rfl, F158.cl 2 13 rfl rfl, F158.cl 2 14 rfl rfl, F158.cl 2 15 rfl rfl, F158.cl 3 8 rfl rfl, F158.cl 3 9 rfl rfl, F158.cl 3 10 rfl rfl, F158.cl 3 11 rfl rfl, F158.cl 3 12 rfl rfl, F158.cl 3 13 rfl rfl, F158.cl 3 14 rfl rfl, F158.cl 3 15 rfl rfl, F158.cl 4 1 rfl rfl, F158.cl 5 1 rfl rfl⟩
                obtain ⟨wd160, hwd_⟩ : ∃ x : World, w154.drew = x := ⟨_, rfl⟩
                rw [hwd_] at F158 ⊢
                have wd160s : w154.heap.size ≤ wd160.heap.size := by rw [← hwd_]; exact Nat.le_refl _
                clear hwd_
                have hS159 := (And.intro (F158.cl 2 8 rfl rfl) (And.intro (F158.cl 2 9 rfl rfl) (And.intro (F158.cl 2 10 rfl rfl) (And.intro (F158.cl 2 11 rfl rfl) (And.intro (F158.cl 2 12 rfl rfl) (And.intro (F158.cl 2 13 rfl rfl) (And.intro (F158.cl 2 14 rfl rfl) (And.intro (F158.cl 2 15 rfl rfl) (And.intro (F158.cl 3 8 rfl rfl) (And.intro (F158.cl 3 9 rfl rfl) (And.intro (F158.cl 3 10 rfl rfl) (And.intro (F158.cl 3 11 rfl rfl) (And.intro (F158.cl 3 12 rfl rfl) (And.intro (F158.cl 3 13 rfl rfl) (And.intro (F158.cl 3 14 rfl rfl) (And.intro (F158.cl 3 15 rfl rfl) (And.intro (F158.cl 4 1 rfl rfl) (F158.cl 5 1 rfl rfl))))))))))))))))))
                refine ru_t 0 [] ?_
                refine ru_t 1 [] ?_
                refine ru_t 2 [] ?_
                refine ru_t 3 [] ?_
                refine ru_t 4 [] ?_
                refine ru_t 5 [] ?_
                refine ru_t 6 [] ?_
                refine ru_t 7 [] ?_
                refine ru_t 8 [] ?_
                refine ru_t 9 [] ?_
                refine ru_t 10 [] ?_
                refine ru_t 11 [] ?_
                refine ru_t 12 [] ?_
                refine ru_t 13 [] ?_
                refine ru_t 14 [] ?_
                refine ru_t 15 [] ?_
                (try simp only [Act.put, List.setIfInBounds_toArray, List.set_cons_zero, List.set_cons_succ])
                clear hS159
                refine ru_one 16 rfl (by kernel_rfl) (fun K hK => ?_)
                go_simp
                refine (ready_c _ _ _ l ic _ _ _ dl near _ (F158.at 8 rfl : Sl covEnc 3 lo_l hi_l _ (.slice sal l.cov.length scl) l.cov) (by first | omega | (simp; omega)) (F158.at 6 rfl : Sl weaEnc 6 ld_dl hd_dl _ (.slice da_dl dl.length dc_dl) dl) (by first | omega | (simp; omega))).mono ?_
                rintro e w163 ⟨rfl, hg161⟩
                have hg161s := hg161.size
                (try simp at hg161s)
                have F164 := F158.gn hg161
                clear F158
                refine ru_back hK (by exact ⟨F164.cl 2 8 rfl rfl, F164.cl 2 9 rfl rfl, F164.cl 2 10 rfl rfl, F164.cl 2 11 rfl rfl, F164.cl 2 12 rfl rfl, F164.cl 2 13 rfl rfl, F164.cl 2 14 rfl rfl, F164.cl 2 15 rfl rfl, F164.cl 3 8 rfl rfl, F164.cl 3 9 rfl rfl, F164.cl 3 10 rfl rfl, F164.cl 3 11 rfl rfl, F164.cl 3 12 rfl rfl, F164.cl 3 13 rfl rfl, F164.cl 3 14 rfl rfl, F164.cl 3 15 rfl rfl, F164.cl 4 1 rfl rfl, F164.cl 5 1 rfl rfl⟩) (fun hHeld => ?_)
                clear hK K
                (try simp only [Act.put, List.setIfInBounds_toArray, List.set_cons_zero, List.set_cons_succ])
                refine ru_p 17 ?_
                (try simp only [Act.put, List.setIfInBounds_toArray, List.set_cons_zero, List.set_cons_succ])
                refine ru_p 18 ?_
                refine ru_p 19 ?_
                refine ru_p 20 ?_
                (try simp only [Act.put, List.setIfInBounds_toArray, List.set_cons_zero, List.set_cons_succ])
                refine ru_p 21 ?_
                (try simp only [Act.put, List.setIfInBounds_toArray, List.set_cons_zero, List.set_cons_succ])
                refine ru_p 22 ?_
                (try simp only [Act.put, List.setIfInBounds_toArray, List.set_cons_zero, List.set_cons_succ])
                refine ru_one 23 rfl (by kernel_rfl) (fun K hK => ?_)
                go_simp
                refine ru_back_late hK (by kernel_rfl) ?_
                clear hK K
                (try simp only [Act.put, List.setIfInBounds_toArray, List.set_cons_zero, List.set_cons_succ])
                refine ru_done (by kernel_rfl) ?_
                have Fn_ := F164
                (try dsimp only [List.eraseIdx_cons_succ, List.eraseIdx_cons_zero] at Fn_)
                obtain ⟨w165, hx166, F168, hxs167⟩ := Fn_.name
                (try simp at hxs167)
                rw [hx166]
                clear hx166 F164 Fn_
                go_wp2_with fail
                have F169 := F168.drew
                clear F168
                refine ru_begin (fun W => W.cell? ⟨g64, 8, none⟩ = some (.int .i64 l.gr) ∧ W.cell? ⟨g64, 9, none⟩ = some (.int .i64 l.la) ∧ W.cell? ⟨g64, 10, none⟩ = some (.slice sal l.cov.length scl) ∧ W.cell? ⟨g64, 11, none⟩ = some (.int .i64 l.melt.lo) ∧ W.cell? ⟨g64, 12, none⟩ = some (.int .i64 l.melt.hi) ∧ W.cell? ⟨g64, 13, none⟩ = some (.int .i64 l.soak) ∧ W.cell? ⟨g64, 14, none⟩ = some (.int .i64 l.white.lo) ∧ W.cell? ⟨g64, 15, none⟩ = some (.int .i64 l.white.hi) ∧ W.cell? ⟨g65, 8, none⟩ = some (.int .i64 ic.bl.lo) ∧ W.cell? ⟨g65, 9, none⟩ = some (.int .i64 ic.bl.hi) ∧ W.cell? ⟨g65, 10, none⟩ = some (.int .i64 ic.wh.lo) ∧ W.cell? ⟨g65, 11, none⟩ = some (.int .i64 ic.wh.hi) ∧ W.cell? ⟨g65, 12, none⟩ = some (.int .i64 ic.we.lo) ∧ W.cell? ⟨g65, 13, none⟩ = some (.int .i64 ic.we.hi) ∧ W.cell? ⟨g65, 14, none⟩ = some (.int .i64 ic.sn.lo) ∧ W.cell? ⟨g65, 15, none⟩ = some (.int .i64 ic.sn.hi) ∧ W.cell? ⟨g66, 1, none⟩ = some (.slice da_dl dl.length dc_dl) ∧ W.cell? ⟨g67, 1, none⟩ = some (.int .i64 near)) 23 (by kernel_rfl) ?_ ?_
                · exact ⟨F169.cl 2 8 rfl rfl, F169.cl 2 9 rfl rfl, F169.cl 2 10 rfl rfl, F169.cl 2 11 rfl rfl, F169.cl 2 12 rfl rfl, F169.cl 2 13 rfl rfl, F169.cl 2 14 rfl rfl, F169.cl 2 15 rfl rfl, F169.cl 3 8 rfl rfl, F169.cl 3 9 rfl rfl, F169.cl 3 10 rfl rfl, F169.cl 3 11 rfl rfl, F169.cl 3 12 rfl rfl, F169.cl 3 13 rfl rfl, F169.cl 3 14 rfl rfl, F169.cl 3 15 rfl rfl, F169.cl 4 1 rfl rfl, F169.cl 5 1 rfl rfl⟩
                obtain ⟨wd171, hwd_⟩ : ∃ x : World, w165.drew = x := ⟨_, rfl⟩
                rw [hwd_] at F169 ⊢
                have wd171s : w165.heap.size ≤ wd171.heap.size := by rw [← hwd_]; exact Nat.le_refl _
                clear hwd_
                have hS170 := (And.intro (F169.cl 2 8 rfl rfl) (And.intro (F169.cl 2 9 rfl rfl) (And.intro (F169.cl 2 10 rfl rfl) (And.intro (F169.cl 2 11 rfl rfl) (And.intro (F169.cl 2 12 rfl rfl) (And.intro (F169.cl 2 13 rfl rfl) (And.intro (F169.cl 2 14 rfl rfl) (And.intro (F169.cl 2 15 rfl rfl) (And.intro (F169.cl 3 8 rfl rfl) (And.intro (F169.cl 3 9 rfl rfl) (And.intro (F169.cl 3 10 rfl rfl) (And.intro (F169.cl 3 11 rfl rfl) (And.intro (F169.cl 3 12 rfl rfl) (And.intro (F169.cl 3 13 rfl rfl) (And.intro (F169.cl 3 14 rfl rfl) (And.intro (F169.cl 3 15 rfl rfl) (And.intro (F169.cl 4 1 rfl rfl) (F169.cl 5 1 rfl rfl))))))))))))))))))
                refine ru_t 0 [] ?_
                refine ru_t 1 [] ?_
                refine ru_t 2 [] ?_
                refine ru_t 3 [] ?_
                refine ru_t 4 [] ?_
                refine ru_t 5 [] ?_
                refine ru_t 6 [] ?_
                refine ru_t 7 [] ?_
                refine ru_t 8 [] ?_
                refine ru_t 9 [] ?_
                refine ru_t 10 [] ?_
                refine ru_t 11 [] ?_
                refine ru_t 12 [] ?_
                refine ru_t 13 [] ?_
                refine ru_t 14 [] ?_
                refine ru_t 15 [] ?_
                (try simp only [Act.put, List.setIfInBounds_toArray, List.set_cons_zero, List.set_cons_succ])
                clear hS170
                refine ru_one 16 rfl (by kernel_rfl) (fun K hK => ?_)
                go_simp
                refine (rready_c _ _ _ l ic _ _ _ dl near _ (F169.at 8 rfl : Sl covEnc 3 lo_l hi_l _ (.slice sal l.cov.length scl) l.cov) (by first | omega | (simp; omega)) (F169.at 6 rfl : Sl weaEnc 6 ld_dl hd_dl _ (.slice da_dl dl.length dc_dl) dl) (by first | omega | (simp; omega))).mono ?_
                rintro e w174 ⟨rfl, hg172⟩
                have hg172s := hg172.size
                (try simp at hg172s)
                have F175 := F169.gn hg172
                clear F169
                refine ru_back hK (by exact ⟨F175.cl 2 8 rfl rfl, F175.cl 2 9 rfl rfl, F175.cl 2 10 rfl rfl, F175.cl 2 11 rfl rfl, F175.cl 2 12 rfl rfl, F175.cl 2 13 rfl rfl, F175.cl 2 14 rfl rfl, F175.cl 2 15 rfl rfl, F175.cl 3 8 rfl rfl, F175.cl 3 9 rfl rfl, F175.cl 3 10 rfl rfl, F175.cl 3 11 rfl rfl, F175.cl 3 12 rfl rfl, F175.cl 3 13 rfl rfl, F175.cl 3 14 rfl rfl, F175.cl 3 15 rfl rfl, F175.cl 4 1 rfl rfl, F175.cl 5 1 rfl rfl⟩) (fun hHeld => ?_)
                clear hK K
                (try simp only [Act.put, List.setIfInBounds_toArray, List.set_cons_zero, List.set_cons_succ])
                refine ru_p 17 ?_
                (try simp only [Act.put, List.setIfInBounds_toArray, List.set_cons_zero, List.set_cons_succ])
                refine ru_p 18 ?_
                refine ru_p 19 ?_
                refine ru_p 20 ?_
                (try simp only [Act.put, List.setIfInBounds_toArray, List.set_cons_zero, List.set_cons_succ])
                refine ru_p 21 ?_
                (try simp only [Act.put, List.setIfInBounds_toArray, List.set_cons_zero, List.set_cons_succ])
                refine ru_p 22 ?_
                (try simp only [Act.put, List.setIfInBounds_toArray, List.set_cons_zero, List.set_cons_succ])
                refine ru_one 23 rfl (by kernel_rfl) (fun K hK => ?_)
                go_simp
                refine ru_back_late hK (by kernel_rfl) ?_
                clear hK K
                (try simp only [Act.put, List.setIfInBounds_toArray, List.set_cons_zero, List.set_cons_succ])
                refine ru_done (by kernel_rfl) ?_
                have Fn_ := F175
                (try dsimp only [List.eraseIdx_cons_succ, List.eraseIdx_cons_zero] at Fn_)
                obtain ⟨w176, hx177, F179, hxs178⟩ := Fn_.name
                (try simp at hxs178)
                rw [hx177]
                clear hx177 F175 Fn_
                have b180 := F179.bx2 0 rfl
                have b181 := F179.bx2 1 rfl
                go_wp2_with fail
                clear b180 b181
                rw [rounds_succ]
                go_wp2_with fail
                have F182 := F179.drew
                clear F179
                refine ru_begin (fun W => W.cell? ⟨g64, 16, none⟩ = some (.int .i64 l.gr) ∧ W.cell? ⟨g64, 17, none⟩ = some (.int .i64 l.la) ∧ W.cell? ⟨g64, 18, none⟩ = some (.slice sal l.cov.length scl) ∧ W.cell? ⟨g64, 19, none⟩ = some (.int .i64 l.melt.lo) ∧ W.cell? ⟨g64, 20, none⟩ = some (.int .i64 l.melt.hi) ∧ W.cell? ⟨g64, 21, none⟩ = some (.int .i64 l.soak) ∧ W.cell? ⟨g64, 22, none⟩ = some (.int .i64 l.white.lo) ∧ W.cell? ⟨g64, 23, none⟩ = some (.int .i64 l.white.hi) ∧ W.cell? ⟨g65, 16, none⟩ = some (.int .i64 x0.bl.lo) ∧ W.cell? ⟨g65, 17, none⟩ = some (.int .i64 x0.bl.hi) ∧ W.cell? ⟨g65, 18, none⟩ = some (.int .i64 x0.wh.lo) ∧ W.cell? ⟨g65, 19, none⟩ = some (.int .i64 x0.wh.hi) ∧ W.cell? ⟨g65, 20, none⟩ = some (.int .i64 x0.we.lo) ∧ W.cell? ⟨g65, 21, none⟩ = some (.int .i64 x0.we.hi) ∧ W.cell? ⟨g65, 22, none⟩ = some (.int .i64 x0.sn.lo) ∧ W.cell? ⟨g65, 23, none⟩ = some (.int .i64 x0.sn.hi)) 14 (by kernel_rfl) ?_ ?_
                · exact ⟨F182.cl 2 16 rfl rfl, F182.cl 2 17 rfl rfl, F182.cl 2 18 rfl rfl, F182.cl 2 19 rfl rfl, F182.cl 2 20 rfl rfl, F182.cl 2 21 rfl rfl, F182.cl 2 22 rfl rfl, F182.cl 2 23 rfl rfl, F182.cl 3 16 rfl rfl, F182.cl 3 17 rfl rfl, F182.cl 3 18 rfl rfl, F182.cl 3 19 rfl rfl, F182.cl 3 20 rfl rfl, F182.cl 3 21 rfl rfl, F182.cl 3 22 rfl rfl, F182.cl 3 23 rfl rfl⟩
                obtain ⟨wd184, hwd_⟩ : ∃ x : World, w176.drew = x := ⟨_, rfl⟩
                rw [hwd_] at F182 ⊢
                have wd184s : w176.heap.size ≤ wd184.heap.size := by rw [← hwd_]; exact Nat.le_refl _
                clear hwd_
                have hS183 := (And.intro (F182.cl 2 16 rfl rfl) (And.intro (F182.cl 2 17 rfl rfl) (And.intro (F182.cl 2 18 rfl rfl) (And.intro (F182.cl 2 19 rfl rfl) (And.intro (F182.cl 2 20 rfl rfl) (And.intro (F182.cl 2 21 rfl rfl) (And.intro (F182.cl 2 22 rfl rfl) (And.intro (F182.cl 2 23 rfl rfl) (And.intro (F182.cl 3 16 rfl rfl) (And.intro (F182.cl 3 17 rfl rfl) (And.intro (F182.cl 3 18 rfl rfl) (And.intro (F182.cl 3 19 rfl rfl) (And.intro (F182.cl 3 20 rfl rfl) (And.intro (F182.cl 3 21 rfl rfl) (And.intro (F182.cl 3 22 rfl rfl) (F182.cl 3 23 rfl rfl))))))))))))))))
                refine ru_t 0 [] ?_
                refine ru_t 1 [] ?_
                refine ru_t 2 [] ?_
                refine ru_t 3 [] ?_
                refine ru_t 4 [] ?_
                refine ru_t 5 [] ?_
                refine ru_t 6 [] ?_
                refine ru_t 7 [] ?_
                (try simp only [Act.put, List.setIfInBounds_toArray, List.set_cons_zero, List.set_cons_succ])
                clear hS183
                have hSS := ru_hS F182 (S := fun W => W.cell? ⟨g64, 16, none⟩ = some (.int .i64 l.gr) ∧ W.cell? ⟨g64, 17, none⟩ = some (.int .i64 l.la) ∧ W.cell? ⟨g64, 18, none⟩ = some (.slice sal l.cov.length scl) ∧ W.cell? ⟨g64, 19, none⟩ = some (.int .i64 l.melt.lo) ∧ W.cell? ⟨g64, 20, none⟩ = some (.int .i64 l.melt.hi) ∧ W.cell? ⟨g64, 21, none⟩ = some (.int .i64 l.soak) ∧ W.cell? ⟨g64, 22, none⟩ = some (.int .i64 l.white.lo) ∧ W.cell? ⟨g64, 23, none⟩ = some (.int .i64 l.white.hi) ∧ W.cell? ⟨g65, 16, none⟩ = some (.int .i64 x0.bl.lo) ∧ W.cell? ⟨g65, 17, none⟩ = some (.int .i64 x0.bl.hi) ∧ W.cell? ⟨g65, 18, none⟩ = some (.int .i64 x0.wh.lo) ∧ W.cell? ⟨g65, 19, none⟩ = some (.int .i64 x0.wh.hi) ∧ W.cell? ⟨g65, 20, none⟩ = some (.int .i64 x0.we.lo) ∧ W.cell? ⟨g65, 21, none⟩ = some (.int .i64 x0.we.hi) ∧ W.cell? ⟨g65, 22, none⟩ = some (.int .i64 x0.sn.lo) ∧ W.cell? ⟨g65, 23, none⟩ = some (.int .i64 x0.sn.hi)) (fun _ _ F_ => ⟨F_.cl 2 16 rfl rfl, F_.cl 2 17 rfl rfl, F_.cl 2 18 rfl rfl, F_.cl 2 19 rfl rfl, F_.cl 2 20 rfl rfl, F_.cl 2 21 rfl rfl, F_.cl 2 22 rfl rfl, F_.cl 2 23 rfl rfl, F_.cl 3 16 rfl rfl, F_.cl 3 17 rfl rfl, F_.cl 3 18 rfl rfl, F_.cl 3 19 rfl rfl, F_.cl 3 20 rfl rfl, F_.cl 3 21 rfl rfl, F_.cl 3 22 rfl rfl, F_.cl 3 23 rfl rfl⟩)
                refine ru_mixS 200 [⟨13, 23, 27, fun t => #[.int .i64 0, .int .i64 0], ptrOf, fun t => True⟩] [] [8, 9, 10, 11, 12] 3 F182 (by kernel_rfl) (by kernel_rfl) (fun _ _ _ _ _ h => h) (U0 := (fun t => t 18 = .slice (some ⟨g64, 0, none⟩) 3 3 ∧ t 19 = .slice (some ⟨g65, 0, none⟩) 3 3 ∧ t 20 = .slice (some ⟨g66, 0, none⟩) 3 3 ∧ t 21 = .slice (some ⟨g67, 0, none⟩) 3 3 ∧ t 22 = .int .i64 2 ∧ t 107 = .agg (froC l (.slice sal l.cov.length scl)) ∧ t 111 = .agg (iceC x0) ∧ t 175 = .int .i64 (bearS l ic) ∧ t 176 = .int .i64 (bearS l ic) ∧ t 177 = .bool false ∧ t 180 = .int .i64 (allE l ic []) ∧ t 181 = .int .i64 (allE l ic []) ∧ t 182 = .bool false ∧ t 185 = .int .i64 (readyS l ic dl near) ∧ t 186 = .int .i64 (readyS l ic dl near) ∧ t 187 = .bool false ∧ t 190 = .int .i64 (readyP l ic dl near) ∧ t 191 = .int .i64 (readyP l ic dl near) ∧ t 192 = .bool false ∧ t 195 = .int .i64 (readyE l ic dl near) ∧ t 196 = .int .i64 (readyE l ic dl near) ∧ t 197 = .bool false)) (Um := (fun t => t 18 = .slice (some ⟨g64, 0, none⟩) 3 3 ∧ t 19 = .slice (some ⟨g65, 0, none⟩) 3 3 ∧ t 20 = .slice (some ⟨g66, 0, none⟩) 3 3 ∧ t 21 = .slice (some ⟨g67, 0, none⟩) 3 3 ∧ t 22 = .int .i64 2 ∧ t 113 = .agg #[.int .i64 ((bearT l x0).lo), .int .i64 ((bearT l x0).hi)] ∧ t 114 = .int .i64 (bearS l x0) ∧ t 115 = .int .i64 (allE l x0 []) ∧ t 175 = .int .i64 (bearS l ic) ∧ t 176 = .int .i64 (bearS l ic) ∧ t 177 = .bool false ∧ t 180 = .int .i64 (allE l ic []) ∧ t 181 = .int .i64 (allE l ic []) ∧ t 182 = .bool false ∧ t 185 = .int .i64 (readyS l ic dl near) ∧ t 186 = .int .i64 (readyS l ic dl near) ∧ t 187 = .bool false ∧ t 190 = .int .i64 (readyP l ic dl near) ∧ t 191 = .int .i64 (readyP l ic dl near) ∧ t 192 = .bool false ∧ t 195 = .int .i64 (readyE l ic dl near) ∧ t 196 = .int .i64 (readyE l ic dl near) ∧ t 197 = .bool false)) ?chM185 ?alM185 ?mvM185 (List.forall_mem_cons.2 ⟨List.forall_mem_cons.2 ⟨fun _ _ => rfl, fun _ h => (by cases h)⟩, fun _ h => (by cases h)⟩) ⟨(by kernel_rfl), rfl, ⟨(by kernel_rfl), (by kernel_rfl), (by kernel_rfl), (by kernel_rfl), (by kernel_rfl), (by kernel_rfl), (by kernel_rfl), (by kernel_rfl), (by kernel_rfl), (by kernel_rfl), (by kernel_rfl), (by kernel_rfl), (by kernel_rfl), (by kernel_rfl), (by kernel_rfl), (by kernel_rfl), (by kernel_rfl), (by kernel_rfl), (by kernel_rfl), (by kernel_rfl), (by kernel_rfl), (by kernel_rfl)⟩⟩ ?restM185
                case chM185 =>
                  refine ChainL.callS 8 (fun t => t 18 = .slice (some ⟨g64, 0, none⟩) 3 3 ∧ t 19 = .slice (some ⟨g65, 0, none⟩) 3 3 ∧ t 20 = .slice (some ⟨g66, 0, none⟩) 3 3 ∧ t 21 = .slice (some ⟨g67, 0, none⟩) 3 3 ∧ t 22 = .int .i64 2 ∧ t 112 = .tuple #[.agg #[.int .i64 ((bearT l x0).lo), .int .i64 ((bearT l x0).hi)], .int .i64 (bearS l x0), .int .i64 (allE l x0 [])] ∧ t 175 = .int .i64 (bearS l ic) ∧ t 176 = .int .i64 (bearS l ic) ∧ t 177 = .bool false ∧ t 180 = .int .i64 (allE l ic []) ∧ t 181 = .int .i64 (allE l ic []) ∧ t 182 = .bool false ∧ t 185 = .int .i64 (readyS l ic dl near) ∧ t 186 = .int .i64 (readyS l ic dl near) ∧ t 187 = .bool false ∧ t 190 = .int .i64 (readyP l ic dl near) ∧ t 191 = .int .i64 (readyP l ic dl near) ∧ t 192 = .bool false ∧ t 195 = .int .i64 (readyE l ic dl near) ∧ t 196 = .int .i64 (readyE l ic dl near) ∧ t 197 = .bool false) (List.forall_mem_cons.2 ⟨fun _ _ u => u, fun _ h => (by cases h)⟩) hSS (List.forall_mem_cons.2 ⟨fun _ t ⟨e18, e19, e20, e21, e22, e107, e111, e175, e176, e177, e180, e181, e182, e185, e186, e187, e190, e191, e192, e195, e196, e197⟩ => trivial, fun _ h => (by cases h)⟩) (by kernel_rfl) ?_ ?_
                  · rintro t w_ LA ⟨e18, e19, e20, e21, e22, e107, e111, e175, e176, e177, e180, e181, e182, e185, e186, e187, e190, e191, e192, e195, e196, e197⟩ ⟨F_, hwn_⟩
                    have hws := F_.gb.size
                    rw [rng_bears_walk t, e18, e19, e20, e21, e22, e107, e111, e175, e176, e177, e180, e181, e182, e185, e186, e187, e190, e191, e192, e195, e196, e197]
                    clear e18 e19 e20 e21 e22 e107 e111 e175 e176 e177 e180 e181 e182 e185 e186 e187 e190 e191 e192 e195 e196 e197
                    refine wpOp_stepH rfl (fun K hK => ?_)
                    go_simp
                    refine (bearing_c _ _ _ l x0 _ (F_.at 8 rfl : Sl covEnc 3 lo_l hi_l _ (.slice sal l.cov.length scl) l.cov) (by first | omega | (simp; omega))).mono ?_
                    rintro e w186 ⟨rfl, hg187⟩
                    exact hK.out _ _ ⟨(by kernel_rfl), rfl, ⟨(by kernel_rfl), (by kernel_rfl), (by kernel_rfl), (by kernel_rfl), (by kernel_rfl), (by kernel_rfl), (by kernel_rfl), (by kernel_rfl), (by kernel_rfl), (by kernel_rfl), (by kernel_rfl), (by kernel_rfl), (by kernel_rfl), (by kernel_rfl), (by kernel_rfl), (by kernel_rfl), (by kernel_rfl), (by kernel_rfl), (by kernel_rfl), (by kernel_rfl), (by kernel_rfl)⟩, List.forall_mem_cons.2 ⟨(by kernel_rfl), fun _ h => (by cases h)⟩, List.forall_mem_cons.2 ⟨fun _ => (by kernel_rfl), fun _ h => (by cases h)⟩, ⟨F_.gn hg187, Nat.le_trans hwn_ hg187.size⟩, hSS _ _ ⟨F_.gn hg187, Nat.le_trans hwn_ hg187.size⟩⟩
                  refine ChainL.pureS 9 (fun t => t 18 = .slice (some ⟨g64, 0, none⟩) 3 3 ∧ t 19 = .slice (some ⟨g65, 0, none⟩) 3 3 ∧ t 20 = .slice (some ⟨g66, 0, none⟩) 3 3 ∧ t 21 = .slice (some ⟨g67, 0, none⟩) 3 3 ∧ t 22 = .int .i64 2 ∧ t 103 = .tuple #[.agg #[.int .i64 ((bearT l x0).lo), .int .i64 ((bearT l x0).hi)], .int .i64 (bearS l x0), .int .i64 (allE l x0 [])] ∧ t 175 = .int .i64 (bearS l ic) ∧ t 176 = .int .i64 (bearS l ic) ∧ t 177 = .bool false ∧ t 180 = .int .i64 (allE l ic []) ∧ t 181 = .int .i64 (allE l ic []) ∧ t 182 = .bool false ∧ t 185 = .int .i64 (readyS l ic dl near) ∧ t 186 = .int .i64 (readyS l ic dl near) ∧ t 187 = .bool false ∧ t 190 = .int .i64 (readyP l ic dl near) ∧ t 191 = .int .i64 (readyP l ic dl near) ∧ t 192 = .bool false ∧ t 195 = .int .i64 (readyE l ic dl near) ∧ t 196 = .int .i64 (readyE l ic dl near) ∧ t 197 = .bool false) rfl (List.forall_mem_cons.2 ⟨fun _ _ u => u, fun _ h => (by cases h)⟩) hSS (List.forall_mem_cons.2 ⟨fun _ t ⟨e18, e19, e20, e21, e22, e112, e175, e176, e177, e180, e181, e182, e185, e186, e187, e190, e191, e192, e195, e196, e197⟩ => trivial, fun _ h => (by cases h)⟩) (by kernel_rfl) ?_ ?_
                  · rintro t ⟨e18, e19, e20, e21, e22, e112, e175, e176, e177, e180, e181, e182, e185, e186, e187, e190, e191, e192, e195, e196, e197⟩
                    rw [rng_bears_walk t, e18, e19, e20, e21, e22, e112, e175, e176, e177, e180, e181, e182, e185, e186, e187, e190, e191, e192, e195, e196, e197]
                    clear e18 e19 e20 e21 e22 e112 e175 e176 e177 e180 e181 e182 e185 e186 e187 e190 e191 e192 e195 e196 e197
                    refine ⟨.tuple #[.agg #[.int .i64 ((bearT l x0).lo), .int .i64 ((bearT l x0).hi)], .int .i64 (bearS l x0), .int .i64 (allE l x0 [])], .inl ⟨by first | kernel_rfl | rfl, ?_⟩, ⟨(by kernel_rfl), rfl⟩, ⟨(by kernel_rfl), (by kernel_rfl), (by kernel_rfl), (by kernel_rfl), (by kernel_rfl), (by kernel_rfl), (by kernel_rfl), (by kernel_rfl), (by kernel_rfl), (by kernel_rfl), (by kernel_rfl), (by kernel_rfl), (by kernel_rfl), (by kernel_rfl), (by kernel_rfl), (by kernel_rfl), (by kernel_rfl), (by kernel_rfl), (by kernel_rfl), (by kernel_rfl), (by kernel_rfl)⟩, List.forall_mem_cons.2 ⟨(by kernel_rfl), fun _ h => (by cases h)⟩, List.forall_mem_cons.2 ⟨fun _ => (by kernel_rfl), fun _ h => (by cases h)⟩⟩
                    intro wS _
                    go_simp
                    (try with_reducible rfl)
                  refine ChainL.pureS 10 (fun t => t 18 = .slice (some ⟨g64, 0, none⟩) 3 3 ∧ t 19 = .slice (some ⟨g65, 0, none⟩) 3 3 ∧ t 20 = .slice (some ⟨g66, 0, none⟩) 3 3 ∧ t 21 = .slice (some ⟨g67, 0, none⟩) 3 3 ∧ t 22 = .int .i64 2 ∧ t 103 = .tuple #[.agg #[.int .i64 ((bearT l x0).lo), .int .i64 ((bearT l x0).hi)], .int .i64 (bearS l x0), .int .i64 (allE l x0 [])] ∧ t 113 = .agg #[.int .i64 ((bearT l x0).lo), .int .i64 ((bearT l x0).hi)] ∧ t 175 = .int .i64 (bearS l ic) ∧ t 176 = .int .i64 (bearS l ic) ∧ t 177 = .bool false ∧ t 180 = .int .i64 (allE l ic []) ∧ t 181 = .int .i64 (allE l ic []) ∧ t 182 = .bool false ∧ t 185 = .int .i64 (readyS l ic dl near) ∧ t 186 = .int .i64 (readyS l ic dl near) ∧ t 187 = .bool false ∧ t 190 = .int .i64 (readyP l ic dl near) ∧ t 191 = .int .i64 (readyP l ic dl near) ∧ t 192 = .bool false ∧ t 195 = .int .i64 (readyE l ic dl near) ∧ t 196 = .int .i64 (readyE l ic dl near) ∧ t 197 = .bool false) rfl (List.forall_mem_cons.2 ⟨fun _ _ u => u, fun _ h => (by cases h)⟩) hSS (List.forall_mem_cons.2 ⟨fun _ t ⟨e18, e19, e20, e21, e22, e103, e175, e176, e177, e180, e181, e182, e185, e186, e187, e190, e191, e192, e195, e196, e197⟩ => trivial, fun _ h => (by cases h)⟩) (by kernel_rfl) ?_ ?_
                  · rintro t ⟨e18, e19, e20, e21, e22, e103, e175, e176, e177, e180, e181, e182, e185, e186, e187, e190, e191, e192, e195, e196, e197⟩
                    rw [rng_bears_walk t, e18, e19, e20, e21, e22, e103, e175, e176, e177, e180, e181, e182, e185, e186, e187, e190, e191, e192, e195, e196, e197]
                    clear e18 e19 e20 e21 e22 e103 e175 e176 e177 e180 e181 e182 e185 e186 e187 e190 e191 e192 e195 e196 e197
                    refine ⟨.agg #[.int .i64 ((bearT l x0).lo), .int .i64 ((bearT l x0).hi)], .inl ⟨by first | kernel_rfl | rfl, ?_⟩, ⟨(by kernel_rfl), rfl⟩, ⟨(by kernel_rfl), (by kernel_rfl), (by kernel_rfl), (by kernel_rfl), (by kernel_rfl), (by kernel_rfl), (by kernel_rfl), (by kernel_rfl), (by kernel_rfl), (by kernel_rfl), (by kernel_rfl), (by kernel_rfl), (by kernel_rfl), (by kernel_rfl), (by kernel_rfl), (by kernel_rfl), (by kernel_rfl), (by kernel_rfl), (by kernel_rfl), (by kernel_rfl), (by kernel_rfl), (by kernel_rfl)⟩, List.forall_mem_cons.2 ⟨(by kernel_rfl), fun _ h => (by cases h)⟩, List.forall_mem_cons.2 ⟨fun _ => (by kernel_rfl), fun _ h => (by cases h)⟩⟩
                    intro wS _
                    go_simp
                    (try with_reducible rfl)
                  refine ChainL.pureS 11 (fun t => t 18 = .slice (some ⟨g64, 0, none⟩) 3 3 ∧ t 19 = .slice (some ⟨g65, 0, none⟩) 3 3 ∧ t 20 = .slice (some ⟨g66, 0, none⟩) 3 3 ∧ t 21 = .slice (some ⟨g67, 0, none⟩) 3 3 ∧ t 22 = .int .i64 2 ∧ t 103 = .tuple #[.agg #[.int .i64 ((bearT l x0).lo), .int .i64 ((bearT l x0).hi)], .int .i64 (bearS l x0), .int .i64 (allE l x0 [])] ∧ t 113 = .agg #[.int .i64 ((bearT l x0).lo), .int .i64 ((bearT l x0).hi)] ∧ t 114 = .int .i64 (bearS l x0) ∧ t 175 = .int .i64 (bearS l ic) ∧ t 176 = .int .i64 (bearS l ic) ∧ t 177 = .bool false ∧ t 180 = .int .i64 (allE l ic []) ∧ t 181 = .int .i64 (allE l ic []) ∧ t 182 = .bool false ∧ t 185 = .int .i64 (readyS l ic dl near) ∧ t 186 = .int .i64 (readyS l ic dl near) ∧ t 187 = .bool false ∧ t 190 = .int .i64 (readyP l ic dl near) ∧ t 191 = .int .i64 (readyP l ic dl near) ∧ t 192 = .bool false ∧ t 195 = .int .i64 (readyE l ic dl near) ∧ t 196 = .int .i64 (readyE l ic dl near) ∧ t 197 = .bool false) rfl (List.forall_mem_cons.2 ⟨fun _ _ u => u, fun _ h => (by cases h)⟩) hSS (List.forall_mem_cons.2 ⟨fun _ t ⟨e18, e19, e20, e21, e22, e103, e113, e175, e176, e177, e180, e181, e182, e185, e186, e187, e190, e191, e192, e195, e196, e197⟩ => trivial, fun _ h => (by cases h)⟩) (by kernel_rfl) ?_ ?_
                  · rintro t ⟨e18, e19, e20, e21, e22, e103, e113, e175, e176, e177, e180, e181, e182, e185, e186, e187, e190, e191, e192, e195, e196, e197⟩
                    rw [rng_bears_walk t, e18, e19, e20, e21, e22, e103, e113, e175, e176, e177, e180, e181, e182, e185, e186, e187, e190, e191, e192, e195, e196, e197]
                    clear e18 e19 e20 e21 e22 e103 e113 e175 e176 e177 e180 e181 e182 e185 e186 e187 e190 e191 e192 e195 e196 e197
                    refine ⟨.int .i64 (bearS l x0), .inl ⟨by first | kernel_rfl | rfl, ?_⟩, ⟨(by kernel_rfl), rfl⟩, ⟨(by kernel_rfl), (by kernel_rfl), (by kernel_rfl), (by kernel_rfl), (by kernel_rfl), (by kernel_rfl), (by kernel_rfl), (by kernel_rfl), (by kernel_rfl), (by kernel_rfl), (by kernel_rfl), (by kernel_rfl), (by kernel_rfl), (by kernel_rfl), (by kernel_rfl), (by kernel_rfl), (by kernel_rfl), (by kernel_rfl), (by kernel_rfl), (by kernel_rfl), (by kernel_rfl), (by kernel_rfl), (by kernel_rfl)⟩, List.forall_mem_cons.2 ⟨(by kernel_rfl), fun _ h => (by cases h)⟩, List.forall_mem_cons.2 ⟨fun _ => (by kernel_rfl), fun _ h => (by cases h)⟩⟩
                    intro wS _
                    go_simp
                    (try with_reducible rfl)
                  refine ChainL.pureS 12 (fun t => t 18 = .slice (some ⟨g64, 0, none⟩) 3 3 ∧ t 19 = .slice (some ⟨g65, 0, none⟩) 3 3 ∧ t 20 = .slice (some ⟨g66, 0, none⟩) 3 3 ∧ t 21 = .slice (some ⟨g67, 0, none⟩) 3 3 ∧ t 22 = .int .i64 2 ∧ t 113 = .agg #[.int .i64 ((bearT l x0).lo), .int .i64 ((bearT l x0).hi)] ∧ t 114 = .int .i64 (bearS l x0) ∧ t 115 = .int .i64 (allE l x0 []) ∧ t 175 = .int .i64 (bearS l ic) ∧ t 176 = .int .i64 (bearS l ic) ∧ t 177 = .bool false ∧ t 180 = .int .i64 (allE l ic []) ∧ t 181 = .int .i64 (allE l ic []) ∧ t 182 = .bool false ∧ t 185 = .int .i64 (readyS l ic dl near) ∧ t 186 = .int .i64 (readyS l ic dl near) ∧ t 187 = .bool false ∧ t 190 = .int .i64 (readyP l ic dl near) ∧ t 191 = .int .i64 (readyP l ic dl near) ∧ t 192 = .bool false ∧ t 195 = .int .i64 (readyE l ic dl near) ∧ t 196 = .int .i64 (readyE l ic dl near) ∧ t 197 = .bool false) rfl (List.forall_mem_cons.2 ⟨fun _ _ u => u, fun _ h => (by cases h)⟩) hSS (List.forall_mem_cons.2 ⟨fun _ t ⟨e18, e19, e20, e21, e22, e103, e113, e114, e175, e176, e177, e180, e181, e182, e185, e186, e187, e190, e191, e192, e195, e196, e197⟩ => trivial, fun _ h => (by cases h)⟩) (by kernel_rfl) ?_ ?_
                  · rintro t ⟨e18, e19, e20, e21, e22, e103, e113, e114, e175, e176, e177, e180, e181, e182, e185, e186, e187, e190, e191, e192, e195, e196, e197⟩
                    rw [rng_bears_walk t, e18, e19, e20, e21, e22, e103, e113, e114, e175, e176, e177, e180, e181, e182, e185, e186, e187, e190, e191, e192, e195, e196, e197]
                    clear e18 e19 e20 e21 e22 e103 e113 e114 e175 e176 e177 e180 e181 e182 e185 e186 e187 e190 e191 e192 e195 e196 e197
                    refine ⟨.int .i64 (allE l x0 []), .inl ⟨by first | kernel_rfl | rfl, ?_⟩, ⟨(by kernel_rfl), rfl⟩, ⟨(by kernel_rfl), (by kernel_rfl), (by kernel_rfl), (by kernel_rfl), (by kernel_rfl), (by kernel_rfl), (by kernel_rfl), (by kernel_rfl), (by kernel_rfl), (by kernel_rfl), (by kernel_rfl), (by kernel_rfl), (by kernel_rfl), (by kernel_rfl), (by kernel_rfl), (by kernel_rfl), (by kernel_rfl), (by kernel_rfl), (by kernel_rfl), (by kernel_rfl), (by kernel_rfl), (by kernel_rfl), (by kernel_rfl)⟩, List.forall_mem_cons.2 ⟨(by kernel_rfl), fun _ h => (by cases h)⟩, List.forall_mem_cons.2 ⟨fun _ => (by kernel_rfl), fun _ h => (by cases h)⟩⟩
                    intro wS _
                    go_simp
                    (try with_reducible rfl)
                  exact ChainL.nil _ _ _ (List.forall_mem_cons.2 ⟨fun _ _ u => u, fun _ h => (by cases h)⟩) hSS (List.forall_mem_cons.2 ⟨fun _ t ⟨e18, e19, e20, e21, e22, e113, e114, e115, e175, e176, e177, e180, e181, e182, e185, e186, e187, e190, e191, e192, e195, e196, e197⟩ => trivial, fun _ h => (by cases h)⟩)
                case alM185 =>
                  refine List.forall_mem_cons.2 ⟨fun t w K hv h => ?_, ?_⟩
                  · exact wpOp_step rfl (fun K hK => by go_simp; exact hK _ _ h)
                  exact fun _ h => (by cases h)
                case mvM185 => exact fun _ h => (by cases h)
                case restM185 =>
                  rintro t w190 g ⟨e18, e19, e20, e21, e22, e113, e114, e115, e175, e176, e177, e180, e181, e182, e185, e186, e187, e190, e191, e192, e195, e196, e197⟩ hA hB ⟨F_, hwnM185⟩
                  clear hSS
                  clear F182
                  have hA0_0 : t 23 = .pointer (some ⟨g 13, 0, none⟩) := hA _ (.head _)
                  (try simp only [List.map_cons, List.map_nil, List.cons_append, List.nil_append] at F_)
                  have F191 := F_
                  clear hA hB F_
                  obtain ⟨g189, hgx_⟩ : ∃ x_, g 13 = x_ := ⟨_, rfl⟩
                  rw [hgx_] at hA0_0 F191; clear hgx_
                  have hws := F191.gb.size
                  have g189l := (F191.at 0 rfl : Bk _ _ _ _).lt
                  rw [rng_bears_walk t, e18, e19, e20, e21, e22, e113, e114, e115, e175, e176, e177, e180, e181, e182, e185, e186, e187, e190, e191, e192, e195, e196, e197, hA0_0]
                  clear e18 e19 e20 e21 e22 e113 e114 e115 e175 e176 e177 e180 e181 e182 e185 e186 e187 e190 e191 e192 e195 e196 e197 hA0_0
                  have hS_ : (fun W : World => W.cell? ⟨g64, 16, none⟩ = some (.int .i64 l.gr) ∧ W.cell? ⟨g64, 17, none⟩ = some (.int .i64 l.la) ∧ W.cell? ⟨g64, 18, none⟩ = some (.slice sal l.cov.length scl) ∧ W.cell? ⟨g64, 19, none⟩ = some (.int .i64 l.melt.lo) ∧ W.cell? ⟨g64, 20, none⟩ = some (.int .i64 l.melt.hi) ∧ W.cell? ⟨g64, 21, none⟩ = some (.int .i64 l.soak) ∧ W.cell? ⟨g64, 22, none⟩ = some (.int .i64 l.white.lo) ∧ W.cell? ⟨g64, 23, none⟩ = some (.int .i64 l.white.hi) ∧ W.cell? ⟨g65, 16, none⟩ = some (.int .i64 x0.bl.lo) ∧ W.cell? ⟨g65, 17, none⟩ = some (.int .i64 x0.bl.hi) ∧ W.cell? ⟨g65, 18, none⟩ = some (.int .i64 x0.wh.lo) ∧ W.cell? ⟨g65, 19, none⟩ = some (.int .i64 x0.wh.hi) ∧ W.cell? ⟨g65, 20, none⟩ = some (.int .i64 x0.we.lo) ∧ W.cell? ⟨g65, 21, none⟩ = some (.int .i64 x0.we.hi) ∧ W.cell? ⟨g65, 22, none⟩ = some (.int .i64 x0.sn.lo) ∧ W.cell? ⟨g65, 23, none⟩ = some (.int .i64 x0.sn.hi)) _ := ⟨F191.cl 3 16 rfl rfl, F191.cl 3 17 rfl rfl, F191.cl 3 18 rfl rfl, F191.cl 3 19 rfl rfl, F191.cl 3 20 rfl rfl, F191.cl 3 21 rfl rfl, F191.cl 3 22 rfl rfl, F191.cl 3 23 rfl rfl, F191.cl 4 16 rfl rfl, F191.cl 4 17 rfl rfl, F191.cl 4 18 rfl rfl, F191.cl 4 19 rfl rfl, F191.cl 4 20 rfl rfl, F191.cl 4 21 rfl rfl, F191.cl 4 22 rfl rfl, F191.cl 4 23 rfl rfl⟩
                  refine ru_one 14 rfl (by kernel_rfl) (fun K hK => ?_)
                  have kb_ := F191.bx2 0 rfl
                  go_simp
                  clear kb_
                  have F192 := F191.pt2 (.int .i64 ((bearT l x0).lo)) (.int .i64 ((bearT l x0).hi))
                  clear F191
                  refine ru_back_late hK (by kernel_rfl) ?_
                  clear hK K
                  (try simp only [Act.put, List.setIfInBounds_toArray, List.set_cons_zero, List.set_cons_succ])
                  refine ru_one 15 rfl (by kernel_rfl) (fun K hK => ?_)
                  go_simp
                  refine ru_back_late hK (by kernel_rfl) ?_
                  clear hK K
                  (try simp only [Act.put, List.setIfInBounds_toArray, List.set_cons_zero, List.set_cons_succ])
                  refine ru_one 16 rfl (by kernel_rfl) (fun K hK => ?_)
                  go_simp
                  refine ru_back_late hK (by kernel_rfl) ?_
                  clear hK K
                  (try simp only [Act.put, List.setIfInBounds_toArray, List.set_cons_zero, List.set_cons_succ])
                  refine ru_done (by kernel_rfl) ?_
                  have Fn_ := ((F192.drop 1 rfl).drop 1 rfl)
                  (try dsimp only [List.eraseIdx_cons_succ, List.eraseIdx_cons_zero] at Fn_)
                  obtain ⟨w193, hx194, F196, hxs195⟩ := Fn_.name
                  (try simp at hxs195)
                  rw [hx194]
                  clear hx194 F192 Fn_
                  go_wp2_with fail
                  have F197 := F196.drew
                  clear F196
                  refine ru_begin (fun W => W.cell? ⟨g64, 16, none⟩ = some (.int .i64 l.gr) ∧ W.cell? ⟨g64, 17, none⟩ = some (.int .i64 l.la) ∧ W.cell? ⟨g64, 18, none⟩ = some (.slice sal l.cov.length scl) ∧ W.cell? ⟨g64, 19, none⟩ = some (.int .i64 l.melt.lo) ∧ W.cell? ⟨g64, 20, none⟩ = some (.int .i64 l.melt.hi) ∧ W.cell? ⟨g64, 21, none⟩ = some (.int .i64 l.soak) ∧ W.cell? ⟨g64, 22, none⟩ = some (.int .i64 l.white.lo) ∧ W.cell? ⟨g64, 23, none⟩ = some (.int .i64 l.white.hi) ∧ W.cell? ⟨g65, 16, none⟩ = some (.int .i64 x0.bl.lo) ∧ W.cell? ⟨g65, 17, none⟩ = some (.int .i64 x0.bl.hi) ∧ W.cell? ⟨g65, 18, none⟩ = some (.int .i64 x0.wh.lo) ∧ W.cell? ⟨g65, 19, none⟩ = some (.int .i64 x0.wh.hi) ∧ W.cell? ⟨g65, 20, none⟩ = some (.int .i64 x0.we.lo) ∧ W.cell? ⟨g65, 21, none⟩ = some (.int .i64 x0.we.hi) ∧ W.cell? ⟨g65, 22, none⟩ = some (.int .i64 x0.sn.lo) ∧ W.cell? ⟨g65, 23, none⟩ = some (.int .i64 x0.sn.hi)) 14 (by kernel_rfl) ?_ ?_
                  · exact ⟨F197.cl 1 16 rfl rfl, F197.cl 1 17 rfl rfl, F197.cl 1 18 rfl rfl, F197.cl 1 19 rfl rfl, F197.cl 1 20 rfl rfl, F197.cl 1 21 rfl rfl, F197.cl 1 22 rfl rfl, F197.cl 1 23 rfl rfl, F197.cl 2 16 rfl rfl, F197.cl 2 17 rfl rfl, F197.cl 2 18 rfl rfl, F197.cl 2 19 rfl rfl, F197.cl 2 20 rfl rfl, F197.cl 2 21 rfl rfl, F197.cl 2 22 rfl rfl, F197.cl 2 23 rfl rfl⟩
                  obtain ⟨wd199, hwd_⟩ : ∃ x : World, w193.drew = x := ⟨_, rfl⟩
                  rw [hwd_] at F197 ⊢
                  have wd199s : w193.heap.size ≤ wd199.heap.size := by rw [← hwd_]; exact Nat.le_refl _
                  clear hwd_
                  have hS198 := (And.intro (F197.cl 1 16 rfl rfl) (And.intro (F197.cl 1 17 rfl rfl) (And.intro (F197.cl 1 18 rfl rfl) (And.intro (F197.cl 1 19 rfl rfl) (And.intro (F197.cl 1 20 rfl rfl) (And.intro (F197.cl 1 21 rfl rfl) (And.intro (F197.cl 1 22 rfl rfl) (And.intro (F197.cl 1 23 rfl rfl) (And.intro (F197.cl 2 16 rfl rfl) (And.intro (F197.cl 2 17 rfl rfl) (And.intro (F197.cl 2 18 rfl rfl) (And.intro (F197.cl 2 19 rfl rfl) (And.intro (F197.cl 2 20 rfl rfl) (And.intro (F197.cl 2 21 rfl rfl) (And.intro (F197.cl 2 22 rfl rfl) (F197.cl 2 23 rfl rfl))))))))))))))))
                  refine ru_t 0 [] ?_
                  refine ru_t 1 [] ?_
                  refine ru_t 2 [] ?_
                  refine ru_t 3 [] ?_
                  refine ru_t 4 [] ?_
                  refine ru_t 5 [] ?_
                  refine ru_t 6 [] ?_
                  refine ru_t 7 [] ?_
                  (try simp only [Act.put, List.setIfInBounds_toArray, List.set_cons_zero, List.set_cons_succ])
                  clear hS198
                  have hSS := ru_hS F197 (S := fun W => W.cell? ⟨g64, 16, none⟩ = some (.int .i64 l.gr) ∧ W.cell? ⟨g64, 17, none⟩ = some (.int .i64 l.la) ∧ W.cell? ⟨g64, 18, none⟩ = some (.slice sal l.cov.length scl) ∧ W.cell? ⟨g64, 19, none⟩ = some (.int .i64 l.melt.lo) ∧ W.cell? ⟨g64, 20, none⟩ = some (.int .i64 l.melt.hi) ∧ W.cell? ⟨g64, 21, none⟩ = some (.int .i64 l.soak) ∧ W.cell? ⟨g64, 22, none⟩ = some (.int .i64 l.white.lo) ∧ W.cell? ⟨g64, 23, none⟩ = some (.int .i64 l.white.hi) ∧ W.cell? ⟨g65, 16, none⟩ = some (.int .i64 x0.bl.lo) ∧ W.cell? ⟨g65, 17, none⟩ = some (.int .i64 x0.bl.hi) ∧ W.cell? ⟨g65, 18, none⟩ = some (.int .i64 x0.wh.lo) ∧ W.cell? ⟨g65, 19, none⟩ = some (.int .i64 x0.wh.hi) ∧ W.cell? ⟨g65, 20, none⟩ = some (.int .i64 x0.we.lo) ∧ W.cell? ⟨g65, 21, none⟩ = some (.int .i64 x0.we.hi) ∧ W.cell? ⟨g65, 22, none⟩ = some (.int .i64 x0.sn.lo) ∧ W.cell? ⟨g65, 23, none⟩ = some (.int .i64 x0.sn.hi)) (fun _ _ F_ => ⟨F_.cl 1 16 rfl rfl, F_.cl 1 17 rfl rfl, F_.cl 1 18 rfl rfl, F_.cl 1 19 rfl rfl, F_.cl 1 20 rfl rfl, F_.cl 1 21 rfl rfl, F_.cl 1 22 rfl rfl, F_.cl 1 23 rfl rfl, F_.cl 2 16 rfl rfl, F_.cl 2 17 rfl rfl, F_.cl 2 18 rfl rfl, F_.cl 2 19 rfl rfl, F_.cl 2 20 rfl rfl, F_.cl 2 21 rfl rfl, F_.cl 2 22 rfl rfl, F_.cl 2 23 rfl rfl⟩)
                  refine ru_mixS 200 [⟨13, 26, 27, fun t => #[.int .i64 0, .int .i64 0], ptrOf, fun t => True⟩] [] [8, 9, 10, 11, 12] 3 F197 (by kernel_rfl) (by kernel_rfl) (fun _ _ _ _ _ h => h) (U0 := (fun t => t 18 = .slice (some ⟨g64, 0, none⟩) 3 3 ∧ t 19 = .slice (some ⟨g65, 0, none⟩) 3 3 ∧ t 20 = .slice (some ⟨g66, 0, none⟩) 3 3 ∧ t 21 = .slice (some ⟨g67, 0, none⟩) 3 3 ∧ t 22 = .int .i64 2 ∧ t 23 = .pointer (some ⟨g189, 0, none⟩) ∧ t 24 = .int .i64 (bearS l x0) ∧ t 25 = .int .i64 (allE l x0 []) ∧ t 120 = .agg (froC l (.slice sal l.cov.length scl)) ∧ t 124 = .agg (iceC x0) ∧ t 175 = .int .i64 (bearS l ic) ∧ t 176 = .int .i64 (bearS l ic) ∧ t 177 = .bool false ∧ t 180 = .int .i64 (allE l ic []) ∧ t 181 = .int .i64 (allE l ic []) ∧ t 182 = .bool false ∧ t 185 = .int .i64 (readyS l ic dl near) ∧ t 186 = .int .i64 (readyS l ic dl near) ∧ t 187 = .bool false ∧ t 190 = .int .i64 (readyP l ic dl near) ∧ t 191 = .int .i64 (readyP l ic dl near) ∧ t 192 = .bool false ∧ t 195 = .int .i64 (readyE l ic dl near) ∧ t 196 = .int .i64 (readyE l ic dl near) ∧ t 197 = .bool false)) (Um := (fun t => t 18 = .slice (some ⟨g64, 0, none⟩) 3 3 ∧ t 19 = .slice (some ⟨g65, 0, none⟩) 3 3 ∧ t 20 = .slice (some ⟨g66, 0, none⟩) 3 3 ∧ t 21 = .slice (some ⟨g67, 0, none⟩) 3 3 ∧ t 22 = .int .i64 2 ∧ t 23 = .pointer (some ⟨g189, 0, none⟩) ∧ t 24 = .int .i64 (bearS l x0) ∧ t 25 = .int .i64 (allE l x0 []) ∧ t 126 = .agg #[.int .i64 ((bearT l x0).lo), .int .i64 ((bearT l x0).hi)] ∧ t 127 = .int .i64 (bearS l x0) ∧ t 128 = .int .i64 (allE l x0 []) ∧ t 175 = .int .i64 (bearS l ic) ∧ t 176 = .int .i64 (bearS l ic) ∧ t 177 = .bool false ∧ t 180 = .int .i64 (allE l ic []) ∧ t 181 = .int .i64 (allE l ic []) ∧ t 182 = .bool false ∧ t 185 = .int .i64 (readyS l ic dl near) ∧ t 186 = .int .i64 (readyS l ic dl near) ∧ t 187 = .bool false ∧ t 190 = .int .i64 (readyP l ic dl near) ∧ t 191 = .int .i64 (readyP l ic dl near) ∧ t 192 = .bool false ∧ t 195 = .int .i64 (readyE l ic dl near) ∧ t 196 = .int .i64 (readyE l ic dl near) ∧ t 197 = .bool false)) ?chM200 ?alM200 ?mvM200 (List.forall_mem_cons.2 ⟨List.forall_mem_cons.2 ⟨fun _ _ => rfl, fun _ h => (by cases h)⟩, fun _ h => (by cases h)⟩) ⟨(by kernel_rfl), rfl, ⟨(by kernel_rfl), (by kernel_rfl), (by kernel_rfl), (by kernel_rfl), (by kernel_rfl), (by kernel_rfl), (by kernel_rfl), (by kernel_rfl), (by kernel_rfl), (by kernel_rfl), (by kernel_rfl), (by kernel_rfl), (by kernel_rfl), (by kernel_rfl), (by kernel_rfl), (by kernel_rfl), (by kernel_rfl), (by kernel_rfl), (by kernel_rfl), (by kernel_rfl), (by kernel_rfl), (by kernel_rfl), (by kernel_rfl), (by kernel_rfl), (by kernel_rfl)⟩⟩ ?restM200
                  case chM200 =>
                    refine ChainL.callS 8 (fun t => t 18 = .slice (some ⟨g64, 0, none⟩) 3 3 ∧ t 19 = .slice (some ⟨g65, 0, none⟩) 3 3 ∧ t 20 = .slice (some ⟨g66, 0, none⟩) 3 3 ∧ t 21 = .slice (some ⟨g67, 0, none⟩) 3 3 ∧ t 22 = .int .i64 2 ∧ t 23 = .pointer (some ⟨g189, 0, none⟩) ∧ t 24 = .int .i64 (bearS l x0) ∧ t 25 = .int .i64 (allE l x0 []) ∧ t 125 = .tuple #[.agg #[.int .i64 ((bearT l x0).lo), .int .i64 ((bearT l x0).hi)], .int .i64 (bearS l x0), .int .i64 (allE l x0 [])] ∧ t 175 = .int .i64 (bearS l ic) ∧ t 176 = .int .i64 (bearS l ic) ∧ t 177 = .bool false ∧ t 180 = .int .i64 (allE l ic []) ∧ t 181 = .int .i64 (allE l ic []) ∧ t 182 = .bool false ∧ t 185 = .int .i64 (readyS l ic dl near) ∧ t 186 = .int .i64 (readyS l ic dl near) ∧ t 187 = .bool false ∧ t 190 = .int .i64 (readyP l ic dl near) ∧ t 191 = .int .i64 (readyP l ic dl near) ∧ t 192 = .bool false ∧ t 195 = .int .i64 (readyE l ic dl near) ∧ t 196 = .int .i64 (readyE l ic dl near) ∧ t 197 = .bool false) (List.forall_mem_cons.2 ⟨fun _ _ u => u, fun _ h => (by cases h)⟩) hSS (List.forall_mem_cons.2 ⟨fun _ t ⟨e18, e19, e20, e21, e22, e23, e24, e25, e120, e124, e175, e176, e177, e180, e181, e182, e185, e186, e187, e190, e191, e192, e195, e196, e197⟩ => trivial, fun _ h => (by cases h)⟩) (by kernel_rfl) ?_ ?_
                    · rintro t w_ LA ⟨e18, e19, e20, e21, e22, e23, e24, e25, e120, e124, e175, e176, e177, e180, e181, e182, e185, e186, e187, e190, e191, e192, e195, e196, e197⟩ ⟨F_, hwn_⟩
                      have hws := F_.gb.size
                      rw [rng_bears_walk t, e18, e19, e20, e21, e22, e23, e24, e25, e120, e124, e175, e176, e177, e180, e181, e182, e185, e186, e187, e190, e191, e192, e195, e196, e197]
                      clear e18 e19 e20 e21 e22 e23 e24 e25 e120 e124 e175 e176 e177 e180 e181 e182 e185 e186 e187 e190 e191 e192 e195 e196 e197
                      refine wpOp_stepH rfl (fun K hK => ?_)
                      go_simp
                      refine (rbearing_c _ _ _ l x0 _ (F_.at 7 rfl : Sl covEnc 3 lo_l hi_l _ (.slice sal l.cov.length scl) l.cov) (by first | omega | (simp; omega))).mono ?_
                      rintro e w201 ⟨rfl, hg202⟩
                      exact hK.out _ _ ⟨(by kernel_rfl), rfl, ⟨(by kernel_rfl), (by kernel_rfl), (by kernel_rfl), (by kernel_rfl), (by kernel_rfl), (by kernel_rfl), (by kernel_rfl), (by kernel_rfl), (by kernel_rfl), (by kernel_rfl), (by kernel_rfl), (by kernel_rfl), (by kernel_rfl), (by kernel_rfl), (by kernel_rfl), (by kernel_rfl), (by kernel_rfl), (by kernel_rfl), (by kernel_rfl), (by kernel_rfl), (by kernel_rfl), (by kernel_rfl), (by kernel_rfl), (by kernel_rfl)⟩, List.forall_mem_cons.2 ⟨(by kernel_rfl), fun _ h => (by cases h)⟩, List.forall_mem_cons.2 ⟨fun _ => (by kernel_rfl), fun _ h => (by cases h)⟩, ⟨F_.gn hg202, Nat.le_trans hwn_ hg202.size⟩, hSS _ _ ⟨F_.gn hg202, Nat.le_trans hwn_ hg202.size⟩⟩
                    refine ChainL.pureS 9 (fun t => t 18 = .slice (some ⟨g64, 0, none⟩) 3 3 ∧ t 19 = .slice (some ⟨g65, 0, none⟩) 3 3 ∧ t 20 = .slice (some ⟨g66, 0, none⟩) 3 3 ∧ t 21 = .slice (some ⟨g67, 0, none⟩) 3 3 ∧ t 22 = .int .i64 2 ∧ t 23 = .pointer (some ⟨g189, 0, none⟩) ∧ t 24 = .int .i64 (bearS l x0) ∧ t 25 = .int .i64 (allE l x0 []) ∧ t 116 = .tuple #[.agg #[.int .i64 ((bearT l x0).lo), .int .i64 ((bearT l x0).hi)], .int .i64 (bearS l x0), .int .i64 (allE l x0 [])] ∧ t 175 = .int .i64 (bearS l ic) ∧ t 176 = .int .i64 (bearS l ic) ∧ t 177 = .bool false ∧ t 180 = .int .i64 (allE l ic []) ∧ t 181 = .int .i64 (allE l ic []) ∧ t 182 = .bool false ∧ t 185 = .int .i64 (readyS l ic dl near) ∧ t 186 = .int .i64 (readyS l ic dl near) ∧ t 187 = .bool false ∧ t 190 = .int .i64 (readyP l ic dl near) ∧ t 191 = .int .i64 (readyP l ic dl near) ∧ t 192 = .bool false ∧ t 195 = .int .i64 (readyE l ic dl near) ∧ t 196 = .int .i64 (readyE l ic dl near) ∧ t 197 = .bool false) rfl (List.forall_mem_cons.2 ⟨fun _ _ u => u, fun _ h => (by cases h)⟩) hSS (List.forall_mem_cons.2 ⟨fun _ t ⟨e18, e19, e20, e21, e22, e23, e24, e25, e125, e175, e176, e177, e180, e181, e182, e185, e186, e187, e190, e191, e192, e195, e196, e197⟩ => trivial, fun _ h => (by cases h)⟩) (by kernel_rfl) ?_ ?_
                    · rintro t ⟨e18, e19, e20, e21, e22, e23, e24, e25, e125, e175, e176, e177, e180, e181, e182, e185, e186, e187, e190, e191, e192, e195, e196, e197⟩
                      rw [rng_bears_walk t, e18, e19, e20, e21, e22, e23, e24, e25, e125, e175, e176, e177, e180, e181, e182, e185, e186, e187, e190, e191, e192, e195, e196, e197]
                      clear e18 e19 e20 e21 e22 e23 e24 e25 e125 e175 e176 e177 e180 e181 e182 e185 e186 e187 e190 e191 e192 e195 e196 e197
                      refine ⟨.tuple #[.agg #[.int .i64 ((bearT l x0).lo), .int .i64 ((bearT l x0).hi)], .int .i64 (bearS l x0), .int .i64 (allE l x0 [])], .inl ⟨by first | kernel_rfl | rfl, ?_⟩, ⟨(by kernel_rfl), rfl⟩, ⟨(by kernel_rfl), (by kernel_rfl), (by kernel_rfl), (by kernel_rfl), (by kernel_rfl), (by kernel_rfl), (by kernel_rfl), (by kernel_rfl), (by kernel_rfl), (by kernel_rfl), (by kernel_rfl), (by kernel_rfl), (by kernel_rfl), (by kernel_rfl), (by kernel_rfl), (by kernel_rfl), (by kernel_rfl), (by kernel_rfl), (by kernel_rfl), (by kernel_rfl), (by kernel_rfl), (by kernel_rfl), (by kernel_rfl), (by kernel_rfl)⟩, List.forall_mem_cons.2 ⟨(by kernel_rfl), fun _ h => (by cases h)⟩, List.forall_mem_cons.2 ⟨fun _ => (by kernel_rfl), fun _ h => (by cases h)⟩⟩
                      intro wS _
                      go_simp
                      (try with_reducible rfl)
                    refine ChainL.pureS 10 (fun t => t 18 = .slice (some ⟨g64, 0, none⟩) 3 3 ∧ t 19 = .slice (some ⟨g65, 0, none⟩) 3 3 ∧ t 20 = .slice (some ⟨g66, 0, none⟩) 3 3 ∧ t 21 = .slice (some ⟨g67, 0, none⟩) 3 3 ∧ t 22 = .int .i64 2 ∧ t 23 = .pointer (some ⟨g189, 0, none⟩) ∧ t 24 = .int .i64 (bearS l x0) ∧ t 25 = .int .i64 (allE l x0 []) ∧ t 116 = .tuple #[.agg #[.int .i64 ((bearT l x0).lo), .int .i64 ((bearT l x0).hi)], .int .i64 (bearS l x0), .int .i64 (allE l x0 [])] ∧ t 126 = .agg #[.int .i64 ((bearT l x0).lo), .int .i64 ((bearT l x0).hi)] ∧ t 175 = .int .i64 (bearS l ic) ∧ t 176 = .int .i64 (bearS l ic) ∧ t 177 = .bool false ∧ t 180 = .int .i64 (allE l ic []) ∧ t 181 = .int .i64 (allE l ic []) ∧ t 182 = .bool false ∧ t 185 = .int .i64 (readyS l ic dl near) ∧ t 186 = .int .i64 (readyS l ic dl near) ∧ t 187 = .bool false ∧ t 190 = .int .i64 (readyP l ic dl near) ∧ t 191 = .int .i64 (readyP l ic dl near) ∧ t 192 = .bool false ∧ t 195 = .int .i64 (readyE l ic dl near) ∧ t 196 = .int .i64 (readyE l ic dl near) ∧ t 197 = .bool false) rfl (List.forall_mem_cons.2 ⟨fun _ _ u => u, fun _ h => (by cases h)⟩) hSS (List.forall_mem_cons.2 ⟨fun _ t ⟨e18, e19, e20, e21, e22, e23, e24, e25, e116, e175, e176, e177, e180, e181, e182, e185, e186, e187, e190, e191, e192, e195, e196, e197⟩ => trivial, fun _ h => (by cases h)⟩) (by kernel_rfl) ?_ ?_
                    · rintro t ⟨e18, e19, e20, e21, e22, e23, e24, e25, e116, e175, e176, e177, e180, e181, e182, e185, e186, e187, e190, e191, e192, e195, e196, e197⟩
                      rw [rng_bears_walk t, e18, e19, e20, e21, e22, e23, e24, e25, e116, e175, e176, e177, e180, e181, e182, e185, e186, e187, e190, e191, e192, e195, e196, e197]
                      clear e18 e19 e20 e21 e22 e23 e24 e25 e116 e175 e176 e177 e180 e181 e182 e185 e186 e187 e190 e191 e192 e195 e196 e197
                      refine ⟨.agg #[.int .i64 ((bearT l x0).lo), .int .i64 ((bearT l x0).hi)], .inl ⟨by first | kernel_rfl | rfl, ?_⟩, ⟨(by kernel_rfl), rfl⟩, ⟨(by kernel_rfl), (by kernel_rfl), (by kernel_rfl), (by kernel_rfl), (by kernel_rfl), (by kernel_rfl), (by kernel_rfl), (by kernel_rfl), (by kernel_rfl), (by kernel_rfl), (by kernel_rfl), (by kernel_rfl), (by kernel_rfl), (by kernel_rfl), (by kernel_rfl), (by kernel_rfl), (by kernel_rfl), (by kernel_rfl), (by kernel_rfl), (by kernel_rfl), (by kernel_rfl), (by kernel_rfl), (by kernel_rfl), (by kernel_rfl), (by kernel_rfl)⟩, List.forall_mem_cons.2 ⟨(by kernel_rfl), fun _ h => (by cases h)⟩, List.forall_mem_cons.2 ⟨fun _ => (by kernel_rfl), fun _ h => (by cases h)⟩⟩
                      intro wS _
                      go_simp
                      (try with_reducible rfl)
                    refine ChainL.pureS 11 (fun t => t 18 = .slice (some ⟨g64, 0, none⟩) 3 3 ∧ t 19 = .slice (some ⟨g65, 0, none⟩) 3 3 ∧ t 20 = .slice (some ⟨g66, 0, none⟩) 3 3 ∧ t 21 = .slice (some ⟨g67, 0, none⟩) 3 3 ∧ t 22 = .int .i64 2 ∧ t 23 = .pointer (some ⟨g189, 0, none⟩) ∧ t 24 = .int .i64 (bearS l x0) ∧ t 25 = .int .i64 (allE l x0 []) ∧ t 116 = .tuple #[.agg #[.int .i64 ((bearT l x0).lo), .int .i64 ((bearT l x0).hi)], .int .i64 (bearS l x0), .int .i64 (allE l x0 [])] ∧ t 126 = .agg #[.int .i64 ((bearT l x0).lo), .int .i64 ((bearT l x0).hi)] ∧ t 127 = .int .i64 (bearS l x0) ∧ t 175 = .int .i64 (bearS l ic) ∧ t 176 = .int .i64 (bearS l ic) ∧ t 177 = .bool false ∧ t 180 = .int .i64 (allE l ic []) ∧ t 181 = .int .i64 (allE l ic []) ∧ t 182 = .bool false ∧ t 185 = .int .i64 (readyS l ic dl near) ∧ t 186 = .int .i64 (readyS l ic dl near) ∧ t 187 = .bool false ∧ t 190 = .int .i64 (readyP l ic dl near) ∧ t 191 = .int .i64 (readyP l ic dl near) ∧ t 192 = .bool false ∧ t 195 = .int .i64 (readyE l ic dl near) ∧ t 196 = .int .i64 (readyE l ic dl near) ∧ t 197 = .bool false) rfl (List.forall_mem_cons.2 ⟨fun _ _ u => u, fun _ h => (by cases h)⟩) hSS (List.forall_mem_cons.2 ⟨fun _ t ⟨e18, e19, e20, e21, e22, e23, e24, e25, e116, e126, e175, e176, e177, e180, e181, e182, e185, e186, e187, e190, e191, e192, e195, e196, e197⟩ => trivial, fun _ h => (by cases h)⟩) (by kernel_rfl) ?_ ?_
                    · rintro t ⟨e18, e19, e20, e21, e22, e23, e24, e25, e116, e126, e175, e176, e177, e180, e181, e182, e185, e186, e187, e190, e191, e192, e195, e196, e197⟩
                      rw [rng_bears_walk t, e18, e19, e20, e21, e22, e23, e24, e25, e116, e126, e175, e176, e177, e180, e181, e182, e185, e186, e187, e190, e191, e192, e195, e196, e197]
                      clear e18 e19 e20 e21 e22 e23 e24 e25 e116 e126 e175 e176 e177 e180 e181 e182 e185 e186 e187 e190 e191 e192 e195 e196 e197
                      refine ⟨.int .i64 (bearS l x0), .inl ⟨by first | kernel_rfl | rfl, ?_⟩, ⟨(by kernel_rfl), rfl⟩, ⟨(by kernel_rfl), (by kernel_rfl), (by kernel_rfl), (by kernel_rfl), (by kernel_rfl), (by kernel_rfl), (by kernel_rfl), (by kernel_rfl), (by kernel_rfl), (by kernel_rfl), (by kernel_rfl), (by kernel_rfl), (by kernel_rfl), (by kernel_rfl), (by kernel_rfl), (by kernel_rfl), (by kernel_rfl), (by kernel_rfl), (by kernel_rfl), (by kernel_rfl), (by kernel_rfl), (by kernel_rfl), (by kernel_rfl), (by kernel_rfl), (by kernel_rfl), (by kernel_rfl)⟩, List.forall_mem_cons.2 ⟨(by kernel_rfl), fun _ h => (by cases h)⟩, List.forall_mem_cons.2 ⟨fun _ => (by kernel_rfl), fun _ h => (by cases h)⟩⟩
                      intro wS _
                      go_simp
                      (try with_reducible rfl)
                    refine ChainL.pureS 12 (fun t => t 18 = .slice (some ⟨g64, 0, none⟩) 3 3 ∧ t 19 = .slice (some ⟨g65, 0, none⟩) 3 3 ∧ t 20 = .slice (some ⟨g66, 0, none⟩) 3 3 ∧ t 21 = .slice (some ⟨g67, 0, none⟩) 3 3 ∧ t 22 = .int .i64 2 ∧ t 23 = .pointer (some ⟨g189, 0, none⟩) ∧ t 24 = .int .i64 (bearS l x0) ∧ t 25 = .int .i64 (allE l x0 []) ∧ t 126 = .agg #[.int .i64 ((bearT l x0).lo), .int .i64 ((bearT l x0).hi)] ∧ t 127 = .int .i64 (bearS l x0) ∧ t 128 = .int .i64 (allE l x0 []) ∧ t 175 = .int .i64 (bearS l ic) ∧ t 176 = .int .i64 (bearS l ic) ∧ t 177 = .bool false ∧ t 180 = .int .i64 (allE l ic []) ∧ t 181 = .int .i64 (allE l ic []) ∧ t 182 = .bool false ∧ t 185 = .int .i64 (readyS l ic dl near) ∧ t 186 = .int .i64 (readyS l ic dl near) ∧ t 187 = .bool false ∧ t 190 = .int .i64 (readyP l ic dl near) ∧ t 191 = .int .i64 (readyP l ic dl near) ∧ t 192 = .bool false ∧ t 195 = .int .i64 (readyE l ic dl near) ∧ t 196 = .int .i64 (readyE l ic dl near) ∧ t 197 = .bool false) rfl (List.forall_mem_cons.2 ⟨fun _ _ u => u, fun _ h => (by cases h)⟩) hSS (List.forall_mem_cons.2 ⟨fun _ t ⟨e18, e19, e20, e21, e22, e23, e24, e25, e116, e126, e127, e175, e176, e177, e180, e181, e182, e185, e186, e187, e190, e191, e192, e195, e196, e197⟩ => trivial, fun _ h => (by cases h)⟩) (by kernel_rfl) ?_ ?_
                    · rintro t ⟨e18, e19, e20, e21, e22, e23, e24, e25, e116, e126, e127, e175, e176, e177, e180, e181, e182, e185, e186, e187, e190, e191, e192, e195, e196, e197⟩
                      rw [rng_bears_walk t, e18, e19, e20, e21, e22, e23, e24, e25, e116, e126, e127, e175, e176, e177, e180, e181, e182, e185, e186, e187, e190, e191, e192, e195, e196, e197]
                      clear e18 e19 e20 e21 e22 e23 e24 e25 e116 e126 e127 e175 e176 e177 e180 e181 e182 e185 e186 e187 e190 e191 e192 e195 e196 e197
                      refine ⟨.int .i64 (allE l x0 []), .inl ⟨by first | kernel_rfl | rfl, ?_⟩, ⟨(by kernel_rfl), rfl⟩, ⟨(by kernel_rfl), (by kernel_rfl), (by kernel_rfl), (by kernel_rfl), (by kernel_rfl), (by kernel_rfl), (by kernel_rfl), (by kernel_rfl), (by kernel_rfl), (by kernel_rfl), (by kernel_rfl), (by kernel_rfl), (by kernel_rfl), (by kernel_rfl), (by kernel_rfl), (by kernel_rfl), (by kernel_rfl), (by kernel_rfl), (by kernel_rfl), (by kernel_rfl), (by kernel_rfl), (by kernel_rfl), (by kernel_rfl), (by kernel_rfl), (by kernel_rfl), (by kernel_rfl)⟩, List.forall_mem_cons.2 ⟨(by kernel_rfl), fun _ h => (by cases h)⟩, List.forall_mem_cons.2 ⟨fun _ => (by kernel_rfl), fun _ h => (by cases h)⟩⟩
                      intro wS _
                      go_simp
                      (try with_reducible rfl)
                    exact ChainL.nil _ _ _ (List.forall_mem_cons.2 ⟨fun _ _ u => u, fun _ h => (by cases h)⟩) hSS (List.forall_mem_cons.2 ⟨fun _ t ⟨e18, e19, e20, e21, e22, e23, e24, e25, e126, e127, e128, e175, e176, e177, e180, e181, e182, e185, e186, e187, e190, e191, e192, e195, e196, e197⟩ => trivial, fun _ h => (by cases h)⟩)
                  case alM200 =>
                    refine List.forall_mem_cons.2 ⟨fun t w K hv h => ?_, ?_⟩
                    · exact wpOp_step rfl (fun K hK => by go_simp; exact hK _ _ h)
                    exact fun _ h => (by cases h)
                  case mvM200 => exact fun _ h => (by cases h)
                  case restM200 =>
                    rintro t w205 g ⟨e18, e19, e20, e21, e22, e23, e24, e25, e126, e127, e128, e175, e176, e177, e180, e181, e182, e185, e186, e187, e190, e191, e192, e195, e196, e197⟩ hA hB ⟨F_, hwnM200⟩
                    clear hSS
                    clear F197
                    have hA0_0 : t 26 = .pointer (some ⟨g 13, 0, none⟩) := hA _ (.head _)
                    (try simp only [List.map_cons, List.map_nil, List.cons_append, List.nil_append] at F_)
                    have F206 := F_
                    clear hA hB F_
                    obtain ⟨g204, hgx_⟩ : ∃ x_, g 13 = x_ := ⟨_, rfl⟩
                    rw [hgx_] at hA0_0 F206; clear hgx_
                    have hws := F206.gb.size
                    have g204l := (F206.at 0 rfl : Bk _ _ _ _).lt
                    rw [rng_bears_walk t, e18, e19, e20, e21, e22, e23, e24, e25, e126, e127, e128, e175, e176, e177, e180, e181, e182, e185, e186, e187, e190, e191, e192, e195, e196, e197, hA0_0]
                    clear e18 e19 e20 e21 e22 e23 e24 e25 e126 e127 e128 e175 e176 e177 e180 e181 e182 e185 e186 e187 e190 e191 e192 e195 e196 e197 hA0_0
                    have hS_ : (fun W : World => W.cell? ⟨g64, 16, none⟩ = some (.int .i64 l.gr) ∧ W.cell? ⟨g64, 17, none⟩ = some (.int .i64 l.la) ∧ W.cell? ⟨g64, 18, none⟩ = some (.slice sal l.cov.length scl) ∧ W.cell? ⟨g64, 19, none⟩ = some (.int .i64 l.melt.lo) ∧ W.cell? ⟨g64, 20, none⟩ = some (.int .i64 l.melt.hi) ∧ W.cell? ⟨g64, 21, none⟩ = some (.int .i64 l.soak) ∧ W.cell? ⟨g64, 22, none⟩ = some (.int .i64 l.white.lo) ∧ W.cell? ⟨g64, 23, none⟩ = some (.int .i64 l.white.hi) ∧ W.cell? ⟨g65, 16, none⟩ = some (.int .i64 x0.bl.lo) ∧ W.cell? ⟨g65, 17, none⟩ = some (.int .i64 x0.bl.hi) ∧ W.cell? ⟨g65, 18, none⟩ = some (.int .i64 x0.wh.lo) ∧ W.cell? ⟨g65, 19, none⟩ = some (.int .i64 x0.wh.hi) ∧ W.cell? ⟨g65, 20, none⟩ = some (.int .i64 x0.we.lo) ∧ W.cell? ⟨g65, 21, none⟩ = some (.int .i64 x0.we.hi) ∧ W.cell? ⟨g65, 22, none⟩ = some (.int .i64 x0.sn.lo) ∧ W.cell? ⟨g65, 23, none⟩ = some (.int .i64 x0.sn.hi)) _ := ⟨F206.cl 2 16 rfl rfl, F206.cl 2 17 rfl rfl, F206.cl 2 18 rfl rfl, F206.cl 2 19 rfl rfl, F206.cl 2 20 rfl rfl, F206.cl 2 21 rfl rfl, F206.cl 2 22 rfl rfl, F206.cl 2 23 rfl rfl, F206.cl 3 16 rfl rfl, F206.cl 3 17 rfl rfl, F206.cl 3 18 rfl rfl, F206.cl 3 19 rfl rfl, F206.cl 3 20 rfl rfl, F206.cl 3 21 rfl rfl, F206.cl 3 22 rfl rfl, F206.cl 3 23 rfl rfl⟩
                    refine ru_one 14 rfl (by kernel_rfl) (fun K hK => ?_)
                    have kb_ := F206.bx2 0 rfl
                    go_simp
                    clear kb_
                    have F207 := F206.pt2 (.int .i64 ((bearT l x0).lo)) (.int .i64 ((bearT l x0).hi))
                    clear F206
                    refine ru_back_late hK (by kernel_rfl) ?_
                    clear hK K
                    (try simp only [Act.put, List.setIfInBounds_toArray, List.set_cons_zero, List.set_cons_succ])
                    refine ru_one 15 rfl (by kernel_rfl) (fun K hK => ?_)
                    go_simp
                    refine ru_back_late hK (by kernel_rfl) ?_
                    clear hK K
                    (try simp only [Act.put, List.setIfInBounds_toArray, List.set_cons_zero, List.set_cons_succ])
                    refine ru_one 16 rfl (by kernel_rfl) (fun K hK => ?_)
                    go_simp
                    refine ru_back_late hK (by kernel_rfl) ?_
                    clear hK K
                    (try simp only [Act.put, List.setIfInBounds_toArray, List.set_cons_zero, List.set_cons_succ])
                    refine ru_done (by kernel_rfl) ?_
                    have Fn_ := F207
                    (try dsimp only [List.eraseIdx_cons_succ, List.eraseIdx_cons_zero] at Fn_)
                    obtain ⟨w208, hx209, F211, hxs210⟩ := Fn_.name
                    (try simp at hxs210)
                    rw [hx209]
                    clear hx209 F207 Fn_
                    go_wp2_with fail
                    have F212 := F211.drew
                    clear F211
                    refine ru_begin (fun W => W.cell? ⟨g64, 16, none⟩ = some (.int .i64 l.gr) ∧ W.cell? ⟨g64, 17, none⟩ = some (.int .i64 l.la) ∧ W.cell? ⟨g64, 18, none⟩ = some (.slice sal l.cov.length scl) ∧ W.cell? ⟨g64, 19, none⟩ = some (.int .i64 l.melt.lo) ∧ W.cell? ⟨g64, 20, none⟩ = some (.int .i64 l.melt.hi) ∧ W.cell? ⟨g64, 21, none⟩ = some (.int .i64 l.soak) ∧ W.cell? ⟨g64, 22, none⟩ = some (.int .i64 l.white.lo) ∧ W.cell? ⟨g64, 23, none⟩ = some (.int .i64 l.white.hi) ∧ W.cell? ⟨g65, 16, none⟩ = some (.int .i64 x0.bl.lo) ∧ W.cell? ⟨g65, 17, none⟩ = some (.int .i64 x0.bl.hi) ∧ W.cell? ⟨g65, 18, none⟩ = some (.int .i64 x0.wh.lo) ∧ W.cell? ⟨g65, 19, none⟩ = some (.int .i64 x0.wh.hi) ∧ W.cell? ⟨g65, 20, none⟩ = some (.int .i64 x0.we.lo) ∧ W.cell? ⟨g65, 21, none⟩ = some (.int .i64 x0.we.hi) ∧ W.cell? ⟨g65, 22, none⟩ = some (.int .i64 x0.sn.lo) ∧ W.cell? ⟨g65, 23, none⟩ = some (.int .i64 x0.sn.hi) ∧ W.cell? ⟨g66, 2, none⟩ = some (.slice da0 d0.length dc0) ∧ W.cell? ⟨g67, 2, none⟩ = some (.int .i64 need)) 23 (by kernel_rfl) ?_ ?_
                    · exact ⟨F212.cl 2 16 rfl rfl, F212.cl 2 17 rfl rfl, F212.cl 2 18 rfl rfl, F212.cl 2 19 rfl rfl, F212.cl 2 20 rfl rfl, F212.cl 2 21 rfl rfl, F212.cl 2 22 rfl rfl, F212.cl 2 23 rfl rfl, F212.cl 3 16 rfl rfl, F212.cl 3 17 rfl rfl, F212.cl 3 18 rfl rfl, F212.cl 3 19 rfl rfl, F212.cl 3 20 rfl rfl, F212.cl 3 21 rfl rfl, F212.cl 3 22 rfl rfl, F212.cl 3 23 rfl rfl, F212.cl 4 2 rfl rfl, F212.cl 5 2 rfl rfl⟩
                    obtain ⟨wd214, hwd_⟩ : ∃ x : World, w208.drew = x := ⟨_, rfl⟩
                    rw [hwd_] at F212 ⊢
                    have wd214s : w208.heap.size ≤ wd214.heap.size := by rw [← hwd_]; exact Nat.le_refl _
                    clear hwd_
                    have hS213 := (And.intro (F212.cl 2 16 rfl rfl) (And.intro (F212.cl 2 17 rfl rfl) (And.intro (F212.cl 2 18 rfl rfl) (And.intro (F212.cl 2 19 rfl rfl) (And.intro (F212.cl 2 20 rfl rfl) (And.intro (F212.cl 2 21 rfl rfl) (And.intro (F212.cl 2 22 rfl rfl) (And.intro (F212.cl 2 23 rfl rfl) (And.intro (F212.cl 3 16 rfl rfl) (And.intro (F212.cl 3 17 rfl rfl) (And.intro (F212.cl 3 18 rfl rfl) (And.intro (F212.cl 3 19 rfl rfl) (And.intro (F212.cl 3 20 rfl rfl) (And.intro (F212.cl 3 21 rfl rfl) (And.intro (F212.cl 3 22 rfl rfl) (And.intro (F212.cl 3 23 rfl rfl) (And.intro (F212.cl 4 2 rfl rfl) (F212.cl 5 2 rfl rfl))))))))))))))))))
                    refine ru_t 0 [] ?_
                    refine ru_t 1 [] ?_
                    refine ru_t 2 [] ?_
                    refine ru_t 3 [] ?_
                    refine ru_t 4 [] ?_
                    refine ru_t 5 [] ?_
                    refine ru_t 6 [] ?_
                    refine ru_t 7 [] ?_
                    refine ru_t 8 [] ?_
                    refine ru_t 9 [] ?_
                    refine ru_t 10 [] ?_
                    refine ru_t 11 [] ?_
                    refine ru_t 12 [] ?_
                    refine ru_t 13 [] ?_
                    refine ru_t 14 [] ?_
                    refine ru_t 15 [] ?_
                    (try simp only [Act.put, List.setIfInBounds_toArray, List.set_cons_zero, List.set_cons_succ])
                    clear hS213
                    refine ru_one 16 rfl (by kernel_rfl) (fun K hK => ?_)
                    go_simp
                    refine (ready_c _ _ _ l x0 _ _ _ d0 need _ (F212.at 8 rfl : Sl covEnc 3 lo_l hi_l _ (.slice sal l.cov.length scl) l.cov) (by first | omega | (simp; omega)) (F212.at 10 rfl : Sl weaEnc 6 0 w.heap.size _ (.slice da0 d0.length dc0) d0) (by first | omega | (simp; omega))).mono ?_
                    rintro e w217 ⟨rfl, hg215⟩
                    have hg215s := hg215.size
                    (try simp at hg215s)
                    have F218 := F212.gn hg215
                    clear F212
                    refine ru_back hK (by exact ⟨F218.cl 2 16 rfl rfl, F218.cl 2 17 rfl rfl, F218.cl 2 18 rfl rfl, F218.cl 2 19 rfl rfl, F218.cl 2 20 rfl rfl, F218.cl 2 21 rfl rfl, F218.cl 2 22 rfl rfl, F218.cl 2 23 rfl rfl, F218.cl 3 16 rfl rfl, F218.cl 3 17 rfl rfl, F218.cl 3 18 rfl rfl, F218.cl 3 19 rfl rfl, F218.cl 3 20 rfl rfl, F218.cl 3 21 rfl rfl, F218.cl 3 22 rfl rfl, F218.cl 3 23 rfl rfl, F218.cl 4 2 rfl rfl, F218.cl 5 2 rfl rfl⟩) (fun hHeld => ?_)
                    clear hK K
                    (try simp only [Act.put, List.setIfInBounds_toArray, List.set_cons_zero, List.set_cons_succ])
                    refine ru_p 17 ?_
                    (try simp only [Act.put, List.setIfInBounds_toArray, List.set_cons_zero, List.set_cons_succ])
                    refine ru_p 18 ?_
                    refine ru_p 19 ?_
                    refine ru_p 20 ?_
                    (try simp only [Act.put, List.setIfInBounds_toArray, List.set_cons_zero, List.set_cons_succ])
                    refine ru_p 21 ?_
                    (try simp only [Act.put, List.setIfInBounds_toArray, List.set_cons_zero, List.set_cons_succ])
                    refine ru_p 22 ?_
                    (try simp only [Act.put, List.setIfInBounds_toArray, List.set_cons_zero, List.set_cons_succ])
                    refine ru_one 23 rfl (by kernel_rfl) (fun K hK => ?_)
                    go_simp
                    refine ru_back_late hK (by kernel_rfl) ?_
                    clear hK K
                    (try simp only [Act.put, List.setIfInBounds_toArray, List.set_cons_zero, List.set_cons_succ])
                    refine ru_done (by kernel_rfl) ?_
                    have Fn_ := F218
                    (try dsimp only [List.eraseIdx_cons_succ, List.eraseIdx_cons_zero] at Fn_)
                    obtain ⟨w219, hx220, F222, hxs221⟩ := Fn_.name
                    (try simp at hxs221)
                    rw [hx220]
                    clear hx220 F218 Fn_
                    go_wp2_with fail
                    have F223 := F222.drew
                    clear F222
                    refine ru_begin (fun W => W.cell? ⟨g64, 16, none⟩ = some (.int .i64 l.gr) ∧ W.cell? ⟨g64, 17, none⟩ = some (.int .i64 l.la) ∧ W.cell? ⟨g64, 18, none⟩ = some (.slice sal l.cov.length scl) ∧ W.cell? ⟨g64, 19, none⟩ = some (.int .i64 l.melt.lo) ∧ W.cell? ⟨g64, 20, none⟩ = some (.int .i64 l.melt.hi) ∧ W.cell? ⟨g64, 21, none⟩ = some (.int .i64 l.soak) ∧ W.cell? ⟨g64, 22, none⟩ = some (.int .i64 l.white.lo) ∧ W.cell? ⟨g64, 23, none⟩ = some (.int .i64 l.white.hi) ∧ W.cell? ⟨g65, 16, none⟩ = some (.int .i64 x0.bl.lo) ∧ W.cell? ⟨g65, 17, none⟩ = some (.int .i64 x0.bl.hi) ∧ W.cell? ⟨g65, 18, none⟩ = some (.int .i64 x0.wh.lo) ∧ W.cell? ⟨g65, 19, none⟩ = some (.int .i64 x0.wh.hi) ∧ W.cell? ⟨g65, 20, none⟩ = some (.int .i64 x0.we.lo) ∧ W.cell? ⟨g65, 21, none⟩ = some (.int .i64 x0.we.hi) ∧ W.cell? ⟨g65, 22, none⟩ = some (.int .i64 x0.sn.lo) ∧ W.cell? ⟨g65, 23, none⟩ = some (.int .i64 x0.sn.hi) ∧ W.cell? ⟨g66, 2, none⟩ = some (.slice da0 d0.length dc0) ∧ W.cell? ⟨g67, 2, none⟩ = some (.int .i64 need)) 23 (by kernel_rfl) ?_ ?_
                    · exact ⟨F223.cl 2 16 rfl rfl, F223.cl 2 17 rfl rfl, F223.cl 2 18 rfl rfl, F223.cl 2 19 rfl rfl, F223.cl 2 20 rfl rfl, F223.cl 2 21 rfl rfl, F223.cl 2 22 rfl rfl, F223.cl 2 23 rfl rfl, F223.cl 3 16 rfl rfl, F223.cl 3 17 rfl rfl, F223.cl 3 18 rfl rfl, F223.cl 3 19 rfl rfl, F223.cl 3 20 rfl rfl, F223.cl 3 21 rfl rfl, F223.cl 3 22 rfl rfl, F223.cl 3 23 rfl rfl, F223.cl 4 2 rfl rfl, F223.cl 5 2 rfl rfl⟩
                    obtain ⟨wd225, hwd_⟩ : ∃ x : World, w219.drew = x := ⟨_, rfl⟩
                    rw [hwd_] at F223 ⊢
                    have wd225s : w219.heap.size ≤ wd225.heap.size := by rw [← hwd_]; exact Nat.le_refl _
                    clear hwd_
                    have hS224 := (And.intro (F223.cl 2 16 rfl rfl) (And.intro (F223.cl 2 17 rfl rfl) (And.intro (F223.cl 2 18 rfl rfl) (And.intro (F223.cl 2 19 rfl rfl) (And.intro (F223.cl 2 20 rfl rfl) (And.intro (F223.cl 2 21 rfl rfl) (And.intro (F223.cl 2 22 rfl rfl) (And.intro (F223.cl 2 23 rfl rfl) (And.intro (F223.cl 3 16 rfl rfl) (And.intro (F223.cl 3 17 rfl rfl) (And.intro (F223.cl 3 18 rfl rfl) (And.intro (F223.cl 3 19 rfl rfl) (And.intro (F223.cl 3 20 rfl rfl) (And.intro (F223.cl 3 21 rfl rfl) (And.intro (F223.cl 3 22 rfl rfl) (And.intro (F223.cl 3 23 rfl rfl) (And.intro (F223.cl 4 2 rfl rfl) (F223.cl 5 2 rfl rfl))))))))))))))))))
                    refine ru_t 0 [] ?_
                    refine ru_t 1 [] ?_
                    refine ru_t 2 [] ?_
                    refine ru_t 3 [] ?_
                    refine ru_t 4 [] ?_
                    refine ru_t 5 [] ?_
                    refine ru_t 6 [] ?_
                    refine ru_t 7 [] ?_
                    refine ru_t 8 [] ?_
                    refine ru_t 9 [] ?_
                    refine ru_t 10 [] ?_
                    refine ru_t 11 [] ?_
                    refine ru_t 12 [] ?_
                    refine ru_t 13 [] ?_
                    refine ru_t 14 [] ?_
                    refine ru_t 15 [] ?_
                    (try simp only [Act.put, List.setIfInBounds_toArray, List.set_cons_zero, List.set_cons_succ])
                    clear hS224
                    refine ru_one 16 rfl (by kernel_rfl) (fun K hK => ?_)
                    go_simp
                    refine (rready_c _ _ _ l x0 _ _ _ d0 need _ (F223.at 8 rfl : Sl covEnc 3 lo_l hi_l _ (.slice sal l.cov.length scl) l.cov) (by first | omega | (simp; omega)) (F223.at 10 rfl : Sl weaEnc 6 0 w.heap.size _ (.slice da0 d0.length dc0) d0) (by first | omega | (simp; omega))).mono ?_
                    rintro e w228 ⟨rfl, hg226⟩
                    have hg226s := hg226.size
                    (try simp at hg226s)
                    have F229 := F223.gn hg226
                    clear F223
                    refine ru_back hK (by exact ⟨F229.cl 2 16 rfl rfl, F229.cl 2 17 rfl rfl, F229.cl 2 18 rfl rfl, F229.cl 2 19 rfl rfl, F229.cl 2 20 rfl rfl, F229.cl 2 21 rfl rfl, F229.cl 2 22 rfl rfl, F229.cl 2 23 rfl rfl, F229.cl 3 16 rfl rfl, F229.cl 3 17 rfl rfl, F229.cl 3 18 rfl rfl, F229.cl 3 19 rfl rfl, F229.cl 3 20 rfl rfl, F229.cl 3 21 rfl rfl, F229.cl 3 22 rfl rfl, F229.cl 3 23 rfl rfl, F229.cl 4 2 rfl rfl, F229.cl 5 2 rfl rfl⟩) (fun hHeld => ?_)
                    clear hK K
                    (try simp only [Act.put, List.setIfInBounds_toArray, List.set_cons_zero, List.set_cons_succ])
                    refine ru_p 17 ?_
                    (try simp only [Act.put, List.setIfInBounds_toArray, List.set_cons_zero, List.set_cons_succ])
                    refine ru_p 18 ?_
                    refine ru_p 19 ?_
                    refine ru_p 20 ?_
                    (try simp only [Act.put, List.setIfInBounds_toArray, List.set_cons_zero, List.set_cons_succ])
                    refine ru_p 21 ?_
                    (try simp only [Act.put, List.setIfInBounds_toArray, List.set_cons_zero, List.set_cons_succ])
                    refine ru_p 22 ?_
                    (try simp only [Act.put, List.setIfInBounds_toArray, List.set_cons_zero, List.set_cons_succ])
                    refine ru_one 23 rfl (by kernel_rfl) (fun K hK => ?_)
                    go_simp
                    refine ru_back_late hK (by kernel_rfl) ?_
                    clear hK K
                    (try simp only [Act.put, List.setIfInBounds_toArray, List.set_cons_zero, List.set_cons_succ])
                    refine ru_done (by kernel_rfl) ?_
                    have Fn_ := F229
                    (try dsimp only [List.eraseIdx_cons_succ, List.eraseIdx_cons_zero] at Fn_)
                    obtain ⟨w230, hx231, F233, hxs232⟩ := Fn_.name
                    (try simp at hxs232)
                    rw [hx231]
                    clear hx231 F229 Fn_
                    have b234 := F233.bx2 0 rfl
                    have b235 := F233.bx2 1 rfl
                    go_wp2_with fail
                    clear b234 b235
                    rw [rounds_succ]
                    go_wp2_with fail
                    refine (awake_c _).mono ?_
                    rintro e w238 ⟨rfl, hg236⟩
                    have hg236s := hg236.size
                    (try simp at hg236s)
                    have F239 := F233.gn hg236
                    clear F233
                    clear hg236
                    go_wp2_with fail
                    go_ret
                    exact ⟨rfl, F239.gb⟩
    case first14 =>
      intro K_ hK_
      have b240 := F56.bx8 0 rfl
      have b241 := F56.bx8 1 rfl
      go_wp2_with fail
      clear b240 b241
      refine (rrun_ok _ _ _ l ic _ _ _ dl _ (F56.at 4 rfl : Sl covEnc 3 lo_l hi_l _ (.slice sal l.cov.length scl) l.cov) (by first | omega | (simp; omega)) (F56.at 2 rfl : Sl weaEnc 6 ld_dl hd_dl _ (.slice da_dl dl.length dc_dl) dl) (by first | omega | (simp; omega)) (allE_of HFl.out hic (fun d_ h_ => (HDdl.out d_ h_).1) (by omega))).mono ?_
      rintro e w244 ⟨ra_all, rc_all, rl_all, rh_all, rfl, ⟨rxall, ryall⟩, rwall, hg242⟩
      have hg242s := hg242.size
      (try simp at hg242s)
      have F245 := F56.add (rsl iceEnc 8 rl_all rh_all (.slice ra_all dl.length rc_all) (runN l ic dl dl.length)) hg242 (rwall) (fun g e => ⟨Nat.le_trans rxall e.1, Nat.lt_of_lt_of_le e.2 ryall⟩)
      clear F56
      clear hg242
      by_cases c246 : 0 < (dl.length : Int)
      · skip
        have c246H := Lib.hid c246
        go_wp2_with fail
        refine (yes_c sb 2 _ (F245.at 4 rfl : SeedAt _ sb) (by omega) (by omega)).mono ?_
        rintro e w250 ⟨yb247, rfl, hs249, hg248⟩
        have hg248s := hg248.size
        (try simp at hg248s)
        have F251 := F245.seedAt 4 rfl hg248 hs249
        clear F245
        clear hg248
        cases c252 : yb247
        · skip
          have c252H := Lib.hid c252
          go_wp2_with fail
          have F253 : Bun w [rbox (w31.heap.size + 1) 32 (iceC ic), rbox w31.heap.size 29 (froC l (.slice sal l.cov.length scl)), rsl weaEnc 6 ld_dl hd_dl (.slice da_dl dl.length dc_dl) dl, rseed sb, rsl covEnc 3 lo_l hi_l (.slice sal l.cov.length scl) l.cov, rbox (w.heap.size + 1) 32 (iceC x0), rbox w.heap.size 29 (froC l0 (.slice sa0 l0.cov.length sc0)), rsl intEnc 1 0 w.heap.size (.slice na zs.length nc) zs, rsl weaEnc 6 0 w.heap.size (.slice da0 d0.length dc0) d0, rsl covEnc 3 0 w.heap.size (.slice sa0 l0.cov.length sc0) l0.cov] _ := F251.pick [1, 2, 3, 4, 5, 6, 7, 8, 9, 10] (by decide) rfl
          clear F251
          show K_ _ _
          exact hK_.out _ _ (by first | kernel_rfl | rfl) rfl ⟨ic.bl.lo + r46, (by first | kernel_rfl | rfl), (by first | kernel_rfl | rfl), (by first | kernel_rfl | rfl), (by first | kernel_rfl | rfl), (by first | kernel_rfl | rfl), (by first | kernel_rfl | rfl), (by first | kernel_rfl | rfl), (by first | kernel_rfl | rfl), (by first | omega | (simp; done) | (simp; omega)), (by omega), F253⟩
        · skip
          have c252H := Lib.hid c252
          have HK := Lib.hid (stI_K (lawOk HFl.out) (iceK hic) (fun d_ h_ => weaOk (HDdl.out d_ h_).1) (by omega : dl.length ≤ 400))
          obtain ⟨x254, o255, e_⟩ := Sl.addr (F251.at 0 rfl : Sl iceEnc 8 rl_all rh_all _ (.slice ra_all dl.length rc_all) (runN l ic dl dl.length)) (by rw [runN_len]; omega)
          subst e_
          go_wp2_with fail
          have F258 := F251.drew
          clear F251
          refine ru_begin (fun W => True) 12 (by kernel_rfl) ?_ ?_
          · exact trivial
          obtain ⟨wd260, hwd_⟩ : ∃ x : World, w250.drew = x := ⟨_, rfl⟩
          rw [hwd_] at F258 ⊢
          have wd260s : w250.heap.size ≤ wd260.heap.size := by rw [← hwd_]; exact Nat.le_refl _
          clear hwd_
          have hS259 := trivial
          refine ru_t 0 [] ?_
          refine ru_t 1 [] ?_
          refine ru_t 2 [] ?_
          refine ru_t 3 [] ?_
          refine ru_t 9 [] ?_
          (try simp only [Act.put, List.setIfInBounds_toArray, List.set_cons_zero, List.set_cons_succ])
          clear hS259
          refine ru_one 4 rfl (by kernel_rfl) (fun K hK => ?_)
          go_simp
          refine (below_c sb (dl.length : Int) _ (F258.at 4 rfl : SeedAt _ sb) (by omega) (by omega)).mono ?_
          rintro e w263 ⟨rz, rfl, hrz, hs262, hg261⟩
          unfold belowR at hrz
          obtain ⟨kz, rfl⟩ : ∃ kz : Nat, rz = (kz : Int) := ⟨rz.toNat, by omega⟩
          have hkz : kz < dl.length := by omega
          have hkz0 : (0 : Int) ≤ (kz : Int) := by omega
          have hkz1 : (kz : Int) < (dl.length : Int) := by omega
          have hzz : Hid ((runN l ic dl dl.length)[kz]? = some (stI l ic dl (kz + 1))) := Lib.hid (runN_get hkz)
          have hzb := (HK.out (kz + 1) (by omega)).bl
          have hg261s := hg261.size
          (try simp at hg261s)
          have F264 := F258.seedAt 4 rfl hg261 hs262
          clear F258
          refine ru_back hK (by exact trivial) (fun hHeld => ?_)
          clear hK K
          (try simp only [Act.put, List.setIfInBounds_toArray, List.set_cons_zero, List.set_cons_succ])
          refine ru_p 5 ?_
          (try simp only [Act.put, List.setIfInBounds_toArray, List.set_cons_zero, List.set_cons_succ])
          refine ru_p 6 ?_
          (try simp only [Act.put, List.setIfInBounds_toArray, List.set_cons_zero, List.set_cons_succ])
          refine ru_p 7 ?_
          (try simp only [Act.put, List.setIfInBounds_toArray, List.set_cons_zero, List.set_cons_succ])
          refine ru_two 8 10 rfl rfl (by kernel_rfl) ?_ ?_
          · intro K hK
            have kq0_ : World.cell? _ ⟨x254, o255 + kz * 8, none⟩ = some (.int .i64 ((stI l ic dl (kz + 1)).bl.lo)) := (((F264.at 0 rfl : Sl iceEnc 8 rl_all rh_all _ (.slice (some ⟨x254, o255, none⟩) dl.length rc_all) (runN l ic dl dl.length))).cells hzz.out 0 _ rfl)
            go_simp
            clear kq0_
            refine ru_back hK (by exact trivial) (fun hHeld => ?_)
            clear hK K
            (try simp only [Act.put, List.setIfInBounds_toArray, List.set_cons_zero, List.set_cons_succ])
            refine ru_one 10 rfl (by kernel_rfl) (fun K hK => ?_)
            go_simp
            refine (from_c sb (-2) 9 _ (F264.at 4 rfl : SeedAt _ sb) (by omega) (by omega) (by omega) (by omega)).mono ?_
            rintro e w269 ⟨r265, rfl, hr266, hs268, hg267⟩
            unfold fromR at hr266; have hr266b : (-2) ≤ r265 ∧ r265 ≤ 9 := (by omega); clear hr266
            have hg267s := hg267.size
            (try simp at hg267s)
            have F270 := F264.seedAt 4 rfl hg267 hs268
            clear F264
            refine ru_back hK (by exact trivial) (fun hHeld => ?_)
            clear hK K
            (try simp only [Act.put, List.setIfInBounds_toArray, List.set_cons_zero, List.set_cons_succ])
            have hw271 : IntKind.i64.wrap ((stI l ic dl (kz + 1)).bl.lo + r265) = (stI l ic dl (kz + 1)).bl.lo + r265 := IntWalk.i64_in _ (by omega)
            refine ru_p 11 ?_
            (try simp only [Act.put, List.setIfInBounds_toArray, List.set_cons_zero, List.set_cons_succ])
            refine ru_one 12 rfl (by kernel_rfl) (fun K hK => ?_)
            go_simp
            refine ru_back_late hK (by kernel_rfl) ?_
            clear hK K
            (try simp only [Act.put, List.setIfInBounds_toArray, List.set_cons_zero, List.set_cons_succ])
            refine ru_done (by kernel_rfl) ?_
            (try clear hw271)
            have Fn_ := F270
            (try dsimp only [List.eraseIdx_cons_succ, List.eraseIdx_cons_zero] at Fn_)
            obtain ⟨w272, hx273, F275, hxs274⟩ := Fn_.name
            (try simp at hxs274)
            rw [hx273]
            clear hx273 F270 Fn_
            go_wp2_with fail
            have F276 : Bun w [rbox (w31.heap.size + 1) 32 (iceC ic), rbox w31.heap.size 29 (froC l (.slice sal l.cov.length scl)), rsl weaEnc 6 ld_dl hd_dl (.slice da_dl dl.length dc_dl) dl, rseed sb, rsl covEnc 3 lo_l hi_l (.slice sal l.cov.length scl) l.cov, rbox (w.heap.size + 1) 32 (iceC x0), rbox w.heap.size 29 (froC l0 (.slice sa0 l0.cov.length sc0)), rsl intEnc 1 0 w.heap.size (.slice na zs.length nc) zs, rsl weaEnc 6 0 w.heap.size (.slice da0 d0.length dc0) d0, rsl covEnc 3 0 w.heap.size (.slice sa0 l0.cov.length sc0) l0.cov] _ := F275.pick [1, 2, 3, 4, 5, 6, 7, 8, 9, 10] (by decide) rfl
            clear F275
            show K_ _ _
            exact hK_.out _ _ (by first | kernel_rfl | rfl) rfl ⟨(stI l ic dl (kz + 1)).bl.lo + r265, (by first | kernel_rfl | rfl), (by first | kernel_rfl | rfl), (by first | kernel_rfl | rfl), (by first | kernel_rfl | rfl), (by first | kernel_rfl | rfl), (by first | kernel_rfl | rfl), (by first | kernel_rfl | rfl), (by first | kernel_rfl | rfl), (by first | omega | (simp; done) | (simp; omega)), (by omega), F276⟩
          · intro K hK
            go_simp
            refine (from_c sb (-2) 9 _ (F264.at 4 rfl : SeedAt _ sb) (by omega) (by omega) (by omega) (by omega)).mono ?_
            rintro e w281 ⟨r277, rfl, hr278, hs280, hg279⟩
            unfold fromR at hr278; have hr278b : (-2) ≤ r277 ∧ r277 ≤ 9 := (by omega); clear hr278
            have hg279s := hg279.size
            (try simp at hg279s)
            have F282 := F264.seedAt 4 rfl hg279 hs280
            clear F264
            refine ru_back hK (by exact trivial) (fun hHeld => ?_)
            clear hK K
            (try simp only [Act.put, List.setIfInBounds_toArray, List.set_cons_zero, List.set_cons_succ])
            refine ru_one 8 rfl (by kernel_rfl) (fun K hK => ?_)
            have kq0_ : World.cell? _ ⟨x254, o255 + kz * 8, none⟩ = some (.int .i64 ((stI l ic dl (kz + 1)).bl.lo)) := (((F282.at 0 rfl : Sl iceEnc 8 rl_all rh_all _ (.slice (some ⟨x254, o255, none⟩) dl.length rc_all) (runN l ic dl dl.length))).cells hzz.out 0 _ rfl)
            go_simp
            clear kq0_
            refine ru_back hK (by exact trivial) (fun hHeld => ?_)
            clear hK K
            (try simp only [Act.put, List.setIfInBounds_toArray, List.set_cons_zero, List.set_cons_succ])
            have hw283 : IntKind.i64.wrap ((stI l ic dl (kz + 1)).bl.lo + r277) = (stI l ic dl (kz + 1)).bl.lo + r277 := IntWalk.i64_in _ (by omega)
            refine ru_p 11 ?_
            (try simp only [Act.put, List.setIfInBounds_toArray, List.set_cons_zero, List.set_cons_succ])
            refine ru_one 12 rfl (by kernel_rfl) (fun K hK => ?_)
            go_simp
            refine ru_back_late hK (by kernel_rfl) ?_
            clear hK K
            (try simp only [Act.put, List.setIfInBounds_toArray, List.set_cons_zero, List.set_cons_succ])
            refine ru_done (by kernel_rfl) ?_
            (try clear hw271 hw283)
            have Fn_ := F282
            (try dsimp only [List.eraseIdx_cons_succ, List.eraseIdx_cons_zero] at Fn_)
            obtain ⟨w284, hx285, F287, hxs286⟩ := Fn_.name
            (try simp at hxs286)
            rw [hx285]
            clear hx285 F282 Fn_
            go_wp2_with fail
            have F288 : Bun w [rbox (w31.heap.size + 1) 32 (iceC ic), rbox w31.heap.size 29 (froC l (.slice sal l.cov.length scl)), rsl weaEnc 6 ld_dl hd_dl (.slice da_dl dl.length dc_dl) dl, rseed sb, rsl covEnc 3 lo_l hi_l (.slice sal l.cov.length scl) l.cov, rbox (w.heap.size + 1) 32 (iceC x0), rbox w.heap.size 29 (froC l0 (.slice sa0 l0.cov.length sc0)), rsl intEnc 1 0 w.heap.size (.slice na zs.length nc) zs, rsl weaEnc 6 0 w.heap.size (.slice da0 d0.length dc0) d0, rsl covEnc 3 0 w.heap.size (.slice sa0 l0.cov.length sc0) l0.cov] _ := F287.pick [1, 2, 3, 4, 5, 6, 7, 8, 9, 10] (by decide) rfl
            clear F287
            show K_ _ _
            exact hK_.out _ _ (by first | kernel_rfl | rfl) rfl ⟨(stI l ic dl (kz + 1)).bl.lo + r277, (by first | kernel_rfl | rfl), (by first | kernel_rfl | rfl), (by first | kernel_rfl | rfl), (by first | kernel_rfl | rfl), (by first | kernel_rfl | rfl), (by first | kernel_rfl | rfl), (by first | kernel_rfl | rfl), (by first | kernel_rfl | rfl), (by first | omega | (simp; done) | (simp; omega)), (by omega), F288⟩
      · skip
        have c246H := Lib.hid c246
        have c246a : decide (0 < (dl.length : Int)) = false := dec_f c246
        go_wp2_with fail
        have F289 : Bun w [rbox (w31.heap.size + 1) 32 (iceC ic), rbox w31.heap.size 29 (froC l (.slice sal l.cov.length scl)), rsl weaEnc 6 ld_dl hd_dl (.slice da_dl dl.length dc_dl) dl, rseed sb, rsl covEnc 3 lo_l hi_l (.slice sal l.cov.length scl) l.cov, rbox (w.heap.size + 1) 32 (iceC x0), rbox w.heap.size 29 (froC l0 (.slice sa0 l0.cov.length sc0)), rsl intEnc 1 0 w.heap.size (.slice na zs.length nc) zs, rsl weaEnc 6 0 w.heap.size (.slice da0 d0.length dc0) d0, rsl covEnc 3 0 w.heap.size (.slice sa0 l0.cov.length sc0) l0.cov] _ := F245.pick [1, 2, 3, 4, 5, 6, 7, 8, 9, 10] (by decide) rfl
        clear F245
        show K_ _ _
        exact hK_.out _ _ (by first | kernel_rfl | rfl) rfl ⟨ic.bl.lo + r46, (by first | kernel_rfl | rfl), (by first | kernel_rfl | rfl), (by first | kernel_rfl | rfl), (by first | kernel_rfl | rfl), (by first | kernel_rfl | rfl), (by first | kernel_rfl | rfl), (by first | kernel_rfl | rfl), (by first | kernel_rfl | rfl), (by first | omega | (simp; done) | (simp; omega)), (by omega), F289⟩
  · skip
    have c11H := Lib.hid c11
    go_wp2_with fail
    refine (awake_c _).mono ?_
    rintro e w292 ⟨rfl, hg290⟩
    have hg290s := hg290.size
    (try simp at hg290s)
    have F293 := F10.gn hg290
    clear F10
    clear hg290
    go_wp2_with fail
    go_ret
    exact ⟨rfl, F293.gb⟩

end Go.Proofs.Ythblaiefalbomaa
