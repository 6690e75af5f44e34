/- build: BuildChecks walked. -/
import Derived.Test.YtokelpmngahnoaaL0
import Derived.Test.YtokelpmngahnoaaE1
import Derived.Test.YtokelpmngahnoaaE2
import Derived.Test.YtokelpmngahnoaaJK2
import Derived.Test.YtokelpmngahnoaaJK4
import Derived.Test.YtokelpmngahnoaaW2
set_option linter.unusedVariables false
set_option linter.unusedSimpArgs false
set_option linter.unnecessarySimpa false
namespace Go.Proofs.Ytokelpmngahnoaa
open Go.RowKit
set_option maxRecDepth 100000
attribute [local go_sem] Oper.semAt_some
def rowEnc (v : Value) : List Value := [v]
theorem row_of {v0 v1 zv : Value} (d0 dl : List Wea) {k : Nat} (h : [v0, v1, v1][k]? = some zv) : ∃ dk : List Wea, zv = v0 ∧ dk = d0 ∨ zv = v1 ∧ dk = dl := by
  match k, h with
  | 0, h => exact ⟨d0, .inl ⟨by simpa using h.symm, rfl⟩⟩
  | 1, h => exact ⟨dl, .inr ⟨by simpa using h.symm, rfl⟩⟩
  | 2, h => exact ⟨dl, .inr ⟨by simpa using h.symm, rfl⟩⟩
  | n + 3, h => simp at h
theorem row_pick {w : World} {v0 v1 zv : Value} {d0 dl dk : List Wea} {l1 h1 l2 h2 : Nat} (h : zv = v0 ∧ dk = d0 ∨ zv = v1 ∧ dk = dl) (s0 : Sl weaEnc 6 l1 h1 w v0 d0) (s1 : Sl weaEnc 6 l2 h2 w v1 dl) (b0 : h1 ≤ w.heap.size) (b1 : h2 ≤ w.heap.size) : Sl weaEnc 6 0 w.heap.size w zv dk := by
  rcases h with ⟨rfl, rfl⟩ | ⟨rfl, rfl⟩
  · exact s0.wide (Nat.zero_le _) b0
  · exact s1.wide (Nat.zero_le _) b1

set_option maxHeartbeats 64000000 in
theorem checks_walk (vm vt : Value) (m0 : List Mch) (t0 : List Tsk) (x : Mch) (vd : Value) (d0 : List Wea) (um : Int) (uh uw uf : Sp) (ua : List Int) (uv : Value) (vn : Value) (zs : List Int) (w : World) (hj : JobAt 0 w.heap.size w vm vt m0 t0) (hd : Sl weaEnc 6 0 w.heap.size w vd d0) (hu : Sl intEnc 1 0 w.heap.size w uv ua) (huc : CapOk uv) (hn : Sl intEnc 1 0 w.heap.size w vn zs) :
    Calls Try.prog 8 #[.agg #[vm, vt], .agg #[.int .i64 x.mild, .int .i64 x.hard, .int .i64 x.shift], vd, .agg #[.int .i64 um, .int .i64 uh.lo, .int .i64 uh.hi, .int .i64 uw.lo, .int .i64 uw.hi, .int .i64 uf.lo, .int .i64 uf.hi, uv], vn] w (Ret (.bool true) w) := by
  have F1 : Bun w [] w := Bun.nil _
  obtain ⟨hms0, hts0, haf0⟩ := hj
  have hm_ms0 := hms0.len
  unfold maxLen at hm_ms0
  obtain ⟨aM0, cM0, rfl⟩ := hms0.any
  have F2 := F1.sl0 hms0 (Nat.le_refl _) rfl
  clear F1
  clear hms0
  have hm_ts0 := hts0.len
  unfold maxLen at hm_ts0
  obtain ⟨aT0, cT0, rfl⟩ := hts0.any
  have F3 := F2.sl0 hts0 (Nat.le_refl _) rfl
  clear F2
  clear hts0
  have F4 := F3.non0 (rafs 0 w.heap.size t0) haf0 (fun _ h_ => Nat.lt_of_lt_of_le h_.2 (Nat.le_refl _)) rfl rfl
  clear F3
  clear haf0
  have hm_ds0 := hd.len
  unfold maxLen at hm_ds0
  obtain ⟨ad0, cd0, rfl⟩ := hd.any
  have F5 := F4.sl0 hd (Nat.le_refl _) rfl
  clear F4
  clear hd
  have hm_afu := hu.len
  unfold maxLen at hm_afu
  obtain ⟨au, cu, rfl⟩ := hu.any
  have F6 := F5.sl0 hu (Nat.le_refl _) rfl
  clear F5
  clear hu
  have HUC := Lib.hid huc
  clear huc
  obtain ⟨na, nc, rfl⟩ := hn.any
  have hm_nums := hn.len
  unfold maxLen at hm_nums
  have F7 := F6.sl0 hn (Nat.le_refl _) rfl
  clear F6
  go_enter Try.func8, Try.ntmps8
  go_wp2_with fail
  have F9 := F7.new 25 #[.slice aM0 m0.length cM0, .slice aT0 t0.length cT0] (n := w.heap.size) (by simp)
  clear F7
  have F10 := F9.new 77 #[.int .i64 x.mild, .int .i64 x.hard, .int .i64 x.shift] (n := (w.heap.size + 1)) (by simp)
  clear F9
  have F11 := F10.new 79 #[.int .i64 um, .int .i64 uh.lo, .int .i64 uh.hi, .int .i64 uw.lo, .int .i64 uw.hi, .int .i64 uf.lo, .int .i64 uf.hi, .slice au ua.length cu] (n := (w.heap.size + 2)) (by simp)
  clear F10
  refine (bbig_c 0 w.heap.size _ _ m0 t0 0 w.heap.size _ d0 _ (JobAt.mk (F11.at 8 rfl : Sl mchEnc 3 0 w.heap.size _ (.slice aM0 m0.length cM0) m0) (F11.at 7 rfl : Sl tskEnc 8 0 w.heap.size _ (.slice aT0 t0.length cT0) t0) (F11.at 6 rfl : Afs 0 w.heap.size _ t0)) (by first | omega | (simp; omega)) (F11.at 5 rfl : Sl weaEnc 6 0 w.heap.size _ (.slice ad0 d0.length cd0) d0) (by first | omega | (simp; omega))).mono ?_
  rintro e w14 ⟨bb8, rfl, _, hg12⟩
  have hg12s := hg12.size
  (try simp at hg12s)
  have F15 := F11.gn hg12
  clear F11
  clear hg12
  cases c16 : bb8
  · skip
    have c16H := Lib.hid c16
    by_cases c17 : 40 < (ua.length : Int)
    · skip
      have c17H := Lib.hid c17
      have b18 := F15.bx8 0 rfl
      go_wp2_with fail
      clear b18
      refine (awake_c _).mono ?_
      rintro e w21 ⟨rfl, hg19⟩
      have hg19s := hg19.size
      (try simp at hg19s)
      have F22 := F15.gn hg19
      clear F15
      clear hg19
      go_wp2_with fail
      go_ret
      exact ⟨rfl, F22.gb⟩
    · skip
      have c17H := Lib.hid c17
      have c17a : decide (40 < (ua.length : Int)) = false := dec_f c17
      have b23 := F15.bx8 0 rfl
      go_wp2_with fail
      clear b23
      refine (newSeed_c 0 w.heap.size _ zs _ (F15.at 3 rfl : Sl intEnc 1 0 w.heap.size _ (.slice na zs.length nc) zs)).mono ?_
      rintro e w26 ⟨sb, rfl, hsb, hsbs, hg24⟩
      have hsbl := hsbs.lt
      have hg24s := hg24.size
      (try simp at hg24s)
      have F27 := F15.add (rseed sb) hg24 (hsbs) (fun g e => by cases e; exact ⟨hsb, hsbs.lt⟩)
      clear F15
      clear hg24
      go_wp2_with fail
      obtain ⟨w28, hx29, F31, hxs30⟩ := (show Bun w [rseed sb, rbox (w.heap.size + 2) 79 #[.int .i64 um, .int .i64 uh.lo, .int .i64 uh.hi, .int .i64 uw.lo, .int .i64 uw.hi, .int .i64 uf.lo, .int .i64 uf.hi, .slice au ua.length cu], rbox (w.heap.size + 1) 77 #[.int .i64 x.mild, .int .i64 x.hard, .int .i64 x.shift], rbox w.heap.size 25 #[.slice aM0 m0.length cM0, .slice aT0 t0.length cT0], rsl intEnc 1 0 w.heap.size (.slice na zs.length nc) zs, rsl intEnc 1 0 w.heap.size (.slice au ua.length cu) ua, rsl weaEnc 6 0 w.heap.size (.slice ad0 d0.length cd0) d0, rafs 0 w.heap.size t0, rsl tskEnc 8 0 w.heap.size (.slice aT0 t0.length cT0) t0, rsl mchEnc 3 0 w.heap.size (.slice aM0 m0.length cM0) m0] _ from F27).name
      (try simp at hxs30)
      rw [hx29]
      clear hx29 F27
      refine (jobOf_o sb 6 _ (F31.at 0 rfl : SeedAt _ sb) (by omega)).mono ?_
      rintro e w32 ⟨v1, v2, lm, lt, rfl, ⟨hlm1, hlm2, hlt1, hsl_⟩, hB33⟩
      have hB33s := hB33.gb.size
      (try simp at hB33s)
      have F34 := F31.joinS (L2 := [rown mchEnc 77 3 w28.heap.size v1 lm, rown tskEncS 79 8 w28.heap.size v2 lt, rafo w28.heap.size lt]) hB33 rfl 0 rfl
      clear F31
      clear hB33
      (try dsimp only [List.cons_append, List.nil_append] at F34)
      have HSL := Lib.hid hsl_
      clear hsl_
      obtain ⟨oa1, oc1, e_⟩ := (Own.sl (F34.at 0 rfl : Own mchEnc 77 3 w28.heap.size _ v1 lm) (fun _ => rfl)).any
      subst e_
      have hm_mo := (Own.sl (F34.at 0 rfl : Own mchEnc 77 3 w28.heap.size _ (.slice oa1 lm.length oc1) lm) (fun _ => rfl)).len
      unfold maxLen at hm_mo
      obtain ⟨oa2, oc2, e_⟩ := (Own.sl (F34.at 1 rfl : Own tskEncS 79 8 w28.heap.size _ v2 lt) (fun _ => rfl)).any
      subst e_
      have hm_to := (Own.sl (F34.at 1 rfl : Own tskEncS 79 8 w28.heap.size _ (.slice oa2 lt.length oc2) lt) (fun _ => rfl)).len
      unfold maxLen at hm_to
      (skip)
      by_cases c35 : 0 < (lt.length : Int)
      · skip
        have c35H := Lib.hid c35
        go_wp2_with fail
        have F37 := F34.new 25 #[.slice oa1 lm.length oc1, .slice oa2 lt.length oc2] (n := w32.heap.size) (by simp)
        clear F34
        refine (yes_c sb 2 _ (F37.at 4 rfl : SeedAt _ sb) (by omega) (by omega)).mono ?_
        rintro e w40 ⟨yb36, rfl, hs39, hg38⟩
        have hg38s := hg38.size
        (try simp at hg38s)
        have F41 := F37.seedAt 4 rfl hg38 hs39
        clear F37
        clear hg38
        cases c42 : yb36
        · skip
          have c42H := Lib.hid c42
          have b45 := F41.bx2 0 rfl
          go_wp2_with fail
          clear b45
          refine (below_c sb (lm.length : Int) _ (F41.at 4 rfl : SeedAt _ sb) (by omega) (by omega)).mono ?_
          rintro e w48 ⟨r43, rfl, hr44, hs47, hg46⟩
          unfold belowR at hr44
          have hg46s := hg46.size
          (try simp at hg46s)
          have F49 := F41.seedAt 4 rfl hg46 hs47
          clear F41
          clear hg46
          go_wp2_with fail
          refine (weekOf_c sb 6 _ ((F49.front 4 rfl rfl).at 0 rfl : SeedAt _ sb) (by omega)).mono ?_
          rintro e w52 ⟨dl, aw_dl, cw_dl, lw_dl, hw_dl, rfl, ⟨hwx_dl, hwy_dl⟩, hwz_dl, ⟨hwl_dl, hwe_dl⟩, hs51, hg50⟩
          have HWE_dl := Lib.hid hwe_dl
          clear hwe_dl
          have hg50s := hg50.size
          (try simp at hg50s)
          have F53 := (F49.front 4 rfl rfl).seedAdd (rsl weaEnc 6 lw_dl hw_dl (.slice aw_dl dl.length cw_dl) dl) hg50 hs51 (hwz_dl) (fun g e => ⟨Nat.le_trans hwx_dl e.1, Nat.lt_of_lt_of_le e.2 hwy_dl⟩)
          clear F49
          clear hg50
          have hkx_ : r43 < (lm.length : Int) := by omega
          have hkz_ : 0 ≤ r43 := by omega
          obtain ⟨gT54, cT55, e_⟩ := Own.opn (F53.at 3 rfl : Own mchEnc 77 3 w28.heap.size _ (.slice oa1 lm.length oc1) lm) (by omega)
          injection e_ with e1_ _ e2_
          subst e1_ e2_
          have gT54l := (F53.ltAt 3 rfl _ rfl).1
          obtain ⟨zm, hz56_⟩ : ∃ z_, lm[r43.toNat]? = some z_ := ⟨_, List.getElem?_eq_getElem (by omega)⟩
          have hz56 := Lib.hid hz56_
          clear hz56_
          go_wp2_with fail
          refine wp_cutK 126 (fun t wr => ∃ (g8_67 : Nat) (g8_71 : Nat), t 5 = .pointer (some ⟨w.heap.size, 0, none⟩) ∧ t 12 = .pointer (some ⟨w32.heap.size, 0, none⟩) ∧ t 15 = .slice (some ⟨g8_67, 0, none⟩) 3 3 ∧ t 16 = .slice (some ⟨g8_71, 0, none⟩) 3 3 ∧ w52.heap.size ≤ wr.heap.size ∧ Bun w [rbox g8_67 77 #[.int .i64 x.mild, .int .i64 x.hard, .int .i64 x.shift, .int .i64 zm.mild, .int .i64 zm.hard, .int .i64 zm.shift, .int .i64 x.mild, .int .i64 x.hard, .int .i64 x.shift], rbox g8_71 26 #[.slice ad0 d0.length cd0, .slice aw_dl dl.length cw_dl, .slice aw_dl dl.length cw_dl], rsl weaEnc 6 lw_dl hw_dl (.slice aw_dl dl.length cw_dl) dl, rseed sb, rbox w32.heap.size 25 #[.slice (some ⟨gT54, 0, none⟩) lm.length oc1, .slice oa2 lt.length oc2], rown mchEnc 77 3 w28.heap.size (.slice (some ⟨gT54, 0, none⟩) lm.length oc1) lm, rown tskEncS 79 8 w28.heap.size (.slice oa2 lt.length oc2) lt, rafo w28.heap.size lt, rbox (w.heap.size + 2) 79 #[.int .i64 um, .int .i64 uh.lo, .int .i64 uh.hi, .int .i64 uw.lo, .int .i64 uw.hi, .int .i64 uf.lo, .int .i64 uf.hi, .slice au ua.length cu], rbox (w.heap.size + 1) 77 #[.int .i64 x.mild, .int .i64 x.hard, .int .i64 x.shift], rbox w.heap.size 25 #[.slice aM0 m0.length cM0, .slice aT0 t0.length cT0], rsl intEnc 1 0 w.heap.size (.slice na zs.length nc) zs, rsl intEnc 1 0 w.heap.size (.slice au ua.length cu) ua, rsl weaEnc 6 0 w.heap.size (.slice ad0 d0.length cd0) d0, rafs 0 w.heap.size t0, rsl tskEnc 8 0 w.heap.size (.slice aT0 t0.length cT0) t0, rsl mchEnc 3 0 w.heap.size (.slice aM0 m0.length cM0) m0] wr) ?first4 ?rest4
          case rest4 =>
            rintro t wr ⟨g8_67, g8_71, e5, e12, e15, e16, hrel⟩
            have e : ((List.range 126).map t).toArray = #[t 0, t 1, t 2, t 3, t 4, t 5, t 6, t 7, t 8, t 9, t 10, t 11, t 12, t 13, t 14, t 15, t 16, t 17, t 18, t 19, t 20, t 21, t 22, t 23, t 24, t 25, t 26, t 27, t 28, t 29, t 30, t 31, t 32, t 33, t 34, t 35, t 36, t 37, t 38, t 39, t 40, t 41, t 42, t 43, t 44, t 45, t 46, t 47, t 48, t 49, t 50, t 51, t 52, t 53, t 54, t 55, t 56, t 57, t 58, t 59, t 60, t 61, t 62, t 63, t 64, t 65, t 66, t 67, t 68, t 69, t 70, t 71, t 72, t 73, t 74, t 75, t 76, t 77, t 78, t 79, t 80, t 81, t 82, t 83, t 84, t 85, t 86, t 87, t 88, t 89, t 90, t 91, t 92, t 93, t 94, t 95, t 96, t 97, t 98, t 99, t 100, t 101, t 102, t 103, t 104, t 105, t 106, t 107, t 108, t 109, t 110, t 111, t 112, t 113, t 114, t 115, t 116, t 117, t 118, t 119, t 120, t 121, t 122, t 123, t 124, t 125] := rfl
            (try dsimp only at e)
            rw [e5, e12, e15, e16] at e
            rw [e]
            clear e e5 e12 e15 e16
            obtain ⟨hs58, hF57⟩ := hrel
            clear F53
            obtain ⟨w59, rfl⟩ : ∃ x_ : World, x_ = wr := ⟨_, rfl⟩
            go_wp2_with fail
            have F60 := hF57.lit mchEnc 3 [(⟨x.mild, x.hard, x.shift⟩ : Mch), ⟨zm.mild, zm.hard, zm.shift⟩, ⟨x.mild, x.hard, x.shift⟩] 3 (fun _ => rfl) rfl (by show (3 : Nat) ≤ 1000; omega)
            clear hF57
            have F61 := (F60.front 1 rfl rfl).lit rowEnc 1 [(.slice ad0 d0.length cd0 : Value), .slice aw_dl dl.length cw_dl, .slice aw_dl dl.length cw_dl] 3 (fun _ => rfl) rfl (by show (3 : Nat) ≤ 1000; omega)
            clear F60
            (skip)
            obtain ⟨HI62_, HI620⟩ : ∃ I : (Nat → Value) → List Deferred → World → Prop, I = (fun t ds wr => ∃ (k : Nat), t 5 = .pointer (some ⟨w.heap.size, 0, none⟩) ∧ t 12 = .pointer (some ⟨w32.heap.size, 0, none⟩) ∧ t 15 = .slice (some ⟨g8_67, 0, none⟩) 3 3 ∧ t 16 = .slice (some ⟨g8_71, 0, none⟩) 3 3 ∧ t 17 = .int .i64 (k : Int) ∧ k ≤ 3 ∧ ds = [] ∧ w59.heap.size ≤ wr.heap.size ∧ Bun w [rsl rowEnc 1 g8_71 (g8_71 + 1) (.slice (some ⟨g8_71, 0, none⟩) 3 3) ([(.slice ad0 d0.length cd0 : Value), .slice aw_dl dl.length cw_dl, .slice aw_dl dl.length cw_dl]), rsl mchEnc 3 g8_67 (g8_67 + 1) (.slice (some ⟨g8_67, 0, none⟩) 3 3) ([(⟨x.mild, x.hard, x.shift⟩ : Mch), ⟨zm.mild, zm.hard, zm.shift⟩, ⟨x.mild, x.hard, x.shift⟩]), rsl weaEnc 6 lw_dl hw_dl (.slice aw_dl dl.length cw_dl) dl, rseed sb, rbox w32.heap.size 25 #[.slice (some ⟨gT54, 0, none⟩) lm.length oc1, .slice oa2 lt.length oc2], rown mchEnc 77 3 w28.heap.size (.slice (some ⟨gT54, 0, none⟩) lm.length oc1) lm, rown tskEncS 79 8 w28.heap.size (.slice oa2 lt.length oc2) lt, rafo w28.heap.size lt, rbox w.heap.size 25 #[.slice aM0 m0.length cM0, .slice aT0 t0.length cT0], rsl intEnc 1 0 w.heap.size (.slice na zs.length nc) zs, rsl intEnc 1 0 w.heap.size (.slice au ua.length cu) ua, rsl weaEnc 6 0 w.heap.size (.slice ad0 d0.length cd0) d0, rafs 0 w.heap.size t0, rsl tskEnc 8 0 w.heap.size (.slice aT0 t0.length cT0) t0, rsl mchEnc 3 0 w.heap.size (.slice aM0 m0.length cM0) m0] wr) := ⟨_, rfl⟩
            have HI62 := Lib.hid HI620
            clear HI620
            refine wp_loopS 126 rfl HI62_ (fun t wr => 3 - (intOf (t 17)).toNat) ?atStart1 ?round1
            case round1 =>
              intro t ds wr hHid
              rw [HI62.out] at hHid
              obtain ⟨k, e5, e12, e15, e16, e17, hrel⟩ := hHid
              have e : ((List.range 126).map t).toArray = #[t 0, t 1, t 2, t 3, t 4, t 5, t 6, t 7, t 8, t 9, t 10, t 11, t 12, t 13, t 14, t 15, t 16, t 17, t 18, t 19, t 20, t 21, t 22, t 23, t 24, t 25, t 26, t 27, t 28, t 29, t 30, t 31, t 32, t 33, t 34, t 35, t 36, t 37, t 38, t 39, t 40, t 41, t 42, t 43, t 44, t 45, t 46, t 47, t 48, t 49, t 50, t 51, t 52, t 53, t 54, t 55, t 56, t 57, t 58, t 59, t 60, t 61, t 62, t 63, t 64, t 65, t 66, t 67, t 68, t 69, t 70, t 71, t 72, t 73, t 74, t 75, t 76, t 77, t 78, t 79, t 80, t 81, t 82, t 83, t 84, t 85, t 86, t 87, t 88, t 89, t 90, t 91, t 92, t 93, t 94, t 95, t 96, t 97, t 98, t 99, t 100, t 101, t 102, t 103, t 104, t 105, t 106, t 107, t 108, t 109, t 110, t 111, t 112, t 113, t 114, t 115, t 116, t 117, t 118, t 119, t 120, t 121, t 122, t 123, t 124, t 125] := rfl
              (try dsimp only at e)
              rw [e5, e12, e15, e16, e17] at e
              rw [e]
              simp only [e17]
              clear e e5 e12 e15 e16 e17
              obtain ⟨hk, rfl, hs64, hF63⟩ := hrel
              clear F61
              obtain ⟨w65, rfl⟩ : ∃ x_ : World, x_ = wr := ⟨_, rfl⟩
              by_cases c66 : (k : Int) < 3
              · skip
                have c66H := Lib.hid c66
                obtain ⟨z, hz67_⟩ : ∃ z_, ([(⟨x.mild, x.hard, x.shift⟩ : Mch), ⟨zm.mild, zm.hard, zm.shift⟩, ⟨x.mild, x.hard, x.shift⟩])[k]? = some z_ := ⟨_, List.getElem?_eq_getElem (by show k < 3; omega)⟩
                have hz67 := Lib.hid hz67_
                clear hz67_
                obtain ⟨zv, hz68_⟩ : ∃ z_, ([(.slice ad0 d0.length cd0 : Value), .slice aw_dl dl.length cw_dl, .slice aw_dl dl.length cw_dl])[k]? = some z_ := ⟨_, List.getElem?_eq_getElem (by show k < 3; omega)⟩
                have hz68 := Lib.hid hz68_
                clear hz68_
                obtain ⟨dk, hrow_⟩ := row_of d0 dl hz68.out
                have HROW := Lib.hid hrow_
                clear hrow_
                go_wp2_with fail
                have F71 := hF63.drew
                clear hF63
                refine ru_begin (fun W => W.cell? ⟨g8_67, k * 3, none⟩ = some (.int .i64 z.mild) ∧ W.cell? ⟨g8_67, k * 3 + 1, none⟩ = some (.int .i64 z.hard) ∧ W.cell? ⟨g8_67, k * 3 + 2, none⟩ = some (.int .i64 z.shift) ∧ W.cell? ⟨g8_71, k, none⟩ = some zv) 13 (by kernel_rfl) ?_ ?_
                · exact ⟨(((F71.at 1 rfl : Sl mchEnc 3 g8_67 (g8_67 + 1) _ (.slice (some ⟨g8_67, 0, none⟩) 3 3) ([(⟨x.mild, x.hard, x.shift⟩ : Mch), ⟨zm.mild, zm.hard, zm.shift⟩, ⟨x.mild, x.hard, x.shift⟩]))).cells0 hz67.out 0 _ rfl), (((F71.at 1 rfl : Sl mchEnc 3 g8_67 (g8_67 + 1) _ (.slice (some ⟨g8_67, 0, none⟩) 3 3) ([(⟨x.mild, x.hard, x.shift⟩ : Mch), ⟨zm.mild, zm.hard, zm.shift⟩, ⟨x.mild, x.hard, x.shift⟩]))).cells0 hz67.out 1 _ rfl), (((F71.at 1 rfl : Sl mchEnc 3 g8_67 (g8_67 + 1) _ (.slice (some ⟨g8_67, 0, none⟩) 3 3) ([(⟨x.mild, x.hard, x.shift⟩ : Mch), ⟨zm.mild, zm.hard, zm.shift⟩, ⟨x.mild, x.hard, x.shift⟩]))).cells0 hz67.out 2 _ rfl), (by have h_ := ((F71.at 0 rfl : Sl rowEnc 1 g8_71 (g8_71 + 1) _ (.slice (some ⟨g8_71, 0, none⟩) 3 3) ([(.slice ad0 d0.length cd0 : Value), .slice aw_dl dl.length cw_dl, .slice aw_dl dl.length cw_dl]))).cells0 hz68.out 0 _ rfl; simpa using h_)⟩
                obtain ⟨wd73, hwd_⟩ : ∃ x : World, w65.drew = x := ⟨_, rfl⟩
                rw [hwd_] at F71 ⊢
                have wd73s : w65.heap.size ≤ wd73.heap.size := by rw [← hwd_]; exact Nat.le_refl _
                clear hwd_
                have hS72 := (And.intro ((((F71.at 1 rfl : Sl mchEnc 3 g8_67 (g8_67 + 1) _ (.slice (some ⟨g8_67, 0, none⟩) 3 3) ([(⟨x.mild, x.hard, x.shift⟩ : Mch), ⟨zm.mild, zm.hard, zm.shift⟩, ⟨x.mild, x.hard, x.shift⟩]))).cells0 hz67.out 0 _ rfl)) (And.intro ((((F71.at 1 rfl : Sl mchEnc 3 g8_67 (g8_67 + 1) _ (.slice (some ⟨g8_67, 0, none⟩) 3 3) ([(⟨x.mild, x.hard, x.shift⟩ : Mch), ⟨zm.mild, zm.hard, zm.shift⟩, ⟨x.mild, x.hard, x.shift⟩]))).cells0 hz67.out 1 _ rfl)) (And.intro ((((F71.at 1 rfl : Sl mchEnc 3 g8_67 (g8_67 + 1) _ (.slice (some ⟨g8_67, 0, none⟩) 3 3) ([(⟨x.mild, x.hard, x.shift⟩ : Mch), ⟨zm.mild, zm.hard, zm.shift⟩, ⟨x.mild, x.hard, x.shift⟩]))).cells0 hz67.out 2 _ rfl)) ((by have h_ := ((F71.at 0 rfl : Sl rowEnc 1 g8_71 (g8_71 + 1) _ (.slice (some ⟨g8_71, 0, none⟩) 3 3) ([(.slice ad0 d0.length cd0 : Value), .slice aw_dl dl.length cw_dl, .slice aw_dl dl.length cw_dl]))).cells0 hz68.out 0 _ rfl; simpa using h_)))))
                refine ru_t 0 [] ?_
                refine ru_t 1 [] ?_
                refine ru_t 2 [] ?_
                refine ru_t 3 [] ?_
                refine ru_t 4 [] ?_
                refine ru_t 5 [] ?_
                refine ru_t 6 [] ?_
                refine ru_t 7 [] ?_
                (try simp only [Act.put, List.setIfInBounds_toArray, List.set_cons_zero, List.set_cons_succ])
                clear hS72
                refine ru_one 8 rfl (by kernel_rfl) (fun K hK => ?_)
                go_simp
                refine (bworks_c z 0 _ _ dk _ (row_pick HROW.out (F71.at 11 rfl : Sl weaEnc 6 0 w.heap.size _ (.slice ad0 d0.length cd0) d0) (F71.at 2 rfl : Sl weaEnc 6 lw_dl hw_dl _ (.slice aw_dl dl.length cw_dl) dl) (by first | omega | (simp; omega)) (by first | omega | (simp; omega))) (Nat.le_refl _)).mono ?_
                rintro e w77 ⟨akk74, ckk74, lkk74, hkk74, rfl, ⟨hkxk74, hkyk74⟩, hksk74, hg75⟩
                have hg75s := hg75.size
                (try simp at hg75s)
                have F78 := F71.add (rsl intEnc 1 lkk74 hkk74 (.slice akk74 (wksOf z dk).length ckk74) (wksOf z dk)) hg75 (hksk74) (fun g e => ⟨Nat.le_trans hkxk74 e.1, Nat.lt_of_lt_of_le e.2 hkyk74⟩)
                clear F71
                refine ru_back hK (by exact ⟨(((F78.at 2 rfl : Sl mchEnc 3 g8_67 (g8_67 + 1) _ (.slice (some ⟨g8_67, 0, none⟩) 3 3) ([(⟨x.mild, x.hard, x.shift⟩ : Mch), ⟨zm.mild, zm.hard, zm.shift⟩, ⟨x.mild, x.hard, x.shift⟩]))).cells0 hz67.out 0 _ rfl), (((F78.at 2 rfl : Sl mchEnc 3 g8_67 (g8_67 + 1) _ (.slice (some ⟨g8_67, 0, none⟩) 3 3) ([(⟨x.mild, x.hard, x.shift⟩ : Mch), ⟨zm.mild, zm.hard, zm.shift⟩, ⟨x.mild, x.hard, x.shift⟩]))).cells0 hz67.out 1 _ rfl), (((F78.at 2 rfl : Sl mchEnc 3 g8_67 (g8_67 + 1) _ (.slice (some ⟨g8_67, 0, none⟩) 3 3) ([(⟨x.mild, x.hard, x.shift⟩ : Mch), ⟨zm.mild, zm.hard, zm.shift⟩, ⟨x.mild, x.hard, x.shift⟩]))).cells0 hz67.out 2 _ rfl), (by have h_ := ((F78.at 1 rfl : Sl rowEnc 1 g8_71 (g8_71 + 1) _ (.slice (some ⟨g8_71, 0, none⟩) 3 3) ([(.slice ad0 d0.length cd0 : Value), .slice aw_dl dl.length cw_dl, .slice aw_dl dl.length cw_dl]))).cells0 hz68.out 0 _ rfl; simpa using h_)⟩) (fun hHeld => ?_)
                clear hK K
                (try simp only [Act.put, List.setIfInBounds_toArray, List.set_cons_zero, List.set_cons_succ])
                refine ru_p 9 ?_
                (try simp only [Act.put, List.setIfInBounds_toArray, List.set_cons_zero, List.set_cons_succ])
                refine ru_p 10 ?_
                refine ru_p 11 ?_
                (try simp only [Act.put, List.setIfInBounds_toArray, List.set_cons_zero, List.set_cons_succ])
                refine ru_p 12 ?_
                (try simp only [Act.put, List.setIfInBounds_toArray, List.set_cons_zero, List.set_cons_succ])
                refine ru_one 13 rfl (by kernel_rfl) (fun K hK => ?_)
                go_simp
                refine ru_back_late hK (by kernel_rfl) ?_
                clear hK K
                (try simp only [Act.put, List.setIfInBounds_toArray, List.set_cons_zero, List.set_cons_succ])
                refine ru_done (by kernel_rfl) ?_
                obtain ⟨w79, hx80, F82, hxs81⟩ := (show Bun w [rsl intEnc 1 lkk74 hkk74 (.slice akk74 (wksOf z dk).length ckk74) (wksOf z dk), rsl rowEnc 1 g8_71 (g8_71 + 1) (.slice (some ⟨g8_71, 0, none⟩) 3 3) ([(.slice ad0 d0.length cd0 : Value), .slice aw_dl dl.length cw_dl, .slice aw_dl dl.length cw_dl]), rsl mchEnc 3 g8_67 (g8_67 + 1) (.slice (some ⟨g8_67, 0, none⟩) 3 3) ([(⟨x.mild, x.hard, x.shift⟩ : Mch), ⟨zm.mild, zm.hard, zm.shift⟩, ⟨x.mild, x.hard, x.shift⟩]), rsl weaEnc 6 lw_dl hw_dl (.slice aw_dl dl.length cw_dl) dl, rseed sb, rbox w32.heap.size 25 #[.slice (some ⟨gT54, 0, none⟩) lm.length oc1, .slice oa2 lt.length oc2], rown mchEnc 77 3 w28.heap.size (.slice (some ⟨gT54, 0, none⟩) lm.length oc1) lm, rown tskEncS 79 8 w28.heap.size (.slice oa2 lt.length oc2) lt, rafo w28.heap.size lt, rbox w.heap.size 25 #[.slice aM0 m0.length cM0, .slice aT0 t0.length cT0], rsl intEnc 1 0 w.heap.size (.slice na zs.length nc) zs, rsl intEnc 1 0 w.heap.size (.slice au ua.length cu) ua, rsl weaEnc 6 0 w.heap.size (.slice ad0 d0.length cd0) d0, rafs 0 w.heap.size t0, rsl tskEnc 8 0 w.heap.size (.slice aT0 t0.length cT0) t0, rsl mchEnc 3 0 w.heap.size (.slice aM0 m0.length cM0) m0] _ from F78).name
                (try simp at hxs81)
                rw [hx80]
                clear hx80 F78
                go_wp2_with fail
                have F85 := F82.drew
                clear F82
                refine ru_begin (fun W => W.cell? ⟨g8_67, k * 3, none⟩ = some (.int .i64 z.mild) ∧ W.cell? ⟨g8_67, k * 3 + 1, none⟩ = some (.int .i64 z.hard) ∧ W.cell? ⟨g8_67, k * 3 + 2, none⟩ = some (.int .i64 z.shift) ∧ W.cell? ⟨g8_71, k, none⟩ = some zv) 13 (by kernel_rfl) ?_ ?_
                · exact ⟨(((F85.at 2 rfl : Sl mchEnc 3 g8_67 (g8_67 + 1) _ (.slice (some ⟨g8_67, 0, none⟩) 3 3) ([(⟨x.mild, x.hard, x.shift⟩ : Mch), ⟨zm.mild, zm.hard, zm.shift⟩, ⟨x.mild, x.hard, x.shift⟩]))).cells0 hz67.out 0 _ rfl), (((F85.at 2 rfl : Sl mchEnc 3 g8_67 (g8_67 + 1) _ (.slice (some ⟨g8_67, 0, none⟩) 3 3) ([(⟨x.mild, x.hard, x.shift⟩ : Mch), ⟨zm.mild, zm.hard, zm.shift⟩, ⟨x.mild, x.hard, x.shift⟩]))).cells0 hz67.out 1 _ rfl), (((F85.at 2 rfl : Sl mchEnc 3 g8_67 (g8_67 + 1) _ (.slice (some ⟨g8_67, 0, none⟩) 3 3) ([(⟨x.mild, x.hard, x.shift⟩ : Mch), ⟨zm.mild, zm.hard, zm.shift⟩, ⟨x.mild, x.hard, x.shift⟩]))).cells0 hz67.out 2 _ rfl), (by have h_ := ((F85.at 1 rfl : Sl rowEnc 1 g8_71 (g8_71 + 1) _ (.slice (some ⟨g8_71, 0, none⟩) 3 3) ([(.slice ad0 d0.length cd0 : Value), .slice aw_dl dl.length cw_dl, .slice aw_dl dl.length cw_dl]))).cells0 hz68.out 0 _ rfl; simpa using h_)⟩
                obtain ⟨wd87, hwd_⟩ : ∃ x : World, w79.drew = x := ⟨_, rfl⟩
                rw [hwd_] at F85 ⊢
                have wd87s : w79.heap.size ≤ wd87.heap.size := by rw [← hwd_]; exact Nat.le_refl _
                clear hwd_
                have hS86 := (And.intro ((((F85.at 2 rfl : Sl mchEnc 3 g8_67 (g8_67 + 1) _ (.slice (some ⟨g8_67, 0, none⟩) 3 3) ([(⟨x.mild, x.hard, x.shift⟩ : Mch), ⟨zm.mild, zm.hard, zm.shift⟩, ⟨x.mild, x.hard, x.shift⟩]))).cells0 hz67.out 0 _ rfl)) (And.intro ((((F85.at 2 rfl : Sl mchEnc 3 g8_67 (g8_67 + 1) _ (.slice (some ⟨g8_67, 0, none⟩) 3 3) ([(⟨x.mild, x.hard, x.shift⟩ : Mch), ⟨zm.mild, zm.hard, zm.shift⟩, ⟨x.mild, x.hard, x.shift⟩]))).cells0 hz67.out 1 _ rfl)) (And.intro ((((F85.at 2 rfl : Sl mchEnc 3 g8_67 (g8_67 + 1) _ (.slice (some ⟨g8_67, 0, none⟩) 3 3) ([(⟨x.mild, x.hard, x.shift⟩ : Mch), ⟨zm.mild, zm.hard, zm.shift⟩, ⟨x.mild, x.hard, x.shift⟩]))).cells0 hz67.out 2 _ rfl)) ((by have h_ := ((F85.at 1 rfl : Sl rowEnc 1 g8_71 (g8_71 + 1) _ (.slice (some ⟨g8_71, 0, none⟩) 3 3) ([(.slice ad0 d0.length cd0 : Value), .slice aw_dl dl.length cw_dl, .slice aw_dl dl.length cw_dl]))).cells0 hz68.out 0 _ rfl; simpa using h_)))))
                refine ru_t 0 [] ?_
                refine ru_t 1 [] ?_
                refine ru_t 2 [] ?_
                refine ru_t 3 [] ?_
                refine ru_t 4 [] ?_
                refine ru_t 5 [] ?_
                refine ru_t 6 [] ?_
                refine ru_t 7 [] ?_
                (try simp only [Act.put, List.setIfInBounds_toArray, List.set_cons_zero, List.set_cons_succ])
                clear hS86
                refine ru_one 8 rfl (by kernel_rfl) (fun K hK => ?_)
                go_simp
                refine (rbworks_c z 0 _ _ dk _ (row_pick HROW.out (F85.at 12 rfl : Sl weaEnc 6 0 w.heap.size _ (.slice ad0 d0.length cd0) d0) (F85.at 3 rfl : Sl weaEnc 6 lw_dl hw_dl _ (.slice aw_dl dl.length cw_dl) dl) (by first | omega | (simp; omega)) (by first | omega | (simp; omega))) (Nat.le_refl _)).mono ?_
                rintro e w91 ⟨akk88, ckk88, lkk88, hkk88, rfl, ⟨hkxk88, hkyk88⟩, hksk88, hg89⟩
                have hg89s := hg89.size
                (try simp at hg89s)
                have F92 := F85.add (rsl intEnc 1 lkk88 hkk88 (.slice akk88 (wksOf z dk).length ckk88) (wksOf z dk)) hg89 (hksk88) (fun g e => ⟨Nat.le_trans hkxk88 e.1, Nat.lt_of_lt_of_le e.2 hkyk88⟩)
                clear F85
                refine ru_back hK (by exact ⟨(((F92.at 3 rfl : Sl mchEnc 3 g8_67 (g8_67 + 1) _ (.slice (some ⟨g8_67, 0, none⟩) 3 3) ([(⟨x.mild, x.hard, x.shift⟩ : Mch), ⟨zm.mild, zm.hard, zm.shift⟩, ⟨x.mild, x.hard, x.shift⟩]))).cells0 hz67.out 0 _ rfl), (((F92.at 3 rfl : Sl mchEnc 3 g8_67 (g8_67 + 1) _ (.slice (some ⟨g8_67, 0, none⟩) 3 3) ([(⟨x.mild, x.hard, x.shift⟩ : Mch), ⟨zm.mild, zm.hard, zm.shift⟩, ⟨x.mild, x.hard, x.shift⟩]))).cells0 hz67.out 1 _ rfl), (((F92.at 3 rfl : Sl mchEnc 3 g8_67 (g8_67 + 1) _ (.slice (some ⟨g8_67, 0, none⟩) 3 3) ([(⟨x.mild, x.hard, x.shift⟩ : Mch), ⟨zm.mild, zm.hard, zm.shift⟩, ⟨x.mild, x.hard, x.shift⟩]))).cells0 hz67.out 2 _ rfl), (by have h_ := ((F92.at 2 rfl : Sl rowEnc 1 g8_71 (g8_71 + 1) _ (.slice (some ⟨g8_71, 0, none⟩) 3 3) ([(.slice ad0 d0.length cd0 : Value), .slice aw_dl dl.length cw_dl, .slice aw_dl dl.length cw_dl]))).cells0 hz68.out 0 _ rfl; simpa using h_)⟩) (fun hHeld => ?_)
                clear hK K
                (try simp only [Act.put, List.setIfInBounds_toArray, List.set_cons_zero, List.set_cons_succ])
                refine ru_p 9 ?_
                (try simp only [Act.put, List.setIfInBounds_toArray, List.set_cons_zero, List.set_cons_succ])
                refine ru_p 10 ?_
                refine ru_p 11 ?_
                (try simp only [Act.put, List.setIfInBounds_toArray, List.set_cons_zero, List.set_cons_succ])
                refine ru_p 12 ?_
                (try simp only [Act.put, List.setIfInBounds_toArray, List.set_cons_zero, List.set_cons_succ])
                refine ru_one 13 rfl (by kernel_rfl) (fun K hK => ?_)
                go_simp
                refine ru_back_late hK (by kernel_rfl) ?_
                clear hK K
                (try simp only [Act.put, List.setIfInBounds_toArray, List.set_cons_zero, List.set_cons_succ])
                refine ru_done (by kernel_rfl) ?_
                obtain ⟨w93, hx94, F96, hxs95⟩ := (show Bun w [rsl intEnc 1 lkk88 hkk88 (.slice akk88 (wksOf z dk).length ckk88) (wksOf z dk), rsl intEnc 1 lkk74 hkk74 (.slice akk74 (wksOf z dk).length ckk74) (wksOf z dk), rsl rowEnc 1 g8_71 (g8_71 + 1) (.slice (some ⟨g8_71, 0, none⟩) 3 3) ([(.slice ad0 d0.length cd0 : Value), .slice aw_dl dl.length cw_dl, .slice aw_dl dl.length cw_dl]), rsl mchEnc 3 g8_67 (g8_67 + 1) (.slice (some ⟨g8_67, 0, none⟩) 3 3) ([(⟨x.mild, x.hard, x.shift⟩ : Mch), ⟨zm.mild, zm.hard, zm.shift⟩, ⟨x.mild, x.hard, x.shift⟩]), rsl weaEnc 6 lw_dl hw_dl (.slice aw_dl dl.length cw_dl) dl, rseed sb, rbox w32.heap.size 25 #[.slice (some ⟨gT54, 0, none⟩) lm.length oc1, .slice oa2 lt.length oc2], rown mchEnc 77 3 w28.heap.size (.slice (some ⟨gT54, 0, none⟩) lm.length oc1) lm, rown tskEncS 79 8 w28.heap.size (.slice oa2 lt.length oc2) lt, rafo w28.heap.size lt, rbox w.heap.size 25 #[.slice aM0 m0.length cM0, .slice aT0 t0.length cT0], rsl intEnc 1 0 w.heap.size (.slice na zs.length nc) zs, rsl intEnc 1 0 w.heap.size (.slice au ua.length cu) ua, rsl weaEnc 6 0 w.heap.size (.slice ad0 d0.length cd0) d0, rafs 0 w.heap.size t0, rsl tskEnc 8 0 w.heap.size (.slice aT0 t0.length cT0) t0, rsl mchEnc 3 0 w.heap.size (.slice aM0 m0.length cM0) m0] _ from F92).name
                (try simp at hxs95)
                rw [hx94]
                clear hx94 F92
                go_wp2_with fail
                refine (same_t _ _ _ _ _ _ (wksOf z dk) _ (F96.at 1 rfl : Sl intEnc 1 lkk74 hkk74 _ (.slice akk74 (wksOf z dk).length ckk74) (wksOf z dk)) (F96.at 0 rfl : Sl intEnc 1 lkk88 hkk88 _ (.slice akk88 (wksOf z dk).length ckk88) (wksOf z dk))).mono ?_
                rintro e w99 ⟨rfl, hg97⟩
                have hg97s := hg97.size
                (try simp at hg97s)
                have F100 := F96.gn hg97
                clear F96
                clear hg97
                go_wp2_with fail
                have F101 : Bun w [rsl rowEnc 1 g8_71 (g8_71 + 1) (.slice (some ⟨g8_71, 0, none⟩) 3 3) ([(.slice ad0 d0.length cd0 : Value), .slice aw_dl dl.length cw_dl, .slice aw_dl dl.length cw_dl]), rsl mchEnc 3 g8_67 (g8_67 + 1) (.slice (some ⟨g8_67, 0, none⟩) 3 3) ([(⟨x.mild, x.hard, x.shift⟩ : Mch), ⟨zm.mild, zm.hard, zm.shift⟩, ⟨x.mild, x.hard, x.shift⟩]), rsl weaEnc 6 lw_dl hw_dl (.slice aw_dl dl.length cw_dl) dl, rseed sb, rbox w32.heap.size 25 #[.slice (some ⟨gT54, 0, none⟩) lm.length oc1, .slice oa2 lt.length oc2], rown mchEnc 77 3 w28.heap.size (.slice (some ⟨gT54, 0, none⟩) lm.length oc1) lm, rown tskEncS 79 8 w28.heap.size (.slice oa2 lt.length oc2) lt, rafo w28.heap.size lt, rbox w.heap.size 25 #[.slice aM0 m0.length cM0, .slice aT0 t0.length cT0], rsl intEnc 1 0 w.heap.size (.slice na zs.length nc) zs, rsl intEnc 1 0 w.heap.size (.slice au ua.length cu) ua, rsl weaEnc 6 0 w.heap.size (.slice ad0 d0.length cd0) d0, rafs 0 w.heap.size t0, rsl tskEnc 8 0 w.heap.size (.slice aT0 t0.length cT0) t0, rsl mchEnc 3 0 w.heap.size (.slice aM0 m0.length cM0) m0] _ := F100.pick [2, 3, 4, 5, 6, 7, 8, 9, 10, 11, 12, 13, 14, 15, 16] (by decide) rfl
                clear F100
                (first | refine ⟨by kernel_rfl, ?_, ?_⟩ | refine ⟨rfl, ?_, ?_⟩ | refine ⟨?_, ?_⟩)
                · rw [HI62.out]; exact ⟨k + 1, (by first | kernel_rfl | rfl), (by first | kernel_rfl | rfl), (by first | kernel_rfl | rfl), (by first | kernel_rfl | rfl), (by show Value.int .i64 ((k : Int) + 1) = _; simp), by omega, (by first | rfl | simp), (by first | omega | (simp; done) | (simp; omega)), F101⟩
                · simp [slot, intOf]; omega
              · skip
                have c66H := Lib.hid c66
                have c66a : decide ((k : Int) < 3) = false := dec_f c66
                go_wp2_with fail
                have F102 := hF63.drew
                clear hF63
                refine ru_begin (fun W => W.cell? ⟨w.heap.size, 0, none⟩ = some (.slice aM0 m0.length cM0) ∧ W.cell? ⟨w.heap.size, 1, none⟩ = some (.slice aT0 t0.length cT0) ∧ W.cell? ⟨w32.heap.size, 0, none⟩ = some (.slice (some ⟨gT54, 0, none⟩) lm.length oc1) ∧ W.cell? ⟨w32.heap.size, 1, none⟩ = some (.slice oa2 lt.length oc2)) 15 (by kernel_rfl) ?_ ?_
                · exact ⟨F102.cl 8 0 rfl rfl, F102.cl 8 1 rfl rfl, F102.cl 4 0 rfl rfl, F102.cl 4 1 rfl rfl⟩
                obtain ⟨wd104, hwd_⟩ : ∃ x : World, w65.drew = x := ⟨_, rfl⟩
                rw [hwd_] at F102 ⊢
                have wd104s : w65.heap.size ≤ wd104.heap.size := by rw [← hwd_]; exact Nat.le_refl _
                clear hwd_
                have hS103 := (And.intro (F102.cl 8 0 rfl rfl) (And.intro (F102.cl 8 1 rfl rfl) (And.intro (F102.cl 4 0 rfl rfl) (F102.cl 4 1 rfl rfl))))
                refine ru_t 0 [] ?_
                refine ru_t 2 [] ?_
                (try simp only [Act.put, List.setIfInBounds_toArray, List.set_cons_zero, List.set_cons_succ])
                clear hS103
                refine ru_one 1 rfl (by kernel_rfl) (fun K hK => ?_)
                go_simp
                refine (bcheck_c 0 w.heap.size _ _ m0 t0 _ (JobAt.mk (F102.at 14 rfl : Sl mchEnc 3 0 w.heap.size _ (.slice aM0 m0.length cM0) m0) (F102.at 13 rfl : Sl tskEnc 8 0 w.heap.size _ (.slice aT0 t0.length cT0) t0) (F102.at 12 rfl : Afs 0 w.heap.size _ t0)) (by first | omega | (simp; omega))).mono ?_
                rintro e w107 ⟨rfl, hg105⟩
                have hg105s := hg105.size
                (try simp at hg105s)
                have F108 := F102.gn hg105
                clear F102
                refine ru_back hK (by exact ⟨F108.cl 8 0 rfl rfl, F108.cl 8 1 rfl rfl, F108.cl 4 0 rfl rfl, F108.cl 4 1 rfl rfl⟩) (fun hHeld => ?_)
                clear hK K
                (try simp only [Act.put, List.setIfInBounds_toArray, List.set_cons_zero, List.set_cons_succ])
                refine ru_one 3 rfl (by kernel_rfl) (fun K hK => ?_)
                go_simp
                refine (rbcheck_c 0 w.heap.size _ _ m0 t0 _ (JobAt.mk (F108.at 14 rfl : Sl mchEnc 3 0 w.heap.size _ (.slice aM0 m0.length cM0) m0) (F108.at 13 rfl : Sl tskEnc 8 0 w.heap.size _ (.slice aT0 t0.length cT0) t0) (F108.at 12 rfl : Afs 0 w.heap.size _ t0)) (by first | omega | (simp; omega))).mono ?_
                rintro e w111 ⟨rfl, hg109⟩
                have hg109s := hg109.size
                (try simp at hg109s)
                have F112 := F108.gn hg109
                clear F108
                refine ru_back hK (by exact ⟨F112.cl 8 0 rfl rfl, F112.cl 8 1 rfl rfl, F112.cl 4 0 rfl rfl, F112.cl 4 1 rfl rfl⟩) (fun hHeld => ?_)
                clear hK K
                (try simp only [Act.put, List.setIfInBounds_toArray, List.set_cons_zero, List.set_cons_succ])
                refine ru_p 4 ?_
                (try simp only [Act.put, List.setIfInBounds_toArray, List.set_cons_zero, List.set_cons_succ])
                refine ru_p 5 ?_
                (try simp only [Act.put, List.setIfInBounds_toArray, List.set_cons_zero, List.set_cons_succ])
                refine ru_t 6 [] ?_
                refine ru_t 8 [] ?_
                (try simp only [Act.put, List.setIfInBounds_toArray, List.set_cons_zero, List.set_cons_succ])
                refine ru_one 7 rfl (by kernel_rfl) (fun K hK => ?_)
                go_simp
                refine (bcheck_c _ _ _ _ lm lt _ (jobAt_own (F112.at 5 rfl : Own mchEnc 77 3 w28.heap.size _ (.slice (some ⟨gT54, 0, none⟩) lm.length oc1) lm) (F112.at 6 rfl : Own tskEncS 79 8 w28.heap.size _ (.slice oa2 lt.length oc2) lt) (F112.at 7 rfl : ∀ t ∈ lt, Own intEnc 3 1 w28.heap.size _ t.av t.af) HSL.out) (Nat.le_refl _)).mono ?_
                rintro e w115 ⟨rfl, hg113⟩
                have hg113s := hg113.size
                (try simp at hg113s)
                have F116 := F112.gn hg113
                clear F112
                refine ru_back hK (by exact ⟨F116.cl 8 0 rfl rfl, F116.cl 8 1 rfl rfl, F116.cl 4 0 rfl rfl, F116.cl 4 1 rfl rfl⟩) (fun hHeld => ?_)
                clear hK K
                (try simp only [Act.put, List.setIfInBounds_toArray, List.set_cons_zero, List.set_cons_succ])
                refine ru_one 9 rfl (by kernel_rfl) (fun K hK => ?_)
                go_simp
                refine (rbcheck_c _ _ _ _ lm lt _ (jobAt_own (F116.at 5 rfl : Own mchEnc 77 3 w28.heap.size _ (.slice (some ⟨gT54, 0, none⟩) lm.length oc1) lm) (F116.at 6 rfl : Own tskEncS 79 8 w28.heap.size _ (.slice oa2 lt.length oc2) lt) (F116.at 7 rfl : ∀ t ∈ lt, Own intEnc 3 1 w28.heap.size _ t.av t.af) HSL.out) (Nat.le_refl _)).mono ?_
                rintro e w119 ⟨rfl, hg117⟩
                have hg117s := hg117.size
                (try simp at hg117s)
                have F120 := F116.gn hg117
                clear F116
                refine ru_back hK (by exact ⟨F120.cl 8 0 rfl rfl, F120.cl 8 1 rfl rfl, F120.cl 4 0 rfl rfl, F120.cl 4 1 rfl rfl⟩) (fun hHeld => ?_)
                clear hK K
                (try simp only [Act.put, List.setIfInBounds_toArray, List.set_cons_zero, List.set_cons_succ])
                refine ru_p 10 ?_
                (try simp only [Act.put, List.setIfInBounds_toArray, List.set_cons_zero, List.set_cons_succ])
                refine ru_p 11 ?_
                (try simp only [Act.put, List.setIfInBounds_toArray, List.set_cons_zero, List.set_cons_succ])
                refine ru_p 12 ?_
                (try simp only [Act.put, List.setIfInBounds_toArray, List.set_cons_zero, List.set_cons_succ])
                refine ru_one 13 rfl (by kernel_rfl) (fun K hK => ?_)
                go_simp
                refine (awake_c _).mono ?_
                rintro e w123 ⟨rfl, hg121⟩
                have hg121s := hg121.size
                (try simp at hg121s)
                have F124 := F120.gn hg121
                clear F120
                refine ru_back hK (by exact ⟨F124.cl 8 0 rfl rfl, F124.cl 8 1 rfl rfl, F124.cl 4 0 rfl rfl, F124.cl 4 1 rfl rfl⟩) (fun hHeld => ?_)
                clear hK K
                (try simp only [Act.put, List.setIfInBounds_toArray, List.set_cons_zero, List.set_cons_succ])
                refine ru_p 14 ?_
                (try simp only [Act.put, List.setIfInBounds_toArray, List.set_cons_zero, List.set_cons_succ])
                refine ru_one 15 rfl (by kernel_rfl) (fun K hK => ?_)
                go_simp
                refine ru_back_late hK (by kernel_rfl) ?_
                clear hK K
                (try simp only [Act.put, List.setIfInBounds_toArray, List.set_cons_zero, List.set_cons_succ])
                refine ru_done (by kernel_rfl) ?_
                obtain ⟨w125, hx126, F128, hxs127⟩ := (show Bun w [rsl rowEnc 1 g8_71 (g8_71 + 1) (.slice (some ⟨g8_71, 0, none⟩) 3 3) ([(.slice ad0 d0.length cd0 : Value), .slice aw_dl dl.length cw_dl, .slice aw_dl dl.length cw_dl]), rsl mchEnc 3 g8_67 (g8_67 + 1) (.slice (some ⟨g8_67, 0, none⟩) 3 3) ([(⟨x.mild, x.hard, x.shift⟩ : Mch), ⟨zm.mild, zm.hard, zm.shift⟩, ⟨x.mild, x.hard, x.shift⟩]), rsl weaEnc 6 lw_dl hw_dl (.slice aw_dl dl.length cw_dl) dl, rseed sb, rown mchEnc 77 3 w28.heap.size (.slice (some ⟨gT54, 0, none⟩) lm.length oc1) lm, rown tskEncS 79 8 w28.heap.size (.slice oa2 lt.length oc2) lt, rafo w28.heap.size lt, rsl intEnc 1 0 w.heap.size (.slice na zs.length nc) zs, rsl intEnc 1 0 w.heap.size (.slice au ua.length cu) ua, rsl weaEnc 6 0 w.heap.size (.slice ad0 d0.length cd0) d0, rafs 0 w.heap.size t0, rsl tskEnc 8 0 w.heap.size (.slice aT0 t0.length cT0) t0, rsl mchEnc 3 0 w.heap.size (.slice aM0 m0.length cM0) m0] _ from ((F124.drop 4 rfl).drop 7 rfl)).name
                (try simp at hxs127)
                rw [hx126]
                clear hx126 F124
                go_wp2_with fail
                go_ret
                exact ⟨rfl, F128.gb⟩
            case atStart1 =>
              rw [HI62.out]
              exact ⟨0, (by first | kernel_rfl | rfl), (by first | kernel_rfl | rfl), (by first | kernel_rfl | rfl), (by first | kernel_rfl | rfl), rfl, Nat.zero_le _, rfl, (by first | exact Nat.le_refl _ | omega | (simp; done) | (simp; omega)), ((F61.drop 8 rfl).drop 8 rfl)⟩
          case first4 =>
            have F129 := F53.drew
            clear F53
            refine ru_begin (fun W => W.cell? ⟨(w.heap.size + 1), 0, none⟩ = some (.int .i64 x.mild) ∧ W.cell? ⟨(w.heap.size + 1), 1, none⟩ = some (.int .i64 x.hard) ∧ W.cell? ⟨(w.heap.size + 1), 2, none⟩ = some (.int .i64 x.shift) ∧ W.cell? ⟨w32.heap.size, 0, none⟩ = some (.slice (some ⟨gT54, 0, none⟩) lm.length oc1) ∧ W.cell? ⟨gT54, (r43.toNat) * 3, none⟩ = some (.int .i64 zm.mild) ∧ W.cell? ⟨gT54, (r43.toNat) * 3 + 1, none⟩ = some (.int .i64 zm.hard) ∧ W.cell? ⟨gT54, (r43.toNat) * 3 + 2, none⟩ = some (.int .i64 zm.shift)) 13 (by kernel_rfl) ?_ ?_
            · exact ⟨F129.cl 7 0 rfl rfl, F129.cl 7 1 rfl rfl, F129.cl 7 2 rfl rfl, F129.cl 2 0 rfl rfl, (by simpa using (Own.sl (F129.at 3 rfl : Own mchEnc 77 3 w28.heap.size _ (.slice (some ⟨gT54, 0, none⟩) lm.length oc1) lm) (fun _ => rfl)).cells hz56.out 0 _ rfl), (by simpa using (Own.sl (F129.at 3 rfl : Own mchEnc 77 3 w28.heap.size _ (.slice (some ⟨gT54, 0, none⟩) lm.length oc1) lm) (fun _ => rfl)).cells hz56.out 1 _ rfl), (by simpa using (Own.sl (F129.at 3 rfl : Own mchEnc 77 3 w28.heap.size _ (.slice (some ⟨gT54, 0, none⟩) lm.length oc1) lm) (fun _ => rfl)).cells hz56.out 2 _ rfl)⟩
            obtain ⟨wd131, hwd_⟩ : ∃ x : World, w52.drew = x := ⟨_, rfl⟩
            rw [hwd_] at F129 ⊢
            have wd131s : w52.heap.size ≤ wd131.heap.size := by rw [← hwd_]; exact Nat.le_refl _
            clear hwd_
            have hS130 := (And.intro (F129.cl 7 0 rfl rfl) (And.intro (F129.cl 7 1 rfl rfl) (And.intro (F129.cl 7 2 rfl rfl) (And.intro (F129.cl 2 0 rfl rfl) (And.intro ((by simpa using (Own.sl (F129.at 3 rfl : Own mchEnc 77 3 w28.heap.size _ (.slice (some ⟨gT54, 0, none⟩) lm.length oc1) lm) (fun _ => rfl)).cells hz56.out 0 _ rfl)) (And.intro ((by simpa using (Own.sl (F129.at 3 rfl : Own mchEnc 77 3 w28.heap.size _ (.slice (some ⟨gT54, 0, none⟩) lm.length oc1) lm) (fun _ => rfl)).cells hz56.out 1 _ rfl)) ((by simpa using (Own.sl (F129.at 3 rfl : Own mchEnc 77 3 w28.heap.size _ (.slice (some ⟨gT54, 0, none⟩) lm.length oc1) lm) (fun _ => rfl)).cells hz56.out 2 _ rfl))))))))
            refine ru_t 0 [] ?_
            refine ru_t 1 [] ?_
            refine ru_t 2 [] ?_
            refine ru_t 3 [] ?_
            refine ru_t 4 [] ?_
            refine ru_t 5 [] ?_
            refine ru_t 6 [] ?_
            refine ru_t 8 [] ?_
            refine ru_t 9 [] ?_
            refine ru_t 10 [] ?_
            (try simp only [Act.put, List.setIfInBounds_toArray, List.set_cons_zero, List.set_cons_succ])
            clear hS130
            refine ru_two 7 11 rfl rfl (by kernel_rfl) ?_ ?_
            · intro K hK
              go_simp
              have F132 := F129.new 77 #[.int .i64 x.mild, .int .i64 x.hard, .int .i64 x.shift, .int .i64 zm.mild, .int .i64 zm.hard, .int .i64 zm.shift, .int .i64 x.mild, .int .i64 x.hard, .int .i64 x.shift] (n := wd131.heap.size) (by simp)
              clear F129
              refine ru_back hK (by exact ⟨F132.cl 8 0 rfl rfl, F132.cl 8 1 rfl rfl, F132.cl 8 2 rfl rfl, F132.cl 3 0 rfl rfl, (by simpa using (Own.sl (F132.at 4 rfl : Own mchEnc 77 3 w28.heap.size _ (.slice (some ⟨gT54, 0, none⟩) lm.length oc1) lm) (fun _ => rfl)).cells hz56.out 0 _ rfl), (by simpa using (Own.sl (F132.at 4 rfl : Own mchEnc 77 3 w28.heap.size _ (.slice (some ⟨gT54, 0, none⟩) lm.length oc1) lm) (fun _ => rfl)).cells hz56.out 1 _ rfl), (by simpa using (Own.sl (F132.at 4 rfl : Own mchEnc 77 3 w28.heap.size _ (.slice (some ⟨gT54, 0, none⟩) lm.length oc1) lm) (fun _ => rfl)).cells hz56.out 2 _ rfl)⟩) (fun hHeld => ?_)
              clear hK K
              (try simp only [Act.put, List.setIfInBounds_toArray, List.set_cons_zero, List.set_cons_succ])
              refine ru_p 12 ?_
              (try simp only [Act.put, List.setIfInBounds_toArray, List.set_cons_zero, List.set_cons_succ])
              refine ru_one 11 rfl (by kernel_rfl) (fun K hK => ?_)
              go_simp
              have F133 := F132.new 26 #[.slice ad0 d0.length cd0, .slice aw_dl dl.length cw_dl, .slice aw_dl dl.length cw_dl] (n := (wd131.heap.size + 1)) (by simp)
              clear F132
              refine ru_back hK (by exact ⟨F133.cl 9 0 rfl rfl, F133.cl 9 1 rfl rfl, F133.cl 9 2 rfl rfl, F133.cl 4 0 rfl rfl, (by simpa using (Own.sl (F133.at 5 rfl : Own mchEnc 77 3 w28.heap.size _ (.slice (some ⟨gT54, 0, none⟩) lm.length oc1) lm) (fun _ => rfl)).cells hz56.out 0 _ rfl), (by simpa using (Own.sl (F133.at 5 rfl : Own mchEnc 77 3 w28.heap.size _ (.slice (some ⟨gT54, 0, none⟩) lm.length oc1) lm) (fun _ => rfl)).cells hz56.out 1 _ rfl), (by simpa using (Own.sl (F133.at 5 rfl : Own mchEnc 77 3 w28.heap.size _ (.slice (some ⟨gT54, 0, none⟩) lm.length oc1) lm) (fun _ => rfl)).cells hz56.out 2 _ rfl)⟩) (fun hHeld => ?_)
              clear hK K
              (try simp only [Act.put, List.setIfInBounds_toArray, List.set_cons_zero, List.set_cons_succ])
              refine ru_one 13 rfl (by kernel_rfl) (fun K hK => ?_)
              go_simp
              refine ru_back_late hK (by kernel_rfl) ?_
              clear hK K
              (try simp only [Act.put, List.setIfInBounds_toArray, List.set_cons_zero, List.set_cons_succ])
              refine ru_done (by kernel_rfl) ?_
              exact ⟨(by first | kernel_rfl | rfl), rfl, wd131.heap.size, wd131.heap.size + 1, (by first | kernel_rfl | rfl), (by first | kernel_rfl | rfl), (by first | kernel_rfl | rfl), (by first | kernel_rfl | rfl), (by first | omega | (simp; done) | (simp; omega)), (F133.pick [1, 0, 2, 3, 4, 5, 6, 7, 8, 9, 10, 11, 12, 13, 14, 15, 16] (by decide) rfl)⟩
            · intro K hK
              go_simp
              have F134 := F129.new 26 #[.slice ad0 d0.length cd0, .slice aw_dl dl.length cw_dl, .slice aw_dl dl.length cw_dl] (n := wd131.heap.size) (by simp)
              clear F129
              refine ru_back hK (by exact ⟨F134.cl 8 0 rfl rfl, F134.cl 8 1 rfl rfl, F134.cl 8 2 rfl rfl, F134.cl 3 0 rfl rfl, (by simpa using (Own.sl (F134.at 4 rfl : Own mchEnc 77 3 w28.heap.size _ (.slice (some ⟨gT54, 0, none⟩) lm.length oc1) lm) (fun _ => rfl)).cells hz56.out 0 _ rfl), (by simpa using (Own.sl (F134.at 4 rfl : Own mchEnc 77 3 w28.heap.size _ (.slice (some ⟨gT54, 0, none⟩) lm.length oc1) lm) (fun _ => rfl)).cells hz56.out 1 _ rfl), (by simpa using (Own.sl (F134.at 4 rfl : Own mchEnc 77 3 w28.heap.size _ (.slice (some ⟨gT54, 0, none⟩) lm.length oc1) lm) (fun _ => rfl)).cells hz56.out 2 _ rfl)⟩) (fun hHeld => ?_)
              clear hK K
              (try simp only [Act.put, List.setIfInBounds_toArray, List.set_cons_zero, List.set_cons_succ])
              refine ru_one 7 rfl (by kernel_rfl) (fun K hK => ?_)
              go_simp
              have F135 := F134.new 77 #[.int .i64 x.mild, .int .i64 x.hard, .int .i64 x.shift, .int .i64 zm.mild, .int .i64 zm.hard, .int .i64 zm.shift, .int .i64 x.mild, .int .i64 x.hard, .int .i64 x.shift] (n := (wd131.heap.size + 1)) (by simp)
              clear F134
              refine ru_back hK (by exact ⟨F135.cl 9 0 rfl rfl, F135.cl 9 1 rfl rfl, F135.cl 9 2 rfl rfl, F135.cl 4 0 rfl rfl, (by simpa using (Own.sl (F135.at 5 rfl : Own mchEnc 77 3 w28.heap.size _ (.slice (some ⟨gT54, 0, none⟩) lm.length oc1) lm) (fun _ => rfl)).cells hz56.out 0 _ rfl), (by simpa using (Own.sl (F135.at 5 rfl : Own mchEnc 77 3 w28.heap.size _ (.slice (some ⟨gT54, 0, none⟩) lm.length oc1) lm) (fun _ => rfl)).cells hz56.out 1 _ rfl), (by simpa using (Own.sl (F135.at 5 rfl : Own mchEnc 77 3 w28.heap.size _ (.slice (some ⟨gT54, 0, none⟩) lm.length oc1) lm) (fun _ => rfl)).cells hz56.out 2 _ rfl)⟩) (fun hHeld => ?_)
              clear hK K
              (try simp only [Act.put, List.setIfInBounds_toArray, List.set_cons_zero, List.set_cons_succ])
              refine ru_p 12 ?_
              (try simp only [Act.put, List.setIfInBounds_toArray, List.set_cons_zero, List.set_cons_succ])
              refine ru_one 13 rfl (by kernel_rfl) (fun K hK => ?_)
              go_simp
              refine ru_back_late hK (by kernel_rfl) ?_
              clear hK K
              (try simp only [Act.put, List.setIfInBounds_toArray, List.set_cons_zero, List.set_cons_succ])
              refine ru_done (by kernel_rfl) ?_
              exact ⟨(by first | kernel_rfl | rfl), rfl, wd131.heap.size + 1, wd131.heap.size, (by first | kernel_rfl | rfl), (by first | kernel_rfl | rfl), (by first | kernel_rfl | rfl), (by first | kernel_rfl | rfl), (by first | omega | (simp; done) | (simp; omega)), (F135.pick [0, 1, 2, 3, 4, 5, 6, 7, 8, 9, 10, 11, 12, 13, 14, 15, 16] (by decide) rfl)⟩
        · skip
          have c42H := Lib.hid c42
          obtain ⟨gT136, cT137, e_⟩ := Own.opn (F41.at 2 rfl : Own tskEncS 79 8 w28.heap.size _ (.slice oa2 lt.length oc2) lt) (by omega)
          injection e_ with e1_ _ e2_
          subst e1_ e2_
          have gT136l := (F41.ltAt 2 rfl _ rfl).1
          go_wp2_with fail
          have F140 := F41.drew
          clear F41
          refine ru_begin (fun W => W.cell? ⟨w32.heap.size, 1, none⟩ = some (.slice (some ⟨gT136, 0, none⟩) lt.length oc2) ∧ W.cell? ⟨(w.heap.size + 2), 0, none⟩ = some (.int .i64 um) ∧ W.cell? ⟨(w.heap.size + 2), 1, none⟩ = some (.int .i64 uh.lo) ∧ W.cell? ⟨(w.heap.size + 2), 2, none⟩ = some (.int .i64 uh.hi) ∧ W.cell? ⟨(w.heap.size + 2), 3, none⟩ = some (.int .i64 uw.lo) ∧ W.cell? ⟨(w.heap.size + 2), 4, none⟩ = some (.int .i64 uw.hi) ∧ W.cell? ⟨(w.heap.size + 2), 5, none⟩ = some (.int .i64 uf.lo) ∧ W.cell? ⟨(w.heap.size + 2), 6, none⟩ = some (.int .i64 uf.hi) ∧ W.cell? ⟨(w.heap.size + 2), 7, none⟩ = some (.slice au ua.length cu)) 9 (by kernel_rfl) ?_ ?_
          · exact ⟨F140.cl 0 1 rfl rfl, F140.cl 5 0 rfl rfl, F140.cl 5 1 rfl rfl, F140.cl 5 2 rfl rfl, F140.cl 5 3 rfl rfl, F140.cl 5 4 rfl rfl, F140.cl 5 5 rfl rfl, F140.cl 5 6 rfl rfl, F140.cl 5 7 rfl rfl⟩
          obtain ⟨wd142, hwd_⟩ : ∃ x : World, w40.drew = x := ⟨_, rfl⟩
          rw [hwd_] at F140 ⊢
          have wd142s : w40.heap.size ≤ wd142.heap.size := by rw [← hwd_]; exact Nat.le_refl _
          clear hwd_
          have hS141 := (And.intro (F140.cl 0 1 rfl rfl) (And.intro (F140.cl 5 0 rfl rfl) (And.intro (F140.cl 5 1 rfl rfl) (And.intro (F140.cl 5 2 rfl rfl) (And.intro (F140.cl 5 3 rfl rfl) (And.intro (F140.cl 5 4 rfl rfl) (And.intro (F140.cl 5 5 rfl rfl) (And.intro (F140.cl 5 6 rfl rfl) (F140.cl 5 7 rfl rfl)))))))))
          refine ru_t 0 [] ?_
          refine ru_t 1 [] ?_
          refine ru_t 2 [] ?_
          refine ru_t 3 [] ?_
          refine ru_t 4 [] ?_
          refine ru_t 5 [] ?_
          refine ru_t 7 [] ?_
          (try simp only [Act.put, List.setIfInBounds_toArray, List.set_cons_zero, List.set_cons_succ])
          clear hS141
          refine ru_one 6 rfl (by kernel_rfl) (fun K hK => ?_)
          go_simp
          refine (below_c sb (lt.length : Int) _ (F140.at 4 rfl : SeedAt _ sb) (by omega) (by omega)).mono ?_
          rintro e w147 ⟨r143, rfl, hr144, hs146, hg145⟩
          unfold belowR at hr144
          have hg145s := hg145.size
          (try simp at hg145s)
          have F148 := F140.seedAt 4 rfl hg145 hs146
          clear F140
          have hrn_ : r143.toNat < lt.length := by omega
          have hrx_ : r143 < (lt.length : Int) := by omega
          have hrz_ : 0 ≤ r143 := by omega
          obtain ⟨z, hz149_⟩ : ∃ z_, lt[r143.toNat]? = some z_ := ⟨_, List.getElem?_eq_getElem (by omega)⟩
          have hz149 := Lib.hid hz149_
          clear hz149_
          refine ru_back hK (by exact ⟨F148.cl 0 1 rfl rfl, F148.cl 5 0 rfl rfl, F148.cl 5 1 rfl rfl, F148.cl 5 2 rfl rfl, F148.cl 5 3 rfl rfl, F148.cl 5 4 rfl rfl, F148.cl 5 5 rfl rfl, F148.cl 5 6 rfl rfl, F148.cl 5 7 rfl rfl⟩) (fun hHeld => ?_)
          clear hK K
          (try simp only [Act.put, List.setIfInBounds_toArray, List.set_cons_zero, List.set_cons_succ])
          refine ru_p 8 ?_
          (try simp only [Act.put, List.setIfInBounds_toArray, List.set_cons_zero, List.set_cons_succ])
          refine ru_one 9 rfl (by kernel_rfl) (fun K hK => ?_)
          have kc0_ : World.cell? _ ⟨gT136, (r143.toNat) * 8, none⟩ = some (.int .i64 z.m) := (by simpa using (Own.sl (F148.at 2 rfl : Own tskEncS 79 8 w28.heap.size _ (.slice (some ⟨gT136, 0, none⟩) lt.length oc2) lt) (fun _ => rfl)).cells hz149.out 0 _ rfl)
          have kf0_ : World.frozen? _ ⟨gT136, (r143.toNat) * 8, none⟩ = false := Own.live (F148.at 2 rfl : Own tskEncS 79 8 w28.heap.size _ (.slice (some ⟨gT136, 0, none⟩) lt.length oc2) lt) _
          have kc1_ : World.cell? _ ⟨gT136, (r143.toNat) * 8 + 1, none⟩ = some (.int .i64 z.ho.lo) := (by simpa using (Own.sl (F148.at 2 rfl : Own tskEncS 79 8 w28.heap.size _ (.slice (some ⟨gT136, 0, none⟩) lt.length oc2) lt) (fun _ => rfl)).cells hz149.out 1 _ rfl)
          have kf1_ : World.frozen? _ ⟨gT136, (r143.toNat) * 8 + 1, none⟩ = false := Own.live (F148.at 2 rfl : Own tskEncS 79 8 w28.heap.size _ (.slice (some ⟨gT136, 0, none⟩) lt.length oc2) lt) _
          have kc2_ : World.cell? _ ⟨gT136, (r143.toNat) * 8 + 2, none⟩ = some (.int .i64 z.ho.hi) := (by simpa using (Own.sl (F148.at 2 rfl : Own tskEncS 79 8 w28.heap.size _ (.slice (some ⟨gT136, 0, none⟩) lt.length oc2) lt) (fun _ => rfl)).cells hz149.out 2 _ rfl)
          have kf2_ : World.frozen? _ ⟨gT136, (r143.toNat) * 8 + 2, none⟩ = false := Own.live (F148.at 2 rfl : Own tskEncS 79 8 w28.heap.size _ (.slice (some ⟨gT136, 0, none⟩) lt.length oc2) lt) _
          have kc3_ : World.cell? _ ⟨gT136, (r143.toNat) * 8 + 3, none⟩ = some (.int .i64 z.wa.lo) := (by simpa using (Own.sl (F148.at 2 rfl : Own tskEncS 79 8 w28.heap.size _ (.slice (some ⟨gT136, 0, none⟩) lt.length oc2) lt) (fun _ => rfl)).cells hz149.out 3 _ rfl)
          have kf3_ : World.frozen? _ ⟨gT136, (r143.toNat) * 8 + 3, none⟩ = false := Own.live (F148.at 2 rfl : Own tskEncS 79 8 w28.heap.size _ (.slice (some ⟨gT136, 0, none⟩) lt.length oc2) lt) _
          have kc4_ : World.cell? _ ⟨gT136, (r143.toNat) * 8 + 4, none⟩ = some (.int .i64 z.wa.hi) := (by simpa using (Own.sl (F148.at 2 rfl : Own tskEncS 79 8 w28.heap.size _ (.slice (some ⟨gT136, 0, none⟩) lt.length oc2) lt) (fun _ => rfl)).cells hz149.out 4 _ rfl)
          have kf4_ : World.frozen? _ ⟨gT136, (r143.toNat) * 8 + 4, none⟩ = false := Own.live (F148.at 2 rfl : Own tskEncS 79 8 w28.heap.size _ (.slice (some ⟨gT136, 0, none⟩) lt.length oc2) lt) _
          have kc5_ : World.cell? _ ⟨gT136, (r143.toNat) * 8 + 5, none⟩ = some (.int .i64 z.fr.lo) := (by simpa using (Own.sl (F148.at 2 rfl : Own tskEncS 79 8 w28.heap.size _ (.slice (some ⟨gT136, 0, none⟩) lt.length oc2) lt) (fun _ => rfl)).cells hz149.out 5 _ rfl)
          have kf5_ : World.frozen? _ ⟨gT136, (r143.toNat) * 8 + 5, none⟩ = false := Own.live (F148.at 2 rfl : Own tskEncS 79 8 w28.heap.size _ (.slice (some ⟨gT136, 0, none⟩) lt.length oc2) lt) _
          have kc6_ : World.cell? _ ⟨gT136, (r143.toNat) * 8 + 6, none⟩ = some (.int .i64 z.fr.hi) := (by simpa using (Own.sl (F148.at 2 rfl : Own tskEncS 79 8 w28.heap.size _ (.slice (some ⟨gT136, 0, none⟩) lt.length oc2) lt) (fun _ => rfl)).cells hz149.out 6 _ rfl)
          have kf6_ : World.frozen? _ ⟨gT136, (r143.toNat) * 8 + 6, none⟩ = false := Own.live (F148.at 2 rfl : Own tskEncS 79 8 w28.heap.size _ (.slice (some ⟨gT136, 0, none⟩) lt.length oc2) lt) _
          have kc7_ : World.cell? _ ⟨gT136, (r143.toNat) * 8 + 7, none⟩ = some (if sliceB z.av = true then z.av else .slice none 0 0) := (by simpa using (Own.sl (F148.at 2 rfl : Own tskEncS 79 8 w28.heap.size _ (.slice (some ⟨gT136, 0, none⟩) lt.length oc2) lt) (fun _ => rfl)).cells hz149.out 7 _ rfl)
          have kf7_ : World.frozen? _ ⟨gT136, (r143.toNat) * 8 + 7, none⟩ = false := Own.live (F148.at 2 rfl : Own tskEncS 79 8 w28.heap.size _ (.slice (some ⟨gT136, 0, none⟩) lt.length oc2) lt) _
          go_simp
          clear kc0_ kf0_ kc1_ kf1_ kc2_ kf2_ kc3_ kf3_ kc4_ kf4_ kc5_ kf5_ kc6_ kf6_ kc7_ kf7_
          have F150 := Bun.setOwn (sz := 8) (fun _ => rfl) (F148.front 2 rfl rfl) hz149.out (y := (⟨um, ⟨z.ho.lo, z.ho.hi⟩, ⟨z.wa.lo, z.wa.hi⟩, ⟨z.fr.lo, z.fr.hi⟩, z.af, z.av⟩)) (j := 0) (u := (.int .i64 um)) (k := ((r143.toNat) * 8)) (by decide) rfl (by omega)
          clear F148
          have hz151 : Hid ((lt.set r143.toNat (⟨um, ⟨z.ho.lo, z.ho.hi⟩, ⟨z.wa.lo, z.wa.hi⟩, ⟨z.fr.lo, z.fr.hi⟩, z.af, z.av⟩))[r143.toNat]? = some (⟨um, ⟨z.ho.lo, z.ho.hi⟩, ⟨z.wa.lo, z.wa.hi⟩, ⟨z.fr.lo, z.fr.hi⟩, z.af, z.av⟩)) := Lib.hid (set_at (by omega))
          have F152 := Bun.setOwn (sz := 8) (fun _ => rfl) F150 hz151.out (y := (⟨um, ⟨uh.lo, z.ho.hi⟩, ⟨z.wa.lo, z.wa.hi⟩, ⟨z.fr.lo, z.fr.hi⟩, z.af, z.av⟩)) (j := 1) (u := (.int .i64 uh.lo)) (k := ((r143.toNat) * 8 + 1)) (by decide) rfl (by omega)
          clear F150
          rw [List.set_set] at F152
          have hz153 : Hid ((lt.set r143.toNat (⟨um, ⟨uh.lo, z.ho.hi⟩, ⟨z.wa.lo, z.wa.hi⟩, ⟨z.fr.lo, z.fr.hi⟩, z.af, z.av⟩))[r143.toNat]? = some (⟨um, ⟨uh.lo, z.ho.hi⟩, ⟨z.wa.lo, z.wa.hi⟩, ⟨z.fr.lo, z.fr.hi⟩, z.af, z.av⟩)) := Lib.hid (set_at (by omega))
          have F154 := Bun.setOwn (sz := 8) (fun _ => rfl) F152 hz153.out (y := (⟨um, ⟨uh.lo, uh.hi⟩, ⟨z.wa.lo, z.wa.hi⟩, ⟨z.fr.lo, z.fr.hi⟩, z.af, z.av⟩)) (j := 2) (u := (.int .i64 uh.hi)) (k := ((r143.toNat) * 8 + 2)) (by decide) rfl (by omega)
          clear F152
          rw [List.set_set] at F154
          have hz155 : Hid ((lt.set r143.toNat (⟨um, ⟨uh.lo, uh.hi⟩, ⟨z.wa.lo, z.wa.hi⟩, ⟨z.fr.lo, z.fr.hi⟩, z.af, z.av⟩))[r143.toNat]? = some (⟨um, ⟨uh.lo, uh.hi⟩, ⟨z.wa.lo, z.wa.hi⟩, ⟨z.fr.lo, z.fr.hi⟩, z.af, z.av⟩)) := Lib.hid (set_at (by omega))
          have F156 := Bun.setOwn (sz := 8) (fun _ => rfl) F154 hz155.out (y := (⟨um, ⟨uh.lo, uh.hi⟩, ⟨uw.lo, z.wa.hi⟩, ⟨z.fr.lo, z.fr.hi⟩, z.af, z.av⟩)) (j := 3) (u := (.int .i64 uw.lo)) (k := ((r143.toNat) * 8 + 3)) (by decide) rfl (by omega)
          clear F154
          rw [List.set_set] at F156
          have hz157 : Hid ((lt.set r143.toNat (⟨um, ⟨uh.lo, uh.hi⟩, ⟨uw.lo, z.wa.hi⟩, ⟨z.fr.lo, z.fr.hi⟩, z.af, z.av⟩))[r143.toNat]? = some (⟨um, ⟨uh.lo, uh.hi⟩, ⟨uw.lo, z.wa.hi⟩, ⟨z.fr.lo, z.fr.hi⟩, z.af, z.av⟩)) := Lib.hid (set_at (by omega))
          have F158 := Bun.setOwn (sz := 8) (fun _ => rfl) F156 hz157.out (y := (⟨um, ⟨uh.lo, uh.hi⟩, ⟨uw.lo, uw.hi⟩, ⟨z.fr.lo, z.fr.hi⟩, z.af, z.av⟩)) (j := 4) (u := (.int .i64 uw.hi)) (k := ((r143.toNat) * 8 + 4)) (by decide) rfl (by omega)
          clear F156
          rw [List.set_set] at F158
          have hz159 : Hid ((lt.set r143.toNat (⟨um, ⟨uh.lo, uh.hi⟩, ⟨uw.lo, uw.hi⟩, ⟨z.fr.lo, z.fr.hi⟩, z.af, z.av⟩))[r143.toNat]? = some (⟨um, ⟨uh.lo, uh.hi⟩, ⟨uw.lo, uw.hi⟩, ⟨z.fr.lo, z.fr.hi⟩, z.af, z.av⟩)) := Lib.hid (set_at (by omega))
          have F160 := Bun.setOwn (sz := 8) (fun _ => rfl) F158 hz159.out (y := (⟨um, ⟨uh.lo, uh.hi⟩, ⟨uw.lo, uw.hi⟩, ⟨uf.lo, z.fr.hi⟩, z.af, z.av⟩)) (j := 5) (u := (.int .i64 uf.lo)) (k := ((r143.toNat) * 8 + 5)) (by decide) rfl (by omega)
          clear F158
          rw [List.set_set] at F160
          have hz161 : Hid ((lt.set r143.toNat (⟨um, ⟨uh.lo, uh.hi⟩, ⟨uw.lo, uw.hi⟩, ⟨uf.lo, z.fr.hi⟩, z.af, z.av⟩))[r143.toNat]? = some (⟨um, ⟨uh.lo, uh.hi⟩, ⟨uw.lo, uw.hi⟩, ⟨uf.lo, z.fr.hi⟩, z.af, z.av⟩)) := Lib.hid (set_at (by omega))
          have F162 := Bun.setOwn (sz := 8) (fun _ => rfl) F160 hz161.out (y := (⟨um, ⟨uh.lo, uh.hi⟩, ⟨uw.lo, uw.hi⟩, ⟨uf.lo, uf.hi⟩, z.af, z.av⟩)) (j := 6) (u := (.int .i64 uf.hi)) (k := ((r143.toNat) * 8 + 6)) (by decide) rfl (by omega)
          clear F160
          rw [List.set_set] at F162
          have hz163 : Hid ((lt.set r143.toNat (⟨um, ⟨uh.lo, uh.hi⟩, ⟨uw.lo, uw.hi⟩, ⟨uf.lo, uf.hi⟩, z.af, z.av⟩))[r143.toNat]? = some (⟨um, ⟨uh.lo, uh.hi⟩, ⟨uw.lo, uw.hi⟩, ⟨uf.lo, uf.hi⟩, z.af, z.av⟩)) := Lib.hid (set_at (by omega))
          have F164 := Bun.setOwn (sz := 8) (fun _ => rfl) F162 hz163.out (y := (⟨um, ⟨uh.lo, uh.hi⟩, ⟨uw.lo, uw.hi⟩, ⟨uf.lo, uf.hi⟩, ua, .slice au ua.length cu⟩)) (j := 7) (u := (.slice au ua.length cu)) (k := ((r143.toNat) * 8 + 7)) (by decide) rfl (by omega)
          clear F162
          rw [List.set_set] at F164
          have hz165 : Hid ((lt.set r143.toNat (⟨um, ⟨uh.lo, uh.hi⟩, ⟨uw.lo, uw.hi⟩, ⟨uf.lo, uf.hi⟩, ua, .slice au ua.length cu⟩))[r143.toNat]? = some (⟨um, ⟨uh.lo, uh.hi⟩, ⟨uw.lo, uw.hi⟩, ⟨uf.lo, uf.hi⟩, ua, .slice au ua.length cu⟩)) := Lib.hid (set_at (by omega))
          refine ru_back_late hK (by kernel_rfl) ?_
          clear hK K
          (try simp only [Act.put, List.setIfInBounds_toArray, List.set_cons_zero, List.set_cons_succ])
          refine ru_done (by kernel_rfl) ?_
          obtain ⟨w166, hx167, F169, hxs168⟩ := (show Bun w [rown tskEncS 79 8 w28.heap.size (.slice (some ⟨gT136, 0, none⟩) lt.length oc2) (lt.set r143.toNat (⟨um, ⟨uh.lo, uh.hi⟩, ⟨uw.lo, uw.hi⟩, ⟨uf.lo, uf.hi⟩, ua, .slice au ua.length cu⟩)), rbox w32.heap.size 25 #[.slice oa1 lm.length oc1, .slice (some ⟨gT136, 0, none⟩) lt.length oc2], rown mchEnc 77 3 w28.heap.size (.slice oa1 lm.length oc1) lm, rafo w28.heap.size lt, rseed sb, rbox (w.heap.size + 1) 77 #[.int .i64 x.mild, .int .i64 x.hard, .int .i64 x.shift], rbox w.heap.size 25 #[.slice aM0 m0.length cM0, .slice aT0 t0.length cT0], rsl intEnc 1 0 w.heap.size (.slice na zs.length nc) zs, rsl intEnc 1 0 w.heap.size (.slice au ua.length cu) ua, rsl weaEnc 6 0 w.heap.size (.slice ad0 d0.length cd0) d0, rafs 0 w.heap.size t0, rsl tskEnc 8 0 w.heap.size (.slice aT0 t0.length cT0) t0, rsl mchEnc 3 0 w.heap.size (.slice aM0 m0.length cM0) m0] _ from (F164.drop 5 rfl)).name
          (try simp at hxs168)
          rw [hx167]
          clear hx167 F164
          have b172 := F169.bx2 1 rfl
          go_wp2_with fail
          clear b172
          refine (below_c sb (lm.length : Int) _ (F169.at 4 rfl : SeedAt _ sb) (by omega) (by omega)).mono ?_
          rintro e w175 ⟨r170, rfl, hr171, hs174, hg173⟩
          unfold belowR at hr171
          have hg173s := hg173.size
          (try simp at hg173s)
          have F176 := F169.seedAt 4 rfl hg173 hs174
          clear F169
          clear hg173
          go_wp2_with fail
          refine (weekOf_c sb 6 _ ((F176.front 4 rfl rfl).at 0 rfl : SeedAt _ sb) (by omega)).mono ?_
          rintro e w179 ⟨dl, aw_dl, cw_dl, lw_dl, hw_dl, rfl, ⟨hwx_dl, hwy_dl⟩, hwz_dl, ⟨hwl_dl, hwe_dl⟩, hs178, hg177⟩
          have HWE_dl := Lib.hid hwe_dl
          clear hwe_dl
          have hg177s := hg177.size
          (try simp at hg177s)
          have F180 := (F176.front 4 rfl rfl).seedAdd (rsl weaEnc 6 lw_dl hw_dl (.slice aw_dl dl.length cw_dl) dl) hg177 hs178 (hwz_dl) (fun g e => ⟨Nat.le_trans hwx_dl e.1, Nat.lt_of_lt_of_le e.2 hwy_dl⟩)
          clear F176
          clear hg177
          have hkx_ : r170 < (lm.length : Int) := by omega
          have hkz_ : 0 ≤ r170 := by omega
          obtain ⟨gT181, cT182, e_⟩ := Own.opn (F180.at 4 rfl : Own mchEnc 77 3 w28.heap.size _ (.slice oa1 lm.length oc1) lm) (by omega)
          injection e_ with e1_ _ e2_
          subst e1_ e2_
          have gT181l := (F180.ltAt 4 rfl _ rfl).1
          obtain ⟨zm, hz183_⟩ : ∃ z_, lm[r170.toNat]? = some z_ := ⟨_, List.getElem?_eq_getElem (by omega)⟩
          have hz183 := Lib.hid hz183_
          clear hz183_
          go_wp2_with fail
          refine wp_cutK 126 (fun t wr => ∃ (g8_67 : Nat) (g8_71 : Nat), t 5 = .pointer (some ⟨w.heap.size, 0, none⟩) ∧ t 12 = .pointer (some ⟨w32.heap.size, 0, none⟩) ∧ t 15 = .slice (some ⟨g8_67, 0, none⟩) 3 3 ∧ t 16 = .slice (some ⟨g8_71, 0, none⟩) 3 3 ∧ w179.heap.size ≤ wr.heap.size ∧ Bun w [rbox g8_67 77 #[.int .i64 x.mild, .int .i64 x.hard, .int .i64 x.shift, .int .i64 zm.mild, .int .i64 zm.hard, .int .i64 zm.shift, .int .i64 x.mild, .int .i64 x.hard, .int .i64 x.shift], rbox g8_71 26 #[.slice ad0 d0.length cd0, .slice aw_dl dl.length cw_dl, .slice aw_dl dl.length cw_dl], rsl weaEnc 6 lw_dl hw_dl (.slice aw_dl dl.length cw_dl) dl, rseed sb, rown tskEncS 79 8 w28.heap.size (.slice (some ⟨gT136, 0, none⟩) lt.length oc2) (lt.set r143.toNat (⟨um, ⟨uh.lo, uh.hi⟩, ⟨uw.lo, uw.hi⟩, ⟨uf.lo, uf.hi⟩, ua, .slice au ua.length cu⟩)), rbox w32.heap.size 25 #[.slice (some ⟨gT181, 0, none⟩) lm.length oc1, .slice (some ⟨gT136, 0, none⟩) lt.length oc2], rown mchEnc 77 3 w28.heap.size (.slice (some ⟨gT181, 0, none⟩) lm.length oc1) lm, rafo w28.heap.size lt, rbox (w.heap.size + 1) 77 #[.int .i64 x.mild, .int .i64 x.hard, .int .i64 x.shift], rbox w.heap.size 25 #[.slice aM0 m0.length cM0, .slice aT0 t0.length cT0], rsl intEnc 1 0 w.heap.size (.slice na zs.length nc) zs, rsl intEnc 1 0 w.heap.size (.slice au ua.length cu) ua, rsl weaEnc 6 0 w.heap.size (.slice ad0 d0.length cd0) d0, rafs 0 w.heap.size t0, rsl tskEnc 8 0 w.heap.size (.slice aT0 t0.length cT0) t0, rsl mchEnc 3 0 w.heap.size (.slice aM0 m0.length cM0) m0] wr) ?first5 ?rest5
          case rest5 =>
            rintro t wr ⟨g8_67, g8_71, e5, e12, e15, e16, hrel⟩
            have e : ((List.range 126).map t).toArray = #[t 0, t 1, t 2, t 3, t 4, t 5, t 6, t 7, t 8, t 9, t 10, t 11, t 12, t 13, t 14, t 15, t 16, t 17, t 18, t 19, t 20, t 21, t 22, t 23, t 24, t 25, t 26, t 27, t 28, t 29, t 30, t 31, t 32, t 33, t 34, t 35, t 36, t 37, t 38, t 39, t 40, t 41, t 42, t 43, t 44, t 45, t 46, t 47, t 48, t 49, t 50, t 51, t 52, t 53, t 54, t 55, t 56, t 57, t 58, t 59, t 60, t 61, t 62, t 63, t 64, t 65, t 66, t 67, t 68, t 69, t 70, t 71, t 72, t 73, t 74, t 75, t 76, t 77, t 78, t 79, t 80, t 81, t 82, t 83, t 84, t 85, t 86, t 87, t 88, t 89, t 90, t 91, t 92, t 93, t 94, t 95, t 96, t 97, t 98, t 99, t 100, t 101, t 102, t 103, t 104, t 105, t 106, t 107, t 108, t 109, t 110, t 111, t 112, t 113, t 114, t 115, t 116, t 117, t 118, t 119, t 120, t 121, t 122, t 123, t 124, t 125] := rfl
            (try dsimp only at e)
            rw [e5, e12, e15, e16] at e
            rw [e]
            clear e e5 e12 e15 e16
            obtain ⟨hs185, hF184⟩ := hrel
            clear F180
            obtain ⟨w186, rfl⟩ : ∃ x_ : World, x_ = wr := ⟨_, rfl⟩
            go_wp2_with fail
            have F187 := hF184.lit mchEnc 3 [(⟨x.mild, x.hard, x.shift⟩ : Mch), ⟨zm.mild, zm.hard, zm.shift⟩, ⟨x.mild, x.hard, x.shift⟩] 3 (fun _ => rfl) rfl (by show (3 : Nat) ≤ 1000; omega)
            clear hF184
            have F188 := (F187.front 1 rfl rfl).lit rowEnc 1 [(.slice ad0 d0.length cd0 : Value), .slice aw_dl dl.length cw_dl, .slice aw_dl dl.length cw_dl] 3 (fun _ => rfl) rfl (by show (3 : Nat) ≤ 1000; omega)
            clear F187
            (skip)
            obtain ⟨HI189_, HI1890⟩ : ∃ I : (Nat → Value) → List Deferred → World → Prop, I = (fun t ds wr => ∃ (k : Nat), t 5 = .pointer (some ⟨w.heap.size, 0, none⟩) ∧ t 12 = .pointer (some ⟨w32.heap.size, 0, none⟩) ∧ t 15 = .slice (some ⟨g8_67, 0, none⟩) 3 3 ∧ t 16 = .slice (some ⟨g8_71, 0, none⟩) 3 3 ∧ t 17 = .int .i64 (k : Int) ∧ k ≤ 3 ∧ ds = [] ∧ w186.heap.size ≤ wr.heap.size ∧ Bun w [rsl rowEnc 1 g8_71 (g8_71 + 1) (.slice (some ⟨g8_71, 0, none⟩) 3 3) ([(.slice ad0 d0.length cd0 : Value), .slice aw_dl dl.length cw_dl, .slice aw_dl dl.length cw_dl]), rsl mchEnc 3 g8_67 (g8_67 + 1) (.slice (some ⟨g8_67, 0, none⟩) 3 3) ([(⟨x.mild, x.hard, x.shift⟩ : Mch), ⟨zm.mild, zm.hard, zm.shift⟩, ⟨x.mild, x.hard, x.shift⟩]), rsl weaEnc 6 lw_dl hw_dl (.slice aw_dl dl.length cw_dl) dl, rseed sb, rown tskEncS 79 8 w28.heap.size (.slice (some ⟨gT136, 0, none⟩) lt.length oc2) (lt.set r143.toNat (⟨um, ⟨uh.lo, uh.hi⟩, ⟨uw.lo, uw.hi⟩, ⟨uf.lo, uf.hi⟩, ua, .slice au ua.length cu⟩)), rbox w32.heap.size 25 #[.slice (some ⟨gT181, 0, none⟩) lm.length oc1, .slice (some ⟨gT136, 0, none⟩) lt.length oc2], rown mchEnc 77 3 w28.heap.size (.slice (some ⟨gT181, 0, none⟩) lm.length oc1) lm, rafo w28.heap.size lt, rbox w.heap.size 25 #[.slice aM0 m0.length cM0, .slice aT0 t0.length cT0], rsl intEnc 1 0 w.heap.size (.slice na zs.length nc) zs, rsl intEnc 1 0 w.heap.size (.slice au ua.length cu) ua, rsl weaEnc 6 0 w.heap.size (.slice ad0 d0.length cd0) d0, rafs 0 w.heap.size t0, rsl tskEnc 8 0 w.heap.size (.slice aT0 t0.length cT0) t0, rsl mchEnc 3 0 w.heap.size (.slice aM0 m0.length cM0) m0] wr) := ⟨_, rfl⟩
            have HI189 := Lib.hid HI1890
            clear HI1890
            refine wp_loopS 126 rfl HI189_ (fun t wr => 3 - (intOf (t 17)).toNat) ?atStart2 ?round2
            case round2 =>
              intro t ds wr hHid
              rw [HI189.out] at hHid
              obtain ⟨k, e5, e12, e15, e16, e17, hrel⟩ := hHid
              have e : ((List.range 126).map t).toArray = #[t 0, t 1, t 2, t 3, t 4, t 5, t 6, t 7, t 8, t 9, t 10, t 11, t 12, t 13, t 14, t 15, t 16, t 17, t 18, t 19, t 20, t 21, t 22, t 23, t 24, t 25, t 26, t 27, t 28, t 29, t 30, t 31, t 32, t 33, t 34, t 35, t 36, t 37, t 38, t 39, t 40, t 41, t 42, t 43, t 44, t 45, t 46, t 47, t 48, t 49, t 50, t 51, t 52, t 53, t 54, t 55, t 56, t 57, t 58, t 59, t 60, t 61, t 62, t 63, t 64, t 65, t 66, t 67, t 68, t 69, t 70, t 71, t 72, t 73, t 74, t 75, t 76, t 77, t 78, t 79, t 80, t 81, t 82, t 83, t 84, t 85, t 86, t 87, t 88, t 89, t 90, t 91, t 92, t 93, t 94, t 95, t 96, t 97, t 98, t 99, t 100, t 101, t 102, t 103, t 104, t 105, t 106, t 107, t 108, t 109, t 110, t 111, t 112, t 113, t 114, t 115, t 116, t 117, t 118, t 119, t 120, t 121, t 122, t 123, t 124, t 125] := rfl
              (try dsimp only at e)
              rw [e5, e12, e15, e16, e17] at e
              rw [e]
              simp only [e17]
              clear e e5 e12 e15 e16 e17
              obtain ⟨hk, rfl, hs191, hF190⟩ := hrel
              clear F188
              obtain ⟨w192, rfl⟩ : ∃ x_ : World, x_ = wr := ⟨_, rfl⟩
              by_cases c193 : (k : Int) < 3
              · skip
                have c193H := Lib.hid c193
                obtain ⟨z, hz194_⟩ : ∃ z_, ([(⟨x.mild, x.hard, x.shift⟩ : Mch), ⟨zm.mild, zm.hard, zm.shift⟩, ⟨x.mild, x.hard, x.shift⟩])[k]? = some z_ := ⟨_, List.getElem?_eq_getElem (by show k < 3; omega)⟩
                have hz194 := Lib.hid hz194_
                clear hz194_
                obtain ⟨zv, hz195_⟩ : ∃ z_, ([(.slice ad0 d0.length cd0 : Value), .slice aw_dl dl.length cw_dl, .slice aw_dl dl.length cw_dl])[k]? = some z_ := ⟨_, List.getElem?_eq_getElem (by show k < 3; omega)⟩
                have hz195 := Lib.hid hz195_
                clear hz195_
                obtain ⟨dk, hrow_⟩ := row_of d0 dl hz195.out
                have HROW := Lib.hid hrow_
                clear hrow_
                go_wp2_with fail
                have F198 := hF190.drew
                clear hF190
                refine ru_begin (fun W => W.cell? ⟨g8_67, k * 3, none⟩ = some (.int .i64 z.mild) ∧ W.cell? ⟨g8_67, k * 3 + 1, none⟩ = some (.int .i64 z.hard) ∧ W.cell? ⟨g8_67, k * 3 + 2, none⟩ = some (.int .i64 z.shift) ∧ W.cell? ⟨g8_71, k, none⟩ = some zv) 13 (by kernel_rfl) ?_ ?_
                · exact ⟨(((F198.at 1 rfl : Sl mchEnc 3 g8_67 (g8_67 + 1) _ (.slice (some ⟨g8_67, 0, none⟩) 3 3) ([(⟨x.mild, x.hard, x.shift⟩ : Mch), ⟨zm.mild, zm.hard, zm.shift⟩, ⟨x.mild, x.hard, x.shift⟩]))).cells0 hz194.out 0 _ rfl), (((F198.at 1 rfl : Sl mchEnc 3 g8_67 (g8_67 + 1) _ (.slice (some ⟨g8_67, 0, none⟩) 3 3) ([(⟨x.mild, x.hard, x.shift⟩ : Mch), ⟨zm.mild, zm.hard, zm.shift⟩, ⟨x.mild, x.hard, x.shift⟩]))).cells0 hz194.out 1 _ rfl), (((F198.at 1 rfl : Sl mchEnc 3 g8_67 (g8_67 + 1) _ (.slice (some ⟨g8_67, 0, none⟩) 3 3) ([(⟨x.mild, x.hard, x.shift⟩ : Mch), ⟨zm.mild, zm.hard, zm.shift⟩, ⟨x.mild, x.hard, x.shift⟩]))).cells0 hz194.out 2 _ rfl), (by have h_ := ((F198.at 0 rfl : Sl rowEnc 1 g8_71 (g8_71 + 1) _ (.slice (some ⟨g8_71, 0, none⟩) 3 3) ([(.slice ad0 d0.length cd0 : Value), .slice aw_dl dl.length cw_dl, .slice aw_dl dl.length cw_dl]))).cells0 hz195.out 0 _ rfl; simpa using h_)⟩
                obtain ⟨wd200, hwd_⟩ : ∃ x : World, w192.drew = x := ⟨_, rfl⟩
                rw [hwd_] at F198 ⊢
                have wd200s : w192.heap.size ≤ wd200.heap.size := by rw [← hwd_]; exact Nat.le_refl _
                clear hwd_
                have hS199 := (And.intro ((((F198.at 1 rfl : Sl mchEnc 3 g8_67 (g8_67 + 1) _ (.slice (some ⟨g8_67, 0, none⟩) 3 3) ([(⟨x.mild, x.hard, x.shift⟩ : Mch), ⟨zm.mild, zm.hard, zm.shift⟩, ⟨x.mild, x.hard, x.shift⟩]))).cells0 hz194.out 0 _ rfl)) (And.intro ((((F198.at 1 rfl : Sl mchEnc 3 g8_67 (g8_67 + 1) _ (.slice (some ⟨g8_67, 0, none⟩) 3 3) ([(⟨x.mild, x.hard, x.shift⟩ : Mch), ⟨zm.mild, zm.hard, zm.shift⟩, ⟨x.mild, x.hard, x.shift⟩]))).cells0 hz194.out 1 _ rfl)) (And.intro ((((F198.at 1 rfl : Sl mchEnc 3 g8_67 (g8_67 + 1) _ (.slice (some ⟨g8_67, 0, none⟩) 3 3) ([(⟨x.mild, x.hard, x.shift⟩ : Mch), ⟨zm.mild, zm.hard, zm.shift⟩, ⟨x.mild, x.hard, x.shift⟩]))).cells0 hz194.out 2 _ rfl)) ((by have h_ := ((F198.at 0 rfl : Sl rowEnc 1 g8_71 (g8_71 + 1) _ (.slice (some ⟨g8_71, 0, none⟩) 3 3) ([(.slice ad0 d0.length cd0 : Value), .slice aw_dl dl.length cw_dl, .slice aw_dl dl.length cw_dl]))).cells0 hz195.out 0 _ rfl; simpa using h_)))))
                refine ru_t 0 [] ?_
                refine ru_t 1 [] ?_
                refine ru_t 2 [] ?_
                refine ru_t 3 [] ?_
                refine ru_t 4 [] ?_
                refine ru_t 5 [] ?_
                refine ru_t 6 [] ?_
                refine ru_t 7 [] ?_
                (try simp only [Act.put, List.setIfInBounds_toArray, List.set_cons_zero, List.set_cons_succ])
                clear hS199
                refine ru_one 8 rfl (by kernel_rfl) (fun K hK => ?_)
                go_simp
                refine (bworks_c z 0 _ _ dk _ (row_pick HROW.out (F198.at 11 rfl : Sl weaEnc 6 0 w.heap.size _ (.slice ad0 d0.length cd0) d0) (F198.at 2 rfl : Sl weaEnc 6 lw_dl hw_dl _ (.slice aw_dl dl.length cw_dl) dl) (by first | omega | (simp; omega)) (by first | omega | (simp; omega))) (Nat.le_refl _)).mono ?_
                rintro e w204 ⟨akk201, ckk201, lkk201, hkk201, rfl, ⟨hkxk201, hkyk201⟩, hksk201, hg202⟩
                have hg202s := hg202.size
                (try simp at hg202s)
                have F205 := F198.add (rsl intEnc 1 lkk201 hkk201 (.slice akk201 (wksOf z dk).length ckk201) (wksOf z dk)) hg202 (hksk201) (fun g e => ⟨Nat.le_trans hkxk201 e.1, Nat.lt_of_lt_of_le e.2 hkyk201⟩)
                clear F198
                refine ru_back hK (by exact ⟨(((F205.at 2 rfl : Sl mchEnc 3 g8_67 (g8_67 + 1) _ (.slice (some ⟨g8_67, 0, none⟩) 3 3) ([(⟨x.mild, x.hard, x.shift⟩ : Mch), ⟨zm.mild, zm.hard, zm.shift⟩, ⟨x.mild, x.hard, x.shift⟩]))).cells0 hz194.out 0 _ rfl), (((F205.at 2 rfl : Sl mchEnc 3 g8_67 (g8_67 + 1) _ (.slice (some ⟨g8_67, 0, none⟩) 3 3) ([(⟨x.mild, x.hard, x.shift⟩ : Mch), ⟨zm.mild, zm.hard, zm.shift⟩, ⟨x.mild, x.hard, x.shift⟩]))).cells0 hz194.out 1 _ rfl), (((F205.at 2 rfl : Sl mchEnc 3 g8_67 (g8_67 + 1) _ (.slice (some ⟨g8_67, 0, none⟩) 3 3) ([(⟨x.mild, x.hard, x.shift⟩ : Mch), ⟨zm.mild, zm.hard, zm.shift⟩, ⟨x.mild, x.hard, x.shift⟩]))).cells0 hz194.out 2 _ rfl), (by have h_ := ((F205.at 1 rfl : Sl rowEnc 1 g8_71 (g8_71 + 1) _ (.slice (some ⟨g8_71, 0, none⟩) 3 3) ([(.slice ad0 d0.length cd0 : Value), .slice aw_dl dl.length cw_dl, .slice aw_dl dl.length cw_dl]))).cells0 hz195.out 0 _ rfl; simpa using h_)⟩) (fun hHeld => ?_)
                clear hK K
                (try simp only [Act.put, List.setIfInBounds_toArray, List.set_cons_zero, List.set_cons_succ])
                refine ru_p 9 ?_
                (try simp only [Act.put, List.setIfInBounds_toArray, List.set_cons_zero, List.set_cons_succ])
                refine ru_p 10 ?_
                refine ru_p 11 ?_
                (try simp only [Act.put, List.setIfInBounds_toArray, List.set_cons_zero, List.set_cons_succ])
                refine ru_p 12 ?_
                (try simp only [Act.put, List.setIfInBounds_toArray, List.set_cons_zero, List.set_cons_succ])
                refine ru_one 13 rfl (by kernel_rfl) (fun K hK => ?_)
                go_simp
                refine ru_back_late hK (by kernel_rfl) ?_
                clear hK K
                (try simp only [Act.put, List.setIfInBounds_toArray, List.set_cons_zero, List.set_cons_succ])
                refine ru_done (by kernel_rfl) ?_
                obtain ⟨w206, hx207, F209, hxs208⟩ := (show Bun w [rsl intEnc 1 lkk201 hkk201 (.slice akk201 (wksOf z dk).length ckk201) (wksOf z dk), rsl rowEnc 1 g8_71 (g8_71 + 1) (.slice (some ⟨g8_71, 0, none⟩) 3 3) ([(.slice ad0 d0.length cd0 : Value), .slice aw_dl dl.length cw_dl, .slice aw_dl dl.length cw_dl]), rsl mchEnc 3 g8_67 (g8_67 + 1) (.slice (some ⟨g8_67, 0, none⟩) 3 3) ([(⟨x.mild, x.hard, x.shift⟩ : Mch), ⟨zm.mild, zm.hard, zm.shift⟩, ⟨x.mild, x.hard, x.shift⟩]), rsl weaEnc 6 lw_dl hw_dl (.slice aw_dl dl.length cw_dl) dl, rseed sb, rown tskEncS 79 8 w28.heap.size (.slice (some ⟨gT136, 0, none⟩) lt.length oc2) (lt.set r143.toNat (⟨um, ⟨uh.lo, uh.hi⟩, ⟨uw.lo, uw.hi⟩, ⟨uf.lo, uf.hi⟩, ua, .slice au ua.length cu⟩)), rbox w32.heap.size 25 #[.slice (some ⟨gT181, 0, none⟩) lm.length oc1, .slice (some ⟨gT136, 0, none⟩) lt.length oc2], rown mchEnc 77 3 w28.heap.size (.slice (some ⟨gT181, 0, none⟩) lm.length oc1) lm, rafo w28.heap.size lt, rbox w.heap.size 25 #[.slice aM0 m0.length cM0, .slice aT0 t0.length cT0], rsl intEnc 1 0 w.heap.size (.slice na zs.length nc) zs, rsl intEnc 1 0 w.heap.size (.slice au ua.length cu) ua, rsl weaEnc 6 0 w.heap.size (.slice ad0 d0.length cd0) d0, rafs 0 w.heap.size t0, rsl tskEnc 8 0 w.heap.size (.slice aT0 t0.length cT0) t0, rsl mchEnc 3 0 w.heap.size (.slice aM0 m0.length cM0) m0] _ from F205).name
                (try simp at hxs208)
                rw [hx207]
                clear hx207 F205
                go_wp2_with fail
                have F212 := F209.drew
                clear F209
                refine ru_begin (fun W => W.cell? ⟨g8_67, k * 3, none⟩ = some (.int .i64 z.mild) ∧ W.cell? ⟨g8_67, k * 3 + 1, none⟩ = some (.int .i64 z.hard) ∧ W.cell? ⟨g8_67, k * 3 + 2, none⟩ = some (.int .i64 z.shift) ∧ W.cell? ⟨g8_71, k, none⟩ = some zv) 13 (by kernel_rfl) ?_ ?_
                · exact ⟨(((F212.at 2 rfl : Sl mchEnc 3 g8_67 (g8_67 + 1) _ (.slice (some ⟨g8_67, 0, none⟩) 3 3) ([(⟨x.mild, x.hard, x.shift⟩ : Mch), ⟨zm.mild, zm.hard, zm.shift⟩, ⟨x.mild, x.hard, x.shift⟩]))).cells0 hz194.out 0 _ rfl), (((F212.at 2 rfl : Sl mchEnc 3 g8_67 (g8_67 + 1) _ (.slice (some ⟨g8_67, 0, none⟩) 3 3) ([(⟨x.mild, x.hard, x.shift⟩ : Mch), ⟨zm.mild, zm.hard, zm.shift⟩, ⟨x.mild, x.hard, x.shift⟩]))).cells0 hz194.out 1 _ rfl), (((F212.at 2 rfl : Sl mchEnc 3 g8_67 (g8_67 + 1) _ (.slice (some ⟨g8_67, 0, none⟩) 3 3) ([(⟨x.mild, x.hard, x.shift⟩ : Mch), ⟨zm.mild, zm.hard, zm.shift⟩, ⟨x.mild, x.hard, x.shift⟩]))).cells0 hz194.out 2 _ rfl), (by have h_ := ((F212.at 1 rfl : Sl rowEnc 1 g8_71 (g8_71 + 1) _ (.slice (some ⟨g8_71, 0, none⟩) 3 3) ([(.slice ad0 d0.length cd0 : Value), .slice aw_dl dl.length cw_dl, .slice aw_dl dl.length cw_dl]))).cells0 hz195.out 0 _ rfl; simpa using h_)⟩
                obtain ⟨wd214, hwd_⟩ : ∃ x : World, w206.drew = x := ⟨_, rfl⟩
                rw [hwd_] at F212 ⊢
                have wd214s : w206.heap.size ≤ wd214.heap.size := by rw [← hwd_]; exact Nat.le_refl _
                clear hwd_
                have hS213 := (And.intro ((((F212.at 2 rfl : Sl mchEnc 3 g8_67 (g8_67 + 1) _ (.slice (some ⟨g8_67, 0, none⟩) 3 3) ([(⟨x.mild, x.hard, x.shift⟩ : Mch), ⟨zm.mild, zm.hard, zm.shift⟩, ⟨x.mild, x.hard, x.shift⟩]))).cells0 hz194.out 0 _ rfl)) (And.intro ((((F212.at 2 rfl : Sl mchEnc 3 g8_67 (g8_67 + 1) _ (.slice (some ⟨g8_67, 0, none⟩) 3 3) ([(⟨x.mild, x.hard, x.shift⟩ : Mch), ⟨zm.mild, zm.hard, zm.shift⟩, ⟨x.mild, x.hard, x.shift⟩]))).cells0 hz194.out 1 _ rfl)) (And.intro ((((F212.at 2 rfl : Sl mchEnc 3 g8_67 (g8_67 + 1) _ (.slice (some ⟨g8_67, 0, none⟩) 3 3) ([(⟨x.mild, x.hard, x.shift⟩ : Mch), ⟨zm.mild, zm.hard, zm.shift⟩, ⟨x.mild, x.hard, x.shift⟩]))).cells0 hz194.out 2 _ rfl)) ((by have h_ := ((F212.at 1 rfl : Sl rowEnc 1 g8_71 (g8_71 + 1) _ (.slice (some ⟨g8_71, 0, none⟩) 3 3) ([(.slice ad0 d0.length cd0 : Value), .slice aw_dl dl.length cw_dl, .slice aw_dl dl.length cw_dl]))).cells0 hz195.out 0 _ rfl; simpa using h_)))))
                refine ru_t 0 [] ?_
                refine ru_t 1 [] ?_
                refine ru_t 2 [] ?_
                refine ru_t 3 [] ?_
                refine ru_t 4 [] ?_
                refine ru_t 5 [] ?_
                refine ru_t 6 [] ?_
                refine ru_t 7 [] ?_
                (try simp only [Act.put, List.setIfInBounds_toArray, List.set_cons_zero, List.set_cons_succ])
                clear hS213
                refine ru_one 8 rfl (by kernel_rfl) (fun K hK => ?_)
                go_simp
                refine (rbworks_c z 0 _ _ dk _ (row_pick HROW.out (F212.at 12 rfl : Sl weaEnc 6 0 w.heap.size _ (.slice ad0 d0.length cd0) d0) (F212.at 3 rfl : Sl weaEnc 6 lw_dl hw_dl _ (.slice aw_dl dl.length cw_dl) dl) (by first | omega | (simp; omega)) (by first | omega | (simp; omega))) (Nat.le_refl _)).mono ?_
                rintro e w218 ⟨akk215, ckk215, lkk215, hkk215, rfl, ⟨hkxk215, hkyk215⟩, hksk215, hg216⟩
                have hg216s := hg216.size
                (try simp at hg216s)
                have F219 := F212.add (rsl intEnc 1 lkk215 hkk215 (.slice akk215 (wksOf z dk).length ckk215) (wksOf z dk)) hg216 (hksk215) (fun g e => ⟨Nat.le_trans hkxk215 e.1, Nat.lt_of_lt_of_le e.2 hkyk215⟩)
                clear F212
                refine ru_back hK (by exact ⟨(((F219.at 3 rfl : Sl mchEnc 3 g8_67 (g8_67 + 1) _ (.slice (some ⟨g8_67, 0, none⟩) 3 3) ([(⟨x.mild, x.hard, x.shift⟩ : Mch), ⟨zm.mild, zm.hard, zm.shift⟩, ⟨x.mild, x.hard, x.shift⟩]))).cells0 hz194.out 0 _ rfl), (((F219.at 3 rfl : Sl mchEnc 3 g8_67 (g8_67 + 1) _ (.slice (some ⟨g8_67, 0, none⟩) 3 3) ([(⟨x.mild, x.hard, x.shift⟩ : Mch), ⟨zm.mild, zm.hard, zm.shift⟩, ⟨x.mild, x.hard, x.shift⟩]))).cells0 hz194.out 1 _ rfl), (((F219.at 3 rfl : Sl mchEnc 3 g8_67 (g8_67 + 1) _ (.slice (some ⟨g8_67, 0, none⟩) 3 3) ([(⟨x.mild, x.hard, x.shift⟩ : Mch), ⟨zm.mild, zm.hard, zm.shift⟩, ⟨x.mild, x.hard, x.shift⟩]))).cells0 hz194.out 2 _ rfl), (by have h_ := ((F219.at 2 rfl : Sl rowEnc 1 g8_71 (g8_71 + 1) _ (.slice (some ⟨g8_71, 0, none⟩) 3 3) ([(.slice ad0 d0.length cd0 : Value), .slice aw_dl dl.length cw_dl, .slice aw_dl dl.length cw_dl]))).cells0 hz195.out 0 _ rfl; simpa using h_)⟩) (fun hHeld => ?_)
                clear hK K
                (try simp only [Act.put, List.setIfInBounds_toArray, List.set_cons_zero, List.set_cons_succ])
                refine ru_p 9 ?_
                (try simp only [Act.put, List.setIfInBounds_toArray, List.set_cons_zero, List.set_cons_succ])
                refine ru_p 10 ?_
                refine ru_p 11 ?_
                (try simp only [Act.put, List.setIfInBounds_toArray, List.set_cons_zero, List.set_cons_succ])
                refine ru_p 12 ?_
                (try simp only [Act.put, List.setIfInBounds_toArray, List.set_cons_zero, List.set_cons_succ])
                refine ru_one 13 rfl (by kernel_rfl) (fun K hK => ?_)
                go_simp
                refine ru_back_late hK (by kernel_rfl) ?_
                clear hK K
                (try simp only [Act.put, List.setIfInBounds_toArray, List.set_cons_zero, List.set_cons_succ])
                refine ru_done (by kernel_rfl) ?_
                obtain ⟨w220, hx221, F223, hxs222⟩ := (show Bun w [rsl intEnc 1 lkk215 hkk215 (.slice akk215 (wksOf z dk).length ckk215) (wksOf z dk), rsl intEnc 1 lkk201 hkk201 (.slice akk201 (wksOf z dk).length ckk201) (wksOf z dk), rsl rowEnc 1 g8_71 (g8_71 + 1) (.slice (some ⟨g8_71, 0, none⟩) 3 3) ([(.slice ad0 d0.length cd0 : Value), .slice aw_dl dl.length cw_dl, .slice aw_dl dl.length cw_dl]), rsl mchEnc 3 g8_67 (g8_67 + 1) (.slice (some ⟨g8_67, 0, none⟩) 3 3) ([(⟨x.mild, x.hard, x.shift⟩ : Mch), ⟨zm.mild, zm.hard, zm.shift⟩, ⟨x.mild, x.hard, x.shift⟩]), rsl weaEnc 6 lw_dl hw_dl (.slice aw_dl dl.length cw_dl) dl, rseed sb, rown tskEncS 79 8 w28.heap.size (.slice (some ⟨gT136, 0, none⟩) lt.length oc2) (lt.set r143.toNat (⟨um, ⟨uh.lo, uh.hi⟩, ⟨uw.lo, uw.hi⟩, ⟨uf.lo, uf.hi⟩, ua, .slice au ua.length cu⟩)), rbox w32.heap.size 25 #[.slice (some ⟨gT181, 0, none⟩) lm.length oc1, .slice (some ⟨gT136, 0, none⟩) lt.length oc2], rown mchEnc 77 3 w28.heap.size (.slice (some ⟨gT181, 0, none⟩) lm.length oc1) lm, rafo w28.heap.size lt, rbox w.heap.size 25 #[.slice aM0 m0.length cM0, .slice aT0 t0.length cT0], rsl intEnc 1 0 w.heap.size (.slice na zs.length nc) zs, rsl intEnc 1 0 w.heap.size (.slice au ua.length cu) ua, rsl weaEnc 6 0 w.heap.size (.slice ad0 d0.length cd0) d0, rafs 0 w.heap.size t0, rsl tskEnc 8 0 w.heap.size (.slice aT0 t0.length cT0) t0, rsl mchEnc 3 0 w.heap.size (.slice aM0 m0.length cM0) m0] _ from F219).name
                (try simp at hxs222)
                rw [hx221]
                clear hx221 F219
                go_wp2_with fail
                refine (same_t _ _ _ _ _ _ (wksOf z dk) _ (F223.at 1 rfl : Sl intEnc 1 lkk201 hkk201 _ (.slice akk201 (wksOf z dk).length ckk201) (wksOf z dk)) (F223.at 0 rfl : Sl intEnc 1 lkk215 hkk215 _ (.slice akk215 (wksOf z dk).length ckk215) (wksOf z dk))).mono ?_
                rintro e w226 ⟨rfl, hg224⟩
                have hg224s := hg224.size
                (try simp at hg224s)
                have F227 := F223.gn hg224
                clear F223
                clear hg224
                go_wp2_with fail
                have F228 : Bun w [rsl rowEnc 1 g8_71 (g8_71 + 1) (.slice (some ⟨g8_71, 0, none⟩) 3 3) ([(.slice ad0 d0.length cd0 : Value), .slice aw_dl dl.length cw_dl, .slice aw_dl dl.length cw_dl]), rsl mchEnc 3 g8_67 (g8_67 + 1) (.slice (some ⟨g8_67, 0, none⟩) 3 3) ([(⟨x.mild, x.hard, x.shift⟩ : Mch), ⟨zm.mild, zm.hard, zm.shift⟩, ⟨x.mild, x.hard, x.shift⟩]), rsl weaEnc 6 lw_dl hw_dl (.slice aw_dl dl.length cw_dl) dl, rseed sb, rown tskEncS 79 8 w28.heap.size (.slice (some ⟨gT136, 0, none⟩) lt.length oc2) (lt.set r143.toNat (⟨um, ⟨uh.lo, uh.hi⟩, ⟨uw.lo, uw.hi⟩, ⟨uf.lo, uf.hi⟩, ua, .slice au ua.length cu⟩)), rbox w32.heap.size 25 #[.slice (some ⟨gT181, 0, none⟩) lm.length oc1, .slice (some ⟨gT136, 0, none⟩) lt.length oc2], rown mchEnc 77 3 w28.heap.size (.slice (some ⟨gT181, 0, none⟩) lm.length oc1) lm, rafo w28.heap.size lt, rbox w.heap.size 25 #[.slice aM0 m0.length cM0, .slice aT0 t0.length cT0], rsl intEnc 1 0 w.heap.size (.slice na zs.length nc) zs, rsl intEnc 1 0 w.heap.size (.slice au ua.length cu) ua, rsl weaEnc 6 0 w.heap.size (.slice ad0 d0.length cd0) d0, rafs 0 w.heap.size t0, rsl tskEnc 8 0 w.heap.size (.slice aT0 t0.length cT0) t0, rsl mchEnc 3 0 w.heap.size (.slice aM0 m0.length cM0) m0] _ := F227.pick [2, 3, 4, 5, 6, 7, 8, 9, 10, 11, 12, 13, 14, 15, 16] (by decide) rfl
                clear F227
                (first | refine ⟨by kernel_rfl, ?_, ?_⟩ | refine ⟨rfl, ?_, ?_⟩ | refine ⟨?_, ?_⟩)
                · rw [HI189.out]; exact ⟨k + 1, (by first | kernel_rfl | rfl), (by first | kernel_rfl | rfl), (by first | kernel_rfl | rfl), (by first | kernel_rfl | rfl), (by show Value.int .i64 ((k : Int) + 1) = _; simp), by omega, (by first | rfl | simp), (by first | omega | (simp; done) | (simp; omega)), F228⟩
                · simp [slot, intOf]; omega
              · skip
                have c193H := Lib.hid c193
                have c193a : decide ((k : Int) < 3) = false := dec_f c193
                go_wp2_with fail
                have F229 := hF190.drew
                clear hF190
                refine ru_begin (fun W => W.cell? ⟨w.heap.size, 0, none⟩ = some (.slice aM0 m0.length cM0) ∧ W.cell? ⟨w.heap.size, 1, none⟩ = some (.slice aT0 t0.length cT0) ∧ W.cell? ⟨w32.heap.size, 0, none⟩ = some (.slice (some ⟨gT181, 0, none⟩) lm.length oc1) ∧ W.cell? ⟨w32.heap.size, 1, none⟩ = some (.slice (some ⟨gT136, 0, none⟩) lt.length oc2)) 15 (by kernel_rfl) ?_ ?_
                · exact ⟨F229.cl 8 0 rfl rfl, F229.cl 8 1 rfl rfl, F229.cl 5 0 rfl rfl, F229.cl 5 1 rfl rfl⟩
                obtain ⟨wd231, hwd_⟩ : ∃ x : World, w192.drew = x := ⟨_, rfl⟩
                rw [hwd_] at F229 ⊢
                have wd231s : w192.heap.size ≤ wd231.heap.size := by rw [← hwd_]; exact Nat.le_refl _
                clear hwd_
                have hS230 := (And.intro (F229.cl 8 0 rfl rfl) (And.intro (F229.cl 8 1 rfl rfl) (And.intro (F229.cl 5 0 rfl rfl) (F229.cl 5 1 rfl rfl))))
                refine ru_t 0 [] ?_
                refine ru_t 2 [] ?_
                (try simp only [Act.put, List.setIfInBounds_toArray, List.set_cons_zero, List.set_cons_succ])
                clear hS230
                refine ru_one 1 rfl (by kernel_rfl) (fun K hK => ?_)
                go_simp
                refine (bcheck_c 0 w.heap.size _ _ m0 t0 _ (JobAt.mk (F229.at 14 rfl : Sl mchEnc 3 0 w.heap.size _ (.slice aM0 m0.length cM0) m0) (F229.at 13 rfl : Sl tskEnc 8 0 w.heap.size _ (.slice aT0 t0.length cT0) t0) (F229.at 12 rfl : Afs 0 w.heap.size _ t0)) (by first | omega | (simp; omega))).mono ?_
                rintro e w234 ⟨rfl, hg232⟩
                have hg232s := hg232.size
                (try simp at hg232s)
                have F235 := F229.gn hg232
                clear F229
                refine ru_back hK (by exact ⟨F235.cl 8 0 rfl rfl, F235.cl 8 1 rfl rfl, F235.cl 5 0 rfl rfl, F235.cl 5 1 rfl rfl⟩) (fun hHeld => ?_)
                clear hK K
                (try simp only [Act.put, List.setIfInBounds_toArray, List.set_cons_zero, List.set_cons_succ])
                refine ru_one 3 rfl (by kernel_rfl) (fun K hK => ?_)
                go_simp
                refine (rbcheck_c 0 w.heap.size _ _ m0 t0 _ (JobAt.mk (F235.at 14 rfl : Sl mchEnc 3 0 w.heap.size _ (.slice aM0 m0.length cM0) m0) (F235.at 13 rfl : Sl tskEnc 8 0 w.heap.size _ (.slice aT0 t0.length cT0) t0) (F235.at 12 rfl : Afs 0 w.heap.size _ t0)) (by first | omega | (simp; omega))).mono ?_
                rintro e w238 ⟨rfl, hg236⟩
                have hg236s := hg236.size
                (try simp at hg236s)
                have F239 := F235.gn hg236
                clear F235
                refine ru_back hK (by exact ⟨F239.cl 8 0 rfl rfl, F239.cl 8 1 rfl rfl, F239.cl 5 0 rfl rfl, F239.cl 5 1 rfl rfl⟩) (fun hHeld => ?_)
                clear hK K
                (try simp only [Act.put, List.setIfInBounds_toArray, List.set_cons_zero, List.set_cons_succ])
                refine ru_p 4 ?_
                (try simp only [Act.put, List.setIfInBounds_toArray, List.set_cons_zero, List.set_cons_succ])
                refine ru_p 5 ?_
                (try simp only [Act.put, List.setIfInBounds_toArray, List.set_cons_zero, List.set_cons_succ])
                refine ru_t 6 [] ?_
                refine ru_t 8 [] ?_
                (try simp only [Act.put, List.setIfInBounds_toArray, List.set_cons_zero, List.set_cons_succ])
                refine ru_one 7 rfl (by kernel_rfl) (fun K hK => ?_)
                go_simp
                refine (bcheck_c _ _ _ _ lm (lt.set r143.toNat (⟨um, ⟨uh.lo, uh.hi⟩, ⟨uw.lo, uw.hi⟩, ⟨uf.lo, uf.hi⟩, ua, .slice au ua.length cu⟩)) _ (jobAt_set (T := ⟨um, uh, uw, uf, ua, .slice au ua.length cu⟩) (F239.at 6 rfl : Own mchEnc 77 3 w28.heap.size _ (.slice (some ⟨gT181, 0, none⟩) lm.length oc1) lm) (F239.at 4 rfl : Own tskEncS 79 8 w28.heap.size _ (.slice (some ⟨gT136, 0, none⟩) lt.length oc2) (lt.set r143.toNat (⟨um, ⟨uh.lo, uh.hi⟩, ⟨uw.lo, uw.hi⟩, ⟨uf.lo, uf.hi⟩, ua, .slice au ua.length cu⟩))) (F239.at 7 rfl : ∀ t ∈ lt, Own intEnc 3 1 w28.heap.size _ t.av t.af) HSL.out (F239.at 10 rfl : Sl intEnc 1 0 w.heap.size _ (.slice au ua.length cu) ua) HUC.out (by first | omega | (simp; omega))) (Nat.le_refl _)).mono ?_
                rintro e w242 ⟨rfl, hg240⟩
                have hg240s := hg240.size
                (try simp at hg240s)
                have F243 := F239.gn hg240
                clear F239
                refine ru_back hK (by exact ⟨F243.cl 8 0 rfl rfl, F243.cl 8 1 rfl rfl, F243.cl 5 0 rfl rfl, F243.cl 5 1 rfl rfl⟩) (fun hHeld => ?_)
                clear hK K
                (try simp only [Act.put, List.setIfInBounds_toArray, List.set_cons_zero, List.set_cons_succ])
                refine ru_one 9 rfl (by kernel_rfl) (fun K hK => ?_)
                go_simp
                refine (rbcheck_c _ _ _ _ lm (lt.set r143.toNat (⟨um, ⟨uh.lo, uh.hi⟩, ⟨uw.lo, uw.hi⟩, ⟨uf.lo, uf.hi⟩, ua, .slice au ua.length cu⟩)) _ (jobAt_set (T := ⟨um, uh, uw, uf, ua, .slice au ua.length cu⟩) (F243.at 6 rfl : Own mchEnc 77 3 w28.heap.size _ (.slice (some ⟨gT181, 0, none⟩) lm.length oc1) lm) (F243.at 4 rfl : Own tskEncS 79 8 w28.heap.size _ (.slice (some ⟨gT136, 0, none⟩) lt.length oc2) (lt.set r143.toNat (⟨um, ⟨uh.lo, uh.hi⟩, ⟨uw.lo, uw.hi⟩, ⟨uf.lo, uf.hi⟩, ua, .slice au ua.length cu⟩))) (F243.at 7 rfl : ∀ t ∈ lt, Own intEnc 3 1 w28.heap.size _ t.av t.af) HSL.out (F243.at 10 rfl : Sl intEnc 1 0 w.heap.size _ (.slice au ua.length cu) ua) HUC.out (by first | omega | (simp; omega))) (Nat.le_refl _)).mono ?_
                rintro e w246 ⟨rfl, hg244⟩
                have hg244s := hg244.size
                (try simp at hg244s)
                have F247 := F243.gn hg244
                clear F243
                refine ru_back hK (by exact ⟨F247.cl 8 0 rfl rfl, F247.cl 8 1 rfl rfl, F247.cl 5 0 rfl rfl, F247.cl 5 1 rfl rfl⟩) (fun hHeld => ?_)
                clear hK K
                (try simp only [Act.put, List.setIfInBounds_toArray, List.set_cons_zero, List.set_cons_succ])
                refine ru_p 10 ?_
                (try simp only [Act.put, List.setIfInBounds_toArray, List.set_cons_zero, List.set_cons_succ])
                refine ru_p 11 ?_
                (try simp only [Act.put, List.setIfInBounds_toArray, List.set_cons_zero, List.set_cons_succ])
                refine ru_p 12 ?_
                (try simp only [Act.put, List.setIfInBounds_toArray, List.set_cons_zero, List.set_cons_succ])
                refine ru_one 13 rfl (by kernel_rfl) (fun K hK => ?_)
                go_simp
                refine (awake_c _).mono ?_
                rintro e w250 ⟨rfl, hg248⟩
                have hg248s := hg248.size
                (try simp at hg248s)
                have F251 := F247.gn hg248
                clear F247
                refine ru_back hK (by exact ⟨F251.cl 8 0 rfl rfl, F251.cl 8 1 rfl rfl, F251.cl 5 0 rfl rfl, F251.cl 5 1 rfl rfl⟩) (fun hHeld => ?_)
                clear hK K
                (try simp only [Act.put, List.setIfInBounds_toArray, List.set_cons_zero, List.set_cons_succ])
                refine ru_p 14 ?_
                (try simp only [Act.put, List.setIfInBounds_toArray, List.set_cons_zero, List.set_cons_succ])
                refine ru_one 15 rfl (by kernel_rfl) (fun K hK => ?_)
                go_simp
                refine ru_back_late hK (by kernel_rfl) ?_
                clear hK K
                (try simp only [Act.put, List.setIfInBounds_toArray, List.set_cons_zero, List.set_cons_succ])
                refine ru_done (by kernel_rfl) ?_
                obtain ⟨w252, hx253, F255, hxs254⟩ := (show Bun w [rsl rowEnc 1 g8_71 (g8_71 + 1) (.slice (some ⟨g8_71, 0, none⟩) 3 3) ([(.slice ad0 d0.length cd0 : Value), .slice aw_dl dl.length cw_dl, .slice aw_dl dl.length cw_dl]), rsl mchEnc 3 g8_67 (g8_67 + 1) (.slice (some ⟨g8_67, 0, none⟩) 3 3) ([(⟨x.mild, x.hard, x.shift⟩ : Mch), ⟨zm.mild, zm.hard, zm.shift⟩, ⟨x.mild, x.hard, x.shift⟩]), rsl weaEnc 6 lw_dl hw_dl (.slice aw_dl dl.length cw_dl) dl, rseed sb, rown tskEncS 79 8 w28.heap.size (.slice (some ⟨gT136, 0, none⟩) lt.length oc2) (lt.set r143.toNat (⟨um, ⟨uh.lo, uh.hi⟩, ⟨uw.lo, uw.hi⟩, ⟨uf.lo, uf.hi⟩, ua, .slice au ua.length cu⟩)), rown mchEnc 77 3 w28.heap.size (.slice (some ⟨gT181, 0, none⟩) lm.length oc1) lm, rafo w28.heap.size lt, rsl intEnc 1 0 w.heap.size (.slice na zs.length nc) zs, rsl intEnc 1 0 w.heap.size (.slice au ua.length cu) ua, rsl weaEnc 6 0 w.heap.size (.slice ad0 d0.length cd0) d0, rafs 0 w.heap.size t0, rsl tskEnc 8 0 w.heap.size (.slice aT0 t0.length cT0) t0, rsl mchEnc 3 0 w.heap.size (.slice aM0 m0.length cM0) m0] _ from ((F251.drop 5 rfl).drop 7 rfl)).name
                (try simp at hxs254)
                rw [hx253]
                clear hx253 F251
                go_wp2_with fail
                go_ret
                exact ⟨rfl, F255.gb⟩
            case atStart2 =>
              rw [HI189.out]
              exact ⟨0, (by first | kernel_rfl | rfl), (by first | kernel_rfl | rfl), (by first | kernel_rfl | rfl), (by first | kernel_rfl | rfl), rfl, Nat.zero_le _, rfl, (by first | exact Nat.le_refl _ | omega | (simp; done) | (simp; omega)), (F188.drop 8 rfl)⟩
          case first5 =>
            have F256 := F180.drew
            clear F180
            refine ru_begin (fun W => W.cell? ⟨(w.heap.size + 1), 0, none⟩ = some (.int .i64 x.mild) ∧ W.cell? ⟨(w.heap.size + 1), 1, none⟩ = some (.int .i64 x.hard) ∧ W.cell? ⟨(w.heap.size + 1), 2, none⟩ = some (.int .i64 x.shift) ∧ W.cell? ⟨w32.heap.size, 0, none⟩ = some (.slice (some ⟨gT181, 0, none⟩) lm.length oc1) ∧ W.cell? ⟨gT181, (r170.toNat) * 3, none⟩ = some (.int .i64 zm.mild) ∧ W.cell? ⟨gT181, (r170.toNat) * 3 + 1, none⟩ = some (.int .i64 zm.hard) ∧ W.cell? ⟨gT181, (r170.toNat) * 3 + 2, none⟩ = some (.int .i64 zm.shift)) 13 (by kernel_rfl) ?_ ?_
            · exact ⟨F256.cl 6 0 rfl rfl, F256.cl 6 1 rfl rfl, F256.cl 6 2 rfl rfl, F256.cl 3 0 rfl rfl, (by simpa using (Own.sl (F256.at 4 rfl : Own mchEnc 77 3 w28.heap.size _ (.slice (some ⟨gT181, 0, none⟩) lm.length oc1) lm) (fun _ => rfl)).cells hz183.out 0 _ rfl), (by simpa using (Own.sl (F256.at 4 rfl : Own mchEnc 77 3 w28.heap.size _ (.slice (some ⟨gT181, 0, none⟩) lm.length oc1) lm) (fun _ => rfl)).cells hz183.out 1 _ rfl), (by simpa using (Own.sl (F256.at 4 rfl : Own mchEnc 77 3 w28.heap.size _ (.slice (some ⟨gT181, 0, none⟩) lm.length oc1) lm) (fun _ => rfl)).cells hz183.out 2 _ rfl)⟩
            obtain ⟨wd258, hwd_⟩ : ∃ x : World, w179.drew = x := ⟨_, rfl⟩
            rw [hwd_] at F256 ⊢
            have wd258s : w179.heap.size ≤ wd258.heap.size := by rw [← hwd_]; exact Nat.le_refl _
            clear hwd_
            have hS257 := (And.intro (F256.cl 6 0 rfl rfl) (And.intro (F256.cl 6 1 rfl rfl) (And.intro (F256.cl 6 2 rfl rfl) (And.intro (F256.cl 3 0 rfl rfl) (And.intro ((by simpa using (Own.sl (F256.at 4 rfl : Own mchEnc 77 3 w28.heap.size _ (.slice (some ⟨gT181, 0, none⟩) lm.length oc1) lm) (fun _ => rfl)).cells hz183.out 0 _ rfl)) (And.intro ((by simpa using (Own.sl (F256.at 4 rfl : Own mchEnc 77 3 w28.heap.size _ (.slice (some ⟨gT181, 0, none⟩) lm.length oc1) lm) (fun _ => rfl)).cells hz183.out 1 _ rfl)) ((by simpa using (Own.sl (F256.at 4 rfl : Own mchEnc 77 3 w28.heap.size _ (.slice (some ⟨gT181, 0, none⟩) lm.length oc1) lm) (fun _ => rfl)).cells hz183.out 2 _ rfl))))))))
            refine ru_t 0 [] ?_
            refine ru_t 1 [] ?_
            refine ru_t 2 [] ?_
            refine ru_t 3 [] ?_
            refine ru_t 4 [] ?_
            refine ru_t 5 [] ?_
            refine ru_t 6 [] ?_
            refine ru_t 8 [] ?_
            refine ru_t 9 [] ?_
            refine ru_t 10 [] ?_
            (try simp only [Act.put, List.setIfInBounds_toArray, List.set_cons_zero, List.set_cons_succ])
            clear hS257
            refine ru_two 7 11 rfl rfl (by kernel_rfl) ?_ ?_
            · intro K hK
              go_simp
              have F259 := F256.new 77 #[.int .i64 x.mild, .int .i64 x.hard, .int .i64 x.shift, .int .i64 zm.mild, .int .i64 zm.hard, .int .i64 zm.shift, .int .i64 x.mild, .int .i64 x.hard, .int .i64 x.shift] (n := wd258.heap.size) (by simp)
              clear F256
              refine ru_back hK (by exact ⟨F259.cl 7 0 rfl rfl, F259.cl 7 1 rfl rfl, F259.cl 7 2 rfl rfl, F259.cl 4 0 rfl rfl, (by simpa using (Own.sl (F259.at 5 rfl : Own mchEnc 77 3 w28.heap.size _ (.slice (some ⟨gT181, 0, none⟩) lm.length oc1) lm) (fun _ => rfl)).cells hz183.out 0 _ rfl), (by simpa using (Own.sl (F259.at 5 rfl : Own mchEnc 77 3 w28.heap.size _ (.slice (some ⟨gT181, 0, none⟩) lm.length oc1) lm) (fun _ => rfl)).cells hz183.out 1 _ rfl), (by simpa using (Own.sl (F259.at 5 rfl : Own mchEnc 77 3 w28.heap.size _ (.slice (some ⟨gT181, 0, none⟩) lm.length oc1) lm) (fun _ => rfl)).cells hz183.out 2 _ rfl)⟩) (fun hHeld => ?_)
              clear hK K
              (try simp only [Act.put, List.setIfInBounds_toArray, List.set_cons_zero, List.set_cons_succ])
              refine ru_p 12 ?_
              (try simp only [Act.put, List.setIfInBounds_toArray, List.set_cons_zero, List.set_cons_succ])
              refine ru_one 11 rfl (by kernel_rfl) (fun K hK => ?_)
              go_simp
              have F260 := F259.new 26 #[.slice ad0 d0.length cd0, .slice aw_dl dl.length cw_dl, .slice aw_dl dl.length cw_dl] (n := (wd258.heap.size + 1)) (by simp)
              clear F259
              refine ru_back hK (by exact ⟨F260.cl 8 0 rfl rfl, F260.cl 8 1 rfl rfl, F260.cl 8 2 rfl rfl, F260.cl 5 0 rfl rfl, (by simpa using (Own.sl (F260.at 6 rfl : Own mchEnc 77 3 w28.heap.size _ (.slice (some ⟨gT181, 0, none⟩) lm.length oc1) lm) (fun _ => rfl)).cells hz183.out 0 _ rfl), (by simpa using (Own.sl (F260.at 6 rfl : Own mchEnc 77 3 w28.heap.size _ (.slice (some ⟨gT181, 0, none⟩) lm.length oc1) lm) (fun _ => rfl)).cells hz183.out 1 _ rfl), (by simpa using (Own.sl (F260.at 6 rfl : Own mchEnc 77 3 w28.heap.size _ (.slice (some ⟨gT181, 0, none⟩) lm.length oc1) lm) (fun _ => rfl)).cells hz183.out 2 _ rfl)⟩) (fun hHeld => ?_)
              clear hK K
              (try simp only [Act.put, List.setIfInBounds_toArray, List.set_cons_zero, List.set_cons_succ])
              refine ru_one 13 rfl (by kernel_rfl) (fun K hK => ?_)
              go_simp
              refine ru_back_late hK (by kernel_rfl) ?_
              clear hK K
              (try simp only [Act.put, List.setIfInBounds_toArray, List.set_cons_zero, List.set_cons_succ])
              refine ru_done (by kernel_rfl) ?_
              exact ⟨(by first | kernel_rfl | rfl), rfl, wd258.heap.size, wd258.heap.size + 1, (by first | kernel_rfl | rfl), (by first | kernel_rfl | rfl), (by first | kernel_rfl | rfl), (by first | kernel_rfl | rfl), (by first | omega | (simp; done) | (simp; omega)), (F260.pick [1, 0, 2, 3, 4, 5, 6, 7, 8, 9, 10, 11, 12, 13, 14, 15] (by decide) rfl)⟩
            · intro K hK
              go_simp
              have F261 := F256.new 26 #[.slice ad0 d0.length cd0, .slice aw_dl dl.length cw_dl, .slice aw_dl dl.length cw_dl] (n := wd258.heap.size) (by simp)
              clear F256
              refine ru_back hK (by exact ⟨F261.cl 7 0 rfl rfl, F261.cl 7 1 rfl rfl, F261.cl 7 2 rfl rfl, F261.cl 4 0 rfl rfl, (by simpa using (Own.sl (F261.at 5 rfl : Own mchEnc 77 3 w28.heap.size _ (.slice (some ⟨gT181, 0, none⟩) lm.length oc1) lm) (fun _ => rfl)).cells hz183.out 0 _ rfl), (by simpa using (Own.sl (F261.at 5 rfl : Own mchEnc 77 3 w28.heap.size _ (.slice (some ⟨gT181, 0, none⟩) lm.length oc1) lm) (fun _ => rfl)).cells hz183.out 1 _ rfl), (by simpa using (Own.sl (F261.at 5 rfl : Own mchEnc 77 3 w28.heap.size _ (.slice (some ⟨gT181, 0, none⟩) lm.length oc1) lm) (fun _ => rfl)).cells hz183.out 2 _ rfl)⟩) (fun hHeld => ?_)
              clear hK K
              (try simp only [Act.put, List.setIfInBounds_toArray, List.set_cons_zero, List.set_cons_succ])
              refine ru_one 7 rfl (by kernel_rfl) (fun K hK => ?_)
              go_simp
              have F262 := F261.new 77 #[.int .i64 x.mild, .int .i64 x.hard, .int .i64 x.shift, .int .i64 zm.mild, .int .i64 zm.hard, .int .i64 zm.shift, .int .i64 x.mild, .int .i64 x.hard, .int .i64 x.shift] (n := (wd258.heap.size + 1)) (by simp)
              clear F261
              refine ru_back hK (by exact ⟨F262.cl 8 0 rfl rfl, F262.cl 8 1 rfl rfl, F262.cl 8 2 rfl rfl, F262.cl 5 0 rfl rfl, (by simpa using (Own.sl (F262.at 6 rfl : Own mchEnc 77 3 w28.heap.size _ (.slice (some ⟨gT181, 0, none⟩) lm.length oc1) lm) (fun _ => rfl)).cells hz183.out 0 _ rfl), (by simpa using (Own.sl (F262.at 6 rfl : Own mchEnc 77 3 w28.heap.size _ (.slice (some ⟨gT181, 0, none⟩) lm.length oc1) lm) (fun _ => rfl)).cells hz183.out 1 _ rfl), (by simpa using (Own.sl (F262.at 6 rfl : Own mchEnc 77 3 w28.heap.size _ (.slice (some ⟨gT181, 0, none⟩) lm.length oc1) lm) (fun _ => rfl)).cells hz183.out 2 _ rfl)⟩) (fun hHeld => ?_)
              clear hK K
              (try simp only [Act.put, List.setIfInBounds_toArray, List.set_cons_zero, List.set_cons_succ])
              refine ru_p 12 ?_
              (try simp only [Act.put, List.setIfInBounds_toArray, List.set_cons_zero, List.set_cons_succ])
              refine ru_one 13 rfl (by kernel_rfl) (fun K hK => ?_)
              go_simp
              refine ru_back_late hK (by kernel_rfl) ?_
              clear hK K
              (try simp only [Act.put, List.setIfInBounds_toArray, List.set_cons_zero, List.set_cons_succ])
              refine ru_done (by kernel_rfl) ?_
              exact ⟨(by first | kernel_rfl | rfl), rfl, wd258.heap.size + 1, wd258.heap.size, (by first | kernel_rfl | rfl), (by first | kernel_rfl | rfl), (by first | kernel_rfl | rfl), (by first | kernel_rfl | rfl), (by first | omega | (simp; done) | (simp; omega)), (F262.pick [0, 1, 2, 3, 4, 5, 6, 7, 8, 9, 10, 11, 12, 13, 14, 15] (by decide) rfl)⟩
      · skip
        have c35H := Lib.hid c35
        have c35a : decide (0 < (lt.length : Int)) = false := dec_f c35
        go_wp2_with fail
        have F265 := F34.new 25 #[.slice oa1 lm.length oc1, .slice oa2 lt.length oc2] (n := w32.heap.size) (by simp)
        clear F34
        refine (below_c sb (lm.length : Int) _ (F265.at 4 rfl : SeedAt _ sb) (by omega) (by omega)).mono ?_
        rintro e w268 ⟨r263, rfl, hr264, hs267, hg266⟩
        unfold belowR at hr264
        have hg266s := hg266.size
        (try simp at hg266s)
        have F269 := F265.seedAt 4 rfl hg266 hs267
        clear F265
        clear hg266
        go_wp2_with fail
        refine (weekOf_c sb 6 _ ((F269.front 4 rfl rfl).at 0 rfl : SeedAt _ sb) (by omega)).mono ?_
        rintro e w272 ⟨dl, aw_dl, cw_dl, lw_dl, hw_dl, rfl, ⟨hwx_dl, hwy_dl⟩, hwz_dl, ⟨hwl_dl, hwe_dl⟩, hs271, hg270⟩
        have HWE_dl := Lib.hid hwe_dl
        clear hwe_dl
        have hg270s := hg270.size
        (try simp at hg270s)
        have F273 := (F269.front 4 rfl rfl).seedAdd (rsl weaEnc 6 lw_dl hw_dl (.slice aw_dl dl.length cw_dl) dl) hg270 hs271 (hwz_dl) (fun g e => ⟨Nat.le_trans hwx_dl e.1, Nat.lt_of_lt_of_le e.2 hwy_dl⟩)
        clear F269
        clear hg270
        have hkx_ : r263 < (lm.length : Int) := by omega
        have hkz_ : 0 ≤ r263 := by omega
        obtain ⟨gT274, cT275, e_⟩ := Own.opn (F273.at 3 rfl : Own mchEnc 77 3 w28.heap.size _ (.slice oa1 lm.length oc1) lm) (by omega)
        injection e_ with e1_ _ e2_
        subst e1_ e2_
        have gT274l := (F273.ltAt 3 rfl _ rfl).1
        obtain ⟨zm, hz276_⟩ : ∃ z_, lm[r263.toNat]? = some z_ := ⟨_, List.getElem?_eq_getElem (by omega)⟩
        have hz276 := Lib.hid hz276_
        clear hz276_
        go_wp2_with fail
        refine wp_cutK 126 (fun t wr => ∃ (g8_67 : Nat) (g8_71 : Nat), t 5 = .pointer (some ⟨w.heap.size, 0, none⟩) ∧ t 12 = .pointer (some ⟨w32.heap.size, 0, none⟩) ∧ t 15 = .slice (some ⟨g8_67, 0, none⟩) 3 3 ∧ t 16 = .slice (some ⟨g8_71, 0, none⟩) 3 3 ∧ w272.heap.size ≤ wr.heap.size ∧ Bun w [rbox g8_67 77 #[.int .i64 x.mild, .int .i64 x.hard, .int .i64 x.shift, .int .i64 zm.mild, .int .i64 zm.hard, .int .i64 zm.shift, .int .i64 x.mild, .int .i64 x.hard, .int .i64 x.shift], rbox g8_71 26 #[.slice ad0 d0.length cd0, .slice aw_dl dl.length cw_dl, .slice aw_dl dl.length cw_dl], rsl weaEnc 6 lw_dl hw_dl (.slice aw_dl dl.length cw_dl) dl, rseed sb, rbox w32.heap.size 25 #[.slice (some ⟨gT274, 0, none⟩) lm.length oc1, .slice oa2 lt.length oc2], rown mchEnc 77 3 w28.heap.size (.slice (some ⟨gT274, 0, none⟩) lm.length oc1) lm, rown tskEncS 79 8 w28.heap.size (.slice oa2 lt.length oc2) lt, rafo w28.heap.size lt, rbox (w.heap.size + 2) 79 #[.int .i64 um, .int .i64 uh.lo, .int .i64 uh.hi, .int .i64 uw.lo, .int .i64 uw.hi, .int .i64 uf.lo, .int .i64 uf.hi, .slice au ua.length cu], rbox (w.heap.size + 1) 77 #[.int .i64 x.mild, .int .i64 x.hard, .int .i64 x.shift], rbox w.heap.size 25 #[.slice aM0 m0.length cM0, .slice aT0 t0.length cT0], rsl intEnc 1 0 w.heap.size (.slice na zs.length nc) zs, rsl intEnc 1 0 w.heap.size (.slice au ua.length cu) ua, rsl weaEnc 6 0 w.heap.size (.slice ad0 d0.length cd0) d0, rafs 0 w.heap.size t0, rsl tskEnc 8 0 w.heap.size (.slice aT0 t0.length cT0) t0, rsl mchEnc 3 0 w.heap.size (.slice aM0 m0.length cM0) m0] wr) ?first6 ?rest6
        case rest6 =>
          rintro t wr ⟨g8_67, g8_71, e5, e12, e15, e16, hrel⟩
          have e : ((List.range 126).map t).toArray = #[t 0, t 1, t 2, t 3, t 4, t 5, t 6, t 7, t 8, t 9, t 10, t 11, t 12, t 13, t 14, t 15, t 16, t 17, t 18, t 19, t 20, t 21, t 22, t 23, t 24, t 25, t 26, t 27, t 28, t 29, t 30, t 31, t 32, t 33, t 34, t 35, t 36, t 37, t 38, t 39, t 40, t 41, t 42, t 43, t 44, t 45, t 46, t 47, t 48, t 49, t 50, t 51, t 52, t 53, t 54, t 55, t 56, t 57, t 58, t 59, t 60, t 61, t 62, t 63, t 64, t 65, t 66, t 67, t 68, t 69, t 70, t 71, t 72, t 73, t 74, t 75, t 76, t 77, t 78, t 79, t 80, t 81, t 82, t 83, t 84, t 85, t 86, t 87, t 88, t 89, t 90, t 91, t 92, t 93, t 94, t 95, t 96, t 97, t 98, t 99, t 100, t 101, t 102, t 103, t 104, t 105, t 106, t 107, t 108, t 109, t 110, t 111, t 112, t 113, t 114, t 115, t 116, t 117, t 118, t 119, t 120, t 121, t 122, t 123, t 124, t 125] := rfl
          (try dsimp only at e)
          rw [e5, e12, e15, e16] at e
          rw [e]
          clear e e5 e12 e15 e16
          obtain ⟨hs278, hF277⟩ := hrel
          clear F273
          obtain ⟨w279, rfl⟩ : ∃ x_ : World, x_ = wr := ⟨_, rfl⟩
          go_wp2_with fail
          have F280 := hF277.lit mchEnc 3 [(⟨x.mild, x.hard, x.shift⟩ : Mch), ⟨zm.mild, zm.hard, zm.shift⟩, ⟨x.mild, x.hard, x.shift⟩] 3 (fun _ => rfl) rfl (by show (3 : Nat) ≤ 1000; omega)
          clear hF277
          have F281 := (F280.front 1 rfl rfl).lit rowEnc 1 [(.slice ad0 d0.length cd0 : Value), .slice aw_dl dl.length cw_dl, .slice aw_dl dl.length cw_dl] 3 (fun _ => rfl) rfl (by show (3 : Nat) ≤ 1000; omega)
          clear F280
          (skip)
          obtain ⟨HI282_, HI2820⟩ : ∃ I : (Nat → Value) → List Deferred → World → Prop, I = (fun t ds wr => ∃ (k : Nat), t 5 = .pointer (some ⟨w.heap.size, 0, none⟩) ∧ t 12 = .pointer (some ⟨w32.heap.size, 0, none⟩) ∧ t 15 = .slice (some ⟨g8_67, 0, none⟩) 3 3 ∧ t 16 = .slice (some ⟨g8_71, 0, none⟩) 3 3 ∧ t 17 = .int .i64 (k : Int) ∧ k ≤ 3 ∧ ds = [] ∧ w279.heap.size ≤ wr.heap.size ∧ Bun w [rsl rowEnc 1 g8_71 (g8_71 + 1) (.slice (some ⟨g8_71, 0, none⟩) 3 3) ([(.slice ad0 d0.length cd0 : Value), .slice aw_dl dl.length cw_dl, .slice aw_dl dl.length cw_dl]), rsl mchEnc 3 g8_67 (g8_67 + 1) (.slice (some ⟨g8_67, 0, none⟩) 3 3) ([(⟨x.mild, x.hard, x.shift⟩ : Mch), ⟨zm.mild, zm.hard, zm.shift⟩, ⟨x.mild, x.hard, x.shift⟩]), rsl weaEnc 6 lw_dl hw_dl (.slice aw_dl dl.length cw_dl) dl, rseed sb, rbox w32.heap.size 25 #[.slice (some ⟨gT274, 0, none⟩) lm.length oc1, .slice oa2 lt.length oc2], rown mchEnc 77 3 w28.heap.size (.slice (some ⟨gT274, 0, none⟩) lm.length oc1) lm, rown tskEncS 79 8 w28.heap.size (.slice oa2 lt.length oc2) lt, rafo w28.heap.size lt, rbox w.heap.size 25 #[.slice aM0 m0.length cM0, .slice aT0 t0.length cT0], rsl intEnc 1 0 w.heap.size (.slice na zs.length nc) zs, rsl intEnc 1 0 w.heap.size (.slice au ua.length cu) ua, rsl weaEnc 6 0 w.heap.size (.slice ad0 d0.length cd0) d0, rafs 0 w.heap.size t0, rsl tskEnc 8 0 w.heap.size (.slice aT0 t0.length cT0) t0, rsl mchEnc 3 0 w.heap.size (.slice aM0 m0.length cM0) m0] wr) := ⟨_, rfl⟩
          have HI282 := Lib.hid HI2820
          clear HI2820
          refine wp_loopS 126 rfl HI282_ (fun t wr => 3 - (intOf (t 17)).toNat) ?atStart3 ?round3
          case round3 =>
            intro t ds wr hHid
            rw [HI282.out] at hHid
            obtain ⟨k, e5, e12, e15, e16, e17, hrel⟩ := hHid
            have e : ((List.range 126).map t).toArray = #[t 0, t 1, t 2, t 3, t 4, t 5, t 6, t 7, t 8, t 9, t 10, t 11, t 12, t 13, t 14, t 15, t 16, t 17, t 18, t 19, t 20, t 21, t 22, t 23, t 24, t 25, t 26, t 27, t 28, t 29, t 30, t 31, t 32, t 33, t 34, t 35, t 36, t 37, t 38, t 39, t 40, t 41, t 42, t 43, t 44, t 45, t 46, t 47, t 48, t 49, t 50, t 51, t 52, t 53, t 54, t 55, t 56, t 57, t 58, t 59, t 60, t 61, t 62, t 63, t 64, t 65, t 66, t 67, t 68, t 69, t 70, t 71, t 72, t 73, t 74, t 75, t 76, t 77, t 78, t 79, t 80, t 81, t 82, t 83, t 84, t 85, t 86, t 87, t 88, t 89, t 90, t 91, t 92, t 93, t 94, t 95, t 96, t 97, t 98, t 99, t 100, t 101, t 102, t 103, t 104, t 105, t 106, t 107, t 108, t 109, t 110, t 111, t 112, t 113, t 114, t 115, t 116, t 117, t 118, t 119, t 120, t 121, t 122, t 123, t 124, t 125] := rfl
            (try dsimp only at e)
            rw [e5, e12, e15, e16, e17] at e
            rw [e]
            simp only [e17]
            clear e e5 e12 e15 e16 e17
            obtain ⟨hk, rfl, hs284, hF283⟩ := hrel
            clear F281
            obtain ⟨w285, rfl⟩ : ∃ x_ : World, x_ = wr := ⟨_, rfl⟩
            by_cases c286 : (k : Int) < 3
            · skip
              have c286H := Lib.hid c286
              obtain ⟨z, hz287_⟩ : ∃ z_, ([(⟨x.mild, x.hard, x.shift⟩ : Mch), ⟨zm.mild, zm.hard, zm.shift⟩, ⟨x.mild, x.hard, x.shift⟩])[k]? = some z_ := ⟨_, List.getElem?_eq_getElem (by show k < 3; omega)⟩
              have hz287 := Lib.hid hz287_
              clear hz287_
              obtain ⟨zv, hz288_⟩ : ∃ z_, ([(.slice ad0 d0.length cd0 : Value), .slice aw_dl dl.length cw_dl, .slice aw_dl dl.length cw_dl])[k]? = some z_ := ⟨_, List.getElem?_eq_getElem (by show k < 3; omega)⟩
              have hz288 := Lib.hid hz288_
              clear hz288_
              obtain ⟨dk, hrow_⟩ := row_of d0 dl hz288.out
              have HROW := Lib.hid hrow_
              clear hrow_
              go_wp2_with fail
              have F291 := hF283.drew
              clear hF283
              refine ru_begin (fun W => W.cell? ⟨g8_67, k * 3, none⟩ = some (.int .i64 z.mild) ∧ W.cell? ⟨g8_67, k * 3 + 1, none⟩ = some (.int .i64 z.hard) ∧ W.cell? ⟨g8_67, k * 3 + 2, none⟩ = some (.int .i64 z.shift) ∧ W.cell? ⟨g8_71, k, none⟩ = some zv) 13 (by kernel_rfl) ?_ ?_
              · exact ⟨(((F291.at 1 rfl : Sl mchEnc 3 g8_67 (g8_67 + 1) _ (.slice (some ⟨g8_67, 0, none⟩) 3 3) ([(⟨x.mild, x.hard, x.shift⟩ : Mch), ⟨zm.mild, zm.hard, zm.shift⟩, ⟨x.mild, x.hard, x.shift⟩]))).cells0 hz287.out 0 _ rfl), (((F291.at 1 rfl : Sl mchEnc 3 g8_67 (g8_67 + 1) _ (.slice (some ⟨g8_67, 0, none⟩) 3 3) ([(⟨x.mild, x.hard, x.shift⟩ : Mch), ⟨zm.mild, zm.hard, zm.shift⟩, ⟨x.mild, x.hard, x.shift⟩]))).cells0 hz287.out 1 _ rfl), (((F291.at 1 rfl : Sl mchEnc 3 g8_67 (g8_67 + 1) _ (.slice (some ⟨g8_67, 0, none⟩) 3 3) ([(⟨x.mild, x.hard, x.shift⟩ : Mch), ⟨zm.mild, zm.hard, zm.shift⟩, ⟨x.mild, x.hard, x.shift⟩]))).cells0 hz287.out 2 _ rfl), (by have h_ := ((F291.at 0 rfl : Sl rowEnc 1 g8_71 (g8_71 + 1) _ (.slice (some ⟨g8_71, 0, none⟩) 3 3) ([(.slice ad0 d0.length cd0 : Value), .slice aw_dl dl.length cw_dl, .slice aw_dl dl.length cw_dl]))).cells0 hz288.out 0 _ rfl; simpa using h_)⟩
              obtain ⟨wd293, hwd_⟩ : ∃ x : World, w285.drew = x := ⟨_, rfl⟩
              rw [hwd_] at F291 ⊢
              have wd293s : w285.heap.size ≤ wd293.heap.size := by rw [← hwd_]; exact Nat.le_refl _
              clear hwd_
              have hS292 := (And.intro ((((F291.at 1 rfl : Sl mchEnc 3 g8_67 (g8_67 + 1) _ (.slice (some ⟨g8_67, 0, none⟩) 3 3) ([(⟨x.mild, x.hard, x.shift⟩ : Mch), ⟨zm.mild, zm.hard, zm.shift⟩, ⟨x.mild, x.hard, x.shift⟩]))).cells0 hz287.out 0 _ rfl)) (And.intro ((((F291.at 1 rfl : Sl mchEnc 3 g8_67 (g8_67 + 1) _ (.slice (some ⟨g8_67, 0, none⟩) 3 3) ([(⟨x.mild, x.hard, x.shift⟩ : Mch), ⟨zm.mild, zm.hard, zm.shift⟩, ⟨x.mild, x.hard, x.shift⟩]))).cells0 hz287.out 1 _ rfl)) (And.intro ((((F291.at 1 rfl : Sl mchEnc 3 g8_67 (g8_67 + 1) _ (.slice (some ⟨g8_67, 0, none⟩) 3 3) ([(⟨x.mild, x.hard, x.shift⟩ : Mch), ⟨zm.mild, zm.hard, zm.shift⟩, ⟨x.mild, x.hard, x.shift⟩]))).cells0 hz287.out 2 _ rfl)) ((by have h_ := ((F291.at 0 rfl : Sl rowEnc 1 g8_71 (g8_71 + 1) _ (.slice (some ⟨g8_71, 0, none⟩) 3 3) ([(.slice ad0 d0.length cd0 : Value), .slice aw_dl dl.length cw_dl, .slice aw_dl dl.length cw_dl]))).cells0 hz288.out 0 _ rfl; simpa using h_)))))
              refine ru_t 0 [] ?_
              refine ru_t 1 [] ?_
              refine ru_t 2 [] ?_
              refine ru_t 3 [] ?_
              refine ru_t 4 [] ?_
              refine ru_t 5 [] ?_
              refine ru_t 6 [] ?_
              refine ru_t 7 [] ?_
              (try simp only [Act.put, List.setIfInBounds_toArray, List.set_cons_zero, List.set_cons_succ])
              clear hS292
              refine ru_one 8 rfl (by kernel_rfl) (fun K hK => ?_)
              go_simp
              refine (bworks_c z 0 _ _ dk _ (row_pick HROW.out (F291.at 11 rfl : Sl weaEnc 6 0 w.heap.size _ (.slice ad0 d0.length cd0) d0) (F291.at 2 rfl : Sl weaEnc 6 lw_dl hw_dl _ (.slice aw_dl dl.length cw_dl) dl) (by first | omega | (simp; omega)) (by first | omega | (simp; omega))) (Nat.le_refl _)).mono ?_
              rintro e w297 ⟨akk294, ckk294, lkk294, hkk294, rfl, ⟨hkxk294, hkyk294⟩, hksk294, hg295⟩
              have hg295s := hg295.size
              (try simp at hg295s)
              have F298 := F291.add (rsl intEnc 1 lkk294 hkk294 (.slice akk294 (wksOf z dk).length ckk294) (wksOf z dk)) hg295 (hksk294) (fun g e => ⟨Nat.le_trans hkxk294 e.1, Nat.lt_of_lt_of_le e.2 hkyk294⟩)
              clear F291
              refine ru_back hK (by exact ⟨(((F298.at 2 rfl : Sl mchEnc 3 g8_67 (g8_67 + 1) _ (.slice (some ⟨g8_67, 0, none⟩) 3 3) ([(⟨x.mild, x.hard, x.shift⟩ : Mch), ⟨zm.mild, zm.hard, zm.shift⟩, ⟨x.mild, x.hard, x.shift⟩]))).cells0 hz287.out 0 _ rfl), (((F298.at 2 rfl : Sl mchEnc 3 g8_67 (g8_67 + 1) _ (.slice (some ⟨g8_67, 0, none⟩) 3 3) ([(⟨x.mild, x.hard, x.shift⟩ : Mch), ⟨zm.mild, zm.hard, zm.shift⟩, ⟨x.mild, x.hard, x.shift⟩]))).cells0 hz287.out 1 _ rfl), (((F298.at 2 rfl : Sl mchEnc 3 g8_67 (g8_67 + 1) _ (.slice (some ⟨g8_67, 0, none⟩) 3 3) ([(⟨x.mild, x.hard, x.shift⟩ : Mch), ⟨zm.mild, zm.hard, zm.shift⟩, ⟨x.mild, x.hard, x.shift⟩]))).cells0 hz287.out 2 _ rfl), (by have h_ := ((F298.at 1 rfl : Sl rowEnc 1 g8_71 (g8_71 + 1) _ (.slice (some ⟨g8_71, 0, none⟩) 3 3) ([(.slice ad0 d0.length cd0 : Value), .slice aw_dl dl.length cw_dl, .slice aw_dl dl.length cw_dl]))).cells0 hz288.out 0 _ rfl; simpa using h_)⟩) (fun hHeld => ?_)
              clear hK K
              (try simp only [Act.put, List.setIfInBounds_toArray, List.set_cons_zero, List.set_cons_succ])
              refine ru_p 9 ?_
              (try simp only [Act.put, List.setIfInBounds_toArray, List.set_cons_zero, List.set_cons_succ])
              refine ru_p 10 ?_
              refine ru_p 11 ?_
              (try simp only [Act.put, List.setIfInBounds_toArray, List.set_cons_zero, List.set_cons_succ])
              refine ru_p 12 ?_
              (try simp only [Act.put, List.setIfInBounds_toArray, List.set_cons_zero, List.set_cons_succ])
              refine ru_one 13 rfl (by kernel_rfl) (fun K hK => ?_)
              go_simp
              refine ru_back_late hK (by kernel_rfl) ?_
              clear hK K
              (try simp only [Act.put, List.setIfInBounds_toArray, List.set_cons_zero, List.set_cons_succ])
              refine ru_done (by kernel_rfl) ?_
              obtain ⟨w299, hx300, F302, hxs301⟩ := (show Bun w [rsl intEnc 1 lkk294 hkk294 (.slice akk294 (wksOf z dk).length ckk294) (wksOf z dk), rsl rowEnc 1 g8_71 (g8_71 + 1) (.slice (some ⟨g8_71, 0, none⟩) 3 3) ([(.slice ad0 d0.length cd0 : Value), .slice aw_dl dl.length cw_dl, .slice aw_dl dl.length cw_dl]), rsl mchEnc 3 g8_67 (g8_67 + 1) (.slice (some ⟨g8_67, 0, none⟩) 3 3) ([(⟨x.mild, x.hard, x.shift⟩ : Mch), ⟨zm.mild, zm.hard, zm.shift⟩, ⟨x.mild, x.hard, x.shift⟩]), rsl weaEnc 6 lw_dl hw_dl (.slice aw_dl dl.length cw_dl) dl, rseed sb, rbox w32.heap.size 25 #[.slice (some ⟨gT274, 0, none⟩) lm.length oc1, .slice oa2 lt.length oc2], rown mchEnc 77 3 w28.heap.size (.slice (some ⟨gT274, 0, none⟩) lm.length oc1) lm, rown tskEncS 79 8 w28.heap.size (.slice oa2 lt.length oc2) lt, rafo w28.heap.size lt, rbox w.heap.size 25 #[.slice aM0 m0.length cM0, .slice aT0 t0.length cT0], rsl intEnc 1 0 w.heap.size (.slice na zs.length nc) zs, rsl intEnc 1 0 w.heap.size (.slice au ua.length cu) ua, rsl weaEnc 6 0 w.heap.size (.slice ad0 d0.length cd0) d0, rafs 0 w.heap.size t0, rsl tskEnc 8 0 w.heap.size (.slice aT0 t0.length cT0) t0, rsl mchEnc 3 0 w.heap.size (.slice aM0 m0.length cM0) m0] _ from F298).name
              (try simp at hxs301)
              rw [hx300]
              clear hx300 F298
              go_wp2_with fail
              have F305 := F302.drew
              clear F302
              refine ru_begin (fun W => W.cell? ⟨g8_67, k * 3, none⟩ = some (.int .i64 z.mild) ∧ W.cell? ⟨g8_67, k * 3 + 1, none⟩ = some (.int .i64 z.hard) ∧ W.cell? ⟨g8_67, k * 3 + 2, none⟩ = some (.int .i64 z.shift) ∧ W.cell? ⟨g8_71, k, none⟩ = some zv) 13 (by kernel_rfl) ?_ ?_
              · exact ⟨(((F305.at 2 rfl : Sl mchEnc 3 g8_67 (g8_67 + 1) _ (.slice (some ⟨g8_67, 0, none⟩) 3 3) ([(⟨x.mild, x.hard, x.shift⟩ : Mch), ⟨zm.mild, zm.hard, zm.shift⟩, ⟨x.mild, x.hard, x.shift⟩]))).cells0 hz287.out 0 _ rfl), (((F305.at 2 rfl : Sl mchEnc 3 g8_67 (g8_67 + 1) _ (.slice (some ⟨g8_67, 0, none⟩) 3 3) ([(⟨x.mild, x.hard, x.shift⟩ : Mch), ⟨zm.mild, zm.hard, zm.shift⟩, ⟨x.mild, x.hard, x.shift⟩]))).cells0 hz287.out 1 _ rfl), (((F305.at 2 rfl : Sl mchEnc 3 g8_67 (g8_67 + 1) _ (.slice (some ⟨g8_67, 0, none⟩) 3 3) ([(⟨x.mild, x.hard, x.shift⟩ : Mch), ⟨zm.mild, zm.hard, zm.shift⟩, ⟨x.mild, x.hard, x.shift⟩]))).cells0 hz287.out 2 _ rfl), (by have h_ := ((F305.at 1 rfl : Sl rowEnc 1 g8_71 (g8_71 + 1) _ (.slice (some ⟨g8_71, 0, none⟩) 3 3) ([(.slice ad0 d0.length cd0 : Value), .slice aw_dl dl.length cw_dl, .slice aw_dl dl.length cw_dl]))).cells0 hz288.out 0 _ rfl; simpa using h_)⟩
              obtain ⟨wd307, hwd_⟩ : ∃ x : World, w299.drew = x := ⟨_, rfl⟩
              rw [hwd_] at F305 ⊢
              have wd307s : w299.heap.size ≤ wd307.heap.size := by rw [← hwd_]; exact Nat.le_refl _
              clear hwd_
              have hS306 := (And.intro ((((F305.at 2 rfl : Sl mchEnc 3 g8_67 (g8_67 + 1) _ (.slice (some ⟨g8_67, 0, none⟩) 3 3) ([(⟨x.mild, x.hard, x.shift⟩ : Mch), ⟨zm.mild, zm.hard, zm.shift⟩, ⟨x.mild, x.hard, x.shift⟩]))).cells0 hz287.out 0 _ rfl)) (And.intro ((((F305.at 2 rfl : Sl mchEnc 3 g8_67 (g8_67 + 1) _ (.slice (some ⟨g8_67, 0, none⟩) 3 3) ([(⟨x.mild, x.hard, x.shift⟩ : Mch), ⟨zm.mild, zm.hard, zm.shift⟩, ⟨x.mild, x.hard, x.shift⟩]))).cells0 hz287.out 1 _ rfl)) (And.intro ((((F305.at 2 rfl : Sl mchEnc 3 g8_67 (g8_67 + 1) _ (.slice (some ⟨g8_67, 0, none⟩) 3 3) ([(⟨x.mild, x.hard, x.shift⟩ : Mch), ⟨zm.mild, zm.hard, zm.shift⟩, ⟨x.mild, x.hard, x.shift⟩]))).cells0 hz287.out 2 _ rfl)) ((by have h_ := ((F305.at 1 rfl : Sl rowEnc 1 g8_71 (g8_71 + 1) _ (.slice (some ⟨g8_71, 0, none⟩) 3 3) ([(.slice ad0 d0.length cd0 : Value), .slice aw_dl dl.length cw_dl, .slice aw_dl dl.length cw_dl]))).cells0 hz288.out 0 _ rfl; simpa using h_)))))
              refine ru_t 0 [] ?_
              refine ru_t 1 [] ?_
              refine ru_t 2 [] ?_
              refine ru_t 3 [] ?_
              refine ru_t 4 [] ?_
              refine ru_t 5 [] ?_
              refine ru_t 6 [] ?_
              refine ru_t 7 [] ?_
              (try simp only [Act.put, List.setIfInBounds_toArray, List.set_cons_zero, List.set_cons_succ])
              clear hS306
              refine ru_one 8 rfl (by kernel_rfl) (fun K hK => ?_)
              go_simp
              refine (rbworks_c z 0 _ _ dk _ (row_pick HROW.out (F305.at 12 rfl : Sl weaEnc 6 0 w.heap.size _ (.slice ad0 d0.length cd0) d0) (F305.at 3 rfl : Sl weaEnc 6 lw_dl hw_dl _ (.slice aw_dl dl.length cw_dl) dl) (by first | omega | (simp; omega)) (by first | omega | (simp; omega))) (Nat.le_refl _)).mono ?_
              rintro e w311 ⟨akk308, ckk308, lkk308, hkk308, rfl, ⟨hkxk308, hkyk308⟩, hksk308, hg309⟩
              have hg309s := hg309.size
              (try simp at hg309s)
              have F312 := F305.add (rsl intEnc 1 lkk308 hkk308 (.slice akk308 (wksOf z dk).length ckk308) (wksOf z dk)) hg309 (hksk308) (fun g e => ⟨Nat.le_trans hkxk308 e.1, Nat.lt_of_lt_of_le e.2 hkyk308⟩)
              clear F305
              refine ru_back hK (by exact ⟨(((F312.at 3 rfl : Sl mchEnc 3 g8_67 (g8_67 + 1) _ (.slice (some ⟨g8_67, 0, none⟩) 3 3) ([(⟨x.mild, x.hard, x.shift⟩ : Mch), ⟨zm.mild, zm.hard, zm.shift⟩, ⟨x.mild, x.hard, x.shift⟩]))).cells0 hz287.out 0 _ rfl), (((F312.at 3 rfl : Sl mchEnc 3 g8_67 (g8_67 + 1) _ (.slice (some ⟨g8_67, 0, none⟩) 3 3) ([(⟨x.mild, x.hard, x.shift⟩ : Mch), ⟨zm.mild, zm.hard, zm.shift⟩, ⟨x.mild, x.hard, x.shift⟩]))).cells0 hz287.out 1 _ rfl), (((F312.at 3 rfl : Sl mchEnc 3 g8_67 (g8_67 + 1) _ (.slice (some ⟨g8_67, 0, none⟩) 3 3) ([(⟨x.mild, x.hard, x.shift⟩ : Mch), ⟨zm.mild, zm.hard, zm.shift⟩, ⟨x.mild, x.hard, x.shift⟩]))).cells0 hz287.out 2 _ rfl), (by have h_ := ((F312.at 2 rfl : Sl rowEnc 1 g8_71 (g8_71 + 1) _ (.slice (some ⟨g8_71, 0, none⟩) 3 3) ([(.slice ad0 d0.length cd0 : Value), .slice aw_dl dl.length cw_dl, .slice aw_dl dl.length cw_dl]))).cells0 hz288.out 0 _ rfl; simpa using h_)⟩) (fun hHeld => ?_)
              clear hK K
              (try simp only [Act.put, List.setIfInBounds_toArray, List.set_cons_zero, List.set_cons_succ])
              refine ru_p 9 ?_
              (try simp only [Act.put, List.setIfInBounds_toArray, List.set_cons_zero, List.set_cons_succ])
              refine ru_p 10 ?_
              refine ru_p 11 ?_
              (try simp only [Act.put, List.setIfInBounds_toArray, List.set_cons_zero, List.set_cons_succ])
              refine ru_p 12 ?_
              (try simp only [Act.put, List.setIfInBounds_toArray, List.set_cons_zero, List.set_cons_succ])
              refine ru_one 13 rfl (by kernel_rfl) (fun K hK => ?_)
              go_simp
              refine ru_back_late hK (by kernel_rfl) ?_
              clear hK K
              (try simp only [Act.put, List.setIfInBounds_toArray, List.set_cons_zero, List.set_cons_succ])
              refine ru_done (by kernel_rfl) ?_
              obtain ⟨w313, hx314, F316, hxs315⟩ := (show Bun w [rsl intEnc 1 lkk308 hkk308 (.slice akk308 (wksOf z dk).length ckk308) (wksOf z dk), rsl intEnc 1 lkk294 hkk294 (.slice akk294 (wksOf z dk).length ckk294) (wksOf z dk), rsl rowEnc 1 g8_71 (g8_71 + 1) (.slice (some ⟨g8_71, 0, none⟩) 3 3) ([(.slice ad0 d0.length cd0 : Value), .slice aw_dl dl.length cw_dl, .slice aw_dl dl.length cw_dl]), rsl mchEnc 3 g8_67 (g8_67 + 1) (.slice (some ⟨g8_67, 0, none⟩) 3 3) ([(⟨x.mild, x.hard, x.shift⟩ : Mch), ⟨zm.mild, zm.hard, zm.shift⟩, ⟨x.mild, x.hard, x.shift⟩]), rsl weaEnc 6 lw_dl hw_dl (.slice aw_dl dl.length cw_dl) dl, rseed sb, rbox w32.heap.size 25 #[.slice (some ⟨gT274, 0, none⟩) lm.length oc1, .slice oa2 lt.length oc2], rown mchEnc 77 3 w28.heap.size (.slice (some ⟨gT274, 0, none⟩) lm.length oc1) lm, rown tskEncS 79 8 w28.heap.size (.slice oa2 lt.length oc2) lt, rafo w28.heap.size lt, rbox w.heap.size 25 #[.slice aM0 m0.length cM0, .slice aT0 t0.length cT0], rsl intEnc 1 0 w.heap.size (.slice na zs.length nc) zs, rsl intEnc 1 0 w.heap.size (.slice au ua.length cu) ua, rsl weaEnc 6 0 w.heap.size (.slice ad0 d0.length cd0) d0, rafs 0 w.heap.size t0, rsl tskEnc 8 0 w.heap.size (.slice aT0 t0.length cT0) t0, rsl mchEnc 3 0 w.heap.size (.slice aM0 m0.length cM0) m0] _ from F312).name
              (try simp at hxs315)
              rw [hx314]
              clear hx314 F312
              go_wp2_with fail
              refine (same_t _ _ _ _ _ _ (wksOf z dk) _ (F316.at 1 rfl : Sl intEnc 1 lkk294 hkk294 _ (.slice akk294 (wksOf z dk).length ckk294) (wksOf z dk)) (F316.at 0 rfl : Sl intEnc 1 lkk308 hkk308 _ (.slice akk308 (wksOf z dk).length ckk308) (wksOf z dk))).mono ?_
              rintro e w319 ⟨rfl, hg317⟩
              have hg317s := hg317.size
              (try simp at hg317s)
              have F320 := F316.gn hg317
              clear F316
              clear hg317
              go_wp2_with fail
              have F321 : Bun w [rsl rowEnc 1 g8_71 (g8_71 + 1) (.slice (some ⟨g8_71, 0, none⟩) 3 3) ([(.slice ad0 d0.length cd0 : Value), .slice aw_dl dl.length cw_dl, .slice aw_dl dl.length cw_dl]), rsl mchEnc 3 g8_67 (g8_67 + 1) (.slice (some ⟨g8_67, 0, none⟩) 3 3) ([(⟨x.mild, x.hard, x.shift⟩ : Mch), ⟨zm.mild, zm.hard, zm.shift⟩, ⟨x.mild, x.hard, x.shift⟩]), rsl weaEnc 6 lw_dl hw_dl (.slice aw_dl dl.length cw_dl) dl, rseed sb, rbox w32.heap.size 25 #[.slice (some ⟨gT274, 0, none⟩) lm.length oc1, .slice oa2 lt.length oc2], rown mchEnc 77 3 w28.heap.size (.slice (some ⟨gT274, 0, none⟩) lm.length oc1) lm, rown tskEncS 79 8 w28.heap.size (.slice oa2 lt.length oc2) lt, rafo w28.heap.size lt, rbox w.heap.size 25 #[.slice aM0 m0.length cM0, .slice aT0 t0.length cT0], rsl intEnc 1 0 w.heap.size (.slice na zs.length nc) zs, rsl intEnc 1 0 w.heap.size (.slice au ua.length cu) ua, rsl weaEnc 6 0 w.heap.size (.slice ad0 d0.length cd0) d0, rafs 0 w.heap.size t0, rsl tskEnc 8 0 w.heap.size (.slice aT0 t0.length cT0) t0, rsl mchEnc 3 0 w.heap.size (.slice aM0 m0.length cM0) m0] _ := F320.pick [2, 3, 4, 5, 6, 7, 8, 9, 10, 11, 12, 13, 14, 15, 16] (by decide) rfl
              clear F320
              (first | refine ⟨by kernel_rfl, ?_, ?_⟩ | refine ⟨rfl, ?_, ?_⟩ | refine ⟨?_, ?_⟩)
              · rw [HI282.out]; exact ⟨k + 1, (by first | kernel_rfl | rfl), (by first | kernel_rfl | rfl), (by first | kernel_rfl | rfl), (by first | kernel_rfl | rfl), (by show Value.int .i64 ((k : Int) + 1) = _; simp), by omega, (by first | rfl | simp), (by first | omega | (simp; done) | (simp; omega)), F321⟩
              · simp [slot, intOf]; omega
            · skip
              have c286H := Lib.hid c286
              have c286a : decide ((k : Int) < 3) = false := dec_f c286
              go_wp2_with fail
              have F322 := hF283.drew
              clear hF283
              refine ru_begin (fun W => W.cell? ⟨w.heap.size, 0, none⟩ = some (.slice aM0 m0.length cM0) ∧ W.cell? ⟨w.heap.size, 1, none⟩ = some (.slice aT0 t0.length cT0) ∧ W.cell? ⟨w32.heap.size, 0, none⟩ = some (.slice (some ⟨gT274, 0, none⟩) lm.length oc1) ∧ W.cell? ⟨w32.heap.size, 1, none⟩ = some (.slice oa2 lt.length oc2)) 15 (by kernel_rfl) ?_ ?_
              · exact ⟨F322.cl 8 0 rfl rfl, F322.cl 8 1 rfl rfl, F322.cl 4 0 rfl rfl, F322.cl 4 1 rfl rfl⟩
              obtain ⟨wd324, hwd_⟩ : ∃ x : World, w285.drew = x := ⟨_, rfl⟩
              rw [hwd_] at F322 ⊢
              have wd324s : w285.heap.size ≤ wd324.heap.size := by rw [← hwd_]; exact Nat.le_refl _
              clear hwd_
              have hS323 := (And.intro (F322.cl 8 0 rfl rfl) (And.intro (F322.cl 8 1 rfl rfl) (And.intro (F322.cl 4 0 rfl rfl) (F322.cl 4 1 rfl rfl))))
              refine ru_t 0 [] ?_
              refine ru_t 2 [] ?_
              (try simp only [Act.put, List.setIfInBounds_toArray, List.set_cons_zero, List.set_cons_succ])
              clear hS323
              refine ru_one 1 rfl (by kernel_rfl) (fun K hK => ?_)
              go_simp
              refine (bcheck_c 0 w.heap.size _ _ m0 t0 _ (JobAt.mk (F322.at 14 rfl : Sl mchEnc 3 0 w.heap.size _ (.slice aM0 m0.length cM0) m0) (F322.at 13 rfl : Sl tskEnc 8 0 w.heap.size _ (.slice aT0 t0.length cT0) t0) (F322.at 12 rfl : Afs 0 w.heap.size _ t0)) (by first | omega | (simp; omega))).mono ?_
              rintro e w327 ⟨rfl, hg325⟩
              have hg325s := hg325.size
              (try simp at hg325s)
              have F328 := F322.gn hg325
              clear F322
              refine ru_back hK (by exact ⟨F328.cl 8 0 rfl rfl, F328.cl 8 1 rfl rfl, F328.cl 4 0 rfl rfl, F328.cl 4 1 rfl rfl⟩) (fun hHeld => ?_)
              clear hK K
              (try simp only [Act.put, List.setIfInBounds_toArray, List.set_cons_zero, List.set_cons_succ])
              refine ru_one 3 rfl (by kernel_rfl) (fun K hK => ?_)
              go_simp
              refine (rbcheck_c 0 w.heap.size _ _ m0 t0 _ (JobAt.mk (F328.at 14 rfl : Sl mchEnc 3 0 w.heap.size _ (.slice aM0 m0.length cM0) m0) (F328.at 13 rfl : Sl tskEnc 8 0 w.heap.size _ (.slice aT0 t0.length cT0) t0) (F328.at 12 rfl : Afs 0 w.heap.size _ t0)) (by first | omega | (simp; omega))).mono ?_
              rintro e w331 ⟨rfl, hg329⟩
              have hg329s := hg329.size
              (try simp at hg329s)
              have F332 := F328.gn hg329
              clear F328
              refine ru_back hK (by exact ⟨F332.cl 8 0 rfl rfl, F332.cl 8 1 rfl rfl, F332.cl 4 0 rfl rfl, F332.cl 4 1 rfl rfl⟩) (fun hHeld => ?_)
              clear hK K
              (try simp only [Act.put, List.setIfInBounds_toArray, List.set_cons_zero, List.set_cons_succ])
              refine ru_p 4 ?_
              (try simp only [Act.put, List.setIfInBounds_toArray, List.set_cons_zero, List.set_cons_succ])
              refine ru_p 5 ?_
              (try simp only [Act.put, List.setIfInBounds_toArray, List.set_cons_zero, List.set_cons_succ])
              refine ru_t 6 [] ?_
              refine ru_t 8 [] ?_
              (try simp only [Act.put, List.setIfInBounds_toArray, List.set_cons_zero, List.set_cons_succ])
              refine ru_one 7 rfl (by kernel_rfl) (fun K hK => ?_)
              go_simp
              refine (bcheck_c _ _ _ _ lm lt _ (jobAt_own (F332.at 5 rfl : Own mchEnc 77 3 w28.heap.size _ (.slice (some ⟨gT274, 0, none⟩) lm.length oc1) lm) (F332.at 6 rfl : Own tskEncS 79 8 w28.heap.size _ (.slice oa2 lt.length oc2) lt) (F332.at 7 rfl : ∀ t ∈ lt, Own intEnc 3 1 w28.heap.size _ t.av t.af) HSL.out) (Nat.le_refl _)).mono ?_
              rintro e w335 ⟨rfl, hg333⟩
              have hg333s := hg333.size
              (try simp at hg333s)
              have F336 := F332.gn hg333
              clear F332
              refine ru_back hK (by exact ⟨F336.cl 8 0 rfl rfl, F336.cl 8 1 rfl rfl, F336.cl 4 0 rfl rfl, F336.cl 4 1 rfl rfl⟩) (fun hHeld => ?_)
              clear hK K
              (try simp only [Act.put, List.setIfInBounds_toArray, List.set_cons_zero, List.set_cons_succ])
              refine ru_one 9 rfl (by kernel_rfl) (fun K hK => ?_)
              go_simp
              refine (rbcheck_c _ _ _ _ lm lt _ (jobAt_own (F336.at 5 rfl : Own mchEnc 77 3 w28.heap.size _ (.slice (some ⟨gT274, 0, none⟩) lm.length oc1) lm) (F336.at 6 rfl : Own tskEncS 79 8 w28.heap.size _ (.slice oa2 lt.length oc2) lt) (F336.at 7 rfl : ∀ t ∈ lt, Own intEnc 3 1 w28.heap.size _ t.av t.af) HSL.out) (Nat.le_refl _)).mono ?_
              rintro e w339 ⟨rfl, hg337⟩
              have hg337s := hg337.size
              (try simp at hg337s)
              have F340 := F336.gn hg337
              clear F336
              refine ru_back hK (by exact ⟨F340.cl 8 0 rfl rfl, F340.cl 8 1 rfl rfl, F340.cl 4 0 rfl rfl, F340.cl 4 1 rfl rfl⟩) (fun hHeld => ?_)
              clear hK K
              (try simp only [Act.put, List.setIfInBounds_toArray, List.set_cons_zero, List.set_cons_succ])
              refine ru_p 10 ?_
              (try simp only [Act.put, List.setIfInBounds_toArray, List.set_cons_zero, List.set_cons_succ])
              refine ru_p 11 ?_
              (try simp only [Act.put, List.setIfInBounds_toArray, List.set_cons_zero, List.set_cons_succ])
              refine ru_p 12 ?_
              (try simp only [Act.put, List.setIfInBounds_toArray, List.set_cons_zero, List.set_cons_succ])
              refine ru_one 13 rfl (by kernel_rfl) (fun K hK => ?_)
              go_simp
              refine (awake_c _).mono ?_
              rintro e w343 ⟨rfl, hg341⟩
              have hg341s := hg341.size
              (try simp at hg341s)
              have F344 := F340.gn hg341
              clear F340
              refine ru_back hK (by exact ⟨F344.cl 8 0 rfl rfl, F344.cl 8 1 rfl rfl, F344.cl 4 0 rfl rfl, F344.cl 4 1 rfl rfl⟩) (fun hHeld => ?_)
              clear hK K
              (try simp only [Act.put, List.setIfInBounds_toArray, List.set_cons_zero, List.set_cons_succ])
              refine ru_p 14 ?_
              (try simp only [Act.put, List.setIfInBounds_toArray, List.set_cons_zero, List.set_cons_succ])
              refine ru_one 15 rfl (by kernel_rfl) (fun K hK => ?_)
              go_simp
              refine ru_back_late hK (by kernel_rfl) ?_
              clear hK K
              (try simp only [Act.put, List.setIfInBounds_toArray, List.set_cons_zero, List.set_cons_succ])
              refine ru_done (by kernel_rfl) ?_
              obtain ⟨w345, hx346, F348, hxs347⟩ := (show Bun w [rsl rowEnc 1 g8_71 (g8_71 + 1) (.slice (some ⟨g8_71, 0, none⟩) 3 3) ([(.slice ad0 d0.length cd0 : Value), .slice aw_dl dl.length cw_dl, .slice aw_dl dl.length cw_dl]), rsl mchEnc 3 g8_67 (g8_67 + 1) (.slice (some ⟨g8_67, 0, none⟩) 3 3) ([(⟨x.mild, x.hard, x.shift⟩ : Mch), ⟨zm.mild, zm.hard, zm.shift⟩, ⟨x.mild, x.hard, x.shift⟩]), rsl weaEnc 6 lw_dl hw_dl (.slice aw_dl dl.length cw_dl) dl, rseed sb, rown mchEnc 77 3 w28.heap.size (.slice (some ⟨gT274, 0, none⟩) lm.length oc1) lm, rown tskEncS 79 8 w28.heap.size (.slice oa2 lt.length oc2) lt, rafo w28.heap.size lt, rsl intEnc 1 0 w.heap.size (.slice na zs.length nc) zs, rsl intEnc 1 0 w.heap.size (.slice au ua.length cu) ua, rsl weaEnc 6 0 w.heap.size (.slice ad0 d0.length cd0) d0, rafs 0 w.heap.size t0, rsl tskEnc 8 0 w.heap.size (.slice aT0 t0.length cT0) t0, rsl mchEnc 3 0 w.heap.size (.slice aM0 m0.length cM0) m0] _ from ((F344.drop 4 rfl).drop 7 rfl)).name
              (try simp at hxs347)
              rw [hx346]
              clear hx346 F344
              go_wp2_with fail
              go_ret
              exact ⟨rfl, F348.gb⟩
          case atStart3 =>
            rw [HI282.out]
            exact ⟨0, (by first | kernel_rfl | rfl), (by first | kernel_rfl | rfl), (by first | kernel_rfl | rfl), (by first | kernel_rfl | rfl), rfl, Nat.zero_le _, rfl, (by first | exact Nat.le_refl _ | omega | (simp; done) | (simp; omega)), ((F281.drop 8 rfl).drop 8 rfl)⟩
        case first6 =>
          have F349 := F273.drew
          clear F273
          refine ru_begin (fun W => W.cell? ⟨(w.heap.size + 1), 0, none⟩ = some (.int .i64 x.mild) ∧ W.cell? ⟨(w.heap.size + 1), 1, none⟩ = some (.int .i64 x.hard) ∧ W.cell? ⟨(w.heap.size + 1), 2, none⟩ = some (.int .i64 x.shift) ∧ W.cell? ⟨w32.heap.size, 0, none⟩ = some (.slice (some ⟨gT274, 0, none⟩) lm.length oc1) ∧ W.cell? ⟨gT274, (r263.toNat) * 3, none⟩ = some (.int .i64 zm.mild) ∧ W.cell? ⟨gT274, (r263.toNat) * 3 + 1, none⟩ = some (.int .i64 zm.hard) ∧ W.cell? ⟨gT274, (r263.toNat) * 3 + 2, none⟩ = some (.int .i64 zm.shift)) 13 (by kernel_rfl) ?_ ?_
          · exact ⟨F349.cl 7 0 rfl rfl, F349.cl 7 1 rfl rfl, F349.cl 7 2 rfl rfl, F349.cl 2 0 rfl rfl, (by simpa using (Own.sl (F349.at 3 rfl : Own mchEnc 77 3 w28.heap.size _ (.slice (some ⟨gT274, 0, none⟩) lm.length oc1) lm) (fun _ => rfl)).cells hz276.out 0 _ rfl), (by simpa using (Own.sl (F349.at 3 rfl : Own mchEnc 77 3 w28.heap.size _ (.slice (some ⟨gT274, 0, none⟩) lm.length oc1) lm) (fun _ => rfl)).cells hz276.out 1 _ rfl), (by simpa using (Own.sl (F349.at 3 rfl : Own mchEnc 77 3 w28.heap.size _ (.slice (some ⟨gT274, 0, none⟩) lm.length oc1) lm) (fun _ => rfl)).cells hz276.out 2 _ rfl)⟩
          obtain ⟨wd351, hwd_⟩ : ∃ x : World, w272.drew = x := ⟨_, rfl⟩
          rw [hwd_] at F349 ⊢
          have wd351s : w272.heap.size ≤ wd351.heap.size := by rw [← hwd_]; exact Nat.le_refl _
          clear hwd_
          have hS350 := (And.intro (F349.cl 7 0 rfl rfl) (And.intro (F349.cl 7 1 rfl rfl) (And.intro (F349.cl 7 2 rfl rfl) (And.intro (F349.cl 2 0 rfl rfl) (And.intro ((by simpa using (Own.sl (F349.at 3 rfl : Own mchEnc 77 3 w28.heap.size _ (.slice (some ⟨gT274, 0, none⟩) lm.length oc1) lm) (fun _ => rfl)).cells hz276.out 0 _ rfl)) (And.intro ((by simpa using (Own.sl (F349.at 3 rfl : Own mchEnc 77 3 w28.heap.size _ (.slice (some ⟨gT274, 0, none⟩) lm.length oc1) lm) (fun _ => rfl)).cells hz276.out 1 _ rfl)) ((by simpa using (Own.sl (F349.at 3 rfl : Own mchEnc 77 3 w28.heap.size _ (.slice (some ⟨gT274, 0, none⟩) lm.length oc1) lm) (fun _ => rfl)).cells hz276.out 2 _ rfl))))))))
          refine ru_t 0 [] ?_
          refine ru_t 1 [] ?_
          refine ru_t 2 [] ?_
          refine ru_t 3 [] ?_
          refine ru_t 4 [] ?_
          refine ru_t 5 [] ?_
          refine ru_t 6 [] ?_
          refine ru_t 8 [] ?_
          refine ru_t 9 [] ?_
          refine ru_t 10 [] ?_
          (try simp only [Act.put, List.setIfInBounds_toArray, List.set_cons_zero, List.set_cons_succ])
          clear hS350
          refine ru_two 7 11 rfl rfl (by kernel_rfl) ?_ ?_
          · intro K hK
            go_simp
            have F352 := F349.new 77 #[.int .i64 x.mild, .int .i64 x.hard, .int .i64 x.shift, .int .i64 zm.mild, .int .i64 zm.hard, .int .i64 zm.shift, .int .i64 x.mild, .int .i64 x.hard, .int .i64 x.shift] (n := wd351.heap.size) (by simp)
            clear F349
            refine ru_back hK (by exact ⟨F352.cl 8 0 rfl rfl, F352.cl 8 1 rfl rfl, F352.cl 8 2 rfl rfl, F352.cl 3 0 rfl rfl, (by simpa using (Own.sl (F352.at 4 rfl : Own mchEnc 77 3 w28.heap.size _ (.slice (some ⟨gT274, 0, none⟩) lm.length oc1) lm) (fun _ => rfl)).cells hz276.out 0 _ rfl), (by simpa using (Own.sl (F352.at 4 rfl : Own mchEnc 77 3 w28.heap.size _ (.slice (some ⟨gT274, 0, none⟩) lm.length oc1) lm) (fun _ => rfl)).cells hz276.out 1 _ rfl), (by simpa using (Own.sl (F352.at 4 rfl : Own mchEnc 77 3 w28.heap.size _ (.slice (some ⟨gT274, 0, none⟩) lm.length oc1) lm) (fun _ => rfl)).cells hz276.out 2 _ rfl)⟩) (fun hHeld => ?_)
            clear hK K
            (try simp only [Act.put, List.setIfInBounds_toArray, List.set_cons_zero, List.set_cons_succ])
            refine ru_p 12 ?_
            (try simp only [Act.put, List.setIfInBounds_toArray, List.set_cons_zero, List.set_cons_succ])
            refine ru_one 11 rfl (by kernel_rfl) (fun K hK => ?_)
            go_simp
            have F353 := F352.new 26 #[.slice ad0 d0.length cd0, .slice aw_dl dl.length cw_dl, .slice aw_dl dl.length cw_dl] (n := (wd351.heap.size + 1)) (by simp)
            clear F352
            refine ru_back hK (by exact ⟨F353.cl 9 0 rfl rfl, F353.cl 9 1 rfl rfl, F353.cl 9 2 rfl rfl, F353.cl 4 0 rfl rfl, (by simpa using (Own.sl (F353.at 5 rfl : Own mchEnc 77 3 w28.heap.size _ (.slice (some ⟨gT274, 0, none⟩) lm.length oc1) lm) (fun _ => rfl)).cells hz276.out 0 _ rfl), (by simpa using (Own.sl (F353.at 5 rfl : Own mchEnc 77 3 w28.heap.size _ (.slice (some ⟨gT274, 0, none⟩) lm.length oc1) lm) (fun _ => rfl)).cells hz276.out 1 _ rfl), (by simpa using (Own.sl (F353.at 5 rfl : Own mchEnc 77 3 w28.heap.size _ (.slice (some ⟨gT274, 0, none⟩) lm.length oc1) lm) (fun _ => rfl)).cells hz276.out 2 _ rfl)⟩) (fun hHeld => ?_)
            clear hK K
            (try simp only [Act.put, List.setIfInBounds_toArray, List.set_cons_zero, List.set_cons_succ])
            refine ru_one 13 rfl (by kernel_rfl) (fun K hK => ?_)
            go_simp
            refine ru_back_late hK (by kernel_rfl) ?_
            clear hK K
            (try simp only [Act.put, List.setIfInBounds_toArray, List.set_cons_zero, List.set_cons_succ])
            refine ru_done (by kernel_rfl) ?_
            exact ⟨(by first | kernel_rfl | rfl), rfl, wd351.heap.size, wd351.heap.size + 1, (by first | kernel_rfl | rfl), (by first | kernel_rfl | rfl), (by first | kernel_rfl | rfl), (by first | kernel_rfl | rfl), (by first | omega | (simp; done) | (simp; omega)), (F353.pick [1, 0, 2, 3, 4, 5, 6, 7, 8, 9, 10, 11, 12, 13, 14, 15, 16] (by decide) rfl)⟩
          · intro K hK
            go_simp
            have F354 := F349.new 26 #[.slice ad0 d0.length cd0, .slice aw_dl dl.length cw_dl, .slice aw_dl dl.length cw_dl] (n := wd351.heap.size) (by simp)
            clear F349
            refine ru_back hK (by exact ⟨F354.cl 8 0 rfl rfl, F354.cl 8 1 rfl rfl, F354.cl 8 2 rfl rfl, F354.cl 3 0 rfl rfl, (by simpa using (Own.sl (F354.at 4 rfl : Own mchEnc 77 3 w28.heap.size _ (.slice (some ⟨gT274, 0, none⟩) lm.length oc1) lm) (fun _ => rfl)).cells hz276.out 0 _ rfl), (by simpa using (Own.sl (F354.at 4 rfl : Own mchEnc 77 3 w28.heap.size _ (.slice (some ⟨gT274, 0, none⟩) lm.length oc1) lm) (fun _ => rfl)).cells hz276.out 1 _ rfl), (by simpa using (Own.sl (F354.at 4 rfl : Own mchEnc 77 3 w28.heap.size _ (.slice (some ⟨gT274, 0, none⟩) lm.length oc1) lm) (fun _ => rfl)).cells hz276.out 2 _ rfl)⟩) (fun hHeld => ?_)
            clear hK K
            (try simp only [Act.put, List.setIfInBounds_toArray, List.set_cons_zero, List.set_cons_succ])
            refine ru_one 7 rfl (by kernel_rfl) (fun K hK => ?_)
            go_simp
            have F355 := F354.new 77 #[.int .i64 x.mild, .int .i64 x.hard, .int .i64 x.shift, .int .i64 zm.mild, .int .i64 zm.hard, .int .i64 zm.shift, .int .i64 x.mild, .int .i64 x.hard, .int .i64 x.shift] (n := (wd351.heap.size + 1)) (by simp)
            clear F354
            refine ru_back hK (by exact ⟨F355.cl 9 0 rfl rfl, F355.cl 9 1 rfl rfl, F355.cl 9 2 rfl rfl, F355.cl 4 0 rfl rfl, (by simpa using (Own.sl (F355.at 5 rfl : Own mchEnc 77 3 w28.heap.size _ (.slice (some ⟨gT274, 0, none⟩) lm.length oc1) lm) (fun _ => rfl)).cells hz276.out 0 _ rfl), (by simpa using (Own.sl (F355.at 5 rfl : Own mchEnc 77 3 w28.heap.size _ (.slice (some ⟨gT274, 0, none⟩) lm.length oc1) lm) (fun _ => rfl)).cells hz276.out 1 _ rfl), (by simpa using (Own.sl (F355.at 5 rfl : Own mchEnc 77 3 w28.heap.size _ (.slice (some ⟨gT274, 0, none⟩) lm.length oc1) lm) (fun _ => rfl)).cells hz276.out 2 _ rfl)⟩) (fun hHeld => ?_)
            clear hK K
            (try simp only [Act.put, List.setIfInBounds_toArray, List.set_cons_zero, List.set_cons_succ])
            refine ru_p 12 ?_
            (try simp only [Act.put, List.setIfInBounds_toArray, List.set_cons_zero, List.set_cons_succ])
            refine ru_one 13 rfl (by kernel_rfl) (fun K hK => ?_)
            go_simp
            refine ru_back_late hK (by kernel_rfl) ?_
            clear hK K
            (try simp only [Act.put, List.setIfInBounds_toArray, List.set_cons_zero, List.set_cons_succ])
            refine ru_done (by kernel_rfl) ?_
            exact ⟨(by first | kernel_rfl | rfl), rfl, wd351.heap.size + 1, wd351.heap.size, (by first | kernel_rfl | rfl), (by first | kernel_rfl | rfl), (by first | kernel_rfl | rfl), (by first | kernel_rfl | rfl), (by first | omega | (simp; done) | (simp; omega)), (F355.pick [0, 1, 2, 3, 4, 5, 6, 7, 8, 9, 10, 11, 12, 13, 14, 15, 16] (by decide) rfl)⟩
  · skip
    have c16H := Lib.hid c16
    go_wp2_with fail
    refine (awake_c _).mono ?_
    rintro e w358 ⟨rfl, hg356⟩
    have hg356s := hg356.size
    (try simp at hg356s)
    have F359 := F15.gn hg356
    clear F15
    clear hg356
    go_wp2_with fail
    go_ret
    exact ⟨rfl, F359.gb⟩

end Go.Proofs.Ytokelpmngahnoaa
