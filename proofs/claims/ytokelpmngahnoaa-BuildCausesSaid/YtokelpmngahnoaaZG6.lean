/- build: BuildCauses walked. -/
import Derived.Test.YtokelpmngahnoaaZL0
import Derived.Test.YtokelpmngahnoaaZE2
import Derived.Test.YtokelpmngahnoaaZG3
import Derived.Test.YtokelpmngahnoaaZG5
import Derived.Test.YtokelpmngahnoaaZJK2
import Derived.Test.YtokelpmngahnoaaZJK3
import Derived.Test.YtokelpmngahnoaaZW2
set_option linter.unusedVariables false
set_option linter.unusedSimpArgs false
set_option linter.unnecessarySimpa false
namespace Go.Proofs.Ytokelpmngahnoaa
open Go.RowKit
set_option maxRecDepth 100000
attribute [local go_sem] Oper.semAt_some
theorem af_len {i : Nat} {l : List Int} (h : l.Nodup) (hl : ∀ a ∈ l, 0 ≤ a ∧ a < (i : Int)) : l.length ≤ i := by
  have h2 := List.Nodup.length_le_of_subset (l₂ := (List.range i).map (fun (x : Nat) => (x : Int))) h (fun a ha => by
    have := hl a ha
    exact List.mem_map.2 ⟨a.toNat, by simp; omega, by omega⟩)
  simpa using h2
/-- Small enough to be copied. -/
structure JSmall (ms : List Mch) (ts : List Tsk) : Prop where
  m : ms.length ≤ 100000
  t : ts.length ≤ 100000
  a : ∀ t ∈ ts, t.af.length ≤ 100000
theorem jsmall_ok {ms : List Mch} {ts : List Tsk} (h : JobOk ms ts) : JSmall ms ts := by
  have h1 := h.nm
  have h2 := h.nt
  refine ⟨by omega, by omega, fun t ht => ?_⟩
  obtain ⟨k, hk, e⟩ := List.getElem_of_mem ht
  have h3 := h.to_ k t (by rw [List.getElem?_eq_getElem hk, e])
  have := af_len h3.nd h3.af
  omega
theorem listed_t (lo hi : Nat) (v : Value) (l : List Int) (x : Int) (w : World) (hl : Sl intEnc 1 lo hi w v l) (h2 : hi ≤ w.heap.size) (hx : hasI l x = true) : Calls Try.prog 43 #[v, .int .i64 x] w (Ret (.bool true) w) := by
  have h := listed_c lo hi v l x w hl h2
  rw [hx] at h
  exact h
theorem Bun.afY {lo hi : Nat} {l : List Tsk} {w0 A : World} {L : List Res} (i : Nat) (h : Bun w0 L A) (hi_ : L[i]? = some (rafs lo hi l)) : Afs 0 A.heap.size A l := fun t ht => by
  have hP : Afs lo hi A l := h.at i hi_
  have hb := fun g hx => (h.ltAt i hi_ g hx).1
  obtain ⟨⟨hm, a, c, hv, h2⟩, hc⟩ := hP t ht
  refine ⟨⟨hm, a, c, hv, ?_⟩, hc⟩
  rcases h2 with h2 | ⟨b, off, ha, h3, h4, h5⟩
  · exact .inl h2
  · exact .inr ⟨b, off, ha, Nat.zero_le _, hb b ⟨h3, h4⟩, h5⟩
theorem jobAt_more {base k : Nat} {w : World} {v1 v2 : Value} {lm : List Mch} {lt : List Tsk} {x : Tsk} {d : Int} (hm : Own mchEnc 77 3 base w v1 lm) (ht : Own tskEncS 79 8 base w v2 (lt.set k (moreT x d))) (ha : ∀ t ∈ lt, Own intEnc 3 1 base w t.av t.af) (hs : ∀ t ∈ lt, sliceB t.av = true) (hx : lt[k]? = some x) : JobAt 0 w.heap.size w v1 v2 lm (lt.set k (moreT x d)) :=
  jobAt_own hm ht (fun t h => by
    rcases List.mem_or_eq_of_mem_set h with h2 | rfl
    · exact ha t h2
    · exact ha x (List.mem_of_getElem? hx)) (fun t h => by
    rcases List.mem_or_eq_of_mem_set h with h2 | rfl
    · exact hs t h2
    · exact hs x (List.mem_of_getElem? hx))

set_option maxHeartbeats 64000000 in
theorem causes_walk (vn : Value) (zs : List Int) (w : World) (hn : Sl intEnc 1 0 w.heap.size w vn zs) :
    Calls Try.prog 9 #[vn] w (Ret (.bool true) w) := by
  have F1 : Bun w [] w := Bun.nil _
  obtain ⟨na, nc, rfl⟩ := hn.any
  have hm_nums := hn.len
  unfold maxLen at hm_nums
  have F2 := F1.sl0 hn (Nat.le_refl _) rfl
  clear F1
  go_enter Try.func9, Try.ntmps9
  go_wp2_with fail
  refine (newSeed_c 0 w.heap.size _ zs _ (F2.at 0 rfl : Sl intEnc 1 0 w.heap.size _ (.slice na zs.length nc) zs)).mono ?_
  rintro e w5 ⟨sb, rfl, hsb, hsbs, hg3⟩
  have hsbl := hsbs.lt
  have hg3s := hg3.size
  (try simp at hg3s)
  have F6 := F2.add (rseed sb) hg3 (hsbs) (fun g e => by cases e; exact ⟨hsb, hsbs.lt⟩)
  clear F2
  clear hg3
  go_wp2_with fail
  refine (jobOf_h sb 8 _ (F6.at 0 rfl : SeedAt _ sb) (by omega)).mono ?_
  rintro e w9 ⟨ms, ts, a1J, a2J, c1J, c2J, loJ, hiJ, rfl, ⟨hxJ, hyJ⟩, hjJ, ⟨hjeJ, hmaJ, hmbJ, htaJ⟩, hthJ, hs8, hg7⟩
  have HJEJ := Lib.hid hjeJ
  have HTHJ := Lib.hid hthJ
  clear hjeJ hthJ
  have hg7s := hg7.size
  (try simp at hg7s)
  have F10 := F6.seedAdd (rafs loJ hiJ ts) hg7 hs8 (hjJ.af) (fun g e => ⟨Nat.le_trans hxJ e.1, Nat.lt_of_lt_of_le e.2 hyJ⟩)
  clear F6
  clear hg7
  have F11 := F10.more 0 (rsl tskEnc 8 loJ hiJ (.slice a2J ts.length c2J) ts) rfl rfl rfl (fun _ h_ => h_) (Sl.gb hjJ.t (gb_refl _ none) (fun _ e => by cases e))
  clear F10
  have hm_tsJ := (F11.at 0 rfl : Sl tskEnc 8 loJ hiJ _ (.slice a2J ts.length c2J) ts).len
  unfold maxLen at hm_tsJ
  have F12 := F11.more 1 (rsl mchEnc 3 loJ hiJ (.slice a1J ms.length c1J) ms) rfl rfl rfl (fun _ h_ => h_) (Sl.gb hjJ.m (gb_refl _ none) (fun _ e => by cases e))
  clear F11
  have hm_msJ := (F12.at 0 rfl : Sl mchEnc 3 loJ hiJ _ (.slice a1J ms.length c1J) ms).len
  unfold maxLen at hm_msJ
  go_wp2_with fail
  refine (weekOf_c sb 6 _ ((F12.front 3 rfl rfl).at 0 rfl : SeedAt _ sb) (by omega)).mono ?_
  rintro e w15 ⟨dl, aw_dl, cw_dl, lw_dl, hw_dl, rfl, ⟨hwx_dl, hwy_dl⟩, hwz_dl, ⟨hwl_dl, hwe_dl⟩, hs14, hg13⟩
  have HWE_dl := Lib.hid hwe_dl
  clear hwe_dl
  have hg13s := hg13.size
  (try simp at hg13s)
  have F16 := (F12.front 3 rfl rfl).seedAdd (rsl weaEnc 6 lw_dl hw_dl (.slice aw_dl dl.length cw_dl) dl) hg13 hs14 (hwz_dl) (fun g e => ⟨Nat.le_trans hwx_dl e.1, Nat.lt_of_lt_of_le e.2 hwy_dl⟩)
  clear F12
  clear hg13
  have HBE1 := Lib.hid (bothErr_of HJEJ.out HWE_dl.out (by omega))
  have HOK := Lib.hid (bothOk HBE1.out)
  have hnt := HOK.out.1.nt
  have hnd := HOK.out.2
  have HCO : Hid (CsOk (caseOf true ms ts dl)) := Lib.hid (caseOk HOK.out.1 HOK.out.2)
  go_wp2_with fail
  have F17 := F16.new 25 #[.slice a1J ms.length c1J, .slice a2J ts.length c2J] (n := w15.heap.size) (by simp)
  clear F16
  refine (btimes_ok loJ hiJ _ _ ms ts lw_dl hw_dl _ dl _ (JobAt.mk (F17.at 3 rfl : Sl mchEnc 3 loJ hiJ _ (.slice a1J ms.length c1J) ms) (F17.at 4 rfl : Sl tskEnc 8 loJ hiJ _ (.slice a2J ts.length c2J) ts) (F17.at 5 rfl : Afs loJ hiJ _ ts)) (by first | omega | (simp; omega)) (F17.at 1 rfl : Sl weaEnc 6 lw_dl hw_dl _ (.slice aw_dl dl.length cw_dl) dl) (by first | omega | (simp; omega)) HBE1.out _ _ rfl rfl).mono ?_
  rintro e w20 ⟨at_t1, ct_t1, lt_t1, ht_t1, rfl, ⟨htx_t1, hty_t1⟩, htz_t1, hg18⟩
  have hg18s := hg18.size
  (try simp at hg18s)
  have F21 := F17.add (rsl timEnc 4 lt_t1 ht_t1 (.slice at_t1 ts.length ct_t1) (timN (caseOf false ms ts dl) (caseOf true ms ts dl) ts.length ts.length)) hg18 (htz_t1) (fun g e => ⟨Nat.le_trans htx_t1 e.1, Nat.lt_of_lt_of_le e.2 hty_t1⟩)
  clear F17
  clear hg18
  have b22 := F21.bx2 1 rfl
  go_wp2_with fail
  clear b22
  have F23 := F21.new 39 #[.int .i64 ((caseOf false ms ts dl).opn ts.length), .int .i64 ((caseOf true ms ts dl).opn ts.length)] (n := w20.heap.size) (by simp)
  clear F21
  refine (bchain_c 0 _ _ _ ms ts 0 _ _ dl _ (JobAt.mk (F23.slY 5 rfl) (F23.slY 6 rfl) (F23.afY 7 rfl)) (Nat.le_refl _) (F23.slY 3 rfl) (Nat.le_refl _)).mono ?_
  rintro e w26 ⟨ac_, cc_, lc_, hc_, rfl, ⟨hcx_, hcy_⟩, hcz_, hg24⟩
  have hg24s := hg24.size
  (try simp at hg24s)
  have F27 := F23.add (rsl intEnc 1 lc_ hc_ (.slice ac_ (chnC ms ts dl).length cc_) (ints (chnC ms ts dl))) hg24 (hcz_) (fun g e => ⟨Nat.le_trans hcx_ e.1, Nat.lt_of_lt_of_le e.2 hcy_⟩)
  clear F23
  clear hg24
  by_cases c28 : chnE ms ts dl = 0
  · skip
    have c28a : ((chnE ms ts dl) == 0) = true := beq_t c28
    have c28b : ((chnE ms ts dl) != 0) = false := bne_f c28
    have c28H := Lib.hid c28
    clear c28
    obtain ⟨C, hC_⟩ : ∃ C_, C_ = chnC ms ts dl := ⟨_, rfl⟩
    have HCK : Hid (ChOk ms ts dl (caseOf true ms ts dl) C) := Lib.hid (hC_ ▸ chOk_of HBE1.out c28H.out)
    rw [← hC_] at F27 ⊢
    clear hC_
    have hcp := HCK.out.pos
    have hop_ := HCK.out.lt _ _ HCK.out.last
    have hcl := (F27.at 0 rfl : Sl intEnc 1 lc_ hc_ _ (.slice ac_ C.length cc_) (ints C)).len
    rw [ints_len] at hcl
    unfold maxLen at hcl
    have kn29 : ¬ ((C.length : Int) = 0) := (by omega)
    have kn29H := Lib.hid kn29
    have kn29a : ((C.length : Int) == 0) = false := beq_f kn29
    have kn29b : ((C.length : Int) != 0) = true := bne_t kn29
    clear kn29
    have b30 := F27.bx2 3 rfl
    go_wp2_with fail
    clear b30
    obtain ⟨HI31_, HI310⟩ : ∃ I : (Nat → Value) → List Deferred → World → Prop, I = (fun t ds wr => ∃ (k : Nat), t 3 = .pointer (some ⟨sb, 0, none⟩) ∧ t 4 = .pointer (some ⟨w15.heap.size, 0, none⟩) ∧ t 5 = .slice aw_dl dl.length cw_dl ∧ t 6 = .slice at_t1 ts.length ct_t1 ∧ t 7 = .pointer (some ⟨w20.heap.size, 0, none⟩) ∧ t 9 = .slice ac_ C.length cc_ ∧ t 11 = .int .i64 (k : Int) ∧ k ≤ C.length ∧ ds = [] ∧ w26.heap.size ≤ wr.heap.size ∧ Bun w [rsl intEnc 1 lc_ hc_ (.slice ac_ C.length cc_) (ints C), rbox w20.heap.size 39 #[.int .i64 ((caseOf false ms ts dl).opn ts.length), .int .i64 ((caseOf true ms ts dl).opn ts.length)], rsl timEnc 4 lt_t1 ht_t1 (.slice at_t1 ts.length ct_t1) (timN (caseOf false ms ts dl) (caseOf true ms ts dl) ts.length ts.length), rbox w15.heap.size 25 #[.slice a1J ms.length c1J, .slice a2J ts.length c2J], rsl weaEnc 6 lw_dl hw_dl (.slice aw_dl dl.length cw_dl) dl, rseed sb, rsl mchEnc 3 loJ hiJ (.slice a1J ms.length c1J) ms, rsl tskEnc 8 loJ hiJ (.slice a2J ts.length c2J) ts, rafs loJ hiJ ts, rsl intEnc 1 0 w.heap.size (.slice na zs.length nc) zs] wr) := ⟨_, rfl⟩
    have HI31 := Lib.hid HI310
    clear HI310
    refine wp_loopS 262 rfl HI31_ (fun t wr => C.length - (intOf (t 11)).toNat) ?atStart1 ?round1
    case round1 =>
      intro t ds wr hHid
      rw [HI31.out] at hHid
      obtain ⟨k, e3, e4, e5, e6, e7, e9, e11, hrel⟩ := hHid
      have e : ((List.range 262).map t).toArray = #[t 0, t 1, t 2, t 3, t 4, t 5, t 6, t 7, t 8, t 9, t 10, t 11, t 12, t 13, t 14, t 15, t 16, t 17, t 18, t 19, t 20, t 21, t 22, t 23, t 24, t 25, t 26, t 27, t 28, t 29, t 30, t 31, t 32, t 33, t 34, t 35, t 36, t 37, t 38, t 39, t 40, t 41, t 42, t 43, t 44, t 45, t 46, t 47, t 48, t 49, t 50, t 51, t 52, t 53, t 54, t 55, t 56, t 57, t 58, t 59, t 60, t 61, t 62, t 63, t 64, t 65, t 66, t 67, t 68, t 69, t 70, t 71, t 72, t 73, t 74, t 75, t 76, t 77, t 78, t 79, t 80, t 81, t 82, t 83, t 84, t 85, t 86, t 87, t 88, t 89, t 90, t 91, t 92, t 93, t 94, t 95, t 96, t 97, t 98, t 99, t 100, t 101, t 102, t 103, t 104, t 105, t 106, t 107, t 108, t 109, t 110, t 111, t 112, t 113, t 114, t 115, t 116, t 117, t 118, t 119, t 120, t 121, t 122, t 123, t 124, t 125, t 126, t 127, t 128, t 129, t 130, t 131, t 132, t 133, t 134, t 135, t 136, t 137, t 138, t 139, t 140, t 141, t 142, t 143, t 144, t 145, t 146, t 147, t 148, t 149, t 150, t 151, t 152, t 153, t 154, t 155, t 156, t 157, t 158, t 159, t 160, t 161, t 162, t 163, t 164, t 165, t 166, t 167, t 168, t 169, t 170, t 171, t 172, t 173, t 174, t 175, t 176, t 177, t 178, t 179, t 180, t 181, t 182, t 183, t 184, t 185, t 186, t 187, t 188, t 189, t 190, t 191, t 192, t 193, t 194, t 195, t 196, t 197, t 198, t 199, t 200, t 201, t 202, t 203, t 204, t 205, t 206, t 207, t 208, t 209, t 210, t 211, t 212, t 213, t 214, t 215, t 216, t 217, t 218, t 219, t 220, t 221, t 222, t 223, t 224, t 225, t 226, t 227, t 228, t 229, t 230, t 231, t 232, t 233, t 234, t 235, t 236, t 237, t 238, t 239, t 240, t 241, t 242, t 243, t 244, t 245, t 246, t 247, t 248, t 249, t 250, t 251, t 252, t 253, t 254, t 255, t 256, t 257, t 258, t 259, t 260, t 261] := rfl
      (try dsimp only at e)
      rw [e3, e4, e5, e6, e7, e9, e11] at e
      rw [e]
      simp only [e11]
      clear e e3 e4 e5 e6 e7 e9 e11
      obtain ⟨hk, rfl, hs33, hF32⟩ := hrel
      clear F27
      obtain ⟨w34, rfl⟩ : ∃ x_ : World, x_ = wr := ⟨_, rfl⟩
      by_cases c35 : (k : Int) < (C.length : Int)
      · skip
        have c35H := Lib.hid c35
        obtain ⟨x36, o37, e_⟩ := Sl.addr (hF32.at 0 rfl : Sl intEnc 1 lc_ hc_ _ (.slice ac_ C.length cc_) (ints C)) (by rw [ints_len]; omega)
        subst e_
        obtain ⟨x38, o39, e_⟩ := Sl.addr (hF32.at 2 rfl : Sl timEnc 4 lt_t1 ht_t1 _ (.slice at_t1 ts.length ct_t1) (timN (caseOf false ms ts dl) (caseOf true ms ts dl) ts.length ts.length)) (by rw [timN_len]; omega)
        subst e_
        obtain ⟨x40, o41, e_⟩ := Sl.addr (hF32.at 7 rfl : Sl tskEnc 8 loJ hiJ _ (.slice a2J ts.length c2J) ts) (by omega)
        subst e_
        obtain ⟨y, hy_⟩ : ∃ y_, C[k]? = some y_ := ⟨_, List.getElem?_eq_getElem (by omega)⟩
        have HY := Lib.hid hy_
        clear hy_
        have hyt := HCK.out.lt k y HY.out
        have hz42 : Hid ((ints C)[k]? = some ((y : Nat) : Int)) := Lib.hid (ints_get HY.out)
        have kn43 : ¬ ((y : Int) < 0) := (by omega)
        have kn43H := Lib.hid kn43
        have kn43a : decide ((y : Int) < 0) = false := dec_f kn43
        have kn44 : ¬ ((ts.length : Int) ≤ (y : Int)) := (by omega)
        have kn44H := Lib.hid kn44
        have kn44a : decide ((ts.length : Int) ≤ (y : Int)) = false := dec_f kn44
        obtain ⟨z, hz45_⟩ : ∃ z_, ts[y]? = some z_ := ⟨_, List.getElem?_eq_getElem (by omega)⟩
        have hz45 := Lib.hid hz45_
        clear hz45_
        obtain ⟨a_z, c_z, hav_z, hcap_z, hsl_z⟩ := Afs.open (hF32.at 8 rfl : Afs loJ hiJ _ ts) hz45.out
        have HAV_z := Lib.hid hav_z
        clear hav_z
        have F46 := hF32.more 8 (rsl intEnc 1 loJ hiJ (.slice a_z z.af.length c_z) z.af) rfl rfl rfl (fun _ h_ => h_) hsl_z
        clear hF32
        have hm_z := (F46.at 0 rfl : Sl intEnc 1 loJ hiJ _ (.slice a_z z.af.length c_z) z.af).len
        unfold maxLen at hm_z
        have hz47 : Hid ((timN (caseOf false ms ts dl) (caseOf true ms ts dl) ts.length ts.length)[y]? = some (timAt (caseOf false ms ts dl) (caseOf true ms ts dl) ts.length y)) := Lib.hid (timN_get (by omega))
        have HZF : Hid (z.fr.hi = (caseOf true ms ts dl).fr y ∧ z.m = (caseOf true ms ts dl).m y ∧ z.af = (caseOf true ms ts dl).af y) := Lib.hid (by have h_ := casew (c := (caseOf true ms ts dl)) (Lib.hid rfl) hz45.out; exact ⟨h_.2.2.2.1, h_.1, h_.2.2.2.2⟩)
        have hyi : (y : Int) < (ts.length : Int) := by omega
        have ge48 : World.cell? _ ⟨x36, o37 + k, none⟩ = some (.int .i64 (y : Int)) := (by have h_ := ((F46.at 1 rfl : Sl intEnc 1 lc_ hc_ _ (.slice (some ⟨x36, o37, none⟩) C.length cc_) (ints C))).cells hz42.out 0 _ rfl; simpa using h_)
        have gl49 := cell_lt ge48
        go_wp2_with fail
        clear ge48 gl49
        have F50 := F46.drew
        clear F46
        refine ru_begin (fun W => W.cell? ⟨w15.heap.size, 1, none⟩ = some (.slice (some ⟨x40, o41, none⟩) ts.length c2J) ∧ W.cell? ⟨x36, o37 + k, none⟩ = some (.int .i64 (y : Int)) ∧ W.cell? ⟨x40, o41 + y * 8, none⟩ = some (.int .i64 z.m) ∧ W.cell? ⟨x40, o41 + y * 8 + 1, none⟩ = some (.int .i64 z.ho.lo) ∧ W.cell? ⟨x40, o41 + y * 8 + 2, none⟩ = some (.int .i64 z.ho.hi) ∧ W.cell? ⟨x40, o41 + y * 8 + 3, none⟩ = some (.int .i64 z.wa.lo) ∧ W.cell? ⟨x40, o41 + y * 8 + 4, none⟩ = some (.int .i64 z.wa.hi) ∧ W.cell? ⟨x40, o41 + y * 8 + 5, none⟩ = some (.int .i64 z.fr.lo) ∧ W.cell? ⟨x40, o41 + y * 8 + 6, none⟩ = some (.int .i64 z.fr.hi) ∧ W.cell? ⟨x40, o41 + y * 8 + 7, none⟩ = some (.slice a_z z.af.length c_z)) 9 (by kernel_rfl) ?_ ?_
        · exact ⟨F50.cl 4 1 rfl rfl, (by have h_ := ((F50.at 1 rfl : Sl intEnc 1 lc_ hc_ _ (.slice (some ⟨x36, o37, none⟩) C.length cc_) (ints C))).cells hz42.out 0 _ rfl; simpa using h_), (((F50.at 8 rfl : Sl tskEnc 8 loJ hiJ _ (.slice (some ⟨x40, o41, none⟩) ts.length c2J) ts)).cells hz45.out 0 _ rfl), (((F50.at 8 rfl : Sl tskEnc 8 loJ hiJ _ (.slice (some ⟨x40, o41, none⟩) ts.length c2J) ts)).cells hz45.out 1 _ rfl), (((F50.at 8 rfl : Sl tskEnc 8 loJ hiJ _ (.slice (some ⟨x40, o41, none⟩) ts.length c2J) ts)).cells hz45.out 2 _ rfl), (((F50.at 8 rfl : Sl tskEnc 8 loJ hiJ _ (.slice (some ⟨x40, o41, none⟩) ts.length c2J) ts)).cells hz45.out 3 _ rfl), (((F50.at 8 rfl : Sl tskEnc 8 loJ hiJ _ (.slice (some ⟨x40, o41, none⟩) ts.length c2J) ts)).cells hz45.out 4 _ rfl), (((F50.at 8 rfl : Sl tskEnc 8 loJ hiJ _ (.slice (some ⟨x40, o41, none⟩) ts.length c2J) ts)).cells hz45.out 5 _ rfl), (((F50.at 8 rfl : Sl tskEnc 8 loJ hiJ _ (.slice (some ⟨x40, o41, none⟩) ts.length c2J) ts)).cells hz45.out 6 _ rfl), (HAV_z.out ▸ (((F50.at 8 rfl : Sl tskEnc 8 loJ hiJ _ (.slice (some ⟨x40, o41, none⟩) ts.length c2J) ts)).cells hz45.out 7 _ rfl))⟩
        obtain ⟨wd52, hwd_⟩ : ∃ x : World, w34.drew = x := ⟨_, rfl⟩
        rw [hwd_] at F50 ⊢
        have wd52s : w34.heap.size ≤ wd52.heap.size := by rw [← hwd_]; exact Nat.le_refl _
        clear hwd_
        have hS51 := (And.intro (F50.cl 4 1 rfl rfl) (And.intro ((by have h_ := ((F50.at 1 rfl : Sl intEnc 1 lc_ hc_ _ (.slice (some ⟨x36, o37, none⟩) C.length cc_) (ints C))).cells hz42.out 0 _ rfl; simpa using h_)) (And.intro ((((F50.at 8 rfl : Sl tskEnc 8 loJ hiJ _ (.slice (some ⟨x40, o41, none⟩) ts.length c2J) ts)).cells hz45.out 0 _ rfl)) (And.intro ((((F50.at 8 rfl : Sl tskEnc 8 loJ hiJ _ (.slice (some ⟨x40, o41, none⟩) ts.length c2J) ts)).cells hz45.out 1 _ rfl)) (And.intro ((((F50.at 8 rfl : Sl tskEnc 8 loJ hiJ _ (.slice (some ⟨x40, o41, none⟩) ts.length c2J) ts)).cells hz45.out 2 _ rfl)) (And.intro ((((F50.at 8 rfl : Sl tskEnc 8 loJ hiJ _ (.slice (some ⟨x40, o41, none⟩) ts.length c2J) ts)).cells hz45.out 3 _ rfl)) (And.intro ((((F50.at 8 rfl : Sl tskEnc 8 loJ hiJ _ (.slice (some ⟨x40, o41, none⟩) ts.length c2J) ts)).cells hz45.out 4 _ rfl)) (And.intro ((((F50.at 8 rfl : Sl tskEnc 8 loJ hiJ _ (.slice (some ⟨x40, o41, none⟩) ts.length c2J) ts)).cells hz45.out 5 _ rfl)) (And.intro ((((F50.at 8 rfl : Sl tskEnc 8 loJ hiJ _ (.slice (some ⟨x40, o41, none⟩) ts.length c2J) ts)).cells hz45.out 6 _ rfl)) ((HAV_z.out ▸ (((F50.at 8 rfl : Sl tskEnc 8 loJ hiJ _ (.slice (some ⟨x40, o41, none⟩) ts.length c2J) ts)).cells hz45.out 7 _ rfl))))))))))))
        refine ru_t 0 [] ?_
        refine ru_t 1 [] ?_
        refine ru_t 2 [] ?_
        refine ru_t 3 [] ?_
        refine ru_t 4 [] ?_
        refine ru_t 5 [] ?_
        refine ru_t 6 [] ?_
        refine ru_t 7 [] ?_
        (try simp only [Act.put, List.setIfInBounds_toArray, List.set_cons_zero, List.set_cons_succ])
        clear hS51
        refine ru_one 8 rfl (by kernel_rfl) (fun K hK => ?_)
        go_simp
        have F53 := F50.new 79 #[.int .i64 0, .int .i64 0, .int .i64 0, .int .i64 0, .int .i64 0, .int .i64 0, .int .i64 0, .slice none 0 0] (n := wd52.heap.size) (by simp)
        clear F50
        refine ru_back hK (by exact ⟨F53.cl 5 1 rfl rfl, (by have h_ := ((F53.at 2 rfl : Sl intEnc 1 lc_ hc_ _ (.slice (some ⟨x36, o37, none⟩) C.length cc_) (ints C))).cells hz42.out 0 _ rfl; simpa using h_), (((F53.at 9 rfl : Sl tskEnc 8 loJ hiJ _ (.slice (some ⟨x40, o41, none⟩) ts.length c2J) ts)).cells hz45.out 0 _ rfl), (((F53.at 9 rfl : Sl tskEnc 8 loJ hiJ _ (.slice (some ⟨x40, o41, none⟩) ts.length c2J) ts)).cells hz45.out 1 _ rfl), (((F53.at 9 rfl : Sl tskEnc 8 loJ hiJ _ (.slice (some ⟨x40, o41, none⟩) ts.length c2J) ts)).cells hz45.out 2 _ rfl), (((F53.at 9 rfl : Sl tskEnc 8 loJ hiJ _ (.slice (some ⟨x40, o41, none⟩) ts.length c2J) ts)).cells hz45.out 3 _ rfl), (((F53.at 9 rfl : Sl tskEnc 8 loJ hiJ _ (.slice (some ⟨x40, o41, none⟩) ts.length c2J) ts)).cells hz45.out 4 _ rfl), (((F53.at 9 rfl : Sl tskEnc 8 loJ hiJ _ (.slice (some ⟨x40, o41, none⟩) ts.length c2J) ts)).cells hz45.out 5 _ rfl), (((F53.at 9 rfl : Sl tskEnc 8 loJ hiJ _ (.slice (some ⟨x40, o41, none⟩) ts.length c2J) ts)).cells hz45.out 6 _ rfl), (HAV_z.out ▸ (((F53.at 9 rfl : Sl tskEnc 8 loJ hiJ _ (.slice (some ⟨x40, o41, none⟩) ts.length c2J) ts)).cells hz45.out 7 _ rfl))⟩) (fun hHeld => ?_)
        clear hK K
        (try simp only [Act.put, List.setIfInBounds_toArray, List.set_cons_zero, List.set_cons_succ])
        refine ru_one 9 rfl (by kernel_rfl) (fun K hK => ?_)
        obtain ⟨w54, hx55, F57, hxs56⟩ := (show Bun w [rbox wd52.heap.size 79 #[.int .i64 0, .int .i64 0, .int .i64 0, .int .i64 0, .int .i64 0, .int .i64 0, .int .i64 0, .slice none 0 0], rsl intEnc 1 loJ hiJ (.slice a_z z.af.length c_z) z.af, rsl intEnc 1 lc_ hc_ (.slice (some ⟨x36, o37, none⟩) C.length cc_) (ints C), rbox w20.heap.size 39 #[.int .i64 ((caseOf false ms ts dl).opn ts.length), .int .i64 ((caseOf true ms ts dl).opn ts.length)], rsl timEnc 4 lt_t1 ht_t1 (.slice (some ⟨x38, o39, none⟩) ts.length ct_t1) (timN (caseOf false ms ts dl) (caseOf true ms ts dl) ts.length ts.length), rbox w15.heap.size 25 #[.slice a1J ms.length c1J, .slice (some ⟨x40, o41, none⟩) ts.length c2J], rsl weaEnc 6 lw_dl hw_dl (.slice aw_dl dl.length cw_dl) dl, rseed sb, rsl mchEnc 3 loJ hiJ (.slice a1J ms.length c1J) ms, rsl tskEnc 8 loJ hiJ (.slice (some ⟨x40, o41, none⟩) ts.length c2J) ts, rafs loJ hiJ ts, rsl intEnc 1 0 w.heap.size (.slice na zs.length nc) zs] _ from F53).name
        (try simp at hxs56)
        rw [hx55]
        clear hx55 F53
        have kb_ := F57.bx8 0 rfl
        go_simp
        clear kb_
        have F58 := F57.pt8 (.int .i64 z.m) (.int .i64 z.ho.lo) (.int .i64 z.ho.hi) (.int .i64 z.wa.lo) (.int .i64 z.wa.hi) (.int .i64 z.fr.lo) (.int .i64 z.fr.hi) (.slice a_z z.af.length c_z)
        clear F57
        refine ru_back_late hK (by kernel_rfl) ?_
        clear hK K
        (try simp only [Act.put, List.setIfInBounds_toArray, List.set_cons_zero, List.set_cons_succ])
        refine ru_done (by kernel_rfl) ?_
        obtain ⟨w59, hx60, F62, hxs61⟩ := (show Bun w [rbox wd52.heap.size 79 #[.int .i64 z.m, .int .i64 z.ho.lo, .int .i64 z.ho.hi, .int .i64 z.wa.lo, .int .i64 z.wa.hi, .int .i64 z.fr.lo, .int .i64 z.fr.hi, .slice a_z z.af.length c_z], rsl intEnc 1 loJ hiJ (.slice a_z z.af.length c_z) z.af, rsl intEnc 1 lc_ hc_ (.slice (some ⟨x36, o37, none⟩) C.length cc_) (ints C), rbox w20.heap.size 39 #[.int .i64 ((caseOf false ms ts dl).opn ts.length), .int .i64 ((caseOf true ms ts dl).opn ts.length)], rsl timEnc 4 lt_t1 ht_t1 (.slice (some ⟨x38, o39, none⟩) ts.length ct_t1) (timN (caseOf false ms ts dl) (caseOf true ms ts dl) ts.length ts.length), rbox w15.heap.size 25 #[.slice a1J ms.length c1J, .slice (some ⟨x40, o41, none⟩) ts.length c2J], rsl weaEnc 6 lw_dl hw_dl (.slice aw_dl dl.length cw_dl) dl, rseed sb, rsl mchEnc 3 loJ hiJ (.slice a1J ms.length c1J) ms, rsl tskEnc 8 loJ hiJ (.slice (some ⟨x40, o41, none⟩) ts.length c2J) ts, rafs loJ hiJ ts, rsl intEnc 1 0 w.heap.size (.slice na zs.length nc) zs] _ from F58).name
        (try simp at hxs61)
        rw [hx60]
        clear hx60 F58
        by_cases c63 : (k : Int) = 0
        · skip
          have c63a : ((k : Int) == 0) = true := beq_t c63
          have c63b : ((k : Int) != 0) = false := bne_f c63
          have c63H := Lib.hid c63
          clear c63
          have hz64 : Hid ((ints C)[0]? = some ((y : Nat) : Int)) := Lib.hid (ints_get (by have h_ := HY.out; rwa [show k = 0 by have h2_ := c63H.out; omega] at h_))
          have kn65 : bgAt ((caseOf true ms ts dl).plan ts.length) y = z.fr.hi := (by rw [HZF.out.1]; exact HCK.out.head y (by have h_ := HY.out; rwa [show k = 0 by have h2_ := c63H.out; omega] at h_))
          have kn65H := Lib.hid kn65
          have kn65a : ((bgAt ((caseOf true ms ts dl).plan ts.length) y) == z.fr.hi) = true := beq_t kn65
          have kn65b : ((bgAt ((caseOf true ms ts dl).plan ts.length) y) != z.fr.hi) = false := bne_f kn65
          clear kn65
          go_wp2_with fail
          have b66 := F62.bx8 0 rfl
          have ge67 : World.cell? _ ⟨x36, o37, none⟩ = some (.int .i64 (y : Int)) := (by have h_ := ((F62.at 2 rfl : Sl intEnc 1 lc_ hc_ _ (.slice (some ⟨x36, o37, none⟩) C.length cc_) (ints C))).cells hz64.out 0 _ rfl; simpa [Nat.add_assoc] using h_)
          have ge68 : World.cell? _ ⟨x38, o39 + y * 4 + 1, none⟩ = some (.int .i64 (bgAt ((caseOf true ms ts dl).plan ts.length) y)) := (((F62.at 4 rfl : Sl timEnc 4 lt_t1 ht_t1 _ (.slice (some ⟨x38, o39, none⟩) ts.length ct_t1) (timN (caseOf false ms ts dl) (caseOf true ms ts dl) ts.length ts.length))).cells hz47.out 1 _ rfl)
          go_quiet (fail)
          clear b66 ge67 ge68
          have F69 := F62.drewN nq
          clear F62
          obtain ⟨w70, hx71, F73, hxs72⟩ := (show Bun w [rsl intEnc 1 loJ hiJ (.slice a_z z.af.length c_z) z.af, rsl intEnc 1 lc_ hc_ (.slice (some ⟨x36, o37, none⟩) C.length cc_) (ints C), rbox w20.heap.size 39 #[.int .i64 ((caseOf false ms ts dl).opn ts.length), .int .i64 ((caseOf true ms ts dl).opn ts.length)], rsl timEnc 4 lt_t1 ht_t1 (.slice (some ⟨x38, o39, none⟩) ts.length ct_t1) (timN (caseOf false ms ts dl) (caseOf true ms ts dl) ts.length ts.length), rbox w15.heap.size 25 #[.slice a1J ms.length c1J, .slice (some ⟨x40, o41, none⟩) ts.length c2J], rsl weaEnc 6 lw_dl hw_dl (.slice aw_dl dl.length cw_dl) dl, rseed sb, rsl mchEnc 3 loJ hiJ (.slice a1J ms.length c1J) ms, rsl tskEnc 8 loJ hiJ (.slice (some ⟨x40, o41, none⟩) ts.length c2J) ts, rafs loJ hiJ ts, rsl intEnc 1 0 w.heap.size (.slice na zs.length nc) zs] _ from (F69.drop 0 rfl)).name
          (try simp at hxs72)
          rw [hx71]
          clear hx71 F69
          go_wp2_with fail
          have F74 : Bun w [rsl intEnc 1 lc_ hc_ (.slice (some ⟨x36, o37, none⟩) C.length cc_) (ints C), rbox w20.heap.size 39 #[.int .i64 ((caseOf false ms ts dl).opn ts.length), .int .i64 ((caseOf true ms ts dl).opn ts.length)], rsl timEnc 4 lt_t1 ht_t1 (.slice (some ⟨x38, o39, none⟩) ts.length ct_t1) (timN (caseOf false ms ts dl) (caseOf true ms ts dl) ts.length ts.length), rbox w15.heap.size 25 #[.slice a1J ms.length c1J, .slice (some ⟨x40, o41, none⟩) ts.length c2J], rsl weaEnc 6 lw_dl hw_dl (.slice aw_dl dl.length cw_dl) dl, rseed sb, rsl mchEnc 3 loJ hiJ (.slice a1J ms.length c1J) ms, rsl tskEnc 8 loJ hiJ (.slice (some ⟨x40, o41, none⟩) ts.length c2J) ts, rafs loJ hiJ ts, rsl intEnc 1 0 w.heap.size (.slice na zs.length nc) zs] _ := F73.pick [1, 2, 3, 4, 5, 6, 7, 8, 9, 10] (by decide) rfl
          clear F73
          (first | refine ⟨by kernel_rfl, ?_, ?_⟩ | refine ⟨rfl, ?_, ?_⟩ | refine ⟨?_, ?_⟩)
          · rw [HI31.out]; exact ⟨k + 1, (by first | kernel_rfl | rfl), (by first | kernel_rfl | rfl), (by first | kernel_rfl | rfl), (by first | kernel_rfl | rfl), (by first | kernel_rfl | rfl), (by first | kernel_rfl | rfl), (by show Value.int .i64 ((k : Int) + 1) = _; simp), (by omega), (by first | rfl | simp), (by first | omega | (simp; done) | (simp; omega)), F74⟩
          · simp [slot, intOf]; omega
        · skip
          have c63a : ((k : Int) == 0) = false := beq_f c63
          have c63b : ((k : Int) != 0) = true := bne_t c63
          have c63H := Lib.hid c63
          clear c63
          have hk1 : (1 : Int) ≤ (k : Int) := by have h_ := c63H.out; omega
          have hk2 : (0 : Int) ≤ (k : Int) - 1 := by omega
          have hk3 : (k : Int) - 1 < (C.length : Int) := by omega
          have hk4 : ((k : Int) - 1).toNat = k - 1 := by omega
          have hk5 : IntKind.i64.wrap ((k : Int) - 1) = (k : Int) - 1 := IntWalk.i64_in _ (by omega)
          obtain ⟨x, hx_⟩ : ∃ x_, C[k - 1]? = some x_ := ⟨_, List.getElem?_eq_getElem (by omega)⟩
          have HX := Lib.hid hx_
          have HXY := Lib.hid (HCK.out.adj (k - 1) x y hx_ (by rw [show k - 1 + 1 = k by omega]; exact HY.out))
          clear hx_
          have hxy := HXY.out.1
          have hz75 : Hid ((ints C)[k - 1]? = some ((x : Nat) : Int)) := Lib.hid (ints_get HX.out)
          obtain ⟨u, hz76_⟩ : ∃ z_, ts[x]? = some z_ := ⟨_, List.getElem?_eq_getElem (by omega)⟩
          have hz76 := Lib.hid hz76_
          clear hz76_
          obtain ⟨a_u, c_u, hav_u, hcap_u, hsl_u⟩ := Afs.open (F62.at 10 rfl : Afs loJ hiJ _ ts) hz76.out
          have HAV_u := Lib.hid hav_u
          clear hav_u
          have F77 := F62.more 10 (rsl intEnc 1 loJ hiJ (.slice a_u u.af.length c_u) u.af) rfl rfl rfl (fun _ h_ => h_) hsl_u
          clear F62
          have hm_u := (F77.at 0 rfl : Sl intEnc 1 loJ hiJ _ (.slice a_u u.af.length c_u) u.af).len
          unfold maxLen at hm_u
          have hz78 : Hid ((timN (caseOf false ms ts dl) (caseOf true ms ts dl) ts.length ts.length)[x]? = some (timAt (caseOf false ms ts dl) (caseOf true ms ts dl) ts.length x)) := Lib.hid (timN_get (by omega))
          have HUF : Hid (u.wa.hi = (caseOf true ms ts dl).wa x ∧ u.m = (caseOf true ms ts dl).m x) := Lib.hid (by have h_ := casew (c := (caseOf true ms ts dl)) (Lib.hid rfl) hz76.out; exact ⟨h_.2.2.1, h_.1⟩)
          have hxi : (x : Int) < (ts.length : Int) := by omega
          have hexb := (caseOf true ms ts dl).en_bd (fun i => (HCO.out.fr i).1) (n := ts.length) (k := x) (by omega)
          rw [show (caseOf true ms ts dl).past = 24 * (dl.length : Int) + 1 from rfl] at hexb
          have hwxb : 0 ≤ u.wa.hi ∧ u.wa.hi ≤ 4000 := by rw [HUF.out.1]; exact HCO.out.wa x
          have kn79 : ¬ ((y : Int) ≤ (x : Int)) := (by omega)
          have kn79H := Lib.hid kn79
          have kn79a : decide ((y : Int) ≤ (x : Int)) = false := dec_f kn79
          have knN_ : ∀ (h : Decidable (y ≤ x)), @decide (y ≤ x) h = false := fun _ => decide_eq_false (by omega)
          rcases cz_or HXY.out.2 with ⟨hA_, hB_⟩ | ⟨hA_, hB_⟩
          · skip
            have hh_ : hasI z.af (x : Int) = true := by rw [HZF.out.2.2]; exact hA_
            have kn80 : enAt ((caseOf true ms ts dl).plan ts.length) x + u.wa.hi = bgAt ((caseOf true ms ts dl).plan ts.length) y := (by rw [HUF.out.1]; exact hB_)
            have kn80H := Lib.hid kn80
            have kn80a : ((enAt ((caseOf true ms ts dl).plan ts.length) x + u.wa.hi) == (bgAt ((caseOf true ms ts dl).plan ts.length) y)) = true := beq_t kn80
            have kn80b : ((enAt ((caseOf true ms ts dl).plan ts.length) x + u.wa.hi) != (bgAt ((caseOf true ms ts dl).plan ts.length) y)) = false := bne_f kn80
            clear kn80
            clear hA_ hB_
            have ge81 : World.cell? _ ⟨x36, o37 + (k - 1), none⟩ = some (.int .i64 (x : Int)) := (by have h_ := ((F77.at 3 rfl : Sl intEnc 1 lc_ hc_ _ (.slice (some ⟨x36, o37, none⟩) C.length cc_) (ints C))).cells hz75.out 0 _ rfl; simpa using h_)
            have gl82 := cell_lt ge81
            go_wp2_with fail
            clear ge81 gl82
            have b83 := F77.bx2 6 rfl
            have ge84 : World.cell? _ ⟨x38, o39 + x * 4 + 2 + 1, none⟩ = some (.int .i64 (enAt ((caseOf true ms ts dl).plan ts.length) x)) := (((F77.at 5 rfl : Sl timEnc 4 lt_t1 ht_t1 _ (.slice (some ⟨x38, o39, none⟩) ts.length ct_t1) (timN (caseOf false ms ts dl) (caseOf true ms ts dl) ts.length ts.length))).cells hz78.out 3 _ rfl)
            have ge85 : World.cell? _ ⟨x40, o41 + x * 8 + 3 + 1, none⟩ = some (.int .i64 u.wa.hi) := (((F77.at 10 rfl : Sl tskEnc 8 loJ hiJ _ (.slice (some ⟨x40, o41, none⟩) ts.length c2J) ts)).cells hz76.out 4 _ rfl)
            go_quiet (fail)
            clear b83 ge84 ge85
            have F86 := F77.drewN nq
            clear F77
            obtain ⟨w87, hx88, F90, hxs89⟩ := (show Bun w [rsl intEnc 1 loJ hiJ (.slice a_u u.af.length c_u) u.af, rbox wd52.heap.size 79 #[.int .i64 z.m, .int .i64 z.ho.lo, .int .i64 z.ho.hi, .int .i64 z.wa.lo, .int .i64 z.wa.hi, .int .i64 z.fr.lo, .int .i64 z.fr.hi, .slice a_z z.af.length c_z], rsl intEnc 1 loJ hiJ (.slice a_z z.af.length c_z) z.af, rsl intEnc 1 lc_ hc_ (.slice (some ⟨x36, o37, none⟩) C.length cc_) (ints C), rbox w20.heap.size 39 #[.int .i64 ((caseOf false ms ts dl).opn ts.length), .int .i64 ((caseOf true ms ts dl).opn ts.length)], rsl timEnc 4 lt_t1 ht_t1 (.slice (some ⟨x38, o39, none⟩) ts.length ct_t1) (timN (caseOf false ms ts dl) (caseOf true ms ts dl) ts.length ts.length), rbox w15.heap.size 25 #[.slice a1J ms.length c1J, .slice (some ⟨x40, o41, none⟩) ts.length c2J], rsl weaEnc 6 lw_dl hw_dl (.slice aw_dl dl.length cw_dl) dl, rseed sb, rsl mchEnc 3 loJ hiJ (.slice a1J ms.length c1J) ms, rsl tskEnc 8 loJ hiJ (.slice (some ⟨x40, o41, none⟩) ts.length c2J) ts, rafs loJ hiJ ts, rsl intEnc 1 0 w.heap.size (.slice na zs.length nc) zs] _ from F86).name
            (try simp at hxs89)
            rw [hx88]
            clear hx88 F86
            have b91 := F90.bx8 1 rfl
            go_wp2_with fail
            clear b91
            refine (listed_t 0 _ _ z.af (x : Int) _ (F90.slY 2 rfl) (Nat.le_refl _) hh_).mono ?_
            rintro e w94 ⟨rfl, hg92⟩
            have hg92s := hg92.size
            (try simp at hg92s)
            have F95 := F90.gn hg92
            clear F90
            clear hg92
            have ge96 : World.cell? _ ⟨x36, o37 + k, none⟩ = some (.int .i64 (y : Int)) := (by have h_ := ((F95.at 3 rfl : Sl intEnc 1 lc_ hc_ _ (.slice (some ⟨x36, o37, none⟩) C.length cc_) (ints C))).cells hz42.out 0 _ rfl; simpa using h_)
            have gl97 := cell_lt ge96
            have ge98 : World.cell? _ ⟨x38, o39 + y * 4 + 1, none⟩ = some (.int .i64 (bgAt ((caseOf true ms ts dl).plan ts.length) y)) := (((F95.at 5 rfl : Sl timEnc 4 lt_t1 ht_t1 _ (.slice (some ⟨x38, o39, none⟩) ts.length ct_t1) (timN (caseOf false ms ts dl) (caseOf true ms ts dl) ts.length ts.length))).cells hz47.out 1 _ rfl)
            go_wp2_with fail
            clear ge96 gl97 ge98
            have F99 := F95.drew
            clear F95
            refine ru_begin (fun W => W.cell? ⟨x36, o37 + k, none⟩ = some (.int .i64 (y : Int))) 33 (by kernel_rfl) ?_ ?_
            · exact (by have h_ := ((F99.at 3 rfl : Sl intEnc 1 lc_ hc_ _ (.slice (some ⟨x36, o37, none⟩) C.length cc_) (ints C))).cells hz42.out 0 _ rfl; simpa using h_)
            obtain ⟨wd101, hwd_⟩ : ∃ x : World, w94.drew = x := ⟨_, rfl⟩
            rw [hwd_] at F99 ⊢
            have wd101s : w94.heap.size ≤ wd101.heap.size := by rw [← hwd_]; exact Nat.le_refl _
            clear hwd_
            have hS100 := ((by have h_ := ((F99.at 3 rfl : Sl intEnc 1 lc_ hc_ _ (.slice (some ⟨x36, o37, none⟩) C.length cc_) (ints C))).cells hz42.out 0 _ rfl; simpa using h_))
            refine ru_t 0 [6, 5] ?_
            refine ru_t 1 [6, 5, 4, 3] ?_
            refine ru_t 2 [6, 5, 4, 3] ?_
            refine ru_t 3 [6, 5, 4] ?_
            refine ru_t 4 [6, 5] ?_
            refine ru_t 5 [6] ?_
            refine ru_t 6 [] ?_
            refine ru_t 7 [32, 9, 8] ?_
            refine ru_t 8 [32, 9] ?_
            refine ru_t 9 [32] ?_
            refine ru_ts 10 [32, 31, 19, 18, 15, 14, 13, 11] ?_
            refine ru_ts 11 [32, 31, 19, 18, 15, 14, 13] ?_
            refine ru_ts 12 [32, 31, 19, 18, 15, 14, 13] ?_
            refine ru_ts 13 [32, 31, 19, 18, 15, 14] ?_
            refine ru_ts 14 [32, 31, 19, 18, 15] ?_
            refine ru_ts 15 [32, 31, 19, 18] ?_
            refine ru_ts 16 [32, 31, 19, 18, 17] ?_
            refine ru_ts 17 [32, 31, 19, 18] ?_
            refine ru_ts 18 [32, 31, 19] ?_
            refine ru_ts 19 [32, 31] ?_
            refine ru_ts 20 [32, 31, 30] ?_
            refine ru_ts 21 [32, 31, 30, 29, 28, 27, 26] ?_
            refine ru_ts 22 [32, 31, 30, 29, 28, 27, 26, 25, 24] ?_
            refine ru_ts 23 [32, 31, 30, 29, 28, 27, 26, 25, 24] ?_
            refine ru_ts 24 [32, 31, 30, 29, 28, 27, 26, 25] ?_
            refine ru_ts 25 [32, 31, 30, 29, 28, 27, 26] ?_
            refine ru_ts 26 [32, 31, 30, 29, 28, 27] ?_
            refine ru_ts 27 [32, 31, 30, 29, 28] ?_
            refine ru_ts 28 [32, 31, 30, 29] ?_
            refine ru_ts 29 [32, 31, 30] ?_
            refine ru_ts 30 [32, 31] ?_
            refine ru_ts 31 [32] ?_
            refine ru_t 32 [] ?_
            (try simp only [Act.put, List.setIfInBounds_toArray, List.set_cons_zero, List.set_cons_succ])
            clear hS100
            refine ru_one 33 rfl (by kernel_rfl) (fun K hK => ?_)
            go_simp
            refine ru_back_late hK (by kernel_rfl) ?_
            clear hK K
            (try simp only [Act.put, List.setIfInBounds_toArray, List.set_cons_zero, List.set_cons_succ])
            refine ru_done (by kernel_rfl) ?_
            obtain ⟨w102, hx103, F105, hxs104⟩ := (show Bun w [rsl intEnc 1 loJ hiJ (.slice a_u u.af.length c_u) u.af, rsl intEnc 1 loJ hiJ (.slice a_z z.af.length c_z) z.af, rsl intEnc 1 lc_ hc_ (.slice (some ⟨x36, o37, none⟩) C.length cc_) (ints C), rbox w20.heap.size 39 #[.int .i64 ((caseOf false ms ts dl).opn ts.length), .int .i64 ((caseOf true ms ts dl).opn ts.length)], rsl timEnc 4 lt_t1 ht_t1 (.slice (some ⟨x38, o39, none⟩) ts.length ct_t1) (timN (caseOf false ms ts dl) (caseOf true ms ts dl) ts.length ts.length), rbox w15.heap.size 25 #[.slice a1J ms.length c1J, .slice (some ⟨x40, o41, none⟩) ts.length c2J], rsl weaEnc 6 lw_dl hw_dl (.slice aw_dl dl.length cw_dl) dl, rseed sb, rsl mchEnc 3 loJ hiJ (.slice a1J ms.length c1J) ms, rsl tskEnc 8 loJ hiJ (.slice (some ⟨x40, o41, none⟩) ts.length c2J) ts, rafs loJ hiJ ts, rsl intEnc 1 0 w.heap.size (.slice na zs.length nc) zs] _ from (F99.drop 1 rfl)).name
            (try simp at hxs104)
            rw [hx103]
            clear hx103 F99
            go_wp2_with fail
            have F106 : Bun w [rsl intEnc 1 lc_ hc_ (.slice (some ⟨x36, o37, none⟩) C.length cc_) (ints C), rbox w20.heap.size 39 #[.int .i64 ((caseOf false ms ts dl).opn ts.length), .int .i64 ((caseOf true ms ts dl).opn ts.length)], rsl timEnc 4 lt_t1 ht_t1 (.slice (some ⟨x38, o39, none⟩) ts.length ct_t1) (timN (caseOf false ms ts dl) (caseOf true ms ts dl) ts.length ts.length), rbox w15.heap.size 25 #[.slice a1J ms.length c1J, .slice (some ⟨x40, o41, none⟩) ts.length c2J], rsl weaEnc 6 lw_dl hw_dl (.slice aw_dl dl.length cw_dl) dl, rseed sb, rsl mchEnc 3 loJ hiJ (.slice a1J ms.length c1J) ms, rsl tskEnc 8 loJ hiJ (.slice (some ⟨x40, o41, none⟩) ts.length c2J) ts, rafs loJ hiJ ts, rsl intEnc 1 0 w.heap.size (.slice na zs.length nc) zs] _ := F105.pick [2, 3, 4, 5, 6, 7, 8, 9, 10, 11] (by decide) rfl
            clear F105
            (first | refine ⟨by kernel_rfl, ?_, ?_⟩ | refine ⟨rfl, ?_, ?_⟩ | refine ⟨?_, ?_⟩)
            · rw [HI31.out]; exact ⟨k + 1, (by first | kernel_rfl | rfl), (by first | kernel_rfl | rfl), (by first | kernel_rfl | rfl), (by first | kernel_rfl | rfl), (by first | kernel_rfl | rfl), (by first | kernel_rfl | rfl), (by show Value.int .i64 ((k : Int) + 1) = _; simp), (by omega), (by first | rfl | simp), (by first | omega | (simp; done) | (simp; omega)), F106⟩
            · simp [slot, intOf]; omega
          · skip
            have kn107 : u.m = z.m := (by rw [HUF.out.2, HZF.out.2.1]; exact (caseOf true ms ts dl).bef_m _ _ _ hA_)
            have kn107H := Lib.hid kn107
            have kn107a : (u.m == z.m) = true := beq_t kn107
            have kn107b : (u.m != z.m) = false := bne_f kn107
            clear kn107
            have kn108 : enAt ((caseOf true ms ts dl).plan ts.length) x = bgAt ((caseOf true ms ts dl).plan ts.length) y := hB_
            have kn108H := Lib.hid kn108
            have kn108a : ((enAt ((caseOf true ms ts dl).plan ts.length) x) == (bgAt ((caseOf true ms ts dl).plan ts.length) y)) = true := beq_t kn108
            have kn108b : ((enAt ((caseOf true ms ts dl).plan ts.length) x) != (bgAt ((caseOf true ms ts dl).plan ts.length) y)) = false := bne_f kn108
            clear kn108
            clear hA_ hB_
            have ge109 : World.cell? _ ⟨x36, o37 + (k - 1), none⟩ = some (.int .i64 (x : Int)) := (by have h_ := ((F77.at 3 rfl : Sl intEnc 1 lc_ hc_ _ (.slice (some ⟨x36, o37, none⟩) C.length cc_) (ints C))).cells hz75.out 0 _ rfl; simpa using h_)
            have gl110 := cell_lt ge109
            go_wp2_with fail
            clear ge109 gl110
            have b111 := F77.bx2 6 rfl
            have ge112 : World.cell? _ ⟨x38, o39 + x * 4 + 2 + 1, none⟩ = some (.int .i64 (enAt ((caseOf true ms ts dl).plan ts.length) x)) := (((F77.at 5 rfl : Sl timEnc 4 lt_t1 ht_t1 _ (.slice (some ⟨x38, o39, none⟩) ts.length ct_t1) (timN (caseOf false ms ts dl) (caseOf true ms ts dl) ts.length ts.length))).cells hz78.out 3 _ rfl)
            have ge113 : World.cell? _ ⟨x40, o41 + x * 8 + 3 + 1, none⟩ = some (.int .i64 u.wa.hi) := (((F77.at 10 rfl : Sl tskEnc 8 loJ hiJ _ (.slice (some ⟨x40, o41, none⟩) ts.length c2J) ts)).cells hz76.out 4 _ rfl)
            go_quiet (fail)
            clear b111 ge112 ge113
            have F114 := F77.drewN nq
            clear F77
            obtain ⟨w115, hx116, F118, hxs117⟩ := (show Bun w [rsl intEnc 1 loJ hiJ (.slice a_u u.af.length c_u) u.af, rbox wd52.heap.size 79 #[.int .i64 z.m, .int .i64 z.ho.lo, .int .i64 z.ho.hi, .int .i64 z.wa.lo, .int .i64 z.wa.hi, .int .i64 z.fr.lo, .int .i64 z.fr.hi, .slice a_z z.af.length c_z], rsl intEnc 1 loJ hiJ (.slice a_z z.af.length c_z) z.af, rsl intEnc 1 lc_ hc_ (.slice (some ⟨x36, o37, none⟩) C.length cc_) (ints C), rbox w20.heap.size 39 #[.int .i64 ((caseOf false ms ts dl).opn ts.length), .int .i64 ((caseOf true ms ts dl).opn ts.length)], rsl timEnc 4 lt_t1 ht_t1 (.slice (some ⟨x38, o39, none⟩) ts.length ct_t1) (timN (caseOf false ms ts dl) (caseOf true ms ts dl) ts.length ts.length), rbox w15.heap.size 25 #[.slice a1J ms.length c1J, .slice (some ⟨x40, o41, none⟩) ts.length c2J], rsl weaEnc 6 lw_dl hw_dl (.slice aw_dl dl.length cw_dl) dl, rseed sb, rsl mchEnc 3 loJ hiJ (.slice a1J ms.length c1J) ms, rsl tskEnc 8 loJ hiJ (.slice (some ⟨x40, o41, none⟩) ts.length c2J) ts, rafs loJ hiJ ts, rsl intEnc 1 0 w.heap.size (.slice na zs.length nc) zs] _ from F114).name
            (try simp at hxs117)
            rw [hx116]
            clear hx116 F114
            have b119 := F118.bx8 1 rfl
            go_wp2_with fail
            clear b119
            refine (listed_c 0 _ _ z.af (x : Int) _ (F118.slY 2 rfl) (Nat.le_refl _)).mono ?_
            rintro e w122 ⟨rfl, hg120⟩
            have hg120s := hg120.size
            (try simp at hg120s)
            have F123 := F118.gn hg120
            clear F118
            clear hg120
            cases c124 : hasI z.af (x : Int)
            · skip
              have c124H := Lib.hid c124
              go_wp2_with fail
              have F125 := F123.drew
              clear F123
              refine ru_begin (fun W => W.cell? ⟨x36, o37 + k, none⟩ = some (.int .i64 (y : Int)) ∧ W.cell? ⟨w15.heap.size, 1, none⟩ = some (.slice (some ⟨x40, o41, none⟩) ts.length c2J) ∧ W.cell? ⟨x40, o41 + x * 8, none⟩ = some (.int .i64 u.m) ∧ W.cell? ⟨wd52.heap.size, 0, none⟩ = some (.int .i64 z.m) ∧ W.cell? ⟨x38, o39 + y * 4 + 1, none⟩ = some (.int .i64 (bgAt ((caseOf true ms ts dl).plan ts.length) y))) 33 (by kernel_rfl) ?_ ?_
              · exact ⟨(by have h_ := ((F125.at 3 rfl : Sl intEnc 1 lc_ hc_ _ (.slice (some ⟨x36, o37, none⟩) C.length cc_) (ints C))).cells hz42.out 0 _ rfl; simpa using h_), F125.cl 6 1 rfl rfl, (((F125.at 10 rfl : Sl tskEnc 8 loJ hiJ _ (.slice (some ⟨x40, o41, none⟩) ts.length c2J) ts)).cells hz76.out 0 _ rfl), F125.cl 1 0 rfl rfl, (((F125.at 5 rfl : Sl timEnc 4 lt_t1 ht_t1 _ (.slice (some ⟨x38, o39, none⟩) ts.length ct_t1) (timN (caseOf false ms ts dl) (caseOf true ms ts dl) ts.length ts.length))).cells hz47.out 1 _ rfl)⟩
              obtain ⟨wd127, hwd_⟩ : ∃ x : World, w122.drew = x := ⟨_, rfl⟩
              rw [hwd_] at F125 ⊢
              have wd127s : w122.heap.size ≤ wd127.heap.size := by rw [← hwd_]; exact Nat.le_refl _
              clear hwd_
              have hS126 := (And.intro ((by have h_ := ((F125.at 3 rfl : Sl intEnc 1 lc_ hc_ _ (.slice (some ⟨x36, o37, none⟩) C.length cc_) (ints C))).cells hz42.out 0 _ rfl; simpa using h_)) (And.intro (F125.cl 6 1 rfl rfl) (And.intro ((((F125.at 10 rfl : Sl tskEnc 8 loJ hiJ _ (.slice (some ⟨x40, o41, none⟩) ts.length c2J) ts)).cells hz76.out 0 _ rfl)) (And.intro (F125.cl 1 0 rfl rfl) ((((F125.at 5 rfl : Sl timEnc 4 lt_t1 ht_t1 _ (.slice (some ⟨x38, o39, none⟩) ts.length ct_t1) (timN (caseOf false ms ts dl) (caseOf true ms ts dl) ts.length ts.length))).cells hz47.out 1 _ rfl))))))
              refine ru_t 0 [6, 5] ?_
              refine ru_t 1 [6, 5, 4, 3] ?_
              refine ru_t 2 [6, 5, 4, 3] ?_
              refine ru_t 3 [6, 5, 4] ?_
              refine ru_t 4 [6, 5] ?_
              refine ru_t 5 [6] ?_
              refine ru_t 6 [] ?_
              refine ru_t 7 [32, 9, 8] ?_
              refine ru_t 8 [32, 9] ?_
              refine ru_t 9 [32] ?_
              refine ru_t 10 [32, 31, 19, 18, 15, 14, 13, 11] ?_
              refine ru_t 11 [32, 31, 19, 18, 15, 14, 13] ?_
              refine ru_t 12 [32, 31, 19, 18, 15, 14, 13] ?_
              refine ru_t 13 [32, 31, 19, 18, 15, 14] ?_
              refine ru_t 14 [32, 31, 19, 18, 15] ?_
              refine ru_t 15 [32, 31, 19, 18] ?_
              refine ru_t 16 [32, 31, 19, 18, 17] ?_
              refine ru_t 17 [32, 31, 19, 18] ?_
              refine ru_t 18 [32, 31, 19] ?_
              refine ru_t 19 [32, 31] ?_
              refine ru_t 20 [32, 31, 30] ?_
              refine ru_t 21 [32, 31, 30, 29, 28, 27, 26] ?_
              refine ru_t 22 [32, 31, 30, 29, 28, 27, 26, 25, 24] ?_
              refine ru_t 23 [32, 31, 30, 29, 28, 27, 26, 25, 24] ?_
              refine ru_t 24 [32, 31, 30, 29, 28, 27, 26, 25] ?_
              refine ru_t 25 [32, 31, 30, 29, 28, 27, 26] ?_
              refine ru_t 26 [32, 31, 30, 29, 28, 27] ?_
              refine ru_t 27 [32, 31, 30, 29, 28] ?_
              refine ru_t 28 [32, 31, 30, 29] ?_
              refine ru_t 29 [32, 31, 30] ?_
              refine ru_t 30 [32, 31] ?_
              refine ru_t 31 [32] ?_
              refine ru_t 32 [] ?_
              (try simp only [Act.put, List.setIfInBounds_toArray, List.set_cons_zero, List.set_cons_succ])
              clear hS126
              refine ru_one 33 rfl (by kernel_rfl) (fun K hK => ?_)
              go_simp
              refine ru_back_late hK (by kernel_rfl) ?_
              clear hK K
              (try simp only [Act.put, List.setIfInBounds_toArray, List.set_cons_zero, List.set_cons_succ])
              refine ru_done (by kernel_rfl) ?_
              obtain ⟨w128, hx129, F131, hxs130⟩ := (show Bun w [rsl intEnc 1 loJ hiJ (.slice a_u u.af.length c_u) u.af, rsl intEnc 1 loJ hiJ (.slice a_z z.af.length c_z) z.af, rsl intEnc 1 lc_ hc_ (.slice (some ⟨x36, o37, none⟩) C.length cc_) (ints C), rbox w20.heap.size 39 #[.int .i64 ((caseOf false ms ts dl).opn ts.length), .int .i64 ((caseOf true ms ts dl).opn ts.length)], rsl timEnc 4 lt_t1 ht_t1 (.slice (some ⟨x38, o39, none⟩) ts.length ct_t1) (timN (caseOf false ms ts dl) (caseOf true ms ts dl) ts.length ts.length), rbox w15.heap.size 25 #[.slice a1J ms.length c1J, .slice (some ⟨x40, o41, none⟩) ts.length c2J], rsl weaEnc 6 lw_dl hw_dl (.slice aw_dl dl.length cw_dl) dl, rseed sb, rsl mchEnc 3 loJ hiJ (.slice a1J ms.length c1J) ms, rsl tskEnc 8 loJ hiJ (.slice (some ⟨x40, o41, none⟩) ts.length c2J) ts, rafs loJ hiJ ts, rsl intEnc 1 0 w.heap.size (.slice na zs.length nc) zs] _ from (F125.drop 1 rfl)).name
              (try simp at hxs130)
              rw [hx129]
              clear hx129 F125
              go_wp2_with fail
              have F132 : Bun w [rsl intEnc 1 lc_ hc_ (.slice (some ⟨x36, o37, none⟩) C.length cc_) (ints C), rbox w20.heap.size 39 #[.int .i64 ((caseOf false ms ts dl).opn ts.length), .int .i64 ((caseOf true ms ts dl).opn ts.length)], rsl timEnc 4 lt_t1 ht_t1 (.slice (some ⟨x38, o39, none⟩) ts.length ct_t1) (timN (caseOf false ms ts dl) (caseOf true ms ts dl) ts.length ts.length), rbox w15.heap.size 25 #[.slice a1J ms.length c1J, .slice (some ⟨x40, o41, none⟩) ts.length c2J], rsl weaEnc 6 lw_dl hw_dl (.slice aw_dl dl.length cw_dl) dl, rseed sb, rsl mchEnc 3 loJ hiJ (.slice a1J ms.length c1J) ms, rsl tskEnc 8 loJ hiJ (.slice (some ⟨x40, o41, none⟩) ts.length c2J) ts, rafs loJ hiJ ts, rsl intEnc 1 0 w.heap.size (.slice na zs.length nc) zs] _ := F131.pick [2, 3, 4, 5, 6, 7, 8, 9, 10, 11] (by decide) rfl
              clear F131
              (first | refine ⟨by kernel_rfl, ?_, ?_⟩ | refine ⟨rfl, ?_, ?_⟩ | refine ⟨?_, ?_⟩)
              · rw [HI31.out]; exact ⟨k + 1, (by first | kernel_rfl | rfl), (by first | kernel_rfl | rfl), (by first | kernel_rfl | rfl), (by first | kernel_rfl | rfl), (by first | kernel_rfl | rfl), (by first | kernel_rfl | rfl), (by show Value.int .i64 ((k : Int) + 1) = _; simp), (by omega), (by first | rfl | simp), (by first | omega | (simp; done) | (simp; omega)), F132⟩
              · simp [slot, intOf]; omega
            · skip
              have c124H := Lib.hid c124
              by_cases c133 : enAt ((caseOf true ms ts dl).plan ts.length) x + u.wa.hi = bgAt ((caseOf true ms ts dl).plan ts.length) y
              · skip
                have c133a : ((enAt ((caseOf true ms ts dl).plan ts.length) x + u.wa.hi) == (bgAt ((caseOf true ms ts dl).plan ts.length) y)) = true := beq_t c133
                have c133b : ((enAt ((caseOf true ms ts dl).plan ts.length) x + u.wa.hi) != (bgAt ((caseOf true ms ts dl).plan ts.length) y)) = false := bne_f c133
                have c133H := Lib.hid c133
                clear c133
                have ge134 : World.cell? _ ⟨x36, o37 + k, none⟩ = some (.int .i64 (y : Int)) := (by have h_ := ((F123.at 3 rfl : Sl intEnc 1 lc_ hc_ _ (.slice (some ⟨x36, o37, none⟩) C.length cc_) (ints C))).cells hz42.out 0 _ rfl; simpa using h_)
                have gl135 := cell_lt ge134
                have ge136 : World.cell? _ ⟨x38, o39 + y * 4 + 1, none⟩ = some (.int .i64 (bgAt ((caseOf true ms ts dl).plan ts.length) y)) := (((F123.at 5 rfl : Sl timEnc 4 lt_t1 ht_t1 _ (.slice (some ⟨x38, o39, none⟩) ts.length ct_t1) (timN (caseOf false ms ts dl) (caseOf true ms ts dl) ts.length ts.length))).cells hz47.out 1 _ rfl)
                go_wp2_with fail
                clear ge134 gl135 ge136
                have F137 := F123.drew
                clear F123
                refine ru_begin (fun W => W.cell? ⟨x36, o37 + k, none⟩ = some (.int .i64 (y : Int))) 33 (by kernel_rfl) ?_ ?_
                · exact (by have h_ := ((F137.at 3 rfl : Sl intEnc 1 lc_ hc_ _ (.slice (some ⟨x36, o37, none⟩) C.length cc_) (ints C))).cells hz42.out 0 _ rfl; simpa using h_)
                obtain ⟨wd139, hwd_⟩ : ∃ x : World, w122.drew = x := ⟨_, rfl⟩
                rw [hwd_] at F137 ⊢
                have wd139s : w122.heap.size ≤ wd139.heap.size := by rw [← hwd_]; exact Nat.le_refl _
                clear hwd_
                have hS138 := ((by have h_ := ((F137.at 3 rfl : Sl intEnc 1 lc_ hc_ _ (.slice (some ⟨x36, o37, none⟩) C.length cc_) (ints C))).cells hz42.out 0 _ rfl; simpa using h_))
                refine ru_t 0 [6, 5] ?_
                refine ru_t 1 [6, 5, 4, 3] ?_
                refine ru_t 2 [6, 5, 4, 3] ?_
                refine ru_t 3 [6, 5, 4] ?_
                refine ru_t 4 [6, 5] ?_
                refine ru_t 5 [6] ?_
                refine ru_t 6 [] ?_
                refine ru_t 7 [32, 9, 8] ?_
                refine ru_t 8 [32, 9] ?_
                refine ru_t 9 [32] ?_
                refine ru_ts 10 [32, 31, 19, 18, 15, 14, 13, 11] ?_
                refine ru_ts 11 [32, 31, 19, 18, 15, 14, 13] ?_
                refine ru_ts 12 [32, 31, 19, 18, 15, 14, 13] ?_
                refine ru_ts 13 [32, 31, 19, 18, 15, 14] ?_
                refine ru_ts 14 [32, 31, 19, 18, 15] ?_
                refine ru_ts 15 [32, 31, 19, 18] ?_
                refine ru_ts 16 [32, 31, 19, 18, 17] ?_
                refine ru_ts 17 [32, 31, 19, 18] ?_
                refine ru_ts 18 [32, 31, 19] ?_
                refine ru_ts 19 [32, 31] ?_
                refine ru_ts 20 [32, 31, 30] ?_
                refine ru_ts 21 [32, 31, 30, 29, 28, 27, 26] ?_
                refine ru_ts 22 [32, 31, 30, 29, 28, 27, 26, 25, 24] ?_
                refine ru_ts 23 [32, 31, 30, 29, 28, 27, 26, 25, 24] ?_
                refine ru_ts 24 [32, 31, 30, 29, 28, 27, 26, 25] ?_
                refine ru_ts 25 [32, 31, 30, 29, 28, 27, 26] ?_
                refine ru_ts 26 [32, 31, 30, 29, 28, 27] ?_
                refine ru_ts 27 [32, 31, 30, 29, 28] ?_
                refine ru_ts 28 [32, 31, 30, 29] ?_
                refine ru_ts 29 [32, 31, 30] ?_
                refine ru_ts 30 [32, 31] ?_
                refine ru_ts 31 [32] ?_
                refine ru_t 32 [] ?_
                (try simp only [Act.put, List.setIfInBounds_toArray, List.set_cons_zero, List.set_cons_succ])
                clear hS138
                refine ru_one 33 rfl (by kernel_rfl) (fun K hK => ?_)
                go_simp
                refine ru_back_late hK (by kernel_rfl) ?_
                clear hK K
                (try simp only [Act.put, List.setIfInBounds_toArray, List.set_cons_zero, List.set_cons_succ])
                refine ru_done (by kernel_rfl) ?_
                obtain ⟨w140, hx141, F143, hxs142⟩ := (show Bun w [rsl intEnc 1 loJ hiJ (.slice a_u u.af.length c_u) u.af, rsl intEnc 1 loJ hiJ (.slice a_z z.af.length c_z) z.af, rsl intEnc 1 lc_ hc_ (.slice (some ⟨x36, o37, none⟩) C.length cc_) (ints C), rbox w20.heap.size 39 #[.int .i64 ((caseOf false ms ts dl).opn ts.length), .int .i64 ((caseOf true ms ts dl).opn ts.length)], rsl timEnc 4 lt_t1 ht_t1 (.slice (some ⟨x38, o39, none⟩) ts.length ct_t1) (timN (caseOf false ms ts dl) (caseOf true ms ts dl) ts.length ts.length), rbox w15.heap.size 25 #[.slice a1J ms.length c1J, .slice (some ⟨x40, o41, none⟩) ts.length c2J], rsl weaEnc 6 lw_dl hw_dl (.slice aw_dl dl.length cw_dl) dl, rseed sb, rsl mchEnc 3 loJ hiJ (.slice a1J ms.length c1J) ms, rsl tskEnc 8 loJ hiJ (.slice (some ⟨x40, o41, none⟩) ts.length c2J) ts, rafs loJ hiJ ts, rsl intEnc 1 0 w.heap.size (.slice na zs.length nc) zs] _ from (F137.drop 1 rfl)).name
                (try simp at hxs142)
                rw [hx141]
                clear hx141 F137
                go_wp2_with fail
                have F144 : Bun w [rsl intEnc 1 lc_ hc_ (.slice (some ⟨x36, o37, none⟩) C.length cc_) (ints C), rbox w20.heap.size 39 #[.int .i64 ((caseOf false ms ts dl).opn ts.length), .int .i64 ((caseOf true ms ts dl).opn ts.length)], rsl timEnc 4 lt_t1 ht_t1 (.slice (some ⟨x38, o39, none⟩) ts.length ct_t1) (timN (caseOf false ms ts dl) (caseOf true ms ts dl) ts.length ts.length), rbox w15.heap.size 25 #[.slice a1J ms.length c1J, .slice (some ⟨x40, o41, none⟩) ts.length c2J], rsl weaEnc 6 lw_dl hw_dl (.slice aw_dl dl.length cw_dl) dl, rseed sb, rsl mchEnc 3 loJ hiJ (.slice a1J ms.length c1J) ms, rsl tskEnc 8 loJ hiJ (.slice (some ⟨x40, o41, none⟩) ts.length c2J) ts, rafs loJ hiJ ts, rsl intEnc 1 0 w.heap.size (.slice na zs.length nc) zs] _ := F143.pick [2, 3, 4, 5, 6, 7, 8, 9, 10, 11] (by decide) rfl
                clear F143
                (first | refine ⟨by kernel_rfl, ?_, ?_⟩ | refine ⟨rfl, ?_, ?_⟩ | refine ⟨?_, ?_⟩)
                · rw [HI31.out]; exact ⟨k + 1, (by first | kernel_rfl | rfl), (by first | kernel_rfl | rfl), (by first | kernel_rfl | rfl), (by first | kernel_rfl | rfl), (by first | kernel_rfl | rfl), (by first | kernel_rfl | rfl), (by show Value.int .i64 ((k : Int) + 1) = _; simp), (by omega), (by first | rfl | simp), (by first | omega | (simp; done) | (simp; omega)), F144⟩
                · simp [slot, intOf]; omega
              · skip
                have c133a : ((enAt ((caseOf true ms ts dl).plan ts.length) x + u.wa.hi) == (bgAt ((caseOf true ms ts dl).plan ts.length) y)) = false := beq_f c133
                have c133b : ((enAt ((caseOf true ms ts dl).plan ts.length) x + u.wa.hi) != (bgAt ((caseOf true ms ts dl).plan ts.length) y)) = true := bne_t c133
                have c133H := Lib.hid c133
                clear c133
                have ge145 : World.cell? _ ⟨x36, o37 + k, none⟩ = some (.int .i64 (y : Int)) := (by have h_ := ((F123.at 3 rfl : Sl intEnc 1 lc_ hc_ _ (.slice (some ⟨x36, o37, none⟩) C.length cc_) (ints C))).cells hz42.out 0 _ rfl; simpa using h_)
                have gl146 := cell_lt ge145
                have ge147 : World.cell? _ ⟨x38, o39 + y * 4 + 1, none⟩ = some (.int .i64 (bgAt ((caseOf true ms ts dl).plan ts.length) y)) := (((F123.at 5 rfl : Sl timEnc 4 lt_t1 ht_t1 _ (.slice (some ⟨x38, o39, none⟩) ts.length ct_t1) (timN (caseOf false ms ts dl) (caseOf true ms ts dl) ts.length ts.length))).cells hz47.out 1 _ rfl)
                go_wp2_with fail
                clear ge145 gl146 ge147
                have F148 := F123.drew
                clear F123
                refine ru_begin (fun W => W.cell? ⟨x36, o37 + k, none⟩ = some (.int .i64 (y : Int)) ∧ W.cell? ⟨w15.heap.size, 1, none⟩ = some (.slice (some ⟨x40, o41, none⟩) ts.length c2J) ∧ W.cell? ⟨x40, o41 + x * 8, none⟩ = some (.int .i64 u.m) ∧ W.cell? ⟨wd52.heap.size, 0, none⟩ = some (.int .i64 z.m) ∧ W.cell? ⟨x38, o39 + y * 4 + 1, none⟩ = some (.int .i64 (bgAt ((caseOf true ms ts dl).plan ts.length) y))) 33 (by kernel_rfl) ?_ ?_
                · exact ⟨(by have h_ := ((F148.at 3 rfl : Sl intEnc 1 lc_ hc_ _ (.slice (some ⟨x36, o37, none⟩) C.length cc_) (ints C))).cells hz42.out 0 _ rfl; simpa using h_), F148.cl 6 1 rfl rfl, (((F148.at 10 rfl : Sl tskEnc 8 loJ hiJ _ (.slice (some ⟨x40, o41, none⟩) ts.length c2J) ts)).cells hz76.out 0 _ rfl), F148.cl 1 0 rfl rfl, (((F148.at 5 rfl : Sl timEnc 4 lt_t1 ht_t1 _ (.slice (some ⟨x38, o39, none⟩) ts.length ct_t1) (timN (caseOf false ms ts dl) (caseOf true ms ts dl) ts.length ts.length))).cells hz47.out 1 _ rfl)⟩
                obtain ⟨wd150, hwd_⟩ : ∃ x : World, w122.drew = x := ⟨_, rfl⟩
                rw [hwd_] at F148 ⊢
                have wd150s : w122.heap.size ≤ wd150.heap.size := by rw [← hwd_]; exact Nat.le_refl _
                clear hwd_
                have hS149 := (And.intro ((by have h_ := ((F148.at 3 rfl : Sl intEnc 1 lc_ hc_ _ (.slice (some ⟨x36, o37, none⟩) C.length cc_) (ints C))).cells hz42.out 0 _ rfl; simpa using h_)) (And.intro (F148.cl 6 1 rfl rfl) (And.intro ((((F148.at 10 rfl : Sl tskEnc 8 loJ hiJ _ (.slice (some ⟨x40, o41, none⟩) ts.length c2J) ts)).cells hz76.out 0 _ rfl)) (And.intro (F148.cl 1 0 rfl rfl) ((((F148.at 5 rfl : Sl timEnc 4 lt_t1 ht_t1 _ (.slice (some ⟨x38, o39, none⟩) ts.length ct_t1) (timN (caseOf false ms ts dl) (caseOf true ms ts dl) ts.length ts.length))).cells hz47.out 1 _ rfl))))))
                refine ru_t 0 [6, 5] ?_
                refine ru_t 1 [6, 5, 4, 3] ?_
                refine ru_t 2 [6, 5, 4, 3] ?_
                refine ru_t 3 [6, 5, 4] ?_
                refine ru_t 4 [6, 5] ?_
                refine ru_t 5 [6] ?_
                refine ru_t 6 [] ?_
                refine ru_t 7 [32, 9, 8] ?_
                refine ru_t 8 [32, 9] ?_
                refine ru_t 9 [32] ?_
                refine ru_t 10 [32, 31, 19, 18, 15, 14, 13, 11] ?_
                refine ru_t 11 [32, 31, 19, 18, 15, 14, 13] ?_
                refine ru_t 12 [32, 31, 19, 18, 15, 14, 13] ?_
                refine ru_t 13 [32, 31, 19, 18, 15, 14] ?_
                refine ru_t 14 [32, 31, 19, 18, 15] ?_
                refine ru_t 15 [32, 31, 19, 18] ?_
                refine ru_t 16 [32, 31, 19, 18, 17] ?_
                refine ru_t 17 [32, 31, 19, 18] ?_
                refine ru_t 18 [32, 31, 19] ?_
                refine ru_t 19 [32, 31] ?_
                refine ru_t 20 [32, 31, 30] ?_
                refine ru_t 21 [32, 31, 30, 29, 28, 27, 26] ?_
                refine ru_t 22 [32, 31, 30, 29, 28, 27, 26, 25, 24] ?_
                refine ru_t 23 [32, 31, 30, 29, 28, 27, 26, 25, 24] ?_
                refine ru_t 24 [32, 31, 30, 29, 28, 27, 26, 25] ?_
                refine ru_t 25 [32, 31, 30, 29, 28, 27, 26] ?_
                refine ru_t 26 [32, 31, 30, 29, 28, 27] ?_
                refine ru_t 27 [32, 31, 30, 29, 28] ?_
                refine ru_t 28 [32, 31, 30, 29] ?_
                refine ru_t 29 [32, 31, 30] ?_
                refine ru_t 30 [32, 31] ?_
                refine ru_t 31 [32] ?_
                refine ru_t 32 [] ?_
                (try simp only [Act.put, List.setIfInBounds_toArray, List.set_cons_zero, List.set_cons_succ])
                clear hS149
                refine ru_one 33 rfl (by kernel_rfl) (fun K hK => ?_)
                go_simp
                refine ru_back_late hK (by kernel_rfl) ?_
                clear hK K
                (try simp only [Act.put, List.setIfInBounds_toArray, List.set_cons_zero, List.set_cons_succ])
                refine ru_done (by kernel_rfl) ?_
                obtain ⟨w151, hx152, F154, hxs153⟩ := (show Bun w [rsl intEnc 1 loJ hiJ (.slice a_u u.af.length c_u) u.af, rsl intEnc 1 loJ hiJ (.slice a_z z.af.length c_z) z.af, rsl intEnc 1 lc_ hc_ (.slice (some ⟨x36, o37, none⟩) C.length cc_) (ints C), rbox w20.heap.size 39 #[.int .i64 ((caseOf false ms ts dl).opn ts.length), .int .i64 ((caseOf true ms ts dl).opn ts.length)], rsl timEnc 4 lt_t1 ht_t1 (.slice (some ⟨x38, o39, none⟩) ts.length ct_t1) (timN (caseOf false ms ts dl) (caseOf true ms ts dl) ts.length ts.length), rbox w15.heap.size 25 #[.slice a1J ms.length c1J, .slice (some ⟨x40, o41, none⟩) ts.length c2J], rsl weaEnc 6 lw_dl hw_dl (.slice aw_dl dl.length cw_dl) dl, rseed sb, rsl mchEnc 3 loJ hiJ (.slice a1J ms.length c1J) ms, rsl tskEnc 8 loJ hiJ (.slice (some ⟨x40, o41, none⟩) ts.length c2J) ts, rafs loJ hiJ ts, rsl intEnc 1 0 w.heap.size (.slice na zs.length nc) zs] _ from (F148.drop 1 rfl)).name
                (try simp at hxs153)
                rw [hx152]
                clear hx152 F148
                go_wp2_with fail
                have F155 : Bun w [rsl intEnc 1 lc_ hc_ (.slice (some ⟨x36, o37, none⟩) C.length cc_) (ints C), rbox w20.heap.size 39 #[.int .i64 ((caseOf false ms ts dl).opn ts.length), .int .i64 ((caseOf true ms ts dl).opn ts.length)], rsl timEnc 4 lt_t1 ht_t1 (.slice (some ⟨x38, o39, none⟩) ts.length ct_t1) (timN (caseOf false ms ts dl) (caseOf true ms ts dl) ts.length ts.length), rbox w15.heap.size 25 #[.slice a1J ms.length c1J, .slice (some ⟨x40, o41, none⟩) ts.length c2J], rsl weaEnc 6 lw_dl hw_dl (.slice aw_dl dl.length cw_dl) dl, rseed sb, rsl mchEnc 3 loJ hiJ (.slice a1J ms.length c1J) ms, rsl tskEnc 8 loJ hiJ (.slice (some ⟨x40, o41, none⟩) ts.length c2J) ts, rafs loJ hiJ ts, rsl intEnc 1 0 w.heap.size (.slice na zs.length nc) zs] _ := F154.pick [2, 3, 4, 5, 6, 7, 8, 9, 10, 11] (by decide) rfl
                clear F154
                (first | refine ⟨by kernel_rfl, ?_, ?_⟩ | refine ⟨rfl, ?_, ?_⟩ | refine ⟨?_, ?_⟩)
                · rw [HI31.out]; exact ⟨k + 1, (by first | kernel_rfl | rfl), (by first | kernel_rfl | rfl), (by first | kernel_rfl | rfl), (by first | kernel_rfl | rfl), (by first | kernel_rfl | rfl), (by first | kernel_rfl | rfl), (by show Value.int .i64 ((k : Int) + 1) = _; simp), (by omega), (by first | rfl | simp), (by first | omega | (simp; done) | (simp; omega)), F155⟩
                · simp [slot, intOf]; omega
      · skip
        have c35H := Lib.hid c35
        have c35a : decide ((k : Int) < (C.length : Int)) = false := dec_f c35
        obtain ⟨x156, o157, e_⟩ := Sl.addr (hF32.at 0 rfl : Sl intEnc 1 lc_ hc_ _ (.slice ac_ C.length cc_) (ints C)) (by rw [ints_len]; omega)
        subst e_
        obtain ⟨x158, o159, e_⟩ := Sl.addr (hF32.at 2 rfl : Sl timEnc 4 lt_t1 ht_t1 _ (.slice at_t1 ts.length ct_t1) (timN (caseOf false ms ts dl) (caseOf true ms ts dl) ts.length ts.length)) (by rw [timN_len]; omega)
        subst e_
        obtain ⟨x160, o161, e_⟩ := Sl.addr (hF32.at 7 rfl : Sl tskEnc 8 loJ hiJ _ (.slice a2J ts.length c2J) ts) (by omega)
        subst e_
        obtain ⟨o1, ho_⟩ : ∃ o_, (caseOf true ms ts dl).opr ts.length = o_ := ⟨_, rfl⟩
        have HO : Hid (C[C.length - 1]? = some o1 ∧ (caseOf true ms ts dl).enI ts.length o1 + (caseOf true ms ts dl).wa o1 = (caseOf true ms ts dl).opn ts.length) := Lib.hid (by rw [← ho_]; exact ⟨HCK.out.last, HCK.out.opn⟩)
        clear ho_ hop_
        have hot := HCK.out.lt _ _ HO.out.1
        have hk2 : (0 : Int) ≤ (C.length : Int) - 1 := by omega
        have hk3 : (C.length : Int) - 1 < (C.length : Int) := by omega
        have hk4 : ((C.length : Int) - 1).toNat = C.length - 1 := by omega
        have hk5 : IntKind.i64.wrap ((C.length : Int) - 1) = (C.length : Int) - 1 := IntWalk.i64_in _ (by omega)
        have hz162 : Hid ((ints C)[C.length - 1]? = some ((o1 : Nat) : Int)) := Lib.hid (ints_get HO.out.1)
        have ge165 : World.cell? _ ⟨x156, o157 + (C.length - 1), none⟩ = some (.int .i64 (o1 : Int)) := (by have h_ := ((hF32.at 0 rfl : Sl intEnc 1 lc_ hc_ _ (.slice (some ⟨x156, o157, none⟩) C.length cc_) (ints C))).cells hz162.out 0 _ rfl; simpa using h_)
        have gl166 := cell_lt ge165
        go_wp2_with fail
        clear ge165 gl166
        refine (below_c sb (C.length : Int) _ (hF32.at 5 rfl : SeedAt _ sb) (by omega) (by omega)).mono ?_
        rintro e w169 ⟨r163, rfl, hr164, hs168, hg167⟩
        unfold belowR at hr164
        have hg167s := hg167.size
        (try simp at hg167s)
        have F170 := hF32.seedAt 5 rfl hg167 hs168
        clear hF32
        clear hg167
        have hrn_ : r163.toNat < C.length := by omega
        have hrx_ : r163 < (C.length : Int) := by omega
        have hrz_ : 0 ≤ r163 := by omega
        obtain ⟨kk, hkk_⟩ : ∃ k_, C[r163.toNat]? = some k_ := ⟨_, List.getElem?_eq_getElem hrn_⟩
        have HKK := Lib.hid hkk_
        have hkt := HCK.out.lt _ _ hkk_
        clear hkk_
        have hz171 : Hid ((ints C)[r163.toNat]? = some ((kk : Nat) : Int)) := Lib.hid (ints_get HKK.out)
        have HSM := Lib.hid (jsmall_ok HOK.out.1)
        have b172 := F170.bx2 3 rfl
        have ge173 : World.cell? _ ⟨x156, o157 + r163.toNat, none⟩ = some (.int .i64 (kk : Int)) := (by have h_ := ((F170.at 0 rfl : Sl intEnc 1 lc_ hc_ _ (.slice (some ⟨x156, o157, none⟩) C.length cc_) (ints C))).cells hz171.out 0 _ rfl; simpa using h_)
        have gl174 := cell_lt ge173
        go_wp2_with fail
        clear b172 ge173 gl174
        obtain ⟨w175, hx176, F178, hxs177⟩ := (show Bun w [rsl intEnc 1 lc_ hc_ (.slice (some ⟨x156, o157, none⟩) C.length cc_) (ints C), rbox w20.heap.size 39 #[.int .i64 ((caseOf false ms ts dl).opn ts.length), .int .i64 ((caseOf true ms ts dl).opn ts.length)], rsl timEnc 4 lt_t1 ht_t1 (.slice (some ⟨x158, o159, none⟩) ts.length ct_t1) (timN (caseOf false ms ts dl) (caseOf true ms ts dl) ts.length ts.length), rbox w15.heap.size 25 #[.slice a1J ms.length c1J, .slice (some ⟨x160, o161, none⟩) ts.length c2J], rsl weaEnc 6 lw_dl hw_dl (.slice aw_dl dl.length cw_dl) dl, rseed sb, rsl mchEnc 3 loJ hiJ (.slice a1J ms.length c1J) ms, rsl tskEnc 8 loJ hiJ (.slice (some ⟨x160, o161, none⟩) ts.length c2J) ts, rafs loJ hiJ ts, rsl intEnc 1 0 w.heap.size (.slice na zs.length nc) zs] _ from F170).name
        (try simp at hxs177)
        rw [hx176]
        clear hx176 F170
        refine (ownJob_c 0 _ _ _ ms ts _ (JobAt.mk (F178.slY 6 rfl) (F178.slY 7 rfl) (F178.afY 8 rfl)) (Nat.le_refl _) HSM.out.m HSM.out.t HSM.out.a).mono ?_
        rintro e w180 ⟨ov1j179, ov2j179, ltj179, rfl, hmx_, hB181⟩
        have hB181s := hB181.gb.size
        (try simp at hB181s)
        have F182 := F178.joinV (L2 := [rown mchEnc 77 3 w175.heap.size ov1j179 ms, rown tskEncS 79 8 w175.heap.size ov2j179 ltj179, rafo w175.heap.size ltj179]) hB181 (List.forall_mem_cons.2 ⟨fun g hx => ((hB181.ltAt 0 rfl g hx).2 rfl), List.forall_mem_cons.2 ⟨fun g hx => ((hB181.ltAt 1 rfl g hx).2 rfl), List.forall_mem_cons.2 ⟨fun g hx => ((hB181.ltAt 2 rfl g hx).2 rfl), fun _ h => by cases h⟩⟩⟩)
        clear F178
        clear hB181
        (try dsimp only [List.cons_append, List.nil_append] at F182)
        have HMXj179 := Lib.hid hmx_
        have hltj179 : ltj179.length ≤ ts.length ∧ ts.length ≤ ltj179.length := ⟨Nat.le_of_eq hmx_.1, Nat.le_of_eq hmx_.1.symm⟩
        clear hmx_
        obtain ⟨oa183, oc184, e_⟩ := (Own.sl (F182.at 0 rfl : Own mchEnc 77 3 w175.heap.size _ ov1j179 ms) (fun _ => rfl)).any
        subst e_
        obtain ⟨oa185, oc186, e_⟩ := (Own.sl (F182.at 1 rfl : Own tskEncS 79 8 w175.heap.size _ ov2j179 ltj179) (fun _ => rfl)).any
        subst e_
        (skip)
        go_wp2_with fail
        have F187 := F182.new 25 #[.slice oa183 ms.length oc184, .slice oa185 ltj179.length oc186] (n := w180.heap.size) (by simp)
        clear F182
        obtain ⟨gT188, cT189, e_⟩ := Own.opn (F187.at 2 rfl : Own tskEncS 79 8 w175.heap.size _ (.slice oa185 ltj179.length oc186) ltj179) (by omega)
        injection e_ with e1_ _ e2_
        subst e1_ e2_
        have gT188l := (F187.ltAt 2 rfl _ rfl).1
        obtain ⟨zk, hzk_⟩ : ∃ z_, ts[kk]? = some z_ := ⟨_, List.getElem?_eq_getElem (by omega)⟩
        have HZK := Lib.hid hzk_
        clear hzk_
        have hkl : (kk : Int) < (ltj179.length : Int) := by omega
        obtain ⟨xk, hz190_⟩ : ∃ z_, ltj179[kk]? = some z_ := ⟨_, List.getElem?_eq_getElem (by omega)⟩
        have hz190 := Lib.hid hz190_
        clear hz190_
        have HXK := Lib.hid (HMXj179.out.2.1 kk xk zk hz190.out HZK.out).1
        have hxh : 0 ≤ xk.ho.hi ∧ xk.ho.hi ≤ 30 := by rw [HXK.out.2.1]; have h_ := HTHJ.out zk (List.mem_of_getElem? HZK.out); have h2_ := (HOK.out.1.to_ kk zk HZK.out).ho; omega
        have b191 := F187.bx2 0 rfl
        have ge192 : World.cell? _ ⟨gT188, kk * 8 + 1 + 1, none⟩ = some (.int .i64 xk.ho.hi) := (by simpa using (Own.sl (F187.at 2 rfl : Own tskEncS 79 8 w175.heap.size _ (.slice (some ⟨gT188, 0, none⟩) ltj179.length oc186) ltj179) (fun _ => rfl)).cells hz190.out 2 _ rfl)
        have gl193 := cell_lt ge192
        have ge194 : World.cell? _ ⟨gT188, kk * 8 + 1 + 1, none⟩ = some (.int .i64 xk.ho.hi) := (by simpa using (Own.sl (F187.at 2 rfl : Own tskEncS 79 8 w175.heap.size _ (.slice (some ⟨gT188, 0, none⟩) ltj179.length oc186) ltj179) (fun _ => rfl)).cells hz190.out 2 _ rfl)
        have gl195 := cell_lt ge194
        have ge196 : World.frozen? _ ⟨gT188, kk * 8 + 1 + 1, none⟩ = false := Own.live (F187.at 2 rfl : Own tskEncS 79 8 w175.heap.size _ (.slice (some ⟨gT188, 0, none⟩) ltj179.length oc186) ltj179) _
        have hne197 : ¬ gT188 = w180.heap.size := F187.neAt 2 0 rfl rfl (by decide) (.inl rfl) gT188 rfl
        have hne197s : ¬ w180.heap.size = gT188 := fun e => hne197 e.symm
        go_wp2_with fail
        clear b191 ge192 gl193 ge194 gl195 ge196 hne197 hne197s
        have F198 := Bun.setOwn (sz := 8) (fun _ => rfl) (F187.front 2 rfl rfl) hz190.out (y := (moreT xk 1)) (j := 2) (u := (.int .i64 (xk.ho.hi + 1))) (by decide) rfl rfl
        clear F187
        have HMS := Lib.hid (mixT_set (d := 1) HMXj179.out hz190.out HZK.out (Nat.le_refl _))
        have HBE2 : Hid (bothErr ms (ltj179.set kk (moreT xk 1)) dl = 0) := Lib.hid (by rw [bothErr_same HMS.out]; exact more_err HBE1.out HZK.out (by decide) (by have h_ := HXK.out.2.1; rw [← h_]; omega))
        refine (btimes_ok 0 _ _ _ ms (ltj179.set kk (moreT xk 1)) 0 _ _ dl _ (jobAt_more (F198.at 2 rfl : Own mchEnc 77 3 w175.heap.size _ (.slice oa183 ms.length oc184) ms) (F198.at 0 rfl : Own tskEncS 79 8 w175.heap.size _ (.slice (some ⟨gT188, 0, none⟩) ltj179.length oc186) (ltj179.set kk (moreT xk 1))) (F198.at 3 rfl : ∀ t ∈ ltj179, Own intEnc 3 1 w175.heap.size _ t.av t.af) HMXj179.out.2.2 hz190.out) (Nat.le_refl _) (F198.slY 8 rfl) (Nat.le_refl _) HBE2.out _ _ rfl rfl).mono ?_
        rintro e w201 ⟨at_t2, ct_t2, lt_t2, ht_t2, rfl, ⟨htx_t2, hty_t2⟩, htz_t2, hg199⟩
        have hg199s := hg199.size
        (try simp at hg199s)
        have F202 := F198.add (rsl timEnc 4 lt_t2 ht_t2 (.slice at_t2 (ltj179.set kk (moreT xk 1)).length ct_t2) (timN (caseOf false ms (ltj179.set kk (moreT xk 1)) dl) (caseOf true ms (ltj179.set kk (moreT xk 1)) dl) (ltj179.set kk (moreT xk 1)).length (ltj179.set kk (moreT xk 1)).length)) hg199 (htz_t2) (fun g e => ⟨Nat.le_trans htx_t2 e.1, Nat.lt_of_lt_of_le e.2 hty_t2⟩)
        clear F198
        clear hg199
        go_wp2_with fail
        have F203 := F202.new 39 #[.int .i64 ((caseOf false ms (ltj179.set kk (moreT xk 1)) dl).opn ltj179.length), .int .i64 ((caseOf true ms (ltj179.set kk (moreT xk 1)) dl).opn ltj179.length)] (n := w201.heap.size) (by simp)
        clear F202
        obtain ⟨w204, hx205, F207, hxs206⟩ := (show Bun w [rbox w201.heap.size 39 #[.int .i64 ((caseOf false ms (ltj179.set kk (moreT xk 1)) dl).opn ltj179.length), .int .i64 ((caseOf true ms (ltj179.set kk (moreT xk 1)) dl).opn ltj179.length)], rsl timEnc 4 lt_t2 ht_t2 (.slice at_t2 (ltj179.set kk (moreT xk 1)).length ct_t2) (timN (caseOf false ms (ltj179.set kk (moreT xk 1)) dl) (caseOf true ms (ltj179.set kk (moreT xk 1)) dl) (ltj179.set kk (moreT xk 1)).length (ltj179.set kk (moreT xk 1)).length), rown tskEncS 79 8 w175.heap.size (.slice (some ⟨gT188, 0, none⟩) ltj179.length oc186) (ltj179.set kk (moreT xk 1)), rown mchEnc 77 3 w175.heap.size (.slice oa183 ms.length oc184) ms, rafo w175.heap.size ltj179, rsl intEnc 1 lc_ hc_ (.slice (some ⟨x156, o157, none⟩) C.length cc_) (ints C), rbox w20.heap.size 39 #[.int .i64 ((caseOf false ms ts dl).opn ts.length), .int .i64 ((caseOf true ms ts dl).opn ts.length)], rsl timEnc 4 lt_t1 ht_t1 (.slice (some ⟨x158, o159, none⟩) ts.length ct_t1) (timN (caseOf false ms ts dl) (caseOf true ms ts dl) ts.length ts.length), rbox w15.heap.size 25 #[.slice a1J ms.length c1J, .slice (some ⟨x160, o161, none⟩) ts.length c2J], rsl weaEnc 6 lw_dl hw_dl (.slice aw_dl dl.length cw_dl) dl, rseed sb, rsl mchEnc 3 loJ hiJ (.slice a1J ms.length c1J) ms, rsl tskEnc 8 loJ hiJ (.slice (some ⟨x160, o161, none⟩) ts.length c2J) ts, rafs loJ hiJ ts, rsl intEnc 1 0 w.heap.size (.slice na zs.length nc) zs] _ from (F203.drop 3 rfl)).name
        (try simp at hxs206)
        rw [hx205]
        clear hx205 F203
        obtain ⟨v, hz208_⟩ : ∃ z_, ts[o1]? = some z_ := ⟨_, List.getElem?_eq_getElem (by omega)⟩
        have hz208 := Lib.hid hz208_
        clear hz208_
        obtain ⟨a_v, c_v, hav_v, hcap_v, hsl_v⟩ := Afs.open (F207.at 13 rfl : Afs loJ hiJ _ ts) hz208.out
        have HAV_v := Lib.hid hav_v
        clear hav_v
        have F209 := F207.more 13 (rsl intEnc 1 loJ hiJ (.slice a_v v.af.length c_v) v.af) rfl rfl rfl (fun _ h_ => h_) hsl_v
        clear F207
        have hm_v := (F209.at 0 rfl : Sl intEnc 1 loJ hiJ _ (.slice a_v v.af.length c_v) v.af).len
        unfold maxLen at hm_v
        have hz210 : Hid ((timN (caseOf false ms ts dl) (caseOf true ms ts dl) ts.length ts.length)[o1]? = some (timAt (caseOf false ms ts dl) (caseOf true ms ts dl) ts.length o1)) := Lib.hid (timN_get (by omega))
        have hoi : (o1 : Int) < (ts.length : Int) := by omega
        have HVF : Hid (v.wa.hi = (caseOf true ms ts dl).wa o1) := Lib.hid (casew (c := (caseOf true ms ts dl)) (Lib.hid rfl) hz208.out).2.2.1
        have hvb := HCO.out.wa o1
        rw [← HVF.out] at hvb
        have heb := (caseOf true ms ts dl).en_bd (fun i => (HCO.out.fr i).1) (n := ts.length) (k := o1) (by omega)
        rw [show (caseOf true ms ts dl).past = 24 * (dl.length : Int) + 1 from rfl] at heb
        have kn211 : (caseOf true ms ts dl).opn ts.length ≤ (caseOf true ms (ltj179.set kk (moreT xk 1)) dl).opn ltj179.length := (by rw [caseOf_same HMS.out]; have e_ := HMS.out.1; rw [List.length_set, List.length_set] at e_; rw [e_]; have h_ := (more_le (dl := dl) (d := 0) (e := 1) HOK.out.1 HZK.out (by decide) (by decide)).opn ts.length; rwa [more_zero HZK.out] at h_)
        have kn211H := Lib.hid kn211
        have kn211a : decide ((caseOf true ms ts dl).opn ts.length ≤ (caseOf true ms (ltj179.set kk (moreT xk 1)) dl).opn ltj179.length) = true := decide_eq_true kn211
        have kn212 : enAt ((caseOf true ms ts dl).plan ts.length) o1 + v.wa.hi = (caseOf true ms ts dl).opn ts.length := (by rw [HVF.out]; exact HO.out.2)
        have kn212H := Lib.hid kn212
        have kn212a : ((enAt ((caseOf true ms ts dl).plan ts.length) o1 + v.wa.hi) == ((caseOf true ms ts dl).opn ts.length)) = true := beq_t kn212
        have kn212b : ((enAt ((caseOf true ms ts dl).plan ts.length) o1 + v.wa.hi) != ((caseOf true ms ts dl).opn ts.length)) = false := bne_f kn212
        clear kn212
        go_wp2_with fail
        have hw214 : IntKind.i64.wrap (enAt ((caseOf true ms ts dl).plan ts.length) o1 + v.wa.hi) = enAt ((caseOf true ms ts dl).plan ts.length) o1 + v.wa.hi := IntWalk.i64_in _ (by omega)
        have F215 := F209.drew
        clear F209
        refine ru_begin (fun W => W.cell? ⟨w201.heap.size, 1, none⟩ = some (.int .i64 ((caseOf true ms (ltj179.set kk (moreT xk 1)) dl).opn ltj179.length)) ∧ W.cell? ⟨w20.heap.size, 1, none⟩ = some (.int .i64 ((caseOf true ms ts dl).opn ts.length)) ∧ W.cell? ⟨x158, o159 + o1 * 4 + 2 + 1, none⟩ = some (.int .i64 (enAt ((caseOf true ms ts dl).plan ts.length) o1)) ∧ W.cell? ⟨w15.heap.size, 1, none⟩ = some (.slice (some ⟨x160, o161, none⟩) ts.length c2J) ∧ W.cell? ⟨x160, o161 + o1 * 8 + 3 + 1, none⟩ = some (.int .i64 v.wa.hi)) 31 (by kernel_rfl) ?_ ?_
        · exact ⟨F215.cl 1 1 rfl rfl, F215.cl 7 1 rfl rfl, (((F215.at 8 rfl : Sl timEnc 4 lt_t1 ht_t1 _ (.slice (some ⟨x158, o159, none⟩) ts.length ct_t1) (timN (caseOf false ms ts dl) (caseOf true ms ts dl) ts.length ts.length))).cells hz210.out 3 _ rfl), F215.cl 9 1 rfl rfl, (((F215.at 13 rfl : Sl tskEnc 8 loJ hiJ _ (.slice (some ⟨x160, o161, none⟩) ts.length c2J) ts)).cells hz208.out 4 _ rfl)⟩
        obtain ⟨wd217, hwd_⟩ : ∃ x : World, w204.drew = x := ⟨_, rfl⟩
        rw [hwd_] at F215 ⊢
        have wd217s : w204.heap.size ≤ wd217.heap.size := by rw [← hwd_]; exact Nat.le_refl _
        clear hwd_
        have hS216 := (And.intro (F215.cl 1 1 rfl rfl) (And.intro (F215.cl 7 1 rfl rfl) (And.intro ((((F215.at 8 rfl : Sl timEnc 4 lt_t1 ht_t1 _ (.slice (some ⟨x158, o159, none⟩) ts.length ct_t1) (timN (caseOf false ms ts dl) (caseOf true ms ts dl) ts.length ts.length))).cells hz210.out 3 _ rfl)) (And.intro (F215.cl 9 1 rfl rfl) ((((F215.at 13 rfl : Sl tskEnc 8 loJ hiJ _ (.slice (some ⟨x160, o161, none⟩) ts.length c2J) ts)).cells hz208.out 4 _ rfl))))))
        refine ru_t 0 [] ?_
        refine ru_t 1 [] ?_
        refine ru_t 2 [] ?_
        refine ru_t 3 [] ?_
        refine ru_t 4 [] ?_
        refine ru_t 5 [] ?_
        refine ru_t 6 [] ?_
        refine ru_t 7 [] ?_
        refine ru_t 8 [] ?_
        refine ru_t 9 [] ?_
        refine ru_t 10 [] ?_
        refine ru_t 11 [] ?_
        refine ru_t 12 [] ?_
        refine ru_t 13 [] ?_
        refine ru_t 14 [] ?_
        refine ru_t 15 [] ?_
        refine ru_t 16 [] ?_
        refine ru_t 17 [] ?_
        refine ru_t 18 [] ?_
        refine ru_t 19 [] ?_
        refine ru_t 20 [] ?_
        refine ru_t 21 [] ?_
        refine ru_t 22 [] ?_
        refine ru_t 23 [] ?_
        refine ru_t 24 [] ?_
        refine ru_t 25 [] ?_
        refine ru_t 26 [] ?_
        refine ru_t 27 [] ?_
        refine ru_t 28 [] ?_
        (try simp only [Act.put, List.setIfInBounds_toArray, List.set_cons_zero, List.set_cons_succ])
        clear hS216
        refine ru_one 29 rfl (by kernel_rfl) (fun K hK => ?_)
        go_simp
        refine (awake_c _).mono ?_
        rintro e w220 ⟨rfl, hg218⟩
        have hg218s := hg218.size
        (try simp at hg218s)
        have F221 := F215.gn hg218
        clear F215
        refine ru_back hK (by exact ⟨F221.cl 1 1 rfl rfl, F221.cl 7 1 rfl rfl, (((F221.at 8 rfl : Sl timEnc 4 lt_t1 ht_t1 _ (.slice (some ⟨x158, o159, none⟩) ts.length ct_t1) (timN (caseOf false ms ts dl) (caseOf true ms ts dl) ts.length ts.length))).cells hz210.out 3 _ rfl), F221.cl 9 1 rfl rfl, (((F221.at 13 rfl : Sl tskEnc 8 loJ hiJ _ (.slice (some ⟨x160, o161, none⟩) ts.length c2J) ts)).cells hz208.out 4 _ rfl)⟩) (fun hHeld => ?_)
        clear hK K
        (try simp only [Act.put, List.setIfInBounds_toArray, List.set_cons_zero, List.set_cons_succ])
        refine ru_p 30 ?_
        (try simp only [Act.put, List.setIfInBounds_toArray, List.set_cons_zero, List.set_cons_succ])
        refine ru_one 31 rfl (by kernel_rfl) (fun K hK => ?_)
        go_simp
        refine ru_back_late hK (by kernel_rfl) ?_
        clear hK K
        (try simp only [Act.put, List.setIfInBounds_toArray, List.set_cons_zero, List.set_cons_succ])
        refine ru_done (by kernel_rfl) ?_
        (try clear hw214)
        obtain ⟨w222, hx223, F225, hxs224⟩ := (show Bun w [rsl intEnc 1 loJ hiJ (.slice a_v v.af.length c_v) v.af, rsl timEnc 4 lt_t2 ht_t2 (.slice at_t2 (ltj179.set kk (moreT xk 1)).length ct_t2) (timN (caseOf false ms (ltj179.set kk (moreT xk 1)) dl) (caseOf true ms (ltj179.set kk (moreT xk 1)) dl) (ltj179.set kk (moreT xk 1)).length (ltj179.set kk (moreT xk 1)).length), rown tskEncS 79 8 w175.heap.size (.slice (some ⟨gT188, 0, none⟩) ltj179.length oc186) (ltj179.set kk (moreT xk 1)), rown mchEnc 77 3 w175.heap.size (.slice oa183 ms.length oc184) ms, rafo w175.heap.size ltj179, rsl intEnc 1 lc_ hc_ (.slice (some ⟨x156, o157, none⟩) C.length cc_) (ints C), rsl timEnc 4 lt_t1 ht_t1 (.slice (some ⟨x158, o159, none⟩) ts.length ct_t1) (timN (caseOf false ms ts dl) (caseOf true ms ts dl) ts.length ts.length), rsl weaEnc 6 lw_dl hw_dl (.slice aw_dl dl.length cw_dl) dl, rseed sb, rsl mchEnc 3 loJ hiJ (.slice a1J ms.length c1J) ms, rsl tskEnc 8 loJ hiJ (.slice (some ⟨x160, o161, none⟩) ts.length c2J) ts, rafs loJ hiJ ts, rsl intEnc 1 0 w.heap.size (.slice na zs.length nc) zs] _ from (((F221.drop 1 rfl).drop 6 rfl).drop 7 rfl)).name
        (try simp at hxs224)
        rw [hx223]
        clear hx223 F221
        go_wp2_with fail
        go_ret
        exact ⟨rfl, F225.gb⟩
    case atStart1 =>
      rw [HI31.out]
      exact ⟨0, (by first | kernel_rfl | rfl), (by first | kernel_rfl | rfl), (by first | kernel_rfl | rfl), (by first | kernel_rfl | rfl), (by first | kernel_rfl | rfl), (by first | kernel_rfl | rfl), rfl, Nat.zero_le _, rfl, (by first | exact Nat.le_refl _ | omega | (simp; done) | (simp; omega)), F27⟩
  · skip
    have c28a : ((chnE ms ts dl) == 0) = false := beq_f c28
    have c28b : ((chnE ms ts dl) != 0) = true := bne_t c28
    have c28H := Lib.hid c28
    clear c28
    have b226 := F27.bx2 3 rfl
    rcases chnE_cases HBE1.out with ⟨hz1_, hz2_⟩ | ⟨hz1_, hz3_, hz2_⟩ | ⟨hz1_, hz3_, hz2_⟩
    · skip
      have kn227 : chnE ms ts dl = 7 := hz2_
      have kn227H := Lib.hid kn227
      have kn227a : ((chnE ms ts dl) == 7) = true := beq_t kn227
      have kn227b : ((chnE ms ts dl) != 7) = false := bne_f kn227
      clear kn227
      have kn228 : (ts.length : Int) = 0 := (by omega)
      have kn228H := Lib.hid kn228
      have kn228a : ((ts.length : Int) == 0) = true := beq_t kn228
      have kn228b : ((ts.length : Int) != 0) = false := bne_f kn228
      clear kn228
      have kn229 : ¬ (chnE ms ts dl = 13) := (by rw [hz2_]; decide)
      have kn229H := Lib.hid kn229
      have kn229a : ((chnE ms ts dl) == 13) = false := beq_f kn229
      have kn229b : ((chnE ms ts dl) != 13) = true := bne_t kn229
      clear kn229
      have kn230 : ¬ (0 < (ts.length : Int)) := (by omega)
      have kn230H := Lib.hid kn230
      have kn230a : decide (0 < (ts.length : Int)) = false := dec_f kn230
      have hnl_ : ∀ (h : Decidable (ts = [])), @decide (ts = []) h = true := fun _ => decide_eq_true (List.eq_nil_of_length_eq_zero (by omega))
      have hnz_ : ∀ (h : Decidable (0 < ts.length)), @decide (0 < ts.length) h = false := fun _ => decide_eq_false (by omega)
      have hnI_ : (ts = []) = True := eq_true (List.eq_nil_of_length_eq_zero (by omega))
      by_cases hq_ : (caseOf true ms ts dl).opn ts.length = 24 * (dl.length : Int) + 1
      · skip
        have kn231 : (caseOf true ms ts dl).opn ts.length = 24 * (dl.length : Int) + 1 := hq_
        have kn231H := Lib.hid kn231
        have kn231a : (((caseOf true ms ts dl).opn ts.length) == (24 * (dl.length : Int) + 1)) = true := beq_t kn231
        have kn231b : (((caseOf true ms ts dl).opn ts.length) != (24 * (dl.length : Int) + 1)) = false := bne_f kn231
        clear kn231
        clear hz1_ hz2_ hq_
        have b232 := F27.bx2 1 rfl
        have b233 := F27.bx2 3 rfl
        go_wp2_with fail
        clear b232 b233
        clear b226
        refine (awake_c _).mono ?_
        rintro e w236 ⟨rfl, hg234⟩
        have hg234s := hg234.size
        (try simp at hg234s)
        have F237 := F27.gn hg234
        clear F27
        clear hg234
        go_wp2_with fail
        go_ret
        exact ⟨rfl, F237.gb⟩
      · skip
        have kn238 : ¬ ((caseOf true ms ts dl).opn ts.length = 24 * (dl.length : Int) + 1) := hq_
        have kn238H := Lib.hid kn238
        have kn238a : (((caseOf true ms ts dl).opn ts.length) == (24 * (dl.length : Int) + 1)) = false := beq_f kn238
        have kn238b : (((caseOf true ms ts dl).opn ts.length) != (24 * (dl.length : Int) + 1)) = true := bne_t kn238
        clear kn238
        clear hz1_ hz2_ hq_
        have b239 := F27.bx2 1 rfl
        have b240 := F27.bx2 3 rfl
        go_wp2_with fail
        clear b239 b240
        clear b226
        refine (awake_c _).mono ?_
        rintro e w243 ⟨rfl, hg241⟩
        have hg241s := hg241.size
        (try simp at hg241s)
        have F244 := F27.gn hg241
        clear F27
        clear hg241
        go_wp2_with fail
        go_ret
        exact ⟨rfl, F244.gb⟩
    · skip
      have kn245 : ¬ (chnE ms ts dl = 7) := (by rw [hz2_]; decide)
      have kn245H := Lib.hid kn245
      have kn245a : ((chnE ms ts dl) == 7) = false := beq_f kn245
      have kn245b : ((chnE ms ts dl) != 7) = true := bne_t kn245
      clear kn245
      have kn246 : ¬ ((ts.length : Int) = 0) := (by omega)
      have kn246H := Lib.hid kn246
      have kn246a : ((ts.length : Int) == 0) = false := beq_f kn246
      have kn246b : ((ts.length : Int) != 0) = true := bne_t kn246
      clear kn246
      have kn247 : chnE ms ts dl = 13 := hz2_
      have kn247H := Lib.hid kn247
      have kn247a : ((chnE ms ts dl) == 13) = true := beq_t kn247
      have kn247b : ((chnE ms ts dl) != 13) = false := bne_f kn247
      clear kn247
      have kn248 : 0 < (ts.length : Int) := (by omega)
      have kn248H := Lib.hid kn248
      have kn248a : decide (0 < (ts.length : Int)) = true := decide_eq_true kn248
      have kn249 : (caseOf true ms ts dl).opn ts.length = 24 * (dl.length : Int) + 1 := hz3_
      have kn249H := Lib.hid kn249
      have kn249a : (((caseOf true ms ts dl).opn ts.length) == (24 * (dl.length : Int) + 1)) = true := beq_t kn249
      have kn249b : (((caseOf true ms ts dl).opn ts.length) != (24 * (dl.length : Int) + 1)) = false := bne_f kn249
      clear kn249
      clear hz1_ hz2_ hz3_
      have b250 := F27.bx2 1 rfl
      have b251 := F27.bx2 3 rfl
      go_wp2_with fail
      clear b250 b251
      clear b226
      refine (awake_c _).mono ?_
      rintro e w254 ⟨rfl, hg252⟩
      have hg252s := hg252.size
      (try simp at hg252s)
      have F255 := F27.gn hg252
      clear F27
      clear hg252
      go_wp2_with fail
      go_ret
      exact ⟨rfl, F255.gb⟩
    · exact absurd hz2_ c28H.out

end Go.Proofs.Ytokelpmngahnoaa
