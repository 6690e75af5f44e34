/- build: BuildTimes walked. -/
import Derived.Test.YtokelpmngahnoaaZL0
import Derived.Test.YtokelpmngahnoaaZE1
import Derived.Test.YtokelpmngahnoaaZE2
import Derived.Test.YtokelpmngahnoaaZJK1
import Derived.Test.YtokelpmngahnoaaZJK2
import Derived.Test.YtokelpmngahnoaaZJK3
import Derived.Test.YtokelpmngahnoaaZW2
import Derived.Test.YtokelpmngahnoaaZT3
import Derived.Test.YtokelpmngahnoaaZT4
set_option linter.unusedVariables false
set_option linter.unusedSimpArgs false
set_option linter.unnecessarySimpa false
namespace Go.Proofs.Ytokelpmngahnoaa
open Go.RowKit
set_option maxRecDepth 100000
attribute [local go_sem] Oper.semAt_some
def rowEnc (v : Value) : List Value := [v]
def jvEnc (p : Value × Value) : List Value := [p.1, p.2]
theorem job_of {v1 v2 u1 u2 d1 d2 : Value} {zj : Value × Value} {zd : Value} (m0 ms : List Mch) (t0 ts : List Tsk) (d0 dl : List Wea) {k : Nat} (h : [(v1, v2), (u1, u2), (u1, u2)][k]? = some zj) (h' : [d1, d2, d1][k]? = some zd) :
    ∃ (jm : List Mch) (jt : List Tsk) (jd : List Wea), ((zj = (v1, v2) ∧ jm = m0 ∧ jt = t0) ∨ (zj = (u1, u2) ∧ jm = ms ∧ jt = ts)) ∧ ((zd = d1 ∧ jd = d0) ∨ (zd = d2 ∧ jd = dl)) := by
  match k, h, h' with
  | 0, h, h' => exact ⟨m0, t0, d0, .inl ⟨by simpa using h.symm, rfl, rfl⟩, .inl ⟨by simpa using h'.symm, rfl⟩⟩
  | 1, h, h' => exact ⟨ms, ts, dl, .inr ⟨by simpa using h.symm, rfl, rfl⟩, .inr ⟨by simpa using h'.symm, rfl⟩⟩
  | 2, h, h' => exact ⟨ms, ts, d0, .inr ⟨by simpa using h.symm, rfl, rfl⟩, .inl ⟨by simpa using h'.symm, rfl⟩⟩
  | n + 3, h, _ => simp at h
theorem JobAt.wide {lo hi lo' hi' : Nat} {w : World} {vm vt : Value} {ms : List Mch} {ts : List Tsk} (h : JobAt lo hi w vm vt ms ts) (h1 : lo' ≤ lo) (h2 : hi ≤ hi') : JobAt lo' hi' w vm vt ms ts :=
  ⟨h.m.wide h1 h2, h.t.wide h1 h2, fun t ht => ⟨(h.af t ht).1.wide h1 h2, (h.af t ht).2⟩⟩
theorem job_pick {w : World} {v1 v2 u1 u2 : Value} {zj : Value × Value} {m0 ms jm : List Mch} {t0 ts jt : List Tsk} {l1 h1 l2 h2 : Nat} (h : (zj = (v1, v2) ∧ jm = m0 ∧ jt = t0) ∨ (zj = (u1, u2) ∧ jm = ms ∧ jt = ts)) (s0 : JobAt l1 h1 w v1 v2 m0 t0) (s1 : JobAt l2 h2 w u1 u2 ms ts) (b0 : h1 ≤ w.heap.size) (b1 : h2 ≤ w.heap.size) : JobAt 0 w.heap.size w zj.1 zj.2 jm jt := by
  rcases h with ⟨rfl, rfl, rfl⟩ | ⟨rfl, rfl, rfl⟩
  · exact s0.wide (Nat.zero_le _) b0
  · exact s1.wide (Nat.zero_le _) b1
theorem day_pick {w : World} {v0 v1 zv : Value} {d0 dl dk : List Wea} {l1 h1 l2 h2 : Nat} (h : zv = v0 ∧ dk = d0 ∨ zv = v1 ∧ dk = dl) (s0 : Sl weaEnc 6 l1 h1 w v0 d0) (s1 : Sl weaEnc 6 l2 h2 w v1 dl) (b0 : h1 ≤ w.heap.size) (b1 : h2 ≤ w.heap.size) : Sl weaEnc 6 0 w.heap.size w zv dk := by
  rcases h with ⟨rfl, rfl⟩ | ⟨rfl, rfl⟩
  · exact s0.wide (Nat.zero_le _) b0
  · exact s1.wide (Nat.zero_le _) b1
theorem af_len {i : Nat} {l : List Int} (h : l.Nodup) (hl : ∀ a ∈ l, 0 ≤ a ∧ a < (i : Int)) : l.length ≤ i := by
  have h2 := List.Nodup.length_le_of_subset (l₂ := (List.range i).map (fun (x : Nat) => (x : Int))) h (fun a ha => by
    have := hl a ha
    exact List.mem_map.2 ⟨a.toNat, by simp; omega, by omega⟩)
  simpa using h2
/-- Small enough to be copied. -/
structure JSmall (ms : List Mch) (ts : List Tsk) : Prop where
  m : ms.length ≤ 100000
  t : ts.length ≤ 100000
  a : ∀ t ∈ ts, t.af.length ≤ 100000
theorem jsmall_ok {ms : List Mch} {ts : List Tsk} (h : JobOk ms ts) : JSmall ms ts := by
  have h1 := h.nm
  have h2 := h.nt
  refine ⟨by omega, by omega, fun t ht => ?_⟩
  obtain ⟨k, hk, e⟩ := List.getElem_of_mem ht
  have h3 := h.to_ k t (by rw [List.getElem?_eq_getElem hk, e])
  have := af_len h3.nd h3.af
  omega
theorem jsmall_big {ms : List Mch} {ts : List Tsk} {dl : List Wea} (h : BigOk ms ts dl) : JSmall ms ts := ⟨Nat.le_trans h.m (by omega), Nat.le_trans h.t (by omega), fun t ht => Nat.le_trans (h.af t ht) (by omega)⟩
theorem jsmall_pick {v1 v2 u1 u2 : Value} {zj : Value × Value} {m0 ms jm : List Mch} {t0 ts jt : List Tsk} (h : (zj = (v1, v2) ∧ jm = m0 ∧ jt = t0) ∨ (zj = (u1, u2) ∧ jm = ms ∧ jt = ts)) (h0 : JSmall m0 t0) (h1 : JSmall ms ts) : JSmall jm jt := by
  rcases h with ⟨_, rfl, rfl⟩ | ⟨_, rfl, rfl⟩
  · exact h0
  · exact h1

theorem rng_times_walk (t : Nat → Value) : ((List.range 96).map t).toArray = List.toArray [t 0, t 1, t 2, t 3, t 4, t 5, t 6, t 7, t 8, t 9, t 10, t 11, t 12, t 13, t 14, t 15, t 16, t 17, t 18, t 19, t 20, t 21, t 22, t 23, t 24, t 25, t 26, t 27, t 28, t 29, t 30, t 31, t 32, t 33, t 34, t 35, t 36, t 37, t 38, t 39, t 40, t 41, t 42, t 43, t 44, t 45, t 46, t 47, t 48, t 49, t 50, t 51, t 52, t 53, t 54, t 55, t 56, t 57, t 58, t 59, t 60, t 61, t 62, t 63, t 64, t 65, t 66, t 67, t 68, t 69, t 70, t 71, t 72, t 73, t 74, t 75, t 76, t 77, t 78, t 79, t 80, t 81, t 82, t 83, t 84, t 85, t 86, t 87, t 88, t 89, t 90, t 91, t 92, t 93, t 94, t 95] := rfl
set_option maxHeartbeats 64000000 in
theorem times_walk (vm vt : Value) (m0 : List Mch) (t0 : List Tsk) (vd : Value) (d0 : List Wea) (vn : Value) (zs : List Int) (w : World) (hj : JobAt 0 w.heap.size w vm vt m0 t0) (hd : Sl weaEnc 6 0 w.heap.size w vd d0) (hn : Sl intEnc 1 0 w.heap.size w vn zs) :
    Calls Try.prog 3 #[.agg #[vm, vt], vd, vn] w (Ret (.bool true) w) := by
  have F1 : Bun w [] w := Bun.nil _
  obtain ⟨hms0, hts0, haf0⟩ := hj
  have hm_ms0 := hms0.len
  unfold maxLen at hm_ms0
  obtain ⟨aM0, cM0, rfl⟩ := hms0.any
  have F2 := F1.sl0 hms0 (Nat.le_refl _) rfl
  clear F1
  clear hms0
  have hm_ts0 := hts0.len
  unfold maxLen at hm_ts0
  obtain ⟨aT0, cT0, rfl⟩ := hts0.any
  have F3 := F2.sl0 hts0 (Nat.le_refl _) rfl
  clear F2
  clear hts0
  have F4 := F3.non0 (rafs 0 w.heap.size t0) haf0 (fun _ h_ => Nat.lt_of_lt_of_le h_.2 (Nat.le_refl _)) rfl rfl
  clear F3
  clear haf0
  have hm_ds0 := hd.len
  unfold maxLen at hm_ds0
  obtain ⟨ad0, cd0, rfl⟩ := hd.any
  have F5 := F4.sl0 hd (Nat.le_refl _) rfl
  clear F4
  clear hd
  obtain ⟨na, nc, rfl⟩ := hn.any
  have hm_nums := hn.len
  unfold maxLen at hm_nums
  have F6 := F5.sl0 hn (Nat.le_refl _) rfl
  clear F5
  go_enter Try.func3, Try.ntmps3
  go_wp2_with fail
  have F8 := F6.new 25 #[.slice aM0 m0.length cM0, .slice aT0 t0.length cT0] (n := w.heap.size) (by simp)
  clear F6
  refine (bbig_c 0 w.heap.size _ _ m0 t0 0 w.heap.size _ d0 _ (JobAt.mk (F8.at 5 rfl : Sl mchEnc 3 0 w.heap.size _ (.slice aM0 m0.length cM0) m0) (F8.at 4 rfl : Sl tskEnc 8 0 w.heap.size _ (.slice aT0 t0.length cT0) t0) (F8.at 3 rfl : Afs 0 w.heap.size _ t0)) (by first | omega | (simp; done) | (simp; omega)) (F8.at 2 rfl : Sl weaEnc 6 0 w.heap.size _ (.slice ad0 d0.length cd0) d0) (by first | omega | (simp; done) | (simp; omega))).mono ?_
  rintro e w11 ⟨bb7, rfl, hbok, hg9⟩
  have HBK := Lib.hid hbok
  clear hbok
  have hg9s := hg9.size
  (try simp at hg9s)
  have F12 := F8.gn hg9
  clear F8
  clear hg9
  cases c13 : bb7
  · skip
    have c13H := Lib.hid c13
    have HSM0 := Lib.hid (jsmall_big (HBK.out c13))
    go_wp2_with fail
    refine (newSeed_c 0 w.heap.size _ zs _ (F12.at 1 rfl : Sl intEnc 1 0 w.heap.size _ (.slice na zs.length nc) zs)).mono ?_
    rintro e w16 ⟨sb, rfl, hsb, hsbs, hg14⟩
    have hsbl := hsbs.lt
    have hg14s := hg14.size
    (try simp at hg14s)
    have F17 := F12.add (rseed sb) hg14 (hsbs) (fun g e => by cases e; exact ⟨hsb, hsbs.lt⟩)
    clear F12
    clear hg14
    go_wp2_with fail
    refine (jobOf_c sb 8 _ (F17.at 0 rfl : SeedAt _ sb) (by omega)).mono ?_
    rintro e w20 ⟨ms, ts, a1J, a2J, c1J, c2J, loJ, hiJ, rfl, ⟨hxJ, hyJ⟩, hjJ, ⟨hjeJ, hmaJ, hmbJ, htaJ⟩, hs19, hg18⟩
    have HJEJ := Lib.hid hjeJ
    clear hjeJ
    have hg18s := hg18.size
    (try simp at hg18s)
    have F21 := F17.seedAdd (rafs loJ hiJ ts) hg18 hs19 (hjJ.af) (fun g e => ⟨Nat.le_trans hxJ e.1, Nat.lt_of_lt_of_le e.2 hyJ⟩)
    clear F17
    clear hg18
    have F22 := F21.more 0 (rsl tskEnc 8 loJ hiJ (.slice a2J ts.length c2J) ts) rfl rfl rfl (fun _ h_ => h_) (Sl.gb hjJ.t (gb_refl _ none) (fun _ e => by cases e))
    clear F21
    have hm_tsJ := (F22.at 0 rfl : Sl tskEnc 8 loJ hiJ _ (.slice a2J ts.length c2J) ts).len
    unfold maxLen at hm_tsJ
    have F23 := F22.more 1 (rsl mchEnc 3 loJ hiJ (.slice a1J ms.length c1J) ms) rfl rfl rfl (fun _ h_ => h_) (Sl.gb hjJ.m (gb_refl _ none) (fun _ e => by cases e))
    clear F22
    have hm_msJ := (F23.at 0 rfl : Sl mchEnc 3 loJ hiJ _ (.slice a1J ms.length c1J) ms).len
    unfold maxLen at hm_msJ
    go_wp2_with fail
    refine (weekOf_c sb 6 _ ((F23.front 3 rfl rfl).at 0 rfl : SeedAt _ sb) (by omega)).mono ?_
    rintro e w26 ⟨dl, aw_dl, cw_dl, lw_dl, hw_dl, rfl, ⟨hwx_dl, hwy_dl⟩, hwz_dl, ⟨hwl_dl, hwe_dl⟩, hs25, hg24⟩
    have HWE_dl := Lib.hid hwe_dl
    clear hwe_dl
    have hg24s := hg24.size
    (try simp at hg24s)
    have F27 := (F23.front 3 rfl rfl).seedAdd (rsl weaEnc 6 lw_dl hw_dl (.slice aw_dl dl.length cw_dl) dl) hg24 hs25 (hwz_dl) (fun g e => ⟨Nat.le_trans hwx_dl e.1, Nat.lt_of_lt_of_le e.2 hwy_dl⟩)
    clear F23
    clear hg24
    have HSMJ := Lib.hid (jsmall_ok (jobOk HJEJ.out))
    have b28 := F27.bx2 5 rfl
    go_wp2_with fail
    clear b28
    have F29 := F27.new 25 #[.slice a1J ms.length c1J, .slice a2J ts.length c2J] (n := w26.heap.size) (by simp)
    clear F27
    have F30 := F29.new 25 #[.slice aM0 m0.length cM0, .slice aT0 t0.length cT0, .slice a1J ms.length c1J, .slice a2J ts.length c2J, .slice a1J ms.length c1J, .slice a2J ts.length c2J] (n := (w26.heap.size + 1)) (by simp)
    clear F29
    have F31 := F30.new 26 #[.slice ad0 d0.length cd0, .slice aw_dl dl.length cw_dl, .slice ad0 d0.length cd0] (n := (w26.heap.size + 2)) (by simp)
    clear F30
    have F32 := (F31.front 1 rfl rfl).lit jvEnc 2 [((.slice aM0 m0.length cM0 : Value), (.slice aT0 t0.length cT0 : Value)), (.slice a1J ms.length c1J, .slice a2J ts.length c2J), (.slice a1J ms.length c1J, .slice a2J ts.length c2J)] 3 (fun _ => rfl) rfl (by show (3 : Nat) ≤ 1000; omega)
    clear F31
    have F33 := (F32.front 1 rfl rfl).lit rowEnc 1 [(.slice ad0 d0.length cd0 : Value), .slice aw_dl dl.length cw_dl, .slice ad0 d0.length cd0] 3 (fun _ => rfl) rfl (by show (3 : Nat) ≤ 1000; omega)
    clear F32
    (skip)
    obtain ⟨HI34_, HI340⟩ : ∃ I : (Nat → Value) → List Deferred → World → Prop, I = (fun t ds wr => ∃ (k : Nat), t 10 = .slice (some ⟨w26.heap.size + 1, 0, none⟩) 3 3 ∧ t 11 = .slice (some ⟨w26.heap.size + 2, 0, none⟩) 3 3 ∧ t 12 = .int .i64 (k : Int) ∧ k ≤ 3 ∧ ds = [] ∧ w26.heap.size ≤ wr.heap.size ∧ Bun w [rsl rowEnc 1 (w26.heap.size + 2) ((w26.heap.size + 2) + 1) (.slice (some ⟨w26.heap.size + 2, 0, none⟩) 3 3) ([(.slice ad0 d0.length cd0 : Value), .slice aw_dl dl.length cw_dl, .slice ad0 d0.length cd0]), rsl jvEnc 2 (w26.heap.size + 1) ((w26.heap.size + 1) + 1) (.slice (some ⟨w26.heap.size + 1, 0, none⟩) 3 3) ([((.slice aM0 m0.length cM0 : Value), (.slice aT0 t0.length cT0 : Value)), (.slice a1J ms.length c1J, .slice a2J ts.length c2J), (.slice a1J ms.length c1J, .slice a2J ts.length c2J)]), rsl weaEnc 6 lw_dl hw_dl (.slice aw_dl dl.length cw_dl) dl, rseed sb, rsl mchEnc 3 loJ hiJ (.slice a1J ms.length c1J) ms, rsl tskEnc 8 loJ hiJ (.slice a2J ts.length c2J) ts, rafs loJ hiJ ts, rsl intEnc 1 0 w.heap.size (.slice na zs.length nc) zs, rsl weaEnc 6 0 w.heap.size (.slice ad0 d0.length cd0) d0, rafs 0 w.heap.size t0, rsl tskEnc 8 0 w.heap.size (.slice aT0 t0.length cT0) t0, rsl mchEnc 3 0 w.heap.size (.slice aM0 m0.length cM0) m0] wr) := ⟨_, rfl⟩
    have HI34 := Lib.hid HI340
    clear HI340
    refine wp_loopS 96 rfl HI34_ (fun t wr => 3 - (intOf (t 12)).toNat) ?atStart1 ?round1
    case round1 =>
      intro t ds wr hHid
      rw [HI34.out] at hHid
      obtain ⟨k, e10, e11, e12, hrel⟩ := hHid
      have e : ((List.range 96).map t).toArray = #[t 0, t 1, t 2, t 3, t 4, t 5, t 6, t 7, t 8, t 9, t 10, t 11, t 12, t 13, t 14, t 15, t 16, t 17, t 18, t 19, t 20, t 21, t 22, t 23, t 24, t 25, t 26, t 27, t 28, t 29, t 30, t 31, t 32, t 33, t 34, t 35, t 36, t 37, t 38, t 39, t 40, t 41, t 42, t 43, t 44, t 45, t 46, t 47, t 48, t 49, t 50, t 51, t 52, t 53, t 54, t 55, t 56, t 57, t 58, t 59, t 60, t 61, t 62, t 63, t 64, t 65, t 66, t 67, t 68, t 69, t 70, t 71, t 72, t 73, t 74, t 75, t 76, t 77, t 78, t 79, t 80, t 81, t 82, t 83, t 84, t 85, t 86, t 87, t 88, t 89, t 90, t 91, t 92, t 93, t 94, t 95] := rfl
      (try dsimp only at e)
      rw [e10, e11, e12] at e
      rw [e]
      simp only [e12]
      clear e e10 e11 e12
      obtain ⟨hk, rfl, hs36, hF35⟩ := hrel
      clear F33
      obtain ⟨w37, rfl⟩ : ∃ x_ : World, x_ = wr := ⟨_, rfl⟩
      by_cases c38 : (k : Int) < 3
      · skip
        have c38H := Lib.hid c38
        obtain ⟨zj, hz39_⟩ : ∃ z_, ([((.slice aM0 m0.length cM0 : Value), (.slice aT0 t0.length cT0 : Value)), (.slice a1J ms.length c1J, .slice a2J ts.length c2J), (.slice a1J ms.length c1J, .slice a2J ts.length c2J)])[k]? = some z_ := ⟨_, List.getElem?_eq_getElem (by show k < 3; omega)⟩
        have hz39 := Lib.hid hz39_
        clear hz39_
        obtain ⟨zd, hz40_⟩ : ∃ z_, ([(.slice ad0 d0.length cd0 : Value), .slice aw_dl dl.length cw_dl, .slice ad0 d0.length cd0])[k]? = some z_ := ⟨_, List.getElem?_eq_getElem (by show k < 3; omega)⟩
        have hz40 := Lib.hid hz40_
        clear hz40_
        obtain ⟨jm, jt, jd, hpk_⟩ := job_of m0 ms t0 ts d0 dl hz39.out hz40.out
        have HPK := Lib.hid hpk_
        clear hpk_
        have HSMK := Lib.hid (jsmall_pick HPK.out.1 HSM0.out HSMJ.out)
        have ge41 : World.cell? _ ⟨w26.heap.size + 1, k * 2, none⟩ = some zj.1 := (((hF35.at 1 rfl : Sl jvEnc 2 (w26.heap.size + 1) ((w26.heap.size + 1) + 1) _ (.slice (some ⟨w26.heap.size + 1, 0, none⟩) 3 3) ([((.slice aM0 m0.length cM0 : Value), (.slice aT0 t0.length cT0 : Value)), (.slice a1J ms.length c1J, .slice a2J ts.length c2J), (.slice a1J ms.length c1J, .slice a2J ts.length c2J)]))).cells0 hz39.out 0 _ rfl)
        have gl42 := cell_lt ge41
        have ge43 : World.cell? _ ⟨w26.heap.size + 1, k * 2 + 1, none⟩ = some zj.2 := (((hF35.at 1 rfl : Sl jvEnc 2 (w26.heap.size + 1) ((w26.heap.size + 1) + 1) _ (.slice (some ⟨w26.heap.size + 1, 0, none⟩) 3 3) ([((.slice aM0 m0.length cM0 : Value), (.slice aT0 t0.length cT0 : Value)), (.slice a1J ms.length c1J, .slice a2J ts.length c2J), (.slice a1J ms.length c1J, .slice a2J ts.length c2J)]))).cells0 hz39.out 1 _ rfl)
        go_wp2_with fail
        clear ge41 gl42 ge43
        obtain ⟨w44, hx45, F47, hxs46⟩ := (show Bun w [rsl rowEnc 1 (w26.heap.size + 2) ((w26.heap.size + 2) + 1) (.slice (some ⟨w26.heap.size + 2, 0, none⟩) 3 3) ([(.slice ad0 d0.length cd0 : Value), .slice aw_dl dl.length cw_dl, .slice ad0 d0.length cd0]), rsl jvEnc 2 (w26.heap.size + 1) ((w26.heap.size + 1) + 1) (.slice (some ⟨w26.heap.size + 1, 0, none⟩) 3 3) ([((.slice aM0 m0.length cM0 : Value), (.slice aT0 t0.length cT0 : Value)), (.slice a1J ms.length c1J, .slice a2J ts.length c2J), (.slice a1J ms.length c1J, .slice a2J ts.length c2J)]), rsl weaEnc 6 lw_dl hw_dl (.slice aw_dl dl.length cw_dl) dl, rseed sb, rsl mchEnc 3 loJ hiJ (.slice a1J ms.length c1J) ms, rsl tskEnc 8 loJ hiJ (.slice a2J ts.length c2J) ts, rafs loJ hiJ ts, rsl intEnc 1 0 w.heap.size (.slice na zs.length nc) zs, rsl weaEnc 6 0 w.heap.size (.slice ad0 d0.length cd0) d0, rafs 0 w.heap.size t0, rsl tskEnc 8 0 w.heap.size (.slice aT0 t0.length cT0) t0, rsl mchEnc 3 0 w.heap.size (.slice aM0 m0.length cM0) m0] _ from hF35).name
        (try simp at hxs46)
        rw [hx45]
        clear hx45 hF35
        refine (ownJob_c 0 _ _ _ jm jt _ (job_pick HPK.out.1 (JobAt.mk (F47.at 11 rfl : Sl mchEnc 3 0 w.heap.size _ (.slice aM0 m0.length cM0) m0) (F47.at 10 rfl : Sl tskEnc 8 0 w.heap.size _ (.slice aT0 t0.length cT0) t0) (F47.at 9 rfl : Afs 0 w.heap.size _ t0)) (JobAt.mk (F47.at 4 rfl : Sl mchEnc 3 loJ hiJ _ (.slice a1J ms.length c1J) ms) (F47.at 5 rfl : Sl tskEnc 8 loJ hiJ _ (.slice a2J ts.length c2J) ts) (F47.at 6 rfl : Afs loJ hiJ _ ts)) (by first | omega | (simp; done) | (simp; omega)) (by first | omega | (simp; done) | (simp; omega))) (Nat.le_refl _) HSMK.out.m HSMK.out.t HSMK.out.a).mono ?_
        rintro e w49 ⟨ov1j48, ov2j48, ltj48, rfl, hmx_, hB50⟩
        have hB50s := hB50.gb.size
        (try simp at hB50s)
        have F51 := F47.joinV (L2 := [rown mchEnc 77 3 w44.heap.size ov1j48 jm, rown tskEncS 79 8 w44.heap.size ov2j48 ltj48, rafo w44.heap.size ltj48]) hB50 (List.forall_mem_cons.2 ⟨fun g hx => ((hB50.ltAt 0 rfl g hx).2 rfl), List.forall_mem_cons.2 ⟨fun g hx => ((hB50.ltAt 1 rfl g hx).2 rfl), List.forall_mem_cons.2 ⟨fun g hx => ((hB50.ltAt 2 rfl g hx).2 rfl), fun _ h => by cases h⟩⟩⟩)
        clear F47
        clear hB50
        (try dsimp only [List.cons_append, List.nil_append] at F51)
        have HMXj48 := Lib.hid hmx_
        have hltj48 : ltj48.length ≤ jt.length ∧ jt.length ≤ ltj48.length := ⟨Nat.le_of_eq hmx_.1, Nat.le_of_eq hmx_.1.symm⟩
        clear hmx_
        obtain ⟨oa52, oc53, e_⟩ := (Own.sl (F51.at 0 rfl : Own mchEnc 77 3 w44.heap.size _ ov1j48 jm) (fun _ => rfl)).any
        subst e_
        obtain ⟨oa54, oc55, e_⟩ := (Own.sl (F51.at 1 rfl : Own tskEncS 79 8 w44.heap.size _ ov2j48 ltj48) (fun _ => rfl)).any
        subst e_
        (skip)
        go_wp2_with fail
        have F57 := F51.new 25 #[.slice oa52 jm.length oc53, .slice oa54 ltj48.length oc55] (n := w49.heap.size) (by simp)
        clear F51
        obtain ⟨w58, hx59, F61, hxs60⟩ := (show Bun w [rbox w49.heap.size 25 #[.slice oa52 jm.length oc53, .slice oa54 ltj48.length oc55], rown mchEnc 77 3 w44.heap.size (.slice oa52 jm.length oc53) jm, rown tskEncS 79 8 w44.heap.size (.slice oa54 ltj48.length oc55) ltj48, rafo w44.heap.size ltj48, rsl rowEnc 1 (w26.heap.size + 2) ((w26.heap.size + 2) + 1) (.slice (some ⟨w26.heap.size + 2, 0, none⟩) 3 3) ([(.slice ad0 d0.length cd0 : Value), .slice aw_dl dl.length cw_dl, .slice ad0 d0.length cd0]), rsl jvEnc 2 (w26.heap.size + 1) ((w26.heap.size + 1) + 1) (.slice (some ⟨w26.heap.size + 1, 0, none⟩) 3 3) ([((.slice aM0 m0.length cM0 : Value), (.slice aT0 t0.length cT0 : Value)), (.slice a1J ms.length c1J, .slice a2J ts.length c2J), (.slice a1J ms.length c1J, .slice a2J ts.length c2J)]), rsl weaEnc 6 lw_dl hw_dl (.slice aw_dl dl.length cw_dl) dl, rseed sb, rsl mchEnc 3 loJ hiJ (.slice a1J ms.length c1J) ms, rsl tskEnc 8 loJ hiJ (.slice a2J ts.length c2J) ts, rafs loJ hiJ ts, rsl intEnc 1 0 w.heap.size (.slice na zs.length nc) zs, rsl weaEnc 6 0 w.heap.size (.slice ad0 d0.length cd0) d0, rafs 0 w.heap.size t0, rsl tskEnc 8 0 w.heap.size (.slice aT0 t0.length cT0) t0, rsl mchEnc 3 0 w.heap.size (.slice aM0 m0.length cM0) m0] _ from F57).name
        (try simp at hxs60)
        rw [hx59]
        clear hx59 F57
        have F62 := F61.drew
        clear F61
        refine ru_begin (fun W => W.cell? ⟨w49.heap.size, 0, none⟩ = some (.slice oa52 jm.length oc53) ∧ W.cell? ⟨w49.heap.size, 1, none⟩ = some (.slice oa54 ltj48.length oc55) ∧ W.cell? ⟨w26.heap.size + 2, k, none⟩ = some zd) 12 (by kernel_rfl) ?_ ?_
        · exact ⟨F62.cl 0 0 rfl rfl, F62.cl 0 1 rfl rfl, (by have h_ := ((F62.at 4 rfl : Sl rowEnc 1 (w26.heap.size + 2) ((w26.heap.size + 2) + 1) _ (.slice (some ⟨w26.heap.size + 2, 0, none⟩) 3 3) ([(.slice ad0 d0.length cd0 : Value), .slice aw_dl dl.length cw_dl, .slice ad0 d0.length cd0]))).cells0 hz40.out 0 _ rfl; simpa using h_)⟩
        obtain ⟨wd64, hwd_⟩ : ∃ x : World, w58.drew = x := ⟨_, rfl⟩
        rw [hwd_] at F62 ⊢
        have wd64s : w58.heap.size ≤ wd64.heap.size := by rw [← hwd_]; exact Nat.le_refl _
        clear hwd_
        have hS63 := (And.intro (F62.cl 0 0 rfl rfl) (And.intro (F62.cl 0 1 rfl rfl) ((by have h_ := ((F62.at 4 rfl : Sl rowEnc 1 (w26.heap.size + 2) ((w26.heap.size + 2) + 1) _ (.slice (some ⟨w26.heap.size + 2, 0, none⟩) 3 3) ([(.slice ad0 d0.length cd0 : Value), .slice aw_dl dl.length cw_dl, .slice ad0 d0.length cd0]))).cells0 hz40.out 0 _ rfl; simpa using h_))))
        refine ru_t 0 [] ?_
        refine ru_t 1 [] ?_
        refine ru_t 2 [] ?_
        refine ru_t 3 [] ?_
        refine ru_t 4 [] ?_
        (try simp only [Act.put, List.setIfInBounds_toArray, List.set_cons_zero, List.set_cons_succ])
        clear hS63
        refine ru_state 96 (fun t w_ => ∃ (atq65 : Option Addr) (ctq65 : Nat) (ltq65 : Nat) (htq65 : Nat) (yg10 : Nat), t 10 = .slice (some ⟨w26.heap.size + 1, 0, none⟩) 3 3 ∧ t 11 = .slice (some ⟨w26.heap.size + 2, 0, none⟩) 3 3 ∧ t 12 = .int .i64 (k : Int) ∧ t 13 = .pointer (some ⟨w49.heap.size, 0, none⟩) ∧ t 14 = .slice atq65 ((timsOf jm jt jd).length) ctq65 ∧ t 15 = .pointer (some ⟨yg10, 0, none⟩) ∧ t 16 = .int .i64 (bothErr jm jt jd) ∧ w58.heap.size ≤ w_.heap.size ∧ Bun w [rbox yg10 39 #[.int .i64 ((opnOf jm jt jd).lo), .int .i64 ((opnOf jm jt jd).hi)], rsl timEnc 4 ltq65 htq65 (.slice atq65 (timsOf jm jt jd).length ctq65) (timsOf jm jt jd), rbox w49.heap.size 25 #[.slice oa52 jm.length oc53, .slice oa54 ltj48.length oc55], rown mchEnc 77 3 w44.heap.size (.slice oa52 jm.length oc53) jm, rown tskEncS 79 8 w44.heap.size (.slice oa54 ltj48.length oc55) ltj48, rafo w44.heap.size ltj48, rsl rowEnc 1 (w26.heap.size + 2) ((w26.heap.size + 2) + 1) (.slice (some ⟨w26.heap.size + 2, 0, none⟩) 3 3) ([(.slice ad0 d0.length cd0 : Value), .slice aw_dl dl.length cw_dl, .slice ad0 d0.length cd0]), rsl jvEnc 2 (w26.heap.size + 1) ((w26.heap.size + 1) + 1) (.slice (some ⟨w26.heap.size + 1, 0, none⟩) 3 3) ([((.slice aM0 m0.length cM0 : Value), (.slice aT0 t0.length cT0 : Value)), (.slice a1J ms.length c1J, .slice a2J ts.length c2J), (.slice a1J ms.length c1J, .slice a2J ts.length c2J)]), rsl weaEnc 6 lw_dl hw_dl (.slice aw_dl dl.length cw_dl) dl, rseed sb, rsl mchEnc 3 loJ hiJ (.slice a1J ms.length c1J) ms, rsl tskEnc 8 loJ hiJ (.slice a2J ts.length c2J) ts, rafs loJ hiJ ts, rsl intEnc 1 0 w.heap.size (.slice na zs.length nc) zs, rsl weaEnc 6 0 w.heap.size (.slice ad0 d0.length cd0) d0, rafs 0 w.heap.size t0, rsl tskEnc 8 0 w.heap.size (.slice aT0 t0.length cT0) t0, rsl mchEnc 3 0 w.heap.size (.slice aM0 m0.length cM0) m0] w_) #[true, true, true, true, true, true, true, true, true, true, true, true, true, true] 0 ?st66 ?nx66
        case st66 =>
          rintro t w67 ⟨atq65, ctq65, ltq65, htq65, yg10, e10, e11, e12, e13, e14, e15, e16, hsz66, F68⟩
          clear F62
          rw [rng_times_walk t, e10, e11, e12, e13, e14, e15, e16]
          clear e10 e11 e12 e13 e14 e15 e16
          have hws66 := F68.gb.size
          have yg10l := F68.ltAt 0 rfl yg10 rfl
          have yg10b := yg10l.2 rfl
          refine ru_done (by kernel_rfl) ?_
          obtain ⟨w69, hx70, F72, hxs71⟩ := F68.name
          (try simp at hxs71)
          rw [hx70]
          clear hx70 F68
          go_wp2_with fail
          have F74 := F72.drew
          clear F72
          refine ru_begin (fun W => W.cell? ⟨w26.heap.size + 1, k * 2, none⟩ = some zj.1 ∧ W.cell? ⟨w26.heap.size + 1, k * 2 + 1, none⟩ = some zj.2 ∧ W.cell? ⟨w26.heap.size + 2, k, none⟩ = some zd) 15 (by kernel_rfl) ?_ ?_
          · exact ⟨(((F74.at 7 rfl : Sl jvEnc 2 (w26.heap.size + 1) ((w26.heap.size + 1) + 1) _ (.slice (some ⟨w26.heap.size + 1, 0, none⟩) 3 3) ([((.slice aM0 m0.length cM0 : Value), (.slice aT0 t0.length cT0 : Value)), (.slice a1J ms.length c1J, .slice a2J ts.length c2J), (.slice a1J ms.length c1J, .slice a2J ts.length c2J)]))).cells0 hz39.out 0 _ rfl), (((F74.at 7 rfl : Sl jvEnc 2 (w26.heap.size + 1) ((w26.heap.size + 1) + 1) _ (.slice (some ⟨w26.heap.size + 1, 0, none⟩) 3 3) ([((.slice aM0 m0.length cM0 : Value), (.slice aT0 t0.length cT0 : Value)), (.slice a1J ms.length c1J, .slice a2J ts.length c2J), (.slice a1J ms.length c1J, .slice a2J ts.length c2J)]))).cells0 hz39.out 1 _ rfl), (by have h_ := ((F74.at 6 rfl : Sl rowEnc 1 (w26.heap.size + 2) ((w26.heap.size + 2) + 1) _ (.slice (some ⟨w26.heap.size + 2, 0, none⟩) 3 3) ([(.slice ad0 d0.length cd0 : Value), .slice aw_dl dl.length cw_dl, .slice ad0 d0.length cd0]))).cells0 hz40.out 0 _ rfl; simpa using h_)⟩
          obtain ⟨wd76, hwd_⟩ : ∃ x : World, w69.drew = x := ⟨_, rfl⟩
          rw [hwd_] at F74 ⊢
          have wd76s : w69.heap.size ≤ wd76.heap.size := by rw [← hwd_]; exact Nat.le_refl _
          clear hwd_
          have hS75 := (And.intro ((((F74.at 7 rfl : Sl jvEnc 2 (w26.heap.size + 1) ((w26.heap.size + 1) + 1) _ (.slice (some ⟨w26.heap.size + 1, 0, none⟩) 3 3) ([((.slice aM0 m0.length cM0 : Value), (.slice aT0 t0.length cT0 : Value)), (.slice a1J ms.length c1J, .slice a2J ts.length c2J), (.slice a1J ms.length c1J, .slice a2J ts.length c2J)]))).cells0 hz39.out 0 _ rfl)) (And.intro ((((F74.at 7 rfl : Sl jvEnc 2 (w26.heap.size + 1) ((w26.heap.size + 1) + 1) _ (.slice (some ⟨w26.heap.size + 1, 0, none⟩) 3 3) ([((.slice aM0 m0.length cM0 : Value), (.slice aT0 t0.length cT0 : Value)), (.slice a1J ms.length c1J, .slice a2J ts.length c2J), (.slice a1J ms.length c1J, .slice a2J ts.length c2J)]))).cells0 hz39.out 1 _ rfl)) ((by have h_ := ((F74.at 6 rfl : Sl rowEnc 1 (w26.heap.size + 2) ((w26.heap.size + 2) + 1) _ (.slice (some ⟨w26.heap.size + 2, 0, none⟩) 3 3) ([(.slice ad0 d0.length cd0 : Value), .slice aw_dl dl.length cw_dl, .slice ad0 d0.length cd0]))).cells0 hz40.out 0 _ rfl; simpa using h_))))
          refine ru_t 0 [] ?_
          refine ru_t 1 [] ?_
          refine ru_t 2 [] ?_
          refine ru_t 3 [] ?_
          refine ru_t 4 [] ?_
          refine ru_t 5 [] ?_
          refine ru_t 6 [] ?_
          refine ru_t 7 [] ?_
          (try simp only [Act.put, List.setIfInBounds_toArray, List.set_cons_zero, List.set_cons_succ])
          clear hS75
          refine ru_state 96 (fun t w_ => ∃ (atq77 : Option Addr) (ctq77 : Nat) (ltq77 : Nat) (htq77 : Nat) (yg13 : Nat), t 10 = .slice (some ⟨w26.heap.size + 1, 0, none⟩) 3 3 ∧ t 11 = .slice (some ⟨w26.heap.size + 2, 0, none⟩) 3 3 ∧ t 12 = .int .i64 (k : Int) ∧ t 13 = .pointer (some ⟨w49.heap.size, 0, none⟩) ∧ t 14 = .slice atq65 ((timsOf jm jt jd).length) ctq65 ∧ t 15 = .pointer (some ⟨yg10, 0, none⟩) ∧ t 16 = .int .i64 (bothErr jm jt jd) ∧ t 17 = .slice atq77 ((timsOf jm jt jd).length) ctq77 ∧ t 18 = .pointer (some ⟨yg13, 0, none⟩) ∧ t 19 = .int .i64 (bothErr jm jt jd) ∧ w69.heap.size ≤ w_.heap.size ∧ Bun w [rbox yg13 39 #[.int .i64 ((opnOf jm jt jd).lo), .int .i64 ((opnOf jm jt jd).hi)], rsl timEnc 4 ltq77 htq77 (.slice atq77 (timsOf jm jt jd).length ctq77) (timsOf jm jt jd), rbox yg10 39 #[.int .i64 ((opnOf jm jt jd).lo), .int .i64 ((opnOf jm jt jd).hi)], rsl timEnc 4 ltq65 htq65 (.slice atq65 (timsOf jm jt jd).length ctq65) (timsOf jm jt jd), rbox w49.heap.size 25 #[.slice oa52 jm.length oc53, .slice oa54 ltj48.length oc55], rown mchEnc 77 3 w44.heap.size (.slice oa52 jm.length oc53) jm, rown tskEncS 79 8 w44.heap.size (.slice oa54 ltj48.length oc55) ltj48, rafo w44.heap.size ltj48, rsl rowEnc 1 (w26.heap.size + 2) ((w26.heap.size + 2) + 1) (.slice (some ⟨w26.heap.size + 2, 0, none⟩) 3 3) ([(.slice ad0 d0.length cd0 : Value), .slice aw_dl dl.length cw_dl, .slice ad0 d0.length cd0]), rsl jvEnc 2 (w26.heap.size + 1) ((w26.heap.size + 1) + 1) (.slice (some ⟨w26.heap.size + 1, 0, none⟩) 3 3) ([((.slice aM0 m0.length cM0 : Value), (.slice aT0 t0.length cT0 : Value)), (.slice a1J ms.length c1J, .slice a2J ts.length c2J), (.slice a1J ms.length c1J, .slice a2J ts.length c2J)]), rsl weaEnc 6 lw_dl hw_dl (.slice aw_dl dl.length cw_dl) dl, rseed sb, rsl mchEnc 3 loJ hiJ (.slice a1J ms.length c1J) ms, rsl tskEnc 8 loJ hiJ (.slice a2J ts.length c2J) ts, rafs loJ hiJ ts, rsl intEnc 1 0 w.heap.size (.slice na zs.length nc) zs, rsl weaEnc 6 0 w.heap.size (.slice ad0 d0.length cd0) d0, rafs 0 w.heap.size t0, rsl tskEnc 8 0 w.heap.size (.slice aT0 t0.length cT0) t0, rsl mchEnc 3 0 w.heap.size (.slice aM0 m0.length cM0) m0] w_) #[true, true, true, true, true, true, true, true, true, true, true, true, true, true, true, true, true] 0 ?st78 ?nx78
          case st78 =>
            rintro t w79 ⟨atq77, ctq77, ltq77, htq77, yg13, e10, e11, e12, e13, e14, e15, e16, e17, e18, e19, hsz78, F80⟩
            clear F74
            rw [rng_times_walk t, e10, e11, e12, e13, e14, e15, e16, e17, e18, e19]
            clear e10 e11 e12 e13 e14 e15 e16 e17 e18 e19
            have hws78 := F80.gb.size
            have yg13l := F80.ltAt 0 rfl yg13 rfl
            have yg13b := yg13l.2 rfl
            have yg10l := F80.ltAt 2 rfl yg10 rfl
            have yg10b := yg10l.2 rfl
            refine ru_done (by kernel_rfl) ?_
            obtain ⟨w81, hx82, F84, hxs83⟩ := F80.name
            (try simp at hxs83)
            rw [hx82]
            clear hx82 F80
            go_wp2_with fail
            have F85 := F84.drew
            clear F84
            refine ru_begin (fun W => W.cell? ⟨yg10, 0, none⟩ = some (.int .i64 ((opnOf jm jt jd).lo)) ∧ W.cell? ⟨yg10, 1, none⟩ = some (.int .i64 ((opnOf jm jt jd).hi)) ∧ W.cell? ⟨yg13, 0, none⟩ = some (.int .i64 ((opnOf jm jt jd).lo)) ∧ W.cell? ⟨yg13, 1, none⟩ = some (.int .i64 ((opnOf jm jt jd).hi)) ∧ W.cell? ⟨w49.heap.size, 0, none⟩ = some (.slice oa52 jm.length oc53) ∧ W.cell? ⟨w49.heap.size, 1, none⟩ = some (.slice oa54 ltj48.length oc55) ∧ W.cell? ⟨w26.heap.size + 1, k * 2, none⟩ = some zj.1 ∧ W.cell? ⟨w26.heap.size + 1, k * 2 + 1, none⟩ = some zj.2) 22 (by kernel_rfl) ?_ ?_
            · exact ⟨F85.cl 2 0 rfl rfl, F85.cl 2 1 rfl rfl, F85.cl 0 0 rfl rfl, F85.cl 0 1 rfl rfl, F85.cl 4 0 rfl rfl, F85.cl 4 1 rfl rfl, (((F85.at 9 rfl : Sl jvEnc 2 (w26.heap.size + 1) ((w26.heap.size + 1) + 1) _ (.slice (some ⟨w26.heap.size + 1, 0, none⟩) 3 3) ([((.slice aM0 m0.length cM0 : Value), (.slice aT0 t0.length cT0 : Value)), (.slice a1J ms.length c1J, .slice a2J ts.length c2J), (.slice a1J ms.length c1J, .slice a2J ts.length c2J)]))).cells0 hz39.out 0 _ rfl), (((F85.at 9 rfl : Sl jvEnc 2 (w26.heap.size + 1) ((w26.heap.size + 1) + 1) _ (.slice (some ⟨w26.heap.size + 1, 0, none⟩) 3 3) ([((.slice aM0 m0.length cM0 : Value), (.slice aT0 t0.length cT0 : Value)), (.slice a1J ms.length c1J, .slice a2J ts.length c2J), (.slice a1J ms.length c1J, .slice a2J ts.length c2J)]))).cells0 hz39.out 1 _ rfl)⟩
            obtain ⟨wd87, hwd_⟩ : ∃ x : World, w81.drew = x := ⟨_, rfl⟩
            rw [hwd_] at F85 ⊢
            have wd87s : w81.heap.size ≤ wd87.heap.size := by rw [← hwd_]; exact Nat.le_refl _
            clear hwd_
            have hS86 := (And.intro (F85.cl 2 0 rfl rfl) (And.intro (F85.cl 2 1 rfl rfl) (And.intro (F85.cl 0 0 rfl rfl) (And.intro (F85.cl 0 1 rfl rfl) (And.intro (F85.cl 4 0 rfl rfl) (And.intro (F85.cl 4 1 rfl rfl) (And.intro ((((F85.at 9 rfl : Sl jvEnc 2 (w26.heap.size + 1) ((w26.heap.size + 1) + 1) _ (.slice (some ⟨w26.heap.size + 1, 0, none⟩) 3 3) ([((.slice aM0 m0.length cM0 : Value), (.slice aT0 t0.length cT0 : Value)), (.slice a1J ms.length c1J, .slice a2J ts.length c2J), (.slice a1J ms.length c1J, .slice a2J ts.length c2J)]))).cells0 hz39.out 0 _ rfl)) ((((F85.at 9 rfl : Sl jvEnc 2 (w26.heap.size + 1) ((w26.heap.size + 1) + 1) _ (.slice (some ⟨w26.heap.size + 1, 0, none⟩) 3 3) ([((.slice aM0 m0.length cM0 : Value), (.slice aT0 t0.length cT0 : Value)), (.slice a1J ms.length c1J, .slice a2J ts.length c2J), (.slice a1J ms.length c1J, .slice a2J ts.length c2J)]))).cells0 hz39.out 1 _ rfl)))))))))
            refine ru_t 0 [14, 11, 8, 3, 2] ?_
            refine ru_t 1 [14, 11, 8, 3, 2] ?_
            refine ru_t 2 [14, 11, 8, 3] ?_
            refine ru_t 3 [14, 11, 8] ?_
            refine ru_t 4 [14, 11, 8, 7, 6] ?_
            refine ru_t 5 [14, 11, 8, 7, 6] ?_
            refine ru_t 6 [14, 11, 8, 7] ?_
            refine ru_t 7 [14, 11, 8] ?_
            refine ru_t 8 [14, 11] ?_
            refine ru_t 9 [14, 11] ?_
            refine ru_t 10 [14, 11] ?_
            (try simp only [Act.put, List.setIfInBounds_toArray, List.set_cons_zero, List.set_cons_succ])
            clear hS86
            refine ru_one 11 rfl (by kernel_rfl) (fun K hK => ?_)
            go_simp
            refine (sameTimes_c _ _ _ _ _ _ (timsOf jm jt jd) _ (F85.slW 3 rfl) (Nat.le_refl _) (F85.slW 1 rfl) (Nat.le_refl _)).mono ?_
            rintro e w90 ⟨rfl, hg88⟩
            have hg88s := hg88.size
            (try simp at hg88s)
            have F91 := F85.gn hg88
            clear F85
            refine ru_back hK (by exact ⟨F91.cl 2 0 rfl rfl, F91.cl 2 1 rfl rfl, F91.cl 0 0 rfl rfl, F91.cl 0 1 rfl rfl, F91.cl 4 0 rfl rfl, F91.cl 4 1 rfl rfl, (((F91.at 9 rfl : Sl jvEnc 2 (w26.heap.size + 1) ((w26.heap.size + 1) + 1) _ (.slice (some ⟨w26.heap.size + 1, 0, none⟩) 3 3) ([((.slice aM0 m0.length cM0 : Value), (.slice aT0 t0.length cT0 : Value)), (.slice a1J ms.length c1J, .slice a2J ts.length c2J), (.slice a1J ms.length c1J, .slice a2J ts.length c2J)]))).cells0 hz39.out 0 _ rfl), (((F91.at 9 rfl : Sl jvEnc 2 (w26.heap.size + 1) ((w26.heap.size + 1) + 1) _ (.slice (some ⟨w26.heap.size + 1, 0, none⟩) 3 3) ([((.slice aM0 m0.length cM0 : Value), (.slice aT0 t0.length cT0 : Value)), (.slice a1J ms.length c1J, .slice a2J ts.length c2J), (.slice a1J ms.length c1J, .slice a2J ts.length c2J)]))).cells0 hz39.out 1 _ rfl)⟩) (fun hHeld => ?_)
            clear hK K
            (try simp only [Act.put, List.setIfInBounds_toArray, List.set_cons_zero, List.set_cons_succ])
            refine ru_p 12 ?_
            (try simp only [Act.put, List.setIfInBounds_toArray, List.set_cons_zero, List.set_cons_succ])
            refine ru_p 13 ?_
            (try simp only [Act.put, List.setIfInBounds_toArray, List.set_cons_zero, List.set_cons_succ])
            refine ru_p 14 ?_
            (try simp only [Act.put, List.setIfInBounds_toArray, List.set_cons_zero, List.set_cons_succ])
            refine ru_p 16 ?_
            refine ru_p 17 ?_
            (try simp only [Act.put, List.setIfInBounds_toArray, List.set_cons_zero, List.set_cons_succ])
            refine ru_p 18 ?_
            (try simp only [Act.put, List.setIfInBounds_toArray, List.set_cons_zero, List.set_cons_succ])
            refine ru_t 15 [21, 20] ?_
            refine ru_t 19 [21, 20] ?_
            (try simp only [Act.put, List.setIfInBounds_toArray, List.set_cons_zero, List.set_cons_succ])
            refine ru_one 20 rfl (by kernel_rfl) (fun K hK => ?_)
            go_simp
            refine (sameJobs_c 0 _ 0 _ _ _ _ _ jm ltj48 jt _ _ (jobAt_own (F91.at 5 rfl : Own mchEnc 77 3 w44.heap.size _ (.slice oa52 jm.length oc53) jm) (F91.at 6 rfl : Own tskEncS 79 8 w44.heap.size _ (.slice oa54 ltj48.length oc55) ltj48) (F91.at 7 rfl : ∀ t ∈ ltj48, Own intEnc 3 1 w44.heap.size _ t.av t.af) HMXj48.out.2.2) (Nat.le_refl _) (job_pick HPK.out.1 (JobAt.mk (F91.at 19 rfl : Sl mchEnc 3 0 w.heap.size _ (.slice aM0 m0.length cM0) m0) (F91.at 18 rfl : Sl tskEnc 8 0 w.heap.size _ (.slice aT0 t0.length cT0) t0) (F91.at 17 rfl : Afs 0 w.heap.size _ t0)) (JobAt.mk (F91.at 12 rfl : Sl mchEnc 3 loJ hiJ _ (.slice a1J ms.length c1J) ms) (F91.at 13 rfl : Sl tskEnc 8 loJ hiJ _ (.slice a2J ts.length c2J) ts) (F91.at 14 rfl : Afs loJ hiJ _ ts)) (by first | omega | (simp; done) | (simp; omega)) (by first | omega | (simp; done) | (simp; omega))) (Nat.le_refl _) HMXj48.out).mono ?_
            rintro e w94 ⟨rfl, hg92⟩
            have hg92s := hg92.size
            (try simp at hg92s)
            have F95 := F91.gn hg92
            clear F91
            refine ru_back hK (by exact ⟨F95.cl 2 0 rfl rfl, F95.cl 2 1 rfl rfl, F95.cl 0 0 rfl rfl, F95.cl 0 1 rfl rfl, F95.cl 4 0 rfl rfl, F95.cl 4 1 rfl rfl, (((F95.at 9 rfl : Sl jvEnc 2 (w26.heap.size + 1) ((w26.heap.size + 1) + 1) _ (.slice (some ⟨w26.heap.size + 1, 0, none⟩) 3 3) ([((.slice aM0 m0.length cM0 : Value), (.slice aT0 t0.length cT0 : Value)), (.slice a1J ms.length c1J, .slice a2J ts.length c2J), (.slice a1J ms.length c1J, .slice a2J ts.length c2J)]))).cells0 hz39.out 0 _ rfl), (((F95.at 9 rfl : Sl jvEnc 2 (w26.heap.size + 1) ((w26.heap.size + 1) + 1) _ (.slice (some ⟨w26.heap.size + 1, 0, none⟩) 3 3) ([((.slice aM0 m0.length cM0 : Value), (.slice aT0 t0.length cT0 : Value)), (.slice a1J ms.length c1J, .slice a2J ts.length c2J), (.slice a1J ms.length c1J, .slice a2J ts.length c2J)]))).cells0 hz39.out 1 _ rfl)⟩) (fun hHeld => ?_)
            clear hK K
            (try simp only [Act.put, List.setIfInBounds_toArray, List.set_cons_zero, List.set_cons_succ])
            refine ru_p 21 ?_
            (try simp only [Act.put, List.setIfInBounds_toArray, List.set_cons_zero, List.set_cons_succ])
            refine ru_one 22 rfl (by kernel_rfl) (fun K hK => ?_)
            go_simp
            refine ru_back_late hK (by kernel_rfl) ?_
            clear hK K
            (try simp only [Act.put, List.setIfInBounds_toArray, List.set_cons_zero, List.set_cons_succ])
            refine ru_done (by kernel_rfl) ?_
            obtain ⟨w96, hx97, F99, hxs98⟩ := (show Bun w [rsl timEnc 4 ltq77 htq77 (.slice atq77 (timsOf jm jt jd).length ctq77) (timsOf jm jt jd), rsl timEnc 4 ltq65 htq65 (.slice atq65 (timsOf jm jt jd).length ctq65) (timsOf jm jt jd), rown mchEnc 77 3 w44.heap.size (.slice oa52 jm.length oc53) jm, rown tskEncS 79 8 w44.heap.size (.slice oa54 ltj48.length oc55) ltj48, rafo w44.heap.size ltj48, rsl rowEnc 1 (w26.heap.size + 2) ((w26.heap.size + 2) + 1) (.slice (some ⟨w26.heap.size + 2, 0, none⟩) 3 3) ([(.slice ad0 d0.length cd0 : Value), .slice aw_dl dl.length cw_dl, .slice ad0 d0.length cd0]), rsl jvEnc 2 (w26.heap.size + 1) ((w26.heap.size + 1) + 1) (.slice (some ⟨w26.heap.size + 1, 0, none⟩) 3 3) ([((.slice aM0 m0.length cM0 : Value), (.slice aT0 t0.length cT0 : Value)), (.slice a1J ms.length c1J, .slice a2J ts.length c2J), (.slice a1J ms.length c1J, .slice a2J ts.length c2J)]), rsl weaEnc 6 lw_dl hw_dl (.slice aw_dl dl.length cw_dl) dl, rseed sb, rsl mchEnc 3 loJ hiJ (.slice a1J ms.length c1J) ms, rsl tskEnc 8 loJ hiJ (.slice a2J ts.length c2J) ts, rafs loJ hiJ ts, rsl intEnc 1 0 w.heap.size (.slice na zs.length nc) zs, rsl weaEnc 6 0 w.heap.size (.slice ad0 d0.length cd0) d0, rafs 0 w.heap.size t0, rsl tskEnc 8 0 w.heap.size (.slice aT0 t0.length cT0) t0, rsl mchEnc 3 0 w.heap.size (.slice aM0 m0.length cM0) m0] _ from (((F95.drop 0 rfl).drop 1 rfl).drop 2 rfl)).name
            (try simp at hxs98)
            rw [hx97]
            clear hx97 F95
            go_wp2_with fail
            have F100 : Bun w [rsl rowEnc 1 (w26.heap.size + 2) ((w26.heap.size + 2) + 1) (.slice (some ⟨w26.heap.size + 2, 0, none⟩) 3 3) ([(.slice ad0 d0.length cd0 : Value), .slice aw_dl dl.length cw_dl, .slice ad0 d0.length cd0]), rsl jvEnc 2 (w26.heap.size + 1) ((w26.heap.size + 1) + 1) (.slice (some ⟨w26.heap.size + 1, 0, none⟩) 3 3) ([((.slice aM0 m0.length cM0 : Value), (.slice aT0 t0.length cT0 : Value)), (.slice a1J ms.length c1J, .slice a2J ts.length c2J), (.slice a1J ms.length c1J, .slice a2J ts.length c2J)]), rsl weaEnc 6 lw_dl hw_dl (.slice aw_dl dl.length cw_dl) dl, rseed sb, rsl mchEnc 3 loJ hiJ (.slice a1J ms.length c1J) ms, rsl tskEnc 8 loJ hiJ (.slice a2J ts.length c2J) ts, rafs loJ hiJ ts, rsl intEnc 1 0 w.heap.size (.slice na zs.length nc) zs, rsl weaEnc 6 0 w.heap.size (.slice ad0 d0.length cd0) d0, rafs 0 w.heap.size t0, rsl tskEnc 8 0 w.heap.size (.slice aT0 t0.length cT0) t0, rsl mchEnc 3 0 w.heap.size (.slice aM0 m0.length cM0) m0] _ := F99.pick [5, 6, 7, 8, 9, 10, 11, 12, 13, 14, 15, 16] (by decide) rfl
            clear F99
            (first | refine ⟨by kernel_rfl, ?_, ?_⟩ | refine ⟨rfl, ?_, ?_⟩ | refine ⟨?_, ?_⟩)
            · rw [HI34.out]; exact ⟨k + 1, (by first | kernel_rfl | rfl), (by first | kernel_rfl | rfl), (by show Value.int .i64 ((k : Int) + 1) = _; simp), by omega, (by first | rfl | simp), (by first | omega | (simp; done) | (simp; omega)), F100⟩
            · simp [slot, intOf]; omega
          intro hZ78
          refine ru_state 96 (fun t w_ => ∃ (atq77 : Option Addr) (ctq77 : Nat) (ltq77 : Nat) (htq77 : Nat) (yg13 : Nat), t 10 = .slice (some ⟨w26.heap.size + 1, 0, none⟩) 3 3 ∧ t 11 = .slice (some ⟨w26.heap.size + 2, 0, none⟩) 3 3 ∧ t 12 = .int .i64 (k : Int) ∧ t 13 = .pointer (some ⟨w49.heap.size, 0, none⟩) ∧ t 14 = .slice atq65 ((timsOf jm jt jd).length) ctq65 ∧ t 15 = .pointer (some ⟨yg10, 0, none⟩) ∧ t 16 = .int .i64 (bothErr jm jt jd) ∧ t 17 = .slice atq77 ((timsOf jm jt jd).length) ctq77 ∧ t 18 = .pointer (some ⟨yg13, 0, none⟩) ∧ t 70 = .agg #[.int .i64 ((opnOf jm jt jd).lo), .int .i64 ((opnOf jm jt jd).hi)] ∧ t 71 = .int .i64 (bothErr jm jt jd) ∧ w69.heap.size ≤ w_.heap.size ∧ Bun w [rbox yg13 39 #[.int .i64 0, .int .i64 0], rsl timEnc 4 ltq77 htq77 (.slice atq77 (timsOf jm jt jd).length ctq77) (timsOf jm jt jd), rbox yg10 39 #[.int .i64 ((opnOf jm jt jd).lo), .int .i64 ((opnOf jm jt jd).hi)], rsl timEnc 4 ltq65 htq65 (.slice atq65 (timsOf jm jt jd).length ctq65) (timsOf jm jt jd), rbox w49.heap.size 25 #[.slice oa52 jm.length oc53, .slice oa54 ltj48.length oc55], rown mchEnc 77 3 w44.heap.size (.slice oa52 jm.length oc53) jm, rown tskEncS 79 8 w44.heap.size (.slice oa54 ltj48.length oc55) ltj48, rafo w44.heap.size ltj48, rsl rowEnc 1 (w26.heap.size + 2) ((w26.heap.size + 2) + 1) (.slice (some ⟨w26.heap.size + 2, 0, none⟩) 3 3) ([(.slice ad0 d0.length cd0 : Value), .slice aw_dl dl.length cw_dl, .slice ad0 d0.length cd0]), rsl jvEnc 2 (w26.heap.size + 1) ((w26.heap.size + 1) + 1) (.slice (some ⟨w26.heap.size + 1, 0, none⟩) 3 3) ([((.slice aM0 m0.length cM0 : Value), (.slice aT0 t0.length cT0 : Value)), (.slice a1J ms.length c1J, .slice a2J ts.length c2J), (.slice a1J ms.length c1J, .slice a2J ts.length c2J)]), rsl weaEnc 6 lw_dl hw_dl (.slice aw_dl dl.length cw_dl) dl, rseed sb, rsl mchEnc 3 loJ hiJ (.slice a1J ms.length c1J) ms, rsl tskEnc 8 loJ hiJ (.slice a2J ts.length c2J) ts, rafs loJ hiJ ts, rsl intEnc 1 0 w.heap.size (.slice na zs.length nc) zs, rsl weaEnc 6 0 w.heap.size (.slice ad0 d0.length cd0) d0, rafs 0 w.heap.size t0, rsl tskEnc 8 0 w.heap.size (.slice aT0 t0.length cT0) t0, rsl mchEnc 3 0 w.heap.size (.slice aM0 m0.length cM0) m0] w_) #[true, true, true, true, true, true, true, true, true, true, true, true, true, true, true, false, false] 2 ?st101 ?nx101
          case st101 =>
            rintro t w102 ⟨atq77, ctq77, ltq77, htq77, yg13, e10, e11, e12, e13, e14, e15, e16, e17, e18, e70, e71, hsz101, F103⟩
            clear F74
            rw [rng_times_walk t, e10, e11, e12, e13, e14, e15, e16, e17, e18, e70, e71]
            clear e10 e11 e12 e13 e14 e15 e16 e17 e18 e70 e71
            have hws101 := F103.gb.size
            have yg13l := F103.ltAt 0 rfl yg13 rfl
            have yg13b := yg13l.2 rfl
            have yg10l := F103.ltAt 2 rfl yg10 rfl
            have yg10b := yg10l.2 rfl
            refine ru_one 15 rfl (by kernel_rfl) (fun K hK => ?_)
            have kb_ := F103.bx2 0 rfl
            go_simp
            clear kb_
            have F104 := F103.pt2 (.int .i64 ((opnOf jm jt jd).lo)) (.int .i64 ((opnOf jm jt jd).hi))
            clear F103
            refine ru_back_late hK (by kernel_rfl) ?_
            clear hK K
            (try simp only [Act.put, List.setIfInBounds_toArray, List.set_cons_zero, List.set_cons_succ])
            refine ru_p 16 ?_
            (try simp only [Act.put, List.setIfInBounds_toArray, List.set_cons_zero, List.set_cons_succ])
            exact hZ78.out _ _ _ (by kernel_rfl) (by kernel_rfl) rfl ⟨atq77, ctq77, ltq77, htq77, yg13, (by kernel_rfl), (by kernel_rfl), (by kernel_rfl), (by kernel_rfl), (by kernel_rfl), (by kernel_rfl), (by kernel_rfl), (by kernel_rfl), (by kernel_rfl), (by kernel_rfl), (by first | omega | (simp; done) | (simp; omega)), F104⟩
          intro hZ101
          refine ru_state 96 (fun t w_ => ∃ (atq77 : Option Addr) (ctq77 : Nat) (ltq77 : Nat) (htq77 : Nat), t 10 = .slice (some ⟨w26.heap.size + 1, 0, none⟩) 3 3 ∧ t 11 = .slice (some ⟨w26.heap.size + 2, 0, none⟩) 3 3 ∧ t 12 = .int .i64 (k : Int) ∧ t 13 = .pointer (some ⟨w49.heap.size, 0, none⟩) ∧ t 14 = .slice atq65 ((timsOf jm jt jd).length) ctq65 ∧ t 15 = .pointer (some ⟨yg10, 0, none⟩) ∧ t 16 = .int .i64 (bothErr jm jt jd) ∧ t 69 = .slice atq77 ((timsOf jm jt jd).length) ctq77 ∧ t 70 = .agg #[.int .i64 ((opnOf jm jt jd).lo), .int .i64 ((opnOf jm jt jd).hi)] ∧ t 71 = .int .i64 (bothErr jm jt jd) ∧ w69.heap.size ≤ w_.heap.size ∧ Bun w [rsl timEnc 4 ltq77 htq77 (.slice atq77 (timsOf jm jt jd).length ctq77) (timsOf jm jt jd), rbox yg10 39 #[.int .i64 ((opnOf jm jt jd).lo), .int .i64 ((opnOf jm jt jd).hi)], rsl timEnc 4 ltq65 htq65 (.slice atq65 (timsOf jm jt jd).length ctq65) (timsOf jm jt jd), rbox w49.heap.size 25 #[.slice oa52 jm.length oc53, .slice oa54 ltj48.length oc55], rown mchEnc 77 3 w44.heap.size (.slice oa52 jm.length oc53) jm, rown tskEncS 79 8 w44.heap.size (.slice oa54 ltj48.length oc55) ltj48, rafo w44.heap.size ltj48, rsl rowEnc 1 (w26.heap.size + 2) ((w26.heap.size + 2) + 1) (.slice (some ⟨w26.heap.size + 2, 0, none⟩) 3 3) ([(.slice ad0 d0.length cd0 : Value), .slice aw_dl dl.length cw_dl, .slice ad0 d0.length cd0]), rsl jvEnc 2 (w26.heap.size + 1) ((w26.heap.size + 1) + 1) (.slice (some ⟨w26.heap.size + 1, 0, none⟩) 3 3) ([((.slice aM0 m0.length cM0 : Value), (.slice aT0 t0.length cT0 : Value)), (.slice a1J ms.length c1J, .slice a2J ts.length c2J), (.slice a1J ms.length c1J, .slice a2J ts.length c2J)]), rsl weaEnc 6 lw_dl hw_dl (.slice aw_dl dl.length cw_dl) dl, rseed sb, rsl mchEnc 3 loJ hiJ (.slice a1J ms.length c1J) ms, rsl tskEnc 8 loJ hiJ (.slice a2J ts.length c2J) ts, rafs loJ hiJ ts, rsl intEnc 1 0 w.heap.size (.slice na zs.length nc) zs, rsl weaEnc 6 0 w.heap.size (.slice ad0 d0.length cd0) d0, rafs 0 w.heap.size t0, rsl tskEnc 8 0 w.heap.size (.slice aT0 t0.length cT0) t0, rsl mchEnc 3 0 w.heap.size (.slice aM0 m0.length cM0) m0] w_) #[true, true, true, true, true, true, true, true, true, true, true, true, true, false, false, false, false] 4 ?st105 ?nx105
          case st105 =>
            rintro t w106 ⟨atq77, ctq77, ltq77, htq77, e10, e11, e12, e13, e14, e15, e16, e69, e70, e71, hsz105, F107⟩
            clear F74
            rw [rng_times_walk t, e10, e11, e12, e13, e14, e15, e16, e69, e70, e71]
            clear e10 e11 e12 e13 e14 e15 e16 e69 e70 e71
            have hws105 := F107.gb.size
            have yg10l := F107.ltAt 1 rfl yg10 rfl
            have yg10b := yg10l.2 rfl
            refine ru_one 13 rfl (by kernel_rfl) (fun K hK => ?_)
            go_simp
            have F108 := F107.new 39 #[.int .i64 0, .int .i64 0] (n := w106.heap.size) (by simp)
            clear F107
            refine ru_back hK (by exact ⟨(((F108.at 9 rfl : Sl jvEnc 2 (w26.heap.size + 1) ((w26.heap.size + 1) + 1) _ (.slice (some ⟨w26.heap.size + 1, 0, none⟩) 3 3) ([((.slice aM0 m0.length cM0 : Value), (.slice aT0 t0.length cT0 : Value)), (.slice a1J ms.length c1J, .slice a2J ts.length c2J), (.slice a1J ms.length c1J, .slice a2J ts.length c2J)]))).cells0 hz39.out 0 _ rfl), (((F108.at 9 rfl : Sl jvEnc 2 (w26.heap.size + 1) ((w26.heap.size + 1) + 1) _ (.slice (some ⟨w26.heap.size + 1, 0, none⟩) 3 3) ([((.slice aM0 m0.length cM0 : Value), (.slice aT0 t0.length cT0 : Value)), (.slice a1J ms.length c1J, .slice a2J ts.length c2J), (.slice a1J ms.length c1J, .slice a2J ts.length c2J)]))).cells0 hz39.out 1 _ rfl), (by have h_ := ((F108.at 8 rfl : Sl rowEnc 1 (w26.heap.size + 2) ((w26.heap.size + 2) + 1) _ (.slice (some ⟨w26.heap.size + 2, 0, none⟩) 3 3) ([(.slice ad0 d0.length cd0 : Value), .slice aw_dl dl.length cw_dl, .slice ad0 d0.length cd0]))).cells0 hz40.out 0 _ rfl; simpa using h_)⟩) (fun hHeld => ?_)
            clear hK K
            (try simp only [Act.put, List.setIfInBounds_toArray, List.set_cons_zero, List.set_cons_succ])
            refine ru_p 14 ?_
            (try simp only [Act.put, List.setIfInBounds_toArray, List.set_cons_zero, List.set_cons_succ])
            exact hZ101.out _ _ _ (by kernel_rfl) (by kernel_rfl) rfl ⟨atq77, ctq77, ltq77, htq77, w106.heap.size, (by kernel_rfl), (by kernel_rfl), (by kernel_rfl), (by kernel_rfl), (by kernel_rfl), (by kernel_rfl), (by kernel_rfl), (by kernel_rfl), (by kernel_rfl), (by kernel_rfl), (by kernel_rfl), (by first | omega | (simp; done) | (simp; omega)), F108⟩
          intro hZ105
          refine ru_state 96 (fun t w_ => ∃ (yg13 : Nat), t 10 = .slice (some ⟨w26.heap.size + 1, 0, none⟩) 3 3 ∧ t 11 = .slice (some ⟨w26.heap.size + 2, 0, none⟩) 3 3 ∧ t 12 = .int .i64 (k : Int) ∧ t 13 = .pointer (some ⟨w49.heap.size, 0, none⟩) ∧ t 14 = .slice atq65 ((timsOf jm jt jd).length) ctq65 ∧ t 15 = .pointer (some ⟨yg10, 0, none⟩) ∧ t 16 = .int .i64 (bothErr jm jt jd) ∧ t 18 = .pointer (some ⟨yg13, 0, none⟩) ∧ t 63 = .agg #[zj.1, zj.2] ∧ t 67 = zd ∧ w69.heap.size ≤ w_.heap.size ∧ Bun w [rbox yg13 39 #[.int .i64 0, .int .i64 0], rbox yg10 39 #[.int .i64 ((opnOf jm jt jd).lo), .int .i64 ((opnOf jm jt jd).hi)], rsl timEnc 4 ltq65 htq65 (.slice atq65 (timsOf jm jt jd).length ctq65) (timsOf jm jt jd), rbox w49.heap.size 25 #[.slice oa52 jm.length oc53, .slice oa54 ltj48.length oc55], rown mchEnc 77 3 w44.heap.size (.slice oa52 jm.length oc53) jm, rown tskEncS 79 8 w44.heap.size (.slice oa54 ltj48.length oc55) ltj48, rafo w44.heap.size ltj48, rsl rowEnc 1 (w26.heap.size + 2) ((w26.heap.size + 2) + 1) (.slice (some ⟨w26.heap.size + 2, 0, none⟩) 3 3) ([(.slice ad0 d0.length cd0 : Value), .slice aw_dl dl.length cw_dl, .slice ad0 d0.length cd0]), rsl jvEnc 2 (w26.heap.size + 1) ((w26.heap.size + 1) + 1) (.slice (some ⟨w26.heap.size + 1, 0, none⟩) 3 3) ([((.slice aM0 m0.length cM0 : Value), (.slice aT0 t0.length cT0 : Value)), (.slice a1J ms.length c1J, .slice a2J ts.length c2J), (.slice a1J ms.length c1J, .slice a2J ts.length c2J)]), rsl weaEnc 6 lw_dl hw_dl (.slice aw_dl dl.length cw_dl) dl, rseed sb, rsl mchEnc 3 loJ hiJ (.slice a1J ms.length c1J) ms, rsl tskEnc 8 loJ hiJ (.slice a2J ts.length c2J) ts, rafs loJ hiJ ts, rsl intEnc 1 0 w.heap.size (.slice na zs.length nc) zs, rsl weaEnc 6 0 w.heap.size (.slice ad0 d0.length cd0) d0, rafs 0 w.heap.size t0, rsl tskEnc 8 0 w.heap.size (.slice aT0 t0.length cT0) t0, rsl mchEnc 3 0 w.heap.size (.slice aM0 m0.length cM0) m0] w_) #[true, true, true, true, true, true, true, true, false, false, false, false, false, true, false, false, false] 8 ?st109 ?nx109
          case st109 =>
            rintro t w110 ⟨yg13, e10, e11, e12, e13, e14, e15, e16, e18, e63, e67, hsz109, F111⟩
            clear F74
            rw [rng_times_walk t, e10, e11, e12, e13, e14, e15, e16, e18, e63, e67]
            clear e10 e11 e12 e13 e14 e15 e16 e18 e63 e67
            have hws109 := F111.gb.size
            have yg13l := F111.ltAt 0 rfl yg13 rfl
            have yg13b := yg13l.2 rfl
            have yg10l := F111.ltAt 1 rfl yg10 rfl
            have yg10b := yg10l.2 rfl
            refine ru_one 8 rfl (by kernel_rfl) (fun K hK => ?_)
            go_simp
            refine (rtimes_c 0 _ _ _ jm jt 0 _ _ jd _ (job_pick HPK.out.1 (JobAt.mk (F111.at 18 rfl : Sl mchEnc 3 0 w.heap.size _ (.slice aM0 m0.length cM0) m0) (F111.at 17 rfl : Sl tskEnc 8 0 w.heap.size _ (.slice aT0 t0.length cT0) t0) (F111.at 16 rfl : Afs 0 w.heap.size _ t0)) (JobAt.mk (F111.at 11 rfl : Sl mchEnc 3 loJ hiJ _ (.slice a1J ms.length c1J) ms) (F111.at 12 rfl : Sl tskEnc 8 loJ hiJ _ (.slice a2J ts.length c2J) ts) (F111.at 13 rfl : Afs loJ hiJ _ ts)) (by first | omega | (simp; done) | (simp; omega)) (by first | omega | (simp; done) | (simp; omega))) (Nat.le_refl _) (day_pick HPK.out.2 (F111.at 15 rfl : Sl weaEnc 6 0 w.heap.size _ (.slice ad0 d0.length cd0) d0) (F111.at 9 rfl : Sl weaEnc 6 lw_dl hw_dl _ (.slice aw_dl dl.length cw_dl) dl) (by first | omega | (simp; done) | (simp; omega)) (by first | omega | (simp; done) | (simp; omega))) (Nat.le_refl _)).mono ?_
            rintro e w115 ⟨atq112, ctq112, ltq112, htq112, rfl, ⟨htxq112, htyq112⟩, htzq112, hg113⟩
            have hg113s := hg113.size
            (try simp at hg113s)
            have F116 := F111.add (rsl timEnc 4 ltq112 htq112 (.slice atq112 (timsOf jm jt jd).length ctq112) (timsOf jm jt jd)) hg113 (htzq112) (fun g e => ⟨Nat.le_trans htxq112 e.1, Nat.lt_of_lt_of_le e.2 htyq112⟩)
            clear F111
            refine ru_back hK (by exact ⟨(((F116.at 9 rfl : Sl jvEnc 2 (w26.heap.size + 1) ((w26.heap.size + 1) + 1) _ (.slice (some ⟨w26.heap.size + 1, 0, none⟩) 3 3) ([((.slice aM0 m0.length cM0 : Value), (.slice aT0 t0.length cT0 : Value)), (.slice a1J ms.length c1J, .slice a2J ts.length c2J), (.slice a1J ms.length c1J, .slice a2J ts.length c2J)]))).cells0 hz39.out 0 _ rfl), (((F116.at 9 rfl : Sl jvEnc 2 (w26.heap.size + 1) ((w26.heap.size + 1) + 1) _ (.slice (some ⟨w26.heap.size + 1, 0, none⟩) 3 3) ([((.slice aM0 m0.length cM0 : Value), (.slice aT0 t0.length cT0 : Value)), (.slice a1J ms.length c1J, .slice a2J ts.length c2J), (.slice a1J ms.length c1J, .slice a2J ts.length c2J)]))).cells0 hz39.out 1 _ rfl), (by have h_ := ((F116.at 8 rfl : Sl rowEnc 1 (w26.heap.size + 2) ((w26.heap.size + 2) + 1) _ (.slice (some ⟨w26.heap.size + 2, 0, none⟩) 3 3) ([(.slice ad0 d0.length cd0 : Value), .slice aw_dl dl.length cw_dl, .slice ad0 d0.length cd0]))).cells0 hz40.out 0 _ rfl; simpa using h_)⟩) (fun hHeld => ?_)
            clear hK K
            (try simp only [Act.put, List.setIfInBounds_toArray, List.set_cons_zero, List.set_cons_succ])
            refine ru_p 9 ?_
            (try simp only [Act.put, List.setIfInBounds_toArray, List.set_cons_zero, List.set_cons_succ])
            refine ru_p 10 ?_
            (try simp only [Act.put, List.setIfInBounds_toArray, List.set_cons_zero, List.set_cons_succ])
            refine ru_p 11 ?_
            (try simp only [Act.put, List.setIfInBounds_toArray, List.set_cons_zero, List.set_cons_succ])
            refine ru_p 12 ?_
            (try simp only [Act.put, List.setIfInBounds_toArray, List.set_cons_zero, List.set_cons_succ])
            refine ru_p 14 ?_
            (try simp only [Act.put, List.setIfInBounds_toArray, List.set_cons_zero, List.set_cons_succ])
            exact hZ101.out _ _ _ (by kernel_rfl) (by kernel_rfl) rfl ⟨atq112, ctq112, ltq112, htq112, yg13, (by kernel_rfl), (by kernel_rfl), (by kernel_rfl), (by kernel_rfl), (by kernel_rfl), (by kernel_rfl), (by kernel_rfl), (by kernel_rfl), (by kernel_rfl), (by kernel_rfl), (by kernel_rfl), (by first | omega | (simp; done) | (simp; omega)), (F116.pick [1, 0, 2, 3, 4, 5, 6, 7, 8, 9, 10, 11, 12, 13, 14, 15, 16, 17, 18, 19] (by decide) rfl)⟩
          intro hZ109
          refine ru_two 8 13 rfl rfl (by kernel_rfl) ?_ ?_
          · intro K hK
            go_simp
            refine (rtimes_c 0 _ _ _ jm jt 0 _ _ jd _ (job_pick HPK.out.1 (JobAt.mk (F74.at 17 rfl : Sl mchEnc 3 0 w.heap.size _ (.slice aM0 m0.length cM0) m0) (F74.at 16 rfl : Sl tskEnc 8 0 w.heap.size _ (.slice aT0 t0.length cT0) t0) (F74.at 15 rfl : Afs 0 w.heap.size _ t0)) (JobAt.mk (F74.at 10 rfl : Sl mchEnc 3 loJ hiJ _ (.slice a1J ms.length c1J) ms) (F74.at 11 rfl : Sl tskEnc 8 loJ hiJ _ (.slice a2J ts.length c2J) ts) (F74.at 12 rfl : Afs loJ hiJ _ ts)) (by first | omega | (simp; done) | (simp; omega)) (by first | omega | (simp; done) | (simp; omega))) (Nat.le_refl _) (day_pick HPK.out.2 (F74.at 14 rfl : Sl weaEnc 6 0 w.heap.size _ (.slice ad0 d0.length cd0) d0) (F74.at 8 rfl : Sl weaEnc 6 lw_dl hw_dl _ (.slice aw_dl dl.length cw_dl) dl) (by first | omega | (simp; done) | (simp; omega)) (by first | omega | (simp; done) | (simp; omega))) (Nat.le_refl _)).mono ?_
            rintro e w120 ⟨atq117, ctq117, ltq117, htq117, rfl, ⟨htxq117, htyq117⟩, htzq117, hg118⟩
            have hg118s := hg118.size
            (try simp at hg118s)
            have F121 := F74.add (rsl timEnc 4 ltq117 htq117 (.slice atq117 (timsOf jm jt jd).length ctq117) (timsOf jm jt jd)) hg118 (htzq117) (fun g e => ⟨Nat.le_trans htxq117 e.1, Nat.lt_of_lt_of_le e.2 htyq117⟩)
            clear F74
            refine ru_back hK (by exact ⟨(((F121.at 8 rfl : Sl jvEnc 2 (w26.heap.size + 1) ((w26.heap.size + 1) + 1) _ (.slice (some ⟨w26.heap.size + 1, 0, none⟩) 3 3) ([((.slice aM0 m0.length cM0 : Value), (.slice aT0 t0.length cT0 : Value)), (.slice a1J ms.length c1J, .slice a2J ts.length c2J), (.slice a1J ms.length c1J, .slice a2J ts.length c2J)]))).cells0 hz39.out 0 _ rfl), (((F121.at 8 rfl : Sl jvEnc 2 (w26.heap.size + 1) ((w26.heap.size + 1) + 1) _ (.slice (some ⟨w26.heap.size + 1, 0, none⟩) 3 3) ([((.slice aM0 m0.length cM0 : Value), (.slice aT0 t0.length cT0 : Value)), (.slice a1J ms.length c1J, .slice a2J ts.length c2J), (.slice a1J ms.length c1J, .slice a2J ts.length c2J)]))).cells0 hz39.out 1 _ rfl), (by have h_ := ((F121.at 7 rfl : Sl rowEnc 1 (w26.heap.size + 2) ((w26.heap.size + 2) + 1) _ (.slice (some ⟨w26.heap.size + 2, 0, none⟩) 3 3) ([(.slice ad0 d0.length cd0 : Value), .slice aw_dl dl.length cw_dl, .slice ad0 d0.length cd0]))).cells0 hz40.out 0 _ rfl; simpa using h_)⟩) (fun hHeld => ?_)
            clear hK K
            (try simp only [Act.put, List.setIfInBounds_toArray, List.set_cons_zero, List.set_cons_succ])
            refine ru_p 9 ?_
            (try simp only [Act.put, List.setIfInBounds_toArray, List.set_cons_zero, List.set_cons_succ])
            refine ru_p 10 ?_
            (try simp only [Act.put, List.setIfInBounds_toArray, List.set_cons_zero, List.set_cons_succ])
            refine ru_p 11 ?_
            (try simp only [Act.put, List.setIfInBounds_toArray, List.set_cons_zero, List.set_cons_succ])
            refine ru_p 12 ?_
            (try simp only [Act.put, List.setIfInBounds_toArray, List.set_cons_zero, List.set_cons_succ])
            exact hZ105.out _ _ _ (by kernel_rfl) (by kernel_rfl) rfl ⟨atq117, ctq117, ltq117, htq117, (by kernel_rfl), (by kernel_rfl), (by kernel_rfl), (by kernel_rfl), (by kernel_rfl), (by kernel_rfl), (by kernel_rfl), (by kernel_rfl), (by kernel_rfl), (by kernel_rfl), (by first | omega | (simp; done) | (simp; omega)), F121⟩
          · intro K hK
            go_simp
            have F122 := F74.new 39 #[.int .i64 0, .int .i64 0] (n := wd76.heap.size) (by simp)
            clear F74
            refine ru_back hK (by exact ⟨(((F122.at 8 rfl : Sl jvEnc 2 (w26.heap.size + 1) ((w26.heap.size + 1) + 1) _ (.slice (some ⟨w26.heap.size + 1, 0, none⟩) 3 3) ([((.slice aM0 m0.length cM0 : Value), (.slice aT0 t0.length cT0 : Value)), (.slice a1J ms.length c1J, .slice a2J ts.length c2J), (.slice a1J ms.length c1J, .slice a2J ts.length c2J)]))).cells0 hz39.out 0 _ rfl), (((F122.at 8 rfl : Sl jvEnc 2 (w26.heap.size + 1) ((w26.heap.size + 1) + 1) _ (.slice (some ⟨w26.heap.size + 1, 0, none⟩) 3 3) ([((.slice aM0 m0.length cM0 : Value), (.slice aT0 t0.length cT0 : Value)), (.slice a1J ms.length c1J, .slice a2J ts.length c2J), (.slice a1J ms.length c1J, .slice a2J ts.length c2J)]))).cells0 hz39.out 1 _ rfl), (by have h_ := ((F122.at 7 rfl : Sl rowEnc 1 (w26.heap.size + 2) ((w26.heap.size + 2) + 1) _ (.slice (some ⟨w26.heap.size + 2, 0, none⟩) 3 3) ([(.slice ad0 d0.length cd0 : Value), .slice aw_dl dl.length cw_dl, .slice ad0 d0.length cd0]))).cells0 hz40.out 0 _ rfl; simpa using h_)⟩) (fun _ => ?_)
            exact hZ109.out _ _ _ (by kernel_rfl) (by kernel_rfl) rfl ⟨wd76.heap.size, (by kernel_rfl), (by kernel_rfl), (by kernel_rfl), (by kernel_rfl), (by kernel_rfl), (by kernel_rfl), (by kernel_rfl), (by kernel_rfl), (by kernel_rfl), (by kernel_rfl), (by first | omega | (simp; done) | (simp; omega)), F122⟩
        intro hZ66
        refine ru_state 96 (fun t w_ => ∃ (atq65 : Option Addr) (ctq65 : Nat) (ltq65 : Nat) (htq65 : Nat) (yg10 : Nat), t 10 = .slice (some ⟨w26.heap.size + 1, 0, none⟩) 3 3 ∧ t 11 = .slice (some ⟨w26.heap.size + 2, 0, none⟩) 3 3 ∧ t 12 = .int .i64 (k : Int) ∧ t 13 = .pointer (some ⟨w49.heap.size, 0, none⟩) ∧ t 14 = .slice atq65 ((timsOf jm jt jd).length) ctq65 ∧ t 15 = .pointer (some ⟨yg10, 0, none⟩) ∧ t 57 = .agg #[.int .i64 ((opnOf jm jt jd).lo), .int .i64 ((opnOf jm jt jd).hi)] ∧ t 58 = .int .i64 (bothErr jm jt jd) ∧ w58.heap.size ≤ w_.heap.size ∧ Bun w [rbox yg10 39 #[.int .i64 0, .int .i64 0], rsl timEnc 4 ltq65 htq65 (.slice atq65 (timsOf jm jt jd).length ctq65) (timsOf jm jt jd), rbox w49.heap.size 25 #[.slice oa52 jm.length oc53, .slice oa54 ltj48.length oc55], rown mchEnc 77 3 w44.heap.size (.slice oa52 jm.length oc53) jm, rown tskEncS 79 8 w44.heap.size (.slice oa54 ltj48.length oc55) ltj48, rafo w44.heap.size ltj48, rsl rowEnc 1 (w26.heap.size + 2) ((w26.heap.size + 2) + 1) (.slice (some ⟨w26.heap.size + 2, 0, none⟩) 3 3) ([(.slice ad0 d0.length cd0 : Value), .slice aw_dl dl.length cw_dl, .slice ad0 d0.length cd0]), rsl jvEnc 2 (w26.heap.size + 1) ((w26.heap.size + 1) + 1) (.slice (some ⟨w26.heap.size + 1, 0, none⟩) 3 3) ([((.slice aM0 m0.length cM0 : Value), (.slice aT0 t0.length cT0 : Value)), (.slice a1J ms.length c1J, .slice a2J ts.length c2J), (.slice a1J ms.length c1J, .slice a2J ts.length c2J)]), rsl weaEnc 6 lw_dl hw_dl (.slice aw_dl dl.length cw_dl) dl, rseed sb, rsl mchEnc 3 loJ hiJ (.slice a1J ms.length c1J) ms, rsl tskEnc 8 loJ hiJ (.slice a2J ts.length c2J) ts, rafs loJ hiJ ts, rsl intEnc 1 0 w.heap.size (.slice na zs.length nc) zs, rsl weaEnc 6 0 w.heap.size (.slice ad0 d0.length cd0) d0, rafs 0 w.heap.size t0, rsl tskEnc 8 0 w.heap.size (.slice aT0 t0.length cT0) t0, rsl mchEnc 3 0 w.heap.size (.slice aM0 m0.length cM0) m0] w_) #[true, true, true, true, true, true, true, true, true, true, true, true, false, false] 2 ?st123 ?nx123
        case st123 =>
          rintro t w124 ⟨atq65, ctq65, ltq65, htq65, yg10, e10, e11, e12, e13, e14, e15, e57, e58, hsz123, F125⟩
          clear F62
          rw [rng_times_walk t, e10, e11, e12, e13, e14, e15, e57, e58]
          clear e10 e11 e12 e13 e14 e15 e57 e58
          have hws123 := F125.gb.size
          have yg10l := F125.ltAt 0 rfl yg10 rfl
          have yg10b := yg10l.2 rfl
          refine ru_one 12 rfl (by kernel_rfl) (fun K hK => ?_)
          have kb_ := F125.bx2 0 rfl
          go_simp
          clear kb_
          have F126 := F125.pt2 (.int .i64 ((opnOf jm jt jd).lo)) (.int .i64 ((opnOf jm jt jd).hi))
          clear F125
          refine ru_back_late hK (by kernel_rfl) ?_
          clear hK K
          (try simp only [Act.put, List.setIfInBounds_toArray, List.set_cons_zero, List.set_cons_succ])
          refine ru_p 13 ?_
          (try simp only [Act.put, List.setIfInBounds_toArray, List.set_cons_zero, List.set_cons_succ])
          exact hZ66.out _ _ _ (by kernel_rfl) (by kernel_rfl) rfl ⟨atq65, ctq65, ltq65, htq65, yg10, (by kernel_rfl), (by kernel_rfl), (by kernel_rfl), (by kernel_rfl), (by kernel_rfl), (by kernel_rfl), (by kernel_rfl), (by first | omega | (simp; done) | (simp; omega)), F126⟩
        intro hZ123
        refine ru_state 96 (fun t w_ => ∃ (atq65 : Option Addr) (ctq65 : Nat) (ltq65 : Nat) (htq65 : Nat), t 10 = .slice (some ⟨w26.heap.size + 1, 0, none⟩) 3 3 ∧ t 11 = .slice (some ⟨w26.heap.size + 2, 0, none⟩) 3 3 ∧ t 12 = .int .i64 (k : Int) ∧ t 13 = .pointer (some ⟨w49.heap.size, 0, none⟩) ∧ t 56 = .slice atq65 ((timsOf jm jt jd).length) ctq65 ∧ t 57 = .agg #[.int .i64 ((opnOf jm jt jd).lo), .int .i64 ((opnOf jm jt jd).hi)] ∧ t 58 = .int .i64 (bothErr jm jt jd) ∧ w58.heap.size ≤ w_.heap.size ∧ Bun w [rsl timEnc 4 ltq65 htq65 (.slice atq65 (timsOf jm jt jd).length ctq65) (timsOf jm jt jd), rbox w49.heap.size 25 #[.slice oa52 jm.length oc53, .slice oa54 ltj48.length oc55], rown mchEnc 77 3 w44.heap.size (.slice oa52 jm.length oc53) jm, rown tskEncS 79 8 w44.heap.size (.slice oa54 ltj48.length oc55) ltj48, rafo w44.heap.size ltj48, rsl rowEnc 1 (w26.heap.size + 2) ((w26.heap.size + 2) + 1) (.slice (some ⟨w26.heap.size + 2, 0, none⟩) 3 3) ([(.slice ad0 d0.length cd0 : Value), .slice aw_dl dl.length cw_dl, .slice ad0 d0.length cd0]), rsl jvEnc 2 (w26.heap.size + 1) ((w26.heap.size + 1) + 1) (.slice (some ⟨w26.heap.size + 1, 0, none⟩) 3 3) ([((.slice aM0 m0.length cM0 : Value), (.slice aT0 t0.length cT0 : Value)), (.slice a1J ms.length c1J, .slice a2J ts.length c2J), (.slice a1J ms.length c1J, .slice a2J ts.length c2J)]), rsl weaEnc 6 lw_dl hw_dl (.slice aw_dl dl.length cw_dl) dl, rseed sb, rsl mchEnc 3 loJ hiJ (.slice a1J ms.length c1J) ms, rsl tskEnc 8 loJ hiJ (.slice a2J ts.length c2J) ts, rafs loJ hiJ ts, rsl intEnc 1 0 w.heap.size (.slice na zs.length nc) zs, rsl weaEnc 6 0 w.heap.size (.slice ad0 d0.length cd0) d0, rafs 0 w.heap.size t0, rsl tskEnc 8 0 w.heap.size (.slice aT0 t0.length cT0) t0, rsl mchEnc 3 0 w.heap.size (.slice aM0 m0.length cM0) m0] w_) #[true, true, true, true, true, true, true, true, true, true, false, false, false, false] 4 ?st127 ?nx127
        case st127 =>
          rintro t w128 ⟨atq65, ctq65, ltq65, htq65, e10, e11, e12, e13, e56, e57, e58, hsz127, F129⟩
          clear F62
          rw [rng_times_walk t, e10, e11, e12, e13, e56, e57, e58]
          clear e10 e11 e12 e13 e56 e57 e58
          have hws127 := F129.gb.size
          refine ru_one 10 rfl (by kernel_rfl) (fun K hK => ?_)
          go_simp
          have F130 := F129.new 39 #[.int .i64 0, .int .i64 0] (n := w128.heap.size) (by simp)
          clear F129
          refine ru_back hK (by exact ⟨F130.cl 2 0 rfl rfl, F130.cl 2 1 rfl rfl, (by have h_ := ((F130.at 6 rfl : Sl rowEnc 1 (w26.heap.size + 2) ((w26.heap.size + 2) + 1) _ (.slice (some ⟨w26.heap.size + 2, 0, none⟩) 3 3) ([(.slice ad0 d0.length cd0 : Value), .slice aw_dl dl.length cw_dl, .slice ad0 d0.length cd0]))).cells0 hz40.out 0 _ rfl; simpa using h_)⟩) (fun hHeld => ?_)
          clear hK K
          (try simp only [Act.put, List.setIfInBounds_toArray, List.set_cons_zero, List.set_cons_succ])
          refine ru_p 11 ?_
          (try simp only [Act.put, List.setIfInBounds_toArray, List.set_cons_zero, List.set_cons_succ])
          exact hZ123.out _ _ _ (by kernel_rfl) (by kernel_rfl) rfl ⟨atq65, ctq65, ltq65, htq65, w128.heap.size, (by kernel_rfl), (by kernel_rfl), (by kernel_rfl), (by kernel_rfl), (by kernel_rfl), (by kernel_rfl), (by kernel_rfl), (by kernel_rfl), (by first | omega | (simp; done) | (simp; omega)), F130⟩
        intro hZ127
        refine ru_state 96 (fun t w_ => ∃ (yg10 : Nat), t 10 = .slice (some ⟨w26.heap.size + 1, 0, none⟩) 3 3 ∧ t 11 = .slice (some ⟨w26.heap.size + 2, 0, none⟩) 3 3 ∧ t 12 = .int .i64 (k : Int) ∧ t 13 = .pointer (some ⟨w49.heap.size, 0, none⟩) ∧ t 15 = .pointer (some ⟨yg10, 0, none⟩) ∧ t 50 = .agg #[.slice oa52 jm.length oc53, .slice oa54 ltj48.length oc55] ∧ t 54 = zd ∧ w58.heap.size ≤ w_.heap.size ∧ Bun w [rbox yg10 39 #[.int .i64 0, .int .i64 0], rbox w49.heap.size 25 #[.slice oa52 jm.length oc53, .slice oa54 ltj48.length oc55], rown mchEnc 77 3 w44.heap.size (.slice oa52 jm.length oc53) jm, rown tskEncS 79 8 w44.heap.size (.slice oa54 ltj48.length oc55) ltj48, rafo w44.heap.size ltj48, rsl rowEnc 1 (w26.heap.size + 2) ((w26.heap.size + 2) + 1) (.slice (some ⟨w26.heap.size + 2, 0, none⟩) 3 3) ([(.slice ad0 d0.length cd0 : Value), .slice aw_dl dl.length cw_dl, .slice ad0 d0.length cd0]), rsl jvEnc 2 (w26.heap.size + 1) ((w26.heap.size + 1) + 1) (.slice (some ⟨w26.heap.size + 1, 0, none⟩) 3 3) ([((.slice aM0 m0.length cM0 : Value), (.slice aT0 t0.length cT0 : Value)), (.slice a1J ms.length c1J, .slice a2J ts.length c2J), (.slice a1J ms.length c1J, .slice a2J ts.length c2J)]), rsl weaEnc 6 lw_dl hw_dl (.slice aw_dl dl.length cw_dl) dl, rseed sb, rsl mchEnc 3 loJ hiJ (.slice a1J ms.length c1J) ms, rsl tskEnc 8 loJ hiJ (.slice a2J ts.length c2J) ts, rafs loJ hiJ ts, rsl intEnc 1 0 w.heap.size (.slice na zs.length nc) zs, rsl weaEnc 6 0 w.heap.size (.slice ad0 d0.length cd0) d0, rafs 0 w.heap.size t0, rsl tskEnc 8 0 w.heap.size (.slice aT0 t0.length cT0) t0, rsl mchEnc 3 0 w.heap.size (.slice aM0 m0.length cM0) m0] w_) #[true, true, true, true, true, false, false, false, false, false, true, false, false, false] 8 ?st131 ?nx131
        case st131 =>
          rintro t w132 ⟨yg10, e10, e11, e12, e13, e15, e50, e54, hsz131, F133⟩
          clear F62
          rw [rng_times_walk t, e10, e11, e12, e13, e15, e50, e54]
          clear e10 e11 e12 e13 e15 e50 e54
          have hws131 := F133.gb.size
          have yg10l := F133.ltAt 0 rfl yg10 rfl
          have yg10b := yg10l.2 rfl
          refine ru_one 5 rfl (by kernel_rfl) (fun K hK => ?_)
          go_simp
          refine (btimes_s 0 _ _ _ jm _ ltj48 jt HMXj48.out 0 _ _ jd _ (jobAt_own (F133.at 2 rfl : Own mchEnc 77 3 w44.heap.size _ (.slice oa52 jm.length oc53) jm) (F133.at 3 rfl : Own tskEncS 79 8 w44.heap.size _ (.slice oa54 ltj48.length oc55) ltj48) (F133.at 4 rfl : ∀ t ∈ ltj48, Own intEnc 3 1 w44.heap.size _ t.av t.af) HMXj48.out.2.2) (Nat.le_refl _) (day_pick HPK.out.2 (F133.at 13 rfl : Sl weaEnc 6 0 w.heap.size _ (.slice ad0 d0.length cd0) d0) (F133.at 7 rfl : Sl weaEnc 6 lw_dl hw_dl _ (.slice aw_dl dl.length cw_dl) dl) (by first | omega | (simp; done) | (simp; omega)) (by first | omega | (simp; done) | (simp; omega))) (Nat.le_refl _)).mono ?_
          rintro e w137 ⟨atq134, ctq134, ltq134, htq134, rfl, ⟨htxq134, htyq134⟩, htzq134, hg135⟩
          have hg135s := hg135.size
          (try simp at hg135s)
          have F138 := F133.add (rsl timEnc 4 ltq134 htq134 (.slice atq134 (timsOf jm jt jd).length ctq134) (timsOf jm jt jd)) hg135 (htzq134) (fun g e => ⟨Nat.le_trans htxq134 e.1, Nat.lt_of_lt_of_le e.2 htyq134⟩)
          clear F133
          refine ru_back hK (by exact ⟨F138.cl 2 0 rfl rfl, F138.cl 2 1 rfl rfl, (by have h_ := ((F138.at 6 rfl : Sl rowEnc 1 (w26.heap.size + 2) ((w26.heap.size + 2) + 1) _ (.slice (some ⟨w26.heap.size + 2, 0, none⟩) 3 3) ([(.slice ad0 d0.length cd0 : Value), .slice aw_dl dl.length cw_dl, .slice ad0 d0.length cd0]))).cells0 hz40.out 0 _ rfl; simpa using h_)⟩) (fun hHeld => ?_)
          clear hK K
          (try simp only [Act.put, List.setIfInBounds_toArray, List.set_cons_zero, List.set_cons_succ])
          refine ru_p 6 ?_
          (try simp only [Act.put, List.setIfInBounds_toArray, List.set_cons_zero, List.set_cons_succ])
          refine ru_p 7 ?_
          (try simp only [Act.put, List.setIfInBounds_toArray, List.set_cons_zero, List.set_cons_succ])
          refine ru_p 8 ?_
          (try simp only [Act.put, List.setIfInBounds_toArray, List.set_cons_zero, List.set_cons_succ])
          refine ru_p 9 ?_
          (try simp only [Act.put, List.setIfInBounds_toArray, List.set_cons_zero, List.set_cons_succ])
          refine ru_p 11 ?_
          (try simp only [Act.put, List.setIfInBounds_toArray, List.set_cons_zero, List.set_cons_succ])
          exact hZ123.out _ _ _ (by kernel_rfl) (by kernel_rfl) rfl ⟨atq134, ctq134, ltq134, htq134, yg10, (by kernel_rfl), (by kernel_rfl), (by kernel_rfl), (by kernel_rfl), (by kernel_rfl), (by kernel_rfl), (by kernel_rfl), (by kernel_rfl), (by first | omega | (simp; done) | (simp; omega)), (F138.pick [1, 0, 2, 3, 4, 5, 6, 7, 8, 9, 10, 11, 12, 13, 14, 15, 16, 17] (by decide) rfl)⟩
        intro hZ131
        refine ru_two 5 10 rfl rfl (by kernel_rfl) ?_ ?_
        · intro K hK
          go_simp
          refine (btimes_s 0 _ _ _ jm _ ltj48 jt HMXj48.out 0 _ _ jd _ (jobAt_own (F62.at 1 rfl : Own mchEnc 77 3 w44.heap.size _ (.slice oa52 jm.length oc53) jm) (F62.at 2 rfl : Own tskEncS 79 8 w44.heap.size _ (.slice oa54 ltj48.length oc55) ltj48) (F62.at 3 rfl : ∀ t ∈ ltj48, Own intEnc 3 1 w44.heap.size _ t.av t.af) HMXj48.out.2.2) (Nat.le_refl _) (day_pick HPK.out.2 (F62.at 12 rfl : Sl weaEnc 6 0 w.heap.size _ (.slice ad0 d0.length cd0) d0) (F62.at 6 rfl : Sl weaEnc 6 lw_dl hw_dl _ (.slice aw_dl dl.length cw_dl) dl) (by first | omega | (simp; done) | (simp; omega)) (by first | omega | (simp; done) | (simp; omega))) (Nat.le_refl _)).mono ?_
          rintro e w142 ⟨atq139, ctq139, ltq139, htq139, rfl, ⟨htxq139, htyq139⟩, htzq139, hg140⟩
          have hg140s := hg140.size
          (try simp at hg140s)
          have F143 := F62.add (rsl timEnc 4 ltq139 htq139 (.slice atq139 (timsOf jm jt jd).length ctq139) (timsOf jm jt jd)) hg140 (htzq139) (fun g e => ⟨Nat.le_trans htxq139 e.1, Nat.lt_of_lt_of_le e.2 htyq139⟩)
          clear F62
          refine ru_back hK (by exact ⟨F143.cl 1 0 rfl rfl, F143.cl 1 1 rfl rfl, (by have h_ := ((F143.at 5 rfl : Sl rowEnc 1 (w26.heap.size + 2) ((w26.heap.size + 2) + 1) _ (.slice (some ⟨w26.heap.size + 2, 0, none⟩) 3 3) ([(.slice ad0 d0.length cd0 : Value), .slice aw_dl dl.length cw_dl, .slice ad0 d0.length cd0]))).cells0 hz40.out 0 _ rfl; simpa using h_)⟩) (fun hHeld => ?_)
          clear hK K
          (try simp only [Act.put, List.setIfInBounds_toArray, List.set_cons_zero, List.set_cons_succ])
          refine ru_p 6 ?_
          (try simp only [Act.put, List.setIfInBounds_toArray, List.set_cons_zero, List.set_cons_succ])
          refine ru_p 7 ?_
          (try simp only [Act.put, List.setIfInBounds_toArray, List.set_cons_zero, List.set_cons_succ])
          refine ru_p 8 ?_
          (try simp only [Act.put, List.setIfInBounds_toArray, List.set_cons_zero, List.set_cons_succ])
          refine ru_p 9 ?_
          (try simp only [Act.put, List.setIfInBounds_toArray, List.set_cons_zero, List.set_cons_succ])
          exact hZ127.out _ _ _ (by kernel_rfl) (by kernel_rfl) rfl ⟨atq139, ctq139, ltq139, htq139, (by kernel_rfl), (by kernel_rfl), (by kernel_rfl), (by kernel_rfl), (by kernel_rfl), (by kernel_rfl), (by kernel_rfl), (by first | omega | (simp; done) | (simp; omega)), F143⟩
        · intro K hK
          go_simp
          have F144 := F62.new 39 #[.int .i64 0, .int .i64 0] (n := wd64.heap.size) (by simp)
          clear F62
          refine ru_back hK (by exact ⟨F144.cl 1 0 rfl rfl, F144.cl 1 1 rfl rfl, (by have h_ := ((F144.at 5 rfl : Sl rowEnc 1 (w26.heap.size + 2) ((w26.heap.size + 2) + 1) _ (.slice (some ⟨w26.heap.size + 2, 0, none⟩) 3 3) ([(.slice ad0 d0.length cd0 : Value), .slice aw_dl dl.length cw_dl, .slice ad0 d0.length cd0]))).cells0 hz40.out 0 _ rfl; simpa using h_)⟩) (fun _ => ?_)
          exact hZ131.out _ _ _ (by kernel_rfl) (by kernel_rfl) rfl ⟨wd64.heap.size, (by kernel_rfl), (by kernel_rfl), (by kernel_rfl), (by kernel_rfl), (by kernel_rfl), (by kernel_rfl), (by kernel_rfl), (by first | omega | (simp; done) | (simp; omega)), F144⟩
      · skip
        have c38H := Lib.hid c38
        have c38a : decide ((k : Int) < 3) = false := dec_f c38
        go_wp2_with fail
        refine (awake_c _).mono ?_
        rintro e w147 ⟨rfl, hg145⟩
        have hg145s := hg145.size
        (try simp at hg145s)
        have F148 := hF35.gn hg145
        clear hF35
        clear hg145
        go_wp2_with fail
        go_ret
        exact ⟨rfl, F148.gb⟩
    case atStart1 =>
      rw [HI34.out]
      exact ⟨0, (by first | kernel_rfl | rfl), (by first | kernel_rfl | rfl), rfl, Nat.zero_le _, rfl, (by first | exact Nat.le_refl _ | omega | (simp; done) | (simp; omega)), ((F33.drop 2 rfl).drop 7 rfl)⟩
  · skip
    have c13H := Lib.hid c13
    go_wp2_with fail
    refine (awake_c _).mono ?_
    rintro e w151 ⟨rfl, hg149⟩
    have hg149s := hg149.size
    (try simp at hg149s)
    have F152 := F12.gn hg149
    clear F12
    clear hg149
    go_wp2_with fail
    go_ret
    exact ⟨rfl, F152.gb⟩

end Go.Proofs.Ytokelpmngahnoaa
