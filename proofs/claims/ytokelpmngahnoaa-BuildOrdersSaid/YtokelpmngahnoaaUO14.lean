/- build: BuildOrders walked. -/
import Derived.Test.YtokelpmngahnoaaUKR
import Derived.Test.YtokelpmngahnoaaUL0
import Derived.Test.YtokelpmngahnoaaUE1
import Derived.Test.YtokelpmngahnoaaUE2
import Derived.Test.YtokelpmngahnoaaUJK1
import Derived.Test.YtokelpmngahnoaaUJK2
import Derived.Test.YtokelpmngahnoaaUJK3
import Derived.Test.YtokelpmngahnoaaUW2
import Derived.Test.YtokelpmngahnoaaUT3
import Derived.Test.YtokelpmngahnoaaUT4
set_option linter.unusedVariables false
set_option linter.unusedSimpArgs false
set_option linter.unnecessarySimpa false
namespace Go.Proofs.Ytokelpmngahnoaa
open Go.RowKit
set_option maxRecDepth 100000
attribute [local go_sem] Oper.semAt_some
def rowEnc (v : Value) : List Value := [v]
def jvEnc (p : Value × Value) : List Value := [p.1, p.2]
theorem JobAt.wide {lo hi lo' hi' : Nat} {w : World} {vm vt : Value} {ms : List Mch} {ts : List Tsk} (h : JobAt lo hi w vm vt ms ts) (h1 : lo' <= lo) (h2 : hi <= hi') : JobAt lo' hi' w vm vt ms ts :=
 ⟨h.m.wide h1 h2, h.t.wide h1 h2, fun t ht => ⟨(h.af t ht).1.wide h1 h2, (h.af t ht).2⟩⟩
theorem job_pick {w : World} {v1 v2 u1 u2 : Value} {zj : Value × Value} {m0 ms jm : List Mch} {t0 ts jt : List Tsk} {l1 h1 l2 h2 : Nat} (h : (zj = (v1, v2) /\ jm = m0 /\ jt = t0) ∨ (zj = (u1, u2) /\ jm = ms /\ jt = ts)) (s0 : JobAt l1 h1 w v1 v2 m0 t0) (s1 : JobAt l2 h2 w u1 u2 ms ts) (b0 : h1 <= w.heap.size) (b1 : h2 <= w.heap.size) : JobAt 0 w.heap.size w zj.1 zj.2 jm jt := by
 rcases h with ⟨rfl, rfl, rfl⟩ | ⟨rfl, rfl, rfl⟩
 · exact s0.wide (Nat.zero_le _) b0
 · exact s1.wide (Nat.zero_le _) b1
theorem day_pick {w : World} {v0 v1 zv : Value} {d0 dl dk : List Wea} {l1 h1 l2 h2 : Nat} (h : zv = v0 /\ dk = d0 ∨ zv = v1 /\ dk = dl) (s0 : Sl weaEnc 6 l1 h1 w v0 d0) (s1 : Sl weaEnc 6 l2 h2 w v1 dl) (b0 : h1 <= w.heap.size) (b1 : h2 <= w.heap.size) : Sl weaEnc 6 0 w.heap.size w zv dk := by
 rcases h with ⟨rfl, rfl⟩ | ⟨rfl, rfl⟩
 · exact s0.wide (Nat.zero_le _) b0
 · exact s1.wide (Nat.zero_le _) b1
theorem af_len {i : Nat} {l : List Int} (h : l.Nodup) (hl : ∀ a ∈ l, 0 <= a /\ a < (i : Int)) : l.length <= i := by
 have h2 := List.Nodup.length_le_of_subset (l₂ := (List.range i).map (fun (x : Nat) => (x : Int))) h (fun a ha => by
  have := hl a ha
  exact List.mem_map.2 ⟨a.toNat, by simp; omega, by omega⟩)
 simpa using h2
structure JSmall (ms : List Mch) (ts : List Tsk) : Prop where
 m : ms.length <= 100000
 t : ts.length <= 100000
 a : ∀ t ∈ ts, t.af.length <= 100000
theorem jsmall_ok {ms : List Mch} {ts : List Tsk} (h : JobOk ms ts) : JSmall ms ts := by
 have h1 := h.nm
 have h2 := h.nt
 refine ⟨by omega, by omega, fun t ht => ?_⟩
 obtain ⟨k, hk, e⟩ := List.getElem_of_mem ht
 have h3 := h.to_ k t (by rw [List.getElem?_eq_getElem hk, e])
 have := af_len h3.nd h3.af
 omega
theorem jsmall_big {ms : List Mch} {ts : List Tsk} {dl : List Wea} (h : BigOk ms ts dl) : JSmall ms ts := ⟨Nat.le_trans h.m (by omega), Nat.le_trans h.t (by omega), fun t ht => Nat.le_trans (h.af t ht) (by omega)⟩
theorem jsmall_pick {v1 v2 u1 u2 : Value} {zj : Value × Value} {m0 ms jm : List Mch} {t0 ts jt : List Tsk} (h : (zj = (v1, v2) /\ jm = m0 /\ jt = t0) ∨ (zj = (u1, u2) /\ jm = ms /\ jt = ts)) (h0 : JSmall m0 t0) (h1 : JSmall ms ts) : JSmall jm jt := by
 rcases h with ⟨_, rfl, rfl⟩ | ⟨_, rfl, rfl⟩
 · exact h0
 · exact h1
theorem tk_ord {n : Nat} {a b : List Tsk} (h : mixT n a b) (o : List Nat) (i : Nat) : sameT (tk (ordT a o) i) (tk (ordT b o) i) := by
 rcases hx : o[i]? with _ | x
 ·
  unfold tk
  have e : ∀ l : List Tsk, (ordT l o)[i]? = none := fun l => by rw [ordT, List.getElem?_map, hx]; rfl
  rw [List.getD_eq_getElem?_getD, List.getD_eq_getElem?_getD, e, e]
  exact ⟨rfl, rfl, rfl, rfl, rfl⟩
 rw [tk_get (ordT_at hx), tk_get (ordT_at hx)]
 obtain ⟨h1, h2, h3, h4, h5⟩ := tk_same h x
 exact ⟨h1, h2, h3, h4, by show (tk a x).af.map _ = (tk b x).af.map _; rw [h5]⟩
theorem opO_same {n : Nat} {a b : List Tsk} (h : mixT n a b) (ms : List Mch) (dl : List Wea) (o : List Nat) : opO ms a dl o = opO ms b dl o := by
 have hs := tk_ord h o
 have e : caseOf true ms (ordT a o) dl = caseOf true ms (ordT b o) dl := by
  unfold caseOf
  congr 1
  · funext i; rw [(hs i).2.1]
  · funext i; rw [(hs i).2.2.1]
  · funext i; rw [(hs i).2.2.2.1]
  · funext i; rw [(hs i).1]
  · funext i; rw [(hs i).2.2.2.2]
 unfold opO
 rw [e, h.1]
theorem extB_same {n : Nat} {a b : List Tsk} (h : mixT n a b) (now : List Nat) (k : Nat) : extB a now k = extB b now k := by
 unfold extB
 rw [(tk_same h k).2.2.2.2]
theorem ords_same {n : Nat} {a b : List Tsk} (h : mixT n a b) : ∀ (f : Nat) (now : List Nat), ords a f now = ords b f now
 | 0, now => rfl
 | f + 1, now => by
  unfold ords
  rw [h.1]
  congr 1
  funext k
  rw [extB_same h, ords_same h f]
theorem bestS_same {n : Nat} {a b : List Tsk} (h : mixT n a b) (ms : List Mch) (dl : List Wea) : bestS ms a dl = bestS ms b dl := by
 have e : upB ms a dl = upB ms b dl := by
  funext s o
  unfold upB
  rw [opO_same h]
 unfold bestS tryS
 rw [e, ords_same h, h.1]
theorem best_s (lo hi : Nat) (vm vt : Value) (ms : List Mch) (n : Nat) (lt ts : List Tsk) (hm : mixT n lt ts) (lo2 hi2 : Nat) (vd : Value) (dl : List Wea) (w : World) (hj : JobAt lo hi w vm vt ms lt) (h2 : hi <= w.heap.size) (hd : Sl weaEnc 6 lo2 hi2 w vd dl) (h3 : hi2 <= w.heap.size) :
  Calls Try.prog 46 #[.agg #[vm, vt], vd] w (BestR ms ts dl w) := by
 have h := best_c lo hi vm vt ms lt lo2 hi2 vd dl w hj h2 hd h3
 have e0 : bstE ms lt dl = bstE ms ts dl := by unfold bstE; rw [bothErr_same hm, hm.1]
 have e1 : bstO ms lt dl = bstO ms ts dl := by unfold bstO; rw [e0, bestS_same hm]
 have e2 : bstH ms lt dl = bstH ms ts dl := by unfold bstH; rw [e0, bestS_same hm]
 unfold BestR at h ⊢
 rw [e0, e1, e2] at h
 exact h
theorem job_of2 {v1 v2 u1 u2 d1 d2 : Value} {zj : Value × Value} {zd : Value} (m0 ms : List Mch) (t0 ts : List Tsk) (d0 dl : List Wea) {k : Nat} (h : [(v1, v2), (u1, u2)][k]? = some zj) (h' : [d1, d2][k]? = some zd) :
  ∃ (jm : List Mch) (jt : List Tsk) (jd : List Wea), ((zj = (v1, v2) /\ jm = m0 /\ jt = t0) ∨ (zj = (u1, u2) /\ jm = ms /\ jt = ts)) /\ ((zd = d1 /\ jd = d0) ∨ (zd = d2 /\ jd = dl)) := by
 match k, h, h' with
 | 0, h, h' => exact ⟨m0, t0, d0, .inl ⟨by simpa using h.symm, rfl, rfl⟩, .inl ⟨by simpa using h'.symm, rfl⟩⟩
 | 1, h, h' => exact ⟨ms, ts, dl, .inr ⟨by simpa using h.symm, rfl, rfl⟩, .inr ⟨by simpa using h'.symm, rfl⟩⟩
 | n + 2, h, _ => simp at h
theorem same_o (lo hi lo' hi' : Nat) (v v' : Value) (l : List Int) (w : World) (hx : Sl intEnc 1 lo hi w v l) (h2 : hi <= w.heap.size) (hy : Sl intEnc 1 lo' hi' w v' l) (h3 : hi' <= w.heap.size) : Calls Try.prog 39 #[v, v'] w (Ret (.bool true) w) := same_t lo hi lo' hi' v v' l w hx hy
theorem rng_orders_walk (t : Nat -> Value) : ((List.range 94).map t).toArray = List.toArray [t 0, t 1, t 2, t 3, t 4, t 5, t 6, t 7, t 8, t 9, t 10, t 11, t 12, t 13, t 14, t 15, t 16, t 17, t 18, t 19, t 20, t 21, t 22, t 23, t 24, t 25, t 26, t 27, t 28, t 29, t 30, t 31, t 32, t 33, t 34, t 35, t 36, t 37, t 38, t 39, t 40, t 41, t 42, t 43, t 44, t 45, t 46, t 47, t 48, t 49, t 50, t 51, t 52, t 53, t 54, t 55, t 56, t 57, t 58, t 59, t 60, t 61, t 62, t 63, t 64, t 65, t 66, t 67, t 68, t 69, t 70, t 71, t 72, t 73, t 74, t 75, t 76, t 77, t 78, t 79, t 80, t 81, t 82, t 83, t 84, t 85, t 86, t 87, t 88, t 89, t 90, t 91, t 92, t 93] := rfl
set_option maxHeartbeats 64000000 in
theorem orders_walk (vm vt : Value) (m0 : List Mch) (t0 : List Tsk) (vd : Value) (d0 : List Wea) (vn : Value) (zs : List Int) (w : World) (hj : JobAt 0 w.heap.size w vm vt m0 t0) (hd : Sl weaEnc 6 0 w.heap.size w vd d0) (hn : Sl intEnc 1 0 w.heap.size w vn zs) :
  Calls Try.prog 11 #[.agg #[vm, vt], vd, vn] w (Ret (.bool true) w) := by
 have F1 : Bun w [] w := Bun.nil _
 obtain ⟨hms0, hts0, haf0⟩ := hj
 have hm_ms0 := hms0.len
 unfold maxLen at hm_ms0
 obtain ⟨aM0, cM0, rfl⟩ := hms0.any
 replace F1 := F1.sl0 hms0 (Nat.le_refl _) rfl
 clear hms0
 have hm_ts0 := hts0.len
 unfold maxLen at hm_ts0
 obtain ⟨aT0, cT0, rfl⟩ := hts0.any
 replace F1 := F1.sl0 hts0 (Nat.le_refl _) rfl
 clear hts0
 replace F1 := F1.non0 (rafs 0 w.heap.size t0) haf0 (fun _ h_ => Nat.lt_of_lt_of_le h_.2 (Nat.le_refl _)) rfl rfl
 clear haf0
 have hm_ds0 := hd.len
 unfold maxLen at hm_ds0
 obtain ⟨ad0, cd0, rfl⟩ := hd.any
 replace F1 := F1.sl0 hd (Nat.le_refl _) rfl
 clear hd
 obtain ⟨na, nc, rfl⟩ := hn.any
 have hm_nums := hn.len
 unfold maxLen at hm_nums
 replace F1 := F1.sl0 hn (Nat.le_refl _) rfl
 go_enter Try.func11, Try.ntmps11
 go_wp2_with fail
 replace F1 := F1.new 25 #[.slice aM0 m0.length cM0, .slice aT0 t0.length cT0] (n := w.heap.size) (by simp)
 refine (bbig_c 0 w.heap.size _ _ m0 t0 0 w.heap.size _ d0 _ (JobAt.mk (F1.at 5 rfl : Sl mchEnc 3 0 w.heap.size _ (.slice aM0 m0.length cM0) m0) (F1.at 4 rfl : Sl tskEnc 8 0 w.heap.size _ (.slice aT0 t0.length cT0) t0) (F1.at 3 rfl : Afs 0 w.heap.size _ t0)) (by first | omega | (simp; done) | (simp; omega)) (F1.at 2 rfl : Sl weaEnc 6 0 w.heap.size _ (.slice ad0 d0.length cd0) d0) (by first | omega | (simp; done) | (simp; omega))).mono ?_
 rintro e w11 ⟨bb7, rfl, hbok, hg9⟩
 have HBK := lhd hbok
 clear hbok
 have hg9s := hg9.size
 (try simp at hg9s)
 replace F1 := F1.gn hg9
 clear hg9
 cases c13 : bb7
 ·
  have c13H := lhd c13
  have HSM0 := lhd (jsmall_big (HBK.out c13))
  go_wp2_with fail
  refine (newSeed_c 0 w.heap.size _ zs _ (F1.at 1 rfl : Sl intEnc 1 0 w.heap.size _ (.slice na zs.length nc) zs)).mono ?_
  rintro e w16 ⟨sb, rfl, hsb, hsbs, hg14⟩
  have hsbl := hsbs.lt
  have hg14s := hg14.size
  (try simp at hg14s)
  replace F1 := F1.add (rseed sb) hg14 (hsbs) (fun g e => by cases e; exact ⟨hsb, hsbs.lt⟩)
  clear hg14
  go_wp2_with fail
  refine (jobOf_c sb 5 _ (F1.at 0 rfl : SeedAt _ sb) (by omega)).mono ?_
  rintro e w20 ⟨ms, ts, a1J, a2J, c1J, c2J, loJ, hiJ, rfl, ⟨hxJ, hyJ⟩, hjJ, ⟨hjeJ, hmaJ, hmbJ, htaJ⟩, hs19, hg18⟩
  have HJEJ := lhd hjeJ
  clear hjeJ
  have hg18s := hg18.size
  (try simp at hg18s)
  replace F1 := F1.seedAdd (rafs loJ hiJ ts) hg18 hs19 (hjJ.af) (fun g e => ⟨Nat.le_trans hxJ e.1, Nat.lt_of_lt_of_le e.2 hyJ⟩)
  clear hg18
  replace F1 := F1.more 0 (rsl tskEnc 8 loJ hiJ (.slice a2J ts.length c2J) ts) rfl rfl rfl (fun _ h_ => h_) (Sl.gb hjJ.t (gb_refl _ none) (fun _ e => by cases e))
  have hm_tsJ := (F1.at 0 rfl : Sl tskEnc 8 loJ hiJ _ (.slice a2J ts.length c2J) ts).len
  unfold maxLen at hm_tsJ
  replace F1 := F1.more 1 (rsl mchEnc 3 loJ hiJ (.slice a1J ms.length c1J) ms) rfl rfl rfl (fun _ h_ => h_) (Sl.gb hjJ.m (gb_refl _ none) (fun _ e => by cases e))
  have hm_msJ := (F1.at 0 rfl : Sl mchEnc 3 loJ hiJ _ (.slice a1J ms.length c1J) ms).len
  unfold maxLen at hm_msJ
  go_wp2_with fail
  refine (weekOf_c sb 6 _ ((F1.front 3 rfl rfl).at 0 rfl : SeedAt _ sb) (by omega)).mono ?_
  rintro e w26 ⟨dl, aw_dl, cw_dl, lw_dl, hw_dl, rfl, ⟨hwx_dl, hwy_dl⟩, hwz_dl, ⟨hwl_dl, hwe_dl⟩, hs25, hg24⟩
  have HWE_dl := lhd hwe_dl
  clear hwe_dl
  have hg24s := hg24.size
  (try simp at hg24s)
  have F27 := (F1.front 3 rfl rfl).seedAdd (rsl weaEnc 6 lw_dl hw_dl (.slice aw_dl dl.length cw_dl) dl) hg24 hs25 (hwz_dl) (fun g e => ⟨Nat.le_trans hwx_dl e.1, Nat.lt_of_lt_of_le e.2 hwy_dl⟩)
  clear F1
  clear hg24
  have HSMJ := lhd (jsmall_ok (jobOk HJEJ.out))
  have b28 := F27.bx2 5 rfl
  go_wp2_with fail
  clear b28
  replace F27 := F27.new 25 #[.slice a1J ms.length c1J, .slice a2J ts.length c2J] (n := w26.heap.size) (by simp)
  replace F27 := F27.new 25 #[.slice aM0 m0.length cM0, .slice aT0 t0.length cT0, .slice a1J ms.length c1J, .slice a2J ts.length c2J] (n := (w26.heap.size + 1)) (by simp)
  replace F27 := F27.new 26 #[.slice ad0 d0.length cd0, .slice aw_dl dl.length cw_dl] (n := (w26.heap.size + 2)) (by simp)
  have F32 := (F27.front 1 rfl rfl).lit jvEnc 2 [((.slice aM0 m0.length cM0 : Value), (.slice aT0 t0.length cT0 : Value)), (.slice a1J ms.length c1J, .slice a2J ts.length c2J)] 2 (fun _ => rfl) rfl (by show (2 : Nat) <= 1000; omega)
  clear F27
  have F33 := (F32.front 1 rfl rfl).lit rowEnc 1 [(.slice ad0 d0.length cd0 : Value), .slice aw_dl dl.length cw_dl] 2 (fun _ => rfl) rfl (by show (2 : Nat) <= 1000; omega)
  clear F32
  (skip)
  obtain ⟨HI34_, HI340⟩ : ∃ I : RelT, I = (fun t ds wr => ∃ (k : Nat), t 10 = .slice (some ⟨w26.heap.size + 1, 0, none⟩) 2 2 /\ t 11 = .slice (some ⟨w26.heap.size + 2, 0, none⟩) 2 2 /\ t 12 = .int .i64 (k : Int) /\ k <= 2 /\ ds = [] /\ w26.heap.size <= wr.heap.size /\ Bun w [rsl rowEnc 1 (w26.heap.size + 2) ((w26.heap.size + 2) + 1) (.slice (some ⟨w26.heap.size + 2, 0, none⟩) 2 2) ([(.slice ad0 d0.length cd0 : Value), .slice aw_dl dl.length cw_dl]), rsl jvEnc 2 (w26.heap.size + 1) ((w26.heap.size + 1) + 1) (.slice (some ⟨w26.heap.size + 1, 0, none⟩) 2 2) ([((.slice aM0 m0.length cM0 : Value), (.slice aT0 t0.length cT0 : Value)), (.slice a1J ms.length c1J, .slice a2J ts.length c2J)]), rsl weaEnc 6 lw_dl hw_dl (.slice aw_dl dl.length cw_dl) dl, rseed sb, rsl mchEnc 3 loJ hiJ (.slice a1J ms.length c1J) ms, rsl tskEnc 8 loJ hiJ (.slice a2J ts.length c2J) ts, rafs loJ hiJ ts, rsl intEnc 1 0 w.heap.size (.slice na zs.length nc) zs, rsl weaEnc 6 0 w.heap.size (.slice ad0 d0.length cd0) d0, rafs 0 w.heap.size t0, rsl tskEnc 8 0 w.heap.size (.slice aT0 t0.length cT0) t0, rsl mchEnc 3 0 w.heap.size (.slice aM0 m0.length cM0) m0] wr) := ⟨_, rfl⟩
  have HI34 := lhd HI340
  clear HI340
  refine wp_loopS 94 rfl HI34_ (fun t wr => 2 - (intOf (t 12)).toNat) ?atStart1 ?round1
  case round1 =>
   intro t ds wr hHid
   rw [HI34.out] at hHid
   obtain ⟨k, e10, e11, e12, hrel⟩ := hHid
   have e : ((List.range 94).map t).toArray = #[t 0, t 1, t 2, t 3, t 4, t 5, t 6, t 7, t 8, t 9, t 10, t 11, t 12, t 13, t 14, t 15, t 16, t 17, t 18, t 19, t 20, t 21, t 22, t 23, t 24, t 25, t 26, t 27, t 28, t 29, t 30, t 31, t 32, t 33, t 34, t 35, t 36, t 37, t 38, t 39, t 40, t 41, t 42, t 43, t 44, t 45, t 46, t 47, t 48, t 49, t 50, t 51, t 52, t 53, t 54, t 55, t 56, t 57, t 58, t 59, t 60, t 61, t 62, t 63, t 64, t 65, t 66, t 67, t 68, t 69, t 70, t 71, t 72, t 73, t 74, t 75, t 76, t 77, t 78, t 79, t 80, t 81, t 82, t 83, t 84, t 85, t 86, t 87, t 88, t 89, t 90, t 91, t 92, t 93] := rfl
   (try dsimp only at e)
   rw [e10, e11, e12] at e
   rw [e]
   simp only [e12]
   clear e e10 e11 e12
   obtain ⟨hk, rfl, hs36, hF35⟩ := hrel
   clear F33
   obtain ⟨w37, rfl⟩ : ∃ x_ : World, x_ = wr := ⟨_, rfl⟩
   by_cases c38 : (k : Int) < 2
   ·
    have c38H := lhd c38
    obtain ⟨zj, hz39_⟩ : ∃ z_, ([((.slice aM0 m0.length cM0 : Value), (.slice aT0 t0.length cT0 : Value)), (.slice a1J ms.length c1J, .slice a2J ts.length c2J)])[k]? = some z_ := ⟨_, List.getElem?_eq_getElem (by show k < 2; omega)⟩
    have hz39 := lhd hz39_
    clear hz39_
    obtain ⟨zd, hz40_⟩ : ∃ z_, ([(.slice ad0 d0.length cd0 : Value), .slice aw_dl dl.length cw_dl])[k]? = some z_ := ⟨_, List.getElem?_eq_getElem (by show k < 2; omega)⟩
    have hz40 := lhd hz40_
    clear hz40_
    obtain ⟨jm, jt, jd, hpk_⟩ := job_of2 m0 ms t0 ts d0 dl hz39.out hz40.out
    have HPK := lhd hpk_
    clear hpk_
    have HSMK := lhd (jsmall_pick HPK.out.1 HSM0.out HSMJ.out)
    have ge41 : World.cell? _ ⟨w26.heap.size + 1, k * 2, none⟩ = some zj.1 := (((hF35.at 1 rfl : Sl jvEnc 2 (w26.heap.size + 1) ((w26.heap.size + 1) + 1) _ (.slice (some ⟨w26.heap.size + 1, 0, none⟩) 2 2) ([((.slice aM0 m0.length cM0 : Value), (.slice aT0 t0.length cT0 : Value)), (.slice a1J ms.length c1J, .slice a2J ts.length c2J)]))).cells0 hz39.out 0 _ rfl)
    have gl42 := cell_lt ge41
    have ge43 : World.cell? _ ⟨w26.heap.size + 1, k * 2 + 1, none⟩ = some zj.2 := (((hF35.at 1 rfl : Sl jvEnc 2 (w26.heap.size + 1) ((w26.heap.size + 1) + 1) _ (.slice (some ⟨w26.heap.size + 1, 0, none⟩) 2 2) ([((.slice aM0 m0.length cM0 : Value), (.slice aT0 t0.length cT0 : Value)), (.slice a1J ms.length c1J, .slice a2J ts.length c2J)]))).cells0 hz39.out 1 _ rfl)
    go_wp2_with fail
    clear ge41 gl42 ge43
    obtain ⟨w44, hx45, F47, hxs46⟩ := (show Bun w [rsl rowEnc 1 (w26.heap.size + 2) ((w26.heap.size + 2) + 1) (.slice (some ⟨w26.heap.size + 2, 0, none⟩) 2 2) ([(.slice ad0 d0.length cd0 : Value), .slice aw_dl dl.length cw_dl]), rsl jvEnc 2 (w26.heap.size + 1) ((w26.heap.size + 1) + 1) (.slice (some ⟨w26.heap.size + 1, 0, none⟩) 2 2) ([((.slice aM0 m0.length cM0 : Value), (.slice aT0 t0.length cT0 : Value)), (.slice a1J ms.length c1J, .slice a2J ts.length c2J)]), rsl weaEnc 6 lw_dl hw_dl (.slice aw_dl dl.length cw_dl) dl, rseed sb, rsl mchEnc 3 loJ hiJ (.slice a1J ms.length c1J) ms, rsl tskEnc 8 loJ hiJ (.slice a2J ts.length c2J) ts, rafs loJ hiJ ts, rsl intEnc 1 0 w.heap.size (.slice na zs.length nc) zs, rsl weaEnc 6 0 w.heap.size (.slice ad0 d0.length cd0) d0, rafs 0 w.heap.size t0, rsl tskEnc 8 0 w.heap.size (.slice aT0 t0.length cT0) t0, rsl mchEnc 3 0 w.heap.size (.slice aM0 m0.length cM0) m0] _ from hF35).name
    (try simp at hxs46)
    rw [hx45]
    clear hx45 hF35
    refine (ownJob_c 0 _ _ _ jm jt _ (job_pick HPK.out.1 (JobAt.mk (F47.at 11 rfl : Sl mchEnc 3 0 w.heap.size _ (.slice aM0 m0.length cM0) m0) (F47.at 10 rfl : Sl tskEnc 8 0 w.heap.size _ (.slice aT0 t0.length cT0) t0) (F47.at 9 rfl : Afs 0 w.heap.size _ t0)) (JobAt.mk (F47.at 4 rfl : Sl mchEnc 3 loJ hiJ _ (.slice a1J ms.length c1J) ms) (F47.at 5 rfl : Sl tskEnc 8 loJ hiJ _ (.slice a2J ts.length c2J) ts) (F47.at 6 rfl : Afs loJ hiJ _ ts)) (by first | omega | (simp; done) | (simp; omega)) (by first | omega | (simp; done) | (simp; omega))) (Nat.le_refl _) HSMK.out.m HSMK.out.t HSMK.out.a).mono ?_
    rintro e w49 ⟨ov1j48, ov2j48, ltj48, rfl, hmx_, hB50⟩
    have hB50s := hB50.gb.size
    (try simp at hB50s)
    replace F47 := F47.joinV (L2 := [rown mchEnc 77 3 w44.heap.size ov1j48 jm, rown tskEncS 79 8 w44.heap.size ov2j48 ltj48, rafo w44.heap.size ltj48]) hB50 (List.forall_mem_cons.2 ⟨fun g hx => ((hB50.ltAt 0 rfl g hx).2 rfl), List.forall_mem_cons.2 ⟨fun g hx => ((hB50.ltAt 1 rfl g hx).2 rfl), List.forall_mem_cons.2 ⟨fun g hx => ((hB50.ltAt 2 rfl g hx).2 rfl), fun _ h => by cases h⟩⟩⟩)
    clear hB50
    (try dsimp only [List.cons_append, List.nil_append] at F47)
    have HMXj48 := lhd hmx_
    have hltj48 : ltj48.length <= jt.length /\ jt.length <= ltj48.length := ⟨Nat.le_of_eq hmx_.1, Nat.le_of_eq hmx_.1.symm⟩
    clear hmx_
    obtain ⟨oa52, oc53, e_⟩ := (Own.sl (F47.at 0 rfl : Own mchEnc 77 3 w44.heap.size _ ov1j48 jm) (fun _ => rfl)).any
    subst e_
    obtain ⟨oa54, oc55, e_⟩ := (Own.sl (F47.at 1 rfl : Own tskEncS 79 8 w44.heap.size _ ov2j48 ltj48) (fun _ => rfl)).any
    subst e_
    (skip)
    go_wp2_with fail
    replace F47 := F47.new 25 #[.slice oa52 jm.length oc53, .slice oa54 ltj48.length oc55] (n := w49.heap.size) (by simp)
    obtain ⟨w57, hx58, F60, hxs59⟩ := (show Bun w [rbox w49.heap.size 25 #[.slice oa52 jm.length oc53, .slice oa54 ltj48.length oc55], rown mchEnc 77 3 w44.heap.size (.slice oa52 jm.length oc53) jm, rown tskEncS 79 8 w44.heap.size (.slice oa54 ltj48.length oc55) ltj48, rafo w44.heap.size ltj48, rsl rowEnc 1 (w26.heap.size + 2) ((w26.heap.size + 2) + 1) (.slice (some ⟨w26.heap.size + 2, 0, none⟩) 2 2) ([(.slice ad0 d0.length cd0 : Value), .slice aw_dl dl.length cw_dl]), rsl jvEnc 2 (w26.heap.size + 1) ((w26.heap.size + 1) + 1) (.slice (some ⟨w26.heap.size + 1, 0, none⟩) 2 2) ([((.slice aM0 m0.length cM0 : Value), (.slice aT0 t0.length cT0 : Value)), (.slice a1J ms.length c1J, .slice a2J ts.length c2J)]), rsl weaEnc 6 lw_dl hw_dl (.slice aw_dl dl.length cw_dl) dl, rseed sb, rsl mchEnc 3 loJ hiJ (.slice a1J ms.length c1J) ms, rsl tskEnc 8 loJ hiJ (.slice a2J ts.length c2J) ts, rafs loJ hiJ ts, rsl intEnc 1 0 w.heap.size (.slice na zs.length nc) zs, rsl weaEnc 6 0 w.heap.size (.slice ad0 d0.length cd0) d0, rafs 0 w.heap.size t0, rsl tskEnc 8 0 w.heap.size (.slice aT0 t0.length cT0) t0, rsl mchEnc 3 0 w.heap.size (.slice aM0 m0.length cM0) m0] _ from F47).name
    (try simp at hxs59)
    rw [hx58]
    clear hx58 F47
    replace F60 := F60.drew
    refine ru_begin (fun W => W.cell? ⟨w49.heap.size, 0, none⟩ = some (.slice oa52 jm.length oc53) /\ W.cell? ⟨w49.heap.size, 1, none⟩ = some (.slice oa54 ltj48.length oc55) /\ W.cell? ⟨w26.heap.size + 2, k, none⟩ = some zd) 12 (by kernel_rfl) ?_ ?_
    · exact ⟨F60.q 0 0, F60.q 0 1, (by have h_ := ((F60.at 4 rfl : Sl rowEnc 1 (w26.heap.size + 2) ((w26.heap.size + 2) + 1) _ (.slice (some ⟨w26.heap.size + 2, 0, none⟩) 2 2) ([(.slice ad0 d0.length cd0 : Value), .slice aw_dl dl.length cw_dl]))).cells0 hz40.out 0 _ rfl; simpa using h_)⟩
    obtain ⟨wd63, hwd_⟩ : ∃ x : World, w57.drew = x := ⟨_, rfl⟩
    rw [hwd_] at F60 ⊢
    have wd63s : w57.heap.size <= wd63.heap.size := by rw [← hwd_]; exact Nat.le_refl _
    clear hwd_
    have hS62 := (And.intro (F60.q 0 0) (And.intro (F60.q 0 1) ((by have h_ := ((F60.at 4 rfl : Sl rowEnc 1 (w26.heap.size + 2) ((w26.heap.size + 2) + 1) _ (.slice (some ⟨w26.heap.size + 2, 0, none⟩) 2 2) ([(.slice ad0 d0.length cd0 : Value), .slice aw_dl dl.length cw_dl]))).cells0 hz40.out 0 _ rfl; simpa using h_))))
    refine ru_t 0 [] ?_
    refine ru_t 1 [] ?_
    refine ru_t 2 [] ?_
    refine ru_t 3 [] ?_
    refine ru_t 4 [] ?_
    (try simp only [lpX])
    clear hS62
    refine ru_state 94 (fun t w_ => ∃ (acka : Option Addr) (ccka : Nat) (lcka : Nat) (hcka : Nat), t 10 = .slice (some ⟨w26.heap.size + 1, 0, none⟩) 2 2 /\ t 11 = .slice (some ⟨w26.heap.size + 2, 0, none⟩) 2 2 /\ t 12 = .int .i64 (k : Int) /\ t 13 = .pointer (some ⟨w49.heap.size, 0, none⟩) /\ t 14 = .slice acka ((bstO jm jt jd).length) ccka /\ t 15 = .int .i64 (bstH jm jt jd) /\ t 16 = .int .i64 (bstE jm jt jd) /\ w57.heap.size <= w_.heap.size /\ Bun w [rsl intEnc 1 lcka hcka (.slice acka (bstO jm jt jd).length ccka) (ints (bstO jm jt jd)), rbox w49.heap.size 25 #[.slice oa52 jm.length oc53, .slice oa54 ltj48.length oc55], rown mchEnc 77 3 w44.heap.size (.slice oa52 jm.length oc53) jm, rown tskEncS 79 8 w44.heap.size (.slice oa54 ltj48.length oc55) ltj48, rafo w44.heap.size ltj48, rsl rowEnc 1 (w26.heap.size + 2) ((w26.heap.size + 2) + 1) (.slice (some ⟨w26.heap.size + 2, 0, none⟩) 2 2) ([(.slice ad0 d0.length cd0 : Value), .slice aw_dl dl.length cw_dl]), rsl jvEnc 2 (w26.heap.size + 1) ((w26.heap.size + 1) + 1) (.slice (some ⟨w26.heap.size + 1, 0, none⟩) 2 2) ([((.slice aM0 m0.length cM0 : Value), (.slice aT0 t0.length cT0 : Value)), (.slice a1J ms.length c1J, .slice a2J ts.length c2J)]), rsl weaEnc 6 lw_dl hw_dl (.slice aw_dl dl.length cw_dl) dl, rseed sb, rsl mchEnc 3 loJ hiJ (.slice a1J ms.length c1J) ms, rsl tskEnc 8 loJ hiJ (.slice a2J ts.length c2J) ts, rafs loJ hiJ ts, rsl intEnc 1 0 w.heap.size (.slice na zs.length nc) zs, rsl weaEnc 6 0 w.heap.size (.slice ad0 d0.length cd0) d0, rafs 0 w.heap.size t0, rsl tskEnc 8 0 w.heap.size (.slice aT0 t0.length cT0) t0, rsl mchEnc 3 0 w.heap.size (.slice aM0 m0.length cM0) m0] w_) #[true, true, true, true, true, true, true, true, true, true, true, true, true] 0 ?st64 ?nx64
    case st64 =>
     rintro t w65 ⟨acka, ccka, lcka, hcka, e10, e11, e12, e13, e14, e15, e16, hsz64, F66⟩
     clear F60
     rw [rng_orders_walk t, e10, e11, e12, e13, e14, e15, e16]
     clear e10 e11 e12 e13 e14 e15 e16
     have hws64 := F66.gb.size
     refine ru_done (by kernel_rfl) ?_
     obtain ⟨w67, hx68, F70, hxs69⟩ := F66.name
     (try simp at hxs69)
     rw [hx68]
     clear hx68 F66
     go_wp2_with fail
     replace F70 := F70.drew
     refine ru_begin (fun W => W.cell? ⟨w26.heap.size + 1, k * 2, none⟩ = some zj.1 /\ W.cell? ⟨w26.heap.size + 1, k * 2 + 1, none⟩ = some zj.2 /\ W.cell? ⟨w26.heap.size + 2, k, none⟩ = some zd) 15 (by kernel_rfl) ?_ ?_
     · exact ⟨(((F70.at 6 rfl : Sl jvEnc 2 (w26.heap.size + 1) ((w26.heap.size + 1) + 1) _ (.slice (some ⟨w26.heap.size + 1, 0, none⟩) 2 2) ([((.slice aM0 m0.length cM0 : Value), (.slice aT0 t0.length cT0 : Value)), (.slice a1J ms.length c1J, .slice a2J ts.length c2J)]))).cells0 hz39.out 0 _ rfl), (((F70.at 6 rfl : Sl jvEnc 2 (w26.heap.size + 1) ((w26.heap.size + 1) + 1) _ (.slice (some ⟨w26.heap.size + 1, 0, none⟩) 2 2) ([((.slice aM0 m0.length cM0 : Value), (.slice aT0 t0.length cT0 : Value)), (.slice a1J ms.length c1J, .slice a2J ts.length c2J)]))).cells0 hz39.out 1 _ rfl), (by have h_ := ((F70.at 5 rfl : Sl rowEnc 1 (w26.heap.size + 2) ((w26.heap.size + 2) + 1) _ (.slice (some ⟨w26.heap.size + 2, 0, none⟩) 2 2) ([(.slice ad0 d0.length cd0 : Value), .slice aw_dl dl.length cw_dl]))).cells0 hz40.out 0 _ rfl; simpa using h_)⟩
     obtain ⟨wd73, hwd_⟩ : ∃ x : World, w67.drew = x := ⟨_, rfl⟩
     rw [hwd_] at F70 ⊢
     have wd73s : w67.heap.size <= wd73.heap.size := by rw [← hwd_]; exact Nat.le_refl _
     clear hwd_
     have hS72 := (And.intro ((((F70.at 6 rfl : Sl jvEnc 2 (w26.heap.size + 1) ((w26.heap.size + 1) + 1) _ (.slice (some ⟨w26.heap.size + 1, 0, none⟩) 2 2) ([((.slice aM0 m0.length cM0 : Value), (.slice aT0 t0.length cT0 : Value)), (.slice a1J ms.length c1J, .slice a2J ts.length c2J)]))).cells0 hz39.out 0 _ rfl)) (And.intro ((((F70.at 6 rfl : Sl jvEnc 2 (w26.heap.size + 1) ((w26.heap.size + 1) + 1) _ (.slice (some ⟨w26.heap.size + 1, 0, none⟩) 2 2) ([((.slice aM0 m0.length cM0 : Value), (.slice aT0 t0.length cT0 : Value)), (.slice a1J ms.length c1J, .slice a2J ts.length c2J)]))).cells0 hz39.out 1 _ rfl)) ((by have h_ := ((F70.at 5 rfl : Sl rowEnc 1 (w26.heap.size + 2) ((w26.heap.size + 2) + 1) _ (.slice (some ⟨w26.heap.size + 2, 0, none⟩) 2 2) ([(.slice ad0 d0.length cd0 : Value), .slice aw_dl dl.length cw_dl]))).cells0 hz40.out 0 _ rfl; simpa using h_))))
     refine ru_t 0 [] ?_
     refine ru_t 1 [] ?_
     refine ru_t 2 [] ?_
     refine ru_t 3 [] ?_
     refine ru_t 4 [] ?_
     refine ru_t 5 [] ?_
     refine ru_t 6 [] ?_
     refine ru_t 7 [] ?_
     (try simp only [lpX])
     clear hS72
     refine ru_state 94 (fun t w_ => ∃ (ackb : Option Addr) (cckb : Nat) (lckb : Nat) (hckb : Nat), t 10 = .slice (some ⟨w26.heap.size + 1, 0, none⟩) 2 2 /\ t 11 = .slice (some ⟨w26.heap.size + 2, 0, none⟩) 2 2 /\ t 12 = .int .i64 (k : Int) /\ t 13 = .pointer (some ⟨w49.heap.size, 0, none⟩) /\ t 14 = .slice acka ((bstO jm jt jd).length) ccka /\ t 15 = .int .i64 (bstH jm jt jd) /\ t 16 = .int .i64 (bstE jm jt jd) /\ t 17 = .slice ackb ((bstO jm jt jd).length) cckb /\ t 18 = .int .i64 (bstH jm jt jd) /\ t 19 = .int .i64 (bstE jm jt jd) /\ w67.heap.size <= w_.heap.size /\ Bun w [rsl intEnc 1 lckb hckb (.slice ackb (bstO jm jt jd).length cckb) (ints (bstO jm jt jd)), rsl intEnc 1 lcka hcka (.slice acka (bstO jm jt jd).length ccka) (ints (bstO jm jt jd)), rbox w49.heap.size 25 #[.slice oa52 jm.length oc53, .slice oa54 ltj48.length oc55], rown mchEnc 77 3 w44.heap.size (.slice oa52 jm.length oc53) jm, rown tskEncS 79 8 w44.heap.size (.slice oa54 ltj48.length oc55) ltj48, rafo w44.heap.size ltj48, rsl rowEnc 1 (w26.heap.size + 2) ((w26.heap.size + 2) + 1) (.slice (some ⟨w26.heap.size + 2, 0, none⟩) 2 2) ([(.slice ad0 d0.length cd0 : Value), .slice aw_dl dl.length cw_dl]), rsl jvEnc 2 (w26.heap.size + 1) ((w26.heap.size + 1) + 1) (.slice (some ⟨w26.heap.size + 1, 0, none⟩) 2 2) ([((.slice aM0 m0.length cM0 : Value), (.slice aT0 t0.length cT0 : Value)), (.slice a1J ms.length c1J, .slice a2J ts.length c2J)]), rsl weaEnc 6 lw_dl hw_dl (.slice aw_dl dl.length cw_dl) dl, rseed sb, rsl mchEnc 3 loJ hiJ (.slice a1J ms.length c1J) ms, rsl tskEnc 8 loJ hiJ (.slice a2J ts.length c2J) ts, rafs loJ hiJ ts, rsl intEnc 1 0 w.heap.size (.slice na zs.length nc) zs, rsl weaEnc 6 0 w.heap.size (.slice ad0 d0.length cd0) d0, rafs 0 w.heap.size t0, rsl tskEnc 8 0 w.heap.size (.slice aT0 t0.length cT0) t0, rsl mchEnc 3 0 w.heap.size (.slice aM0 m0.length cM0) m0] w_) #[true, true, true, true, true, true, true, true, true, true, true, true, true, true, true, true] 0 ?st74 ?nx74
     case st74 =>
      rintro t w75 ⟨ackb, cckb, lckb, hckb, e10, e11, e12, e13, e14, e15, e16, e17, e18, e19, hsz74, F76⟩
      clear F70
      rw [rng_orders_walk t, e10, e11, e12, e13, e14, e15, e16, e17, e18, e19]
      clear e10 e11 e12 e13 e14 e15 e16 e17 e18 e19
      have hws74 := F76.gb.size
      refine ru_done (by kernel_rfl) ?_
      obtain ⟨w77, hx78, F80, hxs79⟩ := F76.name
      (try simp at hxs79)
      rw [hx78]
      clear hx78 F76
      go_wp2_with fail
      replace F80 := F80.drew
      refine ru_begin (fun W => W.cell? ⟨w49.heap.size, 0, none⟩ = some (.slice oa52 jm.length oc53) /\ W.cell? ⟨w49.heap.size, 1, none⟩ = some (.slice oa54 ltj48.length oc55) /\ W.cell? ⟨w26.heap.size + 1, k * 2, none⟩ = some zj.1 /\ W.cell? ⟨w26.heap.size + 1, k * 2 + 1, none⟩ = some zj.2) 22 (by kernel_rfl) ?_ ?_
      · exact ⟨F80.q 2 0, F80.q 2 1, (((F80.at 7 rfl : Sl jvEnc 2 (w26.heap.size + 1) ((w26.heap.size + 1) + 1) _ (.slice (some ⟨w26.heap.size + 1, 0, none⟩) 2 2) ([((.slice aM0 m0.length cM0 : Value), (.slice aT0 t0.length cT0 : Value)), (.slice a1J ms.length c1J, .slice a2J ts.length c2J)]))).cells0 hz39.out 0 _ rfl), (((F80.at 7 rfl : Sl jvEnc 2 (w26.heap.size + 1) ((w26.heap.size + 1) + 1) _ (.slice (some ⟨w26.heap.size + 1, 0, none⟩) 2 2) ([((.slice aM0 m0.length cM0 : Value), (.slice aT0 t0.length cT0 : Value)), (.slice a1J ms.length c1J, .slice a2J ts.length c2J)]))).cells0 hz39.out 1 _ rfl)⟩
      obtain ⟨wd83, hwd_⟩ : ∃ x : World, w77.drew = x := ⟨_, rfl⟩
      rw [hwd_] at F80 ⊢
      have wd83s : w77.heap.size <= wd83.heap.size := by rw [← hwd_]; exact Nat.le_refl _
      clear hwd_
      have hS82 := (And.intro (F80.q 2 0) (And.intro (F80.q 2 1) (And.intro ((((F80.at 7 rfl : Sl jvEnc 2 (w26.heap.size + 1) ((w26.heap.size + 1) + 1) _ (.slice (some ⟨w26.heap.size + 1, 0, none⟩) 2 2) ([((.slice aM0 m0.length cM0 : Value), (.slice aT0 t0.length cT0 : Value)), (.slice a1J ms.length c1J, .slice a2J ts.length c2J)]))).cells0 hz39.out 0 _ rfl)) ((((F80.at 7 rfl : Sl jvEnc 2 (w26.heap.size + 1) ((w26.heap.size + 1) + 1) _ (.slice (some ⟨w26.heap.size + 1, 0, none⟩) 2 2) ([((.slice aM0 m0.length cM0 : Value), (.slice aT0 t0.length cT0 : Value)), (.slice a1J ms.length c1J, .slice a2J ts.length c2J)]))).cells0 hz39.out 1 _ rfl)))))
      refine ru_t 0 [14, 11, 8, 3, 2] ?_
      refine ru_t 1 [14, 11, 8, 3, 2] ?_
      refine ru_t 2 [14, 11, 8, 3] ?_
      refine ru_t 3 [14, 11, 8] ?_
      refine ru_t 4 [14, 11, 8, 7, 6] ?_
      refine ru_t 5 [14, 11, 8, 7, 6] ?_
      refine ru_t 6 [14, 11, 8, 7] ?_
      refine ru_t 7 [14, 11, 8] ?_
      refine ru_t 8 [14, 11] ?_
      refine ru_t 9 [14, 11] ?_
      refine ru_t 10 [14, 11] ?_
      (try simp only [lpX])
      clear hS82
      refine ru_one 11 rfl (by kernel_rfl) (fun K hK => ?_)
      go_simp
      refine (same_o _ _ _ _ _ _ (ints (bstO jm jt jd)) _ (F80.slW 1 rfl) (Nat.le_refl _) (F80.slW 0 rfl) (Nat.le_refl _)).mono ?_
      rintro e w86 ⟨rfl, hg84⟩
      have hg84s := hg84.size
      (try simp at hg84s)
      replace F80 := F80.gn hg84
      refine ru_back hK (by exact ⟨F80.q 2 0, F80.q 2 1, (((F80.at 7 rfl : Sl jvEnc 2 (w26.heap.size + 1) ((w26.heap.size + 1) + 1) _ (.slice (some ⟨w26.heap.size + 1, 0, none⟩) 2 2) ([((.slice aM0 m0.length cM0 : Value), (.slice aT0 t0.length cT0 : Value)), (.slice a1J ms.length c1J, .slice a2J ts.length c2J)]))).cells0 hz39.out 0 _ rfl), (((F80.at 7 rfl : Sl jvEnc 2 (w26.heap.size + 1) ((w26.heap.size + 1) + 1) _ (.slice (some ⟨w26.heap.size + 1, 0, none⟩) 2 2) ([((.slice aM0 m0.length cM0 : Value), (.slice aT0 t0.length cT0 : Value)), (.slice a1J ms.length c1J, .slice a2J ts.length c2J)]))).cells0 hz39.out 1 _ rfl)⟩) (fun _ => ?_)
      clear hK K
      (try simp only [lpX])
      refine ru_p 12 ?_
      (try simp only [lpX])
      refine ru_p 13 ?_
      (try simp only [lpX])
      refine ru_p 14 ?_
      (try simp only [lpX])
      refine ru_p 16 ?_
      refine ru_p 17 ?_
      (try simp only [lpX])
      refine ru_p 18 ?_
      (try simp only [lpX])
      refine ru_t 15 [21, 20] ?_
      refine ru_t 19 [21, 20] ?_
      (try simp only [lpX])
      refine ru_one 20 rfl (by kernel_rfl) (fun K hK => ?_)
      go_simp
      refine (sameJobs_c 0 _ 0 _ _ _ _ _ jm ltj48 jt _ _ (jobAt_own (F80.at 3 rfl : Own mchEnc 77 3 w44.heap.size _ (.slice oa52 jm.length oc53) jm) (F80.at 4 rfl : Own tskEncS 79 8 w44.heap.size _ (.slice oa54 ltj48.length oc55) ltj48) (F80.at 5 rfl : ∀ t ∈ ltj48, Own intEnc 3 1 w44.heap.size _ t.av t.af) HMXj48.out.2.2) (Nat.le_refl _) (job_pick HPK.out.1 (JobAt.mk (F80.at 17 rfl : Sl mchEnc 3 0 w.heap.size _ (.slice aM0 m0.length cM0) m0) (F80.at 16 rfl : Sl tskEnc 8 0 w.heap.size _ (.slice aT0 t0.length cT0) t0) (F80.at 15 rfl : Afs 0 w.heap.size _ t0)) (JobAt.mk (F80.at 10 rfl : Sl mchEnc 3 loJ hiJ _ (.slice a1J ms.length c1J) ms) (F80.at 11 rfl : Sl tskEnc 8 loJ hiJ _ (.slice a2J ts.length c2J) ts) (F80.at 12 rfl : Afs loJ hiJ _ ts)) (by first | omega | (simp; done) | (simp; omega)) (by first | omega | (simp; done) | (simp; omega))) (Nat.le_refl _) HMXj48.out).mono ?_
      rintro e w90 ⟨rfl, hg88⟩
      have hg88s := hg88.size
      (try simp at hg88s)
      replace F80 := F80.gn hg88
      refine ru_back hK (by exact ⟨F80.q 2 0, F80.q 2 1, (((F80.at 7 rfl : Sl jvEnc 2 (w26.heap.size + 1) ((w26.heap.size + 1) + 1) _ (.slice (some ⟨w26.heap.size + 1, 0, none⟩) 2 2) ([((.slice aM0 m0.length cM0 : Value), (.slice aT0 t0.length cT0 : Value)), (.slice a1J ms.length c1J, .slice a2J ts.length c2J)]))).cells0 hz39.out 0 _ rfl), (((F80.at 7 rfl : Sl jvEnc 2 (w26.heap.size + 1) ((w26.heap.size + 1) + 1) _ (.slice (some ⟨w26.heap.size + 1, 0, none⟩) 2 2) ([((.slice aM0 m0.length cM0 : Value), (.slice aT0 t0.length cT0 : Value)), (.slice a1J ms.length c1J, .slice a2J ts.length c2J)]))).cells0 hz39.out 1 _ rfl)⟩) (fun _ => ?_)
      clear hK K
      (try simp only [lpX])
      refine ru_p 21 ?_
      (try simp only [lpX])
      refine ru_one 22 rfl (by kernel_rfl) (fun K hK => ?_)
      go_simp
      refine ru_back_late hK (by kernel_rfl) ?_
      clear hK K
      (try simp only [lpX])
      refine ru_done (by kernel_rfl) ?_
      obtain ⟨w92, hx93, F95, hxs94⟩ := (show Bun w [rsl intEnc 1 lckb hckb (.slice ackb (bstO jm jt jd).length cckb) (ints (bstO jm jt jd)), rsl intEnc 1 lcka hcka (.slice acka (bstO jm jt jd).length ccka) (ints (bstO jm jt jd)), rown mchEnc 77 3 w44.heap.size (.slice oa52 jm.length oc53) jm, rown tskEncS 79 8 w44.heap.size (.slice oa54 ltj48.length oc55) ltj48, rafo w44.heap.size ltj48, rsl rowEnc 1 (w26.heap.size + 2) ((w26.heap.size + 2) + 1) (.slice (some ⟨w26.heap.size + 2, 0, none⟩) 2 2) ([(.slice ad0 d0.length cd0 : Value), .slice aw_dl dl.length cw_dl]), rsl jvEnc 2 (w26.heap.size + 1) ((w26.heap.size + 1) + 1) (.slice (some ⟨w26.heap.size + 1, 0, none⟩) 2 2) ([((.slice aM0 m0.length cM0 : Value), (.slice aT0 t0.length cT0 : Value)), (.slice a1J ms.length c1J, .slice a2J ts.length c2J)]), rsl weaEnc 6 lw_dl hw_dl (.slice aw_dl dl.length cw_dl) dl, rseed sb, rsl mchEnc 3 loJ hiJ (.slice a1J ms.length c1J) ms, rsl tskEnc 8 loJ hiJ (.slice a2J ts.length c2J) ts, rafs loJ hiJ ts, rsl intEnc 1 0 w.heap.size (.slice na zs.length nc) zs, rsl weaEnc 6 0 w.heap.size (.slice ad0 d0.length cd0) d0, rafs 0 w.heap.size t0, rsl tskEnc 8 0 w.heap.size (.slice aT0 t0.length cT0) t0, rsl mchEnc 3 0 w.heap.size (.slice aM0 m0.length cM0) m0] _ from (F80.drop 2 rfl)).name
      (try simp at hxs94)
      rw [hx93]
      clear hx93 F80
      go_wp2_with fail
      have F96 : Bun w [rsl rowEnc 1 (w26.heap.size + 2) ((w26.heap.size + 2) + 1) (.slice (some ⟨w26.heap.size + 2, 0, none⟩) 2 2) ([(.slice ad0 d0.length cd0 : Value), .slice aw_dl dl.length cw_dl]), rsl jvEnc 2 (w26.heap.size + 1) ((w26.heap.size + 1) + 1) (.slice (some ⟨w26.heap.size + 1, 0, none⟩) 2 2) ([((.slice aM0 m0.length cM0 : Value), (.slice aT0 t0.length cT0 : Value)), (.slice a1J ms.length c1J, .slice a2J ts.length c2J)]), rsl weaEnc 6 lw_dl hw_dl (.slice aw_dl dl.length cw_dl) dl, rseed sb, rsl mchEnc 3 loJ hiJ (.slice a1J ms.length c1J) ms, rsl tskEnc 8 loJ hiJ (.slice a2J ts.length c2J) ts, rafs loJ hiJ ts, rsl intEnc 1 0 w.heap.size (.slice na zs.length nc) zs, rsl weaEnc 6 0 w.heap.size (.slice ad0 d0.length cd0) d0, rafs 0 w.heap.size t0, rsl tskEnc 8 0 w.heap.size (.slice aT0 t0.length cT0) t0, rsl mchEnc 3 0 w.heap.size (.slice aM0 m0.length cM0) m0] _ := F95.pick [5, 6, 7, 8, 9, 10, 11, 12, 13, 14, 15, 16] (by decide) rfl
      clear F95
      (first | refine ⟨by kernel_rfl, ?_, ?_⟩ | refine ⟨rfl, ?_, ?_⟩ | refine ⟨?_, ?_⟩)
      · rw [HI34.out]; exact ⟨k + 1, (by kernel_rfl), (by kernel_rfl), (by show Value.int .i64 ((k : Int) + 1) = _; simp), by omega, (by first | rfl | simp), (by first | omega | (simp; done) | (simp; omega)), F96⟩
      · simp [slot, intOf]; omega
     intro hZ74
     refine ru_state 94 (fun t w_ => ∃ (ackb : Option Addr) (cckb : Nat) (lckb : Nat) (hckb : Nat), t 10 = .slice (some ⟨w26.heap.size + 1, 0, none⟩) 2 2 /\ t 11 = .slice (some ⟨w26.heap.size + 2, 0, none⟩) 2 2 /\ t 12 = .int .i64 (k : Int) /\ t 13 = .pointer (some ⟨w49.heap.size, 0, none⟩) /\ t 14 = .slice acka ((bstO jm jt jd).length) ccka /\ t 15 = .int .i64 (bstH jm jt jd) /\ t 16 = .int .i64 (bstE jm jt jd) /\ t 17 = .slice ackb ((bstO jm jt jd).length) cckb /\ t 18 = .int .i64 (bstH jm jt jd) /\ t 69 = .int .i64 (bstE jm jt jd) /\ w67.heap.size <= w_.heap.size /\ Bun w [rsl intEnc 1 lckb hckb (.slice ackb (bstO jm jt jd).length cckb) (ints (bstO jm jt jd)), rsl intEnc 1 lcka hcka (.slice acka (bstO jm jt jd).length ccka) (ints (bstO jm jt jd)), rbox w49.heap.size 25 #[.slice oa52 jm.length oc53, .slice oa54 ltj48.length oc55], rown mchEnc 77 3 w44.heap.size (.slice oa52 jm.length oc53) jm, rown tskEncS 79 8 w44.heap.size (.slice oa54 ltj48.length oc55) ltj48, rafo w44.heap.size ltj48, rsl rowEnc 1 (w26.heap.size + 2) ((w26.heap.size + 2) + 1) (.slice (some ⟨w26.heap.size + 2, 0, none⟩) 2 2) ([(.slice ad0 d0.length cd0 : Value), .slice aw_dl dl.length cw_dl]), rsl jvEnc 2 (w26.heap.size + 1) ((w26.heap.size + 1) + 1) (.slice (some ⟨w26.heap.size + 1, 0, none⟩) 2 2) ([((.slice aM0 m0.length cM0 : Value), (.slice aT0 t0.length cT0 : Value)), (.slice a1J ms.length c1J, .slice a2J ts.length c2J)]), rsl weaEnc 6 lw_dl hw_dl (.slice aw_dl dl.length cw_dl) dl, rseed sb, rsl mchEnc 3 loJ hiJ (.slice a1J ms.length c1J) ms, rsl tskEnc 8 loJ hiJ (.slice a2J ts.length c2J) ts, rafs loJ hiJ ts, rsl intEnc 1 0 w.heap.size (.slice na zs.length nc) zs, rsl weaEnc 6 0 w.heap.size (.slice ad0 d0.length cd0) d0, rafs 0 w.heap.size t0, rsl tskEnc 8 0 w.heap.size (.slice aT0 t0.length cT0) t0, rsl mchEnc 3 0 w.heap.size (.slice aM0 m0.length cM0) m0] w_) #[true, true, true, true, true, true, true, true, true, true, true, true, true, true, true, false] 1 ?st97 ?nx97
     case st97 =>
      rintro t w98 ⟨ackb, cckb, lckb, hckb, e10, e11, e12, e13, e14, e15, e16, e17, e18, e69, hsz97, F99⟩
      clear F70
      rw [rng_orders_walk t, e10, e11, e12, e13, e14, e15, e16, e17, e18, e69]
      clear e10 e11 e12 e13 e14 e15 e16 e17 e18 e69
      have hws97 := F99.gb.size
      refine ru_one 15 rfl (by kernel_rfl) (fun K hK => ?_)
      go_simp
      refine ru_back_late hK (by kernel_rfl) ?_
      exact hZ74.out _ _ _ (by kernel_rfl) (by kernel_rfl) rfl ⟨ackb, cckb, lckb, hckb, by (iterate 10 refine ⟨by kernel_rfl, ?_⟩); exact ⟨(by first | omega | (simp; done) | (simp; omega)), F99⟩⟩
     intro hZ97
     refine ru_one 8 rfl (by kernel_rfl) (fun K hK => ?_)
     go_simp
     refine (rbest_c 0 _ _ _ jm jt 0 _ _ jd _ (job_pick HPK.out.1 (JobAt.mk (F70.at 16 rfl : Sl mchEnc 3 0 w.heap.size _ (.slice aM0 m0.length cM0) m0) (F70.at 15 rfl : Sl tskEnc 8 0 w.heap.size _ (.slice aT0 t0.length cT0) t0) (F70.at 14 rfl : Afs 0 w.heap.size _ t0)) (JobAt.mk (F70.at 9 rfl : Sl mchEnc 3 loJ hiJ _ (.slice a1J ms.length c1J) ms) (F70.at 10 rfl : Sl tskEnc 8 loJ hiJ _ (.slice a2J ts.length c2J) ts) (F70.at 11 rfl : Afs loJ hiJ _ ts)) (by first | omega | (simp; done) | (simp; omega)) (by first | omega | (simp; done) | (simp; omega))) (Nat.le_refl _) (day_pick HPK.out.2 (F70.at 13 rfl : Sl weaEnc 6 0 w.heap.size _ (.slice ad0 d0.length cd0) d0) (F70.at 7 rfl : Sl weaEnc 6 lw_dl hw_dl _ (.slice aw_dl dl.length cw_dl) dl) (by first | omega | (simp; done) | (simp; omega)) (by first | omega | (simp; done) | (simp; omega))) (Nat.le_refl _)).mono ?_
     rintro e w102 ⟨ackb, cckb, lckb, hckb, rfl, ⟨⟨hcxkb, hcykb⟩, _⟩, hczkb, hg100⟩
     have hg100s := hg100.size
     (try simp at hg100s)
     replace F70 := F70.add (rsl intEnc 1 lckb hckb (.slice ackb (bstO jm jt jd).length cckb) (ints (bstO jm jt jd))) hg100 (hczkb) (fun g e => ⟨Nat.le_trans hcxkb e.1, Nat.lt_of_lt_of_le e.2 hcykb⟩)
     refine ru_back hK (by exact ⟨(((F70.at 7 rfl : Sl jvEnc 2 (w26.heap.size + 1) ((w26.heap.size + 1) + 1) _ (.slice (some ⟨w26.heap.size + 1, 0, none⟩) 2 2) ([((.slice aM0 m0.length cM0 : Value), (.slice aT0 t0.length cT0 : Value)), (.slice a1J ms.length c1J, .slice a2J ts.length c2J)]))).cells0 hz39.out 0 _ rfl), (((F70.at 7 rfl : Sl jvEnc 2 (w26.heap.size + 1) ((w26.heap.size + 1) + 1) _ (.slice (some ⟨w26.heap.size + 1, 0, none⟩) 2 2) ([((.slice aM0 m0.length cM0 : Value), (.slice aT0 t0.length cT0 : Value)), (.slice a1J ms.length c1J, .slice a2J ts.length c2J)]))).cells0 hz39.out 1 _ rfl), (by have h_ := ((F70.at 6 rfl : Sl rowEnc 1 (w26.heap.size + 2) ((w26.heap.size + 2) + 1) _ (.slice (some ⟨w26.heap.size + 2, 0, none⟩) 2 2) ([(.slice ad0 d0.length cd0 : Value), .slice aw_dl dl.length cw_dl]))).cells0 hz40.out 0 _ rfl; simpa using h_)⟩) (fun _ => ?_)
     clear hK K
     (try simp only [lpX])
     refine ru_p 9 ?_
     (try simp only [lpX])
     refine ru_p 10 ?_
     (try simp only [lpX])
     refine ru_p 11 ?_
     (try simp only [lpX])
     refine ru_p 12 ?_
     (try simp only [lpX])
     refine ru_p 13 ?_
     (try simp only [lpX])
     refine ru_p 14 ?_
     (try simp only [lpX])
     exact hZ97.out _ _ _ (by kernel_rfl) (by kernel_rfl) rfl ⟨ackb, cckb, lckb, hckb, by (iterate 10 refine ⟨by kernel_rfl, ?_⟩); exact ⟨(by first | omega | (simp; done) | (simp; omega)), F70⟩⟩
    intro hZ64
    refine ru_state 94 (fun t w_ => ∃ (acka : Option Addr) (ccka : Nat) (lcka : Nat) (hcka : Nat), t 10 = .slice (some ⟨w26.heap.size + 1, 0, none⟩) 2 2 /\ t 11 = .slice (some ⟨w26.heap.size + 2, 0, none⟩) 2 2 /\ t 12 = .int .i64 (k : Int) /\ t 13 = .pointer (some ⟨w49.heap.size, 0, none⟩) /\ t 14 = .slice acka ((bstO jm jt jd).length) ccka /\ t 15 = .int .i64 (bstH jm jt jd) /\ t 56 = .int .i64 (bstE jm jt jd) /\ w57.heap.size <= w_.heap.size /\ Bun w [rsl intEnc 1 lcka hcka (.slice acka (bstO jm jt jd).length ccka) (ints (bstO jm jt jd)), rbox w49.heap.size 25 #[.slice oa52 jm.length oc53, .slice oa54 ltj48.length oc55], rown mchEnc 77 3 w44.heap.size (.slice oa52 jm.length oc53) jm, rown tskEncS 79 8 w44.heap.size (.slice oa54 ltj48.length oc55) ltj48, rafo w44.heap.size ltj48, rsl rowEnc 1 (w26.heap.size + 2) ((w26.heap.size + 2) + 1) (.slice (some ⟨w26.heap.size + 2, 0, none⟩) 2 2) ([(.slice ad0 d0.length cd0 : Value), .slice aw_dl dl.length cw_dl]), rsl jvEnc 2 (w26.heap.size + 1) ((w26.heap.size + 1) + 1) (.slice (some ⟨w26.heap.size + 1, 0, none⟩) 2 2) ([((.slice aM0 m0.length cM0 : Value), (.slice aT0 t0.length cT0 : Value)), (.slice a1J ms.length c1J, .slice a2J ts.length c2J)]), rsl weaEnc 6 lw_dl hw_dl (.slice aw_dl dl.length cw_dl) dl, rseed sb, rsl mchEnc 3 loJ hiJ (.slice a1J ms.length c1J) ms, rsl tskEnc 8 loJ hiJ (.slice a2J ts.length c2J) ts, rafs loJ hiJ ts, rsl intEnc 1 0 w.heap.size (.slice na zs.length nc) zs, rsl weaEnc 6 0 w.heap.size (.slice ad0 d0.length cd0) d0, rafs 0 w.heap.size t0, rsl tskEnc 8 0 w.heap.size (.slice aT0 t0.length cT0) t0, rsl mchEnc 3 0 w.heap.size (.slice aM0 m0.length cM0) m0] w_) #[true, true, true, true, true, true, true, true, true, true, true, true, false] 1 ?st104 ?nx104
    case st104 =>
     rintro t w105 ⟨acka, ccka, lcka, hcka, e10, e11, e12, e13, e14, e15, e56, hsz104, F106⟩
     clear F60
     rw [rng_orders_walk t, e10, e11, e12, e13, e14, e15, e56]
     clear e10 e11 e12 e13 e14 e15 e56
     have hws104 := F106.gb.size
     refine ru_one 12 rfl (by kernel_rfl) (fun K hK => ?_)
     go_simp
     refine ru_back_late hK (by kernel_rfl) ?_
     exact hZ64.out _ _ _ (by kernel_rfl) (by kernel_rfl) rfl ⟨acka, ccka, lcka, hcka, by (iterate 7 refine ⟨by kernel_rfl, ?_⟩); exact ⟨(by first | omega | (simp; done) | (simp; omega)), F106⟩⟩
    intro hZ104
    refine ru_one 5 rfl (by kernel_rfl) (fun K hK => ?_)
    go_simp
    refine (best_s 0 _ _ _ jm _ ltj48 jt HMXj48.out 0 _ _ jd _ (jobAt_own (F60.at 1 rfl : Own mchEnc 77 3 w44.heap.size _ (.slice oa52 jm.length oc53) jm) (F60.at 2 rfl : Own tskEncS 79 8 w44.heap.size _ (.slice oa54 ltj48.length oc55) ltj48) (F60.at 3 rfl : ∀ t ∈ ltj48, Own intEnc 3 1 w44.heap.size _ t.av t.af) HMXj48.out.2.2) (Nat.le_refl _) (day_pick HPK.out.2 (F60.at 12 rfl : Sl weaEnc 6 0 w.heap.size _ (.slice ad0 d0.length cd0) d0) (F60.at 6 rfl : Sl weaEnc 6 lw_dl hw_dl _ (.slice aw_dl dl.length cw_dl) dl) (by first | omega | (simp; done) | (simp; omega)) (by first | omega | (simp; done) | (simp; omega))) (Nat.le_refl _)).mono ?_
    rintro e w109 ⟨acka, ccka, lcka, hcka, rfl, ⟨⟨hcxka, hcyka⟩, _⟩, hczka, hg107⟩
    have hg107s := hg107.size
    (try simp at hg107s)
    replace F60 := F60.add (rsl intEnc 1 lcka hcka (.slice acka (bstO jm jt jd).length ccka) (ints (bstO jm jt jd))) hg107 (hczka) (fun g e => ⟨Nat.le_trans hcxka e.1, Nat.lt_of_lt_of_le e.2 hcyka⟩)
    refine ru_back hK (by exact ⟨F60.q 1 0, F60.q 1 1, (by have h_ := ((F60.at 5 rfl : Sl rowEnc 1 (w26.heap.size + 2) ((w26.heap.size + 2) + 1) _ (.slice (some ⟨w26.heap.size + 2, 0, none⟩) 2 2) ([(.slice ad0 d0.length cd0 : Value), .slice aw_dl dl.length cw_dl]))).cells0 hz40.out 0 _ rfl; simpa using h_)⟩) (fun _ => ?_)
    clear hK K
    (try simp only [lpX])
    refine ru_p 6 ?_
    (try simp only [lpX])
    refine ru_p 7 ?_
    (try simp only [lpX])
    refine ru_p 8 ?_
    (try simp only [lpX])
    refine ru_p 9 ?_
    (try simp only [lpX])
    refine ru_p 10 ?_
    (try simp only [lpX])
    refine ru_p 11 ?_
    (try simp only [lpX])
    exact hZ104.out _ _ _ (by kernel_rfl) (by kernel_rfl) rfl ⟨acka, ccka, lcka, hcka, by (iterate 7 refine ⟨by kernel_rfl, ?_⟩); exact ⟨(by first | omega | (simp; done) | (simp; omega)), F60⟩⟩
   have c38H := lhd c38
   have c38a : decide ((k : Int) < 2) = false := dec_f c38
   go_wp2_with fail
   refine (awake_c _).mono ?_
   rintro e w113 ⟨rfl, hg111⟩
   have hg111s := hg111.size
   (try simp at hg111s)
   have F114 := hF35.gn hg111
   clear hF35
   clear hg111
   go_wp2_with fail
   go_ret
   exact ⟨rfl, F114.gb⟩
  case atStart1 =>
   rw [HI34.out]
   exact ⟨0, (by kernel_rfl), (by kernel_rfl), rfl, Nat.zero_le _, rfl, (by first | exact Nat.le_refl _ | omega | (simp; done) | (simp; omega)), ((F33.drop 2 rfl).drop 7 rfl)⟩
 have c13H := lhd c13
 go_wp2_with fail
 refine (awake_c _).mono ?_
 rintro e w117 ⟨rfl, hg115⟩
 have hg115s := hg115.size
 (try simp at hg115s)
 replace F1 := F1.gn hg115
 clear hg115
 go_wp2_with fail
 go_ret
 exact ⟨rfl, F1.gb⟩
end Go.Proofs.Ytokelpmngahnoaa
