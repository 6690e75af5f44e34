/- build and its reference: the reference's plan. -/
import Derived.Test.YtdgplekokdeafaaGreatPG2
import Derived.Test.YtdgplekokdeafaaGreatPKC
set_option linter.unusedVariables false
set_option linter.unusedSimpArgs false
set_option linter.unnecessarySimpa false
namespace Go.Proofs.YtdgplekokdeafaaGreat
open Go.RowKit
set_option maxRecDepth 100000
attribute [local go_sem] Oper.semAt_some
theorem rgT2125 (t : Nat -> Value) : ((List.range 125).map t).toArray = #[t 0, t 1, t 2, t 3, t 4, t 5, t 6, t 7, t 8, t 9, t 10, t 11, t 12, t 13, t 14, t 15, t 16, t 17, t 18, t 19, t 20, t 21, t 22, t 23, t 24, t 25, t 26, t 27, t 28, t 29, t 30, t 31, t 32, t 33, t 34, t 35, t 36, t 37, t 38, t 39, t 40, t 41, t 42, t 43, t 44, t 45, t 46, t 47, t 48, t 49, t 50, t 51, t 52, t 53, t 54, t 55, t 56, t 57, t 58, t 59, t 60, t 61, t 62, t 63, t 64, t 65, t 66, t 67, t 68, t 69, t 70, t 71, t 72, t 73, t 74, t 75, t 76, t 77, t 78, t 79, t 80, t 81, t 82, t 83, t 84, t 85, t 86, t 87, t 88, t 89, t 90, t 91, t 92, t 93, t 94, t 95, t 96, t 97, t 98, t 99, t 100, t 101, t 102, t 103, t 104, t 105, t 106, t 107, t 108, t 109, t 110, t 111, t 112, t 113, t 114, t 115, t 116, t 117, t 118, t 119, t 120, t 121, t 122, t 123, t 124] := rfl
def Rwsl (lo hi : Nat) (w : World) (l : List (Value × List Bool)) : Prop := ∀ r ∈ l, Sl boEnc 1 lo hi w r.1 r.2
def rrwsl (lo hi : Nat) (l : List (Value × List Bool)) : Res := ⟨false, fun x => lo <= x /\ x < hi, fun w => Rwsl lo hi w l, fun _ _ _ hg hr h r hrr => Sl.gb (h r hrr) hg (fun g e => by have := hr g e; omega)⟩
structure CaseAt (lo hi : Nat) (w : World) (vh vw vf vk : Value) (lh lw lf : List Int) (rows : List (Value × List Bool)) : Prop where
 h : Sl intEnc 1 lo hi w vh lh
 w_ : Sl intEnc 1 lo hi w vw lw
 f : Sl intEnc 1 lo hi w vf lf
 k : Sl vEncS 1 lo hi w vk (rows.map (·.1))
 r : Rwsl lo hi w rows
theorem caseAt_own {b : Nat} {w : World} {vh vw vf vk : Value} {lh lw lf : List Int} {rows : List (Value × List Bool)} (h1 : Own intEnc 3 1 b w vh lh) (h2 : Own intEnc 3 1 b w vw lw) (h3 : Own intEnc 3 1 b w vf lf) (h4 : Own vEncS 118 1 b w vk (rows.map (·.1))) (h5 : ∀ t ∈ rows, Own boEnc 4 1 b w t.1 t.2) : CaseAt 0 w.heap.size w vh vw vf vk lh lw lf rows :=
 ⟨(Own.sl h1 (fun _ => rfl)).wide (Nat.zero_le _) (Nat.le_refl _), (Own.sl h2 (fun _ => rfl)).wide (Nat.zero_le _) (Nat.le_refl _), (Own.sl h3 (fun _ => rfl)).wide (Nat.zero_le _) (Nat.le_refl _), (Own.sl h4 (fun _ => rfl)).wide (Nat.zero_le _) (Nat.le_refl _), fun r hr => (Own.sl (h5 r hr) (fun _ => rfl)).wide (Nat.zero_le _) (Nat.le_refl _)⟩
def prEnc (p : Int × Int) : List Value := [.int .i64 p.1, .int .i64 p.2]
theorem infoPr : (Tryz.prog.info? 68).map (fun i => (i.zero, i.size, i.bytes)) = some (some (.agg #[.int .i64 0, .int .i64 0]), 2, 16) := by kernel_rfl
theorem okPr : ElemOk Tryz.prog 62 68 2 16 prEnc where
 under := Tryz.underlying62
 info := info5 infoPr rfl
 pos := by omega
 small := by omega
 len := fun _ => rfl
 one := fun x u hu => by
  simp [prEnc] at hu
  rcases hu with rfl | rfl <;> rfl
def lastL (c : Cs) (n i : Nat) : List Int := (List.range n).map fun (m : Nat) => c.last (c.plan i) (m : Int) i
theorem lastL_len (c : Cs) (n i : Nat) : (lastL c n i).length = n := by simp [lastL]
theorem lastL_zero (c : Cs) (n : Nat) : List.replicate n (0 : Int) = lastL c n 0 := by
 refine List.ext_getElem (by simp [lastL]) fun i h1 h2 => ?_
 simp [lastL, Cs.last]
theorem lastL_get (c : Cs) {n i : Nat} {m : Int} (h0 : 0 <= m) (h : m < n) : (lastL c n i)[m.toNat]? = some (c.last (c.plan i) m i) := by
 have : m.toNat < n := by omega
 simp [lastL, this, Int.toNat_of_nonneg h0]
theorem Cs.last_plan (c : Cs) {i : Nat} (m : Int) : ∀ j, j <= i -> c.last (c.plan (i + 1)) m j = c.last (c.plan i) m j
 | 0, _ => rfl
 | j + 1, hj => by rw [Cs.last, Cs.last, c.last_plan m j (by omega), c.en_le (show j < i + 1 by omega), c.en_le (show j < i by omega)]
theorem lastL_next {c : Cs} {n i : Nat} {m e : Int} (hm : c.m i = m) (h0 : 0 <= m) (h : m < n) (he : c.fin (c.m i) (c.bgn (c.plan i) i) (c.ho i) = e) : (lastL c n i).set m.toNat e = lastL c n (i + 1) := by
 refine List.ext_getElem? fun k => ?_
 by_cases hk : k < n
 ·
  rw [List.getElem?_set, lastL_len, lastL, lastL, List.getElem?_map, List.getElem?_map, List.getElem?_range hk]
  simp only [Option.map_some]
  rw [Cs.last, c.last_plan _ i (Nat.le_refl _), c.en_new, he, hm]
  by_cases h1 : m.toNat = k
  · rw [if_pos h1, if_pos (by omega), if_pos (by omega)]
  · rw [if_neg h1, if_neg (by omega)]
 · rw [List.getElem?_eq_none (by rw [List.length_set, lastL_len]; omega), List.getElem?_eq_none (by rw [lastL_len]; omega)]
theorem plan_at (c : Cs) {n k : Nat} (h : k < n) : (c.plan n)[k]? = some (bgAt (c.plan n) k, enAt (c.plan n) k) := by
 have hk : k < (c.plan n).length := by rw [c.plan_len]; exact h
 unfold enAt bgAt
 rw [List.getD_eq_getElem?_getD, List.getElem?_eq_getElem hk]
 rfl
theorem plan_next {c : Cs} {k : Nat} {b e : Int} (h1 : c.bgn (c.plan k) k = b) (h2 : c.fin (c.m k) (c.bgn (c.plan k) k) (c.ho k) = e) : c.plan (k + 1) = c.plan k ++ [(b, e)] := by rw [Cs.plan, h2, h1]
theorem rng_at {f : Nat -> Int} {l : List Int} {n k : Nat} (h : l = (List.range n).map f) (hk : k < n) : l[k]? = some (f k) := by subst h; simp [hk]
theorem Cs.bgn_at {c : Cs} {k : Nat} {x : Int} (h : c.aft (c.plan k) (max (c.fr k) (c.last (c.plan k) (c.m k) k)) (c.af k) = x) : c.bgn (c.plan k) k = min x c.past := by rw [Cs.bgn, h]
theorem Cs.last_bd {c : Cs} (h : CsOk c) (m : Int) (k : Nat) : ∀ j, j <= k -> 0 <= c.last (c.plan k) m j /\ c.last (c.plan k) m j <= 24 * (c.nd : Int) + 1
 | 0, _ => by rw [Cs.last]; omega
 | j + 1, hj => by
  rw [Cs.last]
  split
  ·
   have := c.en_bd (fun i => (h.fr i).1) (n := k) (k := j) (by omega)
   unfold Cs.past at this
   exact this
  · exact Cs.last_bd h m k j (by omega)
theorem rdone_e (lo hi : Nat) (v : Value) (rl : List Bool) (c : Cs) (m b n : Int) (w : World) (hl : Sl boEnc 1 lo hi w v rl) (h2 : hi <= w.heap.size) (hb0 : 0 <= b) (hb : b < 24 * (c.nd : Int) + 1) (hn0 : 0 <= n) (hn : n <= 4000) (hc : c.nd <= 400) (hrl : rl.length = c.nd) (hr : ∀ d, d < c.nd -> rl.getD d false = c.wk m d) :
  Calls Tryz.prog 46 #[.int .i64 b, .int .i64 n, .int .i64 (c.sh m), v] w (Ret (.int .i64 (c.fin m b n)) w) := by
 obtain ⟨bn, rfl⟩ : ∃ x : Nat, b = (x : Int) := ⟨b.toNat, by omega⟩
 obtain ⟨nn, rfl⟩ : ∃ x : Nat, n = (x : Int) := ⟨n.toNat, by omega⟩
 rw [← rdn_fin hrl hr (show ((bn : Nat) : Int) < c.past by unfold Cs.past; omega)]
 exact rdone_c lo hi v rl bn nn (c.sh m) w hl h2 (by omega) (by omega) (by omega)
def PlanP (c : Cs) (n : Nat) (w : World) : Ending -> World -> Prop := fun e w' => ∃ (a : Option Addr) (cp lo hi : Nat), e = .returned (.tuple #[.slice a n cp, .int .i64 (c.opn n)]) /\ (w.heap.size <= lo /\ hi <= w'.heap.size) /\ Sl prEnc 2 lo hi w' (.slice a n cp) (c.plan n) /\ w.grownBy w' none
set_option maxHeartbeats 16000000 in
theorem rplan_c (lo hi : Nat) (vm vt : Value) (ms : List Mch) (ts : List Tsk) (nd : Nat) (lo3 hi3 : Nat) (vh vw vf vk : Value) (lh lw lf : List Int) (rows : List (Value × List Bool)) (c : Cs) (w : World) (hj : JobAt lo hi w vm vt ms ts) (h2 : hi <= w.heap.size) (hca : CaseAt lo3 hi3 w vh vw vf vk lh lw lf rows) (h4 : hi3 <= w.heap.size) (hrs : ∀ r ∈ rows, sliceB r.1 = true) (hndc : c.nd = nd) (hcs : CsIs c ms ts lh lw lf (rows.map (·.2))) (hco : CsOk c) (hnts : ts.length <= 1000) (hnms : ms.length <= 1000) (htm : ∀ (k : Nat) (t : Tsk), ts[k]? = some t -> 0 <= t.m /\ t.m < (ms.length : Int)) (hta : ∀ (k : Nat) (t : Tsk), ts[k]? = some t -> ∀ a ∈ t.af, 0 <= a /\ a < (k : Int)) :
  Calls Tryz.prog 17 #[.agg #[vm, vt], .int .i64 (nd : Int), .agg #[vh, vw, vf, vk]] w (PlanP c ts.length w) := by
 subst hndc
 have F1 : Bun w [] w := Bun.nil _
 obtain ⟨hms, hts, haf⟩ := hj
 have hm_ms := hms.len
 unfold maxLen at hm_ms
 obtain ⟨aM, cM, rfl⟩ := hms.any
 replace F1 := F1.sl0 hms h2 rfl
 clear hms
 have hm_ts := hts.len
 unfold maxLen at hm_ts
 obtain ⟨aT, cT, rfl⟩ := hts.any
 replace F1 := F1.sl0 hts h2 rfl
 clear hts
 replace F1 := F1.non0 (rafs lo hi ts) haf (fun _ h_ => Nat.lt_of_lt_of_le h_.2 h2) rfl rfl
 clear haf
 obtain ⟨hch, hcw, hcf, hck, hcr⟩ := hca
 have hm_cho := hch.len
 unfold maxLen at hm_cho
 obtain ⟨ah, cah, rfl⟩ := hch.any
 replace F1 := F1.sl0 hch h4 rfl
 clear hch
 have hm_cwa := hcw.len
 unfold maxLen at hm_cwa
 obtain ⟨aw, caw, rfl⟩ := hcw.any
 replace F1 := F1.sl0 hcw h4 rfl
 clear hcw
 have hm_cfr := hcf.len
 unfold maxLen at hm_cfr
 obtain ⟨af, caf, rfl⟩ := hcf.any
 replace F1 := F1.sl0 hcf h4 rfl
 clear hcf
 obtain ⟨ak, cak, rfl⟩ := hck.any
 simp only [List.length_map] at hck ⊢
 have hm_cwk : rows.length <= 2 ^ 63 - 1 := by have h_ := hck.len; unfold maxLen at h_; simpa using h_
 replace F1 := F1.sl0 hck h4 rfl
 clear hck
 replace F1 := F1.non0 (rrwsl lo3 hi3 rows) hcr (fun _ h_ => Nat.lt_of_lt_of_le h_.2 h4) rfl rfl
 clear hcr
 have HCS := lhd hcs
 have HCO := lhd hco
 have HFR := lhd (fun i => (HCO.out.fr i).1)
 have hnd4 := hco.nd
 have hnt := hnts
 have HTM := lhd htm
 have HAF := lhd hta
 have HRS := lhd hrs
 have hlh : lh.length = ts.length := by rw [HCS.out.ho]; simp
 have hlw : lw.length = ts.length := by rw [HCS.out.wa]; simp
 have hlf : lf.length = ts.length := by rw [HCS.out.fr]; simp
 have hlk : rows.length = ms.length := by have h_ := HCS.out.rn; simpa using h_
 have HL := lhd (And.intro hlh (And.intro hlw (And.intro hlf hlk)))
 clear hcs hco htm hta hrs hlh hlw hlf hlk
 go_enter Tryz.func17, Tryz.ntmps17
 go_wp2_with fail
 replace F1 := F1.new 43 #[.slice aM ms.length cM, .slice aT ts.length cT] (n := w.heap.size) (by simp)
 replace F1 := F1.new 60 #[.slice ah lh.length cah, .slice aw lw.length caw, .slice af lf.length caf, .slice ak rows.length cak] (n := (w.heap.size + 1)) (by simp)
 refine (rpast_c (c.nd : Int) _ (by omega) (by omega)).mono ?_
 rintro e w14 ⟨rfl, hg12⟩
 have hg12s := hg12.size
 (try simp at hg12s)
 replace F1 := F1.gn hg12
 clear hg12
 have b16 := F1.bx2 1 rfl
 go_wp2_with (at_make; refine wpList_mkInt rfl _ _ rfl ms.length rfl rfl F1 (by omega) w14.heap.size (by first | rfl | simp) ?_; intro w17 hB18 hs19; refine Hid.out ?_)
 refine lhd ?_
 (try simp at hs19)
 clear b16
 have F20 := hB18
 clear F1
 go_wp2_with fail
 rw [lastL_zero c ms.length] at F20
 replace F20 := F20.nilrow prEnc 68 2
 (skip)
 obtain ⟨HI22_, HI220⟩ : ∃ I : RelT, I = (fun t ds wr => ∃ (k : Nat) (vo : Value) (op : Int), t 3 = .pointer (some ⟨w.heap.size, 0, none⟩) /\ t 5 = .pointer (some ⟨w.heap.size + 1, 0, none⟩) /\ t 8 = .int .i64 (24 * (c.nd : Int) + 1) /\ t 9 = .slice (some ⟨w14.heap.size, 0, none⟩) ms.length ms.length /\ t 10 = vo /\ t 11 = .int .i64 op /\ t 12 = .int .i64 (k : Int) /\ k <= ts.length /\ Hid (c.opn k = op) /\ (0 <= op /\ op <= 24 * (c.nd : Int) + 1) /\ ds = [] /\ w17.heap.size <= wr.heap.size /\ Bun w [rown prEnc 68 2 w.heap.size vo (c.plan k), rown intEnc 3 1 w.heap.size (.slice (some ⟨w14.heap.size, 0, none⟩) ms.length ms.length) (lastL c ms.length k), rbox (w.heap.size + 1) 60 #[.slice ah lh.length cah, .slice aw lw.length caw, .slice af lf.length caf, .slice ak rows.length cak], rbox w.heap.size 43 #[.slice aM ms.length cM, .slice aT ts.length cT], rrwsl lo3 hi3 rows, rsl vEncS 1 lo3 hi3 (.slice ak rows.length cak) (rows.map (·.1)), rsl intEnc 1 lo3 hi3 (.slice af lf.length caf) lf, rsl intEnc 1 lo3 hi3 (.slice aw lw.length caw) lw, rsl intEnc 1 lo3 hi3 (.slice ah lh.length cah) lh, rafs lo hi ts, rsl tskEnc 8 lo hi (.slice aT ts.length cT) ts, rsl mchEnc 3 lo hi (.slice aM ms.length cM) ms] wr) := ⟨_, rfl⟩
 have HI22 := lhd HI220
 clear HI220
 refine wp_loopS 125 rfl HI22_ (fun t wr => ts.length - (intOf (t 12)).toNat) ?atStart1 ?round1
 case round1 =>
  intro t ds wr hHid
  rw [HI22.out] at hHid
  obtain ⟨k, vo, op, e3, e5, e8, e9, e10, e11, e12, hrel⟩ := hHid
  have e := rgT2125 t
  (try dsimp only at e)
  rw [e3, e5, e8, e9, e10, e11, e12] at e
  rw [e]
  simp only [e12]
  clear e e3 e5 e8 e9 e10 e11 e12
  obtain ⟨hk, hop, hopb, rfl, hs24, hF23⟩ := hrel
  clear F20
  obtain ⟨w25, rfl⟩ : ∃ x_ : World, x_ = wr := ⟨_, rfl⟩
  by_cases c26 : (k : Int) < (ts.length : Int)
  ·
   have c26H := lhd c26
   obtain ⟨x27, o28, e_⟩ := Sl.addr (hF23.s 10 rfl) (by omega)
   subst e_
   obtain ⟨z, hz29_⟩ : ∃ z_, ts[k]? = some z_ := ⟨_, List.getElem?_eq_getElem (by omega)⟩
   have hz29 := lhd hz29_
   clear hz29_
   obtain ⟨a_z, c_z, hav_z, hcap_z, hsl_z⟩ := Afs.open (hF23.at 9 rfl : Afs lo hi _ ts) hz29.out
   have HAV_z := lhd hav_z
   clear hav_z
   have F30 := hF23.more 9 (rsl intEnc 1 lo hi (.slice a_z z.af.length c_z) z.af) rfl rfl rfl (fun _ h_ => h_) hsl_z
   clear hF23
   have hm_z := (F30.s 0 rfl).len
   unfold maxLen at hm_z
   have HZM : Hid (z.m = c.m k /\ z.af = c.af k) := lhd (by rw [HCS.out.m, HCS.out.af, tk_get hz29.out]; exact ⟨rfl, rfl⟩)
   have hzm := HTM.out k z hz29.out
   have hzl : z.m < (ms.length : Int) := hzm.2
   have HZA := lhd (HAF.out k z hz29.out)
   have hlsb := Cs.last_bd HCO.out z.m k k (Nat.le_refl _)
   have hfrb := HCO.out.fr k
   have hwab := HCO.out.wa k
   have hhob := HCO.out.ho k
   obtain ⟨x31, o32, e_⟩ := Sl.addr (F30.s 7 rfl) (by have h_ := HL.out; omega)
   subst e_
   have hz33 : Hid (lf[k]? = some (c.fr k)) := lhd (rng_at HCS.out.fr (by omega))
   have hb_cfr : (k : Int) < (lf.length : Int) := by have h_ := HL.out; omega
   obtain ⟨x34, o35, e_⟩ := Sl.addr (F30.s 9 rfl) (by have h_ := HL.out; omega)
   subst e_
   have hz36 : Hid (lh[k]? = some (c.ho k)) := lhd (rng_at HCS.out.ho (by omega))
   have hb_cho : (k : Int) < (lh.length : Int) := by have h_ := HL.out; omega
   obtain ⟨x37, o38, e_⟩ := Sl.addr (F30.s 8 rfl) (by have h_ := HL.out; omega)
   subst e_
   have hz39 : Hid (lw[k]? = some (c.wa k)) := lhd (rng_at HCS.out.wa (by omega))
   have hb_cwa : (k : Int) < (lw.length : Int) := by have h_ := HL.out; omega
   have hzt : ((z.m.toNat : Nat) : Int) = z.m := Int.toNat_of_nonneg hzm.1
   have hz40 : Hid ((lastL c ms.length k)[z.m.toNat]? = some (c.last (c.plan k) z.m k)) := lhd (lastL_get c (by omega) (by omega))
   obtain ⟨x41, o42, e_⟩ := Sl.addr (F30.s 12 rfl) (by omega)
   subst e_
   obtain ⟨x, hx_⟩ : ∃ x_, ms[z.m.toNat]? = some x_ := ⟨_, List.getElem?_eq_getElem (by omega)⟩
   have hsh_ : x.shift = c.sh z.m := by rw [HCS.out.sh, mc_get hx_]
   have hz43 : Hid (ms[z.m.toNat]? = some x) := lhd (hx_)
   have HSH := lhd hsh_
   clear hsh_
   obtain ⟨x44, o45, e_⟩ := Sl.addr (F30.s 6 rfl) (by have h_ := HL.out; simp; omega)
   subst e_
   obtain ⟨r, hr_⟩ : ∃ r_, rows[z.m.toNat]? = some r_ := ⟨_, List.getElem?_eq_getElem (by have h_ := HL.out; omega)⟩
   have hrr_ := (F30.at 5 rfl : Rwsl lo3 hi3 _ rows) r (List.mem_of_getElem? hr_)
   obtain ⟨ar, cr, hrv_⟩ := hrr_.any
   have HRV := lhd hrv_
   have HRM := lhd (HRS.out r (List.mem_of_getElem? hr_))
   have HRL : Hid (r.2.length = c.nd /\ ∀ d, d < c.nd -> r.2.getD d false = c.wk z.m d) := lhd (by have h_ := HCS.out.rl z.m.toNat r.2 (by rw [List.getElem?_map, hr_]; rfl); rwa [hzt] at h_)
   replace F30 := F30.more 5 (rsl boEnc 1 lo3 hi3 (.slice ar r.2.length cr) r.2) rfl rfl rfl (fun _ h_ => h_) (hrv_ ▸ hrr_)
   have HRX := lhd hr_
   clear hrr_ hrv_ hr_
   have hz47 : Hid ((rows.map (·.1))[z.m.toNat]? = some (.slice ar r.2.length cr)) := lhd (by rw [List.getElem?_map, HRX.out, Option.map_some, HRV.out])
   have hb_cwk : z.m < ((rows.map (·.1)).length : Int) := by have h_ := HL.out; simp; omega
   have hb_cwk2 : z.m < (rows.length : Int) := by have h_ := HL.out; omega
   have b48 := F30.bx2 5 rfl
   have ge49 : World.cell? _ ⟨x27, o28 + k * 8, none⟩ = some (.int .i64 z.m) := (Sl.cells (F30.at 12 rfl) hz29.out 0 _ rfl)
   have gl50 := cell_lt ge49
   have ge51 : World.cell? _ ⟨x27, o28 + k * 8 + 1, none⟩ = some (.int .i64 z.ho.lo) := (Sl.cells (F30.at 12 rfl) hz29.out 1 _ rfl)
   have ge52 : World.cell? _ ⟨x27, o28 + k * 8 + 2, none⟩ = some (.int .i64 z.ho.hi) := (Sl.cells (F30.at 12 rfl) hz29.out 2 _ rfl)
   have ge53 : World.cell? _ ⟨x27, o28 + k * 8 + 3, none⟩ = some (.int .i64 z.wa.lo) := (Sl.cells (F30.at 12 rfl) hz29.out 3 _ rfl)
   have ge54 : World.cell? _ ⟨x27, o28 + k * 8 + 4, none⟩ = some (.int .i64 z.wa.hi) := (Sl.cells (F30.at 12 rfl) hz29.out 4 _ rfl)
   have ge55 : World.cell? _ ⟨x27, o28 + k * 8 + 5, none⟩ = some (.int .i64 z.fr.lo) := (Sl.cells (F30.at 12 rfl) hz29.out 5 _ rfl)
   have ge56 : World.cell? _ ⟨x27, o28 + k * 8 + 6, none⟩ = some (.int .i64 z.fr.hi) := (Sl.cells (F30.at 12 rfl) hz29.out 6 _ rfl)
   have ge57 : World.cell? _ ⟨x27, o28 + k * 8 + 7, none⟩ = some (.slice a_z z.af.length c_z) := (HAV_z.out ▸ (Sl.cells (F30.at 12 rfl) hz29.out 7 _ rfl))
   go_wp2_with fail
   clear b48 ge49 gl50 ge51 ge52 ge53 ge54 ge55 ge56 ge57
   replace F30 := F30.new 54 #[.int .i64 z.m, .int .i64 z.ho.lo, .int .i64 z.ho.hi, .int .i64 z.wa.lo, .int .i64 z.wa.hi, .int .i64 z.fr.lo, .int .i64 z.fr.hi, .slice a_z z.af.length c_z] (n := w25.heap.size) (by simp)
   have b59 := F30.bx8 0 rfl
   have b60 := F30.bx4 5 rfl
   have ge61 : World.cell? _ ⟨x31, o32 + k, none⟩ = some (.int .i64 (c.fr k)) := (by have h_ := Sl.cells (F30.at 9 rfl) hz33.out 0 _ rfl; simpa using h_)
   have ge62 : World.cell? _ ⟨w14.heap.size, z.m.toNat, none⟩ = some (.int .i64 (c.last (c.plan k) z.m k)) := (by simpa using (Own.sl (F30.o 4 rfl) (fun _ => rfl)).cells hz40.out 0 _ rfl)
   go_quiet (fail)
   clear b59 b60 ge61 ge62
   replace F30 := F30.drewN nq
   have Fn_ := F30
   (try dsimp only [lpF, lpG] at Fn_)
   obtain ⟨w64, hx65, F67, hxs66⟩ := Fn_.name
   (try simp at hxs66)
   rw [hx65]
   clear hx65 F30 Fn_
   go_wp2_with fail
   obtain ⟨HI68_, HI680⟩ : ∃ I : RelT, I = (fun t ds wr => ∃ (j : Nat) (x0 : Int), t 3 = .pointer (some ⟨w.heap.size, 0, none⟩) /\ t 5 = .pointer (some ⟨w.heap.size + 1, 0, none⟩) /\ t 8 = .int .i64 (24 * (c.nd : Int) + 1) /\ t 9 = .slice (some ⟨w14.heap.size, 0, none⟩) ms.length ms.length /\ t 10 = vo /\ t 11 = .int .i64 op /\ t 12 = .int .i64 (k : Int) /\ t 13 = .pointer (some ⟨w25.heap.size, 0, none⟩) /\ t 14 = .int .i64 x0 /\ t 15 = .int .i64 (j : Int) /\ j <= z.af.length /\ Hid (c.aft (c.plan k) (max (c.fr k) (c.last (c.plan k) z.m k)) (z.af.take j) = x0) /\ (0 <= x0 /\ x0 <= 14000) /\ ds = [] /\ w64.heap.size <= wr.heap.size /\ Bun w [rbox w25.heap.size 54 #[.int .i64 z.m, .int .i64 z.ho.lo, .int .i64 z.ho.hi, .int .i64 z.wa.lo, .int .i64 z.wa.hi, .int .i64 z.fr.lo, .int .i64 z.fr.hi, .slice a_z z.af.length c_z], rsl boEnc 1 lo3 hi3 (.slice ar r.2.length cr) r.2, rsl intEnc 1 lo hi (.slice a_z z.af.length c_z) z.af, rown prEnc 68 2 w.heap.size vo (c.plan k), rown intEnc 3 1 w.heap.size (.slice (some ⟨w14.heap.size, 0, none⟩) ms.length ms.length) (lastL c ms.length k), rbox (w.heap.size + 1) 60 #[.slice (some ⟨x34, o35, none⟩) lh.length cah, .slice (some ⟨x37, o38, none⟩) lw.length caw, .slice (some ⟨x31, o32, none⟩) lf.length caf, .slice (some ⟨x44, o45, none⟩) rows.length cak], rbox w.heap.size 43 #[.slice (some ⟨x41, o42, none⟩) ms.length cM, .slice (some ⟨x27, o28, none⟩) ts.length cT], rrwsl lo3 hi3 rows, rsl vEncS 1 lo3 hi3 (.slice (some ⟨x44, o45, none⟩) rows.length cak) (rows.map (·.1)), rsl intEnc 1 lo3 hi3 (.slice (some ⟨x31, o32, none⟩) lf.length caf) lf, rsl intEnc 1 lo3 hi3 (.slice (some ⟨x37, o38, none⟩) lw.length caw) lw, rsl intEnc 1 lo3 hi3 (.slice (some ⟨x34, o35, none⟩) lh.length cah) lh, rafs lo hi ts, rsl tskEnc 8 lo hi (.slice (some ⟨x27, o28, none⟩) ts.length cT) ts, rsl mchEnc 3 lo hi (.slice (some ⟨x41, o42, none⟩) ms.length cM) ms] wr) := ⟨_, rfl⟩
   have HI68 := lhd HI680
   clear HI680
   refine wp_loopS 125 rfl HI68_ (fun t wr => z.af.length - (intOf (t 15)).toNat) ?atStart2 ?round2
   case round2 =>
    intro t ds wr hHid
    rw [HI68.out] at hHid
    obtain ⟨j, x0, e3, e5, e8, e9, e10, e11, e12, e13, e14, e15, hrel⟩ := hHid
    have e := rgT2125 t
    (try dsimp only at e)
    rw [e3, e5, e8, e9, e10, e11, e12, e13, e14, e15] at e
    rw [e]
    simp only [e15]
    clear e e3 e5 e8 e9 e10 e11 e12 e13 e14 e15
    obtain ⟨hj2, hax, hx0, rfl, hs70, hF69⟩ := hrel
    clear F67
    obtain ⟨w71, rfl⟩ : ∃ x_ : World, x_ = wr := ⟨_, rfl⟩
    by_cases c72 : (j : Int) < (z.af.length : Int)
    ·
     have c72H := lhd c72
     obtain ⟨x73, o74, e_⟩ := Sl.addr (hF69.s 2 rfl) (by omega)
     subst e_
     obtain ⟨y, hz75_⟩ : ∃ z_, z.af[j]? = some z_ := ⟨_, List.getElem?_eq_getElem (by omega)⟩
     have hz75 := lhd hz75_
     clear hz75_
     have hya := HZA.out y (List.mem_of_getElem? hz75.out)
     obtain ⟨yn, rfl⟩ : ∃ n : Nat, y = (n : Int) := ⟨y.toNat, by omega⟩
     obtain ⟨gO76, cO77, e_⟩ := Own.opn (hF69.o 3 rfl) (by rw [Cs.plan_len]; omega)
     subst e_
     rw [Cs.plan_len] at *
     have gO76l := (hF69.ltAt 3 rfl _ rfl).1
     have heb := c.en_bd HFR.out (n := k) (k := yn) (by omega)
     unfold Cs.past at heb
     have hwy := HCO.out.wa yn
     have hz78 : Hid ((c.plan k)[yn]? = some (bgAt (c.plan k) yn, enAt (c.plan k) yn)) := lhd (plan_at c (by omega))
     have hz79 : Hid (lw[yn]? = some (c.wa yn)) := lhd (rng_at HCS.out.wa (by omega))
     have hb_yw : (yn : Int) < (lw.length : Int) := by have h_ := HL.out; omega
     have hb_yo : (yn : Int) < (k : Int) := by omega
     have b81 := hF69.bx8 0 rfl
     go_wp2_with fail
     clear b81
     have b83 := hF69.bx8 0 rfl
     have b84 := hF69.bx4 5 rfl
     have ge85 : World.cell? _ ⟨x73, o74 + j, none⟩ = some (.int .i64 (yn : Int)) := (by have h_ := Sl.cells (hF69.at 2 rfl) hz75.out 0 _ rfl; simpa using h_)
     have ge86 : World.cell? _ ⟨gO76, yn * 2 + 1, none⟩ = some (.int .i64 (enAt (c.plan k) yn)) := (by simpa using (Own.sl (hF69.o 3 rfl) (fun _ => rfl)).cells hz78.out 1 _ rfl)
     have ge87 : World.cell? _ ⟨x37, o38 + yn, none⟩ = some (.int .i64 (c.wa yn)) := (by have h_ := Sl.cells (hF69.at 10 rfl) hz79.out 0 _ rfl; simpa using h_)
     have hw82 : IntKind.i64.wrap (enAt (c.plan k) yn + (c.wa yn)) = enAt (c.plan k) yn + (c.wa yn) := IntWalk.i64_in _ (by omega)
     go_quiet (fail)
     clear b83 b84 ge85 ge86 ge87 hw82
     have F88 := hF69.drewN nq
     clear hF69
     have Fn_ := F88
     (try dsimp only [lpF, lpG] at Fn_)
     obtain ⟨w89, hx90, F92, hxs91⟩ := Fn_.name
     (try simp at hxs91)
     rw [hx90]
     clear hx90 F88 Fn_
     go_wp2_with fail
     (first | refine ⟨by kernel_rfl, ?_, ?_⟩ | refine ⟨rfl, ?_, ?_⟩ | refine ⟨?_, ?_⟩)
     · rw [HI68.out]; exact ⟨j + 1, max x0 (enAt (c.plan k) yn + (c.wa yn)), by (iterate 9 refine ⟨by kernel_rfl, ?_⟩); exact ⟨(by show Value.int .i64 ((j : Int) + 1) = _; simp), (by omega), (lhd (by rw [Cs.aft_take c hz75.out, hax.out])), (by omega), (by first | rfl | simp), (by first | omega | (simp; done) | (simp; omega)), F92⟩⟩
     · simp [slot, intOf]; omega
    have c72H := lhd c72
    have c72a := dec_f c72
    have HBG : Hid (c.bgn (c.plan k) k = min x0 (24 * (c.nd : Int) + 1)) := lhd (Cs.bgn_at (by rw [← HZM.out.1, ← HZM.out.2, ← hax.out, List.take_of_length_le (by omega)]))
    by_cases c93 : min x0 (24 * (c.nd : Int) + 1) < 24 * (c.nd : Int) + 1
    ·
     have c93H := lhd c93
     have b94 := hF69.bx8 0 rfl
     go_wp2_with fail
     clear b94
     have F95 := hF69.drew
     clear hF69
     refine ru_begin (fun W => W.cell? ⟨(w.heap.size + 1), 0, none⟩ = some (.slice (some ⟨x34, o35, none⟩) lh.length cah) /\ W.cell? ⟨x34, o35 + k, none⟩ = some (.int .i64 (c.ho k)) /\ W.cell? ⟨w.heap.size, 0, none⟩ = some (.slice (some ⟨x41, o42, none⟩) ms.length cM) /\ W.cell? ⟨w25.heap.size, 0, none⟩ = some (.int .i64 z.m) /\ W.cell? ⟨x41, o42 + (z.m.toNat) * 3 + 2, none⟩ = some (.int .i64 (c.sh z.m)) /\ W.cell? ⟨(w.heap.size + 1), 3, none⟩ = some (.slice (some ⟨x44, o45, none⟩) rows.length cak) /\ W.cell? ⟨x44, o45 + z.m.toNat, none⟩ = some (.slice ar r.2.length cr)) 20 (by kernel_rfl) ?_ ?_
     · exact ⟨F95.q 5 0, (by have h_ := Sl.cells (F95.at 11 rfl) hz36.out 0 _ rfl; simpa using h_), F95.q 6 0, F95.q 0 0, (by have h_ := Sl.cells (F95.at 14 rfl) hz43.out 2 _ rfl; rw [HSH.out] at h_; simpa using h_), F95.q 5 3, (by have h_ := Sl.cells (F95.at 8 rfl) hz47.out 0 _ rfl; simpa [sliceB] using h_)⟩
     obtain ⟨wd97, hwd_⟩ : ∃ x : World, w71.drew = x := ⟨_, rfl⟩
     rw [hwd_] at F95 ⊢
     have wd97s : w71.heap.size <= wd97.heap.size := by rw [← hwd_]; exact Nat.le_refl _
     clear hwd_
     have hS96 := (And.intro (F95.q 5 0) (And.intro ((by have h_ := Sl.cells (F95.at 11 rfl) hz36.out 0 _ rfl; simpa using h_)) (And.intro (F95.q 6 0) (And.intro (F95.q 0 0) (And.intro ((by have h_ := Sl.cells (F95.at 14 rfl) hz43.out 2 _ rfl; rw [HSH.out] at h_; simpa using h_)) (And.intro (F95.q 5 3) ((by have h_ := Sl.cells (F95.at 8 rfl) hz47.out 0 _ rfl; simpa [sliceB] using h_))))))))
     refine ru_t 0 [] ?_
     refine ru_t 1 [] ?_
     refine ru_t 2 [] ?_
     refine ru_t 3 [] ?_
     refine ru_t 4 [] ?_
     refine ru_t 5 [] ?_
     refine ru_t 6 [] ?_
     refine ru_t 7 [] ?_
     refine ru_t 8 [] ?_
     refine ru_t 9 [] ?_
     refine ru_t 10 [] ?_
     refine ru_t 11 [] ?_
     refine ru_t 12 [] ?_
     refine ru_t 13 [] ?_
     refine ru_t 14 [] ?_
     refine ru_t 15 [] ?_
     refine ru_t 16 [] ?_
     refine ru_t 17 [] ?_
     refine ru_t 18 [] ?_
     (try simp only [lpX])
     clear hS96
     refine ru_o 19 fun K hK => ?_
     go_simp
     refine (rdone_e lo3 hi3 _ r.2 c z.m (min x0 (24 * (c.nd : Int) + 1)) (c.ho k) _ (F95.s 1 rfl) (Nat.le_trans h4 F95.gb.size) (by omega) (by omega) (by omega) (by omega) (by omega) HRL.out.1 HRL.out.2).mono ?_
     rintro e w100 ⟨rfl, hg98⟩
     have hg98s := hg98.size
     (try simp at hg98s)
     replace F95 := F95.gn hg98
     refine ru_back hK (by exact ⟨F95.q 5 0, (by have h_ := Sl.cells (F95.at 11 rfl) hz36.out 0 _ rfl; simpa using h_), F95.q 6 0, F95.q 0 0, (by have h_ := Sl.cells (F95.at 14 rfl) hz43.out 2 _ rfl; rw [HSH.out] at h_; simpa using h_), F95.q 5 3, (by have h_ := Sl.cells (F95.at 8 rfl) hz47.out 0 _ rfl; simpa [sliceB] using h_)⟩) (fun _ => ?_)
     clear hK K
     (try simp only [lpX])
     refine ru_o 20 fun K hK => ?_
     go_simp
     refine ru_back_late hK (by kernel_rfl) ?_
     clear hK K
     (try simp only [lpX])
     refine ru_done (by kernel_rfl) ?_
     have Fn_ := F95
     (try dsimp only [lpF, lpG] at Fn_)
     obtain ⟨w102, hx103, F105, hxs104⟩ := Fn_.name
     (try simp at hxs104)
     rw [hx103]
     clear hx103 F95 Fn_
     obtain ⟨en, hen_⟩ : ∃ e_ : Int, c.fin (c.m k) (c.bgn (c.plan k) k) (c.ho k) = e_ := ⟨_, rfl⟩
     have HEN := lhd hen_
     have hbb_ := c.bgn_bd HFR.out (c.plan k) k
     have hfb_ := c.fin_bd (m := c.m k) (n := c.ho k) hbb_.1 hbb_.2
     rw [hen_, HBG.out] at hfb_
     unfold Cs.past at hfb_
     have heq_ : c.fin z.m (min x0 (24 * (c.nd : Int) + 1)) (c.ho k) = en := by rw [← hen_, HBG.out, HZM.out.1]
     rw [heq_]
     clear heq_ hen_ hbb_
     have b106 := F105.bx8 0 rfl
     have ge107 : World.cell? _ ⟨w14.heap.size, z.m.toNat, none⟩ = some (.int .i64 (c.last (c.plan k) z.m k)) := (by simpa using (Own.sl (F105.o 4 rfl) (fun _ => rfl)).cells hz40.out 0 _ rfl)
     have gl108 := cell_lt ge107
     have ge109 : World.frozen? _ ⟨w14.heap.size, z.m.toNat, none⟩ = false := Own.live (F105.o 4 rfl) _
     have hne110 : ¬ w14.heap.size = w25.heap.size := F105.neAt 4 0 rfl rfl (by decide) (.inl rfl) w14.heap.size rfl
     have hne110s : ¬ w25.heap.size = w14.heap.size := fun e => hne110 e.symm
     have F111 := Bun.setOwn (sz := 1) (fun _ => rfl) (F105.front 4 rfl rfl) hz40.out (y := en) (j := 0) (u := (.int .i64 en)) (k := z.m.toNat) (by decide) rfl (by omega)
     clear F105
     go_wp2_with (at_builtin; refine wpList_app _ okPr rfl _ _ rfl w.heap.size vo (c.plan k) [(((min x0 (24 * (c.nd : Int) + 1)), en) : Int × Int)] rfl (by exact ((F111.o 4 rfl)).alloc _) ⟨_, 0, none⟩ 1 1 rfl rfl (by decide) (news_of (Bk.newAt _ _ _ (by simp))) (k + 1) (by rw [Cs.plan_len]) (by omega) (by first | omega | (simp; omega)) _ rfl ?_; intro g112 cap113 w114 hp115; refine Hid.out ?_)
     refine lhd ?_
     have hp115s := hp115.gb.size
     (try simp at hp115s)
     clear b106 ge107 gl108 ge109 hne110 hne110s
     have F116 := ((F111.alloc (.cells #[.int .i64 (min x0 (24 * (c.nd : Int) + 1)), .int .i64 en] 68)).front 4 rfl rfl).app hp115 (by simp)
     clear F111
     have b117 := F116.bx4 5 rfl
     have ge118 : World.cell? _ ⟨x37, o38 + k, none⟩ = some (.int .i64 (c.wa k)) := (by have h_ := Sl.cells (F116.at 10 rfl) hz39.out 0 _ rfl; simpa using h_)
     have gl119 := cell_lt ge118
     go_wp2_with fail
     clear b117 ge118 gl119
     have F120 : Bun w [rown prEnc 68 2 w.heap.size (.slice (some ⟨g112, 0, none⟩) (k + 1) cap113) (c.plan k ++ [(((min x0 (24 * (c.nd : Int) + 1)), en) : Int × Int)]), rown intEnc 3 1 w.heap.size (.slice (some ⟨w14.heap.size, 0, none⟩) ms.length ms.length) ((lastL c ms.length k).set z.m.toNat en), rbox (w.heap.size + 1) 60 #[.slice (some ⟨x34, o35, none⟩) lh.length cah, .slice (some ⟨x37, o38, none⟩) lw.length caw, .slice (some ⟨x31, o32, none⟩) lf.length caf, .slice (some ⟨x44, o45, none⟩) rows.length cak], rbox w.heap.size 43 #[.slice (some ⟨x41, o42, none⟩) ms.length cM, .slice (some ⟨x27, o28, none⟩) ts.length cT], rrwsl lo3 hi3 rows, rsl vEncS 1 lo3 hi3 (.slice (some ⟨x44, o45, none⟩) rows.length cak) (rows.map (·.1)), rsl intEnc 1 lo3 hi3 (.slice (some ⟨x31, o32, none⟩) lf.length caf) lf, rsl intEnc 1 lo3 hi3 (.slice (some ⟨x37, o38, none⟩) lw.length caw) lw, rsl intEnc 1 lo3 hi3 (.slice (some ⟨x34, o35, none⟩) lh.length cah) lh, rafs lo hi ts, rsl tskEnc 8 lo hi (.slice (some ⟨x27, o28, none⟩) ts.length cT) ts, rsl mchEnc 3 lo hi (.slice (some ⟨x41, o42, none⟩) ms.length cM) ms] _ := F116.pick [0, 1, 5, 6, 7, 8, 9, 10, 11, 12, 13, 14] (by decide) rfl
     clear F116
     (first | refine ⟨by kernel_rfl, ?_, ?_⟩ | refine ⟨rfl, ?_, ?_⟩ | refine ⟨?_, ?_⟩)
     · rw [HI22.out]; exact ⟨k + 1, _, max op (min (24 * (c.nd : Int) + 1) (en + (c.wa k))), by (iterate 6 refine ⟨by kernel_rfl, ?_⟩); exact ⟨(by show Value.int .i64 ((k : Int) + 1) = _; simp), (by omega), (lhd (by rw [Cs.opn, c.en_new, HEN.out, hop.out]; rfl)), (by omega), (by first | rfl | simp), (by first | omega | (simp; done) | (simp; omega)), (by rw [← lastL_next HZM.out.1.symm hzm.1 hzl HEN.out, plan_next HBG.out HEN.out]; exact F120)⟩⟩
     · simp [slot, intOf]; omega
    have c93H := lhd c93
    have c93a := dec_f c93
    have HEN : Hid (c.fin (c.m k) (c.bgn (c.plan k) k) (c.ho k) = 24 * (c.nd : Int) + 1) := lhd (by rw [HBG.out]; unfold Cs.fin; rw [if_pos (by unfold Cs.past; omega)]; rfl)
    have b121 := hF69.bx8 0 rfl
    have ge122 : World.cell? _ ⟨w14.heap.size, z.m.toNat, none⟩ = some (.int .i64 (c.last (c.plan k) z.m k)) := (by simpa using (Own.sl (hF69.o 4 rfl) (fun _ => rfl)).cells hz40.out 0 _ rfl)
    have gl123 := cell_lt ge122
    have ge124 : World.frozen? _ ⟨w14.heap.size, z.m.toNat, none⟩ = false := Own.live (hF69.o 4 rfl) _
    have hne125 : ¬ w14.heap.size = w25.heap.size := hF69.neAt 4 0 rfl rfl (by decide) (.inl rfl) w14.heap.size rfl
    have hne125s : ¬ w25.heap.size = w14.heap.size := fun e => hne125 e.symm
    have F126 := Bun.setOwn (sz := 1) (fun _ => rfl) (hF69.front 4 rfl rfl) hz40.out (y := (24 * (c.nd : Int) + 1)) (j := 0) (u := (.int .i64 (24 * (c.nd : Int) + 1))) (k := z.m.toNat) (by decide) rfl (by omega)
    clear hF69
    go_wp2_with (at_builtin; refine wpList_app _ okPr rfl _ _ rfl w.heap.size vo (c.plan k) [(((min x0 (24 * (c.nd : Int) + 1)), (24 * (c.nd : Int) + 1)) : Int × Int)] rfl (by exact ((F126.o 4 rfl)).alloc _) ⟨_, 0, none⟩ 1 1 rfl rfl (by decide) (news_of (Bk.newAt _ _ _ (by simp))) (k + 1) (by rw [Cs.plan_len]) (by omega) (by first | omega | (simp; omega)) _ rfl ?_; intro g127 cap128 w129 hp130; refine Hid.out ?_)
    refine lhd ?_
    have hp130s := hp130.gb.size
    (try simp at hp130s)
    clear b121 ge122 gl123 ge124 hne125 hne125s
    have F131 := ((F126.alloc (.cells #[.int .i64 (min x0 (24 * (c.nd : Int) + 1)), .int .i64 (24 * (c.nd : Int) + 1)] 68)).front 4 rfl rfl).app hp130 (by simp)
    clear F126
    have b132 := F131.bx4 5 rfl
    have ge133 : World.cell? _ ⟨x37, o38 + k, none⟩ = some (.int .i64 (c.wa k)) := (by have h_ := Sl.cells (F131.at 10 rfl) hz39.out 0 _ rfl; simpa using h_)
    have gl134 := cell_lt ge133
    go_wp2_with fail
    clear b132 ge133 gl134
    have F135 : Bun w [rown prEnc 68 2 w.heap.size (.slice (some ⟨g127, 0, none⟩) (k + 1) cap128) (c.plan k ++ [(((min x0 (24 * (c.nd : Int) + 1)), (24 * (c.nd : Int) + 1)) : Int × Int)]), rown intEnc 3 1 w.heap.size (.slice (some ⟨w14.heap.size, 0, none⟩) ms.length ms.length) ((lastL c ms.length k).set z.m.toNat (24 * (c.nd : Int) + 1)), rbox (w.heap.size + 1) 60 #[.slice (some ⟨x34, o35, none⟩) lh.length cah, .slice (some ⟨x37, o38, none⟩) lw.length caw, .slice (some ⟨x31, o32, none⟩) lf.length caf, .slice (some ⟨x44, o45, none⟩) rows.length cak], rbox w.heap.size 43 #[.slice (some ⟨x41, o42, none⟩) ms.length cM, .slice (some ⟨x27, o28, none⟩) ts.length cT], rrwsl lo3 hi3 rows, rsl vEncS 1 lo3 hi3 (.slice (some ⟨x44, o45, none⟩) rows.length cak) (rows.map (·.1)), rsl intEnc 1 lo3 hi3 (.slice (some ⟨x31, o32, none⟩) lf.length caf) lf, rsl intEnc 1 lo3 hi3 (.slice (some ⟨x37, o38, none⟩) lw.length caw) lw, rsl intEnc 1 lo3 hi3 (.slice (some ⟨x34, o35, none⟩) lh.length cah) lh, rafs lo hi ts, rsl tskEnc 8 lo hi (.slice (some ⟨x27, o28, none⟩) ts.length cT) ts, rsl mchEnc 3 lo hi (.slice (some ⟨x41, o42, none⟩) ms.length cM) ms] _ := F131.pick [0, 1, 5, 6, 7, 8, 9, 10, 11, 12, 13, 14] (by decide) rfl
    clear F131
    (first | refine ⟨by kernel_rfl, ?_, ?_⟩ | refine ⟨rfl, ?_, ?_⟩ | refine ⟨?_, ?_⟩)
    · rw [HI22.out]; exact ⟨k + 1, _, max op (min (24 * (c.nd : Int) + 1) (24 * (c.nd : Int) + 1 + (c.wa k))), by (iterate 6 refine ⟨by kernel_rfl, ?_⟩); exact ⟨(by show Value.int .i64 ((k : Int) + 1) = _; simp), (by omega), (lhd (by rw [Cs.opn, c.en_new, HEN.out, hop.out]; rfl)), (by omega), (by first | rfl | simp), (by first | omega | (simp; done) | (simp; omega)), (by rw [← lastL_next HZM.out.1.symm hzm.1 hzl HEN.out, plan_next HBG.out HEN.out]; exact F135)⟩⟩
    · simp [slot, intOf]; omega
   case atStart2 =>
    rw [HI68.out]
    exact ⟨0, max (c.fr k) (c.last (c.plan k) z.m k), by (iterate 9 refine ⟨by kernel_rfl, ?_⟩); exact ⟨rfl, Nat.zero_le _, (lhd rfl), (by omega), rfl, (by first | exact Nat.le_refl _ | omega | (simp; done) | (simp; omega)), F67⟩⟩
  have c26H := lhd c26
  have c26a := dec_f c26
  have b136 := hF23.bx2 3 rfl
  go_wp2_with fail
  clear b136
  exact bodyPost_ret (v := .tuple #[vo, .int .i64 op]) (by simp [results, Tryz.results17, go_sem]) rfl ((by obtain ⟨a1, c1, e1, s1⟩ := Own.slN (hF23.o 0 rfl) (fun _ => rfl) (c.plan_len _); subst e1; obtain rfl : k = ts.length := (by omega); exact ⟨a1, c1, _, _, (by rw [hop.out]), ⟨Nat.le_refl _, Nat.le_refl _⟩, s1, hF23.gb⟩))
 case atStart1 =>
  rw [HI22.out]
  exact ⟨0, _, 0, (by kernel_rfl), (by kernel_rfl), (by kernel_rfl), (by kernel_rfl), rfl, rfl, rfl, Nat.zero_le _, (lhd rfl), (by omega), rfl, (by first | exact Nat.le_refl _ | omega | (simp; done) | (simp; omega)), F20⟩
end Go.Proofs.YtdgplekokdeafaaGreat
