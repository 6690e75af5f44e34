/- the law: BuildFirst walked. -/
import Derived.Test.YtokelpmngahnoaaVKP
import Derived.Test.YtokelpmngahnoaaVL0
import Derived.Test.YtokelpmngahnoaaVE2
import Derived.Test.YtokelpmngahnoaaVG3
import Derived.Test.YtokelpmngahnoaaVJK2
import Derived.Test.YtokelpmngahnoaaVJK3
import Derived.Test.YtokelpmngahnoaaVW2
import Derived.Test.YtokelpmngahnoaaVT4
set_option linter.unusedVariables false
set_option linter.unusedSimpArgs false
set_option linter.unnecessarySimpa false
namespace Go.Proofs.Ytokelpmngahnoaa
open Go.RowKit
set_option maxRecDepth 100000
attribute [local go_sem] Oper.semAt_some
theorem rgO9179 (t : Nat -> Value) : ((List.range 179).map t).toArray = #[t 0, t 1, t 2, t 3, t 4, t 5, t 6, t 7, t 8, t 9, t 10, t 11, t 12, t 13, t 14, t 15, t 16, t 17, t 18, t 19, t 20, t 21, t 22, t 23, t 24, t 25, t 26, t 27, t 28, t 29, t 30, t 31, t 32, t 33, t 34, t 35, t 36, t 37, t 38, t 39, t 40, t 41, t 42, t 43, t 44, t 45, t 46, t 47, t 48, t 49, t 50, t 51, t 52, t 53, t 54, t 55, t 56, t 57, t 58, t 59, t 60, t 61, t 62, t 63, t 64, t 65, t 66, t 67, t 68, t 69, t 70, t 71, t 72, t 73, t 74, t 75, t 76, t 77, t 78, t 79, t 80, t 81, t 82, t 83, t 84, t 85, t 86, t 87, t 88, t 89, t 90, t 91, t 92, t 93, t 94, t 95, t 96, t 97, t 98, t 99, t 100, t 101, t 102, t 103, t 104, t 105, t 106, t 107, t 108, t 109, t 110, t 111, t 112, t 113, t 114, t 115, t 116, t 117, t 118, t 119, t 120, t 121, t 122, t 123, t 124, t 125, t 126, t 127, t 128, t 129, t 130, t 131, t 132, t 133, t 134, t 135, t 136, t 137, t 138, t 139, t 140, t 141, t 142, t 143, t 144, t 145, t 146, t 147, t 148, t 149, t 150, t 151, t 152, t 153, t 154, t 155, t 156, t 157, t 158, t 159, t 160, t 161, t 162, t 163, t 164, t 165, t 166, t 167, t 168, t 169, t 170, t 171, t 172, t 173, t 174, t 175, t 176, t 177, t 178] := rfl
theorem opO_of {ms : List Mch} {ts lt : List Tsk} {dl : List Wea} {o : List Nat} (hm : mixT ts.length lt (ordT ts o)) (hol : o.length = ts.length) : (caseOf true ms lt dl).opn lt.length = opO ms ts dl o := by
 rw [caseOf_same hm, hm.1, ordT_len, hol]
 rfl
theorem both_o {ms : List Mch} {ts lt : List Tsk} {dl : List Wea} {o : List Nat} (h : bothErr ms ts dl = 0) (hm : mixT ts.length lt (ordT ts o)) (hop : OrdP ts o) (hol : o.length = ts.length) : bothErr ms lt dl = 0 := by
 rw [bothErr_same hm]
 exact ord_err h hop hol
def TimO (y : Int) (w : World) : Ending -> World -> Prop := fun e w' => ∃ (a : Option Addr) (n c : Nat) (x : Int), e = .returned (.tuple #[.slice a n c, .agg #[.int .i64 x, .int .i64 y], .int .i64 0]) /\ w.grownBy w' none
theorem times_o (lo hi : Nat) (vm vt : Value) (ms : List Mch) (ts : List Tsk) (lo2 hi2 : Nat) (vd : Value) (dl : List Wea) (w : World) (hj : JobAt lo hi w vm vt ms ts) (h2 : hi <= w.heap.size) (hd : Sl weaEnc 6 lo2 hi2 w vd dl) (h3 : hi2 <= w.heap.size) (he : bothErr ms ts dl = 0) (y : Int) (hy : (caseOf true ms ts dl).opn ts.length = y) :
  Calls Try.prog 20 #[.agg #[vm, vt], vd] w (TimO y w) := by
 refine (btimes_ok lo hi vm vt ms ts lo2 hi2 vd dl w hj h2 hd h3 he _ y rfl hy).mono ?_
 rintro e w' ⟨a, c, l1, l2, he', _, _, hg⟩
 exact ⟨a, _, c, _, he', hg⟩
def FirstP (ms : List Mch) (ts : List Tsk) (dl : List Wea) (w : World) : Ending -> World -> Prop := fun e w' => ∃ (a : Option Addr) (c lo hi : Nat) (o : List Nat) (x : Int), e = .returned (.tuple #[.slice a o.length c, .int .i64 x, .int .i64 0]) /\ ((w.heap.size <= lo /\ hi <= w'.heap.size) /\ o.length <= c) /\ Sl intEnc 1 lo hi w' (.slice a o.length c) (ints o) ∧
 (OrdP ts o /\ o.length = ts.length /\ opO ms ts dl o = x /\ ∀ o' : List Nat, OrdP ts o' -> o'.length = ts.length -> x <= opO ms ts dl o') /\ w.grownBy w' none
theorem best_f (lo hi : Nat) (vm vt : Value) (ms : List Mch) (ts : List Tsk) (lo2 hi2 : Nat) (vd : Value) (dl : List Wea) (w : World) (hj : JobAt lo hi w vm vt ms ts) (h2 : hi <= w.heap.size) (hd : Sl weaEnc 6 lo2 hi2 w vd dl) (h3 : hi2 <= w.heap.size) (he : bothErr ms ts dl = 0) (h6 : ts.length <= 6) :
  Calls Try.prog 46 #[.agg #[vm, vt], vd] w (FirstP ms ts dl w) := by
 refine (best_c lo hi vm vt ms ts lo2 hi2 vd dl w hj h2 hd h3).mono ?_
 rintro e w' ⟨a, c, l1, l2, he', hb, hs, hg⟩
 have e0 : bstE ms ts dl = 0 := by unfold bstE; rw [if_neg (not_not_intro he), if_neg (by omega)]
 have e1 : bstO ms ts dl = (bestS ms ts dl).order := by rw [bstO, if_pos e0]
 have e2 : bstH ms ts dl = (bestS ms ts dl).open_ := by rw [bstH, if_pos e0]
 have hf := first_ok (dl := dl) (bothOk he).1
 rw [e1, e2, e0] at he'
 rw [e1] at hs hb
 exact ⟨a, c, l1, l2, _, _, he', hb, hs, ⟨hf.ord, hf.len, hf.opn.symm, hf.min⟩, hg⟩
theorem listed_f (lo hi : Nat) (v : Value) (l : List Int) (x : Int) (w : World) (hl : Sl intEnc 1 lo hi w v l) (h2 : hi <= w.heap.size) (hx : hasI l x = false) : Calls Try.prog 43 #[v, .int .i64 x] w (Ret (.bool false) w) := by
 have h := listed_c lo hi v l x w hl h2
 rw [hx] at h
 exact h
theorem listed_y (lo hi : Nat) (v : Value) (l : List Int) (x : Int) (w : World) (hl : Sl intEnc 1 lo hi w v l) (h2 : hi <= w.heap.size) (hx : hasI l x = true) : Calls Try.prog 43 #[v, .int .i64 x] w (Ret (.bool true) w) := by
 have h := listed_c lo hi v l x w hl h2
 rw [hx] at h
 exact h
theorem ord_new {ts : List Tsk} {o : List Nat} {k x : Nat} (h : OrdP ts o) (hx : o[k]? = some x) : hasI ((ints o).take k) (x : Int) = false := by
 rw [Bool.eq_false_iff]
 intro h2
 rw [hasI_iff, ints, ← List.map_take] at h2
 obtain ⟨y, hy, e⟩ := List.mem_map.1 h2
 have e2 : y = x := by have e3 : ((y : Nat) : Int) = (x : Int) := e; omega
 subst e2
 obtain ⟨j, hj, e3⟩ := List.getElem_of_mem hy
 rw [List.getElem_take] at e3
 rw [List.length_take] at hj
 obtain ⟨b1, b2⟩ := List.getElem?_eq_some_iff.1 hx
 have := (List.getElem_inj h.nd).1 (e3.trans b2.symm)
 omega
theorem ord_old {ts : List Tsk} {o : List Nat} {k x j : Nat} {z : Tsk} {y : Int} (h : OrdP ts o) (hx : o[k]? = some x) (hz : tk ts x = z) (h0 : ∀ a ∈ z.af, 0 <= a) (hy : z.af[j]? = some y) : hasI ((ints o).take k) y = true := by
 have hm := List.mem_of_getElem? hy
 have h2 := h.af k x hx y (by rw [hz]; exact hm)
 rw [hasI_iff, ints, ← List.map_take]
 exact List.mem_map.2 ⟨y.toNat, h2, Int.toNat_of_nonneg (h0 y hm)⟩
set_option maxHeartbeats 64000000 in
theorem first_walk (vn : Value) (zs : List Int) (w : World) (hn : Sl intEnc 1 0 w.heap.size w vn zs) :
  Calls Try.prog 12 #[vn] w (Ret (.bool true) w) := by
 have F1 : Bun w [] w := Bun.nil _
 obtain ⟨na, nc, rfl⟩ := hn.any
 have hm_nums := hn.len
 unfold maxLen at hm_nums
 have F2 := F1.sl0 hn (Nat.le_refl _) rfl
 clear F1
 go_enter Try.func12, Try.ntmps12
 go_wp2_with fail
 refine (newSeed_c 0 w.heap.size _ zs _ (F2.at 0 rfl : Sl intEnc 1 0 w.heap.size _ (.slice na zs.length nc) zs)).mono ?_
 rintro e w5 ⟨sb, rfl, hsb, hsbs, hg3⟩
 have hsbl := hsbs.lt
 have hg3s := hg3.size
 (try simp at hg3s)
 have F6 := F2.add (rseed sb) hg3 (hsbs) (fun g e => by cases e; exact ⟨hsb, hsbs.lt⟩)
 clear F2
 clear hg3
 go_wp2_with fail
 refine (jobOf_h sb 5 _ (F6.at 0 rfl : SeedAt _ sb) (by omega)).mono ?_
 rintro e w9 ⟨ms, ts, a1J, a2J, c1J, c2J, loJ, hiJ, rfl, ⟨hxJ, hyJ⟩, hjJ, ⟨hjeJ, hmaJ, hmbJ, htaJ⟩, hthJ, hs8, hg7⟩
 have HJEJ := lhd hjeJ
 have HTHJ := lhd hthJ
 clear hjeJ hthJ
 have hg7s := hg7.size
 (try simp at hg7s)
 have F10 := F6.seedAdd (rafs loJ hiJ ts) hg7 hs8 (hjJ.af) (fun g e => ⟨Nat.le_trans hxJ e.1, Nat.lt_of_lt_of_le e.2 hyJ⟩)
 clear F6
 clear hg7
 have F11 := F10.more 0 (rsl tskEnc 8 loJ hiJ (.slice a2J ts.length c2J) ts) rfl rfl rfl (fun _ h_ => h_) (Sl.gb hjJ.t (gb_refl _ none) (fun _ e => by cases e))
 clear F10
 have hm_tsJ := (F11.at 0 rfl : Sl tskEnc 8 loJ hiJ _ (.slice a2J ts.length c2J) ts).len
 unfold maxLen at hm_tsJ
 have F12 := F11.more 1 (rsl mchEnc 3 loJ hiJ (.slice a1J ms.length c1J) ms) rfl rfl rfl (fun _ h_ => h_) (Sl.gb hjJ.m (gb_refl _ none) (fun _ e => by cases e))
 clear F11
 have hm_msJ := (F12.at 0 rfl : Sl mchEnc 3 loJ hiJ _ (.slice a1J ms.length c1J) ms).len
 unfold maxLen at hm_msJ
 go_wp2_with fail
 refine (weekOf_c sb 6 _ ((F12.front 3 rfl rfl).at 0 rfl : SeedAt _ sb) (by omega)).mono ?_
 rintro e w15 ⟨dl, aw_dl, cw_dl, lw_dl, hw_dl, rfl, ⟨hwx_dl, hwy_dl⟩, hwz_dl, ⟨hwl_dl, hwe_dl⟩, hs14, hg13⟩
 have HWE_dl := lhd hwe_dl
 clear hwe_dl
 have hg13s := hg13.size
 (try simp at hg13s)
 have F16 := (F12.front 3 rfl rfl).seedAdd (rsl weaEnc 6 lw_dl hw_dl (.slice aw_dl dl.length cw_dl) dl) hg13 hs14 (hwz_dl) (fun g e => ⟨Nat.le_trans hwx_dl e.1, Nat.lt_of_lt_of_le e.2 hwy_dl⟩)
 clear F12
 clear hg13
 have HBE1 := lhd (bothErr_of HJEJ.out HWE_dl.out (by omega))
 have HOK := lhd (bothOk HBE1.out)
 have hnt := HOK.out.1.nt
 have hnd := HOK.out.2
 go_wp2_with fail
 have F17 := F16.new 25 #[.slice a1J ms.length c1J, .slice a2J ts.length c2J] (n := w15.heap.size) (by simp)
 clear F16
 refine (best_f 0 _ _ _ ms ts 0 _ _ dl _ (JobAt.mk (F17.slY 3 rfl) (F17.slY 4 rfl) (F17.afY 5 rfl)) (Nat.le_refl _) (F17.slY 1 rfl) (Nat.le_refl _) HBE1.out (by omega)).mono ?_
 rintro e w20 ⟨ab_, cb_, lb_, hb_, o, x0, rfl, ⟨⟨hbx_, hby_⟩, hcb_⟩, hbs_, ⟨hop_, hol_, hxo_, hmn_⟩, hg18⟩
 have HOP := lhd hop_
 have HOL := lhd hol_
 have HXO := lhd hxo_
 have HMN := lhd hmn_
 have hol2 : o.length <= ts.length /\ ts.length <= o.length := by omega
 have hil_ := ints_len o
 clear hop_ hol_ hxo_ hmn_
 have hg18s := hg18.size
 (try simp at hg18s)
 have F21 := F17.add (rsl intEnc 1 lb_ hb_ (.slice ab_ o.length cb_) (ints o)) hg18 (hbs_) (fun g e => ⟨Nat.le_trans hbx_ e.1, Nat.lt_of_lt_of_le e.2 hby_⟩)
 clear F17
 clear hg18
 have kn22 : (o.length : Int) = (ts.length : Int) := (by omega)
 have kn22H := lhd kn22
 have kn22a : ((o.length : Int) == (ts.length : Int)) = true := beq_t kn22
 have kn22b : ((o.length : Int) != (ts.length : Int)) = false := bne_f kn22
 clear kn22
 have hqT_ : (o.length = ts.length) = True := eq_true HOL.out
 have hqB_ : (o.length == ts.length) = true := by rw [beq_iff_eq]; exact HOL.out
 have hqC_ : (o.length != ts.length) = false := by rw [bne_eq_false_iff_eq]; exact HOL.out
 have hqD_ : ∀ h : Decidable (o.length = ts.length), @decide (o.length = ts.length) h = true := fun _ => decide_eq_true HOL.out
 have b23 := F21.bx2 1 rfl
 go_wp2_with fail
 clear b23
 obtain ⟨HI24_, HI240⟩ : ∃ I : RelT, I = (fun t ds wr => ∃ (k : Nat), t 3 = .pointer (some ⟨sb, 0, none⟩) /\ t 4 = .pointer (some ⟨w15.heap.size, 0, none⟩) /\ t 5 = .slice aw_dl dl.length cw_dl /\ t 6 = .slice ab_ o.length cb_ /\ t 7 = .int .i64 x0 /\ t 9 = .int .i64 (k : Int) /\ k <= o.length /\ ds = [] /\ w20.heap.size <= wr.heap.size /\ Bun w [rsl intEnc 1 lb_ hb_ (.slice ab_ o.length cb_) (ints o), rbox w15.heap.size 25 #[.slice a1J ms.length c1J, .slice a2J ts.length c2J], rsl weaEnc 6 lw_dl hw_dl (.slice aw_dl dl.length cw_dl) dl, rseed sb, rsl mchEnc 3 loJ hiJ (.slice a1J ms.length c1J) ms, rsl tskEnc 8 loJ hiJ (.slice a2J ts.length c2J) ts, rafs loJ hiJ ts, rsl intEnc 1 0 w.heap.size (.slice na zs.length nc) zs] wr) := ⟨_, rfl⟩
 have HI24 := lhd HI240
 clear HI240
 refine wp_loopS 179 rfl HI24_ (fun t wr => o.length - (intOf (t 9)).toNat) ?atStart1 ?round1
 case round1 =>
  intro t ds wr hHid
  rw [HI24.out] at hHid
  obtain ⟨k, e3, e4, e5, e6, e7, e9, hrel⟩ := hHid
  have e := rgO9179 t
  (try dsimp only at e)
  rw [e3, e4, e5, e6, e7, e9] at e
  rw [e]
  simp only [e9]
  clear e e3 e4 e5 e6 e7 e9
  obtain ⟨hk_, rfl, hs26, hF25⟩ := hrel
  clear F21
  obtain ⟨w27, rfl⟩ : ∃ x_ : World, x_ = wr := ⟨_, rfl⟩
  by_cases c28 : (k : Int) < (o.length : Int)
  ·
   have c28H := lhd c28
   obtain ⟨x29, o30, e_⟩ := Sl.addr (hF25.at 0 rfl : Sl intEnc 1 lb_ hb_ _ (.slice ab_ o.length cb_) (ints o)) (by rw [ints_len]; omega)
   subst e_
   obtain ⟨x, hx_⟩ : ∃ x_, o[k]? = some x_ := ⟨_, List.getElem?_eq_getElem (by omega)⟩
   have HX := lhd hx_
   have hxt := HOP.out.lt x (List.mem_of_getElem? hx_)
   clear hx_
   have hxi : (x : Int) < (ts.length : Int) := by omega
   have hz31 : Hid ((ints o)[k]? = some ((x : Nat) : Int)) := lhd (ints_get HX.out)
   have kn32 : ¬ ((x : Int) < 0) := (by omega)
   have kn32H := lhd kn32
   have kn32a : decide ((x : Int) < 0) = false := dec_f kn32
   have kn33 : ¬ ((o.length : Int) <= (x : Int)) := (by omega)
   have kn33H := lhd kn33
   have kn33a : decide ((o.length : Int) <= (x : Int)) = false := dec_f kn33
   have knN_ : ∀ (h : Decidable (o.length <= x)), @decide (o.length <= x) h = false := fun _ => decide_eq_false (by omega)
   obtain ⟨x34, o35, e_⟩ := Sl.addr (hF25.at 5 rfl : Sl tskEnc 8 loJ hiJ _ (.slice a2J ts.length c2J) ts) (by omega)
   subst e_
   obtain ⟨z, hz36_⟩ : ∃ z_, ts[x]? = some z_ := ⟨_, List.getElem?_eq_getElem (by omega)⟩
   have hz36 := lhd hz36_
   clear hz36_
   obtain ⟨a_z, c_z, hav_z, hcap_z, hsl_z⟩ := Afs.open (hF25.at 6 rfl : Afs loJ hiJ _ ts) hz36.out
   have HAV_z := lhd hav_z
   clear hav_z
   have F37 := hF25.more 6 (rsl intEnc 1 loJ hiJ (.slice a_z z.af.length c_z) z.af) rfl rfl rfl (fun _ h_ => h_) hsl_z
   clear hF25
   have hm_z := (F37.at 0 rfl : Sl intEnc 1 loJ hiJ _ (.slice a_z z.af.length c_z) z.af).len
   unfold maxLen at hm_z
   have HZA : Hid (∀ a ∈ z.af, 0 <= a) := lhd (fun a h_ => ((HOK.out.1.to_ x z hz36.out).af a h_).1)
   have HZT : Hid (tk ts x = z) := lhd (tk_get hz36.out)
   have F38 := F37.more 1 (rsl intEnc 1 lb_ hb_ (.slice (some ⟨x29, o30, none⟩) k cb_) ((ints o).take k)) rfl rfl rfl (fun _ h_ => h_) (Sl.take (F37.at 1 rfl : Sl intEnc 1 lb_ hb_ _ (.slice (some ⟨x29, o30, none⟩) o.length cb_) (ints o)) (by omega))
   clear F37
   go_wp2_with fail
   have hi39 : ∀ w, (Instr.sliceAt 27 (.slice (some ⟨x29, o30, none⟩) o.length cb_) none (some (.int .i64 (k : Int))) none).run Try.prog w = .ok (.slice (some ⟨x29, o30, none⟩) k cb_) w := fun w => slice_pre okInt (by omega) w
   have F40 := F38.drew
   clear F38
   refine ru_begin (fun W => W.cell? ⟨x29, o30 + k, none⟩ = some (.int .i64 (x : Int))) 23 (by kernel_rfl) ?_ ?_
   · exact (by have h_ := Sl.cells (F40.at 2 rfl) hz31.out 0 _ rfl; simpa using h_)
   obtain ⟨wd42, hwd_⟩ : ∃ x : World, w27.drew = x := ⟨_, rfl⟩
   rw [hwd_] at F40 ⊢
   have wd42s : w27.heap.size <= wd42.heap.size := by rw [← hwd_]; exact Nat.le_refl _
   clear hwd_
   have hS41 := ((by have h_ := Sl.cells (F40.at 2 rfl) hz31.out 0 _ rfl; simpa using h_))
   refine ru_t 0 [14, 5, 4, 3, 2] ?_
   refine ru_t 1 [14, 5, 4, 3, 2] ?_
   refine ru_t 2 [14, 5, 4, 3] ?_
   refine ru_t 3 [14, 5, 4] ?_
   refine ru_t 4 [14, 5] ?_
   refine ru_t 5 [14] ?_
   refine ru_t 6 [14, 13, 12, 9, 8] ?_
   refine ru_t 7 [14, 13, 12, 9, 8] ?_
   refine ru_t 8 [14, 13, 12, 9] ?_
   refine ru_t 9 [14, 13, 12] ?_
   refine ru_t 10 [14, 13, 12, 11] ?_
   refine ru_t 11 [14, 13, 12] ?_
   refine ru_t 12 [14, 13] ?_
   refine ru_t 13 [14] ?_
   refine ru_t 14 [] ?_
   refine ru_t 15 [22, 17] ?_
   refine ru_t 16 [22, 17] ?_
   refine ru_t 17 [22] ?_
   refine ru_t 18 [22, 21, 20] ?_
   refine ru_t 19 [22, 21, 20] ?_
   refine ru_t 20 [22, 21] ?_
   refine ru_t 21 [22] ?_
   (try simp only [Act.put, lpA, lpB, lpC])
   clear hS41
   refine ru_one 22 rfl (by kernel_rfl) (fun K hK => ?_)
   go_simp
   refine (listed_f 0 _ _ ((ints o).take k) (x : Int) _ (F40.slY 0 rfl) (Nat.le_refl _) (ord_new HOP.out HX.out)).mono ?_
   rintro e w45 ⟨rfl, hg43⟩
   have hg43s := hg43.size
   (try simp at hg43s)
   have F46 := F40.gn hg43
   clear F40
   refine ru_back hK (by exact (by have h_ := Sl.cells (F46.at 2 rfl) hz31.out 0 _ rfl; simpa using h_)) (fun hHeld => ?_)
   clear hK K
   (try simp only [Act.put, lpA, lpB, lpC])
   refine ru_one 23 rfl (by kernel_rfl) (fun K hK => ?_)
   go_simp
   refine ru_back_late hK (by kernel_rfl) ?_
   clear hK K
   (try simp only [Act.put, lpA, lpB, lpC])
   refine ru_done (by kernel_rfl) ?_
   (try clear hi39)
   have Fn_ := F46
   (try dsimp only [List.eraseIdx_cons_succ, List.eraseIdx_cons_zero] at Fn_)
   obtain ⟨w47, hx48, F50, hxs49⟩ := Fn_.name
   (try simp at hxs49)
   rw [hx48]
   clear hx48 F46 Fn_
   go_wp2_with fail
   obtain ⟨HI51_, HI510⟩ : ∃ I : RelT, I = (fun t ds wr => ∃ (j : Nat), t 3 = .pointer (some ⟨sb, 0, none⟩) /\ t 4 = .pointer (some ⟨w15.heap.size, 0, none⟩) /\ t 5 = .slice aw_dl dl.length cw_dl /\ t 6 = .slice (some ⟨x29, o30, none⟩) o.length cb_ /\ t 7 = .int .i64 x0 /\ t 9 = .int .i64 (k : Int) /\ t 10 = .int .i64 (j : Int) /\ j <= z.af.length /\ ds = [] /\ w47.heap.size <= wr.heap.size /\ Bun w [rsl intEnc 1 lb_ hb_ (.slice (some ⟨x29, o30, none⟩) k cb_) ((ints o).take k), rsl intEnc 1 loJ hiJ (.slice a_z z.af.length c_z) z.af, rsl intEnc 1 lb_ hb_ (.slice (some ⟨x29, o30, none⟩) o.length cb_) (ints o), rbox w15.heap.size 25 #[.slice a1J ms.length c1J, .slice (some ⟨x34, o35, none⟩) ts.length c2J], rsl weaEnc 6 lw_dl hw_dl (.slice aw_dl dl.length cw_dl) dl, rseed sb, rsl mchEnc 3 loJ hiJ (.slice a1J ms.length c1J) ms, rsl tskEnc 8 loJ hiJ (.slice (some ⟨x34, o35, none⟩) ts.length c2J) ts, rafs loJ hiJ ts, rsl intEnc 1 0 w.heap.size (.slice na zs.length nc) zs] wr) := ⟨_, rfl⟩
   have HI51 := lhd HI510
   clear HI510
   refine wp_loopS 179 rfl HI51_ (fun t wr => z.af.length - (intOf (t 10)).toNat) ?atStart2 ?round2
   case round2 =>
    intro t ds wr hHid
    rw [HI51.out] at hHid
    obtain ⟨j, e3, e4, e5, e6, e7, e9, e10, hrel⟩ := hHid
    have e := rgO9179 t
    (try dsimp only at e)
    rw [e3, e4, e5, e6, e7, e9, e10] at e
    rw [e]
    simp only [e10]
    clear e e3 e4 e5 e6 e7 e9 e10
    obtain ⟨hj_, rfl, hs53, hF52⟩ := hrel
    clear F50
    obtain ⟨w54, rfl⟩ : ∃ x_ : World, x_ = wr := ⟨_, rfl⟩
    go_wp2_with fail
    have b55 := hF52.bx2 3 rfl
    have ge56 : World.cell? _ ⟨x29, o30 + k, none⟩ = some (.int .i64 (x : Int)) := (by have h_ := Sl.cells (hF52.at 2 rfl) hz31.out 0 _ rfl; simpa using h_)
    have ge57 : World.cell? _ ⟨x34, o35 + x * 8 + 7, none⟩ = some (.slice a_z z.af.length c_z) := (HAV_z.out ▸ (Sl.cells (hF52.at 7 rfl) hz36.out 7 _ rfl))
    go_quiet (fail)
    clear b55 ge56 ge57
    have F58 := hF52.drewN nq
    clear hF52
    have Fn_ := F58
    (try dsimp only [List.eraseIdx_cons_succ, List.eraseIdx_cons_zero] at Fn_)
    obtain ⟨w59, hx60, F62, hxs61⟩ := Fn_.name
    (try simp at hxs61)
    rw [hx60]
    clear hx60 F58 Fn_
    by_cases c63 : (j : Int) < (z.af.length : Int)
    ·
     have c63H := lhd c63
     obtain ⟨x64, o65, e_⟩ := Sl.addr (F62.at 1 rfl : Sl intEnc 1 loJ hiJ _ (.slice a_z z.af.length c_z) z.af) (by omega)
     subst e_
     obtain ⟨y, hz66_⟩ : ∃ z_, z.af[j]? = some z_ := ⟨_, List.getElem?_eq_getElem (by omega)⟩
     have hz66 := lhd hz66_
     clear hz66_
     go_wp2_with fail
     have hi67 : ∀ w, (Instr.sliceAt 27 (.slice (some ⟨x29, o30, none⟩) o.length cb_) none (some (.int .i64 (k : Int))) none).run Try.prog w = .ok (.slice (some ⟨x29, o30, none⟩) k cb_) w := fun w => slice_pre okInt (by omega) w
     have F68 := F62.drew
     clear F62
     refine ru_begin (fun W => W.cell? ⟨w15.heap.size, 1, none⟩ = some (.slice (some ⟨x34, o35, none⟩) ts.length c2J) /\ W.cell? ⟨x29, o30 + k, none⟩ = some (.int .i64 (x : Int)) /\ W.cell? ⟨x34, o35 + x * 8 + 7, none⟩ = some (.slice (some ⟨x64, o65, none⟩) z.af.length c_z) /\ W.cell? ⟨x64, o65 + j, none⟩ = some (.int .i64 y)) 16 (by kernel_rfl) ?_ ?_
     · exact ⟨F68.cl 3 1 rfl rfl, (by have h_ := Sl.cells (F68.at 2 rfl) hz31.out 0 _ rfl; simpa using h_), (HAV_z.out ▸ (Sl.cells (F68.at 7 rfl) hz36.out 7 _ rfl)), (by have h_ := Sl.cells (F68.at 1 rfl) hz66.out 0 _ rfl; simpa using h_)⟩
     obtain ⟨wd70, hwd_⟩ : ∃ x : World, w59.drew = x := ⟨_, rfl⟩
     rw [hwd_] at F68 ⊢
     have wd70s : w59.heap.size <= wd70.heap.size := by rw [← hwd_]; exact Nat.le_refl _
     clear hwd_
     have hS69 := (And.intro (F68.cl 3 1 rfl rfl) (And.intro ((by have h_ := Sl.cells (F68.at 2 rfl) hz31.out 0 _ rfl; simpa using h_)) (And.intro ((HAV_z.out ▸ (Sl.cells (F68.at 7 rfl) hz36.out 7 _ rfl))) ((by have h_ := Sl.cells (F68.at 1 rfl) hz66.out 0 _ rfl; simpa using h_)))))
     refine ru_t 0 [15, 2] ?_
     refine ru_t 1 [15, 2] ?_
     refine ru_t 2 [15] ?_
     refine ru_t 3 [15, 14, 13, 11, 10, 9, 4] ?_
     refine ru_t 4 [15, 14, 13, 11, 10, 9] ?_
     refine ru_t 5 [15, 14, 13, 11, 10, 9, 8, 7] ?_
     refine ru_t 6 [15, 14, 13, 11, 10, 9, 8, 7] ?_
     refine ru_t 7 [15, 14, 13, 11, 10, 9, 8] ?_
     refine ru_t 8 [15, 14, 13, 11, 10, 9] ?_
     refine ru_t 9 [15, 14, 13, 11, 10] ?_
     refine ru_t 10 [15, 14, 13, 11] ?_
     refine ru_t 11 [15, 14, 13] ?_
     refine ru_t 12 [15, 14, 13] ?_
     refine ru_t 13 [15, 14] ?_
     refine ru_t 14 [15] ?_
     (try simp only [Act.put, lpA, lpB, lpC])
     clear hS69
     refine ru_one 15 rfl (by kernel_rfl) (fun K hK => ?_)
     go_simp
     refine (listed_y 0 _ _ ((ints o).take k) y _ (F68.slY 0 rfl) (Nat.le_refl _) (ord_old HOP.out HX.out HZT.out HZA.out hz66.out)).mono ?_
     rintro e w73 ⟨rfl, hg71⟩
     have hg71s := hg71.size
     (try simp at hg71s)
     have F74 := F68.gn hg71
     clear F68
     refine ru_back hK (by exact ⟨F74.cl 3 1 rfl rfl, (by have h_ := Sl.cells (F74.at 2 rfl) hz31.out 0 _ rfl; simpa using h_), (HAV_z.out ▸ (Sl.cells (F74.at 7 rfl) hz36.out 7 _ rfl)), (by have h_ := Sl.cells (F74.at 1 rfl) hz66.out 0 _ rfl; simpa using h_)⟩) (fun hHeld => ?_)
     clear hK K
     (try simp only [Act.put, lpA, lpB, lpC])
     refine ru_one 16 rfl (by kernel_rfl) (fun K hK => ?_)
     go_simp
     refine ru_back_late hK (by kernel_rfl) ?_
     clear hK K
     (try simp only [Act.put, lpA, lpB, lpC])
     refine ru_done (by kernel_rfl) ?_
     (try clear hi67)
     have Fn_ := F74
     (try dsimp only [List.eraseIdx_cons_succ, List.eraseIdx_cons_zero] at Fn_)
     obtain ⟨w75, hx76, F78, hxs77⟩ := Fn_.name
     (try simp at hxs77)
     rw [hx76]
     clear hx76 F74 Fn_
     go_wp2_with fail
     (first | refine ⟨by kernel_rfl, ?_, ?_⟩ | refine ⟨rfl, ?_, ?_⟩ | refine ⟨?_, ?_⟩)
     · rw [HI51.out]; exact ⟨j + 1, (by kernel_rfl), (by kernel_rfl), (by kernel_rfl), (by kernel_rfl), (by kernel_rfl), (by kernel_rfl), (by show Value.int .i64 ((j : Int) + 1) = _; simp), (by omega), (by first | rfl | simp), (by first | omega | (simp; done) | (simp; omega)), F78⟩
     · simp [slot, intOf]; omega
    have c63H := lhd c63
    have c63a : decide ((j : Int) < (z.af.length : Int)) = false := dec_f c63
    go_wp2_with fail
    have F79 : Bun w [rsl intEnc 1 lb_ hb_ (.slice (some ⟨x29, o30, none⟩) o.length cb_) (ints o), rbox w15.heap.size 25 #[.slice a1J ms.length c1J, .slice (some ⟨x34, o35, none⟩) ts.length c2J], rsl weaEnc 6 lw_dl hw_dl (.slice aw_dl dl.length cw_dl) dl, rseed sb, rsl mchEnc 3 loJ hiJ (.slice a1J ms.length c1J) ms, rsl tskEnc 8 loJ hiJ (.slice (some ⟨x34, o35, none⟩) ts.length c2J) ts, rafs loJ hiJ ts, rsl intEnc 1 0 w.heap.size (.slice na zs.length nc) zs] _ := F62.pick [2, 3, 4, 5, 6, 7, 8, 9] (by decide) rfl
    clear F62
    (first | refine ⟨by kernel_rfl, ?_, ?_⟩ | refine ⟨rfl, ?_, ?_⟩ | refine ⟨?_, ?_⟩)
    · rw [HI24.out]; exact ⟨k + 1, (by kernel_rfl), (by kernel_rfl), (by kernel_rfl), (by kernel_rfl), (by kernel_rfl), (by show Value.int .i64 ((k : Int) + 1) = _; simp), (by omega), (by first | rfl | simp), (by first | omega | (simp; done) | (simp; omega)), F79⟩
    · simp [slot, intOf]; omega
   case atStart2 =>
    rw [HI51.out]
    exact ⟨0, (by kernel_rfl), (by kernel_rfl), (by kernel_rfl), (by kernel_rfl), (by kernel_rfl), (by kernel_rfl), rfl, Nat.zero_le _, rfl, (by first | exact Nat.le_refl _ | omega | (simp; done) | (simp; omega)), F50⟩
  have c28H := lhd c28
  have c28a : decide ((k : Int) < (o.length : Int)) = false := dec_f c28
  have b80 := hF25.bx2 1 rfl
  go_wp2_with fail
  clear b80
  refine (rordered_c 0 _ _ _ ms ts 0 _ _ o _ (JobAt.mk (hF25.slY 4 rfl) (hF25.slY 5 rfl) (hF25.afY 6 rfl)) (Nat.le_refl _) (hF25.slY 0 rfl) (Nat.le_refl _) HOK.out.1 HOP.out HOL.out).mono ?_
  rintro e w83 ⟨aO1_, cO1_, loO1_, hiO1_, ltO1_, rfl, ⟨hxO1_, hyO1_⟩, hsO1_, haO1_, hmO1_, hg81⟩
  have HMO1_ := lhd hmO1_
  clear hmO1_
  have hg81s := hg81.size
  (try simp at hg81s)
  have F84 := hF25.add (rafs loO1_ hiO1_ ltO1_) hg81 (haO1_) (fun g e => ⟨Nat.le_trans hxO1_ e.1, Nat.lt_of_lt_of_le e.2 hyO1_⟩)
  clear hF25
  clear hg81
  have F85 := F84.more 0 (rsl tskEnc 8 loO1_ hiO1_ (.slice aO1_ ltO1_.length cO1_) ltO1_) rfl rfl rfl (fun _ h_ => h_) hsO1_
  clear F84
  go_wp2_with fail
  refine (times_o 0 _ _ _ ms ltO1_ 0 _ _ dl _ (JobAt.mk (F85.slY 6 rfl) (F85.slY 0 rfl) (F85.afY 1 rfl)) (Nat.le_refl _) (F85.slY 4 rfl) (Nat.le_refl _) (both_o HBE1.out HMO1_.out HOP.out HOL.out) x0 ((opO_of HMO1_.out HOL.out).trans HXO.out)).mono ?_
  rintro e w88 ⟨aT1_, nT1_, cT1_, xT1_, rfl, hg86⟩
  have hg86s := hg86.size
  (try simp at hg86s)
  have F89 := F85.gn hg86
  clear F85
  clear hg86
  have b90 := F89.bx2 3 rfl
  go_wp2_with fail
  clear b90
  have F91 := F89.new 39 #[.int .i64 xT1_, .int .i64 x0] (n := w88.heap.size) (by simp)
  clear F89
  refine (times_o 0 _ _ _ ms ts 0 _ _ dl _ (JobAt.mk (F91.slY 7 rfl) (F91.slY 8 rfl) (F91.afY 9 rfl)) (Nat.le_refl _) (F91.slY 5 rfl) (Nat.le_refl _) HBE1.out (opO ms ts dl (List.range ts.length)) (opO_id HOK.out.1).symm).mono ?_
  rintro e w94 ⟨aT2_, nT2_, cT2_, xT2_, rfl, hg92⟩
  have hg92s := hg92.size
  (try simp at hg92s)
  have F95 := F91.gn hg92
  clear F91
  clear hg92
  have kn96 : ¬ (opO ms ts dl (List.range ts.length) < x0) := (by have h_ := HMN.out (List.range ts.length) (ordP_id HOK.out.1) (by simp); omega)
  have kn96H := lhd kn96
  have kn96a : decide (opO ms ts dl (List.range ts.length) < x0) = false := dec_f kn96
  have b97 := F95.bx2 0 rfl
  go_wp2_with fail
  clear b97
  have F98 := F95.new 39 #[.int .i64 xT2_, .int .i64 (opO ms ts dl (List.range ts.length))] (n := w94.heap.size) (by simp)
  clear F95
  have F99 := F98.more 4 (rsl intEnc 1 lb_ hb_ (.slice ab_ o.length cb_) (ints o)) rfl rfl rfl (fun _ h_ => h_) (F98.at 4 rfl : Sl intEnc 1 lb_ hb_ _ (.slice ab_ o.length cb_) (ints o))
  clear F98
  (skip)
  obtain ⟨HI100_, HI1000⟩ : ∃ I : RelT, I = (fun t ds wr => ∃ (i : Nat) (aR : Option Addr) (cR lR hR : Nat) (r : List Nat), t 3 = .pointer (some ⟨sb, 0, none⟩) /\ t 4 = .pointer (some ⟨w15.heap.size, 0, none⟩) /\ t 5 = .slice aw_dl dl.length cw_dl /\ t 6 = .slice ab_ o.length cb_ /\ t 7 = .int .i64 x0 /\ t 17 = .slice aR r.length cR /\ t 18 = .int .i64 (i : Int) /\ i <= 6 /\ Hid (OrdP ts r /\ r.length = ts.length) /\ ds = [] /\ w94.heap.size <= wr.heap.size /\ Bun w [rsl intEnc 1 lR hR (.slice aR r.length cR) (ints r), rsl tskEnc 8 loO1_ hiO1_ (.slice aO1_ ltO1_.length cO1_) ltO1_, rafs loO1_ hiO1_ ltO1_, rsl intEnc 1 lb_ hb_ (.slice ab_ o.length cb_) (ints o), rbox w15.heap.size 25 #[.slice a1J ms.length c1J, .slice a2J ts.length c2J], rsl weaEnc 6 lw_dl hw_dl (.slice aw_dl dl.length cw_dl) dl, rseed sb, rsl mchEnc 3 loJ hiJ (.slice a1J ms.length c1J) ms, rsl tskEnc 8 loJ hiJ (.slice a2J ts.length c2J) ts, rafs loJ hiJ ts, rsl intEnc 1 0 w.heap.size (.slice na zs.length nc) zs] wr) := ⟨_, rfl⟩
  have HI100 := lhd HI1000
  clear HI1000
  refine wp_loopS 179 rfl HI100_ (fun t wr => 6 - (intOf (t 18)).toNat) ?atStart3 ?round3
  case round3 =>
   intro t ds wr hHid
   rw [HI100.out] at hHid
   obtain ⟨i, aR, cR, lR, hR, r, e3, e4, e5, e6, e7, e17, e18, hrel⟩ := hHid
   have e := rgO9179 t
   (try dsimp only at e)
   rw [e3, e4, e5, e6, e7, e17, e18] at e
   rw [e]
   simp only [e18]
   clear e e3 e4 e5 e6 e7 e17 e18
   obtain ⟨hi_, HRO, rfl, hs102, hF101⟩ := hrel
   clear F99
   obtain ⟨w103, rfl⟩ : ∃ x_ : World, x_ = wr := ⟨_, rfl⟩
   by_cases c104 : (i : Int) < 6
   ·
    have c104H := lhd c104
    by_cases c105 : 1 < (o.length : Int)
    ·
     have c105H := lhd c105
     go_wp2_with fail
     have hw111 : IntKind.i64.wrap ((o.length : Int) - 1) = (o.length : Int) - 1 := IntWalk.i64_in _ (by omega)
     have F112 := hF101.drew
     clear hF101
     refine ru_begin (fun W => W.cell? ⟨w15.heap.size, 0, none⟩ = some (.slice a1J ms.length c1J) /\ W.cell? ⟨w15.heap.size, 1, none⟩ = some (.slice a2J ts.length c2J)) 11 (by kernel_rfl) ?_ ?_
     · exact ⟨F112.cl 4 0 rfl rfl, F112.cl 4 1 rfl rfl⟩
     obtain ⟨wd114, hwd_⟩ : ∃ x : World, w103.drew = x := ⟨_, rfl⟩
     rw [hwd_] at F112 ⊢
     have wd114s : w103.heap.size <= wd114.heap.size := by rw [← hwd_]; exact Nat.le_refl _
     clear hwd_
     have hS113 := (And.intro (F112.cl 4 0 rfl rfl) (F112.cl 4 1 rfl rfl))
     refine ru_t 0 [] ?_
     refine ru_t 1 [] ?_
     refine ru_t 2 [] ?_
     refine ru_t 3 [] ?_
     refine ru_t 4 [] ?_
     refine ru_t 5 [] ?_
     (try simp only [Act.put, lpA, lpB, lpC])
     clear hS113
     refine ru_one 6 rfl (by kernel_rfl) (fun K hK => ?_)
     go_simp
     refine (below_c sb ((o.length : Int) - 1) _ (F112.at 6 rfl : SeedAt _ sb) (by omega) (by omega)).mono ?_
     rintro e w119 ⟨r115, rfl, hr116, hs118, hg117⟩
     unfold belowR at hr116
     have hg117s := hg117.size
     (try simp at hg117s)
     have F120 := F112.seedAt 6 rfl hg117 hs118
     clear F112
     obtain ⟨p, rfl⟩ : ∃ p_ : Nat, r115 = (p_ : Int) := ⟨r115.toNat, by omega⟩
     have hrl_ : r.length <= ts.length /\ ts.length <= r.length := by have h_ := HRO.out.2; omega
     have hpr_ : p + 1 < r.length := by omega
     refine ru_back hK (by exact ⟨F120.cl 4 0 rfl rfl, F120.cl 4 1 rfl rfl⟩) (fun hHeld => ?_)
     clear hK K
     (try simp only [Act.put, lpA, lpB, lpC])
     refine ru_one 7 rfl (by kernel_rfl) (fun K hK => ?_)
     go_simp
     refine (swapped_c 0 _ _ _ ms ts 0 _ _ r p _ (JobAt.mk (F120.slY 7 rfl) (F120.slY 8 rfl) (F120.afY 9 rfl)) (Nat.le_refl _) (F120.slY 0 rfl) (Nat.le_refl _) HOK.out.1 HRO.out.1 HRO.out.2 hpr_).mono ?_
     rintro e w123 ⟨aR2, cR2, lR2, hR2, bR2, r2, rfl, ⟨hsx_, hsy_⟩, hss_, hrp_, hg121⟩
     have HRP := lhd hrp_
     clear hrp_
     have hg121s := hg121.size
     (try simp at hg121s)
     have F124 := F120.add (rsl intEnc 1 lR2 hR2 (.slice aR2 r2.length cR2) (ints r2)) hg121 (hss_) (fun g e => ⟨Nat.le_trans hsx_ e.1, Nat.lt_of_lt_of_le e.2 hsy_⟩)
     clear F120
     refine ru_back hK (by exact ⟨F124.cl 5 0 rfl rfl, F124.cl 5 1 rfl rfl⟩) (fun hHeld => ?_)
     clear hK K
     (try simp only [Act.put, lpA, lpB, lpC])
     refine ru_p 8 ?_
     (try simp only [Act.put, lpA, lpB, lpC])
     refine ru_p 9 ?_
     refine ru_p 10 ?_
     (try simp only [Act.put, lpA, lpB, lpC])
     refine ru_one 11 rfl (by kernel_rfl) (fun K hK => ?_)
     go_simp
     refine ru_back_late hK (by kernel_rfl) ?_
     clear hK K
     (try simp only [Act.put, lpA, lpB, lpC])
     refine ru_done (by kernel_rfl) ?_
     (try clear hw111)
     have Fn_ := F124
     (try dsimp only [List.eraseIdx_cons_succ, List.eraseIdx_cons_zero] at Fn_)
     obtain ⟨w125, hx126, F128, hxs127⟩ := Fn_.name
     (try simp at hxs127)
     rw [hx126]
     clear hx126 F124 Fn_
     have b129 := F128.bx2 5 rfl
     go_wp2_with fail
     clear b129
     refine (rordered_c 0 _ _ _ ms ts 0 _ _ r2 _ (JobAt.mk (F128.slY 8 rfl) (F128.slY 9 rfl) (F128.afY 10 rfl)) (Nat.le_refl _) (F128.slY 0 rfl) (Nat.le_refl _) HOK.out.1 HRP.out.1 HRP.out.2).mono ?_
     rintro e w132 ⟨aO2_, cO2_, loO2_, hiO2_, ltO2_, rfl, ⟨hxO2_, hyO2_⟩, hsO2_, haO2_, hmO2_, hg130⟩
     have HMO2_ := lhd hmO2_
     clear hmO2_
     have hg130s := hg130.size
     (try simp at hg130s)
     have F133 := F128.add (rafs loO2_ hiO2_ ltO2_) hg130 (haO2_) (fun g e => ⟨Nat.le_trans hxO2_ e.1, Nat.lt_of_lt_of_le e.2 hyO2_⟩)
     clear F128
     clear hg130
     have F134 := F133.more 0 (rsl tskEnc 8 loO2_ hiO2_ (.slice aO2_ ltO2_.length cO2_) ltO2_) rfl rfl rfl (fun _ h_ => h_) hsO2_
     clear F133
     go_wp2_with fail
     refine (times_o 0 _ _ _ ms ltO2_ 0 _ _ dl _ (JobAt.mk (F134.slY 10 rfl) (F134.slY 0 rfl) (F134.afY 1 rfl)) (Nat.le_refl _) (F134.slY 8 rfl) (Nat.le_refl _) (both_o HBE1.out HMO2_.out HRP.out.1 HRP.out.2) (opO ms ts dl r2) (opO_of HMO2_.out HRP.out.2)).mono ?_
     rintro e w137 ⟨aT3_, nT3_, cT3_, xT3_, rfl, hg135⟩
     have hg135s := hg135.size
     (try simp at hg135s)
     have F138 := F134.gn hg135
     clear F134
     clear hg135
     have kn139 : ¬ (opO ms ts dl r2 < x0) := (by have h_ := HMN.out r2 HRP.out.1 HRP.out.2; omega)
     have kn139H := lhd kn139
     have kn139a : decide (opO ms ts dl r2 < x0) = false := dec_f kn139
     go_wp2_with fail
     have F140 := F138.new 39 #[.int .i64 xT3_, .int .i64 (opO ms ts dl r2)] (n := w137.heap.size) (by simp)
     clear F138
     have F141 : Bun w [rsl intEnc 1 lR2 hR2 (.slice aR2 r2.length cR2) (ints r2), rsl tskEnc 8 loO1_ hiO1_ (.slice aO1_ ltO1_.length cO1_) ltO1_, rafs loO1_ hiO1_ ltO1_, rsl intEnc 1 lb_ hb_ (.slice ab_ o.length cb_) (ints o), rbox w15.heap.size 25 #[.slice a1J ms.length c1J, .slice a2J ts.length c2J], rsl weaEnc 6 lw_dl hw_dl (.slice aw_dl dl.length cw_dl) dl, rseed sb, rsl mchEnc 3 loJ hiJ (.slice a1J ms.length c1J) ms, rsl tskEnc 8 loJ hiJ (.slice a2J ts.length c2J) ts, rafs loJ hiJ ts, rsl intEnc 1 0 w.heap.size (.slice na zs.length nc) zs] _ := F140.pick [3, 5, 6, 7, 8, 9, 10, 11, 12, 13, 14] (by decide) rfl
     clear F140
     (first | refine ⟨by kernel_rfl, ?_, ?_⟩ | refine ⟨rfl, ?_, ?_⟩ | refine ⟨?_, ?_⟩)
     · rw [HI100.out]; exact ⟨i + 1, aR2, cR2, lR2, hR2, r2, (by kernel_rfl), (by kernel_rfl), (by kernel_rfl), (by kernel_rfl), (by kernel_rfl), rfl, (by show Value.int .i64 ((i : Int) + 1) = _; simp), (by omega), HRP, (by first | rfl | simp), (by first | omega | (simp; done) | (simp; omega)), F141⟩
     · simp [slot, intOf]; omega
    have c105H := lhd c105
    have c105a : decide (1 < (o.length : Int)) = false := dec_f c105
    go_wp2_with fail
    refine (awake_c _).mono ?_
    rintro e w144 ⟨rfl, hg142⟩
    have hg142s := hg142.size
    (try simp at hg142s)
    have F145 := hF101.gn hg142
    clear hF101
    clear hg142
    go_wp2_with fail
    go_ret
    exact ⟨rfl, F145.gb⟩
   have c104H := lhd c104
   have c104a : decide ((i : Int) < 6) = false := dec_f c104
   go_wp2_with fail
   refine (awake_c _).mono ?_
   rintro e w148 ⟨rfl, hg146⟩
   have hg146s := hg146.size
   (try simp at hg146s)
   have F149 := hF101.gn hg146
   clear hF101
   clear hg146
   go_wp2_with fail
   go_ret
   exact ⟨rfl, F149.gb⟩
  case atStart3 =>
   rw [HI100.out]
   exact ⟨0, ab_, cb_, lb_, hb_, o, (by kernel_rfl), (by kernel_rfl), (by kernel_rfl), (by kernel_rfl), (by kernel_rfl), rfl, rfl, Nat.zero_le _, (lhd ⟨HOP.out, HOL.out⟩), rfl, (by first | exact Nat.le_refl _ | omega | (simp; done) | (simp; omega)), ((F99.drop 1 rfl).drop 1 rfl)⟩
 case atStart1 =>
  rw [HI24.out]
  exact ⟨0, (by kernel_rfl), (by kernel_rfl), (by kernel_rfl), (by kernel_rfl), (by kernel_rfl), rfl, Nat.zero_le _, rfl, (by first | exact Nat.le_refl _ | omega | (simp; done) | (simp; omega)), F21⟩
end Go.Proofs.Ytokelpmngahnoaa
