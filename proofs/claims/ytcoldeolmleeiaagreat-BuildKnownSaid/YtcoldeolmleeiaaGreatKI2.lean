/- build: the slack. -/
import Derived.Test.YtcoldeolmleeiaaGreatKI1
set_option linter.unusedVariables false
set_option linter.unusedSimpArgs false
set_option linter.unnecessarySimpa false
namespace Go.Proofs.YtcoldeolmleeiaaGreat
open Go.RowKit
set_option maxRecDepth 100000
attribute [local go_sem] Oper.semAt_some
attribute [local go_sem] run_store_fn
theorem ho_le {ms : List Mch} {ts : List Tsk} {dl : List Wea} {k : Nat} {z : Tsk} (h : bothErr ms ts dl = 0) (hz : ts[k]? = some z) : z.ho.hi <= 2000 := by
 unfold bothErr at h
 split at h
 · contradiction
 rename_i h1
 have h2 := Classical.not_not.1 h1
 unfold jobErr at h2
 split at h2
 · cases h2
 split at h2
 · contradiction
 split at h2
 · cases h2
 have h3 := tsksErr_each h2 k z hz
 unfold tskErr at h3
 split at h3
 · cases h3
 split at h3
 · contradiction
 rename_i h5 h6
 exact (spanErr_ok (Classical.not_not.1 h6)).2.2
theorem opens_e (lo hi : Nat) (vm vt : Value) (ms : List Mch) (ts : List Tsk) (lo2 hi2 : Nat) (vd : Value) (dl : List Wea) (w : World) (hj : JobAt lo hi w vm vt ms ts) (h2 : hi <= w.heap.size) (hd : Sl weaEnc 6 lo2 hi2 w vd dl) (h3 : hi2 <= w.heap.size) (hok : JobOk ms ts) (hn : dl.length <= 400) :
  Calls Tryz.prog 49 #[.agg #[vm, vt], vd] w (fun e w' => ∃ op : Int, e = .returned (.int .i64 op) /\ (caseOf true ms ts dl).opn ts.length = op /\ w.grownBy w' none) := by
 refine (opens_c lo hi vm vt ms ts lo2 hi2 vd dl w hj h2 hd h3 hok hn).mono ?_
 rintro e w' ⟨rfl, hg⟩
 exact ⟨_, rfl, rfl, hg⟩
def slkE (ms : List Mch) (ts : List Tsk) (dl : List Wea) (k : Int) : Int := if ¬ bothErr ms ts dl = 0 then bothErr ms ts dl else if wth k 0 ((ts.length : Int) - 1) = false then 7 else if (caseOf true ms ts dl).opn ts.length = 24 * (dl.length : Int) + 1 then 13 else 0
def slkQ (ms : List Mch) (ts : List Tsk) (dl : List Wea) (k : Nat) (q : Nat) : Bool := latB ms ts dl k (tk ts k) ((caseOf true ms ts dl).opn ts.length) ((q : Int) + 1)
def slkN (ms : List Mch) (ts : List Tsk) (dl : List Wea) (k : Int) : Int := if slkE ms ts dl k = 0 then ((fndN (slkQ ms ts dl k.toNat) 0 1000 : Nat) : Int) else 0
theorem slkN_no {ms : List Mch} {ts : List Tsk} {dl : List Wea} {k x : Int} (h : slkE ms ts dl k = x) (hx : ¬ x = 0) : slkN ms ts dl k = 0 := by rw [slkN, if_neg (by rw [h]; exact hx)]
theorem lat_mono {ms : List Mch} {ts : List Tsk} {dl : List Wea} {k : Nat} {z : Tsk} {op d e : Int} (h : JobOk ms ts) (hz : ts[k]? = some z) (hd : 0 <= d) (hde : d <= e) (hl : latB ms ts dl k z op e = false) : latB ms ts dl k z op d = false := by
 unfold latB at *
 rw [decide_eq_false_iff_not] at *
 have h1 := (more_le (dl := dl) h hz hd hde).opn ts.length
 omega
theorem lat_zero {ms : List Mch} {ts : List Tsk} {dl : List Wea} {k : Nat} {z : Tsk} (hz : ts[k]? = some z) : latB ms ts dl k z ((caseOf true ms ts dl).opn ts.length) 0 = false := by
 unfold latB
 rw [more_zero hz]
 simp
theorem slk_of {ms : List Mch} {ts : List Tsk} {dl : List Wea} {k i : Nat} {z : Tsk} {op : Int} (h : JobOk ms ts) (hz : ts[k]? = some z) (hop : (caseOf true ms ts dl).opn ts.length = op) (hi : i <= 1001) (h1 : i = 0 ∨ latB ms ts dl k z op ((i : Int) - 1) = false) (h2 : i = 1001 ∨ latB ms ts dl k z op (i : Int) = true) (he : slkE ms ts dl (k : Int) = 0) : slkN ms ts dl (k : Int) = (i : Int) - 1 := by
 subst hop
 have h0 : i ≠ 0 := by
  intro e
  subst e
  rcases h2 with h2 | h2
  · cases h2
  have := lat_zero (ms := ms) (dl := dl) hz
  rw [show ((0 : Nat) : Int) = 0 by rfl, this] at h2
  cases h2
 have h1' := h1.resolve_left h0
 have hq : ∀ q : Nat, slkQ ms ts dl k q = latB ms ts dl k z ((caseOf true ms ts dl).opn ts.length) ((q : Int) + 1) := fun q => by unfold slkQ; rw [tk_get hz]
 have hlt : ∀ j, j < i - 1 -> slkQ ms ts dl k j = false := fun j hj => by rw [hq]; exact lat_mono h hz (by omega) (by omega) h1'
 rw [slkN, if_pos he, Int.toNat_natCast]
 have e : fndN (slkQ ms ts dl k) 0 1000 = i - 1 := by
  by_cases hi2 : i = 1001
  ·
   subst hi2
   rcases Nat.lt_or_ge (fndN (slkQ ms ts dl k) 0 1000) 1000 with h3 | h3
   ·
    have h4 := fndN_yes (f := slkQ ms ts dl k) 1000 0 (by omega)
    rw [hlt _ (by omega)] at h4
    cases h4
   have := fndN_bd (slkQ ms ts dl k) 1000 0
   omega
  refine fndN_at hlt (by omega) ?_
  rw [hq]
  have := h2.resolve_left hi2
  rwa [show (((i - 1 : Nat) : Int) + 1) = (i : Int) by omega]
 rw [e]
 omega
set_option maxHeartbeats 16000000 in
theorem slack_c (lo hi : Nat) (vm vt : Value) (ms : List Mch) (ts : List Tsk) (lo2 hi2 : Nat) (vd : Value) (dl : List Wea) (kk : Int) (w : World) (hj : JobAt lo hi w vm vt ms ts) (h2 : hi <= w.heap.size) (hd : Sl weaEnc 6 lo2 hi2 w vd dl) (h3 : hi2 <= w.heap.size) :
  Calls Tryz.prog 23 #[.agg #[vm, vt], vd, .int .i64 kk] w (Ret (.tuple #[.int .i64 (slkN ms ts dl kk), .int .i64 (slkE ms ts dl kk)]) w) := by
 have F1 : Bun w [] w := Bun.nil _
 obtain ⟨hms, hts, haf⟩ := hj
 have hm_ms := hms.len
 unfold maxLen at hm_ms
 obtain ⟨aM, cM, rfl⟩ := hms.any
 replace F1 := F1.sl0 hms h2 rfl
 clear hms
 have hm_ts := hts.len
 unfold maxLen at hm_ts
 obtain ⟨aT, cT, rfl⟩ := hts.any
 replace F1 := F1.sl0 hts h2 rfl
 clear hts
 replace F1 := F1.non0 (rafs lo hi ts) haf (fun _ h_ => Nat.lt_of_lt_of_le h_.2 h2) rfl rfl
 clear haf
 have hm_ds := hd.len
 unfold maxLen at hm_ds
 obtain ⟨ad, cd, rfl⟩ := hd.any
 replace F1 := F1.sl0 hd h3 rfl
 clear hd
 go_enter Tryz.func23, Tryz.ntmps23
 go_wp2_with fail
 replace F1 := F1.new 25 #[.slice aM ms.length cM, .slice aT ts.length cT] (n := w.heap.size) (by simp)
 replace F1 := F1.new 40 #[.slice ad dl.length cd] (n := (w.heap.size + 1)) (by simp)
 replace F1 := F1.new 3 #[.int .i64 kk] (n := (w.heap.size + 2)) (by simp)
 refine (bcheckAll_c lo hi _ _ ms ts lo2 hi2 _ dl _ (JobAt.mk (F1.s 6 rfl) (F1.s 5 rfl) (F1.at 4 rfl : Afs lo hi _ ts)) (Nat.le_trans h2 F1.gb.size) (F1.s 3 rfl) (Nat.le_trans h3 F1.gb.size)).mono ?_
 rintro e w11 ⟨rfl, hg9⟩
 have hg9s := hg9.size
 (try simp at hg9s)
 replace F1 := F1.gn hg9
 clear hg9
 by_cases c13 : bothErr ms ts dl = 0
 ·
  obtain ⟨c13a, c13b⟩ := bqt c13
  have c13H := lhd c13
  clear c13
  have HOK := lhd (bothOk c13H.out)
  have hnt := HOK.out.1.nt
  have hnd := HOK.out.2
  have b14 := F1.bx1 0 rfl
  have b15 := F1.bx2 2 rfl
  go_wp2_with fail
  clear b14 b15
  refine (within_c _ _ _ _).mono ?_
  rintro e _ ⟨rfl, rfl⟩
  cases c16 : wth kk 0 ((ts.length : Int) - 1)
  ·
   have c16o := wth_f c16
   have c16H := lhd c16
   have Hx17 := lhd (show (slkN ms ts dl kk) = 0 by exact slkN_no (show slkE ms ts dl kk = 7 from (by unfold slkE; rw [if_neg (not_not_intro c13H.out), if_pos c16H.out])) (by decide))
   have Hx18 := lhd (show (slkE ms ts dl kk) = 7 by unfold slkE; rw [if_neg (not_not_intro c13H.out), if_pos c16H.out])
   go_wp2_with fail
   exact bodyPost_ret (v := .tuple #[.int .i64 0, .int .i64 7]) (by simp [results, Tryz.results23, go_sem]) rfl (⟨by rw [Hx17.out, Hx18.out] <;> rfl, F1.gb⟩)
  have c16o := wth_t c16
  have c16H := lhd c16
  have hk_ := wth_t c16H.out
  obtain ⟨k, rfl⟩ : ∃ n : Nat, kk = (n : Int) := ⟨kk.toNat, by omega⟩
  have hkl : k < ts.length := by omega
  have htp : 0 < ts.length := by omega
  have b19 := F1.bx1 1 rfl
  have b20 := F1.bx2 2 rfl
  go_wp2_with fail
  clear b19 b20
  refine (opens_e lo hi _ _ ms ts lo2 hi2 _ dl _ (JobAt.mk (F1.s 6 rfl) (F1.s 5 rfl) (F1.at 4 rfl : Afs lo hi _ ts)) (Nat.le_trans h2 F1.gb.size) (F1.s 3 rfl) (Nat.le_trans h3 F1.gb.size) HOK.out.1 HOK.out.2).mono ?_
  rintro e w23 ⟨op, rfl, hop_, hg21⟩
  have HOP := lhd hop_
  have hopb : 0 <= op /\ op <= 24 * (dl.length : Int) + 1 := by have h_ := (caseOf true ms ts dl).opn_bd (fun i => ((caseOk HOK.out.1 HOK.out.2).fr i).1) (fun i => ((caseOk HOK.out.1 HOK.out.2).wa i).1) ts.length; rw [hop_] at h_; exact h_
  clear hop_
  have hg21s := hg21.size
  (try simp at hg21s)
  replace F1 := F1.gn hg21
  clear hg21
  by_cases c25 : op = 24 * (dl.length : Int) + 1
  ·
   obtain ⟨c25a, c25b⟩ := bqt c25
   have c25H := lhd c25
   clear c25
   have Hx26 := lhd (show (slkN ms ts dl (k : Int)) = 0 by exact slkN_no (show slkE ms ts dl (k : Int) = 13 from (by unfold slkE; rw [if_neg (not_not_intro c13H.out), if_neg (by rw [c16H.out]; decide), if_pos (by rw [HOP.out]; exact c25H.out)])) (by decide))
   have Hx27 := lhd (show (slkE ms ts dl (k : Int)) = 13 by unfold slkE; rw [if_neg (not_not_intro c13H.out), if_neg (by rw [c16H.out]; decide), if_pos (by rw [HOP.out]; exact c25H.out)])
   have b28 := F1.bx1 1 rfl
   go_wp2_with fail
   clear b28
   replace F1 := F1.new 3 #[.int .i64 op] (n := w23.heap.size) (by simp)
   exact bodyPost_ret (v := .tuple #[.int .i64 0, .int .i64 13]) (by simp [results, Tryz.results23, go_sem]) rfl (⟨by rw [Hx26.out, Hx27.out] <;> rfl, F1.gb⟩)
  obtain ⟨c25a, c25b⟩ := bqf c25
  have c25H := lhd c25
  clear c25
  have b30 := F1.bx1 1 rfl
  have b31 := F1.bx2 2 rfl
  go_wp2_with fail
  clear b30 b31
  replace F1 := F1.new 3 #[.int .i64 op] (n := w23.heap.size) (by simp)
  refine (cloneTsk_c w.heap.size lo hi _ ts _ (slS2 (F1.s 6 rfl) (Afs.sl (F1.at 5 rfl : Afs lo hi _ ts))) (Nat.le_trans h2 F1.gb.size) (by omega) F1.gb.size).mono ?_
  rintro e w35 ⟨oa, oc, rfl, hoo, hox, hg33⟩
  have hg33s := hg33.size
  (try simp at hg33s)
  replace F1 := F1.add (rown tskEncS 34 8 w.heap.size (.slice oa ts.length oc) ts) hg33 (hoo) (fun g e => hox g e)
  clear hg33
  go_wp2_with fail
  replace F1 := F1.new 23 #[.slice oa ts.length oc] (n := w35.heap.size) (by simp)
  have Fn_ := F1
  (try dsimp only [lpF, lpG] at Fn_)
  obtain ⟨w38, hx39, F41, hxs40⟩ := Fn_.name
  (try simp at hxs40)
  rw [hx39]
  clear hx39 F1 Fn_
  obtain ⟨gO42, cO43, e_⟩ := Own.opn (F41.o 1 rfl) htp
  injection e_ with e1_ _ e2_
  subst e1_ e2_
  obtain ⟨z, hz_⟩ : ∃ z_, ts[k]? = some z_ := ⟨_, List.getElem?_eq_getElem hkl⟩
  have HZ := lhd hz_
  have hzb := ho_le c13H.out hz_
  clear hz_
  have F44 : Bun w [rown tskEncS 34 8 w.heap.size (.slice (some ⟨gO42, 0, none⟩) ts.length oc) ts, rbox w35.heap.size 23 #[.slice (some ⟨gO42, 0, none⟩) ts.length oc], rbox w23.heap.size 3 #[.int .i64 op], rbox (w.heap.size + 2) 3 #[.int .i64 (k : Int)], rbox (w.heap.size + 1) 40 #[.slice ad dl.length cd], rbox w.heap.size 25 #[.slice aM ms.length cM, .slice aT ts.length cT], rsl weaEnc 6 lo2 hi2 (.slice ad dl.length cd) dl, rafs lo hi ts, rsl tskEnc 8 lo hi (.slice aT ts.length cT) ts, rsl mchEnc 3 lo hi (.slice aM ms.length cM) ms] _ := F41.pick [1, 0, 2, 3, 4, 5, 6, 7, 8, 9] (by decide) rfl
  clear F41
  have hmz_ := more_zero HZ.out
  have FB_ : Bun w [rown tskEncS 34 8 w.heap.size (.slice (some ⟨gO42, 0, none⟩) ts.length oc) (ts.set k (moreT z 0)), rbox w35.heap.size 23 #[.slice (some ⟨gO42, 0, none⟩) ts.length oc], rbox w23.heap.size 3 #[.int .i64 op], rbox (w.heap.size + 2) 3 #[.int .i64 (k : Int)], rbox (w.heap.size + 1) 40 #[.slice ad dl.length cd], rbox w.heap.size 25 #[.slice aM ms.length cM, .slice aT ts.length cT], rsl weaEnc 6 lo2 hi2 (.slice ad dl.length cd) dl, rafs lo hi ts, rsl tskEnc 8 lo hi (.slice aT ts.length cT) ts, rsl mchEnc 3 lo hi (.slice aM ms.length cM) ms] w38 := by rw [hmz_]; exact F44
  clear hmz_ F44
  refine (search_c w w.heap.size lo hi lo2 hi2 gO42 oc w35.heap.size w23.heap.size (w.heap.size + 2) (w.heap.size + 1) w.heap.size k ad aM aT cd cM cT ms ts dl z op 0 w38 (FB_.pick [0, 1, 2, 3, 4, 5, 6, 7, 8, 9] (by decide) rfl) HZ.out HOK.out.1 HOK.out.2 hzb (by omega) (by omega)).mono ?_
  rintro e w46 ⟨i, d', rfl, hi_, hsl_, hd_, F45⟩
  have hwsF45 := F45.gb.size
  (try clear FB_)
  have Hx47 := lhd (show (slkN ms ts dl (k : Int)) = (i : Int) - 1 by have he_ : slkE ms ts dl (k : Int) = 0 := (by unfold slkE; rw [if_neg (not_not_intro c13H.out), if_neg (by rw [c16H.out]; decide), if_neg (by rw [HOP.out]; exact c25H.out)]); exact slk_of HOK.out.1 HZ.out HOP.out hi_ hsl_.1 hsl_.2 he_)
  have Hx48 := lhd (show (slkE ms ts dl (k : Int)) = 0 by unfold slkE; rw [if_neg (not_not_intro c13H.out), if_neg (by rw [c16H.out]; decide), if_neg (by rw [HOP.out]; exact c25H.out)])
  go_wp2_with fail
  exact bodyPost_ret (v := .tuple #[.int .i64 ((i : Int) - 1), .int .i64 0]) (by simp [results, Tryz.results23, go_sem]) rfl (⟨by rw [Hx47.out, Hx48.out] <;> rfl, F45.gb⟩)
 obtain ⟨c13a, c13b⟩ := bqf c13
 have c13H := lhd c13
 clear c13
 have Hx49 := lhd (show (slkN ms ts dl kk) = 0 by exact slkN_no (show slkE ms ts dl kk = bothErr ms ts dl from (by unfold slkE; rw [if_pos c13H.out])) c13H.out)
 have Hx50 := lhd (show (slkE ms ts dl kk) = bothErr ms ts dl by unfold slkE; rw [if_pos c13H.out])
 go_wp2_with fail
 exact bodyPost_ret (v := .tuple #[.int .i64 0, .int .i64 (bothErr ms ts dl)]) (by simp [results, Tryz.results23, go_sem]) rfl (⟨by rw [Hx49.out, Hx50.out] <;> rfl, F1.gb⟩)
end Go.Proofs.YtcoldeolmleeiaaGreat
