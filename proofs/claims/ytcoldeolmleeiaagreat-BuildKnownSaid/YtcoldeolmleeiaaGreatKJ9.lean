/- build and its reference: when all tasks end. -/
import Derived.Test.YtcoldeolmleeiaaGreatKJ8
import Derived.Test.YtcoldeolmleeiaaGreatKK1
import Derived.Test.YtcoldeolmleeiaaGreatKKC
set_option linter.unusedVariables false
set_option linter.unusedSimpArgs false
set_option linter.unnecessarySimpa false
namespace Go.Proofs.YtcoldeolmleeiaaGreat
open Go.RowKit
set_option maxRecDepth 100000
attribute [local go_sem] Oper.semAt_some
theorem rgJ979 (t : Nat -> Value) : ((List.range 79).map t).toArray = #[t 0, t 1, t 2, t 3, t 4, t 5, t 6, t 7, t 8, t 9, t 10, t 11, t 12, t 13, t 14, t 15, t 16, t 17, t 18, t 19, t 20, t 21, t 22, t 23, t 24, t 25, t 26, t 27, t 28, t 29, t 30, t 31, t 32, t 33, t 34, t 35, t 36, t 37, t 38, t 39, t 40, t 41, t 42, t 43, t 44, t 45, t 46, t 47, t 48, t 49, t 50, t 51, t 52, t 53, t 54, t 55, t 56, t 57, t 58, t 59, t 60, t 61, t 62, t 63, t 64, t 65, t 66, t 67, t 68, t 69, t 70, t 71, t 72, t 73, t 74, t 75, t 76, t 77, t 78] := rfl
theorem enL_next {c : Cs} {k : Nat} {b : Int} (h : c.bgn (c.plan k) k = b) : enL c (k + 1) = enL c k ++ [c.fin (c.m k) b (c.ho k)] := by rw [enL_succ, h]
theorem before_e (lo hi : Nat) (vt : Value) (ts : List Tsk) (i : Nat) (u : Tsk) (v1 v2 v3 v5 : Value) (wb : Bool) (ms : List Mch) (dl : List Wea) (c : Cs) (hc : Hid (c = caseOf wb ms ts dl)) (w : World) (hts : Sl tskEnc 8 lo hi w vt ts) (h2 : hi <= w.heap.size) (hti : ts[i]? = some u) :
  Calls Tryz.prog 46 #[.agg #[v1, v2, v3, vt, v5], .int .i64 (i : Int)] w (Ret (.int .i64 (c.bef (c.m i) i)) w) := by
 have h := hc.out
 subst h
 have e : (caseOf wb ms ts dl).m i = u.m := by show (tk ts i).m = _; rw [tk_get hti]
 rw [e]
 exact before_c lo hi vt ts i u v1 v2 v3 v5 wb ms dl w hts h2 hti
theorem Bun.nilrow {α : Type} (enc : α -> List Value) (e : TypeId) (sz : Nat) {w0 A : World} {L : List Res} (h : Bun w0 L A) : Bun w0 (rown enc e sz w0.heap.size (.slice none 0 0) [] :: L) A :=
 h.add (rown enc e sz w0.heap.size (.slice none 0 0) []) (gb_refl _ _) (Own.nil _ _ _ _ _) fun g e => by cases e
theorem Own.cast {α : Type} {enc : α -> List Value} {e : TypeId} {sz base : Nat} {w : World} {v : Value} {l l' : List α} (h : Own enc e sz base w v l) (hl : l' = l) : Own enc e sz base w v l' := hl ▸ h
theorem Own.slN {α : Type} {enc : α -> List Value} {e : TypeId} {sz base n : Nat} {w : World} {v : Value} {l : List α} (h : Own enc e sz base w v l) (hsz : ∀ x, (enc x).length = sz) (hn : l.length = n) : ∃ (a : Option Addr) (c : Nat), v = .slice a n c /\ Sl enc sz base w.heap.size w (.slice a n c) l := by
 subst hn
 have h1 := h.sl hsz
 obtain ⟨a, c, rfl⟩ := h1.any
 exact ⟨a, c, rfl, h1⟩
def TimesP (c : Cs) (n : Nat) (w : World) : Ending -> World -> Prop := fun e w' => ∃ (a1 a2 : Option Addr) (c1 c2 lo hi : Nat), e = .returned (.tuple #[.slice a1 n c1, .slice a2 n c2, .int .i64 (c.opn n)]) /\ (w.heap.size <= lo /\ hi <= w'.heap.size) ∧
 Sl intEnc 1 lo hi w' (.slice a1 n c1) (bgL c n) /\ Sl intEnc 1 lo hi w' (.slice a2 n c2) (enL c n) /\ w.grownBy w' none
theorem caseb {c : Cs} {ms : List Mch} {ts : List Tsk} {dl : List Wea} (hc : Hid (c = caseOf false ms ts dl)) {k : Nat} {z : Tsk} (hz : ts[k]? = some z) : z.m = c.m k /\ z.ho.lo = c.ho k /\ z.wa.lo = c.wa k /\ z.fr.lo = c.fr k /\ z.af = c.af k := by
 have h := hc.out
 subst h
 have e := tk_get hz
 exact ⟨by show _ = (tk ts k).m; rw [e], by show _ = (tk ts k).ho.lo; rw [e], by show _ = (tk ts k).wa.lo; rw [e], by show _ = (tk ts k).fr.lo; rw [e], by show _ = (tk ts k).af; rw [e]⟩
theorem readyb_e (lo hi : Nat) (vt : Value) (ms : List Mch) (ts : List Tsk) (dl : List Wea) (lo3 hi3 : Nat) (ve : Value) (n k : Nat) (v2 v3 v5 : Value) (c : Cs) (hc : Hid (c = caseOf false ms ts dl)) (w : World) (hts : Sl tskEnc 8 lo hi w vt ts) (h2 : hi <= w.heap.size) (hen : Sl intEnc 1 lo3 hi3 w ve (enL c n)) (h3 : hi3 <= w.heap.size)
  (hok : JobOk ms ts) (hn : dl.length <= 400) (hk : k < n) (hkn : k < ts.length) :
  Calls Tryz.prog 45 #[.agg #[.func (.func 41) #[] #[], v2, v3, vt, v5], .int .i64 (k : Int), ve] w (Ret (.int .i64 (enAt (c.plan n) k + c.wa k)) w) := by
 have ho : CsOk c := hc.out ▸ caseOk hok hn
 obtain ⟨_, _, e3, _⟩ := caseb hc (tk_at hkn)
 have h1 := c.en_bd (fun i => (ho.fr i).1) (n := n) (k := k) hk
 have h4 := ho.wa k
 have h5 := ho.nd
 rw [← e3] at h4 ⊢
 exact readyb_c lo hi vt ts lo3 hi3 ve (enL c n) k (tk ts k) (enAt (c.plan n) k) v2 v3 v5 w hts h2 hen h3 (tk_at hkn) (enL_get c hk) (by unfold Cs.past at h1; omega) (by omega)
theorem endb_e (lo hi : Nat) (vm vt va : Value) (ms : List Mch) (ts : List Tsk) (lo2 hi2 : Nat) (vd : Value) (dl : List Wea) (k : Nat) (u : Tsk) (b : Int) (c : Cs) (hc : Hid (c = caseOf false ms ts dl)) (w : World) (hms : Sl mchEnc 3 lo hi w vm ms) (h2 : hi <= w.heap.size) (hd : Sl weaEnc 6 lo2 hi2 w vd dl) (h3 : hi2 <= w.heap.size)
  (hok : JobOk ms ts) (hn : dl.length <= 400) (hu : ts[k]? = some u) (hb0 : 0 <= b) (hb : b <= 24 * (dl.length : Int) + 1) :
  Calls Tryz.prog 48 #[.agg #[.func (.func 41) #[] #[], .func (.func 42) #[] #[], vm, vt, vd], .agg #[.int .i64 u.m, .int .i64 u.ho.lo, .int .i64 u.ho.hi, .int .i64 u.wa.lo, .int .i64 u.wa.hi, .int .i64 u.fr.lo, .int .i64 u.fr.hi, va], .int .i64 b] w (Ret (.int .i64 (c.fin (c.m k) b (c.ho k))) w) := by
 obtain ⟨e1, e2, _⟩ := caseb hc hu
 have h := hc.out
 have ht := hok.to_ k u hu
 obtain ⟨bn, rfl⟩ : ∃ n : Nat, b = (n : Int) := ⟨b.toNat, by omega⟩
 have hx := mc_at (ms := ms) (k := u.m.toNat) (by have := ht.m; omega)
 rw [← e1, ← e2, h]
 exact endb_c lo hi vm vt va ms ts lo2 hi2 vd dl u (mc ms u.m.toNat) bn w hms h2 hd h3 hx ht.m.1 (hok.mo _ (List.mem_of_getElem? hx)) hn hb (by have := ht.ho; omega)
theorem casew {c : Cs} {ms : List Mch} {ts : List Tsk} {dl : List Wea} (hc : Hid (c = caseOf true ms ts dl)) {k : Nat} {z : Tsk} (hz : ts[k]? = some z) : z.m = c.m k /\ z.ho.hi = c.ho k /\ z.wa.hi = c.wa k /\ z.fr.hi = c.fr k /\ z.af = c.af k := by
 have h := hc.out
 subst h
 have e := tk_get hz
 exact ⟨by show _ = (tk ts k).m; rw [e], by show _ = (tk ts k).ho.hi; rw [e], by show _ = (tk ts k).wa.hi; rw [e], by show _ = (tk ts k).fr.hi; rw [e], by show _ = (tk ts k).af; rw [e]⟩
theorem readyw_e (lo hi : Nat) (vt : Value) (ms : List Mch) (ts : List Tsk) (dl : List Wea) (lo3 hi3 : Nat) (ve : Value) (n k : Nat) (v2 v3 v5 : Value) (c : Cs) (hc : Hid (c = caseOf true ms ts dl)) (w : World) (hts : Sl tskEnc 8 lo hi w vt ts) (h2 : hi <= w.heap.size) (hen : Sl intEnc 1 lo3 hi3 w ve (enL c n)) (h3 : hi3 <= w.heap.size)
  (hok : JobOk ms ts) (hn : dl.length <= 400) (hk : k < n) (hkn : k < ts.length) :
  Calls Tryz.prog 45 #[.agg #[.func (.func 43) #[] #[], v2, v3, vt, v5], .int .i64 (k : Int), ve] w (Ret (.int .i64 (enAt (c.plan n) k + c.wa k)) w) := by
 have ho : CsOk c := hc.out ▸ caseOk hok hn
 obtain ⟨_, _, e3, _⟩ := casew hc (tk_at hkn)
 have h1 := c.en_bd (fun i => (ho.fr i).1) (n := n) (k := k) hk
 have h4 := ho.wa k
 have h5 := ho.nd
 rw [← e3] at h4 ⊢
 exact readyw_c lo hi vt ts lo3 hi3 ve (enL c n) k (tk ts k) (enAt (c.plan n) k) v2 v3 v5 w hts h2 hen h3 (tk_at hkn) (enL_get c hk) (by unfold Cs.past at h1; omega) (by omega)
theorem endw_e (lo hi : Nat) (vm vt va : Value) (ms : List Mch) (ts : List Tsk) (lo2 hi2 : Nat) (vd : Value) (dl : List Wea) (k : Nat) (u : Tsk) (b : Int) (c : Cs) (hc : Hid (c = caseOf true ms ts dl)) (w : World) (hms : Sl mchEnc 3 lo hi w vm ms) (h2 : hi <= w.heap.size) (hd : Sl weaEnc 6 lo2 hi2 w vd dl) (h3 : hi2 <= w.heap.size)
  (hok : JobOk ms ts) (hn : dl.length <= 400) (hu : ts[k]? = some u) (hb0 : 0 <= b) (hb : b <= 24 * (dl.length : Int) + 1) :
  Calls Tryz.prog 48 #[.agg #[.func (.func 43) #[] #[], .func (.func 44) #[] #[], vm, vt, vd], .agg #[.int .i64 u.m, .int .i64 u.ho.lo, .int .i64 u.ho.hi, .int .i64 u.wa.lo, .int .i64 u.wa.hi, .int .i64 u.fr.lo, .int .i64 u.fr.hi, va], .int .i64 b] w (Ret (.int .i64 (c.fin (c.m k) b (c.ho k))) w) := by
 obtain ⟨e1, e2, _⟩ := casew hc hu
 have h := hc.out
 have ht := hok.to_ k u hu
 obtain ⟨bn, rfl⟩ : ∃ n : Nat, b = (n : Int) := ⟨b.toNat, by omega⟩
 have hx := mc_at (ms := ms) (k := u.m.toNat) (by have := ht.m; omega)
 rw [← e1, ← e2, h]
 exact endw_c lo hi vm vt va ms ts lo2 hi2 vd dl u (mc ms u.m.toNat) bn w hms h2 hd h3 hx ht.m.1 (hok.mo _ (List.mem_of_getElem? hx)) hn hb (by have := ht.ho; omega)
set_option maxHeartbeats 16000000 in
theorem timesb_c (lo hi : Nat) (vm vt : Value) (ms : List Mch) (ts : List Tsk) (lo2 hi2 : Nat) (vd : Value) (dl : List Wea) (w : World) (c : Cs) (hc : Hid (c = caseOf false ms ts dl)) (hj : JobAt lo hi w vm vt ms ts) (h2 : hi <= w.heap.size) (hd : Sl weaEnc 6 lo2 hi2 w vd dl) (h3 : hi2 <= w.heap.size) (hok : JobOk ms ts) (hn : dl.length <= 400) :
  Calls Tryz.prog 22 #[.agg #[.func (.func 41) #[] #[], .func (.func 42) #[] #[], vm, vt, vd]] w (TimesP c ts.length w) := by
 have F1 : Bun w [] w := Bun.nil _
 obtain ⟨hms, hts, haf⟩ := hj
 have hm_ms := hms.len
 unfold maxLen at hm_ms
 obtain ⟨aM, cM, rfl⟩ := hms.any
 replace F1 := F1.sl0 hms h2 rfl
 clear hms
 have hm_ts := hts.len
 unfold maxLen at hm_ts
 obtain ⟨aT, cT, rfl⟩ := hts.any
 replace F1 := F1.sl0 hts h2 rfl
 clear hts
 replace F1 := F1.non0 (rafs lo hi ts) haf (fun _ h_ => Nat.lt_of_lt_of_le h_.2 h2) rfl rfl
 clear haf
 have hm_ds := hd.len
 unfold maxLen at hm_ds
 obtain ⟨aD, cD, rfl⟩ := hd.any
 replace F1 := F1.sl0 hd h3 rfl
 clear hd
 have HOK := lhd hok
 have HCO : Hid (CsOk c) := lhd (hc.out ▸ caseOk hok hn)
 have HND : Hid (c.past = 24 * (dl.length : Int) + 1) := lhd (by rw [hc.out]; rfl)
 have HFR := lhd (fun i => (HCO.out.fr i).1)
 have hnt := hok.nt
 clear hok
 go_enter Tryz.func22, Tryz.ntmps22
 go_wp2_with fail
 replace F1 := F1.new 69 #[.func (.func 41) #[] #[], .func (.func 42) #[] #[], .slice aM ms.length cM, .slice aT ts.length cT, .slice aD dl.length cD] (n := w.heap.size) (by simp)
 replace F1 := F1.nilrow intEnc 3 1
 replace F1 := F1.nilrow intEnc 3 1
 (skip)
 obtain ⟨HI9_, HI90⟩ : ∃ I : RelT, I = (fun t ds wr => ∃ (k : Nat) (v1 v2 : Value) (op : Int), t 1 = .pointer (some ⟨w.heap.size, 0, none⟩) /\ t 2 = v1 /\ t 3 = v2 /\ t 4 = .int .i64 op /\ t 13 = .slice aT ts.length cT /\ t 14 = .int .i64 (ts.length : Int) /\ t 15 = .int .i64 (k : Int) /\ k <= ts.length /\ Hid (c.opn k = op) /\ (0 <= op /\ op <= 24 * (dl.length : Int) + 1) /\ ds = [] /\ w.heap.size <= wr.heap.size /\ Bun w [rown intEnc 3 1 w.heap.size v2 (enL c k), rown intEnc 3 1 w.heap.size v1 (bgL c k), rbox w.heap.size 69 #[.func (.func 41) #[] #[], .func (.func 42) #[] #[], .slice aM ms.length cM, .slice aT ts.length cT, .slice aD dl.length cD], rsl weaEnc 6 lo2 hi2 (.slice aD dl.length cD) dl, rafs lo hi ts, rsl tskEnc 8 lo hi (.slice aT ts.length cT) ts, rsl mchEnc 3 lo hi (.slice aM ms.length cM) ms] wr) := ⟨_, rfl⟩
 have HI9 := lhd HI90
 clear HI90
 refine wp_loopS 79 rfl HI9_ (fun t wr => ts.length - (intOf (t 15)).toNat) ?atStart1 ?round1
 case round1 =>
  intro t ds wr hHid
  rw [HI9.out] at hHid
  obtain ⟨k, v1, v2, op, e1, e2, e3, e4, e13, e14, e15, hrel⟩ := hHid
  have e := rgJ979 t
  (try dsimp only at e)
  rw [e1, e2, e3, e4, e13, e14, e15] at e
  rw [e]
  simp only [e15]
  clear e e1 e2 e3 e4 e13 e14 e15
  obtain ⟨hk, hop, hopb, rfl, hs11, hF10⟩ := hrel
  clear F1
  obtain ⟨w12, rfl⟩ : ∃ x_ : World, x_ = wr := ⟨_, rfl⟩
  by_cases c13 : (k : Int) < (ts.length : Int)
  ·
   have c13H := lhd c13
   obtain ⟨x14, o15, e_⟩ := Sl.addr (hF10.s 5 rfl) (by omega)
   subst e_
   obtain ⟨z, hz16_⟩ : ∃ z_, ts[k]? = some z_ := ⟨_, List.getElem?_eq_getElem (by omega)⟩
   have hz16 := lhd hz16_
   clear hz16_
   obtain ⟨a_z, c_z, hav_z, hcap_z, hsl_z⟩ := Afs.open (hF10.at 4 rfl : Afs lo hi _ ts) hz16.out
   have HAV_z := lhd hav_z
   clear hav_z
   have F17 := hF10.more 4 (rsl intEnc 1 lo hi (.slice a_z z.af.length c_z) z.af) rfl rfl rfl (fun _ h_ => h_) hsl_z
   clear hF10
   have hm_z := (F17.s 0 rfl).len
   unfold maxLen at hm_z
   obtain ⟨ez1, ez2, ez3, ez4, ez5⟩ := caseb hc hz16.out
   have HZT := lhd (HOK.out.to_ k z hz16.out)
   have HE1 := lhd ez1
   clear ez1
   have HE2 := lhd ez2
   clear ez2
   have HE3 := lhd ez3
   clear ez3
   have HE4 := lhd ez4
   clear ez4
   have HE5 := lhd ez5
   clear ez5
   have hzf := HZT.out.fr
   have hzw := HZT.out.wa
   have b18 := F17.bx5 3 rfl
   have ge19 : World.cell? _ ⟨x14, o15 + k * 8, none⟩ = some (.int .i64 z.m) := (Sl.cells (F17.at 6 rfl) hz16.out 0 _ rfl)
   have gl20 := cell_lt ge19
   have ge21 : World.cell? _ ⟨x14, o15 + k * 8 + 1, none⟩ = some (.int .i64 z.ho.lo) := (Sl.cells (F17.at 6 rfl) hz16.out 1 _ rfl)
   have ge22 : World.cell? _ ⟨x14, o15 + k * 8 + 2, none⟩ = some (.int .i64 z.ho.hi) := (Sl.cells (F17.at 6 rfl) hz16.out 2 _ rfl)
   have ge23 : World.cell? _ ⟨x14, o15 + k * 8 + 3, none⟩ = some (.int .i64 z.wa.lo) := (Sl.cells (F17.at 6 rfl) hz16.out 3 _ rfl)
   have ge24 : World.cell? _ ⟨x14, o15 + k * 8 + 4, none⟩ = some (.int .i64 z.wa.hi) := (Sl.cells (F17.at 6 rfl) hz16.out 4 _ rfl)
   have ge25 : World.cell? _ ⟨x14, o15 + k * 8 + 5, none⟩ = some (.int .i64 z.fr.lo) := (Sl.cells (F17.at 6 rfl) hz16.out 5 _ rfl)
   have ge26 : World.cell? _ ⟨x14, o15 + k * 8 + 6, none⟩ = some (.int .i64 z.fr.hi) := (Sl.cells (F17.at 6 rfl) hz16.out 6 _ rfl)
   have ge27 : World.cell? _ ⟨x14, o15 + k * 8 + 7, none⟩ = some (.slice a_z z.af.length c_z) := (HAV_z.out ▸ (Sl.cells (F17.at 6 rfl) hz16.out 7 _ rfl))
   go_wp2_with fail
   clear b18 ge19 gl20 ge21 ge22 ge23 ge24 ge25 ge26 ge27
   replace F17 := F17.new 34 #[.int .i64 z.m, .int .i64 z.ho.lo, .int .i64 z.ho.hi, .int .i64 z.wa.lo, .int .i64 z.wa.hi, .int .i64 z.fr.lo, .int .i64 z.fr.hi, .slice a_z z.af.length c_z] (n := w12.heap.size) (by simp)
   refine (pickb_n _ _ _).mono ?_
   rintro e w31 ⟨rfl, hg29⟩
   have hg29s := hg29.size
   (try simp at hg29s)
   replace F17 := F17.gn hg29
   clear hg29
   have b33 := F17.bx8 0 rfl
   go_wp2_with fail
   clear b33
   obtain ⟨HI34_, HI340⟩ : ∃ I : RelT, I = (fun t ds wr => ∃ (j : Nat) (x : Int), t 1 = .pointer (some ⟨w.heap.size, 0, none⟩) /\ t 2 = v1 /\ t 3 = v2 /\ t 4 = .int .i64 op /\ t 5 = .int .i64 (k : Int) /\ t 6 = .pointer (some ⟨w12.heap.size, 0, none⟩) /\ t 7 = .int .i64 x /\ t 13 = .slice (some ⟨x14, o15, none⟩) ts.length cT /\ t 14 = .int .i64 (ts.length : Int) /\ t 15 = .int .i64 (k : Int) /\ t 27 = .slice a_z z.af.length c_z /\ t 28 = .int .i64 (z.af.length : Int) /\ t 29 = .int .i64 (j : Int) /\ j <= z.af.length /\ Hid (c.aft (c.plan k) (c.fr k) (z.af.take j) = x) /\ (0 <= x /\ x <= 14000) /\ ds = [] /\ w31.heap.size <= wr.heap.size /\ Bun w [rbox w12.heap.size 34 #[.int .i64 z.m, .int .i64 z.ho.lo, .int .i64 z.ho.hi, .int .i64 z.wa.lo, .int .i64 z.wa.hi, .int .i64 z.fr.lo, .int .i64 z.fr.hi, .slice a_z z.af.length c_z], rsl intEnc 1 lo hi (.slice a_z z.af.length c_z) z.af, rown intEnc 3 1 w.heap.size v2 (enL c k), rown intEnc 3 1 w.heap.size v1 (bgL c k), rbox w.heap.size 69 #[.func (.func 41) #[] #[], .func (.func 42) #[] #[], .slice aM ms.length cM, .slice (some ⟨x14, o15, none⟩) ts.length cT, .slice aD dl.length cD], rsl weaEnc 6 lo2 hi2 (.slice aD dl.length cD) dl, rafs lo hi ts, rsl tskEnc 8 lo hi (.slice (some ⟨x14, o15, none⟩) ts.length cT) ts, rsl mchEnc 3 lo hi (.slice aM ms.length cM) ms] wr) := ⟨_, rfl⟩
   have HI34 := lhd HI340
   clear HI340
   refine wp_loopS 79 rfl HI34_ (fun t wr => z.af.length - (intOf (t 29)).toNat) ?atStart2 ?round2
   case round2 =>
    intro t ds wr hHid
    rw [HI34.out] at hHid
    obtain ⟨j, x, e1, e2, e3, e4, e5, e6, e7, e13, e14, e15, e27, e28, e29, hrel⟩ := hHid
    have e := rgJ979 t
    (try dsimp only at e)
    rw [e1, e2, e3, e4, e5, e6, e7, e13, e14, e15, e27, e28, e29] at e
    rw [e]
    simp only [e29]
    clear e e1 e2 e3 e4 e5 e6 e7 e13 e14 e15 e27 e28 e29
    obtain ⟨hj2, hax, hx0, rfl, hs36, hF35⟩ := hrel
    clear F17
    obtain ⟨w37, rfl⟩ : ∃ x_ : World, x_ = wr := ⟨_, rfl⟩
    by_cases c38 : (j : Int) < (z.af.length : Int)
    ·
     have c38H := lhd c38
     obtain ⟨x39, o40, e_⟩ := Sl.addr (hF35.s 1 rfl) (by omega)
     subst e_
     obtain ⟨y, hz41_⟩ : ∃ z_, z.af[j]? = some z_ := ⟨_, List.getElem?_eq_getElem (by omega)⟩
     have hz41 := lhd hz41_
     clear hz41_
     have hya := HZT.out.af y (List.mem_of_getElem? hz41.out)
     obtain ⟨yn, rfl⟩ : ∃ n : Nat, y = (n : Int) := ⟨y.toNat, by omega⟩
     have heb := c.en_bd HFR.out (n := k) (k := yn) (by omega)
     rw [HND.out] at heb
     have hwy := HCO.out.wa yn
     have b42 := hF35.bx5 4 rfl
     have ge43 : World.cell? _ ⟨x39, o40 + j, none⟩ = some (.int .i64 (yn : Int)) := (by have h_ := Sl.cells (hF35.at 1 rfl) hz41.out 0 _ rfl; simpa using h_)
     have gl44 := cell_lt ge43
     go_wp2_with fail
     clear b42 ge43 gl44
     refine (readyb_e lo hi _ ms ts dl _ _ _ k yn (.func (.func 42) #[] #[]) (.slice aM ms.length cM) (.slice aD dl.length cD) c hc _ (hF35.s 7 rfl) (by first | omega | (simp; omega)) (Own.sl (hF35.o 2 rfl) (fun _ => rfl)) (Nat.le_refl _) HOK.out hn (by omega) (by omega)).mono ?_
     rintro e w47 ⟨rfl, hg45⟩
     have hg45s := hg45.size
     (try simp at hg45s)
     have F48 := hF35.gn hg45
     clear hF35
     clear hg45
     go_wp2_with fail
     (first | refine ⟨by kernel_rfl, ?_, ?_⟩ | refine ⟨rfl, ?_, ?_⟩ | refine ⟨?_, ?_⟩)
     · rw [HI34.out]; exact ⟨j + 1, max x (enAt (c.plan k) yn + c.wa yn), by (iterate 12 refine ⟨by kernel_rfl, ?_⟩); exact ⟨(by show Value.int .i64 ((j : Int) + 1) = _; simp), (by omega), (lhd (by rw [Cs.aft_take c hz41.out, hax.out])), (by omega), (by first | rfl | simp), (by first | omega | (simp; done) | (simp; omega)), F48⟩⟩
     · simp [slot, intOf]; omega
    have c38H := lhd c38
    have c38a := dec_f c38
    have HA : Hid (c.aft (c.plan k) (c.fr k) (c.af k) = x) := lhd (by rw [← hax.out, List.take_of_length_le (by omega), HE5.out])
    have hbf := c.bef_bd (c.m k) k
    have b49 := hF35.bx5 4 rfl
    go_wp2_with fail
    clear b49
    refine (before_e lo hi _ ts k z (.func (.func 41) #[] #[]) (.func (.func 42) #[] #[]) (.slice aM ms.length cM) (.slice aD dl.length cD) false ms dl c hc _ (hF35.s 7 rfl) (by first | omega | (simp; omega)) hz16.out).mono ?_
    rintro e w52 ⟨rfl, hg50⟩
    have hg50s := hg50.size
    (try simp at hg50s)
    have F53 := hF35.gn hg50
    clear hF35
    clear hg50
    by_cases c54 : 0 <= c.bef (c.m k) k
    ·
     have c54H := lhd c54
     have hqb := c.en_bd HFR.out (n := k) (k := (c.bef (c.m k) k).toNat) (by omega)
     rw [HND.out] at hqb
     obtain ⟨q, hq_⟩ : ∃ q, enAt (c.plan k) (c.bef (c.m k) k).toNat = q := ⟨_, rfl⟩
     have HQ := lhd hq_
     rw [hq_] at hqb
     clear hq_
     have HBG := lhd ((bgn_of (k := k) (HFR.out k) HA.out c54 HQ.out).trans (by rw [HND.out]))
     obtain ⟨gE55, cE56, e_⟩ := Own.opn (F53.o 2 rfl) (by rw [enL_len]; omega)
     subst e_
     rw [enL_len] at *
     have gE55l := (F53.ltAt 2 rfl _ rfl).1
     have hz57 : Hid ((enL c k)[(c.bef (c.m k) k).toNat]? = some q) := lhd ((enL_get c (n := k) (k := (c.bef (c.m k) k).toNat) (by omega)).trans (by rw [HQ.out]))
     have b58 := F53.bx5 4 rfl
     have ge59 : World.cell? _ ⟨gE55, (c.bef (c.m k) k).toNat, none⟩ = some (.int .i64 q) := (by simpa using (Own.sl (F53.o 2 rfl) (fun _ => rfl)).cells hz57.out 0 _ rfl)
     have gl60 := cell_lt ge59
     go_wp2_with fail
     clear b58 ge59 gl60
     refine (past_c (.func (.func 41) #[] #[]) (.func (.func 42) #[] #[]) (.slice aM ms.length cM) (.slice (some ⟨x14, o15, none⟩) ts.length cT) aD cD _ _ (by omega)).mono ?_
     rintro e w63 ⟨rfl, hg61⟩
     have hg61s := hg61.size
     (try simp at hg61s)
     replace F53 := F53.gn hg61
     clear hg61
     go_wp2_with fail
     replace F53 := F53.drew
     refine ru_begin (fun W => C5 W w.heap.size (.func (.func 41) #[] #[]) (.func (.func 42) #[] #[]) (.slice aM ms.length cM) (.slice (some ⟨x14, o15, none⟩) ts.length cT) (.slice aD dl.length cD) /\ C8 W w12.heap.size (.int .i64 z.m) (.int .i64 z.ho.lo) (.int .i64 z.ho.hi) (.int .i64 z.wa.lo) (.int .i64 z.wa.hi) (.int .i64 z.fr.lo) (.int .i64 z.fr.hi) (.slice a_z z.af.length c_z)) 12 (by kernel_rfl) ?_ ?_
     · exact ⟨F53.c5 4, F53.c8 0⟩
     obtain ⟨wd67, hwd_⟩ : ∃ x : World, w63.drew = x := ⟨_, rfl⟩
     rw [hwd_] at F53 ⊢
     have wd67s : w63.heap.size <= wd67.heap.size := by rw [← hwd_]; exact Nat.le_refl _
     clear hwd_
     have hS66 := (And.intro (F53.c5 4) (F53.c8 0))
     refine ru_t 0 [] ?_
     refine ru_t 1 [] ?_
     refine ru_t 4 [] ?_
     refine ru_t 5 [] ?_
     refine ru_t 6 [] ?_
     refine ru_t 7 [] ?_
     (try simp only [lpX])
     clear hS66
     refine ru_o 2 fun K hK => ?_
     go_simp
     replace F53 := F53.new 3 #[.int .i64 (min (max x q) (24 * (dl.length : Int) + 1))] (n := wd67.heap.size) (by simp)
     refine ru_back hK (by exact ⟨F53.c5 5, F53.c8 1⟩) (fun _ => ?_)
     clear hK K
     (try simp only [lpX])
     refine ru_o 3 fun K hK => ?_
     refine step_app _ okInt rfl _ _ rfl w.heap.size v1 (bgL c k) [min (max x q) (24 * (dl.length : Int) + 1)] rfl (by exact (F53.o 4 rfl)) ⟨_, 0, none⟩ 1 1 rfl rfl (by decide) (news_of (F53.b 0 rfl)) (k + 1) (by rw [bgL_len]) (by omega) (by first | omega | (simp; omega)) _ rfl ?_
     intro g69 cap70 w71 hp72
     have hp72s := hp72.gb.size
     (try simp at hp72s)
     have F73 := (F53.front 4 rfl rfl).app hp72 (Nat.le_refl _)
     clear F53
     refine ru_back hK (by exact ⟨F73.c5 5, F73.c8 2⟩) (fun _ => ?_)
     clear hK K
     (try simp only [lpX])
     refine ru_o 8 fun K hK => ?_
     go_simp
     refine (endb_e lo hi _ _ (.slice a_z z.af.length c_z) ms ts lo2 hi2 _ dl k z (min (max x q) (24 * (dl.length : Int) + 1)) c hc _ (F73.s 9 rfl) (by first | omega | (simp; omega)) (F73.s 6 rfl) (by first | omega | (simp; omega)) HOK.out hn hz16.out (by omega) (by omega)).mono ?_
     rintro e w76 ⟨rfl, hg74⟩
     have hg74s := hg74.size
     (try simp at hg74s)
     replace F73 := F73.gn hg74
     refine ru_back hK (by exact ⟨F73.c5 5, F73.c8 2⟩) (fun _ => ?_)
     clear hK K
     (try simp only [lpX])
     refine ru_o 9 fun K hK => ?_
     go_simp
     replace F73 := F73.new 3 #[.int .i64 (c.fin (c.m k) (min (max x q) (24 * (dl.length : Int) + 1)) (c.ho k))] (n := w76.heap.size) (by simp)
     refine ru_back hK (by exact ⟨F73.c5 6, F73.c8 3⟩) (fun _ => ?_)
     clear hK K
     (try simp only [lpX])
     refine ru_o 10 fun K hK => ?_
     refine step_app _ okInt rfl _ _ rfl w.heap.size (.slice (some ⟨gE55, 0, none⟩) k cE56) (enL c k) [c.fin (c.m k) (min (max x q) (24 * (dl.length : Int) + 1)) (c.ho k)] rfl (by exact (F73.o 5 rfl)) ⟨_, 0, none⟩ 1 1 rfl rfl (by decide) (news_of (F73.b 0 rfl)) (k + 1) (by rw [enL_len]) (by omega) (by first | omega | (simp; omega)) _ rfl ?_
     intro g79 cap80 w81 hp82
     have hp82s := hp82.gb.size
     (try simp at hp82s)
     have F83 := (F73.front 5 rfl rfl).app hp82 (Nat.le_refl _)
     clear F73
     refine ru_back hK (by exact ⟨F83.c5 6, F83.c8 4⟩) (fun _ => ?_)
     clear hK K
     (try simp only [lpX])
     refine ru_p 11 ?_
     (try simp only [lpX])
     refine ru_o 12 fun K hK => ?_
     go_simp
     refine ru_back_late hK (by kernel_rfl) ?_
     clear hK K
     (try simp only [lpX])
     refine ru_done (by kernel_rfl) ?_
     have Fn_ := (((F83.drop 1 rfl).drop 2 rfl).drop 2 rfl)
     (try dsimp only [lpF, lpG] at Fn_)
     obtain ⟨w84, hx85, F87, hxs86⟩ := Fn_.name
     (try simp at hxs86)
     rw [hx85]
     clear hx85 F83 Fn_
     go_wp2_with fail
     replace F87 := F87.drew
     refine ru_begin (fun W => C5 W w.heap.size (.func (.func 41) #[] #[]) (.func (.func 42) #[] #[]) (.slice aM ms.length cM) (.slice (some ⟨x14, o15, none⟩) ts.length cT) (.slice aD dl.length cD)) 9 (by kernel_rfl) ?_ ?_
     · exact (F87.c5 3)
     obtain ⟨wd90, hwd_⟩ : ∃ x : World, w84.drew = x := ⟨_, rfl⟩
     rw [hwd_] at F87 ⊢
     have wd90s : w84.heap.size <= wd90.heap.size := by rw [← hwd_]; exact Nat.le_refl _
     clear hwd_
     have hS89 := (F87.c5 3)
     refine ru_t 0 [] ?_
     refine ru_t 1 [] ?_
     refine ru_t 3 [] ?_
     refine ru_t 4 [] ?_
     refine ru_t 5 [] ?_
     (try simp only [lpX])
     clear hS89
     refine ru_o 2 fun K hK => ?_
     go_simp
     refine (past_c (.func (.func 41) #[] #[]) (.func (.func 42) #[] #[]) (.slice aM ms.length cM) (.slice (some ⟨x14, o15, none⟩) ts.length cT) aD cD _ _ (by omega)).mono ?_
     rintro e w93 ⟨rfl, hg91⟩
     have hg91s := hg91.size
     (try simp at hg91s)
     replace F87 := F87.gn hg91
     refine ru_back hK (by exact (F87.c5 3)) (fun _ => ?_)
     clear hK K
     (try simp only [lpX])
     refine ru_o 6 fun K hK => ?_
     go_simp
     refine (readyb_e lo hi _ ms ts dl _ _ _ (k + 1) k (.func (.func 42) #[] #[]) (.slice aM ms.length cM) (.slice aD dl.length cD) c hc _ (F87.s 6 rfl) (by first | omega | (simp; omega)) (Own.sl (Own.cast (F87.o 0 rfl) (enL_next HBG.out)) (fun _ => rfl)) (Nat.le_refl _) HOK.out hn (Nat.lt_succ_self _) (by omega)).mono ?_
     rintro e w97 ⟨rfl, hg95⟩
     have hg95s := hg95.size
     (try simp at hg95s)
     replace F87 := F87.gn hg95
     refine ru_back hK (by exact (F87.c5 3)) (fun _ => ?_)
     clear hK K
     (try simp only [lpX])
     refine ru_p 7 ?_
     (try simp only [lpX])
     refine ru_p 8 ?_
     (try simp only [lpX])
     refine ru_o 9 fun K hK => ?_
     go_simp
     refine ru_back_late hK (by kernel_rfl) ?_
     clear hK K
     (try simp only [lpX])
     refine ru_done (by kernel_rfl) ?_
     have Fn_ := F87
     (try dsimp only [lpF, lpG] at Fn_)
     obtain ⟨w99, hx100, F102, hxs101⟩ := Fn_.name
     (try simp at hxs101)
     rw [hx100]
     clear hx100 F87 Fn_
     go_wp2_with fail
     have F103 : Bun w [rown intEnc 3 1 w.heap.size (.slice (some ⟨g79, 0, none⟩) (k + 1) cap80) (enL c k ++ [c.fin (c.m k) (min (max x q) (24 * (dl.length : Int) + 1)) (c.ho k)]), rown intEnc 3 1 w.heap.size (.slice (some ⟨g69, 0, none⟩) (k + 1) cap70) (bgL c k ++ [min (max x q) (24 * (dl.length : Int) + 1)]), rbox w.heap.size 69 #[.func (.func 41) #[] #[], .func (.func 42) #[] #[], .slice aM ms.length cM, .slice (some ⟨x14, o15, none⟩) ts.length cT, .slice aD dl.length cD], rsl weaEnc 6 lo2 hi2 (.slice aD dl.length cD) dl, rafs lo hi ts, rsl tskEnc 8 lo hi (.slice (some ⟨x14, o15, none⟩) ts.length cT) ts, rsl mchEnc 3 lo hi (.slice aM ms.length cM) ms] _ := F102.pick [0, 1, 3, 4, 5, 6, 7] (by decide) rfl
     clear F102
     (first | refine ⟨by kernel_rfl, ?_, ?_⟩ | refine ⟨rfl, ?_, ?_⟩ | refine ⟨?_, ?_⟩)
     · rw [HI9.out]; exact ⟨k + 1, _, _, max op (min (24 * (dl.length : Int) + 1) (enAt (c.plan (k + 1)) k + c.wa k)), by (iterate 6 refine ⟨by kernel_rfl, ?_⟩); exact ⟨(by show Value.int .i64 ((k : Int) + 1) = _; simp), (by omega), (lhd (by rw [Cs.opn, hop.out, HND.out])), (by omega), (by first | rfl | simp), (by first | omega | (simp; done) | (simp; omega)), (by rw [bgL_succ, enL_succ, HBG.out]; exact F103)⟩⟩
     · simp [slot, intOf]; omega
    have c54H := lhd c54
    have c54a := dec_f c54
    have HBG := lhd ((bgn_of' (k := k) (HFR.out k) HA.out c54).trans (by rw [HND.out]))
    have b104 := F53.bx5 4 rfl
    go_wp2_with fail
    clear b104
    refine (past_c (.func (.func 41) #[] #[]) (.func (.func 42) #[] #[]) (.slice aM ms.length cM) (.slice (some ⟨x14, o15, none⟩) ts.length cT) aD cD _ _ (by omega)).mono ?_
    rintro e w107 ⟨rfl, hg105⟩
    have hg105s := hg105.size
    (try simp at hg105s)
    replace F53 := F53.gn hg105
    clear hg105
    go_wp2_with fail
    replace F53 := F53.drew
    refine ru_begin (fun W => C5 W w.heap.size (.func (.func 41) #[] #[]) (.func (.func 42) #[] #[]) (.slice aM ms.length cM) (.slice (some ⟨x14, o15, none⟩) ts.length cT) (.slice aD dl.length cD) /\ C8 W w12.heap.size (.int .i64 z.m) (.int .i64 z.ho.lo) (.int .i64 z.ho.hi) (.int .i64 z.wa.lo) (.int .i64 z.wa.hi) (.int .i64 z.fr.lo) (.int .i64 z.fr.hi) (.slice a_z z.af.length c_z)) 12 (by kernel_rfl) ?_ ?_
    · exact ⟨F53.c5 4, F53.c8 0⟩
    obtain ⟨wd111, hwd_⟩ : ∃ x : World, w107.drew = x := ⟨_, rfl⟩
    rw [hwd_] at F53 ⊢
    have wd111s : w107.heap.size <= wd111.heap.size := by rw [← hwd_]; exact Nat.le_refl _
    clear hwd_
    have hS110 := (And.intro (F53.c5 4) (F53.c8 0))
    refine ru_t 0 [] ?_
    refine ru_t 1 [] ?_
    refine ru_t 4 [] ?_
    refine ru_t 5 [] ?_
    refine ru_t 6 [] ?_
    refine ru_t 7 [] ?_
    (try simp only [lpX])
    clear hS110
    refine ru_o 2 fun K hK => ?_
    go_simp
    replace F53 := F53.new 3 #[.int .i64 (min x (24 * (dl.length : Int) + 1))] (n := wd111.heap.size) (by simp)
    refine ru_back hK (by exact ⟨F53.c5 5, F53.c8 1⟩) (fun _ => ?_)
    clear hK K
    (try simp only [lpX])
    refine ru_o 3 fun K hK => ?_
    refine step_app _ okInt rfl _ _ rfl w.heap.size v1 (bgL c k) [(min x (24 * (dl.length : Int) + 1))] rfl (by exact (F53.o 4 rfl)) ⟨_, 0, none⟩ 1 1 rfl rfl (by decide) (news_of (F53.b 0 rfl)) (k + 1) (by rw [bgL_len]) (by omega) (by first | omega | (simp; omega)) _ rfl ?_
    intro g113 cap114 w115 hp116
    have hp116s := hp116.gb.size
    (try simp at hp116s)
    have F117 := (F53.front 4 rfl rfl).app hp116 (Nat.le_refl _)
    clear F53
    refine ru_back hK (by exact ⟨F117.c5 5, F117.c8 2⟩) (fun _ => ?_)
    clear hK K
    (try simp only [lpX])
    refine ru_o 8 fun K hK => ?_
    go_simp
    refine (endb_e lo hi _ _ (.slice a_z z.af.length c_z) ms ts lo2 hi2 _ dl k z (min x (24 * (dl.length : Int) + 1)) c hc _ (F117.s 9 rfl) (by first | omega | (simp; omega)) (F117.s 6 rfl) (by first | omega | (simp; omega)) HOK.out hn hz16.out (by omega) (by omega)).mono ?_
    rintro e w120 ⟨rfl, hg118⟩
    have hg118s := hg118.size
    (try simp at hg118s)
    replace F117 := F117.gn hg118
    refine ru_back hK (by exact ⟨F117.c5 5, F117.c8 2⟩) (fun _ => ?_)
    clear hK K
    (try simp only [lpX])
    refine ru_o 9 fun K hK => ?_
    go_simp
    replace F117 := F117.new 3 #[.int .i64 (c.fin (c.m k) (min x (24 * (dl.length : Int) + 1)) (c.ho k))] (n := w120.heap.size) (by simp)
    refine ru_back hK (by exact ⟨F117.c5 6, F117.c8 3⟩) (fun _ => ?_)
    clear hK K
    (try simp only [lpX])
    refine ru_o 10 fun K hK => ?_
    refine step_app _ okInt rfl _ _ rfl w.heap.size v2 (enL c k) [c.fin (c.m k) (min x (24 * (dl.length : Int) + 1)) (c.ho k)] rfl (by exact (F117.o 5 rfl)) ⟨_, 0, none⟩ 1 1 rfl rfl (by decide) (news_of (F117.b 0 rfl)) (k + 1) (by rw [enL_len]) (by omega) (by first | omega | (simp; omega)) _ rfl ?_
    intro g123 cap124 w125 hp126
    have hp126s := hp126.gb.size
    (try simp at hp126s)
    have F127 := (F117.front 5 rfl rfl).app hp126 (Nat.le_refl _)
    clear F117
    refine ru_back hK (by exact ⟨F127.c5 6, F127.c8 4⟩) (fun _ => ?_)
    clear hK K
    (try simp only [lpX])
    refine ru_p 11 ?_
    (try simp only [lpX])
    refine ru_o 12 fun K hK => ?_
    go_simp
    refine ru_back_late hK (by kernel_rfl) ?_
    clear hK K
    (try simp only [lpX])
    refine ru_done (by kernel_rfl) ?_
    have Fn_ := (((F127.drop 1 rfl).drop 2 rfl).drop 2 rfl)
    (try dsimp only [lpF, lpG] at Fn_)
    obtain ⟨w128, hx129, F131, hxs130⟩ := Fn_.name
    (try simp at hxs130)
    rw [hx129]
    clear hx129 F127 Fn_
    go_wp2_with fail
    replace F131 := F131.drew
    refine ru_begin (fun W => C5 W w.heap.size (.func (.func 41) #[] #[]) (.func (.func 42) #[] #[]) (.slice aM ms.length cM) (.slice (some ⟨x14, o15, none⟩) ts.length cT) (.slice aD dl.length cD)) 9 (by kernel_rfl) ?_ ?_
    · exact (F131.c5 3)
    obtain ⟨wd134, hwd_⟩ : ∃ x : World, w128.drew = x := ⟨_, rfl⟩
    rw [hwd_] at F131 ⊢
    have wd134s : w128.heap.size <= wd134.heap.size := by rw [← hwd_]; exact Nat.le_refl _
    clear hwd_
    have hS133 := (F131.c5 3)
    refine ru_t 0 [] ?_
    refine ru_t 1 [] ?_
    refine ru_t 3 [] ?_
    refine ru_t 4 [] ?_
    refine ru_t 5 [] ?_
    (try simp only [lpX])
    clear hS133
    refine ru_o 2 fun K hK => ?_
    go_simp
    refine (past_c (.func (.func 41) #[] #[]) (.func (.func 42) #[] #[]) (.slice aM ms.length cM) (.slice (some ⟨x14, o15, none⟩) ts.length cT) aD cD _ _ (by omega)).mono ?_
    rintro e w137 ⟨rfl, hg135⟩
    have hg135s := hg135.size
    (try simp at hg135s)
    replace F131 := F131.gn hg135
    refine ru_back hK (by exact (F131.c5 3)) (fun _ => ?_)
    clear hK K
    (try simp only [lpX])
    refine ru_o 6 fun K hK => ?_
    go_simp
    refine (readyb_e lo hi _ ms ts dl _ _ _ (k + 1) k (.func (.func 42) #[] #[]) (.slice aM ms.length cM) (.slice aD dl.length cD) c hc _ (F131.s 6 rfl) (by first | omega | (simp; omega)) (Own.sl (Own.cast (F131.o 0 rfl) (enL_next HBG.out)) (fun _ => rfl)) (Nat.le_refl _) HOK.out hn (Nat.lt_succ_self _) (by omega)).mono ?_
    rintro e w141 ⟨rfl, hg139⟩
    have hg139s := hg139.size
    (try simp at hg139s)
    replace F131 := F131.gn hg139
    refine ru_back hK (by exact (F131.c5 3)) (fun _ => ?_)
    clear hK K
    (try simp only [lpX])
    refine ru_p 7 ?_
    (try simp only [lpX])
    refine ru_p 8 ?_
    (try simp only [lpX])
    refine ru_o 9 fun K hK => ?_
    go_simp
    refine ru_back_late hK (by kernel_rfl) ?_
    clear hK K
    (try simp only [lpX])
    refine ru_done (by kernel_rfl) ?_
    have Fn_ := F131
    (try dsimp only [lpF, lpG] at Fn_)
    obtain ⟨w143, hx144, F146, hxs145⟩ := Fn_.name
    (try simp at hxs145)
    rw [hx144]
    clear hx144 F131 Fn_
    go_wp2_with fail
    have F147 : Bun w [rown intEnc 3 1 w.heap.size (.slice (some ⟨g123, 0, none⟩) (k + 1) cap124) (enL c k ++ [c.fin (c.m k) (min x (24 * (dl.length : Int) + 1)) (c.ho k)]), rown intEnc 3 1 w.heap.size (.slice (some ⟨g113, 0, none⟩) (k + 1) cap114) (bgL c k ++ [(min x (24 * (dl.length : Int) + 1))]), rbox w.heap.size 69 #[.func (.func 41) #[] #[], .func (.func 42) #[] #[], .slice aM ms.length cM, .slice (some ⟨x14, o15, none⟩) ts.length cT, .slice aD dl.length cD], rsl weaEnc 6 lo2 hi2 (.slice aD dl.length cD) dl, rafs lo hi ts, rsl tskEnc 8 lo hi (.slice (some ⟨x14, o15, none⟩) ts.length cT) ts, rsl mchEnc 3 lo hi (.slice aM ms.length cM) ms] _ := F146.pick [0, 1, 3, 4, 5, 6, 7] (by decide) rfl
    clear F146
    (first | refine ⟨by kernel_rfl, ?_, ?_⟩ | refine ⟨rfl, ?_, ?_⟩ | refine ⟨?_, ?_⟩)
    · rw [HI9.out]; exact ⟨k + 1, _, _, max op (min (24 * (dl.length : Int) + 1) (enAt (c.plan (k + 1)) k + c.wa k)), by (iterate 6 refine ⟨by kernel_rfl, ?_⟩); exact ⟨(by show Value.int .i64 ((k : Int) + 1) = _; simp), (by omega), (lhd (by rw [Cs.opn, hop.out, HND.out])), (by omega), (by first | rfl | simp), (by first | omega | (simp; done) | (simp; omega)), (by rw [bgL_succ, enL_succ, HBG.out]; exact F147)⟩⟩
    · simp [slot, intOf]; omega
   case atStart2 =>
    rw [HI34.out]
    exact ⟨0, z.fr.lo, by (iterate 12 refine ⟨by kernel_rfl, ?_⟩); exact ⟨rfl, Nat.zero_le _, (lhd HE4.out.symm), (by omega), rfl, (by first | exact Nat.le_refl _ | omega | (simp; done) | (simp; omega)), F17⟩⟩
  have c13H := lhd c13
  have c13a := dec_f c13
  go_wp2_with fail
  exact bodyPost_ret (v := .tuple #[v1, v2, .int .i64 op]) (by simp [results, Tryz.results22, go_sem]) rfl ((by obtain ⟨a1, c1, e1, s1⟩ := Own.slN (hF10.o 1 rfl) (fun _ => rfl) (bgL_len _ _); obtain ⟨a2, c2, e2, s2⟩ := Own.slN (hF10.o 0 rfl) (fun _ => rfl) (enL_len _ _); subst e1 e2; obtain rfl : k = ts.length := (by omega); exact ⟨a1, a2, c1, c2, _, _, (by rw [hop.out]), ⟨Nat.le_refl _, Nat.le_refl _⟩, s1, s2, hF10.gb⟩))
 case atStart1 =>
  rw [HI9.out]
  exact ⟨0, _, _, 0, (by kernel_rfl), rfl, rfl, rfl, (by kernel_rfl), (by kernel_rfl), rfl, Nat.zero_le _, (lhd rfl), (by omega), rfl, (by first | exact Nat.le_refl _ | omega | (simp; done) | (simp; omega)), F1⟩
set_option maxHeartbeats 16000000 in
theorem timesw_c (lo hi : Nat) (vm vt : Value) (ms : List Mch) (ts : List Tsk) (lo2 hi2 : Nat) (vd : Value) (dl : List Wea) (w : World) (c : Cs) (hc : Hid (c = caseOf true ms ts dl)) (hj : JobAt lo hi w vm vt ms ts) (h2 : hi <= w.heap.size) (hd : Sl weaEnc 6 lo2 hi2 w vd dl) (h3 : hi2 <= w.heap.size) (hok : JobOk ms ts) (hn : dl.length <= 400) :
  Calls Tryz.prog 22 #[.agg #[.func (.func 43) #[] #[], .func (.func 44) #[] #[], vm, vt, vd]] w (TimesP c ts.length w) := by
 have F1 : Bun w [] w := Bun.nil _
 obtain ⟨hms, hts, haf⟩ := hj
 have hm_ms := hms.len
 unfold maxLen at hm_ms
 obtain ⟨aM, cM, rfl⟩ := hms.any
 replace F1 := F1.sl0 hms h2 rfl
 clear hms
 have hm_ts := hts.len
 unfold maxLen at hm_ts
 obtain ⟨aT, cT, rfl⟩ := hts.any
 replace F1 := F1.sl0 hts h2 rfl
 clear hts
 replace F1 := F1.non0 (rafs lo hi ts) haf (fun _ h_ => Nat.lt_of_lt_of_le h_.2 h2) rfl rfl
 clear haf
 have hm_ds := hd.len
 unfold maxLen at hm_ds
 obtain ⟨aD, cD, rfl⟩ := hd.any
 replace F1 := F1.sl0 hd h3 rfl
 clear hd
 have HOK := lhd hok
 have HCO : Hid (CsOk c) := lhd (hc.out ▸ caseOk hok hn)
 have HND : Hid (c.past = 24 * (dl.length : Int) + 1) := lhd (by rw [hc.out]; rfl)
 have HFR := lhd (fun i => (HCO.out.fr i).1)
 have hnt := hok.nt
 clear hok
 go_enter Tryz.func22, Tryz.ntmps22
 go_wp2_with fail
 replace F1 := F1.new 69 #[.func (.func 43) #[] #[], .func (.func 44) #[] #[], .slice aM ms.length cM, .slice aT ts.length cT, .slice aD dl.length cD] (n := w.heap.size) (by simp)
 replace F1 := F1.nilrow intEnc 3 1
 replace F1 := F1.nilrow intEnc 3 1
 (skip)
 obtain ⟨HI9_, HI90⟩ : ∃ I : RelT, I = (fun t ds wr => ∃ (k : Nat) (v1 v2 : Value) (op : Int), t 1 = .pointer (some ⟨w.heap.size, 0, none⟩) /\ t 2 = v1 /\ t 3 = v2 /\ t 4 = .int .i64 op /\ t 13 = .slice aT ts.length cT /\ t 14 = .int .i64 (ts.length : Int) /\ t 15 = .int .i64 (k : Int) /\ k <= ts.length /\ Hid (c.opn k = op) /\ (0 <= op /\ op <= 24 * (dl.length : Int) + 1) /\ ds = [] /\ w.heap.size <= wr.heap.size /\ Bun w [rown intEnc 3 1 w.heap.size v2 (enL c k), rown intEnc 3 1 w.heap.size v1 (bgL c k), rbox w.heap.size 69 #[.func (.func 43) #[] #[], .func (.func 44) #[] #[], .slice aM ms.length cM, .slice aT ts.length cT, .slice aD dl.length cD], rsl weaEnc 6 lo2 hi2 (.slice aD dl.length cD) dl, rafs lo hi ts, rsl tskEnc 8 lo hi (.slice aT ts.length cT) ts, rsl mchEnc 3 lo hi (.slice aM ms.length cM) ms] wr) := ⟨_, rfl⟩
 have HI9 := lhd HI90
 clear HI90
 refine wp_loopS 79 rfl HI9_ (fun t wr => ts.length - (intOf (t 15)).toNat) ?atStart3 ?round3
 case round3 =>
  intro t ds wr hHid
  rw [HI9.out] at hHid
  obtain ⟨k, v1, v2, op, e1, e2, e3, e4, e13, e14, e15, hrel⟩ := hHid
  have e := rgJ979 t
  (try dsimp only at e)
  rw [e1, e2, e3, e4, e13, e14, e15] at e
  rw [e]
  simp only [e15]
  clear e e1 e2 e3 e4 e13 e14 e15
  obtain ⟨hk, hop, hopb, rfl, hs11, hF10⟩ := hrel
  clear F1
  obtain ⟨w12, rfl⟩ : ∃ x_ : World, x_ = wr := ⟨_, rfl⟩
  by_cases c13 : (k : Int) < (ts.length : Int)
  ·
   have c13H := lhd c13
   obtain ⟨x14, o15, e_⟩ := Sl.addr (hF10.s 5 rfl) (by omega)
   subst e_
   obtain ⟨z, hz16_⟩ : ∃ z_, ts[k]? = some z_ := ⟨_, List.getElem?_eq_getElem (by omega)⟩
   have hz16 := lhd hz16_
   clear hz16_
   obtain ⟨a_z, c_z, hav_z, hcap_z, hsl_z⟩ := Afs.open (hF10.at 4 rfl : Afs lo hi _ ts) hz16.out
   have HAV_z := lhd hav_z
   clear hav_z
   have F17 := hF10.more 4 (rsl intEnc 1 lo hi (.slice a_z z.af.length c_z) z.af) rfl rfl rfl (fun _ h_ => h_) hsl_z
   clear hF10
   have hm_z := (F17.s 0 rfl).len
   unfold maxLen at hm_z
   obtain ⟨ez1, ez2, ez3, ez4, ez5⟩ := casew hc hz16.out
   have HZT := lhd (HOK.out.to_ k z hz16.out)
   have HE1 := lhd ez1
   clear ez1
   have HE2 := lhd ez2
   clear ez2
   have HE3 := lhd ez3
   clear ez3
   have HE4 := lhd ez4
   clear ez4
   have HE5 := lhd ez5
   clear ez5
   have hzf := HZT.out.fr
   have hzw := HZT.out.wa
   have b18 := F17.bx5 3 rfl
   have ge19 : World.cell? _ ⟨x14, o15 + k * 8, none⟩ = some (.int .i64 z.m) := (Sl.cells (F17.at 6 rfl) hz16.out 0 _ rfl)
   have gl20 := cell_lt ge19
   have ge21 : World.cell? _ ⟨x14, o15 + k * 8 + 1, none⟩ = some (.int .i64 z.ho.lo) := (Sl.cells (F17.at 6 rfl) hz16.out 1 _ rfl)
   have ge22 : World.cell? _ ⟨x14, o15 + k * 8 + 2, none⟩ = some (.int .i64 z.ho.hi) := (Sl.cells (F17.at 6 rfl) hz16.out 2 _ rfl)
   have ge23 : World.cell? _ ⟨x14, o15 + k * 8 + 3, none⟩ = some (.int .i64 z.wa.lo) := (Sl.cells (F17.at 6 rfl) hz16.out 3 _ rfl)
   have ge24 : World.cell? _ ⟨x14, o15 + k * 8 + 4, none⟩ = some (.int .i64 z.wa.hi) := (Sl.cells (F17.at 6 rfl) hz16.out 4 _ rfl)
   have ge25 : World.cell? _ ⟨x14, o15 + k * 8 + 5, none⟩ = some (.int .i64 z.fr.lo) := (Sl.cells (F17.at 6 rfl) hz16.out 5 _ rfl)
   have ge26 : World.cell? _ ⟨x14, o15 + k * 8 + 6, none⟩ = some (.int .i64 z.fr.hi) := (Sl.cells (F17.at 6 rfl) hz16.out 6 _ rfl)
   have ge27 : World.cell? _ ⟨x14, o15 + k * 8 + 7, none⟩ = some (.slice a_z z.af.length c_z) := (HAV_z.out ▸ (Sl.cells (F17.at 6 rfl) hz16.out 7 _ rfl))
   go_wp2_with fail
   clear b18 ge19 gl20 ge21 ge22 ge23 ge24 ge25 ge26 ge27
   replace F17 := F17.new 34 #[.int .i64 z.m, .int .i64 z.ho.lo, .int .i64 z.ho.hi, .int .i64 z.wa.lo, .int .i64 z.wa.hi, .int .i64 z.fr.lo, .int .i64 z.fr.hi, .slice a_z z.af.length c_z] (n := w12.heap.size) (by simp)
   refine (pickw_n _ _ _).mono ?_
   rintro e w31 ⟨rfl, hg29⟩
   have hg29s := hg29.size
   (try simp at hg29s)
   replace F17 := F17.gn hg29
   clear hg29
   have b33 := F17.bx8 0 rfl
   go_wp2_with fail
   clear b33
   obtain ⟨HI34_, HI340⟩ : ∃ I : RelT, I = (fun t ds wr => ∃ (j : Nat) (x : Int), t 1 = .pointer (some ⟨w.heap.size, 0, none⟩) /\ t 2 = v1 /\ t 3 = v2 /\ t 4 = .int .i64 op /\ t 5 = .int .i64 (k : Int) /\ t 6 = .pointer (some ⟨w12.heap.size, 0, none⟩) /\ t 7 = .int .i64 x /\ t 13 = .slice (some ⟨x14, o15, none⟩) ts.length cT /\ t 14 = .int .i64 (ts.length : Int) /\ t 15 = .int .i64 (k : Int) /\ t 27 = .slice a_z z.af.length c_z /\ t 28 = .int .i64 (z.af.length : Int) /\ t 29 = .int .i64 (j : Int) /\ j <= z.af.length /\ Hid (c.aft (c.plan k) (c.fr k) (z.af.take j) = x) /\ (0 <= x /\ x <= 14000) /\ ds = [] /\ w31.heap.size <= wr.heap.size /\ Bun w [rbox w12.heap.size 34 #[.int .i64 z.m, .int .i64 z.ho.lo, .int .i64 z.ho.hi, .int .i64 z.wa.lo, .int .i64 z.wa.hi, .int .i64 z.fr.lo, .int .i64 z.fr.hi, .slice a_z z.af.length c_z], rsl intEnc 1 lo hi (.slice a_z z.af.length c_z) z.af, rown intEnc 3 1 w.heap.size v2 (enL c k), rown intEnc 3 1 w.heap.size v1 (bgL c k), rbox w.heap.size 69 #[.func (.func 43) #[] #[], .func (.func 44) #[] #[], .slice aM ms.length cM, .slice (some ⟨x14, o15, none⟩) ts.length cT, .slice aD dl.length cD], rsl weaEnc 6 lo2 hi2 (.slice aD dl.length cD) dl, rafs lo hi ts, rsl tskEnc 8 lo hi (.slice (some ⟨x14, o15, none⟩) ts.length cT) ts, rsl mchEnc 3 lo hi (.slice aM ms.length cM) ms] wr) := ⟨_, rfl⟩
   have HI34 := lhd HI340
   clear HI340
   refine wp_loopS 79 rfl HI34_ (fun t wr => z.af.length - (intOf (t 29)).toNat) ?atStart4 ?round4
   case round4 =>
    intro t ds wr hHid
    rw [HI34.out] at hHid
    obtain ⟨j, x, e1, e2, e3, e4, e5, e6, e7, e13, e14, e15, e27, e28, e29, hrel⟩ := hHid
    have e := rgJ979 t
    (try dsimp only at e)
    rw [e1, e2, e3, e4, e5, e6, e7, e13, e14, e15, e27, e28, e29] at e
    rw [e]
    simp only [e29]
    clear e e1 e2 e3 e4 e5 e6 e7 e13 e14 e15 e27 e28 e29
    obtain ⟨hj2, hax, hx0, rfl, hs36, hF35⟩ := hrel
    clear F17
    obtain ⟨w37, rfl⟩ : ∃ x_ : World, x_ = wr := ⟨_, rfl⟩
    by_cases c38 : (j : Int) < (z.af.length : Int)
    ·
     have c38H := lhd c38
     obtain ⟨x39, o40, e_⟩ := Sl.addr (hF35.s 1 rfl) (by omega)
     subst e_
     obtain ⟨y, hz41_⟩ : ∃ z_, z.af[j]? = some z_ := ⟨_, List.getElem?_eq_getElem (by omega)⟩
     have hz41 := lhd hz41_
     clear hz41_
     have hya := HZT.out.af y (List.mem_of_getElem? hz41.out)
     obtain ⟨yn, rfl⟩ : ∃ n : Nat, y = (n : Int) := ⟨y.toNat, by omega⟩
     have heb := c.en_bd HFR.out (n := k) (k := yn) (by omega)
     rw [HND.out] at heb
     have hwy := HCO.out.wa yn
     have b42 := hF35.bx5 4 rfl
     have ge43 : World.cell? _ ⟨x39, o40 + j, none⟩ = some (.int .i64 (yn : Int)) := (by have h_ := Sl.cells (hF35.at 1 rfl) hz41.out 0 _ rfl; simpa using h_)
     have gl44 := cell_lt ge43
     go_wp2_with fail
     clear b42 ge43 gl44
     refine (readyw_e lo hi _ ms ts dl _ _ _ k yn (.func (.func 44) #[] #[]) (.slice aM ms.length cM) (.slice aD dl.length cD) c hc _ (hF35.s 7 rfl) (by first | omega | (simp; omega)) (Own.sl (hF35.o 2 rfl) (fun _ => rfl)) (Nat.le_refl _) HOK.out hn (by omega) (by omega)).mono ?_
     rintro e w47 ⟨rfl, hg45⟩
     have hg45s := hg45.size
     (try simp at hg45s)
     have F48 := hF35.gn hg45
     clear hF35
     clear hg45
     go_wp2_with fail
     (first | refine ⟨by kernel_rfl, ?_, ?_⟩ | refine ⟨rfl, ?_, ?_⟩ | refine ⟨?_, ?_⟩)
     · rw [HI34.out]; exact ⟨j + 1, max x (enAt (c.plan k) yn + c.wa yn), by (iterate 12 refine ⟨by kernel_rfl, ?_⟩); exact ⟨(by show Value.int .i64 ((j : Int) + 1) = _; simp), (by omega), (lhd (by rw [Cs.aft_take c hz41.out, hax.out])), (by omega), (by first | rfl | simp), (by first | omega | (simp; done) | (simp; omega)), F48⟩⟩
     · simp [slot, intOf]; omega
    have c38H := lhd c38
    have c38a := dec_f c38
    have HA : Hid (c.aft (c.plan k) (c.fr k) (c.af k) = x) := lhd (by rw [← hax.out, List.take_of_length_le (by omega), HE5.out])
    have hbf := c.bef_bd (c.m k) k
    have b49 := hF35.bx5 4 rfl
    go_wp2_with fail
    clear b49
    refine (before_e lo hi _ ts k z (.func (.func 43) #[] #[]) (.func (.func 44) #[] #[]) (.slice aM ms.length cM) (.slice aD dl.length cD) true ms dl c hc _ (hF35.s 7 rfl) (by first | omega | (simp; omega)) hz16.out).mono ?_
    rintro e w52 ⟨rfl, hg50⟩
    have hg50s := hg50.size
    (try simp at hg50s)
    have F53 := hF35.gn hg50
    clear hF35
    clear hg50
    by_cases c54 : 0 <= c.bef (c.m k) k
    ·
     have c54H := lhd c54
     have hqb := c.en_bd HFR.out (n := k) (k := (c.bef (c.m k) k).toNat) (by omega)
     rw [HND.out] at hqb
     obtain ⟨q, hq_⟩ : ∃ q, enAt (c.plan k) (c.bef (c.m k) k).toNat = q := ⟨_, rfl⟩
     have HQ := lhd hq_
     rw [hq_] at hqb
     clear hq_
     have HBG := lhd ((bgn_of (k := k) (HFR.out k) HA.out c54 HQ.out).trans (by rw [HND.out]))
     obtain ⟨gE55, cE56, e_⟩ := Own.opn (F53.o 2 rfl) (by rw [enL_len]; omega)
     subst e_
     rw [enL_len] at *
     have gE55l := (F53.ltAt 2 rfl _ rfl).1
     have hz57 : Hid ((enL c k)[(c.bef (c.m k) k).toNat]? = some q) := lhd ((enL_get c (n := k) (k := (c.bef (c.m k) k).toNat) (by omega)).trans (by rw [HQ.out]))
     have b58 := F53.bx5 4 rfl
     have ge59 : World.cell? _ ⟨gE55, (c.bef (c.m k) k).toNat, none⟩ = some (.int .i64 q) := (by simpa using (Own.sl (F53.o 2 rfl) (fun _ => rfl)).cells hz57.out 0 _ rfl)
     have gl60 := cell_lt ge59
     go_wp2_with fail
     clear b58 ge59 gl60
     refine (past_c (.func (.func 43) #[] #[]) (.func (.func 44) #[] #[]) (.slice aM ms.length cM) (.slice (some ⟨x14, o15, none⟩) ts.length cT) aD cD _ _ (by omega)).mono ?_
     rintro e w63 ⟨rfl, hg61⟩
     have hg61s := hg61.size
     (try simp at hg61s)
     replace F53 := F53.gn hg61
     clear hg61
     go_wp2_with fail
     replace F53 := F53.drew
     refine ru_begin (fun W => C5 W w.heap.size (.func (.func 43) #[] #[]) (.func (.func 44) #[] #[]) (.slice aM ms.length cM) (.slice (some ⟨x14, o15, none⟩) ts.length cT) (.slice aD dl.length cD) /\ C8 W w12.heap.size (.int .i64 z.m) (.int .i64 z.ho.lo) (.int .i64 z.ho.hi) (.int .i64 z.wa.lo) (.int .i64 z.wa.hi) (.int .i64 z.fr.lo) (.int .i64 z.fr.hi) (.slice a_z z.af.length c_z)) 12 (by kernel_rfl) ?_ ?_
     · exact ⟨F53.c5 4, F53.c8 0⟩
     obtain ⟨wd67, hwd_⟩ : ∃ x : World, w63.drew = x := ⟨_, rfl⟩
     rw [hwd_] at F53 ⊢
     have wd67s : w63.heap.size <= wd67.heap.size := by rw [← hwd_]; exact Nat.le_refl _
     clear hwd_
     have hS66 := (And.intro (F53.c5 4) (F53.c8 0))
     refine ru_t 0 [] ?_
     refine ru_t 1 [] ?_
     refine ru_t 4 [] ?_
     refine ru_t 5 [] ?_
     refine ru_t 6 [] ?_
     refine ru_t 7 [] ?_
     (try simp only [lpX])
     clear hS66
     refine ru_o 2 fun K hK => ?_
     go_simp
     replace F53 := F53.new 3 #[.int .i64 (min (max x q) (24 * (dl.length : Int) + 1))] (n := wd67.heap.size) (by simp)
     refine ru_back hK (by exact ⟨F53.c5 5, F53.c8 1⟩) (fun _ => ?_)
     clear hK K
     (try simp only [lpX])
     refine ru_o 3 fun K hK => ?_
     refine step_app _ okInt rfl _ _ rfl w.heap.size v1 (bgL c k) [min (max x q) (24 * (dl.length : Int) + 1)] rfl (by exact (F53.o 4 rfl)) ⟨_, 0, none⟩ 1 1 rfl rfl (by decide) (news_of (F53.b 0 rfl)) (k + 1) (by rw [bgL_len]) (by omega) (by first | omega | (simp; omega)) _ rfl ?_
     intro g69 cap70 w71 hp72
     have hp72s := hp72.gb.size
     (try simp at hp72s)
     have F73 := (F53.front 4 rfl rfl).app hp72 (Nat.le_refl _)
     clear F53
     refine ru_back hK (by exact ⟨F73.c5 5, F73.c8 2⟩) (fun _ => ?_)
     clear hK K
     (try simp only [lpX])
     refine ru_o 8 fun K hK => ?_
     go_simp
     refine (endw_e lo hi _ _ (.slice a_z z.af.length c_z) ms ts lo2 hi2 _ dl k z (min (max x q) (24 * (dl.length : Int) + 1)) c hc _ (F73.s 9 rfl) (by first | omega | (simp; omega)) (F73.s 6 rfl) (by first | omega | (simp; omega)) HOK.out hn hz16.out (by omega) (by omega)).mono ?_
     rintro e w76 ⟨rfl, hg74⟩
     have hg74s := hg74.size
     (try simp at hg74s)
     replace F73 := F73.gn hg74
     refine ru_back hK (by exact ⟨F73.c5 5, F73.c8 2⟩) (fun _ => ?_)
     clear hK K
     (try simp only [lpX])
     refine ru_o 9 fun K hK => ?_
     go_simp
     replace F73 := F73.new 3 #[.int .i64 (c.fin (c.m k) (min (max x q) (24 * (dl.length : Int) + 1)) (c.ho k))] (n := w76.heap.size) (by simp)
     refine ru_back hK (by exact ⟨F73.c5 6, F73.c8 3⟩) (fun _ => ?_)
     clear hK K
     (try simp only [lpX])
     refine ru_o 10 fun K hK => ?_
     refine step_app _ okInt rfl _ _ rfl w.heap.size (.slice (some ⟨gE55, 0, none⟩) k cE56) (enL c k) [c.fin (c.m k) (min (max x q) (24 * (dl.length : Int) + 1)) (c.ho k)] rfl (by exact (F73.o 5 rfl)) ⟨_, 0, none⟩ 1 1 rfl rfl (by decide) (news_of (F73.b 0 rfl)) (k + 1) (by rw [enL_len]) (by omega) (by first | omega | (simp; omega)) _ rfl ?_
     intro g79 cap80 w81 hp82
     have hp82s := hp82.gb.size
     (try simp at hp82s)
     have F83 := (F73.front 5 rfl rfl).app hp82 (Nat.le_refl _)
     clear F73
     refine ru_back hK (by exact ⟨F83.c5 6, F83.c8 4⟩) (fun _ => ?_)
     clear hK K
     (try simp only [lpX])
     refine ru_p 11 ?_
     (try simp only [lpX])
     refine ru_o 12 fun K hK => ?_
     go_simp
     refine ru_back_late hK (by kernel_rfl) ?_
     clear hK K
     (try simp only [lpX])
     refine ru_done (by kernel_rfl) ?_
     have Fn_ := (((F83.drop 1 rfl).drop 2 rfl).drop 2 rfl)
     (try dsimp only [lpF, lpG] at Fn_)
     obtain ⟨w84, hx85, F87, hxs86⟩ := Fn_.name
     (try simp at hxs86)
     rw [hx85]
     clear hx85 F83 Fn_
     go_wp2_with fail
     replace F87 := F87.drew
     refine ru_begin (fun W => C5 W w.heap.size (.func (.func 43) #[] #[]) (.func (.func 44) #[] #[]) (.slice aM ms.length cM) (.slice (some ⟨x14, o15, none⟩) ts.length cT) (.slice aD dl.length cD)) 9 (by kernel_rfl) ?_ ?_
     · exact (F87.c5 3)
     obtain ⟨wd90, hwd_⟩ : ∃ x : World, w84.drew = x := ⟨_, rfl⟩
     rw [hwd_] at F87 ⊢
     have wd90s : w84.heap.size <= wd90.heap.size := by rw [← hwd_]; exact Nat.le_refl _
     clear hwd_
     have hS89 := (F87.c5 3)
     refine ru_t 0 [] ?_
     refine ru_t 1 [] ?_
     refine ru_t 3 [] ?_
     refine ru_t 4 [] ?_
     refine ru_t 5 [] ?_
     (try simp only [lpX])
     clear hS89
     refine ru_o 2 fun K hK => ?_
     go_simp
     refine (past_c (.func (.func 43) #[] #[]) (.func (.func 44) #[] #[]) (.slice aM ms.length cM) (.slice (some ⟨x14, o15, none⟩) ts.length cT) aD cD _ _ (by omega)).mono ?_
     rintro e w93 ⟨rfl, hg91⟩
     have hg91s := hg91.size
     (try simp at hg91s)
     replace F87 := F87.gn hg91
     refine ru_back hK (by exact (F87.c5 3)) (fun _ => ?_)
     clear hK K
     (try simp only [lpX])
     refine ru_o 6 fun K hK => ?_
     go_simp
     refine (readyw_e lo hi _ ms ts dl _ _ _ (k + 1) k (.func (.func 44) #[] #[]) (.slice aM ms.length cM) (.slice aD dl.length cD) c hc _ (F87.s 6 rfl) (by first | omega | (simp; omega)) (Own.sl (Own.cast (F87.o 0 rfl) (enL_next HBG.out)) (fun _ => rfl)) (Nat.le_refl _) HOK.out hn (Nat.lt_succ_self _) (by omega)).mono ?_
     rintro e w97 ⟨rfl, hg95⟩
     have hg95s := hg95.size
     (try simp at hg95s)
     replace F87 := F87.gn hg95
     refine ru_back hK (by exact (F87.c5 3)) (fun _ => ?_)
     clear hK K
     (try simp only [lpX])
     refine ru_p 7 ?_
     (try simp only [lpX])
     refine ru_p 8 ?_
     (try simp only [lpX])
     refine ru_o 9 fun K hK => ?_
     go_simp
     refine ru_back_late hK (by kernel_rfl) ?_
     clear hK K
     (try simp only [lpX])
     refine ru_done (by kernel_rfl) ?_
     have Fn_ := F87
     (try dsimp only [lpF, lpG] at Fn_)
     obtain ⟨w99, hx100, F102, hxs101⟩ := Fn_.name
     (try simp at hxs101)
     rw [hx100]
     clear hx100 F87 Fn_
     go_wp2_with fail
     have F103 : Bun w [rown intEnc 3 1 w.heap.size (.slice (some ⟨g79, 0, none⟩) (k + 1) cap80) (enL c k ++ [c.fin (c.m k) (min (max x q) (24 * (dl.length : Int) + 1)) (c.ho k)]), rown intEnc 3 1 w.heap.size (.slice (some ⟨g69, 0, none⟩) (k + 1) cap70) (bgL c k ++ [min (max x q) (24 * (dl.length : Int) + 1)]), rbox w.heap.size 69 #[.func (.func 43) #[] #[], .func (.func 44) #[] #[], .slice aM ms.length cM, .slice (some ⟨x14, o15, none⟩) ts.length cT, .slice aD dl.length cD], rsl weaEnc 6 lo2 hi2 (.slice aD dl.length cD) dl, rafs lo hi ts, rsl tskEnc 8 lo hi (.slice (some ⟨x14, o15, none⟩) ts.length cT) ts, rsl mchEnc 3 lo hi (.slice aM ms.length cM) ms] _ := F102.pick [0, 1, 3, 4, 5, 6, 7] (by decide) rfl
     clear F102
     (first | refine ⟨by kernel_rfl, ?_, ?_⟩ | refine ⟨rfl, ?_, ?_⟩ | refine ⟨?_, ?_⟩)
     · rw [HI9.out]; exact ⟨k + 1, _, _, max op (min (24 * (dl.length : Int) + 1) (enAt (c.plan (k + 1)) k + c.wa k)), by (iterate 6 refine ⟨by kernel_rfl, ?_⟩); exact ⟨(by show Value.int .i64 ((k : Int) + 1) = _; simp), (by omega), (lhd (by rw [Cs.opn, hop.out, HND.out])), (by omega), (by first | rfl | simp), (by first | omega | (simp; done) | (simp; omega)), (by rw [bgL_succ, enL_succ, HBG.out]; exact F103)⟩⟩
     · simp [slot, intOf]; omega
    have c54H := lhd c54
    have c54a := dec_f c54
    have HBG := lhd ((bgn_of' (k := k) (HFR.out k) HA.out c54).trans (by rw [HND.out]))
    have b104 := F53.bx5 4 rfl
    go_wp2_with fail
    clear b104
    refine (past_c (.func (.func 43) #[] #[]) (.func (.func 44) #[] #[]) (.slice aM ms.length cM) (.slice (some ⟨x14, o15, none⟩) ts.length cT) aD cD _ _ (by omega)).mono ?_
    rintro e w107 ⟨rfl, hg105⟩
    have hg105s := hg105.size
    (try simp at hg105s)
    replace F53 := F53.gn hg105
    clear hg105
    go_wp2_with fail
    replace F53 := F53.drew
    refine ru_begin (fun W => C5 W w.heap.size (.func (.func 43) #[] #[]) (.func (.func 44) #[] #[]) (.slice aM ms.length cM) (.slice (some ⟨x14, o15, none⟩) ts.length cT) (.slice aD dl.length cD) /\ C8 W w12.heap.size (.int .i64 z.m) (.int .i64 z.ho.lo) (.int .i64 z.ho.hi) (.int .i64 z.wa.lo) (.int .i64 z.wa.hi) (.int .i64 z.fr.lo) (.int .i64 z.fr.hi) (.slice a_z z.af.length c_z)) 12 (by kernel_rfl) ?_ ?_
    · exact ⟨F53.c5 4, F53.c8 0⟩
    obtain ⟨wd111, hwd_⟩ : ∃ x : World, w107.drew = x := ⟨_, rfl⟩
    rw [hwd_] at F53 ⊢
    have wd111s : w107.heap.size <= wd111.heap.size := by rw [← hwd_]; exact Nat.le_refl _
    clear hwd_
    have hS110 := (And.intro (F53.c5 4) (F53.c8 0))
    refine ru_t 0 [] ?_
    refine ru_t 1 [] ?_
    refine ru_t 4 [] ?_
    refine ru_t 5 [] ?_
    refine ru_t 6 [] ?_
    refine ru_t 7 [] ?_
    (try simp only [lpX])
    clear hS110
    refine ru_o 2 fun K hK => ?_
    go_simp
    replace F53 := F53.new 3 #[.int .i64 (min x (24 * (dl.length : Int) + 1))] (n := wd111.heap.size) (by simp)
    refine ru_back hK (by exact ⟨F53.c5 5, F53.c8 1⟩) (fun _ => ?_)
    clear hK K
    (try simp only [lpX])
    refine ru_o 3 fun K hK => ?_
    refine step_app _ okInt rfl _ _ rfl w.heap.size v1 (bgL c k) [(min x (24 * (dl.length : Int) + 1))] rfl (by exact (F53.o 4 rfl)) ⟨_, 0, none⟩ 1 1 rfl rfl (by decide) (news_of (F53.b 0 rfl)) (k + 1) (by rw [bgL_len]) (by omega) (by first | omega | (simp; omega)) _ rfl ?_
    intro g113 cap114 w115 hp116
    have hp116s := hp116.gb.size
    (try simp at hp116s)
    have F117 := (F53.front 4 rfl rfl).app hp116 (Nat.le_refl _)
    clear F53
    refine ru_back hK (by exact ⟨F117.c5 5, F117.c8 2⟩) (fun _ => ?_)
    clear hK K
    (try simp only [lpX])
    refine ru_o 8 fun K hK => ?_
    go_simp
    refine (endw_e lo hi _ _ (.slice a_z z.af.length c_z) ms ts lo2 hi2 _ dl k z (min x (24 * (dl.length : Int) + 1)) c hc _ (F117.s 9 rfl) (by first | omega | (simp; omega)) (F117.s 6 rfl) (by first | omega | (simp; omega)) HOK.out hn hz16.out (by omega) (by omega)).mono ?_
    rintro e w120 ⟨rfl, hg118⟩
    have hg118s := hg118.size
    (try simp at hg118s)
    replace F117 := F117.gn hg118
    refine ru_back hK (by exact ⟨F117.c5 5, F117.c8 2⟩) (fun _ => ?_)
    clear hK K
    (try simp only [lpX])
    refine ru_o 9 fun K hK => ?_
    go_simp
    replace F117 := F117.new 3 #[.int .i64 (c.fin (c.m k) (min x (24 * (dl.length : Int) + 1)) (c.ho k))] (n := w120.heap.size) (by simp)
    refine ru_back hK (by exact ⟨F117.c5 6, F117.c8 3⟩) (fun _ => ?_)
    clear hK K
    (try simp only [lpX])
    refine ru_o 10 fun K hK => ?_
    refine step_app _ okInt rfl _ _ rfl w.heap.size v2 (enL c k) [c.fin (c.m k) (min x (24 * (dl.length : Int) + 1)) (c.ho k)] rfl (by exact (F117.o 5 rfl)) ⟨_, 0, none⟩ 1 1 rfl rfl (by decide) (news_of (F117.b 0 rfl)) (k + 1) (by rw [enL_len]) (by omega) (by first | omega | (simp; omega)) _ rfl ?_
    intro g123 cap124 w125 hp126
    have hp126s := hp126.gb.size
    (try simp at hp126s)
    have F127 := (F117.front 5 rfl rfl).app hp126 (Nat.le_refl _)
    clear F117
    refine ru_back hK (by exact ⟨F127.c5 6, F127.c8 4⟩) (fun _ => ?_)
    clear hK K
    (try simp only [lpX])
    refine ru_p 11 ?_
    (try simp only [lpX])
    refine ru_o 12 fun K hK => ?_
    go_simp
    refine ru_back_late hK (by kernel_rfl) ?_
    clear hK K
    (try simp only [lpX])
    refine ru_done (by kernel_rfl) ?_
    have Fn_ := (((F127.drop 1 rfl).drop 2 rfl).drop 2 rfl)
    (try dsimp only [lpF, lpG] at Fn_)
    obtain ⟨w128, hx129, F131, hxs130⟩ := Fn_.name
    (try simp at hxs130)
    rw [hx129]
    clear hx129 F127 Fn_
    go_wp2_with fail
    replace F131 := F131.drew
    refine ru_begin (fun W => C5 W w.heap.size (.func (.func 43) #[] #[]) (.func (.func 44) #[] #[]) (.slice aM ms.length cM) (.slice (some ⟨x14, o15, none⟩) ts.length cT) (.slice aD dl.length cD)) 9 (by kernel_rfl) ?_ ?_
    · exact (F131.c5 3)
    obtain ⟨wd134, hwd_⟩ : ∃ x : World, w128.drew = x := ⟨_, rfl⟩
    rw [hwd_] at F131 ⊢
    have wd134s : w128.heap.size <= wd134.heap.size := by rw [← hwd_]; exact Nat.le_refl _
    clear hwd_
    have hS133 := (F131.c5 3)
    refine ru_t 0 [] ?_
    refine ru_t 1 [] ?_
    refine ru_t 3 [] ?_
    refine ru_t 4 [] ?_
    refine ru_t 5 [] ?_
    (try simp only [lpX])
    clear hS133
    refine ru_o 2 fun K hK => ?_
    go_simp
    refine (past_c (.func (.func 43) #[] #[]) (.func (.func 44) #[] #[]) (.slice aM ms.length cM) (.slice (some ⟨x14, o15, none⟩) ts.length cT) aD cD _ _ (by omega)).mono ?_
    rintro e w137 ⟨rfl, hg135⟩
    have hg135s := hg135.size
    (try simp at hg135s)
    replace F131 := F131.gn hg135
    refine ru_back hK (by exact (F131.c5 3)) (fun _ => ?_)
    clear hK K
    (try simp only [lpX])
    refine ru_o 6 fun K hK => ?_
    go_simp
    refine (readyw_e lo hi _ ms ts dl _ _ _ (k + 1) k (.func (.func 44) #[] #[]) (.slice aM ms.length cM) (.slice aD dl.length cD) c hc _ (F131.s 6 rfl) (by first | omega | (simp; omega)) (Own.sl (Own.cast (F131.o 0 rfl) (enL_next HBG.out)) (fun _ => rfl)) (Nat.le_refl _) HOK.out hn (Nat.lt_succ_self _) (by omega)).mono ?_
    rintro e w141 ⟨rfl, hg139⟩
    have hg139s := hg139.size
    (try simp at hg139s)
    replace F131 := F131.gn hg139
    refine ru_back hK (by exact (F131.c5 3)) (fun _ => ?_)
    clear hK K
    (try simp only [lpX])
    refine ru_p 7 ?_
    (try simp only [lpX])
    refine ru_p 8 ?_
    (try simp only [lpX])
    refine ru_o 9 fun K hK => ?_
    go_simp
    refine ru_back_late hK (by kernel_rfl) ?_
    clear hK K
    (try simp only [lpX])
    refine ru_done (by kernel_rfl) ?_
    have Fn_ := F131
    (try dsimp only [lpF, lpG] at Fn_)
    obtain ⟨w143, hx144, F146, hxs145⟩ := Fn_.name
    (try simp at hxs145)
    rw [hx144]
    clear hx144 F131 Fn_
    go_wp2_with fail
    have F147 : Bun w [rown intEnc 3 1 w.heap.size (.slice (some ⟨g123, 0, none⟩) (k + 1) cap124) (enL c k ++ [c.fin (c.m k) (min x (24 * (dl.length : Int) + 1)) (c.ho k)]), rown intEnc 3 1 w.heap.size (.slice (some ⟨g113, 0, none⟩) (k + 1) cap114) (bgL c k ++ [(min x (24 * (dl.length : Int) + 1))]), rbox w.heap.size 69 #[.func (.func 43) #[] #[], .func (.func 44) #[] #[], .slice aM ms.length cM, .slice (some ⟨x14, o15, none⟩) ts.length cT, .slice aD dl.length cD], rsl weaEnc 6 lo2 hi2 (.slice aD dl.length cD) dl, rafs lo hi ts, rsl tskEnc 8 lo hi (.slice (some ⟨x14, o15, none⟩) ts.length cT) ts, rsl mchEnc 3 lo hi (.slice aM ms.length cM) ms] _ := F146.pick [0, 1, 3, 4, 5, 6, 7] (by decide) rfl
    clear F146
    (first | refine ⟨by kernel_rfl, ?_, ?_⟩ | refine ⟨rfl, ?_, ?_⟩ | refine ⟨?_, ?_⟩)
    · rw [HI9.out]; exact ⟨k + 1, _, _, max op (min (24 * (dl.length : Int) + 1) (enAt (c.plan (k + 1)) k + c.wa k)), by (iterate 6 refine ⟨by kernel_rfl, ?_⟩); exact ⟨(by show Value.int .i64 ((k : Int) + 1) = _; simp), (by omega), (lhd (by rw [Cs.opn, hop.out, HND.out])), (by omega), (by first | rfl | simp), (by first | omega | (simp; done) | (simp; omega)), (by rw [bgL_succ, enL_succ, HBG.out]; exact F147)⟩⟩
    · simp [slot, intOf]; omega
   case atStart4 =>
    rw [HI34.out]
    exact ⟨0, z.fr.hi, by (iterate 12 refine ⟨by kernel_rfl, ?_⟩); exact ⟨rfl, Nat.zero_le _, (lhd HE4.out.symm), (by omega), rfl, (by first | exact Nat.le_refl _ | omega | (simp; done) | (simp; omega)), F17⟩⟩
  have c13H := lhd c13
  have c13a := dec_f c13
  go_wp2_with fail
  exact bodyPost_ret (v := .tuple #[v1, v2, .int .i64 op]) (by simp [results, Tryz.results22, go_sem]) rfl ((by obtain ⟨a1, c1, e1, s1⟩ := Own.slN (hF10.o 1 rfl) (fun _ => rfl) (bgL_len _ _); obtain ⟨a2, c2, e2, s2⟩ := Own.slN (hF10.o 0 rfl) (fun _ => rfl) (enL_len _ _); subst e1 e2; obtain rfl : k = ts.length := (by omega); exact ⟨a1, a2, c1, c2, _, _, (by rw [hop.out]), ⟨Nat.le_refl _, Nat.le_refl _⟩, s1, s2, hF10.gb⟩))
 case atStart3 =>
  rw [HI9.out]
  exact ⟨0, _, _, 0, (by kernel_rfl), rfl, rfl, rfl, (by kernel_rfl), (by kernel_rfl), rfl, Nat.zero_le _, (lhd rfl), (by omega), rfl, (by first | exact Nat.le_refl _ | omega | (simp; done) | (simp; omega)), F1⟩
end Go.Proofs.YtcoldeolmleeiaaGreat
