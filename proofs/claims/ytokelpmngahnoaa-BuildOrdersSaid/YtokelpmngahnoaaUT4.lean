/- build and its reference: jobs that are the same. -/
import Derived.Test.YtokelpmngahnoaaUJK
import Derived.Test.YtokelpmngahnoaaUJ10
import Derived.Test.YtokelpmngahnoaaUW2
import Derived.Test.YtokelpmngahnoaaUKC
set_option linter.unusedVariables false
set_option linter.unusedSimpArgs false
set_option linter.unnecessarySimpa false
namespace Go.Proofs.Ytokelpmngahnoaa
open Go.RowKit
set_option maxRecDepth 100000
attribute [local go_sem] Oper.semAt_some
theorem rgT494 (t : Nat -> Value) : ((List.range 94).map t).toArray = #[t 0, t 1, t 2, t 3, t 4, t 5, t 6, t 7, t 8, t 9, t 10, t 11, t 12, t 13, t 14, t 15, t 16, t 17, t 18, t 19, t 20, t 21, t 22, t 23, t 24, t 25, t 26, t 27, t 28, t 29, t 30, t 31, t 32, t 33, t 34, t 35, t 36, t 37, t 38, t 39, t 40, t 41, t 42, t 43, t 44, t 45, t 46, t 47, t 48, t 49, t 50, t 51, t 52, t 53, t 54, t 55, t 56, t 57, t 58, t 59, t 60, t 61, t 62, t 63, t 64, t 65, t 66, t 67, t 68, t 69, t 70, t 71, t 72, t 73, t 74, t 75, t 76, t 77, t 78, t 79, t 80, t 81, t 82, t 83, t 84, t 85, t 86, t 87, t 88, t 89, t 90, t 91, t 92, t 93] := rfl
theorem sameT_at {n k : Nat} {a b : List Tsk} {z : Tsk} (h : mixT n a b) (hz : b[k]? = some z) : ∃ v, a[k]? = some ⟨z.m, z.ho, z.wa, z.fr, z.af, v⟩ := by
 have hk : k < a.length := by rw [h.1]; exact (List.getElem?_eq_some_iff.1 hz).1
 have e := List.getElem?_eq_getElem hk
 obtain ⟨h1, h2, h3, h4, h5⟩ := (h.2.1 k _ z e hz).1
 refine ⟨(a[k]).av, ?_⟩
 rw [e]
 congr 1
 rw [← h1, ← h2, ← h3, ← h4, ← h5]
theorem tk_same {n : Nat} {a b : List Tsk} (h : mixT n a b) (i : Nat) : sameT (tk a i) (tk b i) := by
 rcases Nat.lt_or_ge i b.length with hi | hi
 ·
  have hz := List.getElem?_eq_getElem hi
  obtain ⟨v, hv⟩ := sameT_at h hz
  rw [tk_get hv, tk_get hz]
  exact ⟨rfl, rfl, rfl, rfl, rfl⟩
 unfold tk
 rw [List.getD_eq_getElem?_getD, List.getD_eq_getElem?_getD, List.getElem?_eq_none hi, List.getElem?_eq_none (by rw [h.1]; exact hi)]
 exact ⟨rfl, rfl, rfl, rfl, rfl⟩
theorem caseOf_same {n : Nat} {a b : List Tsk} (h : mixT n a b) (w : Bool) (ms : List Mch) (dl : List Wea) : caseOf w ms a dl = caseOf w ms b dl := by
 have hs := tk_same h
 unfold caseOf
 congr 1
 · funext i; rw [(hs i).2.1]
 · funext i; rw [(hs i).2.2.1]
 · funext i; rw [(hs i).2.2.2.1]
 · funext i; rw [(hs i).1]
 · funext i; rw [(hs i).2.2.2.2]
theorem tsksErr_same (nm : Int) : ∀ (i : Nat) (a b : List Tsk), a.length = b.length -> (∀ (k : Nat) (x y : Tsk), a[k]? = some x -> b[k]? = some y -> sameT x y) -> tsksErr nm i a = tsksErr nm i b
 | _, [], [], _, _ => rfl
 | _, [], _ :: _, h, _ => by simp at h
 | _, _ :: _, [], h, _ => by simp at h
 | i, x :: a, y :: b, h, hs => by
  obtain ⟨h1, h2, h3, h4, h5⟩ := hs 0 x y rfl rfl
  have e : tskErr nm i x = tskErr nm i y := by unfold tskErr; rw [h1, h2, h3, h4, h5]
  rw [tsksErr, tsksErr, e, tsksErr_same nm (i + 1) a b (by simpa using h) (fun k u v hu hv => hs (k + 1) u v (by simpa using hu) (by simpa using hv))]
theorem bothErr_same {n : Nat} {a b : List Tsk} (h : mixT n a b) (ms : List Mch) (dl : List Wea) : bothErr ms a dl = bothErr ms b dl := by
 unfold bothErr jobErr
 rw [h.1, tsksErr_same _ 0 a b h.1 (fun k x y hx hy => (h.2.1 k x y hx hy).1)]
theorem rng_sameJobs_c (t : Nat -> Value) : ((List.range 94).map t).toArray = List.toArray [t 0, t 1, t 2, t 3, t 4, t 5, t 6, t 7, t 8, t 9, t 10, t 11, t 12, t 13, t 14, t 15, t 16, t 17, t 18, t 19, t 20, t 21, t 22, t 23, t 24, t 25, t 26, t 27, t 28, t 29, t 30, t 31, t 32, t 33, t 34, t 35, t 36, t 37, t 38, t 39, t 40, t 41, t 42, t 43, t 44, t 45, t 46, t 47, t 48, t 49, t 50, t 51, t 52, t 53, t 54, t 55, t 56, t 57, t 58, t 59, t 60, t 61, t 62, t 63, t 64, t 65, t 66, t 67, t 68, t 69, t 70, t 71, t 72, t 73, t 74, t 75, t 76, t 77, t 78, t 79, t 80, t 81, t 82, t 83, t 84, t 85, t 86, t 87, t 88, t 89, t 90, t 91, t 92, t 93] := rfl
set_option maxHeartbeats 16000000 in
theorem sameJobs_c (lo hi lo2 hi2 : Nat) (vm vt vm2 vt2 : Value) (ms : List Mch) (lt ts : List Tsk) (n : Nat) (w : World) (hj1 : JobAt lo hi w vm vt ms lt) (h2 : hi <= w.heap.size) (hj2 : JobAt lo2 hi2 w vm2 vt2 ms ts) (h3 : hi2 <= w.heap.size) (hmx : mixT n lt ts) :
  Calls Try.prog 23 #[.agg #[vm, vt], .agg #[vm2, vt2]] w (Ret (.bool true) w) := by
 have F1 : Bun w [] w := Bun.nil _
 obtain ⟨hmsA, htsA, hafA⟩ := hj1
 have hm_msA := hmsA.len
 unfold maxLen at hm_msA
 obtain ⟨aMA, cMA, rfl⟩ := hmsA.any
 replace F1 := F1.sl0 hmsA h2 rfl
 clear hmsA
 have hm_tsA := htsA.len
 unfold maxLen at hm_tsA
 obtain ⟨aTA, cTA, rfl⟩ := htsA.any
 replace F1 := F1.sl0 htsA h2 rfl
 clear htsA
 replace F1 := F1.non0 (rafs lo hi lt) hafA (fun _ h_ => Nat.lt_of_lt_of_le h_.2 h2) rfl rfl
 clear hafA
 obtain ⟨hmsB, htsB, hafB⟩ := hj2
 have hm_msB := hmsB.len
 unfold maxLen at hm_msB
 obtain ⟨aMB, cMB, rfl⟩ := hmsB.any
 replace F1 := F1.sl0 hmsB h3 rfl
 clear hmsB
 have hm_tsB := htsB.len
 unfold maxLen at hm_tsB
 obtain ⟨aTB, cTB, rfl⟩ := htsB.any
 replace F1 := F1.sl0 htsB h3 rfl
 clear htsB
 replace F1 := F1.non0 (rafs lo2 hi2 ts) hafB (fun _ h_ => Nat.lt_of_lt_of_le h_.2 h3) rfl rfl
 clear hafB
 have hltl : lt.length <= ts.length /\ ts.length <= lt.length := ⟨Nat.le_of_eq hmx.1, Nat.le_of_eq hmx.1.symm⟩
 have HMX := lhd hmx
 have hlte : (lt.length == ts.length) = true := by rw [hmx.1]; simp
 have hltn : ((lt.length : Int) == (ts.length : Int)) = true := by rw [hmx.1]; simp
 have hltn2 : ((lt.length : Int) != (ts.length : Int)) = false := by rw [hmx.1]; simp
 clear hmx
 go_enter Try.func23, Try.ntmps23
 go_wp2_with fail
 replace F1 := F1.new 25 #[.slice aMA ms.length cMA, .slice aTA lt.length cTA] (n := w.heap.size) (by simp)
 replace F1 := F1.new 25 #[.slice aMB ms.length cMB, .slice aTB ts.length cTB] (n := (w.heap.size + 1)) (by simp)
 obtain ⟨HI10_, HI100⟩ : ∃ I : RelT, I = (fun t ds wr => ∃ (k : Nat), t 2 = .pointer (some ⟨w.heap.size, 0, none⟩) /\ t 3 = .pointer (some ⟨w.heap.size + 1, 0, none⟩) /\ t 5 = .int .i64 (k : Int) /\ k <= ms.length /\ ds = [] /\ w.heap.size <= wr.heap.size /\ Bun w [rbox (w.heap.size + 1) 25 #[.slice aMB ms.length cMB, .slice aTB ts.length cTB], rbox w.heap.size 25 #[.slice aMA ms.length cMA, .slice aTA lt.length cTA], rafs lo2 hi2 ts, rsl tskEnc 8 lo2 hi2 (.slice aTB ts.length cTB) ts, rsl mchEnc 3 lo2 hi2 (.slice aMB ms.length cMB) ms, rafs lo hi lt, rsl tskEnc 8 lo hi (.slice aTA lt.length cTA) lt, rsl mchEnc 3 lo hi (.slice aMA ms.length cMA) ms] wr) := ⟨_, rfl⟩
 have HI10 := lhd HI100
 clear HI100
 refine wp_loopS 94 rfl HI10_ (fun t wr => ms.length - (intOf (t 5)).toNat) ?atStart1 ?round1
 case round1 =>
  intro t ds wr hHid
  rw [HI10.out] at hHid
  obtain ⟨k, e2, e3, e5, hrel⟩ := hHid
  have e := rgT494 t
  (try dsimp only at e)
  rw [e2, e3, e5] at e
  rw [e]
  simp only [e5]
  clear e e2 e3 e5
  obtain ⟨hk, rfl, hs12, hF11⟩ := hrel
  clear F1
  obtain ⟨w13, rfl⟩ : ∃ x_ : World, x_ = wr := ⟨_, rfl⟩
  by_cases c14 : (k : Int) < (ms.length : Int)
  ·
   have c14H := lhd c14
   obtain ⟨x15, o16, e_⟩ := Sl.addr (hF11.at 7 rfl : Sl mchEnc 3 lo hi _ (.slice aMA ms.length cMA) ms) (by omega)
   subst e_
   obtain ⟨x17, o18, e_⟩ := Sl.addr (hF11.at 4 rfl : Sl mchEnc 3 lo2 hi2 _ (.slice aMB ms.length cMB) ms) (by omega)
   subst e_
   obtain ⟨x, hz19_⟩ : ∃ z_, ms[k]? = some z_ := ⟨_, List.getElem?_eq_getElem (by omega)⟩
   have hz19 := lhd hz19_
   clear hz19_
   have b20 := hF11.bx2 1 rfl
   go_wp2_with fail
   clear b20
   have b21 := hF11.bx2 0 rfl
   have b22 := hF11.bx2 1 rfl
   have ge23 : World.cell? _ ⟨x15, o16 + k * 3, none⟩ = some (.int .i64 x.mild) := (Sl.cells (hF11.at 7 rfl) hz19.out 0 _ rfl)
   have ge24 : World.cell? _ ⟨x15, o16 + k * 3 + 1, none⟩ = some (.int .i64 x.hard) := (Sl.cells (hF11.at 7 rfl) hz19.out 1 _ rfl)
   have ge25 : World.cell? _ ⟨x15, o16 + k * 3 + 2, none⟩ = some (.int .i64 x.shift) := (Sl.cells (hF11.at 7 rfl) hz19.out 2 _ rfl)
   have ge26 : World.cell? _ ⟨x17, o18 + k * 3, none⟩ = some (.int .i64 x.mild) := (Sl.cells (hF11.at 4 rfl) hz19.out 0 _ rfl)
   have ge27 : World.cell? _ ⟨x17, o18 + k * 3 + 1, none⟩ = some (.int .i64 x.hard) := (Sl.cells (hF11.at 4 rfl) hz19.out 1 _ rfl)
   have ge28 : World.cell? _ ⟨x17, o18 + k * 3 + 2, none⟩ = some (.int .i64 x.shift) := (Sl.cells (hF11.at 4 rfl) hz19.out 2 _ rfl)
   go_quiet (fail)
   clear b21 b22 ge23 ge24 ge25 ge26 ge27 ge28
   have F29 := hF11.drewN nq
   clear hF11
   obtain ⟨w30, hx31, F33, hxs32⟩ := (show Bun w [rbox (w.heap.size + 1) 25 #[.slice (some ⟨x17, o18, none⟩) ms.length cMB, .slice aTB ts.length cTB], rbox w.heap.size 25 #[.slice (some ⟨x15, o16, none⟩) ms.length cMA, .slice aTA lt.length cTA], rafs lo2 hi2 ts, rsl tskEnc 8 lo2 hi2 (.slice aTB ts.length cTB) ts, rsl mchEnc 3 lo2 hi2 (.slice (some ⟨x17, o18, none⟩) ms.length cMB) ms, rafs lo hi lt, rsl tskEnc 8 lo hi (.slice aTA lt.length cTA) lt, rsl mchEnc 3 lo hi (.slice (some ⟨x15, o16, none⟩) ms.length cMA) ms] _ from F29).name
   (try simp at hxs32)
   rw [hx31]
   clear hx31 F29
   go_wp2_with fail
   (first | refine ⟨by kernel_rfl, ?_, ?_⟩ | refine ⟨rfl, ?_, ?_⟩ | refine ⟨?_, ?_⟩)
   · rw [HI10.out]; exact ⟨k + 1, (by kernel_rfl), (by kernel_rfl), (by show Value.int .i64 ((k : Int) + 1) = _; simp), by omega, (by first | rfl | simp), (by first | omega | (simp; done) | (simp; omega)), F33⟩
   · simp [slot, intOf]; omega
  have c14H := lhd c14
  have c14a : decide ((k : Int) < (ms.length : Int)) = false := dec_f c14
  have b34 := hF11.bx2 1 rfl
  go_wp2_with fail
  clear b34
  obtain ⟨HI35_, HI350⟩ : ∃ I : RelT, I = (fun t ds wr => ∃ (k : Nat), t 2 = .pointer (some ⟨w.heap.size, 0, none⟩) /\ t 3 = .pointer (some ⟨w.heap.size + 1, 0, none⟩) /\ t 6 = .int .i64 (k : Int) /\ k <= lt.length /\ ds = [] /\ w13.heap.size <= wr.heap.size /\ Bun w [rbox (w.heap.size + 1) 25 #[.slice aMB ms.length cMB, .slice aTB ts.length cTB], rbox w.heap.size 25 #[.slice aMA ms.length cMA, .slice aTA lt.length cTA], rafs lo2 hi2 ts, rsl tskEnc 8 lo2 hi2 (.slice aTB ts.length cTB) ts, rsl mchEnc 3 lo2 hi2 (.slice aMB ms.length cMB) ms, rafs lo hi lt, rsl tskEnc 8 lo hi (.slice aTA lt.length cTA) lt, rsl mchEnc 3 lo hi (.slice aMA ms.length cMA) ms] wr) := ⟨_, rfl⟩
  have HI35 := lhd HI350
  clear HI350
  refine wp_loopS 94 rfl HI35_ (fun t wr => lt.length - (intOf (t 6)).toNat) ?atStart2 ?round2
  case round2 =>
   intro t ds wr hHid
   rw [HI35.out] at hHid
   obtain ⟨k, e2, e3, e6, hrel⟩ := hHid
   have e := rgT494 t
   (try dsimp only at e)
   rw [e2, e3, e6] at e
   rw [e]
   simp only [e6]
   clear e e2 e3 e6
   obtain ⟨hk2, rfl, hs37, hF36⟩ := hrel
   clear hF11
   obtain ⟨w38, rfl⟩ : ∃ x_ : World, x_ = wr := ⟨_, rfl⟩
   by_cases c39 : (k : Int) < (lt.length : Int)
   ·
    have c39H := lhd c39
    have hkt : k < ts.length := by omega
    have hkt2 : (k : Int) < (ts.length : Int) := by omega
    obtain ⟨x40, o41, e_⟩ := Sl.addr (hF36.at 6 rfl : Sl tskEnc 8 lo hi _ (.slice aTA lt.length cTA) lt) (by omega)
    subst e_
    obtain ⟨x42, o43, e_⟩ := Sl.addr (hF36.at 3 rfl : Sl tskEnc 8 lo2 hi2 _ (.slice aTB ts.length cTB) ts) (by omega)
    subst e_
    obtain ⟨z, hz44_⟩ : ∃ z_, ts[k]? = some z_ := ⟨_, List.getElem?_eq_getElem (by omega)⟩
    have hz44 := lhd hz44_
    clear hz44_
    obtain ⟨a_z, c_z, hav_z, hcap_z, hsl_z⟩ := Afs.open (hF36.at 2 rfl : Afs lo2 hi2 _ ts) hz44.out
    have HAV_z := lhd hav_z
    clear hav_z
    have F45 := hF36.more 2 (rsl intEnc 1 lo2 hi2 (.slice a_z z.af.length c_z) z.af) rfl rfl rfl (fun _ h_ => h_) hsl_z
    clear hF36
    have hm_z := (F45.at 0 rfl : Sl intEnc 1 lo2 hi2 _ (.slice a_z z.af.length c_z) z.af).len
    unfold maxLen at hm_z
    obtain ⟨yv, hy_⟩ := sameT_at HMX.out hz44.out
    obtain ⟨a_y, c_y, hav_y, hcap_y, hsl_y⟩ := Afs.open (F45.at 6 rfl : Afs lo hi _ lt) hy_
    simp only at hav_y hcap_y hsl_y
    subst hav_y
    have hz46 : Hid (lt[k]? = some (⟨z.m, z.ho, z.wa, z.fr, z.af, .slice a_y z.af.length c_y⟩ : Tsk)) := lhd (hy_)
    replace F45 := F45.more 6 (rsl intEnc 1 lo hi (.slice a_y z.af.length c_y) z.af) rfl rfl rfl (fun _ h_ => h_) hsl_y
    clear hy_ hsl_y hcap_y
    have b48 := F45.bx2 3 rfl
    go_wp2_with fail
    clear b48
    replace F45 := F45.drew
    refine ru_begin (fun W => W.cell? ⟨w.heap.size, 1, none⟩ = some (.slice (some ⟨x40, o41, none⟩) lt.length cTA) /\ W.cell? ⟨x40, o41 + k * 8, none⟩ = some (.int .i64 z.m) /\ W.cell? ⟨x40, o41 + k * 8 + 1, none⟩ = some (.int .i64 z.ho.lo) /\ W.cell? ⟨x40, o41 + k * 8 + 2, none⟩ = some (.int .i64 z.ho.hi) /\ W.cell? ⟨x40, o41 + k * 8 + 3, none⟩ = some (.int .i64 z.wa.lo) /\ W.cell? ⟨x40, o41 + k * 8 + 4, none⟩ = some (.int .i64 z.wa.hi) /\ W.cell? ⟨x40, o41 + k * 8 + 5, none⟩ = some (.int .i64 z.fr.lo) /\ W.cell? ⟨x40, o41 + k * 8 + 6, none⟩ = some (.int .i64 z.fr.hi) /\ W.cell? ⟨x40, o41 + k * 8 + 7, none⟩ = some (.slice a_y z.af.length c_y) /\ W.cell? ⟨(w.heap.size + 1), 1, none⟩ = some (.slice (some ⟨x42, o43, none⟩) ts.length cTB) /\ W.cell? ⟨x42, o43 + k * 8, none⟩ = some (.int .i64 z.m) /\ W.cell? ⟨x42, o43 + k * 8 + 1, none⟩ = some (.int .i64 z.ho.lo) /\ W.cell? ⟨x42, o43 + k * 8 + 2, none⟩ = some (.int .i64 z.ho.hi) /\ W.cell? ⟨x42, o43 + k * 8 + 3, none⟩ = some (.int .i64 z.wa.lo) /\ W.cell? ⟨x42, o43 + k * 8 + 4, none⟩ = some (.int .i64 z.wa.hi) /\ W.cell? ⟨x42, o43 + k * 8 + 5, none⟩ = some (.int .i64 z.fr.lo) /\ W.cell? ⟨x42, o43 + k * 8 + 6, none⟩ = some (.int .i64 z.fr.hi) /\ W.cell? ⟨x42, o43 + k * 8 + 7, none⟩ = some (.slice a_z z.af.length c_z)) 13 (by kernel_rfl) ?_ ?_
    · exact ⟨F45.q 3 1, (Sl.cells (F45.at 8 rfl) hz46.out 0 _ rfl), (Sl.cells (F45.at 8 rfl) hz46.out 1 _ rfl), (Sl.cells (F45.at 8 rfl) hz46.out 2 _ rfl), (Sl.cells (F45.at 8 rfl) hz46.out 3 _ rfl), (Sl.cells (F45.at 8 rfl) hz46.out 4 _ rfl), (Sl.cells (F45.at 8 rfl) hz46.out 5 _ rfl), (Sl.cells (F45.at 8 rfl) hz46.out 6 _ rfl), (Sl.cells (F45.at 8 rfl) hz46.out 7 _ rfl), F45.q 2 1, (Sl.cells (F45.at 5 rfl) hz44.out 0 _ rfl), (Sl.cells (F45.at 5 rfl) hz44.out 1 _ rfl), (Sl.cells (F45.at 5 rfl) hz44.out 2 _ rfl), (Sl.cells (F45.at 5 rfl) hz44.out 3 _ rfl), (Sl.cells (F45.at 5 rfl) hz44.out 4 _ rfl), (Sl.cells (F45.at 5 rfl) hz44.out 5 _ rfl), (Sl.cells (F45.at 5 rfl) hz44.out 6 _ rfl), (HAV_z.out ▸ (Sl.cells (F45.at 5 rfl) hz44.out 7 _ rfl))⟩
    obtain ⟨wd51, hwd_⟩ : ∃ x : World, w38.drew = x := ⟨_, rfl⟩
    rw [hwd_] at F45 ⊢
    have wd51s : w38.heap.size <= wd51.heap.size := by rw [← hwd_]; exact Nat.le_refl _
    clear hwd_
    have hS50 := (And.intro (F45.q 3 1) (And.intro ((Sl.cells (F45.at 8 rfl) hz46.out 0 _ rfl)) (And.intro ((Sl.cells (F45.at 8 rfl) hz46.out 1 _ rfl)) (And.intro ((Sl.cells (F45.at 8 rfl) hz46.out 2 _ rfl)) (And.intro ((Sl.cells (F45.at 8 rfl) hz46.out 3 _ rfl)) (And.intro ((Sl.cells (F45.at 8 rfl) hz46.out 4 _ rfl)) (And.intro ((Sl.cells (F45.at 8 rfl) hz46.out 5 _ rfl)) (And.intro ((Sl.cells (F45.at 8 rfl) hz46.out 6 _ rfl)) (And.intro ((Sl.cells (F45.at 8 rfl) hz46.out 7 _ rfl)) (And.intro (F45.q 2 1) (And.intro ((Sl.cells (F45.at 5 rfl) hz44.out 0 _ rfl)) (And.intro ((Sl.cells (F45.at 5 rfl) hz44.out 1 _ rfl)) (And.intro ((Sl.cells (F45.at 5 rfl) hz44.out 2 _ rfl)) (And.intro ((Sl.cells (F45.at 5 rfl) hz44.out 3 _ rfl)) (And.intro ((Sl.cells (F45.at 5 rfl) hz44.out 4 _ rfl)) (And.intro ((Sl.cells (F45.at 5 rfl) hz44.out 5 _ rfl)) (And.intro ((Sl.cells (F45.at 5 rfl) hz44.out 6 _ rfl)) ((HAV_z.out ▸ (Sl.cells (F45.at 5 rfl) hz44.out 7 _ rfl))))))))))))))))))))
    refine ru_t 0 [] ?_
    refine ru_t 1 [] ?_
    refine ru_t 2 [] ?_
    refine ru_t 3 [] ?_
    refine ru_t 4 [] ?_
    refine ru_t 5 [] ?_
    refine ru_t 6 [] ?_
    refine ru_t 7 [] ?_
    refine ru_t 8 [] ?_
    refine ru_t 9 [] ?_
    (try simp only [lpX])
    clear hS50
    refine ru_state 94 (fun t w_ => ∃ (yg10 : Nat) (yg11 : Nat), t 2 = .pointer (some ⟨w.heap.size, 0, none⟩) /\ t 3 = .pointer (some ⟨w.heap.size + 1, 0, none⟩) /\ t 6 = .int .i64 (k : Int) /\ t 7 = .pointer (some ⟨yg10, 0, none⟩) /\ t 8 = .pointer (some ⟨yg11, 0, none⟩) /\ w38.heap.size <= w_.heap.size /\ Bun w [rbox yg11 79 #[.int .i64 z.m, .int .i64 z.ho.lo, .int .i64 z.ho.hi, .int .i64 z.wa.lo, .int .i64 z.wa.hi, .int .i64 z.fr.lo, .int .i64 z.fr.hi, .slice a_z z.af.length c_z], rbox yg10 79 #[.int .i64 z.m, .int .i64 z.ho.lo, .int .i64 z.ho.hi, .int .i64 z.wa.lo, .int .i64 z.wa.hi, .int .i64 z.fr.lo, .int .i64 z.fr.hi, .slice a_y z.af.length c_y], rsl intEnc 1 lo hi (.slice a_y z.af.length c_y) z.af, rsl intEnc 1 lo2 hi2 (.slice a_z z.af.length c_z) z.af, rbox (w.heap.size + 1) 25 #[.slice aMB ms.length cMB, .slice (some ⟨x42, o43, none⟩) ts.length cTB], rbox w.heap.size 25 #[.slice aMA ms.length cMA, .slice (some ⟨x40, o41, none⟩) lt.length cTA], rafs lo2 hi2 ts, rsl tskEnc 8 lo2 hi2 (.slice (some ⟨x42, o43, none⟩) ts.length cTB) ts, rsl mchEnc 3 lo2 hi2 (.slice aMB ms.length cMB) ms, rafs lo hi lt, rsl tskEnc 8 lo hi (.slice (some ⟨x40, o41, none⟩) lt.length cTA) lt, rsl mchEnc 3 lo hi (.slice aMA ms.length cMA) ms] w_) #[true, true, true, true, true, true, true, true, true, true, true, true, true, true] 0 ?st52 ?nx52
    case st52 =>
     rintro t w53 ⟨yg10, yg11, e2, e3, e6, e7, e8, hsz52, F54⟩
     clear F45
     rw [rng_sameJobs_c t, e2, e3, e6, e7, e8]
     clear e2 e3 e6 e7 e8
     have hws52 := F54.gb.size
     have yg11l := F54.ltAt 0 rfl yg11 rfl
     have yg11b := yg11l.2 rfl
     have yg10l := F54.ltAt 1 rfl yg10 rfl
     have yg10b := yg10l.2 rfl
     refine ru_done (by kernel_rfl) ?_
     obtain ⟨w55, hx56, F58, hxs57⟩ := F54.name
     (try simp at hxs57)
     rw [hx56]
     clear hx56 F54
     have b59 := F58.bx8 0 rfl
     have b60 := F58.bx8 1 rfl
     go_wp2_with fail
     clear b59 b60
     refine (same_t _ _ _ _ _ _ z.af _ (F58.at 2 rfl : Sl intEnc 1 lo hi _ (.slice a_y z.af.length c_y) z.af) (F58.at 3 rfl : Sl intEnc 1 lo2 hi2 _ (.slice a_z z.af.length c_z) z.af)).mono ?_
     rintro e w63 ⟨rfl, hg61⟩
     have hg61s := hg61.size
     (try simp at hg61s)
     replace F58 := F58.gn hg61
     clear hg61
     go_wp2_with fail
     have F65 : Bun w [rbox (w.heap.size + 1) 25 #[.slice aMB ms.length cMB, .slice (some ⟨x42, o43, none⟩) ts.length cTB], rbox w.heap.size 25 #[.slice aMA ms.length cMA, .slice (some ⟨x40, o41, none⟩) lt.length cTA], rafs lo2 hi2 ts, rsl tskEnc 8 lo2 hi2 (.slice (some ⟨x42, o43, none⟩) ts.length cTB) ts, rsl mchEnc 3 lo2 hi2 (.slice aMB ms.length cMB) ms, rafs lo hi lt, rsl tskEnc 8 lo hi (.slice (some ⟨x40, o41, none⟩) lt.length cTA) lt, rsl mchEnc 3 lo hi (.slice aMA ms.length cMA) ms] _ := F58.pick [4, 5, 6, 7, 8, 9, 10, 11] (by decide) rfl
     clear F58
     (first | refine ⟨by kernel_rfl, ?_, ?_⟩ | refine ⟨rfl, ?_, ?_⟩ | refine ⟨?_, ?_⟩)
     · rw [HI35.out]; exact ⟨k + 1, (by kernel_rfl), (by kernel_rfl), (by show Value.int .i64 ((k : Int) + 1) = _; simp), by omega, (by first | rfl | simp), (by first | omega | (simp; done) | (simp; omega)), F65⟩
     · simp [slot, intOf]; omega
    intro hZ52
    refine ru_state 94 (fun t w_ => ∃ (yg10 : Nat) (yg11 : Nat), t 2 = .pointer (some ⟨w.heap.size, 0, none⟩) /\ t 3 = .pointer (some ⟨w.heap.size + 1, 0, none⟩) /\ t 6 = .int .i64 (k : Int) /\ t 7 = .pointer (some ⟨yg10, 0, none⟩) /\ t 8 = .pointer (some ⟨yg11, 0, none⟩) /\ t 59 = .agg #[.int .i64 z.m, .int .i64 z.ho.lo, .int .i64 z.ho.hi, .int .i64 z.wa.lo, .int .i64 z.wa.hi, .int .i64 z.fr.lo, .int .i64 z.fr.hi, .slice a_z z.af.length c_z] /\ w38.heap.size <= w_.heap.size /\ Bun w [rbox yg10 79 #[.int .i64 z.m, .int .i64 z.ho.lo, .int .i64 z.ho.hi, .int .i64 z.wa.lo, .int .i64 z.wa.hi, .int .i64 z.fr.lo, .int .i64 z.fr.hi, .slice a_y z.af.length c_y], rbox yg11 79 #[.int .i64 0, .int .i64 0, .int .i64 0, .int .i64 0, .int .i64 0, .int .i64 0, .int .i64 0, .slice none 0 0], rsl intEnc 1 lo hi (.slice a_y z.af.length c_y) z.af, rsl intEnc 1 lo2 hi2 (.slice a_z z.af.length c_z) z.af, rbox (w.heap.size + 1) 25 #[.slice aMB ms.length cMB, .slice (some ⟨x42, o43, none⟩) ts.length cTB], rbox w.heap.size 25 #[.slice aMA ms.length cMA, .slice (some ⟨x40, o41, none⟩) lt.length cTA], rafs lo2 hi2 ts, rsl tskEnc 8 lo2 hi2 (.slice (some ⟨x42, o43, none⟩) ts.length cTB) ts, rsl mchEnc 3 lo2 hi2 (.slice aMB ms.length cMB) ms, rafs lo hi lt, rsl tskEnc 8 lo hi (.slice (some ⟨x40, o41, none⟩) lt.length cTA) lt, rsl mchEnc 3 lo hi (.slice aMA ms.length cMA) ms] w_) #[true, true, true, true, true, true, true, true, true, true, true, true, true, false] 1 ?st66 ?nx66
    case st66 =>
     rintro t w67 ⟨yg10, yg11, e2, e3, e6, e7, e8, e59, hsz66, F68⟩
     clear F45
     rw [rng_sameJobs_c t, e2, e3, e6, e7, e8, e59]
     clear e2 e3 e6 e7 e8 e59
     have hws66 := F68.gb.size
     have yg10l := F68.ltAt 0 rfl yg10 rfl
     have yg10b := yg10l.2 rfl
     have yg11l := F68.ltAt 1 rfl yg11 rfl
     have yg11b := yg11l.2 rfl
     refine ru_one 13 rfl (by kernel_rfl) (fun K hK => ?_)
     have kb_ := F68.bx8 1 rfl
     go_simp
     clear kb_
     have F69 := (F68.front 1 rfl rfl).pt8 (.int .i64 z.m) (.int .i64 z.ho.lo) (.int .i64 z.ho.hi) (.int .i64 z.wa.lo) (.int .i64 z.wa.hi) (.int .i64 z.fr.lo) (.int .i64 z.fr.hi) (.slice a_z z.af.length c_z)
     clear F68
     refine ru_back_late hK (by kernel_rfl) ?_
     exact hZ52.out _ _ _ (by kernel_rfl) (by kernel_rfl) rfl ⟨yg10, yg11, by (iterate 5 refine ⟨by kernel_rfl, ?_⟩); exact ⟨(by first | omega | (simp; done) | (simp; omega)), F69⟩⟩
    intro hZ66
    refine ru_state 94 (fun t w_ => ∃ (yg10 : Nat) (yg11 : Nat), t 2 = .pointer (some ⟨w.heap.size, 0, none⟩) /\ t 3 = .pointer (some ⟨w.heap.size + 1, 0, none⟩) /\ t 6 = .int .i64 (k : Int) /\ t 7 = .pointer (some ⟨yg10, 0, none⟩) /\ t 8 = .pointer (some ⟨yg11, 0, none⟩) /\ t 54 = .agg #[.int .i64 z.m, .int .i64 z.ho.lo, .int .i64 z.ho.hi, .int .i64 z.wa.lo, .int .i64 z.wa.hi, .int .i64 z.fr.lo, .int .i64 z.fr.hi, .slice a_y z.af.length c_y] /\ t 59 = .agg #[.int .i64 z.m, .int .i64 z.ho.lo, .int .i64 z.ho.hi, .int .i64 z.wa.lo, .int .i64 z.wa.hi, .int .i64 z.fr.lo, .int .i64 z.fr.hi, .slice a_z z.af.length c_z] /\ w38.heap.size <= w_.heap.size /\ Bun w [rbox yg11 79 #[.int .i64 0, .int .i64 0, .int .i64 0, .int .i64 0, .int .i64 0, .int .i64 0, .int .i64 0, .slice none 0 0], rbox yg10 79 #[.int .i64 0, .int .i64 0, .int .i64 0, .int .i64 0, .int .i64 0, .int .i64 0, .int .i64 0, .slice none 0 0], rsl intEnc 1 lo hi (.slice a_y z.af.length c_y) z.af, rsl intEnc 1 lo2 hi2 (.slice a_z z.af.length c_z) z.af, rbox (w.heap.size + 1) 25 #[.slice aMB ms.length cMB, .slice (some ⟨x42, o43, none⟩) ts.length cTB], rbox w.heap.size 25 #[.slice aMA ms.length cMA, .slice (some ⟨x40, o41, none⟩) lt.length cTA], rafs lo2 hi2 ts, rsl tskEnc 8 lo2 hi2 (.slice (some ⟨x42, o43, none⟩) ts.length cTB) ts, rsl mchEnc 3 lo2 hi2 (.slice aMB ms.length cMB) ms, rafs lo hi lt, rsl tskEnc 8 lo hi (.slice (some ⟨x40, o41, none⟩) lt.length cTA) lt, rsl mchEnc 3 lo hi (.slice aMA ms.length cMA) ms] w_) #[true, true, true, true, true, true, true, true, true, true, true, true, false, false] 2 ?st70 ?nx70
    case st70 =>
     rintro t w71 ⟨yg10, yg11, e2, e3, e6, e7, e8, e54, e59, hsz70, F72⟩
     clear F45
     rw [rng_sameJobs_c t, e2, e3, e6, e7, e8, e54, e59]
     clear e2 e3 e6 e7 e8 e54 e59
     have hws70 := F72.gb.size
     have yg11l := F72.ltAt 0 rfl yg11 rfl
     have yg11b := yg11l.2 rfl
     have yg10l := F72.ltAt 1 rfl yg10 rfl
     have yg10b := yg10l.2 rfl
     refine ru_one 12 rfl (by kernel_rfl) (fun K hK => ?_)
     have kb_ := F72.bx8 1 rfl
     go_simp
     clear kb_
     have F73 := (F72.front 1 rfl rfl).pt8 (.int .i64 z.m) (.int .i64 z.ho.lo) (.int .i64 z.ho.hi) (.int .i64 z.wa.lo) (.int .i64 z.wa.hi) (.int .i64 z.fr.lo) (.int .i64 z.fr.hi) (.slice a_y z.af.length c_y)
     clear F72
     refine ru_back hK (by exact ⟨F73.q 5 1, (Sl.cells (F73.at 10 rfl) hz46.out 0 _ rfl), (Sl.cells (F73.at 10 rfl) hz46.out 1 _ rfl), (Sl.cells (F73.at 10 rfl) hz46.out 2 _ rfl), (Sl.cells (F73.at 10 rfl) hz46.out 3 _ rfl), (Sl.cells (F73.at 10 rfl) hz46.out 4 _ rfl), (Sl.cells (F73.at 10 rfl) hz46.out 5 _ rfl), (Sl.cells (F73.at 10 rfl) hz46.out 6 _ rfl), (Sl.cells (F73.at 10 rfl) hz46.out 7 _ rfl), F73.q 4 1, (Sl.cells (F73.at 7 rfl) hz44.out 0 _ rfl), (Sl.cells (F73.at 7 rfl) hz44.out 1 _ rfl), (Sl.cells (F73.at 7 rfl) hz44.out 2 _ rfl), (Sl.cells (F73.at 7 rfl) hz44.out 3 _ rfl), (Sl.cells (F73.at 7 rfl) hz44.out 4 _ rfl), (Sl.cells (F73.at 7 rfl) hz44.out 5 _ rfl), (Sl.cells (F73.at 7 rfl) hz44.out 6 _ rfl), (HAV_z.out ▸ (Sl.cells (F73.at 7 rfl) hz44.out 7 _ rfl))⟩) (fun _ => ?_)
     exact hZ66.out _ _ _ (by kernel_rfl) (by kernel_rfl) rfl ⟨yg10, yg11, by (iterate 6 refine ⟨by kernel_rfl, ?_⟩); exact ⟨(by first | omega | (simp; done) | (simp; omega)), F73⟩⟩
    intro hZ70
    refine ru_state 94 (fun t w_ => ∃ (yg10 : Nat), t 2 = .pointer (some ⟨w.heap.size, 0, none⟩) /\ t 3 = .pointer (some ⟨w.heap.size + 1, 0, none⟩) /\ t 6 = .int .i64 (k : Int) /\ t 7 = .pointer (some ⟨yg10, 0, none⟩) /\ t 54 = .agg #[.int .i64 z.m, .int .i64 z.ho.lo, .int .i64 z.ho.hi, .int .i64 z.wa.lo, .int .i64 z.wa.hi, .int .i64 z.fr.lo, .int .i64 z.fr.hi, .slice a_y z.af.length c_y] /\ t 59 = .agg #[.int .i64 z.m, .int .i64 z.ho.lo, .int .i64 z.ho.hi, .int .i64 z.wa.lo, .int .i64 z.wa.hi, .int .i64 z.fr.lo, .int .i64 z.fr.hi, .slice a_z z.af.length c_z] /\ w38.heap.size <= w_.heap.size /\ Bun w [rbox yg10 79 #[.int .i64 0, .int .i64 0, .int .i64 0, .int .i64 0, .int .i64 0, .int .i64 0, .int .i64 0, .slice none 0 0], rsl intEnc 1 lo hi (.slice a_y z.af.length c_y) z.af, rsl intEnc 1 lo2 hi2 (.slice a_z z.af.length c_z) z.af, rbox (w.heap.size + 1) 25 #[.slice aMB ms.length cMB, .slice (some ⟨x42, o43, none⟩) ts.length cTB], rbox w.heap.size 25 #[.slice aMA ms.length cMA, .slice (some ⟨x40, o41, none⟩) lt.length cTA], rafs lo2 hi2 ts, rsl tskEnc 8 lo2 hi2 (.slice (some ⟨x42, o43, none⟩) ts.length cTB) ts, rsl mchEnc 3 lo2 hi2 (.slice aMB ms.length cMB) ms, rafs lo hi lt, rsl tskEnc 8 lo hi (.slice (some ⟨x40, o41, none⟩) lt.length cTA) lt, rsl mchEnc 3 lo hi (.slice aMA ms.length cMA) ms] w_) #[true, true, true, true, true, true, true, true, true, true, true, false, false, false] 3 ?st74 ?nx74
    case st74 =>
     rintro t w75 ⟨yg10, e2, e3, e6, e7, e54, e59, hsz74, F76⟩
     clear F45
     rw [rng_sameJobs_c t, e2, e3, e6, e7, e54, e59]
     clear e2 e3 e6 e7 e54 e59
     have hws74 := F76.gb.size
     have yg10l := F76.ltAt 0 rfl yg10 rfl
     have yg10b := yg10l.2 rfl
     refine ru_one 11 rfl (by kernel_rfl) (fun K hK => ?_)
     go_simp
     replace F76 := F76.new 79 #[.int .i64 0, .int .i64 0, .int .i64 0, .int .i64 0, .int .i64 0, .int .i64 0, .int .i64 0, .slice none 0 0] (n := w75.heap.size) (by simp)
     refine ru_back hK (by exact ⟨F76.q 5 1, (Sl.cells (F76.at 10 rfl) hz46.out 0 _ rfl), (Sl.cells (F76.at 10 rfl) hz46.out 1 _ rfl), (Sl.cells (F76.at 10 rfl) hz46.out 2 _ rfl), (Sl.cells (F76.at 10 rfl) hz46.out 3 _ rfl), (Sl.cells (F76.at 10 rfl) hz46.out 4 _ rfl), (Sl.cells (F76.at 10 rfl) hz46.out 5 _ rfl), (Sl.cells (F76.at 10 rfl) hz46.out 6 _ rfl), (Sl.cells (F76.at 10 rfl) hz46.out 7 _ rfl), F76.q 4 1, (Sl.cells (F76.at 7 rfl) hz44.out 0 _ rfl), (Sl.cells (F76.at 7 rfl) hz44.out 1 _ rfl), (Sl.cells (F76.at 7 rfl) hz44.out 2 _ rfl), (Sl.cells (F76.at 7 rfl) hz44.out 3 _ rfl), (Sl.cells (F76.at 7 rfl) hz44.out 4 _ rfl), (Sl.cells (F76.at 7 rfl) hz44.out 5 _ rfl), (Sl.cells (F76.at 7 rfl) hz44.out 6 _ rfl), (HAV_z.out ▸ (Sl.cells (F76.at 7 rfl) hz44.out 7 _ rfl))⟩) (fun _ => ?_)
     exact hZ70.out _ _ _ (by kernel_rfl) (by kernel_rfl) rfl ⟨yg10, w75.heap.size, by (iterate 7 refine ⟨by kernel_rfl, ?_⟩); exact ⟨(by first | omega | (simp; done) | (simp; omega)), F76⟩⟩
    intro hZ74
    refine ru_state 94 (fun t w_ => ∃ (yg11 : Nat), t 2 = .pointer (some ⟨w.heap.size, 0, none⟩) /\ t 3 = .pointer (some ⟨w.heap.size + 1, 0, none⟩) /\ t 6 = .int .i64 (k : Int) /\ t 8 = .pointer (some ⟨yg11, 0, none⟩) /\ t 54 = .agg #[.int .i64 z.m, .int .i64 z.ho.lo, .int .i64 z.ho.hi, .int .i64 z.wa.lo, .int .i64 z.wa.hi, .int .i64 z.fr.lo, .int .i64 z.fr.hi, .slice a_y z.af.length c_y] /\ t 59 = .agg #[.int .i64 z.m, .int .i64 z.ho.lo, .int .i64 z.ho.hi, .int .i64 z.wa.lo, .int .i64 z.wa.hi, .int .i64 z.fr.lo, .int .i64 z.fr.hi, .slice a_z z.af.length c_z] /\ w38.heap.size <= w_.heap.size /\ Bun w [rbox yg11 79 #[.int .i64 0, .int .i64 0, .int .i64 0, .int .i64 0, .int .i64 0, .int .i64 0, .int .i64 0, .slice none 0 0], rsl intEnc 1 lo hi (.slice a_y z.af.length c_y) z.af, rsl intEnc 1 lo2 hi2 (.slice a_z z.af.length c_z) z.af, rbox (w.heap.size + 1) 25 #[.slice aMB ms.length cMB, .slice (some ⟨x42, o43, none⟩) ts.length cTB], rbox w.heap.size 25 #[.slice aMA ms.length cMA, .slice (some ⟨x40, o41, none⟩) lt.length cTA], rafs lo2 hi2 ts, rsl tskEnc 8 lo2 hi2 (.slice (some ⟨x42, o43, none⟩) ts.length cTB) ts, rsl mchEnc 3 lo2 hi2 (.slice aMB ms.length cMB) ms, rafs lo hi lt, rsl tskEnc 8 lo hi (.slice (some ⟨x40, o41, none⟩) lt.length cTA) lt, rsl mchEnc 3 lo hi (.slice aMA ms.length cMA) ms] w_) #[true, true, true, true, true, true, true, true, true, true, false, true, false, false] 3 ?st78 ?nx78
    case st78 =>
     rintro t w79 ⟨yg11, e2, e3, e6, e8, e54, e59, hsz78, F80⟩
     clear F45
     rw [rng_sameJobs_c t, e2, e3, e6, e8, e54, e59]
     clear e2 e3 e6 e8 e54 e59
     have hws78 := F80.gb.size
     have yg11l := F80.ltAt 0 rfl yg11 rfl
     have yg11b := yg11l.2 rfl
     refine ru_one 10 rfl (by kernel_rfl) (fun K hK => ?_)
     go_simp
     replace F80 := F80.new 79 #[.int .i64 0, .int .i64 0, .int .i64 0, .int .i64 0, .int .i64 0, .int .i64 0, .int .i64 0, .slice none 0 0] (n := w79.heap.size) (by simp)
     refine ru_back hK (by exact ⟨F80.q 5 1, (Sl.cells (F80.at 10 rfl) hz46.out 0 _ rfl), (Sl.cells (F80.at 10 rfl) hz46.out 1 _ rfl), (Sl.cells (F80.at 10 rfl) hz46.out 2 _ rfl), (Sl.cells (F80.at 10 rfl) hz46.out 3 _ rfl), (Sl.cells (F80.at 10 rfl) hz46.out 4 _ rfl), (Sl.cells (F80.at 10 rfl) hz46.out 5 _ rfl), (Sl.cells (F80.at 10 rfl) hz46.out 6 _ rfl), (Sl.cells (F80.at 10 rfl) hz46.out 7 _ rfl), F80.q 4 1, (Sl.cells (F80.at 7 rfl) hz44.out 0 _ rfl), (Sl.cells (F80.at 7 rfl) hz44.out 1 _ rfl), (Sl.cells (F80.at 7 rfl) hz44.out 2 _ rfl), (Sl.cells (F80.at 7 rfl) hz44.out 3 _ rfl), (Sl.cells (F80.at 7 rfl) hz44.out 4 _ rfl), (Sl.cells (F80.at 7 rfl) hz44.out 5 _ rfl), (Sl.cells (F80.at 7 rfl) hz44.out 6 _ rfl), (HAV_z.out ▸ (Sl.cells (F80.at 7 rfl) hz44.out 7 _ rfl))⟩) (fun _ => ?_)
     exact hZ70.out _ _ _ (by kernel_rfl) (by kernel_rfl) rfl ⟨w79.heap.size, yg11, by (iterate 7 refine ⟨by kernel_rfl, ?_⟩); exact ⟨(by first | omega | (simp; done) | (simp; omega)), (F80.pick [1, 0, 2, 3, 4, 5, 6, 7, 8, 9, 10, 11] (by decide) rfl)⟩⟩
    intro hZ78
    refine ru_two 10 11 rfl rfl (by kernel_rfl) ?_ ?_
    ·
     intro K hK
     go_simp
     replace F45 := F45.new 79 #[.int .i64 0, .int .i64 0, .int .i64 0, .int .i64 0, .int .i64 0, .int .i64 0, .int .i64 0, .slice none 0 0] (n := wd51.heap.size) (by simp)
     refine ru_back hK (by exact ⟨F45.q 4 1, (Sl.cells (F45.at 9 rfl) hz46.out 0 _ rfl), (Sl.cells (F45.at 9 rfl) hz46.out 1 _ rfl), (Sl.cells (F45.at 9 rfl) hz46.out 2 _ rfl), (Sl.cells (F45.at 9 rfl) hz46.out 3 _ rfl), (Sl.cells (F45.at 9 rfl) hz46.out 4 _ rfl), (Sl.cells (F45.at 9 rfl) hz46.out 5 _ rfl), (Sl.cells (F45.at 9 rfl) hz46.out 6 _ rfl), (Sl.cells (F45.at 9 rfl) hz46.out 7 _ rfl), F45.q 3 1, (Sl.cells (F45.at 6 rfl) hz44.out 0 _ rfl), (Sl.cells (F45.at 6 rfl) hz44.out 1 _ rfl), (Sl.cells (F45.at 6 rfl) hz44.out 2 _ rfl), (Sl.cells (F45.at 6 rfl) hz44.out 3 _ rfl), (Sl.cells (F45.at 6 rfl) hz44.out 4 _ rfl), (Sl.cells (F45.at 6 rfl) hz44.out 5 _ rfl), (Sl.cells (F45.at 6 rfl) hz44.out 6 _ rfl), (HAV_z.out ▸ (Sl.cells (F45.at 6 rfl) hz44.out 7 _ rfl))⟩) (fun _ => ?_)
     exact hZ74.out _ _ _ (by kernel_rfl) (by kernel_rfl) rfl ⟨wd51.heap.size, by (iterate 6 refine ⟨by kernel_rfl, ?_⟩); exact ⟨(by first | omega | (simp; done) | (simp; omega)), F45⟩⟩
    intro K hK
    go_simp
    replace F45 := F45.new 79 #[.int .i64 0, .int .i64 0, .int .i64 0, .int .i64 0, .int .i64 0, .int .i64 0, .int .i64 0, .slice none 0 0] (n := wd51.heap.size) (by simp)
    refine ru_back hK (by exact ⟨F45.q 4 1, (Sl.cells (F45.at 9 rfl) hz46.out 0 _ rfl), (Sl.cells (F45.at 9 rfl) hz46.out 1 _ rfl), (Sl.cells (F45.at 9 rfl) hz46.out 2 _ rfl), (Sl.cells (F45.at 9 rfl) hz46.out 3 _ rfl), (Sl.cells (F45.at 9 rfl) hz46.out 4 _ rfl), (Sl.cells (F45.at 9 rfl) hz46.out 5 _ rfl), (Sl.cells (F45.at 9 rfl) hz46.out 6 _ rfl), (Sl.cells (F45.at 9 rfl) hz46.out 7 _ rfl), F45.q 3 1, (Sl.cells (F45.at 6 rfl) hz44.out 0 _ rfl), (Sl.cells (F45.at 6 rfl) hz44.out 1 _ rfl), (Sl.cells (F45.at 6 rfl) hz44.out 2 _ rfl), (Sl.cells (F45.at 6 rfl) hz44.out 3 _ rfl), (Sl.cells (F45.at 6 rfl) hz44.out 4 _ rfl), (Sl.cells (F45.at 6 rfl) hz44.out 5 _ rfl), (Sl.cells (F45.at 6 rfl) hz44.out 6 _ rfl), (HAV_z.out ▸ (Sl.cells (F45.at 6 rfl) hz44.out 7 _ rfl))⟩) (fun _ => ?_)
    exact hZ78.out _ _ _ (by kernel_rfl) (by kernel_rfl) rfl ⟨wd51.heap.size, by (iterate 6 refine ⟨by kernel_rfl, ?_⟩); exact ⟨(by first | omega | (simp; done) | (simp; omega)), F45⟩⟩
   have c39H := lhd c39
   have c39a : decide ((k : Int) < (lt.length : Int)) = false := dec_f c39
   have b84 := hF36.bx2 1 rfl
   go_wp2_with fail
   clear b84
   go_ret
   exact ⟨rfl, hF36.gb⟩
  case atStart2 =>
   rw [HI35.out]
   exact ⟨0, (by kernel_rfl), (by kernel_rfl), rfl, Nat.zero_le _, rfl, (by first | exact Nat.le_refl _ | omega | (simp; done) | (simp; omega)), hF11⟩
 case atStart1 =>
  rw [HI10.out]
  exact ⟨0, (by kernel_rfl), (by kernel_rfl), rfl, Nat.zero_le _, rfl, (by first | exact Nat.le_refl _ | omega | (simp; done) | (simp; omega)), F1⟩
end Go.Proofs.Ytokelpmngahnoaa
