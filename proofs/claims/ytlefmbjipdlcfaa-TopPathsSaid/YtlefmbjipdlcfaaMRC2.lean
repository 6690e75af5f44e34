/- top: rescue: how long one drives. -/
import Derived.Test.YtlefmbjipdlcfaaMRC1
import Derived.Test.YtlefmbjipdlcfaaMTM1
import Derived.Test.YtlefmbjipdlcfaaMN3
set_option linter.unusedVariables false
set_option linter.unusedSimpArgs false
set_option linter.unnecessarySimpa false
namespace Go.Proofs.Ytlefmbjipdlcfaa
open Go.RowKit
set_option maxRecDepth 100000
attribute [local go_sem] Oper.semAt_some
theorem rgRC288 (t : Nat -> Value) : ((List.range 88).map t).toArray = #[t 0, t 1, t 2, t 3, t 4, t 5, t 6, t 7, t 8, t 9, t 10, t 11, t 12, t 13, t 14, t 15, t 16, t 17, t 18, t 19, t 20, t 21, t 22, t 23, t 24, t 25, t 26, t 27, t 28, t 29, t 30, t 31, t 32, t 33, t 34, t 35, t 36, t 37, t 38, t 39, t 40, t 41, t 42, t 43, t 44, t 45, t 46, t 47, t 48, t 49, t 50, t 51, t 52, t 53, t 54, t 55, t 56, t 57, t 58, t 59, t 60, t 61, t 62, t 63, t 64, t 65, t 66, t 67, t 68, t 69, t 70, t 71, t 72, t 73, t 74, t 75, t 76, t 77, t 78, t 79, t 80, t 81, t 82, t 83, t 84, t 85, t 86, t 87] := rfl
def timB (k : Nat) (n : Nat) (m : TM) : Prop := m.length = n /\ ∀ x p, tget m x = some p -> 0 <= p /\ p <= 5000 * (k : Int)
theorem timB.put {k n : Nat} {m : TM} {x y p : Int} (h : timB k n m) (hx : 0 <= x /\ x < n) (hy : tget m y = some p) {d : Int} (hd : 0 <= d /\ d <= 5000) : timB (k + 1) n (tset m x (p + d)) := by
 refine ⟨by rw [tset_len]; exact h.1, fun z p' e => ?_⟩
 rw [tget_set (by rw [h.1]; exact hx)] at e
 have h1 := h.2 y p hy
 split at e
 ·
  obtain rfl := Option.some.inj e
  push_cast
  omega
 have := h.2 z p' e
 push_cast
 omega
theorem timB.mono {k k' n : Nat} {m : TM} (h : timB k n m) (hk : k <= k') : timB k' n m := ⟨h.1, fun x p e => by have := h.2 x p e; omega⟩
theorem timB_0 {n : Nat} {x : Int} (hx : 0 <= x /\ x < n) : timB 1 n (time0 n x) := by
 refine ⟨by unfold time0; rw [tset_len, List.length_replicate], fun z p e => ?_⟩
 unfold time0 at e
 rw [tget_set (by rw [List.length_replicate]; exact hx)] at e
 split at e
 ·
  obtain rfl := Option.some.inj e
  omega
 · rw [tget_none] at e; cases e
def frL (l : Lg) (j : Nat) : Int := if j = 0 then l.a else l.b
def toL (l : Lg) (j : Nat) : Int := if j = 0 then l.b else l.a
def halT (l : Lg) (s : TM × Bool) : Nat -> TM × Bool
 | 0 => s
 | 1 => relT l.a l.b l.long s
 | _ => relT l.b l.a l.long (relT l.a l.b l.long s)
theorem halT_next {l : Lg} {s : TM × Bool} {j : Nat} (h : j < 2) : halT l s (j + 1) = relT (frL l j) (toL l j) l.long (halT l s j) := by
 obtain rfl | rfl : j = 0 ∨ j = 1 := by omega
 · rfl
 · rfl
theorem ft_bd {n : Int} {l : Lg} (h : LgOk n l) (j : Nat) : (0 <= frL l j /\ frL l j < n) /\ 0 <= toL l j /\ toL l j < n := by
 have := h.a; have := h.b
 unfold frL toL
 split <;> omega
theorem lgT_yes {u : Lg -> Bool} {l : Lg} {s : TM × Bool} (h : u l = true) : lgT u s l = halT l s 2 := by rw [lgT, if_pos h]; rfl
theorem lgT_no {u : Lg -> Bool} {l : Lg} {s : TM × Bool} (h : u l = false) : lgT u s l = s := by rw [lgT, if_neg (by rw [h]; decide)]
def dsS (ls : List Lg) (u : Lg -> Bool) (mf : TM) (K : Nat) (mo : Bool) (m : TM) : Prop := if mo = true then dsT ls u K m = some mf else m = mf
theorem dsS.next {ls : List Lg} {u : Lg -> Bool} {mf : TM} {K : Nat} {m m' : TM} {mo : Bool} (h : dsS ls u mf K true m) (hr : rndT ls u m = (m', mo)) : ∃ K', K = K' + 1 /\ dsS ls u mf K' mo m' := by
 unfold dsS at h ⊢
 rw [if_pos rfl] at h
 cases K with
 | zero => cases h
 | succ K =>
  refine ⟨K, rfl, ?_⟩
  rw [dsT, hr] at h
  cases mo with
  | true => rw [if_pos rfl] at h ⊢; exact h
  | false => rw [if_neg (show ¬ ((m', false) : TM × Bool).2 = true from Bool.false_ne_true)] at h; rw [if_neg Bool.false_ne_true]; exact Option.some.inj h
theorem relT_no {x y d : Int} {m : TM} {o : Bool} (h : tget m x = none) : relT x y d (m, o) = (m, o) := by unfold relT; simp only [h]
theorem relT_new {x y d p : Int} {m : TM} {o : Bool} (h : tget m x = some p) (h2 : tget m y = none) : relT x y d (m, o) = (tset m y (p + d), true) := by unfold relT; simp only [h, h2]
theorem relT_less {x y d p q : Int} {m : TM} {o : Bool} (h : tget m x = some p) (h2 : tget m y = some q) (h3 : p + d < q) : relT x y d (m, o) = (tset m y (p + d), true) := by unfold relT; simp only [h, h2]; rw [if_pos h3]
theorem relT_more {x y d p q : Int} {m : TM} {o : Bool} (h : tget m x = some p) (h2 : tget m y = some q) (h3 : ¬ p + d < q) : relT x y d (m, o) = (m, o) := by unfold relT; simp only [h, h2]; rw [if_neg h3]
theorem mayP_l (l : Lg) (w : World) : Calls Try.prog 35 #[.int .i64 0, .int .i64 l.op] w (Ret (.bool (useP l)) w) := mayP_c l.op w
theorem mayS_l (l : Lg) (w : World) : Calls Try.prog 35 #[.int .i64 1, .int .i64 l.op] w (Ret (.bool (useS l)) w) := mayS_c l.op w
def DriP (n : Nat) (mf : TM) (w : World) : Ending -> World -> Prop := fun e w' => ∃ b k, e = .returned (.map (some b)) /\ w.heap.size <= b /\ TimMap w' b k mf /\ timB 400001 n mf /\ w.grownBy w' none
set_option maxHeartbeats 16000000 in
theorem drivesP_c (vp vq vw vc : Value) (n : Nat) (ls : List Lg) (p : Pst) (m : Int) (from_ : Int) (K0 : Nat) (mf : TM) (w : World) (hr : RscAt w vp vq vw vc n ls p m) (hk : RscOk n ls p m) (hf : 0 <= from_ /\ from_ < n) (hK0 : K0 <= 1000) (hd : dsS ls useP mf K0 true (time0 n from_)) :
  Calls Try.prog 33 #[.agg #[.int .i64 (n : Int), vp, vq, vw, vc], .int .i64 from_, .int .i64 0] w (DriP n mf w) := by
 have hmm := @run_makeMap Try.prog
 have F1 : Bun w [] w := Bun.nil _
 obtain ⟨⟨lo1, hi1, hl1, hh1⟩, ⟨lo2, hi2, hl2, hh2⟩, ⟨lo3, hi3, hl3, hh3⟩, ⟨lo4, hi4, hl4, hh4⟩⟩ := hr
 have hm_ps := hl1.len
 unfold maxLen at hm_ps
 obtain ⟨a1_, c1_, rfl⟩ := hl1.any
 replace F1 := F1.sl0 hl1 hh1 rfl
 clear hl1
 have hm_po := hl2.len
 unfold maxLen at hm_po
 obtain ⟨a2_, c2_, rfl⟩ := hl2.any
 replace F1 := F1.sl0 hl2 hh2 rfl
 clear hl2
 have hm_wa := hl3.len
 unfold maxLen at hm_wa
 obtain ⟨a3_, c3_, rfl⟩ := hl3.any
 replace F1 := F1.sl0 hl3 hh3 rfl
 clear hl3
 have hm_ch := hl4.len
 unfold maxLen at hm_ch
 obtain ⟨a4_, c4_, rfl⟩ := hl4.any
 replace F1 := F1.sl0 hl4 hh4 rfl
 clear hl4
 rw [show (ws0 n).length = n from List.length_replicate] at F1 hm_wa
 obtain ⟨x6, o7, e_⟩ := Sl.addr (F1.at 2 rfl : Sl poEnc 7 lo2 hi2 _ (.slice a2_ [p].length c2_) [p]) Nat.zero_lt_one
 subst e_
 have hz8 : Hid ([p][0]? = some p) := lhd (rfl)
 obtain ⟨x9, o10, e_⟩ := Sl.addr (F1.at 0 rfl : Sl chEnc 3 lo4 hi4 _ (.slice a4_ [m].length c4_) [m]) Nat.zero_lt_one
 subst e_
 have hz11 : Hid ([m][0]? = some m) := lhd (rfl)
 have HRK := lhd hk
 have hnk_ := hk.nn
 have hlk_ := hk.len
 have hsk_ := hk.spot
 have hrk_ := hk.rdy
 have hmk_ := hk.mm
 clear hk
 have HD := lhd hd
 clear hd
 go_enter Try.func33, Try.ntmps33
 replace F1 := F1.new 42 #[.int .i64 (n : Int), .slice a1_ ls.length c1_, .slice (some ⟨x6, o7, none⟩) 1 c2_, .slice a3_ n c3_, .slice (some ⟨x9, o10, none⟩) 1 c4_] (n := w.heap.size) (by simp)
 replace F1 := F1.timNew n (g := (w.heap.size + 1)) (by simp)
 obtain ⟨w14, hr15, F16, hs17⟩ := F1.timPut (by omega) (x := from_) (p := 0) (by rw [List.length_replicate]; omega) (by rw [List.length_replicate]; omega)
 (try simp at hr15 hs17)
 clear F1
 go_wp2_with fail
 clear hr15
 have HFB := lhd (timB_0 (n := n) (x := from_) hf)
 go_wp2_with fail
 go_wp2_with fail
 obtain ⟨HI18_, HI180⟩ : ∃ I : Nat -> RelT, I = (fun K t ds wr => ∃ (mo : Bool) (um : TM) (cn : Nat), t 2 = .int .i64 0 /\ t 3 = .pointer (some ⟨w.heap.size, 0, none⟩) /\ t 7 = .map (some (w.heap.size + 1)) /\ t 8 = .bool mo /\ Hid (dsS ls useP mf K mo um) /\ (cn + 400 * K <= 400 * 1000 + 1) /\ Hid (timB cn n um) /\ ds = [] /\ w14.heap.size <= wr.heap.size /\ Bun w [rtim (w.heap.size + 1) cn um, rbox w.heap.size 42 #[.int .i64 (n : Int), .slice a1_ ls.length c1_, .slice (some ⟨x6, o7, none⟩) 1 c2_, .slice a3_ n c3_, .slice (some ⟨x9, o10, none⟩) 1 c4_], rsl chEnc 3 lo4 hi4 (.slice (some ⟨x9, o10, none⟩) 1 c4_) [m], rsl spEnc 2 lo3 hi3 (.slice a3_ n c3_) (ws0 n), rsl poEnc 7 lo2 hi2 (.slice (some ⟨x6, o7, none⟩) 1 c2_) [p], rsl ptEnc 5 lo1 hi1 (.slice a1_ ls.length c1_) ls] wr) := ⟨_, rfl⟩
 have HI18 := lhd HI180
 clear HI180
 refine wp_loopG 88 rfl HI18_ K0 ?atG19 ?roG19
 case roG19 =>
  intro K t ds wr hHid
  rw [HI18.out] at hHid
  obtain ⟨mo, um, cn, e2, e3, e7, e8, HDS, hcn, HFB, rfl, hs21, hF20⟩ := hHid
  clear F16
  have e := rgRC288 t
  (try dsimp only at e)
  rw [e2, e3, e7, e8] at e
  rw [e]
  clear e e2 e3 e7 e8
  obtain ⟨w22, rfl⟩ : ∃ x_ : World, x_ = wr := ⟨_, rfl⟩
  cases c23 : mo
  ·
   have c23H := lhd c23
   have HME : Hid (um = mf) := lhd (by have h_ := HDS.out; rw [c23] at h_; exact h_)
   go_wp2_with fail
   exact bodyPost_ret (v := .map (some (w.heap.size + 1))) (by simp [results, Try.results33, go_sem]) rfl ((⟨(w.heap.size + 1), _, rfl, (by first | omega | (simp; omega)), (by have h_ := (hF20.at 0 rfl : TimMap _ (w.heap.size + 1) cn um); rw [HME.out] at h_; exact h_), (by have h_ := HFB.out; rw [HME.out] at h_; exact h_.mono (by omega)), hF20.gb⟩))
  have c23H := lhd c23
  have HDT : Hid (dsS ls useP mf K true um) := lhd (by have h_ := HDS.out; rwa [c23] at h_)
  have b24 := hF20.bx5 1 rfl
  go_wp2_with fail
  clear b24
  obtain ⟨HI25_, HI250⟩ : ∃ I : RelT, I = (fun t ds wr => ∃ (i : Nat) (sm : TM) (so : Bool) (ci : Nat), t 2 = .int .i64 0 /\ t 3 = .pointer (some ⟨w.heap.size, 0, none⟩) /\ t 7 = .map (some (w.heap.size + 1)) /\ t 8 = .bool so /\ t 23 = .slice a1_ ls.length c1_ /\ t 24 = .int .i64 (ls.length : Int) /\ t 25 = .int .i64 (i : Int) /\ i <= ls.length /\ Hid ((ls.take i).foldl (lgT useP) (um, false) = (sm, so)) /\ ci <= cn + 2 * i /\ Hid (timB ci n sm) /\ ds = [] /\ w22.heap.size <= wr.heap.size /\ Bun w [rtim (w.heap.size + 1) ci sm, rbox w.heap.size 42 #[.int .i64 (n : Int), .slice a1_ ls.length c1_, .slice (some ⟨x6, o7, none⟩) 1 c2_, .slice a3_ n c3_, .slice (some ⟨x9, o10, none⟩) 1 c4_], rsl chEnc 3 lo4 hi4 (.slice (some ⟨x9, o10, none⟩) 1 c4_) [m], rsl spEnc 2 lo3 hi3 (.slice a3_ n c3_) (ws0 n), rsl poEnc 7 lo2 hi2 (.slice (some ⟨x6, o7, none⟩) 1 c2_) [p], rsl ptEnc 5 lo1 hi1 (.slice a1_ ls.length c1_) ls] wr) := ⟨_, rfl⟩
  have HI25 := lhd HI250
  clear HI250
  refine wp_loopS 88 rfl HI25_ (fun t wr => ls.length - (intOf (t 25)).toNat) ?atStart1 ?round1
  case round1 =>
   intro t ds wr hHid
   rw [HI25.out] at hHid
   obtain ⟨i, sm, so, ci, e2, e3, e7, e8, e23, e24, e25, hrel⟩ := hHid
   have e := rgRC288 t
   (try dsimp only at e)
   rw [e2, e3, e7, e8, e23, e24, e25] at e
   rw [e]
   simp only [e25]
   clear e e2 e3 e7 e8 e23 e24 e25
   obtain ⟨hi_, hst, hci, HFB2, rfl, hs27, hF26⟩ := hrel
   clear hF20
   obtain ⟨w28, rfl⟩ : ∃ x_ : World, x_ = wr := ⟨_, rfl⟩
   have HFB := HFB2
   by_cases c29 : (i : Int) < (ls.length : Int)
   ·
    have c29H := lhd c29
    obtain ⟨x30, o31, e_⟩ := Sl.addr (hF26.at 5 rfl : Sl ptEnc 5 lo1 hi1 _ (.slice a1_ ls.length c1_) ls) (by omega)
    subst e_
    obtain ⟨z, hz32_⟩ : ∃ z_, ls[i]? = some z_ := ⟨_, List.getElem?_eq_getElem (by omega)⟩
    have hz32 := lhd hz32_
    clear hz32_
    have HZK := lhd (HRK.out.lg z (List.mem_of_getElem? hz32.out))
    have hzl := HZK.out.long
    have hzl2 := HRK.out.long z (List.mem_of_getElem? hz32.out)
    have HFS := lhd (foldl_snoc' (lgT useP) (um, false) hz32.out)
    have ge33 : World.cell? _ ⟨x30, o31 + i * 5, none⟩ = some (.int .i64 z.a) := (Sl.cells (hF26.at 5 rfl) hz32.out 0 _ rfl)
    have gl34 := cell_lt ge33
    have ge35 : World.cell? _ ⟨x30, o31 + i * 5 + 1, none⟩ = some (.int .i64 z.b) := (Sl.cells (hF26.at 5 rfl) hz32.out 1 _ rfl)
    have ge36 : World.cell? _ ⟨x30, o31 + i * 5 + 2, none⟩ = some (.int .i64 z.long) := (Sl.cells (hF26.at 5 rfl) hz32.out 2 _ rfl)
    have ge37 : World.cell? _ ⟨x30, o31 + i * 5 + 3, none⟩ = some (.int .i64 z.long) := (Sl.cells (hF26.at 5 rfl) hz32.out 3 _ rfl)
    have ge38 : World.cell? _ ⟨x30, o31 + i * 5 + 4, none⟩ = some (.int .i64 z.op) := (Sl.cells (hF26.at 5 rfl) hz32.out 4 _ rfl)
    go_wp2_with fail
    clear ge33 gl34 ge35 ge36 ge37 ge38
    have F39 := hF26.new 46 #[.int .i64 z.a, .int .i64 z.b, .int .i64 z.long, .int .i64 z.long, .int .i64 z.op] (n := w28.heap.size) (by simp)
    clear hF26
    refine (mayP_l z _).mono ?_
    rintro e w42 ⟨rfl, hg40⟩
    have hg40s := hg40.size
    (try simp at hg40s)
    replace F39 := F39.gn hg40
    clear hg40
    cases c44 : useP z
    ·
     have c44H := lhd c44
     have HU := lhd c44
     go_wp2_with fail
     have F45 : Bun w [rtim (w.heap.size + 1) ci sm, rbox w.heap.size 42 #[.int .i64 (n : Int), .slice (some ⟨x30, o31, none⟩) ls.length c1_, .slice (some ⟨x6, o7, none⟩) 1 c2_, .slice a3_ n c3_, .slice (some ⟨x9, o10, none⟩) 1 c4_], rsl chEnc 3 lo4 hi4 (.slice (some ⟨x9, o10, none⟩) 1 c4_) [m], rsl spEnc 2 lo3 hi3 (.slice a3_ n c3_) (ws0 n), rsl poEnc 7 lo2 hi2 (.slice (some ⟨x6, o7, none⟩) 1 c2_) [p], rsl ptEnc 5 lo1 hi1 (.slice (some ⟨x30, o31, none⟩) ls.length c1_) ls] _ := F39.pick [1, 2, 3, 4, 5, 6] (by decide) rfl
     clear F39
     (first | refine ⟨by kernel_rfl, ?_, ?_⟩ | refine ⟨rfl, ?_, ?_⟩ | refine ⟨?_, ?_⟩)
     · rw [HI25.out]; exact ⟨i + 1, _, _, _, by (iterate 6 refine ⟨by kernel_rfl, ?_⟩); exact ⟨(by show Value.int .i64 ((i : Int) + 1) = _; simp), (by omega), (lhd (by rw [HFS.out, hst.out, lgT_no HU.out])), (by omega), HFB, (by first | rfl | simp), (by first | omega | (simp; done) | (simp; omega)), F45⟩⟩
     · simp [slot, intOf]; omega
    have c44H := lhd c44
    have HU := lhd c44
    have b46 := F39.bx5 0 rfl
    go_wp2_with fail
    clear b46
    refine (endsOf_c z.long z.long _).mono ?_
    rintro e w49 ⟨rfl, hg47⟩
    have hg47s := hg47.size
    (try simp at hg47s)
    replace F39 := F39.gn hg47
    clear hg47
    have b51 := F39.bx5 0 rfl
    have ge52 : ∀ w, (Instr.index 84 (.agg #[.int .i64 z.long, .int .i64 z.long]) (.int .i64 0)).run Try.prog w = .ok (.int .i64 z.long) w := fun _ => by kernel_rfl
    go_wp2_with fail
    clear b51 ge52
    obtain ⟨HI53_, HI530⟩ : ∃ I : RelT, I = (fun t ds wr => ∃ (j : Nat) (qm : TM) (qo : Bool) (cq : Nat), t 2 = .int .i64 0 /\ t 3 = .pointer (some ⟨w.heap.size, 0, none⟩) /\ t 7 = .map (some (w.heap.size + 1)) /\ t 8 = .bool qo /\ t 11 = .int .i64 z.long /\ t 23 = .slice (some ⟨x30, o31, none⟩) ls.length c1_ /\ t 24 = .int .i64 (ls.length : Int) /\ t 25 = .int .i64 (i : Int) /\ t 49 = .agg #[.int .i64 z.a, .int .i64 z.b, .int .i64 z.b, .int .i64 z.a] /\ t 50 = .int .i64 (j : Int) /\ j <= 2 /\ Hid (halT z (sm, so) j = (qm, qo)) /\ cq <= ci + j /\ Hid (timB cq n qm) /\ ds = [] /\ w49.heap.size <= wr.heap.size /\ Bun w [rtim (w.heap.size + 1) cq qm, rbox w.heap.size 42 #[.int .i64 (n : Int), .slice (some ⟨x30, o31, none⟩) ls.length c1_, .slice (some ⟨x6, o7, none⟩) 1 c2_, .slice a3_ n c3_, .slice (some ⟨x9, o10, none⟩) 1 c4_], rsl chEnc 3 lo4 hi4 (.slice (some ⟨x9, o10, none⟩) 1 c4_) [m], rsl spEnc 2 lo3 hi3 (.slice a3_ n c3_) (ws0 n), rsl poEnc 7 lo2 hi2 (.slice (some ⟨x6, o7, none⟩) 1 c2_) [p], rsl ptEnc 5 lo1 hi1 (.slice (some ⟨x30, o31, none⟩) ls.length c1_) ls] wr) := ⟨_, rfl⟩
    have HI53 := lhd HI530
    clear HI530
    refine wp_loopS 88 rfl HI53_ (fun t wr => 2 - (intOf (t 50)).toNat) ?atStart2 ?round2
    case round2 =>
     intro t ds wr hHid
     rw [HI53.out] at hHid
     obtain ⟨j, qm, qo, cq, e2, e3, e7, e8, e11, e23, e24, e25, e49, e50, hrel⟩ := hHid
     have e := rgRC288 t
     (try dsimp only at e)
     rw [e2, e3, e7, e8, e11, e23, e24, e25, e49, e50] at e
     rw [e]
     simp only [e50]
     clear e e2 e3 e7 e8 e11 e23 e24 e25 e49 e50
     obtain ⟨hj, hha, hcq, HFB2q, rfl, hs55, hF54⟩ := hrel
     clear F39
     obtain ⟨w56, rfl⟩ : ∃ x_ : World, x_ = wr := ⟨_, rfl⟩
     have HFB := HFB2q
     by_cases c57 : (j : Int) < 2
     ·
      have c57H := lhd c57
      have hft := ft_bd HZK.out j
      have HHN := lhd (halT_next (l := z) (s := (sm, so)) (j := j) (by omega))
      have ge58 : ∀ w, (Instr.index 99 (.agg #[.int .i64 z.a, .int .i64 z.b, .int .i64 z.b, .int .i64 z.a]) (.int .i64 (j : Int))).run Try.prog w = .ok (.agg #[.int .i64 (frL z j), .int .i64 (toL z j)]) w := (by rcases (show j = 0 ∨ j = 1 by omega) with rfl | rfl <;> exact fun _ => by kernel_rfl)
      have F59 := hF54.new 83 #[.int .i64 (frL z j), .int .i64 (toL z j)] (n := w56.heap.size) (by simp)
      clear hF54
      rcases hm60 : tget qm (frL z j) with _ | tp61
      ·
       have HM62 := lhd hm60
       clear hm60
       have b63 := F59.bx2 0 rfl
       have ge64 : _ := TimMap.lookNo (F59.at 1 rfl : TimMap _ (w.heap.size + 1) cq qm) (by omega) HM62.out
       rcases hm65 : tget qm (toL z j) with _ | tp66
       ·
        have HM67 := lhd hm65
        clear hm65
        have b68 := F59.bx2 0 rfl
        have ge69 : _ := TimMap.lookNo (F59.at 1 rfl : TimMap _ (w.heap.size + 1) cq qm) (by omega) HM67.out
        go_wp2_with fail
        clear b68 ge69
        clear ge58 b63 ge64
        have F70 : Bun w [rtim (w.heap.size + 1) cq qm, rbox w.heap.size 42 #[.int .i64 (n : Int), .slice (some ⟨x30, o31, none⟩) ls.length c1_, .slice (some ⟨x6, o7, none⟩) 1 c2_, .slice a3_ n c3_, .slice (some ⟨x9, o10, none⟩) 1 c4_], rsl chEnc 3 lo4 hi4 (.slice (some ⟨x9, o10, none⟩) 1 c4_) [m], rsl spEnc 2 lo3 hi3 (.slice a3_ n c3_) (ws0 n), rsl poEnc 7 lo2 hi2 (.slice (some ⟨x6, o7, none⟩) 1 c2_) [p], rsl ptEnc 5 lo1 hi1 (.slice (some ⟨x30, o31, none⟩) ls.length c1_) ls] _ := F59.pick [1, 2, 3, 4, 5, 6] (by decide) rfl
        clear F59
        (first | refine ⟨by kernel_rfl, ?_, ?_⟩ | refine ⟨rfl, ?_, ?_⟩ | refine ⟨?_, ?_⟩)
        · rw [HI53.out]; exact ⟨j + 1, _, _, _, by (iterate 9 refine ⟨by kernel_rfl, ?_⟩); exact ⟨(by show Value.int .i64 ((j : Int) + 1) = _; simp), (by omega), (lhd (by rw [HHN.out, hha.out, relT_no HM62.out])), (by omega), HFB, (by first | rfl | simp), (by first | omega | (simp; done) | (simp; omega)), F70⟩⟩
        · simp [slot, intOf]; omega
       have HM71 := lhd hm65
       clear hm65
       have HM71b := HFB.out.2 _ _ HM71.out
       have b72 := F59.bx2 0 rfl
       have ge73 : _ := TimMap.look (F59.at 1 rfl : TimMap _ (w.heap.size + 1) cq qm) (by omega) HM71.out
       go_wp2_with fail
       clear b72 ge73
       clear ge58 b63 ge64
       have F74 : Bun w [rtim (w.heap.size + 1) cq qm, rbox w.heap.size 42 #[.int .i64 (n : Int), .slice (some ⟨x30, o31, none⟩) ls.length c1_, .slice (some ⟨x6, o7, none⟩) 1 c2_, .slice a3_ n c3_, .slice (some ⟨x9, o10, none⟩) 1 c4_], rsl chEnc 3 lo4 hi4 (.slice (some ⟨x9, o10, none⟩) 1 c4_) [m], rsl spEnc 2 lo3 hi3 (.slice a3_ n c3_) (ws0 n), rsl poEnc 7 lo2 hi2 (.slice (some ⟨x6, o7, none⟩) 1 c2_) [p], rsl ptEnc 5 lo1 hi1 (.slice (some ⟨x30, o31, none⟩) ls.length c1_) ls] _ := F59.pick [1, 2, 3, 4, 5, 6] (by decide) rfl
       clear F59
       (first | refine ⟨by kernel_rfl, ?_, ?_⟩ | refine ⟨rfl, ?_, ?_⟩ | refine ⟨?_, ?_⟩)
       · rw [HI53.out]; exact ⟨j + 1, _, _, _, by (iterate 9 refine ⟨by kernel_rfl, ?_⟩); exact ⟨(by show Value.int .i64 ((j : Int) + 1) = _; simp), (by omega), (lhd (by rw [HHN.out, hha.out, relT_no HM62.out])), (by omega), HFB, (by first | rfl | simp), (by first | omega | (simp; done) | (simp; omega)), F74⟩⟩
       · simp [slot, intOf]; omega
      have HM75 := lhd hm60
      clear hm60
      have HM75b := HFB.out.2 _ _ HM75.out
      have b76 := F59.bx2 0 rfl
      have ge77 : _ := TimMap.look (F59.at 1 rfl : TimMap _ (w.heap.size + 1) cq qm) (by omega) HM75.out
      rcases hm78 : tget qm (toL z j) with _ | tp79
      ·
       have HM80 := lhd hm78
       clear hm78
       have b81 := F59.bx2 0 rfl
       have ge82 : _ := TimMap.lookNo (F59.at 1 rfl : TimMap _ (w.heap.size + 1) cq qm) (by omega) HM80.out
       obtain ⟨w83, hr84, F85, hs86⟩ := (F59.front 1 rfl rfl).timPut (by omega) (x := (toL z j)) (p := tp61 + z.long) (by rw [HFB.out.1]; omega) (by rw [HFB.out.1]; omega)
       (try simp at hr84 hs86)
       clear F59
       go_wp2_with fail
       clear hr84
       clear ge58 b76 ge77 b81 ge82
       go_wp2_with fail
       have F87 : Bun w [rtim (w.heap.size + 1) (cq + 1) (tset qm (toL z j) (tp61 + z.long)), rbox w.heap.size 42 #[.int .i64 (n : Int), .slice (some ⟨x30, o31, none⟩) ls.length c1_, .slice (some ⟨x6, o7, none⟩) 1 c2_, .slice a3_ n c3_, .slice (some ⟨x9, o10, none⟩) 1 c4_], rsl chEnc 3 lo4 hi4 (.slice (some ⟨x9, o10, none⟩) 1 c4_) [m], rsl spEnc 2 lo3 hi3 (.slice a3_ n c3_) (ws0 n), rsl poEnc 7 lo2 hi2 (.slice (some ⟨x6, o7, none⟩) 1 c2_) [p], rsl ptEnc 5 lo1 hi1 (.slice (some ⟨x30, o31, none⟩) ls.length c1_) ls] _ := F85.pick [0, 2, 3, 4, 5, 6] (by decide) rfl
       clear F85
       (first | refine ⟨by kernel_rfl, ?_, ?_⟩ | refine ⟨rfl, ?_, ?_⟩ | refine ⟨?_, ?_⟩)
       · rw [HI53.out]; exact ⟨j + 1, _, _, _, by (iterate 9 refine ⟨by kernel_rfl, ?_⟩); exact ⟨(by show Value.int .i64 ((j : Int) + 1) = _; simp), (by omega), (lhd (by rw [HHN.out, hha.out, relT_new HM75.out HM80.out])), (by omega), (lhd (HFB.out.put (by omega) HM75.out (by omega))), (by first | rfl | simp), (by first | omega | (simp; done) | (simp; omega)), F87⟩⟩
       · simp [slot, intOf]; omega
      have HM88 := lhd hm78
      clear hm78
      have HM88b := HFB.out.2 _ _ HM88.out
      by_cases c89 : tp61 + z.long < tp79
      ·
       have c89H := lhd c89
       have b90 := F59.bx2 0 rfl
       have ge91 : _ := TimMap.look (F59.at 1 rfl : TimMap _ (w.heap.size + 1) cq qm) (by omega) HM88.out
       obtain ⟨w92, hr93, F94, hs95⟩ := (F59.front 1 rfl rfl).timPut (by omega) (x := (toL z j)) (p := tp61 + z.long) (by rw [HFB.out.1]; omega) (by rw [HFB.out.1]; omega)
       (try simp at hr93 hs95)
       clear F59
       go_wp2_with fail
       clear hr93
       clear ge58 b76 ge77 b90 ge91
       go_wp2_with fail
       have F96 : Bun w [rtim (w.heap.size + 1) (cq + 1) (tset qm (toL z j) (tp61 + z.long)), rbox w.heap.size 42 #[.int .i64 (n : Int), .slice (some ⟨x30, o31, none⟩) ls.length c1_, .slice (some ⟨x6, o7, none⟩) 1 c2_, .slice a3_ n c3_, .slice (some ⟨x9, o10, none⟩) 1 c4_], rsl chEnc 3 lo4 hi4 (.slice (some ⟨x9, o10, none⟩) 1 c4_) [m], rsl spEnc 2 lo3 hi3 (.slice a3_ n c3_) (ws0 n), rsl poEnc 7 lo2 hi2 (.slice (some ⟨x6, o7, none⟩) 1 c2_) [p], rsl ptEnc 5 lo1 hi1 (.slice (some ⟨x30, o31, none⟩) ls.length c1_) ls] _ := F94.pick [0, 2, 3, 4, 5, 6] (by decide) rfl
       clear F94
       (first | refine ⟨by kernel_rfl, ?_, ?_⟩ | refine ⟨rfl, ?_, ?_⟩ | refine ⟨?_, ?_⟩)
       · rw [HI53.out]; exact ⟨j + 1, _, _, _, by (iterate 9 refine ⟨by kernel_rfl, ?_⟩); exact ⟨(by show Value.int .i64 ((j : Int) + 1) = _; simp), (by omega), (lhd (by rw [HHN.out, hha.out, relT_less HM75.out HM88.out (by have h_ := c89H.out; omega)])), (by omega), (lhd (HFB.out.put (by omega) HM75.out (by omega))), (by first | rfl | simp), (by first | omega | (simp; done) | (simp; omega)), F96⟩⟩
       · simp [slot, intOf]; omega
      have c89H := lhd c89
      have c89a : decide (tp61 + z.long < tp79) = false := dec_f c89
      have b97 := F59.bx2 0 rfl
      have ge98 : _ := TimMap.look (F59.at 1 rfl : TimMap _ (w.heap.size + 1) cq qm) (by omega) HM88.out
      go_wp2_with fail
      clear b97 ge98
      clear ge58 b76 ge77
      have F99 : Bun w [rtim (w.heap.size + 1) cq qm, rbox w.heap.size 42 #[.int .i64 (n : Int), .slice (some ⟨x30, o31, none⟩) ls.length c1_, .slice (some ⟨x6, o7, none⟩) 1 c2_, .slice a3_ n c3_, .slice (some ⟨x9, o10, none⟩) 1 c4_], rsl chEnc 3 lo4 hi4 (.slice (some ⟨x9, o10, none⟩) 1 c4_) [m], rsl spEnc 2 lo3 hi3 (.slice a3_ n c3_) (ws0 n), rsl poEnc 7 lo2 hi2 (.slice (some ⟨x6, o7, none⟩) 1 c2_) [p], rsl ptEnc 5 lo1 hi1 (.slice (some ⟨x30, o31, none⟩) ls.length c1_) ls] _ := F59.pick [1, 2, 3, 4, 5, 6] (by decide) rfl
      clear F59
      (first | refine ⟨by kernel_rfl, ?_, ?_⟩ | refine ⟨rfl, ?_, ?_⟩ | refine ⟨?_, ?_⟩)
      · rw [HI53.out]; exact ⟨j + 1, _, _, _, by (iterate 9 refine ⟨by kernel_rfl, ?_⟩); exact ⟨(by show Value.int .i64 ((j : Int) + 1) = _; simp), (by omega), (lhd (by rw [HHN.out, hha.out, relT_more HM75.out HM88.out (by have h_ := c89H.out; omega)])), (by omega), HFB, (by first | rfl | simp), (by first | omega | (simp; done) | (simp; omega)), F99⟩⟩
      · simp [slot, intOf]; omega
     have c57H := lhd c57
     have c57a : decide ((j : Int) < 2) = false := dec_f c57
     go_wp2_with fail
     (first | refine ⟨by kernel_rfl, ?_, ?_⟩ | refine ⟨rfl, ?_, ?_⟩ | refine ⟨?_, ?_⟩)
     · rw [HI25.out]; exact ⟨i + 1, _, _, _, by (iterate 6 refine ⟨by kernel_rfl, ?_⟩); exact ⟨(by show Value.int .i64 ((i : Int) + 1) = _; simp), (by omega), (lhd (by rw [HFS.out, hst.out, lgT_yes HU.out, show 2 = j by omega]; exact hha.out)), (by omega), HFB, (by first | rfl | simp), (by first | omega | (simp; done) | (simp; omega)), hF54⟩⟩
     · simp [slot, intOf]; omega
    case atStart2 =>
     rw [HI53.out]
     exact ⟨0, _, _, _, (by kernel_rfl), (by kernel_rfl), (by kernel_rfl), rfl, by (iterate 5 refine ⟨by kernel_rfl, ?_⟩); exact ⟨rfl, Nat.zero_le _, (lhd rfl), (by omega), HFB, rfl, (by first | exact Nat.le_refl _ | omega | (simp; done) | (simp; omega)), (F39.drop 0 rfl)⟩⟩
   have c29H := lhd c29
   have c29a : decide ((i : Int) < (ls.length : Int)) = false := dec_f c29
   obtain ⟨K2, hK2_, HDS2_⟩ := HDT.out.next (m' := sm) (mo := so) (by rw [rndT, ← List.take_of_length_le (l := ls) (i := i) (by omega)]; exact hst.out)
   have HDS2 := lhd HDS2_
   have hK2 : K2 + 1 <= K /\ K <= K2 + 1 := by omega
   clear hK2_ HDS2_
   have HFB3 := HFB2
   go_wp2_with fail
   go_wp2_with fail
   have F100 : Bun w [rtim (w.heap.size + 1) ci sm, rbox w.heap.size 42 #[.int .i64 (n : Int), .slice a1_ ls.length c1_, .slice (some ⟨x6, o7, none⟩) 1 c2_, .slice a3_ n c3_, .slice (some ⟨x9, o10, none⟩) 1 c4_], rsl chEnc 3 lo4 hi4 (.slice (some ⟨x9, o10, none⟩) 1 c4_) [m], rsl spEnc 2 lo3 hi3 (.slice a3_ n c3_) (ws0 n), rsl poEnc 7 lo2 hi2 (.slice (some ⟨x6, o7, none⟩) 1 c2_) [p], rsl ptEnc 5 lo1 hi1 (.slice a1_ ls.length c1_) ls] _ := hF26.pick [0, 1, 2, 3, 4, 5] (by decide) rfl
   clear hF26
   (first | refine ⟨by kernel_rfl, K2, ?_, ?_⟩ | refine ⟨rfl, K2, ?_, ?_⟩ | refine ⟨K2, ?_, ?_⟩)
   · rw [HI18.out]; exact ⟨_, _, _, (by kernel_rfl), (by kernel_rfl), (by kernel_rfl), (by kernel_rfl), HDS2, (by omega), HFB3, rfl, (by first | omega | (simp; omega)), F100⟩
   · omega
  case atStart1 =>
   rw [HI25.out]
   exact ⟨0, _, _, _, (by kernel_rfl), (by kernel_rfl), (by kernel_rfl), rfl, (by kernel_rfl), (by kernel_rfl), rfl, Nat.zero_le _, (lhd rfl), (by omega), HFB, rfl, (by first | exact Nat.le_refl _ | omega | (simp; done) | (simp; omega)), hF20⟩
 case atG19 =>
  rw [HI18.out]
  exact ⟨true, _, _, (by kernel_rfl), (by kernel_rfl), (by kernel_rfl), (by kernel_rfl), HD, (by omega), HFB, rfl, Nat.le_refl _, F16⟩
set_option maxHeartbeats 16000000 in
theorem drivesS_c (vp vq vw vc : Value) (n : Nat) (ls : List Lg) (p : Pst) (m : Int) (from_ : Int) (K0 : Nat) (mf : TM) (w : World) (hr : RscAt w vp vq vw vc n ls p m) (hk : RscOk n ls p m) (hf : 0 <= from_ /\ from_ < n) (hK0 : K0 <= 1000) (hd : dsS ls useS mf K0 true (time0 n from_)) :
  Calls Try.prog 33 #[.agg #[.int .i64 (n : Int), vp, vq, vw, vc], .int .i64 from_, .int .i64 1] w (DriP n mf w) := by
 have hmm := @run_makeMap Try.prog
 have F1 : Bun w [] w := Bun.nil _
 obtain ⟨⟨lo1, hi1, hl1, hh1⟩, ⟨lo2, hi2, hl2, hh2⟩, ⟨lo3, hi3, hl3, hh3⟩, ⟨lo4, hi4, hl4, hh4⟩⟩ := hr
 have hm_ps := hl1.len
 unfold maxLen at hm_ps
 obtain ⟨a1_, c1_, rfl⟩ := hl1.any
 replace F1 := F1.sl0 hl1 hh1 rfl
 clear hl1
 have hm_po := hl2.len
 unfold maxLen at hm_po
 obtain ⟨a2_, c2_, rfl⟩ := hl2.any
 replace F1 := F1.sl0 hl2 hh2 rfl
 clear hl2
 have hm_wa := hl3.len
 unfold maxLen at hm_wa
 obtain ⟨a3_, c3_, rfl⟩ := hl3.any
 replace F1 := F1.sl0 hl3 hh3 rfl
 clear hl3
 have hm_ch := hl4.len
 unfold maxLen at hm_ch
 obtain ⟨a4_, c4_, rfl⟩ := hl4.any
 replace F1 := F1.sl0 hl4 hh4 rfl
 clear hl4
 rw [show (ws0 n).length = n from List.length_replicate] at F1 hm_wa
 obtain ⟨x6, o7, e_⟩ := Sl.addr (F1.at 2 rfl : Sl poEnc 7 lo2 hi2 _ (.slice a2_ [p].length c2_) [p]) Nat.zero_lt_one
 subst e_
 have hz8 : Hid ([p][0]? = some p) := lhd (rfl)
 obtain ⟨x9, o10, e_⟩ := Sl.addr (F1.at 0 rfl : Sl chEnc 3 lo4 hi4 _ (.slice a4_ [m].length c4_) [m]) Nat.zero_lt_one
 subst e_
 have hz11 : Hid ([m][0]? = some m) := lhd (rfl)
 have HRK := lhd hk
 have hnk_ := hk.nn
 have hlk_ := hk.len
 have hsk_ := hk.spot
 have hrk_ := hk.rdy
 have hmk_ := hk.mm
 clear hk
 have HD := lhd hd
 clear hd
 go_enter Try.func33, Try.ntmps33
 replace F1 := F1.new 42 #[.int .i64 (n : Int), .slice a1_ ls.length c1_, .slice (some ⟨x6, o7, none⟩) 1 c2_, .slice a3_ n c3_, .slice (some ⟨x9, o10, none⟩) 1 c4_] (n := w.heap.size) (by simp)
 replace F1 := F1.timNew n (g := (w.heap.size + 1)) (by simp)
 obtain ⟨w14, hr15, F16, hs17⟩ := F1.timPut (by omega) (x := from_) (p := 0) (by rw [List.length_replicate]; omega) (by rw [List.length_replicate]; omega)
 (try simp at hr15 hs17)
 clear F1
 go_wp2_with fail
 clear hr15
 have HFB := lhd (timB_0 (n := n) (x := from_) hf)
 go_wp2_with fail
 go_wp2_with fail
 obtain ⟨HI18_, HI180⟩ : ∃ I : Nat -> RelT, I = (fun K t ds wr => ∃ (mo : Bool) (um : TM) (cn : Nat), t 2 = .int .i64 1 /\ t 3 = .pointer (some ⟨w.heap.size, 0, none⟩) /\ t 7 = .map (some (w.heap.size + 1)) /\ t 8 = .bool mo /\ Hid (dsS ls useS mf K mo um) /\ (cn + 400 * K <= 400 * 1000 + 1) /\ Hid (timB cn n um) /\ ds = [] /\ w14.heap.size <= wr.heap.size /\ Bun w [rtim (w.heap.size + 1) cn um, rbox w.heap.size 42 #[.int .i64 (n : Int), .slice a1_ ls.length c1_, .slice (some ⟨x6, o7, none⟩) 1 c2_, .slice a3_ n c3_, .slice (some ⟨x9, o10, none⟩) 1 c4_], rsl chEnc 3 lo4 hi4 (.slice (some ⟨x9, o10, none⟩) 1 c4_) [m], rsl spEnc 2 lo3 hi3 (.slice a3_ n c3_) (ws0 n), rsl poEnc 7 lo2 hi2 (.slice (some ⟨x6, o7, none⟩) 1 c2_) [p], rsl ptEnc 5 lo1 hi1 (.slice a1_ ls.length c1_) ls] wr) := ⟨_, rfl⟩
 have HI18 := lhd HI180
 clear HI180
 refine wp_loopG 88 rfl HI18_ K0 ?atG19 ?roG19
 case roG19 =>
  intro K t ds wr hHid
  rw [HI18.out] at hHid
  obtain ⟨mo, um, cn, e2, e3, e7, e8, HDS, hcn, HFB, rfl, hs21, hF20⟩ := hHid
  clear F16
  have e := rgRC288 t
  (try dsimp only at e)
  rw [e2, e3, e7, e8] at e
  rw [e]
  clear e e2 e3 e7 e8
  obtain ⟨w22, rfl⟩ : ∃ x_ : World, x_ = wr := ⟨_, rfl⟩
  cases c23 : mo
  ·
   have c23H := lhd c23
   have HME : Hid (um = mf) := lhd (by have h_ := HDS.out; rw [c23] at h_; exact h_)
   go_wp2_with fail
   exact bodyPost_ret (v := .map (some (w.heap.size + 1))) (by simp [results, Try.results33, go_sem]) rfl ((⟨(w.heap.size + 1), _, rfl, (by first | omega | (simp; omega)), (by have h_ := (hF20.at 0 rfl : TimMap _ (w.heap.size + 1) cn um); rw [HME.out] at h_; exact h_), (by have h_ := HFB.out; rw [HME.out] at h_; exact h_.mono (by omega)), hF20.gb⟩))
  have c23H := lhd c23
  have HDT : Hid (dsS ls useS mf K true um) := lhd (by have h_ := HDS.out; rwa [c23] at h_)
  have b24 := hF20.bx5 1 rfl
  go_wp2_with fail
  clear b24
  obtain ⟨HI25_, HI250⟩ : ∃ I : RelT, I = (fun t ds wr => ∃ (i : Nat) (sm : TM) (so : Bool) (ci : Nat), t 2 = .int .i64 1 /\ t 3 = .pointer (some ⟨w.heap.size, 0, none⟩) /\ t 7 = .map (some (w.heap.size + 1)) /\ t 8 = .bool so /\ t 23 = .slice a1_ ls.length c1_ /\ t 24 = .int .i64 (ls.length : Int) /\ t 25 = .int .i64 (i : Int) /\ i <= ls.length /\ Hid ((ls.take i).foldl (lgT useS) (um, false) = (sm, so)) /\ ci <= cn + 2 * i /\ Hid (timB ci n sm) /\ ds = [] /\ w22.heap.size <= wr.heap.size /\ Bun w [rtim (w.heap.size + 1) ci sm, rbox w.heap.size 42 #[.int .i64 (n : Int), .slice a1_ ls.length c1_, .slice (some ⟨x6, o7, none⟩) 1 c2_, .slice a3_ n c3_, .slice (some ⟨x9, o10, none⟩) 1 c4_], rsl chEnc 3 lo4 hi4 (.slice (some ⟨x9, o10, none⟩) 1 c4_) [m], rsl spEnc 2 lo3 hi3 (.slice a3_ n c3_) (ws0 n), rsl poEnc 7 lo2 hi2 (.slice (some ⟨x6, o7, none⟩) 1 c2_) [p], rsl ptEnc 5 lo1 hi1 (.slice a1_ ls.length c1_) ls] wr) := ⟨_, rfl⟩
  have HI25 := lhd HI250
  clear HI250
  refine wp_loopS 88 rfl HI25_ (fun t wr => ls.length - (intOf (t 25)).toNat) ?atStart3 ?round3
  case round3 =>
   intro t ds wr hHid
   rw [HI25.out] at hHid
   obtain ⟨i, sm, so, ci, e2, e3, e7, e8, e23, e24, e25, hrel⟩ := hHid
   have e := rgRC288 t
   (try dsimp only at e)
   rw [e2, e3, e7, e8, e23, e24, e25] at e
   rw [e]
   simp only [e25]
   clear e e2 e3 e7 e8 e23 e24 e25
   obtain ⟨hi_, hst, hci, HFB2, rfl, hs27, hF26⟩ := hrel
   clear hF20
   obtain ⟨w28, rfl⟩ : ∃ x_ : World, x_ = wr := ⟨_, rfl⟩
   have HFB := HFB2
   by_cases c29 : (i : Int) < (ls.length : Int)
   ·
    have c29H := lhd c29
    obtain ⟨x30, o31, e_⟩ := Sl.addr (hF26.at 5 rfl : Sl ptEnc 5 lo1 hi1 _ (.slice a1_ ls.length c1_) ls) (by omega)
    subst e_
    obtain ⟨z, hz32_⟩ : ∃ z_, ls[i]? = some z_ := ⟨_, List.getElem?_eq_getElem (by omega)⟩
    have hz32 := lhd hz32_
    clear hz32_
    have HZK := lhd (HRK.out.lg z (List.mem_of_getElem? hz32.out))
    have hzl := HZK.out.long
    have hzl2 := HRK.out.long z (List.mem_of_getElem? hz32.out)
    have HFS := lhd (foldl_snoc' (lgT useS) (um, false) hz32.out)
    have ge33 : World.cell? _ ⟨x30, o31 + i * 5, none⟩ = some (.int .i64 z.a) := (Sl.cells (hF26.at 5 rfl) hz32.out 0 _ rfl)
    have gl34 := cell_lt ge33
    have ge35 : World.cell? _ ⟨x30, o31 + i * 5 + 1, none⟩ = some (.int .i64 z.b) := (Sl.cells (hF26.at 5 rfl) hz32.out 1 _ rfl)
    have ge36 : World.cell? _ ⟨x30, o31 + i * 5 + 2, none⟩ = some (.int .i64 z.long) := (Sl.cells (hF26.at 5 rfl) hz32.out 2 _ rfl)
    have ge37 : World.cell? _ ⟨x30, o31 + i * 5 + 3, none⟩ = some (.int .i64 z.long) := (Sl.cells (hF26.at 5 rfl) hz32.out 3 _ rfl)
    have ge38 : World.cell? _ ⟨x30, o31 + i * 5 + 4, none⟩ = some (.int .i64 z.op) := (Sl.cells (hF26.at 5 rfl) hz32.out 4 _ rfl)
    go_wp2_with fail
    clear ge33 gl34 ge35 ge36 ge37 ge38
    have F39 := hF26.new 46 #[.int .i64 z.a, .int .i64 z.b, .int .i64 z.long, .int .i64 z.long, .int .i64 z.op] (n := w28.heap.size) (by simp)
    clear hF26
    refine (mayS_l z _).mono ?_
    rintro e w42 ⟨rfl, hg40⟩
    have hg40s := hg40.size
    (try simp at hg40s)
    replace F39 := F39.gn hg40
    clear hg40
    cases c44 : useS z
    ·
     have c44H := lhd c44
     have HU := lhd c44
     go_wp2_with fail
     have F45 : Bun w [rtim (w.heap.size + 1) ci sm, rbox w.heap.size 42 #[.int .i64 (n : Int), .slice (some ⟨x30, o31, none⟩) ls.length c1_, .slice (some ⟨x6, o7, none⟩) 1 c2_, .slice a3_ n c3_, .slice (some ⟨x9, o10, none⟩) 1 c4_], rsl chEnc 3 lo4 hi4 (.slice (some ⟨x9, o10, none⟩) 1 c4_) [m], rsl spEnc 2 lo3 hi3 (.slice a3_ n c3_) (ws0 n), rsl poEnc 7 lo2 hi2 (.slice (some ⟨x6, o7, none⟩) 1 c2_) [p], rsl ptEnc 5 lo1 hi1 (.slice (some ⟨x30, o31, none⟩) ls.length c1_) ls] _ := F39.pick [1, 2, 3, 4, 5, 6] (by decide) rfl
     clear F39
     (first | refine ⟨by kernel_rfl, ?_, ?_⟩ | refine ⟨rfl, ?_, ?_⟩ | refine ⟨?_, ?_⟩)
     · rw [HI25.out]; exact ⟨i + 1, _, _, _, by (iterate 6 refine ⟨by kernel_rfl, ?_⟩); exact ⟨(by show Value.int .i64 ((i : Int) + 1) = _; simp), (by omega), (lhd (by rw [HFS.out, hst.out, lgT_no HU.out])), (by omega), HFB, (by first | rfl | simp), (by first | omega | (simp; done) | (simp; omega)), F45⟩⟩
     · simp [slot, intOf]; omega
    have c44H := lhd c44
    have HU := lhd c44
    have b46 := F39.bx5 0 rfl
    go_wp2_with fail
    clear b46
    refine (endsOf_c z.long z.long _).mono ?_
    rintro e w49 ⟨rfl, hg47⟩
    have hg47s := hg47.size
    (try simp at hg47s)
    replace F39 := F39.gn hg47
    clear hg47
    have b51 := F39.bx5 0 rfl
    have ge52 : ∀ w, (Instr.index 84 (.agg #[.int .i64 z.long, .int .i64 z.long]) (.int .i64 1)).run Try.prog w = .ok (.int .i64 z.long) w := fun _ => by kernel_rfl
    go_wp2_with fail
    clear b51 ge52
    obtain ⟨HI53_, HI530⟩ : ∃ I : RelT, I = (fun t ds wr => ∃ (j : Nat) (qm : TM) (qo : Bool) (cq : Nat), t 2 = .int .i64 1 /\ t 3 = .pointer (some ⟨w.heap.size, 0, none⟩) /\ t 7 = .map (some (w.heap.size + 1)) /\ t 8 = .bool qo /\ t 11 = .int .i64 z.long /\ t 23 = .slice (some ⟨x30, o31, none⟩) ls.length c1_ /\ t 24 = .int .i64 (ls.length : Int) /\ t 25 = .int .i64 (i : Int) /\ t 49 = .agg #[.int .i64 z.a, .int .i64 z.b, .int .i64 z.b, .int .i64 z.a] /\ t 50 = .int .i64 (j : Int) /\ j <= 2 /\ Hid (halT z (sm, so) j = (qm, qo)) /\ cq <= ci + j /\ Hid (timB cq n qm) /\ ds = [] /\ w49.heap.size <= wr.heap.size /\ Bun w [rtim (w.heap.size + 1) cq qm, rbox w.heap.size 42 #[.int .i64 (n : Int), .slice (some ⟨x30, o31, none⟩) ls.length c1_, .slice (some ⟨x6, o7, none⟩) 1 c2_, .slice a3_ n c3_, .slice (some ⟨x9, o10, none⟩) 1 c4_], rsl chEnc 3 lo4 hi4 (.slice (some ⟨x9, o10, none⟩) 1 c4_) [m], rsl spEnc 2 lo3 hi3 (.slice a3_ n c3_) (ws0 n), rsl poEnc 7 lo2 hi2 (.slice (some ⟨x6, o7, none⟩) 1 c2_) [p], rsl ptEnc 5 lo1 hi1 (.slice (some ⟨x30, o31, none⟩) ls.length c1_) ls] wr) := ⟨_, rfl⟩
    have HI53 := lhd HI530
    clear HI530
    refine wp_loopS 88 rfl HI53_ (fun t wr => 2 - (intOf (t 50)).toNat) ?atStart4 ?round4
    case round4 =>
     intro t ds wr hHid
     rw [HI53.out] at hHid
     obtain ⟨j, qm, qo, cq, e2, e3, e7, e8, e11, e23, e24, e25, e49, e50, hrel⟩ := hHid
     have e := rgRC288 t
     (try dsimp only at e)
     rw [e2, e3, e7, e8, e11, e23, e24, e25, e49, e50] at e
     rw [e]
     simp only [e50]
     clear e e2 e3 e7 e8 e11 e23 e24 e25 e49 e50
     obtain ⟨hj, hha, hcq, HFB2q, rfl, hs55, hF54⟩ := hrel
     clear F39
     obtain ⟨w56, rfl⟩ : ∃ x_ : World, x_ = wr := ⟨_, rfl⟩
     have HFB := HFB2q
     by_cases c57 : (j : Int) < 2
     ·
      have c57H := lhd c57
      have hft := ft_bd HZK.out j
      have HHN := lhd (halT_next (l := z) (s := (sm, so)) (j := j) (by omega))
      have ge58 : ∀ w, (Instr.index 99 (.agg #[.int .i64 z.a, .int .i64 z.b, .int .i64 z.b, .int .i64 z.a]) (.int .i64 (j : Int))).run Try.prog w = .ok (.agg #[.int .i64 (frL z j), .int .i64 (toL z j)]) w := (by rcases (show j = 0 ∨ j = 1 by omega) with rfl | rfl <;> exact fun _ => by kernel_rfl)
      have F59 := hF54.new 83 #[.int .i64 (frL z j), .int .i64 (toL z j)] (n := w56.heap.size) (by simp)
      clear hF54
      rcases hm60 : tget qm (frL z j) with _ | tp61
      ·
       have HM62 := lhd hm60
       clear hm60
       have b63 := F59.bx2 0 rfl
       have ge64 : _ := TimMap.lookNo (F59.at 1 rfl : TimMap _ (w.heap.size + 1) cq qm) (by omega) HM62.out
       rcases hm65 : tget qm (toL z j) with _ | tp66
       ·
        have HM67 := lhd hm65
        clear hm65
        have b68 := F59.bx2 0 rfl
        have ge69 : _ := TimMap.lookNo (F59.at 1 rfl : TimMap _ (w.heap.size + 1) cq qm) (by omega) HM67.out
        go_wp2_with fail
        clear b68 ge69
        clear ge58 b63 ge64
        have F70 : Bun w [rtim (w.heap.size + 1) cq qm, rbox w.heap.size 42 #[.int .i64 (n : Int), .slice (some ⟨x30, o31, none⟩) ls.length c1_, .slice (some ⟨x6, o7, none⟩) 1 c2_, .slice a3_ n c3_, .slice (some ⟨x9, o10, none⟩) 1 c4_], rsl chEnc 3 lo4 hi4 (.slice (some ⟨x9, o10, none⟩) 1 c4_) [m], rsl spEnc 2 lo3 hi3 (.slice a3_ n c3_) (ws0 n), rsl poEnc 7 lo2 hi2 (.slice (some ⟨x6, o7, none⟩) 1 c2_) [p], rsl ptEnc 5 lo1 hi1 (.slice (some ⟨x30, o31, none⟩) ls.length c1_) ls] _ := F59.pick [1, 2, 3, 4, 5, 6] (by decide) rfl
        clear F59
        (first | refine ⟨by kernel_rfl, ?_, ?_⟩ | refine ⟨rfl, ?_, ?_⟩ | refine ⟨?_, ?_⟩)
        · rw [HI53.out]; exact ⟨j + 1, _, _, _, by (iterate 9 refine ⟨by kernel_rfl, ?_⟩); exact ⟨(by show Value.int .i64 ((j : Int) + 1) = _; simp), (by omega), (lhd (by rw [HHN.out, hha.out, relT_no HM62.out])), (by omega), HFB, (by first | rfl | simp), (by first | omega | (simp; done) | (simp; omega)), F70⟩⟩
        · simp [slot, intOf]; omega
       have HM71 := lhd hm65
       clear hm65
       have HM71b := HFB.out.2 _ _ HM71.out
       have b72 := F59.bx2 0 rfl
       have ge73 : _ := TimMap.look (F59.at 1 rfl : TimMap _ (w.heap.size + 1) cq qm) (by omega) HM71.out
       go_wp2_with fail
       clear b72 ge73
       clear ge58 b63 ge64
       have F74 : Bun w [rtim (w.heap.size + 1) cq qm, rbox w.heap.size 42 #[.int .i64 (n : Int), .slice (some ⟨x30, o31, none⟩) ls.length c1_, .slice (some ⟨x6, o7, none⟩) 1 c2_, .slice a3_ n c3_, .slice (some ⟨x9, o10, none⟩) 1 c4_], rsl chEnc 3 lo4 hi4 (.slice (some ⟨x9, o10, none⟩) 1 c4_) [m], rsl spEnc 2 lo3 hi3 (.slice a3_ n c3_) (ws0 n), rsl poEnc 7 lo2 hi2 (.slice (some ⟨x6, o7, none⟩) 1 c2_) [p], rsl ptEnc 5 lo1 hi1 (.slice (some ⟨x30, o31, none⟩) ls.length c1_) ls] _ := F59.pick [1, 2, 3, 4, 5, 6] (by decide) rfl
       clear F59
       (first | refine ⟨by kernel_rfl, ?_, ?_⟩ | refine ⟨rfl, ?_, ?_⟩ | refine ⟨?_, ?_⟩)
       · rw [HI53.out]; exact ⟨j + 1, _, _, _, by (iterate 9 refine ⟨by kernel_rfl, ?_⟩); exact ⟨(by show Value.int .i64 ((j : Int) + 1) = _; simp), (by omega), (lhd (by rw [HHN.out, hha.out, relT_no HM62.out])), (by omega), HFB, (by first | rfl | simp), (by first | omega | (simp; done) | (simp; omega)), F74⟩⟩
       · simp [slot, intOf]; omega
      have HM75 := lhd hm60
      clear hm60
      have HM75b := HFB.out.2 _ _ HM75.out
      have b76 := F59.bx2 0 rfl
      have ge77 : _ := TimMap.look (F59.at 1 rfl : TimMap _ (w.heap.size + 1) cq qm) (by omega) HM75.out
      rcases hm78 : tget qm (toL z j) with _ | tp79
      ·
       have HM80 := lhd hm78
       clear hm78
       have b81 := F59.bx2 0 rfl
       have ge82 : _ := TimMap.lookNo (F59.at 1 rfl : TimMap _ (w.heap.size + 1) cq qm) (by omega) HM80.out
       obtain ⟨w83, hr84, F85, hs86⟩ := (F59.front 1 rfl rfl).timPut (by omega) (x := (toL z j)) (p := tp61 + z.long) (by rw [HFB.out.1]; omega) (by rw [HFB.out.1]; omega)
       (try simp at hr84 hs86)
       clear F59
       go_wp2_with fail
       clear hr84
       clear ge58 b76 ge77 b81 ge82
       go_wp2_with fail
       have F87 : Bun w [rtim (w.heap.size + 1) (cq + 1) (tset qm (toL z j) (tp61 + z.long)), rbox w.heap.size 42 #[.int .i64 (n : Int), .slice (some ⟨x30, o31, none⟩) ls.length c1_, .slice (some ⟨x6, o7, none⟩) 1 c2_, .slice a3_ n c3_, .slice (some ⟨x9, o10, none⟩) 1 c4_], rsl chEnc 3 lo4 hi4 (.slice (some ⟨x9, o10, none⟩) 1 c4_) [m], rsl spEnc 2 lo3 hi3 (.slice a3_ n c3_) (ws0 n), rsl poEnc 7 lo2 hi2 (.slice (some ⟨x6, o7, none⟩) 1 c2_) [p], rsl ptEnc 5 lo1 hi1 (.slice (some ⟨x30, o31, none⟩) ls.length c1_) ls] _ := F85.pick [0, 2, 3, 4, 5, 6] (by decide) rfl
       clear F85
       (first | refine ⟨by kernel_rfl, ?_, ?_⟩ | refine ⟨rfl, ?_, ?_⟩ | refine ⟨?_, ?_⟩)
       · rw [HI53.out]; exact ⟨j + 1, _, _, _, by (iterate 9 refine ⟨by kernel_rfl, ?_⟩); exact ⟨(by show Value.int .i64 ((j : Int) + 1) = _; simp), (by omega), (lhd (by rw [HHN.out, hha.out, relT_new HM75.out HM80.out])), (by omega), (lhd (HFB.out.put (by omega) HM75.out (by omega))), (by first | rfl | simp), (by first | omega | (simp; done) | (simp; omega)), F87⟩⟩
       · simp [slot, intOf]; omega
      have HM88 := lhd hm78
      clear hm78
      have HM88b := HFB.out.2 _ _ HM88.out
      by_cases c89 : tp61 + z.long < tp79
      ·
       have c89H := lhd c89
       have b90 := F59.bx2 0 rfl
       have ge91 : _ := TimMap.look (F59.at 1 rfl : TimMap _ (w.heap.size + 1) cq qm) (by omega) HM88.out
       obtain ⟨w92, hr93, F94, hs95⟩ := (F59.front 1 rfl rfl).timPut (by omega) (x := (toL z j)) (p := tp61 + z.long) (by rw [HFB.out.1]; omega) (by rw [HFB.out.1]; omega)
       (try simp at hr93 hs95)
       clear F59
       go_wp2_with fail
       clear hr93
       clear ge58 b76 ge77 b90 ge91
       go_wp2_with fail
       have F96 : Bun w [rtim (w.heap.size + 1) (cq + 1) (tset qm (toL z j) (tp61 + z.long)), rbox w.heap.size 42 #[.int .i64 (n : Int), .slice (some ⟨x30, o31, none⟩) ls.length c1_, .slice (some ⟨x6, o7, none⟩) 1 c2_, .slice a3_ n c3_, .slice (some ⟨x9, o10, none⟩) 1 c4_], rsl chEnc 3 lo4 hi4 (.slice (some ⟨x9, o10, none⟩) 1 c4_) [m], rsl spEnc 2 lo3 hi3 (.slice a3_ n c3_) (ws0 n), rsl poEnc 7 lo2 hi2 (.slice (some ⟨x6, o7, none⟩) 1 c2_) [p], rsl ptEnc 5 lo1 hi1 (.slice (some ⟨x30, o31, none⟩) ls.length c1_) ls] _ := F94.pick [0, 2, 3, 4, 5, 6] (by decide) rfl
       clear F94
       (first | refine ⟨by kernel_rfl, ?_, ?_⟩ | refine ⟨rfl, ?_, ?_⟩ | refine ⟨?_, ?_⟩)
       · rw [HI53.out]; exact ⟨j + 1, _, _, _, by (iterate 9 refine ⟨by kernel_rfl, ?_⟩); exact ⟨(by show Value.int .i64 ((j : Int) + 1) = _; simp), (by omega), (lhd (by rw [HHN.out, hha.out, relT_less HM75.out HM88.out (by have h_ := c89H.out; omega)])), (by omega), (lhd (HFB.out.put (by omega) HM75.out (by omega))), (by first | rfl | simp), (by first | omega | (simp; done) | (simp; omega)), F96⟩⟩
       · simp [slot, intOf]; omega
      have c89H := lhd c89
      have c89a : decide (tp61 + z.long < tp79) = false := dec_f c89
      have b97 := F59.bx2 0 rfl
      have ge98 : _ := TimMap.look (F59.at 1 rfl : TimMap _ (w.heap.size + 1) cq qm) (by omega) HM88.out
      go_wp2_with fail
      clear b97 ge98
      clear ge58 b76 ge77
      have F99 : Bun w [rtim (w.heap.size + 1) cq qm, rbox w.heap.size 42 #[.int .i64 (n : Int), .slice (some ⟨x30, o31, none⟩) ls.length c1_, .slice (some ⟨x6, o7, none⟩) 1 c2_, .slice a3_ n c3_, .slice (some ⟨x9, o10, none⟩) 1 c4_], rsl chEnc 3 lo4 hi4 (.slice (some ⟨x9, o10, none⟩) 1 c4_) [m], rsl spEnc 2 lo3 hi3 (.slice a3_ n c3_) (ws0 n), rsl poEnc 7 lo2 hi2 (.slice (some ⟨x6, o7, none⟩) 1 c2_) [p], rsl ptEnc 5 lo1 hi1 (.slice (some ⟨x30, o31, none⟩) ls.length c1_) ls] _ := F59.pick [1, 2, 3, 4, 5, 6] (by decide) rfl
      clear F59
      (first | refine ⟨by kernel_rfl, ?_, ?_⟩ | refine ⟨rfl, ?_, ?_⟩ | refine ⟨?_, ?_⟩)
      · rw [HI53.out]; exact ⟨j + 1, _, _, _, by (iterate 9 refine ⟨by kernel_rfl, ?_⟩); exact ⟨(by show Value.int .i64 ((j : Int) + 1) = _; simp), (by omega), (lhd (by rw [HHN.out, hha.out, relT_more HM75.out HM88.out (by have h_ := c89H.out; omega)])), (by omega), HFB, (by first | rfl | simp), (by first | omega | (simp; done) | (simp; omega)), F99⟩⟩
      · simp [slot, intOf]; omega
     have c57H := lhd c57
     have c57a : decide ((j : Int) < 2) = false := dec_f c57
     go_wp2_with fail
     (first | refine ⟨by kernel_rfl, ?_, ?_⟩ | refine ⟨rfl, ?_, ?_⟩ | refine ⟨?_, ?_⟩)
     · rw [HI25.out]; exact ⟨i + 1, _, _, _, by (iterate 6 refine ⟨by kernel_rfl, ?_⟩); exact ⟨(by show Value.int .i64 ((i : Int) + 1) = _; simp), (by omega), (lhd (by rw [HFS.out, hst.out, lgT_yes HU.out, show 2 = j by omega]; exact hha.out)), (by omega), HFB, (by first | rfl | simp), (by first | omega | (simp; done) | (simp; omega)), hF54⟩⟩
     · simp [slot, intOf]; omega
    case atStart4 =>
     rw [HI53.out]
     exact ⟨0, _, _, _, (by kernel_rfl), (by kernel_rfl), (by kernel_rfl), rfl, by (iterate 5 refine ⟨by kernel_rfl, ?_⟩); exact ⟨rfl, Nat.zero_le _, (lhd rfl), (by omega), HFB, rfl, (by first | exact Nat.le_refl _ | omega | (simp; done) | (simp; omega)), (F39.drop 0 rfl)⟩⟩
   have c29H := lhd c29
   have c29a : decide ((i : Int) < (ls.length : Int)) = false := dec_f c29
   obtain ⟨K2, hK2_, HDS2_⟩ := HDT.out.next (m' := sm) (mo := so) (by rw [rndT, ← List.take_of_length_le (l := ls) (i := i) (by omega)]; exact hst.out)
   have HDS2 := lhd HDS2_
   have hK2 : K2 + 1 <= K /\ K <= K2 + 1 := by omega
   clear hK2_ HDS2_
   have HFB3 := HFB2
   go_wp2_with fail
   go_wp2_with fail
   have F100 : Bun w [rtim (w.heap.size + 1) ci sm, rbox w.heap.size 42 #[.int .i64 (n : Int), .slice a1_ ls.length c1_, .slice (some ⟨x6, o7, none⟩) 1 c2_, .slice a3_ n c3_, .slice (some ⟨x9, o10, none⟩) 1 c4_], rsl chEnc 3 lo4 hi4 (.slice (some ⟨x9, o10, none⟩) 1 c4_) [m], rsl spEnc 2 lo3 hi3 (.slice a3_ n c3_) (ws0 n), rsl poEnc 7 lo2 hi2 (.slice (some ⟨x6, o7, none⟩) 1 c2_) [p], rsl ptEnc 5 lo1 hi1 (.slice a1_ ls.length c1_) ls] _ := hF26.pick [0, 1, 2, 3, 4, 5] (by decide) rfl
   clear hF26
   (first | refine ⟨by kernel_rfl, K2, ?_, ?_⟩ | refine ⟨rfl, K2, ?_, ?_⟩ | refine ⟨K2, ?_, ?_⟩)
   · rw [HI18.out]; exact ⟨_, _, _, (by kernel_rfl), (by kernel_rfl), (by kernel_rfl), (by kernel_rfl), HDS2, (by omega), HFB3, rfl, (by first | omega | (simp; omega)), F100⟩
   · omega
  case atStart3 =>
   rw [HI25.out]
   exact ⟨0, _, _, _, (by kernel_rfl), (by kernel_rfl), (by kernel_rfl), rfl, (by kernel_rfl), (by kernel_rfl), rfl, Nat.zero_le _, (lhd rfl), (by omega), HFB, rfl, (by first | exact Nat.le_refl _ | omega | (simp; done) | (simp; omega)), hF20⟩
 case atG19 =>
  rw [HI18.out]
  exact ⟨true, _, _, (by kernel_rfl), (by kernel_rfl), (by kernel_rfl), (by kernel_rfl), HD, (by omega), HFB, rfl, Nat.le_refl _, F16⟩
end Go.Proofs.Ytlefmbjipdlcfaa
