/- the kit of bear: tables and plates made of numbers. -/
import Derived.Test.YtdgplekokdeafaaQB12
import Derived.Test.YtdgplekokdeafaaQB1
import Derived.Test.YtdgplekokdeafaaQKF4
import Derived.Test.YtdgplekokdeafaaQK1
import Derived.Test.YtdgplekokdeafaaQJ2
import Derived.Test.YtdgplekokdeafaaQMixG
set_option linter.unusedVariables false
set_option linter.unusedSimpArgs false
set_option linter.unnecessarySimpa false
namespace Go.Proofs.Ytdgplekokdeafaa
open Go.RowKit
set_option maxRecDepth 100000
attribute [local go_sem] Oper.semAt_some
theorem infoSha : (Try.prog.info? 106).map (fun i => (i.zero, i.size, i.bytes)) = some (some (.agg #[.int .i64 0, .int .i64 0]), 2, 16) := by kernel_rfl
theorem okSha : ElemOk Try.prog 37 106 2 16 shaEnc where
 under := Try.underlying37
 info := info5 infoSha rfl
 pos := by omega
 small := by omega
 len := fun _ => rfl
 one := fun x u hu => by
  simp [shaEnc] at hu
  rcases hu with rfl | rfl <;> rfl
theorem of4b_c (b : Nat) (w : World) (g c : Nat) (x y z u : Int) (hs : SeedAt w b) (hgb : g ≠ b) (h0 : w.cell? ⟨g, 0, none⟩ = some (.int .i64 x)) (h1 : w.cell? ⟨g, 1, none⟩ = some (.int .i64 y)) (h2 : w.cell? ⟨g, 2, none⟩ = some (.int .i64 z)) (h3 : w.cell? ⟨g, 3, none⟩ = some (.int .i64 u)) :
  Calls Try.prog 21 #[.pointer (some ⟨b, 0, none⟩), .slice (some ⟨g, 0, none⟩) 4 c] w (Gen .i64 (fun r => r = x ∨ r = y ∨ r = z ∨ r = u) b w) := by
 refine (of_c b w hs g 0 4 c (fun i => [x, y, z, u].getD i 0) (by decide) (by decide) hgb (fun i hi => ?_)).mono ?_
 ·
  rcases i with _ | _ | _ | _ | i
  · exact h0
  · exact h1
  · exact h2
  · exact h3
  · omega
 rintro e w' ⟨r, rfl, ⟨i, hi, rfl⟩, hs, hg⟩
 refine ⟨_, rfl, ?_, hs, hg⟩
 rcases i with _ | _ | _ | _ | i
 · exact .inl rfl
 · exact .inr (.inl rfl)
 · exact .inr (.inr (.inl rfl))
 · exact .inr (.inr (.inr rfl))
 · omega
theorem Bus.boxOwn {α : Type} {enc : α -> List Value} {e t : TypeId} {sz b g n c sd : Nat} {cs : Array Value} {l : List α} {w0 A : World} {L : List Res} (h : Bus w0 sd (rbox g t cs :: L) A) (ho : Own enc e sz b A (.slice (some ⟨g, 0, none⟩) n c) l) : Bus w0 sd (rown enc e sz b (.slice (some ⟨g, 0, none⟩) n c) l :: L) A := by
 have hd := h.dis
 rw [List.pairwise_cons] at hd
 have hX : ∀ y, (rown enc e sz b (.slice (some ⟨g, 0, none⟩) n c) l).X y -> y = g := fun y hy => by
  have hy' : some g = some y := hy
  injection hy' with e
  exact e.symm
 refine ⟨fun r hr => ?_, fun r hr y hy => ?_, ?_, h.gb⟩
 ·
  rcases List.mem_cons.1 hr with rfl | hr
  · exact ho
  · exact h.all r (.tail _ hr)
 ·
  rcases List.mem_cons.1 hr with rfl | hr
  · exact h.bd _ (.head _) y (hX y hy)
  · exact h.bd r (.tail _ hr) y hy
 rw [List.pairwise_cons]
 exact ⟨fun r hr _ y hy => hd.1 r hr (.inl rfl) y (hX y hy), hd.2⟩
theorem own_litS {base g : Nat} {w : World} (h : Bk w g 106 #[.int .i64 0, .int .i64 1000000]) (hb : base <= g) : Own shaEnc 106 2 base w (.slice (some ⟨g, 0, none⟩) 1 1) [⟨0, 1000000⟩] :=
 ⟨rfl, .inr ⟨g, 1, #[.int .i64 0, .int .i64 1000000], rfl, hb, h, Nat.le_refl _, by simp [maxLen], rfl, rfl⟩⟩
def EndsAt (l : List Sha) (a p : Int) : Prop := ∀ q, l[l.length - 1]? = some q -> q.fr = a /\ q.pt = p
theorem endsAt_snoc (l : List Sha) (a p : Int) : EndsAt (l ++ [⟨a, p⟩]) a p := by
 intro q hq
 rw [List.length_append, List.getElem?_append_right (by simp)] at hq
 simp at hq
 subst hq
 exact ⟨rfl, rfl⟩
theorem tab_one : TabOk [⟨0, 1000000⟩] := by
 refine ⟨⟨by decide, by decide⟩, fun q h => ?_, fun i a b _ h => ?_, fun i a b _ h => ?_, fun q h => ?_, fun q h => ?_⟩
 · obtain rfl := Option.some.inj h; exact ⟨rfl, rfl⟩
 · cases h
 · cases h
 · obtain rfl := List.mem_singleton.1 h; exact ⟨by decide, by decide⟩
 · obtain rfl := List.mem_singleton.1 h; exact ⟨by decide, by decide⟩
theorem snoc_pair {l : List Sha} {x a b : Sha} {i : Nat} (ha : (l ++ [x])[i]? = some a) (hb : (l ++ [x])[i + 1]? = some b) : (l[i]? = some a /\ l[i + 1]? = some b) ∨ (l[l.length - 1]? = some a /\ b = x) := by
 by_cases h1 : i + 1 < l.length
 ·
  rw [List.getElem?_append_left (by omega)] at ha
  rw [List.getElem?_append_left h1] at hb
  exact .inl ⟨ha, hb⟩
 have h2 : i + 1 < (l ++ [x]).length := (List.getElem?_eq_some_iff.1 hb).1
 rw [List.length_append, List.length_singleton] at h2
 have h3 : i + 1 = l.length := by omega
 rw [List.getElem?_append_left (by omega)] at ha
 rw [h3, List.getElem?_append_right (Nat.le_refl _), Nat.sub_self] at hb
 obtain rfl := Option.some.inj hb
 exact .inr ⟨by rw [← h3, Nat.add_sub_cancel]; exact ha, rfl⟩
theorem tab_snoc {l : List Sha} {x : Sha} {a p : Int} (h : TabOk l) (hl : l.length < 20) (he : EndsAt l a p) (hu : a < x.fr) (hw : x.pt <= p) (hp : 0 <= x.pt /\ x.pt <= 1000000) (hf : 0 <= x.fr /\ x.fr <= 10000) : TabOk (l ++ [x]) := by
 have h0 := h.n.1
 refine ⟨⟨by simp, by simp; omega⟩, fun q hq => ?_, fun i y z hy hz => ?_, fun i y z hy hz => ?_, fun q hq => ?_, fun q hq => ?_⟩
 ·
  rw [List.getElem?_append_left h0] at hq
  exact h.z q hq
 ·
  rcases snoc_pair hy hz with ⟨h1, h2⟩ | ⟨h1, rfl⟩
  · exact h.up i y z h1 h2
  · have := (he y h1).1; omega
 ·
  rcases snoc_pair hy hz with ⟨h1, h2⟩ | ⟨h1, rfl⟩
  · exact h.dw i y z h1 h2
  · have := (he y h1).2; omega
 ·
  rcases List.mem_append.1 hq with hq | hq
  · exact h.pt q hq
  · obtain rfl := List.mem_singleton.1 hq; exact hp
 rcases List.mem_append.1 hq with hq | hq
 · exact h.far q hq
 · obtain rfl := List.mem_singleton.1 hq; exact hf
def TabP (sb : Nat) (w : World) : Ending -> World -> Prop := fun e w' => ∃ (l : List Sha) (a : Option Addr) (c lo hi : Nat), e = .returned (.slice a l.length c) /\ (w.heap.size <= lo /\ hi <= w'.heap.size) /\ Sl shaEnc 2 lo hi w' (.slice a l.length c) l /\ TabOk l /\ SeedAt w' sb /\ w.grownBy w' (some sb)
set_option maxHeartbeats 16000000 in
theorem tableOf_c (sb : Nat) (far : Int) (w : World) (hs : SeedAt w sb) (hfar : 4 <= far /\ far <= 2000) :
  Calls Try.prog 24 #[.pointer (some ⟨sb, 0, none⟩), .int .i64 far] w (TabP sb w) := by
 have F1 : Bus w sb [rseed sb] w := Bus.ofSeed hs
 have hsl := hs.lt
 clear hs
 go_enter Try.func24, Try.ntmps24
 go_wp2_with fail
 replace F1 := F1.new 106 #[.int .i64 0, .int .i64 1000000] (n := w.heap.size) (by simp)
 refine (below_c sb 5 _ (F1.e 1 rfl) (by omega) (by omega)).mono ?_
 rintro e w7 ⟨r2, rfl, hr3, hs6, hg5⟩
 unfold belowR at hr3
 have hg5s := hg5.size
 (try simp at hg5s)
 replace F1 := F1.seedAt 1 rfl hg5 hs6
 clear hg5
 go_wp2_with fail
 replace F1 := F1.boxOwn (own_litS (base := w.heap.size) (F1.b 0 rfl) (by first | exact Nat.le_refl _ | omega | (simp; omega)))
 (skip)
 obtain ⟨HI10_, HI100⟩ : ∃ I : RelT, I = (fun t ds wr => ∃ (c : Nat) (a p : Int) (vo : Value) (l : List Sha), t 0 = .pointer (some ⟨sb, 0, none⟩) /\ t 1 = .int .i64 far /\ t 5 = vo /\ t 6 = .int .i64 a /\ t 7 = .int .i64 p /\ t 8 = .int .i64 (c : Int) /\ (l.length + c <= 5 /\ 1 <= l.length) /\ Hid (TabOk l) /\ Hid (EndsAt l a p) /\ (0 <= a /\ a <= 500 * (l.length : Int)) /\ (0 <= p /\ p <= 1000000) /\ ds = [] /\ w7.heap.size <= wr.heap.size /\ Bus w sb [rown shaEnc 106 2 w.heap.size vo l, rseed sb] wr) := ⟨_, rfl⟩
 have HI10 := lhd HI100
 clear HI100
 refine wp_loopS 40 rfl HI10_ (fun t wr => (intOf (t 8)).toNat) ?atStart1 ?round1
 case round1 =>
  intro t ds wr hHid
  rw [HI10.out] at hHid
  obtain ⟨c, a, p, vo, l, e0, e1, e5, e6, e7, e8, hrel⟩ := hHid
  have e : ((List.range 40).map t).toArray = #[t 0, t 1, t 2, t 3, t 4, t 5, t 6, t 7, t 8, t 9, t 10, t 11, t 12, t 13, t 14, t 15, t 16, t 17, t 18, t 19, t 20, t 21, t 22, t 23, t 24, t 25, t 26, t 27, t 28, t 29, t 30, t 31, t 32, t 33, t 34, t 35, t 36, t 37, t 38, t 39] := rfl
  (try dsimp only at e)
  rw [e0, e1, e5, e6, e7, e8] at e
  rw [e]
  simp only [e8]
  clear e e0 e1 e5 e6 e7 e8
  obtain ⟨hlen, HTB, HEA, hab, hpb, rfl, hs12, hF11⟩ := hrel
  clear F1
  obtain ⟨w13, rfl⟩ : ∃ x_ : World, x_ = wr := ⟨_, rfl⟩
  by_cases c14 : 0 < (c : Int)
  ·
   have c14H := lhd c14
   go_wp2_with fail
   refine (from_c sb 1 (far / 4) _ (hF11.e 1 rfl) (by omega) (by omega) (by omega) (by omega)).mono ?_
   rintro e w19 ⟨r15, rfl, hr16, hs18, hg17⟩
   unfold fromR at hr16; have hr16b : 1 <= r15 /\ r15 <= (far / 4) := (by omega); clear hr16
   have hg17s := hg17.size
   (try simp at hg17s)
   have F20 := hF11.seedAt 1 rfl hg17 hs18
   clear hF11
   clear hg17
   go_wp2_with fail
   refine (from_c sb 0 p _ (F20.e 1 rfl) (by omega) (by omega) (by omega) (by omega)).mono ?_
   rintro e w25 ⟨r21, rfl, hr22, hs24, hg23⟩
   unfold fromR at hr22; have hr22b : 0 <= r21 /\ r21 <= p := (by omega); clear hr22
   have hg23s := hg23.size
   (try simp at hg23s)
   replace F20 := F20.seedAt 1 rfl hg23 hs24
   clear hg23
   go_wp2_with fail
   refine (from_c sb 0 p _ (F20.e 1 rfl) (by omega) (by omega) (by omega) (by omega)).mono ?_
   rintro e w31 ⟨r27, rfl, hr28, hs30, hg29⟩
   unfold fromR at hr28; have hr28b : 0 <= r27 /\ r27 <= p := (by omega); clear hr28
   have hg29s := hg29.size
   (try simp at hg29s)
   replace F20 := F20.seedAt 1 rfl hg29 hs30
   clear hg29
   go_wp2_with fail
   replace F20 := F20.new 3 #[.int .i64 0, .int .i64 p, .int .i64 r21, .int .i64 r27] (n := w31.heap.size) (by simp)
   refine (of4b_c sb _ w31.heap.size 4 0 p r21 r27 (F20.e 2 rfl) (by omega) (F20.q 0 0) (F20.q 0 1) (F20.q 0 2) (F20.q 0 3)).mono ?_
   rintro e w38 ⟨r33, rfl, hr34, hs37, hg36⟩
   have hg36s := hg36.size
   (try simp at hg36s)
   replace F20 := F20.seedAt 2 rfl hg36 hs37
   clear hg36
   go_wp2_with (at_builtin; refine wpList_app _ okSha rfl _ _ rfl w.heap.size vo l [(⟨a + r15, r33⟩ : Sha)] rfl (by exact ((F20.o 1 rfl)).alloc _) ⟨_, 0, none⟩ 1 1 rfl rfl (by decide) (news_of (Bk.newAt _ _ _ (by simp))) (l.length + 1) (by simp) (by omega) (by first | omega | (simp; omega)) _ rfl ?_; intro g40 cap41 w42 hp43; refine Hid.out ?_)
   refine lhd ?_
   have hp43s := hp43.gb.size
   (try simp at hp43s)
   have F44 := ((F20.alloc (.cells #[.int .i64 (a + r15), .int .i64 r33] 106)).front 1 rfl rfl).app hp43 (by simp)
   clear F20
   go_wp2_with fail
   have F45 : Bus w sb [rown shaEnc 106 2 w.heap.size (.slice (some ⟨g40, 0, none⟩) (l.length + 1) cap41) (l ++ [(⟨a + r15, r33⟩ : Sha)]), rseed sb] _ := F44.pick [0, 2] (by decide) rfl
   clear F44
   (first | refine ⟨rfl, ?_, ?_⟩ | refine ⟨?_, ?_⟩)
   · rw [HI10.out]; exact ⟨c - 1, a + r15, r33, _, _, rfl, rfl, rfl, rfl, rfl, (by show Value.int .i64 ((c : Int) - 1) = _; rw [show ((c : Int) - 1) = ((c - 1 : Nat) : Int) by omega]), (by simp; omega), lhd (tab_snoc (x := ⟨a + r15, r33⟩) HTB.out (by omega) HEA.out (by simp only; omega) (by simp only; omega) (by simp only; omega) (by simp only; omega)), lhd (endsAt_snoc _ _ _), (by simp; omega), (by omega), (by first | rfl | simp), (by first | omega | (simp; done) | (simp; omega)), F45⟩
   · simp [slot, intOf]; omega
  have c14H := lhd c14
  have c14a := dec_f c14
  go_wp2_with fail
  exact bodyPost_ret (v := vo) (by simp [results, Try.results24, go_sem]) rfl ((by obtain ⟨a_, c_, e_, _, s_⟩ := Own.slC (hF11.o 0 rfl) (fun _ => rfl); subst e_; exact ⟨l, a_, c_, _, _, rfl, ⟨Nat.le_refl _, Nat.le_refl _⟩, s_, HTB.out, (hF11.e 1 rfl), hF11.gb⟩))
 case atStart1 =>
  rw [HI10.out]
  exact ⟨r2.toNat, 0, 1000000, _, [(⟨0, 1000000⟩ : Sha)], rfl, rfl, rfl, rfl, rfl, (by rw [Int.toNat_of_nonneg (by omega)]; first | kernel_rfl | rfl), (by simp; omega), lhd tab_one, lhd (endsAt_snoc [] 0 1000000), (by simp), (by omega), rfl, (by first | exact Nat.le_refl _ | omega | (simp; done) | (simp; omega)), F1⟩
def PlaP (sb : Nat) (w : World) : Ending -> World -> Prop := fun e w' => ∃ (p : Pla) (as_ ac_ : Option Addr) (cs_ cc_ lo hi : Nat), e = .returned (.agg #[.int .i64 p.st.lo, .int .i64 p.st.hi, .slice as_ p.sh.length cs_, .slice ac_ p.cr.length cc_, .int .i64 p.near, .int .i64 p.edge, .int .i64 p.grav, .int .i64 p.low, .int .i64 p.high, .int .i64 p.shore, .int .i64 p.wider]) /\ (w.heap.size <= lo /\ hi <= w'.heap.size) /\ Sl shaEnc 2 lo hi w' (.slice as_ p.sh.length cs_) p.sh /\ Sl shaEnc 2 lo hi w' (.slice ac_ p.cr.length cc_) p.cr /\ PlaOk p /\ SeedAt w' sb /\ w.grownBy w' (some sb)
set_option maxHeartbeats 32000000 in
theorem plateOf_c (sb : Nat) (w : World) (hs : SeedAt w sb) :
  Calls Try.prog 9 #[.pointer (some ⟨sb, 0, none⟩)] w (PlaP sb w) := by
 have F1 : Bus w sb [rseed sb] w := Bus.ofSeed hs
 have hsl := hs.lt
 clear hs
 go_enter Try.func9, Try.ntmps9
 go_wp2_with fail
 replace F1 := F1.new 39 #[.int .i64 0, .int .i64 0, .slice none 0 0, .slice none 0 0, .int .i64 0, .int .i64 0, .int .i64 0, .int .i64 0, .int .i64 0, .int .i64 0, .int .i64 0] (n := w.heap.size) (by simp)
 replace F1 := F1.new 3 #[.int .i64 1, .int .i64 30000] (n := (w.heap.size + 1)) (by simp)
 refine (of2_c sb _ (w.heap.size + 1) 2 1 30000 (F1.e 2 rfl) (by omega) (F1.q 0 0) (F1.q 0 1)).mono ?_
 rintro e w8 ⟨r2, rfl, hr3, hs7, hg6⟩
 have hg6s := hg6.size
 (try simp at hg6s)
 replace F1 := F1.seedAt 2 rfl hg6 hs7
 clear hg6
 go_wp2_with fail
 replace F1 := F1.new 3 #[.int .i64 60000, .int .i64 100000] (n := w8.heap.size) (by simp)
 refine (of2_c sb _ w8.heap.size 2 60000 100000 (F1.e 3 rfl) (by omega) (F1.q 0 0) (F1.q 0 1)).mono ?_
 rintro e w15 ⟨r10, rfl, hr11, hs14, hg13⟩
 have hg13s := hg13.size
 (try simp at hg13s)
 replace F1 := F1.seedAt 3 rfl hg13 hs14
 clear hg13
 go_wp2_with fail
 refine (spanOf_c sb r2 r10 _ (F1.e 3 rfl) (by omega) (by omega) (by omega)).mono ?_
 rintro e w22 ⟨_, rfl, ⟨lo17, hi18, rfl, hr19a, hr19b, hr19c⟩, hs21, hg20⟩
 have hg20s := hg20.size
 (try simp at hg20s)
 replace F1 := F1.seedAt 3 rfl hg20 hs21
 clear hg20
 go_wp2_with fail
 refine (tableOf_c sb 200 _ ((F1.front 3 rfl rfl).at 0 rfl : SeedAt _ sb) (by omega)).mono ?_
 rintro e w27 ⟨ltb24, atb24, ctb24, lotb24, hitb24, rfl, ⟨hxtb24, hytb24⟩, hztb24, httb24, hs26, hg25⟩
 have HTtb24 := lhd httb24
 clear httb24
 have hg25s := hg25.size
 (try simp at hg25s)
 have F28 := (F1.front 3 rfl rfl).seedAdd (rsl shaEnc 2 lotb24 hitb24 (.slice atb24 ltb24.length ctb24) ltb24) hg25 hs26 (hztb24) (fun g e => ⟨Nat.le_trans hxtb24 e.1, Nat.lt_of_lt_of_le e.2 hytb24⟩)
 clear F1
 clear hg25
 go_wp2_with fail
 refine (tableOf_c sb 2000 _ ((F28.front 1 rfl rfl).at 0 rfl : SeedAt _ sb) (by omega)).mono ?_
 rintro e w32 ⟨ltb29, atb29, ctb29, lotb29, hitb29, rfl, ⟨hxtb29, hytb29⟩, hztb29, httb29, hs31, hg30⟩
 have HTtb29 := lhd httb29
 clear httb29
 have hg30s := hg30.size
 (try simp at hg30s)
 have F33 := (F28.front 1 rfl rfl).seedAdd (rsl shaEnc 2 lotb29 hitb29 (.slice atb29 ltb29.length ctb29) ltb29) hg30 hs31 (hztb29) (fun g e => ⟨Nat.le_trans hxtb29 e.1, Nat.lt_of_lt_of_le e.2 hytb29⟩)
 clear F28
 clear hg30
 go_wp2_with fail
 replace F33 := F33.new 3 #[.int .i64 0, .int .i64 5, .int .i64 40] (n := w32.heap.size) (by simp)
 refine (of3_c sb _ w32.heap.size 3 0 5 40 (F33.e 2 rfl) (by omega) (F33.q 0 0) (F33.q 0 1) (F33.q 0 2)).mono ?_
 rintro e w39 ⟨r34, rfl, hr35, hs38, hg37⟩
 have hg37s := hg37.size
 (try simp at hg37s)
 replace F33 := F33.seedAt 2 rfl hg37 hs38
 clear hg37
 go_wp2_with fail
 refine (from_c sb 0 1000000 _ (F33.e 2 rfl) (by omega) (by omega) (by omega) (by omega)).mono ?_
 rintro e w45 ⟨r41, rfl, hr42, hs44, hg43⟩
 unfold fromR at hr42; have hr42b : 0 <= r41 /\ r41 <= 1000000 := (by omega); clear hr42
 have hg43s := hg43.size
 (try simp at hg43s)
 replace F33 := F33.seedAt 2 rfl hg43 hs44
 clear hg43
 go_wp2_with fail
 refine (from_c sb 1 1000 _ (F33.e 2 rfl) (by omega) (by omega) (by omega) (by omega)).mono ?_
 rintro e w51 ⟨r47, rfl, hr48, hs50, hg49⟩
 unfold fromR at hr48; have hr48b : 1 <= r47 /\ r47 <= 1000 := (by omega); clear hr48
 have hg49s := hg49.size
 (try simp at hg49s)
 replace F33 := F33.seedAt 2 rfl hg49 hs50
 clear hg49
 go_wp2_with fail
 replace F33 := F33.new 3 #[.int .i64 98, .int .i64 1, .int .i64 r47] (n := w51.heap.size) (by simp)
 refine (of3_c sb _ w51.heap.size 3 98 1 r47 (F33.e 3 rfl) (by omega) (F33.q 0 0) (F33.q 0 1) (F33.q 0 2)).mono ?_
 rintro e w58 ⟨r53, rfl, hr54, hs57, hg56⟩
 have hg56s := hg56.size
 (try simp at hg56s)
 replace F33 := F33.seedAt 3 rfl hg56 hs57
 clear hg56
 go_wp2_with fail
 refine (from_c sb 1 1000000 _ (F33.e 3 rfl) (by omega) (by omega) (by omega) (by omega)).mono ?_
 rintro e w64 ⟨r60, rfl, hr61, hs63, hg62⟩
 unfold fromR at hr61; have hr61b : 1 <= r60 /\ r60 <= 1000000 := (by omega); clear hr61
 have hg62s := hg62.size
 (try simp at hg62s)
 replace F33 := F33.seedAt 3 rfl hg62 hs63
 clear hg62
 go_wp2_with fail
 refine (below_c sb 400 _ (F33.e 3 rfl) (by omega) (by omega)).mono ?_
 rintro e w70 ⟨r66, rfl, hr67, hs69, hg68⟩
 unfold belowR at hr67
 have hg68s := hg68.size
 (try simp at hg68s)
 replace F33 := F33.seedAt 3 rfl hg68 hs69
 clear hg68
 go_wp2_with fail
 refine (from_c sb 0 1000000 _ (F33.e 3 rfl) (by omega) (by omega) (by omega) (by omega)).mono ?_
 rintro e w76 ⟨r72, rfl, hr73, hs75, hg74⟩
 unfold fromR at hr73; have hr73b : 0 <= r72 /\ r72 <= 1000000 := (by omega); clear hr73
 have hg74s := hg74.size
 (try simp at hg74s)
 replace F33 := F33.seedAt 3 rfl hg74 hs75
 clear hg74
 go_wp2_with fail
 replace F33 := F33.new 3 #[.int .i64 0, .int .i64 r72, .int .i64 1000000] (n := w76.heap.size) (by simp)
 refine (of3_c sb _ w76.heap.size 3 0 r72 1000000 (F33.e 4 rfl) (by omega) (F33.q 0 0) (F33.q 0 1) (F33.q 0 2)).mono ?_
 rintro e w83 ⟨r78, rfl, hr79, hs82, hg81⟩
 have hg81s := hg81.size
 (try simp at hg81s)
 replace F33 := F33.seedAt 4 rfl hg81 hs82
 clear hg81
 go_wp2_with fail
 replace F33 := F33.new 39 #[.int .i64 lo17, .int .i64 hi18, .slice atb24 ltb24.length ctb24, .slice atb29 ltb29.length ctb29, .int .i64 r34, .int .i64 r41, .int .i64 r53, .int .i64 r60, .int .i64 0, .int .i64 r66, .int .i64 r78] (n := w83.heap.size) (by simp)
 have Fn_ := (((((F33.drop 1 rfl).drop 1 rfl).drop 1 rfl).drop 4 rfl).drop 4 rfl)
 (try dsimp only [lpF, lpG] at Fn_)
 obtain ⟨w90, hx91, F93, hxs92⟩ := Fn_.name
 (try simp at hxs92)
 rw [hx91]
 clear hx91 F33 Fn_
 replace F93 := F93.drew
 refine ru_begin (fun W => W.cell? ⟨w83.heap.size, 7, none⟩ = some (.int .i64 r60)) 10 (by kernel_rfl) ?_ ?_
 · exact F93.q 0 7
 obtain ⟨wd96, hwd_⟩ : ∃ x : World, w90.drew = x := ⟨_, rfl⟩
 rw [hwd_] at F93 ⊢
 have wd96s : w90.heap.size <= wd96.heap.size := by rw [← hwd_]; exact Nat.le_refl _
 clear hwd_
 have hS95 := (F93.q 0 7)
 refine ru_t 0 [] ?_
 refine ru_t 1 [] ?_
 refine ru_t 2 [] ?_
 refine ru_t 3 [] ?_
 refine ru_t 4 [] ?_
 refine ru_t 5 [] ?_
 (try simp only [lpX])
 clear hS95
 refine ru_o 6 fun K hK => ?_
 go_simp
 refine (from_c sb r60 2000000 _ (F93.e 2 rfl) (by omega) (by omega) (by omega) (by omega)).mono ?_
 rintro e w101 ⟨r97, rfl, hr98, hs100, hg99⟩
 unfold fromR at hr98; have hr98b : r60 <= r97 /\ r97 <= 2000000 := (by omega); clear hr98
 have hg99s := hg99.size
 (try simp at hg99s)
 replace F93 := F93.seedAt 2 rfl hg99 hs100
 refine ru_back hK (by exact F93.q 0 7) (fun _ => ?_)
 clear hK K
 (try simp only [lpX])
 refine ru_o 7 fun K hK => ?_
 go_simp
 replace F93 := F93.new 3 #[.int .i64 r60, .int .i64 r97] (n := w101.heap.size) (by simp)
 refine ru_back hK (by exact F93.q 1 7) (fun _ => ?_)
 clear hK K
 (try simp only [lpX])
 refine ru_o 8 fun K hK => ?_
 go_simp
 refine (of2_c sb _ w101.heap.size 2 r60 r97 (F93.e 3 rfl) (by omega) (F93.q 0 0) (F93.q 0 1)).mono ?_
 rintro e w108 ⟨r104, rfl, hr105, hs107, hg106⟩
 have hg106s := hg106.size
 (try simp at hg106s)
 replace F93 := F93.seedAt 3 rfl hg106 hs107
 refine ru_back hK (by exact F93.q 1 7) (fun _ => ?_)
 clear hK K
 (try simp only [lpX])
 refine ru_p 9 ?_
 (try simp only [lpX])
 refine ru_o 10 fun K hK => ?_
 have kb_ := F93.bx11 1 rfl
 go_simp
 clear kb_
 have F110 := ((F93.front 1 rfl rfl).set 8 (.int .i64 r104)).nf #[.int .i64 lo17, .int .i64 hi18, .slice atb24 ltb24.length ctb24, .slice atb29 ltb29.length ctb29, .int .i64 r34, .int .i64 r41, .int .i64 r53, .int .i64 r60, .int .i64 r104, .int .i64 r66, .int .i64 r78] rfl
 clear F93
 refine ru_back_late hK (by kernel_rfl) ?_
 clear hK K
 (try simp only [lpX])
 refine ru_done (by kernel_rfl) ?_
 have Fn_ := (F110.drop 1 rfl)
 (try dsimp only [lpF, lpG] at Fn_)
 obtain ⟨w111, hx112, F114, hxs113⟩ := Fn_.name
 (try simp at hxs113)
 rw [hx112]
 clear hx112 F110 Fn_
 have b115 := F114.bx11 0 rfl
 have b116 := F114.bx11 4 rfl
 go_wp2_with fail
 clear b115 b116
 have F117 := (F114.front 4 rfl rfl).pt11 (.int .i64 lo17) (.int .i64 hi18) (.slice atb24 ltb24.length ctb24) (.slice atb29 ltb29.length ctb29) (.int .i64 r34) (.int .i64 r41) (.int .i64 r53) (.int .i64 r60) (.int .i64 r104) (.int .i64 r66) (.int .i64 r78)
 clear F114
 have kb118 := F117.bx11 0 rfl
 go_wp2_with fail
 exact bodyPost_ret (v := .agg #[.int .i64 lo17, .int .i64 hi18, .slice atb24 ltb24.length ctb24, .slice atb29 ltb29.length ctb29, .int .i64 r34, .int .i64 r41, .int .i64 r53, .int .i64 r60, .int .i64 r104, .int .i64 r66, .int .i64 r78]) (by simp [results, Try.results9, go_sem, kb118]) rfl (⟨(⟨⟨lo17, hi18⟩, ltb24, ltb29, r34, r41, r53, r60, r104, r66, r78⟩ : Pla), _, _, _, _, w.heap.size, _, rfl, ⟨Nat.le_refl _, Nat.le_refl _⟩, (F117.s 4 rfl).wide (by first | omega | (simp; omega)) (by first | omega | (simp; omega)), (F117.s 2 rfl).wide (by first | omega | (simp; omega)) (by first | omega | (simp; omega)), ⟨by simp only; omega, HTtb24.out, HTtb29.out, by simp only; omega, by simp only; omega, by simp only; omega, by simp only; omega, by simp only; omega, by simp only; omega⟩, (F117.e 3 rfl), F117.gb⟩)
end Go.Proofs.Ytdgplekokdeafaa
