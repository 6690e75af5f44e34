/- build: orders are tried. -/
import Derived.Test.YtcoldeolmleeiaaGreatKO2
import Derived.Test.YtcoldeolmleeiaaGreatKI1
import Derived.Test.YtcoldeolmleeiaaGreatKGG5
set_option linter.unusedVariables false
set_option linter.unusedSimpArgs false
set_option linter.unnecessarySimpa false
namespace Go.Proofs.YtcoldeolmleeiaaGreat
open Go.RowKit
set_option maxRecDepth 100000
attribute [local go_sem] Oper.semAt_some
attribute [local go_sem] run_store_fn
theorem Bun.ownSl {w0 A : World} {L : List Res} {b g n c : Nat} {l : List Int} (h : Bun w0 (rown intEnc 3 1 b (.slice (some ⟨g, 0, none⟩) n c) l :: L) A) : Bun w0 (rsl intEnc 1 g (g + 1) (.slice (some ⟨g, 0, none⟩) n c) l :: L) A := by
 have ho : Own intEnc 3 1 b A (.slice (some ⟨g, 0, none⟩) n c) l := h.at 0 rfl
 refine h.wr (r' := rsl intEnc 1 g (g + 1) (.slice (some ⟨g, 0, none⟩) n c) l) rfl (gb_refl _ none) (fun _ e => by cases e) (Own.slG ho (fun _ => rfl)) fun k hk => ?_
 have hk' : g <= k /\ k < g + 1 := hk
 obtain rfl : k = g := by omega
 exact ⟨.inl rfl, (ho.lt _ rfl).2⟩
theorem mem_ints {now : List Nat} {a : Int} (h : 0 <= a) : hasI (ints now) a = decide (a.toNat ∈ now) := by
 by_cases hm : a.toNat ∈ now
 ·
  rw [decide_eq_true hm]
  exact hasI_iff.2 (List.mem_map.2 ⟨a.toNat, hm, (by first | omega | (simp; omega))⟩)
 rw [decide_eq_false hm, Bool.eq_false_iff]
 intro h2
 obtain ⟨n, h3, h4⟩ := List.mem_map.1 (hasI_iff.1 h2)
 exact hm (by rw [← h4]; simpa using h3)
def dB (now : List Nat) (k : Nat) (l : List Int) : Bool := !(hasI (ints now) (k : Int)) && l.all fun a => hasI (ints now) a
theorem dB_next {now : List Nat} {k j : Nat} {l : List Int} {y : Int} (h : l[j]? = some y) : dB now k (l.take (j + 1)) = (dB now k (l.take j) && hasI (ints now) y) := by
 unfold dB
 rw [← take_snoc h, List.all_append, Bool.and_assoc]
 simp
theorem dB_ext {ts : List Tsk} {now : List Nat} {k : Nat} {z : Tsk} (hz : tk ts k = z) (h0 : ∀ a ∈ z.af, 0 <= a) : dB now k z.af = extB ts now k := by
 have h1 : ∀ l : List Int, (∀ a ∈ l, 0 <= a) -> (l.all fun a => hasI (ints now) a) = l.all fun a => decide (a.toNat ∈ now) := by
  intro l
  induction l with
  | nil => intro _; rfl
  | cons x l ih => intro h; rw [List.all_cons, List.all_cons, ih (fun a ha => h a (.tail _ ha)), mem_ints (h x (.head _))]
 unfold dB extB
 rw [hz, h1 _ h0, mem_ints (show (0 : Int) <= (k : Int) by omega), Int.toNat_natCast]
theorem opens_o (lo hi : Nat) (vm vt : Value) (ms : List Mch) (lt ts : List Tsk) (o : List Nat) (lo2 hi2 : Nat) (vd : Value) (dl : List Wea) (w : World) (hj : JobAt lo hi w vm vt ms lt) (h2 : hi <= w.heap.size) (hd : Sl weaEnc 6 lo2 hi2 w vd dl) (h3 : hi2 <= w.heap.size) (hok : JobOk ms ts) (hn : dl.length <= 400) (hm : mixT ts.length lt (ordT ts o)) (hop : OrdP ts o) (hol : o.length = ts.length) :
  Calls Tryz.prog 49 #[.agg #[vm, vt], vd] w (Ret (.int .i64 (opO ms ts dl o)) w) := by
 have hjo := JobOk.ord hok hop hol
 have hjl : JobOk ms lt := by
  refine ⟨hjo.nm, by rw [hm.1]; exact hjo.nt, hjo.mo, fun k t hk => ?_⟩
  obtain ⟨y, hy⟩ : ∃ y, (ordT ts o)[k]? = some y := ⟨_, List.getElem?_eq_getElem (by rw [← hm.1]; exact (List.getElem?_eq_some_iff.1 hk).1)⟩
  obtain ⟨⟨e1, e2, e3, e4, e5⟩, _⟩ := hm.2.1 k t y hk hy
  have h4 := hjo.to_ k y hy
  exact ⟨by rw [e1]; exact h4.m, by rw [e2]; exact h4.ho, by rw [e3]; exact h4.wa, by rw [e4]; exact h4.fr, by rw [e5]; exact h4.af, by rw [e5]; exact h4.nd⟩
 have h5 := opens_c lo hi vm vt ms lt lo2 hi2 vd dl w hj h2 hd h3 hjl hn
 rw [caseOf_same hm, hm.1, ordT_len, hol] at h5
 exact h5
def TryP (b0 lo hi lo2 hi2 gf go gq gj gd gt : Nat) (aM aT ad : Option Addr) (cM cT cd : Nat) (ms : List Mch) (ts : List Tsk) (dl : List Wea) (f : Nat) : Prop := ∀ (w0 w : World) (LR : List Res) (s : BS) (now : List Nat) (lon hin : Nat) (vn ov : Value), Bun w0 [rbox gf 4 #[.bool s.found], rbox go 3 #[.int .i64 s.open_], rbox gq 28 #[ov], rown intEnc 3 1 b0 ov (ints s.order), rbox gj 25 #[.slice aM ms.length cM, .slice aT ts.length cT], rbox gd 40 #[.slice ad dl.length cd], rbox gt 112 #[.func (.func 54) #[] #[.pointer (some ⟨gj, 0, none⟩), .pointer (some ⟨gd, 0, none⟩), .pointer (some ⟨gf, 0, none⟩), .pointer (some ⟨go, 0, none⟩), .pointer (some ⟨gq, 0, none⟩), .pointer (some ⟨gt, 0, none⟩)]], rsl intEnc 1 lon hin vn (ints now), rsl weaEnc 6 lo2 hi2 (.slice ad dl.length cd) dl, rafs lo hi ts, rsl tskEnc 8 lo hi (.slice aT ts.length cT) ts, rsl mchEnc 3 lo hi (.slice aM ms.length cM) ms, rall LR] w -> b0 <= w0.heap.size -> OrdP ts now -> now.length + f = ts.length →
 Calls Tryz.prog 54 #[vn, .pointer (some ⟨gj, 0, none⟩), .pointer (some ⟨gd, 0, none⟩), .pointer (some ⟨gf, 0, none⟩), .pointer (some ⟨go, 0, none⟩), .pointer (some ⟨gq, 0, none⟩), .pointer (some ⟨gt, 0, none⟩)] w (fun e w' => ∃ ov' : Value, e = .returned (.tuple #[]) /\ Bun w0 [rbox gf 4 #[.bool (tryS ms ts dl (ords ts f now) s).found], rbox go 3 #[.int .i64 ((tryS ms ts dl (ords ts f now) s).open_)], rbox gq 28 #[ov'], rown intEnc 3 1 b0 ov' (ints (tryS ms ts dl (ords ts f now) s).order), rbox gj 25 #[.slice aM ms.length cM, .slice aT ts.length cT], rbox gd 40 #[.slice ad dl.length cd], rbox gt 112 #[.func (.func 54) #[] #[.pointer (some ⟨gj, 0, none⟩), .pointer (some ⟨gd, 0, none⟩), .pointer (some ⟨gf, 0, none⟩), .pointer (some ⟨go, 0, none⟩), .pointer (some ⟨gq, 0, none⟩), .pointer (some ⟨gt, 0, none⟩)]], rsl intEnc 1 lon hin vn (ints now), rsl weaEnc 6 lo2 hi2 (.slice ad dl.length cd) dl, rafs lo hi ts, rsl tskEnc 8 lo hi (.slice aT ts.length cT) ts, rsl mchEnc 3 lo hi (.slice aM ms.length cM) ms, rall LR] w' /\ w.heap.size <= w'.heap.size)
set_option maxHeartbeats 4000000 in
theorem cloneI_nil (b0 c : Nat) (w : World) (hb : b0 <= w.heap.size) :
  Calls Tryz.prog 56 #[.slice none 0 c] w (CloneP intEnc 3 1 b0 ([] : List Int) w) := by
 have F1 : Bun w [] w := Bun.nil _
 go_enter Tryz.func56, Tryz.ntmps56
 have hqn : ∀ W : World, (binOp .eql 28 (.slice none 0 c) (.slice none 0 0)).run Tryz.prog W = .ok (.bool true) W := fun W => by rw [Lib.run_eql_slice_nil W _ _ _ _ _ _ _ Tryz.underlying28]; rfl
 go_wp2_with fail
 exact bodyPost_ret (v := .slice none 0 0) (by simp [results, Tryz.results56, go_sem]) rfl (CloneP.nil F1.gb)
set_option maxHeartbeats 4000000 in
theorem cloneI_some (b0 lo hi : Nat) (p : Addr) (c : Nat) (l : List Int) (w : World) (hl : Sl intEnc 1 lo hi w (.slice (some p) l.length c) l) (h2 : hi <= w.heap.size) (hs : l.length <= 100000000000) (hb : b0 <= w.heap.size) :
  Calls Tryz.prog 56 #[.slice (some p) l.length c] w (CloneP intEnc 3 1 b0 l w) := by
 have F1 : Bun w [] w := Bun.nil _
 have hm_ := hl.len
 unfold maxLen at hm_
 replace F1 := F1.sl0 hl h2 rfl
 clear hl
 go_enter Tryz.func56, Tryz.ntmps56
 have hqn : ∀ W : World, (binOp .eql 28 (.slice (some p) l.length c) (.slice none 0 0)).run Tryz.prog W = .ok (.bool false) W := fun W => by rw [Lib.run_eql_slice_nil W _ _ _ _ _ _ _ Tryz.underlying28]; rfl
 go_wp2_with (at_builtin; refine wpList_copyB okInt rfl _ _ rfl w.heap.size w.heap.size rfl (F1.new 3 #[] (n := w.heap.size) (by simp)) (by first | omega | (simp; omega)) lo hi (.slice (some p) l.length c) l rfl ((F1.new 3 #[] (n := w.heap.size) (by simp)).at 1 rfl) (by omega) ?_; intro vc3 w4 hB5 hs6; refine Hid.out ?_)
 refine lhd ?_
 (try simp at hs6)
 have F7 := hB5
 clear F1
 obtain ⟨ca8, cap9, e_⟩ := (Own.sl (F7.o 0 rfl) (fun _ => rfl)).any
 subst e_
 go_wp2_with fail
 exact bodyPost_ret (v := .slice ca8 l.length cap9) (by simp [results, Tryz.results56, go_sem]) rfl (CloneP.of hb (F7.pick [0] (by decide) rfl))
theorem cloneI_c (b0 lo hi : Nat) (v : Value) (l : List Int) (w : World) (hl : Sl intEnc 1 lo hi w v l) (h2 : hi <= w.heap.size) (hs : l.length <= 100000000000) (hb : b0 <= w.heap.size) : Calls Tryz.prog 56 #[v] w (CloneP intEnc 3 1 b0 l w) := by
 obtain ⟨a, c, rfl⟩ := hl.any
 cases a with
 | none =>
  have e : l = [] := by
   rcases hl.nilOr with ⟨rfl, _⟩ | ⟨x, ox, c', h | ⟨rfl, _⟩⟩
   · rfl
   · injection h with h; cases h
   · rfl
  subst e
  exact cloneI_nil b0 c w hb
 | some p => exact cloneI_some b0 lo hi p c l w hl h2 hs hb
set_option maxHeartbeats 16000000 in
theorem best1_leaf (w0 : World) (b0 lo hi lo2 hi2 gf go gq gj gd gt : Nat) (aM aT ad : Option Addr) (cM cT cd : Nat) (ms : List Mch) (ts : List Tsk) (dl : List Wea) (LR : List Res) (s : BS) (now : List Nat) (lon hin : Nat) (vn ov : Value) (w : World) (hB : Bun w0 [rbox gf 4 #[.bool s.found], rbox go 3 #[.int .i64 s.open_], rbox gq 28 #[ov], rown intEnc 3 1 b0 ov (ints s.order), rbox gj 25 #[.slice aM ms.length cM, .slice aT ts.length cT], rbox gd 40 #[.slice ad dl.length cd], rbox gt 112 #[.func (.func 54) #[] #[.pointer (some ⟨gj, 0, none⟩), .pointer (some ⟨gd, 0, none⟩), .pointer (some ⟨gf, 0, none⟩), .pointer (some ⟨go, 0, none⟩), .pointer (some ⟨gq, 0, none⟩), .pointer (some ⟨gt, 0, none⟩)]], rsl intEnc 1 lon hin vn (ints now), rsl weaEnc 6 lo2 hi2 (.slice ad dl.length cd) dl, rafs lo hi ts, rsl tskEnc 8 lo hi (.slice aT ts.length cT) ts, rsl mchEnc 3 lo hi (.slice aM ms.length cM) ms, rall LR] w) (hb0 : b0 <= w0.heap.size) (hop : OrdP ts now) (hok : JobOk ms ts) (hn : dl.length <= 400) (hln : now.length = ts.length) :
  Calls Tryz.prog 54 #[vn, .pointer (some ⟨gj, 0, none⟩), .pointer (some ⟨gd, 0, none⟩), .pointer (some ⟨gf, 0, none⟩), .pointer (some ⟨go, 0, none⟩), .pointer (some ⟨gq, 0, none⟩), .pointer (some ⟨gt, 0, none⟩)] w (fun e w' => ∃ ov' : Value, e = .returned (.tuple #[]) /\ Bun w0 [rbox gf 4 #[.bool (tryS ms ts dl (ords ts 0 now) s).found], rbox go 3 #[.int .i64 ((tryS ms ts dl (ords ts 0 now) s).open_)], rbox gq 28 #[ov'], rown intEnc 3 1 b0 ov' (ints (tryS ms ts dl (ords ts 0 now) s).order), rbox gj 25 #[.slice aM ms.length cM, .slice aT ts.length cT], rbox gd 40 #[.slice ad dl.length cd], rbox gt 112 #[.func (.func 54) #[] #[.pointer (some ⟨gj, 0, none⟩), .pointer (some ⟨gd, 0, none⟩), .pointer (some ⟨gf, 0, none⟩), .pointer (some ⟨go, 0, none⟩), .pointer (some ⟨gq, 0, none⟩), .pointer (some ⟨gt, 0, none⟩)]], rsl intEnc 1 lon hin vn (ints now), rsl weaEnc 6 lo2 hi2 (.slice ad dl.length cd) dl, rafs lo hi ts, rsl tskEnc 8 lo hi (.slice aT ts.length cT) ts, rsl mchEnc 3 lo hi (.slice aM ms.length cM) ms, rall LR] w' /\ w.heap.size <= w'.heap.size) := by
 obtain ⟨aN, cN, rfl⟩ := ((hB.s 7 rfl)).any
 rw [ints_len] at *
 obtain ⟨fb, hfb⟩ : ∃ b_, s.found = b_ := ⟨_, rfl⟩
 rw [hfb] at hB
 have hm_ts := (hB.s 10 rfl).len
 unfold maxLen at hm_ts
 have hnegfgo : ¬ gf = go := hB.neAt 0 1 rfl rfl (by decide) (.inl rfl) gf rfl
 have hnegogf : ¬ go = gf := fun e_ => hnegfgo e_.symm
 have hnegfgq : ¬ gf = gq := hB.neAt 0 2 rfl rfl (by decide) (.inl rfl) gf rfl
 have hnegqgf : ¬ gq = gf := fun e_ => hnegfgq e_.symm
 have hnegogq : ¬ go = gq := hB.neAt 1 2 rfl rfl (by decide) (.inl rfl) go rfl
 have hnegqgo : ¬ gq = go := fun e_ => hnegogq e_.symm
 have hb1_ : b0 <= w.heap.size := Nat.le_trans hb0 hB.gb.size
 have HOK := lhd (And.intro hok hn)
 have HOP := lhd hop
 have hnl : now.length <= ts.length := by omega
 have HLN := lhd hln
 have HFB := lhd hfb
 have hnt := hok.nt
 have hhin := (hB.s 7 rfl).len
 rw [ints_len] at hhin
 clear hok hop hln hfb
 (skip)
 have kn1 : (now.length : Int) = (ts.length : Int) := (by have h_ := HLN.out; omega)
 have kn1H := lhd kn1
 obtain ⟨kn1a, kn1b⟩ := bqt kn1
 clear kn1
 have hqD_ : ∀ (h : Decidable (now.length = ts.length)), @decide (now.length = ts.length) h = true := fun _ => decide_eq_true HLN.out
 have hqT_ : (now.length = ts.length) = True := eq_true HLN.out
 have hqB_ : (now.length == ts.length) = true := by rw [beq_iff_eq]; exact HLN.out
 go_enter Tryz.func54, Tryz.ntmps54
 have b2 := hB.bx2 4 rfl
 go_wp2_with fail
 clear b2
 have F3 := hB.drew
 clear hB
 refine ru_begin (fun W => C2 W gj (.slice aM ms.length cM) (.slice aT ts.length cT) /\ W.cell? ⟨gd, 0, none⟩ = some (.slice ad dl.length cd)) 5 (by kernel_rfl) ?_ ?_
 · exact ⟨F3.c2 4, F3.q 5 0⟩
 obtain ⟨wd5, hwd_⟩ : ∃ x : World, w.drew = x := ⟨_, rfl⟩
 rw [hwd_] at F3 ⊢
 have wd5s : w.heap.size <= wd5.heap.size := by rw [← hwd_]; exact Nat.le_refl _
 clear hwd_
 have hS4 := (And.intro (F3.c2 4) (F3.q 5 0))
 refine ru_t 0 [] ?_
 refine ru_t 1 [] ?_
 refine ru_t 3 [] ?_
 (try simp only [lpX])
 clear hS4
 refine ru_o 2 fun K hK => ?_
 go_simp
 refine (ordered_c 0 _ _ _ ms ts 0 _ _ now _ (JobAt.mk (F3.slY 11 rfl) (F3.slY 10 rfl) (F3.afY 9 rfl)) (Nat.le_refl _) (F3.slY 7 rfl) (Nat.le_refl _) HOK.out.1 HOP.out HLN.out).mono ?_
 rintro e w8 ⟨aO, cO, loO, hiO, ltO, rfl, ⟨hxO, hyO⟩, hsO, haO, hmO, hg6⟩
 have HMO := lhd hmO
 clear hmO
 have hg6s := hg6.size
 (try simp at hg6s)
 replace F3 := F3.add (rafs loO hiO ltO) hg6 (haO) (fun g e => ⟨Nat.le_trans hxO e.1, Nat.lt_of_lt_of_le e.2 hyO⟩)
 replace F3 := F3.more 0 (rsl tskEnc 8 loO hiO (.slice aO ltO.length cO) ltO) rfl rfl rfl (fun _ h_ => h_) hsO
 refine ru_back hK (by exact ⟨F3.c2 6, F3.q 7 0⟩) (fun _ => ?_)
 clear hK K
 (try simp only [lpX])
 refine ru_o 4 fun K hK => ?_
 go_simp
 refine (opens_o 0 _ _ _ ms ltO ts now 0 _ _ dl _ (JobAt.mk (F3.slY 13 rfl) (F3.slY 0 rfl) (F3.afY 1 rfl)) (Nat.le_refl _) (F3.slY 10 rfl) (Nat.le_refl _) HOK.out.1 HOK.out.2 HMO.out HOP.out HLN.out).mono ?_
 rintro e w13 ⟨rfl, hg11⟩
 have hg11s := hg11.size
 (try simp at hg11s)
 replace F3 := F3.gn hg11
 refine ru_back hK (by exact ⟨F3.c2 6, F3.q 7 0⟩) (fun _ => ?_)
 clear hK K
 (try simp only [lpX])
 refine ru_o 5 fun K hK => ?_
 go_simp
 refine ru_back_late hK (by kernel_rfl) ?_
 clear hK K
 (try simp only [lpX])
 refine ru_done (by kernel_rfl) ?_
 have Fn_ := F3
 (try dsimp only [lpF, lpG] at Fn_)
 obtain ⟨w15, hx16, F18, hxs17⟩ := Fn_.name
 (try simp at hxs17)
 rw [hx16]
 clear hx16 F3 Fn_
 cases c19 : fb
 ·
  (try rw [c19] at F18)
  have c19H := lhd c19
  have b20 := F18.bx1 2 rfl
  go_wp2_with fail
  clear b20
  refine (cloneI_c b0 0 _ _ (ints now) _ (F18.slY 9 rfl) (Nat.le_refl _) (by rw [ints_len]; omega) (Nat.le_trans hb0 F18.gb.size)).mono ?_
  rintro e w23 ⟨oc_, cc_, rfl, hco_, hcx_, hg21⟩
  have hg21s := hg21.size
  (try simp at hg21s)
  replace F18 := F18.add (rown intEnc 3 1 b0 (.slice oc_ (ints now).length cc_) (ints now)) hg21 (hco_) (fun g e => hcx_ g e)
  clear hg21
  have b25 := F18.bx1 3 rfl
  have b26 := F18.bx1 4 rfl
  have b27 := F18.bx1 5 rfl
  go_wp2_with fail
  clear b25 b26 b27
  have F28 := ((F18.front 3 rfl rfl).set 0 (.bool true)).nf #[.bool true] rfl
  clear F18
  have F29 := ((F28.front 5 rfl rfl).set 0 (.slice oc_ ((ints now).length) cc_)).nf #[.slice oc_ ((ints now).length) cc_] rfl
  clear F28
  have F30 := ((F29.front 5 rfl rfl).set 0 (.int .i64 (opO ms ts dl now))).nf #[.int .i64 (opO ms ts dl now)] rfl
  clear F29
  have F31 : Bun w0 [rbox gf 4 #[.bool true], rbox go 3 #[.int .i64 (opO ms ts dl now)], rbox gq 28 #[.slice oc_ ((ints now).length) cc_], rown intEnc 3 1 b0 (.slice oc_ (ints now).length cc_) (ints now), rbox gj 25 #[.slice aM ms.length cM, .slice aT ts.length cT], rbox gd 40 #[.slice ad dl.length cd], rbox gt 112 #[.func (.func 54) #[] #[.pointer (some ⟨gj, 0, none⟩), .pointer (some ⟨gd, 0, none⟩), .pointer (some ⟨gf, 0, none⟩), .pointer (some ⟨go, 0, none⟩), .pointer (some ⟨gq, 0, none⟩), .pointer (some ⟨gt, 0, none⟩)]], rsl intEnc 1 lon hin (.slice aN now.length cN) (ints now), rsl weaEnc 6 lo2 hi2 (.slice ad dl.length cd) dl, rafs lo hi ts, rsl tskEnc 8 lo hi (.slice aT ts.length cT) ts, rsl mchEnc 3 lo hi (.slice aM ms.length cM) ms, rall LR] _ := F30.pick [2, 0, 1, 3, 7, 8, 9, 10, 11, 12, 13, 14, 15] (by decide) rfl
  clear F30
  exact bodyPost_ret (v := .tuple #[]) (by simp [results, Tryz.results54, go_sem]) rfl (by first | exact ⟨_, rfl, (by rw [show tryS ms ts dl (ords ts 0 now) s = ⟨true, now, opO ms ts dl now⟩ from upB_yes (.inl (by rw [HFB.out, c19H.out]))]; exact F31), (by first | omega | (simp; omega))⟩ | exact ⟨rfl, _, (by rw [show tryS ms ts dl (ords ts 0 now) s = ⟨true, now, opO ms ts dl now⟩ from upB_yes (.inl (by rw [HFB.out, c19H.out]))]; exact F31), (by first | omega | (simp; omega))⟩ | exact ⟨rfl, ⟨_, (by rw [show tryS ms ts dl (ords ts 0 now) s = ⟨true, now, opO ms ts dl now⟩ from upB_yes (.inl (by rw [HFB.out, c19H.out]))]; exact F31)⟩, (by first | omega | (simp; omega))⟩)
 (try rw [c19] at F18)
 have c19H := lhd c19
 by_cases c32 : opO ms ts dl now < s.open_
 ·
  have c32H := lhd c32
  have b33 := F18.bx1 2 rfl
  have b34 := F18.bx1 3 rfl
  go_wp2_with fail
  clear b33 b34
  refine (cloneI_c b0 0 _ _ (ints now) _ (F18.slY 9 rfl) (Nat.le_refl _) (by rw [ints_len]; omega) (Nat.le_trans hb0 F18.gb.size)).mono ?_
  rintro e w37 ⟨oc_, cc_, rfl, hco_, hcx_, hg35⟩
  have hg35s := hg35.size
  (try simp at hg35s)
  replace F18 := F18.add (rown intEnc 3 1 b0 (.slice oc_ (ints now).length cc_) (ints now)) hg35 (hco_) (fun g e => hcx_ g e)
  clear hg35
  have b39 := F18.bx1 3 rfl
  have b40 := F18.bx1 4 rfl
  have b41 := F18.bx1 5 rfl
  go_wp2_with fail
  clear b39 b40 b41
  have F42 := ((F18.front 3 rfl rfl).set 0 (.bool true)).nf #[.bool true] rfl
  clear F18
  have F43 := ((F42.front 5 rfl rfl).set 0 (.slice oc_ ((ints now).length) cc_)).nf #[.slice oc_ ((ints now).length) cc_] rfl
  clear F42
  have F44 := ((F43.front 5 rfl rfl).set 0 (.int .i64 (opO ms ts dl now))).nf #[.int .i64 (opO ms ts dl now)] rfl
  clear F43
  have F45 : Bun w0 [rbox gf 4 #[.bool true], rbox go 3 #[.int .i64 (opO ms ts dl now)], rbox gq 28 #[.slice oc_ ((ints now).length) cc_], rown intEnc 3 1 b0 (.slice oc_ (ints now).length cc_) (ints now), rbox gj 25 #[.slice aM ms.length cM, .slice aT ts.length cT], rbox gd 40 #[.slice ad dl.length cd], rbox gt 112 #[.func (.func 54) #[] #[.pointer (some ⟨gj, 0, none⟩), .pointer (some ⟨gd, 0, none⟩), .pointer (some ⟨gf, 0, none⟩), .pointer (some ⟨go, 0, none⟩), .pointer (some ⟨gq, 0, none⟩), .pointer (some ⟨gt, 0, none⟩)]], rsl intEnc 1 lon hin (.slice aN now.length cN) (ints now), rsl weaEnc 6 lo2 hi2 (.slice ad dl.length cd) dl, rafs lo hi ts, rsl tskEnc 8 lo hi (.slice aT ts.length cT) ts, rsl mchEnc 3 lo hi (.slice aM ms.length cM) ms, rall LR] _ := F44.pick [2, 0, 1, 3, 7, 8, 9, 10, 11, 12, 13, 14, 15] (by decide) rfl
  clear F44
  exact bodyPost_ret (v := .tuple #[]) (by simp [results, Tryz.results54, go_sem]) rfl (by first | exact ⟨_, rfl, (by rw [show tryS ms ts dl (ords ts 0 now) s = ⟨true, now, opO ms ts dl now⟩ from upB_yes (.inr c32H.out)]; exact F45), (by first | omega | (simp; omega))⟩ | exact ⟨rfl, _, (by rw [show tryS ms ts dl (ords ts 0 now) s = ⟨true, now, opO ms ts dl now⟩ from upB_yes (.inr c32H.out)]; exact F45), (by first | omega | (simp; omega))⟩ | exact ⟨rfl, ⟨_, (by rw [show tryS ms ts dl (ords ts 0 now) s = ⟨true, now, opO ms ts dl now⟩ from upB_yes (.inr c32H.out)]; exact F45)⟩, (by first | omega | (simp; omega))⟩)
 have c32H := lhd c32
 have c32a := dec_f c32
 have b46 := F18.bx1 2 rfl
 have b47 := F18.bx1 3 rfl
 go_wp2_with fail
 clear b46 b47
 have F48 : Bun w0 [rbox gf 4 #[.bool true], rbox go 3 #[.int .i64 s.open_], rbox gq 28 #[ov], rown intEnc 3 1 b0 ov (ints s.order), rbox gj 25 #[.slice aM ms.length cM, .slice aT ts.length cT], rbox gd 40 #[.slice ad dl.length cd], rbox gt 112 #[.func (.func 54) #[] #[.pointer (some ⟨gj, 0, none⟩), .pointer (some ⟨gd, 0, none⟩), .pointer (some ⟨gf, 0, none⟩), .pointer (some ⟨go, 0, none⟩), .pointer (some ⟨gq, 0, none⟩), .pointer (some ⟨gt, 0, none⟩)]], rsl intEnc 1 lon hin (.slice aN now.length cN) (ints now), rsl weaEnc 6 lo2 hi2 (.slice ad dl.length cd) dl, rafs lo hi ts, rsl tskEnc 8 lo hi (.slice aT ts.length cT) ts, rsl mchEnc 3 lo hi (.slice aM ms.length cM) ms, rall LR] _ := F18.pick [2, 3, 4, 5, 6, 7, 8, 9, 10, 11, 12, 13, 14] (by decide) rfl
 clear F18
 exact bodyPost_ret (v := .tuple #[]) (by simp [results, Tryz.results54, go_sem]) rfl (by first | exact ⟨_, rfl, (by rw [show tryS ms ts dl (ords ts 0 now) s = s from upB_no (by rintro (h_ | h_); rw [HFB.out, c19H.out] at h_; cases h_; have h2_ := c32H.out; omega), HFB.out, c19H.out]; exact F48), (by first | omega | (simp; omega))⟩ | exact ⟨rfl, _, (by rw [show tryS ms ts dl (ords ts 0 now) s = s from upB_no (by rintro (h_ | h_); rw [HFB.out, c19H.out] at h_; cases h_; have h2_ := c32H.out; omega), HFB.out, c19H.out]; exact F48), (by first | omega | (simp; omega))⟩ | exact ⟨rfl, ⟨_, (by rw [show tryS ms ts dl (ords ts 0 now) s = s from upB_no (by rintro (h_ | h_); rw [HFB.out, c19H.out] at h_; cases h_; have h2_ := c32H.out; omega), HFB.out, c19H.out]; exact F48)⟩, (by first | omega | (simp; omega))⟩)
end Go.Proofs.YtcoldeolmleeiaaGreat
