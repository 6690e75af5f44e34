/- build: the slack: how it is sought. -/
import Derived.Test.YtcoldeolmleeiaaGreatKGG7
import Derived.Test.YtcoldeolmleeiaaGreatKJ10
import Derived.Test.YtcoldeolmleeiaaGreatKG2
import Derived.Test.YtcoldeolmleeiaaGreatKKC
set_option linter.unusedVariables false
set_option linter.unusedSimpArgs false
set_option linter.unnecessarySimpa false
namespace Go.Proofs.YtcoldeolmleeiaaGreat
open Go.RowKit
set_option maxRecDepth 100000
attribute [local go_sem] Oper.semAt_some
attribute [local go_sem] run_store_fn
theorem Bun.afY {lo hi : Nat} {l : List Tsk} {w0 A : World} {L : List Res} (i : Nat) (h : Bun w0 L A) (hi_ : L[i]? = some (rafs lo hi l)) : Afs 0 A.heap.size A l := fun t ht => by
 have hP : Afs lo hi A l := h.at i hi_
 have hb := fun g hx => (h.ltAt i hi_ g hx).1
 obtain ⟨⟨hm, a, c, hv, h2⟩, hc⟩ := hP t ht
 refine ⟨⟨hm, a, c, hv, ?_⟩, hc⟩
 rcases h2 with h2 | ⟨b, off, ha, h3, h4, h5⟩
 · exact .inl h2
 · exact .inr ⟨b, off, ha, Nat.zero_le _, hb b ⟨h3, h4⟩, h5⟩
def latB (ms : List Mch) (ts : List Tsk) (dl : List Wea) (k : Nat) (z : Tsk) (op d : Int) : Bool := decide (op < (caseOf true ms (ts.set k (moreT z d)) dl).opn ts.length)
theorem jobAt_clone {base k : Nat} {w : World} {v1 v2 : Value} {ms : List Mch} {ts : List Tsk} {z : Tsk} {d : Int} (hm : Sl mchEnc 3 0 w.heap.size w v1 ms) (ht : Own tskEncS 34 8 base w v2 (ts.set k (moreT z d))) (ha : Afs 0 w.heap.size w ts) (hz : ts[k]? = some z) : JobAt 0 w.heap.size w v1 v2 ms (ts.set k (moreT z d)) := by
 have hA : Afs 0 w.heap.size w (ts.set k (moreT z d)) := fun t h => by
  rcases List.mem_or_eq_of_mem_set h with h2 | rfl
  · exact ha t h2
  · exact ha z (List.mem_of_getElem? hz)
 exact ⟨hm, (slS (Own.sl ht (fun _ => rfl)) (Afs.sl hA)).wide (Nat.zero_le _) (Nat.le_refl _), hA⟩
theorem jobOk_more {ms : List Mch} {ts : List Tsk} {k : Nat} {z : Tsk} {d : Int} (h : JobOk ms ts) (hz : ts[k]? = some z) (hd : 0 <= d) (hm : z.ho.hi + d <= 4000) : JobOk ms (ts.set k (moreT z d)) := by
 refine ⟨h.nm, by rw [List.length_set]; exact h.nt, h.mo, fun i t ht => ?_⟩
 have hk := (List.getElem?_eq_some_iff.1 hz).1
 rw [List.getElem?_set] at ht
 split at ht
 ·
  rename_i e
  subst e
  obtain rfl := Option.some.inj ht
  have h1 := h.to_ k z hz
  exact ⟨h1.m, ⟨h1.ho.1, by have := h1.ho; show z.ho.lo <= z.ho.hi + d; omega, hm⟩, h1.wa, h1.fr, h1.af, h1.nd⟩
 · exact h.to_ i t ht
theorem set_more {ts : List Tsk} {k : Nat} {z : Tsk} {d e : Int} : (ts.set k (moreT z d)).set k (moreT z e) = ts.set k (moreT z e) := List.set_set _
theorem set_more_at {ts : List Tsk} {k : Nat} {z : Tsk} {d : Int} (hz : ts[k]? = some z) : (ts.set k (moreT z d))[k]? = some (moreT z d) := by
 rw [List.getElem?_set, if_pos rfl, if_pos (List.getElem?_eq_some_iff.1 hz).1]
theorem timesw_g (lo hi : Nat) (vm vt : Value) (ms : List Mch) (ts : List Tsk) (lo2 hi2 : Nat) (vd : Value) (dl : List Wea) (w : World) (hj : JobAt lo hi w vm vt ms ts) (h2 : hi <= w.heap.size) (hd : Sl weaEnc 6 lo2 hi2 w vd dl) (h3 : hi2 <= w.heap.size) (hok : JobOk ms ts) (hn : dl.length <= 400) :
  Calls Tryz.prog 22 #[.agg #[.func (.func 43) #[] #[], .func (.func 44) #[] #[], vm, vt, vd]] w (fun e w' => ∃ (a1 a2 : Option Addr) (c1 c2 : Nat), e = .returned (.tuple #[.slice a1 ts.length c1, .slice a2 ts.length c2, .int .i64 ((caseOf true ms ts dl).opn ts.length)]) /\ w.grownBy w' none) := by
 refine (timesw_b lo hi vm vt ms ts lo2 hi2 vd dl w hj h2 hd h3 hok hn).mono ?_
 rintro e w' ⟨op, a1, a2, c1, c2, lo', hi', rfl, _, rfl, hB⟩
 exact ⟨a1, a2, c1, c2, rfl, hB.gb⟩
def CloneP {α : Type} (enc : α -> List Value) (e : TypeId) (sz b0 : Nat) (l : List α) (w : World) : Ending -> World -> Prop := fun en w' => ∃ (a : Option Addr) (c : Nat), en = .returned (.slice a l.length c) /\ Own enc e sz b0 w' (.slice a l.length c) l /\ (∀ g, (Value.slice a l.length c).ownBlock = some g -> w.heap.size <= g /\ g < w'.heap.size) /\ w.grownBy w' none
theorem CloneP.of {α : Type} {enc : α -> List Value} {e : TypeId} {sz b0 : Nat} {l : List α} {w w' : World} {a : Option Addr} {c : Nat} (hb : b0 <= w.heap.size) (hB : Bun w [rown enc e sz w.heap.size (.slice a l.length c) l] w') : CloneP enc e sz b0 l w (.returned (.slice a l.length c)) w' := by
 have ho : Own enc e sz w.heap.size w' (.slice a l.length c) l := hB.at 0 rfl
 refine ⟨a, c, rfl, ?_, ho.lt, hB.gb⟩
 obtain ⟨h1, h2⟩ := ho
 refine ⟨h1, ?_⟩
 rcases h2 with h2 | ⟨g, cap, cur, hv, hg, h3⟩
 · exact .inl h2
 · exact .inr ⟨g, cap, cur, hv, Nat.le_trans hb hg, h3⟩
theorem CloneP.nil {α : Type} {enc : α -> List Value} {e : TypeId} {sz b0 : Nat} {w w' : World} (hg : w.grownBy w' none) : CloneP enc e sz b0 ([] : List α) w (.returned (.slice none 0 0)) w' := ⟨none, 0, rfl, Own.nil _ _ _ _ _, (fun _ h => by cases h), hg⟩
theorem Sl.nilOr {α : Type} {enc : α -> List Value} {sz lo hi : Nat} {w : World} {v : Value} {l : List α} (h : Sl enc sz lo hi w v l) : (l = [] /\ ∃ c, v = .slice none 0 c) ∨ ∃ x ox c, v = .slice (some ⟨x, ox, none⟩) l.length c ∨ (l = [] /\ ∃ p, v = .slice (some p) 0 c) := by
 obtain ⟨_, a, c, rfl, h2⟩ := h
 rcases h2 with rfl | ⟨b, off, rfl, _⟩
 ·
  cases a with
  | none => exact .inl ⟨rfl, c, rfl⟩
  | some p => exact .inr ⟨0, 0, c, .inr ⟨rfl, p, rfl⟩⟩
 · exact .inr ⟨b, off, c, .inl rfl⟩
set_option maxHeartbeats 4000000 in
theorem cloneTsk_nil (b0 c : Nat) (w : World) (hb : b0 <= w.heap.size) :
  Calls Tryz.prog 50 #[.slice none 0 c] w (CloneP tskEncS 34 8 b0 ([] : List Tsk) w) := by
 have F1 : Bun w [] w := Bun.nil _
 go_enter Tryz.func50, Tryz.ntmps50
 have hqn : ∀ W : World, (binOp .eql 23 (.slice none 0 c) (.slice none 0 0)).run Tryz.prog W = .ok (.bool true) W := fun W => by rw [Lib.run_eql_slice_nil W _ _ _ _ _ _ _ Tryz.underlying23]; rfl
 go_wp2_with fail
 exact bodyPost_ret (v := .slice none 0 0) (by simp [results, Tryz.results50, go_sem]) rfl (CloneP.nil F1.gb)
set_option maxHeartbeats 4000000 in
theorem cloneTsk_some (b0 lo hi : Nat) (p : Addr) (c : Nat) (l : List Tsk) (w : World) (hl : Sl tskEncS 8 lo hi w (.slice (some p) l.length c) l) (h2 : hi <= w.heap.size) (hs : l.length <= 100000000000) (hb : b0 <= w.heap.size) :
  Calls Tryz.prog 50 #[.slice (some p) l.length c] w (CloneP tskEncS 34 8 b0 l w) := by
 have F1 : Bun w [] w := Bun.nil _
 have hm_ := hl.len
 unfold maxLen at hm_
 replace F1 := F1.sl0 hl h2 rfl
 clear hl
 go_enter Tryz.func50, Tryz.ntmps50
 have hqn : ∀ W : World, (binOp .eql 23 (.slice (some p) l.length c) (.slice none 0 0)).run Tryz.prog W = .ok (.bool false) W := fun W => by rw [Lib.run_eql_slice_nil W _ _ _ _ _ _ _ Tryz.underlying23]; rfl
 go_wp2_with (at_builtin; refine wpList_copyB okTskS rfl _ _ rfl w.heap.size w.heap.size rfl (F1.new 34 #[] (n := w.heap.size) (by simp)) (by first | omega | (simp; omega)) lo hi (.slice (some p) l.length c) l rfl ((F1.new 34 #[] (n := w.heap.size) (by simp)).at 1 rfl) (by omega) ?_; intro vc3 w4 hB5 hs6; refine Hid.out ?_)
 refine lhd ?_
 (try simp at hs6)
 have F7 := hB5
 clear F1
 obtain ⟨ca8, cap9, e_⟩ := (Own.sl (F7.o 0 rfl) (fun _ => rfl)).any
 subst e_
 go_wp2_with fail
 exact bodyPost_ret (v := .slice ca8 l.length cap9) (by simp [results, Tryz.results50, go_sem]) rfl (CloneP.of hb (F7.pick [0] (by decide) rfl))
theorem cloneTsk_c (b0 lo hi : Nat) (v : Value) (l : List Tsk) (w : World) (hl : Sl tskEncS 8 lo hi w v l) (h2 : hi <= w.heap.size) (hs : l.length <= 100000000000) (hb : b0 <= w.heap.size) : Calls Tryz.prog 50 #[v] w (CloneP tskEncS 34 8 b0 l w) := by
 obtain ⟨a, c, rfl⟩ := hl.any
 cases a with
 | none =>
  have e : l = [] := by
   rcases hl.nilOr with ⟨rfl, _⟩ | ⟨x, ox, c', h | ⟨rfl, _⟩⟩
   · rfl
   · injection h with h; cases h
   · rfl
  subst e
  exact cloneTsk_nil b0 c w hb
 | some p => exact cloneTsk_some b0 lo hi p c l w hl h2 hs hb
set_option maxHeartbeats 8000000 in
theorem opens_c (lo hi : Nat) (vm vt : Value) (ms : List Mch) (ts : List Tsk) (lo2 hi2 : Nat) (vd : Value) (dl : List Wea) (w : World) (hj : JobAt lo hi w vm vt ms ts) (h2 : hi <= w.heap.size) (hd : Sl weaEnc 6 lo2 hi2 w vd dl) (h3 : hi2 <= w.heap.size) (hok : JobOk ms ts) (hn : dl.length <= 400) :
  Calls Tryz.prog 49 #[.agg #[vm, vt], vd] w (Ret (.int .i64 ((caseOf true ms ts dl).opn ts.length)) w) := by
 have F1 : Bun w [] w := Bun.nil _
 obtain ⟨hms, hts, haf⟩ := hj
 have hm_ms := hms.len
 unfold maxLen at hm_ms
 obtain ⟨aM, cM, rfl⟩ := hms.any
 replace F1 := F1.sl0 hms h2 rfl
 clear hms
 have hm_ts := hts.len
 unfold maxLen at hm_ts
 obtain ⟨aT, cT, rfl⟩ := hts.any
 replace F1 := F1.sl0 hts h2 rfl
 clear hts
 replace F1 := F1.non0 (rafs lo hi ts) haf (fun _ h_ => Nat.lt_of_lt_of_le h_.2 h2) rfl rfl
 clear haf
 have hm_ds := hd.len
 unfold maxLen at hm_ds
 obtain ⟨ad, cd, rfl⟩ := hd.any
 replace F1 := F1.sl0 hd h3 rfl
 clear hd
 have HOK := lhd (And.intro hok hn)
 go_enter Tryz.func49, Tryz.ntmps49
 go_wp2_with fail
 replace F1 := F1.new 25 #[.slice aM ms.length cM, .slice aT ts.length cT] (n := w.heap.size) (by simp)
 have Fn_ := F1
 (try dsimp only [lpF, lpG] at Fn_)
 obtain ⟨w7, hx8, F10, hxs9⟩ := Fn_.name
 (try simp at hxs9)
 rw [hx8]
 clear hx8 F1 Fn_
 replace F10 := F10.drew
 refine ru_begin (fun W => C2 W w.heap.size (.slice aM ms.length cM) (.slice aT ts.length cT)) 11 (by kernel_rfl) ?_ ?_
 · exact (F10.c2 0)
 obtain ⟨wd13, hwd_⟩ : ∃ x : World, w7.drew = x := ⟨_, rfl⟩
 rw [hwd_] at F10 ⊢
 have wd13s : w7.heap.size <= wd13.heap.size := by rw [← hwd_]; exact Nat.le_refl _
 clear hwd_
 have hS12 := (F10.c2 0)
 refine ru_t 1 [] ?_
 refine ru_t 2 [] ?_
 (try simp only [lpX])
 clear hS12
 refine ru_o 0 fun K hK => ?_
 go_simp
 refine (pickedw_c _).mono ?_
 rintro e w16 ⟨rfl, hg14⟩
 have hg14s := hg14.size
 (try simp at hg14s)
 replace F10 := F10.gn hg14
 refine ru_back hK (by exact (F10.c2 0)) (fun _ => ?_)
 clear hK K
 (try simp only [lpX])
 refine ru_p 3 ?_
 (try simp only [lpX])
 refine ru_o 4 fun K hK => ?_
 go_simp
 refine (timesw_g lo hi _ _ ms ts lo2 hi2 _ dl _ (JobAt.mk (F10.s 4 rfl) (F10.s 3 rfl) (F10.at 2 rfl : Afs lo hi _ ts)) (Nat.le_trans h2 F10.gb.size) (F10.s 1 rfl) (Nat.le_trans h3 F10.gb.size) HOK.out.1 HOK.out.2).mono ?_
 rintro e w20 ⟨a1w, a2w, c1w, c2w, rfl, hg18⟩
 have hg18s := hg18.size
 (try simp at hg18s)
 replace F10 := F10.gn hg18
 refine ru_back hK (by exact (F10.c2 0)) (fun _ => ?_)
 clear hK K
 (try simp only [lpX])
 refine ru_p 5 ?_
 (try simp only [lpX])
 refine ru_p 6 ?_
 refine ru_p 7 ?_
 refine ru_p 8 ?_
 (try simp only [lpX])
 refine ru_p 9 ?_
 (try simp only [lpX])
 refine ru_p 10 ?_
 (try simp only [lpX])
 refine ru_o 11 fun K hK => ?_
 go_simp
 refine ru_back_late hK (by kernel_rfl) ?_
 clear hK K
 (try simp only [lpX])
 refine ru_done (by kernel_rfl) ?_
 have Fn_ := (F10.drop 0 rfl)
 (try dsimp only [lpF, lpG] at Fn_)
 obtain ⟨w22, hx23, F25, hxs24⟩ := Fn_.name
 (try simp at hxs24)
 rw [hx23]
 clear hx23 F10 Fn_
 go_wp2_with fail
 go_ret
 exact ⟨rfl, F25.gb⟩
set_option maxHeartbeats 8000000 in
theorem slack1_c (w0 : World) (b0 lo hi lo2 hi2 g cap go gn gt gd gj k : Nat) (ad aM aT : Option Addr) (cd cM cT : Nat) (ms : List Mch) (ts : List Tsk) (dl : List Wea) (z : Tsk) (op d : Int) (x : Int) (w : World) (hB : Bun w0 [rown tskEncS 34 8 b0 (.slice (some ⟨g, 0, none⟩) ts.length cap) (ts.set k (moreT z d)), rbox go 23 #[.slice (some ⟨g, 0, none⟩) ts.length cap], rbox gn 3 #[.int .i64 op], rbox gt 3 #[.int .i64 (k : Int)], rbox gd 40 #[.slice ad dl.length cd], rbox gj 25 #[.slice aM ms.length cM, .slice aT ts.length cT], rsl weaEnc 6 lo2 hi2 (.slice ad dl.length cd) dl, rafs lo hi ts, rsl tskEnc 8 lo hi (.slice aT ts.length cT) ts, rsl mchEnc 3 lo hi (.slice aM ms.length cM) ms] w) (hz : ts[k]? = some z) (hok : JobOk ms ts) (hn : dl.length <= 400) (hzb : z.ho.hi <= 2000) (hopb : 0 <= op /\ op <= 100000) (hx : 0 <= x /\ x <= 1000) :
  Calls Tryz.prog 52 #[.int .i64 x, .pointer (some ⟨gj, 0, none⟩), .pointer (some ⟨gt, 0, none⟩), .pointer (some ⟨go, 0, none⟩), .pointer (some ⟨gd, 0, none⟩), .pointer (some ⟨gn, 0, none⟩)] w (fun e w' => e = .returned (.bool (latB ms ts dl k z op x)) /\ Bun w0 [rown tskEncS 34 8 b0 (.slice (some ⟨g, 0, none⟩) ts.length cap) (ts.set k (moreT z x)), rbox go 23 #[.slice (some ⟨g, 0, none⟩) ts.length cap], rbox gn 3 #[.int .i64 op], rbox gt 3 #[.int .i64 (k : Int)], rbox gd 40 #[.slice ad dl.length cd], rbox gj 25 #[.slice aM ms.length cM, .slice aT ts.length cT], rsl weaEnc 6 lo2 hi2 (.slice ad dl.length cd) dl, rafs lo hi ts, rsl tskEnc 8 lo hi (.slice aT ts.length cT) ts, rsl mchEnc 3 lo hi (.slice aM ms.length cM) ms] w') := by
 have hgl := (hB.ltAt 0 rfl _ rfl).1
 have hm_ts := (hB.s 8 rfl).len
 unfold maxLen at hm_ts
 have hkl := (List.getElem?_eq_some_iff.1 hz).1
 have HOK := lhd (And.intro hok hn)
 have HZ := lhd hz
 have hzl := (hok.to_ k z hz).ho
 have HJM : Hid (JobOk ms (ts.set k (moreT z x))) := lhd (jobOk_more hok hz hx.1 (by omega))
 clear hok
 have hki : (k : Int) < (ts.length : Int) := by omega
 go_enter Tryz.func52, Tryz.ntmps52
 obtain ⟨x1, o2, e_⟩ := Sl.addr (hB.s 8 rfl) (by omega)
 subst e_
 have hz3 : Hid (ts[k]? = some z) := lhd (HZ.out)
 obtain ⟨a_z, c_z, hav_z, hcap_z, hsl_z⟩ := Afs.open (hB.at 7 rfl : Afs lo hi _ ts) hz3.out
 have HAV_z := lhd hav_z
 clear hav_z
 have F4 := hB.more 7 (rsl intEnc 1 lo hi (.slice a_z z.af.length c_z) z.af) rfl rfl rfl (fun _ h_ => h_) hsl_z
 clear hB
 have hm_z := (F4.s 0 rfl).len
 unfold maxLen at hm_z
 have hz5 : Hid ((ts.set k (moreT z d))[k]? = some (moreT z d)) := lhd (set_more_at HZ.out)
 go_wp2_with fail
 have hw6 : IntKind.i64.wrap (z.ho.hi + x) = z.ho.hi + x := IntWalk.i64_in _ (by omega)
 replace F4 := F4.drew
 refine ru_begin (fun W => W.cell? ⟨go, 0, none⟩ = some (.slice (some ⟨g, 0, none⟩) ts.length cap) /\ W.cell? ⟨gt, 0, none⟩ = some (.int .i64 (k : Int)) /\ W.cell? ⟨gj, 1, none⟩ = some (.slice (some ⟨x1, o2, none⟩) ts.length cT) /\ W.cell? ⟨x1, o2 + k * 8 + 1 + 1, none⟩ = some (.int .i64 z.ho.hi)) 14 (by kernel_rfl) ?_ ?_
 · exact ⟨F4.q 2 0, F4.q 4 0, F4.q 6 1, (Sl.cells (F4.at 9 rfl) hz3.out 2 _ rfl)⟩
 obtain ⟨wd9, hwd_⟩ : ∃ x : World, w.drew = x := ⟨_, rfl⟩
 rw [hwd_] at F4 ⊢
 have wd9s : w.heap.size <= wd9.heap.size := by rw [← hwd_]; exact Nat.le_refl _
 clear hwd_
 have hS8 := (And.intro (F4.q 2 0) (And.intro (F4.q 4 0) (And.intro (F4.q 6 1) ((Sl.cells (F4.at 9 rfl) hz3.out 2 _ rfl)))))
 refine ru_t 0 [] ?_
 refine ru_t 1 [] ?_
 refine ru_t 2 [] ?_
 refine ru_t 3 [] ?_
 refine ru_t 4 [] ?_
 refine ru_t 5 [] ?_
 refine ru_t 6 [] ?_
 refine ru_t 7 [] ?_
 refine ru_t 8 [] ?_
 refine ru_t 9 [] ?_
 refine ru_t 10 [] ?_
 refine ru_t 11 [13, 12] ?_
 refine ru_t 12 [13] ?_
 refine ru_t 13 [] ?_
 (try simp only [lpX])
 clear hS8
 refine ru_o 14 fun K hK => ?_
 have kc_ : World.cell? _ ⟨g, k * 8 + 1 + 1, none⟩ = some (.int .i64 (moreT z d).ho.hi) := (by simpa using (Own.sl (F4.o 1 rfl) (fun _ => rfl)).cells hz5.out 2 _ rfl)
 have kf_ : World.frozen? _ ⟨g, k * 8 + 1 + 1, none⟩ = false := Own.live (F4.o 1 rfl) _
 go_simp
 clear kc_ kf_
 have F10 := Bun.setOwn (sz := 8) (fun _ => rfl) (F4.front 1 rfl rfl) hz5.out (y := (moreT z x)) (j := 2) (u := (.int .i64 (z.ho.hi + x))) (k := (k * 8 + 1 + 1)) (by decide) rfl rfl
 clear F4
 rw [set_more] at F10
 refine ru_back_late hK (by kernel_rfl) ?_
 clear hK K
 (try simp only [lpX])
 refine ru_done (by kernel_rfl) ?_
 (try clear hw6)
 have Fn_ := F10
 (try dsimp only [lpF, lpG] at Fn_)
 obtain ⟨w11, hx12, F14, hxs13⟩ := Fn_.name
 (try simp at hxs13)
 rw [hx12]
 clear hx12 F10 Fn_
 go_wp2_with fail
 replace F14 := F14.drew
 refine ru_begin (fun W => W.cell? ⟨gj, 0, none⟩ = some (.slice aM ms.length cM) /\ W.cell? ⟨go, 0, none⟩ = some (.slice (some ⟨g, 0, none⟩) ts.length cap) /\ W.cell? ⟨gd, 0, none⟩ = some (.slice ad dl.length cd) /\ W.cell? ⟨gn, 0, none⟩ = some (.int .i64 op)) 8 (by kernel_rfl) ?_ ?_
 · exact ⟨F14.q 6 0, F14.q 2 0, F14.q 5 0, F14.q 3 0⟩
 obtain ⟨wd17, hwd_⟩ : ∃ x : World, w11.drew = x := ⟨_, rfl⟩
 rw [hwd_] at F14 ⊢
 have wd17s : w11.heap.size <= wd17.heap.size := by rw [← hwd_]; exact Nat.le_refl _
 clear hwd_
 have hS16 := (And.intro (F14.q 6 0) (And.intro (F14.q 2 0) (And.intro (F14.q 5 0) (F14.q 3 0))))
 refine ru_t 0 [] ?_
 refine ru_t 1 [] ?_
 refine ru_t 2 [] ?_
 refine ru_t 3 [] ?_
 refine ru_t 4 [] ?_
 refine ru_t 6 [] ?_
 (try simp only [lpX])
 clear hS16
 refine ru_o 5 fun K hK => ?_
 go_simp
 refine (opens_c 0 _ _ _ ms (ts.set k (moreT z x)) 0 _ _ dl _ (jobAt_clone (F14.slY 10 rfl) (F14.o 0 rfl) (F14.afY 8 rfl) hz) (Nat.le_refl _) (F14.slY 7 rfl) (Nat.le_refl _) HJM.out HOK.out.2).mono ?_
 rintro e w20 ⟨rfl, hg18⟩
 have hg18s := hg18.size
 (try simp at hg18s)
 replace F14 := F14.gn hg18
 refine ru_back hK (by exact ⟨F14.q 6 0, F14.q 2 0, F14.q 5 0, F14.q 3 0⟩) (fun _ => ?_)
 clear hK K
 (try simp only [lpX])
 refine ru_p 7 ?_
 (try simp only [lpX])
 refine ru_o 8 fun K hK => ?_
 go_simp
 refine ru_back_late hK (by kernel_rfl) ?_
 clear hK K
 (try simp only [lpX])
 refine ru_done (by kernel_rfl) ?_
 have Fn_ := F14
 (try dsimp only [lpF, lpG] at Fn_)
 obtain ⟨w22, hx23, F25, hxs24⟩ := Fn_.name
 (try simp at hxs24)
 rw [hx23]
 clear hx23 F14 Fn_
 go_wp2_with fail
 have F26 : Bun w0 [rown tskEncS 34 8 b0 (.slice (some ⟨g, 0, none⟩) ts.length cap) (ts.set k (moreT z x)), rbox go 23 #[.slice (some ⟨g, 0, none⟩) ts.length cap], rbox gn 3 #[.int .i64 op], rbox gt 3 #[.int .i64 (k : Int)], rbox gd 40 #[.slice ad dl.length cd], rbox gj 25 #[.slice aM ms.length cM, .slice (some ⟨x1, o2, none⟩) ts.length cT], rsl weaEnc 6 lo2 hi2 (.slice ad dl.length cd) dl, rafs lo hi ts, rsl tskEnc 8 lo hi (.slice (some ⟨x1, o2, none⟩) ts.length cT) ts, rsl mchEnc 3 lo hi (.slice aM ms.length cM) ms] _ := F25.pick [0, 2, 3, 4, 5, 6, 7, 8, 9, 10] (by decide) rfl
 clear F25
 go_ret
 exact ⟨rfl, F26⟩
set_option maxHeartbeats 8000000 in
theorem search_c (w0 : World) (b0 lo hi lo2 hi2 g cap go gn gt gd gj k : Nat) (ad aM aT : Option Addr) (cd cM cT : Nat) (ms : List Mch) (ts : List Tsk) (dl : List Wea) (z : Tsk) (op d : Int) (w : World) (hB : Bun w0 [rown tskEncS 34 8 b0 (.slice (some ⟨g, 0, none⟩) ts.length cap) (ts.set k (moreT z d)), rbox go 23 #[.slice (some ⟨g, 0, none⟩) ts.length cap], rbox gn 3 #[.int .i64 op], rbox gt 3 #[.int .i64 (k : Int)], rbox gd 40 #[.slice ad dl.length cd], rbox gj 25 #[.slice aM ms.length cM, .slice aT ts.length cT], rsl weaEnc 6 lo2 hi2 (.slice ad dl.length cd) dl, rafs lo hi ts, rsl tskEnc 8 lo hi (.slice aT ts.length cT) ts, rsl mchEnc 3 lo hi (.slice aM ms.length cM) ms] w) (hz : ts[k]? = some z) (hok : JobOk ms ts) (hn : dl.length <= 400) (hzb : z.ho.hi <= 2000) (hopb : 0 <= op /\ op <= 100000) (hd : 0 <= d /\ d <= 1000) :
  Calls Tryz.prog 51 #[.int .i64 1001, .func (.func 52) #[] #[.pointer (some ⟨gj, 0, none⟩), .pointer (some ⟨gt, 0, none⟩), .pointer (some ⟨go, 0, none⟩), .pointer (some ⟨gd, 0, none⟩), .pointer (some ⟨gn, 0, none⟩)]] w (fun e w' => ∃ (i : Nat) (d' : Int), e = .returned (.int .i64 (i : Int)) /\ i <= 1001 /\ ((i = 0 ∨ latB ms ts dl k z op ((i : Int) - 1) = false) /\ (i = 1001 ∨ latB ms ts dl k z op (i : Int) = true)) /\ (0 <= d' /\ d' <= 1000) /\ Bun w0 [rown tskEncS 34 8 b0 (.slice (some ⟨g, 0, none⟩) ts.length cap) (ts.set k (moreT z d')), rbox go 23 #[.slice (some ⟨g, 0, none⟩) ts.length cap], rbox gn 3 #[.int .i64 op], rbox gt 3 #[.int .i64 (k : Int)], rbox gd 40 #[.slice ad dl.length cd], rbox gj 25 #[.slice aM ms.length cM, .slice aT ts.length cT], rsl weaEnc 6 lo2 hi2 (.slice ad dl.length cd) dl, rafs lo hi ts, rsl tskEnc 8 lo hi (.slice aT ts.length cT) ts, rsl mchEnc 3 lo hi (.slice aM ms.length cM) ms] w') := by
 have HZ := lhd (And.intro hz (And.intro hok (And.intro hn (And.intro hzb hopb))))
 clear hz hok
 go_enter Tryz.func51, Tryz.ntmps51
 go_wp2_with fail
 (skip)
 obtain ⟨HI1_, HI10⟩ : ∃ I : RelT, I = (fun t ds wr => ∃ (i j : Nat) (e : Int), t 1 = .func (.func 52) #[] #[.pointer (some ⟨gj, 0, none⟩), .pointer (some ⟨gt, 0, none⟩), .pointer (some ⟨go, 0, none⟩), .pointer (some ⟨gd, 0, none⟩), .pointer (some ⟨gn, 0, none⟩)] /\ t 5 = .int .i64 (i : Int) /\ t 6 = .int .i64 (j : Int) /\ i <= j /\ j <= 1001 /\ Hid ((i = 0 ∨ latB ms ts dl k z op ((i : Int) - 1) = false) /\ (j = 1001 ∨ latB ms ts dl k z op (j : Int) = true)) /\ (0 <= e /\ e <= 1000) /\ ds = [] /\ Bun w0 [rown tskEncS 34 8 b0 (.slice (some ⟨g, 0, none⟩) ts.length cap) (ts.set k (moreT z e)), rbox go 23 #[.slice (some ⟨g, 0, none⟩) ts.length cap], rbox gn 3 #[.int .i64 op], rbox gt 3 #[.int .i64 (k : Int)], rbox gd 40 #[.slice ad dl.length cd], rbox gj 25 #[.slice aM ms.length cM, .slice aT ts.length cT], rsl weaEnc 6 lo2 hi2 (.slice ad dl.length cd) dl, rafs lo hi ts, rsl tskEnc 8 lo hi (.slice aT ts.length cT) ts, rsl mchEnc 3 lo hi (.slice aM ms.length cM) ms] wr) := ⟨_, rfl⟩
 have HI1 := lhd HI10
 clear HI10
 refine wp_loopS 26 rfl HI1_ (fun t wr => (intOf (t 6)).toNat - (intOf (t 5)).toNat) ?atStart1 ?round1
 case round1 =>
  intro t ds wr hHid
  rw [HI1.out] at hHid
  obtain ⟨i, j, e, e1, e5, e6, hrel⟩ := hHid
  have e : ((List.range 26).map t).toArray = #[t 0, t 1, t 2, t 3, t 4, t 5, t 6, t 7, t 8, t 9, t 10, t 11, t 12, t 13, t 14, t 15, t 16, t 17, t 18, t 19, t 20, t 21, t 22, t 23, t 24, t 25] := rfl
  (try dsimp only at e)
  rw [e1, e5, e6] at e
  rw [e]
  simp only [e5, e6]
  clear e e1 e5 e6
  obtain ⟨hij, hj1, HLT, heb, rfl, hF2⟩ := hrel
  clear hB
  obtain ⟨w4, rfl⟩ : ∃ x_ : World, x_ = wr := ⟨_, rfl⟩
  (skip)
  by_cases c5 : (i : Int) < (j : Int)
  ·
   have c5H := lhd c5
   go_wp2_with fail
   refine (slack1_c w0 b0 lo hi lo2 hi2 g cap go gn gt gd gj k ad aM aT cd cM cT ms ts dl z op e (((i : Int) + (j : Int)) / 2) _ (hF2.pick [0, 1, 2, 3, 4, 5, 6, 7, 8, 9] (by decide) rfl) HZ.out.1 HZ.out.2.1 HZ.out.2.2.1 HZ.out.2.2.2.1 HZ.out.2.2.2.2 (by omega)).mono ?_
   rintro e w7 ⟨rfl, F6⟩
   have hwsF6 := F6.gb.size
   (try clear hF2)
   cases c8 : latB ms ts dl k z op (((i : Int) + (j : Int)) / 2)
   ·
    have c8H := lhd c8
    go_wp2_with fail
    (first | refine ⟨rfl, ?_, ?_⟩ | refine ⟨?_, ?_⟩)
    · rw [HI1.out]; exact ⟨(i + j) / 2 + 1, j, (((i : Int) + (j : Int)) / 2), rfl, (by show Value.int .i64 ((((i : Int) + (j : Int)) / 2) + 1) = _; rw [show (((i + j) / 2 + 1 : Nat) : Int) = ((i : Int) + (j : Int)) / 2 + 1 by omega]), rfl, (by omega), (by omega), (lhd ⟨.inr (by rw [show (((i + j) / 2 + 1 : Nat) : Int) - 1 = ((i : Int) + (j : Int)) / 2 by omega]; exact c8H.out), HLT.out.2⟩), (by omega), (by first | rfl | simp), F6⟩
    · simp [slot, intOf]; omega
   have c8H := lhd c8
   go_wp2_with fail
   (first | refine ⟨rfl, ?_, ?_⟩ | refine ⟨?_, ?_⟩)
   · rw [HI1.out]; exact ⟨i, (i + j) / 2, (((i : Int) + (j : Int)) / 2), rfl, rfl, (by show Value.int .i64 (((i : Int) + (j : Int)) / 2) = _; rw [show (((i + j) / 2 : Nat) : Int) = ((i : Int) + (j : Int)) / 2 by omega]), (by omega), (by omega), (lhd ⟨HLT.out.1, .inr (by rw [show (((i + j) / 2 : Nat) : Int) = ((i : Int) + (j : Int)) / 2 by omega]; exact c8H.out)⟩), (by omega), (by first | rfl | simp), F6⟩
   · simp [slot, intOf]; omega
  have c5H := lhd c5
  have c5a := dec_f c5
  go_wp2_with fail
  have F9 : Bun w0 [rown tskEncS 34 8 b0 (.slice (some ⟨g, 0, none⟩) ts.length cap) (ts.set k (moreT z e)), rbox go 23 #[.slice (some ⟨g, 0, none⟩) ts.length cap], rbox gn 3 #[.int .i64 op], rbox gt 3 #[.int .i64 (k : Int)], rbox gd 40 #[.slice ad dl.length cd], rbox gj 25 #[.slice aM ms.length cM, .slice aT ts.length cT], rsl weaEnc 6 lo2 hi2 (.slice ad dl.length cd) dl, rafs lo hi ts, rsl tskEnc 8 lo hi (.slice aT ts.length cT) ts, rsl mchEnc 3 lo hi (.slice aM ms.length cM) ms] _ := hF2.pick [0, 1, 2, 3, 4, 5, 6, 7, 8, 9] (by decide) rfl
  clear hF2
  go_ret
  exact (by obtain rfl : i = j := (by omega); exact ⟨i, rfl, hj1, HLT.out, e, heb, F9⟩)
 case atStart1 =>
  rw [HI1.out]
  exact ⟨0, 1001, d, rfl, rfl, rfl, (by omega), (by omega), (lhd ⟨.inl rfl, .inl rfl⟩), (by omega), rfl, hB⟩
end Go.Proofs.YtcoldeolmleeiaaGreat
