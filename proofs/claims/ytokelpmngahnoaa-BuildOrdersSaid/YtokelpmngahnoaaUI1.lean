/- build: the slack: how it is sought. -/
import Derived.Test.YtokelpmngahnoaaUG4
import Derived.Test.YtokelpmngahnoaaUJ10
import Derived.Test.YtokelpmngahnoaaUE2
import Derived.Test.YtokelpmngahnoaaUG2
import Derived.Test.YtokelpmngahnoaaUKC
set_option linter.unusedVariables false
set_option linter.unusedSimpArgs false
set_option linter.unnecessarySimpa false
namespace Go.Proofs.Ytokelpmngahnoaa
open Go.RowKit
set_option maxRecDepth 100000
attribute [local go_sem] Oper.semAt_some
attribute [local go_sem] run_store_fn
theorem Bun.afY {lo hi : Nat} {l : List Tsk} {w0 A : World} {L : List Res} (i : Nat) (h : Bun w0 L A) (hi_ : L[i]? = some (rafs lo hi l)) : Afs 0 A.heap.size A l := fun t ht => by
 have hP : Afs lo hi A l := h.at i hi_
 have hb := fun g hx => (h.ltAt i hi_ g hx).1
 obtain ⟨⟨hm, a, c, hv, h2⟩, hc⟩ := hP t ht
 refine ⟨⟨hm, a, c, hv, ?_⟩, hc⟩
 rcases h2 with h2 | ⟨b, off, ha, h3, h4, h5⟩
 · exact .inl h2
 · exact .inr ⟨b, off, ha, Nat.zero_le _, hb b ⟨h3, h4⟩, h5⟩
theorem timesw_g (lo hi : Nat) (vm vt : Value) (ms : List Mch) (ts : List Tsk) (lo2 hi2 : Nat) (vd : Value) (dl : List Wea) (w : World) (hj : JobAt lo hi w vm vt ms ts) (h2 : hi <= w.heap.size) (hd : Sl weaEnc 6 lo2 hi2 w vd dl) (h3 : hi2 <= w.heap.size) (hok : JobOk ms ts) (hn : dl.length <= 400) :
  Calls Try.prog 64 #[.agg #[.func (.func 103) #[] #[], .func (.func 104) #[] #[], vm, vt, vd]] w (fun e w' => ∃ (a1 a2 : Option Addr) (c1 c2 : Nat), e = .returned (.tuple #[.slice a1 ts.length c1, .slice a2 ts.length c2, .int .i64 ((caseOf true ms ts dl).opn ts.length)]) /\ w.grownBy w' none) := by
 refine (timesw_b lo hi vm vt ms ts lo2 hi2 vd dl w hj h2 hd h3 hok hn).mono ?_
 rintro e w' ⟨op, a1, a2, c1, c2, lo', hi', rfl, _, rfl, hB⟩
 exact ⟨a1, a2, c1, c2, rfl, hB.gb⟩
def CloneP {α : Type} (enc : α -> List Value) (e : TypeId) (sz b0 : Nat) (l : List α) (w : World) : Ending -> World -> Prop := fun en w' => ∃ (a : Option Addr) (c : Nat), en = .returned (.slice a l.length c) /\ Own enc e sz b0 w' (.slice a l.length c) l /\ (∀ g, (Value.slice a l.length c).ownBlock = some g -> w.heap.size <= g /\ g < w'.heap.size) /\ w.grownBy w' none
theorem CloneP.of {α : Type} {enc : α -> List Value} {e : TypeId} {sz b0 : Nat} {l : List α} {w w' : World} {a : Option Addr} {c : Nat} (hb : b0 <= w.heap.size) (hB : Bun w [rown enc e sz w.heap.size (.slice a l.length c) l] w') : CloneP enc e sz b0 l w (.returned (.slice a l.length c)) w' := by
 have ho : Own enc e sz w.heap.size w' (.slice a l.length c) l := hB.at 0 rfl
 refine ⟨a, c, rfl, ?_, ho.lt, hB.gb⟩
 obtain ⟨h1, h2⟩ := ho
 refine ⟨h1, ?_⟩
 rcases h2 with h2 | ⟨g, cap, cur, hv, hg, h3⟩
 · exact .inl h2
 · exact .inr ⟨g, cap, cur, hv, Nat.le_trans hb hg, h3⟩
theorem CloneP.nil {α : Type} {enc : α -> List Value} {e : TypeId} {sz b0 : Nat} {w w' : World} (hg : w.grownBy w' none) : CloneP enc e sz b0 ([] : List α) w (.returned (.slice none 0 0)) w' := ⟨none, 0, rfl, Own.nil _ _ _ _ _, (fun _ h => by cases h), hg⟩
theorem Sl.nilOr {α : Type} {enc : α -> List Value} {sz lo hi : Nat} {w : World} {v : Value} {l : List α} (h : Sl enc sz lo hi w v l) : (l = [] /\ ∃ c, v = .slice none 0 c) ∨ ∃ x ox c, v = .slice (some ⟨x, ox, none⟩) l.length c ∨ (l = [] /\ ∃ p, v = .slice (some p) 0 c) := by
 obtain ⟨_, a, c, rfl, h2⟩ := h
 rcases h2 with rfl | ⟨b, off, rfl, _⟩
 ·
  cases a with
  | none => exact .inl ⟨rfl, c, rfl⟩
  | some p => exact .inr ⟨0, 0, c, .inr ⟨rfl, p, rfl⟩⟩
 · exact .inr ⟨b, off, c, .inl rfl⟩
set_option maxHeartbeats 8000000 in
theorem opens_c (lo hi : Nat) (vm vt : Value) (ms : List Mch) (ts : List Tsk) (lo2 hi2 : Nat) (vd : Value) (dl : List Wea) (w : World) (hj : JobAt lo hi w vm vt ms ts) (h2 : hi <= w.heap.size) (hd : Sl weaEnc 6 lo2 hi2 w vd dl) (h3 : hi2 <= w.heap.size) (hok : JobOk ms ts) (hn : dl.length <= 400) :
  Calls Try.prog 90 #[.agg #[vm, vt], vd] w (Ret (.int .i64 ((caseOf true ms ts dl).opn ts.length)) w) := by
 have F1 : Bun w [] w := Bun.nil _
 obtain ⟨hms, hts, haf⟩ := hj
 have hm_ms := hms.len
 unfold maxLen at hm_ms
 obtain ⟨aM, cM, rfl⟩ := hms.any
 replace F1 := F1.sl0 hms h2 rfl
 clear hms
 have hm_ts := hts.len
 unfold maxLen at hm_ts
 obtain ⟨aT, cT, rfl⟩ := hts.any
 replace F1 := F1.sl0 hts h2 rfl
 clear hts
 replace F1 := F1.non0 (rafs lo hi ts) haf (fun _ h_ => Nat.lt_of_lt_of_le h_.2 h2) rfl rfl
 clear haf
 have hm_ds := hd.len
 unfold maxLen at hm_ds
 obtain ⟨ad, cd, rfl⟩ := hd.any
 replace F1 := F1.sl0 hd h3 rfl
 clear hd
 have HOK := lhd (And.intro hok hn)
 go_enter Try.func90, Try.ntmps90
 go_wp2_with fail
 replace F1 := F1.new 25 #[.slice aM ms.length cM, .slice aT ts.length cT] (n := w.heap.size) (by simp)
 obtain ⟨w7, hx8, F10, hxs9⟩ := (show Bun w [rbox w.heap.size 25 #[.slice aM ms.length cM, .slice aT ts.length cT], rsl weaEnc 6 lo2 hi2 (.slice ad dl.length cd) dl, rafs lo hi ts, rsl tskEnc 8 lo hi (.slice aT ts.length cT) ts, rsl mchEnc 3 lo hi (.slice aM ms.length cM) ms] _ from F1).name
 (try simp at hxs9)
 rw [hx8]
 clear hx8 F1
 replace F10 := F10.drew
 refine ru_begin (fun W => W.cell? ⟨w.heap.size, 0, none⟩ = some (.slice aM ms.length cM) /\ W.cell? ⟨w.heap.size, 1, none⟩ = some (.slice aT ts.length cT)) 11 (by kernel_rfl) ?_ ?_
 · exact ⟨F10.q 0 0, F10.q 0 1⟩
 obtain ⟨wd13, hwd_⟩ : ∃ x : World, w7.drew = x := ⟨_, rfl⟩
 rw [hwd_] at F10 ⊢
 have wd13s : w7.heap.size <= wd13.heap.size := by rw [← hwd_]; exact Nat.le_refl _
 clear hwd_
 have hS12 := (And.intro (F10.q 0 0) (F10.q 0 1))
 refine ru_t 1 [] ?_
 refine ru_t 2 [] ?_
 (try simp only [lpX])
 clear hS12
 refine ru_one 0 rfl (by kernel_rfl) (fun K hK => ?_)
 go_simp
 refine (pickedw_c _).mono ?_
 rintro e w16 ⟨rfl, hg14⟩
 have hg14s := hg14.size
 (try simp at hg14s)
 replace F10 := F10.gn hg14
 refine ru_back hK (by exact ⟨F10.q 0 0, F10.q 0 1⟩) (fun _ => ?_)
 clear hK K
 (try simp only [lpX])
 refine ru_p 3 ?_
 (try simp only [lpX])
 refine ru_one 4 rfl (by kernel_rfl) (fun K hK => ?_)
 go_simp
 refine (timesw_g lo hi _ _ ms ts lo2 hi2 _ dl _ (JobAt.mk (F10.at 4 rfl : Sl mchEnc 3 lo hi _ (.slice aM ms.length cM) ms) (F10.at 3 rfl : Sl tskEnc 8 lo hi _ (.slice aT ts.length cT) ts) (F10.at 2 rfl : Afs lo hi _ ts)) (Nat.le_trans h2 F10.gb.size) (F10.at 1 rfl : Sl weaEnc 6 lo2 hi2 _ (.slice ad dl.length cd) dl) (Nat.le_trans h3 F10.gb.size) HOK.out.1 HOK.out.2).mono ?_
 rintro e w20 ⟨a1w, a2w, c1w, c2w, rfl, hg18⟩
 have hg18s := hg18.size
 (try simp at hg18s)
 replace F10 := F10.gn hg18
 refine ru_back hK (by exact ⟨F10.q 0 0, F10.q 0 1⟩) (fun _ => ?_)
 clear hK K
 (try simp only [lpX])
 refine ru_p 5 ?_
 (try simp only [lpX])
 refine ru_p 6 ?_
 refine ru_p 7 ?_
 refine ru_p 8 ?_
 (try simp only [lpX])
 refine ru_p 9 ?_
 (try simp only [lpX])
 refine ru_p 10 ?_
 (try simp only [lpX])
 refine ru_one 11 rfl (by kernel_rfl) (fun K hK => ?_)
 go_simp
 refine ru_back_late hK (by kernel_rfl) ?_
 clear hK K
 (try simp only [lpX])
 refine ru_done (by kernel_rfl) ?_
 obtain ⟨w22, hx23, F25, hxs24⟩ := (show Bun w [rsl weaEnc 6 lo2 hi2 (.slice ad dl.length cd) dl, rafs lo hi ts, rsl tskEnc 8 lo hi (.slice aT ts.length cT) ts, rsl mchEnc 3 lo hi (.slice aM ms.length cM) ms] _ from (F10.drop 0 rfl)).name
 (try simp at hxs24)
 rw [hx23]
 clear hx23 F10
 go_wp2_with fail
 go_ret
 exact ⟨rfl, F25.gb⟩
end Go.Proofs.Ytokelpmngahnoaa
