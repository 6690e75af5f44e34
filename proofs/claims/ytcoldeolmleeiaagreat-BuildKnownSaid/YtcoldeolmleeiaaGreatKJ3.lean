/- build and its reference: what is wrong with tasks, jobs and days. -/
import Derived.Test.YtcoldeolmleeiaaGreatKJ2
set_option linter.unusedVariables false
set_option linter.unusedSimpArgs false
set_option linter.unnecessarySimpa false
namespace Go.Proofs.YtcoldeolmleeiaaGreat
open Go.RowKit
set_option maxRecDepth 100000
theorem rgJ342 (t : Nat -> Value) : ((List.range 42).map t).toArray = #[t 0, t 1, t 2, t 3, t 4, t 5, t 6, t 7, t 8, t 9, t 10, t 11, t 12, t 13, t 14, t 15, t 16, t 17, t 18, t 19, t 20, t 21, t 22, t 23, t 24, t 25, t 26, t 27, t 28, t 29, t 30, t 31, t 32, t 33, t 34, t 35, t 36, t 37, t 38, t 39, t 40, t 41] := rfl
structure WeaOk (d : Wea) : Prop where
 cold : -1000 <= d.cold.lo /\ d.cold.lo <= d.cold.hi /\ d.cold.hi <= 1000
 fall : 0 <= d.fall.lo /\ d.fall.lo <= d.fall.hi /\ d.fall.hi <= 1000
 water : 0 <= d.water /\ d.water <= 200
theorem weaOk {d : Wea} (h : weaErr d = 0) : WeaOk d := by
 unfold weaErr at h
 split at h
 · contradiction
 rename_i h1
 split at h
 · contradiction
 rename_i h2
 split at h
 · cases h
 · exact ⟨spanErr_ok (Classical.not_not.1 h1), spanErr_ok (Classical.not_not.1 h2), by omega⟩
theorem daysAll : ∀ {l : List Wea}, daysErr l = 0 -> ∀ d ∈ l, WeaOk d
 | [], _, d, hd => by cases hd
 | y :: l, h, d, hd => by
  rw [daysErr] at h
  split at h
  · contradiction
  rename_i h1
  rcases List.mem_cons.1 hd with rfl | hd
  · exact weaOk (Classical.not_not.1 h1)
  · exact daysAll h d hd
theorem daysOk {l : List Wea} (h : daysE l = 0) : l.length <= 400 /\ ∀ d ∈ l, WeaOk d := by
 unfold daysE at h
 split at h
 · cases h
 · exact ⟨by omega, daysAll h⟩
def sumC : List Wea -> Sp
 | [] => ⟨0, 0⟩
 | d :: ds => ⟨d.cold.lo + (sumC ds).lo, d.cold.hi + (sumC ds).hi⟩
theorem sumC_app : ∀ (a b : List Wea), sumC (a ++ b) = ⟨(sumC a).lo + (sumC b).lo, (sumC a).hi + (sumC b).hi⟩
 | [], b => by simp [sumC]
 | d :: a, b => by
  rw [List.cons_append, sumC, sumC_app a b, sumC]
  simp only [Sp.mk.injEq]
  omega
theorem sumC_take {l : List Wea} {k : Nat} {z : Wea} (h : l[k]? = some z) : sumC (l.take (k + 1)) = ⟨(sumC (l.take k)).lo + z.cold.lo, (sumC (l.take k)).hi + z.cold.hi⟩ := by
 obtain ⟨hk, rfl⟩ := List.getElem?_eq_some_iff.1 h
 rw [List.take_succ_eq_append_getElem hk, sumC_app]
 simp [sumC]
theorem sumC_bd {l : List Wea} (hd : ∀ d ∈ l, WeaOk d) : ∀ k : Nat, k <= l.length -> (-(1000 * (k : Int)) <= (sumC (l.take k)).lo /\ (sumC (l.take k)).lo <= 1000 * k) /\ -(1000 * (k : Int)) <= (sumC (l.take k)).hi /\ (sumC (l.take k)).hi <= 1000 * k
 | 0, _ => by simp [sumC]
 | k + 1, hk => by
  have h := List.getElem?_eq_getElem (l := l) (i := k) (by omega)
  have h1 := sumC_bd hd k (by omega)
  have h2 := (hd _ (List.mem_of_getElem? h)).cold
  rw [sumC_take h]
  simp only
  omega
def indexI (l : List Wea) : Sp := if daysE l = 0 then sumC l else ⟨0, 0⟩
def idxL (x : Int) : List Int -> Int -> Int
 | [], _ => -1
 | a :: l, k => if x = a then k else idxL x l (k + 1)
theorem idxL_iff {x : Int} : ∀ {l : List Int} {k : Int}, 0 <= k -> (0 <= idxL x l k ↔ x ∈ l)
 | [], k, _ => by simp [idxL]
 | a :: l, k, h => by
  rw [idxL, List.mem_cons]
  split
  ·
   rename_i h1
   exact ⟨fun _ => .inl h1, fun _ => h⟩
  rename_i h1
  rw [idxL_iff (l := l) (k := k + 1) (by omega)]
  exact ⟨.inr, fun h2 => h2.resolve_left h1⟩
def hasI (l : List Int) (x : Int) : Bool := l.contains x
theorem hasI_iff {l : List Int} {x : Int} : hasI l x = true ↔ x ∈ l := by simp [hasI]
theorem idxL_has {x : Int} {l : List Int} : decide (0 <= idxL x l 0) = hasI l x := by
 unfold hasI
 rw [Bool.eq_iff_iff, decide_eq_true_iff, idxL_iff (Int.le_refl _)]
 simp
theorem tsk_bad {nm i : Int} {t : Tsk} (h : ¬ fstE [unl (wth t.m 0 (nm - 1)) 7, spanErr t.ho.lo t.ho.hi 0 2000, spanErr t.wa.lo t.wa.hi 0 2000, spanErr t.fr.lo t.fr.hi 0 2000] = 0) :
  tskErr nm i t = fstE [unl (wth t.m 0 (nm - 1)) 7, spanErr t.ho.lo t.ho.hi 0 2000, spanErr t.wa.lo t.wa.hi 0 2000, spanErr t.fr.lo t.fr.hi 0 2000] := by
 simp only [fstE, unl, wth, decide_eq_true_eq, tskErr] at h ⊢
 generalize spanErr t.ho.lo t.ho.hi 0 2000 = a at h ⊢
 generalize spanErr t.wa.lo t.wa.hi 0 2000 = b at h ⊢
 generalize spanErr t.fr.lo t.fr.hi 0 2000 = c at h ⊢
 revert h
 repeat' split
 all_goals first | omega | (intros; omega)
theorem tsk_good {nm i : Int} {t : Tsk} (h : fstE [unl (wth t.m 0 (nm - 1)) 7, spanErr t.ho.lo t.ho.hi 0 2000, spanErr t.wa.lo t.wa.hi 0 2000, spanErr t.fr.lo t.fr.hi 0 2000] = 0) : tskErr nm i t = afErr i [] t.af := by
 simp only [fstE, unl, wth, decide_eq_true_eq, tskErr] at h ⊢
 generalize spanErr t.ho.lo t.ho.hi 0 2000 = a at h ⊢
 generalize spanErr t.wa.lo t.wa.hi 0 2000 = b at h ⊢
 generalize spanErr t.fr.lo t.fr.hi 0 2000 = c at h ⊢
 revert h
 repeat' split
 all_goals first | omega | (intros; first | rfl | omega)
theorem af_bad {i a : Int} {p l : List Int} (h : ¬ fstE [unl (wth a 0 (i - 1)) 7, unl (!hasI p a) 9] = 0) : afErr i p (a :: l) = fstE [unl (wth a 0 (i - 1)) 7, unl (!hasI p a) 9] := by
 unfold hasI at *
 simp only [fstE, unl, wth, decide_eq_true_eq, afErr] at h ⊢
 cases hc : p.contains a <;> simp only [hc, Bool.not_true, Bool.not_false, if_true, Bool.false_eq_true, if_false] at h ⊢ <;> revert h <;> (repeat' split) <;> first | omega | (intros; omega) | (intros; rfl)
theorem af_good {i a : Int} {p l : List Int} (h : fstE [unl (wth a 0 (i - 1)) 7, unl (!hasI p a) 9] = 0) : afErr i p (a :: l) = afErr i (p ++ [a]) l := by
 unfold hasI at *
 simp only [fstE, unl, wth, decide_eq_true_eq, afErr] at h ⊢
 cases hc : p.contains a <;> simp only [hc, Bool.not_true, Bool.not_false, if_true, Bool.false_eq_true, if_false] at h ⊢ <;> revert h <;> (repeat' split) <;> first | omega | (intros; first | rfl | omega)
theorem take_snoc {α : Type} {l : List α} {k : Nat} {z : α} (h : l[k]? = some z) : l.take k ++ [z] = l.take (k + 1) := by
 obtain ⟨hk, rfl⟩ := List.getElem?_eq_some_iff.1 h
 rw [List.take_succ_eq_append_getElem hk]
def jobE1 (ms : List Mch) (ts : List Tsk) (l : List Mch) : Int := if ¬ mchsErr l = 0 then mchsErr l else if 30 < ts.length then 8 else tsksErr ms.length 0 ts
theorem jobE1_cons {ms : List Mch} {ts : List Tsk} {x : Mch} {l : List Mch} : jobE1 ms ts (x :: l) = if ¬ mchErr x = 0 then mchErr x else jobE1 ms ts l := by
 unfold jobE1
 rw [mchsErr]
 by_cases h : mchErr x = 0
 · rw [if_neg (not_not_intro h), if_neg (not_not_intro h)]
 · rw [if_pos h, if_pos h, if_pos h]
set_option maxHeartbeats 4000000 in
theorem index_c (lo hi : Nat) (v : Value) (l : List Wea) (w : World) (hl : Sl weaEnc 6 lo hi w v l) (h2 : hi <= w.heap.size) :
  Calls Tryz.prog 40 #[v] w (Ret (.tuple #[.agg #[.int .i64 ((indexI l).lo), .int .i64 ((indexI l).hi)], .int .i64 (daysE l)]) w) := by
 have F1 : Bun w [] w := Bun.nil _
 have hm_ds := hl.len
 unfold maxLen at hm_ds
 obtain ⟨da, dc, rfl⟩ := hl.any
 replace F1 := F1.sl0 hl h2 rfl
 clear hl
 go_enter Tryz.func40, Tryz.ntmps40
 go_wp2_with fail
 replace F1 := F1.new 32 #[.int .i64 0, .int .i64 0] (n := w.heap.size) (by simp)
 refine (checkDays_c lo hi _ l _ (F1.s 1 rfl) (Nat.le_trans h2 F1.gb.size)).mono ?_
 rintro e w6 ⟨rfl, hg4⟩
 have hg4s := hg4.size
 (try simp at hg4s)
 replace F1 := F1.gn hg4
 clear hg4
 by_cases c8 : daysE l = 0
 ·
  obtain ⟨c8a, c8b⟩ := bqt c8
  have c8H := lhd c8
  clear c8
  have HOK := lhd (daysOk c8H.out)
  have hn4 := HOK.out.1
  go_wp2_with fail
  replace F1 := F1.new 32 #[.int .i64 0, .int .i64 0] (n := w6.heap.size) (by simp)
  obtain ⟨HI10_, HI100⟩ : ∃ I : RelT, I = (fun t ds wr => ∃ (k : Nat), t 2 = .pointer (some ⟨w.heap.size, 0, none⟩) /\ t 5 = .pointer (some ⟨w6.heap.size, 0, none⟩) /\ t 14 = .slice da l.length dc /\ t 15 = .int .i64 (l.length : Int) /\ t 16 = .int .i64 (k : Int) /\ k <= l.length /\ ds = [] /\ w6.heap.size <= wr.heap.size /\ Bun w [rbox w6.heap.size 32 #[.int .i64 (sumC (l.take k)).lo, .int .i64 (sumC (l.take k)).hi], rbox w.heap.size 32 #[.int .i64 0, .int .i64 0], rsl weaEnc 6 lo hi (.slice da l.length dc) l] wr) := ⟨_, rfl⟩
  have HI10 := lhd HI100
  clear HI100
  refine wp_loopS 35 rfl HI10_ (fun t wr => l.length - (intOf (t 16)).toNat) ?atStart1 ?round1
  case round1 =>
   intro t ds wr hHid
   rw [HI10.out] at hHid
   obtain ⟨k, e2, e5, e14, e15, e16, hrel⟩ := hHid
   have e : ((List.range 35).map t).toArray = #[t 0, t 1, t 2, t 3, t 4, t 5, t 6, t 7, t 8, t 9, t 10, t 11, t 12, t 13, t 14, t 15, t 16, t 17, t 18, t 19, t 20, t 21, t 22, t 23, t 24, t 25, t 26, t 27, t 28, t 29, t 30, t 31, t 32, t 33, t 34] := rfl
   (try dsimp only at e)
   rw [e2, e5, e14, e15, e16] at e
   rw [e]
   simp only [e16]
   clear e e2 e5 e14 e15 e16
   obtain ⟨hk, rfl, hs12, hF11⟩ := hrel
   clear F1
   obtain ⟨w13, rfl⟩ : ∃ x_ : World, x_ = wr := ⟨_, rfl⟩
   have hbd := sumC_bd HOK.out.2 k hk
   by_cases c14 : (k : Int) < (l.length : Int)
   ·
    have c14H := lhd c14
    obtain ⟨x15, o16, e_⟩ := Sl.addr (hF11.s 2 rfl) (by omega)
    subst e_
    obtain ⟨z, hz17_⟩ : ∃ z_, l[k]? = some z_ := ⟨_, List.getElem?_eq_getElem (by omega)⟩
    have hz17 := lhd hz17_
    clear hz17_
    have HS := lhd (sumC_take hz17.out)
    have hzc := (HOK.out.2 z (List.mem_of_getElem? hz17.out)).cold
    have b18 := hF11.bx2 0 rfl
    have ge19 : World.cell? _ ⟨x15, o16 + k * 6, none⟩ = some (.int .i64 z.cold.lo) := (Sl.cells (hF11.at 2 rfl) hz17.out 0 _ rfl)
    have gl20 := cell_lt ge19
    have ge21 : World.cell? _ ⟨x15, o16 + k * 6 + 1, none⟩ = some (.int .i64 z.cold.hi) := (Sl.cells (hF11.at 2 rfl) hz17.out 1 _ rfl)
    have ge22 : World.cell? _ ⟨x15, o16 + k * 6 + 2, none⟩ = some (.int .i64 z.fall.lo) := (Sl.cells (hF11.at 2 rfl) hz17.out 2 _ rfl)
    have ge23 : World.cell? _ ⟨x15, o16 + k * 6 + 3, none⟩ = some (.int .i64 z.fall.hi) := (Sl.cells (hF11.at 2 rfl) hz17.out 3 _ rfl)
    have ge24 : World.cell? _ ⟨x15, o16 + k * 6 + 4, none⟩ = some (.int .i64 z.water) := (Sl.cells (hF11.at 2 rfl) hz17.out 4 _ rfl)
    have ge25 : World.cell? _ ⟨x15, o16 + k * 6 + 5, none⟩ = some (.bool z.clear) := (Sl.cells (hF11.at 2 rfl) hz17.out 5 _ rfl)
    go_wp2_with fail
    clear b18 ge19 gl20 ge21 ge22 ge23 ge24 ge25
    have F26 := hF11.pt2 (.int .i64 ((sumC (l.take k)).lo + z.cold.lo)) (.int .i64 ((sumC (l.take k)).hi + z.cold.hi))
    clear hF11
    replace F26 := F26.new 61 #[.int .i64 z.cold.lo, .int .i64 z.cold.hi, .int .i64 z.fall.lo, .int .i64 z.fall.hi, .int .i64 z.water, .bool z.clear] (n := w13.heap.size) (by simp)
    have F28 : Bun w [rbox w6.heap.size 32 #[.int .i64 ((sumC (l.take k)).lo + z.cold.lo), .int .i64 ((sumC (l.take k)).hi + z.cold.hi)], rbox w.heap.size 32 #[.int .i64 0, .int .i64 0], rsl weaEnc 6 lo hi (.slice (some ⟨x15, o16, none⟩) l.length dc) l] _ := F26.pick [1, 2, 3] (by decide) rfl
    clear F26
    (first | refine ⟨rfl, ?_, ?_⟩ | refine ⟨?_, ?_⟩)
    · rw [HI10.out]; exact ⟨k + 1, rfl, rfl, rfl, rfl, (by show Value.int .i64 ((k : Int) + 1) = _; simp), by omega, (by first | rfl | simp), (by first | omega | (simp; done) | (simp; omega)), (by rw [HS.out]; exact F28)⟩
    · simp [slot, intOf]; omega
   have c14H := lhd c14
   have c14a := dec_f c14
   have Hx29 := lhd (show ((indexI l).lo) = (sumC (l.take k)).lo by rw [indexI, if_pos c8H.out, show sumC l = sumC (l.take k) by rw [List.take_of_length_le (by omega)]])
   have Hx30 := lhd (show ((indexI l).hi) = (sumC (l.take k)).hi by rw [indexI, if_pos c8H.out, show sumC l = sumC (l.take k) by rw [List.take_of_length_le (by omega)]])
   have Hx31 := lhd (show (daysE l) = 0 by exact c8H.out)
   have b32 := hF11.bx2 0 rfl
   have b33 := hF11.bx2 1 rfl
   go_wp2_with fail
   clear b32 b33
   have F34 := (hF11.front 1 rfl rfl).pt2 (.int .i64 ((sumC (l.take k)).lo)) (.int .i64 ((sumC (l.take k)).hi))
   clear hF11
   have kb35 := F34.bx2 0 rfl
   go_wp2_with fail
   exact bodyPost_ret (v := .tuple #[.agg #[.int .i64 ((sumC (l.take k)).lo), .int .i64 ((sumC (l.take k)).hi)], .int .i64 0]) (by simp [results, Tryz.results40, go_sem, kb35]) rfl (⟨by rw [Hx29.out, Hx30.out, Hx31.out] <;> rfl, F34.gb⟩)
  case atStart1 =>
   rw [HI10.out]
   exact ⟨0, rfl, rfl, rfl, rfl, rfl, Nat.zero_le _, rfl, (by first | exact Nat.le_refl _ | omega | (simp; done) | (simp; omega)), F1⟩
 obtain ⟨c8a, c8b⟩ := bqf c8
 have c8H := lhd c8
 clear c8
 have Hx36 := lhd (show ((indexI l).lo) = 0 by rw [indexI, if_neg c8H.out])
 have Hx37 := lhd (show ((indexI l).hi) = 0 by rw [indexI, if_neg c8H.out])
 have b38 := F1.bx2 0 rfl
 go_wp2_with fail
 clear b38
 replace F1 := F1.pt2 (.int .i64 0) (.int .i64 0)
 have kb40 := F1.bx2 0 rfl
 go_wp2_with fail
 exact bodyPost_ret (v := .tuple #[.agg #[.int .i64 0, .int .i64 0], .int .i64 (daysE l)]) (by simp [results, Tryz.results40, go_sem, kb40]) rfl (⟨by rw [Hx36.out, Hx37.out] <;> rfl, F1.gb⟩)
set_option maxHeartbeats 2000000 in
theorem idx_c (lo hi : Nat) (v : Value) (l : List Int) (x : Int) (w : World) (hl : Sl intEnc 1 lo hi w v l) (h2 : hi <= w.heap.size) :
  Calls Tryz.prog 67 #[v, .int .i64 x] w (Ret (.int .i64 (idxL x l 0)) w) := by
 have F1 : Bun w [] w := Bun.nil _
 have hm_l := hl.len
 unfold maxLen at hm_l
 obtain ⟨a, c, rfl⟩ := hl.any
 replace F1 := F1.sl0 hl h2 rfl
 clear hl
 go_enter Tryz.func67, Tryz.ntmps67
 go_wp2_with fail
 obtain ⟨HI3_, HI30⟩ : ∃ I : RelT, I = (fun t ds wr => ∃ (k : Nat), t 0 = .slice a l.length c /\ t 1 = .int .i64 x /\ t 7 = .int .i64 (l.length : Int) /\ t 8 = .int .i64 (k : Int) /\ k <= l.length /\ idxL x l 0 = idxL x (l.drop k) k /\ ds = [] /\ w.heap.size <= wr.heap.size /\ Bun w [rsl intEnc 1 lo hi (.slice a l.length c) l] wr) := ⟨_, rfl⟩
 have HI3 := lhd HI30
 clear HI30
 refine wp_loopS 19 rfl HI3_ (fun t wr => l.length - (intOf (t 8)).toNat) ?atStart2 ?round2
 case round2 =>
  intro t ds wr hHid
  rw [HI3.out] at hHid
  obtain ⟨k, e0, e1, e7, e8, hrel⟩ := hHid
  have e : ((List.range 19).map t).toArray = #[t 0, t 1, t 2, t 3, t 4, t 5, t 6, t 7, t 8, t 9, t 10, t 11, t 12, t 13, t 14, t 15, t 16, t 17, t 18] := rfl
  (try dsimp only at e)
  rw [e0, e1, e7, e8] at e
  rw [e]
  simp only [e8]
  clear e e0 e1 e7 e8
  obtain ⟨hk, hR, rfl, hs5, hF4⟩ := hrel
  clear F1
  obtain ⟨w6, rfl⟩ : ∃ x_ : World, x_ = wr := ⟨_, rfl⟩
  have HR := lhd hR
  clear hR
  by_cases c7 : (k : Int) < (l.length : Int)
  ·
   have c7H := lhd c7
   obtain ⟨x8, o9, e_⟩ := Sl.addr (hF4.s 0 rfl) (by omega)
   subst e_
   obtain ⟨z, hz10_⟩ : ∃ z_, l[k]? = some z_ := ⟨_, List.getElem?_eq_getElem (by omega)⟩
   have hz10 := lhd hz10_
   clear hz10_
   have HZ : Hid (idxL x l 0 = if x = z then (k : Int) else idxL x (l.drop (k + 1)) (k + 1)) := lhd (by rw [HR.out, drop_cons hz10.out, idxL])
   by_cases c11 : x = z
   ·
    obtain ⟨c11a, c11b⟩ := bqt c11
    have c11H := lhd c11
    clear c11
    have Hx12 := lhd (show (idxL x l 0) = (k : Int) by rw [HZ.out, if_pos c11H.out])
    have ge13 : World.cell? _ ⟨x8, o9 + k, none⟩ = some (.int .i64 z) := (by have h_ := Sl.cells (hF4.at 0 rfl) hz10.out 0 _ rfl; simpa using h_)
    have gl14 := cell_lt ge13
    go_wp2_with fail
    clear ge13 gl14
    go_ret
    exact ⟨by rw [Hx12.out] <;> rfl, hF4.gb⟩
   obtain ⟨c11a, c11b⟩ := bqf c11
   have c11H := lhd c11
   clear c11
   have ge15 : World.cell? _ ⟨x8, o9 + k, none⟩ = some (.int .i64 z) := (by have h_ := Sl.cells (hF4.at 0 rfl) hz10.out 0 _ rfl; simpa using h_)
   have gl16 := cell_lt ge15
   go_wp2_with fail
   clear ge15 gl16
   (first | refine ⟨rfl, ?_, ?_⟩ | refine ⟨?_, ?_⟩)
   · rw [HI3.out]; exact ⟨k + 1, rfl, rfl, rfl, (by show Value.int .i64 ((k : Int) + 1) = _; simp), (by omega), (by rw [HZ.out, if_neg c11H.out]; simp), (by first | rfl | simp), (by first | omega | (simp; done) | (simp; omega)), hF4⟩
   · simp [slot, intOf]; omega
  have c7H := lhd c7
  have c7a := dec_f c7
  have HE : Hid (idxL x l 0 = -1) := lhd (by rw [HR.out, List.drop_eq_nil_of_le (by omega)]; rfl)
  have Hx17 := lhd (show (idxL x l 0) = -1 by exact HE.out)
  go_wp2_with fail
  go_ret
  exact ⟨by rw [Hx17.out] <;> rfl, hF4.gb⟩
 case atStart2 =>
  rw [HI3.out]
  exact ⟨0, rfl, rfl, rfl, rfl, Nat.zero_le _, rfl, rfl, (by first | exact Nat.le_refl _ | omega | (simp; done) | (simp; omega)), F1⟩
set_option maxHeartbeats 2000000 in
theorem contains_c (lo hi : Nat) (v : Value) (l : List Int) (x : Int) (w : World) (hl : Sl intEnc 1 lo hi w v l) (h2 : hi <= w.heap.size) :
  Calls Tryz.prog 39 #[v, .int .i64 x] w (Ret (.bool (hasI l x)) w) := by
 have F1 : Bun w [] w := Bun.nil _
 have hm_l := hl.len
 unfold maxLen at hm_l
 obtain ⟨a, c, rfl⟩ := hl.any
 replace F1 := F1.sl0 hl h2 rfl
 clear hl
 go_enter Tryz.func39, Tryz.ntmps39
 go_wp2_with fail
 refine (idx_c lo hi _ l x _ (F1.s 0 rfl) (Nat.le_trans h2 F1.gb.size)).mono ?_
 rintro e w5 ⟨rfl, hg3⟩
 have hg3s := hg3.size
 (try simp at hg3s)
 replace F1 := F1.gn hg3
 clear hg3
 have Hx7 := lhd (show (((hasI l x) : Bool)) = (decide (0 <= idxL x l 0)) by exact idxL_has.symm)
 go_wp2_with fail
 go_ret
 exact ⟨by rw [Hx7.out] <;> rfl, F1.gb⟩
set_option maxHeartbeats 8000000 in
theorem task_c (lo hi : Nat) (vm vt : Value) (ms : List Mch) (ts : List Tsk) (i : Nat) (u : Tsk) (w : World) (hj : JobAt lo hi w vm vt ms ts) (h2 : hi <= w.heap.size) (hti : ts[i]? = some u) :
  Calls Tryz.prog 18 #[.agg #[vm, vt], .int .i64 (i : Int)] w (Ret (.int .i64 (tskErr ms.length i u)) w) := by
 have F1 : Bun w [] w := Bun.nil _
 obtain ⟨hms, hts, haf⟩ := hj
 have hm_ms := hms.len
 unfold maxLen at hm_ms
 obtain ⟨aM, cM, rfl⟩ := hms.any
 replace F1 := F1.sl0 hms h2 rfl
 clear hms
 have hm_ts := hts.len
 unfold maxLen at hm_ts
 obtain ⟨aT, cT, rfl⟩ := hts.any
 replace F1 := F1.sl0 hts h2 rfl
 clear hts
 replace F1 := F1.non0 (rafs lo hi ts) haf (fun _ h_ => Nat.lt_of_lt_of_le h_.2 h2) rfl rfl
 clear haf
 have hil := (List.getElem?_eq_some_iff.1 hti).1
 obtain ⟨x5, o6, e_⟩ := Sl.addr (F1.s 1 rfl) (by omega)
 subst e_
 have hz7 : Hid (ts[i]? = some u) := lhd (hti)
 obtain ⟨a_u, c_u, hav_u, hcap_u, hsl_u⟩ := Afs.open (F1.at 0 rfl : Afs lo hi _ ts) hz7.out
 have HAV_u := lhd hav_u
 clear hav_u
 replace F1 := F1.more 0 (rsl intEnc 1 lo hi (.slice a_u u.af.length c_u) u.af) rfl rfl rfl (fun _ h_ => h_) hsl_u
 have hm_u := (F1.s 0 rfl).len
 unfold maxLen at hm_u
 clear hti
 go_enter Tryz.func18, Tryz.ntmps18
 have ge10 : World.cell? _ ⟨x5, o6 + i * 8, none⟩ = some (.int .i64 u.m) := (Sl.cells (F1.at 2 rfl) hz7.out 0 _ rfl)
 have gl11 := cell_lt ge10
 have ge12 : World.cell? _ ⟨x5, o6 + i * 8 + 1, none⟩ = some (.int .i64 u.ho.lo) := (Sl.cells (F1.at 2 rfl) hz7.out 1 _ rfl)
 have ge13 : World.cell? _ ⟨x5, o6 + i * 8 + 2, none⟩ = some (.int .i64 u.ho.hi) := (Sl.cells (F1.at 2 rfl) hz7.out 2 _ rfl)
 have ge14 : World.cell? _ ⟨x5, o6 + i * 8 + 3, none⟩ = some (.int .i64 u.wa.lo) := (Sl.cells (F1.at 2 rfl) hz7.out 3 _ rfl)
 have ge15 : World.cell? _ ⟨x5, o6 + i * 8 + 4, none⟩ = some (.int .i64 u.wa.hi) := (Sl.cells (F1.at 2 rfl) hz7.out 4 _ rfl)
 have ge16 : World.cell? _ ⟨x5, o6 + i * 8 + 5, none⟩ = some (.int .i64 u.fr.lo) := (Sl.cells (F1.at 2 rfl) hz7.out 5 _ rfl)
 have ge17 : World.cell? _ ⟨x5, o6 + i * 8 + 6, none⟩ = some (.int .i64 u.fr.hi) := (Sl.cells (F1.at 2 rfl) hz7.out 6 _ rfl)
 have ge18 : World.cell? _ ⟨x5, o6 + i * 8 + 7, none⟩ = some (.slice a_u u.af.length c_u) := (HAV_u.out ▸ (Sl.cells (F1.at 2 rfl) hz7.out 7 _ rfl))
 go_wp2_with fail
 clear ge10 gl11 ge12 ge13 ge14 ge15 ge16 ge17 ge18
 replace F1 := F1.new 25 #[.slice aM ms.length cM, .slice (some ⟨x5, o6, none⟩) ts.length cT] (n := w.heap.size) (by simp)
 replace F1 := F1.new 34 #[.int .i64 u.m, .int .i64 u.ho.lo, .int .i64 u.ho.hi, .int .i64 u.wa.lo, .int .i64 u.wa.hi, .int .i64 u.fr.lo, .int .i64 u.fr.hi, .slice a_u u.af.length c_u] (n := (w.heap.size + 1)) (by simp)
 have Fn_ := F1
 (try dsimp only [lpF, lpG] at Fn_)
 obtain ⟨w21, hx22, F24, hxs23⟩ := Fn_.name
 (try simp at hxs23)
 rw [hx22]
 clear hx22 F1 Fn_
 have hw9 : IntKind.i64.wrap ((ms.length : Int) - 1) = (ms.length : Int) - 1 := IntWalk.i64_in _ (by omega)
 replace F24 := F24.drew
 refine ru_begin (fun W => W.cell? ⟨(w.heap.size + 1), 0, none⟩ = some (.int .i64 u.m) /\ W.cell? ⟨w.heap.size, 0, none⟩ = some (.slice aM ms.length cM) /\ W.cell? ⟨(w.heap.size + 1), 1, none⟩ = some (.int .i64 u.ho.lo) /\ W.cell? ⟨(w.heap.size + 1), 2, none⟩ = some (.int .i64 u.ho.hi) /\ W.cell? ⟨(w.heap.size + 1), 3, none⟩ = some (.int .i64 u.wa.lo) /\ W.cell? ⟨(w.heap.size + 1), 4, none⟩ = some (.int .i64 u.wa.hi) /\ W.cell? ⟨(w.heap.size + 1), 5, none⟩ = some (.int .i64 u.fr.lo) /\ W.cell? ⟨(w.heap.size + 1), 6, none⟩ = some (.int .i64 u.fr.hi)) 19 (by kernel_rfl) ?_ ?_
 · exact ⟨F24.q 0 0, F24.q 1 0, F24.q 0 1, F24.q 0 2, F24.q 0 3, F24.q 0 4, F24.q 0 5, F24.q 0 6⟩
 obtain ⟨wd27, hwd_⟩ : ∃ x : World, w21.drew = x := ⟨_, rfl⟩
 rw [hwd_] at F24 ⊢
 have wd27s : w21.heap.size <= wd27.heap.size := by rw [← hwd_]; exact Nat.le_refl _
 clear hwd_
 have hS26 := (And.intro (F24.q 0 0) (And.intro (F24.q 1 0) (And.intro (F24.q 0 1) (And.intro (F24.q 0 2) (And.intro (F24.q 0 3) (And.intro (F24.q 0 4) (And.intro (F24.q 0 5) (F24.q 0 6))))))))
 refine ru_t 0 [] ?_
 refine ru_t 1 [] ?_
 refine ru_t 2 [] ?_
 refine ru_t 3 [] ?_
 refine ru_t 4 [] ?_
 refine ru_t 5 [] ?_
 refine ru_t 8 [] ?_
 refine ru_t 9 [] ?_
 refine ru_t 11 [] ?_
 refine ru_t 12 [] ?_
 refine ru_t 14 [] ?_
 refine ru_t 15 [] ?_
 (try simp only [lpX])
 clear hS26
 refine ru_o 6 fun K hK => ?_
 go_simp
 refine (within_c _ _ _ _).mono ?_
 rintro e _ ⟨rfl, rfl⟩
 refine ru_back hK (by exact ⟨F24.q 0 0, F24.q 1 0, F24.q 0 1, F24.q 0 2, F24.q 0 3, F24.q 0 4, F24.q 0 5, F24.q 0 6⟩) (fun _ => ?_)
 clear hK K
 (try simp only [lpX])
 refine ru_o 7 fun K hK => ?_
 go_simp
 refine (unless_c _ _ _).mono ?_
 rintro e _ ⟨rfl, rfl⟩
 refine ru_back hK (by exact ⟨F24.q 0 0, F24.q 1 0, F24.q 0 1, F24.q 0 2, F24.q 0 3, F24.q 0 4, F24.q 0 5, F24.q 0 6⟩) (fun _ => ?_)
 clear hK K
 (try simp only [lpX])
 refine ru_o 10 fun K hK => ?_
 go_simp
 refine (hours_c _ _ _).mono ?_
 rintro e w30 ⟨rfl, hg28⟩
 have hg28s := hg28.size
 (try simp at hg28s)
 replace F24 := F24.gn hg28
 refine ru_back hK (by exact ⟨F24.q 0 0, F24.q 1 0, F24.q 0 1, F24.q 0 2, F24.q 0 3, F24.q 0 4, F24.q 0 5, F24.q 0 6⟩) (fun _ => ?_)
 clear hK K
 (try simp only [lpX])
 refine ru_o 13 fun K hK => ?_
 go_simp
 refine (hours_c _ _ _).mono ?_
 rintro e w34 ⟨rfl, hg32⟩
 have hg32s := hg32.size
 (try simp at hg32s)
 replace F24 := F24.gn hg32
 refine ru_back hK (by exact ⟨F24.q 0 0, F24.q 1 0, F24.q 0 1, F24.q 0 2, F24.q 0 3, F24.q 0 4, F24.q 0 5, F24.q 0 6⟩) (fun _ => ?_)
 clear hK K
 (try simp only [lpX])
 refine ru_o 16 fun K hK => ?_
 go_simp
 refine (hours_c _ _ _).mono ?_
 rintro e w38 ⟨rfl, hg36⟩
 have hg36s := hg36.size
 (try simp at hg36s)
 replace F24 := F24.gn hg36
 refine ru_back hK (by exact ⟨F24.q 0 0, F24.q 1 0, F24.q 0 1, F24.q 0 2, F24.q 0 3, F24.q 0 4, F24.q 0 5, F24.q 0 6⟩) (fun _ => ?_)
 clear hK K
 (try simp only [lpX])
 refine ru_o 17 fun K hK => ?_
 go_simp
 replace F24 := F24.new 36 #[.int .i64 (unl (wth u.m 0 ((ms.length : Int) - 1)) 7), .int .i64 (spanErr u.ho.lo u.ho.hi 0 2000), .int .i64 (spanErr u.wa.lo u.wa.hi 0 2000), .int .i64 (spanErr u.fr.lo u.fr.hi 0 2000)] (n := w38.heap.size) (by simp)
 refine ru_back hK (by exact ⟨F24.q 1 0, F24.q 2 0, F24.q 1 1, F24.q 1 2, F24.q 1 3, F24.q 1 4, F24.q 1 5, F24.q 1 6⟩) (fun _ => ?_)
 clear hK K
 (try simp only [lpX])
 refine ru_o 18 fun K hK => ?_
 go_simp
 refine (first_c w38.heap.size (w38.heap.size + 1) _ [(unl (wth u.m 0 ((ms.length : Int) - 1)) 7), spanErr u.ho.lo u.ho.hi 0 2000, spanErr u.wa.lo u.wa.hi 0 2000, spanErr u.fr.lo u.fr.hi 0 2000] _ (slI_of [(unl (wth u.m 0 ((ms.length : Int) - 1)) 7), spanErr u.ho.lo u.ho.hi 0 2000, spanErr u.wa.lo u.wa.hi 0 2000, spanErr u.fr.lo u.fr.hi 0 2000] 4 4 (F24.b 0 rfl) rfl rfl (by omega)) ((F24.b 0 rfl)).lt).mono ?_
 rintro e w43 ⟨rfl, hg41⟩
 have hg41s := hg41.size
 (try simp at hg41s)
 replace F24 := F24.gn hg41
 refine ru_back hK (by exact ⟨F24.q 1 0, F24.q 2 0, F24.q 1 1, F24.q 1 2, F24.q 1 3, F24.q 1 4, F24.q 1 5, F24.q 1 6⟩) (fun _ => ?_)
 clear hK K
 (try simp only [lpX])
 refine ru_o 19 fun K hK => ?_
 go_simp
 refine ru_back_late hK (by kernel_rfl) ?_
 clear hK K
 (try simp only [lpX])
 refine ru_done (by kernel_rfl) ?_
 (try clear hw9)
 have Fn_ := ((F24.drop 0 rfl).drop 1 rfl)
 (try dsimp only [lpF, lpG] at Fn_)
 obtain ⟨w45, hx46, F48, hxs47⟩ := Fn_.name
 (try simp at hxs47)
 rw [hx46]
 clear hx46 F24 Fn_
 by_cases c49 : fstE [(unl (wth u.m 0 ((ms.length : Int) - 1)) 7), spanErr u.ho.lo u.ho.hi 0 2000, spanErr u.wa.lo u.wa.hi 0 2000, spanErr u.fr.lo u.fr.hi 0 2000] = 0
 ·
  obtain ⟨c49a, c49b⟩ := bqt c49
  have c49H := lhd c49
  clear c49
  have b50 := F48.bx8 0 rfl
  go_wp2_with fail
  clear b50
  have H0 : Hid (tskErr ms.length i u = afErr i [] u.af) := lhd (tsk_good c49H.out)
  obtain ⟨HI51_, HI510⟩ : ∃ I : RelT, I = (fun t ds wr => ∃ (k : Nat), t 1 = .int .i64 (i : Int) /\ t 5 = .pointer (some ⟨w.heap.size + 1, 0, none⟩) /\ t 38 = .slice a_u u.af.length c_u /\ t 39 = .int .i64 (u.af.length : Int) /\ t 40 = .int .i64 (k : Int) /\ k <= u.af.length /\ tskErr ms.length i u = afErr i (u.af.take k) (u.af.drop k) /\ ds = [] /\ w45.heap.size <= wr.heap.size /\ Bun w [rbox (w.heap.size + 1) 34 #[.int .i64 u.m, .int .i64 u.ho.lo, .int .i64 u.ho.hi, .int .i64 u.wa.lo, .int .i64 u.wa.hi, .int .i64 u.fr.lo, .int .i64 u.fr.hi, .slice a_u u.af.length c_u], rsl intEnc 1 lo hi (.slice a_u u.af.length c_u) u.af, rafs lo hi ts, rsl tskEnc 8 lo hi (.slice (some ⟨x5, o6, none⟩) ts.length cT) ts, rsl mchEnc 3 lo hi (.slice aM ms.length cM) ms] wr) := ⟨_, rfl⟩
  have HI51 := lhd HI510
  clear HI510
  refine wp_loopS 64 rfl HI51_ (fun t wr => u.af.length - (intOf (t 40)).toNat) ?atStart3 ?round3
  case round3 =>
   intro t ds wr hHid
   rw [HI51.out] at hHid
   obtain ⟨k, e1, e5, e38, e39, e40, hrel⟩ := hHid
   have e : ((List.range 64).map t).toArray = #[t 0, t 1, t 2, t 3, t 4, t 5, t 6, t 7, t 8, t 9, t 10, t 11, t 12, t 13, t 14, t 15, t 16, t 17, t 18, t 19, t 20, t 21, t 22, t 23, t 24, t 25, t 26, t 27, t 28, t 29, t 30, t 31, t 32, t 33, t 34, t 35, t 36, t 37, t 38, t 39, t 40, t 41, t 42, t 43, t 44, t 45, t 46, t 47, t 48, t 49, t 50, t 51, t 52, t 53, t 54, t 55, t 56, t 57, t 58, t 59, t 60, t 61, t 62, t 63] := rfl
   (try dsimp only at e)
   rw [e1, e5, e38, e39, e40] at e
   rw [e]
   simp only [e40]
   clear e e1 e5 e38 e39 e40
   obtain ⟨hk, hR, rfl, hs53, hF52⟩ := hrel
   clear F48
   obtain ⟨w54, rfl⟩ : ∃ x_ : World, x_ = wr := ⟨_, rfl⟩
   have HR := lhd hR
   clear hR
   by_cases c55 : (k : Int) < (u.af.length : Int)
   ·
    have c55H := lhd c55
    obtain ⟨x56, o57, e_⟩ := Sl.addr (hF52.s 1 rfl) (by omega)
    subst e_
    obtain ⟨z, hz58_⟩ : ∃ z_, u.af[k]? = some z_ := ⟨_, List.getElem?_eq_getElem (by omega)⟩
    have hz58 := lhd hz58_
    clear hz58_
    have HZ : Hid (tskErr ms.length i u = afErr i (u.af.take k) (z :: u.af.drop (k + 1))) := lhd (by rw [HR.out, drop_cons hz58.out])
    have F59 := hF52.more 1 (rsl intEnc 1 lo hi (.slice (some ⟨x56, o57, none⟩) k c_u) (u.af.take k)) rfl rfl rfl (fun _ h_ => h_) (Sl.take (hF52.s 1 rfl) (by omega))
    clear hF52
    have ge61 : World.cell? _ ⟨x56, o57 + k, none⟩ = some (.int .i64 z) := (by have h_ := Sl.cells (F59.at 2 rfl) hz58.out 0 _ rfl; simpa using h_)
    have gl62 := cell_lt ge61
    go_wp2_with fail
    clear ge61 gl62
    have hw60 : IntKind.i64.wrap ((i : Int) - 1) = (i : Int) - 1 := IntWalk.i64_in _ (by omega)
    have hi63 : ∀ w, (Instr.sliceAt 28 (.slice (some ⟨x56, o57, none⟩) u.af.length c_u) none (some (.int .i64 (k : Int))) none).run Tryz.prog w = .ok (.slice (some ⟨x56, o57, none⟩) k c_u) w := fun w => slice_pre okInt (by omega) w
    replace F59 := F59.drew
    refine ru_begin (fun W => W.cell? ⟨(w.heap.size + 1), 7, none⟩ = some (.slice (some ⟨x56, o57, none⟩) u.af.length c_u)) 15 (by kernel_rfl) ?_ ?_
    · exact F59.q 1 7
    obtain ⟨wd66, hwd_⟩ : ∃ x : World, w54.drew = x := ⟨_, rfl⟩
    rw [hwd_] at F59 ⊢
    have wd66s : w54.heap.size <= wd66.heap.size := by rw [← hwd_]; exact Nat.le_refl _
    clear hwd_
    have hS65 := (F59.q 1 7)
    refine ru_t 0 [] ?_
    refine ru_t 1 [] ?_
    refine ru_t 2 [] ?_
    refine ru_t 5 [] ?_
    refine ru_t 6 [] ?_
    refine ru_t 7 [] ?_
    refine ru_t 8 [] ?_
    refine ru_t 9 [] ?_
    (try simp only [lpX])
    clear hS65
    refine ru_o 3 fun K hK => ?_
    go_simp
    refine (within_c _ _ _ _).mono ?_
    rintro e _ ⟨rfl, rfl⟩
    refine ru_back hK (by exact F59.q 1 7) (fun _ => ?_)
    clear hK K
    (try simp only [lpX])
    refine ru_o 4 fun K hK => ?_
    go_simp
    refine (unless_c _ _ _).mono ?_
    rintro e _ ⟨rfl, rfl⟩
    refine ru_back hK (by exact F59.q 1 7) (fun _ => ?_)
    clear hK K
    (try simp only [lpX])
    refine ru_o 10 fun K hK => ?_
    go_simp
    refine (contains_c _ _ _ (u.af.take k) z _ (F59.s 0 rfl) (by first | omega | (simp; omega))).mono ?_
    rintro e w69 ⟨rfl, hg67⟩
    have hg67s := hg67.size
    (try simp at hg67s)
    replace F59 := F59.gn hg67
    refine ru_back hK (by exact F59.q 1 7) (fun _ => ?_)
    clear hK K
    (try simp only [lpX])
    refine ru_p 11 ?_
    (try simp only [lpX])
    refine ru_o 12 fun K hK => ?_
    go_simp
    refine (unless_c _ _ _).mono ?_
    rintro e _ ⟨rfl, rfl⟩
    refine ru_back hK (by exact F59.q 1 7) (fun _ => ?_)
    clear hK K
    (try simp only [lpX])
    refine ru_o 13 fun K hK => ?_
    go_simp
    replace F59 := F59.new 36 #[.int .i64 (unl (wth z 0 ((i : Int) - 1)) 7), .int .i64 (unl (!(hasI (u.af.take k) z)) 9)] (n := w69.heap.size) (by simp)
    refine ru_back hK (by exact F59.q 2 7) (fun _ => ?_)
    clear hK K
    (try simp only [lpX])
    refine ru_o 14 fun K hK => ?_
    go_simp
    refine (first_c w69.heap.size (w69.heap.size + 1) _ [(unl (wth z 0 ((i : Int) - 1)) 7), unl (!(hasI (u.af.take k) z)) 9] _ (slI_of [(unl (wth z 0 ((i : Int) - 1)) 7), unl (!(hasI (u.af.take k) z)) 9] 2 2 (F59.b 0 rfl) rfl rfl (by omega)) ((F59.b 0 rfl)).lt).mono ?_
    rintro e w74 ⟨rfl, hg72⟩
    have hg72s := hg72.size
    (try simp at hg72s)
    replace F59 := F59.gn hg72
    refine ru_back hK (by exact F59.q 2 7) (fun _ => ?_)
    clear hK K
    (try simp only [lpX])
    refine ru_o 15 fun K hK => ?_
    go_simp
    refine ru_back_late hK (by kernel_rfl) ?_
    clear hK K
    (try simp only [lpX])
    refine ru_done (by kernel_rfl) ?_
    (try clear hw60 hi63)
    have Fn_ := (F59.drop 0 rfl)
    (try dsimp only [lpF, lpG] at Fn_)
    obtain ⟨w76, hx77, F79, hxs78⟩ := Fn_.name
    (try simp at hxs78)
    rw [hx77]
    clear hx77 F59 Fn_
    by_cases c80 : fstE [(unl (wth z 0 ((i : Int) - 1)) 7), unl (!(hasI (u.af.take k) z)) 9] = 0
    ·
     obtain ⟨c80a, c80b⟩ := bqt c80
     have c80H := lhd c80
     clear c80
     go_wp2_with fail
     have F81 : Bun w [rbox (w.heap.size + 1) 34 #[.int .i64 u.m, .int .i64 u.ho.lo, .int .i64 u.ho.hi, .int .i64 u.wa.lo, .int .i64 u.wa.hi, .int .i64 u.fr.lo, .int .i64 u.fr.hi, .slice (some ⟨x56, o57, none⟩) u.af.length c_u], rsl intEnc 1 lo hi (.slice (some ⟨x56, o57, none⟩) u.af.length c_u) u.af, rafs lo hi ts, rsl tskEnc 8 lo hi (.slice (some ⟨x5, o6, none⟩) ts.length cT) ts, rsl mchEnc 3 lo hi (.slice aM ms.length cM) ms] _ := F79.pick [1, 2, 3, 4, 5] (by decide) rfl
     clear F79
     (first | refine ⟨by kernel_rfl, ?_, ?_⟩ | refine ⟨rfl, ?_, ?_⟩ | refine ⟨?_, ?_⟩)
     · rw [HI51.out]; exact ⟨k + 1, (by kernel_rfl), (by kernel_rfl), (by kernel_rfl), (by kernel_rfl), (by show Value.int .i64 ((k : Int) + 1) = _; simp), (by omega), (by rw [HZ.out, af_good c80H.out, take_snoc hz58.out]), (by first | rfl | simp), (by first | omega | (simp; done) | (simp; omega)), F81⟩
     · simp [slot, intOf]; omega
    obtain ⟨c80a, c80b⟩ := bqf c80
    have c80H := lhd c80
    clear c80
    have Hx82 := lhd (show (tskErr ms.length i u) = fstE [(unl (wth z 0 ((i : Int) - 1)) 7), unl (!(hasI (u.af.take k) z)) 9] by rw [HZ.out]; exact af_bad c80H.out)
    go_wp2_with fail
    go_ret
    exact ⟨by rw [Hx82.out] <;> rfl, F79.gb⟩
   have c55H := lhd c55
   have c55a := dec_f c55
   have HE : Hid (tskErr ms.length i u = 0) := lhd (by rw [HR.out, List.drop_eq_nil_of_le (by omega)]; rfl)
   have Hx83 := lhd (show (tskErr ms.length i u) = 0 by exact HE.out)
   go_wp2_with fail
   go_ret
   exact ⟨by rw [Hx83.out] <;> rfl, hF52.gb⟩
  case atStart3 =>
   rw [HI51.out]
   exact ⟨0, (by kernel_rfl), (by kernel_rfl), (by kernel_rfl), (by kernel_rfl), rfl, Nat.zero_le _, H0.out, rfl, (by first | exact Nat.le_refl _ | omega | (simp; done) | (simp; omega)), F48⟩
 obtain ⟨c49a, c49b⟩ := bqf c49
 have c49H := lhd c49
 clear c49
 have Hx84 := lhd (show (tskErr ms.length i u) = fstE [(unl (wth u.m 0 ((ms.length : Int) - 1)) 7), spanErr u.ho.lo u.ho.hi 0 2000, spanErr u.wa.lo u.wa.hi 0 2000, spanErr u.fr.lo u.fr.hi 0 2000] by exact tsk_bad c49H.out)
 go_wp2_with fail
 go_ret
 exact ⟨by rw [Hx84.out] <;> rfl, F48.gb⟩
set_option maxHeartbeats 8000000 in
theorem bcheck_c (lo hi : Nat) (vm vt : Value) (ms : List Mch) (ts : List Tsk) (w : World) (hj : JobAt lo hi w vm vt ms ts) (h2 : hi <= w.heap.size) :
  Calls Tryz.prog 6 #[.agg #[vm, vt]] w (Ret (.int .i64 (jobErr ms ts)) w) := by
 have F1 : Bun w [] w := Bun.nil _
 obtain ⟨hms, hts, haf⟩ := hj
 have hm_ms := hms.len
 unfold maxLen at hm_ms
 obtain ⟨aM, cM, rfl⟩ := hms.any
 replace F1 := F1.sl0 hms h2 rfl
 clear hms
 have hm_ts := hts.len
 unfold maxLen at hm_ts
 obtain ⟨aT, cT, rfl⟩ := hts.any
 replace F1 := F1.sl0 hts h2 rfl
 clear hts
 replace F1 := F1.non0 (rafs lo hi ts) haf (fun _ h_ => Nat.lt_of_lt_of_le h_.2 h2) rfl rfl
 clear haf
 go_enter Tryz.func6, Tryz.ntmps6
 by_cases c5 : 10 < (ms.length : Int)
 ·
  have c5H := lhd c5
  have Hx6 := lhd (show (jobErr ms ts) = 8 by rw [jobErr, if_pos (by omega)])
  go_wp2_with fail
  replace F1 := F1.new 25 #[.slice aM ms.length cM, .slice aT ts.length cT] (n := w.heap.size) (by simp)
  go_ret
  exact ⟨by rw [Hx6.out] <;> rfl, F1.gb⟩
 have c5H := lhd c5
 have c5a := dec_f c5
 go_wp2_with fail
 replace F1 := F1.new 25 #[.slice aM ms.length cM, .slice aT ts.length cT] (n := w.heap.size) (by simp)
 have H0 : Hid (jobErr ms ts = jobE1 ms ts ms) := lhd (by rw [jobErr, if_neg (by omega)]; rfl)
 obtain ⟨HI9_, HI90⟩ : ∃ I : RelT, I = (fun t ds wr => ∃ (k : Nat), t 1 = .pointer (some ⟨w.heap.size, 0, none⟩) /\ t 13 = .slice aM ms.length cM /\ t 14 = .int .i64 (ms.length : Int) /\ t 15 = .int .i64 (k : Int) /\ k <= ms.length /\ jobErr ms ts = jobE1 ms ts (ms.drop k) /\ ds = [] /\ w.heap.size <= wr.heap.size /\ Bun w [rbox w.heap.size 25 #[.slice aM ms.length cM, .slice aT ts.length cT], rafs lo hi ts, rsl tskEnc 8 lo hi (.slice aT ts.length cT) ts, rsl mchEnc 3 lo hi (.slice aM ms.length cM) ms] wr) := ⟨_, rfl⟩
 have HI9 := lhd HI90
 clear HI90
 refine wp_loopS 42 rfl HI9_ (fun t wr => ms.length - (intOf (t 15)).toNat) ?atStart4 ?round4
 case round4 =>
  intro t ds wr hHid
  rw [HI9.out] at hHid
  obtain ⟨k, e1, e13, e14, e15, hrel⟩ := hHid
  have e := rgJ342 t
  (try dsimp only at e)
  rw [e1, e13, e14, e15] at e
  rw [e]
  simp only [e15]
  clear e e1 e13 e14 e15
  obtain ⟨hk, hR, rfl, hs11, hF10⟩ := hrel
  clear F1
  obtain ⟨w12, rfl⟩ : ∃ x_ : World, x_ = wr := ⟨_, rfl⟩
  have HR := lhd hR
  clear hR
  by_cases c13 : (k : Int) < (ms.length : Int)
  ·
   have c13H := lhd c13
   obtain ⟨x14, o15, e_⟩ := Sl.addr (hF10.s 3 rfl) (by omega)
   subst e_
   obtain ⟨z, hz16_⟩ : ∃ z_, ms[k]? = some z_ := ⟨_, List.getElem?_eq_getElem (by omega)⟩
   have hz16 := lhd hz16_
   clear hz16_
   have HZ : Hid (jobErr ms ts = if ¬ mchErr z = 0 then mchErr z else jobE1 ms ts (ms.drop (k + 1))) := lhd (by rw [HR.out, drop_cons hz16.out, jobE1_cons])
   have ge17 : World.cell? _ ⟨x14, o15 + k * 3, none⟩ = some (.int .i64 z.mild) := (Sl.cells (hF10.at 3 rfl) hz16.out 0 _ rfl)
   have gl18 := cell_lt ge17
   have ge19 : World.cell? _ ⟨x14, o15 + k * 3 + 1, none⟩ = some (.int .i64 z.hard) := (Sl.cells (hF10.at 3 rfl) hz16.out 1 _ rfl)
   have ge20 : World.cell? _ ⟨x14, o15 + k * 3 + 2, none⟩ = some (.int .i64 z.shift) := (Sl.cells (hF10.at 3 rfl) hz16.out 2 _ rfl)
   go_wp2_with fail
   clear ge17 gl18 ge19 ge20
   have F21 := hF10.new 30 #[.int .i64 z.mild, .int .i64 z.hard, .int .i64 z.shift] (n := w12.heap.size) (by simp)
   clear hF10
   refine (machine_c z _).mono ?_
   rintro e w24 ⟨rfl, hg22⟩
   have hg22s := hg22.size
   (try simp at hg22s)
   replace F21 := F21.gn hg22
   clear hg22
   by_cases c26 : mchErr z = 0
   ·
    obtain ⟨c26a, c26b⟩ := bqt c26
    have c26H := lhd c26
    clear c26
    go_wp2_with fail
    have F27 : Bun w [rbox w.heap.size 25 #[.slice (some ⟨x14, o15, none⟩) ms.length cM, .slice aT ts.length cT], rafs lo hi ts, rsl tskEnc 8 lo hi (.slice aT ts.length cT) ts, rsl mchEnc 3 lo hi (.slice (some ⟨x14, o15, none⟩) ms.length cM) ms] _ := F21.pick [1, 2, 3, 4] (by decide) rfl
    clear F21
    (first | refine ⟨by kernel_rfl, ?_, ?_⟩ | refine ⟨rfl, ?_, ?_⟩ | refine ⟨?_, ?_⟩)
    · rw [HI9.out]; exact ⟨k + 1, (by kernel_rfl), (by kernel_rfl), (by kernel_rfl), (by show Value.int .i64 ((k : Int) + 1) = _; simp), (by omega), (by rw [HZ.out, if_neg (not_not_intro c26H.out)]), (by first | rfl | simp), (by first | omega | (simp; done) | (simp; omega)), F27⟩
    · simp [slot, intOf]; omega
   obtain ⟨c26a, c26b⟩ := bqf c26
   have c26H := lhd c26
   clear c26
   have Hx28 := lhd (show (jobErr ms ts) = mchErr z by rw [HZ.out, if_pos c26H.out])
   go_wp2_with fail
   go_ret
   exact ⟨by rw [Hx28.out] <;> rfl, F21.gb⟩
  have c13H := lhd c13
  have c13a := dec_f c13
  have HE : Hid (jobErr ms ts = if 30 < ts.length then 8 else tsksErr ms.length 0 ts) := lhd (by rw [HR.out, List.drop_eq_nil_of_le (by omega)]; rfl)
  by_cases c29 : 30 < (ts.length : Int)
  ·
   have c29H := lhd c29
   have Hx30 := lhd (show (jobErr ms ts) = 8 by rw [HE.out, if_pos (by omega)])
   have b31 := hF10.bx2 0 rfl
   go_wp2_with fail
   clear b31
   go_ret
   exact ⟨by rw [Hx30.out] <;> rfl, hF10.gb⟩
  have c29H := lhd c29
  have c29a := dec_f c29
  have b32 := hF10.bx2 0 rfl
  go_wp2_with fail
  clear b32
  have H1 : Hid (jobErr ms ts = tsksErr ms.length 0 ts) := lhd (by rw [HE.out, if_neg (by omega)])
  obtain ⟨HI33_, HI330⟩ : ∃ I : RelT, I = (fun t ds wr => ∃ (k : Nat), t 1 = .pointer (some ⟨w.heap.size, 0, none⟩) /\ t 31 = .int .i64 (ts.length : Int) /\ t 32 = .int .i64 (k : Int) /\ k <= ts.length /\ jobErr ms ts = tsksErr ms.length k (ts.drop k) /\ ds = [] /\ w12.heap.size <= wr.heap.size /\ Bun w [rbox w.heap.size 25 #[.slice aM ms.length cM, .slice aT ts.length cT], rafs lo hi ts, rsl tskEnc 8 lo hi (.slice aT ts.length cT) ts, rsl mchEnc 3 lo hi (.slice aM ms.length cM) ms] wr) := ⟨_, rfl⟩
  have HI33 := lhd HI330
  clear HI330
  refine wp_loopS 42 rfl HI33_ (fun t wr => ts.length - (intOf (t 32)).toNat) ?atStart5 ?round5
  case round5 =>
   intro t ds wr hHid
   rw [HI33.out] at hHid
   obtain ⟨k, e1, e31, e32, hrel⟩ := hHid
   have e := rgJ342 t
   (try dsimp only at e)
   rw [e1, e31, e32] at e
   rw [e]
   simp only [e32]
   clear e e1 e31 e32
   obtain ⟨hk2, hR2, rfl, hs35, hF34⟩ := hrel
   clear hF10
   obtain ⟨w36, rfl⟩ : ∃ x_ : World, x_ = wr := ⟨_, rfl⟩
   have HR2 := lhd hR2
   clear hR2
   by_cases c37 : (k : Int) < (ts.length : Int)
   ·
    have c37H := lhd c37
    obtain ⟨z, htz⟩ : ∃ t_, ts[k]? = some t_ := ⟨_, List.getElem?_eq_getElem (by omega)⟩
    have HZT := lhd htz
    clear htz
    have HZ : Hid (jobErr ms ts = if ¬ tskErr ms.length k z = 0 then tskErr ms.length k z else tsksErr ms.length (k + 1) (ts.drop (k + 1))) := lhd (by rw [HR2.out, drop_cons HZT.out, tsksErr])
    have b38 := hF34.bx2 0 rfl
    go_wp2_with fail
    clear b38
    refine (task_c lo hi _ _ ms ts k z _ (JobAt.mk (hF34.s 3 rfl) (hF34.s 2 rfl) (hF34.at 1 rfl : Afs lo hi _ ts)) (Nat.le_trans h2 hF34.gb.size) HZT.out).mono ?_
    rintro e w41 ⟨rfl, hg39⟩
    have hg39s := hg39.size
    (try simp at hg39s)
    have F42 := hF34.gn hg39
    clear hF34
    clear hg39
    by_cases c43 : tskErr ms.length k z = 0
    ·
     obtain ⟨c43a, c43b⟩ := bqt c43
     have c43H := lhd c43
     clear c43
     go_wp2_with fail
     (first | refine ⟨by kernel_rfl, ?_, ?_⟩ | refine ⟨rfl, ?_, ?_⟩ | refine ⟨?_, ?_⟩)
     · rw [HI33.out]; exact ⟨k + 1, (by kernel_rfl), (by kernel_rfl), (by show Value.int .i64 ((k : Int) + 1) = _; simp), (by omega), (by rw [HZ.out, if_neg (not_not_intro c43H.out)]), (by first | rfl | simp), (by first | omega | (simp; done) | (simp; omega)), F42⟩
     · simp [slot, intOf]; omega
    obtain ⟨c43a, c43b⟩ := bqf c43
    have c43H := lhd c43
    clear c43
    have Hx44 := lhd (show (jobErr ms ts) = tskErr ms.length k z by rw [HZ.out, if_pos c43H.out])
    go_wp2_with fail
    go_ret
    exact ⟨by rw [Hx44.out] <;> rfl, F42.gb⟩
   have c37H := lhd c37
   have c37a := dec_f c37
   have HE2 : Hid (jobErr ms ts = 0) := lhd (by rw [HR2.out, List.drop_eq_nil_of_le (by omega)]; rfl)
   have Hx45 := lhd (show (jobErr ms ts) = 0 by exact HE2.out)
   go_wp2_with fail
   go_ret
   exact ⟨by rw [Hx45.out] <;> rfl, hF34.gb⟩
  case atStart5 =>
   rw [HI33.out]
   exact ⟨0, (by kernel_rfl), (by kernel_rfl), rfl, Nat.zero_le _, H1.out, rfl, (by first | exact Nat.le_refl _ | omega | (simp; done) | (simp; omega)), hF10⟩
 case atStart4 =>
  rw [HI9.out]
  exact ⟨0, (by kernel_rfl), (by kernel_rfl), (by kernel_rfl), rfl, Nat.zero_le _, H0.out, rfl, (by first | exact Nat.le_refl _ | omega | (simp; done) | (simp; omega)), F1⟩
set_option maxHeartbeats 4000000 in
theorem bcheckAll_c (lo hi : Nat) (vm vt : Value) (ms : List Mch) (ts : List Tsk) (lo2 hi2 : Nat) (vd : Value) (dl : List Wea) (w : World) (hj : JobAt lo hi w vm vt ms ts) (h2 : hi <= w.heap.size) (hd : Sl weaEnc 6 lo2 hi2 w vd dl) (h3 : hi2 <= w.heap.size) :
  Calls Tryz.prog 19 #[.agg #[vm, vt], vd] w (Ret (.int .i64 (bothErr ms ts dl)) w) := by
 have F1 : Bun w [] w := Bun.nil _
 obtain ⟨hms, hts, haf⟩ := hj
 have hm_ms := hms.len
 unfold maxLen at hm_ms
 obtain ⟨aM, cM, rfl⟩ := hms.any
 replace F1 := F1.sl0 hms h2 rfl
 clear hms
 have hm_ts := hts.len
 unfold maxLen at hm_ts
 obtain ⟨aT, cT, rfl⟩ := hts.any
 replace F1 := F1.sl0 hts h2 rfl
 clear hts
 replace F1 := F1.non0 (rafs lo hi ts) haf (fun _ h_ => Nat.lt_of_lt_of_le h_.2 h2) rfl rfl
 clear haf
 have hm_ds := hd.len
 unfold maxLen at hm_ds
 obtain ⟨ad, cd, rfl⟩ := hd.any
 replace F1 := F1.sl0 hd h3 rfl
 clear hd
 go_enter Tryz.func19, Tryz.ntmps19
 go_wp2_with fail
 replace F1 := F1.new 25 #[.slice aM ms.length cM, .slice aT ts.length cT] (n := w.heap.size) (by simp)
 refine (bcheck_c lo hi _ _ ms ts _ (JobAt.mk (F1.s 4 rfl) (F1.s 3 rfl) (F1.at 2 rfl : Afs lo hi _ ts)) (Nat.le_trans h2 F1.gb.size)).mono ?_
 rintro e w9 ⟨rfl, hg7⟩
 have hg7s := hg7.size
 (try simp at hg7s)
 replace F1 := F1.gn hg7
 clear hg7
 by_cases c11 : jobErr ms ts = 0
 ·
  obtain ⟨c11a, c11b⟩ := bqt c11
  have c11H := lhd c11
  clear c11
  go_wp2_with fail
  refine (index_c lo2 hi2 _ dl _ (F1.s 1 rfl) (Nat.le_trans h3 F1.gb.size)).mono ?_
  rintro e w14 ⟨rfl, hg12⟩
  have hg12s := hg12.size
  (try simp at hg12s)
  replace F1 := F1.gn hg12
  clear hg12
  have Hx16 := lhd (show (bothErr ms ts dl) = daysE dl by rw [bothErr, if_neg (not_not_intro c11H.out)])
  go_wp2_with fail
  replace F1 := F1.new 32 #[.int .i64 ((indexI dl).lo), .int .i64 ((indexI dl).hi)] (n := w14.heap.size) (by simp)
  go_ret
  exact ⟨by rw [Hx16.out] <;> rfl, F1.gb⟩
 obtain ⟨c11a, c11b⟩ := bqf c11
 have c11H := lhd c11
 clear c11
 have Hx18 := lhd (show (bothErr ms ts dl) = jobErr ms ts by rw [bothErr, if_pos c11H.out])
 go_wp2_with fail
 go_ret
 exact ⟨by rw [Hx18.out] <;> rfl, F1.gb⟩
end Go.Proofs.YtcoldeolmleeiaaGreat
