/- frost: Index. -/
import Derived.Test.YtgkjicejaalijaaDoorF13
set_option linter.unusedVariables false
set_option linter.unusedSimpArgs false
set_option linter.unnecessarySimpa false
namespace Go.Proofs.YtgkjicejaalijaaDoor
open Go.RowKit
set_option maxRecDepth 100000

def sumC : List Wea → Sp
  | [] => ⟨0, 0⟩
  | d :: ds => ⟨d.cold.lo + (sumC ds).lo, d.cold.hi + (sumC ds).hi⟩
theorem sumC_app : ∀ (a b : List Wea), sumC (a ++ b) = ⟨(sumC a).lo + (sumC b).lo, (sumC a).hi + (sumC b).hi⟩
  | [], b => by simp [sumC]
  | d :: a, b => by
    rw [List.cons_append, sumC, sumC_app a b, sumC]
    simp only [Sp.mk.injEq]
    omega
theorem sumC_take {l : List Wea} {k : Nat} {z : Wea} (h : l[k]? = some z) : sumC (l.take (k + 1)) = ⟨(sumC (l.take k)).lo + z.cold.lo, (sumC (l.take k)).hi + z.cold.hi⟩ := by
  obtain ⟨hk, rfl⟩ := List.getElem?_eq_some_iff.1 h
  rw [List.take_succ_eq_append_getElem hk, sumC_app]
  simp [sumC]
theorem sumC_bd {l : List Wea} (hd : ∀ d ∈ l, WeaOk d) : ∀ k : Nat, k ≤ l.length → (-(1000 * (k : Int)) ≤ (sumC (l.take k)).lo ∧ (sumC (l.take k)).lo ≤ 1000 * k) ∧ -(1000 * (k : Int)) ≤ (sumC (l.take k)).hi ∧ (sumC (l.take k)).hi ≤ 1000 * k
  | 0, _ => by simp [sumC]
  | k + 1, hk => by
    have h := List.getElem?_eq_getElem (l := l) (i := k) (by omega)
    have h1 := sumC_bd hd k (by omega)
    have h2 := (hd _ (List.mem_of_getElem? h)).cold
    rw [sumC_take h]
    simp only
    omega
def indexI (l : List Wea) : Sp := if daysE l = 0 then sumC l else ⟨0, 0⟩
theorem daysOk {l : List Wea} (h : daysE l = 0) : l.length ≤ 400 ∧ ∀ d ∈ l, WeaOk d := by
  have h2 : allE ⟨0, 1, [⟨0, ⟨0, 0⟩⟩], ⟨0, 0⟩, 0, ⟨0, 0⟩⟩ ⟨⟨0, 0⟩, ⟨0, 0⟩, ⟨0, 0⟩, ⟨0, 0⟩⟩ l = 0 := by
    unfold allE
    rw [if_neg (by simp [froErr, covsE, covErr, spanErr, deepB, moreB]), if_neg (by simp [iceErr, spanErr])]
    exact h
  exact (allOk h2).2.2.2
set_option maxHeartbeats 4000000 in
theorem index_c (lo hi : Nat) (v : Value) (l : List Wea) (w : World) (hl : Sl weaEnc 6 lo hi w v l) (h2 : hi ≤ w.heap.size) :
    Calls Tryd.prog 41 #[v] w (Ret (.tuple #[.agg #[.int .i64 ((indexI l).lo), .int .i64 ((indexI l).hi)], .int .i64 (daysE l)]) w) := by
  have F1 : Bun w [] w := Bun.nil _
  have hm_ds := hl.len
  unfold maxLen at hm_ds
  obtain ⟨da, dc, rfl⟩ := hl.any
  have F2 := F1.sl0 hl h2 rfl
  clear F1
  clear hl
  go_enter Tryd.func41, Tryd.ntmps41
  go_wp2_with fail
  have F3 := F2.new 24 #[.int .i64 0, .int .i64 0] (n := w.heap.size) (by simp)
  clear F2
  refine (checkDays_c lo hi _ l _ (F3.at 1 rfl : Sl weaEnc 6 lo hi _ (.slice da l.length dc) l) (Nat.le_trans h2 F3.gb.size)).mono ?_
  rintro e w6 ⟨rfl, hg4⟩
  have hg4s := hg4.size
  (try simp at hg4s)
  have F7 := F3.gn hg4
  clear F3
  clear hg4
  by_cases c8 : daysE l = 0
  · skip
    have c8a : ((daysE l) == 0) = true := beq_t c8
    have c8b : ((daysE l) != 0) = false := bne_f c8
    have c8H := Lib.hid c8
    clear c8
    have HOK := Lib.hid (daysOk c8H.out)
    have hn4 := HOK.out.1
    go_wp2_with fail
    have F9 := F7.new 24 #[.int .i64 0, .int .i64 0] (n := w6.heap.size) (by simp)
    clear F7
    obtain ⟨HI10_, HI100⟩ : ∃ I : (Nat → Value) → List Deferred → World → Prop, I = (fun t ds wr => ∃ (k : Nat), t 2 = .pointer (some ⟨w.heap.size, 0, none⟩) ∧ t 5 = .pointer (some ⟨w6.heap.size, 0, none⟩) ∧ t 14 = .slice da l.length dc ∧ t 15 = .int .i64 (l.length : Int) ∧ t 16 = .int .i64 (k : Int) ∧ k ≤ l.length ∧ ds = [] ∧ w6.heap.size ≤ wr.heap.size ∧ Bun w [rbox w6.heap.size 24 #[.int .i64 (sumC (l.take k)).lo, .int .i64 (sumC (l.take k)).hi], rbox w.heap.size 24 #[.int .i64 0, .int .i64 0], rsl weaEnc 6 lo hi (.slice da l.length dc) l] wr) := ⟨_, rfl⟩
    have HI10 := Lib.hid HI100
    clear HI100
    refine wp_loopS 35 rfl HI10_ (fun t wr => l.length - (intOf (t 16)).toNat) ?atStart1 ?round1
    case round1 =>
      intro t ds wr hHid
      rw [HI10.out] at hHid
      obtain ⟨k, e2, e5, e14, e15, e16, hrel⟩ := hHid
      have e : ((List.range 35).map t).toArray = #[t 0, t 1, t 2, t 3, t 4, t 5, t 6, t 7, t 8, t 9, t 10, t 11, t 12, t 13, t 14, t 15, t 16, t 17, t 18, t 19, t 20, t 21, t 22, t 23, t 24, t 25, t 26, t 27, t 28, t 29, t 30, t 31, t 32, t 33, t 34] := rfl
      (try dsimp only at e)
      rw [e2, e5, e14, e15, e16] at e
      rw [e]
      simp only [e16]
      clear e e2 e5 e14 e15 e16
      obtain ⟨hk, rfl, hs12, hF11⟩ := hrel
      clear F9
      obtain ⟨w13, rfl⟩ : ∃ x_ : World, x_ = wr := ⟨_, rfl⟩
      have hbd := sumC_bd HOK.out.2 k hk
      by_cases c14 : (k : Int) < (l.length : Int)
      · skip
        have c14H := Lib.hid c14
        obtain ⟨x15, o16, e_⟩ := Sl.addr (hF11.at 2 rfl : Sl weaEnc 6 lo hi _ (.slice da l.length dc) l) (by omega)
        subst e_
        obtain ⟨z, hz17_⟩ : ∃ z_, l[k]? = some z_ := ⟨_, List.getElem?_eq_getElem (by omega)⟩
        have hz17 := Lib.hid hz17_
        clear hz17_
        have HS := Lib.hid (sumC_take hz17.out)
        have hzc := (HOK.out.2 z (List.mem_of_getElem? hz17.out)).cold
        have b18 := hF11.bx2 0 rfl
        have ge19 : World.cell? _ ⟨x15, o16 + k * 6, none⟩ = some (.int .i64 z.cold.lo) := (((hF11.at 2 rfl : Sl weaEnc 6 lo hi _ (.slice (some ⟨x15, o16, none⟩) l.length dc) l)).cells hz17.out 0 _ rfl)
        have gl20 := cell_lt ge19
        have ge21 : World.cell? _ ⟨x15, o16 + k * 6 + 1, none⟩ = some (.int .i64 z.cold.hi) := (((hF11.at 2 rfl : Sl weaEnc 6 lo hi _ (.slice (some ⟨x15, o16, none⟩) l.length dc) l)).cells hz17.out 1 _ rfl)
        have ge22 : World.cell? _ ⟨x15, o16 + k * 6 + 2, none⟩ = some (.int .i64 z.fall.lo) := (((hF11.at 2 rfl : Sl weaEnc 6 lo hi _ (.slice (some ⟨x15, o16, none⟩) l.length dc) l)).cells hz17.out 2 _ rfl)
        have ge23 : World.cell? _ ⟨x15, o16 + k * 6 + 3, none⟩ = some (.int .i64 z.fall.hi) := (((hF11.at 2 rfl : Sl weaEnc 6 lo hi _ (.slice (some ⟨x15, o16, none⟩) l.length dc) l)).cells hz17.out 3 _ rfl)
        have ge24 : World.cell? _ ⟨x15, o16 + k * 6 + 4, none⟩ = some (.int .i64 z.water) := (((hF11.at 2 rfl : Sl weaEnc 6 lo hi _ (.slice (some ⟨x15, o16, none⟩) l.length dc) l)).cells hz17.out 4 _ rfl)
        have ge25 : World.cell? _ ⟨x15, o16 + k * 6 + 5, none⟩ = some (.bool z.clear) := (((hF11.at 2 rfl : Sl weaEnc 6 lo hi _ (.slice (some ⟨x15, o16, none⟩) l.length dc) l)).cells hz17.out 5 _ rfl)
        go_wp2_with fail
        clear b18 ge19 gl20 ge21 ge22 ge23 ge24 ge25
        have F26 := hF11.pt2 (.int .i64 ((sumC (l.take k)).lo + z.cold.lo)) (.int .i64 ((sumC (l.take k)).hi + z.cold.hi))
        clear hF11
        have F27 := F26.new 42 (weaC z z.clear) (n := w13.heap.size) (by simp)
        clear F26
        have F28 : Bun w [rbox w6.heap.size 24 #[.int .i64 ((sumC (l.take k)).lo + z.cold.lo), .int .i64 ((sumC (l.take k)).hi + z.cold.hi)], rbox w.heap.size 24 #[.int .i64 0, .int .i64 0], rsl weaEnc 6 lo hi (.slice (some ⟨x15, o16, none⟩) l.length dc) l] _ := F27.pick [1, 2, 3] (by decide) rfl
        clear F27
        (first | refine ⟨rfl, ?_, ?_⟩ | refine ⟨?_, ?_⟩)
        · rw [HI10.out]; exact ⟨k + 1, rfl, rfl, rfl, rfl, (by show Value.int .i64 ((k : Int) + 1) = _; simp), by omega, (by first | rfl | simp), (by first | omega | (simp; done) | (simp; omega)), (by rw [HS.out]; exact F28)⟩
        · simp [slot, intOf]; omega
      · skip
        have c14H := Lib.hid c14
        have c14a : decide ((k : Int) < (l.length : Int)) = false := dec_f c14
        have Hx29 := Lib.hid (show (((indexI l).lo : Int)) = (sumC (l.take k)).lo by rw [indexI, if_pos c8H.out, show sumC l = sumC (l.take k) by rw [List.take_of_length_le (by omega)]])
        have Hx30 := Lib.hid (show (((indexI l).hi : Int)) = (sumC (l.take k)).hi by rw [indexI, if_pos c8H.out, show sumC l = sumC (l.take k) by rw [List.take_of_length_le (by omega)]])
        have Hx31 := Lib.hid (show ((daysE l : Int)) = 0 by exact c8H.out)
        have b32 := hF11.bx2 0 rfl
        have b33 := hF11.bx2 1 rfl
        go_wp2_with fail
        clear b32 b33
        have F34 := (hF11.front 1 rfl rfl).pt2 (.int .i64 ((sumC (l.take k)).lo)) (.int .i64 ((sumC (l.take k)).hi))
        clear hF11
        have kb35 := F34.bx2 0 rfl
        go_wp2_with fail
        exact bodyPost_ret (v := .tuple #[.agg #[.int .i64 ((sumC (l.take k)).lo), .int .i64 ((sumC (l.take k)).hi)], .int .i64 0]) (by simp [results, Tryd.results41, go_sem, kb35]) rfl (⟨by rw [Hx29.out, Hx30.out, Hx31.out] <;> rfl, F34.gb⟩)
    case atStart1 =>
      rw [HI10.out]
      exact ⟨0, rfl, rfl, rfl, rfl, rfl, Nat.zero_le _, rfl, (by first | exact Nat.le_refl _ | omega | (simp; done) | (simp; omega)), F9⟩
  · skip
    have c8a : ((daysE l) == 0) = false := beq_f c8
    have c8b : ((daysE l) != 0) = true := bne_t c8
    have c8H := Lib.hid c8
    clear c8
    have Hx36 := Lib.hid (show (((indexI l).lo : Int)) = 0 by rw [indexI, if_neg c8H.out])
    have Hx37 := Lib.hid (show (((indexI l).hi : Int)) = 0 by rw [indexI, if_neg c8H.out])
    have b38 := F7.bx2 0 rfl
    go_wp2_with fail
    clear b38
    have F39 := F7.pt2 (.int .i64 0) (.int .i64 0)
    clear F7
    have kb40 := F39.bx2 0 rfl
    go_wp2_with fail
    exact bodyPost_ret (v := .tuple #[.agg #[.int .i64 0, .int .i64 0], .int .i64 (daysE l)]) (by simp [results, Tryd.results41, go_sem, kb40]) rfl (⟨by rw [Hx36.out, Hx37.out] <;> rfl, F39.gb⟩)

end Go.Proofs.YtgkjicejaalijaaDoor
