/- build and its reference: errors that are put together; hours, machines. -/
import Derived.Test.YtlefmbjipdlcfaaMKA
import Derived.Test.YtlefmbjipdlcfaaMKB
import Derived.Test.YtlefmbjipdlcfaaMKC
set_option linter.unusedVariables false
set_option linter.unusedSimpArgs false
set_option linter.unnecessarySimpa false
namespace Go.Proofs.Ytlefmbjipdlcfaa
open Go.RowKit
set_option maxRecDepth 100000
theorem unless_c (b : Bool) (n : Int) (w : World) : Calls Try.prog 38 #[.bool b, .int .i64 n] w (fun e w' => e = .returned (.int .i64 (unl b n)) /\ w = w') := by
 cases b
 ·
  go_enter Try.func38, Try.ntmps38
  go_wp2_with fail
  go_ret
  exact ⟨rfl, rfl⟩
 go_enter Try.func38, Try.ntmps38
 go_wp2_with fail
 go_ret
 exact ⟨rfl, rfl⟩
theorem within_c (n lo hi : Int) (w : World)  :
  Calls Try.prog 19 #[.int .i64 n, .int .i64 lo, .int .i64 hi] w (fun e w' => e = .returned (.bool (wth n lo hi)) /\ w = w') := by
 have F1 : Bun w [] w := Bun.nil _
 go_enter Try.func19, Try.ntmps19
 by_cases c2 : lo <= n
 ·
  have c2H := lhd c2
  have Hx3 := lhd (show ((wth n lo hi : Bool)) = (decide (n <= hi)) by simp [wth]; omega)
  go_wp2_with fail
  go_ret
  exact ⟨by rw [Hx3.out] <;> rfl, rfl⟩
 have c2H := lhd c2
 have c2a : decide (lo <= n) = false := dec_f c2
 have Hx4 := lhd (show ((wth n lo hi : Bool)) = false by simp [wth]; omega)
 go_wp2_with fail
 go_ret
 exact ⟨by rw [Hx4.out] <;> rfl, rfl⟩
set_option maxHeartbeats 2000000 in
theorem first_c (lo hi : Nat) (v : Value) (l : List Int) (w : World) (hl : Sl intEnc 1 lo hi w v l) (h2 : hi <= w.heap.size) :
  Calls Try.prog 37 #[v] w (Ret (.int .i64 (fstE l)) w) := by
 have F1 : Bun w [] w := Bun.nil _
 have hm_l := hl.len
 unfold maxLen at hm_l
 obtain ⟨a, c, rfl⟩ := hl.any
 replace F1 := F1.sl0 hl h2 rfl
 clear hl
 go_enter Try.func37, Try.ntmps37
 go_wp2_with fail
 obtain ⟨HI3_, HI30⟩ : ∃ I : RelT, I = (fun t ds wr => ∃ (k : Nat), t 5 = .slice a l.length c /\ t 6 = .int .i64 (l.length : Int) /\ t 7 = .int .i64 (k : Int) /\ k <= l.length /\ fstE l = fstE (l.drop k) /\ ds = [] /\ w.heap.size <= wr.heap.size /\ Bun w [rsl intEnc 1 lo hi (.slice a l.length c) l] wr) := ⟨_, rfl⟩
 have HI3 := lhd HI30
 clear HI30
 refine wp_loopS 15 rfl HI3_ (fun t wr => l.length - (intOf (t 7)).toNat) ?atStart1 ?round1
 case round1 =>
  intro t ds wr hHid
  rw [HI3.out] at hHid
  obtain ⟨k, e5, e6, e7, hrel⟩ := hHid
  have e : ((List.range 15).map t).toArray = #[t 0, t 1, t 2, t 3, t 4, t 5, t 6, t 7, t 8, t 9, t 10, t 11, t 12, t 13, t 14] := rfl
  (try dsimp only at e)
  rw [e5, e6, e7] at e
  rw [e]
  simp only [e7]
  clear e e5 e6 e7
  obtain ⟨hk, hR, rfl, hs5, hF4⟩ := hrel
  clear F1
  obtain ⟨w6, rfl⟩ : ∃ x_ : World, x_ = wr := ⟨_, rfl⟩
  have HR := lhd hR
  clear hR
  by_cases c7 : (k : Int) < (l.length : Int)
  ·
   have c7H := lhd c7
   obtain ⟨x8, o9, e_⟩ := Sl.addr (hF4.at 0 rfl : Sl intEnc 1 lo hi _ (.slice a l.length c) l) (by omega)
   subst e_
   obtain ⟨z, hz10_⟩ : ∃ z_, l[k]? = some z_ := ⟨_, List.getElem?_eq_getElem (by omega)⟩
   have hz10 := lhd hz10_
   clear hz10_
   have HZ : Hid (fstE l = fstE (z :: l.drop (k + 1))) := lhd (by rw [HR.out, drop_cons hz10.out])
   by_cases c11 : z = 0
   ·
    have c11a : (z == 0) = true := beq_t c11
    have c11b : (z != 0) = false := bne_f c11
    have c11H := lhd c11
    clear c11
    have ge12 : World.cell? _ ⟨x8, o9 + k, none⟩ = some (.int .i64 z) := (by have h_ := Sl.cells (hF4.at 0 rfl) hz10.out 0 _ rfl; simpa using h_)
    have gl13 := cell_lt ge12
    go_wp2_with fail
    clear ge12 gl13
    (first | refine ⟨rfl, ?_, ?_⟩ | refine ⟨?_, ?_⟩)
    · rw [HI3.out]; exact ⟨k + 1, rfl, rfl, (by show Value.int .i64 ((k : Int) + 1) = _; simp), (by omega), (by rw [HZ.out, fstE, if_neg (not_not_intro c11H.out)]), (by first | rfl | simp), (by first | omega | (simp; done) | (simp; omega)), hF4⟩
    · simp [slot, intOf]; omega
   have c11a : (z == 0) = false := beq_f c11
   have c11b : (z != 0) = true := bne_t c11
   have c11H := lhd c11
   clear c11
   have Hx14 := lhd (show ((fstE l : Int)) = z by rw [HZ.out, fstE, if_pos c11H.out])
   have ge15 : World.cell? _ ⟨x8, o9 + k, none⟩ = some (.int .i64 z) := (by have h_ := Sl.cells (hF4.at 0 rfl) hz10.out 0 _ rfl; simpa using h_)
   have gl16 := cell_lt ge15
   go_wp2_with fail
   clear ge15 gl16
   go_ret
   exact ⟨by rw [Hx14.out] <;> rfl, hF4.gb⟩
  have c7H := lhd c7
  have c7a : decide ((k : Int) < (l.length : Int)) = false := dec_f c7
  have HE : Hid (fstE l = 0) := lhd (by rw [HR.out, List.drop_eq_nil_of_le (by omega)]; rfl)
  have Hx17 := lhd (show ((fstE l : Int)) = 0 by exact HE.out)
  go_wp2_with fail
  go_ret
  exact ⟨by rw [Hx17.out] <;> rfl, hF4.gb⟩
 case atStart1 =>
  rw [HI3.out]
  exact ⟨0, rfl, rfl, rfl, Nat.zero_le _, rfl, rfl, (by first | exact Nat.le_refl _ | omega | (simp; done) | (simp; omega)), F1⟩
end Go.Proofs.Ytlefmbjipdlcfaa
