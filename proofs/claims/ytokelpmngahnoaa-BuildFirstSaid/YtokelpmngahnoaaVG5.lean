/- build: what is so of the chain; Listed. -/
import Derived.Test.YtokelpmngahnoaaVG2
import Derived.Test.YtokelpmngahnoaaVG4
set_option linter.unusedVariables false
set_option linter.unusedSimpArgs false
set_option linter.unnecessarySimpa false
namespace Go.Proofs.Ytokelpmngahnoaa
open Go.RowKit
set_option maxRecDepth 100000
attribute [local go_sem] Oper.semAt_some
theorem ints_get {r : List Nat} {i x : Nat} (h : r[i]? = some x) : (ints r)[i]? = some (x : Int) := by rw [ints, List.getElem?_map, h]; rfl
set_option maxHeartbeats 4000000 in
theorem listed_c (lo hi : Nat) (v : Value) (l : List Int) (x : Int) (w : World) (hl : Sl intEnc 1 lo hi w v l) (h2 : hi <= w.heap.size) :
  Calls Try.prog 43 #[v, .int .i64 x] w (Ret (.bool (hasI l x)) w) := by
 have F1 : Bun w [] w := Bun.nil _
 have hm_l := hl.len
 unfold maxLen at hm_l
 obtain ⟨a, c, rfl⟩ := hl.any
 have F2 := F1.sl0 hl h2 rfl
 clear F1
 clear hl
 go_enter Try.func43, Try.ntmps43
 go_wp2_with fail
 obtain ⟨HI3_, HI30⟩ : ∃ I : RelT, I = (fun t ds wr => ∃ (k : Nat), t 0 = .slice a l.length c /\ t 1 = .int .i64 x /\ t 5 = .int .i64 (k : Int) /\ k <= l.length /\ Hid (∀ i, i < k -> ¬ l[i]? = some x) /\ ds = [] /\ w.heap.size <= wr.heap.size /\ Bun w [rsl intEnc 1 lo hi (.slice a l.length c) l] wr) := ⟨_, rfl⟩
 have HI3 := lhd HI30
 clear HI30
 refine wp_loopS 18 rfl HI3_ (fun t wr => l.length - (intOf (t 5)).toNat) ?atStart1 ?round1
 case round1 =>
  intro t ds wr hHid
  rw [HI3.out] at hHid
  obtain ⟨k, e0, e1, e5, hrel⟩ := hHid
  have e : ((List.range 18).map t).toArray = #[t 0, t 1, t 2, t 3, t 4, t 5, t 6, t 7, t 8, t 9, t 10, t 11, t 12, t 13, t 14, t 15, t 16, t 17] := rfl
  (try dsimp only at e)
  rw [e0, e1, e5] at e
  rw [e]
  simp only [e5]
  clear e e0 e1 e5
  obtain ⟨hk, HN, rfl, hs5, hF4⟩ := hrel
  clear F2
  obtain ⟨w6, rfl⟩ : ∃ x_ : World, x_ = wr := ⟨_, rfl⟩
  by_cases c7 : (k : Int) < (l.length : Int)
  ·
   have c7H := lhd c7
   obtain ⟨x8, o9, e_⟩ := Sl.addr (hF4.at 0 rfl : Sl intEnc 1 lo hi _ (.slice a l.length c) l) (by omega)
   subst e_
   obtain ⟨z, hz10_⟩ : ∃ z_, l[k]? = some z_ := ⟨_, List.getElem?_eq_getElem (by omega)⟩
   have hz10 := lhd hz10_
   clear hz10_
   by_cases c11 : z = x
   ·
    have c11a : (z == x) = true := beq_t c11
    have c11b : (z != x) = false := bne_f c11
    have c11H := lhd c11
    clear c11
    have Hx12 := lhd (show (((hasI l x) : Bool)) = true by exact hasI_iff.2 (by rw [← c11H.out]; exact List.mem_of_getElem? hz10.out))
    have ge13 : World.cell? _ ⟨x8, o9 + k, none⟩ = some (.int .i64 z) := (by have h_ := Sl.cells (hF4.at 0 rfl) hz10.out 0 _ rfl; simpa using h_)
    have gl14 := cell_lt ge13
    go_wp2_with fail
    clear ge13 gl14
    go_ret
    exact ⟨by rw [Hx12.out] <;> rfl, hF4.gb⟩
   have c11a : (z == x) = false := beq_f c11
   have c11b : (z != x) = true := bne_t c11
   have c11H := lhd c11
   clear c11
   have ge15 : World.cell? _ ⟨x8, o9 + k, none⟩ = some (.int .i64 z) := (by have h_ := Sl.cells (hF4.at 0 rfl) hz10.out 0 _ rfl; simpa using h_)
   have gl16 := cell_lt ge15
   go_wp2_with fail
   clear ge15 gl16
   (first | refine ⟨rfl, ?_, ?_⟩ | refine ⟨?_, ?_⟩)
   · rw [HI3.out]; exact ⟨k + 1, rfl, rfl, (by show Value.int .i64 ((k : Int) + 1) = _; simp), (by omega), (lhd (fun i_ hi_ e_ => by rcases Nat.lt_succ_iff_lt_or_eq.1 hi_ with h_ | h_; exact HN.out i_ h_ e_; rw [h_, hz10.out] at e_; exact c11H.out (Option.some.inj e_))), (by first | rfl | simp), (by first | omega | (simp; done) | (simp; omega)), hF4⟩
   · simp [slot, intOf]; omega
  have c7H := lhd c7
  have c7a : decide ((k : Int) < (l.length : Int)) = false := dec_f c7
  have Hx17 := lhd (show (((hasI l x) : Bool)) = false by rw [Bool.eq_false_iff]; exact fun h_ => by obtain ⟨i_, hi_, e_⟩ := List.getElem_of_mem (hasI_iff.1 h_); exact HN.out i_ (by omega) (by rw [List.getElem?_eq_getElem hi_, e_]))
  go_wp2_with fail
  go_ret
  exact ⟨by rw [Hx17.out] <;> rfl, hF4.gb⟩
 case atStart1 =>
  rw [HI3.out]
  exact ⟨0, rfl, rfl, rfl, Nat.zero_le _, lhd (fun i h => absurd h (Nat.not_lt_zero _)), rfl, (by first | exact Nat.le_refl _ | omega | (simp; done) | (simp; omega)), F2⟩
end Go.Proofs.Ytokelpmngahnoaa
