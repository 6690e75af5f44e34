/- build: what is so of the chain; Listed. -/
import Derived.Test.YtokelpmngahnoaaZG2
import Derived.Test.YtokelpmngahnoaaZG4
set_option linter.unusedVariables false
set_option linter.unusedSimpArgs false
set_option linter.unnecessarySimpa false
namespace Go.Proofs.Ytokelpmngahnoaa
open Go.RowKit
set_option maxRecDepth 100000
attribute [local go_sem] Oper.semAt_some
theorem Cs.bef_m (c : Cs) (m : Int) : ∀ (k x : Nat), c.bef m k = (x : Int) → c.m x = m
  | 0, x, h => by rw [Cs.bef] at h; omega
  | k + 1, x, h => by
    rw [Cs.bef] at h
    split at h
    · rename_i e
      obtain rfl : k = x := by omega
      exact e
    · exact c.bef_m m k x h
theorem cz_or {c : Cs} {N i k : Nat} (h : c.cz N i k = true) : (hasI (c.af i) (k : Int) = true ∧ c.enI N k + c.wa k = c.bgI N i) ∨ (c.bef (c.m i) i = (k : Int) ∧ c.enI N k = c.bgI N i) := by
  unfold Cs.cz Cs.czA Cs.czM at h
  rw [Bool.or_eq_true, Bool.and_eq_true, Bool.and_eq_true] at h
  rcases h with ⟨h1, h2⟩ | ⟨h1, h2⟩
  · exact .inl ⟨h1, of_decide_eq_true h2⟩
  · exact .inr ⟨of_decide_eq_true h1, of_decide_eq_true h2⟩
theorem chnE_cases {ms : List Mch} {ts : List Tsk} {dl : List Wea} (h : bothErr ms ts dl = 0) : (ts.length = 0 ∧ chnE ms ts dl = 7) ∨ (¬ ts.length = 0 ∧ (caseOf true ms ts dl).opn ts.length = 24 * (dl.length : Int) + 1 ∧ chnE ms ts dl = 13) ∨ (¬ ts.length = 0 ∧ ¬ (caseOf true ms ts dl).opn ts.length = 24 * (dl.length : Int) + 1 ∧ chnE ms ts dl = 0) := by
  unfold chnE
  rw [if_neg (not_not_intro h)]
  by_cases h1 : ts.length = 0
  · rw [if_pos h1]; exact .inl ⟨h1, rfl⟩
  · rw [if_neg h1]
    by_cases h2 : (caseOf true ms ts dl).opn ts.length = 24 * (dl.length : Int) + 1
    · rw [if_pos h2]; exact .inr (.inl ⟨h1, h2, rfl⟩)
    · rw [if_neg h2]; exact .inr (.inr ⟨h1, h2, rfl⟩)
/-- What is so of the chain of a job that opens. -/
structure ChOk (ms : List Mch) (ts : List Tsk) (dl : List Wea) (c : Cs) (C : List Nat) : Prop where
  eq : C = c.chn ts.length (c.opr ts.length)
  pos : 0 < C.length
  lt : ∀ (i x : Nat), C[i]? = some x → x < ts.length
  head : ∀ (x : Nat), C[0]? = some x → c.bgI ts.length x = c.fr x
  adj : ∀ (q x y : Nat), C[q]? = some x → C[q + 1]? = some y → x < y ∧ c.cz ts.length y x = true
  last : C[C.length - 1]? = some (c.opr ts.length)
  opn : c.enI ts.length (c.opr ts.length) + c.wa (c.opr ts.length) = c.opn ts.length
theorem chOk_of {ms : List Mch} {ts : List Tsk} {dl : List Wea} (h : bothErr ms ts dl = 0) (he : chnE ms ts dl = 0) : ChOk ms ts dl (caseOf true ms ts dl) (chnC ms ts dl) := by
  obtain ⟨hok, hn⟩ := bothOk h
  have hco : CsOk (caseOf true ms ts dl) := caseOk hok hn
  have hs : SiteOk (caseOf true ms ts dl) ts.length := SiteOk.of hco (fun i _ a ha => tk_aok hok i a ha)
  have e : chnC ms ts dl = (caseOf true ms ts dl).chn ts.length ((caseOf true ms ts dl).opr ts.length) := by rw [chnC, if_pos he]
  rcases chnE_cases h with ⟨_, h2⟩ | ⟨_, _, h2⟩ | ⟨h1, h2, _⟩
  · rw [he] at h2; cases h2
  · rw [he] at h2; cases h2
  · have hb := (caseOf true ms ts dl).opn_bd (fun i => (hco.fr i).1) (fun i => (hco.wa i).1) ts.length
    have hp : (caseOf true ms ts dl).past = 24 * (dl.length : Int) + 1 := rfl
    obtain ⟨o1, o2, o3⟩ := hs.opr_ok (by omega) (by omega)
    obtain ⟨a1, ⟨x0, l0, a2, a3⟩, a4⟩ := hs.chn_ok _ _ (Nat.le_refl _) o1 o3
    rw [e]
    refine ⟨rfl, by rw [a2]; simp, fun i x hx => ?_, fun x hx => ?_, a4, ?_, o2⟩
    · have := a1 x (List.mem_of_getElem? hx)
      omega
    · rw [a2] at hx
      obtain rfl := Option.some.inj hx
      exact a3
    · unfold Cs.chn
      rw [List.length_append, List.getElem?_append_right (by simp)]
      simp
theorem ints_get {r : List Nat} {i x : Nat} (h : r[i]? = some x) : (ints r)[i]? = some (x : Int) := by rw [ints, List.getElem?_map, h]; rfl

set_option maxHeartbeats 4000000 in
theorem listed_c (lo hi : Nat) (v : Value) (l : List Int) (x : Int) (w : World) (hl : Sl intEnc 1 lo hi w v l) (h2 : hi ≤ w.heap.size) :
    Calls Try.prog 43 #[v, .int .i64 x] w (Ret (.bool (hasI l x)) w) := by
  have F1 : Bun w [] w := Bun.nil _
  have hm_l := hl.len
  unfold maxLen at hm_l
  obtain ⟨a, c, rfl⟩ := hl.any
  have F2 := F1.sl0 hl h2 rfl
  clear F1
  clear hl
  go_enter Try.func43, Try.ntmps43
  go_wp2_with fail
  obtain ⟨HI3_, HI30⟩ : ∃ I : (Nat → Value) → List Deferred → World → Prop, I = (fun t ds wr => ∃ (k : Nat), t 0 = .slice a l.length c ∧ t 1 = .int .i64 x ∧ t 5 = .int .i64 (k : Int) ∧ k ≤ l.length ∧ Hid (∀ i, i < k → ¬ l[i]? = some x) ∧ ds = [] ∧ w.heap.size ≤ wr.heap.size ∧ Bun w [rsl intEnc 1 lo hi (.slice a l.length c) l] wr) := ⟨_, rfl⟩
  have HI3 := Lib.hid HI30
  clear HI30
  refine wp_loopS 18 rfl HI3_ (fun t wr => l.length - (intOf (t 5)).toNat) ?atStart1 ?round1
  case round1 =>
    intro t ds wr hHid
    rw [HI3.out] at hHid
    obtain ⟨k, e0, e1, e5, hrel⟩ := hHid
    have e : ((List.range 18).map t).toArray = #[t 0, t 1, t 2, t 3, t 4, t 5, t 6, t 7, t 8, t 9, t 10, t 11, t 12, t 13, t 14, t 15, t 16, t 17] := rfl
    (try dsimp only at e)
    rw [e0, e1, e5] at e
    rw [e]
    simp only [e5]
    clear e e0 e1 e5
    obtain ⟨hk, HN, rfl, hs5, hF4⟩ := hrel
    clear F2
    obtain ⟨w6, rfl⟩ : ∃ x_ : World, x_ = wr := ⟨_, rfl⟩
    by_cases c7 : (k : Int) < (l.length : Int)
    · skip
      have c7H := Lib.hid c7
      obtain ⟨x8, o9, e_⟩ := Sl.addr (hF4.at 0 rfl : Sl intEnc 1 lo hi _ (.slice a l.length c) l) (by omega)
      subst e_
      obtain ⟨z, hz10_⟩ : ∃ z_, l[k]? = some z_ := ⟨_, List.getElem?_eq_getElem (by omega)⟩
      have hz10 := Lib.hid hz10_
      clear hz10_
      by_cases c11 : z = x
      · skip
        have c11a : (z == x) = true := beq_t c11
        have c11b : (z != x) = false := bne_f c11
        have c11H := Lib.hid c11
        clear c11
        have Hx12 := Lib.hid (show (((hasI l x) : Bool)) = true by exact hasI_iff.2 (by rw [← c11H.out]; exact List.mem_of_getElem? hz10.out))
        have ge13 : World.cell? _ ⟨x8, o9 + k, none⟩ = some (.int .i64 z) := (by have h_ := ((hF4.at 0 rfl : Sl intEnc 1 lo hi _ (.slice (some ⟨x8, o9, none⟩) l.length c) l)).cells hz10.out 0 _ rfl; simpa using h_)
        have gl14 := cell_lt ge13
        go_wp2_with fail
        clear ge13 gl14
        go_ret
        exact ⟨by rw [Hx12.out] <;> rfl, hF4.gb⟩
      · skip
        have c11a : (z == x) = false := beq_f c11
        have c11b : (z != x) = true := bne_t c11
        have c11H := Lib.hid c11
        clear c11
        have ge15 : World.cell? _ ⟨x8, o9 + k, none⟩ = some (.int .i64 z) := (by have h_ := ((hF4.at 0 rfl : Sl intEnc 1 lo hi _ (.slice (some ⟨x8, o9, none⟩) l.length c) l)).cells hz10.out 0 _ rfl; simpa using h_)
        have gl16 := cell_lt ge15
        go_wp2_with fail
        clear ge15 gl16
        (first | refine ⟨rfl, ?_, ?_⟩ | refine ⟨?_, ?_⟩)
        · rw [HI3.out]; exact ⟨k + 1, rfl, rfl, (by show Value.int .i64 ((k : Int) + 1) = _; simp), (by omega), (Lib.hid (fun i_ hi_ e_ => by rcases Nat.lt_succ_iff_lt_or_eq.1 hi_ with h_ | h_; exact HN.out i_ h_ e_; rw [h_, hz10.out] at e_; exact c11H.out (Option.some.inj e_))), (by first | rfl | simp), (by first | omega | (simp; done) | (simp; omega)), hF4⟩
        · simp [slot, intOf]; omega
    · skip
      have c7H := Lib.hid c7
      have c7a : decide ((k : Int) < (l.length : Int)) = false := dec_f c7
      have Hx17 := Lib.hid (show (((hasI l x) : Bool)) = false by rw [Bool.eq_false_iff]; exact fun h_ => by obtain ⟨i_, hi_, e_⟩ := List.getElem_of_mem (hasI_iff.1 h_); exact HN.out i_ (by omega) (by rw [List.getElem?_eq_getElem hi_, e_]))
      go_wp2_with fail
      go_ret
      exact ⟨by rw [Hx17.out] <;> rfl, hF4.gb⟩
  case atStart1 =>
    rw [HI3.out]
    exact ⟨0, rfl, rfl, rfl, Nat.zero_le _, Lib.hid (fun i h => absurd h (Nat.not_lt_zero _)), rfl, (by first | exact Nat.le_refl _ | omega | (simp; done) | (simp; omega)), F2⟩

end Go.Proofs.Ytokelpmngahnoaa
