/- build: what holds the road up: the chain. -/
import Derived.Test.YtcoldeolmleeiaaGreatKKA
import Derived.Test.YtcoldeolmleeiaaGreatKJ8
import Derived.Test.YtcoldeolmleeiaaGreatKGG5
set_option linter.unusedVariables false
set_option linter.unusedSimpArgs false
set_option linter.unnecessarySimpa false
namespace Go.Proofs.YtcoldeolmleeiaaGreat
open Go.RowKit
def fndN (f : Nat -> Bool) : Nat -> Nat -> Nat
 | k, 0 => k
 | k, n + 1 => if f k = true then k else fndN f (k + 1) n
theorem fndN_bd (f : Nat -> Bool) : ∀ (n k : Nat), k <= fndN f k n /\ fndN f k n <= k + n
 | 0, k => ⟨Nat.le_refl _, Nat.le_refl _⟩
 | n + 1, k => by
  rw [fndN]
  have := fndN_bd f n (k + 1)
  split <;> omega
theorem fndN_no {f : Nat -> Bool} : ∀ (n k j : Nat), k <= j -> j < fndN f k n -> f j = false
 | 0, k, j, h1, h2 => by rw [fndN] at h2; omega
 | n + 1, k, j, h1, h2 => by
  rw [fndN] at h2
  split at h2
  · omega
  rename_i hf
  rcases Nat.eq_or_lt_of_le h1 with rfl | h3
  · simpa using hf
  · exact fndN_no n (k + 1) j h3 h2
theorem fndN_yes {f : Nat -> Bool} : ∀ (n k : Nat), fndN f k n < k + n -> f (fndN f k n) = true
 | 0, k, h => by rw [fndN] at h; omega
 | n + 1, k, h => by
  rw [fndN] at h ⊢
  split at h
  ·
   rename_i hf
   rw [if_pos hf]
   exact hf
  rename_i hf
  rw [if_neg hf]
  exact fndN_yes n (k + 1) (by omega)
theorem fndN_lt {f : Nat -> Bool} {n k j : Nat} (h1 : k <= j) (h2 : j < k + n) (hf : f j = true) : fndN f k n <= j := by
 rcases Nat.lt_or_ge j (fndN f k n) with h | h
 · rw [fndN_no n k j h1 h] at hf; cases hf
 · exact h
theorem fndN_at {f : Nat -> Bool} {n k : Nat} (h : ∀ j, j < k -> f j = false) (hk : k < n) (hf : f k = true) : fndN f 0 n = k := by
 have h1 := fndN_lt (n := n) (Nat.zero_le k) (by omega) hf
 rcases Nat.eq_or_lt_of_le h1 with h2 | h2
 · exact h2
 have := fndN_yes (f := f) n 0 (by omega)
 rw [h _ h2] at this
 cases this
section
variable (c : Cs) (N : Nat)
def Cs.czA (i k : Nat) : Bool := (c.af i).contains (k : Int) && decide (c.enI N k + c.wa k = c.bgI N i)
def Cs.czM (i k : Nat) : Bool := decide (c.bef (c.m i) i = (k : Int)) && decide (c.enI N k = c.bgI N i)
def Cs.cz (i k : Nat) : Bool := c.czA N i k || c.czM N i k
def Cs.cause (i : Nat) : Nat := fndN (c.cz N i) 0 i
end
def Cs.pre (c : Cs) (N : Nat) : Nat -> Nat -> List Nat
 | _, 0 => []
 | i, f + 1 => if c.bgI N i = c.fr i then [] else c.pre N (c.cause N i) f ++ [c.cause N i]
def Cs.chn (c : Cs) (N : Nat) (i : Nat) : List Nat := c.pre N i i ++ [i]
theorem Cs.aft_in (c : Cs) (P : List (Int × Int)) : ∀ (l : List Int) (b : Int), c.aft P b l = b ∨ ∃ a ∈ l, c.aft P b l = enAt P a.toNat + c.wa a.toNat := by
 intro l
 induction l with
 | nil => intro b; exact .inl rfl
 | cons a l ih =>
  intro b
  have e : c.aft P b (a :: l) = c.aft P (max b (enAt P a.toNat + c.wa a.toNat)) l := rfl
  rw [e]
  rcases ih (max b (enAt P a.toNat + c.wa a.toNat)) with h | ⟨x, hx, h⟩
  ·
   rw [h]
   rcases Int.le_total (enAt P a.toNat + c.wa a.toNat) b with h2 | h2
   · exact .inl (by omega)
   · exact .inr ⟨a, .head _, by omega⟩
  · exact .inr ⟨x, .tail _ hx, h⟩
section
variable {c : Cs} {N : Nat} (H : SiteOk c N)
include H
theorem SiteOk.has_cause {i : Nat} (hi : i < N) (hf : ¬ c.bgI N i = c.fr i) (hp : c.bgI N i < c.past) : c.cause N i < i /\ c.cz N i (c.cause N i) = true := by
 have key : ∃ k, k < i /\ c.cz N i k = true := by
  have e := SiteOk.bg_eq (c := c) hi
  unfold Cs.bgn at e
  have h1 := Cs.aft_in c (c.plan i) (c.af i) (max (c.fr i) (c.last (c.plan i) (c.m i) i))
  have h0 := H.fr i
  rcases h1 with h1 | ⟨a, ha, h1⟩
  ·
   have hl := c.last_bef (c.plan i) (c.m i) i
   have hb := c.bef_bd (c.m i) i
   by_cases hz : 0 <= c.bef (c.m i) i
   ·
    rw [if_pos hz] at hl
    refine ⟨(c.bef (c.m i) i).toNat, by omega, ?_⟩
    have e2 : c.enI N (c.bef (c.m i) i).toNat = enAt (c.plan i) (c.bef (c.m i) i).toNat := by
     unfold Cs.enI; rw [c.en_le (show (c.bef (c.m i) i).toNat < i by omega), c.en_le (show (c.bef (c.m i) i).toNat < N by omega)]
    unfold Cs.cz Cs.czM
    rw [decide_eq_true (show c.bef (c.m i) i = (((c.bef (c.m i) i).toNat : Nat) : Int) by omega), decide_eq_true (by omega)]
    simp
   rw [if_neg hz] at hl
   omega
  have hai := H.af i hi a ha
  refine ⟨a.toNat, by omega, ?_⟩
  have e2 : c.enI N a.toNat = enAt (c.plan i) a.toNat := by
   unfold Cs.enI; rw [c.en_le (show a.toNat < i by omega), c.en_le (show a.toNat < N by omega)]
  unfold Cs.cz Cs.czA
  rw [decide_eq_true (show c.enI N a.toNat + c.wa a.toNat = c.bgI N i by omega), show ((c.af i).contains ((a.toNat : Nat) : Int)) = true by rw [Int.toNat_of_nonneg hai.1]; simpa using ha]
  rfl
 obtain ⟨k, hk, hz⟩ := key
 have h1 := fndN_lt (n := i) (Nat.zero_le k) (by omega) hz
 have h2 : c.cause N i < 0 + i := by unfold Cs.cause; omega
 exact ⟨by omega, fndN_yes i 0 h2⟩
theorem SiteOk.cz_bd {i k : Nat} (hi : i < N) (hk : k < i) (hz : c.cz N i k = true) : c.bgI N k <= c.bgI N i := by
 have h1 := H.en_bd (i := k) (by omega)
 have h2 := H.wa k
 unfold Cs.cz Cs.czA Cs.czM at hz
 rw [Bool.or_eq_true, Bool.and_eq_true, Bool.and_eq_true] at hz
 rcases hz with ⟨_, hz⟩ | ⟨_, hz⟩
 ·
  have := of_decide_eq_true hz
  omega
 have := of_decide_eq_true hz
 omega
theorem SiteOk.pre_fuel : ∀ (f i g : Nat), i < N -> c.bgI N i < c.past -> i <= f -> i <= g -> c.pre N i f = c.pre N i g
 | 0, i, g, hi, hp, hf, hg => by
  obtain rfl : i = 0 := by omega
  have e : c.bgI N 0 = c.fr 0 := Classical.byContradiction fun h => by
   have := (H.has_cause hi h hp).1
   omega
  cases g with
  | zero => rfl
  | succ g => rw [Cs.pre, Cs.pre, if_pos e]
 | f + 1, i, g, hi, hp, hf, hg => by
  cases g with
  | zero =>
   obtain rfl : i = 0 := by omega
   have e : c.bgI N 0 = c.fr 0 := Classical.byContradiction fun h => by
    have := (H.has_cause hi h hp).1
    omega
   rw [Cs.pre, Cs.pre, if_pos e]
  | succ g =>
   rw [Cs.pre, Cs.pre]
   by_cases h : c.bgI N i = c.fr i
   · rw [if_pos h, if_pos h]
   rw [if_neg h, if_neg h]
   obtain ⟨h1, h2⟩ := H.has_cause hi h hp
   have h3 := H.cz_bd hi h1 h2
   rw [SiteOk.pre_fuel f (c.cause N i) g (by omega) (by omega) (by omega) (by omega)]
omit H in
theorem SiteOk.pre_yes {i : Nat} (h : c.bgI N i = c.fr i) : c.pre N i i = [] := by
 cases i with
 | zero => rfl
 | succ i => rw [Cs.pre, if_pos h]
theorem SiteOk.pre_next {i : Nat} (hi : i < N) (hf : ¬ c.bgI N i = c.fr i) (hp : c.bgI N i < c.past) : c.pre N i i = c.chn N (c.cause N i) := by
 obtain ⟨h1, h2⟩ := H.has_cause hi hf hp
 have h3 := H.cz_bd hi h1 h2
 obtain ⟨j, rfl⟩ : ∃ j, i = j + 1 := ⟨i - 1, by omega⟩
 rw [Cs.pre, if_neg hf]
 unfold Cs.chn
 rw [H.pre_fuel j (c.cause N (j + 1)) (c.cause N (j + 1)) (by omega) (by omega) (by omega) (Nat.le_refl _)]
end
def Cs.opr (c : Cs) (N : Nat) : Nat := fndN (fun i => decide (c.enI N i + c.wa i = c.opn N)) 0 N
theorem opn_hit {c : Cs} {N : Nat} : ∀ n : Nat, n <= N -> 0 < n -> c.opn n < c.past -> (∀ i, 0 <= c.wa i) -> (∀ i, i < n -> 0 <= c.enI N i) -> ∃ i, i < n /\ c.enI N i + c.wa i = c.opn n
 | 0, _, h, _, _, _ => absurd h (Nat.lt_irrefl _)
 | n + 1, hn, _, hp, hw, he => by
  have e : c.opn (n + 1) = max (c.opn n) (min c.past (c.enI N n + c.wa n)) := by
   rw [Cs.opn]
   unfold Cs.enI
   rw [c.en_le (n := N) (by omega)]
  have h1 := hw n
  have h2 := he n (Nat.lt_succ_self _)
  by_cases h : c.opn n <= c.enI N n + c.wa n
  · exact ⟨n, Nat.lt_succ_self _, by omega⟩
  rcases Nat.eq_zero_or_pos n with rfl | h0
  ·
   have : c.opn 0 = 0 := rfl
   omega
  obtain ⟨i, hi, h3⟩ := opn_hit n (by omega) h0 (by omega) hw (fun i hi => he i (by omega))
  exact ⟨i, by omega, by omega⟩
theorem SiteOk.opr_ok {c : Cs} {N : Nat} (H : SiteOk c N) (h0 : 0 < N) (hp : c.opn N < c.past) : c.opr N < N /\ c.enI N (c.opr N) + c.wa (c.opr N) = c.opn N /\ c.bgI N (c.opr N) < c.past := by
 obtain ⟨i, hi, e⟩ := opn_hit (N := N) N (Nat.le_refl _) h0 hp H.wa (fun i hi => by have := H.bg_bd hi; have := H.en_bd hi; omega)
 have h1 := fndN_lt (f := fun i => decide (c.enI N i + c.wa i = c.opn N)) (n := N) (Nat.zero_le i) (by omega) (decide_eq_true e)
 have h2 : c.opr N < 0 + N := by unfold Cs.opr; omega
 have h3 := of_decide_eq_true (fndN_yes (f := fun i => decide (c.enI N i + c.wa i = c.opn N)) N 0 h2)
 have h4 := H.en_bd (i := c.opr N) (by omega)
 have h5 := H.wa (c.opr N)
 exact ⟨by omega, h3, by unfold Cs.opr at *; omega⟩
set_option maxRecDepth 100000
attribute [local go_sem] Oper.semAt_some
def revI (l : List Int) (i : Nat) : List Int := (List.range l.length).map fun k => if k < i ∨ l.length - i <= k then l.getD (l.length - 1 - k) 0 else l.getD k 0
theorem revI_len (l : List Int) (i : Nat) : (revI l i).length = l.length := by simp [revI]
theorem revI_zero (l : List Int) : l = revI l 0 := by
 refine List.ext_getElem (by rw [revI_len]) fun k h1 h2 => ?_
 have h3 : ¬ (k < 0 ∨ l.length - 0 <= k) := by omega
 simp only [revI, List.getElem_map, List.getElem_range, if_neg h3, List.getD_eq_getElem?_getD, List.getElem?_eq_getElem h1, Option.getD_some]
def rvA (l : List Int) (k : Nat) : Int := l.getD k 0
theorem revI_mid {l : List Int} {i k : Nat} (h1 : i <= k) (h2 : k < l.length - i) : (revI l i)[k]? = some (rvA l k) := by
 have h3 : ¬ (k < i ∨ l.length - i <= k) := by omega
 have h4 : k < l.length := by omega
 unfold revI rvA
 rw [List.getElem?_map, List.getElem?_range h4]
 simp only [Option.map_some, if_neg h3]
theorem revI_next {l : List Int} {i j : Nat} (hj : j + 1 + i = l.length) (hi : i < j) : ((revI l i).set i (rvA l j)).set j (rvA l i) = revI l (i + 1) := by
 unfold rvA
 refine List.ext_getElem? fun k => ?_
 by_cases hk : k < l.length
 ·
  rw [List.getElem?_set, List.length_set, revI_len, List.getElem?_set, revI_len]
  have e : ∀ q, (revI l q)[k]? = some (if k < q ∨ l.length - q <= k then l.getD (l.length - 1 - k) 0 else l.getD k 0) := fun q => by simp [revI, hk]
  rw [e, e]
  by_cases h1 : j = k
  ·
   subst h1
   rw [if_pos rfl, if_pos hk, if_pos (by omega), show l.length - 1 - j = i by omega]
  rw [if_neg h1]
  by_cases h2 : i = k
  ·
   subst h2
   rw [if_pos rfl, if_pos hk, if_pos (by omega), show l.length - 1 - i = j by omega]
  rw [if_neg h2]
  by_cases h3 : k < i ∨ l.length - i <= k
  · rw [if_pos h3, if_pos (by omega)]
  · rw [if_neg h3, if_neg (by omega)]
 · rw [List.getElem?_eq_none (by rw [List.length_set, List.length_set, revI_len]; omega), List.getElem?_eq_none (by rw [revI_len]; omega)]
theorem revI_end {l : List Int} {i j : Nat} (hj : j + 1 + i = l.length) (hi : j <= i) : revI l i = l.reverse := by
 refine List.ext_getElem (by rw [revI_len, List.length_reverse]) fun k h1 h2 => ?_
 rw [revI_len] at h1
 simp only [revI, List.getElem_map, List.getElem_range, List.getElem_reverse]
 by_cases h3 : k < i ∨ l.length - i <= k
 ·
  rw [if_pos h3, List.getD_eq_getElem?_getD, List.getElem?_eq_getElem (by omega)]
  rfl
 rw [if_neg h3, List.getD_eq_getElem?_getD, List.getElem?_eq_getElem (by omega), Option.getD_some]
 congr 1
 omega
set_option maxHeartbeats 4000000 in
theorem reverse_c (w0 : World) (b0 g cap : Nat) (l : List Int) (LR : List Res) (w : World) (hB : Bun w0 [rown intEnc 3 1 b0 (.slice (some ⟨g, 0, none⟩) l.length cap) l, rall LR] w) (hl0 : 0 < l.length) (hl1 : l.length <= 1000) :
  Calls Tryz.prog 53 #[.slice (some ⟨g, 0, none⟩) l.length cap] w (fun e w' => e = .returned (.tuple #[]) /\ Bun w0 [rown intEnc 3 1 b0 (.slice (some ⟨g, 0, none⟩) l.length cap) l.reverse, rall LR] w') := by
 have hgl := (hB.ltAt 0 rfl _ rfl).1
 go_enter Tryz.func53, Tryz.ntmps53
 go_wp2_with fail
 have F0_ : Bun w0 [rown intEnc 3 1 b0 (.slice (some ⟨g, 0, none⟩) l.length cap) (revI l 0), rall LR] w := by rw [← revI_zero l]; exact hB
 (skip)
 obtain ⟨HI1_, HI10⟩ : ∃ I : RelT, I = (fun t ds wr => ∃ (i j : Nat), t 0 = .slice (some ⟨g, 0, none⟩) l.length cap /\ t 2 = .int .i64 (i : Int) /\ t 3 = .int .i64 (j : Int) /\ j + 1 + i = l.length /\ ds = [] /\ Bun w0 [rown intEnc 3 1 b0 (.slice (some ⟨g, 0, none⟩) l.length cap) (revI l i), rall LR] wr) := ⟨_, rfl⟩
 have HI1 := lhd HI10
 clear HI10
 refine wp_loopS 28 rfl HI1_ (fun t wr => l.length - (intOf (t 2)).toNat) ?atStart1 ?round1
 case round1 =>
  intro t ds wr hHid
  rw [HI1.out] at hHid
  obtain ⟨i, j, e0, e2, e3, hrel⟩ := hHid
  have e : ((List.range 28).map t).toArray = #[t 0, t 1, t 2, t 3, t 4, t 5, t 6, t 7, t 8, t 9, t 10, t 11, t 12, t 13, t 14, t 15, t 16, t 17, t 18, t 19, t 20, t 21, t 22, t 23, t 24, t 25, t 26, t 27] := rfl
  (try dsimp only at e)
  rw [e0, e2, e3] at e
  rw [e]
  simp only [e2]
  clear e e0 e2 e3
  obtain ⟨hj_, rfl, hF2⟩ := hrel
  clear F0_
  obtain ⟨w4, rfl⟩ : ∃ x_ : World, x_ = wr := ⟨_, rfl⟩
  by_cases c5 : (i : Int) < (j : Int)
  ·
   have c5H := lhd c5
   have hji : (j : Int) < (l.length : Int) := by omega
   have hii : (i : Int) < (l.length : Int) := by omega
   have hz6 : Hid ((revI l i)[i]? = some (rvA l i)) := lhd (revI_mid (Nat.le_refl _) (by omega))
   have hz7 : Hid ((revI l i)[j]? = some (rvA l j)) := lhd (revI_mid (by omega) (by omega))
   go_wp2_with fail
   have F8 := hF2.drew
   clear hF2
   refine ru_begin (fun W => W.cell? ⟨g, j, none⟩ = some (.int .i64 (rvA l j)) /\ W.cell? ⟨g, i, none⟩ = some (.int .i64 (rvA l i))) 13 (by kernel_rfl) ?_ ?_
   · exact ⟨(by simpa using (Own.sl (F8.o 0 rfl) (fun _ => rfl)).cells hz7.out 0 _ rfl), (by simpa using (Own.sl (F8.o 0 rfl) (fun _ => rfl)).cells hz6.out 0 _ rfl)⟩
   obtain ⟨wd10, hwd_⟩ : ∃ x : World, w4.drew = x := ⟨_, rfl⟩
   rw [hwd_] at F8 ⊢
   have wd10s : w4.heap.size <= wd10.heap.size := by rw [← hwd_]; exact Nat.le_refl _
   clear hwd_
   have hS9 := (And.intro ((by simpa using (Own.sl (F8.o 0 rfl) (fun _ => rfl)).cells hz7.out 0 _ rfl)) ((by simpa using (Own.sl (F8.o 0 rfl) (fun _ => rfl)).cells hz6.out 0 _ rfl)))
   refine ru_t 0 [] ?_
   refine ru_t 1 [] ?_
   refine ru_t 4 [] ?_
   refine ru_t 5 [] ?_
   refine ru_t 6 [] ?_
   refine ru_t 7 [] ?_
   refine ru_t 8 [11, 10] ?_
   refine ru_t 9 [11, 10] ?_
   refine ru_t 10 [11] ?_
   refine ru_t 11 [] ?_
   refine ru_t 12 [] ?_
   (try simp only [lpX])
   refine ru_p 2 ?_
   refine ru_p 3 ?_
   (try simp only [lpX])
   clear hS9
   refine ru_o 13 fun K hK => ?_
   have kc_ : World.cell? _ ⟨g, i, none⟩ = some (.int .i64 (rvA l i)) := (by simpa using (Own.sl (F8.o 0 rfl) (fun _ => rfl)).cells hz6.out 0 _ rfl)
   have kf_ : World.frozen? _ ⟨g, i, none⟩ = false := Own.live (F8.o 0 rfl) _
   go_simp
   clear kc_ kf_
   have F11 := Bun.setOwn (sz := 1) (fun _ => rfl) F8 hz6.out (y := (rvA l j)) (j := 0) (u := (.int .i64 (rvA l j))) (k := i) (by decide) rfl (by omega)
   clear F8
   have hz12 : Hid (((revI l i).set i (rvA l j))[j]? = some (rvA l j)) := lhd ((List.getElem?_set_ne (by omega)).trans hz7.out)
   refine ru_back_late hK (by kernel_rfl) ?_
   clear hK K
   (try simp only [lpX])
   refine ru_o 14 fun K hK => ?_
   go_simp
   refine ru_back_late hK (by kernel_rfl) ?_
   clear hK K
   (try simp only [lpX])
   refine ru_o 15 fun K hK => ?_
   have kc_ : World.cell? _ ⟨g, j, none⟩ = some (.int .i64 (rvA l j)) := (by simpa using (Own.sl (F11.o 0 rfl) (fun _ => rfl)).cells hz12.out 0 _ rfl)
   have kf_ : World.frozen? _ ⟨g, j, none⟩ = false := Own.live (F11.o 0 rfl) _
   go_simp
   clear kc_ kf_
   have F13 := Bun.setOwn (sz := 1) (fun _ => rfl) F11 hz12.out (y := (rvA l i)) (j := 0) (u := (.int .i64 (rvA l i))) (k := j) (by decide) rfl (by omega)
   clear F11
   refine ru_back_late hK (by kernel_rfl) ?_
   clear hK K
   (try simp only [lpX])
   refine ru_done (by kernel_rfl) ?_
   have Fn_ := F13
   (try dsimp only [lpF, lpG] at Fn_)
   obtain ⟨w14, hx15, F17, hxs16⟩ := Fn_.name
   (try simp at hxs16)
   rw [hx15]
   clear hx15 F13 Fn_
   go_wp2_with fail
   (first | refine ⟨rfl, ?_, ?_⟩ | refine ⟨?_, ?_⟩)
   · rw [HI1.out]; exact ⟨i + 1, j - 1, rfl, (by show Value.int .i64 ((i : Int) + 1) = _; simp), (by show Value.int .i64 ((j : Int) - 1) = _; rw [show ((j : Int) - 1) = ((j - 1 : Nat) : Int) by omega]), (by omega), (by first | rfl | simp), (by rw [← revI_next (show j + 1 + i = l.length by omega) (by omega)]; exact F17)⟩
   · simp [slot, intOf]; omega
  have c5H := lhd c5
  have c5a := dec_f c5
  go_wp2_with fail
  exact bodyPost_end (v := .tuple #[]) (by simp [results, Tryz.results53, go_sem]) rfl (⟨rfl, (by rw [← revI_end (show j + 1 + i = l.length by omega) (by omega)]; exact hF2)⟩)
 case atStart1 =>
  rw [HI1.out]
  exact ⟨0, l.length - 1, rfl, rfl, (by rw [show ((l.length - 1 : Nat) : Int) = (l.length : Int) - 1 by omega]; first | kernel_rfl | rfl), (by omega), rfl, F0_⟩
end Go.Proofs.YtcoldeolmleeiaaGreat
