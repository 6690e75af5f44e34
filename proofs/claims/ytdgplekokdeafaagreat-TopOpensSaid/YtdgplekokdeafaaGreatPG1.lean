/- build and its reference: what is too big. -/
import Derived.Test.YtdgplekokdeafaaGreatPE0
import Derived.Test.YtdgplekokdeafaaGreatPJ10
import Derived.Test.YtdgplekokdeafaaGreatPKW
set_option linter.unusedVariables false
set_option linter.unusedSimpArgs false
set_option linter.unnecessarySimpa false
namespace Go.Proofs.YtdgplekokdeafaaGreat
open Go.RowKit
set_option maxRecDepth 100000
attribute [local go_sem] Oper.semAt_some
end Go.Proofs.YtdgplekokdeafaaGreat
/- build and its reference: hours by the reference. -/
namespace Go.Proofs.YtdgplekokdeafaaGreat
open Go.RowKit
set_option maxRecDepth 100000
def boEnc (b : Bool) : List Value := [.bool b]
def rwh (rl : List Bool) (sh : Int) (h : Nat) : Bool := rl.getD (h / 24) false && decide (((h % 24 : Nat) : Int) < sh)
def rdn (rl : List Bool) (sh : Int) (b n : Nat) : Int := if n = 0 then (b : Int) else doneN (rwh rl sh) (24 * (rl.length : Int) + 1) (24 * rl.length - b) b n
theorem rdn_step {rl : List Bool} {sh : Int} {h n : Nat} {z : Bool} (hh : h < 24 * rl.length) (hz : rl[h / 24]? = some z) : doneN (rwh rl sh) (24 * (rl.length : Int) + 1) (24 * rl.length - h) h n =
  if (z && decide (((h % 24 : Nat) : Int) < sh)) = true then (if n = 1 then (h : Int) + 1 else doneN (rwh rl sh) (24 * (rl.length : Int) + 1) (24 * rl.length - (h + 1)) (h + 1) (n - 1)) else doneN (rwh rl sh) (24 * (rl.length : Int) + 1) (24 * rl.length - (h + 1)) (h + 1) n := by
 rw [show 24 * rl.length - h = (24 * rl.length - (h + 1)) + 1 by omega, doneN]
 have e : rwh rl sh h = (z && decide (((h % 24 : Nat) : Int) < sh)) := by unfold rwh; rw [List.getD_eq_getElem?_getD, hz]; rfl
 rw [e]
theorem rdn_end {rl : List Bool} {sh : Int} {h n : Nat} (hh : 24 * rl.length <= h) : doneN (rwh rl sh) (24 * (rl.length : Int) + 1) (24 * rl.length - h) h n = 24 * (rl.length : Int) + 1 := by
 rw [show 24 * rl.length - h = 0 by omega, doneN]
theorem doneN_congr {f g : Nat -> Bool} {past : Int} : ∀ (k h n : Nat), (∀ x, h <= x -> x < h + k -> f x = g x) -> doneN f past k h n = doneN g past k h n
 | 0, _, _, _ => rfl
 | k + 1, h, n, hf => by
  rw [doneN, doneN, hf h (Nat.le_refl _) (by omega), doneN_congr k (h + 1) (n - 1) (fun x h1 h2 => hf x (by omega) (by omega)), doneN_congr k (h + 1) n (fun x h1 h2 => hf x (by omega) (by omega))]
theorem rdn_fin {c : Cs} {m : Int} {rl : List Bool} {b n : Nat} (hl : rl.length = c.nd) (hr : ∀ d, d < c.nd -> rl.getD d false = c.wk m d) (hb : (b : Int) < c.past) : rdn rl (c.sh m) b n = c.fin m (b : Int) (n : Int) := by
 unfold rdn Cs.fin
 rw [if_neg (show ¬ c.past <= (b : Int) by omega)]
 by_cases hn : n = 0
 · rw [if_pos hn, if_pos (by omega)]
 rw [if_neg hn, if_neg (by omega), hl, Int.toNat_natCast, Int.toNat_natCast]
 exact doneN_congr _ _ _ (fun x h1 h2 => by unfold rwh Cs.wh; rw [hr (x / 24) (by omega)])
set_option maxHeartbeats 2000000 in
theorem rpast_c (n : Int) (w : World) (h1 : 0 <= n) (h2 : n <= 1000) :
  Calls Tryz.prog 45 #[.int .i64 n] w (Ret (.int .i64 (24 * n + 1)) w) := by
 have F1 : Bun w [] w := Bun.nil _
 go_enter Tryz.func45, Tryz.ntmps45
 go_wp2_with fail
 go_ret
 exact ⟨rfl, F1.gb⟩
set_option maxHeartbeats 8000000 in
theorem rdone_c (lo hi : Nat) (v : Value) (rl : List Bool) (b n : Nat) (sh : Int) (w : World) (hl : Sl boEnc 1 lo hi w v rl) (h2 : hi <= w.heap.size) (hb : b <= 10000) (hn : n <= 10000) (hrl : rl.length <= 400) :
  Calls Tryz.prog 46 #[.int .i64 (b : Int), .int .i64 (n : Int), .int .i64 sh, v] w (Ret (.int .i64 (rdn rl sh b n)) w) := by
 have F1 : Bun w [] w := Bun.nil _
 have hm_rl := hl.len
 unfold maxLen at hm_rl
 obtain ⟨a, c, rfl⟩ := hl.any
 replace F1 := F1.sl0 hl h2 rfl
 clear hl
 go_enter Tryz.func46, Tryz.ntmps46
 by_cases c3 : (n : Int) = 0
 ·
  obtain ⟨c3a, c3b⟩ := bqt c3
  have c3H := lhd c3
  clear c3
  have Hx4 := lhd (show (rdn rl sh b n) = (b : Int) by rw [rdn, if_pos (by have h_ := c3H.out; omega)])
  go_wp2_with fail
  go_ret
  exact ⟨by rw [Hx4.out] <;> rfl, F1.gb⟩
 obtain ⟨c3a, c3b⟩ := bqf c3
 have c3H := lhd c3
 clear c3
 go_wp2_with fail
 obtain ⟨HI5_, HI50⟩ : ∃ I : RelT, I = (fun t ds wr => ∃ (h q : Nat), t 1 = .int .i64 (q : Int) /\ t 2 = .int .i64 sh /\ t 3 = .slice a rl.length c /\ t 9 = .int .i64 (h : Int) /\ h <= 10000 /\ 1 <= q /\ q <= 10000 /\ rdn rl sh b n = doneN (rwh rl sh) (24 * (rl.length : Int) + 1) (24 * rl.length - h) h q /\ ds = [] /\ w.heap.size <= wr.heap.size /\ Bun w [rsl boEnc 1 lo hi (.slice a rl.length c) rl] wr) := ⟨_, rfl⟩
 have HI5 := lhd HI50
 clear HI50
 refine wp_loopS 41 rfl HI5_ (fun t wr => 24 * rl.length - (intOf (t 9)).toNat) ?atStart1 ?round1
 case round1 =>
  intro t ds wr hHid
  rw [HI5.out] at hHid
  obtain ⟨h, q, e1, e2, e3, e9, hrel⟩ := hHid
  have e : ((List.range 41).map t).toArray = #[t 0, t 1, t 2, t 3, t 4, t 5, t 6, t 7, t 8, t 9, t 10, t 11, t 12, t 13, t 14, t 15, t 16, t 17, t 18, t 19, t 20, t 21, t 22, t 23, t 24, t 25, t 26, t 27, t 28, t 29, t 30, t 31, t 32, t 33, t 34, t 35, t 36, t 37, t 38, t 39, t 40] := rfl
  (try dsimp only at e)
  rw [e1, e2, e3, e9] at e
  rw [e]
  simp only [e9]
  clear e e1 e2 e3 e9
  obtain ⟨hh, hc1, hc2, hR, rfl, hs7, hF6⟩ := hrel
  clear F1
  obtain ⟨w8, rfl⟩ : ∃ x_ : World, x_ = wr := ⟨_, rfl⟩
  have HR := lhd hR
  clear hR
  by_cases c9 : (h : Int) < 24 * (rl.length : Int)
  ·
   have c9H := lhd c9
   obtain ⟨x10, o11, e_⟩ := Sl.addr (hF6.s 0 rfl) (by omega)
   subst e_
   have hq2_ : h / 24 < rl.length := by omega
   have hdv_ : Int.tdiv (h : Int) 24 = ((h / 24 : Nat) : Int) := by rw [Int.tdiv_eq_ediv_of_nonneg (by omega)]; rfl
   have hdw_ : IntKind.i64.wrap ((h / 24 : Nat) : Int) = ((h / 24 : Nat) : Int) := IntWalk.i64_in _ (by omega)
   have hdm_ : Int.tmod (h : Int) 24 = ((h % 24 : Nat) : Int) := by rw [Int.tmod_eq_emod_of_nonneg (by omega)]; rfl
   have hdx_ : IntKind.i64.wrap ((h % 24 : Nat) : Int) = ((h % 24 : Nat) : Int) := IntWalk.i64_in _ (by omega)
   have hdy_ : ((h / 24 : Nat) : Int) < (rl.length : Int) := by omega
   obtain ⟨z, hz12_⟩ : ∃ z_, rl[h / 24]? = some z_ := ⟨_, List.getElem?_eq_getElem (by omega)⟩
   have hz12 := lhd hz12_
   clear hz12_
   have HD := lhd (rdn_step (sh := sh) (n := q) (show h < 24 * rl.length by omega) hz12.out)
   cases c13 : z
   ·
    have c13H := lhd c13
    have ge14 : World.cell? _ ⟨x10, o11 + (h / 24), none⟩ = some (.bool z) := (by have h_ := Sl.cells (hF6.at 0 rfl) hz12.out 0 _ rfl; simpa using h_)
    have gl15 := cell_lt ge14
    go_wp2_with fail
    clear ge14 gl15
    (first | refine ⟨by kernel_rfl, ?_, ?_⟩ | refine ⟨rfl, ?_, ?_⟩ | refine ⟨?_, ?_⟩)
    · rw [HI5.out]; exact ⟨h + 1, q, rfl, (by kernel_rfl), (by kernel_rfl), (by show Value.int .i64 ((h : Int) + 1) = _; simp), (by omega), (by have h_ := HD; omega), (by omega), (by rw [HR.out, HD.out]; rw [if_neg (by simp [c13H.out])]), (by first | rfl | simp), (by first | omega | (simp; done) | (simp; omega)), hF6⟩
    · simp [slot, intOf]; omega
   have c13H := lhd c13
   by_cases c16 : (h : Int) % 24 < sh
   ·
    have c16H := lhd c16
    by_cases c17 : (q : Int) - 1 = 0
    ·
     obtain ⟨c17a, c17b⟩ := bqt c17
     have c17H := lhd c17
     clear c17
     have Hx18 := lhd (show (rdn rl sh b n) = (h : Int) + 1 by rw [HR.out, HD.out]; rw [if_pos (by have h_ := c16H.out; simp [c13H.out]; omega), if_pos (by have h_ := c17H.out; omega)])
     have ge19 : World.cell? _ ⟨x10, o11 + (h / 24), none⟩ = some (.bool z) := (by have h_ := Sl.cells (hF6.at 0 rfl) hz12.out 0 _ rfl; simpa using h_)
     have gl20 := cell_lt ge19
     go_wp2_with fail
     clear ge19 gl20
     go_ret
     exact ⟨by rw [Hx18.out] <;> rfl, hF6.gb⟩
    obtain ⟨c17a, c17b⟩ := bqf c17
    have c17H := lhd c17
    clear c17
    have ge21 : World.cell? _ ⟨x10, o11 + (h / 24), none⟩ = some (.bool z) := (by have h_ := Sl.cells (hF6.at 0 rfl) hz12.out 0 _ rfl; simpa using h_)
    have gl22 := cell_lt ge21
    go_wp2_with fail
    clear ge21 gl22
    (first | refine ⟨by kernel_rfl, ?_, ?_⟩ | refine ⟨rfl, ?_, ?_⟩ | refine ⟨?_, ?_⟩)
    · rw [HI5.out]; exact ⟨h + 1, (q - 1), (by show Value.int .i64 ((q : Int) - 1) = _; rw [show ((q : Int) - 1) = ((q - 1 : Nat) : Int) by omega]), (by kernel_rfl), (by kernel_rfl), (by show Value.int .i64 ((h : Int) + 1) = _; simp), (by omega), (by have h_ := HD; have h2_ := c17H.out; omega), (by omega), (by rw [HR.out, HD.out]; rw [if_pos (by have h_ := c16H.out; simp [c13H.out]; omega), if_neg (by have h_ := c17H.out; omega)]), (by first | rfl | simp), (by first | omega | (simp; done) | (simp; omega)), hF6⟩
    · simp [slot, intOf]; omega
   have c16H := lhd c16
   have c16a := dec_f c16
   have ge23 : World.cell? _ ⟨x10, o11 + (h / 24), none⟩ = some (.bool z) := (by have h_ := Sl.cells (hF6.at 0 rfl) hz12.out 0 _ rfl; simpa using h_)
   have gl24 := cell_lt ge23
   go_wp2_with fail
   clear ge23 gl24
   (first | refine ⟨by kernel_rfl, ?_, ?_⟩ | refine ⟨rfl, ?_, ?_⟩ | refine ⟨?_, ?_⟩)
   · rw [HI5.out]; exact ⟨h + 1, q, rfl, (by kernel_rfl), (by kernel_rfl), (by show Value.int .i64 ((h : Int) + 1) = _; simp), (by omega), (by have h_ := HD; omega), (by omega), (by rw [HR.out, HD.out]; rw [if_neg (by have h_ := c16H.out; simp; intro _; omega)]), (by first | rfl | simp), (by first | omega | (simp; done) | (simp; omega)), hF6⟩
   · simp [slot, intOf]; omega
  have c9H := lhd c9
  have c9a := dec_f c9
  go_wp2_with fail
  refine (rpast_c (rl.length : Int) _ (by omega) (by omega)).mono ?_
  rintro e w27 ⟨rfl, hg25⟩
  have hg25s := hg25.size
  (try simp at hg25s)
  have F28 := hF6.gn hg25
  clear hF6
  clear hg25
  have Hx29 := lhd (show (rdn rl sh b n) = 24 * (rl.length : Int) + 1 by rw [HR.out, rdn_end (by omega)])
  go_wp2_with fail
  go_ret
  exact ⟨by rw [Hx29.out] <;> rfl, F28.gb⟩
 case atStart1 =>
  rw [HI5.out]
  exact ⟨b, n, rfl, (by kernel_rfl), (by kernel_rfl), rfl, hb, (by have h_ := c3H.out; omega), hn, (by rw [rdn, if_neg (by have h_ := c3H.out; omega)]), rfl, (by first | exact Nat.le_refl _ | omega | (simp; done) | (simp; omega)), F1⟩
end Go.Proofs.YtdgplekokdeafaaGreat
