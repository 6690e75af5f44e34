/- fuel: the reference: Refine and Post. -/
import Derived.Test.YtfifldbinnkdmaaKQ
import Derived.Test.YtfifldbinnkdmaaRefi
import Derived.Test.YtfifldbinnkdmaaRef9
import Derived.Test.YtfifldbinnkdmaaK1
import Derived.Lib.SliceRun
set_option linter.unusedVariables false
set_option linter.unusedSimpArgs false
set_option linter.unnecessarySimpa false
namespace Go.Proofs.Ytfifldbinnkdmaa
open Go.RowKit Go.Shelf
set_option maxRecDepth 100000

section
variable (l1 h1 l2 h2 : Nat) (va vm : Value) (b : Bok) (w : World) (ha : Accs l1 h1 w va b.accs) (hm : Mvs l2 h2 w vm b.mvs) (b1 : h1 ≤ w.heap.size) (b2 : h2 ≤ w.heap.size)
include ha hm b1 b2
theorem wideB : HasB 0 w.heap.size w va vm b := ⟨Sl.wide ha (Nat.zero_le _) b1, Sl.wide hm (Nat.zero_le _) b2⟩
theorem rCheck2 (hn : nameOk b.accs) : Calls Try.prog 45 #[.agg #[va, vm]] w (Ret (.int .i64 (checkE b)) w) := rCheck_c 0 w.heap.size va vm b w (wideB l1 h1 l2 h2 va vm b w ha hm b1 b2) hn (Nat.le_refl _)
end
theorem rnar_c (lo hi : Nat) (va vm : Value) (b : Bok) (k : Nat) (w : World) (hb : HasB lo hi w va vm b) (hh : hi ≤ w.heap.size) (hok : BokOk b) (hk : k < 2 * b.accs.length + b.mvs.length) :
    Calls Try.prog 98 #[.agg #[va, vm], .int .i64 (k : Int)] w (Ret (.agg #[.int .i64 (rnarF b k (2 ^ b.accs.length)).lo, .int .i64 (rnarF b k (2 ^ b.accs.length)).hi]) w) := rnar_n lo hi va vm b k _ w hb hh hok hk rfl
section
variable (lo hi : Nat) (va vm : Value) (b : Bok) (i : Nat) (w : World) (hb : HasB lo hi w va vm b) (hh : hi ≤ w.heap.size) (hok : BokOk b)
include hb hh hok
theorem rnarO (hi' : i < b.accs.length) : Calls Try.prog 98 #[.agg #[va, vm], .int .i64 (i : Int)] w (Ret (.agg #[.int .i64 (narO b i).lo, .int .i64 (narO b i).hi]) w) := by
  have h := rnar_c lo hi va vm b i w hb hh hok (by omega)
  rw [rnar_op hok hi'] at h
  exact h
theorem rnarC (hi' : i < b.accs.length) : Calls Try.prog 98 #[.agg #[va, vm], .int .i64 ((b.accs.length : Int) + (i : Int))] w (Ret (.agg #[.int .i64 (narC b i).lo, .int .i64 (narC b i).hi]) w) := by
  have h := rnar_c lo hi va vm b (b.accs.length + i) w hb hh hok (by omega)
  rw [rnar_cl hok hi'] at h
  exact h
theorem rnarL (hi' : i < b.mvs.length) : Calls Try.prog 98 #[.agg #[va, vm], .int .i64 (2 * (b.accs.length : Int) + (i : Int))] w (Ret (.agg #[.int .i64 (narL b i).lo, .int .i64 (narL b i).hi]) w) := by
  have h := rnar_c lo hi va vm b (2 * b.accs.length + i) w hb hh hok (by omega)
  rw [rnar_li hok hi'] at h
  exact h
end
theorem takeA_len {b : Bok} {i : Nat} (h : i ≤ b.accs.length) : ((refB b).accs.take i).length = i := by
  have e : (refB b).accs.length = b.accs.length := refAL_len _ _
  rw [List.length_take, e]; omega
theorem takeM_len {b : Bok} {i : Nat} (h : i ≤ b.mvs.length) : ((refB b).mvs.take i).length = i := by
  have e : (refB b).mvs.length = b.mvs.length := refML_len _ _
  rw [List.length_take, e]; omega
theorem takeA_step {b : Bok} {i : Nat} (h : i < b.accs.length) : (refB b).accs.take i ++ [⟨(ga b.accs i).name, (ga b.accs i).kind, ⟨(narO b i).lo, (narO b i).hi⟩, ⟨(narC b i).lo, (narC b i).hi⟩⟩] = (refB b).accs.take (i + 1) := by
  have e : (refB b).accs.length = b.accs.length := refAL_len _ _
  have e2 := ga_ref h
  rw [List.take_add_one, List.getElem?_eq_getElem (by omega), ← ga_get (by omega), e2]
  rfl
theorem takeM_step {b : Bok} {i : Nat} (h : i < b.mvs.length) : (refB b).mvs.take i ++ [⟨(gm b.mvs i).fr, (gm b.mvs i).to, ⟨(narL b i).lo, (narL b i).hi⟩⟩] = (refB b).mvs.take (i + 1) := by
  have e : (refB b).mvs.length = b.mvs.length := refML_len _ _
  have e2 := gm_ref h
  rw [List.take_add_one, List.getElem?_eq_getElem (by omega), ← gm_get (by omega), e2]
  rfl
theorem takeA_all (b : Bok) : (refB b).accs.take b.accs.length = (refB b).accs := List.take_of_length_le (by have e : (refB b).accs.length = b.accs.length := refAL_len _ _; omega)
theorem takeM_all (b : Bok) : (refB b).mvs.take b.mvs.length = (refB b).mvs := List.take_of_length_le (by have e : (refB b).mvs.length = b.mvs.length := refML_len _ _; omega)
set_option maxHeartbeats 16000000 in
theorem rref_q (l1 h1 l2 h2 : Nat) (va vm : Value) (b : Bok) (w : World) (ha : Accs l1 h1 w va b.accs) (hm : Mvs l2 h2 w vm b.mvs) (b1 : h1 ≤ w.heap.size) (b2 : h2 ≤ w.heap.size) (hn : nameOk b.accs) (hck : checkE b = 0) :
    Calls Try.prog 61 #[.agg #[va, vm]] w (RefQ b w) := by
  have F1 : Bun w [] w := Bun.nil _
  have hm_ac := ha.len
  unfold maxLen at hm_ac
  obtain ⟨aa, ak, rfl⟩ := ha.any
  have F2 := F1.sl0 ha b1 rfl
  clear F1
  clear ha
  have hm_mv := hm.len
  unfold maxLen at hm_mv
  obtain ⟨ma, mk, rfl⟩ := hm.any
  have F3 := F2.sl0 hm b2 rfl
  clear F2
  clear hm
  have HN := Lib.hid hn
  have HC := Lib.hid hck
  have HOK := Lib.hid (checked_bok hck)
  have h1_ := HOK.out.n0
  have h8_ := HOK.out.n8
  have h30_ := HOK.out.m30
  clear hn hck
  go_enter Try.func61, Try.ntmps61
  go_wp2_with fail
  have F4 := F3.new 25 #[.slice aa b.accs.length ak, .slice ma b.mvs.length mk] (n := w.heap.size) (by simp)
  clear F3
  have F5 := F4.new 25 #[.slice none 0 0, .slice none 0 0] (n := (w.heap.size + 1)) (by simp)
  clear F4
  refine ((rCheck2 _ _ _ _ _ _ b _ (F5.at 3 rfl : Sl accEnc 6 l1 h1 _ (.slice aa b.accs.length ak) b.accs) (F5.at 2 rfl : Sl mvEnc 4 l2 h2 _ (.slice ma b.mvs.length mk) b.mvs) (by first | omega | (simp; omega)) (by first | omega | (simp; omega)) HN.out).mono (fun _ _ h_ => check_zero h_ HC.out)).mono ?_
  rintro e w8 ⟨rfl, hg6⟩
  have hg6s := hg6.size
  (try simp at hg6s)
  have F9 := F5.gn hg6
  clear F5
  clear hg6
  have b10 := F9.bx2 1 rfl
  go_wp2_with fail
  clear b10
  have F11 := F9.new 25 #[.slice none 0 0, .slice none 0 0] (n := w8.heap.size) (by simp)
  clear F9
  have F12 := F11.rowN accEnc 79 6
  clear F11
  have F13 := F12.rowN mvEnc 76 4
  clear F12
  have hze1 : ([] : List Acc) = (refB b).accs.take 0 := rfl
  (skip)
  obtain ⟨HI14_, HI140⟩ : ∃ I : (Nat → Value) → List Deferred → World → Prop, I = (fun t ds wr => ∃ (i : Nat) (vo : Value), t 1 = .pointer (some ⟨w.heap.size, 0, none⟩) ∧ t 2 = .pointer (some ⟨w.heap.size + 1, 0, none⟩) ∧ t 5 = .pointer (some ⟨w8.heap.size, 0, none⟩) ∧ t 6 = .int .i64 (b.accs.length : Int) ∧ t 7 = .int .i64 (i : Int) ∧ i ≤ b.accs.length ∧ ds = [] ∧ w8.heap.size ≤ wr.heap.size ∧ Bun w [rown mvEnc 76 4 w.heap.size (.slice none 0 0) [], rown accEnc 79 6 w.heap.size vo ((refB b).accs.take i), rbox w8.heap.size 25 #[vo, .slice none 0 0], rbox (w.heap.size + 1) 25 #[.slice none 0 0, .slice none 0 0], rbox w.heap.size 25 #[.slice aa b.accs.length ak, .slice ma b.mvs.length mk], rsl mvEnc 4 l2 h2 (.slice ma b.mvs.length mk) b.mvs, rsl accEnc 6 l1 h1 (.slice aa b.accs.length ak) b.accs] wr) := ⟨_, rfl⟩
  have HI14 := Lib.hid HI140
  clear HI140
  refine wp_loopS 72 rfl HI14_ (fun t wr => b.accs.length - (intOf (t 7)).toNat) ?atStart1 ?round1
  case round1 =>
    intro t ds wr hHid
    rw [HI14.out] at hHid
    obtain ⟨i, vo, e1, e2, e5, e6, e7, hrel⟩ := hHid
    have e : ((List.range 72).map t).toArray = #[t 0, t 1, t 2, t 3, t 4, t 5, t 6, t 7, t 8, t 9, t 10, t 11, t 12, t 13, t 14, t 15, t 16, t 17, t 18, t 19, t 20, t 21, t 22, t 23, t 24, t 25, t 26, t 27, t 28, t 29, t 30, t 31, t 32, t 33, t 34, t 35, t 36, t 37, t 38, t 39, t 40, t 41, t 42, t 43, t 44, t 45, t 46, t 47, t 48, t 49, t 50, t 51, t 52, t 53, t 54, t 55, t 56, t 57, t 58, t 59, t 60, t 61, t 62, t 63, t 64, t 65, t 66, t 67, t 68, t 69, t 70, t 71] := rfl
    (try dsimp only at e)
    rw [e1, e2, e5, e6, e7] at e
    rw [e]
    simp only [e7]
    clear e e1 e2 e5 e6 e7
    obtain ⟨hi0, rfl, hs16, hF15⟩ := hrel
    clear F13
    obtain ⟨w17, rfl⟩ : ∃ x_ : World, x_ = wr := ⟨_, rfl⟩
    by_cases c18 : (i : Int) < (b.accs.length : Int)
    · skip
      have c18H := Lib.hid c18
      obtain ⟨x19, o20, e_⟩ := Sl.addr (hF15.at 6 rfl : Sl accEnc 6 l1 h1 _ (.slice aa b.accs.length ak) b.accs) (by omega)
      subst e_
      have hz21 : Hid (b.accs[i]? = some (ga b.accs i)) := Lib.hid (ga_at (by omega))
      have hib : i < b.accs.length := by omega
      have b23 := hF15.bx2 4 rfl
      have ge24 : World.cell? _ ⟨x19, o20 + i * 6, none⟩ = some (.string (ga b.accs i).name) := (((hF15.at 6 rfl : Sl accEnc 6 l1 h1 _ (.slice (some ⟨x19, o20, none⟩) b.accs.length ak) b.accs)).cells hz21.out 0 _ rfl)
      have gl25 := cell_lt ge24
      have ge26 : World.cell? _ ⟨x19, o20 + i * 6 + 1, none⟩ = some (.int .i64 (ga b.accs i).kind) := (((hF15.at 6 rfl : Sl accEnc 6 l1 h1 _ (.slice (some ⟨x19, o20, none⟩) b.accs.length ak) b.accs)).cells hz21.out 1 _ rfl)
      have ge27 : World.cell? _ ⟨x19, o20 + i * 6 + 2, none⟩ = some (.int .i64 (ga b.accs i).op.lo) := (((hF15.at 6 rfl : Sl accEnc 6 l1 h1 _ (.slice (some ⟨x19, o20, none⟩) b.accs.length ak) b.accs)).cells hz21.out 2 _ rfl)
      have ge28 : World.cell? _ ⟨x19, o20 + i * 6 + 3, none⟩ = some (.int .i64 (ga b.accs i).op.hi) := (((hF15.at 6 rfl : Sl accEnc 6 l1 h1 _ (.slice (some ⟨x19, o20, none⟩) b.accs.length ak) b.accs)).cells hz21.out 3 _ rfl)
      have ge29 : World.cell? _ ⟨x19, o20 + i * 6 + 4, none⟩ = some (.int .i64 (ga b.accs i).cl.lo) := (((hF15.at 6 rfl : Sl accEnc 6 l1 h1 _ (.slice (some ⟨x19, o20, none⟩) b.accs.length ak) b.accs)).cells hz21.out 4 _ rfl)
      have ge30 : World.cell? _ ⟨x19, o20 + i * 6 + 5, none⟩ = some (.int .i64 (ga b.accs i).cl.hi) := (((hF15.at 6 rfl : Sl accEnc 6 l1 h1 _ (.slice (some ⟨x19, o20, none⟩) b.accs.length ak) b.accs)).cells hz21.out 5 _ rfl)
      go_wp2_with fail
      clear b23 ge24 gl25 ge26 ge27 ge28 ge29 ge30
      have F31 := hF15.new 79 #[.string (ga b.accs i).name, .int .i64 ((ga b.accs i).kind), .int .i64 ((ga b.accs i).op.lo), .int .i64 ((ga b.accs i).op.hi), .int .i64 ((ga b.accs i).cl.lo), .int .i64 ((ga b.accs i).cl.hi)] (n := w17.heap.size) (by simp)
      clear hF15
      obtain ⟨w32, hx33, F35, hxs34⟩ := (show Bun w [rbox w17.heap.size 79 #[.string (ga b.accs i).name, .int .i64 ((ga b.accs i).kind), .int .i64 ((ga b.accs i).op.lo), .int .i64 ((ga b.accs i).op.hi), .int .i64 ((ga b.accs i).cl.lo), .int .i64 ((ga b.accs i).cl.hi)], rown mvEnc 76 4 w.heap.size (.slice none 0 0) [], rown accEnc 79 6 w.heap.size vo ((refB b).accs.take i), rbox w8.heap.size 25 #[vo, .slice none 0 0], rbox (w.heap.size + 1) 25 #[.slice none 0 0, .slice none 0 0], rbox w.heap.size 25 #[.slice (some ⟨x19, o20, none⟩) b.accs.length ak, .slice ma b.mvs.length mk], rsl mvEnc 4 l2 h2 (.slice ma b.mvs.length mk) b.mvs, rsl accEnc 6 l1 h1 (.slice (some ⟨x19, o20, none⟩) b.accs.length ak) b.accs] _ from F31).name
      (try simp at hxs34)
      rw [hx33]
      clear hx33 F31
      have hw22 : IntKind.i64.wrap ((b.accs.length : Int) + (i : Int)) = (b.accs.length : Int) + (i : Int) := IntWalk.i64_in _ (by omega)
      have F36 := F35.drew
      clear F35
      refine ru_begin (fun W => W.cell? ⟨w.heap.size, 0, none⟩ = some (.slice (some ⟨x19, o20, none⟩) b.accs.length ak) ∧ W.cell? ⟨w.heap.size, 1, none⟩ = some (.slice ma b.mvs.length mk)) 11 (by kernel_rfl) ?_ ?_
      · exact ⟨F36.cl 5 0 rfl rfl, F36.cl 5 1 rfl rfl⟩
      obtain ⟨wd38, hwd_⟩ : ∃ x : World, w32.drew = x := ⟨_, rfl⟩
      rw [hwd_] at F36 ⊢
      have wd38s : w32.heap.size ≤ wd38.heap.size := by rw [← hwd_]; exact Nat.le_refl _
      clear hwd_
      have hS37 := (And.intro (F36.cl 5 0 rfl rfl) (F36.cl 5 1 rfl rfl))
      refine ru_t 0 [] ?_
      refine ru_t 1 [] ?_
      refine ru_t 3 [] ?_
      refine ru_t 4 [] ?_
      refine ru_t 5 [] ?_
      refine ru_t 6 [] ?_
      (try simp only [Act.put, List.setIfInBounds_toArray, List.set_cons_zero, List.set_cons_succ])
      clear hS37
      refine ru_one 2 rfl (by kernel_rfl) (fun K hK => ?_)
      go_simp
      refine (rnarO 0 _ _ _ b i _ (wideB _ _ _ _ _ _ b _ (F36.at 7 rfl : Sl accEnc 6 l1 h1 _ (.slice (some ⟨x19, o20, none⟩) b.accs.length ak) b.accs) (F36.at 6 rfl : Sl mvEnc 4 l2 h2 _ (.slice ma b.mvs.length mk) b.mvs) (by first | omega | (simp; omega)) (by first | omega | (simp; omega))) (Nat.le_refl _) HOK.out (by omega)).mono ?_
      rintro e w41 ⟨rfl, hg39⟩
      have hg39s := hg39.size
      (try simp at hg39s)
      have F42 := F36.gn hg39
      clear F36
      refine ru_back hK (by exact ⟨F42.cl 5 0 rfl rfl, F42.cl 5 1 rfl rfl⟩) (fun hHeld => ?_)
      clear hK K
      (try simp only [Act.put, List.setIfInBounds_toArray, List.set_cons_zero, List.set_cons_succ])
      refine ru_p 8 ?_
      (try simp only [Act.put, List.setIfInBounds_toArray, List.set_cons_zero, List.set_cons_succ])
      refine ru_one 7 rfl (by kernel_rfl) (fun K hK => ?_)
      go_simp
      refine (rnarC 0 _ _ _ b i _ (wideB _ _ _ _ _ _ b _ (F42.at 7 rfl : Sl accEnc 6 l1 h1 _ (.slice (some ⟨x19, o20, none⟩) b.accs.length ak) b.accs) (F42.at 6 rfl : Sl mvEnc 4 l2 h2 _ (.slice ma b.mvs.length mk) b.mvs) (by first | omega | (simp; omega)) (by first | omega | (simp; omega))) (Nat.le_refl _) HOK.out (by omega)).mono ?_
      rintro e w45 ⟨rfl, hg43⟩
      have hg43s := hg43.size
      (try simp at hg43s)
      have F46 := F42.gn hg43
      clear F42
      refine ru_back hK (by exact ⟨F46.cl 5 0 rfl rfl, F46.cl 5 1 rfl rfl⟩) (fun hHeld => ?_)
      clear hK K
      (try simp only [Act.put, List.setIfInBounds_toArray, List.set_cons_zero, List.set_cons_succ])
      refine ru_one 9 rfl (by kernel_rfl) (fun K hK => ?_)
      have kb_ := F46.bx6 0 rfl
      go_simp
      clear kb_
      have F47 := (F46.set 2 (.int .i64 ((narO b i).lo))).nf #[.string (ga b.accs i).name, .int .i64 ((ga b.accs i).kind), .int .i64 ((narO b i).lo), .int .i64 ((ga b.accs i).op.hi), .int .i64 ((ga b.accs i).cl.lo), .int .i64 ((ga b.accs i).cl.hi)] rfl
      clear F46
      have F48 := (F47.set 3 (.int .i64 ((narO b i).hi))).nf #[.string (ga b.accs i).name, .int .i64 ((ga b.accs i).kind), .int .i64 ((narO b i).lo), .int .i64 ((narO b i).hi), .int .i64 ((ga b.accs i).cl.lo), .int .i64 ((ga b.accs i).cl.hi)] rfl
      clear F47
      refine ru_back hK (by exact ⟨F48.cl 5 0 rfl rfl, F48.cl 5 1 rfl rfl⟩) (fun hHeld => ?_)
      clear hK K
      (try simp only [Act.put, List.setIfInBounds_toArray, List.set_cons_zero, List.set_cons_succ])
      refine ru_p 10 ?_
      (try simp only [Act.put, List.setIfInBounds_toArray, List.set_cons_zero, List.set_cons_succ])
      refine ru_one 11 rfl (by kernel_rfl) (fun K hK => ?_)
      have kb_ := F48.bx6 0 rfl
      go_simp
      clear kb_
      have F49 := (F48.set 4 (.int .i64 ((narC b i).lo))).nf #[.string (ga b.accs i).name, .int .i64 ((ga b.accs i).kind), .int .i64 ((narO b i).lo), .int .i64 ((narO b i).hi), .int .i64 ((narC b i).lo), .int .i64 ((ga b.accs i).cl.hi)] rfl
      clear F48
      have F50 := (F49.set 5 (.int .i64 ((narC b i).hi))).nf #[.string (ga b.accs i).name, .int .i64 ((ga b.accs i).kind), .int .i64 ((narO b i).lo), .int .i64 ((narO b i).hi), .int .i64 ((narC b i).lo), .int .i64 ((narC b i).hi)] rfl
      clear F49
      refine ru_back_late hK (by kernel_rfl) ?_
      clear hK K
      (try simp only [Act.put, List.setIfInBounds_toArray, List.set_cons_zero, List.set_cons_succ])
      refine ru_done (by kernel_rfl) ?_
      (try clear hw22)
      obtain ⟨w51, hx52, F54, hxs53⟩ := (show Bun w [rbox w17.heap.size 79 #[.string (ga b.accs i).name, .int .i64 ((ga b.accs i).kind), .int .i64 ((narO b i).lo), .int .i64 ((narO b i).hi), .int .i64 ((narC b i).lo), .int .i64 ((narC b i).hi)], rown mvEnc 76 4 w.heap.size (.slice none 0 0) [], rown accEnc 79 6 w.heap.size vo ((refB b).accs.take i), rbox w8.heap.size 25 #[vo, .slice none 0 0], rbox (w.heap.size + 1) 25 #[.slice none 0 0, .slice none 0 0], rbox w.heap.size 25 #[.slice (some ⟨x19, o20, none⟩) b.accs.length ak, .slice ma b.mvs.length mk], rsl mvEnc 4 l2 h2 (.slice ma b.mvs.length mk) b.mvs, rsl accEnc 6 l1 h1 (.slice (some ⟨x19, o20, none⟩) b.accs.length ak) b.accs] _ from F50).name
      (try simp at hxs53)
      rw [hx52]
      clear hx52 F50
      have b55 := F54.bx6 0 rfl
      have b56 := F54.bx2 3 rfl
      go_wp2_with (at_builtin; refine wpList_app _ okAc rfl _ _ rfl w.heap.size vo ((refB b).accs.take i) [(⟨(ga b.accs i).name, (ga b.accs i).kind, ⟨(narO b i).lo, (narO b i).hi⟩, ⟨(narC b i).lo, (narC b i).hi⟩⟩ : Acc)] rfl (by exact ((F54.at 2 rfl : Own accEnc 79 6 w.heap.size _ vo ((refB b).accs.take i))).alloc _) ⟨_, 0, none⟩ 1 1 rfl rfl (by decide) (news_of (Bk.newAt _ _ _ (by simp))) (i + 1) (by rw [takeA_len (by omega)]) (by omega) (by first | omega | (simp; omega)) _ rfl ?_; intro g57 cap58 w59 hp60; refine Hid.out ?_)
      refine Lib.hid ?_
      have hp60s := hp60.gb.size
      (try simp at hp60s)
      clear b55 b56
      have F61 := ((F54.alloc (.cells #[.string (ga b.accs i).name, .int .i64 ((ga b.accs i).kind), .int .i64 ((narO b i).lo), .int .i64 ((narO b i).hi), .int .i64 ((narC b i).lo), .int .i64 ((narC b i).hi)] 79)).front 2 rfl rfl).app hp60 (by simp)
      clear F54
      have b62 := F61.bx2 3 rfl
      go_wp2_with fail
      clear b62
      have F63 := ((F61.front 3 rfl rfl).set 0 (.slice (some ⟨g57, 0, none⟩) (i + 1) cap58)).nf #[.slice (some ⟨g57, 0, none⟩) (i + 1) cap58, .slice none 0 0] rfl
      clear F61
      rw [takeA_step (by omega)] at F63
      have F64 : Bun w [rown mvEnc 76 4 w.heap.size (.slice none 0 0) [], rown accEnc 79 6 w.heap.size (.slice (some ⟨g57, 0, none⟩) (i + 1) cap58) ((refB b).accs.take (i + 1)), rbox w8.heap.size 25 #[.slice (some ⟨g57, 0, none⟩) (i + 1) cap58, .slice none 0 0], rbox (w.heap.size + 1) 25 #[.slice none 0 0, .slice none 0 0], rbox w.heap.size 25 #[.slice (some ⟨x19, o20, none⟩) b.accs.length ak, .slice ma b.mvs.length mk], rsl mvEnc 4 l2 h2 (.slice ma b.mvs.length mk) b.mvs, rsl accEnc 6 l1 h1 (.slice (some ⟨x19, o20, none⟩) b.accs.length ak) b.accs] _ := F63.pick [3, 1, 0, 4, 5, 6, 7] (by decide) rfl
      clear F63
      (first | refine ⟨by kernel_rfl, ?_, ?_⟩ | refine ⟨rfl, ?_, ?_⟩ | refine ⟨?_, ?_⟩)
      · rw [HI14.out]; exact ⟨i + 1, _, (by first | kernel_rfl | rfl), (by first | kernel_rfl | rfl), (by first | kernel_rfl | rfl), (by first | kernel_rfl | rfl), (by show Value.int .i64 ((i : Int) + 1) = _; simp), (by omega), (by first | rfl | simp), (by first | omega | (simp; done) | (simp; omega)), F64⟩
      · simp [slot, intOf]; omega
    · skip
      have c18H := Lib.hid c18
      have c18a : decide ((i : Int) < (b.accs.length : Int)) = false := dec_f c18
      go_wp2_with fail
      have hie : i = b.accs.length := by omega
      subst hie
      rw [takeA_all] at hF15
      obtain ⟨ca65, cc66, e_⟩ := (Own.sl (hF15.at 1 rfl : Own accEnc 79 6 w.heap.size _ vo ((refB b).accs)) (fun _ => rfl)).any
      rw [show (refB b).accs.length = b.accs.length from refAL_len _ _] at e_
      subst e_
      (skip)
      obtain ⟨HI67_, HI670⟩ : ∃ I : (Nat → Value) → List Deferred → World → Prop, I = (fun t ds wr => ∃ (k : Nat) (vq : Value), t 1 = .pointer (some ⟨w.heap.size, 0, none⟩) ∧ t 2 = .pointer (some ⟨w.heap.size + 1, 0, none⟩) ∧ t 5 = .pointer (some ⟨w8.heap.size, 0, none⟩) ∧ t 6 = .int .i64 (b.accs.length : Int) ∧ t 9 = .int .i64 (k : Int) ∧ k ≤ b.mvs.length ∧ ds = [] ∧ w17.heap.size ≤ wr.heap.size ∧ Bun w [rown mvEnc 76 4 w.heap.size vq ((refB b).mvs.take k), rown accEnc 79 6 w.heap.size (.slice ca65 b.accs.length cc66) ((refB b).accs), rbox w8.heap.size 25 #[.slice ca65 b.accs.length cc66, vq], rbox (w.heap.size + 1) 25 #[.slice none 0 0, .slice none 0 0], rbox w.heap.size 25 #[.slice aa b.accs.length ak, .slice ma b.mvs.length mk], rsl mvEnc 4 l2 h2 (.slice ma b.mvs.length mk) b.mvs, rsl accEnc 6 l1 h1 (.slice aa b.accs.length ak) b.accs] wr) := ⟨_, rfl⟩
      have HI67 := Lib.hid HI670
      clear HI670
      refine wp_loopS 72 rfl HI67_ (fun t wr => b.mvs.length - (intOf (t 9)).toNat) ?atStart2 ?round2
      case round2 =>
        intro t ds wr hHid
        rw [HI67.out] at hHid
        obtain ⟨k, vq, e1, e2, e5, e6, e9, hrel⟩ := hHid
        have e : ((List.range 72).map t).toArray = #[t 0, t 1, t 2, t 3, t 4, t 5, t 6, t 7, t 8, t 9, t 10, t 11, t 12, t 13, t 14, t 15, t 16, t 17, t 18, t 19, t 20, t 21, t 22, t 23, t 24, t 25, t 26, t 27, t 28, t 29, t 30, t 31, t 32, t 33, t 34, t 35, t 36, t 37, t 38, t 39, t 40, t 41, t 42, t 43, t 44, t 45, t 46, t 47, t 48, t 49, t 50, t 51, t 52, t 53, t 54, t 55, t 56, t 57, t 58, t 59, t 60, t 61, t 62, t 63, t 64, t 65, t 66, t 67, t 68, t 69, t 70, t 71] := rfl
        (try dsimp only at e)
        rw [e1, e2, e5, e6, e9] at e
        rw [e]
        simp only [e9]
        clear e e1 e2 e5 e6 e9
        obtain ⟨hk0, rfl, hs69, hF68⟩ := hrel
        clear hF15
        obtain ⟨w70, rfl⟩ : ∃ x_ : World, x_ = wr := ⟨_, rfl⟩
        by_cases c71 : (k : Int) < (b.mvs.length : Int)
        · skip
          have c71H := Lib.hid c71
          obtain ⟨x72, o73, e_⟩ := Sl.addr (hF68.at 5 rfl : Sl mvEnc 4 l2 h2 _ (.slice ma b.mvs.length mk) b.mvs) (by omega)
          subst e_
          have hz74 : Hid (b.mvs[k]? = some (gm b.mvs k)) := Lib.hid (gm_at (by omega))
          have hkb : k < b.mvs.length := by omega
          have b75 := hF68.bx2 4 rfl
          have ge76 : World.cell? _ ⟨x72, o73 + k * 4, none⟩ = some (.int .i64 (gm b.mvs k).fr) := (((hF68.at 5 rfl : Sl mvEnc 4 l2 h2 _ (.slice (some ⟨x72, o73, none⟩) b.mvs.length mk) b.mvs)).cells hz74.out 0 _ rfl)
          have gl77 := cell_lt ge76
          have ge78 : World.cell? _ ⟨x72, o73 + k * 4 + 1, none⟩ = some (.int .i64 (gm b.mvs k).to) := (((hF68.at 5 rfl : Sl mvEnc 4 l2 h2 _ (.slice (some ⟨x72, o73, none⟩) b.mvs.length mk) b.mvs)).cells hz74.out 1 _ rfl)
          have ge79 : World.cell? _ ⟨x72, o73 + k * 4 + 2, none⟩ = some (.int .i64 (gm b.mvs k).li.lo) := (((hF68.at 5 rfl : Sl mvEnc 4 l2 h2 _ (.slice (some ⟨x72, o73, none⟩) b.mvs.length mk) b.mvs)).cells hz74.out 2 _ rfl)
          have ge80 : World.cell? _ ⟨x72, o73 + k * 4 + 3, none⟩ = some (.int .i64 (gm b.mvs k).li.hi) := (((hF68.at 5 rfl : Sl mvEnc 4 l2 h2 _ (.slice (some ⟨x72, o73, none⟩) b.mvs.length mk) b.mvs)).cells hz74.out 3 _ rfl)
          go_wp2_with fail
          clear b75 ge76 gl77 ge78 ge79 ge80
          have F81 := hF68.new 76 #[.int .i64 ((gm b.mvs k).fr), .int .i64 ((gm b.mvs k).to), .int .i64 ((gm b.mvs k).li.lo), .int .i64 ((gm b.mvs k).li.hi)] (n := w70.heap.size) (by simp)
          clear hF68
          refine (rnarL 0 _ _ _ b k _ (wideB _ _ _ _ _ _ b _ (F81.at 7 rfl : Sl accEnc 6 l1 h1 _ (.slice aa b.accs.length ak) b.accs) (F81.at 6 rfl : Sl mvEnc 4 l2 h2 _ (.slice (some ⟨x72, o73, none⟩) b.mvs.length mk) b.mvs) (by first | omega | (simp; omega)) (by first | omega | (simp; omega))) (Nat.le_refl _) HOK.out (by omega)).mono ?_
          rintro e w84 ⟨rfl, hg82⟩
          have hg82s := hg82.size
          (try simp at hg82s)
          have F85 := F81.gn hg82
          clear F81
          clear hg82
          have b86 := F85.bx4 0 rfl
          have b87 := F85.bx2 3 rfl
          have F88 := (F85.set 2 (.int .i64 ((narL b k).lo))).nf #[.int .i64 ((gm b.mvs k).fr), .int .i64 ((gm b.mvs k).to), .int .i64 ((narL b k).lo), .int .i64 ((gm b.mvs k).li.hi)] rfl
          clear F85
          have F89 := (F88.set 3 (.int .i64 ((narL b k).hi))).nf #[.int .i64 ((gm b.mvs k).fr), .int .i64 ((gm b.mvs k).to), .int .i64 ((narL b k).lo), .int .i64 ((narL b k).hi)] rfl
          clear F88
          go_wp2_with (at_builtin; refine wpList_app _ okMv rfl _ _ rfl w.heap.size vq ((refB b).mvs.take k) [(⟨(gm b.mvs k).fr, (gm b.mvs k).to, ⟨(narL b k).lo, (narL b k).hi⟩⟩ : Mv)] rfl (by exact ((F89.at 1 rfl : Own mvEnc 76 4 w.heap.size _ vq ((refB b).mvs.take k))).alloc _) ⟨_, 0, none⟩ 1 1 rfl rfl (by decide) (news_of (Bk.newAt _ _ _ (by simp))) (k + 1) (by rw [takeM_len (by omega)]) (by omega) (by first | omega | (simp; omega)) _ rfl ?_; intro g90 cap91 w92 hp93; refine Hid.out ?_)
          refine Lib.hid ?_
          have hp93s := hp93.gb.size
          (try simp at hp93s)
          clear b86 b87
          have F94 := ((F89.alloc (.cells #[.int .i64 ((gm b.mvs k).fr), .int .i64 ((gm b.mvs k).to), .int .i64 ((narL b k).lo), .int .i64 ((narL b k).hi)] 76)).front 1 rfl rfl).app hp93 (by simp)
          clear F89
          have b95 := F94.bx2 3 rfl
          go_wp2_with fail
          clear b95
          have F96 := ((F94.front 3 rfl rfl).set 1 (.slice (some ⟨g90, 0, none⟩) (k + 1) cap91)).nf #[.slice ca65 b.accs.length cc66, .slice (some ⟨g90, 0, none⟩) (k + 1) cap91] rfl
          clear F94
          rw [takeM_step (by omega)] at F96
          have F97 : Bun w [rown mvEnc 76 4 w.heap.size (.slice (some ⟨g90, 0, none⟩) (k + 1) cap91) ((refB b).mvs.take (k + 1)), rown accEnc 79 6 w.heap.size (.slice ca65 b.accs.length cc66) ((refB b).accs), rbox w8.heap.size 25 #[.slice ca65 b.accs.length cc66, .slice (some ⟨g90, 0, none⟩) (k + 1) cap91], rbox (w.heap.size + 1) 25 #[.slice none 0 0, .slice none 0 0], rbox w.heap.size 25 #[.slice aa b.accs.length ak, .slice (some ⟨x72, o73, none⟩) b.mvs.length mk], rsl mvEnc 4 l2 h2 (.slice (some ⟨x72, o73, none⟩) b.mvs.length mk) b.mvs, rsl accEnc 6 l1 h1 (.slice aa b.accs.length ak) b.accs] _ := F96.pick [1, 3, 0, 4, 5, 6, 7] (by decide) rfl
          clear F96
          (first | refine ⟨by kernel_rfl, ?_, ?_⟩ | refine ⟨rfl, ?_, ?_⟩ | refine ⟨?_, ?_⟩)
          · rw [HI67.out]; exact ⟨k + 1, _, (by first | kernel_rfl | rfl), (by first | kernel_rfl | rfl), (by first | kernel_rfl | rfl), (by first | kernel_rfl | rfl), (by show Value.int .i64 ((k : Int) + 1) = _; simp), (by omega), (by first | rfl | simp), (by first | omega | (simp; done) | (simp; omega)), F97⟩
          · simp [slot, intOf]; omega
        · skip
          have c71H := Lib.hid c71
          have c71a : decide ((k : Int) < (b.mvs.length : Int)) = false := dec_f c71
          have hke : k = b.mvs.length := by omega
          subst hke
          rw [takeM_all] at hF68
          obtain ⟨ca98, cc99, e_⟩ := (Own.sl (hF68.at 0 rfl : Own mvEnc 76 4 w.heap.size _ vq ((refB b).mvs)) (fun _ => rfl)).any
          rw [show (refB b).mvs.length = b.mvs.length from refML_len _ _] at e_
          subst e_
          have b100 := hF68.bx2 2 rfl
          have b101 := hF68.bx2 3 rfl
          have b102 := hF68.bx2 4 rfl
          go_wp2_with fail
          clear b100 b101 b102
          have F103 := (hF68.front 3 rfl rfl).pt2 (.slice ca65 b.accs.length cc66) (.slice ca98 b.mvs.length cc99)
          clear hF68
          have kb104 := F103.bx2 0 rfl
          go_wp2_with fail
          exact bodyPost_ret (v := .tuple #[.agg #[.slice ca65 b.accs.length cc66, .slice ca98 b.mvs.length cc99], .int .i64 0]) (by simp [results, Try.results61, go_sem, kb104]) rfl (⟨_, _, _, _, _, rfl, F103.pick [2, 1] (by decide) rfl⟩)
      case atStart2 =>
        rw [HI67.out]
        exact ⟨0, _, (by first | kernel_rfl | rfl), (by first | kernel_rfl | rfl), (by first | kernel_rfl | rfl), (by first | kernel_rfl | rfl), rfl, Nat.zero_le _, rfl, (by first | exact Nat.le_refl _ | omega | (simp; done) | (simp; omega)), hF15⟩
  case atStart1 =>
    rw [HI14.out]
    exact ⟨0, _, (by first | kernel_rfl | rfl), (by first | kernel_rfl | rfl), (by first | kernel_rfl | rfl), (by first | kernel_rfl | rfl), rfl, Nat.zero_le _, rfl, (by first | exact Nat.le_refl _ | omega | (simp; done) | (simp; omega)), F13⟩

set_option maxHeartbeats 8000000 in
theorem rrefine_e1 (l1 h1 l2 h2 : Nat) (va vm : Value) (b : Bok) (w : World) (ha : Accs l1 h1 w va b.accs) (hm : Mvs l2 h2 w vm b.mvs) (b1 : h1 ≤ w.heap.size) (b2 : h2 ≤ w.heap.size) (hn : nameOk b.accs) (hck : checkE b ≠ 0) :
    Calls Try.prog 61 #[.agg #[va, vm]] w (Ret (.tuple #[.agg #[.slice none 0 0, .slice none 0 0], .int .i64 (checkE b)]) w) := by
  have hcka : (checkE b == 0) = false := beq_f hck
  have hckb : (checkE b != 0) = true := bne_t hck
  have HCN := Lib.hid hck
  clear hck
  have F1 : Bun w [] w := Bun.nil _
  have hm_ac := ha.len
  unfold maxLen at hm_ac
  obtain ⟨aa, ak, rfl⟩ := ha.any
  have F2 := F1.sl0 ha b1 rfl
  clear F1
  clear ha
  have hm_mv := hm.len
  unfold maxLen at hm_mv
  obtain ⟨ma, mk, rfl⟩ := hm.any
  have F3 := F2.sl0 hm b2 rfl
  clear F2
  clear hm
  have HN := Lib.hid hn
  clear hn
  go_enter Try.func61, Try.ntmps61
  go_wp2_with fail
  have F4 := F3.new 25 #[.slice aa b.accs.length ak, .slice ma b.mvs.length mk] (n := w.heap.size) (by simp)
  clear F3
  have F5 := F4.new 25 #[.slice none 0 0, .slice none 0 0] (n := (w.heap.size + 1)) (by simp)
  clear F4
  refine (rCheck2 _ _ _ _ _ _ b _ (F5.at 3 rfl : Sl accEnc 6 l1 h1 _ (.slice aa b.accs.length ak) b.accs) (F5.at 2 rfl : Sl mvEnc 4 l2 h2 _ (.slice ma b.mvs.length mk) b.mvs) (by first | omega | (simp; omega)) (by first | omega | (simp; omega)) HN.out).mono ?_
  rintro e w8 ⟨rfl, hg6⟩
  have hg6s := hg6.size
  (try simp at hg6s)
  have F9 := F5.gn hg6
  clear F5
  clear hg6
  have b10 := F9.bx2 0 rfl
  go_wp2_with fail
  clear b10
  have F11 := F9.pt2 (.slice none 0 0) (.slice none 0 0)
  clear F9
  have kb12 := F11.bx2 0 rfl
  go_wp2_with fail
  exact bodyPost_ret (v := .tuple #[.agg #[.slice none 0 0, .slice none 0 0], .int .i64 (checkE b)]) (by simp [results, Try.results61, go_sem, kb12]) rfl (⟨rfl, F11.gb⟩)

set_option maxHeartbeats 8000000 in
theorem fpost_e1 (l1 h1 l2 h2 : Nat) (va vm : Value) (b : Bok) (m : Mv) (w : World) (ha : Accs l1 h1 w va b.accs) (hm : Mvs l2 h2 w vm b.mvs) (b1 : h1 ≤ w.heap.size) (b2 : h2 ≤ w.heap.size) (hn : nameOk b.accs) (hck : checkE b ≠ 0) :
    Calls Try.prog 47 #[.agg #[va, vm], .agg #[.int .i64 m.fr, .int .i64 m.to, .int .i64 m.li.lo, .int .i64 m.li.hi]] w (Ret (.tuple #[.agg #[.slice none 0 0, .slice none 0 0], .int .i64 (checkE b)]) w) := by
  have hcka : (checkE b == 0) = false := beq_f hck
  have hckb : (checkE b != 0) = true := bne_t hck
  have HCN := Lib.hid hck
  clear hck
  have F1 : Bun w [] w := Bun.nil _
  have hm_ac := ha.len
  unfold maxLen at hm_ac
  obtain ⟨aa, ak, rfl⟩ := ha.any
  have F2 := F1.sl0 ha b1 rfl
  clear F1
  clear ha
  have hm_mv := hm.len
  unfold maxLen at hm_mv
  obtain ⟨ma, mk, rfl⟩ := hm.any
  have F3 := F2.sl0 hm b2 rfl
  clear F2
  clear hm
  have HN := Lib.hid hn
  clear hn
  go_enter Try.func47, Try.ntmps47
  go_wp2_with fail
  have F4 := F3.new 25 #[.slice aa b.accs.length ak, .slice ma b.mvs.length mk] (n := w.heap.size) (by simp)
  clear F3
  have F5 := F4.new 76 #[.int .i64 m.fr, .int .i64 m.to, .int .i64 m.li.lo, .int .i64 m.li.hi] (n := (w.heap.size + 1)) (by simp)
  clear F4
  have F6 := F5.new 25 #[.slice none 0 0, .slice none 0 0] (n := (w.heap.size + 2)) (by simp)
  clear F5
  refine (check_c _ _ _ _ _ _ b _ (F6.at 4 rfl : Sl accEnc 6 l1 h1 _ (.slice aa b.accs.length ak) b.accs) (F6.at 3 rfl : Sl mvEnc 4 l2 h2 _ (.slice ma b.mvs.length mk) b.mvs) HN.out (by first | omega | (simp; omega)) (by first | omega | (simp; omega))).mono ?_
  rintro e w9 ⟨rfl, hg7⟩
  have hg7s := hg7.size
  (try simp at hg7s)
  have F10 := F6.gn hg7
  clear F6
  clear hg7
  have b11 := F10.bx2 0 rfl
  go_wp2_with fail
  clear b11
  have F12 := F10.pt2 (.slice none 0 0) (.slice none 0 0)
  clear F10
  have kb13 := F12.bx2 0 rfl
  go_wp2_with fail
  exact bodyPost_ret (v := .tuple #[.agg #[.slice none 0 0, .slice none 0 0], .int .i64 (checkE b)]) (by simp [results, Try.results47, go_sem, kb13]) rfl (⟨rfl, F12.gb⟩)

set_option maxHeartbeats 8000000 in
theorem fpost_e2 (l1 h1 l2 h2 : Nat) (va vm : Value) (b : Bok) (m : Mv) (w : World) (ha : Accs l1 h1 w va b.accs) (hm : Mvs l2 h2 w vm b.mvs) (b1 : h1 ≤ w.heap.size) (b2 : h2 ≤ w.heap.size) (hn : nameOk b.accs) (hc0 : checkE b = 0) (hck : checkE (addM b m) ≠ 0) (hs1 : b.accs.length ≤ 100000000000) (hs2 : b.mvs.length ≤ 10000000000) :
    Calls Try.prog 47 #[.agg #[va, vm], .agg #[.int .i64 m.fr, .int .i64 m.to, .int .i64 m.li.lo, .int .i64 m.li.hi]] w (Ret (.tuple #[.agg #[.slice none 0 0, .slice none 0 0], .int .i64 (checkE (addM b m))]) w) := by
  have hcka : (checkE (addM b m) == 0) = false := beq_f hck
  have hckb : (checkE (addM b m) != 0) = true := bne_t hck
  have HCN := Lib.hid hck
  clear hck
  have HC := Lib.hid hc0
  clear hc0
  have F1 : Bun w [] w := Bun.nil _
  have hm_ac := ha.len
  unfold maxLen at hm_ac
  obtain ⟨aa, ak, rfl⟩ := ha.any
  have F2 := F1.sl0 ha b1 rfl
  clear F1
  clear ha
  have hm_mv := hm.len
  unfold maxLen at hm_mv
  obtain ⟨ma, mk, rfl⟩ := hm.any
  have F3 := F2.sl0 hm b2 rfl
  clear F2
  clear hm
  have HN := Lib.hid hn
  clear hn
  go_enter Try.func47, Try.ntmps47
  go_wp2_with fail
  have F4 := F3.new 25 #[.slice aa b.accs.length ak, .slice ma b.mvs.length mk] (n := w.heap.size) (by simp)
  clear F3
  have F5 := F4.new 76 #[.int .i64 m.fr, .int .i64 m.to, .int .i64 m.li.lo, .int .i64 m.li.hi] (n := (w.heap.size + 1)) (by simp)
  clear F4
  have F6 := F5.new 25 #[.slice none 0 0, .slice none 0 0] (n := (w.heap.size + 2)) (by simp)
  clear F5
  refine ((check_c _ _ _ _ _ _ b _ (F6.at 4 rfl : Sl accEnc 6 l1 h1 _ (.slice aa b.accs.length ak) b.accs) (F6.at 3 rfl : Sl mvEnc 4 l2 h2 _ (.slice ma b.mvs.length mk) b.mvs) HN.out (by first | omega | (simp; omega)) (by first | omega | (simp; omega))).mono (fun _ _ h_ => check_zero h_ HC.out)).mono ?_
  rintro e w9 ⟨rfl, hg7⟩
  have hg7s := hg7.size
  (try simp at hg7s)
  have F10 := F6.gn hg7
  clear F6
  clear hg7
  have b11 := F10.bx2 2 rfl
  go_wp2_with fail
  clear b11
  obtain ⟨w12, hx13, F15, hxs14⟩ := (show Bun w [rbox (w.heap.size + 2) 25 #[.slice none 0 0, .slice none 0 0], rbox (w.heap.size + 1) 76 #[.int .i64 m.fr, .int .i64 m.to, .int .i64 m.li.lo, .int .i64 m.li.hi], rbox w.heap.size 25 #[.slice aa b.accs.length ak, .slice ma b.mvs.length mk], rsl mvEnc 4 l2 h2 (.slice ma b.mvs.length mk) b.mvs, rsl accEnc 6 l1 h1 (.slice aa b.accs.length ak) b.accs] _ from F10).name
  (try simp at hxs14)
  rw [hx13]
  clear hx13 F10
  refine (fown_b _ _ _ _ _ _ b _ (F15.at 4 rfl : Sl accEnc 6 l1 h1 _ (.slice aa b.accs.length ak) b.accs) (F15.at 3 rfl : Sl mvEnc 4 l2 h2 _ (.slice ma b.mvs.length mk) b.mvs) (by first | omega | (simp; omega)) (by first | omega | (simp; omega)) (by omega) (by omega)).mono ?_
  rintro e w16 ⟨pA, kA, pM, kM, rfl, hB17⟩
  have hB17s := hB17.gb.size
  (try simp at hB17s)
  have F18 := F15.joinN (L2 := [rown accEnc 79 6 w12.heap.size (.slice pA b.accs.length kA) b.accs, rown mvEnc 76 4 w12.heap.size (.slice pM b.mvs.length kM) b.mvs]) hB17 rfl
  clear F15
  clear hB17
  (try dsimp only [List.cons_append, List.nil_append] at F18)
  have b19 := F18.bx4 3 rfl
  have F20 := F18.new 25 #[.slice pA b.accs.length kA, .slice pM b.mvs.length kM] (n := w16.heap.size) (by simp)
  clear F18
  go_wp2_with (at_builtin; refine wpList_app _ okMv rfl _ _ rfl w12.heap.size (.slice pM b.mvs.length kM) b.mvs [m] rfl (by exact ((F20.at 2 rfl : Own mvEnc 76 4 w12.heap.size _ (.slice pM b.mvs.length kM) b.mvs)).alloc _) ⟨_, 0, none⟩ 1 1 rfl rfl (by decide) (news_of (Bk.newAt _ _ _ (by simp))) (b.mvs.length + 1) (by simp) (by omega) (by first | omega | (simp; omega)) _ rfl ?_; intro g21 cap22 w23 hp24; refine Hid.out ?_)
  refine Lib.hid ?_
  have hp24s := hp24.gb.size
  (try simp at hp24s)
  clear b19
  have F25 := ((F20.alloc (.cells #[.int .i64 m.fr, .int .i64 m.to, .int .i64 m.li.lo, .int .i64 m.li.hi] 76)).front 2 rfl rfl).app hp24 (by simp)
  clear F20
  have b26 := F25.bx2 1 rfl
  go_wp2_with fail
  clear b26
  have F27 := ((F25.front 1 rfl rfl).set 1 (.slice (some ⟨g21, 0, none⟩) (b.mvs.length + 1) cap22)).nf #[.slice pA b.accs.length kA, .slice (some ⟨g21, 0, none⟩) (b.mvs.length + 1) cap22] rfl
  clear F25
  refine (check_c _ _ _ _ _ _ (addM b m) _ (Own.sl (F27.at 2 rfl : Own accEnc 79 6 w12.heap.size _ (.slice pA b.accs.length kA) b.accs) (fun _ => rfl)) (Own.sl (F27.at 1 rfl : Own mvEnc 76 4 w12.heap.size _ (.slice (some ⟨g21, 0, none⟩) (b.mvs.length + 1) cap22) (b.mvs ++ [m])) (fun _ => rfl)) HN.out (Nat.le_refl _) (Nat.le_refl _)).mono ?_
  rintro e w30 ⟨rfl, hg28⟩
  have hg28s := hg28.size
  (try simp at hg28s)
  have F31 := F27.gn hg28
  clear F27
  clear hg28
  have b32 := F31.bx2 3 rfl
  go_wp2_with fail
  clear b32
  have F33 := (F31.front 3 rfl rfl).pt2 (.slice none 0 0) (.slice none 0 0)
  clear F31
  have kb34 := F33.bx2 0 rfl
  go_wp2_with fail
  exact bodyPost_ret (v := .tuple #[.agg #[.slice none 0 0, .slice none 0 0], .int .i64 (checkE (addM b m))]) (by simp [results, Try.results47, go_sem, kb34]) rfl (⟨rfl, F33.gb⟩)

set_option maxHeartbeats 8000000 in
theorem rpost_e1 (l1 h1 l2 h2 : Nat) (va vm : Value) (b : Bok) (m : Mv) (w : World) (ha : Accs l1 h1 w va b.accs) (hm : Mvs l2 h2 w vm b.mvs) (b1 : h1 ≤ w.heap.size) (b2 : h2 ≤ w.heap.size) (hn : nameOk b.accs) (hck : checkE b ≠ 0) :
    Calls Try.prog 62 #[.agg #[va, vm], .agg #[.int .i64 m.fr, .int .i64 m.to, .int .i64 m.li.lo, .int .i64 m.li.hi]] w (Ret (.tuple #[.agg #[.slice none 0 0, .slice none 0 0], .int .i64 (checkE b)]) w) := by
  have hcka : (checkE b == 0) = false := beq_f hck
  have hckb : (checkE b != 0) = true := bne_t hck
  have HCN := Lib.hid hck
  clear hck
  have F1 : Bun w [] w := Bun.nil _
  have hm_ac := ha.len
  unfold maxLen at hm_ac
  obtain ⟨aa, ak, rfl⟩ := ha.any
  have F2 := F1.sl0 ha b1 rfl
  clear F1
  clear ha
  have hm_mv := hm.len
  unfold maxLen at hm_mv
  obtain ⟨ma, mk, rfl⟩ := hm.any
  have F3 := F2.sl0 hm b2 rfl
  clear F2
  clear hm
  have HN := Lib.hid hn
  clear hn
  go_enter Try.func62, Try.ntmps62
  go_wp2_with fail
  have F4 := F3.new 25 #[.slice aa b.accs.length ak, .slice ma b.mvs.length mk] (n := w.heap.size) (by simp)
  clear F3
  have F5 := F4.new 76 #[.int .i64 m.fr, .int .i64 m.to, .int .i64 m.li.lo, .int .i64 m.li.hi] (n := (w.heap.size + 1)) (by simp)
  clear F4
  have F6 := F5.new 25 #[.slice none 0 0, .slice none 0 0] (n := (w.heap.size + 2)) (by simp)
  clear F5
  refine (rCheck2 _ _ _ _ _ _ b _ (F6.at 4 rfl : Sl accEnc 6 l1 h1 _ (.slice aa b.accs.length ak) b.accs) (F6.at 3 rfl : Sl mvEnc 4 l2 h2 _ (.slice ma b.mvs.length mk) b.mvs) (by first | omega | (simp; omega)) (by first | omega | (simp; omega)) HN.out).mono ?_
  rintro e w9 ⟨rfl, hg7⟩
  have hg7s := hg7.size
  (try simp at hg7s)
  have F10 := F6.gn hg7
  clear F6
  clear hg7
  have b11 := F10.bx2 0 rfl
  go_wp2_with fail
  clear b11
  have F12 := F10.pt2 (.slice none 0 0) (.slice none 0 0)
  clear F10
  have kb13 := F12.bx2 0 rfl
  go_wp2_with fail
  exact bodyPost_ret (v := .tuple #[.agg #[.slice none 0 0, .slice none 0 0], .int .i64 (checkE b)]) (by simp [results, Try.results62, go_sem, kb13]) rfl (⟨rfl, F12.gb⟩)

/-- What Post gives where the book itself is valid. -/
def PostE (b : Bok) (m : Mv) (w : World) : Ending → World → Prop := fun e w' => (checkE (addM b m) = 0 ∧ PostB b m w e w') ∨ (¬ checkE (addM b m) = 0 ∧ e = .returned (.tuple #[.agg #[.slice none 0 0, .slice none 0 0], .int .i64 (checkE (addM b m))]) ∧ w.grownBy w' none)
theorem rng_rpost_c (t : Nat → Value) : ((List.range 34).map t).toArray = List.toArray [t 0, t 1, t 2, t 3, t 4, t 5, t 6, t 7, t 8, t 9, t 10, t 11, t 12, t 13, t 14, t 15, t 16, t 17, t 18, t 19, t 20, t 21, t 22, t 23, t 24, t 25, t 26, t 27, t 28, t 29, t 30, t 31, t 32, t 33] := rfl
set_option maxHeartbeats 8000000 in
theorem rpost_c (l1 h1 l2 h2 : Nat) (va vm : Value) (b : Bok) (m : Mv) (w : World) (ha : Accs l1 h1 w va b.accs) (hm : Mvs l2 h2 w vm b.mvs) (b1 : h1 ≤ w.heap.size) (b2 : h2 ≤ w.heap.size) (hn : nameOk b.accs) (hck : checkE b = 0) (hs1 : b.accs.length ≤ 100000000000) (hs2 : b.mvs.length ≤ 10000000000) :
    Calls Try.prog 62 #[.agg #[va, vm], .agg #[.int .i64 m.fr, .int .i64 m.to, .int .i64 m.li.lo, .int .i64 m.li.hi]] w (PostE b m w) := by
  have F1 : Bun w [] w := Bun.nil _
  have hm_ac := ha.len
  unfold maxLen at hm_ac
  obtain ⟨aa, ak, rfl⟩ := ha.any
  have F2 := F1.sl0 ha b1 rfl
  clear F1
  clear ha
  have hm_mv := hm.len
  unfold maxLen at hm_mv
  obtain ⟨ma, mk, rfl⟩ := hm.any
  have F3 := F2.sl0 hm b2 rfl
  clear F2
  clear hm
  have HN := Lib.hid hn
  have HC := Lib.hid hck
  clear hn hck
  go_enter Try.func62, Try.ntmps62
  go_wp2_with fail
  have F4 := F3.new 25 #[.slice aa b.accs.length ak, .slice ma b.mvs.length mk] (n := w.heap.size) (by simp)
  clear F3
  have F5 := F4.new 76 #[.int .i64 m.fr, .int .i64 m.to, .int .i64 m.li.lo, .int .i64 m.li.hi] (n := (w.heap.size + 1)) (by simp)
  clear F4
  have F6 := F5.new 25 #[.slice none 0 0, .slice none 0 0] (n := (w.heap.size + 2)) (by simp)
  clear F5
  refine ((rCheck2 _ _ _ _ _ _ b _ (F6.at 4 rfl : Sl accEnc 6 l1 h1 _ (.slice aa b.accs.length ak) b.accs) (F6.at 3 rfl : Sl mvEnc 4 l2 h2 _ (.slice ma b.mvs.length mk) b.mvs) (by first | omega | (simp; omega)) (by first | omega | (simp; omega)) HN.out).mono (fun _ _ h_ => check_zero h_ HC.out)).mono ?_
  rintro e w9 ⟨rfl, hg7⟩
  have hg7s := hg7.size
  (try simp at hg7s)
  have F10 := F6.gn hg7
  clear F6
  clear hg7
  go_wp2_with fail
  have F11 := F10.drew
  clear F10
  refine ru_begin (fun W => W.cell? ⟨w.heap.size, 0, none⟩ = some (.slice aa b.accs.length ak) ∧ W.cell? ⟨w.heap.size, 1, none⟩ = some (.slice ma b.mvs.length mk) ∧ W.cell? ⟨(w.heap.size + 1), 0, none⟩ = some (.int .i64 m.fr) ∧ W.cell? ⟨(w.heap.size + 1), 1, none⟩ = some (.int .i64 m.to) ∧ W.cell? ⟨(w.heap.size + 1), 2, none⟩ = some (.int .i64 m.li.lo) ∧ W.cell? ⟨(w.heap.size + 1), 3, none⟩ = some (.int .i64 m.li.hi)) 13 (by kernel_rfl) ?_ ?_
  · exact ⟨F11.cl 2 0 rfl rfl, F11.cl 2 1 rfl rfl, F11.cl 1 0 rfl rfl, F11.cl 1 1 rfl rfl, F11.cl 1 2 rfl rfl, F11.cl 1 3 rfl rfl⟩
  obtain ⟨wd13, hwd_⟩ : ∃ x : World, w9.drew = x := ⟨_, rfl⟩
  rw [hwd_] at F11 ⊢
  have wd13s : w9.heap.size ≤ wd13.heap.size := by rw [← hwd_]; exact Nat.le_refl _
  clear hwd_
  have hS12 := (And.intro (F11.cl 2 0 rfl rfl) (And.intro (F11.cl 2 1 rfl rfl) (And.intro (F11.cl 1 0 rfl rfl) (And.intro (F11.cl 1 1 rfl rfl) (And.intro (F11.cl 1 2 rfl rfl) (F11.cl 1 3 rfl rfl))))))
  refine ru_t 1 [] ?_
  refine ru_t 2 [] ?_
  refine ru_t 5 [] ?_
  refine ru_t 6 [] ?_
  refine ru_t 8 [] ?_
  (try simp only [Act.put, List.setIfInBounds_toArray, List.set_cons_zero, List.set_cons_succ])
  clear hS12
  refine ru_state 34 (fun t w_ => ∃ (yg0 : Nat) (yg3 : Option Addr) (yc3 : Nat) (yg4 : Nat) (yg7 : Option Addr) (yc7 : Nat) (yg9 : Nat) (yg10 : Nat) (yc10 : Nat) (yg12 : Nat), t 4 = .pointer (some ⟨w.heap.size + 2, 0, none⟩) ∧ t 7 = .pointer (some ⟨yg12, 0, none⟩) ∧ w9.heap.size ≤ w_.heap.size ∧ Bun w [rbox yg12 25 #[.slice yg3 b.accs.length yc3, .slice (some ⟨yg10, 0, none⟩) (b.mvs.length + 1) yc10], rown mvEnc 76 4 w.heap.size (.slice (some ⟨yg10, 0, none⟩) (b.mvs.length + 1) yc10) (b.mvs ++ [m]), rbox yg9 76 #[.int .i64 m.fr, .int .i64 m.to, .int .i64 m.li.lo, .int .i64 m.li.hi], rown accEnc 79 6 w.heap.size (.slice yg3 b.accs.length yc3) b.accs, rbox (w.heap.size + 2) 25 #[.slice none 0 0, .slice none 0 0], rbox (w.heap.size + 1) 76 #[.int .i64 m.fr, .int .i64 m.to, .int .i64 m.li.lo, .int .i64 m.li.hi], rbox w.heap.size 25 #[.slice aa b.accs.length ak, .slice ma b.mvs.length mk], rsl mvEnc 4 l2 h2 (.slice ma b.mvs.length mk) b.mvs, rsl accEnc 6 l1 h1 (.slice aa b.accs.length ak) b.accs] w_) #[true, true, true, true, true, true, true, true, true, true, true, true, true, true] 0 ?st14 ?nx14
  case st14 =>
    rintro t w15 ⟨yg0, yg3, yc3, yg4, yg7, yc7, yg9, yg10, yc10, yg12, e4, e7, hsz14, F16⟩
    clear F11
    rw [rng_rpost_c t, e4, e7]
    clear e4 e7
    have hws14 := F16.gb.size
    have yg12l := F16.ltAt 0 rfl yg12 rfl
    have yg12b := yg12l.2 rfl
    have yg10l := (F16.ltAt 1 rfl _ rfl).1
    have yg9l := F16.ltAt 2 rfl yg9 rfl
    have yg9b := yg9l.2 rfl
    refine ru_done (by kernel_rfl) ?_
    obtain ⟨w17, hx18, F20, hxs19⟩ := (show Bun w [rbox yg12 25 #[.slice yg3 b.accs.length yc3, .slice (some ⟨yg10, 0, none⟩) (b.mvs.length + 1) yc10], rown mvEnc 76 4 w.heap.size (.slice (some ⟨yg10, 0, none⟩) (b.mvs.length + 1) yc10) (b.mvs ++ [m]), rown accEnc 79 6 w.heap.size (.slice yg3 b.accs.length yc3) b.accs, rbox (w.heap.size + 2) 25 #[.slice none 0 0, .slice none 0 0], rsl mvEnc 4 l2 h2 (.slice ma b.mvs.length mk) b.mvs, rsl accEnc 6 l1 h1 (.slice aa b.accs.length ak) b.accs] _ from (((F16.drop 2 rfl).drop 4 rfl).drop 4 rfl)).name
    (try simp at hxs19)
    rw [hx18]
    clear hx18 F16
    have b21 := F20.bx2 0 rfl
    go_wp2_with fail
    clear b21
    refine (rCheck2 _ _ _ _ _ _ (addM b m) _ (Own.sl (F20.at 2 rfl : Own accEnc 79 6 w.heap.size _ (.slice yg3 b.accs.length yc3) b.accs) (fun _ => rfl)) (Own.sl (F20.at 1 rfl : Own mvEnc 76 4 w.heap.size _ (.slice (some ⟨yg10, 0, none⟩) (b.mvs.length + 1) yc10) (b.mvs ++ [m])) (fun _ => rfl)) (Nat.le_refl _) (Nat.le_refl _) HN.out).mono ?_
    rintro e w24 ⟨rfl, hg22⟩
    have hg22s := hg22.size
    (try simp at hg22s)
    have F25 := F20.gn hg22
    clear F20
    clear hg22
    by_cases c26 : checkE (addM b m) = 0
    · skip
      have c26a : ((checkE (addM b m)) == 0) = true := beq_t c26
      have c26b : ((checkE (addM b m)) != 0) = false := bne_f c26
      have c26H := Lib.hid c26
      clear c26
      have b27 := F25.bx2 0 rfl
      have b28 := F25.bx2 3 rfl
      go_wp2_with fail
      clear b27 b28
      have F29 := (F25.front 3 rfl rfl).pt2 (.slice yg3 b.accs.length yc3) (.slice (some ⟨yg10, 0, none⟩) (b.mvs.length + 1) yc10)
      clear F25
      have kb30 := F29.bx2 0 rfl
      go_wp2_with fail
      exact bodyPost_ret (v := .tuple #[.agg #[.slice yg3 b.accs.length yc3, .slice (some ⟨yg10, 0, none⟩) (b.mvs.length + 1) yc10], .int .i64 0]) (by simp [results, Try.results62, go_sem, kb30]) rfl (.inl ⟨c26H.out, _, _, _, _, w.heap.size, _, rfl, ⟨Nat.le_refl _, Nat.le_refl _⟩, ⟨Sl.wide (Own.sl (F29.at 3 rfl : Own accEnc 79 6 w.heap.size _ (.slice yg3 b.accs.length yc3) b.accs) (fun _ => rfl)) (by first | omega | (simp; omega)) (Nat.le_refl _), Sl.wide (Own.sl (F29.at 2 rfl : Own mvEnc 76 4 w.heap.size _ (.slice (some ⟨yg10, 0, none⟩) (b.mvs.length + 1) yc10) (b.mvs ++ [m])) (fun _ => rfl)) (by first | omega | (simp; omega)) (Nat.le_refl _)⟩, F29.gb⟩)
    · skip
      have c26a : ((checkE (addM b m)) == 0) = false := beq_f c26
      have c26b : ((checkE (addM b m)) != 0) = true := bne_t c26
      have c26H := Lib.hid c26
      clear c26
      have b31 := F25.bx2 3 rfl
      go_wp2_with fail
      clear b31
      have F32 := (F25.front 3 rfl rfl).pt2 (.slice none 0 0) (.slice none 0 0)
      clear F25
      have kb33 := F32.bx2 0 rfl
      go_wp2_with fail
      exact bodyPost_ret (v := .tuple #[.agg #[.slice none 0 0, .slice none 0 0], .int .i64 (checkE (addM b m))]) (by simp [results, Try.results62, go_sem, kb33]) rfl (.inr ⟨c26H.out, rfl, F32.gb⟩)
  intro hZ14
  refine ru_state 34 (fun t w_ => ∃ (yg0 : Nat) (yg3 : Option Addr) (yc3 : Nat) (yg4 : Nat) (yg7 : Option Addr) (yc7 : Nat) (yg9 : Nat) (yg10 : Nat) (yc10 : Nat) (yg12 : Nat), t 4 = .pointer (some ⟨w.heap.size + 2, 0, none⟩) ∧ t 7 = .pointer (some ⟨yg12, 0, none⟩) ∧ t 26 = .agg #[.slice yg3 b.accs.length yc3, .slice (some ⟨yg10, 0, none⟩) (b.mvs.length + 1) yc10] ∧ w9.heap.size ≤ w_.heap.size ∧ Bun w [rbox yg12 25 #[.slice none 0 0, .slice none 0 0], rown mvEnc 76 4 w.heap.size (.slice (some ⟨yg10, 0, none⟩) (b.mvs.length + 1) yc10) (b.mvs ++ [m]), rbox yg9 76 #[.int .i64 m.fr, .int .i64 m.to, .int .i64 m.li.lo, .int .i64 m.li.hi], rown accEnc 79 6 w.heap.size (.slice yg3 b.accs.length yc3) b.accs, rbox (w.heap.size + 2) 25 #[.slice none 0 0, .slice none 0 0], rbox (w.heap.size + 1) 76 #[.int .i64 m.fr, .int .i64 m.to, .int .i64 m.li.lo, .int .i64 m.li.hi], rbox w.heap.size 25 #[.slice aa b.accs.length ak, .slice ma b.mvs.length mk], rsl mvEnc 4 l2 h2 (.slice ma b.mvs.length mk) b.mvs, rsl accEnc 6 l1 h1 (.slice aa b.accs.length ak) b.accs] w_) #[true, true, true, true, true, true, true, true, true, true, true, true, true, false] 1 ?st34 ?nx34
  case st34 =>
    rintro t w35 ⟨yg0, yg3, yc3, yg4, yg7, yc7, yg9, yg10, yc10, yg12, e4, e7, e26, hsz34, F36⟩
    clear F11
    rw [rng_rpost_c t, e4, e7, e26]
    clear e4 e7 e26
    have hws34 := F36.gb.size
    have yg12l := F36.ltAt 0 rfl yg12 rfl
    have yg12b := yg12l.2 rfl
    have yg10l := (F36.ltAt 1 rfl _ rfl).1
    have yg9l := F36.ltAt 2 rfl yg9 rfl
    have yg9b := yg9l.2 rfl
    refine ru_one 13 rfl (by kernel_rfl) (fun K hK => ?_)
    have kb_ := F36.bx2 0 rfl
    go_simp
    clear kb_
    have F37 := F36.pt2 (.slice yg3 b.accs.length yc3) (.slice (some ⟨yg10, 0, none⟩) (b.mvs.length + 1) yc10)
    clear F36
    refine ru_back_late hK (by kernel_rfl) ?_
    exact hZ14.out _ _ _ (by kernel_rfl) rfl rfl ⟨yg0, yg3, yc3, yg4, yg7, yc7, yg9, yg10, yc10, yg12, rfl, rfl, (by first | omega | (simp; done) | (simp; omega)), F37⟩
  intro hZ34
  refine ru_state 34 (fun t w_ => ∃ (yg0 : Nat) (yg3 : Option Addr) (yc3 : Nat) (yg4 : Nat) (yg7 : Option Addr) (yc7 : Nat) (yg9 : Nat) (yg10 : Nat) (yc10 : Nat), t 4 = .pointer (some ⟨w.heap.size + 2, 0, none⟩) ∧ t 26 = .agg #[.slice yg3 b.accs.length yc3, .slice (some ⟨yg10, 0, none⟩) (b.mvs.length + 1) yc10] ∧ w9.heap.size ≤ w_.heap.size ∧ Bun w [rown mvEnc 76 4 w.heap.size (.slice (some ⟨yg10, 0, none⟩) (b.mvs.length + 1) yc10) (b.mvs ++ [m]), rbox yg9 76 #[.int .i64 m.fr, .int .i64 m.to, .int .i64 m.li.lo, .int .i64 m.li.hi], rown accEnc 79 6 w.heap.size (.slice yg3 b.accs.length yc3) b.accs, rbox (w.heap.size + 2) 25 #[.slice none 0 0, .slice none 0 0], rbox (w.heap.size + 1) 76 #[.int .i64 m.fr, .int .i64 m.to, .int .i64 m.li.lo, .int .i64 m.li.hi], rbox w.heap.size 25 #[.slice aa b.accs.length ak, .slice ma b.mvs.length mk], rsl mvEnc 4 l2 h2 (.slice ma b.mvs.length mk) b.mvs, rsl accEnc 6 l1 h1 (.slice aa b.accs.length ak) b.accs] w_) #[true, true, true, true, true, true, true, true, true, true, true, true, false, false] 2 ?st38 ?nx38
  case st38 =>
    rintro t w39 ⟨yg0, yg3, yc3, yg4, yg7, yc7, yg9, yg10, yc10, e4, e26, hsz38, F40⟩
    clear F11
    rw [rng_rpost_c t, e4, e26]
    clear e4 e26
    have hws38 := F40.gb.size
    have yg10l := (F40.ltAt 0 rfl _ rfl).1
    have yg9l := F40.ltAt 1 rfl yg9 rfl
    have yg9b := yg9l.2 rfl
    refine ru_one 12 rfl (by kernel_rfl) (fun K hK => ?_)
    go_simp
    have F41 := F40.new 25 #[.slice none 0 0, .slice none 0 0] (n := w39.heap.size) (by simp)
    clear F40
    refine ru_back hK (by exact ⟨F41.cl 6 0 rfl rfl, F41.cl 6 1 rfl rfl, F41.cl 5 0 rfl rfl, F41.cl 5 1 rfl rfl, F41.cl 5 2 rfl rfl, F41.cl 5 3 rfl rfl⟩) (fun _ => ?_)
    exact hZ34.out _ _ _ (by kernel_rfl) rfl rfl ⟨yg0, yg3, yc3, yg4, yg7, yc7, yg9, yg10, yc10, w39.heap.size, rfl, rfl, rfl, (by first | omega | (simp; done) | (simp; omega)), F41⟩
  intro hZ38
  refine ru_state 34 (fun t w_ => ∃ (yg0 : Nat) (yg3 : Option Addr) (yc3 : Nat) (yg4 : Nat) (yg7 : Option Addr) (yc7 : Nat) (yg9 : Nat) (yg12 : Nat), t 4 = .pointer (some ⟨w.heap.size + 2, 0, none⟩) ∧ t 7 = .pointer (some ⟨yg12, 0, none⟩) ∧ t 18 = .slice yg3 b.accs.length yc3 ∧ t 22 = .slice yg7 b.mvs.length yc7 ∧ t 24 = .slice (some ⟨yg9, 0, none⟩) 1 1 ∧ w9.heap.size ≤ w_.heap.size ∧ Bun w [rbox yg12 25 #[.slice none 0 0, .slice none 0 0], rbox yg9 76 #[.int .i64 m.fr, .int .i64 m.to, .int .i64 m.li.lo, .int .i64 m.li.hi], rown mvEnc 76 4 w.heap.size (.slice yg7 b.mvs.length yc7) b.mvs, rown accEnc 79 6 w.heap.size (.slice yg3 b.accs.length yc3) b.accs, rbox (w.heap.size + 2) 25 #[.slice none 0 0, .slice none 0 0], rbox (w.heap.size + 1) 76 #[.int .i64 m.fr, .int .i64 m.to, .int .i64 m.li.lo, .int .i64 m.li.hi], rbox w.heap.size 25 #[.slice aa b.accs.length ak, .slice ma b.mvs.length mk], rsl mvEnc 4 l2 h2 (.slice ma b.mvs.length mk) b.mvs, rsl accEnc 6 l1 h1 (.slice aa b.accs.length ak) b.accs] w_) #[true, true, true, true, true, true, true, true, true, true, false, false, true, false] 3 ?st42 ?nx42
  case st42 =>
    rintro t w43 ⟨yg0, yg3, yc3, yg4, yg7, yc7, yg9, yg12, e4, e7, e18, e22, e24, hsz42, F44⟩
    clear F11
    rw [rng_rpost_c t, e4, e7, e18, e22, e24]
    clear e4 e7 e18 e22 e24
    have hws42 := F44.gb.size
    have yg12l := F44.ltAt 0 rfl yg12 rfl
    have yg12b := yg12l.2 rfl
    have yg9l := F44.ltAt 1 rfl yg9 rfl
    have yg9b := yg9l.2 rfl
    refine ru_one 10 rfl (by kernel_rfl) (fun K hK => ?_)
    refine step_app _ okMv rfl _ _ rfl w.heap.size (.slice yg7 b.mvs.length yc7) b.mvs [m] rfl (by exact (F44.at 2 rfl : Own mvEnc 76 4 w.heap.size _ (.slice yg7 b.mvs.length yc7) b.mvs)) ⟨_, 0, none⟩ 1 1 rfl rfl (by decide) (news_of (F44.at 1 rfl : Bk _ yg9 76 #[.int .i64 m.fr, .int .i64 m.to, .int .i64 m.li.lo, .int .i64 m.li.hi])) (b.mvs.length + 1) (by simp) (by omega) (by first | omega | (simp; omega)) _ rfl ?_
    intro g45 cap46 w47 hp48
    have hp48s := hp48.gb.size
    (try simp at hp48s)
    have F49 := (F44.front 2 rfl rfl).app hp48 (Nat.le_refl _)
    clear F44
    refine ru_back hK (by exact ⟨F49.cl 6 0 rfl rfl, F49.cl 6 1 rfl rfl, F49.cl 5 0 rfl rfl, F49.cl 5 1 rfl rfl, F49.cl 5 2 rfl rfl, F49.cl 5 3 rfl rfl⟩) (fun hHeld => ?_)
    clear hK K
    (try simp only [Act.put, List.setIfInBounds_toArray, List.set_cons_zero, List.set_cons_succ])
    refine ru_p 11 ?_
    (try simp only [Act.put, List.setIfInBounds_toArray, List.set_cons_zero, List.set_cons_succ])
    exact hZ34.out _ _ _ (by kernel_rfl) rfl rfl ⟨yg0, yg3, yc3, yg4, yg7, yc7, yg9, g45, cap46, yg12, rfl, rfl, rfl, (by first | omega | (simp; done) | (simp; omega)), (F49.pick [1, 0, 2, 3, 4, 5, 6, 7, 8] (by decide) rfl)⟩
  intro hZ42
  refine ru_state 34 (fun t w_ => ∃ (yg0 : Nat) (yg3 : Option Addr) (yc3 : Nat) (yg4 : Nat) (yg7 : Option Addr) (yc7 : Nat) (yg9 : Nat), t 4 = .pointer (some ⟨w.heap.size + 2, 0, none⟩) ∧ t 18 = .slice yg3 b.accs.length yc3 ∧ t 22 = .slice yg7 b.mvs.length yc7 ∧ t 24 = .slice (some ⟨yg9, 0, none⟩) 1 1 ∧ w9.heap.size ≤ w_.heap.size ∧ Bun w [rbox yg9 76 #[.int .i64 m.fr, .int .i64 m.to, .int .i64 m.li.lo, .int .i64 m.li.hi], rown mvEnc 76 4 w.heap.size (.slice yg7 b.mvs.length yc7) b.mvs, rown accEnc 79 6 w.heap.size (.slice yg3 b.accs.length yc3) b.accs, rbox (w.heap.size + 2) 25 #[.slice none 0 0, .slice none 0 0], rbox (w.heap.size + 1) 76 #[.int .i64 m.fr, .int .i64 m.to, .int .i64 m.li.lo, .int .i64 m.li.hi], rbox w.heap.size 25 #[.slice aa b.accs.length ak, .slice ma b.mvs.length mk], rsl mvEnc 4 l2 h2 (.slice ma b.mvs.length mk) b.mvs, rsl accEnc 6 l1 h1 (.slice aa b.accs.length ak) b.accs] w_) #[true, true, true, true, true, true, true, true, true, true, false, false, false, false] 4 ?st50 ?nx50
  case st50 =>
    rintro t w51 ⟨yg0, yg3, yc3, yg4, yg7, yc7, yg9, e4, e18, e22, e24, hsz50, F52⟩
    clear F11
    rw [rng_rpost_c t, e4, e18, e22, e24]
    clear e4 e18 e22 e24
    have hws50 := F52.gb.size
    have yg9l := F52.ltAt 0 rfl yg9 rfl
    have yg9b := yg9l.2 rfl
    refine ru_two 10 12 rfl rfl (by kernel_rfl) ?_ ?_
    · intro K hK
      refine step_app _ okMv rfl _ _ rfl w.heap.size (.slice yg7 b.mvs.length yc7) b.mvs [m] rfl (by exact (F52.at 1 rfl : Own mvEnc 76 4 w.heap.size _ (.slice yg7 b.mvs.length yc7) b.mvs)) ⟨_, 0, none⟩ 1 1 rfl rfl (by decide) (news_of (F52.at 0 rfl : Bk _ yg9 76 #[.int .i64 m.fr, .int .i64 m.to, .int .i64 m.li.lo, .int .i64 m.li.hi])) (b.mvs.length + 1) (by simp) (by omega) (by first | omega | (simp; omega)) _ rfl ?_
      intro g53 cap54 w55 hp56
      have hp56s := hp56.gb.size
      (try simp at hp56s)
      have F57 := (F52.front 1 rfl rfl).app hp56 (Nat.le_refl _)
      clear F52
      refine ru_back hK (by exact ⟨F57.cl 5 0 rfl rfl, F57.cl 5 1 rfl rfl, F57.cl 4 0 rfl rfl, F57.cl 4 1 rfl rfl, F57.cl 4 2 rfl rfl, F57.cl 4 3 rfl rfl⟩) (fun hHeld => ?_)
      clear hK K
      (try simp only [Act.put, List.setIfInBounds_toArray, List.set_cons_zero, List.set_cons_succ])
      refine ru_p 11 ?_
      (try simp only [Act.put, List.setIfInBounds_toArray, List.set_cons_zero, List.set_cons_succ])
      exact hZ38.out _ _ _ (by kernel_rfl) rfl rfl ⟨yg0, yg3, yc3, yg4, yg7, yc7, yg9, g53, cap54, rfl, rfl, (by first | omega | (simp; done) | (simp; omega)), F57⟩
    · intro K hK
      go_simp
      have F58 := F52.new 25 #[.slice none 0 0, .slice none 0 0] (n := w51.heap.size) (by simp)
      clear F52
      refine ru_back hK (by exact ⟨F58.cl 6 0 rfl rfl, F58.cl 6 1 rfl rfl, F58.cl 5 0 rfl rfl, F58.cl 5 1 rfl rfl, F58.cl 5 2 rfl rfl, F58.cl 5 3 rfl rfl⟩) (fun _ => ?_)
      exact hZ42.out _ _ _ (by kernel_rfl) rfl rfl ⟨yg0, yg3, yc3, yg4, yg7, yc7, yg9, w51.heap.size, rfl, rfl, rfl, rfl, rfl, (by first | omega | (simp; done) | (simp; omega)), F58⟩
  intro hZ50
  refine ru_state 34 (fun t w_ => ∃ (yg0 : Nat) (yg3 : Option Addr) (yc3 : Nat) (yg4 : Nat) (yg7 : Option Addr) (yc7 : Nat) (yg12 : Nat), t 4 = .pointer (some ⟨w.heap.size + 2, 0, none⟩) ∧ t 7 = .pointer (some ⟨yg12, 0, none⟩) ∧ t 18 = .slice yg3 b.accs.length yc3 ∧ t 22 = .slice yg7 b.mvs.length yc7 ∧ t 23 = .agg #[.int .i64 m.fr, .int .i64 m.to, .int .i64 m.li.lo, .int .i64 m.li.hi] ∧ w9.heap.size ≤ w_.heap.size ∧ Bun w [rbox yg12 25 #[.slice none 0 0, .slice none 0 0], rown mvEnc 76 4 w.heap.size (.slice yg7 b.mvs.length yc7) b.mvs, rown accEnc 79 6 w.heap.size (.slice yg3 b.accs.length yc3) b.accs, rbox (w.heap.size + 2) 25 #[.slice none 0 0, .slice none 0 0], rbox (w.heap.size + 1) 76 #[.int .i64 m.fr, .int .i64 m.to, .int .i64 m.li.lo, .int .i64 m.li.hi], rbox w.heap.size 25 #[.slice aa b.accs.length ak, .slice ma b.mvs.length mk], rsl mvEnc 4 l2 h2 (.slice ma b.mvs.length mk) b.mvs, rsl accEnc 6 l1 h1 (.slice aa b.accs.length ak) b.accs] w_) #[true, true, true, true, true, true, true, true, true, false, false, false, true, false] 4 ?st59 ?nx59
  case st59 =>
    rintro t w60 ⟨yg0, yg3, yc3, yg4, yg7, yc7, yg12, e4, e7, e18, e22, e23, hsz59, F61⟩
    clear F11
    rw [rng_rpost_c t, e4, e7, e18, e22, e23]
    clear e4 e7 e18 e22 e23
    have hws59 := F61.gb.size
    have yg12l := F61.ltAt 0 rfl yg12 rfl
    have yg12b := yg12l.2 rfl
    refine ru_one 9 rfl (by kernel_rfl) (fun K hK => ?_)
    go_simp
    have F62 := F61.new 76 #[.int .i64 m.fr, .int .i64 m.to, .int .i64 m.li.lo, .int .i64 m.li.hi] (n := w60.heap.size) (by simp)
    clear F61
    refine ru_back hK (by exact ⟨F62.cl 6 0 rfl rfl, F62.cl 6 1 rfl rfl, F62.cl 5 0 rfl rfl, F62.cl 5 1 rfl rfl, F62.cl 5 2 rfl rfl, F62.cl 5 3 rfl rfl⟩) (fun _ => ?_)
    exact hZ42.out _ _ _ (by kernel_rfl) rfl rfl ⟨yg0, yg3, yc3, yg4, yg7, yc7, w60.heap.size, yg12, rfl, rfl, rfl, rfl, rfl, (by first | omega | (simp; done) | (simp; omega)), (F62.pick [1, 0, 2, 3, 4, 5, 6, 7, 8] (by decide) rfl)⟩
  intro hZ59
  refine ru_state 34 (fun t w_ => ∃ (yg0 : Nat) (yg3 : Option Addr) (yc3 : Nat) (yg4 : Nat) (yg9 : Nat) (yg12 : Nat), t 4 = .pointer (some ⟨w.heap.size + 2, 0, none⟩) ∧ t 7 = .pointer (some ⟨yg12, 0, none⟩) ∧ t 18 = .slice yg3 b.accs.length yc3 ∧ t 19 = .slice (some ⟨yg4, 0, none⟩) 0 0 ∧ t 21 = .slice ma b.mvs.length mk ∧ t 24 = .slice (some ⟨yg9, 0, none⟩) 1 1 ∧ w9.heap.size ≤ w_.heap.size ∧ Bun w [rbox yg12 25 #[.slice none 0 0, .slice none 0 0], rbox yg9 76 #[.int .i64 m.fr, .int .i64 m.to, .int .i64 m.li.lo, .int .i64 m.li.hi], rbox yg4 76 #[], rown accEnc 79 6 w.heap.size (.slice yg3 b.accs.length yc3) b.accs, rbox (w.heap.size + 2) 25 #[.slice none 0 0, .slice none 0 0], rbox (w.heap.size + 1) 76 #[.int .i64 m.fr, .int .i64 m.to, .int .i64 m.li.lo, .int .i64 m.li.hi], rbox w.heap.size 25 #[.slice aa b.accs.length ak, .slice ma b.mvs.length mk], rsl mvEnc 4 l2 h2 (.slice ma b.mvs.length mk) b.mvs, rsl accEnc 6 l1 h1 (.slice aa b.accs.length ak) b.accs] w_) #[true, true, true, true, true, true, true, false, true, true, false, false, true, false] 4 ?st63 ?nx63
  case st63 =>
    rintro t w64 ⟨yg0, yg3, yc3, yg4, yg9, yg12, e4, e7, e18, e19, e21, e24, hsz63, F65⟩
    clear F11
    rw [rng_rpost_c t, e4, e7, e18, e19, e21, e24]
    clear e4 e7 e18 e19 e21 e24
    have hws63 := F65.gb.size
    have yg12l := F65.ltAt 0 rfl yg12 rfl
    have yg12b := yg12l.2 rfl
    have yg9l := F65.ltAt 1 rfl yg9 rfl
    have yg9b := yg9l.2 rfl
    have yg4l := F65.ltAt 2 rfl yg4 rfl
    have yg4b := yg4l.2 rfl
    refine ru_one 7 rfl (by kernel_rfl) (fun K hK => ?_)
    refine step_copyB okMv rfl _ _ rfl w.heap.size yg4 rfl ((F65.front 2 rfl rfl)) (by first | omega | (simp; omega)) l2 h2 (.slice ma b.mvs.length mk) b.mvs rfl ((F65.front 2 rfl rfl).at 7 rfl) (by omega) ?_
    intro vc66 w67 hB68 hs69
    (try simp at hs69)
    have F70 := hB68
    clear F65
    obtain ⟨ca71, cap72, e_⟩ := (Own.sl (F70.at 0 rfl : Own mvEnc 76 4 w.heap.size _ vc66 b.mvs) (fun _ => rfl)).any
    subst e_
    refine ru_back hK (by exact ⟨F70.cl 6 0 rfl rfl, F70.cl 6 1 rfl rfl, F70.cl 5 0 rfl rfl, F70.cl 5 1 rfl rfl, F70.cl 5 2 rfl rfl, F70.cl 5 3 rfl rfl⟩) (fun _ => ?_)
    exact hZ42.out _ _ _ (by kernel_rfl) rfl rfl ⟨yg0, yg3, yc3, yg4, ca71, cap72, yg9, yg12, rfl, rfl, rfl, rfl, rfl, (by first | omega | (simp; done) | (simp; omega)), (F70.pick [1, 2, 0, 3, 4, 5, 6, 7, 8] (by decide) rfl)⟩
  intro hZ63
  refine ru_state 34 (fun t w_ => ∃ (yg0 : Nat) (yg3 : Option Addr) (yc3 : Nat) (yg4 : Nat) (yg7 : Option Addr) (yc7 : Nat), t 4 = .pointer (some ⟨w.heap.size + 2, 0, none⟩) ∧ t 18 = .slice yg3 b.accs.length yc3 ∧ t 22 = .slice yg7 b.mvs.length yc7 ∧ t 23 = .agg #[.int .i64 m.fr, .int .i64 m.to, .int .i64 m.li.lo, .int .i64 m.li.hi] ∧ w9.heap.size ≤ w_.heap.size ∧ Bun w [rown mvEnc 76 4 w.heap.size (.slice yg7 b.mvs.length yc7) b.mvs, rown accEnc 79 6 w.heap.size (.slice yg3 b.accs.length yc3) b.accs, rbox (w.heap.size + 2) 25 #[.slice none 0 0, .slice none 0 0], rbox (w.heap.size + 1) 76 #[.int .i64 m.fr, .int .i64 m.to, .int .i64 m.li.lo, .int .i64 m.li.hi], rbox w.heap.size 25 #[.slice aa b.accs.length ak, .slice ma b.mvs.length mk], rsl mvEnc 4 l2 h2 (.slice ma b.mvs.length mk) b.mvs, rsl accEnc 6 l1 h1 (.slice aa b.accs.length ak) b.accs] w_) #[true, true, true, true, true, true, true, true, true, false, false, false, false, false] 5 ?st73 ?nx73
  case st73 =>
    rintro t w74 ⟨yg0, yg3, yc3, yg4, yg7, yc7, e4, e18, e22, e23, hsz73, F75⟩
    clear F11
    rw [rng_rpost_c t, e4, e18, e22, e23]
    clear e4 e18 e22 e23
    have hws73 := F75.gb.size
    refine ru_two 9 12 rfl rfl (by kernel_rfl) ?_ ?_
    · intro K hK
      go_simp
      have F76 := F75.new 76 #[.int .i64 m.fr, .int .i64 m.to, .int .i64 m.li.lo, .int .i64 m.li.hi] (n := w74.heap.size) (by simp)
      clear F75
      refine ru_back hK (by exact ⟨F76.cl 5 0 rfl rfl, F76.cl 5 1 rfl rfl, F76.cl 4 0 rfl rfl, F76.cl 4 1 rfl rfl, F76.cl 4 2 rfl rfl, F76.cl 4 3 rfl rfl⟩) (fun _ => ?_)
      exact hZ50.out _ _ _ (by kernel_rfl) rfl rfl ⟨yg0, yg3, yc3, yg4, yg7, yc7, w74.heap.size, rfl, rfl, rfl, rfl, (by first | omega | (simp; done) | (simp; omega)), F76⟩
    · intro K hK
      go_simp
      have F77 := F75.new 25 #[.slice none 0 0, .slice none 0 0] (n := w74.heap.size) (by simp)
      clear F75
      refine ru_back hK (by exact ⟨F77.cl 5 0 rfl rfl, F77.cl 5 1 rfl rfl, F77.cl 4 0 rfl rfl, F77.cl 4 1 rfl rfl, F77.cl 4 2 rfl rfl, F77.cl 4 3 rfl rfl⟩) (fun _ => ?_)
      exact hZ59.out _ _ _ (by kernel_rfl) rfl rfl ⟨yg0, yg3, yc3, yg4, yg7, yc7, w74.heap.size, rfl, rfl, rfl, rfl, rfl, (by first | omega | (simp; done) | (simp; omega)), F77⟩
  intro hZ73
  refine ru_state 34 (fun t w_ => ∃ (yg0 : Nat) (yg3 : Option Addr) (yc3 : Nat) (yg4 : Nat) (yg9 : Nat), t 4 = .pointer (some ⟨w.heap.size + 2, 0, none⟩) ∧ t 18 = .slice yg3 b.accs.length yc3 ∧ t 19 = .slice (some ⟨yg4, 0, none⟩) 0 0 ∧ t 21 = .slice ma b.mvs.length mk ∧ t 24 = .slice (some ⟨yg9, 0, none⟩) 1 1 ∧ w9.heap.size ≤ w_.heap.size ∧ Bun w [rbox yg9 76 #[.int .i64 m.fr, .int .i64 m.to, .int .i64 m.li.lo, .int .i64 m.li.hi], rbox yg4 76 #[], rown accEnc 79 6 w.heap.size (.slice yg3 b.accs.length yc3) b.accs, rbox (w.heap.size + 2) 25 #[.slice none 0 0, .slice none 0 0], rbox (w.heap.size + 1) 76 #[.int .i64 m.fr, .int .i64 m.to, .int .i64 m.li.lo, .int .i64 m.li.hi], rbox w.heap.size 25 #[.slice aa b.accs.length ak, .slice ma b.mvs.length mk], rsl mvEnc 4 l2 h2 (.slice ma b.mvs.length mk) b.mvs, rsl accEnc 6 l1 h1 (.slice aa b.accs.length ak) b.accs] w_) #[true, true, true, true, true, true, true, false, true, true, false, false, false, false] 5 ?st78 ?nx78
  case st78 =>
    rintro t w79 ⟨yg0, yg3, yc3, yg4, yg9, e4, e18, e19, e21, e24, hsz78, F80⟩
    clear F11
    rw [rng_rpost_c t, e4, e18, e19, e21, e24]
    clear e4 e18 e19 e21 e24
    have hws78 := F80.gb.size
    have yg9l := F80.ltAt 0 rfl yg9 rfl
    have yg9b := yg9l.2 rfl
    have yg4l := F80.ltAt 1 rfl yg4 rfl
    have yg4b := yg4l.2 rfl
    refine ru_two 7 12 rfl rfl (by kernel_rfl) ?_ ?_
    · intro K hK
      refine step_copyB okMv rfl _ _ rfl w.heap.size yg4 rfl ((F80.front 1 rfl rfl)) (by first | omega | (simp; omega)) l2 h2 (.slice ma b.mvs.length mk) b.mvs rfl ((F80.front 1 rfl rfl).at 6 rfl) (by omega) ?_
      intro vc81 w82 hB83 hs84
      (try simp at hs84)
      have F85 := hB83
      clear F80
      obtain ⟨ca86, cap87, e_⟩ := (Own.sl (F85.at 0 rfl : Own mvEnc 76 4 w.heap.size _ vc81 b.mvs) (fun _ => rfl)).any
      subst e_
      refine ru_back hK (by exact ⟨F85.cl 5 0 rfl rfl, F85.cl 5 1 rfl rfl, F85.cl 4 0 rfl rfl, F85.cl 4 1 rfl rfl, F85.cl 4 2 rfl rfl, F85.cl 4 3 rfl rfl⟩) (fun _ => ?_)
      exact hZ50.out _ _ _ (by kernel_rfl) rfl rfl ⟨yg0, yg3, yc3, yg4, ca86, cap87, yg9, rfl, rfl, rfl, rfl, (by first | omega | (simp; done) | (simp; omega)), (F85.pick [1, 0, 2, 3, 4, 5, 6, 7] (by decide) rfl)⟩
    · intro K hK
      go_simp
      have F88 := F80.new 25 #[.slice none 0 0, .slice none 0 0] (n := w79.heap.size) (by simp)
      clear F80
      refine ru_back hK (by exact ⟨F88.cl 6 0 rfl rfl, F88.cl 6 1 rfl rfl, F88.cl 5 0 rfl rfl, F88.cl 5 1 rfl rfl, F88.cl 5 2 rfl rfl, F88.cl 5 3 rfl rfl⟩) (fun _ => ?_)
      exact hZ63.out _ _ _ (by kernel_rfl) rfl rfl ⟨yg0, yg3, yc3, yg4, yg9, w79.heap.size, rfl, rfl, rfl, rfl, rfl, rfl, (by first | omega | (simp; done) | (simp; omega)), F88⟩
  intro hZ78
  refine ru_state 34 (fun t w_ => ∃ (yg0 : Nat) (yg3 : Option Addr) (yc3 : Nat) (yg4 : Nat) (yg12 : Nat), t 4 = .pointer (some ⟨w.heap.size + 2, 0, none⟩) ∧ t 7 = .pointer (some ⟨yg12, 0, none⟩) ∧ t 18 = .slice yg3 b.accs.length yc3 ∧ t 19 = .slice (some ⟨yg4, 0, none⟩) 0 0 ∧ t 21 = .slice ma b.mvs.length mk ∧ t 23 = .agg #[.int .i64 m.fr, .int .i64 m.to, .int .i64 m.li.lo, .int .i64 m.li.hi] ∧ w9.heap.size ≤ w_.heap.size ∧ Bun w [rbox yg12 25 #[.slice none 0 0, .slice none 0 0], rbox yg4 76 #[], rown accEnc 79 6 w.heap.size (.slice yg3 b.accs.length yc3) b.accs, rbox (w.heap.size + 2) 25 #[.slice none 0 0, .slice none 0 0], rbox (w.heap.size + 1) 76 #[.int .i64 m.fr, .int .i64 m.to, .int .i64 m.li.lo, .int .i64 m.li.hi], rbox w.heap.size 25 #[.slice aa b.accs.length ak, .slice ma b.mvs.length mk], rsl mvEnc 4 l2 h2 (.slice ma b.mvs.length mk) b.mvs, rsl accEnc 6 l1 h1 (.slice aa b.accs.length ak) b.accs] w_) #[true, true, true, true, true, true, true, false, true, false, false, false, true, false] 5 ?st89 ?nx89
  case st89 =>
    rintro t w90 ⟨yg0, yg3, yc3, yg4, yg12, e4, e7, e18, e19, e21, e23, hsz89, F91⟩
    clear F11
    rw [rng_rpost_c t, e4, e7, e18, e19, e21, e23]
    clear e4 e7 e18 e19 e21 e23
    have hws89 := F91.gb.size
    have yg12l := F91.ltAt 0 rfl yg12 rfl
    have yg12b := yg12l.2 rfl
    have yg4l := F91.ltAt 1 rfl yg4 rfl
    have yg4b := yg4l.2 rfl
    refine ru_two 7 9 rfl rfl (by kernel_rfl) ?_ ?_
    · intro K hK
      refine step_copyB okMv rfl _ _ rfl w.heap.size yg4 rfl ((F91.front 1 rfl rfl)) (by first | omega | (simp; omega)) l2 h2 (.slice ma b.mvs.length mk) b.mvs rfl ((F91.front 1 rfl rfl).at 6 rfl) (by omega) ?_
      intro vc92 w93 hB94 hs95
      (try simp at hs95)
      have F96 := hB94
      clear F91
      obtain ⟨ca97, cap98, e_⟩ := (Own.sl (F96.at 0 rfl : Own mvEnc 76 4 w.heap.size _ vc92 b.mvs) (fun _ => rfl)).any
      subst e_
      refine ru_back hK (by exact ⟨F96.cl 5 0 rfl rfl, F96.cl 5 1 rfl rfl, F96.cl 4 0 rfl rfl, F96.cl 4 1 rfl rfl, F96.cl 4 2 rfl rfl, F96.cl 4 3 rfl rfl⟩) (fun _ => ?_)
      exact hZ59.out _ _ _ (by kernel_rfl) rfl rfl ⟨yg0, yg3, yc3, yg4, ca97, cap98, yg12, rfl, rfl, rfl, rfl, rfl, (by first | omega | (simp; done) | (simp; omega)), (F96.pick [1, 0, 2, 3, 4, 5, 6, 7] (by decide) rfl)⟩
    · intro K hK
      go_simp
      have F99 := F91.new 76 #[.int .i64 m.fr, .int .i64 m.to, .int .i64 m.li.lo, .int .i64 m.li.hi] (n := w90.heap.size) (by simp)
      clear F91
      refine ru_back hK (by exact ⟨F99.cl 6 0 rfl rfl, F99.cl 6 1 rfl rfl, F99.cl 5 0 rfl rfl, F99.cl 5 1 rfl rfl, F99.cl 5 2 rfl rfl, F99.cl 5 3 rfl rfl⟩) (fun _ => ?_)
      exact hZ63.out _ _ _ (by kernel_rfl) rfl rfl ⟨yg0, yg3, yc3, yg4, w90.heap.size, yg12, rfl, rfl, rfl, rfl, rfl, rfl, (by first | omega | (simp; done) | (simp; omega)), (F99.pick [1, 0, 2, 3, 4, 5, 6, 7, 8] (by decide) rfl)⟩
  intro hZ89
  refine ru_state 34 (fun t w_ => ∃ (yg0 : Nat) (yg3 : Option Addr) (yc3 : Nat) (yg9 : Nat) (yg12 : Nat), t 4 = .pointer (some ⟨w.heap.size + 2, 0, none⟩) ∧ t 7 = .pointer (some ⟨yg12, 0, none⟩) ∧ t 18 = .slice yg3 b.accs.length yc3 ∧ t 21 = .slice ma b.mvs.length mk ∧ t 24 = .slice (some ⟨yg9, 0, none⟩) 1 1 ∧ w9.heap.size ≤ w_.heap.size ∧ Bun w [rbox yg12 25 #[.slice none 0 0, .slice none 0 0], rbox yg9 76 #[.int .i64 m.fr, .int .i64 m.to, .int .i64 m.li.lo, .int .i64 m.li.hi], rown accEnc 79 6 w.heap.size (.slice yg3 b.accs.length yc3) b.accs, rbox (w.heap.size + 2) 25 #[.slice none 0 0, .slice none 0 0], rbox (w.heap.size + 1) 76 #[.int .i64 m.fr, .int .i64 m.to, .int .i64 m.li.lo, .int .i64 m.li.hi], rbox w.heap.size 25 #[.slice aa b.accs.length ak, .slice ma b.mvs.length mk], rsl mvEnc 4 l2 h2 (.slice ma b.mvs.length mk) b.mvs, rsl accEnc 6 l1 h1 (.slice aa b.accs.length ak) b.accs] w_) #[true, true, true, true, false, true, true, false, true, true, false, false, true, false] 5 ?st100 ?nx100
  case st100 =>
    rintro t w101 ⟨yg0, yg3, yc3, yg9, yg12, e4, e7, e18, e21, e24, hsz100, F102⟩
    clear F11
    rw [rng_rpost_c t, e4, e7, e18, e21, e24]
    clear e4 e7 e18 e21 e24
    have hws100 := F102.gb.size
    have yg12l := F102.ltAt 0 rfl yg12 rfl
    have yg12b := yg12l.2 rfl
    have yg9l := F102.ltAt 1 rfl yg9 rfl
    have yg9b := yg9l.2 rfl
    refine ru_one 4 rfl (by kernel_rfl) (fun K hK => ?_)
    go_simp
    have F103 := F102.new 76 #[] (n := w101.heap.size) (by simp)
    clear F102
    refine ru_back hK (by exact ⟨F103.cl 6 0 rfl rfl, F103.cl 6 1 rfl rfl, F103.cl 5 0 rfl rfl, F103.cl 5 1 rfl rfl, F103.cl 5 2 rfl rfl, F103.cl 5 3 rfl rfl⟩) (fun _ => ?_)
    exact hZ63.out _ _ _ (by kernel_rfl) rfl rfl ⟨yg0, yg3, yc3, w101.heap.size, yg9, yg12, rfl, rfl, rfl, rfl, rfl, rfl, (by first | omega | (simp; done) | (simp; omega)), (F103.pick [1, 2, 0, 3, 4, 5, 6, 7, 8] (by decide) rfl)⟩
  intro hZ100
  refine ru_state 34 (fun t w_ => ∃ (yg0 : Nat) (yg4 : Nat) (yg9 : Nat) (yg12 : Nat), t 4 = .pointer (some ⟨w.heap.size + 2, 0, none⟩) ∧ t 7 = .pointer (some ⟨yg12, 0, none⟩) ∧ t 15 = .slice (some ⟨yg0, 0, none⟩) 0 0 ∧ t 17 = .slice aa b.accs.length ak ∧ t 19 = .slice (some ⟨yg4, 0, none⟩) 0 0 ∧ t 21 = .slice ma b.mvs.length mk ∧ t 24 = .slice (some ⟨yg9, 0, none⟩) 1 1 ∧ w9.heap.size ≤ w_.heap.size ∧ Bun w [rbox yg12 25 #[.slice none 0 0, .slice none 0 0], rbox yg9 76 #[.int .i64 m.fr, .int .i64 m.to, .int .i64 m.li.lo, .int .i64 m.li.hi], rbox yg4 76 #[], rbox yg0 79 #[], rbox (w.heap.size + 2) 25 #[.slice none 0 0, .slice none 0 0], rbox (w.heap.size + 1) 76 #[.int .i64 m.fr, .int .i64 m.to, .int .i64 m.li.lo, .int .i64 m.li.hi], rbox w.heap.size 25 #[.slice aa b.accs.length ak, .slice ma b.mvs.length mk], rsl mvEnc 4 l2 h2 (.slice ma b.mvs.length mk) b.mvs, rsl accEnc 6 l1 h1 (.slice aa b.accs.length ak) b.accs] w_) #[true, true, true, false, true, true, true, false, true, true, false, false, true, false] 5 ?st104 ?nx104
  case st104 =>
    rintro t w105 ⟨yg0, yg4, yg9, yg12, e4, e7, e15, e17, e19, e21, e24, hsz104, F106⟩
    clear F11
    rw [rng_rpost_c t, e4, e7, e15, e17, e19, e21, e24]
    clear e4 e7 e15 e17 e19 e21 e24
    have hws104 := F106.gb.size
    have yg12l := F106.ltAt 0 rfl yg12 rfl
    have yg12b := yg12l.2 rfl
    have yg9l := F106.ltAt 1 rfl yg9 rfl
    have yg9b := yg9l.2 rfl
    have yg4l := F106.ltAt 2 rfl yg4 rfl
    have yg4b := yg4l.2 rfl
    have yg0l := F106.ltAt 3 rfl yg0 rfl
    have yg0b := yg0l.2 rfl
    refine ru_one 3 rfl (by kernel_rfl) (fun K hK => ?_)
    refine step_copyB okAc rfl _ _ rfl w.heap.size yg0 rfl ((F106.front 3 rfl rfl)) (by first | omega | (simp; omega)) l1 h1 (.slice aa b.accs.length ak) b.accs rfl ((F106.front 3 rfl rfl).at 8 rfl) (by omega) ?_
    intro vc107 w108 hB109 hs110
    (try simp at hs110)
    have F111 := hB109
    clear F106
    obtain ⟨ca112, cap113, e_⟩ := (Own.sl (F111.at 0 rfl : Own accEnc 79 6 w.heap.size _ vc107 b.accs) (fun _ => rfl)).any
    subst e_
    refine ru_back hK (by exact ⟨F111.cl 6 0 rfl rfl, F111.cl 6 1 rfl rfl, F111.cl 5 0 rfl rfl, F111.cl 5 1 rfl rfl, F111.cl 5 2 rfl rfl, F111.cl 5 3 rfl rfl⟩) (fun _ => ?_)
    exact hZ63.out _ _ _ (by kernel_rfl) rfl rfl ⟨yg0, ca112, cap113, yg4, yg9, yg12, rfl, rfl, rfl, rfl, rfl, rfl, (by first | omega | (simp; done) | (simp; omega)), (F111.pick [1, 2, 3, 0, 4, 5, 6, 7, 8] (by decide) rfl)⟩
  intro hZ104
  refine ru_state 34 (fun t w_ => ∃ (yg0 : Nat) (yg3 : Option Addr) (yc3 : Nat) (yg4 : Nat), t 4 = .pointer (some ⟨w.heap.size + 2, 0, none⟩) ∧ t 18 = .slice yg3 b.accs.length yc3 ∧ t 19 = .slice (some ⟨yg4, 0, none⟩) 0 0 ∧ t 21 = .slice ma b.mvs.length mk ∧ t 23 = .agg #[.int .i64 m.fr, .int .i64 m.to, .int .i64 m.li.lo, .int .i64 m.li.hi] ∧ w9.heap.size ≤ w_.heap.size ∧ Bun w [rbox yg4 76 #[], rown accEnc 79 6 w.heap.size (.slice yg3 b.accs.length yc3) b.accs, rbox (w.heap.size + 2) 25 #[.slice none 0 0, .slice none 0 0], rbox (w.heap.size + 1) 76 #[.int .i64 m.fr, .int .i64 m.to, .int .i64 m.li.lo, .int .i64 m.li.hi], rbox w.heap.size 25 #[.slice aa b.accs.length ak, .slice ma b.mvs.length mk], rsl mvEnc 4 l2 h2 (.slice ma b.mvs.length mk) b.mvs, rsl accEnc 6 l1 h1 (.slice aa b.accs.length ak) b.accs] w_) #[true, true, true, true, true, true, true, false, true, false, false, false, false, false] 6 ?st114 ?nx114
  case st114 =>
    rintro t w115 ⟨yg0, yg3, yc3, yg4, e4, e18, e19, e21, e23, hsz114, F116⟩
    clear F11
    rw [rng_rpost_c t, e4, e18, e19, e21, e23]
    clear e4 e18 e19 e21 e23
    have hws114 := F116.gb.size
    have yg4l := F116.ltAt 0 rfl yg4 rfl
    have yg4b := yg4l.2 rfl
    refine ru_three 7 9 12 rfl rfl rfl (by kernel_rfl) ?_ ?_ ?_
    · intro K hK
      refine step_copyB okMv rfl _ _ rfl w.heap.size yg4 rfl (F116) (by first | omega | (simp; omega)) l2 h2 (.slice ma b.mvs.length mk) b.mvs rfl (F116.at 5 rfl) (by omega) ?_
      intro vc117 w118 hB119 hs120
      (try simp at hs120)
      have F121 := hB119
      clear F116
      obtain ⟨ca122, cap123, e_⟩ := (Own.sl (F121.at 0 rfl : Own mvEnc 76 4 w.heap.size _ vc117 b.mvs) (fun _ => rfl)).any
      subst e_
      refine ru_back hK (by exact ⟨F121.cl 4 0 rfl rfl, F121.cl 4 1 rfl rfl, F121.cl 3 0 rfl rfl, F121.cl 3 1 rfl rfl, F121.cl 3 2 rfl rfl, F121.cl 3 3 rfl rfl⟩) (fun _ => ?_)
      exact hZ73.out _ _ _ (by kernel_rfl) rfl rfl ⟨yg0, yg3, yc3, yg4, ca122, cap123, rfl, rfl, rfl, rfl, (by first | omega | (simp; done) | (simp; omega)), F121⟩
    · intro K hK
      go_simp
      have F124 := F116.new 76 #[.int .i64 m.fr, .int .i64 m.to, .int .i64 m.li.lo, .int .i64 m.li.hi] (n := w115.heap.size) (by simp)
      clear F116
      refine ru_back hK (by exact ⟨F124.cl 5 0 rfl rfl, F124.cl 5 1 rfl rfl, F124.cl 4 0 rfl rfl, F124.cl 4 1 rfl rfl, F124.cl 4 2 rfl rfl, F124.cl 4 3 rfl rfl⟩) (fun _ => ?_)
      exact hZ78.out _ _ _ (by kernel_rfl) rfl rfl ⟨yg0, yg3, yc3, yg4, w115.heap.size, rfl, rfl, rfl, rfl, rfl, (by first | omega | (simp; done) | (simp; omega)), F124⟩
    · intro K hK
      go_simp
      have F125 := F116.new 25 #[.slice none 0 0, .slice none 0 0] (n := w115.heap.size) (by simp)
      clear F116
      refine ru_back hK (by exact ⟨F125.cl 5 0 rfl rfl, F125.cl 5 1 rfl rfl, F125.cl 4 0 rfl rfl, F125.cl 4 1 rfl rfl, F125.cl 4 2 rfl rfl, F125.cl 4 3 rfl rfl⟩) (fun _ => ?_)
      exact hZ89.out _ _ _ (by kernel_rfl) rfl rfl ⟨yg0, yg3, yc3, yg4, w115.heap.size, rfl, rfl, rfl, rfl, rfl, rfl, (by first | omega | (simp; done) | (simp; omega)), F125⟩
  intro hZ114
  refine ru_state 34 (fun t w_ => ∃ (yg0 : Nat) (yg3 : Option Addr) (yc3 : Nat) (yg9 : Nat), t 4 = .pointer (some ⟨w.heap.size + 2, 0, none⟩) ∧ t 18 = .slice yg3 b.accs.length yc3 ∧ t 21 = .slice ma b.mvs.length mk ∧ t 24 = .slice (some ⟨yg9, 0, none⟩) 1 1 ∧ w9.heap.size ≤ w_.heap.size ∧ Bun w [rbox yg9 76 #[.int .i64 m.fr, .int .i64 m.to, .int .i64 m.li.lo, .int .i64 m.li.hi], rown accEnc 79 6 w.heap.size (.slice yg3 b.accs.length yc3) b.accs, rbox (w.heap.size + 2) 25 #[.slice none 0 0, .slice none 0 0], rbox (w.heap.size + 1) 76 #[.int .i64 m.fr, .int .i64 m.to, .int .i64 m.li.lo, .int .i64 m.li.hi], rbox w.heap.size 25 #[.slice aa b.accs.length ak, .slice ma b.mvs.length mk], rsl mvEnc 4 l2 h2 (.slice ma b.mvs.length mk) b.mvs, rsl accEnc 6 l1 h1 (.slice aa b.accs.length ak) b.accs] w_) #[true, true, true, true, false, true, true, false, true, true, false, false, false, false] 6 ?st126 ?nx126
  case st126 =>
    rintro t w127 ⟨yg0, yg3, yc3, yg9, e4, e18, e21, e24, hsz126, F128⟩
    clear F11
    rw [rng_rpost_c t, e4, e18, e21, e24]
    clear e4 e18 e21 e24
    have hws126 := F128.gb.size
    have yg9l := F128.ltAt 0 rfl yg9 rfl
    have yg9b := yg9l.2 rfl
    refine ru_two 4 12 rfl rfl (by kernel_rfl) ?_ ?_
    · intro K hK
      go_simp
      have F129 := F128.new 76 #[] (n := w127.heap.size) (by simp)
      clear F128
      refine ru_back hK (by exact ⟨F129.cl 5 0 rfl rfl, F129.cl 5 1 rfl rfl, F129.cl 4 0 rfl rfl, F129.cl 4 1 rfl rfl, F129.cl 4 2 rfl rfl, F129.cl 4 3 rfl rfl⟩) (fun _ => ?_)
      exact hZ78.out _ _ _ (by kernel_rfl) rfl rfl ⟨yg0, yg3, yc3, w127.heap.size, yg9, rfl, rfl, rfl, rfl, rfl, (by first | omega | (simp; done) | (simp; omega)), (F129.pick [1, 0, 2, 3, 4, 5, 6, 7] (by decide) rfl)⟩
    · intro K hK
      go_simp
      have F130 := F128.new 25 #[.slice none 0 0, .slice none 0 0] (n := w127.heap.size) (by simp)
      clear F128
      refine ru_back hK (by exact ⟨F130.cl 5 0 rfl rfl, F130.cl 5 1 rfl rfl, F130.cl 4 0 rfl rfl, F130.cl 4 1 rfl rfl, F130.cl 4 2 rfl rfl, F130.cl 4 3 rfl rfl⟩) (fun _ => ?_)
      exact hZ100.out _ _ _ (by kernel_rfl) rfl rfl ⟨yg0, yg3, yc3, yg9, w127.heap.size, rfl, rfl, rfl, rfl, rfl, (by first | omega | (simp; done) | (simp; omega)), F130⟩
  intro hZ126
  refine ru_state 34 (fun t w_ => ∃ (yg0 : Nat) (yg3 : Option Addr) (yc3 : Nat) (yg12 : Nat), t 4 = .pointer (some ⟨w.heap.size + 2, 0, none⟩) ∧ t 7 = .pointer (some ⟨yg12, 0, none⟩) ∧ t 18 = .slice yg3 b.accs.length yc3 ∧ t 21 = .slice ma b.mvs.length mk ∧ t 23 = .agg #[.int .i64 m.fr, .int .i64 m.to, .int .i64 m.li.lo, .int .i64 m.li.hi] ∧ w9.heap.size ≤ w_.heap.size ∧ Bun w [rbox yg12 25 #[.slice none 0 0, .slice none 0 0], rown accEnc 79 6 w.heap.size (.slice yg3 b.accs.length yc3) b.accs, rbox (w.heap.size + 2) 25 #[.slice none 0 0, .slice none 0 0], rbox (w.heap.size + 1) 76 #[.int .i64 m.fr, .int .i64 m.to, .int .i64 m.li.lo, .int .i64 m.li.hi], rbox w.heap.size 25 #[.slice aa b.accs.length ak, .slice ma b.mvs.length mk], rsl mvEnc 4 l2 h2 (.slice ma b.mvs.length mk) b.mvs, rsl accEnc 6 l1 h1 (.slice aa b.accs.length ak) b.accs] w_) #[true, true, true, true, false, true, true, false, true, false, false, false, true, false] 6 ?st131 ?nx131
  case st131 =>
    rintro t w132 ⟨yg0, yg3, yc3, yg12, e4, e7, e18, e21, e23, hsz131, F133⟩
    clear F11
    rw [rng_rpost_c t, e4, e7, e18, e21, e23]
    clear e4 e7 e18 e21 e23
    have hws131 := F133.gb.size
    have yg12l := F133.ltAt 0 rfl yg12 rfl
    have yg12b := yg12l.2 rfl
    refine ru_two 4 9 rfl rfl (by kernel_rfl) ?_ ?_
    · intro K hK
      go_simp
      have F134 := F133.new 76 #[] (n := w132.heap.size) (by simp)
      clear F133
      refine ru_back hK (by exact ⟨F134.cl 5 0 rfl rfl, F134.cl 5 1 rfl rfl, F134.cl 4 0 rfl rfl, F134.cl 4 1 rfl rfl, F134.cl 4 2 rfl rfl, F134.cl 4 3 rfl rfl⟩) (fun _ => ?_)
      exact hZ89.out _ _ _ (by kernel_rfl) rfl rfl ⟨yg0, yg3, yc3, w132.heap.size, yg12, rfl, rfl, rfl, rfl, rfl, rfl, (by first | omega | (simp; done) | (simp; omega)), (F134.pick [1, 0, 2, 3, 4, 5, 6, 7] (by decide) rfl)⟩
    · intro K hK
      go_simp
      have F135 := F133.new 76 #[.int .i64 m.fr, .int .i64 m.to, .int .i64 m.li.lo, .int .i64 m.li.hi] (n := w132.heap.size) (by simp)
      clear F133
      refine ru_back hK (by exact ⟨F135.cl 5 0 rfl rfl, F135.cl 5 1 rfl rfl, F135.cl 4 0 rfl rfl, F135.cl 4 1 rfl rfl, F135.cl 4 2 rfl rfl, F135.cl 4 3 rfl rfl⟩) (fun _ => ?_)
      exact hZ100.out _ _ _ (by kernel_rfl) rfl rfl ⟨yg0, yg3, yc3, w132.heap.size, yg12, rfl, rfl, rfl, rfl, rfl, (by first | omega | (simp; done) | (simp; omega)), (F135.pick [1, 0, 2, 3, 4, 5, 6, 7] (by decide) rfl)⟩
  intro hZ131
  refine ru_state 34 (fun t w_ => ∃ (yg0 : Nat) (yg4 : Nat) (yg9 : Nat), t 4 = .pointer (some ⟨w.heap.size + 2, 0, none⟩) ∧ t 15 = .slice (some ⟨yg0, 0, none⟩) 0 0 ∧ t 17 = .slice aa b.accs.length ak ∧ t 19 = .slice (some ⟨yg4, 0, none⟩) 0 0 ∧ t 21 = .slice ma b.mvs.length mk ∧ t 24 = .slice (some ⟨yg9, 0, none⟩) 1 1 ∧ w9.heap.size ≤ w_.heap.size ∧ Bun w [rbox yg9 76 #[.int .i64 m.fr, .int .i64 m.to, .int .i64 m.li.lo, .int .i64 m.li.hi], rbox yg4 76 #[], rbox yg0 79 #[], rbox (w.heap.size + 2) 25 #[.slice none 0 0, .slice none 0 0], rbox (w.heap.size + 1) 76 #[.int .i64 m.fr, .int .i64 m.to, .int .i64 m.li.lo, .int .i64 m.li.hi], rbox w.heap.size 25 #[.slice aa b.accs.length ak, .slice ma b.mvs.length mk], rsl mvEnc 4 l2 h2 (.slice ma b.mvs.length mk) b.mvs, rsl accEnc 6 l1 h1 (.slice aa b.accs.length ak) b.accs] w_) #[true, true, true, false, true, true, true, false, true, true, false, false, false, false] 6 ?st136 ?nx136
  case st136 =>
    rintro t w137 ⟨yg0, yg4, yg9, e4, e15, e17, e19, e21, e24, hsz136, F138⟩
    clear F11
    rw [rng_rpost_c t, e4, e15, e17, e19, e21, e24]
    clear e4 e15 e17 e19 e21 e24
    have hws136 := F138.gb.size
    have yg9l := F138.ltAt 0 rfl yg9 rfl
    have yg9b := yg9l.2 rfl
    have yg4l := F138.ltAt 1 rfl yg4 rfl
    have yg4b := yg4l.2 rfl
    have yg0l := F138.ltAt 2 rfl yg0 rfl
    have yg0b := yg0l.2 rfl
    refine ru_two 3 12 rfl rfl (by kernel_rfl) ?_ ?_
    · intro K hK
      refine step_copyB okAc rfl _ _ rfl w.heap.size yg0 rfl ((F138.front 2 rfl rfl)) (by first | omega | (simp; omega)) l1 h1 (.slice aa b.accs.length ak) b.accs rfl ((F138.front 2 rfl rfl).at 7 rfl) (by omega) ?_
      intro vc139 w140 hB141 hs142
      (try simp at hs142)
      have F143 := hB141
      clear F138
      obtain ⟨ca144, cap145, e_⟩ := (Own.sl (F143.at 0 rfl : Own accEnc 79 6 w.heap.size _ vc139 b.accs) (fun _ => rfl)).any
      subst e_
      refine ru_back hK (by exact ⟨F143.cl 5 0 rfl rfl, F143.cl 5 1 rfl rfl, F143.cl 4 0 rfl rfl, F143.cl 4 1 rfl rfl, F143.cl 4 2 rfl rfl, F143.cl 4 3 rfl rfl⟩) (fun _ => ?_)
      exact hZ78.out _ _ _ (by kernel_rfl) rfl rfl ⟨yg0, ca144, cap145, yg4, yg9, rfl, rfl, rfl, rfl, rfl, (by first | omega | (simp; done) | (simp; omega)), (F143.pick [1, 2, 0, 3, 4, 5, 6, 7] (by decide) rfl)⟩
    · intro K hK
      go_simp
      have F146 := F138.new 25 #[.slice none 0 0, .slice none 0 0] (n := w137.heap.size) (by simp)
      clear F138
      refine ru_back hK (by exact ⟨F146.cl 6 0 rfl rfl, F146.cl 6 1 rfl rfl, F146.cl 5 0 rfl rfl, F146.cl 5 1 rfl rfl, F146.cl 5 2 rfl rfl, F146.cl 5 3 rfl rfl⟩) (fun _ => ?_)
      exact hZ104.out _ _ _ (by kernel_rfl) rfl rfl ⟨yg0, yg4, yg9, w137.heap.size, rfl, rfl, rfl, rfl, rfl, rfl, rfl, (by first | omega | (simp; done) | (simp; omega)), F146⟩
  intro hZ136
  refine ru_state 34 (fun t w_ => ∃ (yg0 : Nat) (yg4 : Nat) (yg12 : Nat), t 4 = .pointer (some ⟨w.heap.size + 2, 0, none⟩) ∧ t 7 = .pointer (some ⟨yg12, 0, none⟩) ∧ t 15 = .slice (some ⟨yg0, 0, none⟩) 0 0 ∧ t 17 = .slice aa b.accs.length ak ∧ t 19 = .slice (some ⟨yg4, 0, none⟩) 0 0 ∧ t 21 = .slice ma b.mvs.length mk ∧ t 23 = .agg #[.int .i64 m.fr, .int .i64 m.to, .int .i64 m.li.lo, .int .i64 m.li.hi] ∧ w9.heap.size ≤ w_.heap.size ∧ Bun w [rbox yg12 25 #[.slice none 0 0, .slice none 0 0], rbox yg4 76 #[], rbox yg0 79 #[], rbox (w.heap.size + 2) 25 #[.slice none 0 0, .slice none 0 0], rbox (w.heap.size + 1) 76 #[.int .i64 m.fr, .int .i64 m.to, .int .i64 m.li.lo, .int .i64 m.li.hi], rbox w.heap.size 25 #[.slice aa b.accs.length ak, .slice ma b.mvs.length mk], rsl mvEnc 4 l2 h2 (.slice ma b.mvs.length mk) b.mvs, rsl accEnc 6 l1 h1 (.slice aa b.accs.length ak) b.accs] w_) #[true, true, true, false, true, true, true, false, true, false, false, false, true, false] 6 ?st147 ?nx147
  case st147 =>
    rintro t w148 ⟨yg0, yg4, yg12, e4, e7, e15, e17, e19, e21, e23, hsz147, F149⟩
    clear F11
    rw [rng_rpost_c t, e4, e7, e15, e17, e19, e21, e23]
    clear e4 e7 e15 e17 e19 e21 e23
    have hws147 := F149.gb.size
    have yg12l := F149.ltAt 0 rfl yg12 rfl
    have yg12b := yg12l.2 rfl
    have yg4l := F149.ltAt 1 rfl yg4 rfl
    have yg4b := yg4l.2 rfl
    have yg0l := F149.ltAt 2 rfl yg0 rfl
    have yg0b := yg0l.2 rfl
    refine ru_two 3 9 rfl rfl (by kernel_rfl) ?_ ?_
    · intro K hK
      refine step_copyB okAc rfl _ _ rfl w.heap.size yg0 rfl ((F149.front 2 rfl rfl)) (by first | omega | (simp; omega)) l1 h1 (.slice aa b.accs.length ak) b.accs rfl ((F149.front 2 rfl rfl).at 7 rfl) (by omega) ?_
      intro vc150 w151 hB152 hs153
      (try simp at hs153)
      have F154 := hB152
      clear F149
      obtain ⟨ca155, cap156, e_⟩ := (Own.sl (F154.at 0 rfl : Own accEnc 79 6 w.heap.size _ vc150 b.accs) (fun _ => rfl)).any
      subst e_
      refine ru_back hK (by exact ⟨F154.cl 5 0 rfl rfl, F154.cl 5 1 rfl rfl, F154.cl 4 0 rfl rfl, F154.cl 4 1 rfl rfl, F154.cl 4 2 rfl rfl, F154.cl 4 3 rfl rfl⟩) (fun _ => ?_)
      exact hZ89.out _ _ _ (by kernel_rfl) rfl rfl ⟨yg0, ca155, cap156, yg4, yg12, rfl, rfl, rfl, rfl, rfl, rfl, (by first | omega | (simp; done) | (simp; omega)), (F154.pick [1, 2, 0, 3, 4, 5, 6, 7] (by decide) rfl)⟩
    · intro K hK
      go_simp
      have F157 := F149.new 76 #[.int .i64 m.fr, .int .i64 m.to, .int .i64 m.li.lo, .int .i64 m.li.hi] (n := w148.heap.size) (by simp)
      clear F149
      refine ru_back hK (by exact ⟨F157.cl 6 0 rfl rfl, F157.cl 6 1 rfl rfl, F157.cl 5 0 rfl rfl, F157.cl 5 1 rfl rfl, F157.cl 5 2 rfl rfl, F157.cl 5 3 rfl rfl⟩) (fun _ => ?_)
      exact hZ104.out _ _ _ (by kernel_rfl) rfl rfl ⟨yg0, yg4, w148.heap.size, yg12, rfl, rfl, rfl, rfl, rfl, rfl, rfl, (by first | omega | (simp; done) | (simp; omega)), (F157.pick [1, 0, 2, 3, 4, 5, 6, 7, 8] (by decide) rfl)⟩
  intro hZ147
  refine ru_state 34 (fun t w_ => ∃ (yg0 : Nat) (yg9 : Nat) (yg12 : Nat), t 4 = .pointer (some ⟨w.heap.size + 2, 0, none⟩) ∧ t 7 = .pointer (some ⟨yg12, 0, none⟩) ∧ t 15 = .slice (some ⟨yg0, 0, none⟩) 0 0 ∧ t 17 = .slice aa b.accs.length ak ∧ t 21 = .slice ma b.mvs.length mk ∧ t 24 = .slice (some ⟨yg9, 0, none⟩) 1 1 ∧ w9.heap.size ≤ w_.heap.size ∧ Bun w [rbox yg12 25 #[.slice none 0 0, .slice none 0 0], rbox yg9 76 #[.int .i64 m.fr, .int .i64 m.to, .int .i64 m.li.lo, .int .i64 m.li.hi], rbox yg0 79 #[], rbox (w.heap.size + 2) 25 #[.slice none 0 0, .slice none 0 0], rbox (w.heap.size + 1) 76 #[.int .i64 m.fr, .int .i64 m.to, .int .i64 m.li.lo, .int .i64 m.li.hi], rbox w.heap.size 25 #[.slice aa b.accs.length ak, .slice ma b.mvs.length mk], rsl mvEnc 4 l2 h2 (.slice ma b.mvs.length mk) b.mvs, rsl accEnc 6 l1 h1 (.slice aa b.accs.length ak) b.accs] w_) #[true, true, true, false, false, true, true, false, true, true, false, false, true, false] 6 ?st158 ?nx158
  case st158 =>
    rintro t w159 ⟨yg0, yg9, yg12, e4, e7, e15, e17, e21, e24, hsz158, F160⟩
    clear F11
    rw [rng_rpost_c t, e4, e7, e15, e17, e21, e24]
    clear e4 e7 e15 e17 e21 e24
    have hws158 := F160.gb.size
    have yg12l := F160.ltAt 0 rfl yg12 rfl
    have yg12b := yg12l.2 rfl
    have yg9l := F160.ltAt 1 rfl yg9 rfl
    have yg9b := yg9l.2 rfl
    have yg0l := F160.ltAt 2 rfl yg0 rfl
    have yg0b := yg0l.2 rfl
    refine ru_two 3 4 rfl rfl (by kernel_rfl) ?_ ?_
    · intro K hK
      refine step_copyB okAc rfl _ _ rfl w.heap.size yg0 rfl ((F160.front 2 rfl rfl)) (by first | omega | (simp; omega)) l1 h1 (.slice aa b.accs.length ak) b.accs rfl ((F160.front 2 rfl rfl).at 7 rfl) (by omega) ?_
      intro vc161 w162 hB163 hs164
      (try simp at hs164)
      have F165 := hB163
      clear F160
      obtain ⟨ca166, cap167, e_⟩ := (Own.sl (F165.at 0 rfl : Own accEnc 79 6 w.heap.size _ vc161 b.accs) (fun _ => rfl)).any
      subst e_
      refine ru_back hK (by exact ⟨F165.cl 5 0 rfl rfl, F165.cl 5 1 rfl rfl, F165.cl 4 0 rfl rfl, F165.cl 4 1 rfl rfl, F165.cl 4 2 rfl rfl, F165.cl 4 3 rfl rfl⟩) (fun _ => ?_)
      exact hZ100.out _ _ _ (by kernel_rfl) rfl rfl ⟨yg0, ca166, cap167, yg9, yg12, rfl, rfl, rfl, rfl, rfl, (by first | omega | (simp; done) | (simp; omega)), (F165.pick [1, 2, 0, 3, 4, 5, 6, 7] (by decide) rfl)⟩
    · intro K hK
      go_simp
      have F168 := F160.new 76 #[] (n := w159.heap.size) (by simp)
      clear F160
      refine ru_back hK (by exact ⟨F168.cl 6 0 rfl rfl, F168.cl 6 1 rfl rfl, F168.cl 5 0 rfl rfl, F168.cl 5 1 rfl rfl, F168.cl 5 2 rfl rfl, F168.cl 5 3 rfl rfl⟩) (fun _ => ?_)
      exact hZ104.out _ _ _ (by kernel_rfl) rfl rfl ⟨yg0, w159.heap.size, yg9, yg12, rfl, rfl, rfl, rfl, rfl, rfl, rfl, (by first | omega | (simp; done) | (simp; omega)), (F168.pick [1, 2, 0, 3, 4, 5, 6, 7, 8] (by decide) rfl)⟩
  intro hZ158
  refine ru_state 34 (fun t w_ => ∃ (yg4 : Nat) (yg9 : Nat) (yg12 : Nat), t 4 = .pointer (some ⟨w.heap.size + 2, 0, none⟩) ∧ t 7 = .pointer (some ⟨yg12, 0, none⟩) ∧ t 17 = .slice aa b.accs.length ak ∧ t 19 = .slice (some ⟨yg4, 0, none⟩) 0 0 ∧ t 21 = .slice ma b.mvs.length mk ∧ t 24 = .slice (some ⟨yg9, 0, none⟩) 1 1 ∧ w9.heap.size ≤ w_.heap.size ∧ Bun w [rbox yg12 25 #[.slice none 0 0, .slice none 0 0], rbox yg9 76 #[.int .i64 m.fr, .int .i64 m.to, .int .i64 m.li.lo, .int .i64 m.li.hi], rbox yg4 76 #[], rbox (w.heap.size + 2) 25 #[.slice none 0 0, .slice none 0 0], rbox (w.heap.size + 1) 76 #[.int .i64 m.fr, .int .i64 m.to, .int .i64 m.li.lo, .int .i64 m.li.hi], rbox w.heap.size 25 #[.slice aa b.accs.length ak, .slice ma b.mvs.length mk], rsl mvEnc 4 l2 h2 (.slice ma b.mvs.length mk) b.mvs, rsl accEnc 6 l1 h1 (.slice aa b.accs.length ak) b.accs] w_) #[false, true, true, false, true, true, true, false, true, true, false, false, true, false] 6 ?st169 ?nx169
  case st169 =>
    rintro t w170 ⟨yg4, yg9, yg12, e4, e7, e17, e19, e21, e24, hsz169, F171⟩
    clear F11
    rw [rng_rpost_c t, e4, e7, e17, e19, e21, e24]
    clear e4 e7 e17 e19 e21 e24
    have hws169 := F171.gb.size
    have yg12l := F171.ltAt 0 rfl yg12 rfl
    have yg12b := yg12l.2 rfl
    have yg9l := F171.ltAt 1 rfl yg9 rfl
    have yg9b := yg9l.2 rfl
    have yg4l := F171.ltAt 2 rfl yg4 rfl
    have yg4b := yg4l.2 rfl
    refine ru_one 0 rfl (by kernel_rfl) (fun K hK => ?_)
    go_simp
    have F172 := F171.new 79 #[] (n := w170.heap.size) (by simp)
    clear F171
    refine ru_back hK (by exact ⟨F172.cl 6 0 rfl rfl, F172.cl 6 1 rfl rfl, F172.cl 5 0 rfl rfl, F172.cl 5 1 rfl rfl, F172.cl 5 2 rfl rfl, F172.cl 5 3 rfl rfl⟩) (fun _ => ?_)
    exact hZ104.out _ _ _ (by kernel_rfl) rfl rfl ⟨w170.heap.size, yg4, yg9, yg12, rfl, rfl, rfl, rfl, rfl, rfl, rfl, (by first | omega | (simp; done) | (simp; omega)), (F172.pick [1, 2, 3, 0, 4, 5, 6, 7, 8] (by decide) rfl)⟩
  intro hZ169
  refine ru_state 34 (fun t w_ => ∃ (yg0 : Nat) (yg3 : Option Addr) (yc3 : Nat), t 4 = .pointer (some ⟨w.heap.size + 2, 0, none⟩) ∧ t 18 = .slice yg3 b.accs.length yc3 ∧ t 21 = .slice ma b.mvs.length mk ∧ t 23 = .agg #[.int .i64 m.fr, .int .i64 m.to, .int .i64 m.li.lo, .int .i64 m.li.hi] ∧ w9.heap.size ≤ w_.heap.size ∧ Bun w [rown accEnc 79 6 w.heap.size (.slice yg3 b.accs.length yc3) b.accs, rbox (w.heap.size + 2) 25 #[.slice none 0 0, .slice none 0 0], rbox (w.heap.size + 1) 76 #[.int .i64 m.fr, .int .i64 m.to, .int .i64 m.li.lo, .int .i64 m.li.hi], rbox w.heap.size 25 #[.slice aa b.accs.length ak, .slice ma b.mvs.length mk], rsl mvEnc 4 l2 h2 (.slice ma b.mvs.length mk) b.mvs, rsl accEnc 6 l1 h1 (.slice aa b.accs.length ak) b.accs] w_) #[true, true, true, true, false, true, true, false, true, false, false, false, false, false] 7 ?st173 ?nx173
  case st173 =>
    rintro t w174 ⟨yg0, yg3, yc3, e4, e18, e21, e23, hsz173, F175⟩
    clear F11
    rw [rng_rpost_c t, e4, e18, e21, e23]
    clear e4 e18 e21 e23
    have hws173 := F175.gb.size
    refine ru_three 4 9 12 rfl rfl rfl (by kernel_rfl) ?_ ?_ ?_
    · intro K hK
      go_simp
      have F176 := F175.new 76 #[] (n := w174.heap.size) (by simp)
      clear F175
      refine ru_back hK (by exact ⟨F176.cl 4 0 rfl rfl, F176.cl 4 1 rfl rfl, F176.cl 3 0 rfl rfl, F176.cl 3 1 rfl rfl, F176.cl 3 2 rfl rfl, F176.cl 3 3 rfl rfl⟩) (fun _ => ?_)
      exact hZ114.out _ _ _ (by kernel_rfl) rfl rfl ⟨yg0, yg3, yc3, w174.heap.size, rfl, rfl, rfl, rfl, rfl, (by first | omega | (simp; done) | (simp; omega)), F176⟩
    · intro K hK
      go_simp
      have F177 := F175.new 76 #[.int .i64 m.fr, .int .i64 m.to, .int .i64 m.li.lo, .int .i64 m.li.hi] (n := w174.heap.size) (by simp)
      clear F175
      refine ru_back hK (by exact ⟨F177.cl 4 0 rfl rfl, F177.cl 4 1 rfl rfl, F177.cl 3 0 rfl rfl, F177.cl 3 1 rfl rfl, F177.cl 3 2 rfl rfl, F177.cl 3 3 rfl rfl⟩) (fun _ => ?_)
      exact hZ126.out _ _ _ (by kernel_rfl) rfl rfl ⟨yg0, yg3, yc3, w174.heap.size, rfl, rfl, rfl, rfl, (by first | omega | (simp; done) | (simp; omega)), F177⟩
    · intro K hK
      go_simp
      have F178 := F175.new 25 #[.slice none 0 0, .slice none 0 0] (n := w174.heap.size) (by simp)
      clear F175
      refine ru_back hK (by exact ⟨F178.cl 4 0 rfl rfl, F178.cl 4 1 rfl rfl, F178.cl 3 0 rfl rfl, F178.cl 3 1 rfl rfl, F178.cl 3 2 rfl rfl, F178.cl 3 3 rfl rfl⟩) (fun _ => ?_)
      exact hZ131.out _ _ _ (by kernel_rfl) rfl rfl ⟨yg0, yg3, yc3, w174.heap.size, rfl, rfl, rfl, rfl, rfl, (by first | omega | (simp; done) | (simp; omega)), F178⟩
  intro hZ173
  refine ru_state 34 (fun t w_ => ∃ (yg0 : Nat) (yg4 : Nat), t 4 = .pointer (some ⟨w.heap.size + 2, 0, none⟩) ∧ t 15 = .slice (some ⟨yg0, 0, none⟩) 0 0 ∧ t 17 = .slice aa b.accs.length ak ∧ t 19 = .slice (some ⟨yg4, 0, none⟩) 0 0 ∧ t 21 = .slice ma b.mvs.length mk ∧ t 23 = .agg #[.int .i64 m.fr, .int .i64 m.to, .int .i64 m.li.lo, .int .i64 m.li.hi] ∧ w9.heap.size ≤ w_.heap.size ∧ Bun w [rbox yg4 76 #[], rbox yg0 79 #[], rbox (w.heap.size + 2) 25 #[.slice none 0 0, .slice none 0 0], rbox (w.heap.size + 1) 76 #[.int .i64 m.fr, .int .i64 m.to, .int .i64 m.li.lo, .int .i64 m.li.hi], rbox w.heap.size 25 #[.slice aa b.accs.length ak, .slice ma b.mvs.length mk], rsl mvEnc 4 l2 h2 (.slice ma b.mvs.length mk) b.mvs, rsl accEnc 6 l1 h1 (.slice aa b.accs.length ak) b.accs] w_) #[true, true, true, false, true, true, true, false, true, false, false, false, false, false] 7 ?st179 ?nx179
  case st179 =>
    rintro t w180 ⟨yg0, yg4, e4, e15, e17, e19, e21, e23, hsz179, F181⟩
    clear F11
    rw [rng_rpost_c t, e4, e15, e17, e19, e21, e23]
    clear e4 e15 e17 e19 e21 e23
    have hws179 := F181.gb.size
    have yg4l := F181.ltAt 0 rfl yg4 rfl
    have yg4b := yg4l.2 rfl
    have yg0l := F181.ltAt 1 rfl yg0 rfl
    have yg0b := yg0l.2 rfl
    refine ru_three 3 9 12 rfl rfl rfl (by kernel_rfl) ?_ ?_ ?_
    · intro K hK
      refine step_copyB okAc rfl _ _ rfl w.heap.size yg0 rfl ((F181.front 1 rfl rfl)) (by first | omega | (simp; omega)) l1 h1 (.slice aa b.accs.length ak) b.accs rfl ((F181.front 1 rfl rfl).at 6 rfl) (by omega) ?_
      intro vc182 w183 hB184 hs185
      (try simp at hs185)
      have F186 := hB184
      clear F181
      obtain ⟨ca187, cap188, e_⟩ := (Own.sl (F186.at 0 rfl : Own accEnc 79 6 w.heap.size _ vc182 b.accs) (fun _ => rfl)).any
      subst e_
      refine ru_back hK (by exact ⟨F186.cl 4 0 rfl rfl, F186.cl 4 1 rfl rfl, F186.cl 3 0 rfl rfl, F186.cl 3 1 rfl rfl, F186.cl 3 2 rfl rfl, F186.cl 3 3 rfl rfl⟩) (fun _ => ?_)
      exact hZ114.out _ _ _ (by kernel_rfl) rfl rfl ⟨yg0, ca187, cap188, yg4, rfl, rfl, rfl, rfl, rfl, (by first | omega | (simp; done) | (simp; omega)), (F186.pick [1, 0, 2, 3, 4, 5, 6] (by decide) rfl)⟩
    · intro K hK
      go_simp
      have F189 := F181.new 76 #[.int .i64 m.fr, .int .i64 m.to, .int .i64 m.li.lo, .int .i64 m.li.hi] (n := w180.heap.size) (by simp)
      clear F181
      refine ru_back hK (by exact ⟨F189.cl 5 0 rfl rfl, F189.cl 5 1 rfl rfl, F189.cl 4 0 rfl rfl, F189.cl 4 1 rfl rfl, F189.cl 4 2 rfl rfl, F189.cl 4 3 rfl rfl⟩) (fun _ => ?_)
      exact hZ136.out _ _ _ (by kernel_rfl) rfl rfl ⟨yg0, yg4, w180.heap.size, rfl, rfl, rfl, rfl, rfl, rfl, (by first | omega | (simp; done) | (simp; omega)), F189⟩
    · intro K hK
      go_simp
      have F190 := F181.new 25 #[.slice none 0 0, .slice none 0 0] (n := w180.heap.size) (by simp)
      clear F181
      refine ru_back hK (by exact ⟨F190.cl 5 0 rfl rfl, F190.cl 5 1 rfl rfl, F190.cl 4 0 rfl rfl, F190.cl 4 1 rfl rfl, F190.cl 4 2 rfl rfl, F190.cl 4 3 rfl rfl⟩) (fun _ => ?_)
      exact hZ147.out _ _ _ (by kernel_rfl) rfl rfl ⟨yg0, yg4, w180.heap.size, rfl, rfl, rfl, rfl, rfl, rfl, rfl, (by first | omega | (simp; done) | (simp; omega)), F190⟩
  intro hZ179
  refine ru_state 34 (fun t w_ => ∃ (yg0 : Nat) (yg9 : Nat), t 4 = .pointer (some ⟨w.heap.size + 2, 0, none⟩) ∧ t 15 = .slice (some ⟨yg0, 0, none⟩) 0 0 ∧ t 17 = .slice aa b.accs.length ak ∧ t 21 = .slice ma b.mvs.length mk ∧ t 24 = .slice (some ⟨yg9, 0, none⟩) 1 1 ∧ w9.heap.size ≤ w_.heap.size ∧ Bun w [rbox yg9 76 #[.int .i64 m.fr, .int .i64 m.to, .int .i64 m.li.lo, .int .i64 m.li.hi], rbox yg0 79 #[], rbox (w.heap.size + 2) 25 #[.slice none 0 0, .slice none 0 0], rbox (w.heap.size + 1) 76 #[.int .i64 m.fr, .int .i64 m.to, .int .i64 m.li.lo, .int .i64 m.li.hi], rbox w.heap.size 25 #[.slice aa b.accs.length ak, .slice ma b.mvs.length mk], rsl mvEnc 4 l2 h2 (.slice ma b.mvs.length mk) b.mvs, rsl accEnc 6 l1 h1 (.slice aa b.accs.length ak) b.accs] w_) #[true, true, true, false, false, true, true, false, true, true, false, false, false, false] 7 ?st191 ?nx191
  case st191 =>
    rintro t w192 ⟨yg0, yg9, e4, e15, e17, e21, e24, hsz191, F193⟩
    clear F11
    rw [rng_rpost_c t, e4, e15, e17, e21, e24]
    clear e4 e15 e17 e21 e24
    have hws191 := F193.gb.size
    have yg9l := F193.ltAt 0 rfl yg9 rfl
    have yg9b := yg9l.2 rfl
    have yg0l := F193.ltAt 1 rfl yg0 rfl
    have yg0b := yg0l.2 rfl
    refine ru_three 3 4 12 rfl rfl rfl (by kernel_rfl) ?_ ?_ ?_
    · intro K hK
      refine step_copyB okAc rfl _ _ rfl w.heap.size yg0 rfl ((F193.front 1 rfl rfl)) (by first | omega | (simp; omega)) l1 h1 (.slice aa b.accs.length ak) b.accs rfl ((F193.front 1 rfl rfl).at 6 rfl) (by omega) ?_
      intro vc194 w195 hB196 hs197
      (try simp at hs197)
      have F198 := hB196
      clear F193
      obtain ⟨ca199, cap200, e_⟩ := (Own.sl (F198.at 0 rfl : Own accEnc 79 6 w.heap.size _ vc194 b.accs) (fun _ => rfl)).any
      subst e_
      refine ru_back hK (by exact ⟨F198.cl 4 0 rfl rfl, F198.cl 4 1 rfl rfl, F198.cl 3 0 rfl rfl, F198.cl 3 1 rfl rfl, F198.cl 3 2 rfl rfl, F198.cl 3 3 rfl rfl⟩) (fun _ => ?_)
      exact hZ126.out _ _ _ (by kernel_rfl) rfl rfl ⟨yg0, ca199, cap200, yg9, rfl, rfl, rfl, rfl, (by first | omega | (simp; done) | (simp; omega)), (F198.pick [1, 0, 2, 3, 4, 5, 6] (by decide) rfl)⟩
    · intro K hK
      go_simp
      have F201 := F193.new 76 #[] (n := w192.heap.size) (by simp)
      clear F193
      refine ru_back hK (by exact ⟨F201.cl 5 0 rfl rfl, F201.cl 5 1 rfl rfl, F201.cl 4 0 rfl rfl, F201.cl 4 1 rfl rfl, F201.cl 4 2 rfl rfl, F201.cl 4 3 rfl rfl⟩) (fun _ => ?_)
      exact hZ136.out _ _ _ (by kernel_rfl) rfl rfl ⟨yg0, w192.heap.size, yg9, rfl, rfl, rfl, rfl, rfl, rfl, (by first | omega | (simp; done) | (simp; omega)), (F201.pick [1, 0, 2, 3, 4, 5, 6, 7] (by decide) rfl)⟩
    · intro K hK
      go_simp
      have F202 := F193.new 25 #[.slice none 0 0, .slice none 0 0] (n := w192.heap.size) (by simp)
      clear F193
      refine ru_back hK (by exact ⟨F202.cl 5 0 rfl rfl, F202.cl 5 1 rfl rfl, F202.cl 4 0 rfl rfl, F202.cl 4 1 rfl rfl, F202.cl 4 2 rfl rfl, F202.cl 4 3 rfl rfl⟩) (fun _ => ?_)
      exact hZ158.out _ _ _ (by kernel_rfl) rfl rfl ⟨yg0, yg9, w192.heap.size, rfl, rfl, rfl, rfl, rfl, rfl, (by first | omega | (simp; done) | (simp; omega)), F202⟩
  intro hZ191
  refine ru_state 34 (fun t w_ => ∃ (yg0 : Nat) (yg12 : Nat), t 4 = .pointer (some ⟨w.heap.size + 2, 0, none⟩) ∧ t 7 = .pointer (some ⟨yg12, 0, none⟩) ∧ t 15 = .slice (some ⟨yg0, 0, none⟩) 0 0 ∧ t 17 = .slice aa b.accs.length ak ∧ t 21 = .slice ma b.mvs.length mk ∧ t 23 = .agg #[.int .i64 m.fr, .int .i64 m.to, .int .i64 m.li.lo, .int .i64 m.li.hi] ∧ w9.heap.size ≤ w_.heap.size ∧ Bun w [rbox yg12 25 #[.slice none 0 0, .slice none 0 0], rbox yg0 79 #[], rbox (w.heap.size + 2) 25 #[.slice none 0 0, .slice none 0 0], rbox (w.heap.size + 1) 76 #[.int .i64 m.fr, .int .i64 m.to, .int .i64 m.li.lo, .int .i64 m.li.hi], rbox w.heap.size 25 #[.slice aa b.accs.length ak, .slice ma b.mvs.length mk], rsl mvEnc 4 l2 h2 (.slice ma b.mvs.length mk) b.mvs, rsl accEnc 6 l1 h1 (.slice aa b.accs.length ak) b.accs] w_) #[true, true, true, false, false, true, true, false, true, false, false, false, true, false] 7 ?st203 ?nx203
  case st203 =>
    rintro t w204 ⟨yg0, yg12, e4, e7, e15, e17, e21, e23, hsz203, F205⟩
    clear F11
    rw [rng_rpost_c t, e4, e7, e15, e17, e21, e23]
    clear e4 e7 e15 e17 e21 e23
    have hws203 := F205.gb.size
    have yg12l := F205.ltAt 0 rfl yg12 rfl
    have yg12b := yg12l.2 rfl
    have yg0l := F205.ltAt 1 rfl yg0 rfl
    have yg0b := yg0l.2 rfl
    refine ru_three 3 4 9 rfl rfl rfl (by kernel_rfl) ?_ ?_ ?_
    · intro K hK
      refine step_copyB okAc rfl _ _ rfl w.heap.size yg0 rfl ((F205.front 1 rfl rfl)) (by first | omega | (simp; omega)) l1 h1 (.slice aa b.accs.length ak) b.accs rfl ((F205.front 1 rfl rfl).at 6 rfl) (by omega) ?_
      intro vc206 w207 hB208 hs209
      (try simp at hs209)
      have F210 := hB208
      clear F205
      obtain ⟨ca211, cap212, e_⟩ := (Own.sl (F210.at 0 rfl : Own accEnc 79 6 w.heap.size _ vc206 b.accs) (fun _ => rfl)).any
      subst e_
      refine ru_back hK (by exact ⟨F210.cl 4 0 rfl rfl, F210.cl 4 1 rfl rfl, F210.cl 3 0 rfl rfl, F210.cl 3 1 rfl rfl, F210.cl 3 2 rfl rfl, F210.cl 3 3 rfl rfl⟩) (fun _ => ?_)
      exact hZ131.out _ _ _ (by kernel_rfl) rfl rfl ⟨yg0, ca211, cap212, yg12, rfl, rfl, rfl, rfl, rfl, (by first | omega | (simp; done) | (simp; omega)), (F210.pick [1, 0, 2, 3, 4, 5, 6] (by decide) rfl)⟩
    · intro K hK
      go_simp
      have F213 := F205.new 76 #[] (n := w204.heap.size) (by simp)
      clear F205
      refine ru_back hK (by exact ⟨F213.cl 5 0 rfl rfl, F213.cl 5 1 rfl rfl, F213.cl 4 0 rfl rfl, F213.cl 4 1 rfl rfl, F213.cl 4 2 rfl rfl, F213.cl 4 3 rfl rfl⟩) (fun _ => ?_)
      exact hZ147.out _ _ _ (by kernel_rfl) rfl rfl ⟨yg0, w204.heap.size, yg12, rfl, rfl, rfl, rfl, rfl, rfl, rfl, (by first | omega | (simp; done) | (simp; omega)), (F213.pick [1, 0, 2, 3, 4, 5, 6, 7] (by decide) rfl)⟩
    · intro K hK
      go_simp
      have F214 := F205.new 76 #[.int .i64 m.fr, .int .i64 m.to, .int .i64 m.li.lo, .int .i64 m.li.hi] (n := w204.heap.size) (by simp)
      clear F205
      refine ru_back hK (by exact ⟨F214.cl 5 0 rfl rfl, F214.cl 5 1 rfl rfl, F214.cl 4 0 rfl rfl, F214.cl 4 1 rfl rfl, F214.cl 4 2 rfl rfl, F214.cl 4 3 rfl rfl⟩) (fun _ => ?_)
      exact hZ158.out _ _ _ (by kernel_rfl) rfl rfl ⟨yg0, w204.heap.size, yg12, rfl, rfl, rfl, rfl, rfl, rfl, (by first | omega | (simp; done) | (simp; omega)), (F214.pick [1, 0, 2, 3, 4, 5, 6, 7] (by decide) rfl)⟩
  intro hZ203
  refine ru_state 34 (fun t w_ => ∃ (yg4 : Nat) (yg9 : Nat), t 4 = .pointer (some ⟨w.heap.size + 2, 0, none⟩) ∧ t 17 = .slice aa b.accs.length ak ∧ t 19 = .slice (some ⟨yg4, 0, none⟩) 0 0 ∧ t 21 = .slice ma b.mvs.length mk ∧ t 24 = .slice (some ⟨yg9, 0, none⟩) 1 1 ∧ w9.heap.size ≤ w_.heap.size ∧ Bun w [rbox yg9 76 #[.int .i64 m.fr, .int .i64 m.to, .int .i64 m.li.lo, .int .i64 m.li.hi], rbox yg4 76 #[], rbox (w.heap.size + 2) 25 #[.slice none 0 0, .slice none 0 0], rbox (w.heap.size + 1) 76 #[.int .i64 m.fr, .int .i64 m.to, .int .i64 m.li.lo, .int .i64 m.li.hi], rbox w.heap.size 25 #[.slice aa b.accs.length ak, .slice ma b.mvs.length mk], rsl mvEnc 4 l2 h2 (.slice ma b.mvs.length mk) b.mvs, rsl accEnc 6 l1 h1 (.slice aa b.accs.length ak) b.accs] w_) #[false, true, true, false, true, true, true, false, true, true, false, false, false, false] 7 ?st215 ?nx215
  case st215 =>
    rintro t w216 ⟨yg4, yg9, e4, e17, e19, e21, e24, hsz215, F217⟩
    clear F11
    rw [rng_rpost_c t, e4, e17, e19, e21, e24]
    clear e4 e17 e19 e21 e24
    have hws215 := F217.gb.size
    have yg9l := F217.ltAt 0 rfl yg9 rfl
    have yg9b := yg9l.2 rfl
    have yg4l := F217.ltAt 1 rfl yg4 rfl
    have yg4b := yg4l.2 rfl
    refine ru_two 0 12 rfl rfl (by kernel_rfl) ?_ ?_
    · intro K hK
      go_simp
      have F218 := F217.new 79 #[] (n := w216.heap.size) (by simp)
      clear F217
      refine ru_back hK (by exact ⟨F218.cl 5 0 rfl rfl, F218.cl 5 1 rfl rfl, F218.cl 4 0 rfl rfl, F218.cl 4 1 rfl rfl, F218.cl 4 2 rfl rfl, F218.cl 4 3 rfl rfl⟩) (fun _ => ?_)
      exact hZ136.out _ _ _ (by kernel_rfl) rfl rfl ⟨w216.heap.size, yg4, yg9, rfl, rfl, rfl, rfl, rfl, rfl, (by first | omega | (simp; done) | (simp; omega)), (F218.pick [1, 2, 0, 3, 4, 5, 6, 7] (by decide) rfl)⟩
    · intro K hK
      go_simp
      have F219 := F217.new 25 #[.slice none 0 0, .slice none 0 0] (n := w216.heap.size) (by simp)
      clear F217
      refine ru_back hK (by exact ⟨F219.cl 5 0 rfl rfl, F219.cl 5 1 rfl rfl, F219.cl 4 0 rfl rfl, F219.cl 4 1 rfl rfl, F219.cl 4 2 rfl rfl, F219.cl 4 3 rfl rfl⟩) (fun _ => ?_)
      exact hZ169.out _ _ _ (by kernel_rfl) rfl rfl ⟨yg4, yg9, w216.heap.size, rfl, rfl, rfl, rfl, rfl, rfl, (by first | omega | (simp; done) | (simp; omega)), F219⟩
  intro hZ215
  refine ru_state 34 (fun t w_ => ∃ (yg4 : Nat) (yg12 : Nat), t 4 = .pointer (some ⟨w.heap.size + 2, 0, none⟩) ∧ t 7 = .pointer (some ⟨yg12, 0, none⟩) ∧ t 17 = .slice aa b.accs.length ak ∧ t 19 = .slice (some ⟨yg4, 0, none⟩) 0 0 ∧ t 21 = .slice ma b.mvs.length mk ∧ t 23 = .agg #[.int .i64 m.fr, .int .i64 m.to, .int .i64 m.li.lo, .int .i64 m.li.hi] ∧ w9.heap.size ≤ w_.heap.size ∧ Bun w [rbox yg12 25 #[.slice none 0 0, .slice none 0 0], rbox yg4 76 #[], rbox (w.heap.size + 2) 25 #[.slice none 0 0, .slice none 0 0], rbox (w.heap.size + 1) 76 #[.int .i64 m.fr, .int .i64 m.to, .int .i64 m.li.lo, .int .i64 m.li.hi], rbox w.heap.size 25 #[.slice aa b.accs.length ak, .slice ma b.mvs.length mk], rsl mvEnc 4 l2 h2 (.slice ma b.mvs.length mk) b.mvs, rsl accEnc 6 l1 h1 (.slice aa b.accs.length ak) b.accs] w_) #[false, true, true, false, true, true, true, false, true, false, false, false, true, false] 7 ?st220 ?nx220
  case st220 =>
    rintro t w221 ⟨yg4, yg12, e4, e7, e17, e19, e21, e23, hsz220, F222⟩
    clear F11
    rw [rng_rpost_c t, e4, e7, e17, e19, e21, e23]
    clear e4 e7 e17 e19 e21 e23
    have hws220 := F222.gb.size
    have yg12l := F222.ltAt 0 rfl yg12 rfl
    have yg12b := yg12l.2 rfl
    have yg4l := F222.ltAt 1 rfl yg4 rfl
    have yg4b := yg4l.2 rfl
    refine ru_two 0 9 rfl rfl (by kernel_rfl) ?_ ?_
    · intro K hK
      go_simp
      have F223 := F222.new 79 #[] (n := w221.heap.size) (by simp)
      clear F222
      refine ru_back hK (by exact ⟨F223.cl 5 0 rfl rfl, F223.cl 5 1 rfl rfl, F223.cl 4 0 rfl rfl, F223.cl 4 1 rfl rfl, F223.cl 4 2 rfl rfl, F223.cl 4 3 rfl rfl⟩) (fun _ => ?_)
      exact hZ147.out _ _ _ (by kernel_rfl) rfl rfl ⟨w221.heap.size, yg4, yg12, rfl, rfl, rfl, rfl, rfl, rfl, rfl, (by first | omega | (simp; done) | (simp; omega)), (F223.pick [1, 2, 0, 3, 4, 5, 6, 7] (by decide) rfl)⟩
    · intro K hK
      go_simp
      have F224 := F222.new 76 #[.int .i64 m.fr, .int .i64 m.to, .int .i64 m.li.lo, .int .i64 m.li.hi] (n := w221.heap.size) (by simp)
      clear F222
      refine ru_back hK (by exact ⟨F224.cl 5 0 rfl rfl, F224.cl 5 1 rfl rfl, F224.cl 4 0 rfl rfl, F224.cl 4 1 rfl rfl, F224.cl 4 2 rfl rfl, F224.cl 4 3 rfl rfl⟩) (fun _ => ?_)
      exact hZ169.out _ _ _ (by kernel_rfl) rfl rfl ⟨yg4, w221.heap.size, yg12, rfl, rfl, rfl, rfl, rfl, rfl, (by first | omega | (simp; done) | (simp; omega)), (F224.pick [1, 0, 2, 3, 4, 5, 6, 7] (by decide) rfl)⟩
  intro hZ220
  refine ru_state 34 (fun t w_ => ∃ (yg9 : Nat) (yg12 : Nat), t 4 = .pointer (some ⟨w.heap.size + 2, 0, none⟩) ∧ t 7 = .pointer (some ⟨yg12, 0, none⟩) ∧ t 17 = .slice aa b.accs.length ak ∧ t 21 = .slice ma b.mvs.length mk ∧ t 24 = .slice (some ⟨yg9, 0, none⟩) 1 1 ∧ w9.heap.size ≤ w_.heap.size ∧ Bun w [rbox yg12 25 #[.slice none 0 0, .slice none 0 0], rbox yg9 76 #[.int .i64 m.fr, .int .i64 m.to, .int .i64 m.li.lo, .int .i64 m.li.hi], rbox (w.heap.size + 2) 25 #[.slice none 0 0, .slice none 0 0], rbox (w.heap.size + 1) 76 #[.int .i64 m.fr, .int .i64 m.to, .int .i64 m.li.lo, .int .i64 m.li.hi], rbox w.heap.size 25 #[.slice aa b.accs.length ak, .slice ma b.mvs.length mk], rsl mvEnc 4 l2 h2 (.slice ma b.mvs.length mk) b.mvs, rsl accEnc 6 l1 h1 (.slice aa b.accs.length ak) b.accs] w_) #[false, true, true, false, false, true, true, false, true, true, false, false, true, false] 7 ?st225 ?nx225
  case st225 =>
    rintro t w226 ⟨yg9, yg12, e4, e7, e17, e21, e24, hsz225, F227⟩
    clear F11
    rw [rng_rpost_c t, e4, e7, e17, e21, e24]
    clear e4 e7 e17 e21 e24
    have hws225 := F227.gb.size
    have yg12l := F227.ltAt 0 rfl yg12 rfl
    have yg12b := yg12l.2 rfl
    have yg9l := F227.ltAt 1 rfl yg9 rfl
    have yg9b := yg9l.2 rfl
    refine ru_two 0 4 rfl rfl (by kernel_rfl) ?_ ?_
    · intro K hK
      go_simp
      have F228 := F227.new 79 #[] (n := w226.heap.size) (by simp)
      clear F227
      refine ru_back hK (by exact ⟨F228.cl 5 0 rfl rfl, F228.cl 5 1 rfl rfl, F228.cl 4 0 rfl rfl, F228.cl 4 1 rfl rfl, F228.cl 4 2 rfl rfl, F228.cl 4 3 rfl rfl⟩) (fun _ => ?_)
      exact hZ158.out _ _ _ (by kernel_rfl) rfl rfl ⟨w226.heap.size, yg9, yg12, rfl, rfl, rfl, rfl, rfl, rfl, (by first | omega | (simp; done) | (simp; omega)), (F228.pick [1, 2, 0, 3, 4, 5, 6, 7] (by decide) rfl)⟩
    · intro K hK
      go_simp
      have F229 := F227.new 76 #[] (n := w226.heap.size) (by simp)
      clear F227
      refine ru_back hK (by exact ⟨F229.cl 5 0 rfl rfl, F229.cl 5 1 rfl rfl, F229.cl 4 0 rfl rfl, F229.cl 4 1 rfl rfl, F229.cl 4 2 rfl rfl, F229.cl 4 3 rfl rfl⟩) (fun _ => ?_)
      exact hZ169.out _ _ _ (by kernel_rfl) rfl rfl ⟨w226.heap.size, yg9, yg12, rfl, rfl, rfl, rfl, rfl, rfl, (by first | omega | (simp; done) | (simp; omega)), (F229.pick [1, 2, 0, 3, 4, 5, 6, 7] (by decide) rfl)⟩
  intro hZ225
  refine ru_state 34 (fun t w_ => ∃ (yg0 : Nat), t 4 = .pointer (some ⟨w.heap.size + 2, 0, none⟩) ∧ t 15 = .slice (some ⟨yg0, 0, none⟩) 0 0 ∧ t 17 = .slice aa b.accs.length ak ∧ t 21 = .slice ma b.mvs.length mk ∧ t 23 = .agg #[.int .i64 m.fr, .int .i64 m.to, .int .i64 m.li.lo, .int .i64 m.li.hi] ∧ w9.heap.size ≤ w_.heap.size ∧ Bun w [rbox yg0 79 #[], rbox (w.heap.size + 2) 25 #[.slice none 0 0, .slice none 0 0], rbox (w.heap.size + 1) 76 #[.int .i64 m.fr, .int .i64 m.to, .int .i64 m.li.lo, .int .i64 m.li.hi], rbox w.heap.size 25 #[.slice aa b.accs.length ak, .slice ma b.mvs.length mk], rsl mvEnc 4 l2 h2 (.slice ma b.mvs.length mk) b.mvs, rsl accEnc 6 l1 h1 (.slice aa b.accs.length ak) b.accs] w_) #[true, true, true, false, false, true, true, false, true, false, false, false, false, false] 8 ?st230 ?nx230
  case st230 =>
    rintro t w231 ⟨yg0, e4, e15, e17, e21, e23, hsz230, F232⟩
    clear F11
    rw [rng_rpost_c t, e4, e15, e17, e21, e23]
    clear e4 e15 e17 e21 e23
    have hws230 := F232.gb.size
    have yg0l := F232.ltAt 0 rfl yg0 rfl
    have yg0b := yg0l.2 rfl
    refine ru_four 3 4 9 12 rfl rfl rfl rfl (by kernel_rfl) ?_ ?_ ?_ ?_
    · intro K hK
      refine step_copyB okAc rfl _ _ rfl w.heap.size yg0 rfl (F232) (by first | omega | (simp; omega)) l1 h1 (.slice aa b.accs.length ak) b.accs rfl (F232.at 5 rfl) (by omega) ?_
      intro vc233 w234 hB235 hs236
      (try simp at hs236)
      have F237 := hB235
      clear F232
      obtain ⟨ca238, cap239, e_⟩ := (Own.sl (F237.at 0 rfl : Own accEnc 79 6 w.heap.size _ vc233 b.accs) (fun _ => rfl)).any
      subst e_
      refine ru_back hK (by exact ⟨F237.cl 3 0 rfl rfl, F237.cl 3 1 rfl rfl, F237.cl 2 0 rfl rfl, F237.cl 2 1 rfl rfl, F237.cl 2 2 rfl rfl, F237.cl 2 3 rfl rfl⟩) (fun _ => ?_)
      exact hZ173.out _ _ _ (by kernel_rfl) rfl rfl ⟨yg0, ca238, cap239, rfl, rfl, rfl, rfl, (by first | omega | (simp; done) | (simp; omega)), F237⟩
    · intro K hK
      go_simp
      have F240 := F232.new 76 #[] (n := w231.heap.size) (by simp)
      clear F232
      refine ru_back hK (by exact ⟨F240.cl 4 0 rfl rfl, F240.cl 4 1 rfl rfl, F240.cl 3 0 rfl rfl, F240.cl 3 1 rfl rfl, F240.cl 3 2 rfl rfl, F240.cl 3 3 rfl rfl⟩) (fun _ => ?_)
      exact hZ179.out _ _ _ (by kernel_rfl) rfl rfl ⟨yg0, w231.heap.size, rfl, rfl, rfl, rfl, rfl, rfl, (by first | omega | (simp; done) | (simp; omega)), F240⟩
    · intro K hK
      go_simp
      have F241 := F232.new 76 #[.int .i64 m.fr, .int .i64 m.to, .int .i64 m.li.lo, .int .i64 m.li.hi] (n := w231.heap.size) (by simp)
      clear F232
      refine ru_back hK (by exact ⟨F241.cl 4 0 rfl rfl, F241.cl 4 1 rfl rfl, F241.cl 3 0 rfl rfl, F241.cl 3 1 rfl rfl, F241.cl 3 2 rfl rfl, F241.cl 3 3 rfl rfl⟩) (fun _ => ?_)
      exact hZ191.out _ _ _ (by kernel_rfl) rfl rfl ⟨yg0, w231.heap.size, rfl, rfl, rfl, rfl, rfl, (by first | omega | (simp; done) | (simp; omega)), F241⟩
    · intro K hK
      go_simp
      have F242 := F232.new 25 #[.slice none 0 0, .slice none 0 0] (n := w231.heap.size) (by simp)
      clear F232
      refine ru_back hK (by exact ⟨F242.cl 4 0 rfl rfl, F242.cl 4 1 rfl rfl, F242.cl 3 0 rfl rfl, F242.cl 3 1 rfl rfl, F242.cl 3 2 rfl rfl, F242.cl 3 3 rfl rfl⟩) (fun _ => ?_)
      exact hZ203.out _ _ _ (by kernel_rfl) rfl rfl ⟨yg0, w231.heap.size, rfl, rfl, rfl, rfl, rfl, rfl, (by first | omega | (simp; done) | (simp; omega)), F242⟩
  intro hZ230
  refine ru_state 34 (fun t w_ => ∃ (yg4 : Nat), t 4 = .pointer (some ⟨w.heap.size + 2, 0, none⟩) ∧ t 17 = .slice aa b.accs.length ak ∧ t 19 = .slice (some ⟨yg4, 0, none⟩) 0 0 ∧ t 21 = .slice ma b.mvs.length mk ∧ t 23 = .agg #[.int .i64 m.fr, .int .i64 m.to, .int .i64 m.li.lo, .int .i64 m.li.hi] ∧ w9.heap.size ≤ w_.heap.size ∧ Bun w [rbox yg4 76 #[], rbox (w.heap.size + 2) 25 #[.slice none 0 0, .slice none 0 0], rbox (w.heap.size + 1) 76 #[.int .i64 m.fr, .int .i64 m.to, .int .i64 m.li.lo, .int .i64 m.li.hi], rbox w.heap.size 25 #[.slice aa b.accs.length ak, .slice ma b.mvs.length mk], rsl mvEnc 4 l2 h2 (.slice ma b.mvs.length mk) b.mvs, rsl accEnc 6 l1 h1 (.slice aa b.accs.length ak) b.accs] w_) #[false, true, true, false, true, true, true, false, true, false, false, false, false, false] 8 ?st243 ?nx243
  case st243 =>
    rintro t w244 ⟨yg4, e4, e17, e19, e21, e23, hsz243, F245⟩
    clear F11
    rw [rng_rpost_c t, e4, e17, e19, e21, e23]
    clear e4 e17 e19 e21 e23
    have hws243 := F245.gb.size
    have yg4l := F245.ltAt 0 rfl yg4 rfl
    have yg4b := yg4l.2 rfl
    refine ru_three 0 9 12 rfl rfl rfl (by kernel_rfl) ?_ ?_ ?_
    · intro K hK
      go_simp
      have F246 := F245.new 79 #[] (n := w244.heap.size) (by simp)
      clear F245
      refine ru_back hK (by exact ⟨F246.cl 4 0 rfl rfl, F246.cl 4 1 rfl rfl, F246.cl 3 0 rfl rfl, F246.cl 3 1 rfl rfl, F246.cl 3 2 rfl rfl, F246.cl 3 3 rfl rfl⟩) (fun _ => ?_)
      exact hZ179.out _ _ _ (by kernel_rfl) rfl rfl ⟨w244.heap.size, yg4, rfl, rfl, rfl, rfl, rfl, rfl, (by first | omega | (simp; done) | (simp; omega)), (F246.pick [1, 0, 2, 3, 4, 5, 6] (by decide) rfl)⟩
    · intro K hK
      go_simp
      have F247 := F245.new 76 #[.int .i64 m.fr, .int .i64 m.to, .int .i64 m.li.lo, .int .i64 m.li.hi] (n := w244.heap.size) (by simp)
      clear F245
      refine ru_back hK (by exact ⟨F247.cl 4 0 rfl rfl, F247.cl 4 1 rfl rfl, F247.cl 3 0 rfl rfl, F247.cl 3 1 rfl rfl, F247.cl 3 2 rfl rfl, F247.cl 3 3 rfl rfl⟩) (fun _ => ?_)
      exact hZ215.out _ _ _ (by kernel_rfl) rfl rfl ⟨yg4, w244.heap.size, rfl, rfl, rfl, rfl, rfl, (by first | omega | (simp; done) | (simp; omega)), F247⟩
    · intro K hK
      go_simp
      have F248 := F245.new 25 #[.slice none 0 0, .slice none 0 0] (n := w244.heap.size) (by simp)
      clear F245
      refine ru_back hK (by exact ⟨F248.cl 4 0 rfl rfl, F248.cl 4 1 rfl rfl, F248.cl 3 0 rfl rfl, F248.cl 3 1 rfl rfl, F248.cl 3 2 rfl rfl, F248.cl 3 3 rfl rfl⟩) (fun _ => ?_)
      exact hZ220.out _ _ _ (by kernel_rfl) rfl rfl ⟨yg4, w244.heap.size, rfl, rfl, rfl, rfl, rfl, rfl, (by first | omega | (simp; done) | (simp; omega)), F248⟩
  intro hZ243
  refine ru_state 34 (fun t w_ => ∃ (yg9 : Nat), t 4 = .pointer (some ⟨w.heap.size + 2, 0, none⟩) ∧ t 17 = .slice aa b.accs.length ak ∧ t 21 = .slice ma b.mvs.length mk ∧ t 24 = .slice (some ⟨yg9, 0, none⟩) 1 1 ∧ w9.heap.size ≤ w_.heap.size ∧ Bun w [rbox yg9 76 #[.int .i64 m.fr, .int .i64 m.to, .int .i64 m.li.lo, .int .i64 m.li.hi], rbox (w.heap.size + 2) 25 #[.slice none 0 0, .slice none 0 0], rbox (w.heap.size + 1) 76 #[.int .i64 m.fr, .int .i64 m.to, .int .i64 m.li.lo, .int .i64 m.li.hi], rbox w.heap.size 25 #[.slice aa b.accs.length ak, .slice ma b.mvs.length mk], rsl mvEnc 4 l2 h2 (.slice ma b.mvs.length mk) b.mvs, rsl accEnc 6 l1 h1 (.slice aa b.accs.length ak) b.accs] w_) #[false, true, true, false, false, true, true, false, true, true, false, false, false, false] 8 ?st249 ?nx249
  case st249 =>
    rintro t w250 ⟨yg9, e4, e17, e21, e24, hsz249, F251⟩
    clear F11
    rw [rng_rpost_c t, e4, e17, e21, e24]
    clear e4 e17 e21 e24
    have hws249 := F251.gb.size
    have yg9l := F251.ltAt 0 rfl yg9 rfl
    have yg9b := yg9l.2 rfl
    refine ru_three 0 4 12 rfl rfl rfl (by kernel_rfl) ?_ ?_ ?_
    · intro K hK
      go_simp
      have F252 := F251.new 79 #[] (n := w250.heap.size) (by simp)
      clear F251
      refine ru_back hK (by exact ⟨F252.cl 4 0 rfl rfl, F252.cl 4 1 rfl rfl, F252.cl 3 0 rfl rfl, F252.cl 3 1 rfl rfl, F252.cl 3 2 rfl rfl, F252.cl 3 3 rfl rfl⟩) (fun _ => ?_)
      exact hZ191.out _ _ _ (by kernel_rfl) rfl rfl ⟨w250.heap.size, yg9, rfl, rfl, rfl, rfl, rfl, (by first | omega | (simp; done) | (simp; omega)), (F252.pick [1, 0, 2, 3, 4, 5, 6] (by decide) rfl)⟩
    · intro K hK
      go_simp
      have F253 := F251.new 76 #[] (n := w250.heap.size) (by simp)
      clear F251
      refine ru_back hK (by exact ⟨F253.cl 4 0 rfl rfl, F253.cl 4 1 rfl rfl, F253.cl 3 0 rfl rfl, F253.cl 3 1 rfl rfl, F253.cl 3 2 rfl rfl, F253.cl 3 3 rfl rfl⟩) (fun _ => ?_)
      exact hZ215.out _ _ _ (by kernel_rfl) rfl rfl ⟨w250.heap.size, yg9, rfl, rfl, rfl, rfl, rfl, (by first | omega | (simp; done) | (simp; omega)), (F253.pick [1, 0, 2, 3, 4, 5, 6] (by decide) rfl)⟩
    · intro K hK
      go_simp
      have F254 := F251.new 25 #[.slice none 0 0, .slice none 0 0] (n := w250.heap.size) (by simp)
      clear F251
      refine ru_back hK (by exact ⟨F254.cl 4 0 rfl rfl, F254.cl 4 1 rfl rfl, F254.cl 3 0 rfl rfl, F254.cl 3 1 rfl rfl, F254.cl 3 2 rfl rfl, F254.cl 3 3 rfl rfl⟩) (fun _ => ?_)
      exact hZ225.out _ _ _ (by kernel_rfl) rfl rfl ⟨yg9, w250.heap.size, rfl, rfl, rfl, rfl, rfl, (by first | omega | (simp; done) | (simp; omega)), F254⟩
  intro hZ249
  refine ru_state 34 (fun t w_ => ∃ (yg12 : Nat), t 4 = .pointer (some ⟨w.heap.size + 2, 0, none⟩) ∧ t 7 = .pointer (some ⟨yg12, 0, none⟩) ∧ t 17 = .slice aa b.accs.length ak ∧ t 21 = .slice ma b.mvs.length mk ∧ t 23 = .agg #[.int .i64 m.fr, .int .i64 m.to, .int .i64 m.li.lo, .int .i64 m.li.hi] ∧ w9.heap.size ≤ w_.heap.size ∧ Bun w [rbox yg12 25 #[.slice none 0 0, .slice none 0 0], rbox (w.heap.size + 2) 25 #[.slice none 0 0, .slice none 0 0], rbox (w.heap.size + 1) 76 #[.int .i64 m.fr, .int .i64 m.to, .int .i64 m.li.lo, .int .i64 m.li.hi], rbox w.heap.size 25 #[.slice aa b.accs.length ak, .slice ma b.mvs.length mk], rsl mvEnc 4 l2 h2 (.slice ma b.mvs.length mk) b.mvs, rsl accEnc 6 l1 h1 (.slice aa b.accs.length ak) b.accs] w_) #[false, true, true, false, false, true, true, false, true, false, false, false, true, false] 8 ?st255 ?nx255
  case st255 =>
    rintro t w256 ⟨yg12, e4, e7, e17, e21, e23, hsz255, F257⟩
    clear F11
    rw [rng_rpost_c t, e4, e7, e17, e21, e23]
    clear e4 e7 e17 e21 e23
    have hws255 := F257.gb.size
    have yg12l := F257.ltAt 0 rfl yg12 rfl
    have yg12b := yg12l.2 rfl
    refine ru_three 0 4 9 rfl rfl rfl (by kernel_rfl) ?_ ?_ ?_
    · intro K hK
      go_simp
      have F258 := F257.new 79 #[] (n := w256.heap.size) (by simp)
      clear F257
      refine ru_back hK (by exact ⟨F258.cl 4 0 rfl rfl, F258.cl 4 1 rfl rfl, F258.cl 3 0 rfl rfl, F258.cl 3 1 rfl rfl, F258.cl 3 2 rfl rfl, F258.cl 3 3 rfl rfl⟩) (fun _ => ?_)
      exact hZ203.out _ _ _ (by kernel_rfl) rfl rfl ⟨w256.heap.size, yg12, rfl, rfl, rfl, rfl, rfl, rfl, (by first | omega | (simp; done) | (simp; omega)), (F258.pick [1, 0, 2, 3, 4, 5, 6] (by decide) rfl)⟩
    · intro K hK
      go_simp
      have F259 := F257.new 76 #[] (n := w256.heap.size) (by simp)
      clear F257
      refine ru_back hK (by exact ⟨F259.cl 4 0 rfl rfl, F259.cl 4 1 rfl rfl, F259.cl 3 0 rfl rfl, F259.cl 3 1 rfl rfl, F259.cl 3 2 rfl rfl, F259.cl 3 3 rfl rfl⟩) (fun _ => ?_)
      exact hZ220.out _ _ _ (by kernel_rfl) rfl rfl ⟨w256.heap.size, yg12, rfl, rfl, rfl, rfl, rfl, rfl, (by first | omega | (simp; done) | (simp; omega)), (F259.pick [1, 0, 2, 3, 4, 5, 6] (by decide) rfl)⟩
    · intro K hK
      go_simp
      have F260 := F257.new 76 #[.int .i64 m.fr, .int .i64 m.to, .int .i64 m.li.lo, .int .i64 m.li.hi] (n := w256.heap.size) (by simp)
      clear F257
      refine ru_back hK (by exact ⟨F260.cl 4 0 rfl rfl, F260.cl 4 1 rfl rfl, F260.cl 3 0 rfl rfl, F260.cl 3 1 rfl rfl, F260.cl 3 2 rfl rfl, F260.cl 3 3 rfl rfl⟩) (fun _ => ?_)
      exact hZ225.out _ _ _ (by kernel_rfl) rfl rfl ⟨w256.heap.size, yg12, rfl, rfl, rfl, rfl, rfl, (by first | omega | (simp; done) | (simp; omega)), (F260.pick [1, 0, 2, 3, 4, 5, 6] (by decide) rfl)⟩
  intro hZ255
  refine ru_four 0 4 9 12 rfl rfl rfl rfl (by kernel_rfl) ?_ ?_ ?_ ?_
  · intro K hK
    go_simp
    have F261 := F11.new 79 #[] (n := wd13.heap.size) (by simp)
    clear F11
    refine ru_back hK (by exact ⟨F261.cl 3 0 rfl rfl, F261.cl 3 1 rfl rfl, F261.cl 2 0 rfl rfl, F261.cl 2 1 rfl rfl, F261.cl 2 2 rfl rfl, F261.cl 2 3 rfl rfl⟩) (fun _ => ?_)
    exact hZ230.out _ _ _ (by kernel_rfl) rfl rfl ⟨wd13.heap.size, rfl, rfl, rfl, rfl, rfl, (by first | omega | (simp; done) | (simp; omega)), F261⟩
  · intro K hK
    go_simp
    have F262 := F11.new 76 #[] (n := wd13.heap.size) (by simp)
    clear F11
    refine ru_back hK (by exact ⟨F262.cl 3 0 rfl rfl, F262.cl 3 1 rfl rfl, F262.cl 2 0 rfl rfl, F262.cl 2 1 rfl rfl, F262.cl 2 2 rfl rfl, F262.cl 2 3 rfl rfl⟩) (fun _ => ?_)
    exact hZ243.out _ _ _ (by kernel_rfl) rfl rfl ⟨wd13.heap.size, rfl, rfl, rfl, rfl, rfl, (by first | omega | (simp; done) | (simp; omega)), F262⟩
  · intro K hK
    go_simp
    have F263 := F11.new 76 #[.int .i64 m.fr, .int .i64 m.to, .int .i64 m.li.lo, .int .i64 m.li.hi] (n := wd13.heap.size) (by simp)
    clear F11
    refine ru_back hK (by exact ⟨F263.cl 3 0 rfl rfl, F263.cl 3 1 rfl rfl, F263.cl 2 0 rfl rfl, F263.cl 2 1 rfl rfl, F263.cl 2 2 rfl rfl, F263.cl 2 3 rfl rfl⟩) (fun _ => ?_)
    exact hZ249.out _ _ _ (by kernel_rfl) rfl rfl ⟨wd13.heap.size, rfl, rfl, rfl, rfl, (by first | omega | (simp; done) | (simp; omega)), F263⟩
  · intro K hK
    go_simp
    have F264 := F11.new 25 #[.slice none 0 0, .slice none 0 0] (n := wd13.heap.size) (by simp)
    clear F11
    refine ru_back hK (by exact ⟨F264.cl 3 0 rfl rfl, F264.cl 3 1 rfl rfl, F264.cl 2 0 rfl rfl, F264.cl 2 1 rfl rfl, F264.cl 2 2 rfl rfl, F264.cl 2 3 rfl rfl⟩) (fun _ => ?_)
    exact hZ255.out _ _ _ (by kernel_rfl) rfl rfl ⟨wd13.heap.size, rfl, rfl, rfl, rfl, rfl, (by first | omega | (simp; done) | (simp; omega)), F264⟩

noncomputable def refR (b : Bok) : Bok := if checkE b = 0 then refB b else ⟨[], []⟩
/-- A book of the call's own, or none, and an error. -/
def BookT (c : Bok) (er : Int) (w : World) : Ending → World → Prop := fun e w' => ∃ (a1 : Option Addr) (c1 : Nat) (a2 : Option Addr) (c2 lo hi : Nat), e = .returned (.tuple #[.agg #[.slice a1 c.accs.length c1, .slice a2 c.mvs.length c2], .int .i64 er]) ∧ (w.heap.size ≤ lo ∧ hi ≤ w'.heap.size) ∧
  HasB lo hi w' (.slice a1 c.accs.length c1) (.slice a2 c.mvs.length c2) c ∧ w.grownBy w' none
theorem nil_hasB (w : World) : HasB w.heap.size w.heap.size w (.slice none (⟨[], []⟩ : Bok).accs.length 0) (.slice none (⟨[], []⟩ : Bok).mvs.length 0) ⟨[], []⟩ := ⟨⟨Nat.zero_le _, none, 0, rfl, .inl rfl⟩, ⟨Nat.zero_le _, none, 0, rfl, .inl rfl⟩⟩
theorem BookT.nix {er : Int} {w w' : World} {e : Ending} (h : Ret (.tuple #[.agg #[.slice none 0 0, .slice none 0 0], .int .i64 er]) w e w') : BookT ⟨[], []⟩ er w e w' :=
  ⟨none, 0, none, 0, w'.heap.size, w'.heap.size, h.1, ⟨h.2.size, Nat.le_refl _⟩, nil_hasB w', h.2⟩
theorem BookT.ref {b : Bok} {w w' : World} {e : Ending} (h : RefP b w e w') (h0 : checkE b = 0) : BookT (refR b) (checkE b) w e w' := by
  obtain ⟨a1, c1, a2, c2, lo, hi, rfl, h1, h2, h3⟩ := h
  have e1 : (refB b).accs.length = b.accs.length := refAL_len _ _
  have e2 : (refB b).mvs.length = b.mvs.length := refML_len _ _
  refine ⟨a1, c1, a2, c2, lo, hi, ?_, h1, ?_, h3⟩
  · unfold refR
    rw [if_pos h0, h0, e1, e2]
  · unfold refR
    rw [if_pos h0, e1, e2]
    exact h2
noncomputable def postR (b : Bok) (m : Mv) : Bok := if checkE b = 0 ∧ checkE (addM b m) = 0 then addM b m else ⟨[], []⟩
noncomputable def postX (b : Bok) (m : Mv) : Int := if checkE b = 0 then checkE (addM b m) else checkE b
theorem BookT.post {b : Bok} {m : Mv} {w w' : World} {e : Ending} (h : PostB b m w e w') (h0 : checkE b = 0) (h1 : checkE (addM b m) = 0) : BookT (postR b m) (postX b m) w e w' := by
  obtain ⟨a1, c1, a2, c2, lo, hi, rfl, h2, h3, h4⟩ := h
  have e2 : (addM b m).mvs.length = b.mvs.length + 1 := by simp [addM]
  refine ⟨a1, c1, a2, c2, lo, hi, ?_, h2, ?_, h4⟩
  · unfold postR postX
    rw [if_pos ⟨h0, h1⟩, if_pos h0, h1, e2]
    rfl
  · unfold postR
    rw [if_pos ⟨h0, h1⟩, e2]
    exact h3
section
variable (l1 h1 l2 h2 : Nat) (va vm : Value) (b : Bok) (w : World) (ha : Accs l1 h1 w va b.accs) (hm : Mvs l2 h2 w vm b.mvs) (b1 : h1 ≤ w.heap.size) (b2 : h2 ≤ w.heap.size) (hn : nameOk b.accs)
include ha hm b1 b2 hn
theorem fref_t : Calls Try.prog 51 #[.agg #[va, vm]] w (BookT (refR b) (checkE b) w) := by
  by_cases h0 : checkE b = 0
  · exact (fref_c l1 h1 l2 h2 va vm b w ha hm b1 b2 hn h0).mono fun _ _ h => BookT.ref h h0
  · refine (fref_no l1 h1 l2 h2 va vm b w ha hm b1 b2 hn h0).mono fun _ _ h => ?_
    unfold refR
    rw [if_neg h0]
    exact BookT.nix h
theorem rref_t : Calls Try.prog 61 #[.agg #[va, vm]] w (BookT (refR b) (checkE b) w) := by
  by_cases h0 : checkE b = 0
  · exact (rref_q l1 h1 l2 h2 va vm b w ha hm b1 b2 hn h0).mono fun _ _ h => BookT.ref h.p h0
  · refine (rrefine_e1 l1 h1 l2 h2 va vm b w ha hm b1 b2 hn h0).mono fun _ _ h => ?_
    unfold refR
    rw [if_neg h0]
    exact BookT.nix h
variable (m : Mv) (hs1 : b.accs.length ≤ 100000000000) (hs2 : b.mvs.length ≤ 10000000000)
include hs1 hs2
theorem fpost_t : Calls Try.prog 47 #[.agg #[va, vm], .agg #[.int .i64 m.fr, .int .i64 m.to, .int .i64 m.li.lo, .int .i64 m.li.hi]] w (BookT (postR b m) (postX b m) w) := by
  by_cases h0 : checkE b = 0
  · by_cases h3 : checkE (addM b m) = 0
    · exact (fpost_c l1 h1 l2 h2 va vm b m w ha hm b1 b2 hn h0 h3 hs1 hs2).mono fun _ _ h => BookT.post h h0 h3
    · refine (fpost_e2 l1 h1 l2 h2 va vm b m w ha hm b1 b2 hn h0 h3 hs1 hs2).mono fun _ _ h => ?_
      unfold postR postX
      rw [if_neg (fun h_ => h3 h_.2), if_pos h0]
      exact BookT.nix h
  · refine (fpost_e1 l1 h1 l2 h2 va vm b m w ha hm b1 b2 hn h0).mono fun _ _ h => ?_
    unfold postR postX
    rw [if_neg (fun h_ => h0 h_.1), if_neg h0]
    exact BookT.nix h
theorem rpost_t : Calls Try.prog 62 #[.agg #[va, vm], .agg #[.int .i64 m.fr, .int .i64 m.to, .int .i64 m.li.lo, .int .i64 m.li.hi]] w (BookT (postR b m) (postX b m) w) := by
  by_cases h0 : checkE b = 0
  · refine (rpost_c l1 h1 l2 h2 va vm b m w ha hm b1 b2 hn h0 hs1 hs2).mono fun _ _ h => ?_
    rcases h with ⟨h3, h⟩ | ⟨h3, h⟩
    · exact BookT.post h h0 h3
    · unfold postR postX
      rw [if_neg (fun h_ => h3 h_.2), if_pos h0]
      exact BookT.nix h
  · refine (rpost_e1 l1 h1 l2 h2 va vm b m w ha hm b1 b2 hn h0).mono fun _ _ h => ?_
    unfold postR postX
    rw [if_neg (fun h_ => h0 h_.1), if_neg h0]
    exact BookT.nix h
end
end Go.Proofs.Ytfifldbinnkdmaa
