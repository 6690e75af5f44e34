/- build and its reference: what is too big. -/
import Derived.Test.YtokelpmngahnoaaUE0
set_option linter.unusedVariables false
set_option linter.unusedSimpArgs false
set_option linter.unnecessarySimpa false
namespace Go.Proofs.Ytokelpmngahnoaa
open Go.RowKit
set_option maxRecDepth 100000
attribute [local go_sem] Oper.semAt_some
structure BigOk (ms : List Mch) (ts : List Tsk) (dl : List Wea) : Prop where
 m : ms.length <= 20
 t : ts.length <= 40
 af : ∀ t ∈ ts, t.af.length <= 40
 d : dl.length <= 20 ∨ 400 < dl.length /\ dl.length <= 420
def BigR (ms : List Mch) (ts : List Tsk) (dl : List Wea) (w : World) : Ending -> World -> Prop := fun e w' => ∃ b : Bool, e = .returned (.bool b) /\ (b = false -> BigOk ms ts dl) /\ w.grownBy w' none
theorem af_next {ts : List Tsk} {k : Nat} {z : Tsk} (h : ∀ (i : Nat) (y : Tsk), i < k -> ts[i]? = some y -> y.af.length <= 40) (hz : ts[k]? = some z) (hn : z.af.length <= 40) : ∀ (i : Nat) (y : Tsk), i < k + 1 -> ts[i]? = some y -> y.af.length <= 40 := by
 intro i y hi hy
 rcases Nat.lt_succ_iff_lt_or_eq.1 hi with h_ | rfl
 · exact h i y h_ hy
 rw [hz] at hy
 cases hy
 exact hn
theorem af_all {ts : List Tsk} {k : Nat} (h : ∀ (i : Nat) (y : Tsk), i < k -> ts[i]? = some y -> y.af.length <= 40) (hk : ts.length <= k) : ∀ t ∈ ts, t.af.length <= 40 := by
 intro t ht
 obtain ⟨i, hi, e⟩ := List.getElem_of_mem ht
 exact h i t (by omega) (by rw [List.getElem?_eq_getElem hi, e])
set_option maxHeartbeats 8000000 in
theorem bbig_c (lo hi : Nat) (vm vt : Value) (ms : List Mch) (ts : List Tsk) (lo2 hi2 : Nat) (vd : Value) (dl : List Wea) (w : World) (hj : JobAt lo hi w vm vt ms ts) (h2 : hi <= w.heap.size) (hd : Sl weaEnc 6 lo2 hi2 w vd dl) (h3 : hi2 <= w.heap.size) :
  Calls Try.prog 14 #[.agg #[vm, vt], vd] w (BigR ms ts dl w) := by
 have F1 : Bun w [] w := Bun.nil _
 obtain ⟨hms, hts, haf⟩ := hj
 have hm_ms := hms.len
 unfold maxLen at hm_ms
 obtain ⟨aM, cM, rfl⟩ := hms.any
 replace F1 := F1.sl0 hms h2 rfl
 clear hms
 have hm_ts := hts.len
 unfold maxLen at hm_ts
 obtain ⟨aT, cT, rfl⟩ := hts.any
 replace F1 := F1.sl0 hts h2 rfl
 clear hts
 replace F1 := F1.non0 (rafs lo hi ts) haf (fun _ h_ => Nat.lt_of_lt_of_le h_.2 h2) rfl rfl
 clear haf
 have hm_ds := hd.len
 unfold maxLen at hm_ds
 obtain ⟨ad, cd, rfl⟩ := hd.any
 replace F1 := F1.sl0 hd h3 rfl
 clear hd
 go_enter Try.func14, Try.ntmps14
 go_wp2_with fail
 replace F1 := F1.new 25 #[.slice aM ms.length cM, .slice aT ts.length cT] (n := w.heap.size) (by simp)
 obtain ⟨HI7_, HI70⟩ : ∃ I : RelT, I = (fun t ds wr => ∃ (k : Nat), t 1 = .slice ad dl.length cd /\ t 2 = .pointer (some ⟨w.heap.size, 0, none⟩) /\ t 5 = .int .i64 (k : Int) /\ k <= ts.length /\ Hid (∀ (i : Nat) (y : Tsk), i < k -> ts[i]? = some y -> y.af.length <= 40) /\ ds = [] /\ w.heap.size <= wr.heap.size /\ Bun w [rbox w.heap.size 25 #[.slice aM ms.length cM, .slice aT ts.length cT], rsl weaEnc 6 lo2 hi2 (.slice ad dl.length cd) dl, rafs lo hi ts, rsl tskEnc 8 lo hi (.slice aT ts.length cT) ts, rsl mchEnc 3 lo hi (.slice aM ms.length cM) ms] wr) := ⟨_, rfl⟩
 have HI7 := lhd HI70
 clear HI70
 refine wp_loopS 46 rfl HI7_ (fun t wr => ts.length - (intOf (t 5)).toNat) ?atStart1 ?round1
 case round1 =>
  intro t ds wr hHid
  rw [HI7.out] at hHid
  obtain ⟨k, e1, e2, e5, hrel⟩ := hHid
  have e : ((List.range 46).map t).toArray = #[t 0, t 1, t 2, t 3, t 4, t 5, t 6, t 7, t 8, t 9, t 10, t 11, t 12, t 13, t 14, t 15, t 16, t 17, t 18, t 19, t 20, t 21, t 22, t 23, t 24, t 25, t 26, t 27, t 28, t 29, t 30, t 31, t 32, t 33, t 34, t 35, t 36, t 37, t 38, t 39, t 40, t 41, t 42, t 43, t 44, t 45] := rfl
  (try dsimp only at e)
  rw [e1, e2, e5] at e
  rw [e]
  simp only [e5]
  clear e e1 e2 e5
  obtain ⟨hk, HAL, rfl, hs9, hF8⟩ := hrel
  clear F1
  obtain ⟨w10, rfl⟩ : ∃ x_ : World, x_ = wr := ⟨_, rfl⟩
  by_cases c11 : (k : Int) < (ts.length : Int)
  ·
   have c11H := lhd c11
   obtain ⟨x12, o13, e_⟩ := Sl.addr (hF8.at 3 rfl : Sl tskEnc 8 lo hi _ (.slice aT ts.length cT) ts) (by omega)
   subst e_
   obtain ⟨z, hz14_⟩ : ∃ z_, ts[k]? = some z_ := ⟨_, List.getElem?_eq_getElem (by omega)⟩
   have hz14 := lhd hz14_
   clear hz14_
   obtain ⟨a_z, c_z, hav_z, hcap_z, hsl_z⟩ := Afs.open (hF8.at 2 rfl : Afs lo hi _ ts) hz14.out
   have HAV_z := lhd hav_z
   clear hav_z
   have F15 := hF8.more 2 (rsl intEnc 1 lo hi (.slice a_z z.af.length c_z) z.af) rfl rfl rfl (fun _ h_ => h_) hsl_z
   clear hF8
   have hm_z := (F15.at 0 rfl : Sl intEnc 1 lo hi _ (.slice a_z z.af.length c_z) z.af).len
   unfold maxLen at hm_z
   by_cases c16 : 40 < (z.af.length : Int)
   ·
    have c16H := lhd c16
    have b17 := F15.bx2 1 rfl
    have ge18 : World.cell? _ ⟨x12, o13 + k * 8 + 7, none⟩ = some (.slice a_z z.af.length c_z) := (HAV_z.out ▸ (Sl.cells (F15.at 4 rfl) hz14.out 7 _ rfl))
    have gl19 := cell_lt ge18
    go_wp2_with fail
    clear b17 ge18 gl19
    go_ret
    exact ⟨_, rfl, (fun h_ => by first | (simp at h_; done) | ((try simp at h_); exact ⟨by omega, by omega, HAA.out, by omega⟩)), F15.gb⟩
   have c16H := lhd c16
   have c16a : decide (40 < (z.af.length : Int)) = false := dec_f c16
   have b20 := F15.bx2 1 rfl
   have ge21 : World.cell? _ ⟨x12, o13 + k * 8 + 7, none⟩ = some (.slice a_z z.af.length c_z) := (HAV_z.out ▸ (Sl.cells (F15.at 4 rfl) hz14.out 7 _ rfl))
   have gl22 := cell_lt ge21
   go_wp2_with fail
   clear b20 ge21 gl22
   have F23 : Bun w [rbox w.heap.size 25 #[.slice aM ms.length cM, .slice (some ⟨x12, o13, none⟩) ts.length cT], rsl weaEnc 6 lo2 hi2 (.slice ad dl.length cd) dl, rafs lo hi ts, rsl tskEnc 8 lo hi (.slice (some ⟨x12, o13, none⟩) ts.length cT) ts, rsl mchEnc 3 lo hi (.slice aM ms.length cM) ms] _ := F15.pick [1, 2, 3, 4, 5] (by decide) rfl
   clear F15
   (first | refine ⟨by kernel_rfl, ?_, ?_⟩ | refine ⟨rfl, ?_, ?_⟩ | refine ⟨?_, ?_⟩)
   · rw [HI7.out]; exact ⟨k + 1, (by kernel_rfl), (by kernel_rfl), (by show Value.int .i64 ((k : Int) + 1) = _; simp), (by omega), (lhd (af_next HAL.out hz14.out (by omega))), (by first | rfl | simp), (by first | omega | (simp; done) | (simp; omega)), F23⟩
   · simp [slot, intOf]; omega
  have c11H := lhd c11
  have c11a : decide ((k : Int) < (ts.length : Int)) = false := dec_f c11
  have HAA := lhd (af_all HAL.out (by omega))
  by_cases c24 : 20 < (ms.length : Int)
  ·
   have c24H := lhd c24
   have b25 := hF8.bx2 0 rfl
   go_wp2_with fail
   clear b25
   go_ret
   exact ⟨_, rfl, (fun h_ => by first | (simp at h_; done) | ((try simp at h_); exact ⟨by omega, by omega, HAA.out, by omega⟩)), hF8.gb⟩
  have c24H := lhd c24
  have c24a : decide (20 < (ms.length : Int)) = false := dec_f c24
  by_cases c26 : 40 < (ts.length : Int)
  ·
   have c26H := lhd c26
   have b27 := hF8.bx2 0 rfl
   go_wp2_with fail
   clear b27
   go_ret
   exact ⟨_, rfl, (fun h_ => by first | (simp at h_; done) | ((try simp at h_); exact ⟨by omega, by omega, HAA.out, by omega⟩)), hF8.gb⟩
  have c26H := lhd c26
  have c26a : decide (40 < (ts.length : Int)) = false := dec_f c26
  by_cases c28 : 20 < (dl.length : Int)
  ·
   have c28H := lhd c28
   by_cases c29 : (dl.length : Int) <= 400
   ·
    have c29H := lhd c29
    have b30 := hF8.bx2 0 rfl
    go_wp2_with fail
    clear b30
    go_ret
    exact ⟨_, rfl, (fun h_ => by first | (simp at h_; done) | ((try simp at h_); exact ⟨by omega, by omega, HAA.out, by omega⟩)), hF8.gb⟩
   have c29H := lhd c29
   have c29a : decide ((dl.length : Int) <= 400) = false := dec_f c29
   have b31 := hF8.bx2 0 rfl
   go_wp2_with fail
   clear b31
   go_ret
   exact ⟨_, rfl, (fun h_ => by first | (simp at h_; done) | ((try simp at h_); exact ⟨by omega, by omega, HAA.out, by omega⟩)), hF8.gb⟩
  have c28H := lhd c28
  have c28a : decide (20 < (dl.length : Int)) = false := dec_f c28
  have b32 := hF8.bx2 0 rfl
  go_wp2_with fail
  clear b32
  go_ret
  exact ⟨_, rfl, (fun h_ => by first | (simp at h_; done) | ((try simp at h_); exact ⟨by omega, by omega, HAA.out, by omega⟩)), hF8.gb⟩
 case atStart1 =>
  rw [HI7.out]
  exact ⟨0, (by kernel_rfl), (by kernel_rfl), rfl, Nat.zero_le _, lhd (fun i y hi _ => absurd hi (Nat.not_lt_zero _)), rfl, (by first | exact Nat.le_refl _ | omega | (simp; done) | (simp; omega)), F1⟩
end Go.Proofs.Ytokelpmngahnoaa
