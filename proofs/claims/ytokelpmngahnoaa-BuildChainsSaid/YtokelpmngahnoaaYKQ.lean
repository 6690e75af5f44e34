/- build and its reference: the cause of a task's begin by the reference. -/
import Derived.Test.YtokelpmngahnoaaYT3
import Derived.Test.YtokelpmngahnoaaYG0
import Derived.Test.YtokelpmngahnoaaYG5
import Derived.Test.YtokelpmngahnoaaYI2
import Derived.Test.YtokelpmngahnoaaYL0
import Derived.Test.YtokelpmngahnoaaYE1
import Derived.Test.YtokelpmngahnoaaYE2
import Derived.Test.YtokelpmngahnoaaYJK1
import Derived.Test.YtokelpmngahnoaaYJK2
import Derived.Test.YtokelpmngahnoaaYW2
set_option linter.unusedVariables false
set_option linter.unusedSimpArgs false
set_option linter.unnecessarySimpa false
namespace Go.Proofs.Ytokelpmngahnoaa
open Go.RowKit
set_option maxRecDepth 100000
attribute [local go_sem] Oper.semAt_some
theorem rgKQ95 (t : Nat -> Value) : ((List.range 95).map t).toArray = #[t 0, t 1, t 2, t 3, t 4, t 5, t 6, t 7, t 8, t 9, t 10, t 11, t 12, t 13, t 14, t 15, t 16, t 17, t 18, t 19, t 20, t 21, t 22, t 23, t 24, t 25, t 26, t 27, t 28, t 29, t 30, t 31, t 32, t 33, t 34, t 35, t 36, t 37, t 38, t 39, t 40, t 41, t 42, t 43, t 44, t 45, t 46, t 47, t 48, t 49, t 50, t 51, t 52, t 53, t 54, t 55, t 56, t 57, t 58, t 59, t 60, t 61, t 62, t 63, t 64, t 65, t 66, t 67, t 68, t 69, t 70, t 71, t 72, t 73, t 74, t 75, t 76, t 77, t 78, t 79, t 80, t 81, t 82, t 83, t 84, t 85, t 86, t 87, t 88, t 89, t 90, t 91, t 92, t 93, t 94] := rfl
theorem rgKQ72 (t : Nat -> Value) : ((List.range 72).map t).toArray = #[t 0, t 1, t 2, t 3, t 4, t 5, t 6, t 7, t 8, t 9, t 10, t 11, t 12, t 13, t 14, t 15, t 16, t 17, t 18, t 19, t 20, t 21, t 22, t 23, t 24, t 25, t 26, t 27, t 28, t 29, t 30, t 31, t 32, t 33, t 34, t 35, t 36, t 37, t 38, t 39, t 40, t 41, t 42, t 43, t 44, t 45, t 46, t 47, t 48, t 49, t 50, t 51, t 52, t 53, t 54, t 55, t 56, t 57, t 58, t 59, t 60, t 61, t 62, t 63, t 64, t 65, t 66, t 67, t 68, t 69, t 70, t 71] := rfl
def rcs (c : Cs) (N i : Nat) : Int := if c.fr i = c.bgI N i then -1 else if c.cause N i < i then ((c.cause N i : Nat) : Int) else -1
theorem rcs_fr {c : Cs} {N i : Nat} (h : c.fr i = c.bgI N i) : rcs c N i = -1 := by rw [rcs, if_pos h]
theorem rcs_at {c : Cs} {N i q : Nat} (h : ¬ c.fr i = c.bgI N i) (hno : ∀ j, j < q -> c.cz N i j = false) (hq : q < i) (hz : c.cz N i q = true) : rcs c N i = (q : Int) := by
 have e : c.cause N i = q := fndN_at hno hq hz
 rw [rcs, if_neg h, e, if_pos hq]
theorem rcs_no {c : Cs} {N i : Nat} (h : ¬ c.fr i = c.bgI N i) (hno : ∀ j, j < i -> c.cz N i j = false) : rcs c N i = -1 := by
 have h2 : ¬ c.cause N i < i := fun hl => by
  have h5 : c.cz N i (c.cause N i) = true := fndN_yes (f := c.cz N i) i 0 (by unfold Cs.cause at hl; omega)
  rw [hno _ hl] at h5
  cases h5
 rw [rcs, if_neg h, if_neg h2]
theorem bef_next (c : Cs) (m : Int) (k : Nat) {x : Int} (h : c.bef m k = x) : c.bef m (k + 1) = if c.m k = m then (k : Int) else x := by rw [Cs.bef, h]
theorem cz_m {c : Cs} {N i q : Nat} (h1 : (q : Int) = c.bef (c.m i) i) (h2 : enAt (c.plan N) q = bgAt (c.plan N) i) : c.cz N i q = true := by
 unfold Cs.cz Cs.czM
 rw [decide_eq_true h1.symm, decide_eq_true (show c.enI N q = c.bgI N i from h2)]
 simp
theorem cz_a {c : Cs} {N i q : Nat} (h1 : (q : Int) ∈ c.af i) (h2 : enAt (c.plan N) q + c.wa q = bgAt (c.plan N) i) : c.cz N i q = true := by
 unfold Cs.cz Cs.czA
 rw [decide_eq_true (show c.enI N q + c.wa q = c.bgI N i from h2), show (c.af i).contains (q : Int) = true by simpa using h1]
 rfl
theorem cz_n {c : Cs} {N i q : Nat} (h1 : ¬ ((q : Int) = c.bef (c.m i) i /\ enAt (c.plan N) q = bgAt (c.plan N) i)) (h2 : ∀ y ∈ c.af i, ¬ (y = (q : Int) /\ enAt (c.plan N) q + c.wa q = bgAt (c.plan N) i)) : c.cz N i q = false := by
 rw [Bool.eq_false_iff]
 intro h
 unfold Cs.cz Cs.czA Cs.czM at h
 rw [Bool.or_eq_true, Bool.and_eq_true, Bool.and_eq_true] at h
 rcases h with ⟨a, b⟩ | ⟨a, b⟩
 · exact h2 (q : Int) (by simpa using a) ⟨rfl, of_decide_eq_true b⟩
 · exact h1 ⟨(of_decide_eq_true a).symm, of_decide_eq_true b⟩
set_option maxHeartbeats 16000000 in
theorem rcause_c (lo hi : Nat) (vm vt : Value) (ms : List Mch) (ts : List Tsk) (lo3 hi3 : Nat) (vh vw vf vk : Value) (lh lw lf : List Int) (rows : List (Value × List Bool)) (lo4 hi4 : Nat) (vp : Value) (c : Cs) (i : Nat) (w : World) (hj : JobAt lo hi w vm vt ms ts) (h2 : hi <= w.heap.size) (hca : CaseAt lo3 hi3 w vh vw vf vk lh lw lf rows) (h4 : hi3 <= w.heap.size) (hpl : Sl prEnc 2 lo4 hi4 w vp (c.plan ts.length)) (h5 : hi4 <= w.heap.size) (hcs : CsIs c ms ts lh lw lf (rows.map (·.2))) (hco : CsOk c) (hiN : i < ts.length) (hta : ∀ (k : Nat) (t : Tsk), ts[k]? = some t -> ∀ a ∈ t.af, 0 <= a /\ a < (k : Int)) :
  Calls Try.prog 99 #[.agg #[vm, vt], .agg #[vh, vw, vf, vk], vp, .int .i64 (i : Int)] w (Ret (.int .i64 (rcs c ts.length i)) w) := by
 have F1 : Bun w [] w := Bun.nil _
 obtain ⟨hms, hts, haf⟩ := hj
 have hm_ms := hms.len
 unfold maxLen at hm_ms
 obtain ⟨aM, cM, rfl⟩ := hms.any
 have F2 := F1.sl0 hms h2 rfl
 clear F1
 clear hms
 have hm_ts := hts.len
 unfold maxLen at hm_ts
 obtain ⟨aT, cT, rfl⟩ := hts.any
 have F3 := F2.sl0 hts h2 rfl
 clear F2
 clear hts
 have F4 := F3.non0 (rafs lo hi ts) haf (fun _ h_ => Nat.lt_of_lt_of_le h_.2 h2) rfl rfl
 clear F3
 clear haf
 obtain ⟨hch, hcw, hcf, hck, hcr⟩ := hca
 have hm_cho := hch.len
 unfold maxLen at hm_cho
 obtain ⟨ah, cah, rfl⟩ := hch.any
 have F5 := F4.sl0 hch h4 rfl
 clear F4
 clear hch
 have hm_cwa := hcw.len
 unfold maxLen at hm_cwa
 obtain ⟨aw, caw, rfl⟩ := hcw.any
 have F6 := F5.sl0 hcw h4 rfl
 clear F5
 clear hcw
 have hm_cfr := hcf.len
 unfold maxLen at hm_cfr
 obtain ⟨af, caf, rfl⟩ := hcf.any
 have F7 := F6.sl0 hcf h4 rfl
 clear F6
 clear hcf
 obtain ⟨ak, cak, rfl⟩ := hck.any
 simp only [List.length_map] at hck ⊢
 have hm_cwk : rows.length <= 2 ^ 63 - 1 := by have h_ := hck.len; unfold maxLen at h_; simpa using h_
 have F8 := F7.sl0 hck h4 rfl
 clear F7
 clear hck
 have F9 := F8.non0 (rrwsl lo3 hi3 rows) hcr (fun _ h_ => Nat.lt_of_lt_of_le h_.2 h4) rfl rfl
 clear F8
 clear hcr
 have hm_pl := hpl.len
 unfold maxLen at hm_pl
 obtain ⟨aP, cP, rfl⟩ := hpl.any
 have F10 := F9.sl0 hpl h5 rfl
 clear F9
 clear hpl
 have HCS := lhd hcs
 have HCO := lhd hco
 have hlf : lf.length = ts.length := by rw [HCS.out.fr]; simp
 have hlw : lw.length = ts.length := by rw [HCS.out.wa]; simp
 have HLL := lhd (And.intro hlf hlw)
 have hii : (i : Int) < (ts.length : Int) := by omega
 have hil2 : (i : Int) < (lf.length : Int) := by omega
 clear hcs hco hlf hlw
 have HAFS := lhd hta
 clear hta
 have hpll : ts.length <= (c.plan ts.length).length /\ (c.plan ts.length).length <= ts.length := by rw [Cs.plan_len]; omega
 rw [Cs.plan_len] at *
 (skip)
 go_enter Try.func99, Try.ntmps99
 have F11 := F10.new 25 #[.slice aM ms.length cM, .slice aT ts.length cT] (n := w.heap.size) (by simp)
 clear F10
 have F12 := F11.new 51 #[.slice ah lh.length cah, .slice aw lw.length caw, .slice af lf.length caf, .slice ak rows.length cak] (n := (w.heap.size + 1)) (by simp)
 clear F11
 obtain ⟨x13, o14, e_⟩ := Sl.addr (F12.at 9 rfl : Sl tskEnc 8 lo hi _ (.slice aT ts.length cT) ts) (by omega)
 subst e_
 obtain ⟨z, hz15_⟩ : ∃ z_, ts[i]? = some z_ := ⟨_, List.getElem?_eq_getElem (by omega)⟩
 have hz15 := lhd hz15_
 clear hz15_
 obtain ⟨a_z, c_z, hav_z, hcap_z, hsl_z⟩ := Afs.open (F12.at 8 rfl : Afs lo hi _ ts) hz15.out
 have HAV_z := lhd hav_z
 clear hav_z
 have F16 := F12.more 8 (rsl intEnc 1 lo hi (.slice a_z z.af.length c_z) z.af) rfl rfl rfl (fun _ h_ => h_) hsl_z
 clear F12
 have hm_z := (F16.at 0 rfl : Sl intEnc 1 lo hi _ (.slice a_z z.af.length c_z) z.af).len
 unfold maxLen at hm_z
 obtain ⟨x17, o18, e_⟩ := Sl.addr (F16.at 3 rfl : Sl prEnc 2 lo4 hi4 _ (.slice aP ts.length cP) (c.plan ts.length)) (by rw [Cs.plan_len]; omega)
 subst e_
 obtain ⟨x19, o20, e_⟩ := Sl.addr (F16.at 6 rfl : Sl intEnc 1 lo3 hi3 _ (.slice af lf.length caf) lf) (by have h_ := HLL.out.1; omega)
 subst e_
 have hz21 : Hid ((c.plan ts.length)[i]? = some (bgAt (c.plan ts.length) i, enAt (c.plan ts.length) i)) := lhd (plan_at _ (by omega))
 have hz22 : Hid (lf[i]? = some (c.fr i)) := lhd (rng_at HCS.out.fr (by omega))
 have HZM : Hid (z.m = c.m i /\ z.af = c.af i) := lhd (by rw [HCS.out.m, HCS.out.af, tk_get hz15.out]; exact ⟨rfl, rfl⟩)
 go_wp2_with fail
 have Fn_ := F16
 (try dsimp only [List.eraseIdx_cons_succ, List.eraseIdx_cons_zero] at Fn_)
 obtain ⟨w23, hx24, F26, hxs25⟩ := Fn_.name
 (try simp at hxs25)
 rw [hx24]
 clear hx24 F16 Fn_
 have F27 := F26.drew
 clear F26
 refine ru_begin (fun W => W.cell? ⟨w.heap.size, 1, none⟩ = some (.slice (some ⟨x13, o14, none⟩) ts.length cT) /\ W.cell? ⟨x13, o14 + i * 8, none⟩ = some (.int .i64 z.m) /\ W.cell? ⟨x13, o14 + i * 8 + 1, none⟩ = some (.int .i64 z.ho.lo) /\ W.cell? ⟨x13, o14 + i * 8 + 2, none⟩ = some (.int .i64 z.ho.hi) /\ W.cell? ⟨x13, o14 + i * 8 + 3, none⟩ = some (.int .i64 z.wa.lo) /\ W.cell? ⟨x13, o14 + i * 8 + 4, none⟩ = some (.int .i64 z.wa.hi) /\ W.cell? ⟨x13, o14 + i * 8 + 5, none⟩ = some (.int .i64 z.fr.lo) /\ W.cell? ⟨x13, o14 + i * 8 + 6, none⟩ = some (.int .i64 z.fr.hi) /\ W.cell? ⟨x13, o14 + i * 8 + 7, none⟩ = some (.slice a_z z.af.length c_z)) 11 (by kernel_rfl) ?_ ?_
 · exact ⟨F27.cl 2 1 rfl rfl, (Sl.cells (F27.at 10 rfl) hz15.out 0 _ rfl), (Sl.cells (F27.at 10 rfl) hz15.out 1 _ rfl), (Sl.cells (F27.at 10 rfl) hz15.out 2 _ rfl), (Sl.cells (F27.at 10 rfl) hz15.out 3 _ rfl), (Sl.cells (F27.at 10 rfl) hz15.out 4 _ rfl), (Sl.cells (F27.at 10 rfl) hz15.out 5 _ rfl), (Sl.cells (F27.at 10 rfl) hz15.out 6 _ rfl), (HAV_z.out ▸ (Sl.cells (F27.at 10 rfl) hz15.out 7 _ rfl))⟩
 obtain ⟨wd29, hwd_⟩ : ∃ x : World, w23.drew = x := ⟨_, rfl⟩
 rw [hwd_] at F27 ⊢
 have wd29s : w23.heap.size <= wd29.heap.size := by rw [← hwd_]; exact Nat.le_refl _
 clear hwd_
 have hS28 := (And.intro (F27.cl 2 1 rfl rfl) (And.intro ((Sl.cells (F27.at 10 rfl) hz15.out 0 _ rfl)) (And.intro ((Sl.cells (F27.at 10 rfl) hz15.out 1 _ rfl)) (And.intro ((Sl.cells (F27.at 10 rfl) hz15.out 2 _ rfl)) (And.intro ((Sl.cells (F27.at 10 rfl) hz15.out 3 _ rfl)) (And.intro ((Sl.cells (F27.at 10 rfl) hz15.out 4 _ rfl)) (And.intro ((Sl.cells (F27.at 10 rfl) hz15.out 5 _ rfl)) (And.intro ((Sl.cells (F27.at 10 rfl) hz15.out 6 _ rfl)) ((HAV_z.out ▸ (Sl.cells (F27.at 10 rfl) hz15.out 7 _ rfl)))))))))))
 refine ru_t 0 [] ?_
 refine ru_t 1 [] ?_
 refine ru_t 2 [] ?_
 refine ru_t 3 [] ?_
 refine ru_t 4 [] ?_
 (try simp only [Act.put, lpA, lpB, lpC])
 refine ru_p 5 ?_
 refine ru_p 6 ?_
 (try simp only [Act.put, lpA, lpB, lpC])
 refine ru_p 7 ?_
 (try simp only [Act.put, lpA, lpB, lpC])
 refine ru_p 8 ?_
 (try simp only [Act.put, lpA, lpB, lpC])
 clear hS28
 refine ru_two 9 10 rfl rfl (by kernel_rfl) ?_ ?_
 ·
  intro K hK
  have kq0_ : World.cell? _ ⟨x17, o18 + i * 2, none⟩ = some (.int .i64 (bgAt (c.plan ts.length) i)) := (Sl.cells (F27.at 3 rfl) hz21.out 0 _ rfl)
  go_simp
  clear kq0_
  refine ru_back hK (by exact ⟨F27.cl 2 1 rfl rfl, (Sl.cells (F27.at 10 rfl) hz15.out 0 _ rfl), (Sl.cells (F27.at 10 rfl) hz15.out 1 _ rfl), (Sl.cells (F27.at 10 rfl) hz15.out 2 _ rfl), (Sl.cells (F27.at 10 rfl) hz15.out 3 _ rfl), (Sl.cells (F27.at 10 rfl) hz15.out 4 _ rfl), (Sl.cells (F27.at 10 rfl) hz15.out 5 _ rfl), (Sl.cells (F27.at 10 rfl) hz15.out 6 _ rfl), (HAV_z.out ▸ (Sl.cells (F27.at 10 rfl) hz15.out 7 _ rfl))⟩) (fun hHeld => ?_)
  clear hK K
  (try simp only [Act.put, lpA, lpB, lpC])
  refine ru_one 10 rfl (by kernel_rfl) (fun K hK => ?_)
  go_simp
  have F30 := F27.new 79 #[.int .i64 0, .int .i64 0, .int .i64 0, .int .i64 0, .int .i64 0, .int .i64 0, .int .i64 0, .slice none 0 0] (n := wd29.heap.size) (by simp)
  clear F27
  refine ru_back hK (by exact ⟨F30.cl 3 1 rfl rfl, (Sl.cells (F30.at 11 rfl) hz15.out 0 _ rfl), (Sl.cells (F30.at 11 rfl) hz15.out 1 _ rfl), (Sl.cells (F30.at 11 rfl) hz15.out 2 _ rfl), (Sl.cells (F30.at 11 rfl) hz15.out 3 _ rfl), (Sl.cells (F30.at 11 rfl) hz15.out 4 _ rfl), (Sl.cells (F30.at 11 rfl) hz15.out 5 _ rfl), (Sl.cells (F30.at 11 rfl) hz15.out 6 _ rfl), (HAV_z.out ▸ (Sl.cells (F30.at 11 rfl) hz15.out 7 _ rfl))⟩) (fun hHeld => ?_)
  clear hK K
  (try simp only [Act.put, lpA, lpB, lpC])
  refine ru_one 11 rfl (by kernel_rfl) (fun K hK => ?_)
  have Fn_ := F30
  (try dsimp only [List.eraseIdx_cons_succ, List.eraseIdx_cons_zero] at Fn_)
  obtain ⟨w31, hx32, F34, hxs33⟩ := Fn_.name
  (try simp at hxs33)
  rw [hx32]
  clear hx32 F30 Fn_
  have kb_ := F34.bx8 0 rfl
  go_simp
  clear kb_
  have F35 := F34.pt8 (.int .i64 z.m) (.int .i64 z.ho.lo) (.int .i64 z.ho.hi) (.int .i64 z.wa.lo) (.int .i64 z.wa.hi) (.int .i64 z.fr.lo) (.int .i64 z.fr.hi) (.slice a_z z.af.length c_z)
  clear F34
  refine ru_back_late hK (by kernel_rfl) ?_
  clear hK K
  (try simp only [Act.put, lpA, lpB, lpC])
  refine ru_one 12 rfl (by kernel_rfl) (fun K hK => ?_)
  go_simp
  refine ru_back_late hK (by kernel_rfl) ?_
  clear hK K
  (try simp only [Act.put, lpA, lpB, lpC])
  refine ru_done (by kernel_rfl) ?_
  have Fn_ := F35
  (try dsimp only [List.eraseIdx_cons_succ, List.eraseIdx_cons_zero] at Fn_)
  obtain ⟨w36, hx37, F39, hxs38⟩ := Fn_.name
  (try simp at hxs38)
  rw [hx37]
  clear hx37 F35 Fn_
  by_cases c40 : c.fr i = bgAt (c.plan ts.length) i
  ·
   have c40a : ((c.fr i) == (bgAt (c.plan ts.length) i)) = true := beq_t c40
   have c40b : ((c.fr i) != (bgAt (c.plan ts.length) i)) = false := bne_f c40
   have c40H := lhd c40
   clear c40
   have Hx41 := lhd (show ((rcs c ts.length i : Int)) = -1 by exact rcs_fr c40H.out)
   have b42 := F39.bx4 2 rfl
   have ge43 : World.cell? _ ⟨x19, o20 + i, none⟩ = some (.int .i64 (c.fr i)) := (by have h_ := Sl.cells (F39.at 7 rfl) hz22.out 0 _ rfl; simpa using h_)
   have gl44 := cell_lt ge43
   go_wp2_with fail
   clear b42 ge43 gl44
   go_ret
   exact ⟨by rw [Hx41.out] <;> rfl, F39.gb⟩
  have c40a : ((c.fr i) == (bgAt (c.plan ts.length) i)) = false := beq_f c40
  have c40b : ((c.fr i) != (bgAt (c.plan ts.length) i)) = true := bne_t c40
  have c40H := lhd c40
  clear c40
  have b45 := F39.bx4 2 rfl
  have ge46 : World.cell? _ ⟨x19, o20 + i, none⟩ = some (.int .i64 (c.fr i)) := (by have h_ := Sl.cells (F39.at 7 rfl) hz22.out 0 _ rfl; simpa using h_)
  have gl47 := cell_lt ge46
  go_wp2_with fail
  clear b45 ge46 gl47
  obtain ⟨HI48_, HI480⟩ : ∃ I : RelT, I = (fun t ds wr => ∃ (k : Nat), t 2 = .slice (some ⟨x17, o18, none⟩) ts.length cP /\ t 3 = .int .i64 (i : Int) /\ t 4 = .pointer (some ⟨w.heap.size, 0, none⟩) /\ t 5 = .pointer (some ⟨w.heap.size + 1, 0, none⟩) /\ t 9 = .pointer (some ⟨wd29.heap.size, 0, none⟩) /\ t 10 = .int .i64 (bgAt (c.plan ts.length) i) /\ t 11 = .int .i64 (c.bef (c.m i) k) /\ t 12 = .int .i64 (k : Int) /\ k <= i /\ ds = [] /\ w36.heap.size <= wr.heap.size /\ Bun w [rbox wd29.heap.size 79 #[.int .i64 z.m, .int .i64 z.ho.lo, .int .i64 z.ho.hi, .int .i64 z.wa.lo, .int .i64 z.wa.hi, .int .i64 z.fr.lo, .int .i64 z.fr.hi, .slice a_z z.af.length c_z], rsl intEnc 1 lo hi (.slice a_z z.af.length c_z) z.af, rbox (w.heap.size + 1) 51 #[.slice ah lh.length cah, .slice aw lw.length caw, .slice (some ⟨x19, o20, none⟩) lf.length caf, .slice ak rows.length cak], rbox w.heap.size 25 #[.slice aM ms.length cM, .slice (some ⟨x13, o14, none⟩) ts.length cT], rsl prEnc 2 lo4 hi4 (.slice (some ⟨x17, o18, none⟩) ts.length cP) (c.plan ts.length), rrwsl lo3 hi3 rows, rsl vEncS 1 lo3 hi3 (.slice ak rows.length cak) (rows.map (·.1)), rsl intEnc 1 lo3 hi3 (.slice (some ⟨x19, o20, none⟩) lf.length caf) lf, rsl intEnc 1 lo3 hi3 (.slice aw lw.length caw) lw, rsl intEnc 1 lo3 hi3 (.slice ah lh.length cah) lh, rafs lo hi ts, rsl tskEnc 8 lo hi (.slice (some ⟨x13, o14, none⟩) ts.length cT) ts, rsl mchEnc 3 lo hi (.slice aM ms.length cM) ms] wr) := ⟨_, rfl⟩
  have HI48 := lhd HI480
  clear HI480
  refine wp_loopS 95 rfl HI48_ (fun t wr => i - (intOf (t 12)).toNat) ?atStart1 ?round1
  case round1 =>
   intro t ds wr hHid
   rw [HI48.out] at hHid
   obtain ⟨k, e2, e3, e4, e5, e9, e10, e11, e12, hrel⟩ := hHid
   have e := rgKQ95 t
   (try dsimp only at e)
   rw [e2, e3, e4, e5, e9, e10, e11, e12] at e
   rw [e]
   simp only [e12]
   clear e e2 e3 e4 e5 e9 e10 e11 e12
   obtain ⟨hk_, rfl, hs50, hF49⟩ := hrel
   clear F39
   obtain ⟨w51, rfl⟩ : ∃ x_ : World, x_ = wr := ⟨_, rfl⟩
   by_cases c52 : (k : Int) < (i : Int)
   ·
    have c52H := lhd c52
    obtain ⟨u, hz53_⟩ : ∃ z_, ts[k]? = some z_ := ⟨_, List.getElem?_eq_getElem (by omega)⟩
    have hz53 := lhd hz53_
    clear hz53_
    obtain ⟨a_u, c_u, hav_u, hcap_u, hsl_u⟩ := Afs.open (hF49.at 10 rfl : Afs lo hi _ ts) hz53.out
    have HAV_u := lhd hav_u
    clear hav_u
    have F54 := hF49.more 10 (rsl intEnc 1 lo hi (.slice a_u u.af.length c_u) u.af) rfl rfl rfl (fun _ h_ => h_) hsl_u
    clear hF49
    have hm_u := (F54.at 0 rfl : Sl intEnc 1 lo hi _ (.slice a_u u.af.length c_u) u.af).len
    unfold maxLen at hm_u
    have hki : (k : Int) < (ts.length : Int) := by omega
    have HUM : Hid (u.m = c.m k) := lhd (by rw [HCS.out.m, tk_get hz53.out])
    go_wp2_with fail
    have b55 := F54.bx8 1 rfl
    have b56 := F54.bx2 4 rfl
    have ge57 : World.cell? _ ⟨x13, o14 + k * 8, none⟩ = some (.int .i64 u.m) := (Sl.cells (F54.at 12 rfl) hz53.out 0 _ rfl)
    go_quiet (fail)
    clear b55 b56 ge57
    have F58 := F54.drewN nq
    clear F54
    have Fn_ := F58
    (try dsimp only [List.eraseIdx_cons_succ, List.eraseIdx_cons_zero] at Fn_)
    obtain ⟨w59, hx60, F62, hxs61⟩ := Fn_.name
    (try simp at hxs61)
    rw [hx60]
    clear hx60 F58 Fn_
    by_cases c63 : u.m = z.m
    ·
     have c63a : (u.m == z.m) = true := beq_t c63
     have c63b : (u.m != z.m) = false := bne_f c63
     have c63H := lhd c63
     clear c63
     go_wp2_with fail
     have F64 : Bun w [rbox wd29.heap.size 79 #[.int .i64 z.m, .int .i64 z.ho.lo, .int .i64 z.ho.hi, .int .i64 z.wa.lo, .int .i64 z.wa.hi, .int .i64 z.fr.lo, .int .i64 z.fr.hi, .slice a_z z.af.length c_z], rsl intEnc 1 lo hi (.slice a_z z.af.length c_z) z.af, rbox (w.heap.size + 1) 51 #[.slice ah lh.length cah, .slice aw lw.length caw, .slice (some ⟨x19, o20, none⟩) lf.length caf, .slice ak rows.length cak], rbox w.heap.size 25 #[.slice aM ms.length cM, .slice (some ⟨x13, o14, none⟩) ts.length cT], rsl prEnc 2 lo4 hi4 (.slice (some ⟨x17, o18, none⟩) ts.length cP) (c.plan ts.length), rrwsl lo3 hi3 rows, rsl vEncS 1 lo3 hi3 (.slice ak rows.length cak) (rows.map (·.1)), rsl intEnc 1 lo3 hi3 (.slice (some ⟨x19, o20, none⟩) lf.length caf) lf, rsl intEnc 1 lo3 hi3 (.slice aw lw.length caw) lw, rsl intEnc 1 lo3 hi3 (.slice ah lh.length cah) lh, rafs lo hi ts, rsl tskEnc 8 lo hi (.slice (some ⟨x13, o14, none⟩) ts.length cT) ts, rsl mchEnc 3 lo hi (.slice aM ms.length cM) ms] _ := F62.pick [1, 2, 3, 4, 5, 6, 7, 8, 9, 10, 11, 12, 13] (by decide) rfl
     clear F62
     (first | refine ⟨by kernel_rfl, ?_, ?_⟩ | refine ⟨rfl, ?_, ?_⟩ | refine ⟨?_, ?_⟩)
     · rw [HI48.out]; exact ⟨k + 1, (by kernel_rfl), (by kernel_rfl), (by kernel_rfl), (by kernel_rfl), (by kernel_rfl), (by kernel_rfl), (by rw [bef_next c _ k rfl, ← HUM.out, ← HZM.out.1, if_pos c63H.out]; first | kernel_rfl | rfl), (by show Value.int .i64 ((k : Int) + 1) = _; simp), (by omega), (by first | rfl | simp), (by first | omega | (simp; done) | (simp; omega)), F64⟩
     · simp [slot, intOf]; omega
    have c63a : (u.m == z.m) = false := beq_f c63
    have c63b : (u.m != z.m) = true := bne_t c63
    have c63H := lhd c63
    clear c63
    go_wp2_with fail
    have F65 : Bun w [rbox wd29.heap.size 79 #[.int .i64 z.m, .int .i64 z.ho.lo, .int .i64 z.ho.hi, .int .i64 z.wa.lo, .int .i64 z.wa.hi, .int .i64 z.fr.lo, .int .i64 z.fr.hi, .slice a_z z.af.length c_z], rsl intEnc 1 lo hi (.slice a_z z.af.length c_z) z.af, rbox (w.heap.size + 1) 51 #[.slice ah lh.length cah, .slice aw lw.length caw, .slice (some ⟨x19, o20, none⟩) lf.length caf, .slice ak rows.length cak], rbox w.heap.size 25 #[.slice aM ms.length cM, .slice (some ⟨x13, o14, none⟩) ts.length cT], rsl prEnc 2 lo4 hi4 (.slice (some ⟨x17, o18, none⟩) ts.length cP) (c.plan ts.length), rrwsl lo3 hi3 rows, rsl vEncS 1 lo3 hi3 (.slice ak rows.length cak) (rows.map (·.1)), rsl intEnc 1 lo3 hi3 (.slice (some ⟨x19, o20, none⟩) lf.length caf) lf, rsl intEnc 1 lo3 hi3 (.slice aw lw.length caw) lw, rsl intEnc 1 lo3 hi3 (.slice ah lh.length cah) lh, rafs lo hi ts, rsl tskEnc 8 lo hi (.slice (some ⟨x13, o14, none⟩) ts.length cT) ts, rsl mchEnc 3 lo hi (.slice aM ms.length cM) ms] _ := F62.pick [1, 2, 3, 4, 5, 6, 7, 8, 9, 10, 11, 12, 13] (by decide) rfl
    clear F62
    (first | refine ⟨by kernel_rfl, ?_, ?_⟩ | refine ⟨rfl, ?_, ?_⟩ | refine ⟨?_, ?_⟩)
    · rw [HI48.out]; exact ⟨k + 1, (by kernel_rfl), (by kernel_rfl), (by kernel_rfl), (by kernel_rfl), (by kernel_rfl), (by kernel_rfl), (by rw [bef_next c _ k rfl, ← HUM.out, ← HZM.out.1, if_neg c63H.out]; first | kernel_rfl | rfl), (by show Value.int .i64 ((k : Int) + 1) = _; simp), (by omega), (by first | rfl | simp), (by first | omega | (simp; done) | (simp; omega)), F65⟩
    · simp [slot, intOf]; omega
   have c52H := lhd c52
   have c52a : decide ((k : Int) < (i : Int)) = false := dec_f c52
   go_wp2_with fail
   have hkk_ : k = i := by omega
   rw [hkk_]
   clear hkk_
   obtain ⟨HI66_, HI660⟩ : ∃ I : RelT, I = (fun t ds wr => ∃ (q : Nat), t 2 = .slice (some ⟨x17, o18, none⟩) ts.length cP /\ t 3 = .int .i64 (i : Int) /\ t 5 = .pointer (some ⟨w.heap.size + 1, 0, none⟩) /\ t 9 = .pointer (some ⟨wd29.heap.size, 0, none⟩) /\ t 10 = .int .i64 (bgAt (c.plan ts.length) i) /\ t 11 = .int .i64 (c.bef (c.m i) i) /\ t 13 = .int .i64 (q : Int) /\ q <= i /\ Hid (∀ j, j < q -> c.cz ts.length i j = false) /\ ds = [] /\ w51.heap.size <= wr.heap.size /\ Bun w [rbox wd29.heap.size 79 #[.int .i64 z.m, .int .i64 z.ho.lo, .int .i64 z.ho.hi, .int .i64 z.wa.lo, .int .i64 z.wa.hi, .int .i64 z.fr.lo, .int .i64 z.fr.hi, .slice a_z z.af.length c_z], rsl intEnc 1 lo hi (.slice a_z z.af.length c_z) z.af, rbox (w.heap.size + 1) 51 #[.slice ah lh.length cah, .slice aw lw.length caw, .slice (some ⟨x19, o20, none⟩) lf.length caf, .slice ak rows.length cak], rsl prEnc 2 lo4 hi4 (.slice (some ⟨x17, o18, none⟩) ts.length cP) (c.plan ts.length), rrwsl lo3 hi3 rows, rsl vEncS 1 lo3 hi3 (.slice ak rows.length cak) (rows.map (·.1)), rsl intEnc 1 lo3 hi3 (.slice (some ⟨x19, o20, none⟩) lf.length caf) lf, rsl intEnc 1 lo3 hi3 (.slice aw lw.length caw) lw, rsl intEnc 1 lo3 hi3 (.slice ah lh.length cah) lh, rafs lo hi ts, rsl tskEnc 8 lo hi (.slice (some ⟨x13, o14, none⟩) ts.length cT) ts, rsl mchEnc 3 lo hi (.slice aM ms.length cM) ms] wr) := ⟨_, rfl⟩
   have HI66 := lhd HI660
   clear HI660
   refine wp_loopS 95 rfl HI66_ (fun t wr => i - (intOf (t 13)).toNat) ?atStart2 ?round2
   case round2 =>
    intro t ds wr hHid
    rw [HI66.out] at hHid
    obtain ⟨q, e2, e3, e5, e9, e10, e11, e13, hrel⟩ := hHid
    have e := rgKQ95 t
    (try dsimp only at e)
    rw [e2, e3, e5, e9, e10, e11, e13] at e
    rw [e]
    simp only [e13]
    clear e e2 e3 e5 e9 e10 e11 e13
    obtain ⟨hq_, HNQ, rfl, hs68, hF67⟩ := hrel
    clear hF49
    obtain ⟨w69, rfl⟩ : ∃ x_ : World, x_ = wr := ⟨_, rfl⟩
    by_cases c70 : (q : Int) < (i : Int)
    ·
     have c70H := lhd c70
     have hz71 : Hid ((c.plan ts.length)[q]? = some (bgAt (c.plan ts.length) q, enAt (c.plan ts.length) q)) := lhd (plan_at _ (by omega))
     obtain ⟨x72, o73, e_⟩ := Sl.addr (hF67.at 7 rfl : Sl intEnc 1 lo3 hi3 _ (.slice aw lw.length caw) lw) (by have h_ := HLL.out.2; omega)
     subst e_
     have hz74 : Hid (lw[q]? = some (c.wa q)) := lhd (rng_at HCS.out.wa (by omega))
     have hqi : (q : Int) < (ts.length : Int) := by omega
     have hqw : (q : Int) < (lw.length : Int) := by have h_ := HLL.out.2; omega
     have henq := c.en_bd (fun i => (HCO.out.fr i).1) (n := ts.length) (k := q) (by omega)
     unfold Cs.past at henq
     have hndc := HCO.out.nd
     have hwaq := HCO.out.wa q
     by_cases c75 : (q : Int) = c.bef (c.m i) i
     ·
      have c75a : ((q : Int) == (c.bef (c.m i) i)) = true := beq_t c75
      have c75b : ((q : Int) != (c.bef (c.m i) i)) = false := bne_f c75
      have c75H := lhd c75
      clear c75
      by_cases c76 : enAt (c.plan ts.length) q = bgAt (c.plan ts.length) i
      ·
       have c76a : ((enAt (c.plan ts.length) q) == (bgAt (c.plan ts.length) i)) = true := beq_t c76
       have c76b : ((enAt (c.plan ts.length) q) != (bgAt (c.plan ts.length) i)) = false := bne_f c76
       have c76H := lhd c76
       clear c76
       have Hx77 := lhd (show ((rcs c ts.length i : Int)) = (q : Int) by exact rcs_at c40H.out HNQ.out (by omega) (cz_m c75H.out c76H.out))
       have ge78 : World.cell? _ ⟨x17, o18 + q * 2 + 1, none⟩ = some (.int .i64 (enAt (c.plan ts.length) q)) := (Sl.cells (hF67.at 3 rfl) hz71.out 1 _ rfl)
       have gl79 := cell_lt ge78
       go_wp2_with fail
       clear ge78 gl79
       go_ret
       exact ⟨by rw [Hx77.out] <;> rfl, hF67.gb⟩
      have c76a : ((enAt (c.plan ts.length) q) == (bgAt (c.plan ts.length) i)) = false := beq_f c76
      have c76b : ((enAt (c.plan ts.length) q) != (bgAt (c.plan ts.length) i)) = true := bne_t c76
      have c76H := lhd c76
      clear c76
      have ge80 : World.cell? _ ⟨x17, o18 + q * 2 + 1, none⟩ = some (.int .i64 (enAt (c.plan ts.length) q)) := (Sl.cells (hF67.at 3 rfl) hz71.out 1 _ rfl)
      have gl81 := cell_lt ge80
      go_wp2_with fail
      clear ge80 gl81
      obtain ⟨HI82_, HI820⟩ : ∃ I : RelT, I = (fun t ds wr => ∃ (j : Nat), t 2 = .slice (some ⟨x17, o18, none⟩) ts.length cP /\ t 3 = .int .i64 (i : Int) /\ t 5 = .pointer (some ⟨w.heap.size + 1, 0, none⟩) /\ t 9 = .pointer (some ⟨wd29.heap.size, 0, none⟩) /\ t 10 = .int .i64 (bgAt (c.plan ts.length) i) /\ t 11 = .int .i64 (c.bef (c.m i) i) /\ t 13 = .int .i64 (q : Int) /\ t 14 = .int .i64 (j : Int) /\ j <= z.af.length /\ Hid (∀ n_ y_, n_ < j -> z.af[n_]? = some y_ -> ¬ (y_ = (q : Int) /\ enAt (c.plan ts.length) q + c.wa q = bgAt (c.plan ts.length) i)) /\ ds = [] /\ w69.heap.size <= wr.heap.size /\ Bun w [rbox wd29.heap.size 79 #[.int .i64 z.m, .int .i64 z.ho.lo, .int .i64 z.ho.hi, .int .i64 z.wa.lo, .int .i64 z.wa.hi, .int .i64 z.fr.lo, .int .i64 z.fr.hi, .slice a_z z.af.length c_z], rsl intEnc 1 lo hi (.slice a_z z.af.length c_z) z.af, rbox (w.heap.size + 1) 51 #[.slice ah lh.length cah, .slice (some ⟨x72, o73, none⟩) lw.length caw, .slice (some ⟨x19, o20, none⟩) lf.length caf, .slice ak rows.length cak], rsl prEnc 2 lo4 hi4 (.slice (some ⟨x17, o18, none⟩) ts.length cP) (c.plan ts.length), rrwsl lo3 hi3 rows, rsl vEncS 1 lo3 hi3 (.slice ak rows.length cak) (rows.map (·.1)), rsl intEnc 1 lo3 hi3 (.slice (some ⟨x19, o20, none⟩) lf.length caf) lf, rsl intEnc 1 lo3 hi3 (.slice (some ⟨x72, o73, none⟩) lw.length caw) lw, rsl intEnc 1 lo3 hi3 (.slice ah lh.length cah) lh, rafs lo hi ts, rsl tskEnc 8 lo hi (.slice (some ⟨x13, o14, none⟩) ts.length cT) ts, rsl mchEnc 3 lo hi (.slice aM ms.length cM) ms] wr) := ⟨_, rfl⟩
      have HI82 := lhd HI820
      clear HI820
      refine wp_loopS 95 rfl HI82_ (fun t wr => z.af.length - (intOf (t 14)).toNat) ?atStart3 ?round3
      case round3 =>
       intro t ds wr hHid
       rw [HI82.out] at hHid
       obtain ⟨j, e2, e3, e5, e9, e10, e11, e13, e14, hrel⟩ := hHid
       have e := rgKQ95 t
       (try dsimp only at e)
       rw [e2, e3, e5, e9, e10, e11, e13, e14] at e
       rw [e]
       simp only [e14]
       clear e e2 e3 e5 e9 e10 e11 e13 e14
       obtain ⟨hj_, HNJ, rfl, hs84, hF83⟩ := hrel
       clear hF67
       obtain ⟨w85, rfl⟩ : ∃ x_ : World, x_ = wr := ⟨_, rfl⟩
       by_cases c86 : (j : Int) < (z.af.length : Int)
       ·
        have c86H := lhd c86
        obtain ⟨x87, o88, e_⟩ := Sl.addr (hF83.at 1 rfl : Sl intEnc 1 lo hi _ (.slice a_z z.af.length c_z) z.af) (by omega)
        subst e_
        obtain ⟨y, hz89_⟩ : ∃ z_, z.af[j]? = some z_ := ⟨_, List.getElem?_eq_getElem (by omega)⟩
        have hz89 := lhd hz89_
        clear hz89_
        by_cases c90 : y = (q : Int)
        ·
         have c90a : (y == (q : Int)) = true := beq_t c90
         have c90b : (y != (q : Int)) = false := bne_f c90
         have c90H := lhd c90
         clear c90
         have b92 := hF83.bx8 0 rfl
         go_wp2_with fail
         clear b92
         have b94 := hF83.bx8 0 rfl
         have b95 := hF83.bx4 2 rfl
         have ge96 : World.cell? _ ⟨x87, o88 + j, none⟩ = some (.int .i64 y) := (by have h_ := Sl.cells (hF83.at 1 rfl) hz89.out 0 _ rfl; simpa using h_)
         have ge97 : World.cell? _ ⟨x17, o18 + q * 2 + 1, none⟩ = some (.int .i64 (enAt (c.plan ts.length) q)) := (Sl.cells (hF83.at 3 rfl) hz71.out 1 _ rfl)
         have ge98 : World.cell? _ ⟨x72, o73 + q, none⟩ = some (.int .i64 (c.wa q)) := (by have h_ := Sl.cells (hF83.at 7 rfl) hz74.out 0 _ rfl; simpa using h_)
         have hw93 : IntKind.i64.wrap (enAt (c.plan ts.length) q + (c.wa q)) = enAt (c.plan ts.length) q + (c.wa q) := IntWalk.i64_in _ (by omega)
         go_quiet (fail)
         clear b94 b95 ge96 ge97 ge98 hw93
         have F99 := hF83.drewN nq
         clear hF83
         have Fn_ := F99
         (try dsimp only [List.eraseIdx_cons_succ, List.eraseIdx_cons_zero] at Fn_)
         obtain ⟨w100, hx101, F103, hxs102⟩ := Fn_.name
         (try simp at hxs102)
         rw [hx101]
         clear hx101 F99 Fn_
         by_cases c104 : enAt (c.plan ts.length) q + (c.wa q) = bgAt (c.plan ts.length) i
         ·
          have c104a : ((enAt (c.plan ts.length) q + (c.wa q)) == (bgAt (c.plan ts.length) i)) = true := beq_t c104
          have c104b : ((enAt (c.plan ts.length) q + (c.wa q)) != (bgAt (c.plan ts.length) i)) = false := bne_f c104
          have c104H := lhd c104
          clear c104
          have Hx105 := lhd (show ((rcs c ts.length i : Int)) = (q : Int) by exact rcs_at c40H.out HNQ.out (by omega) (cz_a (by rw [← HZM.out.2]; have h_ := List.mem_of_getElem? hz89.out; rwa [c90H.out] at h_) c104H.out))
          go_wp2_with fail
          go_ret
          exact ⟨by rw [Hx105.out] <;> rfl, F103.gb⟩
         have c104a : ((enAt (c.plan ts.length) q + (c.wa q)) == (bgAt (c.plan ts.length) i)) = false := beq_f c104
         have c104b : ((enAt (c.plan ts.length) q + (c.wa q)) != (bgAt (c.plan ts.length) i)) = true := bne_t c104
         have c104H := lhd c104
         clear c104
         go_wp2_with fail
         (first | refine ⟨by kernel_rfl, ?_, ?_⟩ | refine ⟨rfl, ?_, ?_⟩ | refine ⟨?_, ?_⟩)
         · rw [HI82.out]; exact ⟨j + 1, (by kernel_rfl), (by kernel_rfl), (by kernel_rfl), (by kernel_rfl), (by kernel_rfl), (by kernel_rfl), (by kernel_rfl), (by show Value.int .i64 ((j : Int) + 1) = _; simp), (by omega), (lhd (fun n_ y_ hn_ hy_ => by rcases Nat.lt_succ_iff_lt_or_eq.1 hn_ with h_ | e_; exact HNJ.out n_ y_ h_ hy_; rw [e_, hz89.out] at hy_; obtain rfl := Option.some.inj hy_; exact (fun e_ => c104H.out e_.2))), (by first | rfl | simp), (by first | omega | (simp; done) | (simp; omega)), F103⟩
         · simp [slot, intOf]; omega
        have c90a : (y == (q : Int)) = false := beq_f c90
        have c90b : (y != (q : Int)) = true := bne_t c90
        have c90H := lhd c90
        clear c90
        have b106 := hF83.bx8 0 rfl
        go_wp2_with fail
        clear b106
        have b107 := hF83.bx8 0 rfl
        have ge108 : World.cell? _ ⟨x87, o88 + j, none⟩ = some (.int .i64 y) := (by have h_ := Sl.cells (hF83.at 1 rfl) hz89.out 0 _ rfl; simpa using h_)
        go_quiet (fail)
        clear b107 ge108
        have F109 := hF83.drewN nq
        clear hF83
        have Fn_ := F109
        (try dsimp only [List.eraseIdx_cons_succ, List.eraseIdx_cons_zero] at Fn_)
        obtain ⟨w110, hx111, F113, hxs112⟩ := Fn_.name
        (try simp at hxs112)
        rw [hx111]
        clear hx111 F109 Fn_
        go_wp2_with fail
        (first | refine ⟨by kernel_rfl, ?_, ?_⟩ | refine ⟨rfl, ?_, ?_⟩ | refine ⟨?_, ?_⟩)
        · rw [HI82.out]; exact ⟨j + 1, (by kernel_rfl), (by kernel_rfl), (by kernel_rfl), (by kernel_rfl), (by kernel_rfl), (by kernel_rfl), (by kernel_rfl), (by show Value.int .i64 ((j : Int) + 1) = _; simp), (by omega), (lhd (fun n_ y_ hn_ hy_ => by rcases Nat.lt_succ_iff_lt_or_eq.1 hn_ with h_ | e_; exact HNJ.out n_ y_ h_ hy_; rw [e_, hz89.out] at hy_; obtain rfl := Option.some.inj hy_; exact (fun e_ => c90H.out e_.1))), (by first | rfl | simp), (by first | omega | (simp; done) | (simp; omega)), F113⟩
        · simp [slot, intOf]; omega
       have c86H := lhd c86
       have c86a : decide ((j : Int) < (z.af.length : Int)) = false := dec_f c86
       have HNA : Hid (∀ y ∈ c.af i, ¬ (y = (q : Int) /\ enAt (c.plan ts.length) q + c.wa q = bgAt (c.plan ts.length) i)) := lhd (by rw [← HZM.out.2]; exact fun y_ h_ e_ => by obtain ⟨n_, hn_, en_⟩ := List.getElem_of_mem h_; exact HNJ.out n_ y_ (by omega) (by rw [List.getElem?_eq_getElem hn_, en_]) e_)
       have b114 := hF83.bx8 0 rfl
       go_wp2_with fail
       clear b114
       (first | refine ⟨by kernel_rfl, ?_, ?_⟩ | refine ⟨rfl, ?_, ?_⟩ | refine ⟨?_, ?_⟩)
       · rw [HI66.out]; exact ⟨q + 1, (by kernel_rfl), (by kernel_rfl), (by kernel_rfl), (by kernel_rfl), (by kernel_rfl), (by kernel_rfl), (by show Value.int .i64 ((q : Int) + 1) = _; simp), (by omega), (lhd (fun j_ hj_ => by rcases Nat.lt_succ_iff_lt_or_eq.1 hj_ with h_ | e_; exact HNQ.out j_ h_; rw [e_]; exact cz_n (fun e_ => c76H.out e_.2) HNA.out)), (by first | rfl | simp), (by first | omega | (simp; done) | (simp; omega)), hF83⟩
       · simp [slot, intOf]; omega
      case atStart3 =>
       rw [HI82.out]
       exact ⟨0, (by kernel_rfl), (by kernel_rfl), (by kernel_rfl), (by kernel_rfl), (by kernel_rfl), (by kernel_rfl), (by kernel_rfl), rfl, Nat.zero_le _, (lhd (fun _ _ h _ => absurd h (Nat.not_lt_zero _))), rfl, (by first | exact Nat.le_refl _ | omega | (simp; done) | (simp; omega)), hF67⟩
     have c75a : ((q : Int) == (c.bef (c.m i) i)) = false := beq_f c75
     have c75b : ((q : Int) != (c.bef (c.m i) i)) = true := bne_t c75
     have c75H := lhd c75
     clear c75
     go_wp2_with fail
     obtain ⟨HI115_, HI1150⟩ : ∃ I : RelT, I = (fun t ds wr => ∃ (j : Nat), t 2 = .slice (some ⟨x17, o18, none⟩) ts.length cP /\ t 3 = .int .i64 (i : Int) /\ t 5 = .pointer (some ⟨w.heap.size + 1, 0, none⟩) /\ t 9 = .pointer (some ⟨wd29.heap.size, 0, none⟩) /\ t 10 = .int .i64 (bgAt (c.plan ts.length) i) /\ t 11 = .int .i64 (c.bef (c.m i) i) /\ t 13 = .int .i64 (q : Int) /\ t 14 = .int .i64 (j : Int) /\ j <= z.af.length /\ Hid (∀ n_ y_, n_ < j -> z.af[n_]? = some y_ -> ¬ (y_ = (q : Int) /\ enAt (c.plan ts.length) q + c.wa q = bgAt (c.plan ts.length) i)) /\ ds = [] /\ w69.heap.size <= wr.heap.size /\ Bun w [rbox wd29.heap.size 79 #[.int .i64 z.m, .int .i64 z.ho.lo, .int .i64 z.ho.hi, .int .i64 z.wa.lo, .int .i64 z.wa.hi, .int .i64 z.fr.lo, .int .i64 z.fr.hi, .slice a_z z.af.length c_z], rsl intEnc 1 lo hi (.slice a_z z.af.length c_z) z.af, rbox (w.heap.size + 1) 51 #[.slice ah lh.length cah, .slice (some ⟨x72, o73, none⟩) lw.length caw, .slice (some ⟨x19, o20, none⟩) lf.length caf, .slice ak rows.length cak], rsl prEnc 2 lo4 hi4 (.slice (some ⟨x17, o18, none⟩) ts.length cP) (c.plan ts.length), rrwsl lo3 hi3 rows, rsl vEncS 1 lo3 hi3 (.slice ak rows.length cak) (rows.map (·.1)), rsl intEnc 1 lo3 hi3 (.slice (some ⟨x19, o20, none⟩) lf.length caf) lf, rsl intEnc 1 lo3 hi3 (.slice (some ⟨x72, o73, none⟩) lw.length caw) lw, rsl intEnc 1 lo3 hi3 (.slice ah lh.length cah) lh, rafs lo hi ts, rsl tskEnc 8 lo hi (.slice (some ⟨x13, o14, none⟩) ts.length cT) ts, rsl mchEnc 3 lo hi (.slice aM ms.length cM) ms] wr) := ⟨_, rfl⟩
     have HI115 := lhd HI1150
     clear HI1150
     refine wp_loopS 95 rfl HI115_ (fun t wr => z.af.length - (intOf (t 14)).toNat) ?atStart4 ?round4
     case round4 =>
      intro t ds wr hHid
      rw [HI115.out] at hHid
      obtain ⟨j, e2, e3, e5, e9, e10, e11, e13, e14, hrel⟩ := hHid
      have e := rgKQ95 t
      (try dsimp only at e)
      rw [e2, e3, e5, e9, e10, e11, e13, e14] at e
      rw [e]
      simp only [e14]
      clear e e2 e3 e5 e9 e10 e11 e13 e14
      obtain ⟨hj_, HNJ, rfl, hs117, hF116⟩ := hrel
      clear hF67
      obtain ⟨w118, rfl⟩ : ∃ x_ : World, x_ = wr := ⟨_, rfl⟩
      by_cases c119 : (j : Int) < (z.af.length : Int)
      ·
       have c119H := lhd c119
       obtain ⟨x120, o121, e_⟩ := Sl.addr (hF116.at 1 rfl : Sl intEnc 1 lo hi _ (.slice a_z z.af.length c_z) z.af) (by omega)
       subst e_
       obtain ⟨y, hz122_⟩ : ∃ z_, z.af[j]? = some z_ := ⟨_, List.getElem?_eq_getElem (by omega)⟩
       have hz122 := lhd hz122_
       clear hz122_
       by_cases c123 : y = (q : Int)
       ·
        have c123a : (y == (q : Int)) = true := beq_t c123
        have c123b : (y != (q : Int)) = false := bne_f c123
        have c123H := lhd c123
        clear c123
        have b125 := hF116.bx8 0 rfl
        go_wp2_with fail
        clear b125
        have b127 := hF116.bx8 0 rfl
        have b128 := hF116.bx4 2 rfl
        have ge129 : World.cell? _ ⟨x120, o121 + j, none⟩ = some (.int .i64 y) := (by have h_ := Sl.cells (hF116.at 1 rfl) hz122.out 0 _ rfl; simpa using h_)
        have ge130 : World.cell? _ ⟨x17, o18 + q * 2 + 1, none⟩ = some (.int .i64 (enAt (c.plan ts.length) q)) := (Sl.cells (hF116.at 3 rfl) hz71.out 1 _ rfl)
        have ge131 : World.cell? _ ⟨x72, o73 + q, none⟩ = some (.int .i64 (c.wa q)) := (by have h_ := Sl.cells (hF116.at 7 rfl) hz74.out 0 _ rfl; simpa using h_)
        have hw126 : IntKind.i64.wrap (enAt (c.plan ts.length) q + (c.wa q)) = enAt (c.plan ts.length) q + (c.wa q) := IntWalk.i64_in _ (by omega)
        go_quiet (fail)
        clear b127 b128 ge129 ge130 ge131 hw126
        have F132 := hF116.drewN nq
        clear hF116
        have Fn_ := F132
        (try dsimp only [List.eraseIdx_cons_succ, List.eraseIdx_cons_zero] at Fn_)
        obtain ⟨w133, hx134, F136, hxs135⟩ := Fn_.name
        (try simp at hxs135)
        rw [hx134]
        clear hx134 F132 Fn_
        by_cases c137 : enAt (c.plan ts.length) q + (c.wa q) = bgAt (c.plan ts.length) i
        ·
         have c137a : ((enAt (c.plan ts.length) q + (c.wa q)) == (bgAt (c.plan ts.length) i)) = true := beq_t c137
         have c137b : ((enAt (c.plan ts.length) q + (c.wa q)) != (bgAt (c.plan ts.length) i)) = false := bne_f c137
         have c137H := lhd c137
         clear c137
         have Hx138 := lhd (show ((rcs c ts.length i : Int)) = (q : Int) by exact rcs_at c40H.out HNQ.out (by omega) (cz_a (by rw [← HZM.out.2]; have h_ := List.mem_of_getElem? hz122.out; rwa [c123H.out] at h_) c137H.out))
         go_wp2_with fail
         go_ret
         exact ⟨by rw [Hx138.out] <;> rfl, F136.gb⟩
        have c137a : ((enAt (c.plan ts.length) q + (c.wa q)) == (bgAt (c.plan ts.length) i)) = false := beq_f c137
        have c137b : ((enAt (c.plan ts.length) q + (c.wa q)) != (bgAt (c.plan ts.length) i)) = true := bne_t c137
        have c137H := lhd c137
        clear c137
        go_wp2_with fail
        (first | refine ⟨by kernel_rfl, ?_, ?_⟩ | refine ⟨rfl, ?_, ?_⟩ | refine ⟨?_, ?_⟩)
        · rw [HI115.out]; exact ⟨j + 1, (by kernel_rfl), (by kernel_rfl), (by kernel_rfl), (by kernel_rfl), (by kernel_rfl), (by kernel_rfl), (by kernel_rfl), (by show Value.int .i64 ((j : Int) + 1) = _; simp), (by omega), (lhd (fun n_ y_ hn_ hy_ => by rcases Nat.lt_succ_iff_lt_or_eq.1 hn_ with h_ | e_; exact HNJ.out n_ y_ h_ hy_; rw [e_, hz122.out] at hy_; obtain rfl := Option.some.inj hy_; exact (fun e_ => c137H.out e_.2))), (by first | rfl | simp), (by first | omega | (simp; done) | (simp; omega)), F136⟩
        · simp [slot, intOf]; omega
       have c123a : (y == (q : Int)) = false := beq_f c123
       have c123b : (y != (q : Int)) = true := bne_t c123
       have c123H := lhd c123
       clear c123
       have b139 := hF116.bx8 0 rfl
       go_wp2_with fail
       clear b139
       have b140 := hF116.bx8 0 rfl
       have ge141 : World.cell? _ ⟨x120, o121 + j, none⟩ = some (.int .i64 y) := (by have h_ := Sl.cells (hF116.at 1 rfl) hz122.out 0 _ rfl; simpa using h_)
       go_quiet (fail)
       clear b140 ge141
       have F142 := hF116.drewN nq
       clear hF116
       have Fn_ := F142
       (try dsimp only [List.eraseIdx_cons_succ, List.eraseIdx_cons_zero] at Fn_)
       obtain ⟨w143, hx144, F146, hxs145⟩ := Fn_.name
       (try simp at hxs145)
       rw [hx144]
       clear hx144 F142 Fn_
       go_wp2_with fail
       (first | refine ⟨by kernel_rfl, ?_, ?_⟩ | refine ⟨rfl, ?_, ?_⟩ | refine ⟨?_, ?_⟩)
       · rw [HI115.out]; exact ⟨j + 1, (by kernel_rfl), (by kernel_rfl), (by kernel_rfl), (by kernel_rfl), (by kernel_rfl), (by kernel_rfl), (by kernel_rfl), (by show Value.int .i64 ((j : Int) + 1) = _; simp), (by omega), (lhd (fun n_ y_ hn_ hy_ => by rcases Nat.lt_succ_iff_lt_or_eq.1 hn_ with h_ | e_; exact HNJ.out n_ y_ h_ hy_; rw [e_, hz122.out] at hy_; obtain rfl := Option.some.inj hy_; exact (fun e_ => c123H.out e_.1))), (by first | rfl | simp), (by first | omega | (simp; done) | (simp; omega)), F146⟩
       · simp [slot, intOf]; omega
      have c119H := lhd c119
      have c119a : decide ((j : Int) < (z.af.length : Int)) = false := dec_f c119
      have HNA : Hid (∀ y ∈ c.af i, ¬ (y = (q : Int) /\ enAt (c.plan ts.length) q + c.wa q = bgAt (c.plan ts.length) i)) := lhd (by rw [← HZM.out.2]; exact fun y_ h_ e_ => by obtain ⟨n_, hn_, en_⟩ := List.getElem_of_mem h_; exact HNJ.out n_ y_ (by omega) (by rw [List.getElem?_eq_getElem hn_, en_]) e_)
      have b147 := hF116.bx8 0 rfl
      go_wp2_with fail
      clear b147
      (first | refine ⟨by kernel_rfl, ?_, ?_⟩ | refine ⟨rfl, ?_, ?_⟩ | refine ⟨?_, ?_⟩)
      · rw [HI66.out]; exact ⟨q + 1, (by kernel_rfl), (by kernel_rfl), (by kernel_rfl), (by kernel_rfl), (by kernel_rfl), (by kernel_rfl), (by show Value.int .i64 ((q : Int) + 1) = _; simp), (by omega), (lhd (fun j_ hj_ => by rcases Nat.lt_succ_iff_lt_or_eq.1 hj_ with h_ | e_; exact HNQ.out j_ h_; rw [e_]; exact cz_n (fun e_ => c75H.out e_.1) HNA.out)), (by first | rfl | simp), (by first | omega | (simp; done) | (simp; omega)), hF116⟩
      · simp [slot, intOf]; omega
     case atStart4 =>
      rw [HI115.out]
      exact ⟨0, (by kernel_rfl), (by kernel_rfl), (by kernel_rfl), (by kernel_rfl), (by kernel_rfl), (by kernel_rfl), (by kernel_rfl), rfl, Nat.zero_le _, (lhd (fun _ _ h _ => absurd h (Nat.not_lt_zero _))), rfl, (by first | exact Nat.le_refl _ | omega | (simp; done) | (simp; omega)), hF67⟩
    have c70H := lhd c70
    have c70a : decide ((q : Int) < (i : Int)) = false := dec_f c70
    have Hx148 := lhd (show ((rcs c ts.length i : Int)) = -1 by exact rcs_no c40H.out (fun j_ hj_ => HNQ.out j_ (by omega)))
    go_wp2_with fail
    go_ret
    exact ⟨by rw [Hx148.out] <;> rfl, hF67.gb⟩
   case atStart2 =>
    rw [HI66.out]
    exact ⟨0, (by kernel_rfl), (by kernel_rfl), (by kernel_rfl), (by kernel_rfl), (by kernel_rfl), (by kernel_rfl), rfl, Nat.zero_le _, (lhd (fun _ h => absurd h (Nat.not_lt_zero _))), rfl, (by first | exact Nat.le_refl _ | omega | (simp; done) | (simp; omega)), (hF49.drop 3 rfl)⟩
  case atStart1 =>
   rw [HI48.out]
   exact ⟨0, (by kernel_rfl), (by kernel_rfl), (by kernel_rfl), (by kernel_rfl), (by kernel_rfl), (by kernel_rfl), rfl, rfl, Nat.zero_le _, rfl, (by first | exact Nat.le_refl _ | omega | (simp; done) | (simp; omega)), F39⟩
 intro K hK
 go_simp
 have F149 := F27.new 79 #[.int .i64 0, .int .i64 0, .int .i64 0, .int .i64 0, .int .i64 0, .int .i64 0, .int .i64 0, .slice none 0 0] (n := wd29.heap.size) (by simp)
 clear F27
 refine ru_back hK (by exact ⟨F149.cl 3 1 rfl rfl, (Sl.cells (F149.at 11 rfl) hz15.out 0 _ rfl), (Sl.cells (F149.at 11 rfl) hz15.out 1 _ rfl), (Sl.cells (F149.at 11 rfl) hz15.out 2 _ rfl), (Sl.cells (F149.at 11 rfl) hz15.out 3 _ rfl), (Sl.cells (F149.at 11 rfl) hz15.out 4 _ rfl), (Sl.cells (F149.at 11 rfl) hz15.out 5 _ rfl), (Sl.cells (F149.at 11 rfl) hz15.out 6 _ rfl), (HAV_z.out ▸ (Sl.cells (F149.at 11 rfl) hz15.out 7 _ rfl))⟩) (fun hHeld => ?_)
 clear hK K
 (try simp only [Act.put, lpA, lpB, lpC])
 refine ru_two 9 11 rfl rfl (by kernel_rfl) ?_ ?_
 ·
  intro K hK
  have kq0_ : World.cell? _ ⟨x17, o18 + i * 2, none⟩ = some (.int .i64 (bgAt (c.plan ts.length) i)) := (Sl.cells (F149.at 4 rfl) hz21.out 0 _ rfl)
  go_simp
  clear kq0_
  refine ru_back hK (by exact ⟨F149.cl 3 1 rfl rfl, (Sl.cells (F149.at 11 rfl) hz15.out 0 _ rfl), (Sl.cells (F149.at 11 rfl) hz15.out 1 _ rfl), (Sl.cells (F149.at 11 rfl) hz15.out 2 _ rfl), (Sl.cells (F149.at 11 rfl) hz15.out 3 _ rfl), (Sl.cells (F149.at 11 rfl) hz15.out 4 _ rfl), (Sl.cells (F149.at 11 rfl) hz15.out 5 _ rfl), (Sl.cells (F149.at 11 rfl) hz15.out 6 _ rfl), (HAV_z.out ▸ (Sl.cells (F149.at 11 rfl) hz15.out 7 _ rfl))⟩) (fun hHeld => ?_)
  clear hK K
  (try simp only [Act.put, lpA, lpB, lpC])
  refine ru_one 11 rfl (by kernel_rfl) (fun K hK => ?_)
  have Fn_ := F149
  (try dsimp only [List.eraseIdx_cons_succ, List.eraseIdx_cons_zero] at Fn_)
  obtain ⟨w150, hx151, F153, hxs152⟩ := Fn_.name
  (try simp at hxs152)
  rw [hx151]
  clear hx151 F149 Fn_
  have kb_ := F153.bx8 0 rfl
  go_simp
  clear kb_
  have F154 := F153.pt8 (.int .i64 z.m) (.int .i64 z.ho.lo) (.int .i64 z.ho.hi) (.int .i64 z.wa.lo) (.int .i64 z.wa.hi) (.int .i64 z.fr.lo) (.int .i64 z.fr.hi) (.slice a_z z.af.length c_z)
  clear F153
  refine ru_back_late hK (by kernel_rfl) ?_
  clear hK K
  (try simp only [Act.put, lpA, lpB, lpC])
  refine ru_one 12 rfl (by kernel_rfl) (fun K hK => ?_)
  go_simp
  refine ru_back_late hK (by kernel_rfl) ?_
  clear hK K
  (try simp only [Act.put, lpA, lpB, lpC])
  refine ru_done (by kernel_rfl) ?_
  have Fn_ := F154
  (try dsimp only [List.eraseIdx_cons_succ, List.eraseIdx_cons_zero] at Fn_)
  obtain ⟨w155, hx156, F158, hxs157⟩ := Fn_.name
  (try simp at hxs157)
  rw [hx156]
  clear hx156 F154 Fn_
  by_cases c159 : c.fr i = bgAt (c.plan ts.length) i
  ·
   have c159a : ((c.fr i) == (bgAt (c.plan ts.length) i)) = true := beq_t c159
   have c159b : ((c.fr i) != (bgAt (c.plan ts.length) i)) = false := bne_f c159
   have c159H := lhd c159
   clear c159
   have Hx160 := lhd (show ((rcs c ts.length i : Int)) = -1 by exact rcs_fr c159H.out)
   have b161 := F158.bx4 2 rfl
   have ge162 : World.cell? _ ⟨x19, o20 + i, none⟩ = some (.int .i64 (c.fr i)) := (by have h_ := Sl.cells (F158.at 7 rfl) hz22.out 0 _ rfl; simpa using h_)
   have gl163 := cell_lt ge162
   go_wp2_with fail
   clear b161 ge162 gl163
   go_ret
   exact ⟨by rw [Hx160.out] <;> rfl, F158.gb⟩
  have c159a : ((c.fr i) == (bgAt (c.plan ts.length) i)) = false := beq_f c159
  have c159b : ((c.fr i) != (bgAt (c.plan ts.length) i)) = true := bne_t c159
  have c159H := lhd c159
  clear c159
  have b164 := F158.bx4 2 rfl
  have ge165 : World.cell? _ ⟨x19, o20 + i, none⟩ = some (.int .i64 (c.fr i)) := (by have h_ := Sl.cells (F158.at 7 rfl) hz22.out 0 _ rfl; simpa using h_)
  have gl166 := cell_lt ge165
  go_wp2_with fail
  clear b164 ge165 gl166
  obtain ⟨HI167_, HI1670⟩ : ∃ I : RelT, I = (fun t ds wr => ∃ (k : Nat), t 2 = .slice (some ⟨x17, o18, none⟩) ts.length cP /\ t 3 = .int .i64 (i : Int) /\ t 4 = .pointer (some ⟨w.heap.size, 0, none⟩) /\ t 5 = .pointer (some ⟨w.heap.size + 1, 0, none⟩) /\ t 9 = .pointer (some ⟨wd29.heap.size, 0, none⟩) /\ t 10 = .int .i64 (bgAt (c.plan ts.length) i) /\ t 11 = .int .i64 (c.bef (c.m i) k) /\ t 12 = .int .i64 (k : Int) /\ k <= i /\ ds = [] /\ w155.heap.size <= wr.heap.size /\ Bun w [rbox wd29.heap.size 79 #[.int .i64 z.m, .int .i64 z.ho.lo, .int .i64 z.ho.hi, .int .i64 z.wa.lo, .int .i64 z.wa.hi, .int .i64 z.fr.lo, .int .i64 z.fr.hi, .slice a_z z.af.length c_z], rsl intEnc 1 lo hi (.slice a_z z.af.length c_z) z.af, rbox (w.heap.size + 1) 51 #[.slice ah lh.length cah, .slice aw lw.length caw, .slice (some ⟨x19, o20, none⟩) lf.length caf, .slice ak rows.length cak], rbox w.heap.size 25 #[.slice aM ms.length cM, .slice (some ⟨x13, o14, none⟩) ts.length cT], rsl prEnc 2 lo4 hi4 (.slice (some ⟨x17, o18, none⟩) ts.length cP) (c.plan ts.length), rrwsl lo3 hi3 rows, rsl vEncS 1 lo3 hi3 (.slice ak rows.length cak) (rows.map (·.1)), rsl intEnc 1 lo3 hi3 (.slice (some ⟨x19, o20, none⟩) lf.length caf) lf, rsl intEnc 1 lo3 hi3 (.slice aw lw.length caw) lw, rsl intEnc 1 lo3 hi3 (.slice ah lh.length cah) lh, rafs lo hi ts, rsl tskEnc 8 lo hi (.slice (some ⟨x13, o14, none⟩) ts.length cT) ts, rsl mchEnc 3 lo hi (.slice aM ms.length cM) ms] wr) := ⟨_, rfl⟩
  have HI167 := lhd HI1670
  clear HI1670
  refine wp_loopS 95 rfl HI167_ (fun t wr => i - (intOf (t 12)).toNat) ?atStart5 ?round5
  case round5 =>
   intro t ds wr hHid
   rw [HI167.out] at hHid
   obtain ⟨k, e2, e3, e4, e5, e9, e10, e11, e12, hrel⟩ := hHid
   have e := rgKQ95 t
   (try dsimp only at e)
   rw [e2, e3, e4, e5, e9, e10, e11, e12] at e
   rw [e]
   simp only [e12]
   clear e e2 e3 e4 e5 e9 e10 e11 e12
   obtain ⟨hk_, rfl, hs169, hF168⟩ := hrel
   clear F158
   obtain ⟨w170, rfl⟩ : ∃ x_ : World, x_ = wr := ⟨_, rfl⟩
   by_cases c171 : (k : Int) < (i : Int)
   ·
    have c171H := lhd c171
    obtain ⟨u, hz172_⟩ : ∃ z_, ts[k]? = some z_ := ⟨_, List.getElem?_eq_getElem (by omega)⟩
    have hz172 := lhd hz172_
    clear hz172_
    obtain ⟨a_u, c_u, hav_u, hcap_u, hsl_u⟩ := Afs.open (hF168.at 10 rfl : Afs lo hi _ ts) hz172.out
    have HAV_u := lhd hav_u
    clear hav_u
    have F173 := hF168.more 10 (rsl intEnc 1 lo hi (.slice a_u u.af.length c_u) u.af) rfl rfl rfl (fun _ h_ => h_) hsl_u
    clear hF168
    have hm_u := (F173.at 0 rfl : Sl intEnc 1 lo hi _ (.slice a_u u.af.length c_u) u.af).len
    unfold maxLen at hm_u
    have hki : (k : Int) < (ts.length : Int) := by omega
    have HUM : Hid (u.m = c.m k) := lhd (by rw [HCS.out.m, tk_get hz172.out])
    go_wp2_with fail
    have b174 := F173.bx8 1 rfl
    have b175 := F173.bx2 4 rfl
    have ge176 : World.cell? _ ⟨x13, o14 + k * 8, none⟩ = some (.int .i64 u.m) := (Sl.cells (F173.at 12 rfl) hz172.out 0 _ rfl)
    go_quiet (fail)
    clear b174 b175 ge176
    have F177 := F173.drewN nq
    clear F173
    have Fn_ := F177
    (try dsimp only [List.eraseIdx_cons_succ, List.eraseIdx_cons_zero] at Fn_)
    obtain ⟨w178, hx179, F181, hxs180⟩ := Fn_.name
    (try simp at hxs180)
    rw [hx179]
    clear hx179 F177 Fn_
    by_cases c182 : u.m = z.m
    ·
     have c182a : (u.m == z.m) = true := beq_t c182
     have c182b : (u.m != z.m) = false := bne_f c182
     have c182H := lhd c182
     clear c182
     go_wp2_with fail
     have F183 : Bun w [rbox wd29.heap.size 79 #[.int .i64 z.m, .int .i64 z.ho.lo, .int .i64 z.ho.hi, .int .i64 z.wa.lo, .int .i64 z.wa.hi, .int .i64 z.fr.lo, .int .i64 z.fr.hi, .slice a_z z.af.length c_z], rsl intEnc 1 lo hi (.slice a_z z.af.length c_z) z.af, rbox (w.heap.size + 1) 51 #[.slice ah lh.length cah, .slice aw lw.length caw, .slice (some ⟨x19, o20, none⟩) lf.length caf, .slice ak rows.length cak], rbox w.heap.size 25 #[.slice aM ms.length cM, .slice (some ⟨x13, o14, none⟩) ts.length cT], rsl prEnc 2 lo4 hi4 (.slice (some ⟨x17, o18, none⟩) ts.length cP) (c.plan ts.length), rrwsl lo3 hi3 rows, rsl vEncS 1 lo3 hi3 (.slice ak rows.length cak) (rows.map (·.1)), rsl intEnc 1 lo3 hi3 (.slice (some ⟨x19, o20, none⟩) lf.length caf) lf, rsl intEnc 1 lo3 hi3 (.slice aw lw.length caw) lw, rsl intEnc 1 lo3 hi3 (.slice ah lh.length cah) lh, rafs lo hi ts, rsl tskEnc 8 lo hi (.slice (some ⟨x13, o14, none⟩) ts.length cT) ts, rsl mchEnc 3 lo hi (.slice aM ms.length cM) ms] _ := F181.pick [1, 2, 3, 4, 5, 6, 7, 8, 9, 10, 11, 12, 13] (by decide) rfl
     clear F181
     (first | refine ⟨by kernel_rfl, ?_, ?_⟩ | refine ⟨rfl, ?_, ?_⟩ | refine ⟨?_, ?_⟩)
     · rw [HI167.out]; exact ⟨k + 1, (by kernel_rfl), (by kernel_rfl), (by kernel_rfl), (by kernel_rfl), (by kernel_rfl), (by kernel_rfl), (by rw [bef_next c _ k rfl, ← HUM.out, ← HZM.out.1, if_pos c182H.out]; first | kernel_rfl | rfl), (by show Value.int .i64 ((k : Int) + 1) = _; simp), (by omega), (by first | rfl | simp), (by first | omega | (simp; done) | (simp; omega)), F183⟩
     · simp [slot, intOf]; omega
    have c182a : (u.m == z.m) = false := beq_f c182
    have c182b : (u.m != z.m) = true := bne_t c182
    have c182H := lhd c182
    clear c182
    go_wp2_with fail
    have F184 : Bun w [rbox wd29.heap.size 79 #[.int .i64 z.m, .int .i64 z.ho.lo, .int .i64 z.ho.hi, .int .i64 z.wa.lo, .int .i64 z.wa.hi, .int .i64 z.fr.lo, .int .i64 z.fr.hi, .slice a_z z.af.length c_z], rsl intEnc 1 lo hi (.slice a_z z.af.length c_z) z.af, rbox (w.heap.size + 1) 51 #[.slice ah lh.length cah, .slice aw lw.length caw, .slice (some ⟨x19, o20, none⟩) lf.length caf, .slice ak rows.length cak], rbox w.heap.size 25 #[.slice aM ms.length cM, .slice (some ⟨x13, o14, none⟩) ts.length cT], rsl prEnc 2 lo4 hi4 (.slice (some ⟨x17, o18, none⟩) ts.length cP) (c.plan ts.length), rrwsl lo3 hi3 rows, rsl vEncS 1 lo3 hi3 (.slice ak rows.length cak) (rows.map (·.1)), rsl intEnc 1 lo3 hi3 (.slice (some ⟨x19, o20, none⟩) lf.length caf) lf, rsl intEnc 1 lo3 hi3 (.slice aw lw.length caw) lw, rsl intEnc 1 lo3 hi3 (.slice ah lh.length cah) lh, rafs lo hi ts, rsl tskEnc 8 lo hi (.slice (some ⟨x13, o14, none⟩) ts.length cT) ts, rsl mchEnc 3 lo hi (.slice aM ms.length cM) ms] _ := F181.pick [1, 2, 3, 4, 5, 6, 7, 8, 9, 10, 11, 12, 13] (by decide) rfl
    clear F181
    (first | refine ⟨by kernel_rfl, ?_, ?_⟩ | refine ⟨rfl, ?_, ?_⟩ | refine ⟨?_, ?_⟩)
    · rw [HI167.out]; exact ⟨k + 1, (by kernel_rfl), (by kernel_rfl), (by kernel_rfl), (by kernel_rfl), (by kernel_rfl), (by kernel_rfl), (by rw [bef_next c _ k rfl, ← HUM.out, ← HZM.out.1, if_neg c182H.out]; first | kernel_rfl | rfl), (by show Value.int .i64 ((k : Int) + 1) = _; simp), (by omega), (by first | rfl | simp), (by first | omega | (simp; done) | (simp; omega)), F184⟩
    · simp [slot, intOf]; omega
   have c171H := lhd c171
   have c171a : decide ((k : Int) < (i : Int)) = false := dec_f c171
   go_wp2_with fail
   have hkk_ : k = i := by omega
   rw [hkk_]
   clear hkk_
   obtain ⟨HI185_, HI1850⟩ : ∃ I : RelT, I = (fun t ds wr => ∃ (q : Nat), t 2 = .slice (some ⟨x17, o18, none⟩) ts.length cP /\ t 3 = .int .i64 (i : Int) /\ t 5 = .pointer (some ⟨w.heap.size + 1, 0, none⟩) /\ t 9 = .pointer (some ⟨wd29.heap.size, 0, none⟩) /\ t 10 = .int .i64 (bgAt (c.plan ts.length) i) /\ t 11 = .int .i64 (c.bef (c.m i) i) /\ t 13 = .int .i64 (q : Int) /\ q <= i /\ Hid (∀ j, j < q -> c.cz ts.length i j = false) /\ ds = [] /\ w170.heap.size <= wr.heap.size /\ Bun w [rbox wd29.heap.size 79 #[.int .i64 z.m, .int .i64 z.ho.lo, .int .i64 z.ho.hi, .int .i64 z.wa.lo, .int .i64 z.wa.hi, .int .i64 z.fr.lo, .int .i64 z.fr.hi, .slice a_z z.af.length c_z], rsl intEnc 1 lo hi (.slice a_z z.af.length c_z) z.af, rbox (w.heap.size + 1) 51 #[.slice ah lh.length cah, .slice aw lw.length caw, .slice (some ⟨x19, o20, none⟩) lf.length caf, .slice ak rows.length cak], rsl prEnc 2 lo4 hi4 (.slice (some ⟨x17, o18, none⟩) ts.length cP) (c.plan ts.length), rrwsl lo3 hi3 rows, rsl vEncS 1 lo3 hi3 (.slice ak rows.length cak) (rows.map (·.1)), rsl intEnc 1 lo3 hi3 (.slice (some ⟨x19, o20, none⟩) lf.length caf) lf, rsl intEnc 1 lo3 hi3 (.slice aw lw.length caw) lw, rsl intEnc 1 lo3 hi3 (.slice ah lh.length cah) lh, rafs lo hi ts, rsl tskEnc 8 lo hi (.slice (some ⟨x13, o14, none⟩) ts.length cT) ts, rsl mchEnc 3 lo hi (.slice aM ms.length cM) ms] wr) := ⟨_, rfl⟩
   have HI185 := lhd HI1850
   clear HI1850
   refine wp_loopS 95 rfl HI185_ (fun t wr => i - (intOf (t 13)).toNat) ?atStart6 ?round6
   case round6 =>
    intro t ds wr hHid
    rw [HI185.out] at hHid
    obtain ⟨q, e2, e3, e5, e9, e10, e11, e13, hrel⟩ := hHid
    have e := rgKQ95 t
    (try dsimp only at e)
    rw [e2, e3, e5, e9, e10, e11, e13] at e
    rw [e]
    simp only [e13]
    clear e e2 e3 e5 e9 e10 e11 e13
    obtain ⟨hq_, HNQ, rfl, hs187, hF186⟩ := hrel
    clear hF168
    obtain ⟨w188, rfl⟩ : ∃ x_ : World, x_ = wr := ⟨_, rfl⟩
    by_cases c189 : (q : Int) < (i : Int)
    ·
     have c189H := lhd c189
     have hz190 : Hid ((c.plan ts.length)[q]? = some (bgAt (c.plan ts.length) q, enAt (c.plan ts.length) q)) := lhd (plan_at _ (by omega))
     obtain ⟨x191, o192, e_⟩ := Sl.addr (hF186.at 7 rfl : Sl intEnc 1 lo3 hi3 _ (.slice aw lw.length caw) lw) (by have h_ := HLL.out.2; omega)
     subst e_
     have hz193 : Hid (lw[q]? = some (c.wa q)) := lhd (rng_at HCS.out.wa (by omega))
     have hqi : (q : Int) < (ts.length : Int) := by omega
     have hqw : (q : Int) < (lw.length : Int) := by have h_ := HLL.out.2; omega
     have henq := c.en_bd (fun i => (HCO.out.fr i).1) (n := ts.length) (k := q) (by omega)
     unfold Cs.past at henq
     have hndc := HCO.out.nd
     have hwaq := HCO.out.wa q
     by_cases c194 : (q : Int) = c.bef (c.m i) i
     ·
      have c194a : ((q : Int) == (c.bef (c.m i) i)) = true := beq_t c194
      have c194b : ((q : Int) != (c.bef (c.m i) i)) = false := bne_f c194
      have c194H := lhd c194
      clear c194
      by_cases c195 : enAt (c.plan ts.length) q = bgAt (c.plan ts.length) i
      ·
       have c195a : ((enAt (c.plan ts.length) q) == (bgAt (c.plan ts.length) i)) = true := beq_t c195
       have c195b : ((enAt (c.plan ts.length) q) != (bgAt (c.plan ts.length) i)) = false := bne_f c195
       have c195H := lhd c195
       clear c195
       have Hx196 := lhd (show ((rcs c ts.length i : Int)) = (q : Int) by exact rcs_at c159H.out HNQ.out (by omega) (cz_m c194H.out c195H.out))
       have ge197 : World.cell? _ ⟨x17, o18 + q * 2 + 1, none⟩ = some (.int .i64 (enAt (c.plan ts.length) q)) := (Sl.cells (hF186.at 3 rfl) hz190.out 1 _ rfl)
       have gl198 := cell_lt ge197
       go_wp2_with fail
       clear ge197 gl198
       go_ret
       exact ⟨by rw [Hx196.out] <;> rfl, hF186.gb⟩
      have c195a : ((enAt (c.plan ts.length) q) == (bgAt (c.plan ts.length) i)) = false := beq_f c195
      have c195b : ((enAt (c.plan ts.length) q) != (bgAt (c.plan ts.length) i)) = true := bne_t c195
      have c195H := lhd c195
      clear c195
      have ge199 : World.cell? _ ⟨x17, o18 + q * 2 + 1, none⟩ = some (.int .i64 (enAt (c.plan ts.length) q)) := (Sl.cells (hF186.at 3 rfl) hz190.out 1 _ rfl)
      have gl200 := cell_lt ge199
      go_wp2_with fail
      clear ge199 gl200
      obtain ⟨HI201_, HI2010⟩ : ∃ I : RelT, I = (fun t ds wr => ∃ (j : Nat), t 2 = .slice (some ⟨x17, o18, none⟩) ts.length cP /\ t 3 = .int .i64 (i : Int) /\ t 5 = .pointer (some ⟨w.heap.size + 1, 0, none⟩) /\ t 9 = .pointer (some ⟨wd29.heap.size, 0, none⟩) /\ t 10 = .int .i64 (bgAt (c.plan ts.length) i) /\ t 11 = .int .i64 (c.bef (c.m i) i) /\ t 13 = .int .i64 (q : Int) /\ t 14 = .int .i64 (j : Int) /\ j <= z.af.length /\ Hid (∀ n_ y_, n_ < j -> z.af[n_]? = some y_ -> ¬ (y_ = (q : Int) /\ enAt (c.plan ts.length) q + c.wa q = bgAt (c.plan ts.length) i)) /\ ds = [] /\ w188.heap.size <= wr.heap.size /\ Bun w [rbox wd29.heap.size 79 #[.int .i64 z.m, .int .i64 z.ho.lo, .int .i64 z.ho.hi, .int .i64 z.wa.lo, .int .i64 z.wa.hi, .int .i64 z.fr.lo, .int .i64 z.fr.hi, .slice a_z z.af.length c_z], rsl intEnc 1 lo hi (.slice a_z z.af.length c_z) z.af, rbox (w.heap.size + 1) 51 #[.slice ah lh.length cah, .slice (some ⟨x191, o192, none⟩) lw.length caw, .slice (some ⟨x19, o20, none⟩) lf.length caf, .slice ak rows.length cak], rsl prEnc 2 lo4 hi4 (.slice (some ⟨x17, o18, none⟩) ts.length cP) (c.plan ts.length), rrwsl lo3 hi3 rows, rsl vEncS 1 lo3 hi3 (.slice ak rows.length cak) (rows.map (·.1)), rsl intEnc 1 lo3 hi3 (.slice (some ⟨x19, o20, none⟩) lf.length caf) lf, rsl intEnc 1 lo3 hi3 (.slice (some ⟨x191, o192, none⟩) lw.length caw) lw, rsl intEnc 1 lo3 hi3 (.slice ah lh.length cah) lh, rafs lo hi ts, rsl tskEnc 8 lo hi (.slice (some ⟨x13, o14, none⟩) ts.length cT) ts, rsl mchEnc 3 lo hi (.slice aM ms.length cM) ms] wr) := ⟨_, rfl⟩
      have HI201 := lhd HI2010
      clear HI2010
      refine wp_loopS 95 rfl HI201_ (fun t wr => z.af.length - (intOf (t 14)).toNat) ?atStart7 ?round7
      case round7 =>
       intro t ds wr hHid
       rw [HI201.out] at hHid
       obtain ⟨j, e2, e3, e5, e9, e10, e11, e13, e14, hrel⟩ := hHid
       have e := rgKQ95 t
       (try dsimp only at e)
       rw [e2, e3, e5, e9, e10, e11, e13, e14] at e
       rw [e]
       simp only [e14]
       clear e e2 e3 e5 e9 e10 e11 e13 e14
       obtain ⟨hj_, HNJ, rfl, hs203, hF202⟩ := hrel
       clear hF186
       obtain ⟨w204, rfl⟩ : ∃ x_ : World, x_ = wr := ⟨_, rfl⟩
       by_cases c205 : (j : Int) < (z.af.length : Int)
       ·
        have c205H := lhd c205
        obtain ⟨x206, o207, e_⟩ := Sl.addr (hF202.at 1 rfl : Sl intEnc 1 lo hi _ (.slice a_z z.af.length c_z) z.af) (by omega)
        subst e_
        obtain ⟨y, hz208_⟩ : ∃ z_, z.af[j]? = some z_ := ⟨_, List.getElem?_eq_getElem (by omega)⟩
        have hz208 := lhd hz208_
        clear hz208_
        by_cases c209 : y = (q : Int)
        ·
         have c209a : (y == (q : Int)) = true := beq_t c209
         have c209b : (y != (q : Int)) = false := bne_f c209
         have c209H := lhd c209
         clear c209
         have b211 := hF202.bx8 0 rfl
         go_wp2_with fail
         clear b211
         have b213 := hF202.bx8 0 rfl
         have b214 := hF202.bx4 2 rfl
         have ge215 : World.cell? _ ⟨x206, o207 + j, none⟩ = some (.int .i64 y) := (by have h_ := Sl.cells (hF202.at 1 rfl) hz208.out 0 _ rfl; simpa using h_)
         have ge216 : World.cell? _ ⟨x17, o18 + q * 2 + 1, none⟩ = some (.int .i64 (enAt (c.plan ts.length) q)) := (Sl.cells (hF202.at 3 rfl) hz190.out 1 _ rfl)
         have ge217 : World.cell? _ ⟨x191, o192 + q, none⟩ = some (.int .i64 (c.wa q)) := (by have h_ := Sl.cells (hF202.at 7 rfl) hz193.out 0 _ rfl; simpa using h_)
         have hw212 : IntKind.i64.wrap (enAt (c.plan ts.length) q + (c.wa q)) = enAt (c.plan ts.length) q + (c.wa q) := IntWalk.i64_in _ (by omega)
         go_quiet (fail)
         clear b213 b214 ge215 ge216 ge217 hw212
         have F218 := hF202.drewN nq
         clear hF202
         have Fn_ := F218
         (try dsimp only [List.eraseIdx_cons_succ, List.eraseIdx_cons_zero] at Fn_)
         obtain ⟨w219, hx220, F222, hxs221⟩ := Fn_.name
         (try simp at hxs221)
         rw [hx220]
         clear hx220 F218 Fn_
         by_cases c223 : enAt (c.plan ts.length) q + (c.wa q) = bgAt (c.plan ts.length) i
         ·
          have c223a : ((enAt (c.plan ts.length) q + (c.wa q)) == (bgAt (c.plan ts.length) i)) = true := beq_t c223
          have c223b : ((enAt (c.plan ts.length) q + (c.wa q)) != (bgAt (c.plan ts.length) i)) = false := bne_f c223
          have c223H := lhd c223
          clear c223
          have Hx224 := lhd (show ((rcs c ts.length i : Int)) = (q : Int) by exact rcs_at c159H.out HNQ.out (by omega) (cz_a (by rw [← HZM.out.2]; have h_ := List.mem_of_getElem? hz208.out; rwa [c209H.out] at h_) c223H.out))
          go_wp2_with fail
          go_ret
          exact ⟨by rw [Hx224.out] <;> rfl, F222.gb⟩
         have c223a : ((enAt (c.plan ts.length) q + (c.wa q)) == (bgAt (c.plan ts.length) i)) = false := beq_f c223
         have c223b : ((enAt (c.plan ts.length) q + (c.wa q)) != (bgAt (c.plan ts.length) i)) = true := bne_t c223
         have c223H := lhd c223
         clear c223
         go_wp2_with fail
         (first | refine ⟨by kernel_rfl, ?_, ?_⟩ | refine ⟨rfl, ?_, ?_⟩ | refine ⟨?_, ?_⟩)
         · rw [HI201.out]; exact ⟨j + 1, (by kernel_rfl), (by kernel_rfl), (by kernel_rfl), (by kernel_rfl), (by kernel_rfl), (by kernel_rfl), (by kernel_rfl), (by show Value.int .i64 ((j : Int) + 1) = _; simp), (by omega), (lhd (fun n_ y_ hn_ hy_ => by rcases Nat.lt_succ_iff_lt_or_eq.1 hn_ with h_ | e_; exact HNJ.out n_ y_ h_ hy_; rw [e_, hz208.out] at hy_; obtain rfl := Option.some.inj hy_; exact (fun e_ => c223H.out e_.2))), (by first | rfl | simp), (by first | omega | (simp; done) | (simp; omega)), F222⟩
         · simp [slot, intOf]; omega
        have c209a : (y == (q : Int)) = false := beq_f c209
        have c209b : (y != (q : Int)) = true := bne_t c209
        have c209H := lhd c209
        clear c209
        have b225 := hF202.bx8 0 rfl
        go_wp2_with fail
        clear b225
        have b226 := hF202.bx8 0 rfl
        have ge227 : World.cell? _ ⟨x206, o207 + j, none⟩ = some (.int .i64 y) := (by have h_ := Sl.cells (hF202.at 1 rfl) hz208.out 0 _ rfl; simpa using h_)
        go_quiet (fail)
        clear b226 ge227
        have F228 := hF202.drewN nq
        clear hF202
        have Fn_ := F228
        (try dsimp only [List.eraseIdx_cons_succ, List.eraseIdx_cons_zero] at Fn_)
        obtain ⟨w229, hx230, F232, hxs231⟩ := Fn_.name
        (try simp at hxs231)
        rw [hx230]
        clear hx230 F228 Fn_
        go_wp2_with fail
        (first | refine ⟨by kernel_rfl, ?_, ?_⟩ | refine ⟨rfl, ?_, ?_⟩ | refine ⟨?_, ?_⟩)
        · rw [HI201.out]; exact ⟨j + 1, (by kernel_rfl), (by kernel_rfl), (by kernel_rfl), (by kernel_rfl), (by kernel_rfl), (by kernel_rfl), (by kernel_rfl), (by show Value.int .i64 ((j : Int) + 1) = _; simp), (by omega), (lhd (fun n_ y_ hn_ hy_ => by rcases Nat.lt_succ_iff_lt_or_eq.1 hn_ with h_ | e_; exact HNJ.out n_ y_ h_ hy_; rw [e_, hz208.out] at hy_; obtain rfl := Option.some.inj hy_; exact (fun e_ => c209H.out e_.1))), (by first | rfl | simp), (by first | omega | (simp; done) | (simp; omega)), F232⟩
        · simp [slot, intOf]; omega
       have c205H := lhd c205
       have c205a : decide ((j : Int) < (z.af.length : Int)) = false := dec_f c205
       have HNA : Hid (∀ y ∈ c.af i, ¬ (y = (q : Int) /\ enAt (c.plan ts.length) q + c.wa q = bgAt (c.plan ts.length) i)) := lhd (by rw [← HZM.out.2]; exact fun y_ h_ e_ => by obtain ⟨n_, hn_, en_⟩ := List.getElem_of_mem h_; exact HNJ.out n_ y_ (by omega) (by rw [List.getElem?_eq_getElem hn_, en_]) e_)
       have b233 := hF202.bx8 0 rfl
       go_wp2_with fail
       clear b233
       (first | refine ⟨by kernel_rfl, ?_, ?_⟩ | refine ⟨rfl, ?_, ?_⟩ | refine ⟨?_, ?_⟩)
       · rw [HI185.out]; exact ⟨q + 1, (by kernel_rfl), (by kernel_rfl), (by kernel_rfl), (by kernel_rfl), (by kernel_rfl), (by kernel_rfl), (by show Value.int .i64 ((q : Int) + 1) = _; simp), (by omega), (lhd (fun j_ hj_ => by rcases Nat.lt_succ_iff_lt_or_eq.1 hj_ with h_ | e_; exact HNQ.out j_ h_; rw [e_]; exact cz_n (fun e_ => c195H.out e_.2) HNA.out)), (by first | rfl | simp), (by first | omega | (simp; done) | (simp; omega)), hF202⟩
       · simp [slot, intOf]; omega
      case atStart7 =>
       rw [HI201.out]
       exact ⟨0, (by kernel_rfl), (by kernel_rfl), (by kernel_rfl), (by kernel_rfl), (by kernel_rfl), (by kernel_rfl), (by kernel_rfl), rfl, Nat.zero_le _, (lhd (fun _ _ h _ => absurd h (Nat.not_lt_zero _))), rfl, (by first | exact Nat.le_refl _ | omega | (simp; done) | (simp; omega)), hF186⟩
     have c194a : ((q : Int) == (c.bef (c.m i) i)) = false := beq_f c194
     have c194b : ((q : Int) != (c.bef (c.m i) i)) = true := bne_t c194
     have c194H := lhd c194
     clear c194
     go_wp2_with fail
     obtain ⟨HI234_, HI2340⟩ : ∃ I : RelT, I = (fun t ds wr => ∃ (j : Nat), t 2 = .slice (some ⟨x17, o18, none⟩) ts.length cP /\ t 3 = .int .i64 (i : Int) /\ t 5 = .pointer (some ⟨w.heap.size + 1, 0, none⟩) /\ t 9 = .pointer (some ⟨wd29.heap.size, 0, none⟩) /\ t 10 = .int .i64 (bgAt (c.plan ts.length) i) /\ t 11 = .int .i64 (c.bef (c.m i) i) /\ t 13 = .int .i64 (q : Int) /\ t 14 = .int .i64 (j : Int) /\ j <= z.af.length /\ Hid (∀ n_ y_, n_ < j -> z.af[n_]? = some y_ -> ¬ (y_ = (q : Int) /\ enAt (c.plan ts.length) q + c.wa q = bgAt (c.plan ts.length) i)) /\ ds = [] /\ w188.heap.size <= wr.heap.size /\ Bun w [rbox wd29.heap.size 79 #[.int .i64 z.m, .int .i64 z.ho.lo, .int .i64 z.ho.hi, .int .i64 z.wa.lo, .int .i64 z.wa.hi, .int .i64 z.fr.lo, .int .i64 z.fr.hi, .slice a_z z.af.length c_z], rsl intEnc 1 lo hi (.slice a_z z.af.length c_z) z.af, rbox (w.heap.size + 1) 51 #[.slice ah lh.length cah, .slice (some ⟨x191, o192, none⟩) lw.length caw, .slice (some ⟨x19, o20, none⟩) lf.length caf, .slice ak rows.length cak], rsl prEnc 2 lo4 hi4 (.slice (some ⟨x17, o18, none⟩) ts.length cP) (c.plan ts.length), rrwsl lo3 hi3 rows, rsl vEncS 1 lo3 hi3 (.slice ak rows.length cak) (rows.map (·.1)), rsl intEnc 1 lo3 hi3 (.slice (some ⟨x19, o20, none⟩) lf.length caf) lf, rsl intEnc 1 lo3 hi3 (.slice (some ⟨x191, o192, none⟩) lw.length caw) lw, rsl intEnc 1 lo3 hi3 (.slice ah lh.length cah) lh, rafs lo hi ts, rsl tskEnc 8 lo hi (.slice (some ⟨x13, o14, none⟩) ts.length cT) ts, rsl mchEnc 3 lo hi (.slice aM ms.length cM) ms] wr) := ⟨_, rfl⟩
     have HI234 := lhd HI2340
     clear HI2340
     refine wp_loopS 95 rfl HI234_ (fun t wr => z.af.length - (intOf (t 14)).toNat) ?atStart8 ?round8
     case round8 =>
      intro t ds wr hHid
      rw [HI234.out] at hHid
      obtain ⟨j, e2, e3, e5, e9, e10, e11, e13, e14, hrel⟩ := hHid
      have e := rgKQ95 t
      (try dsimp only at e)
      rw [e2, e3, e5, e9, e10, e11, e13, e14] at e
      rw [e]
      simp only [e14]
      clear e e2 e3 e5 e9 e10 e11 e13 e14
      obtain ⟨hj_, HNJ, rfl, hs236, hF235⟩ := hrel
      clear hF186
      obtain ⟨w237, rfl⟩ : ∃ x_ : World, x_ = wr := ⟨_, rfl⟩
      by_cases c238 : (j : Int) < (z.af.length : Int)
      ·
       have c238H := lhd c238
       obtain ⟨x239, o240, e_⟩ := Sl.addr (hF235.at 1 rfl : Sl intEnc 1 lo hi _ (.slice a_z z.af.length c_z) z.af) (by omega)
       subst e_
       obtain ⟨y, hz241_⟩ : ∃ z_, z.af[j]? = some z_ := ⟨_, List.getElem?_eq_getElem (by omega)⟩
       have hz241 := lhd hz241_
       clear hz241_
       by_cases c242 : y = (q : Int)
       ·
        have c242a : (y == (q : Int)) = true := beq_t c242
        have c242b : (y != (q : Int)) = false := bne_f c242
        have c242H := lhd c242
        clear c242
        have b244 := hF235.bx8 0 rfl
        go_wp2_with fail
        clear b244
        have b246 := hF235.bx8 0 rfl
        have b247 := hF235.bx4 2 rfl
        have ge248 : World.cell? _ ⟨x239, o240 + j, none⟩ = some (.int .i64 y) := (by have h_ := Sl.cells (hF235.at 1 rfl) hz241.out 0 _ rfl; simpa using h_)
        have ge249 : World.cell? _ ⟨x17, o18 + q * 2 + 1, none⟩ = some (.int .i64 (enAt (c.plan ts.length) q)) := (Sl.cells (hF235.at 3 rfl) hz190.out 1 _ rfl)
        have ge250 : World.cell? _ ⟨x191, o192 + q, none⟩ = some (.int .i64 (c.wa q)) := (by have h_ := Sl.cells (hF235.at 7 rfl) hz193.out 0 _ rfl; simpa using h_)
        have hw245 : IntKind.i64.wrap (enAt (c.plan ts.length) q + (c.wa q)) = enAt (c.plan ts.length) q + (c.wa q) := IntWalk.i64_in _ (by omega)
        go_quiet (fail)
        clear b246 b247 ge248 ge249 ge250 hw245
        have F251 := hF235.drewN nq
        clear hF235
        have Fn_ := F251
        (try dsimp only [List.eraseIdx_cons_succ, List.eraseIdx_cons_zero] at Fn_)
        obtain ⟨w252, hx253, F255, hxs254⟩ := Fn_.name
        (try simp at hxs254)
        rw [hx253]
        clear hx253 F251 Fn_
        by_cases c256 : enAt (c.plan ts.length) q + (c.wa q) = bgAt (c.plan ts.length) i
        ·
         have c256a : ((enAt (c.plan ts.length) q + (c.wa q)) == (bgAt (c.plan ts.length) i)) = true := beq_t c256
         have c256b : ((enAt (c.plan ts.length) q + (c.wa q)) != (bgAt (c.plan ts.length) i)) = false := bne_f c256
         have c256H := lhd c256
         clear c256
         have Hx257 := lhd (show ((rcs c ts.length i : Int)) = (q : Int) by exact rcs_at c159H.out HNQ.out (by omega) (cz_a (by rw [← HZM.out.2]; have h_ := List.mem_of_getElem? hz241.out; rwa [c242H.out] at h_) c256H.out))
         go_wp2_with fail
         go_ret
         exact ⟨by rw [Hx257.out] <;> rfl, F255.gb⟩
        have c256a : ((enAt (c.plan ts.length) q + (c.wa q)) == (bgAt (c.plan ts.length) i)) = false := beq_f c256
        have c256b : ((enAt (c.plan ts.length) q + (c.wa q)) != (bgAt (c.plan ts.length) i)) = true := bne_t c256
        have c256H := lhd c256
        clear c256
        go_wp2_with fail
        (first | refine ⟨by kernel_rfl, ?_, ?_⟩ | refine ⟨rfl, ?_, ?_⟩ | refine ⟨?_, ?_⟩)
        · rw [HI234.out]; exact ⟨j + 1, (by kernel_rfl), (by kernel_rfl), (by kernel_rfl), (by kernel_rfl), (by kernel_rfl), (by kernel_rfl), (by kernel_rfl), (by show Value.int .i64 ((j : Int) + 1) = _; simp), (by omega), (lhd (fun n_ y_ hn_ hy_ => by rcases Nat.lt_succ_iff_lt_or_eq.1 hn_ with h_ | e_; exact HNJ.out n_ y_ h_ hy_; rw [e_, hz241.out] at hy_; obtain rfl := Option.some.inj hy_; exact (fun e_ => c256H.out e_.2))), (by first | rfl | simp), (by first | omega | (simp; done) | (simp; omega)), F255⟩
        · simp [slot, intOf]; omega
       have c242a : (y == (q : Int)) = false := beq_f c242
       have c242b : (y != (q : Int)) = true := bne_t c242
       have c242H := lhd c242
       clear c242
       have b258 := hF235.bx8 0 rfl
       go_wp2_with fail
       clear b258
       have b259 := hF235.bx8 0 rfl
       have ge260 : World.cell? _ ⟨x239, o240 + j, none⟩ = some (.int .i64 y) := (by have h_ := Sl.cells (hF235.at 1 rfl) hz241.out 0 _ rfl; simpa using h_)
       go_quiet (fail)
       clear b259 ge260
       have F261 := hF235.drewN nq
       clear hF235
       have Fn_ := F261
       (try dsimp only [List.eraseIdx_cons_succ, List.eraseIdx_cons_zero] at Fn_)
       obtain ⟨w262, hx263, F265, hxs264⟩ := Fn_.name
       (try simp at hxs264)
       rw [hx263]
       clear hx263 F261 Fn_
       go_wp2_with fail
       (first | refine ⟨by kernel_rfl, ?_, ?_⟩ | refine ⟨rfl, ?_, ?_⟩ | refine ⟨?_, ?_⟩)
       · rw [HI234.out]; exact ⟨j + 1, (by kernel_rfl), (by kernel_rfl), (by kernel_rfl), (by kernel_rfl), (by kernel_rfl), (by kernel_rfl), (by kernel_rfl), (by show Value.int .i64 ((j : Int) + 1) = _; simp), (by omega), (lhd (fun n_ y_ hn_ hy_ => by rcases Nat.lt_succ_iff_lt_or_eq.1 hn_ with h_ | e_; exact HNJ.out n_ y_ h_ hy_; rw [e_, hz241.out] at hy_; obtain rfl := Option.some.inj hy_; exact (fun e_ => c242H.out e_.1))), (by first | rfl | simp), (by first | omega | (simp; done) | (simp; omega)), F265⟩
       · simp [slot, intOf]; omega
      have c238H := lhd c238
      have c238a : decide ((j : Int) < (z.af.length : Int)) = false := dec_f c238
      have HNA : Hid (∀ y ∈ c.af i, ¬ (y = (q : Int) /\ enAt (c.plan ts.length) q + c.wa q = bgAt (c.plan ts.length) i)) := lhd (by rw [← HZM.out.2]; exact fun y_ h_ e_ => by obtain ⟨n_, hn_, en_⟩ := List.getElem_of_mem h_; exact HNJ.out n_ y_ (by omega) (by rw [List.getElem?_eq_getElem hn_, en_]) e_)
      have b266 := hF235.bx8 0 rfl
      go_wp2_with fail
      clear b266
      (first | refine ⟨by kernel_rfl, ?_, ?_⟩ | refine ⟨rfl, ?_, ?_⟩ | refine ⟨?_, ?_⟩)
      · rw [HI185.out]; exact ⟨q + 1, (by kernel_rfl), (by kernel_rfl), (by kernel_rfl), (by kernel_rfl), (by kernel_rfl), (by kernel_rfl), (by show Value.int .i64 ((q : Int) + 1) = _; simp), (by omega), (lhd (fun j_ hj_ => by rcases Nat.lt_succ_iff_lt_or_eq.1 hj_ with h_ | e_; exact HNQ.out j_ h_; rw [e_]; exact cz_n (fun e_ => c194H.out e_.1) HNA.out)), (by first | rfl | simp), (by first | omega | (simp; done) | (simp; omega)), hF235⟩
      · simp [slot, intOf]; omega
     case atStart8 =>
      rw [HI234.out]
      exact ⟨0, (by kernel_rfl), (by kernel_rfl), (by kernel_rfl), (by kernel_rfl), (by kernel_rfl), (by kernel_rfl), (by kernel_rfl), rfl, Nat.zero_le _, (lhd (fun _ _ h _ => absurd h (Nat.not_lt_zero _))), rfl, (by first | exact Nat.le_refl _ | omega | (simp; done) | (simp; omega)), hF186⟩
    have c189H := lhd c189
    have c189a : decide ((q : Int) < (i : Int)) = false := dec_f c189
    have Hx267 := lhd (show ((rcs c ts.length i : Int)) = -1 by exact rcs_no c159H.out (fun j_ hj_ => HNQ.out j_ (by omega)))
    go_wp2_with fail
    go_ret
    exact ⟨by rw [Hx267.out] <;> rfl, hF186.gb⟩
   case atStart6 =>
    rw [HI185.out]
    exact ⟨0, (by kernel_rfl), (by kernel_rfl), (by kernel_rfl), (by kernel_rfl), (by kernel_rfl), (by kernel_rfl), rfl, Nat.zero_le _, (lhd (fun _ h => absurd h (Nat.not_lt_zero _))), rfl, (by first | exact Nat.le_refl _ | omega | (simp; done) | (simp; omega)), (hF168.drop 3 rfl)⟩
  case atStart5 =>
   rw [HI167.out]
   exact ⟨0, (by kernel_rfl), (by kernel_rfl), (by kernel_rfl), (by kernel_rfl), (by kernel_rfl), (by kernel_rfl), rfl, rfl, Nat.zero_le _, rfl, (by first | exact Nat.le_refl _ | omega | (simp; done) | (simp; omega)), F158⟩
 intro K hK
 have Fn_ := F149
 (try dsimp only [List.eraseIdx_cons_succ, List.eraseIdx_cons_zero] at Fn_)
 obtain ⟨w268, hx269, F271, hxs270⟩ := Fn_.name
 (try simp at hxs270)
 rw [hx269]
 clear hx269 F149 Fn_
 have kb_ := F271.bx8 0 rfl
 go_simp
 clear kb_
 have F272 := F271.pt8 (.int .i64 z.m) (.int .i64 z.ho.lo) (.int .i64 z.ho.hi) (.int .i64 z.wa.lo) (.int .i64 z.wa.hi) (.int .i64 z.fr.lo) (.int .i64 z.fr.hi) (.slice a_z z.af.length c_z)
 clear F271
 refine ru_back_late hK (by kernel_rfl) ?_
 clear hK K
 (try simp only [Act.put, lpA, lpB, lpC])
 refine ru_one 9 rfl (by kernel_rfl) (fun K hK => ?_)
 have kq0_ : World.cell? _ ⟨x17, o18 + i * 2, none⟩ = some (.int .i64 (bgAt (c.plan ts.length) i)) := (Sl.cells (F272.at 4 rfl) hz21.out 0 _ rfl)
 go_simp
 clear kq0_
 refine ru_back_late hK (by kernel_rfl) ?_
 clear hK K
 (try simp only [Act.put, lpA, lpB, lpC])
 refine ru_one 12 rfl (by kernel_rfl) (fun K hK => ?_)
 go_simp
 refine ru_back_late hK (by kernel_rfl) ?_
 clear hK K
 (try simp only [Act.put, lpA, lpB, lpC])
 refine ru_done (by kernel_rfl) ?_
 have Fn_ := F272
 (try dsimp only [List.eraseIdx_cons_succ, List.eraseIdx_cons_zero] at Fn_)
 obtain ⟨w273, hx274, F276, hxs275⟩ := Fn_.name
 (try simp at hxs275)
 rw [hx274]
 clear hx274 F272 Fn_
 by_cases c277 : c.fr i = bgAt (c.plan ts.length) i
 ·
  have c277a : ((c.fr i) == (bgAt (c.plan ts.length) i)) = true := beq_t c277
  have c277b : ((c.fr i) != (bgAt (c.plan ts.length) i)) = false := bne_f c277
  have c277H := lhd c277
  clear c277
  have Hx278 := lhd (show ((rcs c ts.length i : Int)) = -1 by exact rcs_fr c277H.out)
  have b279 := F276.bx4 2 rfl
  have ge280 : World.cell? _ ⟨x19, o20 + i, none⟩ = some (.int .i64 (c.fr i)) := (by have h_ := Sl.cells (F276.at 7 rfl) hz22.out 0 _ rfl; simpa using h_)
  have gl281 := cell_lt ge280
  go_wp2_with fail
  clear b279 ge280 gl281
  go_ret
  exact ⟨by rw [Hx278.out] <;> rfl, F276.gb⟩
 have c277a : ((c.fr i) == (bgAt (c.plan ts.length) i)) = false := beq_f c277
 have c277b : ((c.fr i) != (bgAt (c.plan ts.length) i)) = true := bne_t c277
 have c277H := lhd c277
 clear c277
 have b282 := F276.bx4 2 rfl
 have ge283 : World.cell? _ ⟨x19, o20 + i, none⟩ = some (.int .i64 (c.fr i)) := (by have h_ := Sl.cells (F276.at 7 rfl) hz22.out 0 _ rfl; simpa using h_)
 have gl284 := cell_lt ge283
 go_wp2_with fail
 clear b282 ge283 gl284
 obtain ⟨HI285_, HI2850⟩ : ∃ I : RelT, I = (fun t ds wr => ∃ (k : Nat), t 2 = .slice (some ⟨x17, o18, none⟩) ts.length cP /\ t 3 = .int .i64 (i : Int) /\ t 4 = .pointer (some ⟨w.heap.size, 0, none⟩) /\ t 5 = .pointer (some ⟨w.heap.size + 1, 0, none⟩) /\ t 9 = .pointer (some ⟨wd29.heap.size, 0, none⟩) /\ t 10 = .int .i64 (bgAt (c.plan ts.length) i) /\ t 11 = .int .i64 (c.bef (c.m i) k) /\ t 12 = .int .i64 (k : Int) /\ k <= i /\ ds = [] /\ w273.heap.size <= wr.heap.size /\ Bun w [rbox wd29.heap.size 79 #[.int .i64 z.m, .int .i64 z.ho.lo, .int .i64 z.ho.hi, .int .i64 z.wa.lo, .int .i64 z.wa.hi, .int .i64 z.fr.lo, .int .i64 z.fr.hi, .slice a_z z.af.length c_z], rsl intEnc 1 lo hi (.slice a_z z.af.length c_z) z.af, rbox (w.heap.size + 1) 51 #[.slice ah lh.length cah, .slice aw lw.length caw, .slice (some ⟨x19, o20, none⟩) lf.length caf, .slice ak rows.length cak], rbox w.heap.size 25 #[.slice aM ms.length cM, .slice (some ⟨x13, o14, none⟩) ts.length cT], rsl prEnc 2 lo4 hi4 (.slice (some ⟨x17, o18, none⟩) ts.length cP) (c.plan ts.length), rrwsl lo3 hi3 rows, rsl vEncS 1 lo3 hi3 (.slice ak rows.length cak) (rows.map (·.1)), rsl intEnc 1 lo3 hi3 (.slice (some ⟨x19, o20, none⟩) lf.length caf) lf, rsl intEnc 1 lo3 hi3 (.slice aw lw.length caw) lw, rsl intEnc 1 lo3 hi3 (.slice ah lh.length cah) lh, rafs lo hi ts, rsl tskEnc 8 lo hi (.slice (some ⟨x13, o14, none⟩) ts.length cT) ts, rsl mchEnc 3 lo hi (.slice aM ms.length cM) ms] wr) := ⟨_, rfl⟩
 have HI285 := lhd HI2850
 clear HI2850
 refine wp_loopS 95 rfl HI285_ (fun t wr => i - (intOf (t 12)).toNat) ?atStart9 ?round9
 case round9 =>
  intro t ds wr hHid
  rw [HI285.out] at hHid
  obtain ⟨k, e2, e3, e4, e5, e9, e10, e11, e12, hrel⟩ := hHid
  have e := rgKQ95 t
  (try dsimp only at e)
  rw [e2, e3, e4, e5, e9, e10, e11, e12] at e
  rw [e]
  simp only [e12]
  clear e e2 e3 e4 e5 e9 e10 e11 e12
  obtain ⟨hk_, rfl, hs287, hF286⟩ := hrel
  clear F276
  obtain ⟨w288, rfl⟩ : ∃ x_ : World, x_ = wr := ⟨_, rfl⟩
  by_cases c289 : (k : Int) < (i : Int)
  ·
   have c289H := lhd c289
   obtain ⟨u, hz290_⟩ : ∃ z_, ts[k]? = some z_ := ⟨_, List.getElem?_eq_getElem (by omega)⟩
   have hz290 := lhd hz290_
   clear hz290_
   obtain ⟨a_u, c_u, hav_u, hcap_u, hsl_u⟩ := Afs.open (hF286.at 10 rfl : Afs lo hi _ ts) hz290.out
   have HAV_u := lhd hav_u
   clear hav_u
   have F291 := hF286.more 10 (rsl intEnc 1 lo hi (.slice a_u u.af.length c_u) u.af) rfl rfl rfl (fun _ h_ => h_) hsl_u
   clear hF286
   have hm_u := (F291.at 0 rfl : Sl intEnc 1 lo hi _ (.slice a_u u.af.length c_u) u.af).len
   unfold maxLen at hm_u
   have hki : (k : Int) < (ts.length : Int) := by omega
   have HUM : Hid (u.m = c.m k) := lhd (by rw [HCS.out.m, tk_get hz290.out])
   go_wp2_with fail
   have b292 := F291.bx8 1 rfl
   have b293 := F291.bx2 4 rfl
   have ge294 : World.cell? _ ⟨x13, o14 + k * 8, none⟩ = some (.int .i64 u.m) := (Sl.cells (F291.at 12 rfl) hz290.out 0 _ rfl)
   go_quiet (fail)
   clear b292 b293 ge294
   have F295 := F291.drewN nq
   clear F291
   have Fn_ := F295
   (try dsimp only [List.eraseIdx_cons_succ, List.eraseIdx_cons_zero] at Fn_)
   obtain ⟨w296, hx297, F299, hxs298⟩ := Fn_.name
   (try simp at hxs298)
   rw [hx297]
   clear hx297 F295 Fn_
   by_cases c300 : u.m = z.m
   ·
    have c300a : (u.m == z.m) = true := beq_t c300
    have c300b : (u.m != z.m) = false := bne_f c300
    have c300H := lhd c300
    clear c300
    go_wp2_with fail
    have F301 : Bun w [rbox wd29.heap.size 79 #[.int .i64 z.m, .int .i64 z.ho.lo, .int .i64 z.ho.hi, .int .i64 z.wa.lo, .int .i64 z.wa.hi, .int .i64 z.fr.lo, .int .i64 z.fr.hi, .slice a_z z.af.length c_z], rsl intEnc 1 lo hi (.slice a_z z.af.length c_z) z.af, rbox (w.heap.size + 1) 51 #[.slice ah lh.length cah, .slice aw lw.length caw, .slice (some ⟨x19, o20, none⟩) lf.length caf, .slice ak rows.length cak], rbox w.heap.size 25 #[.slice aM ms.length cM, .slice (some ⟨x13, o14, none⟩) ts.length cT], rsl prEnc 2 lo4 hi4 (.slice (some ⟨x17, o18, none⟩) ts.length cP) (c.plan ts.length), rrwsl lo3 hi3 rows, rsl vEncS 1 lo3 hi3 (.slice ak rows.length cak) (rows.map (·.1)), rsl intEnc 1 lo3 hi3 (.slice (some ⟨x19, o20, none⟩) lf.length caf) lf, rsl intEnc 1 lo3 hi3 (.slice aw lw.length caw) lw, rsl intEnc 1 lo3 hi3 (.slice ah lh.length cah) lh, rafs lo hi ts, rsl tskEnc 8 lo hi (.slice (some ⟨x13, o14, none⟩) ts.length cT) ts, rsl mchEnc 3 lo hi (.slice aM ms.length cM) ms] _ := F299.pick [1, 2, 3, 4, 5, 6, 7, 8, 9, 10, 11, 12, 13] (by decide) rfl
    clear F299
    (first | refine ⟨by kernel_rfl, ?_, ?_⟩ | refine ⟨rfl, ?_, ?_⟩ | refine ⟨?_, ?_⟩)
    · rw [HI285.out]; exact ⟨k + 1, (by kernel_rfl), (by kernel_rfl), (by kernel_rfl), (by kernel_rfl), (by kernel_rfl), (by kernel_rfl), (by rw [bef_next c _ k rfl, ← HUM.out, ← HZM.out.1, if_pos c300H.out]; first | kernel_rfl | rfl), (by show Value.int .i64 ((k : Int) + 1) = _; simp), (by omega), (by first | rfl | simp), (by first | omega | (simp; done) | (simp; omega)), F301⟩
    · simp [slot, intOf]; omega
   have c300a : (u.m == z.m) = false := beq_f c300
   have c300b : (u.m != z.m) = true := bne_t c300
   have c300H := lhd c300
   clear c300
   go_wp2_with fail
   have F302 : Bun w [rbox wd29.heap.size 79 #[.int .i64 z.m, .int .i64 z.ho.lo, .int .i64 z.ho.hi, .int .i64 z.wa.lo, .int .i64 z.wa.hi, .int .i64 z.fr.lo, .int .i64 z.fr.hi, .slice a_z z.af.length c_z], rsl intEnc 1 lo hi (.slice a_z z.af.length c_z) z.af, rbox (w.heap.size + 1) 51 #[.slice ah lh.length cah, .slice aw lw.length caw, .slice (some ⟨x19, o20, none⟩) lf.length caf, .slice ak rows.length cak], rbox w.heap.size 25 #[.slice aM ms.length cM, .slice (some ⟨x13, o14, none⟩) ts.length cT], rsl prEnc 2 lo4 hi4 (.slice (some ⟨x17, o18, none⟩) ts.length cP) (c.plan ts.length), rrwsl lo3 hi3 rows, rsl vEncS 1 lo3 hi3 (.slice ak rows.length cak) (rows.map (·.1)), rsl intEnc 1 lo3 hi3 (.slice (some ⟨x19, o20, none⟩) lf.length caf) lf, rsl intEnc 1 lo3 hi3 (.slice aw lw.length caw) lw, rsl intEnc 1 lo3 hi3 (.slice ah lh.length cah) lh, rafs lo hi ts, rsl tskEnc 8 lo hi (.slice (some ⟨x13, o14, none⟩) ts.length cT) ts, rsl mchEnc 3 lo hi (.slice aM ms.length cM) ms] _ := F299.pick [1, 2, 3, 4, 5, 6, 7, 8, 9, 10, 11, 12, 13] (by decide) rfl
   clear F299
   (first | refine ⟨by kernel_rfl, ?_, ?_⟩ | refine ⟨rfl, ?_, ?_⟩ | refine ⟨?_, ?_⟩)
   · rw [HI285.out]; exact ⟨k + 1, (by kernel_rfl), (by kernel_rfl), (by kernel_rfl), (by kernel_rfl), (by kernel_rfl), (by kernel_rfl), (by rw [bef_next c _ k rfl, ← HUM.out, ← HZM.out.1, if_neg c300H.out]; first | kernel_rfl | rfl), (by show Value.int .i64 ((k : Int) + 1) = _; simp), (by omega), (by first | rfl | simp), (by first | omega | (simp; done) | (simp; omega)), F302⟩
   · simp [slot, intOf]; omega
  have c289H := lhd c289
  have c289a : decide ((k : Int) < (i : Int)) = false := dec_f c289
  go_wp2_with fail
  have hkk_ : k = i := by omega
  rw [hkk_]
  clear hkk_
  obtain ⟨HI303_, HI3030⟩ : ∃ I : RelT, I = (fun t ds wr => ∃ (q : Nat), t 2 = .slice (some ⟨x17, o18, none⟩) ts.length cP /\ t 3 = .int .i64 (i : Int) /\ t 5 = .pointer (some ⟨w.heap.size + 1, 0, none⟩) /\ t 9 = .pointer (some ⟨wd29.heap.size, 0, none⟩) /\ t 10 = .int .i64 (bgAt (c.plan ts.length) i) /\ t 11 = .int .i64 (c.bef (c.m i) i) /\ t 13 = .int .i64 (q : Int) /\ q <= i /\ Hid (∀ j, j < q -> c.cz ts.length i j = false) /\ ds = [] /\ w288.heap.size <= wr.heap.size /\ Bun w [rbox wd29.heap.size 79 #[.int .i64 z.m, .int .i64 z.ho.lo, .int .i64 z.ho.hi, .int .i64 z.wa.lo, .int .i64 z.wa.hi, .int .i64 z.fr.lo, .int .i64 z.fr.hi, .slice a_z z.af.length c_z], rsl intEnc 1 lo hi (.slice a_z z.af.length c_z) z.af, rbox (w.heap.size + 1) 51 #[.slice ah lh.length cah, .slice aw lw.length caw, .slice (some ⟨x19, o20, none⟩) lf.length caf, .slice ak rows.length cak], rsl prEnc 2 lo4 hi4 (.slice (some ⟨x17, o18, none⟩) ts.length cP) (c.plan ts.length), rrwsl lo3 hi3 rows, rsl vEncS 1 lo3 hi3 (.slice ak rows.length cak) (rows.map (·.1)), rsl intEnc 1 lo3 hi3 (.slice (some ⟨x19, o20, none⟩) lf.length caf) lf, rsl intEnc 1 lo3 hi3 (.slice aw lw.length caw) lw, rsl intEnc 1 lo3 hi3 (.slice ah lh.length cah) lh, rafs lo hi ts, rsl tskEnc 8 lo hi (.slice (some ⟨x13, o14, none⟩) ts.length cT) ts, rsl mchEnc 3 lo hi (.slice aM ms.length cM) ms] wr) := ⟨_, rfl⟩
  have HI303 := lhd HI3030
  clear HI3030
  refine wp_loopS 95 rfl HI303_ (fun t wr => i - (intOf (t 13)).toNat) ?atStart10 ?round10
  case round10 =>
   intro t ds wr hHid
   rw [HI303.out] at hHid
   obtain ⟨q, e2, e3, e5, e9, e10, e11, e13, hrel⟩ := hHid
   have e := rgKQ95 t
   (try dsimp only at e)
   rw [e2, e3, e5, e9, e10, e11, e13] at e
   rw [e]
   simp only [e13]
   clear e e2 e3 e5 e9 e10 e11 e13
   obtain ⟨hq_, HNQ, rfl, hs305, hF304⟩ := hrel
   clear hF286
   obtain ⟨w306, rfl⟩ : ∃ x_ : World, x_ = wr := ⟨_, rfl⟩
   by_cases c307 : (q : Int) < (i : Int)
   ·
    have c307H := lhd c307
    have hz308 : Hid ((c.plan ts.length)[q]? = some (bgAt (c.plan ts.length) q, enAt (c.plan ts.length) q)) := lhd (plan_at _ (by omega))
    obtain ⟨x309, o310, e_⟩ := Sl.addr (hF304.at 7 rfl : Sl intEnc 1 lo3 hi3 _ (.slice aw lw.length caw) lw) (by have h_ := HLL.out.2; omega)
    subst e_
    have hz311 : Hid (lw[q]? = some (c.wa q)) := lhd (rng_at HCS.out.wa (by omega))
    have hqi : (q : Int) < (ts.length : Int) := by omega
    have hqw : (q : Int) < (lw.length : Int) := by have h_ := HLL.out.2; omega
    have henq := c.en_bd (fun i => (HCO.out.fr i).1) (n := ts.length) (k := q) (by omega)
    unfold Cs.past at henq
    have hndc := HCO.out.nd
    have hwaq := HCO.out.wa q
    by_cases c312 : (q : Int) = c.bef (c.m i) i
    ·
     have c312a : ((q : Int) == (c.bef (c.m i) i)) = true := beq_t c312
     have c312b : ((q : Int) != (c.bef (c.m i) i)) = false := bne_f c312
     have c312H := lhd c312
     clear c312
     by_cases c313 : enAt (c.plan ts.length) q = bgAt (c.plan ts.length) i
     ·
      have c313a : ((enAt (c.plan ts.length) q) == (bgAt (c.plan ts.length) i)) = true := beq_t c313
      have c313b : ((enAt (c.plan ts.length) q) != (bgAt (c.plan ts.length) i)) = false := bne_f c313
      have c313H := lhd c313
      clear c313
      have Hx314 := lhd (show ((rcs c ts.length i : Int)) = (q : Int) by exact rcs_at c277H.out HNQ.out (by omega) (cz_m c312H.out c313H.out))
      have ge315 : World.cell? _ ⟨x17, o18 + q * 2 + 1, none⟩ = some (.int .i64 (enAt (c.plan ts.length) q)) := (Sl.cells (hF304.at 3 rfl) hz308.out 1 _ rfl)
      have gl316 := cell_lt ge315
      go_wp2_with fail
      clear ge315 gl316
      go_ret
      exact ⟨by rw [Hx314.out] <;> rfl, hF304.gb⟩
     have c313a : ((enAt (c.plan ts.length) q) == (bgAt (c.plan ts.length) i)) = false := beq_f c313
     have c313b : ((enAt (c.plan ts.length) q) != (bgAt (c.plan ts.length) i)) = true := bne_t c313
     have c313H := lhd c313
     clear c313
     have ge317 : World.cell? _ ⟨x17, o18 + q * 2 + 1, none⟩ = some (.int .i64 (enAt (c.plan ts.length) q)) := (Sl.cells (hF304.at 3 rfl) hz308.out 1 _ rfl)
     have gl318 := cell_lt ge317
     go_wp2_with fail
     clear ge317 gl318
     obtain ⟨HI319_, HI3190⟩ : ∃ I : RelT, I = (fun t ds wr => ∃ (j : Nat), t 2 = .slice (some ⟨x17, o18, none⟩) ts.length cP /\ t 3 = .int .i64 (i : Int) /\ t 5 = .pointer (some ⟨w.heap.size + 1, 0, none⟩) /\ t 9 = .pointer (some ⟨wd29.heap.size, 0, none⟩) /\ t 10 = .int .i64 (bgAt (c.plan ts.length) i) /\ t 11 = .int .i64 (c.bef (c.m i) i) /\ t 13 = .int .i64 (q : Int) /\ t 14 = .int .i64 (j : Int) /\ j <= z.af.length /\ Hid (∀ n_ y_, n_ < j -> z.af[n_]? = some y_ -> ¬ (y_ = (q : Int) /\ enAt (c.plan ts.length) q + c.wa q = bgAt (c.plan ts.length) i)) /\ ds = [] /\ w306.heap.size <= wr.heap.size /\ Bun w [rbox wd29.heap.size 79 #[.int .i64 z.m, .int .i64 z.ho.lo, .int .i64 z.ho.hi, .int .i64 z.wa.lo, .int .i64 z.wa.hi, .int .i64 z.fr.lo, .int .i64 z.fr.hi, .slice a_z z.af.length c_z], rsl intEnc 1 lo hi (.slice a_z z.af.length c_z) z.af, rbox (w.heap.size + 1) 51 #[.slice ah lh.length cah, .slice (some ⟨x309, o310, none⟩) lw.length caw, .slice (some ⟨x19, o20, none⟩) lf.length caf, .slice ak rows.length cak], rsl prEnc 2 lo4 hi4 (.slice (some ⟨x17, o18, none⟩) ts.length cP) (c.plan ts.length), rrwsl lo3 hi3 rows, rsl vEncS 1 lo3 hi3 (.slice ak rows.length cak) (rows.map (·.1)), rsl intEnc 1 lo3 hi3 (.slice (some ⟨x19, o20, none⟩) lf.length caf) lf, rsl intEnc 1 lo3 hi3 (.slice (some ⟨x309, o310, none⟩) lw.length caw) lw, rsl intEnc 1 lo3 hi3 (.slice ah lh.length cah) lh, rafs lo hi ts, rsl tskEnc 8 lo hi (.slice (some ⟨x13, o14, none⟩) ts.length cT) ts, rsl mchEnc 3 lo hi (.slice aM ms.length cM) ms] wr) := ⟨_, rfl⟩
     have HI319 := lhd HI3190
     clear HI3190
     refine wp_loopS 95 rfl HI319_ (fun t wr => z.af.length - (intOf (t 14)).toNat) ?atStart11 ?round11
     case round11 =>
      intro t ds wr hHid
      rw [HI319.out] at hHid
      obtain ⟨j, e2, e3, e5, e9, e10, e11, e13, e14, hrel⟩ := hHid
      have e := rgKQ95 t
      (try dsimp only at e)
      rw [e2, e3, e5, e9, e10, e11, e13, e14] at e
      rw [e]
      simp only [e14]
      clear e e2 e3 e5 e9 e10 e11 e13 e14
      obtain ⟨hj_, HNJ, rfl, hs321, hF320⟩ := hrel
      clear hF304
      obtain ⟨w322, rfl⟩ : ∃ x_ : World, x_ = wr := ⟨_, rfl⟩
      by_cases c323 : (j : Int) < (z.af.length : Int)
      ·
       have c323H := lhd c323
       obtain ⟨x324, o325, e_⟩ := Sl.addr (hF320.at 1 rfl : Sl intEnc 1 lo hi _ (.slice a_z z.af.length c_z) z.af) (by omega)
       subst e_
       obtain ⟨y, hz326_⟩ : ∃ z_, z.af[j]? = some z_ := ⟨_, List.getElem?_eq_getElem (by omega)⟩
       have hz326 := lhd hz326_
       clear hz326_
       by_cases c327 : y = (q : Int)
       ·
        have c327a : (y == (q : Int)) = true := beq_t c327
        have c327b : (y != (q : Int)) = false := bne_f c327
        have c327H := lhd c327
        clear c327
        have b329 := hF320.bx8 0 rfl
        go_wp2_with fail
        clear b329
        have b331 := hF320.bx8 0 rfl
        have b332 := hF320.bx4 2 rfl
        have ge333 : World.cell? _ ⟨x324, o325 + j, none⟩ = some (.int .i64 y) := (by have h_ := Sl.cells (hF320.at 1 rfl) hz326.out 0 _ rfl; simpa using h_)
        have ge334 : World.cell? _ ⟨x17, o18 + q * 2 + 1, none⟩ = some (.int .i64 (enAt (c.plan ts.length) q)) := (Sl.cells (hF320.at 3 rfl) hz308.out 1 _ rfl)
        have ge335 : World.cell? _ ⟨x309, o310 + q, none⟩ = some (.int .i64 (c.wa q)) := (by have h_ := Sl.cells (hF320.at 7 rfl) hz311.out 0 _ rfl; simpa using h_)
        have hw330 : IntKind.i64.wrap (enAt (c.plan ts.length) q + (c.wa q)) = enAt (c.plan ts.length) q + (c.wa q) := IntWalk.i64_in _ (by omega)
        go_quiet (fail)
        clear b331 b332 ge333 ge334 ge335 hw330
        have F336 := hF320.drewN nq
        clear hF320
        have Fn_ := F336
        (try dsimp only [List.eraseIdx_cons_succ, List.eraseIdx_cons_zero] at Fn_)
        obtain ⟨w337, hx338, F340, hxs339⟩ := Fn_.name
        (try simp at hxs339)
        rw [hx338]
        clear hx338 F336 Fn_
        by_cases c341 : enAt (c.plan ts.length) q + (c.wa q) = bgAt (c.plan ts.length) i
        ·
         have c341a : ((enAt (c.plan ts.length) q + (c.wa q)) == (bgAt (c.plan ts.length) i)) = true := beq_t c341
         have c341b : ((enAt (c.plan ts.length) q + (c.wa q)) != (bgAt (c.plan ts.length) i)) = false := bne_f c341
         have c341H := lhd c341
         clear c341
         have Hx342 := lhd (show ((rcs c ts.length i : Int)) = (q : Int) by exact rcs_at c277H.out HNQ.out (by omega) (cz_a (by rw [← HZM.out.2]; have h_ := List.mem_of_getElem? hz326.out; rwa [c327H.out] at h_) c341H.out))
         go_wp2_with fail
         go_ret
         exact ⟨by rw [Hx342.out] <;> rfl, F340.gb⟩
        have c341a : ((enAt (c.plan ts.length) q + (c.wa q)) == (bgAt (c.plan ts.length) i)) = false := beq_f c341
        have c341b : ((enAt (c.plan ts.length) q + (c.wa q)) != (bgAt (c.plan ts.length) i)) = true := bne_t c341
        have c341H := lhd c341
        clear c341
        go_wp2_with fail
        (first | refine ⟨by kernel_rfl, ?_, ?_⟩ | refine ⟨rfl, ?_, ?_⟩ | refine ⟨?_, ?_⟩)
        · rw [HI319.out]; exact ⟨j + 1, (by kernel_rfl), (by kernel_rfl), (by kernel_rfl), (by kernel_rfl), (by kernel_rfl), (by kernel_rfl), (by kernel_rfl), (by show Value.int .i64 ((j : Int) + 1) = _; simp), (by omega), (lhd (fun n_ y_ hn_ hy_ => by rcases Nat.lt_succ_iff_lt_or_eq.1 hn_ with h_ | e_; exact HNJ.out n_ y_ h_ hy_; rw [e_, hz326.out] at hy_; obtain rfl := Option.some.inj hy_; exact (fun e_ => c341H.out e_.2))), (by first | rfl | simp), (by first | omega | (simp; done) | (simp; omega)), F340⟩
        · simp [slot, intOf]; omega
       have c327a : (y == (q : Int)) = false := beq_f c327
       have c327b : (y != (q : Int)) = true := bne_t c327
       have c327H := lhd c327
       clear c327
       have b343 := hF320.bx8 0 rfl
       go_wp2_with fail
       clear b343
       have b344 := hF320.bx8 0 rfl
       have ge345 : World.cell? _ ⟨x324, o325 + j, none⟩ = some (.int .i64 y) := (by have h_ := Sl.cells (hF320.at 1 rfl) hz326.out 0 _ rfl; simpa using h_)
       go_quiet (fail)
       clear b344 ge345
       have F346 := hF320.drewN nq
       clear hF320
       have Fn_ := F346
       (try dsimp only [List.eraseIdx_cons_succ, List.eraseIdx_cons_zero] at Fn_)
       obtain ⟨w347, hx348, F350, hxs349⟩ := Fn_.name
       (try simp at hxs349)
       rw [hx348]
       clear hx348 F346 Fn_
       go_wp2_with fail
       (first | refine ⟨by kernel_rfl, ?_, ?_⟩ | refine ⟨rfl, ?_, ?_⟩ | refine ⟨?_, ?_⟩)
       · rw [HI319.out]; exact ⟨j + 1, (by kernel_rfl), (by kernel_rfl), (by kernel_rfl), (by kernel_rfl), (by kernel_rfl), (by kernel_rfl), (by kernel_rfl), (by show Value.int .i64 ((j : Int) + 1) = _; simp), (by omega), (lhd (fun n_ y_ hn_ hy_ => by rcases Nat.lt_succ_iff_lt_or_eq.1 hn_ with h_ | e_; exact HNJ.out n_ y_ h_ hy_; rw [e_, hz326.out] at hy_; obtain rfl := Option.some.inj hy_; exact (fun e_ => c327H.out e_.1))), (by first | rfl | simp), (by first | omega | (simp; done) | (simp; omega)), F350⟩
       · simp [slot, intOf]; omega
      have c323H := lhd c323
      have c323a : decide ((j : Int) < (z.af.length : Int)) = false := dec_f c323
      have HNA : Hid (∀ y ∈ c.af i, ¬ (y = (q : Int) /\ enAt (c.plan ts.length) q + c.wa q = bgAt (c.plan ts.length) i)) := lhd (by rw [← HZM.out.2]; exact fun y_ h_ e_ => by obtain ⟨n_, hn_, en_⟩ := List.getElem_of_mem h_; exact HNJ.out n_ y_ (by omega) (by rw [List.getElem?_eq_getElem hn_, en_]) e_)
      have b351 := hF320.bx8 0 rfl
      go_wp2_with fail
      clear b351
      (first | refine ⟨by kernel_rfl, ?_, ?_⟩ | refine ⟨rfl, ?_, ?_⟩ | refine ⟨?_, ?_⟩)
      · rw [HI303.out]; exact ⟨q + 1, (by kernel_rfl), (by kernel_rfl), (by kernel_rfl), (by kernel_rfl), (by kernel_rfl), (by kernel_rfl), (by show Value.int .i64 ((q : Int) + 1) = _; simp), (by omega), (lhd (fun j_ hj_ => by rcases Nat.lt_succ_iff_lt_or_eq.1 hj_ with h_ | e_; exact HNQ.out j_ h_; rw [e_]; exact cz_n (fun e_ => c313H.out e_.2) HNA.out)), (by first | rfl | simp), (by first | omega | (simp; done) | (simp; omega)), hF320⟩
      · simp [slot, intOf]; omega
     case atStart11 =>
      rw [HI319.out]
      exact ⟨0, (by kernel_rfl), (by kernel_rfl), (by kernel_rfl), (by kernel_rfl), (by kernel_rfl), (by kernel_rfl), (by kernel_rfl), rfl, Nat.zero_le _, (lhd (fun _ _ h _ => absurd h (Nat.not_lt_zero _))), rfl, (by first | exact Nat.le_refl _ | omega | (simp; done) | (simp; omega)), hF304⟩
    have c312a : ((q : Int) == (c.bef (c.m i) i)) = false := beq_f c312
    have c312b : ((q : Int) != (c.bef (c.m i) i)) = true := bne_t c312
    have c312H := lhd c312
    clear c312
    go_wp2_with fail
    obtain ⟨HI352_, HI3520⟩ : ∃ I : RelT, I = (fun t ds wr => ∃ (j : Nat), t 2 = .slice (some ⟨x17, o18, none⟩) ts.length cP /\ t 3 = .int .i64 (i : Int) /\ t 5 = .pointer (some ⟨w.heap.size + 1, 0, none⟩) /\ t 9 = .pointer (some ⟨wd29.heap.size, 0, none⟩) /\ t 10 = .int .i64 (bgAt (c.plan ts.length) i) /\ t 11 = .int .i64 (c.bef (c.m i) i) /\ t 13 = .int .i64 (q : Int) /\ t 14 = .int .i64 (j : Int) /\ j <= z.af.length /\ Hid (∀ n_ y_, n_ < j -> z.af[n_]? = some y_ -> ¬ (y_ = (q : Int) /\ enAt (c.plan ts.length) q + c.wa q = bgAt (c.plan ts.length) i)) /\ ds = [] /\ w306.heap.size <= wr.heap.size /\ Bun w [rbox wd29.heap.size 79 #[.int .i64 z.m, .int .i64 z.ho.lo, .int .i64 z.ho.hi, .int .i64 z.wa.lo, .int .i64 z.wa.hi, .int .i64 z.fr.lo, .int .i64 z.fr.hi, .slice a_z z.af.length c_z], rsl intEnc 1 lo hi (.slice a_z z.af.length c_z) z.af, rbox (w.heap.size + 1) 51 #[.slice ah lh.length cah, .slice (some ⟨x309, o310, none⟩) lw.length caw, .slice (some ⟨x19, o20, none⟩) lf.length caf, .slice ak rows.length cak], rsl prEnc 2 lo4 hi4 (.slice (some ⟨x17, o18, none⟩) ts.length cP) (c.plan ts.length), rrwsl lo3 hi3 rows, rsl vEncS 1 lo3 hi3 (.slice ak rows.length cak) (rows.map (·.1)), rsl intEnc 1 lo3 hi3 (.slice (some ⟨x19, o20, none⟩) lf.length caf) lf, rsl intEnc 1 lo3 hi3 (.slice (some ⟨x309, o310, none⟩) lw.length caw) lw, rsl intEnc 1 lo3 hi3 (.slice ah lh.length cah) lh, rafs lo hi ts, rsl tskEnc 8 lo hi (.slice (some ⟨x13, o14, none⟩) ts.length cT) ts, rsl mchEnc 3 lo hi (.slice aM ms.length cM) ms] wr) := ⟨_, rfl⟩
    have HI352 := lhd HI3520
    clear HI3520
    refine wp_loopS 95 rfl HI352_ (fun t wr => z.af.length - (intOf (t 14)).toNat) ?atStart12 ?round12
    case round12 =>
     intro t ds wr hHid
     rw [HI352.out] at hHid
     obtain ⟨j, e2, e3, e5, e9, e10, e11, e13, e14, hrel⟩ := hHid
     have e := rgKQ95 t
     (try dsimp only at e)
     rw [e2, e3, e5, e9, e10, e11, e13, e14] at e
     rw [e]
     simp only [e14]
     clear e e2 e3 e5 e9 e10 e11 e13 e14
     obtain ⟨hj_, HNJ, rfl, hs354, hF353⟩ := hrel
     clear hF304
     obtain ⟨w355, rfl⟩ : ∃ x_ : World, x_ = wr := ⟨_, rfl⟩
     by_cases c356 : (j : Int) < (z.af.length : Int)
     ·
      have c356H := lhd c356
      obtain ⟨x357, o358, e_⟩ := Sl.addr (hF353.at 1 rfl : Sl intEnc 1 lo hi _ (.slice a_z z.af.length c_z) z.af) (by omega)
      subst e_
      obtain ⟨y, hz359_⟩ : ∃ z_, z.af[j]? = some z_ := ⟨_, List.getElem?_eq_getElem (by omega)⟩
      have hz359 := lhd hz359_
      clear hz359_
      by_cases c360 : y = (q : Int)
      ·
       have c360a : (y == (q : Int)) = true := beq_t c360
       have c360b : (y != (q : Int)) = false := bne_f c360
       have c360H := lhd c360
       clear c360
       have b362 := hF353.bx8 0 rfl
       go_wp2_with fail
       clear b362
       have b364 := hF353.bx8 0 rfl
       have b365 := hF353.bx4 2 rfl
       have ge366 : World.cell? _ ⟨x357, o358 + j, none⟩ = some (.int .i64 y) := (by have h_ := Sl.cells (hF353.at 1 rfl) hz359.out 0 _ rfl; simpa using h_)
       have ge367 : World.cell? _ ⟨x17, o18 + q * 2 + 1, none⟩ = some (.int .i64 (enAt (c.plan ts.length) q)) := (Sl.cells (hF353.at 3 rfl) hz308.out 1 _ rfl)
       have ge368 : World.cell? _ ⟨x309, o310 + q, none⟩ = some (.int .i64 (c.wa q)) := (by have h_ := Sl.cells (hF353.at 7 rfl) hz311.out 0 _ rfl; simpa using h_)
       have hw363 : IntKind.i64.wrap (enAt (c.plan ts.length) q + (c.wa q)) = enAt (c.plan ts.length) q + (c.wa q) := IntWalk.i64_in _ (by omega)
       go_quiet (fail)
       clear b364 b365 ge366 ge367 ge368 hw363
       have F369 := hF353.drewN nq
       clear hF353
       have Fn_ := F369
       (try dsimp only [List.eraseIdx_cons_succ, List.eraseIdx_cons_zero] at Fn_)
       obtain ⟨w370, hx371, F373, hxs372⟩ := Fn_.name
       (try simp at hxs372)
       rw [hx371]
       clear hx371 F369 Fn_
       by_cases c374 : enAt (c.plan ts.length) q + (c.wa q) = bgAt (c.plan ts.length) i
       ·
        have c374a : ((enAt (c.plan ts.length) q + (c.wa q)) == (bgAt (c.plan ts.length) i)) = true := beq_t c374
        have c374b : ((enAt (c.plan ts.length) q + (c.wa q)) != (bgAt (c.plan ts.length) i)) = false := bne_f c374
        have c374H := lhd c374
        clear c374
        have Hx375 := lhd (show ((rcs c ts.length i : Int)) = (q : Int) by exact rcs_at c277H.out HNQ.out (by omega) (cz_a (by rw [← HZM.out.2]; have h_ := List.mem_of_getElem? hz359.out; rwa [c360H.out] at h_) c374H.out))
        go_wp2_with fail
        go_ret
        exact ⟨by rw [Hx375.out] <;> rfl, F373.gb⟩
       have c374a : ((enAt (c.plan ts.length) q + (c.wa q)) == (bgAt (c.plan ts.length) i)) = false := beq_f c374
       have c374b : ((enAt (c.plan ts.length) q + (c.wa q)) != (bgAt (c.plan ts.length) i)) = true := bne_t c374
       have c374H := lhd c374
       clear c374
       go_wp2_with fail
       (first | refine ⟨by kernel_rfl, ?_, ?_⟩ | refine ⟨rfl, ?_, ?_⟩ | refine ⟨?_, ?_⟩)
       · rw [HI352.out]; exact ⟨j + 1, (by kernel_rfl), (by kernel_rfl), (by kernel_rfl), (by kernel_rfl), (by kernel_rfl), (by kernel_rfl), (by kernel_rfl), (by show Value.int .i64 ((j : Int) + 1) = _; simp), (by omega), (lhd (fun n_ y_ hn_ hy_ => by rcases Nat.lt_succ_iff_lt_or_eq.1 hn_ with h_ | e_; exact HNJ.out n_ y_ h_ hy_; rw [e_, hz359.out] at hy_; obtain rfl := Option.some.inj hy_; exact (fun e_ => c374H.out e_.2))), (by first | rfl | simp), (by first | omega | (simp; done) | (simp; omega)), F373⟩
       · simp [slot, intOf]; omega
      have c360a : (y == (q : Int)) = false := beq_f c360
      have c360b : (y != (q : Int)) = true := bne_t c360
      have c360H := lhd c360
      clear c360
      have b376 := hF353.bx8 0 rfl
      go_wp2_with fail
      clear b376
      have b377 := hF353.bx8 0 rfl
      have ge378 : World.cell? _ ⟨x357, o358 + j, none⟩ = some (.int .i64 y) := (by have h_ := Sl.cells (hF353.at 1 rfl) hz359.out 0 _ rfl; simpa using h_)
      go_quiet (fail)
      clear b377 ge378
      have F379 := hF353.drewN nq
      clear hF353
      have Fn_ := F379
      (try dsimp only [List.eraseIdx_cons_succ, List.eraseIdx_cons_zero] at Fn_)
      obtain ⟨w380, hx381, F383, hxs382⟩ := Fn_.name
      (try simp at hxs382)
      rw [hx381]
      clear hx381 F379 Fn_
      go_wp2_with fail
      (first | refine ⟨by kernel_rfl, ?_, ?_⟩ | refine ⟨rfl, ?_, ?_⟩ | refine ⟨?_, ?_⟩)
      · rw [HI352.out]; exact ⟨j + 1, (by kernel_rfl), (by kernel_rfl), (by kernel_rfl), (by kernel_rfl), (by kernel_rfl), (by kernel_rfl), (by kernel_rfl), (by show Value.int .i64 ((j : Int) + 1) = _; simp), (by omega), (lhd (fun n_ y_ hn_ hy_ => by rcases Nat.lt_succ_iff_lt_or_eq.1 hn_ with h_ | e_; exact HNJ.out n_ y_ h_ hy_; rw [e_, hz359.out] at hy_; obtain rfl := Option.some.inj hy_; exact (fun e_ => c360H.out e_.1))), (by first | rfl | simp), (by first | omega | (simp; done) | (simp; omega)), F383⟩
      · simp [slot, intOf]; omega
     have c356H := lhd c356
     have c356a : decide ((j : Int) < (z.af.length : Int)) = false := dec_f c356
     have HNA : Hid (∀ y ∈ c.af i, ¬ (y = (q : Int) /\ enAt (c.plan ts.length) q + c.wa q = bgAt (c.plan ts.length) i)) := lhd (by rw [← HZM.out.2]; exact fun y_ h_ e_ => by obtain ⟨n_, hn_, en_⟩ := List.getElem_of_mem h_; exact HNJ.out n_ y_ (by omega) (by rw [List.getElem?_eq_getElem hn_, en_]) e_)
     have b384 := hF353.bx8 0 rfl
     go_wp2_with fail
     clear b384
     (first | refine ⟨by kernel_rfl, ?_, ?_⟩ | refine ⟨rfl, ?_, ?_⟩ | refine ⟨?_, ?_⟩)
     · rw [HI303.out]; exact ⟨q + 1, (by kernel_rfl), (by kernel_rfl), (by kernel_rfl), (by kernel_rfl), (by kernel_rfl), (by kernel_rfl), (by show Value.int .i64 ((q : Int) + 1) = _; simp), (by omega), (lhd (fun j_ hj_ => by rcases Nat.lt_succ_iff_lt_or_eq.1 hj_ with h_ | e_; exact HNQ.out j_ h_; rw [e_]; exact cz_n (fun e_ => c312H.out e_.1) HNA.out)), (by first | rfl | simp), (by first | omega | (simp; done) | (simp; omega)), hF353⟩
     · simp [slot, intOf]; omega
    case atStart12 =>
     rw [HI352.out]
     exact ⟨0, (by kernel_rfl), (by kernel_rfl), (by kernel_rfl), (by kernel_rfl), (by kernel_rfl), (by kernel_rfl), (by kernel_rfl), rfl, Nat.zero_le _, (lhd (fun _ _ h _ => absurd h (Nat.not_lt_zero _))), rfl, (by first | exact Nat.le_refl _ | omega | (simp; done) | (simp; omega)), hF304⟩
   have c307H := lhd c307
   have c307a : decide ((q : Int) < (i : Int)) = false := dec_f c307
   have Hx385 := lhd (show ((rcs c ts.length i : Int)) = -1 by exact rcs_no c277H.out (fun j_ hj_ => HNQ.out j_ (by omega)))
   go_wp2_with fail
   go_ret
   exact ⟨by rw [Hx385.out] <;> rfl, hF304.gb⟩
  case atStart10 =>
   rw [HI303.out]
   exact ⟨0, (by kernel_rfl), (by kernel_rfl), (by kernel_rfl), (by kernel_rfl), (by kernel_rfl), (by kernel_rfl), rfl, Nat.zero_le _, (lhd (fun _ h => absurd h (Nat.not_lt_zero _))), rfl, (by first | exact Nat.le_refl _ | omega | (simp; done) | (simp; omega)), (hF286.drop 3 rfl)⟩
 case atStart9 =>
  rw [HI285.out]
  exact ⟨0, (by kernel_rfl), (by kernel_rfl), (by kernel_rfl), (by kernel_rfl), (by kernel_rfl), (by kernel_rfl), rfl, rfl, Nat.zero_le _, rfl, (by first | exact Nat.le_refl _ | omega | (simp; done) | (simp; omega)), F276⟩
end Go.Proofs.Ytokelpmngahnoaa
/- build and its reference: the reference's chain. -/
namespace Go.Proofs.Ytokelpmngahnoaa
open Go.RowKit
set_option maxRecDepth 100000
attribute [local go_sem] Oper.semAt_some
section
variable {α : Type} {P : Program} {t e : TypeId} {sz bytes : Nat} {enc : α -> List Value}
theorem wp_appS (ok : ElemOk P t e sz bytes enc) {o : Oper} {a : Act} {K : Act -> World -> Prop} {Q : Exit -> Act -> World -> Prop} {w0 w : World} {L : List Res} (s x : Operand)
  (ho : o.op = .call { callee := .builtin .append, args := #[s, x], argTypes := #[t, t] }) (base : Nat) (v : Value) (l : List α) (hs : a.eval s = v) (hB : Bun w0 (rown enc e sz base v l :: L) w)
  (lo hi : Nat) (vy : Value) (ys : List α) (hx : a.eval x = vy) (hy : Sl enc sz lo hi w vy ys) (hbig : l.length + ys.length <= 100000000000) (hbase : base <= w.heap.size)
  (h : ∀ v' w', Bun w0 (rown enc e sz base v' (l ++ ys) :: L) w' -> w.heap.size <= w'.heap.size -> K (a.put o.dst v') w') : o.wp P a w K Q := by
 have hown : Own enc e sz base w v l := hB.at 0 rfl
 by_cases h0 : ys.length = 0
 ·
  obtain ⟨ad, c, rfl, rfl⟩ := hy.nil_ h0
  have hr : (Builtin.append_ #[t, t] o.type #[v, .slice ad 0 c]).run P w = .ok v w := by
   obtain ⟨i, z, h1, h2, h3', h4, h5⟩ := ok.info
   rcases hown.2 with ⟨rfl, _⟩ | ⟨g, cap, cur, rfl, _, _, hnc, _⟩
   · cases ad <;> simp [Builtin.append_, run_underlying ok.under, sizeOf, typeInfo, h1, Builtin.lenOf, Builtin.firstCells, storeCells, loadCells, loadCellsFrom]
   · cases ad <;> simp [Builtin.append_, run_underlying ok.under, sizeOf, typeInfo, h1, Builtin.lenOf, Builtin.firstCells, hnc, storeCells, loadCells, loadCellsFrom]
  unfold Oper.wp execOp
  simp only [ho, resolve, invoke, builtin, Sem.run_bind, Sem.run_pure, Result.andThen_ok, List.map_toArray, List.map_cons, List.map_nil, hs, hx, hr]
  exact h v w (by rw [List.append_nil]; exact hB) (Nat.le_refl _)
 obtain ⟨b, off, c, rfl, h1, h2, h3⟩ := hy.form (by omega)
 have hfl : ∀ (l : List α) (j : Nat) (u : Value), (l.flatMap enc)[j]? = some u -> ∃ i k x, l[i]? = some x /\ (enc x)[k]? = some u /\ j = i * sz + k := by
  intro l
  induction l with
  | nil => intro j u h; simp at h
  | cons x l ih =>
   intro j u h
   rw [List.flatMap_cons] at h
   by_cases hj : j < sz
   ·
    rw [List.getElem?_append_left (by rw [ok.len]; exact hj)] at h
    exact ⟨0, j, x, rfl, h, by omega⟩
   rw [List.getElem?_append_right (by rw [ok.len]; omega), ok.len] at h
   obtain ⟨i, k, y, h1, h2, h3⟩ := ih _ _ h
   exact ⟨i + 1, k, y, h1, h2, by rw [Nat.add_mul]; omega⟩
 refine wp_app w ok s x ho base v l ys hs hown ⟨b, off, none⟩ ys.length c hx rfl (by omega) (fun j u hj => ?_) _ rfl hbig hbase _ rfl fun g cap w' hp => h _ _ (hB.app hp (Nat.le_refl _)) hp.gb.size
 obtain ⟨i, k, x, e1, e2, rfl⟩ := hfl ys j u hj
 obtain ⟨hi, rfl⟩ := List.getElem?_eq_some_iff.1 e1
 have := h3 i hi k u e2
 have hadd : (⟨b, off, none⟩ : Addr).add (i * sz + k) = ⟨b, off + i * sz + k, none⟩ := by
  unfold Addr.add
  split <;> simp_all <;> omega
 rw [hadd]
 exact this
theorem wpList_appS (ok : ElemOk P t e sz bytes enc) {ops : Array Oper} {rest : List Oper} {o : Oper} {a : Act} {Q : Exit -> Act -> World -> Prop} {w0 w : World} {L : List Res} (hgd : o.guard = none) (s x : Operand)
  (ho : o.op = .call { callee := .builtin .append, args := #[s, x], argTypes := #[t, t] }) (base : Nat) (v : Value) (l : List α) (hs : a.eval s = v) (hB : Bun w0 (rown enc e sz base v l :: L) w)
  (lo hi : Nat) (vy : Value) (ys : List α) (hx : a.eval x = vy) (hy : Sl enc sz lo hi w vy ys) (hbig : l.length + ys.length <= 100000000000) (hbase : base <= w.heap.size)
  (h : ∀ v' w', Bun w0 (rown enc e sz base v' (l ++ ys) :: L) w' -> w.heap.size <= w'.heap.size -> wpList P ops Q rest (a.put o.dst v') w') : wpList P ops Q (o :: rest) a w :=
 wpList_plain hgd fun _ hK => wp_appS ok s x ho base v l hs hB lo hi vy ys hx hy hbig hbase fun v' w' hb hw => hK _ _ (h v' w' hb hw)
end
theorem rcs_bd {c : Cs} {N q : Nat} : -1 <= rcs c N q /\ rcs c N q < q := by
 unfold rcs
 split
 · omega
 · split <;> omega
theorem rcs_yes {c : Cs} {N q p : Nat} (H : SiteOk c N) (hq : q < N) (hp : c.bgI N q < c.past) (h : rcs c N q = (p : Int)) : p < q /\ c.bgI N p < c.past /\ c.pre N q q = c.pre N p p ++ [p] := by
 unfold rcs at h
 split at h
 · omega
 rename_i hf
 split at h
 ·
  rename_i hl
  have e : p = c.cause N q := by omega
  subst e
  have hf' : ¬ c.bgI N q = c.fr q := fun e => hf e.symm
  obtain ⟨h1, h2⟩ := H.has_cause hq hf' hp
  have h3 := H.cz_bd hq h1 h2
  exact ⟨h1, by omega, H.pre_next hq hf' hp⟩
 · omega
theorem rcs_end {c : Cs} {N q : Nat} (H : SiteOk c N) (hq : q < N) (hp : c.bgI N q < c.past) (h : ¬ 0 <= rcs c N q) : c.pre N q q = [] := by
 refine SiteOk.pre_yes (Classical.byContradiction fun hf => ?_)
 obtain ⟨h1, h2⟩ := H.has_cause hq hf hp
 unfold rcs at h
 rw [if_neg (fun e => hf e.symm), if_pos h1] at h
 omega
theorem chn_front {c : Cs} {N o q p : Nat} {r : List Nat} (h : c.chn N o = c.pre N q q ++ q :: r) (h2 : c.pre N q q = c.pre N p p ++ [p]) : c.chn N o = c.pre N p p ++ p :: (q :: r) := by rw [h, h2]; simp
def hoQ (ms : List Mch) (ts : List Tsk) (dl : List Wea) (k : Nat) (z : Tsk) (q : Int) : List Int := (List.range ts.length).map (caseOf true ms (ts.set k (moreT z q)) dl).ho
theorem ho_more {ms : List Mch} {ts : List Tsk} {dl : List Wea} {k : Nat} {z : Tsk} {q : Int} (hz : ts[k]? = some z) (i : Nat) : (caseOf true ms (ts.set k (moreT z q)) dl).ho i = if i = k then z.ho.hi + q else (caseOf true ms ts dl).ho i := by
 show num true (tk (ts.set k (moreT z q)) i).ho = _
 rw [tk_set hz]
 split <;> rfl
theorem hoQ_zero {ms : List Mch} {ts : List Tsk} {dl : List Wea} {k : Nat} {z : Tsk} {lh : List Int} (hz : ts[k]? = some z) (h : lh = (List.range ts.length).map (caseOf true ms ts dl).ho) : lh = hoQ ms ts dl k z 0 := by rw [h, hoQ, more_zero hz]
theorem hoQ_at {ms : List Mch} {ts : List Tsk} {dl : List Wea} {k : Nat} {z : Tsk} {q : Int} (hz : ts[k]? = some z) : (hoQ ms ts dl k z q)[k]? = some (z.ho.hi + q) := by
 have hk := (List.getElem?_eq_some_iff.1 hz).1
 unfold hoQ
 rw [List.getElem?_map, List.getElem?_range hk]
 simp only [Option.map_some]
 rw [ho_more hz, if_pos rfl]
theorem hoQ_set {ms : List Mch} {ts : List Tsk} {dl : List Wea} {k : Nat} {z : Tsk} {q : Int} (hz : ts[k]? = some z) : (hoQ ms ts dl k z q).set k (z.ho.hi + q + 1) = hoQ ms ts dl k z (q + 1) := by
 refine List.ext_getElem? fun i => ?_
 have hk := (List.getElem?_eq_some_iff.1 hz).1
 rw [List.getElem?_set]
 unfold hoQ
 rw [List.length_map, List.length_range]
 by_cases hi : i < ts.length
 ·
  rw [List.getElem?_map, List.getElem?_map, List.getElem?_range hi]
  simp only [Option.map_some]
  rw [ho_more hz, ho_more hz]
  by_cases e : k = i
  ·
   subst e
   rw [if_pos rfl, if_pos hk, if_pos rfl, Int.add_assoc]
  · rw [if_neg e, if_neg (fun h => e h.symm), if_neg (fun h => e h.symm)]
 · rw [List.getElem?_eq_none (by simp; omega), List.getElem?_eq_none (by simp; omega), if_neg (by omega)]
theorem csIs_more {ms : List Mch} {ts : List Tsk} {dl : List Wea} {k : Nat} {z : Tsk} {q : Int} {lh lw lf : List Int} {rows : List (List Bool)} (hz : ts[k]? = some z) (h : CsIs (caseOf true ms ts dl) ms ts lh lw lf rows) : CsIs (caseOf true ms (ts.set k (moreT z q)) dl) ms ts (hoQ ms ts dl k z q) lw lf rows := by
 have hs : ∀ i, (tk (ts.set k (moreT z q)) i).wa = (tk ts i).wa /\ (tk (ts.set k (moreT z q)) i).fr = (tk ts i).fr /\ (tk (ts.set k (moreT z q)) i).m = (tk ts i).m /\ (tk (ts.set k (moreT z q)) i).af = (tk ts i).af := fun i => by
  rw [tk_set hz]
  split
  ·
   rename_i e
   subst e
   rw [tk_get hz]
   exact ⟨rfl, rfl, rfl, rfl⟩
  · exact ⟨rfl, rfl, rfl, rfl⟩
 refine ⟨rfl, ?_, ?_, fun i => ?_, fun i => ?_, h.sh, h.rn, h.rl⟩
 ·
  rw [h.wa]
  congr 1
  funext i
  show num true (tk ts i).wa = num true (tk (ts.set k (moreT z q)) i).wa
  rw [(hs i).1]
 ·
  rw [h.fr]
  congr 1
  funext i
  show num true (tk ts i).fr = num true (tk (ts.set k (moreT z q)) i).fr
  rw [(hs i).2.1]
 · exact (hs i).2.2.1
 · exact (hs i).2.2.2
theorem wth_out {n lo hi : Int} {b : Bool} (h : outB n lo hi = b) : wth n lo hi = !b := by
 subst h
 unfold outB wth
 by_cases h1 : n < lo ∨ hi < n
 ·
  have h2 : ¬ (lo <= n /\ n <= hi) := by omega
  simp only [h1, h2, decide_true, decide_false, Bool.not_true]
 have h2 : lo <= n /\ n <= hi := by omega
 simp only [h1, h2, decide_true, decide_false, Bool.not_false, and_self]
set_option maxHeartbeats 32000000 in
theorem rchain_c (lo hi : Nat) (vm vt : Value) (ms : List Mch) (ts : List Tsk) (lo2 hi2 : Nat) (vd : Value) (dl : List Wea) (w : World) (hj : JobAt lo hi w vm vt ms ts) (h2 : hi <= w.heap.size) (hd : Sl weaEnc 6 lo2 hi2 w vd dl) (h3 : hi2 <= w.heap.size) :
  Calls Try.prog 50 #[.agg #[vm, vt], vd] w (ChainR ms ts dl w) := by
 have F1 : Bun w [] w := Bun.nil _
 obtain ⟨hms, hts, haf⟩ := hj
 have hm_ms := hms.len
 unfold maxLen at hm_ms
 obtain ⟨aM, cM, rfl⟩ := hms.any
 have F2 := F1.sl0 hms h2 rfl
 clear F1
 clear hms
 have hm_ts := hts.len
 unfold maxLen at hm_ts
 obtain ⟨aT, cT, rfl⟩ := hts.any
 have F3 := F2.sl0 hts h2 rfl
 clear F2
 clear hts
 have F4 := F3.non0 (rafs lo hi ts) haf (fun _ h_ => Nat.lt_of_lt_of_le h_.2 h2) rfl rfl
 clear F3
 clear haf
 have hm_ds := hd.len
 unfold maxLen at hm_ds
 obtain ⟨ad, cd, rfl⟩ := hd.any
 have F5 := F4.sl0 hd h3 rfl
 clear F4
 clear hd
 go_enter Try.func50, Try.ntmps50
 go_wp2_with fail
 have F6 := F5.new 25 #[.slice aM ms.length cM, .slice aT ts.length cT] (n := w.heap.size) (by simp)
 clear F5
 refine (rboth_c lo hi _ _ ms ts lo2 hi2 _ dl _ (JobAt.mk (F6.at 4 rfl : Sl mchEnc 3 lo hi _ (.slice aM ms.length cM) ms) (F6.at 3 rfl : Sl tskEnc 8 lo hi _ (.slice aT ts.length cT) ts) (F6.at 2 rfl : Afs lo hi _ ts)) (Nat.le_trans h2 F6.gb.size) (F6.at 1 rfl : Sl weaEnc 6 lo2 hi2 _ (.slice ad dl.length cd) dl) (Nat.le_trans h3 F6.gb.size)).mono ?_
 rintro e w9 ⟨rfl, hg7⟩
 have hg7s := hg7.size
 (try simp at hg7s)
 have F10 := F6.gn hg7
 clear F6
 clear hg7
 by_cases c11 : bothErr ms ts dl = 0
 ·
  have c11a : ((bothErr ms ts dl) == 0) = true := beq_t c11
  have c11b : ((bothErr ms ts dl) != 0) = false := bne_f c11
  have c11H := lhd c11
  clear c11
  have HOK := lhd (bothOk c11H.out)
  have hnt := HOK.out.1.nt
  have hnd := HOK.out.2
  have hnm := HOK.out.1.nm
  by_cases c12 : (ts.length : Int) = 0
  ·
   have c12a : ((ts.length : Int) == 0) = true := beq_t c12
   have c12b : ((ts.length : Int) != 0) = false := bne_f c12
   have c12H := lhd c12
   clear c12
   have b13 := F10.bx2 0 rfl
   go_wp2_with fail
   clear b13
   exact bodyPost_ret (v := .tuple #[.slice none 0 0, .int .i64 7]) (by simp [results, Try.results50, go_sem]) rfl ((ChainR.no (by unfold chnE; rw [if_neg (not_not_intro c11H.out), if_pos (by have h_ := c12H.out; omega)]) (by decide) F10.gb rfl))
  have c12a : ((ts.length : Int) == 0) = false := beq_f c12
  have c12b : ((ts.length : Int) != 0) = true := bne_t c12
  have c12H := lhd c12
  clear c12
  have b15 := F10.bx2 0 rfl
  go_wp2_with fail
  clear b15
  refine (rcaseOf_r true lo hi _ _ ms ts lo2 hi2 _ dl _ (JobAt.mk (F10.at 4 rfl : Sl mchEnc 3 lo hi _ (.slice aM ms.length cM) ms) (F10.at 3 rfl : Sl tskEnc 8 lo hi _ (.slice aT ts.length cT) ts) (F10.at 2 rfl : Afs lo hi _ ts)) (Nat.le_trans h2 F10.gb.size) (F10.at 1 rfl : Sl weaEnc 6 lo2 hi2 _ (.slice ad dl.length cd) dl) (Nat.le_trans h3 F10.gb.size) HOK.out.1 HOK.out.2 true rfl).mono ?_
  rintro e w18 ⟨v1q14, v2q14, v3q14, v4q14, lhq14, lwq14, lfq14, rwq14, lcq14, hcq14, rfl, ⟨hcxq14, hcyq14⟩, hczq14, hcsq14, hg16⟩
  have HCSq14 := lhd hcsq14
  clear hcsq14
  have hg16s := hg16.size
  (try simp at hg16s)
  have F19 := F10.add (rcase lcq14 hcq14 v1q14 v2q14 v3q14 v4q14 lhq14 lwq14 lfq14 rwq14) hg16 (hczq14) (fun g e => ⟨Nat.le_trans hcxq14 e.1, Nat.lt_of_lt_of_le e.2 hcyq14⟩)
  clear F10
  clear hg16
  obtain ⟨ak20, ck21, e_⟩ := (CaseAt.h (F19.at 0 rfl : CaseAt lcq14 hcq14 _ v1q14 v2q14 v3q14 v4q14 lhq14 lwq14 lfq14 rwq14)).any
  subst e_
  obtain ⟨ak22, ck23, e_⟩ := (CaseAt.w_ (F19.at 0 rfl : CaseAt lcq14 hcq14 _ (.slice ak20 lhq14.length ck21) v2q14 v3q14 v4q14 lhq14 lwq14 lfq14 rwq14)).any
  subst e_
  obtain ⟨ak24, ck25, e_⟩ := (CaseAt.f (F19.at 0 rfl : CaseAt lcq14 hcq14 _ (.slice ak20 lhq14.length ck21) (.slice ak22 lwq14.length ck23) v3q14 v4q14 lhq14 lwq14 lfq14 rwq14)).any
  subst e_
  obtain ⟨ak26, ck27, e_⟩ := (CaseAt.k (F19.at 0 rfl : CaseAt lcq14 hcq14 _ (.slice ak20 lhq14.length ck21) (.slice ak22 lwq14.length ck23) (.slice ak24 lfq14.length ck25) v4q14 lhq14 lwq14 lfq14 rwq14)).any
  rw [List.length_map] at e_
  subst e_
  have b28 := F19.bx2 1 rfl
  go_wp2_with fail
  clear b28
  have F29 := F19.new 51 #[.slice ak20 lhq14.length ck21, .slice ak22 lwq14.length ck23, .slice ak24 lfq14.length ck25, .slice ak26 rwq14.length ck27] (n := w18.heap.size) (by simp)
  clear F19
  refine (rplan_b true lo hi _ _ ms ts dl lcq14 hcq14 _ _ _ _ _ _ _ rwq14 _ (JobAt.mk (F29.at 6 rfl : Sl mchEnc 3 lo hi _ (.slice aM ms.length cM) ms) (F29.at 5 rfl : Sl tskEnc 8 lo hi _ (.slice aT ts.length cT) ts) (F29.at 4 rfl : Afs lo hi _ ts)) (Nat.le_trans h2 F29.gb.size) (F29.at 1 rfl : CaseAt lcq14 hcq14 _ (.slice ak20 lhq14.length ck21) (.slice ak22 lwq14.length ck23) (.slice ak24 lfq14.length ck25) (.slice ak26 rwq14.length ck27) lhq14 lwq14 lfq14 rwq14) (by first | omega | (simp; omega)) HCSq14.out HOK.out.1 HOK.out.2 _ rfl).mono ?_
  rintro e w32 ⟨app, cpp, lpp, hpp, rfl, ⟨hppx, hppy⟩, hppz, hg30⟩
  have hg30s := hg30.size
  (try simp at hg30s)
  have F33 := F29.add (rsl prEnc 2 lpp hpp (.slice app ts.length cpp) ((caseOf true ms ts dl).plan ts.length)) hg30 (hppz) (fun g e => ⟨Nat.le_trans hppx e.1, Nat.lt_of_lt_of_le e.2 hppy⟩)
  clear F29
  clear hg30
  go_wp2_with fail
  refine (rpast_c (dl.length : Int) _ (by omega) (by omega)).mono ?_
  rintro e w36 ⟨rfl, hg34⟩
  have hg34s := hg34.size
  (try simp at hg34s)
  have F37 := F33.gn hg34
  clear F33
  clear hg34
  by_cases c38 : (caseOf true ms ts dl).opn ts.length = 24 * (dl.length : Int) + 1
  ·
   have c38a : (((caseOf true ms ts dl).opn ts.length) == (24 * (dl.length : Int) + 1)) = true := beq_t c38
   have c38b : (((caseOf true ms ts dl).opn ts.length) != (24 * (dl.length : Int) + 1)) = false := bne_f c38
   have c38H := lhd c38
   clear c38
   go_wp2_with fail
   exact bodyPost_ret (v := .tuple #[.slice none 0 0, .int .i64 13]) (by simp [results, Try.results50, go_sem]) rfl ((ChainR.no (by unfold chnE; rw [if_neg (not_not_intro c11H.out), if_neg (by have h_ := c12H.out; omega), if_pos c38H.out]) (by decide) F37.gb rfl))
  have c38a : (((caseOf true ms ts dl).opn ts.length) == (24 * (dl.length : Int) + 1)) = false := beq_f c38
  have c38b : (((caseOf true ms ts dl).opn ts.length) != (24 * (dl.length : Int) + 1)) = true := bne_t c38
  have c38H := lhd c38
  clear c38
  have hpos : 0 < ts.length := by have h_ := c12H.out; omega
  have HCO : Hid (CsOk (caseOf true ms ts dl)) := lhd (caseOk HOK.out.1 HOK.out.2)
  have HSO : Hid (SiteOk (caseOf true ms ts dl) ts.length) := lhd (SiteOk.of HCO.out (fun i hi a ha => tk_aok HOK.out.1 i a ha))
  have HP : (caseOf true ms ts dl).past = 24 * (dl.length : Int) + 1 := rfl
  have hlt : (caseOf true ms ts dl).opn ts.length < (caseOf true ms ts dl).past := by have h_ := (caseOf true ms ts dl).opn_bd (fun i => (HCO.out.fr i).1) (fun i => (HCO.out.wa i).1) ts.length; have h2_ := c38H.out; rw [HP] at h_ ⊢; omega
  have HOP := lhd (HSO.out.opr_ok hpos hlt)
  have hopb := HOP.out.1
  have HE0 : Hid (chnE ms ts dl = 0) := lhd (by unfold chnE; rw [if_neg (not_not_intro c11H.out), if_neg (by omega), if_neg c38H.out])
  clear hlt HP
  go_wp2_with fail
  have hlw_ : lwq14.length = ts.length := by rw [HCSq14.out.1.wa]; simp
  have HLW := lhd hlw_
  clear hlw_
  have F41 := F37.more 2 (rsl intEnc 1 lcq14 hcq14 (.slice ak22 lwq14.length ck23) lwq14) rfl rfl rfl (fun _ h_ => h_) ((F37.at 2 rfl : CaseAt lcq14 hcq14 _ (.slice ak20 lhq14.length ck21) (.slice ak22 lwq14.length ck23) (.slice ak24 lfq14.length ck25) (.slice ak26 rwq14.length ck27) lhq14 lwq14 lfq14 rwq14)).w_
  clear F37
  have hm_cwa := (F41.at 0 rfl : Sl intEnc 1 lcq14 hcq14 _ (.slice ak22 lwq14.length ck23) lwq14).len
  unfold maxLen at hm_cwa
  (skip)
  obtain ⟨HI42_, HI420⟩ : ∃ I : RelT, I = (fun t ds wr => ∃ (q : Nat), t 2 = .pointer (some ⟨w.heap.size, 0, none⟩) /\ t 7 = .pointer (some ⟨w18.heap.size, 0, none⟩) /\ t 8 = .slice app ts.length cpp /\ t 9 = .int .i64 ((caseOf true ms ts dl).opn ts.length) /\ t 10 = .int .i64 (q : Int) /\ q <= (caseOf true ms ts dl).opr ts.length /\ ds = [] /\ w36.heap.size <= wr.heap.size /\ Bun w [rsl intEnc 1 lcq14 hcq14 (.slice ak22 lwq14.length ck23) lwq14, rsl prEnc 2 lpp hpp (.slice app ts.length cpp) ((caseOf true ms ts dl).plan ts.length), rbox w18.heap.size 51 #[.slice ak20 lhq14.length ck21, .slice ak22 lwq14.length ck23, .slice ak24 lfq14.length ck25, .slice ak26 rwq14.length ck27], rcase lcq14 hcq14 (.slice ak20 lhq14.length ck21) (.slice ak22 lwq14.length ck23) (.slice ak24 lfq14.length ck25) (.slice ak26 rwq14.length ck27) lhq14 lwq14 lfq14 rwq14, rbox w.heap.size 25 #[.slice aM ms.length cM, .slice aT ts.length cT], rsl weaEnc 6 lo2 hi2 (.slice ad dl.length cd) dl, rafs lo hi ts, rsl tskEnc 8 lo hi (.slice aT ts.length cT) ts, rsl mchEnc 3 lo hi (.slice aM ms.length cM) ms] wr) := ⟨_, rfl⟩
  have HI42 := lhd HI420
  clear HI420
  refine wp_loopS 72 rfl HI42_ (fun t wr => (caseOf true ms ts dl).opr ts.length - (intOf (t 10)).toNat) ?atStart13 ?round13
  case round13 =>
   intro t ds wr hHid
   rw [HI42.out] at hHid
   obtain ⟨q, e2, e7, e8, e9, e10, hrel⟩ := hHid
   have e := rgKQ72 t
   (try dsimp only at e)
   rw [e2, e7, e8, e9, e10] at e
   rw [e]
   simp only [e10]
   clear e e2 e7 e8 e9 e10
   obtain ⟨hq_, rfl, hs44, hF43⟩ := hrel
   clear F41
   obtain ⟨w45, rfl⟩ : ∃ x_ : World, x_ = wr := ⟨_, rfl⟩
   have hql0 : q < ts.length := by omega
   obtain ⟨x46, o47, e_⟩ := Sl.addr (hF43.at 1 rfl : Sl prEnc 2 lpp hpp _ (.slice app ts.length cpp) ((caseOf true ms ts dl).plan ts.length)) (by rw [Cs.plan_len]; omega)
   subst e_
   have hz48 : Hid (((caseOf true ms ts dl).plan ts.length)[q]? = some (bgAt ((caseOf true ms ts dl).plan ts.length) q, enAt ((caseOf true ms ts dl).plan ts.length) q)) := lhd (plan_at _ (by omega))
   obtain ⟨x49, o50, e_⟩ := Sl.addr (hF43.at 0 rfl : Sl intEnc 1 lcq14 hcq14 _ (.slice ak22 lwq14.length ck23) lwq14) (by have h_ := HLW.out; omega)
   subst e_
   have hz51 : Hid (lwq14[q]? = some ((caseOf true ms ts dl).wa q)) := lhd (rng_at HCSq14.out.1.wa (by omega))
   have hqi : (q : Int) < (ts.length : Int) := by omega
   have hqw : (q : Int) < (lwq14.length : Int) := by have h_ := HLW.out; omega
   have henq := (caseOf true ms ts dl).en_bd (fun i => (HCO.out.fr i).1) (n := ts.length) (k := q) (by omega)
   unfold Cs.past at henq
   have hndc := HCO.out.nd
   have hwaq := HCO.out.wa q
   (skip)
   go_wp2_with fail
   have b54 := hF43.bx4 2 rfl
   have ge55 : World.cell? _ ⟨x46, o47 + q * 2 + 1, none⟩ = some (.int .i64 (enAt ((caseOf true ms ts dl).plan ts.length) q)) := (Sl.cells (hF43.at 1 rfl) hz48.out 1 _ rfl)
   have ge56 : World.cell? _ ⟨x49, o50 + q, none⟩ = some (.int .i64 ((caseOf true ms ts dl).wa q)) := (by have h_ := Sl.cells (hF43.at 0 rfl) hz51.out 0 _ rfl; simpa using h_)
   have hw53 : IntKind.i64.wrap (enAt ((caseOf true ms ts dl).plan ts.length) q + ((caseOf true ms ts dl).wa q)) = enAt ((caseOf true ms ts dl).plan ts.length) q + ((caseOf true ms ts dl).wa q) := IntWalk.i64_in _ (by omega)
   go_quiet (fail)
   clear b54 ge55 ge56 hw53
   have F57 := hF43.drewN nq
   clear hF43
   have Fn_ := F57
   (try dsimp only [List.eraseIdx_cons_succ, List.eraseIdx_cons_zero] at Fn_)
   obtain ⟨w58, hx59, F61, hxs60⟩ := Fn_.name
   (try simp at hxs60)
   rw [hx59]
   clear hx59 F57 Fn_
   by_cases c62 : enAt ((caseOf true ms ts dl).plan ts.length) q + ((caseOf true ms ts dl).wa q) = (caseOf true ms ts dl).opn ts.length
   ·
    have c62a : ((enAt ((caseOf true ms ts dl).plan ts.length) q + ((caseOf true ms ts dl).wa q)) == ((caseOf true ms ts dl).opn ts.length)) = true := beq_t c62
    have c62b : ((enAt ((caseOf true ms ts dl).plan ts.length) q + ((caseOf true ms ts dl).wa q)) != ((caseOf true ms ts dl).opn ts.length)) = false := bne_f c62
    have c62H := lhd c62
    clear c62
    obtain rfl : q = (caseOf true ms ts dl).opr ts.length := Nat.le_antisymm hq_ (fndN_lt (Nat.zero_le q) (by omega) (decide_eq_true c62H.out))
    have b63 := F61.bx4 2 rfl
    have b64 := F61.bx2 4 rfl
    go_wp2_with fail
    clear b63 b64
    have F65 := F61.new 3 #[.int .i64 (((caseOf true ms ts dl).opr ts.length : Nat) : Int)] (n := w58.heap.size) (by simp)
    clear F61
    refine (rcause_c lo hi _ _ ms ts lcq14 hcq14 _ _ _ _ _ _ _ rwq14 _ _ _ (caseOf true ms ts dl) ((caseOf true ms ts dl).opr ts.length) _ (JobAt.mk (F65.at 9 rfl : Sl mchEnc 3 lo hi _ (.slice aM ms.length cM) ms) (F65.at 8 rfl : Sl tskEnc 8 lo hi _ (.slice aT ts.length cT) ts) (F65.at 7 rfl : Afs lo hi _ ts)) (Nat.le_trans h2 F65.gb.size) (F65.at 4 rfl : CaseAt lcq14 hcq14 _ (.slice ak20 lhq14.length ck21) (.slice (some ⟨x49, o50, none⟩) lwq14.length ck23) (.slice ak24 lfq14.length ck25) (.slice ak26 rwq14.length ck27) lhq14 lwq14 lfq14 rwq14) (by first | omega | (simp; omega)) (F65.at 2 rfl : Sl prEnc 2 lpp hpp _ (.slice (some ⟨x46, o47, none⟩) ts.length cpp) ((caseOf true ms ts dl).plan ts.length)) (by first | omega | (simp; omega)) HCSq14.out.1 HCO.out (by omega) (fun k_ t_ h_ => (HOK.out.1.to_ k_ t_ h_).af)).mono ?_
    rintro e w68 ⟨rfl, hg66⟩
    have hg66s := hg66.size
    (try simp at hg66s)
    have F69 := F65.gn hg66
    clear F65
    clear hg66
    go_wp2_with fail
    have F70 := F69.litOwn (b := w.heap.size) (by have h_ := F69.gb.size; first | omega | (simp at h_; omega))
    clear F69
    (skip)
    obtain ⟨HI71_, HI710⟩ : ∃ I : RelT, I = (fun t ds wr => ∃ (q : Nat) (vo : Value) (r : List Nat), t 2 = .pointer (some ⟨w.heap.size, 0, none⟩) /\ t 7 = .pointer (some ⟨w18.heap.size, 0, none⟩) /\ t 8 = .slice (some ⟨x46, o47, none⟩) ts.length cpp /\ t 10 = .int .i64 (rcs (caseOf true ms ts dl) ts.length q) /\ t 11 = vo /\ q < ts.length /\ Hid ((caseOf true ms ts dl).bgI ts.length q < (caseOf true ms ts dl).past) /\ Hid ((caseOf true ms ts dl).chn ts.length ((caseOf true ms ts dl).opr ts.length) = (caseOf true ms ts dl).pre ts.length q q ++ q :: r) /\ (r.length + q <= ts.length) /\ ds = [] /\ w68.heap.size <= wr.heap.size /\ Bun w [rown intEnc 3 1 w.heap.size vo (ints (q :: r)), rsl intEnc 1 lcq14 hcq14 (.slice (some ⟨x49, o50, none⟩) lwq14.length ck23) lwq14, rsl prEnc 2 lpp hpp (.slice (some ⟨x46, o47, none⟩) ts.length cpp) ((caseOf true ms ts dl).plan ts.length), rbox w18.heap.size 51 #[.slice ak20 lhq14.length ck21, .slice (some ⟨x49, o50, none⟩) lwq14.length ck23, .slice ak24 lfq14.length ck25, .slice ak26 rwq14.length ck27], rcase lcq14 hcq14 (.slice ak20 lhq14.length ck21) (.slice (some ⟨x49, o50, none⟩) lwq14.length ck23) (.slice ak24 lfq14.length ck25) (.slice ak26 rwq14.length ck27) lhq14 lwq14 lfq14 rwq14, rbox w.heap.size 25 #[.slice aM ms.length cM, .slice aT ts.length cT], rsl weaEnc 6 lo2 hi2 (.slice ad dl.length cd) dl, rafs lo hi ts, rsl tskEnc 8 lo hi (.slice aT ts.length cT) ts, rsl mchEnc 3 lo hi (.slice aM ms.length cM) ms] wr) := ⟨_, rfl⟩
    have HI71 := lhd HI710
    clear HI710
    refine wp_loopS 72 rfl HI71_ (fun t wr => (intOf (t 10) + 1).toNat) ?atStart14 ?round14
    case round14 =>
     intro t ds wr hHid
     rw [HI71.out] at hHid
     obtain ⟨q, vo, r, e2, e7, e8, e10, e11, hrel⟩ := hHid
     have e := rgKQ72 t
     (try dsimp only at e)
     rw [e2, e7, e8, e10, e11] at e
     rw [e]
     simp only [e10]
     clear e e2 e7 e8 e10 e11
     obtain ⟨hq2_, HBG, HCH, hrl, rfl, hs73, hF72⟩ := hrel
     clear F70
     obtain ⟨w74, rfl⟩ : ∃ x_ : World, x_ = wr := ⟨_, rfl⟩
     have hql := hq2_
     by_cases c75 : 0 <= rcs (caseOf true ms ts dl) ts.length q
     ·
      have c75H := lhd c75
      obtain ⟨p, hp_⟩ : ∃ p_ : Nat, rcs (caseOf true ms ts dl) ts.length q = (p_ : Int) := ⟨_, (Int.toNat_of_nonneg c75).symm⟩
      have HY := lhd (rcs_yes HSO.out hql HBG.out hp_)
      have HPC := lhd hp_
      have hpq := HY.out.1
      rw [hp_]
      clear hp_
      obtain ⟨gO76, cO77, e_⟩ := Own.opn (hF72.at 0 rfl : Own intEnc 3 1 w.heap.size _ vo (ints (q :: r))) (by simp [ints])
      subst e_
      have gO76l := (hF72.ltAt 0 rfl _ rfl).1
      have hwz_ := hF72.gb.size
      go_wp2_with (at_builtin; refine wpList_appS okInt rfl _ _ rfl w.heap.size (.slice (some ⟨w74.heap.size, 0, none⟩) 1 1) [(p : Int)] rfl ((hF72.new 3 #[.int .i64 (p : Int)] (n := w74.heap.size) (by simp)).litOwn (b := w.heap.size) (by first | omega | (simp; omega))) gO76 (gO76 + 1) (.slice (some ⟨gO76, 0, none⟩) (ints (q :: r)).length cO77) (ints (q :: r)) rfl (Own.slG ((hF72.new 3 #[.int .i64 (p : Int)] (n := w74.heap.size) (by simp)).at 1 rfl : Own intEnc 3 1 w.heap.size _ (.slice (some ⟨gO76, 0, none⟩) (ints (q :: r)).length cO77) (ints (q :: r))) (fun _ => rfl)) (by rw [ints_len]; simp; omega) (by first | omega | (simp; omega)) ?_; intro vc78 w79 hB80 hs81; refine Hid.out ?_)
      refine lhd ?_
      (try simp at hs81)
      clear hwz_
      have F82 := hB80
      clear hF72
      have F83 : Bun w [rown intEnc 3 1 w.heap.size vc78 (ints (p :: (q :: r))), rsl intEnc 1 lcq14 hcq14 (.slice (some ⟨x49, o50, none⟩) lwq14.length ck23) lwq14, rsl prEnc 2 lpp hpp (.slice (some ⟨x46, o47, none⟩) ts.length cpp) ((caseOf true ms ts dl).plan ts.length), rbox w18.heap.size 51 #[.slice ak20 lhq14.length ck21, .slice (some ⟨x49, o50, none⟩) lwq14.length ck23, .slice ak24 lfq14.length ck25, .slice ak26 rwq14.length ck27], rcase lcq14 hcq14 (.slice ak20 lhq14.length ck21) (.slice (some ⟨x49, o50, none⟩) lwq14.length ck23) (.slice ak24 lfq14.length ck25) (.slice ak26 rwq14.length ck27) lhq14 lwq14 lfq14 rwq14, rbox w.heap.size 25 #[.slice aM ms.length cM, .slice aT ts.length cT], rsl weaEnc 6 lo2 hi2 (.slice ad dl.length cd) dl, rafs lo hi ts, rsl tskEnc 8 lo hi (.slice aT ts.length cT) ts, rsl mchEnc 3 lo hi (.slice aM ms.length cM) ms] _ := (F82.drop 1 rfl)
      clear hB80
      have b84 := F83.bx4 3 rfl
      have b85 := F83.bx2 5 rfl
      go_wp2_with fail
      clear b84 b85
      refine (rcause_c lo hi _ _ ms ts lcq14 hcq14 _ _ _ _ _ _ _ rwq14 _ _ _ (caseOf true ms ts dl) p _ (JobAt.mk (F83.at 9 rfl : Sl mchEnc 3 lo hi _ (.slice aM ms.length cM) ms) (F83.at 8 rfl : Sl tskEnc 8 lo hi _ (.slice aT ts.length cT) ts) (F83.at 7 rfl : Afs lo hi _ ts)) (Nat.le_trans h2 F83.gb.size) (F83.at 4 rfl : CaseAt lcq14 hcq14 _ (.slice ak20 lhq14.length ck21) (.slice (some ⟨x49, o50, none⟩) lwq14.length ck23) (.slice ak24 lfq14.length ck25) (.slice ak26 rwq14.length ck27) lhq14 lwq14 lfq14 rwq14) (by first | omega | (simp; omega)) (F83.at 2 rfl : Sl prEnc 2 lpp hpp _ (.slice (some ⟨x46, o47, none⟩) ts.length cpp) ((caseOf true ms ts dl).plan ts.length)) (by first | omega | (simp; omega)) HCSq14.out.1 HCO.out (by omega) (fun k_ t_ h_ => (HOK.out.1.to_ k_ t_ h_).af)).mono ?_
      rintro e w88 ⟨rfl, hg86⟩
      have hg86s := hg86.size
      (try simp at hg86s)
      have F89 := F83.gn hg86
      clear F83
      clear hg86
      go_wp2_with fail
      (first | refine ⟨by kernel_rfl, ?_, ?_⟩ | refine ⟨rfl, ?_, ?_⟩ | refine ⟨?_, ?_⟩)
      · rw [HI71.out]; exact ⟨p, _, q :: r, (by kernel_rfl), (by kernel_rfl), (by kernel_rfl), rfl, rfl, (by omega), (lhd HY.out.2.1), (lhd (chn_front HCH.out HY.out.2.2)), (by simp; omega), (by first | rfl | simp), (by first | omega | (simp; done) | (simp; omega)), F89⟩
      · have h_ := rcs_bd (c := (caseOf true ms ts dl)) (N := ts.length) (q := p); have h2_ := HPC.out; simp [slot, intOf]; omega
     have c75H := lhd c75
     have c75a : decide (0 <= rcs (caseOf true ms ts dl) ts.length q) = false := dec_f c75
     go_wp2_with fail
     exact bodyPost_ret (v := .tuple #[vo, .int .i64 0]) (by simp [results, Try.results50, go_sem]) rfl ((ChainR.yes HE0.out (by rw [HCH.out, rcs_end HSO.out hql HBG.out (by have h_ := c75H.out; omega)]; rfl) (hF72.at 0 rfl : Own intEnc 3 1 w.heap.size _ vo (ints (q :: r))) (Nat.le_refl _) hF72.gb rfl))
    case atStart14 =>
     rw [HI71.out]
     exact ⟨(caseOf true ms ts dl).opr ts.length, _, [], (by kernel_rfl), (by kernel_rfl), (by kernel_rfl), rfl, rfl, hopb, (lhd HOP.out.2.2), (lhd rfl), (by simp; omega), rfl, (by first | exact Nat.le_refl _ | omega | (simp; done) | (simp; omega)), F70⟩
   have c62a : ((enAt ((caseOf true ms ts dl).plan ts.length) q + ((caseOf true ms ts dl).wa q)) == ((caseOf true ms ts dl).opn ts.length)) = false := beq_f c62
   have c62b : ((enAt ((caseOf true ms ts dl).plan ts.length) q + ((caseOf true ms ts dl).wa q)) != ((caseOf true ms ts dl).opn ts.length)) = true := bne_t c62
   have c62H := lhd c62
   clear c62
   have hqlt : q + 1 <= (caseOf true ms ts dl).opr ts.length := by have h_ := HOP.out.2.1; have h2_ := c62H.out; rcases Nat.eq_or_lt_of_le hq_ with e_ | h3_; exact absurd (by rw [e_]; exact h_) h2_; exact h3_
   go_wp2_with fail
   (first | refine ⟨by kernel_rfl, ?_, ?_⟩ | refine ⟨rfl, ?_, ?_⟩ | refine ⟨?_, ?_⟩)
   · rw [HI42.out]; exact ⟨q + 1, (by kernel_rfl), (by kernel_rfl), (by kernel_rfl), (by kernel_rfl), (by show Value.int .i64 ((q : Int) + 1) = _; simp), hqlt, (by first | rfl | simp), (by first | omega | (simp; done) | (simp; omega)), F61⟩
   · simp [slot, intOf]; omega
  case atStart13 =>
   rw [HI42.out]
   exact ⟨0, (by kernel_rfl), (by kernel_rfl), (by kernel_rfl), (by kernel_rfl), rfl, Nat.zero_le _, rfl, (by first | exact Nat.le_refl _ | omega | (simp; done) | (simp; omega)), F41⟩
 have c11a : ((bothErr ms ts dl) == 0) = false := beq_f c11
 have c11b : ((bothErr ms ts dl) != 0) = true := bne_t c11
 have c11H := lhd c11
 clear c11
 go_wp2_with fail
 exact bodyPost_ret (v := .tuple #[.slice none 0 0, .int .i64 (bothErr ms ts dl)]) (by simp [results, Try.results50, go_sem]) rfl ((ChainR.no (by unfold chnE; rw [if_pos c11H.out]) c11H.out F10.gb rfl))
end Go.Proofs.Ytokelpmngahnoaa
/- build and its reference: the reference's slack. -/
namespace Go.Proofs.Ytokelpmngahnoaa
open Go.RowKit
set_option maxRecDepth 100000
attribute [local go_sem] Oper.semAt_some
theorem rcaseOf_o (lo hi : Nat) (vm vt : Value) (ms : List Mch) (ts : List Tsk) (lo2 hi2 : Nat) (vd : Value) (dl : List Wea) (w : World) (hj : JobAt lo hi w vm vt ms ts) (h2 : hi <= w.heap.size) (hd : Sl weaEnc 6 lo2 hi2 w vd dl) (h3 : hi2 <= w.heap.size) (hok : JobOk ms ts) (hn : dl.length <= 400) :
  Calls Try.prog 27 #[.agg #[vm, vt], vd, .bool true] w (CaseR (caseOf true ms ts dl) ms ts w) := by
 have := hok.nm
 have := hok.nt
 have h := rcaseOf_c true lo hi vm vt ms ts lo2 hi2 vd dl w hj h2 hd h3 (by omega) (by omega) (by omega)
 have e : decide (isW true) = true := decide_eq_true rfl
 rw [e] at h
 exact h
theorem rplan_m (lo hi : Nat) (vm vt : Value) (ms : List Mch) (ts : List Tsk) (dl : List Wea) (b : Nat) (vh vw vf vk : Value) (lh lw lf : List Int) (rows : List (Value × List Bool)) (k : Nat) (z : Tsk) (q x : Int) (w : World) (hj : JobAt lo hi w vm vt ms ts) (h2 : hi <= w.heap.size)
  (h1 : Own intEnc 3 1 b w vh (hoQ ms ts dl k z q)) (hw : Own intEnc 3 1 b w vw lw) (hf : Own intEnc 3 1 b w vf lf) (hk : Own vEncS 56 1 b w vk (rows.map (·.1))) (hr : ∀ t ∈ rows, Own boEnc 4 1 b w t.1 t.2)
  (hcs : CsIs (caseOf true ms ts dl) ms ts lh lw lf (rows.map (·.2)) /\ ∀ r ∈ rows, sliceB r.1 = true) (hok : JobOk ms ts) (hn : dl.length <= 400) (hz : ts[k]? = some z) (hq : 0 <= q) (hzq : z.ho.hi + q <= 4000) (hx : (caseOf true ms (ts.set k (moreT z q)) dl).opn ts.length = x) :
  Calls Try.prog 66 #[.agg #[vm, vt], .int .i64 (dl.length : Int), .agg #[vh, vw, vf, vk]] w (fun e w' => ∃ (a : Option Addr) (cp : Nat), e = .returned (.tuple #[.slice a ts.length cp, .int .i64 x]) /\ w.grownBy w' none) := by
 subst hx
 have := hok.nt
 have := hok.nm
 refine (rplan_c lo hi vm vt ms ts dl.length 0 w.heap.size vh vw vf vk _ lw lf rows (caseOf true ms (ts.set k (moreT z q)) dl) w hj h2 (caseAt_own h1 hw hf hk hr) (Nat.le_refl _) hcs.2 rfl (csIs_more hz hcs.1) (caseOk (jobOk_more hok hz hq hzq) hn) (by omega) (by omega) (fun k t hk => (hok.to_ k t hk).m) (fun k t hk => (hok.to_ k t hk).af)).mono ?_
 rintro e w' ⟨a, cp, lo', hi', rfl, _, _, hg⟩
 exact ⟨a, cp, rfl, hg⟩
theorem slkQ_eq {ms : List Mch} {ts : List Tsk} {dl : List Wea} {k : Nat} {z : Tsk} (hz : ts[k]? = some z) (q : Nat) : slkQ ms ts dl k q = latB ms ts dl k z ((caseOf true ms ts dl).opn ts.length) ((q : Int) + 1) := by unfold slkQ; rw [tk_get hz]
theorem slkN_at {ms : List Mch} {ts : List Tsk} {dl : List Wea} {k q : Nat} (he : slkE ms ts dl (k : Int) = 0) (hno : ∀ j, j < q -> slkQ ms ts dl k j = false) (hq : q < 1000) (h : slkQ ms ts dl k q = true) : slkN ms ts dl (k : Int) = (q : Int) := by
 rw [slkN, if_pos he, Int.toNat_natCast, fndN_at hno hq h]
theorem slkN_all {ms : List Mch} {ts : List Tsk} {dl : List Wea} {k q : Nat} (he : slkE ms ts dl (k : Int) = 0) (hno : ∀ j, j < q -> slkQ ms ts dl k j = false) (hq : q = 1000) : slkN ms ts dl (k : Int) = (q : Int) := by
 subst hq
 have e : fndN (slkQ ms ts dl k) 0 1000 = 1000 := by
  have hb := fndN_bd (slkQ ms ts dl k) 1000 0
  rcases Nat.lt_or_ge (fndN (slkQ ms ts dl k) 0 1000) 1000 with h3 | h3
  ·
   have h4 := fndN_yes (f := slkQ ms ts dl k) 1000 0 (by omega)
   rw [hno _ h3] at h4
   cases h4
  · omega
 rw [slkN, if_pos he, Int.toNat_natCast, e]
set_option maxHeartbeats 32000000 in
theorem rslack_c (lo hi : Nat) (vm vt : Value) (ms : List Mch) (ts : List Tsk) (lo2 hi2 : Nat) (vd : Value) (dl : List Wea) (kk : Int) (w : World) (hj : JobAt lo hi w vm vt ms ts) (h2 : hi <= w.heap.size) (hd : Sl weaEnc 6 lo2 hi2 w vd dl) (h3 : hi2 <= w.heap.size) :
  Calls Try.prog 51 #[.agg #[vm, vt], vd, .int .i64 kk] w (Ret (.tuple #[.int .i64 (slkN ms ts dl kk), .int .i64 (slkE ms ts dl kk)]) w) := by
 have F1 : Bun w [] w := Bun.nil _
 obtain ⟨hms, hts, haf⟩ := hj
 have hm_ms := hms.len
 unfold maxLen at hm_ms
 obtain ⟨aM, cM, rfl⟩ := hms.any
 have F2 := F1.sl0 hms h2 rfl
 clear F1
 clear hms
 have hm_ts := hts.len
 unfold maxLen at hm_ts
 obtain ⟨aT, cT, rfl⟩ := hts.any
 have F3 := F2.sl0 hts h2 rfl
 clear F2
 clear hts
 have F4 := F3.non0 (rafs lo hi ts) haf (fun _ h_ => Nat.lt_of_lt_of_le h_.2 h2) rfl rfl
 clear F3
 clear haf
 have hm_ds := hd.len
 unfold maxLen at hm_ds
 obtain ⟨ad, cd, rfl⟩ := hd.any
 have F5 := F4.sl0 hd h3 rfl
 clear F4
 clear hd
 go_enter Try.func51, Try.ntmps51
 go_wp2_with fail
 have F6 := F5.new 25 #[.slice aM ms.length cM, .slice aT ts.length cT] (n := w.heap.size) (by simp)
 clear F5
 refine (rboth_c lo hi _ _ ms ts lo2 hi2 _ dl _ (JobAt.mk (F6.at 4 rfl : Sl mchEnc 3 lo hi _ (.slice aM ms.length cM) ms) (F6.at 3 rfl : Sl tskEnc 8 lo hi _ (.slice aT ts.length cT) ts) (F6.at 2 rfl : Afs lo hi _ ts)) (Nat.le_trans h2 F6.gb.size) (F6.at 1 rfl : Sl weaEnc 6 lo2 hi2 _ (.slice ad dl.length cd) dl) (Nat.le_trans h3 F6.gb.size)).mono ?_
 rintro e w9 ⟨rfl, hg7⟩
 have hg7s := hg7.size
 (try simp at hg7s)
 have F10 := F6.gn hg7
 clear F6
 clear hg7
 by_cases c11 : bothErr ms ts dl = 0
 ·
  have c11a : ((bothErr ms ts dl) == 0) = true := beq_t c11
  have c11b : ((bothErr ms ts dl) != 0) = false := bne_f c11
  have c11H := lhd c11
  clear c11
  have HOK := lhd (bothOk c11H.out)
  have hnt := HOK.out.1.nt
  have hnd := HOK.out.2
  have hnm := HOK.out.1.nm
  have b12 := F10.bx2 0 rfl
  go_wp2_with fail
  clear b12
  refine (out5_c _ _ _ _).mono ?_
  rintro e _ ⟨rfl, rfl⟩
  cases c13 : outB kk 0 ((ts.length : Int) - 1)
  ·
   have c13o := outB_f c13
   have c13H := lhd c13
   have hk_ := outB_f c13H.out
   have HKW := lhd (wth_out c13H.out)
   obtain ⟨k, rfl⟩ : ∃ n : Nat, kk = (n : Int) := ⟨kk.toNat, by omega⟩
   have hkl : k < ts.length := by omega
   have hki : (k : Int) < (ts.length : Int) := by omega
   have b14 := F10.bx2 0 rfl
   go_wp2_with fail
   clear b14
   have Fn_ := F10
   (try dsimp only [List.eraseIdx_cons_succ, List.eraseIdx_cons_zero] at Fn_)
   obtain ⟨w15, hx16, F18, hxs17⟩ := Fn_.name
   (try simp at hxs17)
   rw [hx16]
   clear hx16 F10 Fn_
   refine (rcaseOf_o lo hi _ _ ms ts lo2 hi2 _ dl _ (JobAt.mk (F18.at 4 rfl : Sl mchEnc 3 lo hi _ (.slice aM ms.length cM) ms) (F18.at 3 rfl : Sl tskEnc 8 lo hi _ (.slice aT ts.length cT) ts) (F18.at 2 rfl : Afs lo hi _ ts)) (Nat.le_trans h2 F18.gb.size) (F18.at 1 rfl : Sl weaEnc 6 lo2 hi2 _ (.slice ad dl.length cd) dl) (Nat.le_trans h3 F18.gb.size) HOK.out.1 HOK.out.2).mono ?_
   rintro e w19 ⟨v1C, v2C, v3C, v4C, lhC, lwC, lfC, rwC, rfl, hcsC, hB20⟩
   have hB20s := hB20.gb.size
   (try simp at hB20s)
   have F21 := F18.joinV (L2 := [rown intEnc 3 1 w15.heap.size v1C lhC, rown intEnc 3 1 w15.heap.size v2C lwC, rown intEnc 3 1 w15.heap.size v3C lfC, rown vEncS 56 1 w15.heap.size v4C (rwC.map (fun (x_ : Value × List Bool) => x_.1)), rrws w15.heap.size rwC]) hB20 (List.forall_mem_cons.2 ⟨fun g_ hx => ((hB20.ltAt 0 rfl g_ hx).2 rfl), List.forall_mem_cons.2 ⟨fun g_ hx => ((hB20.ltAt 1 rfl g_ hx).2 rfl), List.forall_mem_cons.2 ⟨fun g_ hx => ((hB20.ltAt 2 rfl g_ hx).2 rfl), List.forall_mem_cons.2 ⟨fun g_ hx => ((hB20.ltAt 3 rfl g_ hx).2 rfl), List.forall_mem_cons.2 ⟨fun g_ hx => ((hB20.ltAt 4 rfl g_ hx).2 rfl), fun _ h => by cases h⟩⟩⟩⟩⟩)
   clear F18
   clear hB20
   (try dsimp only [List.cons_append, List.nil_append] at F21)
   have HCS := lhd hcsC
   clear hcsC
   obtain ⟨ak22, ck23, e_, _⟩ := Own.slN (n := ts.length) (F21.at 0 rfl : Own intEnc 3 1 w15.heap.size _ v1C lhC) (fun _ => rfl) (by rw [HCS.out.1.ho]; simp)
   subst e_
   obtain ⟨ak24, ck25, e_, _⟩ := Own.slN (n := ts.length) (F21.at 1 rfl : Own intEnc 3 1 w15.heap.size _ v2C lwC) (fun _ => rfl) (by rw [HCS.out.1.wa]; simp)
   subst e_
   obtain ⟨ak26, ck27, e_, _⟩ := Own.slN (n := ts.length) (F21.at 2 rfl : Own intEnc 3 1 w15.heap.size _ v3C lfC) (fun _ => rfl) (by rw [HCS.out.1.fr]; simp)
   subst e_
   obtain ⟨ak28, ck29, e_, _⟩ := Own.slN (n := rwC.length) (F21.at 3 rfl : Own vEncS 56 1 w15.heap.size _ v4C (rwC.map (fun (x_ : Value × List Bool) => x_.1))) (fun _ => rfl) (by simp)
   subst e_
   (skip)
   have b30 := F21.bx2 5 rfl
   go_wp2_with fail
   clear b30
   have F31 := F21.new 51 #[.slice ak22 ts.length ck23, .slice ak24 ts.length ck25, .slice ak26 ts.length ck27, .slice ak28 rwC.length ck29] (n := w19.heap.size) (by simp)
   clear F21
   obtain ⟨zk, hzk_⟩ : ∃ z_, ts[k]? = some z_ := ⟨_, List.getElem?_eq_getElem hkl⟩
   have HZK := lhd hzk_
   have hzb := ho_le c11H.out hzk_
   have hzo := (HOK.out.1.to_ k zk hzk_).ho
   have hl0_ := hoQ_zero hzk_ HCS.out.1.ho
   have Fn_ := F31
   (try dsimp only [List.eraseIdx_cons_succ, List.eraseIdx_cons_zero] at Fn_)
   obtain ⟨w32, hx33, F35, hxs34⟩ := Fn_.name
   (try simp at hxs34)
   rw [hx33]
   clear hx33 F31 Fn_
   have F36 : Bun w [rown intEnc 3 1 w15.heap.size (.slice ak22 ts.length ck23) lhC, rbox w19.heap.size 51 #[.slice ak22 ts.length ck23, .slice ak24 ts.length ck25, .slice ak26 ts.length ck27, .slice ak28 rwC.length ck29], rown intEnc 3 1 w15.heap.size (.slice ak24 ts.length ck25) lwC, rown intEnc 3 1 w15.heap.size (.slice ak26 ts.length ck27) lfC, rown vEncS 56 1 w15.heap.size (.slice ak28 rwC.length ck29) (rwC.map (fun (x_ : Value × List Bool) => x_.1)), rrws w15.heap.size rwC, rbox w.heap.size 25 #[.slice aM ms.length cM, .slice aT ts.length cT], rsl weaEnc 6 lo2 hi2 (.slice ad dl.length cd) dl, rafs lo hi ts, rsl tskEnc 8 lo hi (.slice aT ts.length cT) ts, rsl mchEnc 3 lo hi (.slice aM ms.length cM) ms] _ := F35.pick [1, 0, 2, 3, 4, 5, 6, 7, 8, 9, 10] (by decide) rfl
   clear F35
   have F37 : Bun w [rown intEnc 3 1 w15.heap.size (.slice ak22 ts.length ck23) (hoQ ms ts dl k zk 0), rbox w19.heap.size 51 #[.slice ak22 ts.length ck23, .slice ak24 ts.length ck25, .slice ak26 ts.length ck27, .slice ak28 rwC.length ck29], rown intEnc 3 1 w15.heap.size (.slice ak24 ts.length ck25) lwC, rown intEnc 3 1 w15.heap.size (.slice ak26 ts.length ck27) lfC, rown vEncS 56 1 w15.heap.size (.slice ak28 rwC.length ck29) (rwC.map (fun (x_ : Value × List Bool) => x_.1)), rrws w15.heap.size rwC, rbox w.heap.size 25 #[.slice aM ms.length cM, .slice aT ts.length cT], rsl weaEnc 6 lo2 hi2 (.slice ad dl.length cd) dl, rafs lo hi ts, rsl tskEnc 8 lo hi (.slice aT ts.length cT) ts, rsl mchEnc 3 lo hi (.slice aM ms.length cM) ms] w32 := by rw [← hl0_]; exact F36
   clear hzk_ hl0_ F36
   refine (rplan_m lo hi _ _ ms ts dl _ _ _ _ _ lhC lwC lfC rwC k zk 0 ((caseOf true ms ts dl).opn ts.length) _ (JobAt.mk (F37.at 10 rfl : Sl mchEnc 3 lo hi _ (.slice aM ms.length cM) ms) (F37.at 9 rfl : Sl tskEnc 8 lo hi _ (.slice aT ts.length cT) ts) (F37.at 8 rfl : Afs lo hi _ ts)) (Nat.le_trans h2 F37.gb.size) (F37.at 0 rfl : Own intEnc 3 1 w15.heap.size _ (.slice ak22 ts.length ck23) (hoQ ms ts dl k zk 0)) (F37.at 2 rfl : Own intEnc 3 1 w15.heap.size _ (.slice ak24 ts.length ck25) lwC) (F37.at 3 rfl : Own intEnc 3 1 w15.heap.size _ (.slice ak26 ts.length ck27) lfC) (F37.at 4 rfl : Own vEncS 56 1 w15.heap.size _ (.slice ak28 rwC.length ck29) (rwC.map (fun (x_ : Value × List Bool) => x_.1))) (F37.at 5 rfl : ∀ t ∈ rwC, Own boEnc 4 1 w15.heap.size _ t.1 t.2) HCS.out HOK.out.1 HOK.out.2 HZK.out (by omega) (by omega) (by rw [more_zero HZK.out])).mono ?_
   rintro e w40 ⟨ap0, cp0, rfl, hg38⟩
   have hg38s := hg38.size
   (try simp at hg38s)
   have F41 := F37.gn hg38
   clear F37
   clear hg38
   go_wp2_with fail
   refine (rpast_c (dl.length : Int) _ (by omega) (by omega)).mono ?_
   rintro e w44 ⟨rfl, hg42⟩
   have hg42s := hg42.size
   (try simp at hg42s)
   have F45 := F41.gn hg42
   clear F41
   clear hg42
   by_cases c46 : (caseOf true ms ts dl).opn ts.length = 24 * (dl.length : Int) + 1
   ·
    have c46a : (((caseOf true ms ts dl).opn ts.length) == (24 * (dl.length : Int) + 1)) = true := beq_t c46
    have c46b : (((caseOf true ms ts dl).opn ts.length) != (24 * (dl.length : Int) + 1)) = false := bne_f c46
    have c46H := lhd c46
    clear c46
    have Hx47 := lhd (show ((slkN ms ts dl (k : Int) : Int)) = 0 by exact slkN_no (show slkE ms ts dl (k : Int) = 13 from (by unfold slkE; rw [if_neg (not_not_intro c11H.out), if_neg (by rw [HKW.out]; decide), if_pos c46H.out])) (by decide))
    have Hx48 := lhd (show ((slkE ms ts dl (k : Int) : Int)) = 13 by unfold slkE; rw [if_neg (not_not_intro c11H.out), if_neg (by rw [HKW.out]; decide), if_pos c46H.out])
    go_wp2_with fail
    exact bodyPost_ret (v := .tuple #[.int .i64 0, .int .i64 13]) (by simp [results, Try.results51, go_sem]) rfl (⟨by rw [Hx47.out, Hx48.out] <;> rfl, F45.gb⟩)
   have c46a : (((caseOf true ms ts dl).opn ts.length) == (24 * (dl.length : Int) + 1)) = false := beq_f c46
   have c46b : (((caseOf true ms ts dl).opn ts.length) != (24 * (dl.length : Int) + 1)) = true := bne_t c46
   have c46H := lhd c46
   clear c46
   go_wp2_with fail
   obtain ⟨gO49, cO50, e_⟩ := Own.opnN (F45.at 0 rfl : Own intEnc 3 1 w15.heap.size _ (.slice ak22 ts.length ck23) (hoQ ms ts dl k zk 0)) (n := ts.length) (by simp [hoQ]) (by omega)
   injection e_ with e1_ _ e2_
   subst e1_ e2_
   have gO49l := (F45.ltAt 0 rfl _ rfl).1
   (skip)
   obtain ⟨HI51_, HI510⟩ : ∃ I : RelT, I = (fun t ds wr => ∃ (q : Nat), t 1 = .slice ad dl.length cd /\ t 2 = .int .i64 (k : Int) /\ t 3 = .pointer (some ⟨w.heap.size, 0, none⟩) /\ t 9 = .pointer (some ⟨w19.heap.size, 0, none⟩) /\ t 11 = .int .i64 ((caseOf true ms ts dl).opn ts.length) /\ t 12 = .int .i64 (q : Int) /\ q <= 1000 /\ Hid (∀ j, j < q -> slkQ ms ts dl k j = false) /\ ds = [] /\ w44.heap.size <= wr.heap.size /\ Bun w [rown intEnc 3 1 w15.heap.size (.slice (some ⟨gO49, 0, none⟩) ts.length ck23) (hoQ ms ts dl k zk (q : Int)), rbox w19.heap.size 51 #[.slice (some ⟨gO49, 0, none⟩) ts.length ck23, .slice ak24 ts.length ck25, .slice ak26 ts.length ck27, .slice ak28 rwC.length ck29], rown intEnc 3 1 w15.heap.size (.slice ak24 ts.length ck25) lwC, rown intEnc 3 1 w15.heap.size (.slice ak26 ts.length ck27) lfC, rown vEncS 56 1 w15.heap.size (.slice ak28 rwC.length ck29) (rwC.map (fun (x_ : Value × List Bool) => x_.1)), rrws w15.heap.size rwC, rbox w.heap.size 25 #[.slice aM ms.length cM, .slice aT ts.length cT], rsl weaEnc 6 lo2 hi2 (.slice ad dl.length cd) dl, rafs lo hi ts, rsl tskEnc 8 lo hi (.slice aT ts.length cT) ts, rsl mchEnc 3 lo hi (.slice aM ms.length cM) ms] wr) := ⟨_, rfl⟩
   have HI51 := lhd HI510
   clear HI510
   refine wp_loopS 67 rfl HI51_ (fun t wr => 1000 - (intOf (t 12)).toNat) ?atStart15 ?round15
   case round15 =>
    intro t ds wr hHid
    rw [HI51.out] at hHid
    obtain ⟨q, e1, e2, e3, e9, e11, e12, hrel⟩ := hHid
    have e : ((List.range 67).map t).toArray = #[t 0, t 1, t 2, t 3, t 4, t 5, t 6, t 7, t 8, t 9, t 10, t 11, t 12, t 13, t 14, t 15, t 16, t 17, t 18, t 19, t 20, t 21, t 22, t 23, t 24, t 25, t 26, t 27, t 28, t 29, t 30, t 31, t 32, t 33, t 34, t 35, t 36, t 37, t 38, t 39, t 40, t 41, t 42, t 43, t 44, t 45, t 46, t 47, t 48, t 49, t 50, t 51, t 52, t 53, t 54, t 55, t 56, t 57, t 58, t 59, t 60, t 61, t 62, t 63, t 64, t 65, t 66] := rfl
    (try dsimp only at e)
    rw [e1, e2, e3, e9, e11, e12] at e
    rw [e]
    simp only [e12]
    clear e e1 e2 e3 e9 e11 e12
    obtain ⟨hq_, HNQ, rfl, hs53, hF52⟩ := hrel
    clear F45
    obtain ⟨w54, rfl⟩ : ∃ x_ : World, x_ = wr := ⟨_, rfl⟩
    by_cases c55 : (q : Int) < 1000
    ·
     have c55H := lhd c55
     have hz58 : Hid ((hoQ ms ts dl k zk (q : Int))[k]? = some (zk.ho.hi + (q : Int))) := lhd (hoQ_at HZK.out)
     have hqz : zk.ho.hi + (q : Int) + 1 <= 4000 := by omega
     have b59 := hF52.bx4 1 rfl
     have b60 := hF52.bx2 6 rfl
     have ge61 : World.cell? _ ⟨gO49, k, none⟩ = some (.int .i64 (zk.ho.hi + (q : Int))) := (by simpa using (Own.sl (hF52.at 0 rfl : Own intEnc 3 1 w15.heap.size _ (.slice (some ⟨gO49, 0, none⟩) ts.length ck23) (hoQ ms ts dl k zk (q : Int))) (fun _ => rfl)).cells hz58.out 0 _ rfl)
     have gl62 := cell_lt ge61
     have ge63 : World.cell? _ ⟨gO49, k, none⟩ = some (.int .i64 (zk.ho.hi + (q : Int))) := (by simpa using (Own.sl (hF52.at 0 rfl : Own intEnc 3 1 w15.heap.size _ (.slice (some ⟨gO49, 0, none⟩) ts.length ck23) (hoQ ms ts dl k zk (q : Int))) (fun _ => rfl)).cells hz58.out 0 _ rfl)
     have gl64 := cell_lt ge63
     have ge65 : World.frozen? _ ⟨gO49, k, none⟩ = false := Own.live (hF52.at 0 rfl : Own intEnc 3 1 w15.heap.size _ (.slice (some ⟨gO49, 0, none⟩) ts.length ck23) (hoQ ms ts dl k zk (q : Int))) _
     have hne66 : ¬ gO49 = w19.heap.size := hF52.neAt 0 1 rfl rfl (by decide) (.inl rfl) gO49 rfl
     have hne66s : ¬ w19.heap.size = gO49 := fun e => hne66 e.symm
     have hne67 : ¬ gO49 = w.heap.size := hF52.neAt 0 6 rfl rfl (by decide) (.inl rfl) gO49 rfl
     have hne67s : ¬ w.heap.size = gO49 := fun e => hne67 e.symm
     go_wp2_with fail
     clear b59 b60 ge61 gl62 ge63 gl64 ge65 hne66 hne66s hne67 hne67s
     have F68 := Bun.setOwn (sz := 1) (fun _ => rfl) hF52 hz58.out (y := ((zk.ho.hi + (q : Int)) + 1)) (j := 0) (u := (.int .i64 ((zk.ho.hi + (q : Int)) + 1))) (k := k) (by decide) rfl (by omega)
     clear hF52
     rw [hoQ_set HZK.out] at F68
     refine (rplan_m lo hi _ _ ms ts dl _ _ _ _ _ lhC lwC lfC rwC k zk ((q : Int) + 1) ((caseOf true ms (ts.set k (moreT zk ((q : Int) + 1))) dl).opn ts.length) _ (JobAt.mk (F68.at 10 rfl : Sl mchEnc 3 lo hi _ (.slice aM ms.length cM) ms) (F68.at 9 rfl : Sl tskEnc 8 lo hi _ (.slice aT ts.length cT) ts) (F68.at 8 rfl : Afs lo hi _ ts)) (Nat.le_trans h2 F68.gb.size) (F68.at 0 rfl : Own intEnc 3 1 w15.heap.size _ (.slice (some ⟨gO49, 0, none⟩) ts.length ck23) (hoQ ms ts dl k zk ((q : Int) + 1))) (F68.at 2 rfl : Own intEnc 3 1 w15.heap.size _ (.slice ak24 ts.length ck25) lwC) (F68.at 3 rfl : Own intEnc 3 1 w15.heap.size _ (.slice ak26 ts.length ck27) lfC) (F68.at 4 rfl : Own vEncS 56 1 w15.heap.size _ (.slice ak28 rwC.length ck29) (rwC.map (fun (x_ : Value × List Bool) => x_.1))) (F68.at 5 rfl : ∀ t ∈ rwC, Own boEnc 4 1 w15.heap.size _ t.1 t.2) HCS.out HOK.out.1 HOK.out.2 HZK.out (by omega) (by omega) rfl).mono ?_
     rintro e w71 ⟨ap1, cp1, rfl, hg69⟩
     have hg69s := hg69.size
     (try simp at hg69s)
     have F72 := F68.gn hg69
     clear F68
     clear hg69
     by_cases c73 : (caseOf true ms ts dl).opn ts.length < (caseOf true ms (ts.set k (moreT zk ((q : Int) + 1))) dl).opn ts.length
     ·
      have c73H := lhd c73
      have Hx74 := lhd (show ((slkN ms ts dl (k : Int) : Int)) = (q : Int) by exact slkN_at (by unfold slkE; rw [if_neg (not_not_intro c11H.out), if_neg (by rw [HKW.out]; decide), if_neg c46H.out]) HNQ.out (by omega) (by rw [slkQ_eq HZK.out]; exact decide_eq_true c73H.out))
      have Hx75 := lhd (show ((slkE ms ts dl (k : Int) : Int)) = 0 by unfold slkE; rw [if_neg (not_not_intro c11H.out), if_neg (by rw [HKW.out]; decide), if_neg c46H.out])
      go_wp2_with fail
      exact bodyPost_ret (v := .tuple #[.int .i64 (q : Int), .int .i64 0]) (by simp [results, Try.results51, go_sem]) rfl (⟨by rw [Hx74.out, Hx75.out] <;> rfl, F72.gb⟩)
     have c73H := lhd c73
     have c73a : decide ((caseOf true ms ts dl).opn ts.length < (caseOf true ms (ts.set k (moreT zk ((q : Int) + 1))) dl).opn ts.length) = false := dec_f c73
     go_wp2_with fail
     (first | refine ⟨by kernel_rfl, ?_, ?_⟩ | refine ⟨rfl, ?_, ?_⟩ | refine ⟨?_, ?_⟩)
     · rw [HI51.out]; exact ⟨q + 1, (by kernel_rfl), (by kernel_rfl), (by kernel_rfl), (by kernel_rfl), (by kernel_rfl), (by show Value.int .i64 ((q : Int) + 1) = _; simp), (by omega), (lhd (fun j_ hj_ => by rcases Nat.lt_succ_iff_lt_or_eq.1 hj_ with h_ | e_; exact HNQ.out j_ h_; rw [e_, slkQ_eq HZK.out]; exact decide_eq_false (by have h2_ := c73H.out; omega))), (by first | rfl | simp), (by first | omega | (simp; done) | (simp; omega)), (by rw [show (((q + 1 : Nat) : Int)) = (q : Int) + 1 by omega]; exact F72)⟩
     · simp [slot, intOf]; omega
    have c55H := lhd c55
    have c55a : decide ((q : Int) < 1000) = false := dec_f c55
    have Hx76 := lhd (show ((slkN ms ts dl (k : Int) : Int)) = (q : Int) by exact slkN_all (by unfold slkE; rw [if_neg (not_not_intro c11H.out), if_neg (by rw [HKW.out]; decide), if_neg c46H.out]) HNQ.out (by omega))
    have Hx77 := lhd (show ((slkE ms ts dl (k : Int) : Int)) = 0 by unfold slkE; rw [if_neg (not_not_intro c11H.out), if_neg (by rw [HKW.out]; decide), if_neg c46H.out])
    go_wp2_with fail
    exact bodyPost_ret (v := .tuple #[.int .i64 (q : Int), .int .i64 0]) (by simp [results, Try.results51, go_sem]) rfl (⟨by rw [Hx76.out, Hx77.out] <;> rfl, hF52.gb⟩)
   case atStart15 =>
    rw [HI51.out]
    exact ⟨0, (by kernel_rfl), (by kernel_rfl), (by kernel_rfl), (by kernel_rfl), (by kernel_rfl), rfl, Nat.zero_le _, (lhd (fun _ h => absurd h (Nat.not_lt_zero _))), rfl, (by first | exact Nat.le_refl _ | omega | (simp; done) | (simp; omega)), F45⟩
  have c13o := outB_t c13
  have c13H := lhd c13
  have Hx78 := lhd (show ((slkN ms ts dl kk : Int)) = 0 by exact slkN_no (show slkE ms ts dl kk = 7 from (by unfold slkE; rw [if_neg (not_not_intro c11H.out), if_pos (by rw [wth_out c13H.out]; rfl)])) (by decide))
  have Hx79 := lhd (show ((slkE ms ts dl kk : Int)) = 7 by unfold slkE; rw [if_neg (not_not_intro c11H.out), if_pos (by rw [wth_out c13H.out]; rfl)])
  go_wp2_with fail
  exact bodyPost_ret (v := .tuple #[.int .i64 0, .int .i64 7]) (by simp [results, Try.results51, go_sem]) rfl (⟨by rw [Hx78.out, Hx79.out] <;> rfl, F10.gb⟩)
 have c11a : ((bothErr ms ts dl) == 0) = false := beq_f c11
 have c11b : ((bothErr ms ts dl) != 0) = true := bne_t c11
 have c11H := lhd c11
 clear c11
 have Hx80 := lhd (show ((slkN ms ts dl kk : Int)) = 0 by exact slkN_no (show slkE ms ts dl kk = bothErr ms ts dl from (by unfold slkE; rw [if_pos c11H.out])) c11H.out)
 have Hx81 := lhd (show ((slkE ms ts dl kk : Int)) = bothErr ms ts dl by unfold slkE; rw [if_pos c11H.out])
 go_wp2_with fail
 exact bodyPost_ret (v := .tuple #[.int .i64 0, .int .i64 (bothErr ms ts dl)]) (by simp [results, Try.results51, go_sem]) rfl (⟨by rw [Hx80.out, Hx81.out] <;> rfl, F10.gb⟩)
end Go.Proofs.Ytokelpmngahnoaa
/- build and its reference: BuildChains walked. -/
namespace Go.Proofs.Ytokelpmngahnoaa
open Go.RowKit
set_option maxRecDepth 100000
attribute [local go_sem] Oper.semAt_some
def rowEnc (v : Value) : List Value := [v]
def jvEnc (p : Value × Value) : List Value := [p.1, p.2]
theorem job_of {v1 v2 u1 u2 d1 d2 : Value} {zj : Value × Value} {zd : Value} (m0 ms : List Mch) (t0 ts : List Tsk) (d0 dl : List Wea) {k : Nat} (h : [(v1, v2), (u1, u2), (u1, u2)][k]? = some zj) (h' : [d1, d2, d1][k]? = some zd) :
  ∃ (jm : List Mch) (jt : List Tsk) (jd : List Wea), ((zj = (v1, v2) /\ jm = m0 /\ jt = t0) ∨ (zj = (u1, u2) /\ jm = ms /\ jt = ts)) /\ ((zd = d1 /\ jd = d0) ∨ (zd = d2 /\ jd = dl)) := by
 match k, h, h' with
 | 0, h, h' => exact ⟨m0, t0, d0, .inl ⟨by simpa using h.symm, rfl, rfl⟩, .inl ⟨by simpa using h'.symm, rfl⟩⟩
 | 1, h, h' => exact ⟨ms, ts, dl, .inr ⟨by simpa using h.symm, rfl, rfl⟩, .inr ⟨by simpa using h'.symm, rfl⟩⟩
 | 2, h, h' => exact ⟨ms, ts, d0, .inr ⟨by simpa using h.symm, rfl, rfl⟩, .inl ⟨by simpa using h'.symm, rfl⟩⟩
 | n + 3, h, _ => simp at h
theorem JobAt.wide {lo hi lo' hi' : Nat} {w : World} {vm vt : Value} {ms : List Mch} {ts : List Tsk} (h : JobAt lo hi w vm vt ms ts) (h1 : lo' <= lo) (h2 : hi <= hi') : JobAt lo' hi' w vm vt ms ts :=
 ⟨h.m.wide h1 h2, h.t.wide h1 h2, fun t ht => ⟨(h.af t ht).1.wide h1 h2, (h.af t ht).2⟩⟩
theorem job_pick {w : World} {v1 v2 u1 u2 : Value} {zj : Value × Value} {m0 ms jm : List Mch} {t0 ts jt : List Tsk} {l1 h1 l2 h2 : Nat} (h : (zj = (v1, v2) /\ jm = m0 /\ jt = t0) ∨ (zj = (u1, u2) /\ jm = ms /\ jt = ts)) (s0 : JobAt l1 h1 w v1 v2 m0 t0) (s1 : JobAt l2 h2 w u1 u2 ms ts) (b0 : h1 <= w.heap.size) (b1 : h2 <= w.heap.size) : JobAt 0 w.heap.size w zj.1 zj.2 jm jt := by
 rcases h with ⟨rfl, rfl, rfl⟩ | ⟨rfl, rfl, rfl⟩
 · exact s0.wide (Nat.zero_le _) b0
 · exact s1.wide (Nat.zero_le _) b1
theorem day_pick {w : World} {v0 v1 zv : Value} {d0 dl dk : List Wea} {l1 h1 l2 h2 : Nat} (h : zv = v0 /\ dk = d0 ∨ zv = v1 /\ dk = dl) (s0 : Sl weaEnc 6 l1 h1 w v0 d0) (s1 : Sl weaEnc 6 l2 h2 w v1 dl) (b0 : h1 <= w.heap.size) (b1 : h2 <= w.heap.size) : Sl weaEnc 6 0 w.heap.size w zv dk := by
 rcases h with ⟨rfl, rfl⟩ | ⟨rfl, rfl⟩
 · exact s0.wide (Nat.zero_le _) b0
 · exact s1.wide (Nat.zero_le _) b1
theorem same_s (lo hi lo' hi' : Nat) (v v' : Value) (l : List Int) (w : World) (hx : Sl intEnc 1 lo hi w v l) (h2 : hi <= w.heap.size) (hy : Sl intEnc 1 lo' hi' w v' l) (h3 : hi' <= w.heap.size) : Calls Try.prog 39 #[v, v'] w (Ret (.bool true) w) := same_t lo hi lo' hi' v v' l w hx hy
theorem rng_chains_walk (t : Nat -> Value) : ((List.range 133).map t).toArray = List.toArray [t 0, t 1, t 2, t 3, t 4, t 5, t 6, t 7, t 8, t 9, t 10, t 11, t 12, t 13, t 14, t 15, t 16, t 17, t 18, t 19, t 20, t 21, t 22, t 23, t 24, t 25, t 26, t 27, t 28, t 29, t 30, t 31, t 32, t 33, t 34, t 35, t 36, t 37, t 38, t 39, t 40, t 41, t 42, t 43, t 44, t 45, t 46, t 47, t 48, t 49, t 50, t 51, t 52, t 53, t 54, t 55, t 56, t 57, t 58, t 59, t 60, t 61, t 62, t 63, t 64, t 65, t 66, t 67, t 68, t 69, t 70, t 71, t 72, t 73, t 74, t 75, t 76, t 77, t 78, t 79, t 80, t 81, t 82, t 83, t 84, t 85, t 86, t 87, t 88, t 89, t 90, t 91, t 92, t 93, t 94, t 95, t 96, t 97, t 98, t 99, t 100, t 101, t 102, t 103, t 104, t 105, t 106, t 107, t 108, t 109, t 110, t 111, t 112, t 113, t 114, t 115, t 116, t 117, t 118, t 119, t 120, t 121, t 122, t 123, t 124, t 125, t 126, t 127, t 128, t 129, t 130, t 131, t 132] := rfl
set_option maxHeartbeats 64000000 in
theorem chains_walk (vm vt : Value) (m0 : List Mch) (t0 : List Tsk) (vd : Value) (d0 : List Wea) (task : Int) (vn : Value) (zs : List Int) (w : World) (hj : JobAt 0 w.heap.size w vm vt m0 t0) (hd : Sl weaEnc 6 0 w.heap.size w vd d0) (hn : Sl intEnc 1 0 w.heap.size w vn zs) :
  Calls Try.prog 13 #[.agg #[vm, vt], vd, .int .i64 task, vn] w (Ret (.bool true) w) := by
 have F1 : Bun w [] w := Bun.nil _
 obtain ⟨hms0, hts0, haf0⟩ := hj
 have hm_ms0 := hms0.len
 unfold maxLen at hm_ms0
 obtain ⟨aM0, cM0, rfl⟩ := hms0.any
 have F2 := F1.sl0 hms0 (Nat.le_refl _) rfl
 clear F1
 clear hms0
 have hm_ts0 := hts0.len
 unfold maxLen at hm_ts0
 obtain ⟨aT0, cT0, rfl⟩ := hts0.any
 have F3 := F2.sl0 hts0 (Nat.le_refl _) rfl
 clear F2
 clear hts0
 have F4 := F3.non0 (rafs 0 w.heap.size t0) haf0 (fun _ h_ => Nat.lt_of_lt_of_le h_.2 (Nat.le_refl _)) rfl rfl
 clear F3
 clear haf0
 have hm_ds0 := hd.len
 unfold maxLen at hm_ds0
 obtain ⟨ad0, cd0, rfl⟩ := hd.any
 have F5 := F4.sl0 hd (Nat.le_refl _) rfl
 clear F4
 clear hd
 obtain ⟨na, nc, rfl⟩ := hn.any
 have hm_nums := hn.len
 unfold maxLen at hm_nums
 have F6 := F5.sl0 hn (Nat.le_refl _) rfl
 clear F5
 go_enter Try.func13, Try.ntmps13
 go_wp2_with fail
 have F8 := F6.new 25 #[.slice aM0 m0.length cM0, .slice aT0 t0.length cT0] (n := w.heap.size) (by simp)
 clear F6
 refine (bbig_c 0 w.heap.size _ _ m0 t0 0 w.heap.size _ d0 _ (JobAt.mk (F8.at 5 rfl : Sl mchEnc 3 0 w.heap.size _ (.slice aM0 m0.length cM0) m0) (F8.at 4 rfl : Sl tskEnc 8 0 w.heap.size _ (.slice aT0 t0.length cT0) t0) (F8.at 3 rfl : Afs 0 w.heap.size _ t0)) (by first | omega | (simp; done) | (simp; omega)) (F8.at 2 rfl : Sl weaEnc 6 0 w.heap.size _ (.slice ad0 d0.length cd0) d0) (by first | omega | (simp; done) | (simp; omega))).mono ?_
 rintro e w11 ⟨bb7, rfl, hbok, hg9⟩
 have HBK := lhd hbok
 clear hbok
 have hg9s := hg9.size
 (try simp at hg9s)
 have F12 := F8.gn hg9
 clear F8
 clear hg9
 cases c13 : bb7
 ·
  have c13H := lhd c13
  go_wp2_with fail
  refine (newSeed_c 0 w.heap.size _ zs _ (F12.at 1 rfl : Sl intEnc 1 0 w.heap.size _ (.slice na zs.length nc) zs)).mono ?_
  rintro e w16 ⟨sb, rfl, hsb, hsbs, hg14⟩
  have hsbl := hsbs.lt
  have hg14s := hg14.size
  (try simp at hg14s)
  have F17 := F12.add (rseed sb) hg14 (hsbs) (fun g e => by cases e; exact ⟨hsb, hsbs.lt⟩)
  clear F12
  clear hg14
  go_wp2_with fail
  refine (jobOf_c sb 8 _ (F17.at 0 rfl : SeedAt _ sb) (by omega)).mono ?_
  rintro e w20 ⟨ms, ts, a1J, a2J, c1J, c2J, loJ, hiJ, rfl, ⟨hxJ, hyJ⟩, hjJ, ⟨hjeJ, hmaJ, hmbJ, htaJ⟩, hs19, hg18⟩
  have HJEJ := lhd hjeJ
  clear hjeJ
  have hg18s := hg18.size
  (try simp at hg18s)
  have F21 := F17.seedAdd (rafs loJ hiJ ts) hg18 hs19 (hjJ.af) (fun g e => ⟨Nat.le_trans hxJ e.1, Nat.lt_of_lt_of_le e.2 hyJ⟩)
  clear F17
  clear hg18
  have F22 := F21.more 0 (rsl tskEnc 8 loJ hiJ (.slice a2J ts.length c2J) ts) rfl rfl rfl (fun _ h_ => h_) (Sl.gb hjJ.t (gb_refl _ none) (fun _ e => by cases e))
  clear F21
  have hm_tsJ := (F22.at 0 rfl : Sl tskEnc 8 loJ hiJ _ (.slice a2J ts.length c2J) ts).len
  unfold maxLen at hm_tsJ
  have F23 := F22.more 1 (rsl mchEnc 3 loJ hiJ (.slice a1J ms.length c1J) ms) rfl rfl rfl (fun _ h_ => h_) (Sl.gb hjJ.m (gb_refl _ none) (fun _ e => by cases e))
  clear F22
  have hm_msJ := (F23.at 0 rfl : Sl mchEnc 3 loJ hiJ _ (.slice a1J ms.length c1J) ms).len
  unfold maxLen at hm_msJ
  go_wp2_with fail
  refine (weekOf_c sb 6 _ ((F23.front 3 rfl rfl).at 0 rfl : SeedAt _ sb) (by omega)).mono ?_
  rintro e w26 ⟨dl, aw_dl, cw_dl, lw_dl, hw_dl, rfl, ⟨hwx_dl, hwy_dl⟩, hwz_dl, ⟨hwl_dl, hwe_dl⟩, hs25, hg24⟩
  have HWE_dl := lhd hwe_dl
  clear hwe_dl
  have hg24s := hg24.size
  (try simp at hg24s)
  have F27 := (F23.front 3 rfl rfl).seedAdd (rsl weaEnc 6 lw_dl hw_dl (.slice aw_dl dl.length cw_dl) dl) hg24 hs25 (hwz_dl) (fun g e => ⟨Nat.le_trans hwx_dl e.1, Nat.lt_of_lt_of_le e.2 hwy_dl⟩)
  clear F23
  clear hg24
  go_wp2_with fail
  have F31 := F27.new 25 #[.slice a1J ms.length c1J, .slice a2J ts.length c2J] (n := w26.heap.size) (by simp)
  clear F27
  have Fn_ := F31
  (try dsimp only [List.eraseIdx_cons_succ, List.eraseIdx_cons_zero] at Fn_)
  obtain ⟨w32, hx33, F35, hxs34⟩ := Fn_.name
  (try simp at hxs34)
  rw [hx33]
  clear hx33 F31 Fn_
  have hw30 : IntKind.i64.wrap ((ts.length : Int) + 1) = (ts.length : Int) + 1 := IntWalk.i64_in _ (by omega)
  have F36 := F35.drew
  clear F35
  refine ru_begin (fun W => W.cell? ⟨w.heap.size, 0, none⟩ = some (.slice aM0 m0.length cM0) /\ W.cell? ⟨w.heap.size, 1, none⟩ = some (.slice aT0 t0.length cT0) /\ W.cell? ⟨w26.heap.size, 0, none⟩ = some (.slice a1J ms.length c1J) /\ W.cell? ⟨w26.heap.size, 1, none⟩ = some (.slice a2J ts.length c2J)) 19 (by kernel_rfl) ?_ ?_
  · exact ⟨F36.cl 6 0 rfl rfl, F36.cl 6 1 rfl rfl, F36.cl 0 0 rfl rfl, F36.cl 0 1 rfl rfl⟩
  obtain ⟨wd38, hwd_⟩ : ∃ x : World, w32.drew = x := ⟨_, rfl⟩
  rw [hwd_] at F36 ⊢
  have wd38s : w32.heap.size <= wd38.heap.size := by rw [← hwd_]; exact Nat.le_refl _
  clear hwd_
  have hS37 := (And.intro (F36.cl 6 0 rfl rfl) (And.intro (F36.cl 6 1 rfl rfl) (And.intro (F36.cl 0 0 rfl rfl) (F36.cl 0 1 rfl rfl))))
  refine ru_t 0 [] ?_
  refine ru_t 1 [] ?_
  refine ru_t 2 [] ?_
  refine ru_t 4 [] ?_
  refine ru_t 5 [] ?_
  refine ru_t 6 [] ?_
  refine ru_t 8 [] ?_
  refine ru_t 9 [] ?_
  refine ru_t 10 [] ?_
  refine ru_t 11 [] ?_
  refine ru_t 12 [] ?_
  refine ru_t 13 [] ?_
  refine ru_t 15 [] ?_
  (try simp only [Act.put, lpA, lpB, lpC])
  clear hS37
  refine ru_state 133 (fun t w_ => ∃ (yg3 : Nat) (yg7 : Nat) (r39 : Int) (yg16 : Nat), (0 <= r39 /\ (r39 < ((ts.length : Int) + 1) ∨ r39 = 0)) /\ t 12 = .slice (some ⟨yg3, 0, none⟩) 3 3 /\ t 13 = .slice (some ⟨yg7, 0, none⟩) 3 3 /\ t 14 = .slice (some ⟨yg16, 0, none⟩) 3 3 /\ w32.heap.size <= w_.heap.size /\ Bun w [rbox yg16 3 #[.int .i64 task, .int .i64 r39, .int .i64 task], rbox yg7 26 #[.slice ad0 d0.length cd0, .slice aw_dl dl.length cw_dl, .slice ad0 d0.length cd0], rbox yg3 25 #[.slice aM0 m0.length cM0, .slice aT0 t0.length cT0, .slice a1J ms.length c1J, .slice a2J ts.length c2J, .slice a1J ms.length c1J, .slice a2J ts.length c2J], rbox w26.heap.size 25 #[.slice a1J ms.length c1J, .slice a2J ts.length c2J], rsl weaEnc 6 lw_dl hw_dl (.slice aw_dl dl.length cw_dl) dl, rseed sb, rsl mchEnc 3 loJ hiJ (.slice a1J ms.length c1J) ms, rsl tskEnc 8 loJ hiJ (.slice a2J ts.length c2J) ts, rafs loJ hiJ ts, rbox w.heap.size 25 #[.slice aM0 m0.length cM0, .slice aT0 t0.length cT0], rsl intEnc 1 0 w.heap.size (.slice na zs.length nc) zs, rsl weaEnc 6 0 w.heap.size (.slice ad0 d0.length cd0) d0, rafs 0 w.heap.size t0, rsl tskEnc 8 0 w.heap.size (.slice aT0 t0.length cT0) t0, rsl mchEnc 3 0 w.heap.size (.slice aM0 m0.length cM0) m0] w_) #[true, true, true, true, true, true, true, true, true, true, true, true, true, true, true, true, true, true, true, true] 0 ?st41 ?nx41
  case st41 =>
   rintro t w42 ⟨yg3, yg7, r39, yg16, hr40, e12, e13, e14, hsz41, F43⟩
   clear F36
   rw [rng_chains_walk t, e12, e13, e14]
   clear e12 e13 e14
   have hws41 := F43.gb.size
   have yg16l := F43.ltAt 0 rfl yg16 rfl
   have yg16b := yg16l.2 rfl
   have yg7l := F43.ltAt 1 rfl yg7 rfl
   have yg7b := yg7l.2 rfl
   have yg3l := F43.ltAt 2 rfl yg3 rfl
   have yg3b := yg3l.2 rfl
   refine ru_done (by kernel_rfl) ?_
   (try clear hw30)
   have Fn_ := ((F43.drop 3 rfl).drop 8 rfl)
   (try dsimp only [List.eraseIdx_cons_succ, List.eraseIdx_cons_zero] at Fn_)
   obtain ⟨w44, hx45, F47, hxs46⟩ := Fn_.name
   (try simp at hxs46)
   rw [hx45]
   clear hx45 F43 Fn_
   go_wp2_with fail
   have F48 := (F47.front 2 rfl rfl).lit jvEnc 2 [((.slice aM0 m0.length cM0 : Value), (.slice aT0 t0.length cT0 : Value)), (.slice a1J ms.length c1J, .slice a2J ts.length c2J), (.slice a1J ms.length c1J, .slice a2J ts.length c2J)] 3 (fun _ => rfl) rfl (by show (3 : Nat) <= 1000; omega)
   clear F47
   have F49 := (F48.front 2 rfl rfl).lit rowEnc 1 [(.slice ad0 d0.length cd0 : Value), .slice aw_dl dl.length cw_dl, .slice ad0 d0.length cd0] 3 (fun _ => rfl) rfl (by show (3 : Nat) <= 1000; omega)
   clear F48
   have F50 := (F49.front 2 rfl rfl).lit intEnc 1 [(task : Int), r39, task] 3 (fun _ => rfl) rfl (by show (3 : Nat) <= 1000; omega)
   clear F49
   (skip)
   obtain ⟨HI51_, HI510⟩ : ∃ I : RelT, I = (fun t ds wr => ∃ (k : Nat), t 12 = .slice (some ⟨yg3, 0, none⟩) 3 3 /\ t 13 = .slice (some ⟨yg7, 0, none⟩) 3 3 /\ t 14 = .slice (some ⟨yg16, 0, none⟩) 3 3 /\ t 15 = .int .i64 (k : Int) /\ k <= 3 /\ ds = [] /\ w44.heap.size <= wr.heap.size /\ Bun w [rsl intEnc 1 yg16 (yg16 + 1) (.slice (some ⟨yg16, 0, none⟩) 3 3) ([(task : Int), r39, task]), rsl rowEnc 1 yg7 (yg7 + 1) (.slice (some ⟨yg7, 0, none⟩) 3 3) ([(.slice ad0 d0.length cd0 : Value), .slice aw_dl dl.length cw_dl, .slice ad0 d0.length cd0]), rsl jvEnc 2 yg3 (yg3 + 1) (.slice (some ⟨yg3, 0, none⟩) 3 3) ([((.slice aM0 m0.length cM0 : Value), (.slice aT0 t0.length cT0 : Value)), (.slice a1J ms.length c1J, .slice a2J ts.length c2J), (.slice a1J ms.length c1J, .slice a2J ts.length c2J)]), rsl weaEnc 6 lw_dl hw_dl (.slice aw_dl dl.length cw_dl) dl, rseed sb, rsl mchEnc 3 loJ hiJ (.slice a1J ms.length c1J) ms, rsl tskEnc 8 loJ hiJ (.slice a2J ts.length c2J) ts, rafs loJ hiJ ts, rsl intEnc 1 0 w.heap.size (.slice na zs.length nc) zs, rsl weaEnc 6 0 w.heap.size (.slice ad0 d0.length cd0) d0, rafs 0 w.heap.size t0, rsl tskEnc 8 0 w.heap.size (.slice aT0 t0.length cT0) t0, rsl mchEnc 3 0 w.heap.size (.slice aM0 m0.length cM0) m0] wr) := ⟨_, rfl⟩
   have HI51 := lhd HI510
   clear HI510
   refine wp_loopS 133 rfl HI51_ (fun t wr => 3 - (intOf (t 15)).toNat) ?atStart16 ?round16
   case round16 =>
    intro t ds wr hHid
    rw [HI51.out] at hHid
    obtain ⟨k, e12, e13, e14, e15, hrel⟩ := hHid
    have e : ((List.range 133).map t).toArray = #[t 0, t 1, t 2, t 3, t 4, t 5, t 6, t 7, t 8, t 9, t 10, t 11, t 12, t 13, t 14, t 15, t 16, t 17, t 18, t 19, t 20, t 21, t 22, t 23, t 24, t 25, t 26, t 27, t 28, t 29, t 30, t 31, t 32, t 33, t 34, t 35, t 36, t 37, t 38, t 39, t 40, t 41, t 42, t 43, t 44, t 45, t 46, t 47, t 48, t 49, t 50, t 51, t 52, t 53, t 54, t 55, t 56, t 57, t 58, t 59, t 60, t 61, t 62, t 63, t 64, t 65, t 66, t 67, t 68, t 69, t 70, t 71, t 72, t 73, t 74, t 75, t 76, t 77, t 78, t 79, t 80, t 81, t 82, t 83, t 84, t 85, t 86, t 87, t 88, t 89, t 90, t 91, t 92, t 93, t 94, t 95, t 96, t 97, t 98, t 99, t 100, t 101, t 102, t 103, t 104, t 105, t 106, t 107, t 108, t 109, t 110, t 111, t 112, t 113, t 114, t 115, t 116, t 117, t 118, t 119, t 120, t 121, t 122, t 123, t 124, t 125, t 126, t 127, t 128, t 129, t 130, t 131, t 132] := rfl
    (try dsimp only at e)
    rw [e12, e13, e14, e15] at e
    rw [e]
    simp only [e15]
    clear e e12 e13 e14 e15
    obtain ⟨hk, rfl, hs53, hF52⟩ := hrel
    clear F50
    obtain ⟨w54, rfl⟩ : ∃ x_ : World, x_ = wr := ⟨_, rfl⟩
    by_cases c55 : (k : Int) < 3
    ·
     have c55H := lhd c55
     obtain ⟨zj, hz56_⟩ : ∃ z_, ([((.slice aM0 m0.length cM0 : Value), (.slice aT0 t0.length cT0 : Value)), (.slice a1J ms.length c1J, .slice a2J ts.length c2J), (.slice a1J ms.length c1J, .slice a2J ts.length c2J)])[k]? = some z_ := ⟨_, List.getElem?_eq_getElem (by show k < 3; omega)⟩
     have hz56 := lhd hz56_
     clear hz56_
     obtain ⟨zd, hz57_⟩ : ∃ z_, ([(.slice ad0 d0.length cd0 : Value), .slice aw_dl dl.length cw_dl, .slice ad0 d0.length cd0])[k]? = some z_ := ⟨_, List.getElem?_eq_getElem (by show k < 3; omega)⟩
     have hz57 := lhd hz57_
     clear hz57_
     obtain ⟨zt, hz58_⟩ : ∃ z_, ([(task : Int), r39, task])[k]? = some z_ := ⟨_, List.getElem?_eq_getElem (by show k < 3; omega)⟩
     have hz58 := lhd hz58_
     clear hz58_
     obtain ⟨jm, jt, jd, hpk_⟩ := job_of m0 ms t0 ts d0 dl hz56.out hz57.out
     have HPK := lhd hpk_
     clear hpk_
     go_wp2_with fail
     have F59 := hF52.drew
     clear hF52
     refine ru_begin (fun W => W.cell? ⟨yg3, k * 2, none⟩ = some zj.1 /\ W.cell? ⟨yg3, k * 2 + 1, none⟩ = some zj.2 /\ W.cell? ⟨yg7, k, none⟩ = some zd) 13 (by kernel_rfl) ?_ ?_
     · exact ⟨(((F59.at 2 rfl : Sl jvEnc 2 yg3 (yg3 + 1) _ (.slice (some ⟨yg3, 0, none⟩) 3 3) ([((.slice aM0 m0.length cM0 : Value), (.slice aT0 t0.length cT0 : Value)), (.slice a1J ms.length c1J, .slice a2J ts.length c2J), (.slice a1J ms.length c1J, .slice a2J ts.length c2J)]))).cells0 hz56.out 0 _ rfl), (((F59.at 2 rfl : Sl jvEnc 2 yg3 (yg3 + 1) _ (.slice (some ⟨yg3, 0, none⟩) 3 3) ([((.slice aM0 m0.length cM0 : Value), (.slice aT0 t0.length cT0 : Value)), (.slice a1J ms.length c1J, .slice a2J ts.length c2J), (.slice a1J ms.length c1J, .slice a2J ts.length c2J)]))).cells0 hz56.out 1 _ rfl), (by have h_ := ((F59.at 1 rfl : Sl rowEnc 1 yg7 (yg7 + 1) _ (.slice (some ⟨yg7, 0, none⟩) 3 3) ([(.slice ad0 d0.length cd0 : Value), .slice aw_dl dl.length cw_dl, .slice ad0 d0.length cd0]))).cells0 hz57.out 0 _ rfl; simpa using h_)⟩
     obtain ⟨wd61, hwd_⟩ : ∃ x : World, w54.drew = x := ⟨_, rfl⟩
     rw [hwd_] at F59 ⊢
     have wd61s : w54.heap.size <= wd61.heap.size := by rw [← hwd_]; exact Nat.le_refl _
     clear hwd_
     have hS60 := (And.intro ((((F59.at 2 rfl : Sl jvEnc 2 yg3 (yg3 + 1) _ (.slice (some ⟨yg3, 0, none⟩) 3 3) ([((.slice aM0 m0.length cM0 : Value), (.slice aT0 t0.length cT0 : Value)), (.slice a1J ms.length c1J, .slice a2J ts.length c2J), (.slice a1J ms.length c1J, .slice a2J ts.length c2J)]))).cells0 hz56.out 0 _ rfl)) (And.intro ((((F59.at 2 rfl : Sl jvEnc 2 yg3 (yg3 + 1) _ (.slice (some ⟨yg3, 0, none⟩) 3 3) ([((.slice aM0 m0.length cM0 : Value), (.slice aT0 t0.length cT0 : Value)), (.slice a1J ms.length c1J, .slice a2J ts.length c2J), (.slice a1J ms.length c1J, .slice a2J ts.length c2J)]))).cells0 hz56.out 1 _ rfl)) ((by have h_ := ((F59.at 1 rfl : Sl rowEnc 1 yg7 (yg7 + 1) _ (.slice (some ⟨yg7, 0, none⟩) 3 3) ([(.slice ad0 d0.length cd0 : Value), .slice aw_dl dl.length cw_dl, .slice ad0 d0.length cd0]))).cells0 hz57.out 0 _ rfl; simpa using h_))))
     refine ru_t 0 [] ?_
     refine ru_t 1 [] ?_
     refine ru_t 2 [] ?_
     refine ru_t 3 [] ?_
     refine ru_t 4 [] ?_
     refine ru_t 5 [] ?_
     refine ru_t 6 [] ?_
     refine ru_t 7 [] ?_
     (try simp only [Act.put, lpA, lpB, lpC])
     clear hS60
     refine ru_one 8 rfl (by kernel_rfl) (fun K hK => ?_)
     go_simp
     refine (bchain_c 0 _ _ _ jm jt 0 _ _ jd _ (job_pick HPK.out.1 (JobAt.mk (F59.at 12 rfl : Sl mchEnc 3 0 w.heap.size _ (.slice aM0 m0.length cM0) m0) (F59.at 11 rfl : Sl tskEnc 8 0 w.heap.size _ (.slice aT0 t0.length cT0) t0) (F59.at 10 rfl : Afs 0 w.heap.size _ t0)) (JobAt.mk (F59.at 5 rfl : Sl mchEnc 3 loJ hiJ _ (.slice a1J ms.length c1J) ms) (F59.at 6 rfl : Sl tskEnc 8 loJ hiJ _ (.slice a2J ts.length c2J) ts) (F59.at 7 rfl : Afs loJ hiJ _ ts)) (by first | omega | (simp; done) | (simp; omega)) (by first | omega | (simp; done) | (simp; omega))) (Nat.le_refl _) (day_pick HPK.out.2 (F59.at 9 rfl : Sl weaEnc 6 0 w.heap.size _ (.slice ad0 d0.length cd0) d0) (F59.at 3 rfl : Sl weaEnc 6 lw_dl hw_dl _ (.slice aw_dl dl.length cw_dl) dl) (by first | omega | (simp; done) | (simp; omega)) (by first | omega | (simp; done) | (simp; omega))) (Nat.le_refl _)).mono ?_
     rintro e w64 ⟨acka, ccka, lcka, hcka, rfl, ⟨hcxka, hcyka⟩, hczka, hg62⟩
     have hg62s := hg62.size
     (try simp at hg62s)
     have F65 := F59.add (rsl intEnc 1 lcka hcka (.slice acka (chnC jm jt jd).length ccka) (ints (chnC jm jt jd))) hg62 (hczka) (fun g e => ⟨Nat.le_trans hcxka e.1, Nat.lt_of_lt_of_le e.2 hcyka⟩)
     clear F59
     refine ru_back hK (by exact ⟨(((F65.at 3 rfl : Sl jvEnc 2 yg3 (yg3 + 1) _ (.slice (some ⟨yg3, 0, none⟩) 3 3) ([((.slice aM0 m0.length cM0 : Value), (.slice aT0 t0.length cT0 : Value)), (.slice a1J ms.length c1J, .slice a2J ts.length c2J), (.slice a1J ms.length c1J, .slice a2J ts.length c2J)]))).cells0 hz56.out 0 _ rfl), (((F65.at 3 rfl : Sl jvEnc 2 yg3 (yg3 + 1) _ (.slice (some ⟨yg3, 0, none⟩) 3 3) ([((.slice aM0 m0.length cM0 : Value), (.slice aT0 t0.length cT0 : Value)), (.slice a1J ms.length c1J, .slice a2J ts.length c2J), (.slice a1J ms.length c1J, .slice a2J ts.length c2J)]))).cells0 hz56.out 1 _ rfl), (by have h_ := ((F65.at 2 rfl : Sl rowEnc 1 yg7 (yg7 + 1) _ (.slice (some ⟨yg7, 0, none⟩) 3 3) ([(.slice ad0 d0.length cd0 : Value), .slice aw_dl dl.length cw_dl, .slice ad0 d0.length cd0]))).cells0 hz57.out 0 _ rfl; simpa using h_)⟩) (fun hHeld => ?_)
     clear hK K
     (try simp only [Act.put, lpA, lpB, lpC])
     refine ru_p 9 ?_
     (try simp only [Act.put, lpA, lpB, lpC])
     refine ru_p 10 ?_
     refine ru_p 11 ?_
     (try simp only [Act.put, lpA, lpB, lpC])
     refine ru_p 12 ?_
     (try simp only [Act.put, lpA, lpB, lpC])
     refine ru_one 13 rfl (by kernel_rfl) (fun K hK => ?_)
     go_simp
     refine ru_back_late hK (by kernel_rfl) ?_
     clear hK K
     (try simp only [Act.put, lpA, lpB, lpC])
     refine ru_done (by kernel_rfl) ?_
     have Fn_ := F65
     (try dsimp only [List.eraseIdx_cons_succ, List.eraseIdx_cons_zero] at Fn_)
     obtain ⟨w66, hx67, F69, hxs68⟩ := Fn_.name
     (try simp at hxs68)
     rw [hx67]
     clear hx67 F65 Fn_
     go_wp2_with fail
     have F70 := F69.drew
     clear F69
     refine ru_begin (fun W => W.cell? ⟨yg3, k * 2, none⟩ = some zj.1 /\ W.cell? ⟨yg3, k * 2 + 1, none⟩ = some zj.2 /\ W.cell? ⟨yg7, k, none⟩ = some zd) 13 (by kernel_rfl) ?_ ?_
     · exact ⟨(((F70.at 3 rfl : Sl jvEnc 2 yg3 (yg3 + 1) _ (.slice (some ⟨yg3, 0, none⟩) 3 3) ([((.slice aM0 m0.length cM0 : Value), (.slice aT0 t0.length cT0 : Value)), (.slice a1J ms.length c1J, .slice a2J ts.length c2J), (.slice a1J ms.length c1J, .slice a2J ts.length c2J)]))).cells0 hz56.out 0 _ rfl), (((F70.at 3 rfl : Sl jvEnc 2 yg3 (yg3 + 1) _ (.slice (some ⟨yg3, 0, none⟩) 3 3) ([((.slice aM0 m0.length cM0 : Value), (.slice aT0 t0.length cT0 : Value)), (.slice a1J ms.length c1J, .slice a2J ts.length c2J), (.slice a1J ms.length c1J, .slice a2J ts.length c2J)]))).cells0 hz56.out 1 _ rfl), (by have h_ := ((F70.at 2 rfl : Sl rowEnc 1 yg7 (yg7 + 1) _ (.slice (some ⟨yg7, 0, none⟩) 3 3) ([(.slice ad0 d0.length cd0 : Value), .slice aw_dl dl.length cw_dl, .slice ad0 d0.length cd0]))).cells0 hz57.out 0 _ rfl; simpa using h_)⟩
     obtain ⟨wd72, hwd_⟩ : ∃ x : World, w66.drew = x := ⟨_, rfl⟩
     rw [hwd_] at F70 ⊢
     have wd72s : w66.heap.size <= wd72.heap.size := by rw [← hwd_]; exact Nat.le_refl _
     clear hwd_
     have hS71 := (And.intro ((((F70.at 3 rfl : Sl jvEnc 2 yg3 (yg3 + 1) _ (.slice (some ⟨yg3, 0, none⟩) 3 3) ([((.slice aM0 m0.length cM0 : Value), (.slice aT0 t0.length cT0 : Value)), (.slice a1J ms.length c1J, .slice a2J ts.length c2J), (.slice a1J ms.length c1J, .slice a2J ts.length c2J)]))).cells0 hz56.out 0 _ rfl)) (And.intro ((((F70.at 3 rfl : Sl jvEnc 2 yg3 (yg3 + 1) _ (.slice (some ⟨yg3, 0, none⟩) 3 3) ([((.slice aM0 m0.length cM0 : Value), (.slice aT0 t0.length cT0 : Value)), (.slice a1J ms.length c1J, .slice a2J ts.length c2J), (.slice a1J ms.length c1J, .slice a2J ts.length c2J)]))).cells0 hz56.out 1 _ rfl)) ((by have h_ := ((F70.at 2 rfl : Sl rowEnc 1 yg7 (yg7 + 1) _ (.slice (some ⟨yg7, 0, none⟩) 3 3) ([(.slice ad0 d0.length cd0 : Value), .slice aw_dl dl.length cw_dl, .slice ad0 d0.length cd0]))).cells0 hz57.out 0 _ rfl; simpa using h_))))
     refine ru_t 0 [] ?_
     refine ru_t 1 [] ?_
     refine ru_t 2 [] ?_
     refine ru_t 3 [] ?_
     refine ru_t 4 [] ?_
     refine ru_t 5 [] ?_
     refine ru_t 6 [] ?_
     refine ru_t 7 [] ?_
     (try simp only [Act.put, lpA, lpB, lpC])
     clear hS71
     refine ru_one 8 rfl (by kernel_rfl) (fun K hK => ?_)
     go_simp
     refine (rchain_c 0 _ _ _ jm jt 0 _ _ jd _ (job_pick HPK.out.1 (JobAt.mk (F70.at 13 rfl : Sl mchEnc 3 0 w.heap.size _ (.slice aM0 m0.length cM0) m0) (F70.at 12 rfl : Sl tskEnc 8 0 w.heap.size _ (.slice aT0 t0.length cT0) t0) (F70.at 11 rfl : Afs 0 w.heap.size _ t0)) (JobAt.mk (F70.at 6 rfl : Sl mchEnc 3 loJ hiJ _ (.slice a1J ms.length c1J) ms) (F70.at 7 rfl : Sl tskEnc 8 loJ hiJ _ (.slice a2J ts.length c2J) ts) (F70.at 8 rfl : Afs loJ hiJ _ ts)) (by first | omega | (simp; done) | (simp; omega)) (by first | omega | (simp; done) | (simp; omega))) (Nat.le_refl _) (day_pick HPK.out.2 (F70.at 10 rfl : Sl weaEnc 6 0 w.heap.size _ (.slice ad0 d0.length cd0) d0) (F70.at 4 rfl : Sl weaEnc 6 lw_dl hw_dl _ (.slice aw_dl dl.length cw_dl) dl) (by first | omega | (simp; done) | (simp; omega)) (by first | omega | (simp; done) | (simp; omega))) (Nat.le_refl _)).mono ?_
     rintro e w75 ⟨ackb, cckb, lckb, hckb, rfl, ⟨hcxkb, hcykb⟩, hczkb, hg73⟩
     have hg73s := hg73.size
     (try simp at hg73s)
     have F76 := F70.add (rsl intEnc 1 lckb hckb (.slice ackb (chnC jm jt jd).length cckb) (ints (chnC jm jt jd))) hg73 (hczkb) (fun g e => ⟨Nat.le_trans hcxkb e.1, Nat.lt_of_lt_of_le e.2 hcykb⟩)
     clear F70
     refine ru_back hK (by exact ⟨(((F76.at 4 rfl : Sl jvEnc 2 yg3 (yg3 + 1) _ (.slice (some ⟨yg3, 0, none⟩) 3 3) ([((.slice aM0 m0.length cM0 : Value), (.slice aT0 t0.length cT0 : Value)), (.slice a1J ms.length c1J, .slice a2J ts.length c2J), (.slice a1J ms.length c1J, .slice a2J ts.length c2J)]))).cells0 hz56.out 0 _ rfl), (((F76.at 4 rfl : Sl jvEnc 2 yg3 (yg3 + 1) _ (.slice (some ⟨yg3, 0, none⟩) 3 3) ([((.slice aM0 m0.length cM0 : Value), (.slice aT0 t0.length cT0 : Value)), (.slice a1J ms.length c1J, .slice a2J ts.length c2J), (.slice a1J ms.length c1J, .slice a2J ts.length c2J)]))).cells0 hz56.out 1 _ rfl), (by have h_ := ((F76.at 3 rfl : Sl rowEnc 1 yg7 (yg7 + 1) _ (.slice (some ⟨yg7, 0, none⟩) 3 3) ([(.slice ad0 d0.length cd0 : Value), .slice aw_dl dl.length cw_dl, .slice ad0 d0.length cd0]))).cells0 hz57.out 0 _ rfl; simpa using h_)⟩) (fun hHeld => ?_)
     clear hK K
     (try simp only [Act.put, lpA, lpB, lpC])
     refine ru_p 9 ?_
     (try simp only [Act.put, lpA, lpB, lpC])
     refine ru_p 10 ?_
     refine ru_p 11 ?_
     (try simp only [Act.put, lpA, lpB, lpC])
     refine ru_p 12 ?_
     (try simp only [Act.put, lpA, lpB, lpC])
     refine ru_one 13 rfl (by kernel_rfl) (fun K hK => ?_)
     go_simp
     refine ru_back_late hK (by kernel_rfl) ?_
     clear hK K
     (try simp only [Act.put, lpA, lpB, lpC])
     refine ru_done (by kernel_rfl) ?_
     have Fn_ := F76
     (try dsimp only [List.eraseIdx_cons_succ, List.eraseIdx_cons_zero] at Fn_)
     obtain ⟨w77, hx78, F80, hxs79⟩ := Fn_.name
     (try simp at hxs79)
     rw [hx78]
     clear hx78 F76 Fn_
     go_wp2_with fail
     have F81 := F80.drew
     clear F80
     refine ru_begin (fun W => W.cell? ⟨yg3, k * 2, none⟩ = some zj.1 /\ W.cell? ⟨yg3, k * 2 + 1, none⟩ = some zj.2 /\ W.cell? ⟨yg7, k, none⟩ = some zd /\ W.cell? ⟨yg16, k, none⟩ = some (.int .i64 zt)) 17 (by kernel_rfl) ?_ ?_
     · exact ⟨(((F81.at 4 rfl : Sl jvEnc 2 yg3 (yg3 + 1) _ (.slice (some ⟨yg3, 0, none⟩) 3 3) ([((.slice aM0 m0.length cM0 : Value), (.slice aT0 t0.length cT0 : Value)), (.slice a1J ms.length c1J, .slice a2J ts.length c2J), (.slice a1J ms.length c1J, .slice a2J ts.length c2J)]))).cells0 hz56.out 0 _ rfl), (((F81.at 4 rfl : Sl jvEnc 2 yg3 (yg3 + 1) _ (.slice (some ⟨yg3, 0, none⟩) 3 3) ([((.slice aM0 m0.length cM0 : Value), (.slice aT0 t0.length cT0 : Value)), (.slice a1J ms.length c1J, .slice a2J ts.length c2J), (.slice a1J ms.length c1J, .slice a2J ts.length c2J)]))).cells0 hz56.out 1 _ rfl), (by have h_ := ((F81.at 3 rfl : Sl rowEnc 1 yg7 (yg7 + 1) _ (.slice (some ⟨yg7, 0, none⟩) 3 3) ([(.slice ad0 d0.length cd0 : Value), .slice aw_dl dl.length cw_dl, .slice ad0 d0.length cd0]))).cells0 hz57.out 0 _ rfl; simpa using h_), (by have h_ := ((F81.at 2 rfl : Sl intEnc 1 yg16 (yg16 + 1) _ (.slice (some ⟨yg16, 0, none⟩) 3 3) ([(task : Int), r39, task]))).cells0 hz58.out 0 _ rfl; simpa using h_)⟩
     obtain ⟨wd83, hwd_⟩ : ∃ x : World, w77.drew = x := ⟨_, rfl⟩
     rw [hwd_] at F81 ⊢
     have wd83s : w77.heap.size <= wd83.heap.size := by rw [← hwd_]; exact Nat.le_refl _
     clear hwd_
     have hS82 := (And.intro ((((F81.at 4 rfl : Sl jvEnc 2 yg3 (yg3 + 1) _ (.slice (some ⟨yg3, 0, none⟩) 3 3) ([((.slice aM0 m0.length cM0 : Value), (.slice aT0 t0.length cT0 : Value)), (.slice a1J ms.length c1J, .slice a2J ts.length c2J), (.slice a1J ms.length c1J, .slice a2J ts.length c2J)]))).cells0 hz56.out 0 _ rfl)) (And.intro ((((F81.at 4 rfl : Sl jvEnc 2 yg3 (yg3 + 1) _ (.slice (some ⟨yg3, 0, none⟩) 3 3) ([((.slice aM0 m0.length cM0 : Value), (.slice aT0 t0.length cT0 : Value)), (.slice a1J ms.length c1J, .slice a2J ts.length c2J), (.slice a1J ms.length c1J, .slice a2J ts.length c2J)]))).cells0 hz56.out 1 _ rfl)) (And.intro ((by have h_ := ((F81.at 3 rfl : Sl rowEnc 1 yg7 (yg7 + 1) _ (.slice (some ⟨yg7, 0, none⟩) 3 3) ([(.slice ad0 d0.length cd0 : Value), .slice aw_dl dl.length cw_dl, .slice ad0 d0.length cd0]))).cells0 hz57.out 0 _ rfl; simpa using h_)) ((by have h_ := ((F81.at 2 rfl : Sl intEnc 1 yg16 (yg16 + 1) _ (.slice (some ⟨yg16, 0, none⟩) 3 3) ([(task : Int), r39, task]))).cells0 hz58.out 0 _ rfl; simpa using h_)))))
     refine ru_t 0 [] ?_
     refine ru_t 1 [] ?_
     refine ru_t 2 [] ?_
     refine ru_t 3 [] ?_
     refine ru_t 4 [] ?_
     refine ru_t 5 [] ?_
     refine ru_t 6 [] ?_
     refine ru_t 7 [] ?_
     refine ru_t 8 [] ?_
     refine ru_t 9 [] ?_
     refine ru_t 10 [] ?_
     refine ru_t 11 [] ?_
     (try simp only [Act.put, lpA, lpB, lpC])
     clear hS82
     refine ru_one 12 rfl (by kernel_rfl) (fun K hK => ?_)
     go_simp
     refine (slack_c 0 _ _ _ jm jt 0 _ _ jd zt _ (job_pick HPK.out.1 (JobAt.mk (F81.at 14 rfl : Sl mchEnc 3 0 w.heap.size _ (.slice aM0 m0.length cM0) m0) (F81.at 13 rfl : Sl tskEnc 8 0 w.heap.size _ (.slice aT0 t0.length cT0) t0) (F81.at 12 rfl : Afs 0 w.heap.size _ t0)) (JobAt.mk (F81.at 7 rfl : Sl mchEnc 3 loJ hiJ _ (.slice a1J ms.length c1J) ms) (F81.at 8 rfl : Sl tskEnc 8 loJ hiJ _ (.slice a2J ts.length c2J) ts) (F81.at 9 rfl : Afs loJ hiJ _ ts)) (by first | omega | (simp; done) | (simp; omega)) (by first | omega | (simp; done) | (simp; omega))) (Nat.le_refl _) (day_pick HPK.out.2 (F81.at 11 rfl : Sl weaEnc 6 0 w.heap.size _ (.slice ad0 d0.length cd0) d0) (F81.at 5 rfl : Sl weaEnc 6 lw_dl hw_dl _ (.slice aw_dl dl.length cw_dl) dl) (by first | omega | (simp; done) | (simp; omega)) (by first | omega | (simp; done) | (simp; omega))) (Nat.le_refl _)).mono ?_
     rintro e w86 ⟨rfl, hg84⟩
     have hg84s := hg84.size
     (try simp at hg84s)
     have F87 := F81.gn hg84
     clear F81
     refine ru_back hK (by exact ⟨(((F87.at 4 rfl : Sl jvEnc 2 yg3 (yg3 + 1) _ (.slice (some ⟨yg3, 0, none⟩) 3 3) ([((.slice aM0 m0.length cM0 : Value), (.slice aT0 t0.length cT0 : Value)), (.slice a1J ms.length c1J, .slice a2J ts.length c2J), (.slice a1J ms.length c1J, .slice a2J ts.length c2J)]))).cells0 hz56.out 0 _ rfl), (((F87.at 4 rfl : Sl jvEnc 2 yg3 (yg3 + 1) _ (.slice (some ⟨yg3, 0, none⟩) 3 3) ([((.slice aM0 m0.length cM0 : Value), (.slice aT0 t0.length cT0 : Value)), (.slice a1J ms.length c1J, .slice a2J ts.length c2J), (.slice a1J ms.length c1J, .slice a2J ts.length c2J)]))).cells0 hz56.out 1 _ rfl), (by have h_ := ((F87.at 3 rfl : Sl rowEnc 1 yg7 (yg7 + 1) _ (.slice (some ⟨yg7, 0, none⟩) 3 3) ([(.slice ad0 d0.length cd0 : Value), .slice aw_dl dl.length cw_dl, .slice ad0 d0.length cd0]))).cells0 hz57.out 0 _ rfl; simpa using h_), (by have h_ := ((F87.at 2 rfl : Sl intEnc 1 yg16 (yg16 + 1) _ (.slice (some ⟨yg16, 0, none⟩) 3 3) ([(task : Int), r39, task]))).cells0 hz58.out 0 _ rfl; simpa using h_)⟩) (fun hHeld => ?_)
     clear hK K
     (try simp only [Act.put, lpA, lpB, lpC])
     refine ru_p 13 ?_
     (try simp only [Act.put, lpA, lpB, lpC])
     refine ru_p 14 ?_
     refine ru_p 15 ?_
     (try simp only [Act.put, lpA, lpB, lpC])
     refine ru_p 16 ?_
     (try simp only [Act.put, lpA, lpB, lpC])
     refine ru_one 17 rfl (by kernel_rfl) (fun K hK => ?_)
     go_simp
     refine ru_back_late hK (by kernel_rfl) ?_
     clear hK K
     (try simp only [Act.put, lpA, lpB, lpC])
     refine ru_done (by kernel_rfl) ?_
     have Fn_ := F87
     (try dsimp only [List.eraseIdx_cons_succ, List.eraseIdx_cons_zero] at Fn_)
     obtain ⟨w88, hx89, F91, hxs90⟩ := Fn_.name
     (try simp at hxs90)
     rw [hx89]
     clear hx89 F87 Fn_
     go_wp2_with fail
     have F92 := F91.drew
     clear F91
     refine ru_begin (fun W => W.cell? ⟨yg3, k * 2, none⟩ = some zj.1 /\ W.cell? ⟨yg3, k * 2 + 1, none⟩ = some zj.2 /\ W.cell? ⟨yg7, k, none⟩ = some zd /\ W.cell? ⟨yg16, k, none⟩ = some (.int .i64 zt)) 17 (by kernel_rfl) ?_ ?_
     · exact ⟨(((F92.at 4 rfl : Sl jvEnc 2 yg3 (yg3 + 1) _ (.slice (some ⟨yg3, 0, none⟩) 3 3) ([((.slice aM0 m0.length cM0 : Value), (.slice aT0 t0.length cT0 : Value)), (.slice a1J ms.length c1J, .slice a2J ts.length c2J), (.slice a1J ms.length c1J, .slice a2J ts.length c2J)]))).cells0 hz56.out 0 _ rfl), (((F92.at 4 rfl : Sl jvEnc 2 yg3 (yg3 + 1) _ (.slice (some ⟨yg3, 0, none⟩) 3 3) ([((.slice aM0 m0.length cM0 : Value), (.slice aT0 t0.length cT0 : Value)), (.slice a1J ms.length c1J, .slice a2J ts.length c2J), (.slice a1J ms.length c1J, .slice a2J ts.length c2J)]))).cells0 hz56.out 1 _ rfl), (by have h_ := ((F92.at 3 rfl : Sl rowEnc 1 yg7 (yg7 + 1) _ (.slice (some ⟨yg7, 0, none⟩) 3 3) ([(.slice ad0 d0.length cd0 : Value), .slice aw_dl dl.length cw_dl, .slice ad0 d0.length cd0]))).cells0 hz57.out 0 _ rfl; simpa using h_), (by have h_ := ((F92.at 2 rfl : Sl intEnc 1 yg16 (yg16 + 1) _ (.slice (some ⟨yg16, 0, none⟩) 3 3) ([(task : Int), r39, task]))).cells0 hz58.out 0 _ rfl; simpa using h_)⟩
     obtain ⟨wd94, hwd_⟩ : ∃ x : World, w88.drew = x := ⟨_, rfl⟩
     rw [hwd_] at F92 ⊢
     have wd94s : w88.heap.size <= wd94.heap.size := by rw [← hwd_]; exact Nat.le_refl _
     clear hwd_
     have hS93 := (And.intro ((((F92.at 4 rfl : Sl jvEnc 2 yg3 (yg3 + 1) _ (.slice (some ⟨yg3, 0, none⟩) 3 3) ([((.slice aM0 m0.length cM0 : Value), (.slice aT0 t0.length cT0 : Value)), (.slice a1J ms.length c1J, .slice a2J ts.length c2J), (.slice a1J ms.length c1J, .slice a2J ts.length c2J)]))).cells0 hz56.out 0 _ rfl)) (And.intro ((((F92.at 4 rfl : Sl jvEnc 2 yg3 (yg3 + 1) _ (.slice (some ⟨yg3, 0, none⟩) 3 3) ([((.slice aM0 m0.length cM0 : Value), (.slice aT0 t0.length cT0 : Value)), (.slice a1J ms.length c1J, .slice a2J ts.length c2J), (.slice a1J ms.length c1J, .slice a2J ts.length c2J)]))).cells0 hz56.out 1 _ rfl)) (And.intro ((by have h_ := ((F92.at 3 rfl : Sl rowEnc 1 yg7 (yg7 + 1) _ (.slice (some ⟨yg7, 0, none⟩) 3 3) ([(.slice ad0 d0.length cd0 : Value), .slice aw_dl dl.length cw_dl, .slice ad0 d0.length cd0]))).cells0 hz57.out 0 _ rfl; simpa using h_)) ((by have h_ := ((F92.at 2 rfl : Sl intEnc 1 yg16 (yg16 + 1) _ (.slice (some ⟨yg16, 0, none⟩) 3 3) ([(task : Int), r39, task]))).cells0 hz58.out 0 _ rfl; simpa using h_)))))
     refine ru_t 0 [] ?_
     refine ru_t 1 [] ?_
     refine ru_t 2 [] ?_
     refine ru_t 3 [] ?_
     refine ru_t 4 [] ?_
     refine ru_t 5 [] ?_
     refine ru_t 6 [] ?_
     refine ru_t 7 [] ?_
     refine ru_t 8 [] ?_
     refine ru_t 9 [] ?_
     refine ru_t 10 [] ?_
     refine ru_t 11 [] ?_
     (try simp only [Act.put, lpA, lpB, lpC])
     clear hS93
     refine ru_one 12 rfl (by kernel_rfl) (fun K hK => ?_)
     go_simp
     refine (rslack_c 0 _ _ _ jm jt 0 _ _ jd zt _ (job_pick HPK.out.1 (JobAt.mk (F92.at 14 rfl : Sl mchEnc 3 0 w.heap.size _ (.slice aM0 m0.length cM0) m0) (F92.at 13 rfl : Sl tskEnc 8 0 w.heap.size _ (.slice aT0 t0.length cT0) t0) (F92.at 12 rfl : Afs 0 w.heap.size _ t0)) (JobAt.mk (F92.at 7 rfl : Sl mchEnc 3 loJ hiJ _ (.slice a1J ms.length c1J) ms) (F92.at 8 rfl : Sl tskEnc 8 loJ hiJ _ (.slice a2J ts.length c2J) ts) (F92.at 9 rfl : Afs loJ hiJ _ ts)) (by first | omega | (simp; done) | (simp; omega)) (by first | omega | (simp; done) | (simp; omega))) (Nat.le_refl _) (day_pick HPK.out.2 (F92.at 11 rfl : Sl weaEnc 6 0 w.heap.size _ (.slice ad0 d0.length cd0) d0) (F92.at 5 rfl : Sl weaEnc 6 lw_dl hw_dl _ (.slice aw_dl dl.length cw_dl) dl) (by first | omega | (simp; done) | (simp; omega)) (by first | omega | (simp; done) | (simp; omega))) (Nat.le_refl _)).mono ?_
     rintro e w97 ⟨rfl, hg95⟩
     have hg95s := hg95.size
     (try simp at hg95s)
     have F98 := F92.gn hg95
     clear F92
     refine ru_back hK (by exact ⟨(((F98.at 4 rfl : Sl jvEnc 2 yg3 (yg3 + 1) _ (.slice (some ⟨yg3, 0, none⟩) 3 3) ([((.slice aM0 m0.length cM0 : Value), (.slice aT0 t0.length cT0 : Value)), (.slice a1J ms.length c1J, .slice a2J ts.length c2J), (.slice a1J ms.length c1J, .slice a2J ts.length c2J)]))).cells0 hz56.out 0 _ rfl), (((F98.at 4 rfl : Sl jvEnc 2 yg3 (yg3 + 1) _ (.slice (some ⟨yg3, 0, none⟩) 3 3) ([((.slice aM0 m0.length cM0 : Value), (.slice aT0 t0.length cT0 : Value)), (.slice a1J ms.length c1J, .slice a2J ts.length c2J), (.slice a1J ms.length c1J, .slice a2J ts.length c2J)]))).cells0 hz56.out 1 _ rfl), (by have h_ := ((F98.at 3 rfl : Sl rowEnc 1 yg7 (yg7 + 1) _ (.slice (some ⟨yg7, 0, none⟩) 3 3) ([(.slice ad0 d0.length cd0 : Value), .slice aw_dl dl.length cw_dl, .slice ad0 d0.length cd0]))).cells0 hz57.out 0 _ rfl; simpa using h_), (by have h_ := ((F98.at 2 rfl : Sl intEnc 1 yg16 (yg16 + 1) _ (.slice (some ⟨yg16, 0, none⟩) 3 3) ([(task : Int), r39, task]))).cells0 hz58.out 0 _ rfl; simpa using h_)⟩) (fun hHeld => ?_)
     clear hK K
     (try simp only [Act.put, lpA, lpB, lpC])
     refine ru_p 13 ?_
     (try simp only [Act.put, lpA, lpB, lpC])
     refine ru_p 14 ?_
     refine ru_p 15 ?_
     (try simp only [Act.put, lpA, lpB, lpC])
     refine ru_p 16 ?_
     (try simp only [Act.put, lpA, lpB, lpC])
     refine ru_one 17 rfl (by kernel_rfl) (fun K hK => ?_)
     go_simp
     refine ru_back_late hK (by kernel_rfl) ?_
     clear hK K
     (try simp only [Act.put, lpA, lpB, lpC])
     refine ru_done (by kernel_rfl) ?_
     have Fn_ := F98
     (try dsimp only [List.eraseIdx_cons_succ, List.eraseIdx_cons_zero] at Fn_)
     obtain ⟨w99, hx100, F102, hxs101⟩ := Fn_.name
     (try simp at hxs101)
     rw [hx100]
     clear hx100 F98 Fn_
     go_wp2_with fail
     refine (same_s _ _ _ _ _ _ (ints (chnC jm jt jd)) _ (F102.slW 1 rfl) (Nat.le_refl _) (F102.slW 0 rfl) (Nat.le_refl _)).mono ?_
     rintro e w105 ⟨rfl, hg103⟩
     have hg103s := hg103.size
     (try simp at hg103s)
     have F106 := F102.gn hg103
     clear F102
     clear hg103
     go_wp2_with fail
     have F107 : Bun w [rsl intEnc 1 yg16 (yg16 + 1) (.slice (some ⟨yg16, 0, none⟩) 3 3) ([(task : Int), r39, task]), rsl rowEnc 1 yg7 (yg7 + 1) (.slice (some ⟨yg7, 0, none⟩) 3 3) ([(.slice ad0 d0.length cd0 : Value), .slice aw_dl dl.length cw_dl, .slice ad0 d0.length cd0]), rsl jvEnc 2 yg3 (yg3 + 1) (.slice (some ⟨yg3, 0, none⟩) 3 3) ([((.slice aM0 m0.length cM0 : Value), (.slice aT0 t0.length cT0 : Value)), (.slice a1J ms.length c1J, .slice a2J ts.length c2J), (.slice a1J ms.length c1J, .slice a2J ts.length c2J)]), rsl weaEnc 6 lw_dl hw_dl (.slice aw_dl dl.length cw_dl) dl, rseed sb, rsl mchEnc 3 loJ hiJ (.slice a1J ms.length c1J) ms, rsl tskEnc 8 loJ hiJ (.slice a2J ts.length c2J) ts, rafs loJ hiJ ts, rsl intEnc 1 0 w.heap.size (.slice na zs.length nc) zs, rsl weaEnc 6 0 w.heap.size (.slice ad0 d0.length cd0) d0, rafs 0 w.heap.size t0, rsl tskEnc 8 0 w.heap.size (.slice aT0 t0.length cT0) t0, rsl mchEnc 3 0 w.heap.size (.slice aM0 m0.length cM0) m0] _ := F106.pick [2, 3, 4, 5, 6, 7, 8, 9, 10, 11, 12, 13, 14] (by decide) rfl
     clear F106
     (first | refine ⟨by kernel_rfl, ?_, ?_⟩ | refine ⟨rfl, ?_, ?_⟩ | refine ⟨?_, ?_⟩)
     · rw [HI51.out]; exact ⟨k + 1, (by kernel_rfl), (by kernel_rfl), (by kernel_rfl), (by show Value.int .i64 ((k : Int) + 1) = _; simp), by omega, (by first | rfl | simp), (by first | omega | (simp; done) | (simp; omega)), F107⟩
     · simp [slot, intOf]; omega
    have c55H := lhd c55
    have c55a : decide ((k : Int) < 3) = false := dec_f c55
    go_wp2_with fail
    refine (awake_c _).mono ?_
    rintro e w110 ⟨rfl, hg108⟩
    have hg108s := hg108.size
    (try simp at hg108s)
    have F111 := hF52.gn hg108
    clear hF52
    clear hg108
    go_wp2_with fail
    go_ret
    exact ⟨rfl, F111.gb⟩
   case atStart16 =>
    rw [HI51.out]
    exact ⟨0, (by kernel_rfl), (by kernel_rfl), (by kernel_rfl), rfl, Nat.zero_le _, rfl, (by first | exact Nat.le_refl _ | omega | (simp; done) | (simp; omega)), F50⟩
  intro hZ41
  refine ru_state 133 (fun t w_ => ∃ (yg3 : Nat) (yg7 : Nat) (r39 : Int) (yg16 : Nat), (0 <= r39 /\ (r39 < ((ts.length : Int) + 1) ∨ r39 = 0)) /\ t 12 = .slice (some ⟨yg3, 0, none⟩) 3 3 /\ t 13 = .slice (some ⟨yg7, 0, none⟩) 3 3 /\ t 50 = .slice (some ⟨yg16, 0, none⟩) 3 3 /\ w32.heap.size <= w_.heap.size /\ Bun w [rbox yg16 3 #[.int .i64 task, .int .i64 r39, .int .i64 task], rbox yg7 26 #[.slice ad0 d0.length cd0, .slice aw_dl dl.length cw_dl, .slice ad0 d0.length cd0], rbox yg3 25 #[.slice aM0 m0.length cM0, .slice aT0 t0.length cT0, .slice a1J ms.length c1J, .slice a2J ts.length c2J, .slice a1J ms.length c1J, .slice a2J ts.length c2J], rbox w26.heap.size 25 #[.slice a1J ms.length c1J, .slice a2J ts.length c2J], rsl weaEnc 6 lw_dl hw_dl (.slice aw_dl dl.length cw_dl) dl, rseed sb, rsl mchEnc 3 loJ hiJ (.slice a1J ms.length c1J) ms, rsl tskEnc 8 loJ hiJ (.slice a2J ts.length c2J) ts, rafs loJ hiJ ts, rbox w.heap.size 25 #[.slice aM0 m0.length cM0, .slice aT0 t0.length cT0], rsl intEnc 1 0 w.heap.size (.slice na zs.length nc) zs, rsl weaEnc 6 0 w.heap.size (.slice ad0 d0.length cd0) d0, rafs 0 w.heap.size t0, rsl tskEnc 8 0 w.heap.size (.slice aT0 t0.length cT0) t0, rsl mchEnc 3 0 w.heap.size (.slice aM0 m0.length cM0) m0] w_) #[true, true, true, true, true, true, true, true, true, true, true, true, true, true, true, true, true, true, true, false] 1 ?st112 ?nx112
  case st112 =>
   rintro t w113 ⟨yg3, yg7, r39, yg16, hr40, e12, e13, e50, hsz112, F114⟩
   clear F36
   rw [rng_chains_walk t, e12, e13, e50]
   clear e12 e13 e50
   have hws112 := F114.gb.size
   have yg16l := F114.ltAt 0 rfl yg16 rfl
   have yg16b := yg16l.2 rfl
   have yg7l := F114.ltAt 1 rfl yg7 rfl
   have yg7b := yg7l.2 rfl
   have yg3l := F114.ltAt 2 rfl yg3 rfl
   have yg3b := yg3l.2 rfl
   refine ru_one 19 rfl (by kernel_rfl) (fun K hK => ?_)
   go_simp
   refine ru_back_late hK (by kernel_rfl) ?_
   exact hZ41.out _ _ _ (by kernel_rfl) (by kernel_rfl) rfl ⟨yg3, yg7, r39, yg16, (by first | assumption | omega), (by kernel_rfl), (by kernel_rfl), (by kernel_rfl), (by first | omega | (simp; done) | (simp; omega)), F114⟩
  intro hZ112
  refine ru_state 133 (fun t w_ => ∃ (yg3 : Nat) (yg7 : Nat) (r39 : Int), (0 <= r39 /\ (r39 < ((ts.length : Int) + 1) ∨ r39 = 0)) /\ t 12 = .slice (some ⟨yg3, 0, none⟩) 3 3 /\ t 13 = .slice (some ⟨yg7, 0, none⟩) 3 3 /\ t 42 = .int .i64 task /\ t 48 = .int .i64 r39 /\ t 49 = .int .i64 task /\ w32.heap.size <= w_.heap.size /\ Bun w [rbox yg7 26 #[.slice ad0 d0.length cd0, .slice aw_dl dl.length cw_dl, .slice ad0 d0.length cd0], rbox yg3 25 #[.slice aM0 m0.length cM0, .slice aT0 t0.length cT0, .slice a1J ms.length c1J, .slice a2J ts.length c2J, .slice a1J ms.length c1J, .slice a2J ts.length c2J], rbox w26.heap.size 25 #[.slice a1J ms.length c1J, .slice a2J ts.length c2J], rsl weaEnc 6 lw_dl hw_dl (.slice aw_dl dl.length cw_dl) dl, rseed sb, rsl mchEnc 3 loJ hiJ (.slice a1J ms.length c1J) ms, rsl tskEnc 8 loJ hiJ (.slice a2J ts.length c2J) ts, rafs loJ hiJ ts, rbox w.heap.size 25 #[.slice aM0 m0.length cM0, .slice aT0 t0.length cT0], rsl intEnc 1 0 w.heap.size (.slice na zs.length nc) zs, rsl weaEnc 6 0 w.heap.size (.slice ad0 d0.length cd0) d0, rafs 0 w.heap.size t0, rsl tskEnc 8 0 w.heap.size (.slice aT0 t0.length cT0) t0, rsl mchEnc 3 0 w.heap.size (.slice aM0 m0.length cM0) m0] w_) #[true, true, true, true, true, true, true, true, true, true, true, true, true, true, true, true, false, true, true, false] 2 ?st115 ?nx115
  case st115 =>
   rintro t w116 ⟨yg3, yg7, r39, hr40, e12, e13, e42, e48, e49, hsz115, F117⟩
   clear F36
   rw [rng_chains_walk t, e12, e13, e42, e48, e49]
   clear e12 e13 e42 e48 e49
   have hws115 := F117.gb.size
   have yg7l := F117.ltAt 0 rfl yg7 rfl
   have yg7b := yg7l.2 rfl
   have yg3l := F117.ltAt 1 rfl yg3 rfl
   have yg3b := yg3l.2 rfl
   refine ru_one 16 rfl (by kernel_rfl) (fun K hK => ?_)
   go_simp
   have F118 := F117.new 3 #[.int .i64 task, .int .i64 r39, .int .i64 task] (n := w116.heap.size) (by simp)
   clear F117
   refine ru_back hK (by exact ⟨F118.cl 9 0 rfl rfl, F118.cl 9 1 rfl rfl, F118.cl 3 0 rfl rfl, F118.cl 3 1 rfl rfl⟩) (fun _ => ?_)
   exact hZ112.out _ _ _ (by kernel_rfl) (by kernel_rfl) rfl ⟨yg3, yg7, r39, w116.heap.size, (by first | assumption | omega), (by kernel_rfl), (by kernel_rfl), (by kernel_rfl), (by first | omega | (simp; done) | (simp; omega)), F118⟩
  intro hZ115
  refine ru_state 133 (fun t w_ => ∃ (yg3 : Nat) (r39 : Int) (yg16 : Nat), (0 <= r39 /\ (r39 < ((ts.length : Int) + 1) ∨ r39 = 0)) /\ t 12 = .slice (some ⟨yg3, 0, none⟩) 3 3 /\ t 38 = .slice ad0 d0.length cd0 /\ t 39 = .slice aw_dl dl.length cw_dl /\ t 40 = .slice ad0 d0.length cd0 /\ t 50 = .slice (some ⟨yg16, 0, none⟩) 3 3 /\ w32.heap.size <= w_.heap.size /\ Bun w [rbox yg16 3 #[.int .i64 task, .int .i64 r39, .int .i64 task], rbox yg3 25 #[.slice aM0 m0.length cM0, .slice aT0 t0.length cT0, .slice a1J ms.length c1J, .slice a2J ts.length c2J, .slice a1J ms.length c1J, .slice a2J ts.length c2J], rbox w26.heap.size 25 #[.slice a1J ms.length c1J, .slice a2J ts.length c2J], rsl weaEnc 6 lw_dl hw_dl (.slice aw_dl dl.length cw_dl) dl, rseed sb, rsl mchEnc 3 loJ hiJ (.slice a1J ms.length c1J) ms, rsl tskEnc 8 loJ hiJ (.slice a2J ts.length c2J) ts, rafs loJ hiJ ts, rbox w.heap.size 25 #[.slice aM0 m0.length cM0, .slice aT0 t0.length cT0], rsl intEnc 1 0 w.heap.size (.slice na zs.length nc) zs, rsl weaEnc 6 0 w.heap.size (.slice ad0 d0.length cd0) d0, rafs 0 w.heap.size t0, rsl tskEnc 8 0 w.heap.size (.slice aT0 t0.length cT0) t0, rsl mchEnc 3 0 w.heap.size (.slice aM0 m0.length cM0) m0] w_) #[true, true, true, true, true, true, true, false, true, true, true, true, true, true, true, true, true, true, false, false] 3 ?st119 ?nx119
  case st119 =>
   rintro t w120 ⟨yg3, r39, yg16, hr40, e12, e38, e39, e40, e50, hsz119, F121⟩
   clear F36
   rw [rng_chains_walk t, e12, e38, e39, e40, e50]
   clear e12 e38 e39 e40 e50
   have hws119 := F121.gb.size
   have yg16l := F121.ltAt 0 rfl yg16 rfl
   have yg16b := yg16l.2 rfl
   have yg3l := F121.ltAt 1 rfl yg3 rfl
   have yg3b := yg3l.2 rfl
   refine ru_one 7 rfl (by kernel_rfl) (fun K hK => ?_)
   go_simp
   have F122 := F121.new 26 #[.slice ad0 d0.length cd0, .slice aw_dl dl.length cw_dl, .slice ad0 d0.length cd0] (n := w120.heap.size) (by simp)
   clear F121
   refine ru_back hK (by exact ⟨F122.cl 9 0 rfl rfl, F122.cl 9 1 rfl rfl, F122.cl 3 0 rfl rfl, F122.cl 3 1 rfl rfl⟩) (fun hHeld => ?_)
   clear hK K
   (try simp only [Act.put, lpA, lpB, lpC])
   refine ru_p 18 ?_
   (try simp only [Act.put, lpA, lpB, lpC])
   exact hZ112.out _ _ _ (by kernel_rfl) (by kernel_rfl) rfl ⟨yg3, w120.heap.size, r39, yg16, (by first | assumption | omega), (by kernel_rfl), (by kernel_rfl), (by kernel_rfl), (by first | omega | (simp; done) | (simp; omega)), (F122.pick [1, 0, 2, 3, 4, 5, 6, 7, 8, 9, 10, 11, 12, 13, 14] (by decide) rfl)⟩
  intro hZ119
  refine ru_state 133 (fun t w_ => ∃ (yg3 : Nat) (r39 : Int), (0 <= r39 /\ (r39 < ((ts.length : Int) + 1) ∨ r39 = 0)) /\ t 12 = .slice (some ⟨yg3, 0, none⟩) 3 3 /\ t 38 = .slice ad0 d0.length cd0 /\ t 39 = .slice aw_dl dl.length cw_dl /\ t 40 = .slice ad0 d0.length cd0 /\ t 42 = .int .i64 task /\ t 48 = .int .i64 r39 /\ t 49 = .int .i64 task /\ w32.heap.size <= w_.heap.size /\ Bun w [rbox yg3 25 #[.slice aM0 m0.length cM0, .slice aT0 t0.length cT0, .slice a1J ms.length c1J, .slice a2J ts.length c2J, .slice a1J ms.length c1J, .slice a2J ts.length c2J], rbox w26.heap.size 25 #[.slice a1J ms.length c1J, .slice a2J ts.length c2J], rsl weaEnc 6 lw_dl hw_dl (.slice aw_dl dl.length cw_dl) dl, rseed sb, rsl mchEnc 3 loJ hiJ (.slice a1J ms.length c1J) ms, rsl tskEnc 8 loJ hiJ (.slice a2J ts.length c2J) ts, rafs loJ hiJ ts, rbox w.heap.size 25 #[.slice aM0 m0.length cM0, .slice aT0 t0.length cT0], rsl intEnc 1 0 w.heap.size (.slice na zs.length nc) zs, rsl weaEnc 6 0 w.heap.size (.slice ad0 d0.length cd0) d0, rafs 0 w.heap.size t0, rsl tskEnc 8 0 w.heap.size (.slice aT0 t0.length cT0) t0, rsl mchEnc 3 0 w.heap.size (.slice aM0 m0.length cM0) m0] w_) #[true, true, true, true, true, true, true, false, true, true, true, true, true, true, true, true, false, true, false, false] 4 ?st123 ?nx123
  case st123 =>
   rintro t w124 ⟨yg3, r39, hr40, e12, e38, e39, e40, e42, e48, e49, hsz123, F125⟩
   clear F36
   rw [rng_chains_walk t, e12, e38, e39, e40, e42, e48, e49]
   clear e12 e38 e39 e40 e42 e48 e49
   have hws123 := F125.gb.size
   have yg3l := F125.ltAt 0 rfl yg3 rfl
   have yg3b := yg3l.2 rfl
   refine ru_two 7 16 rfl rfl (by kernel_rfl) ?_ ?_
   ·
    intro K hK
    go_simp
    have F126 := F125.new 26 #[.slice ad0 d0.length cd0, .slice aw_dl dl.length cw_dl, .slice ad0 d0.length cd0] (n := w124.heap.size) (by simp)
    clear F125
    refine ru_back hK (by exact ⟨F126.cl 8 0 rfl rfl, F126.cl 8 1 rfl rfl, F126.cl 2 0 rfl rfl, F126.cl 2 1 rfl rfl⟩) (fun hHeld => ?_)
    clear hK K
    (try simp only [Act.put, lpA, lpB, lpC])
    refine ru_p 18 ?_
    (try simp only [Act.put, lpA, lpB, lpC])
    exact hZ115.out _ _ _ (by kernel_rfl) (by kernel_rfl) rfl ⟨yg3, w124.heap.size, r39, (by first | assumption | omega), (by kernel_rfl), (by kernel_rfl), (by kernel_rfl), (by kernel_rfl), (by kernel_rfl), (by first | omega | (simp; done) | (simp; omega)), F126⟩
   intro K hK
   go_simp
   have F127 := F125.new 3 #[.int .i64 task, .int .i64 r39, .int .i64 task] (n := w124.heap.size) (by simp)
   clear F125
   refine ru_back hK (by exact ⟨F127.cl 8 0 rfl rfl, F127.cl 8 1 rfl rfl, F127.cl 2 0 rfl rfl, F127.cl 2 1 rfl rfl⟩) (fun _ => ?_)
   exact hZ119.out _ _ _ (by kernel_rfl) (by kernel_rfl) rfl ⟨yg3, r39, w124.heap.size, (by first | assumption | omega), (by kernel_rfl), (by kernel_rfl), (by kernel_rfl), (by kernel_rfl), (by kernel_rfl), (by first | omega | (simp; done) | (simp; omega)), F127⟩
  intro hZ123
  refine ru_state 133 (fun t w_ => ∃ (yg7 : Nat) (r39 : Int) (yg16 : Nat), (0 <= r39 /\ (r39 < ((ts.length : Int) + 1) ∨ r39 = 0)) /\ t 34 = .agg #[.slice aM0 m0.length cM0, .slice aT0 t0.length cT0] /\ t 35 = .agg #[.slice a1J ms.length c1J, .slice a2J ts.length c2J] /\ t 36 = .agg #[.slice a1J ms.length c1J, .slice a2J ts.length c2J] /\ t 41 = .slice (some ⟨yg7, 0, none⟩) 3 3 /\ t 50 = .slice (some ⟨yg16, 0, none⟩) 3 3 /\ w32.heap.size <= w_.heap.size /\ Bun w [rbox yg16 3 #[.int .i64 task, .int .i64 r39, .int .i64 task], rbox yg7 26 #[.slice ad0 d0.length cd0, .slice aw_dl dl.length cw_dl, .slice ad0 d0.length cd0], rbox w26.heap.size 25 #[.slice a1J ms.length c1J, .slice a2J ts.length c2J], rsl weaEnc 6 lw_dl hw_dl (.slice aw_dl dl.length cw_dl) dl, rseed sb, rsl mchEnc 3 loJ hiJ (.slice a1J ms.length c1J) ms, rsl tskEnc 8 loJ hiJ (.slice a2J ts.length c2J) ts, rafs loJ hiJ ts, rbox w.heap.size 25 #[.slice aM0 m0.length cM0, .slice aT0 t0.length cT0], rsl intEnc 1 0 w.heap.size (.slice na zs.length nc) zs, rsl weaEnc 6 0 w.heap.size (.slice ad0 d0.length cd0) d0, rafs 0 w.heap.size t0, rsl tskEnc 8 0 w.heap.size (.slice aT0 t0.length cT0) t0, rsl mchEnc 3 0 w.heap.size (.slice aM0 m0.length cM0) m0] w_) #[true, true, true, false, true, true, true, true, true, true, true, true, true, true, true, true, true, false, false, false] 4 ?st128 ?nx128
  case st128 =>
   rintro t w129 ⟨yg7, r39, yg16, hr40, e34, e35, e36, e41, e50, hsz128, F130⟩
   clear F36
   rw [rng_chains_walk t, e34, e35, e36, e41, e50]
   clear e34 e35 e36 e41 e50
   have hws128 := F130.gb.size
   have yg16l := F130.ltAt 0 rfl yg16 rfl
   have yg16b := yg16l.2 rfl
   have yg7l := F130.ltAt 1 rfl yg7 rfl
   have yg7b := yg7l.2 rfl
   refine ru_one 3 rfl (by kernel_rfl) (fun K hK => ?_)
   go_simp
   have F131 := F130.new 25 #[.slice aM0 m0.length cM0, .slice aT0 t0.length cT0, .slice a1J ms.length c1J, .slice a2J ts.length c2J, .slice a1J ms.length c1J, .slice a2J ts.length c2J] (n := w129.heap.size) (by simp)
   clear F130
   refine ru_back hK (by exact ⟨F131.cl 9 0 rfl rfl, F131.cl 9 1 rfl rfl, F131.cl 3 0 rfl rfl, F131.cl 3 1 rfl rfl⟩) (fun hHeld => ?_)
   clear hK K
   (try simp only [Act.put, lpA, lpB, lpC])
   refine ru_p 17 ?_
   (try simp only [Act.put, lpA, lpB, lpC])
   refine ru_p 18 ?_
   (try simp only [Act.put, lpA, lpB, lpC])
   exact hZ112.out _ _ _ (by kernel_rfl) (by kernel_rfl) rfl ⟨w129.heap.size, yg7, r39, yg16, (by first | assumption | omega), (by kernel_rfl), (by kernel_rfl), (by kernel_rfl), (by first | omega | (simp; done) | (simp; omega)), (F131.pick [1, 2, 0, 3, 4, 5, 6, 7, 8, 9, 10, 11, 12, 13, 14] (by decide) rfl)⟩
  intro hZ128
  refine ru_state 133 (fun t w_ => ∃ (yg3 : Nat) (yg7 : Nat), t 37 = .slice (some ⟨yg3, 0, none⟩) 3 3 /\ t 41 = .slice (some ⟨yg7, 0, none⟩) 3 3 /\ t 42 = .int .i64 task /\ t 43 = .pointer (some ⟨sb, 0, none⟩) /\ t 47 = .int .i64 ((ts.length : Int) + 1) /\ t 49 = .int .i64 task /\ w32.heap.size <= w_.heap.size /\ Bun w [rbox yg7 26 #[.slice ad0 d0.length cd0, .slice aw_dl dl.length cw_dl, .slice ad0 d0.length cd0], rbox yg3 25 #[.slice aM0 m0.length cM0, .slice aT0 t0.length cT0, .slice a1J ms.length c1J, .slice a2J ts.length c2J, .slice a1J ms.length c1J, .slice a2J ts.length c2J], rbox w26.heap.size 25 #[.slice a1J ms.length c1J, .slice a2J ts.length c2J], rsl weaEnc 6 lw_dl hw_dl (.slice aw_dl dl.length cw_dl) dl, rseed sb, rsl mchEnc 3 loJ hiJ (.slice a1J ms.length c1J) ms, rsl tskEnc 8 loJ hiJ (.slice a2J ts.length c2J) ts, rafs loJ hiJ ts, rbox w.heap.size 25 #[.slice aM0 m0.length cM0, .slice aT0 t0.length cT0], rsl intEnc 1 0 w.heap.size (.slice na zs.length nc) zs, rsl weaEnc 6 0 w.heap.size (.slice ad0 d0.length cd0) d0, rafs 0 w.heap.size t0, rsl tskEnc 8 0 w.heap.size (.slice aT0 t0.length cT0) t0, rsl mchEnc 3 0 w.heap.size (.slice aM0 m0.length cM0) m0] w_) #[true, true, true, true, true, true, true, true, true, true, true, true, true, true, false, true, false, false, false, false] 5 ?st132 ?nx132
  case st132 =>
   rintro t w133 ⟨yg3, yg7, e37, e41, e42, e43, e47, e49, hsz132, F134⟩
   clear F36
   rw [rng_chains_walk t, e37, e41, e42, e43, e47, e49]
   clear e37 e41 e42 e43 e47 e49
   have hws132 := F134.gb.size
   have yg7l := F134.ltAt 0 rfl yg7 rfl
   have yg7b := yg7l.2 rfl
   have yg3l := F134.ltAt 1 rfl yg3 rfl
   have yg3b := yg3l.2 rfl
   refine ru_one 14 rfl (by kernel_rfl) (fun K hK => ?_)
   go_simp
   refine (below_c sb ((ts.length : Int) + 1) _ (F134.at 4 rfl : SeedAt _ sb) (by omega) (by omega)).mono ?_
   rintro e w139 ⟨r135, rfl, hr136, hs138, hg137⟩
   unfold belowR at hr136
   have hg137s := hg137.size
   (try simp at hg137s)
   have F140 := F134.seedAt 4 rfl hg137 hs138
   clear F134
   refine ru_back hK (by exact ⟨F140.cl 8 0 rfl rfl, F140.cl 8 1 rfl rfl, F140.cl 2 0 rfl rfl, F140.cl 2 1 rfl rfl⟩) (fun hHeld => ?_)
   clear hK K
   (try simp only [Act.put, lpA, lpB, lpC])
   refine ru_p 17 ?_
   (try simp only [Act.put, lpA, lpB, lpC])
   refine ru_p 18 ?_
   (try simp only [Act.put, lpA, lpB, lpC])
   exact hZ115.out _ _ _ (by kernel_rfl) (by kernel_rfl) rfl ⟨yg3, yg7, r135, (by first | assumption | omega), (by kernel_rfl), (by kernel_rfl), (by kernel_rfl), (by kernel_rfl), (by kernel_rfl), (by first | omega | (simp; done) | (simp; omega)), F140⟩
  intro hZ132
  refine ru_state 133 (fun t w_ => ∃ (yg7 : Nat) (r39 : Int), (0 <= r39 /\ (r39 < ((ts.length : Int) + 1) ∨ r39 = 0)) /\ t 34 = .agg #[.slice aM0 m0.length cM0, .slice aT0 t0.length cT0] /\ t 35 = .agg #[.slice a1J ms.length c1J, .slice a2J ts.length c2J] /\ t 36 = .agg #[.slice a1J ms.length c1J, .slice a2J ts.length c2J] /\ t 41 = .slice (some ⟨yg7, 0, none⟩) 3 3 /\ t 42 = .int .i64 task /\ t 48 = .int .i64 r39 /\ t 49 = .int .i64 task /\ w32.heap.size <= w_.heap.size /\ Bun w [rbox yg7 26 #[.slice ad0 d0.length cd0, .slice aw_dl dl.length cw_dl, .slice ad0 d0.length cd0], rbox w26.heap.size 25 #[.slice a1J ms.length c1J, .slice a2J ts.length c2J], rsl weaEnc 6 lw_dl hw_dl (.slice aw_dl dl.length cw_dl) dl, rseed sb, rsl mchEnc 3 loJ hiJ (.slice a1J ms.length c1J) ms, rsl tskEnc 8 loJ hiJ (.slice a2J ts.length c2J) ts, rafs loJ hiJ ts, rbox w.heap.size 25 #[.slice aM0 m0.length cM0, .slice aT0 t0.length cT0], rsl intEnc 1 0 w.heap.size (.slice na zs.length nc) zs, rsl weaEnc 6 0 w.heap.size (.slice ad0 d0.length cd0) d0, rafs 0 w.heap.size t0, rsl tskEnc 8 0 w.heap.size (.slice aT0 t0.length cT0) t0, rsl mchEnc 3 0 w.heap.size (.slice aM0 m0.length cM0) m0] w_) #[true, true, true, false, true, true, true, true, true, true, true, true, true, true, true, true, false, false, false, false] 5 ?st141 ?nx141
  case st141 =>
   rintro t w142 ⟨yg7, r39, hr40, e34, e35, e36, e41, e42, e48, e49, hsz141, F143⟩
   clear F36
   rw [rng_chains_walk t, e34, e35, e36, e41, e42, e48, e49]
   clear e34 e35 e36 e41 e42 e48 e49
   have hws141 := F143.gb.size
   have yg7l := F143.ltAt 0 rfl yg7 rfl
   have yg7b := yg7l.2 rfl
   refine ru_two 3 16 rfl rfl (by kernel_rfl) ?_ ?_
   ·
    intro K hK
    go_simp
    have F144 := F143.new 25 #[.slice aM0 m0.length cM0, .slice aT0 t0.length cT0, .slice a1J ms.length c1J, .slice a2J ts.length c2J, .slice a1J ms.length c1J, .slice a2J ts.length c2J] (n := w142.heap.size) (by simp)
    clear F143
    refine ru_back hK (by exact ⟨F144.cl 8 0 rfl rfl, F144.cl 8 1 rfl rfl, F144.cl 2 0 rfl rfl, F144.cl 2 1 rfl rfl⟩) (fun hHeld => ?_)
    clear hK K
    (try simp only [Act.put, lpA, lpB, lpC])
    refine ru_p 17 ?_
    (try simp only [Act.put, lpA, lpB, lpC])
    refine ru_p 18 ?_
    (try simp only [Act.put, lpA, lpB, lpC])
    exact hZ115.out _ _ _ (by kernel_rfl) (by kernel_rfl) rfl ⟨w142.heap.size, yg7, r39, (by first | assumption | omega), (by kernel_rfl), (by kernel_rfl), (by kernel_rfl), (by kernel_rfl), (by kernel_rfl), (by first | omega | (simp; done) | (simp; omega)), (F144.pick [1, 0, 2, 3, 4, 5, 6, 7, 8, 9, 10, 11, 12, 13] (by decide) rfl)⟩
   intro K hK
   go_simp
   have F145 := F143.new 3 #[.int .i64 task, .int .i64 r39, .int .i64 task] (n := w142.heap.size) (by simp)
   clear F143
   refine ru_back hK (by exact ⟨F145.cl 8 0 rfl rfl, F145.cl 8 1 rfl rfl, F145.cl 2 0 rfl rfl, F145.cl 2 1 rfl rfl⟩) (fun _ => ?_)
   exact hZ128.out _ _ _ (by kernel_rfl) (by kernel_rfl) rfl ⟨yg7, r39, w142.heap.size, (by first | assumption | omega), (by kernel_rfl), (by kernel_rfl), (by kernel_rfl), (by kernel_rfl), (by kernel_rfl), (by first | omega | (simp; done) | (simp; omega)), F145⟩
  intro hZ141
  refine ru_state 133 (fun t w_ => ∃ (r39 : Int) (yg16 : Nat), (0 <= r39 /\ (r39 < ((ts.length : Int) + 1) ∨ r39 = 0)) /\ t 34 = .agg #[.slice aM0 m0.length cM0, .slice aT0 t0.length cT0] /\ t 35 = .agg #[.slice a1J ms.length c1J, .slice a2J ts.length c2J] /\ t 36 = .agg #[.slice a1J ms.length c1J, .slice a2J ts.length c2J] /\ t 38 = .slice ad0 d0.length cd0 /\ t 39 = .slice aw_dl dl.length cw_dl /\ t 40 = .slice ad0 d0.length cd0 /\ t 50 = .slice (some ⟨yg16, 0, none⟩) 3 3 /\ w32.heap.size <= w_.heap.size /\ Bun w [rbox yg16 3 #[.int .i64 task, .int .i64 r39, .int .i64 task], rbox w26.heap.size 25 #[.slice a1J ms.length c1J, .slice a2J ts.length c2J], rsl weaEnc 6 lw_dl hw_dl (.slice aw_dl dl.length cw_dl) dl, rseed sb, rsl mchEnc 3 loJ hiJ (.slice a1J ms.length c1J) ms, rsl tskEnc 8 loJ hiJ (.slice a2J ts.length c2J) ts, rafs loJ hiJ ts, rbox w.heap.size 25 #[.slice aM0 m0.length cM0, .slice aT0 t0.length cT0], rsl intEnc 1 0 w.heap.size (.slice na zs.length nc) zs, rsl weaEnc 6 0 w.heap.size (.slice ad0 d0.length cd0) d0, rafs 0 w.heap.size t0, rsl tskEnc 8 0 w.heap.size (.slice aT0 t0.length cT0) t0, rsl mchEnc 3 0 w.heap.size (.slice aM0 m0.length cM0) m0] w_) #[true, true, true, false, true, true, true, false, true, true, true, true, true, true, true, true, true, false, false, false] 5 ?st146 ?nx146
  case st146 =>
   rintro t w147 ⟨r39, yg16, hr40, e34, e35, e36, e38, e39, e40, e50, hsz146, F148⟩
   clear F36
   rw [rng_chains_walk t, e34, e35, e36, e38, e39, e40, e50]
   clear e34 e35 e36 e38 e39 e40 e50
   have hws146 := F148.gb.size
   have yg16l := F148.ltAt 0 rfl yg16 rfl
   have yg16b := yg16l.2 rfl
   refine ru_two 3 7 rfl rfl (by kernel_rfl) ?_ ?_
   ·
    intro K hK
    go_simp
    have F149 := F148.new 25 #[.slice aM0 m0.length cM0, .slice aT0 t0.length cT0, .slice a1J ms.length c1J, .slice a2J ts.length c2J, .slice a1J ms.length c1J, .slice a2J ts.length c2J] (n := w147.heap.size) (by simp)
    clear F148
    refine ru_back hK (by exact ⟨F149.cl 8 0 rfl rfl, F149.cl 8 1 rfl rfl, F149.cl 2 0 rfl rfl, F149.cl 2 1 rfl rfl⟩) (fun hHeld => ?_)
    clear hK K
    (try simp only [Act.put, lpA, lpB, lpC])
    refine ru_p 17 ?_
    (try simp only [Act.put, lpA, lpB, lpC])
    exact hZ119.out _ _ _ (by kernel_rfl) (by kernel_rfl) rfl ⟨w147.heap.size, r39, yg16, (by first | assumption | omega), (by kernel_rfl), (by kernel_rfl), (by kernel_rfl), (by kernel_rfl), (by kernel_rfl), (by first | omega | (simp; done) | (simp; omega)), (F149.pick [1, 0, 2, 3, 4, 5, 6, 7, 8, 9, 10, 11, 12, 13] (by decide) rfl)⟩
   intro K hK
   go_simp
   have F150 := F148.new 26 #[.slice ad0 d0.length cd0, .slice aw_dl dl.length cw_dl, .slice ad0 d0.length cd0] (n := w147.heap.size) (by simp)
   clear F148
   refine ru_back hK (by exact ⟨F150.cl 8 0 rfl rfl, F150.cl 8 1 rfl rfl, F150.cl 2 0 rfl rfl, F150.cl 2 1 rfl rfl⟩) (fun _ => ?_)
   exact hZ128.out _ _ _ (by kernel_rfl) (by kernel_rfl) rfl ⟨w147.heap.size, r39, yg16, (by first | assumption | omega), (by kernel_rfl), (by kernel_rfl), (by kernel_rfl), (by kernel_rfl), (by kernel_rfl), (by first | omega | (simp; done) | (simp; omega)), (F150.pick [1, 0, 2, 3, 4, 5, 6, 7, 8, 9, 10, 11, 12, 13] (by decide) rfl)⟩
  intro hZ146
  refine ru_state 133 (fun t w_ => ∃ (yg3 : Nat), t 37 = .slice (some ⟨yg3, 0, none⟩) 3 3 /\ t 38 = .slice ad0 d0.length cd0 /\ t 39 = .slice aw_dl dl.length cw_dl /\ t 40 = .slice ad0 d0.length cd0 /\ t 42 = .int .i64 task /\ t 43 = .pointer (some ⟨sb, 0, none⟩) /\ t 47 = .int .i64 ((ts.length : Int) + 1) /\ t 49 = .int .i64 task /\ w32.heap.size <= w_.heap.size /\ Bun w [rbox yg3 25 #[.slice aM0 m0.length cM0, .slice aT0 t0.length cT0, .slice a1J ms.length c1J, .slice a2J ts.length c2J, .slice a1J ms.length c1J, .slice a2J ts.length c2J], rbox w26.heap.size 25 #[.slice a1J ms.length c1J, .slice a2J ts.length c2J], rsl weaEnc 6 lw_dl hw_dl (.slice aw_dl dl.length cw_dl) dl, rseed sb, rsl mchEnc 3 loJ hiJ (.slice a1J ms.length c1J) ms, rsl tskEnc 8 loJ hiJ (.slice a2J ts.length c2J) ts, rafs loJ hiJ ts, rbox w.heap.size 25 #[.slice aM0 m0.length cM0, .slice aT0 t0.length cT0], rsl intEnc 1 0 w.heap.size (.slice na zs.length nc) zs, rsl weaEnc 6 0 w.heap.size (.slice ad0 d0.length cd0) d0, rafs 0 w.heap.size t0, rsl tskEnc 8 0 w.heap.size (.slice aT0 t0.length cT0) t0, rsl mchEnc 3 0 w.heap.size (.slice aM0 m0.length cM0) m0] w_) #[true, true, true, true, true, true, true, false, true, true, true, true, true, true, false, true, false, false, false, false] 6 ?st151 ?nx151
  case st151 =>
   rintro t w152 ⟨yg3, e37, e38, e39, e40, e42, e43, e47, e49, hsz151, F153⟩
   clear F36
   rw [rng_chains_walk t, e37, e38, e39, e40, e42, e43, e47, e49]
   clear e37 e38 e39 e40 e42 e43 e47 e49
   have hws151 := F153.gb.size
   have yg3l := F153.ltAt 0 rfl yg3 rfl
   have yg3b := yg3l.2 rfl
   refine ru_two 7 14 rfl rfl (by kernel_rfl) ?_ ?_
   ·
    intro K hK
    go_simp
    have F154 := F153.new 26 #[.slice ad0 d0.length cd0, .slice aw_dl dl.length cw_dl, .slice ad0 d0.length cd0] (n := w152.heap.size) (by simp)
    clear F153
    refine ru_back hK (by exact ⟨F154.cl 8 0 rfl rfl, F154.cl 8 1 rfl rfl, F154.cl 2 0 rfl rfl, F154.cl 2 1 rfl rfl⟩) (fun _ => ?_)
    exact hZ132.out _ _ _ (by kernel_rfl) (by kernel_rfl) rfl ⟨yg3, w152.heap.size, (by kernel_rfl), (by kernel_rfl), (by kernel_rfl), (by kernel_rfl), (by kernel_rfl), (by kernel_rfl), (by first | omega | (simp; done) | (simp; omega)), F154⟩
   intro K hK
   go_simp
   refine (below_c sb ((ts.length : Int) + 1) _ (F153.at 3 rfl : SeedAt _ sb) (by omega) (by omega)).mono ?_
   rintro e w159 ⟨r155, rfl, hr156, hs158, hg157⟩
   unfold belowR at hr156
   have hg157s := hg157.size
   (try simp at hg157s)
   have F160 := F153.seedAt 3 rfl hg157 hs158
   clear F153
   refine ru_back hK (by exact ⟨F160.cl 7 0 rfl rfl, F160.cl 7 1 rfl rfl, F160.cl 1 0 rfl rfl, F160.cl 1 1 rfl rfl⟩) (fun hHeld => ?_)
   clear hK K
   (try simp only [Act.put, lpA, lpB, lpC])
   refine ru_p 17 ?_
   (try simp only [Act.put, lpA, lpB, lpC])
   exact hZ123.out _ _ _ (by kernel_rfl) (by kernel_rfl) rfl ⟨yg3, r155, (by first | assumption | omega), (by kernel_rfl), (by kernel_rfl), (by kernel_rfl), (by kernel_rfl), (by kernel_rfl), (by kernel_rfl), (by kernel_rfl), (by first | omega | (simp; done) | (simp; omega)), F160⟩
  intro hZ151
  refine ru_state 133 (fun t w_ => ∃ (yg7 : Nat), t 34 = .agg #[.slice aM0 m0.length cM0, .slice aT0 t0.length cT0] /\ t 35 = .agg #[.slice a1J ms.length c1J, .slice a2J ts.length c2J] /\ t 36 = .agg #[.slice a1J ms.length c1J, .slice a2J ts.length c2J] /\ t 41 = .slice (some ⟨yg7, 0, none⟩) 3 3 /\ t 42 = .int .i64 task /\ t 43 = .pointer (some ⟨sb, 0, none⟩) /\ t 47 = .int .i64 ((ts.length : Int) + 1) /\ t 49 = .int .i64 task /\ w32.heap.size <= w_.heap.size /\ Bun w [rbox yg7 26 #[.slice ad0 d0.length cd0, .slice aw_dl dl.length cw_dl, .slice ad0 d0.length cd0], rbox w26.heap.size 25 #[.slice a1J ms.length c1J, .slice a2J ts.length c2J], rsl weaEnc 6 lw_dl hw_dl (.slice aw_dl dl.length cw_dl) dl, rseed sb, rsl mchEnc 3 loJ hiJ (.slice a1J ms.length c1J) ms, rsl tskEnc 8 loJ hiJ (.slice a2J ts.length c2J) ts, rafs loJ hiJ ts, rbox w.heap.size 25 #[.slice aM0 m0.length cM0, .slice aT0 t0.length cT0], rsl intEnc 1 0 w.heap.size (.slice na zs.length nc) zs, rsl weaEnc 6 0 w.heap.size (.slice ad0 d0.length cd0) d0, rafs 0 w.heap.size t0, rsl tskEnc 8 0 w.heap.size (.slice aT0 t0.length cT0) t0, rsl mchEnc 3 0 w.heap.size (.slice aM0 m0.length cM0) m0] w_) #[true, true, true, false, true, true, true, true, true, true, true, true, true, true, false, true, false, false, false, false] 6 ?st161 ?nx161
  case st161 =>
   rintro t w162 ⟨yg7, e34, e35, e36, e41, e42, e43, e47, e49, hsz161, F163⟩
   clear F36
   rw [rng_chains_walk t, e34, e35, e36, e41, e42, e43, e47, e49]
   clear e34 e35 e36 e41 e42 e43 e47 e49
   have hws161 := F163.gb.size
   have yg7l := F163.ltAt 0 rfl yg7 rfl
   have yg7b := yg7l.2 rfl
   refine ru_two 3 14 rfl rfl (by kernel_rfl) ?_ ?_
   ·
    intro K hK
    go_simp
    have F164 := F163.new 25 #[.slice aM0 m0.length cM0, .slice aT0 t0.length cT0, .slice a1J ms.length c1J, .slice a2J ts.length c2J, .slice a1J ms.length c1J, .slice a2J ts.length c2J] (n := w162.heap.size) (by simp)
    clear F163
    refine ru_back hK (by exact ⟨F164.cl 8 0 rfl rfl, F164.cl 8 1 rfl rfl, F164.cl 2 0 rfl rfl, F164.cl 2 1 rfl rfl⟩) (fun _ => ?_)
    exact hZ132.out _ _ _ (by kernel_rfl) (by kernel_rfl) rfl ⟨w162.heap.size, yg7, (by kernel_rfl), (by kernel_rfl), (by kernel_rfl), (by kernel_rfl), (by kernel_rfl), (by kernel_rfl), (by first | omega | (simp; done) | (simp; omega)), (F164.pick [1, 0, 2, 3, 4, 5, 6, 7, 8, 9, 10, 11, 12, 13] (by decide) rfl)⟩
   intro K hK
   go_simp
   refine (below_c sb ((ts.length : Int) + 1) _ (F163.at 3 rfl : SeedAt _ sb) (by omega) (by omega)).mono ?_
   rintro e w169 ⟨r165, rfl, hr166, hs168, hg167⟩
   unfold belowR at hr166
   have hg167s := hg167.size
   (try simp at hg167s)
   have F170 := F163.seedAt 3 rfl hg167 hs168
   clear F163
   refine ru_back hK (by exact ⟨F170.cl 7 0 rfl rfl, F170.cl 7 1 rfl rfl, F170.cl 1 0 rfl rfl, F170.cl 1 1 rfl rfl⟩) (fun _ => ?_)
   exact hZ141.out _ _ _ (by kernel_rfl) (by kernel_rfl) rfl ⟨yg7, r165, (by first | assumption | omega), (by kernel_rfl), (by kernel_rfl), (by kernel_rfl), (by kernel_rfl), (by kernel_rfl), (by kernel_rfl), (by kernel_rfl), (by first | omega | (simp; done) | (simp; omega)), F170⟩
  intro hZ161
  refine ru_state 133 (fun t w_ => ∃ (r39 : Int), (0 <= r39 /\ (r39 < ((ts.length : Int) + 1) ∨ r39 = 0)) /\ t 34 = .agg #[.slice aM0 m0.length cM0, .slice aT0 t0.length cT0] /\ t 35 = .agg #[.slice a1J ms.length c1J, .slice a2J ts.length c2J] /\ t 36 = .agg #[.slice a1J ms.length c1J, .slice a2J ts.length c2J] /\ t 38 = .slice ad0 d0.length cd0 /\ t 39 = .slice aw_dl dl.length cw_dl /\ t 40 = .slice ad0 d0.length cd0 /\ t 42 = .int .i64 task /\ t 48 = .int .i64 r39 /\ t 49 = .int .i64 task /\ w32.heap.size <= w_.heap.size /\ Bun w [rbox w26.heap.size 25 #[.slice a1J ms.length c1J, .slice a2J ts.length c2J], rsl weaEnc 6 lw_dl hw_dl (.slice aw_dl dl.length cw_dl) dl, rseed sb, rsl mchEnc 3 loJ hiJ (.slice a1J ms.length c1J) ms, rsl tskEnc 8 loJ hiJ (.slice a2J ts.length c2J) ts, rafs loJ hiJ ts, rbox w.heap.size 25 #[.slice aM0 m0.length cM0, .slice aT0 t0.length cT0], rsl intEnc 1 0 w.heap.size (.slice na zs.length nc) zs, rsl weaEnc 6 0 w.heap.size (.slice ad0 d0.length cd0) d0, rafs 0 w.heap.size t0, rsl tskEnc 8 0 w.heap.size (.slice aT0 t0.length cT0) t0, rsl mchEnc 3 0 w.heap.size (.slice aM0 m0.length cM0) m0] w_) #[true, true, true, false, true, true, true, false, true, true, true, true, true, true, true, true, false, false, false, false] 6 ?st171 ?nx171
  case st171 =>
   rintro t w172 ⟨r39, hr40, e34, e35, e36, e38, e39, e40, e42, e48, e49, hsz171, F173⟩
   clear F36
   rw [rng_chains_walk t, e34, e35, e36, e38, e39, e40, e42, e48, e49]
   clear e34 e35 e36 e38 e39 e40 e42 e48 e49
   have hws171 := F173.gb.size
   refine ru_three 3 7 16 rfl rfl rfl (by kernel_rfl) ?_ ?_ ?_
   ·
    intro K hK
    go_simp
    have F174 := F173.new 25 #[.slice aM0 m0.length cM0, .slice aT0 t0.length cT0, .slice a1J ms.length c1J, .slice a2J ts.length c2J, .slice a1J ms.length c1J, .slice a2J ts.length c2J] (n := w172.heap.size) (by simp)
    clear F173
    refine ru_back hK (by exact ⟨F174.cl 7 0 rfl rfl, F174.cl 7 1 rfl rfl, F174.cl 1 0 rfl rfl, F174.cl 1 1 rfl rfl⟩) (fun hHeld => ?_)
    clear hK K
    (try simp only [Act.put, lpA, lpB, lpC])
    refine ru_p 17 ?_
    (try simp only [Act.put, lpA, lpB, lpC])
    exact hZ123.out _ _ _ (by kernel_rfl) (by kernel_rfl) rfl ⟨w172.heap.size, r39, (by first | assumption | omega), (by kernel_rfl), (by kernel_rfl), (by kernel_rfl), (by kernel_rfl), (by kernel_rfl), (by kernel_rfl), (by kernel_rfl), (by first | omega | (simp; done) | (simp; omega)), F174⟩
   ·
    intro K hK
    go_simp
    have F175 := F173.new 26 #[.slice ad0 d0.length cd0, .slice aw_dl dl.length cw_dl, .slice ad0 d0.length cd0] (n := w172.heap.size) (by simp)
    clear F173
    refine ru_back hK (by exact ⟨F175.cl 7 0 rfl rfl, F175.cl 7 1 rfl rfl, F175.cl 1 0 rfl rfl, F175.cl 1 1 rfl rfl⟩) (fun _ => ?_)
    exact hZ141.out _ _ _ (by kernel_rfl) (by kernel_rfl) rfl ⟨w172.heap.size, r39, (by first | assumption | omega), (by kernel_rfl), (by kernel_rfl), (by kernel_rfl), (by kernel_rfl), (by kernel_rfl), (by kernel_rfl), (by kernel_rfl), (by first | omega | (simp; done) | (simp; omega)), F175⟩
   intro K hK
   go_simp
   have F176 := F173.new 3 #[.int .i64 task, .int .i64 r39, .int .i64 task] (n := w172.heap.size) (by simp)
   clear F173
   refine ru_back hK (by exact ⟨F176.cl 7 0 rfl rfl, F176.cl 7 1 rfl rfl, F176.cl 1 0 rfl rfl, F176.cl 1 1 rfl rfl⟩) (fun _ => ?_)
   exact hZ146.out _ _ _ (by kernel_rfl) (by kernel_rfl) rfl ⟨r39, w172.heap.size, (by first | assumption | omega), (by kernel_rfl), (by kernel_rfl), (by kernel_rfl), (by kernel_rfl), (by kernel_rfl), (by kernel_rfl), (by kernel_rfl), (by first | omega | (simp; done) | (simp; omega)), F176⟩
  intro hZ171
  refine ru_three 3 7 14 rfl rfl rfl (by kernel_rfl) ?_ ?_ ?_
  ·
   intro K hK
   go_simp
   have F177 := F36.new 25 #[.slice aM0 m0.length cM0, .slice aT0 t0.length cT0, .slice a1J ms.length c1J, .slice a2J ts.length c2J, .slice a1J ms.length c1J, .slice a2J ts.length c2J] (n := wd38.heap.size) (by simp)
   clear F36
   refine ru_back hK (by exact ⟨F177.cl 7 0 rfl rfl, F177.cl 7 1 rfl rfl, F177.cl 1 0 rfl rfl, F177.cl 1 1 rfl rfl⟩) (fun _ => ?_)
   exact hZ151.out _ _ _ (by kernel_rfl) (by kernel_rfl) rfl ⟨wd38.heap.size, (by kernel_rfl), (by kernel_rfl), (by kernel_rfl), (by kernel_rfl), (by kernel_rfl), (by kernel_rfl), (by kernel_rfl), (by kernel_rfl), (by first | omega | (simp; done) | (simp; omega)), F177⟩
  ·
   intro K hK
   go_simp
   have F178 := F36.new 26 #[.slice ad0 d0.length cd0, .slice aw_dl dl.length cw_dl, .slice ad0 d0.length cd0] (n := wd38.heap.size) (by simp)
   clear F36
   refine ru_back hK (by exact ⟨F178.cl 7 0 rfl rfl, F178.cl 7 1 rfl rfl, F178.cl 1 0 rfl rfl, F178.cl 1 1 rfl rfl⟩) (fun _ => ?_)
   exact hZ161.out _ _ _ (by kernel_rfl) (by kernel_rfl) rfl ⟨wd38.heap.size, (by kernel_rfl), (by kernel_rfl), (by kernel_rfl), (by kernel_rfl), (by kernel_rfl), (by kernel_rfl), (by kernel_rfl), (by kernel_rfl), (by first | omega | (simp; done) | (simp; omega)), F178⟩
  intro K hK
  go_simp
  refine (below_c sb ((ts.length : Int) + 1) _ (F36.at 2 rfl : SeedAt _ sb) (by omega) (by omega)).mono ?_
  rintro e w183 ⟨r179, rfl, hr180, hs182, hg181⟩
  unfold belowR at hr180
  have hg181s := hg181.size
  (try simp at hg181s)
  have F184 := F36.seedAt 2 rfl hg181 hs182
  clear F36
  refine ru_back hK (by exact ⟨F184.cl 6 0 rfl rfl, F184.cl 6 1 rfl rfl, F184.cl 0 0 rfl rfl, F184.cl 0 1 rfl rfl⟩) (fun _ => ?_)
  exact hZ171.out _ _ _ (by kernel_rfl) (by kernel_rfl) rfl ⟨r179, (by first | assumption | omega), (by kernel_rfl), (by kernel_rfl), (by kernel_rfl), (by kernel_rfl), (by kernel_rfl), (by kernel_rfl), (by kernel_rfl), (by kernel_rfl), (by kernel_rfl), (by first | omega | (simp; done) | (simp; omega)), F184⟩
 have c13H := lhd c13
 go_wp2_with fail
 refine (awake_c _).mono ?_
 rintro e w187 ⟨rfl, hg185⟩
 have hg185s := hg185.size
 (try simp at hg185s)
 have F188 := F12.gn hg185
 clear F12
 clear hg185
 go_wp2_with fail
 go_ret
 exact ⟨rfl, F188.gb⟩
end Go.Proofs.Ytokelpmngahnoaa
