/- the reference of frost: a day of true ice. -/
import Derived.Test.YthblaiefalbomaaF9
set_option linter.unusedVariables false
set_option linter.unusedSimpArgs false
set_option linter.unnecessarySimpa false
namespace Go.Proofs.Ythblaiefalbomaa
open Go.RowKit
set_option maxRecDepth 100000

/-- True ice. -/
structure Tr where
  bl : Int
  wh : Int
  we : Int
  sn : Int
/-- Cleared, snowed on, flooded. -/
def opn (l : Fro) (t : Tr) (d : Wea) (f : Int) : Tr :=
  if 0 < d.water then ⟨t.bl, t.wh, t.we + d.water + dn ((if d.clear = true then 0 else t.sn) + f) l.soak, 0⟩ else ⟨t.bl, t.wh, t.we, (if d.clear = true then 0 else t.sn) + f⟩
/-- Between which numbers the cold lies that gets through snow. -/
def thC (l : Fro) (s c : Int) : Sp := ⟨dn c (thr l.cov s).lo, upp c (thr l.cov s).hi⟩
def sqT (l : Fro) (t : Tr) (c z : Int) : Int := (t.bl + (t.wh + z)) * (t.bl + (t.wh + z)) + l.gr * (c - z * l.la)
noncomputable def frZ (l : Fro) (t : Tr) (c : Int) (up : Bool) (z : Int) : Tr :=
  if 0 < t.we - z then ⟨t.bl, t.wh + z, t.we - z, t.sn⟩ else ⟨(if up = true then roof (sqT l t c z) else root (sqT l t c z)) - (t.wh + z), t.wh + z, t.we - z, t.sn⟩
/-- Frozen, with some cold that gets through. -/
noncomputable def frT (l : Fro) (t : Tr) (c : Int) (up : Bool) : Tr := frZ l t c up (min t.we (c / l.la))
def thW (l : Fro) (w : Int) : Sp := ⟨dn w l.melt.lo, upp w l.melt.hi⟩
def mlT (t : Tr) (n : Int) : Tr := ⟨t.bl - min t.bl (n - min t.sn n - min t.wh (n - min t.sn n)), t.wh - min t.wh (n - min t.sn n), t.we, t.sn - min t.sn n⟩
/-- What bounds true ice. -/
structure TrK (t : Tr) (k m : Int) : Prop where
  bl : 0 ≤ t.bl ∧ t.bl ≤ 5000 + 4000 * k
  wh : 0 ≤ t.wh ∧ t.wh ≤ 5000 + 500000 * k
  we : 0 ≤ t.we
  sn : 0 ≤ t.sn
  sum : t.we + t.sn ≤ 10000 + 1200 * m
theorem opn_K {l : Fro} {t : Tr} {d : Wea} {f k : Int} (hL : LawOk l) (ht : TrK t k k) (hd : WeaOk d) (hf : 0 ≤ f ∧ f ≤ 1000) : TrK (opn l t d f) k (k + 1) := by
  obtain ⟨b, wh, we, sn, sm⟩ := ht
  obtain ⟨hs1, hs2⟩ := hL.soak
  have hw := hd.water
  unfold opn
  have a1 : 0 ≤ (if d.clear = true then 0 else t.sn) ∧ (if d.clear = true then 0 else t.sn) ≤ t.sn := by split <;> omega
  generalize (if d.clear = true then 0 else t.sn) = s1 at *
  have b1 := dn_bd (n := s1 + f) (p := l.soak) (by omega) (by omega) (by omega)
  split
  · exact ⟨b, wh, by show 0 ≤ t.we + d.water + _; omega, Int.le_refl _, by show t.we + d.water + _ + 0 ≤ _; omega⟩
  · exact ⟨b, wh, we, by show 0 ≤ s1 + f; omega, by show t.we + (s1 + f) ≤ _; omega⟩
set_option maxHeartbeats 8000000 in
theorem opened_c (lo hi : Nat) (v : Value) (l : Fro) (t : Tr) (k m : Int) (d : Wea) (f : Int) (w : World) (hl : Sl covEnc 3 lo hi w v l.cov) (h2 : hi ≤ w.heap.size) (hL : LawOk l) (ht : TrK t k m) (hk : (0 ≤ k ∧ k ≤ 401) ∧ 0 ≤ m ∧ m ≤ 401) (hd : WeaOk d) (hf : 0 ≤ f ∧ f ≤ 1000) :
    Calls Try.prog 64 #[.agg (froC l v), .agg #[.int .i64 t.bl, .int .i64 t.wh, .int .i64 t.we, .int .i64 t.sn], .agg (weaC d d.clear), .int .i64 f] w (Ret (.agg #[.int .i64 ((opn l t d f).bl), .int .i64 ((opn l t d f).wh), .int .i64 ((opn l t d f).we), .int .i64 ((opn l t d f).sn)]) w) := by
  have F1 : Bun w [] w := Bun.nil _
  have hm_cs := hl.len
  unfold maxLen at hm_cs
  obtain ⟨sa, sc, rfl⟩ := hl.any
  have F2 := F1.sl0 hl h2 rfl
  clear F1
  clear hl
  obtain ⟨⟨hg1, hg2⟩, ⟨hl1, hl2⟩, ⟨hn1, hn2⟩, hpt, ⟨hm1, hm2, hm3⟩, ⟨hs1, hs2⟩, ⟨hw1, hw2, hw3⟩⟩ := id hL
  have HL := Lib.hid hL
  clear hL hpt
  obtain ⟨⟨tb1, tb2⟩, ⟨tw1, tw2⟩, te1, ts1, tm1⟩ := ht
  obtain ⟨⟨dc1, dc2, dc3⟩, ⟨df1, df2, df3⟩, dw1, dw2⟩ := hd
  go_enter Try.func64, Try.ntmps64
  cases c3 : d.clear
  · skip
    have c3H := Lib.hid c3
    by_cases c4 : 0 < d.water
    · skip
      have c4H := Lib.hid c4
      go_wp2_with fail
      have F6 := F2.new 29 (froC l (.slice sa l.cov.length sc)) (n := w.heap.size) (by simp)
      clear F2
      have F7 := F6.new 48 #[.int .i64 t.bl, .int .i64 t.wh, .int .i64 t.we, .int .i64 (t.sn + f)] (n := (w.heap.size + 1)) (by simp)
      clear F6
      have F8 := F7.new 35 (weaC d false) (n := (w.heap.size + 2)) (by simp)
      clear F7
      have F9 := F8.new 48 #[.int .i64 0, .int .i64 0, .int .i64 0, .int .i64 0] (n := (w.heap.size + 3)) (by simp)
      clear F8
      obtain ⟨w10, hx11, F13, hxs12⟩ := (show Bun w [rbox (w.heap.size + 3) 48 #[.int .i64 0, .int .i64 0, .int .i64 0, .int .i64 0], rbox (w.heap.size + 2) 35 (weaC d false), rbox (w.heap.size + 1) 48 #[.int .i64 t.bl, .int .i64 t.wh, .int .i64 t.we, .int .i64 (t.sn + f)], rbox w.heap.size 29 (froC l (.slice sa l.cov.length sc)), rsl covEnc 3 lo hi (.slice sa l.cov.length sc) l.cov] _ from F9).name
      (try simp at hxs12)
      rw [hx11]
      clear hx11 F9
      have F14 := F13.drew
      clear F13
      refine ru_begin (fun W => W.cell? ⟨(w.heap.size + 2), 4, none⟩ = some (.int .i64 d.water) ∧ W.cell? ⟨(w.heap.size + 1), 3, none⟩ = some (.int .i64 (t.sn + f)) ∧ W.cell? ⟨w.heap.size, 5, none⟩ = some (.int .i64 l.soak)) 14 (by kernel_rfl) ?_ ?_
      · exact ⟨F14.cl 1 4 rfl rfl, F14.cl 2 3 rfl rfl, F14.cl 3 5 rfl rfl⟩
      obtain ⟨wd16, hwd_⟩ : ∃ x : World, w10.drew = x := ⟨_, rfl⟩
      rw [hwd_] at F14 ⊢
      have wd16s : w10.heap.size ≤ wd16.heap.size := by rw [← hwd_]; exact Nat.le_refl _
      clear hwd_
      have hS15 := (And.intro (F14.cl 1 4 rfl rfl) (And.intro (F14.cl 2 3 rfl rfl) (F14.cl 3 5 rfl rfl)))
      refine ru_t 0 [] ?_
      refine ru_t 2 [] ?_
      refine ru_t 3 [] ?_
      refine ru_t 5 [] ?_
      refine ru_t 6 [] ?_
      refine ru_t 7 [] ?_
      refine ru_t 8 [] ?_
      (try simp only [Act.put, List.setIfInBounds_toArray, List.set_cons_zero, List.set_cons_succ])
      clear hS15
      refine ru_two 1 9 rfl rfl (by kernel_rfl) ?_ ?_
      · intro K hK
        have kq0_ := F14.cl 2 2 rfl rfl
        go_simp
        clear kq0_
        refine ru_back hK (by exact ⟨F14.cl 1 4 rfl rfl, F14.cl 2 3 rfl rfl, F14.cl 3 5 rfl rfl⟩) (fun hHeld => ?_)
        clear hK K
        (try simp only [Act.put, List.setIfInBounds_toArray, List.set_cons_zero, List.set_cons_succ])
        have hw17 : IntKind.i64.wrap (t.we + d.water) = t.we + d.water := IntWalk.i64_in _ (by omega)
        refine ru_p 4 ?_
        (try simp only [Act.put, List.setIfInBounds_toArray, List.set_cons_zero, List.set_cons_succ])
        refine ru_one 9 rfl (by kernel_rfl) (fun K hK => ?_)
        go_simp
        refine (rdown_c _ _ _ (by omega) (by omega) (by omega) (by omega)).mono ?_
        rintro e _ ⟨rfl, rfl⟩
        have hd18 := dn_bd (n := (t.sn + f)) (p := l.soak) (by omega) (by omega) (by omega)
        refine ru_back hK (by exact ⟨F14.cl 1 4 rfl rfl, F14.cl 2 3 rfl rfl, F14.cl 3 5 rfl rfl⟩) (fun hHeld => ?_)
        clear hK K
        (try simp only [Act.put, List.setIfInBounds_toArray, List.set_cons_zero, List.set_cons_succ])
        have hw19 : IntKind.i64.wrap (t.we + d.water + (dn (t.sn + f) l.soak)) = t.we + d.water + (dn (t.sn + f) l.soak) := IntWalk.i64_in _ (by omega)
        refine ru_p 10 ?_
        (try simp only [Act.put, List.setIfInBounds_toArray, List.set_cons_zero, List.set_cons_succ])
        refine ru_p 11 ?_
        (try simp only [Act.put, List.setIfInBounds_toArray, List.set_cons_zero, List.set_cons_succ])
        refine ru_one 12 rfl (by kernel_rfl) (fun K hK => ?_)
        have kb_ := F14.bx4 2 rfl
        go_simp
        clear kb_
        have F20 := ((F14.front 2 rfl rfl).set 2 (.int .i64 (t.we + d.water + (dn (t.sn + f) l.soak)))).nf #[.int .i64 t.bl, .int .i64 t.wh, .int .i64 (t.we + d.water + (dn (t.sn + f) l.soak)), .int .i64 (t.sn + f)] rfl
        clear F14
        refine ru_back hK (by exact ⟨F20.cl 2 4 rfl rfl, F20.cl 0 3 rfl rfl, F20.cl 3 5 rfl rfl⟩) (fun hHeld => ?_)
        clear hK K
        (try simp only [Act.put, List.setIfInBounds_toArray, List.set_cons_zero, List.set_cons_succ])
        refine ru_p 13 ?_
        (try simp only [Act.put, List.setIfInBounds_toArray, List.set_cons_zero, List.set_cons_succ])
        refine ru_one 14 rfl (by kernel_rfl) (fun K hK => ?_)
        have kb_ := F20.bx4 0 rfl
        go_simp
        clear kb_
        have F21 := (F20.set 3 (.int .i64 0)).nf #[.int .i64 t.bl, .int .i64 t.wh, .int .i64 (t.we + d.water + (dn (t.sn + f) l.soak)), .int .i64 0] rfl
        clear F20
        refine ru_back_late hK (by kernel_rfl) ?_
        clear hK K
        (try simp only [Act.put, List.setIfInBounds_toArray, List.set_cons_zero, List.set_cons_succ])
        refine ru_done (by kernel_rfl) ?_
        (try clear hw17 hw19)
        obtain ⟨w22, hx23, F25, hxs24⟩ := (show Bun w [rbox (w.heap.size + 1) 48 #[.int .i64 t.bl, .int .i64 t.wh, .int .i64 (t.we + d.water + (dn (t.sn + f) l.soak)), .int .i64 0], rbox (w.heap.size + 3) 48 #[.int .i64 0, .int .i64 0, .int .i64 0, .int .i64 0], rsl covEnc 3 lo hi (.slice sa l.cov.length sc) l.cov] _ from ((F21.drop 2 rfl).drop 2 rfl)).name
        (try simp at hxs24)
        rw [hx23]
        clear hx23 F21
        have Hx26 := Lib.hid (show (((opn l t d f).bl : Int)) = t.bl by simp [opn, c3H.out, c4H.out])
        have Hx27 := Lib.hid (show (((opn l t d f).wh : Int)) = t.wh by simp [opn, c3H.out, c4H.out])
        have Hx28 := Lib.hid (show (((opn l t d f).we : Int)) = t.we + d.water + (dn (t.sn + f) l.soak) by simp [opn, c3H.out, c4H.out])
        have Hx29 := Lib.hid (show (((opn l t d f).sn : Int)) = 0 by simp [opn, c3H.out, c4H.out])
        have b30 := F25.bx4 0 rfl
        have b31 := F25.bx4 1 rfl
        go_wp2_with fail
        clear b30 b31
        have F32 := (F25.front 1 rfl rfl).pt4 (.int .i64 t.bl) (.int .i64 t.wh) (.int .i64 (t.we + d.water + (dn (t.sn + f) l.soak))) (.int .i64 0)
        clear F25
        have kb33 := F32.bx4 0 rfl
        go_wp2_with fail
        exact bodyPost_ret (v := .agg #[.int .i64 t.bl, .int .i64 t.wh, .int .i64 (t.we + d.water + (dn (t.sn + f) l.soak)), .int .i64 0]) (by simp [results, Try.results64, go_sem, kb33]) rfl (⟨by rw [Hx26.out, Hx27.out, Hx28.out, Hx29.out] <;> rfl, F32.gb⟩)
      · intro K hK
        go_simp
        refine (rdown_c _ _ _ (by omega) (by omega) (by omega) (by omega)).mono ?_
        rintro e _ ⟨rfl, rfl⟩
        have hd34 := dn_bd (n := (t.sn + f)) (p := l.soak) (by omega) (by omega) (by omega)
        refine ru_back hK (by exact ⟨F14.cl 1 4 rfl rfl, F14.cl 2 3 rfl rfl, F14.cl 3 5 rfl rfl⟩) (fun hHeld => ?_)
        clear hK K
        (try simp only [Act.put, List.setIfInBounds_toArray, List.set_cons_zero, List.set_cons_succ])
        refine ru_one 1 rfl (by kernel_rfl) (fun K hK => ?_)
        have kq0_ := F14.cl 2 2 rfl rfl
        go_simp
        clear kq0_
        refine ru_back hK (by exact ⟨F14.cl 1 4 rfl rfl, F14.cl 2 3 rfl rfl, F14.cl 3 5 rfl rfl⟩) (fun hHeld => ?_)
        clear hK K
        (try simp only [Act.put, List.setIfInBounds_toArray, List.set_cons_zero, List.set_cons_succ])
        have hw35 : IntKind.i64.wrap (t.we + d.water) = t.we + d.water := IntWalk.i64_in _ (by omega)
        refine ru_p 4 ?_
        (try simp only [Act.put, List.setIfInBounds_toArray, List.set_cons_zero, List.set_cons_succ])
        have hw36 : IntKind.i64.wrap (t.we + d.water + (dn (t.sn + f) l.soak)) = t.we + d.water + (dn (t.sn + f) l.soak) := IntWalk.i64_in _ (by omega)
        refine ru_p 10 ?_
        (try simp only [Act.put, List.setIfInBounds_toArray, List.set_cons_zero, List.set_cons_succ])
        refine ru_p 11 ?_
        (try simp only [Act.put, List.setIfInBounds_toArray, List.set_cons_zero, List.set_cons_succ])
        refine ru_one 12 rfl (by kernel_rfl) (fun K hK => ?_)
        have kb_ := F14.bx4 2 rfl
        go_simp
        clear kb_
        have F37 := ((F14.front 2 rfl rfl).set 2 (.int .i64 (t.we + d.water + (dn (t.sn + f) l.soak)))).nf #[.int .i64 t.bl, .int .i64 t.wh, .int .i64 (t.we + d.water + (dn (t.sn + f) l.soak)), .int .i64 (t.sn + f)] rfl
        clear F14
        refine ru_back hK (by exact ⟨F37.cl 2 4 rfl rfl, F37.cl 0 3 rfl rfl, F37.cl 3 5 rfl rfl⟩) (fun hHeld => ?_)
        clear hK K
        (try simp only [Act.put, List.setIfInBounds_toArray, List.set_cons_zero, List.set_cons_succ])
        refine ru_p 13 ?_
        (try simp only [Act.put, List.setIfInBounds_toArray, List.set_cons_zero, List.set_cons_succ])
        refine ru_one 14 rfl (by kernel_rfl) (fun K hK => ?_)
        have kb_ := F37.bx4 0 rfl
        go_simp
        clear kb_
        have F38 := (F37.set 3 (.int .i64 0)).nf #[.int .i64 t.bl, .int .i64 t.wh, .int .i64 (t.we + d.water + (dn (t.sn + f) l.soak)), .int .i64 0] rfl
        clear F37
        refine ru_back_late hK (by kernel_rfl) ?_
        clear hK K
        (try simp only [Act.put, List.setIfInBounds_toArray, List.set_cons_zero, List.set_cons_succ])
        refine ru_done (by kernel_rfl) ?_
        (try clear hw17 hw19 hw35 hw36)
        obtain ⟨w39, hx40, F42, hxs41⟩ := (show Bun w [rbox (w.heap.size + 1) 48 #[.int .i64 t.bl, .int .i64 t.wh, .int .i64 (t.we + d.water + (dn (t.sn + f) l.soak)), .int .i64 0], rbox (w.heap.size + 3) 48 #[.int .i64 0, .int .i64 0, .int .i64 0, .int .i64 0], rsl covEnc 3 lo hi (.slice sa l.cov.length sc) l.cov] _ from ((F38.drop 2 rfl).drop 2 rfl)).name
        (try simp at hxs41)
        rw [hx40]
        clear hx40 F38
        have Hx43 := Lib.hid (show (((opn l t d f).bl : Int)) = t.bl by simp [opn, c3H.out, c4H.out])
        have Hx44 := Lib.hid (show (((opn l t d f).wh : Int)) = t.wh by simp [opn, c3H.out, c4H.out])
        have Hx45 := Lib.hid (show (((opn l t d f).we : Int)) = t.we + d.water + (dn (t.sn + f) l.soak) by simp [opn, c3H.out, c4H.out])
        have Hx46 := Lib.hid (show (((opn l t d f).sn : Int)) = 0 by simp [opn, c3H.out, c4H.out])
        have b47 := F42.bx4 0 rfl
        have b48 := F42.bx4 1 rfl
        go_wp2_with fail
        clear b47 b48
        have F49 := (F42.front 1 rfl rfl).pt4 (.int .i64 t.bl) (.int .i64 t.wh) (.int .i64 (t.we + d.water + (dn (t.sn + f) l.soak))) (.int .i64 0)
        clear F42
        have kb50 := F49.bx4 0 rfl
        go_wp2_with fail
        exact bodyPost_ret (v := .agg #[.int .i64 t.bl, .int .i64 t.wh, .int .i64 (t.we + d.water + (dn (t.sn + f) l.soak)), .int .i64 0]) (by simp [results, Try.results64, go_sem, kb50]) rfl (⟨by rw [Hx43.out, Hx44.out, Hx45.out, Hx46.out] <;> rfl, F49.gb⟩)
    · skip
      have c4H := Lib.hid c4
      have c4a : decide (0 < d.water) = false := dec_f c4
      have Hx51 := Lib.hid (show (((opn l t d f).bl : Int)) = t.bl by simp [opn, c3H.out, c4H.out])
      have Hx52 := Lib.hid (show (((opn l t d f).wh : Int)) = t.wh by simp [opn, c3H.out, c4H.out])
      have Hx53 := Lib.hid (show (((opn l t d f).we : Int)) = t.we by simp [opn, c3H.out, c4H.out])
      have Hx54 := Lib.hid (show (((opn l t d f).sn : Int)) = t.sn + f by simp [opn, c3H.out, c4H.out])
      go_wp2_with fail
      have F55 := F2.new 29 (froC l (.slice sa l.cov.length sc)) (n := w.heap.size) (by simp)
      clear F2
      have F56 := F55.new 48 #[.int .i64 t.bl, .int .i64 t.wh, .int .i64 t.we, .int .i64 (t.sn + f)] (n := (w.heap.size + 1)) (by simp)
      clear F55
      have F57 := F56.new 35 (weaC d false) (n := (w.heap.size + 2)) (by simp)
      clear F56
      have F58 := F57.new 48 #[.int .i64 t.bl, .int .i64 t.wh, .int .i64 t.we, .int .i64 (t.sn + f)] (n := (w.heap.size + 3)) (by simp)
      clear F57
      have kb59 := F58.bx4 0 rfl
      go_wp2_with fail
      exact bodyPost_ret (v := .agg #[.int .i64 t.bl, .int .i64 t.wh, .int .i64 t.we, .int .i64 (t.sn + f)]) (by simp [results, Try.results64, go_sem, kb59]) rfl (⟨by rw [Hx51.out, Hx52.out, Hx53.out, Hx54.out] <;> rfl, F58.gb⟩)
  · skip
    have c3H := Lib.hid c3
    by_cases c60 : 0 < d.water
    · skip
      have c60H := Lib.hid c60
      go_wp2_with fail
      have F62 := F2.new 29 (froC l (.slice sa l.cov.length sc)) (n := w.heap.size) (by simp)
      clear F2
      have F63 := F62.new 48 #[.int .i64 t.bl, .int .i64 t.wh, .int .i64 t.we, .int .i64 f] (n := (w.heap.size + 1)) (by simp)
      clear F62
      have F64 := F63.new 35 (weaC d true) (n := (w.heap.size + 2)) (by simp)
      clear F63
      have F65 := F64.new 48 #[.int .i64 0, .int .i64 0, .int .i64 0, .int .i64 0] (n := (w.heap.size + 3)) (by simp)
      clear F64
      obtain ⟨w66, hx67, F69, hxs68⟩ := (show Bun w [rbox (w.heap.size + 3) 48 #[.int .i64 0, .int .i64 0, .int .i64 0, .int .i64 0], rbox (w.heap.size + 2) 35 (weaC d true), rbox (w.heap.size + 1) 48 #[.int .i64 t.bl, .int .i64 t.wh, .int .i64 t.we, .int .i64 f], rbox w.heap.size 29 (froC l (.slice sa l.cov.length sc)), rsl covEnc 3 lo hi (.slice sa l.cov.length sc) l.cov] _ from F65).name
      (try simp at hxs68)
      rw [hx67]
      clear hx67 F65
      have F70 := F69.drew
      clear F69
      refine ru_begin (fun W => W.cell? ⟨(w.heap.size + 2), 4, none⟩ = some (.int .i64 d.water) ∧ W.cell? ⟨(w.heap.size + 1), 3, none⟩ = some (.int .i64 f) ∧ W.cell? ⟨w.heap.size, 5, none⟩ = some (.int .i64 l.soak)) 14 (by kernel_rfl) ?_ ?_
      · exact ⟨F70.cl 1 4 rfl rfl, F70.cl 2 3 rfl rfl, F70.cl 3 5 rfl rfl⟩
      obtain ⟨wd72, hwd_⟩ : ∃ x : World, w66.drew = x := ⟨_, rfl⟩
      rw [hwd_] at F70 ⊢
      have wd72s : w66.heap.size ≤ wd72.heap.size := by rw [← hwd_]; exact Nat.le_refl _
      clear hwd_
      have hS71 := (And.intro (F70.cl 1 4 rfl rfl) (And.intro (F70.cl 2 3 rfl rfl) (F70.cl 3 5 rfl rfl)))
      refine ru_t 0 [] ?_
      refine ru_t 2 [] ?_
      refine ru_t 3 [] ?_
      refine ru_t 5 [] ?_
      refine ru_t 6 [] ?_
      refine ru_t 7 [] ?_
      refine ru_t 8 [] ?_
      (try simp only [Act.put, List.setIfInBounds_toArray, List.set_cons_zero, List.set_cons_succ])
      clear hS71
      refine ru_two 1 9 rfl rfl (by kernel_rfl) ?_ ?_
      · intro K hK
        have kq0_ := F70.cl 2 2 rfl rfl
        go_simp
        clear kq0_
        refine ru_back hK (by exact ⟨F70.cl 1 4 rfl rfl, F70.cl 2 3 rfl rfl, F70.cl 3 5 rfl rfl⟩) (fun hHeld => ?_)
        clear hK K
        (try simp only [Act.put, List.setIfInBounds_toArray, List.set_cons_zero, List.set_cons_succ])
        have hw73 : IntKind.i64.wrap (t.we + d.water) = t.we + d.water := IntWalk.i64_in _ (by omega)
        refine ru_p 4 ?_
        (try simp only [Act.put, List.setIfInBounds_toArray, List.set_cons_zero, List.set_cons_succ])
        refine ru_one 9 rfl (by kernel_rfl) (fun K hK => ?_)
        go_simp
        refine (rdown_c _ _ _ (by omega) (by omega) (by omega) (by omega)).mono ?_
        rintro e _ ⟨rfl, rfl⟩
        have hd74 := dn_bd (n := f) (p := l.soak) (by omega) (by omega) (by omega)
        refine ru_back hK (by exact ⟨F70.cl 1 4 rfl rfl, F70.cl 2 3 rfl rfl, F70.cl 3 5 rfl rfl⟩) (fun hHeld => ?_)
        clear hK K
        (try simp only [Act.put, List.setIfInBounds_toArray, List.set_cons_zero, List.set_cons_succ])
        have hw75 : IntKind.i64.wrap (t.we + d.water + (dn f l.soak)) = t.we + d.water + (dn f l.soak) := IntWalk.i64_in _ (by omega)
        refine ru_p 10 ?_
        (try simp only [Act.put, List.setIfInBounds_toArray, List.set_cons_zero, List.set_cons_succ])
        refine ru_p 11 ?_
        (try simp only [Act.put, List.setIfInBounds_toArray, List.set_cons_zero, List.set_cons_succ])
        refine ru_one 12 rfl (by kernel_rfl) (fun K hK => ?_)
        have kb_ := F70.bx4 2 rfl
        go_simp
        clear kb_
        have F76 := ((F70.front 2 rfl rfl).set 2 (.int .i64 (t.we + d.water + (dn f l.soak)))).nf #[.int .i64 t.bl, .int .i64 t.wh, .int .i64 (t.we + d.water + (dn f l.soak)), .int .i64 f] rfl
        clear F70
        refine ru_back hK (by exact ⟨F76.cl 2 4 rfl rfl, F76.cl 0 3 rfl rfl, F76.cl 3 5 rfl rfl⟩) (fun hHeld => ?_)
        clear hK K
        (try simp only [Act.put, List.setIfInBounds_toArray, List.set_cons_zero, List.set_cons_succ])
        refine ru_p 13 ?_
        (try simp only [Act.put, List.setIfInBounds_toArray, List.set_cons_zero, List.set_cons_succ])
        refine ru_one 14 rfl (by kernel_rfl) (fun K hK => ?_)
        have kb_ := F76.bx4 0 rfl
        go_simp
        clear kb_
        have F77 := (F76.set 3 (.int .i64 0)).nf #[.int .i64 t.bl, .int .i64 t.wh, .int .i64 (t.we + d.water + (dn f l.soak)), .int .i64 0] rfl
        clear F76
        refine ru_back_late hK (by kernel_rfl) ?_
        clear hK K
        (try simp only [Act.put, List.setIfInBounds_toArray, List.set_cons_zero, List.set_cons_succ])
        refine ru_done (by kernel_rfl) ?_
        (try clear hw73 hw75)
        obtain ⟨w78, hx79, F81, hxs80⟩ := (show Bun w [rbox (w.heap.size + 1) 48 #[.int .i64 t.bl, .int .i64 t.wh, .int .i64 (t.we + d.water + (dn f l.soak)), .int .i64 0], rbox (w.heap.size + 3) 48 #[.int .i64 0, .int .i64 0, .int .i64 0, .int .i64 0], rsl covEnc 3 lo hi (.slice sa l.cov.length sc) l.cov] _ from ((F77.drop 2 rfl).drop 2 rfl)).name
        (try simp at hxs80)
        rw [hx79]
        clear hx79 F77
        have Hx82 := Lib.hid (show (((opn l t d f).bl : Int)) = t.bl by simp [opn, c3H.out, c60H.out])
        have Hx83 := Lib.hid (show (((opn l t d f).wh : Int)) = t.wh by simp [opn, c3H.out, c60H.out])
        have Hx84 := Lib.hid (show (((opn l t d f).we : Int)) = t.we + d.water + (dn f l.soak) by simp [opn, c3H.out, c60H.out])
        have Hx85 := Lib.hid (show (((opn l t d f).sn : Int)) = 0 by simp [opn, c3H.out, c60H.out])
        have b86 := F81.bx4 0 rfl
        have b87 := F81.bx4 1 rfl
        go_wp2_with fail
        clear b86 b87
        have F88 := (F81.front 1 rfl rfl).pt4 (.int .i64 t.bl) (.int .i64 t.wh) (.int .i64 (t.we + d.water + (dn f l.soak))) (.int .i64 0)
        clear F81
        have kb89 := F88.bx4 0 rfl
        go_wp2_with fail
        exact bodyPost_ret (v := .agg #[.int .i64 t.bl, .int .i64 t.wh, .int .i64 (t.we + d.water + (dn f l.soak)), .int .i64 0]) (by simp [results, Try.results64, go_sem, kb89]) rfl (⟨by rw [Hx82.out, Hx83.out, Hx84.out, Hx85.out] <;> rfl, F88.gb⟩)
      · intro K hK
        go_simp
        refine (rdown_c _ _ _ (by omega) (by omega) (by omega) (by omega)).mono ?_
        rintro e _ ⟨rfl, rfl⟩
        have hd90 := dn_bd (n := f) (p := l.soak) (by omega) (by omega) (by omega)
        refine ru_back hK (by exact ⟨F70.cl 1 4 rfl rfl, F70.cl 2 3 rfl rfl, F70.cl 3 5 rfl rfl⟩) (fun hHeld => ?_)
        clear hK K
        (try simp only [Act.put, List.setIfInBounds_toArray, List.set_cons_zero, List.set_cons_succ])
        refine ru_one 1 rfl (by kernel_rfl) (fun K hK => ?_)
        have kq0_ := F70.cl 2 2 rfl rfl
        go_simp
        clear kq0_
        refine ru_back hK (by exact ⟨F70.cl 1 4 rfl rfl, F70.cl 2 3 rfl rfl, F70.cl 3 5 rfl rfl⟩) (fun hHeld => ?_)
        clear hK K
        (try simp only [Act.put, List.setIfInBounds_toArray, List.set_cons_zero, List.set_cons_succ])
        have hw91 : IntKind.i64.wrap (t.we + d.water) = t.we + d.water := IntWalk.i64_in _ (by omega)
        refine ru_p 4 ?_
        (try simp only [Act.put, List.setIfInBounds_toArray, List.set_cons_zero, List.set_cons_succ])
        have hw92 : IntKind.i64.wrap (t.we + d.water + (dn f l.soak)) = t.we + d.water + (dn f l.soak) := IntWalk.i64_in _ (by omega)
        refine ru_p 10 ?_
        (try simp only [Act.put, List.setIfInBounds_toArray, List.set_cons_zero, List.set_cons_succ])
        refine ru_p 11 ?_
        (try simp only [Act.put, List.setIfInBounds_toArray, List.set_cons_zero, List.set_cons_succ])
        refine ru_one 12 rfl (by kernel_rfl) (fun K hK => ?_)
        have kb_ := F70.bx4 2 rfl
        go_simp
        clear kb_
        have F93 := ((F70.front 2 rfl rfl).set 2 (.int .i64 (t.we + d.water + (dn f l.soak)))).nf #[.int .i64 t.bl, .int .i64 t.wh, .int .i64 (t.we + d.water + (dn f l.soak)), .int .i64 f] rfl
        clear F70
        refine ru_back hK (by exact ⟨F93.cl 2 4 rfl rfl, F93.cl 0 3 rfl rfl, F93.cl 3 5 rfl rfl⟩) (fun hHeld => ?_)
        clear hK K
        (try simp only [Act.put, List.setIfInBounds_toArray, List.set_cons_zero, List.set_cons_succ])
        refine ru_p 13 ?_
        (try simp only [Act.put, List.setIfInBounds_toArray, List.set_cons_zero, List.set_cons_succ])
        refine ru_one 14 rfl (by kernel_rfl) (fun K hK => ?_)
        have kb_ := F93.bx4 0 rfl
        go_simp
        clear kb_
        have F94 := (F93.set 3 (.int .i64 0)).nf #[.int .i64 t.bl, .int .i64 t.wh, .int .i64 (t.we + d.water + (dn f l.soak)), .int .i64 0] rfl
        clear F93
        refine ru_back_late hK (by kernel_rfl) ?_
        clear hK K
        (try simp only [Act.put, List.setIfInBounds_toArray, List.set_cons_zero, List.set_cons_succ])
        refine ru_done (by kernel_rfl) ?_
        (try clear hw73 hw75 hw91 hw92)
        obtain ⟨w95, hx96, F98, hxs97⟩ := (show Bun w [rbox (w.heap.size + 1) 48 #[.int .i64 t.bl, .int .i64 t.wh, .int .i64 (t.we + d.water + (dn f l.soak)), .int .i64 0], rbox (w.heap.size + 3) 48 #[.int .i64 0, .int .i64 0, .int .i64 0, .int .i64 0], rsl covEnc 3 lo hi (.slice sa l.cov.length sc) l.cov] _ from ((F94.drop 2 rfl).drop 2 rfl)).name
        (try simp at hxs97)
        rw [hx96]
        clear hx96 F94
        have Hx99 := Lib.hid (show (((opn l t d f).bl : Int)) = t.bl by simp [opn, c3H.out, c60H.out])
        have Hx100 := Lib.hid (show (((opn l t d f).wh : Int)) = t.wh by simp [opn, c3H.out, c60H.out])
        have Hx101 := Lib.hid (show (((opn l t d f).we : Int)) = t.we + d.water + (dn f l.soak) by simp [opn, c3H.out, c60H.out])
        have Hx102 := Lib.hid (show (((opn l t d f).sn : Int)) = 0 by simp [opn, c3H.out, c60H.out])
        have b103 := F98.bx4 0 rfl
        have b104 := F98.bx4 1 rfl
        go_wp2_with fail
        clear b103 b104
        have F105 := (F98.front 1 rfl rfl).pt4 (.int .i64 t.bl) (.int .i64 t.wh) (.int .i64 (t.we + d.water + (dn f l.soak))) (.int .i64 0)
        clear F98
        have kb106 := F105.bx4 0 rfl
        go_wp2_with fail
        exact bodyPost_ret (v := .agg #[.int .i64 t.bl, .int .i64 t.wh, .int .i64 (t.we + d.water + (dn f l.soak)), .int .i64 0]) (by simp [results, Try.results64, go_sem, kb106]) rfl (⟨by rw [Hx99.out, Hx100.out, Hx101.out, Hx102.out] <;> rfl, F105.gb⟩)
    · skip
      have c60H := Lib.hid c60
      have c60a : decide (0 < d.water) = false := dec_f c60
      have Hx107 := Lib.hid (show (((opn l t d f).bl : Int)) = t.bl by simp [opn, c3H.out, c60H.out])
      have Hx108 := Lib.hid (show (((opn l t d f).wh : Int)) = t.wh by simp [opn, c3H.out, c60H.out])
      have Hx109 := Lib.hid (show (((opn l t d f).we : Int)) = t.we by simp [opn, c3H.out, c60H.out])
      have Hx110 := Lib.hid (show (((opn l t d f).sn : Int)) = f by simp [opn, c3H.out, c60H.out])
      go_wp2_with fail
      have F111 := F2.new 29 (froC l (.slice sa l.cov.length sc)) (n := w.heap.size) (by simp)
      clear F2
      have F112 := F111.new 48 #[.int .i64 t.bl, .int .i64 t.wh, .int .i64 t.we, .int .i64 f] (n := (w.heap.size + 1)) (by simp)
      clear F111
      have F113 := F112.new 35 (weaC d true) (n := (w.heap.size + 2)) (by simp)
      clear F112
      have F114 := F113.new 48 #[.int .i64 t.bl, .int .i64 t.wh, .int .i64 t.we, .int .i64 f] (n := (w.heap.size + 3)) (by simp)
      clear F113
      have kb115 := F114.bx4 0 rfl
      go_wp2_with fail
      exact bodyPost_ret (v := .agg #[.int .i64 t.bl, .int .i64 t.wh, .int .i64 t.we, .int .i64 f]) (by simp [results, Try.results64, go_sem, kb115]) rfl (⟨by rw [Hx107.out, Hx108.out, Hx109.out, Hx110.out] <;> rfl, F114.gb⟩)

set_option maxHeartbeats 4000000 in
theorem thawed_c (lo hi : Nat) (v : Value) (l : Fro) (n : Int) (w : World) (hl : Sl covEnc 3 lo hi w v l.cov) (h2 : hi ≤ w.heap.size) (hL : LawOk l) (hn : 0 ≤ n ∧ n ≤ 1000) :
    Calls Try.prog 65 #[.agg (froC l v), .int .i64 n] w (Ret (.agg #[.int .i64 ((thW l n).lo), .int .i64 ((thW l n).hi)]) w) := by
  have F1 : Bun w [] w := Bun.nil _
  have hm_cs := hl.len
  unfold maxLen at hm_cs
  obtain ⟨sa, sc, rfl⟩ := hl.any
  have F2 := F1.sl0 hl h2 rfl
  clear F1
  clear hl
  obtain ⟨⟨hg1, hg2⟩, ⟨hl1, hl2⟩, ⟨hn1, hn2⟩, hpt, ⟨hm1, hm2, hm3⟩, ⟨hs1, hs2⟩, ⟨hw1, hw2, hw3⟩⟩ := id hL
  have HL := Lib.hid hL
  clear hL hpt
  go_enter Try.func65, Try.ntmps65
  go_wp2_with fail
  have F5 := F2.new 29 (froC l (.slice sa l.cov.length sc)) (n := w.heap.size) (by simp)
  clear F2
  have F6 := F5.new 27 #[.int .i64 0, .int .i64 0] (n := (w.heap.size + 1)) (by simp)
  clear F5
  obtain ⟨w7, hx8, F10, hxs9⟩ := (show Bun w [rbox (w.heap.size + 1) 27 #[.int .i64 0, .int .i64 0], rbox w.heap.size 29 (froC l (.slice sa l.cov.length sc)), rsl covEnc 3 lo hi (.slice sa l.cov.length sc) l.cov] _ from F6).name
  (try simp at hxs9)
  rw [hx8]
  clear hx8 F6
  have F11 := F10.drew
  clear F10
  refine ru_begin (fun W => W.cell? ⟨w.heap.size, 3, none⟩ = some (.int .i64 l.melt.lo) ∧ W.cell? ⟨w.heap.size, 4, none⟩ = some (.int .i64 l.melt.hi)) 11 (by kernel_rfl) ?_ ?_
  · exact ⟨F11.cl 1 3 rfl rfl, F11.cl 1 4 rfl rfl⟩
  obtain ⟨wd13, hwd_⟩ : ∃ x : World, w7.drew = x := ⟨_, rfl⟩
  rw [hwd_] at F11 ⊢
  have wd13s : w7.heap.size ≤ wd13.heap.size := by rw [← hwd_]; exact Nat.le_refl _
  clear hwd_
  have hS12 := (And.intro (F11.cl 1 3 rfl rfl) (F11.cl 1 4 rfl rfl))
  refine ru_t 0 [] ?_
  refine ru_t 1 [] ?_
  refine ru_t 2 [] ?_
  refine ru_t 3 [] ?_
  refine ru_t 5 [] ?_
  refine ru_t 6 [] ?_
  refine ru_t 7 [] ?_
  refine ru_t 8 [] ?_
  (try simp only [Act.put, List.setIfInBounds_toArray, List.set_cons_zero, List.set_cons_succ])
  clear hS12
  refine ru_one 4 rfl (by kernel_rfl) (fun K hK => ?_)
  go_simp
  refine (rdown_c _ _ _ (by omega) (by omega) (by omega) (by omega)).mono ?_
  rintro e _ ⟨rfl, rfl⟩
  have hd14 := dn_bd7 (n := n) (p := l.melt.lo) (by omega) (by omega) (by omega)
  refine ru_back hK (by exact ⟨F11.cl 1 3 rfl rfl, F11.cl 1 4 rfl rfl⟩) (fun hHeld => ?_)
  clear hK K
  (try simp only [Act.put, List.setIfInBounds_toArray, List.set_cons_zero, List.set_cons_succ])
  refine ru_one 9 rfl (by kernel_rfl) (fun K hK => ?_)
  go_simp
  refine (rup_c _ _ _ (by omega) (by omega) (by omega) (by omega)).mono ?_
  rintro e _ ⟨rfl, rfl⟩
  have hd15 := up_bd7 (n := n) (p := l.melt.hi) (by omega) (by omega) (by omega)
  refine ru_back hK (by exact ⟨F11.cl 1 3 rfl rfl, F11.cl 1 4 rfl rfl⟩) (fun hHeld => ?_)
  clear hK K
  (try simp only [Act.put, List.setIfInBounds_toArray, List.set_cons_zero, List.set_cons_succ])
  refine ru_p 10 ?_
  (try simp only [Act.put, List.setIfInBounds_toArray, List.set_cons_zero, List.set_cons_succ])
  refine ru_one 11 rfl (by kernel_rfl) (fun K hK => ?_)
  have kb_ := F11.bx2 0 rfl
  go_simp
  clear kb_
  have F16 := F11.pt2 (.int .i64 (dn n l.melt.lo)) (.int .i64 (upp n l.melt.hi))
  clear F11
  refine ru_back_late hK (by kernel_rfl) ?_
  clear hK K
  (try simp only [Act.put, List.setIfInBounds_toArray, List.set_cons_zero, List.set_cons_succ])
  refine ru_done (by kernel_rfl) ?_
  obtain ⟨w17, hx18, F20, hxs19⟩ := (show Bun w [rbox (w.heap.size + 1) 27 #[.int .i64 (dn n l.melt.lo), .int .i64 (upp n l.melt.hi)], rsl covEnc 3 lo hi (.slice sa l.cov.length sc) l.cov] _ from (F16.drop 1 rfl)).name
  (try simp at hxs19)
  rw [hx18]
  clear hx18 F16
  have Hx21 := Lib.hid (show (((thW l n).lo : Int)) = dn n l.melt.lo by rfl)
  have Hx22 := Lib.hid (show (((thW l n).hi : Int)) = upp n l.melt.hi by rfl)
  go_wp2_with fail
  have kb23 := F20.bx2 0 rfl
  go_wp2_with fail
  exact bodyPost_ret (v := .agg #[.int .i64 (dn n l.melt.lo), .int .i64 (upp n l.melt.hi)]) (by simp [results, Try.results65, go_sem, kb23]) rfl (⟨by rw [Hx21.out, Hx22.out] <;> rfl, F20.gb⟩)

set_option maxHeartbeats 4000000 in
theorem rmelted_c (t : Tr) (k m n : Int) (w : World)  (ht : TrK t k m) (hk : (0 ≤ k ∧ k ≤ 401) ∧ 0 ≤ m ∧ m ≤ 401) (hn : 0 ≤ n ∧ n ≤ 100000) :
    Calls Try.prog 66 #[.agg #[.int .i64 t.bl, .int .i64 t.wh, .int .i64 t.we, .int .i64 t.sn], .int .i64 n] w (Ret (.agg #[.int .i64 ((mlT t n).bl), .int .i64 ((mlT t n).wh), .int .i64 ((mlT t n).we), .int .i64 ((mlT t n).sn)]) w) := by
  have F1 : Bun w [] w := Bun.nil _
  obtain ⟨⟨tb1, tb2⟩, ⟨tw1, tw2⟩, te1, ts1, tm1⟩ := ht
  go_enter Try.func66, Try.ntmps66
  have Hx2 := Lib.hid (show (((mlT t n).bl : Int)) = t.bl - (min t.bl (n - (min t.sn n) - (min t.wh (n - (min t.sn n))))) by rfl)
  have Hx3 := Lib.hid (show (((mlT t n).wh : Int)) = t.wh - (min t.wh (n - (min t.sn n))) by rfl)
  have Hx4 := Lib.hid (show (((mlT t n).we : Int)) = t.we by rfl)
  have Hx5 := Lib.hid (show (((mlT t n).sn : Int)) = t.sn - (min t.sn n) by rfl)
  go_wp2_with fail
  have F6 := F1.new 48 #[.int .i64 (t.bl - (min t.bl (n - (min t.sn n) - (min t.wh (n - (min t.sn n)))))), .int .i64 (t.wh - (min t.wh (n - (min t.sn n)))), .int .i64 t.we, .int .i64 (t.sn - (min t.sn n))] (n := w.heap.size) (by simp)
  clear F1
  have F7 := F6.new 48 #[.int .i64 (t.bl - (min t.bl (n - (min t.sn n) - (min t.wh (n - (min t.sn n)))))), .int .i64 (t.wh - (min t.wh (n - (min t.sn n)))), .int .i64 t.we, .int .i64 (t.sn - (min t.sn n))] (n := (w.heap.size + 1)) (by simp)
  clear F6
  have kb8 := F7.bx4 0 rfl
  go_wp2_with fail
  exact bodyPost_ret (v := .agg #[.int .i64 (t.bl - (min t.bl (n - (min t.sn n) - (min t.wh (n - (min t.sn n)))))), .int .i64 (t.wh - (min t.wh (n - (min t.sn n)))), .int .i64 t.we, .int .i64 (t.sn - (min t.sn n))]) (by simp [results, Try.results66, go_sem, kb8]) rfl (⟨by rw [Hx2.out, Hx3.out, Hx4.out, Hx5.out] <;> rfl, F7.gb⟩)

set_option maxHeartbeats 8000000 in
theorem rfrozen_c (lo hi : Nat) (v : Value) (l : Fro) (t : Tr) (k m : Int) (c : Int) (up : Bool) (w : World) (hl : Sl covEnc 3 lo hi w v l.cov) (h2 : hi ≤ w.heap.size) (hL : LawOk l) (ht : TrK t k m) (hk : (0 ≤ k ∧ k ≤ 401) ∧ 0 ≤ m ∧ m ≤ 401) (hc : 0 ≤ c ∧ c ≤ 1000) :
    Calls Try.prog 68 #[.agg (froC l v), .agg #[.int .i64 t.bl, .int .i64 t.wh, .int .i64 t.we, .int .i64 t.sn], .int .i64 c, .bool up] w (Ret (.agg #[.int .i64 ((frT l t c up).bl), .int .i64 ((frT l t c up).wh), .int .i64 ((frT l t c up).we), .int .i64 ((frT l t c up).sn)]) w) := by
  have F1 : Bun w [] w := Bun.nil _
  have hm_cs := hl.len
  unfold maxLen at hm_cs
  obtain ⟨sa, sc, rfl⟩ := hl.any
  have F2 := F1.sl0 hl h2 rfl
  clear F1
  clear hl
  obtain ⟨⟨hg1, hg2⟩, ⟨hl1, hl2⟩, ⟨hn1, hn2⟩, hpt, ⟨hm1, hm2, hm3⟩, ⟨hs1, hs2⟩, ⟨hw1, hw2, hw3⟩⟩ := id hL
  have HL := Lib.hid hL
  clear hL hpt
  obtain ⟨⟨tb1, tb2⟩, ⟨tw1, tw2⟩, te1, ts1, tm1⟩ := ht
  obtain ⟨z, hz⟩ : ∃ z, min t.we (c / l.la) = z := ⟨_, rfl⟩
  have HZ := Lib.hid hz
  have hzd := div_nn (b := l.la) (c := c) (by omega) (by omega)
  have hz1 : 0 ≤ z ∧ z ≤ t.we ∧ z ≤ c / l.la := by omega
  have hzq : z * l.la ≤ c := mul_of_div (by omega) hz1.2.2
  have hqn : 0 ≤ z * l.la := Int.mul_nonneg (by omega) (by omega)
  have hgn : 0 ≤ l.gr * (c - z * l.la) := Int.mul_nonneg (by omega) (by omega)
  have hg3 : l.gr * (c - z * l.la) ≤ 10000000 := by
    have h1 : l.gr * (c - z * l.la) ≤ l.gr * 1000 := Int.mul_le_mul_of_nonneg_left (by omega) (by omega)
    omega
  have hhn : 0 ≤ (t.bl + (t.wh + z)) * (t.bl + (t.wh + z)) := Int.mul_nonneg (by omega) (by omega)
  have hh2 : (t.bl + (t.wh + z)) * (t.bl + (t.wh + z)) ≤ 90000000000000000 := by
    have := sq_lt (a := t.bl + (t.wh + z)) (b := 300000000) (by omega) (by omega); omega
  go_enter Try.func68, Try.ntmps68
  go_wp2_with fail
  have F5 := F2.new 29 (froC l (.slice sa l.cov.length sc)) (n := w.heap.size) (by simp)
  clear F2
  have F6 := F5.new 48 #[.int .i64 t.bl, .int .i64 t.wh, .int .i64 t.we, .int .i64 t.sn] (n := (w.heap.size + 1)) (by simp)
  clear F5
  have F7 := F6.new 48 #[.int .i64 0, .int .i64 0, .int .i64 0, .int .i64 0] (n := (w.heap.size + 2)) (by simp)
  clear F6
  have b10 := F7.bx4 1 rfl
  have b11 := F7.bx8 2 rfl
  have hq8 : Int.tdiv c l.la = c / l.la := Int.tdiv_eq_ediv_of_nonneg (by omega)
  have hw9 : IntKind.i64.wrap (c / l.la) = c / l.la := IntWalk.i64_in _ (by omega)
  go_quiet (fail)
  clear b10 b11 hq8 hw9
  have F12 := F7.drewN nq
  clear F7
  obtain ⟨w13, hx14, F16, hxs15⟩ := (show Bun w [rbox (w.heap.size + 2) 48 #[.int .i64 0, .int .i64 0, .int .i64 0, .int .i64 0], rbox (w.heap.size + 1) 48 #[.int .i64 t.bl, .int .i64 t.wh, .int .i64 t.we, .int .i64 t.sn], rbox w.heap.size 29 (froC l (.slice sa l.cov.length sc)), rsl covEnc 3 lo hi (.slice sa l.cov.length sc) l.cov] _ from F12).name
  (try simp at hxs15)
  rw [hx14]
  clear hx14 F12
  by_cases c17 : 0 < t.we - z
  · skip
    have c17H := Lib.hid c17
    have Hx18 := Lib.hid (show (((frT l t c up).bl : Int)) = t.bl by rw [frT, HZ.out, frZ, if_pos c17H.out])
    have Hx19 := Lib.hid (show (((frT l t c up).wh : Int)) = t.wh + z by rw [frT, HZ.out, frZ, if_pos c17H.out])
    have Hx20 := Lib.hid (show (((frT l t c up).we : Int)) = t.we - z by rw [frT, HZ.out, frZ, if_pos c17H.out])
    have Hx21 := Lib.hid (show (((frT l t c up).sn : Int)) = t.sn by rw [frT, HZ.out, frZ, if_pos c17H.out])
    have b22 := F16.bx4 0 rfl
    have b23 := F16.bx4 1 rfl
    go_wp2_with fail
    clear b22 b23
    have F24 := ((F16.front 1 rfl rfl).set 1 (.int .i64 (t.wh + z))).nf #[.int .i64 t.bl, .int .i64 (t.wh + z), .int .i64 t.we, .int .i64 t.sn] rfl
    clear F16
    have F25 := (F24.set 2 (.int .i64 (t.we - z))).nf #[.int .i64 t.bl, .int .i64 (t.wh + z), .int .i64 (t.we - z), .int .i64 t.sn] rfl
    clear F24
    have F26 := (F25.front 1 rfl rfl).pt4 (.int .i64 t.bl) (.int .i64 (t.wh + z)) (.int .i64 (t.we - z)) (.int .i64 t.sn)
    clear F25
    have kb27 := F26.bx4 0 rfl
    go_wp2_with fail
    exact bodyPost_ret (v := .agg #[.int .i64 t.bl, .int .i64 (t.wh + z), .int .i64 (t.we - z), .int .i64 t.sn]) (by simp [results, Try.results68, go_sem, kb27]) rfl (⟨by rw [Hx18.out, Hx19.out, Hx20.out, Hx21.out] <;> rfl, F26.gb⟩)
  · skip
    have c17H := Lib.hid c17
    have c17a : decide (0 < t.we - z) = false := dec_f c17
    have b29 := F16.bx4 1 rfl
    have b30 := F16.bx8 2 rfl
    go_wp2_with fail
    clear b29 b30
    have F31 := ((F16.front 1 rfl rfl).set 1 (.int .i64 (t.wh + z))).nf #[.int .i64 t.bl, .int .i64 (t.wh + z), .int .i64 t.we, .int .i64 t.sn] rfl
    clear F16
    have F32 := (F31.set 2 (.int .i64 (t.we - z))).nf #[.int .i64 t.bl, .int .i64 (t.wh + z), .int .i64 (t.we - z), .int .i64 t.sn] rfl
    clear F31
    refine (rroot_c _ _ (by omega)).mono ?_
    rintro e _ ⟨rfl, rfl⟩
    have hrb28 := root_bd (n := (t.bl + (t.wh + z)) * (t.bl + (t.wh + z)) + (l.gr * (c - (z * l.la)))) (by omega)
    obtain ⟨w33, hx34, F36, hxs35⟩ := (show Bun w [rbox (w.heap.size + 1) 48 #[.int .i64 t.bl, .int .i64 (t.wh + z), .int .i64 (t.we - z), .int .i64 t.sn], rbox (w.heap.size + 2) 48 #[.int .i64 0, .int .i64 0, .int .i64 0, .int .i64 0], rbox w.heap.size 29 (froC l (.slice sa l.cov.length sc)), rsl covEnc 3 lo hi (.slice sa l.cov.length sc) l.cov] _ from F32).name
    (try simp at hxs35)
    rw [hx34]
    clear hx34 F32
    cases c37 : up
    · skip
      have c37H := Lib.hid c37
      have Hx38 := Lib.hid (show (((frT l t c up).bl : Int)) = root ((t.bl + (t.wh + z)) * (t.bl + (t.wh + z)) + (l.gr * (c - (z * l.la)))) - (t.wh + z) by rw [frT, HZ.out, frZ, if_neg (by have := c17H.out; omega)]; simp only [sqT]; rw [if_neg (by rw [c37H.out]; simp)])
      have Hx39 := Lib.hid (show (((frT l t c up).wh : Int)) = t.wh + z by rw [frT, HZ.out, frZ, if_neg (by have := c17H.out; omega)])
      have Hx40 := Lib.hid (show (((frT l t c up).we : Int)) = t.we - z by rw [frT, HZ.out, frZ, if_neg (by have := c17H.out; omega)])
      have Hx41 := Lib.hid (show (((frT l t c up).sn : Int)) = t.sn by rw [frT, HZ.out, frZ, if_neg (by have := c17H.out; omega)])
      have b42 := F36.bx4 0 rfl
      have b43 := F36.bx4 1 rfl
      go_wp2_with fail
      clear b42 b43
      have F44 := (F36.set 0 (.int .i64 (root ((t.bl + (t.wh + z)) * (t.bl + (t.wh + z)) + (l.gr * (c - (z * l.la)))) - (t.wh + z)))).nf #[.int .i64 (root ((t.bl + (t.wh + z)) * (t.bl + (t.wh + z)) + (l.gr * (c - (z * l.la)))) - (t.wh + z)), .int .i64 (t.wh + z), .int .i64 (t.we - z), .int .i64 t.sn] rfl
      clear F36
      have F45 := (F44.front 1 rfl rfl).pt4 (.int .i64 (root ((t.bl + (t.wh + z)) * (t.bl + (t.wh + z)) + (l.gr * (c - (z * l.la)))) - (t.wh + z))) (.int .i64 (t.wh + z)) (.int .i64 (t.we - z)) (.int .i64 t.sn)
      clear F44
      have kb46 := F45.bx4 0 rfl
      go_wp2_with fail
      exact bodyPost_ret (v := .agg #[.int .i64 (root ((t.bl + (t.wh + z)) * (t.bl + (t.wh + z)) + (l.gr * (c - (z * l.la)))) - (t.wh + z)), .int .i64 (t.wh + z), .int .i64 (t.we - z), .int .i64 t.sn]) (by simp [results, Try.results68, go_sem, kb46]) rfl (⟨by rw [Hx38.out, Hx39.out, Hx40.out, Hx41.out] <;> rfl, F45.gb⟩)
    · skip
      have c37H := Lib.hid c37
      go_wp2_with fail
      refine (rroof_c _ _ (by omega)).mono ?_
      rintro e _ ⟨rfl, rfl⟩
      have hrb47 := roof_bd (n := (t.bl + (t.wh + z)) * (t.bl + (t.wh + z)) + (l.gr * (c - (z * l.la)))) (by omega)
      have Hx48 := Lib.hid (show (((frT l t c up).bl : Int)) = roof ((t.bl + (t.wh + z)) * (t.bl + (t.wh + z)) + (l.gr * (c - (z * l.la)))) - (t.wh + z) by rw [frT, HZ.out, frZ, if_neg (by have := c17H.out; omega)]; simp only [sqT]; rw [if_pos (by exact c37H.out)])
      have Hx49 := Lib.hid (show (((frT l t c up).wh : Int)) = t.wh + z by rw [frT, HZ.out, frZ, if_neg (by have := c17H.out; omega)])
      have Hx50 := Lib.hid (show (((frT l t c up).we : Int)) = t.we - z by rw [frT, HZ.out, frZ, if_neg (by have := c17H.out; omega)])
      have Hx51 := Lib.hid (show (((frT l t c up).sn : Int)) = t.sn by rw [frT, HZ.out, frZ, if_neg (by have := c17H.out; omega)])
      have b52 := F36.bx4 0 rfl
      have b53 := F36.bx4 1 rfl
      go_wp2_with fail
      clear b52 b53
      have F54 := (F36.set 0 (.int .i64 (roof ((t.bl + (t.wh + z)) * (t.bl + (t.wh + z)) + (l.gr * (c - (z * l.la)))) - (t.wh + z)))).nf #[.int .i64 (roof ((t.bl + (t.wh + z)) * (t.bl + (t.wh + z)) + (l.gr * (c - (z * l.la)))) - (t.wh + z)), .int .i64 (t.wh + z), .int .i64 (t.we - z), .int .i64 t.sn] rfl
      clear F36
      have F55 := (F54.front 1 rfl rfl).pt4 (.int .i64 (roof ((t.bl + (t.wh + z)) * (t.bl + (t.wh + z)) + (l.gr * (c - (z * l.la)))) - (t.wh + z))) (.int .i64 (t.wh + z)) (.int .i64 (t.we - z)) (.int .i64 t.sn)
      clear F54
      have kb56 := F55.bx4 0 rfl
      go_wp2_with fail
      exact bodyPost_ret (v := .agg #[.int .i64 (roof ((t.bl + (t.wh + z)) * (t.bl + (t.wh + z)) + (l.gr * (c - (z * l.la)))) - (t.wh + z)), .int .i64 (t.wh + z), .int .i64 (t.we - z), .int .i64 t.sn]) (by simp [results, Try.results68, go_sem, kb56]) rfl (⟨by rw [Hx48.out, Hx49.out, Hx50.out, Hx51.out] <;> rfl, F55.gb⟩)

theorem least_c (x : Ice) (w : World)  :
    Calls Try.prog 108 #[.agg (iceC x)] w (Ret (.agg #[.int .i64 x.bl.lo, .int .i64 x.wh.lo, .int .i64 x.we.lo, .int .i64 x.sn.lo]) w) := by
  have F1 : Bun w [] w := Bun.nil _
  go_enter Try.func108, Try.ntmps108
  go_wp2_with fail
  have F2 := F1.new 32 (iceC x) (n := w.heap.size) (by simp)
  clear F1
  have F3 := F2.new 48 #[.int .i64 x.bl.lo, .int .i64 x.wh.lo, .int .i64 x.we.lo, .int .i64 x.sn.lo] (n := (w.heap.size + 1)) (by simp)
  clear F2
  have kb4 := F3.bx4 0 rfl
  go_wp2_with fail
  exact bodyPost_ret (v := .agg #[.int .i64 x.bl.lo, .int .i64 x.wh.lo, .int .i64 x.we.lo, .int .i64 x.sn.lo]) (by simp [results, Try.results108, go_sem, kb4]) rfl (⟨rfl, F3.gb⟩)

theorem greatest_c (x : Ice) (w : World)  :
    Calls Try.prog 109 #[.agg (iceC x)] w (Ret (.agg #[.int .i64 x.bl.hi, .int .i64 x.wh.hi, .int .i64 x.we.hi, .int .i64 x.sn.hi]) w) := by
  have F1 : Bun w [] w := Bun.nil _
  go_enter Try.func109, Try.ntmps109
  go_wp2_with fail
  have F2 := F1.new 32 (iceC x) (n := w.heap.size) (by simp)
  clear F1
  have F3 := F2.new 48 #[.int .i64 x.bl.hi, .int .i64 x.wh.hi, .int .i64 x.we.hi, .int .i64 x.sn.hi] (n := (w.heap.size + 1)) (by simp)
  clear F2
  have kb4 := F3.bx4 0 rfl
  go_wp2_with fail
  exact bodyPost_ret (v := .agg #[.int .i64 x.bl.hi, .int .i64 x.wh.hi, .int .i64 x.we.hi, .int .i64 x.sn.hi]) (by simp [results, Try.results109, go_sem, kb4]) rfl (⟨rfl, F3.gb⟩)

theorem hull_c (a b : Sp) (w : World)  :
    Calls Try.prog 112 #[.agg #[.int .i64 a.lo, .int .i64 a.hi], .agg #[.int .i64 b.lo, .int .i64 b.hi]] w (Ret (.agg #[.int .i64 (min a.lo b.lo), .int .i64 (max a.hi b.hi)]) w) := by
  have F1 : Bun w [] w := Bun.nil _
  go_enter Try.func112, Try.ntmps112
  go_wp2_with fail
  have F2 := F1.new 27 #[.int .i64 a.lo, .int .i64 a.hi] (n := w.heap.size) (by simp)
  clear F1
  have F3 := F2.new 27 #[.int .i64 b.lo, .int .i64 b.hi] (n := (w.heap.size + 1)) (by simp)
  clear F2
  have F4 := F3.new 27 #[.int .i64 (min a.lo b.lo), .int .i64 (max a.hi b.hi)] (n := (w.heap.size + 2)) (by simp)
  clear F3
  have kb5 := F4.bx2 0 rfl
  go_wp2_with fail
  exact bodyPost_ret (v := .agg #[.int .i64 (min a.lo b.lo), .int .i64 (max a.hi b.hi)]) (by simp [results, Try.results112, go_sem, kb5]) rfl (⟨rfl, F4.gb⟩)

end Go.Proofs.Ythblaiefalbomaa
