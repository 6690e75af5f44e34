/- the reference of frost: a day of true ice. -/
import Derived.Test.YtdgplekokdeafaaGreatPF9
import Derived.Test.YtdgplekokdeafaaGreatPK1
import Derived.Test.YtdgplekokdeafaaGreatPKF1
set_option linter.unusedVariables false
set_option linter.unusedSimpArgs false
set_option linter.unnecessarySimpa false
namespace Go.Proofs.YtdgplekokdeafaaGreat
open Go.RowKit
set_option maxRecDepth 100000
structure Tr where
 bl : Int
 wh : Int
 we : Int
 sn : Int
def opn (l : Fro) (t : Tr) (d : Wea) (f : Int) : Tr :=
 if 0 < d.water then ⟨t.bl, t.wh, t.we + d.water + dn ((if d.clear = true then 0 else t.sn) + f) l.soak, 0⟩ else ⟨t.bl, t.wh, t.we, (if d.clear = true then 0 else t.sn) + f⟩
def thC (l : Fro) (s c : Int) : Sp := ⟨dn c (thr l.cov s).lo, upp c (thr l.cov s).hi⟩
def sqT (l : Fro) (t : Tr) (c z : Int) : Int := (t.bl + (t.wh + z)) * (t.bl + (t.wh + z)) + l.gr * (c - z * l.la)
noncomputable def frZ (l : Fro) (t : Tr) (c : Int) (up : Bool) (z : Int) : Tr :=
 if 0 < t.we - z then ⟨t.bl, t.wh + z, t.we - z, t.sn⟩ else ⟨(if up = true then roof (sqT l t c z) else root (sqT l t c z)) - (t.wh + z), t.wh + z, t.we - z, t.sn⟩
noncomputable def frT (l : Fro) (t : Tr) (c : Int) (up : Bool) : Tr := frZ l t c up (min t.we (c / l.la))
def thW (l : Fro) (w : Int) : Sp := ⟨dn w l.melt.lo, upp w l.melt.hi⟩
def mlT (t : Tr) (n : Int) : Tr := ⟨t.bl - min t.bl (n - min t.sn n - min t.wh (n - min t.sn n)), t.wh - min t.wh (n - min t.sn n), t.we, t.sn - min t.sn n⟩
structure TrK (t : Tr) (k m : Int) : Prop where
 bl : 0 <= t.bl /\ t.bl <= 5000 + 4000 * k
 wh : 0 <= t.wh /\ t.wh <= 5000 + 500000 * k
 we : 0 <= t.we
 sn : 0 <= t.sn
 sum : t.we + t.sn <= 10000 + 1200 * m
theorem opn_K {l : Fro} {t : Tr} {d : Wea} {f k : Int} (hL : LawOk l) (ht : TrK t k k) (hd : WeaOk d) (hf : 0 <= f /\ f <= 1000) : TrK (opn l t d f) k (k + 1) := by
 obtain ⟨b, wh, we, sn, sm⟩ := ht
 obtain ⟨hs1, hs2⟩ := hL.soak
 have hw := hd.water
 unfold opn
 have a1 : 0 <= (if d.clear = true then 0 else t.sn) /\ (if d.clear = true then 0 else t.sn) <= t.sn := by split <;> omega
 generalize (if d.clear = true then 0 else t.sn) = s1 at *
 have b1 := dn_bd (n := s1 + f) (p := l.soak) (by omega) (by omega) (by omega)
 split
 · exact ⟨b, wh, by show 0 <= t.we + d.water + _; omega, Int.le_refl _, by show t.we + d.water + _ + 0 <= _; omega⟩
 · exact ⟨b, wh, we, by show 0 <= s1 + f; omega, by show t.we + (s1 + f) <= _; omega⟩
set_option maxHeartbeats 8000000 in
theorem opened_c (lo hi : Nat) (v : Value) (l : Fro) (t : Tr) (k m : Int) (d : Wea) (f : Int) (w : World) (hl : Sl covEnc 3 lo hi w v l.cov) (h2 : hi <= w.heap.size) (hL : LawOk l) (ht : TrK t k m) (hk : (0 <= k /\ k <= 401) /\ 0 <= m /\ m <= 401) (hd : WeaOk d) (hf : 0 <= f /\ f <= 1000) :
  Calls Tryz.prog 34 #[.agg (froC l v), .agg #[.int .i64 t.bl, .int .i64 t.wh, .int .i64 t.we, .int .i64 t.sn], .agg (weaC d d.clear), .int .i64 f] w (Ret (.agg #[.int .i64 ((opn l t d f).bl), .int .i64 ((opn l t d f).wh), .int .i64 ((opn l t d f).we), .int .i64 ((opn l t d f).sn)]) w) := by
 have F1 : Bun w [] w := Bun.nil _
 have hm_cs := hl.len
 unfold maxLen at hm_cs
 obtain ⟨sa, sc, rfl⟩ := hl.any
 replace F1 := F1.sl0 hl h2 rfl
 clear hl
 obtain ⟨⟨hg1, hg2⟩, ⟨hl1, hl2⟩, ⟨hn1, hn2⟩, hpt, ⟨hm1, hm2, hm3⟩, ⟨hs1, hs2⟩, ⟨hw1, hw2, hw3⟩⟩ := id hL
 have HL := lhd hL
 clear hL hpt
 obtain ⟨⟨tb1, tb2⟩, ⟨tw1, tw2⟩, te1, ts1, tm1⟩ := ht
 obtain ⟨⟨dc1, dc2, dc3⟩, ⟨df1, df2, df3⟩, dw1, dw2⟩ := hd
 go_enter Tryz.func34, Tryz.ntmps34
 cases c3 : d.clear
 ·
  have c3H := lhd c3
  by_cases c4 : 0 < d.water
  ·
   have c4H := lhd c4
   go_wp2_with fail
   replace F1 := F1.new 29 (froC l (.slice sa l.cov.length sc)) (n := w.heap.size) (by simp)
   replace F1 := F1.new 47 #[.int .i64 t.bl, .int .i64 t.wh, .int .i64 t.we, .int .i64 (t.sn + f)] (n := (w.heap.size + 1)) (by simp)
   replace F1 := F1.new 51 (weaC d false) (n := (w.heap.size + 2)) (by simp)
   replace F1 := F1.new 47 #[.int .i64 0, .int .i64 0, .int .i64 0, .int .i64 0] (n := (w.heap.size + 3)) (by simp)
   have Fn_ := F1
   (try dsimp only [lpF, lpG] at Fn_)
   obtain ⟨w10, hx11, F13, hxs12⟩ := Fn_.name
   (try simp at hxs12)
   rw [hx11]
   clear hx11 F1 Fn_
   replace F13 := F13.drew
   refine ru_begin (fun W => W.cell? ⟨(w.heap.size + 2), 4, none⟩ = some (.int .i64 d.water) /\ W.cell? ⟨(w.heap.size + 1), 3, none⟩ = some (.int .i64 (t.sn + f)) /\ W.cell? ⟨w.heap.size, 5, none⟩ = some (.int .i64 l.soak)) 14 (by kernel_rfl) ?_ ?_
   · exact ⟨F13.q 1 4, F13.q 2 3, F13.q 3 5⟩
   obtain ⟨wd16, hwd_⟩ : ∃ x : World, w10.drew = x := ⟨_, rfl⟩
   rw [hwd_] at F13 ⊢
   have wd16s : w10.heap.size <= wd16.heap.size := by rw [← hwd_]; exact Nat.le_refl _
   clear hwd_
   have hS15 := (And.intro (F13.q 1 4) (And.intro (F13.q 2 3) (F13.q 3 5)))
   refine ru_t 0 [] ?_
   refine ru_t 2 [] ?_
   refine ru_t 3 [] ?_
   refine ru_t 5 [] ?_
   refine ru_t 6 [] ?_
   refine ru_t 7 [] ?_
   refine ru_t 8 [] ?_
   (try simp only [lpX])
   clear hS15
   refine ru_two 1 9 rfl rfl (by kernel_rfl) ?_ ?_
   ·
    intro K hK
    have kq0_ := F13.q 2 2
    go_simp
    clear kq0_
    refine ru_back hK (by exact ⟨F13.q 1 4, F13.q 2 3, F13.q 3 5⟩) (fun _ => ?_)
    clear hK K
    (try simp only [lpX])
    have hw17 : IntKind.i64.wrap (t.we + d.water) = t.we + d.water := IntWalk.i64_in _ (by omega)
    refine ru_p 4 ?_
    (try simp only [lpX])
    refine ru_o 9 fun K hK => ?_
    go_simp
    refine (rdown_c _ _ _ (by omega) (by omega) (by omega) (by omega)).mono ?_
    rintro e _ ⟨rfl, rfl⟩
    have hd18 := dn_bd (n := (t.sn + f)) (p := l.soak) (by omega) (by omega) (by omega)
    refine ru_back hK (by exact ⟨F13.q 1 4, F13.q 2 3, F13.q 3 5⟩) (fun _ => ?_)
    clear hK K
    (try simp only [lpX])
    have hw19 : IntKind.i64.wrap (t.we + d.water + (dn (t.sn + f) l.soak)) = t.we + d.water + (dn (t.sn + f) l.soak) := IntWalk.i64_in _ (by omega)
    refine ru_p 10 ?_
    (try simp only [lpX])
    refine ru_p 11 ?_
    (try simp only [lpX])
    refine ru_o 12 fun K hK => ?_
    have kb_ := F13.bx4 2 rfl
    go_simp
    clear kb_
    have F20 := ((F13.front 2 rfl rfl).set 2 (.int .i64 (t.we + d.water + (dn (t.sn + f) l.soak)))).nf #[.int .i64 t.bl, .int .i64 t.wh, .int .i64 (t.we + d.water + (dn (t.sn + f) l.soak)), .int .i64 (t.sn + f)] rfl
    clear F13
    refine ru_back hK (by exact ⟨F20.q 2 4, F20.q 0 3, F20.q 3 5⟩) (fun _ => ?_)
    clear hK K
    (try simp only [lpX])
    refine ru_p 13 ?_
    (try simp only [lpX])
    refine ru_o 14 fun K hK => ?_
    have kb_ := F20.bx4 0 rfl
    go_simp
    clear kb_
    have F21 := (F20.set 3 (.int .i64 0)).nf #[.int .i64 t.bl, .int .i64 t.wh, .int .i64 (t.we + d.water + (dn (t.sn + f) l.soak)), .int .i64 0] rfl
    clear F20
    refine ru_back_late hK (by kernel_rfl) ?_
    clear hK K
    (try simp only [lpX])
    refine ru_done (by kernel_rfl) ?_
    (try clear hw17 hw19)
    have Fn_ := ((F21.drop 2 rfl).drop 2 rfl)
    (try dsimp only [lpF, lpG] at Fn_)
    obtain ⟨w22, hx23, F25, hxs24⟩ := Fn_.name
    (try simp at hxs24)
    rw [hx23]
    clear hx23 F21 Fn_
    have Hx26 := lhd (show ((opn l t d f).bl) = t.bl by simp [opn, c3H.out, c4H.out])
    have Hx27 := lhd (show ((opn l t d f).wh) = t.wh by simp [opn, c3H.out, c4H.out])
    have Hx28 := lhd (show ((opn l t d f).we) = t.we + d.water + (dn (t.sn + f) l.soak) by simp [opn, c3H.out, c4H.out])
    have Hx29 := lhd (show ((opn l t d f).sn) = 0 by simp [opn, c3H.out, c4H.out])
    have b30 := F25.bx4 0 rfl
    have b31 := F25.bx4 1 rfl
    go_wp2_with fail
    clear b30 b31
    have F32 := (F25.front 1 rfl rfl).pt4 (.int .i64 t.bl) (.int .i64 t.wh) (.int .i64 (t.we + d.water + (dn (t.sn + f) l.soak))) (.int .i64 0)
    clear F25
    have kb33 := F32.bx4 0 rfl
    go_wp2_with fail
    exact bodyPost_ret (v := .agg #[.int .i64 t.bl, .int .i64 t.wh, .int .i64 (t.we + d.water + (dn (t.sn + f) l.soak)), .int .i64 0]) (by simp [results, Tryz.results34, go_sem, kb33]) rfl (⟨by rw [Hx26.out, Hx27.out, Hx28.out, Hx29.out] <;> rfl, F32.gb⟩)
   intro K hK
   go_simp
   refine (rdown_c _ _ _ (by omega) (by omega) (by omega) (by omega)).mono ?_
   rintro e _ ⟨rfl, rfl⟩
   have hd34 := dn_bd (n := (t.sn + f)) (p := l.soak) (by omega) (by omega) (by omega)
   refine ru_back hK (by exact ⟨F13.q 1 4, F13.q 2 3, F13.q 3 5⟩) (fun _ => ?_)
   clear hK K
   (try simp only [lpX])
   refine ru_o 1 fun K hK => ?_
   have kq0_ := F13.q 2 2
   go_simp
   clear kq0_
   refine ru_back hK (by exact ⟨F13.q 1 4, F13.q 2 3, F13.q 3 5⟩) (fun _ => ?_)
   clear hK K
   (try simp only [lpX])
   have hw35 : IntKind.i64.wrap (t.we + d.water) = t.we + d.water := IntWalk.i64_in _ (by omega)
   refine ru_p 4 ?_
   (try simp only [lpX])
   have hw36 : IntKind.i64.wrap (t.we + d.water + (dn (t.sn + f) l.soak)) = t.we + d.water + (dn (t.sn + f) l.soak) := IntWalk.i64_in _ (by omega)
   refine ru_p 10 ?_
   (try simp only [lpX])
   refine ru_p 11 ?_
   (try simp only [lpX])
   refine ru_o 12 fun K hK => ?_
   have kb_ := F13.bx4 2 rfl
   go_simp
   clear kb_
   have F37 := ((F13.front 2 rfl rfl).set 2 (.int .i64 (t.we + d.water + (dn (t.sn + f) l.soak)))).nf #[.int .i64 t.bl, .int .i64 t.wh, .int .i64 (t.we + d.water + (dn (t.sn + f) l.soak)), .int .i64 (t.sn + f)] rfl
   clear F13
   refine ru_back hK (by exact ⟨F37.q 2 4, F37.q 0 3, F37.q 3 5⟩) (fun _ => ?_)
   clear hK K
   (try simp only [lpX])
   refine ru_p 13 ?_
   (try simp only [lpX])
   refine ru_o 14 fun K hK => ?_
   have kb_ := F37.bx4 0 rfl
   go_simp
   clear kb_
   have F38 := (F37.set 3 (.int .i64 0)).nf #[.int .i64 t.bl, .int .i64 t.wh, .int .i64 (t.we + d.water + (dn (t.sn + f) l.soak)), .int .i64 0] rfl
   clear F37
   refine ru_back_late hK (by kernel_rfl) ?_
   clear hK K
   (try simp only [lpX])
   refine ru_done (by kernel_rfl) ?_
   (try clear hw17 hw19 hw35 hw36)
   have Fn_ := ((F38.drop 2 rfl).drop 2 rfl)
   (try dsimp only [lpF, lpG] at Fn_)
   obtain ⟨w39, hx40, F42, hxs41⟩ := Fn_.name
   (try simp at hxs41)
   rw [hx40]
   clear hx40 F38 Fn_
   have Hx43 := lhd (show ((opn l t d f).bl) = t.bl by simp [opn, c3H.out, c4H.out])
   have Hx44 := lhd (show ((opn l t d f).wh) = t.wh by simp [opn, c3H.out, c4H.out])
   have Hx45 := lhd (show ((opn l t d f).we) = t.we + d.water + (dn (t.sn + f) l.soak) by simp [opn, c3H.out, c4H.out])
   have Hx46 := lhd (show ((opn l t d f).sn) = 0 by simp [opn, c3H.out, c4H.out])
   have b47 := F42.bx4 0 rfl
   have b48 := F42.bx4 1 rfl
   go_wp2_with fail
   clear b47 b48
   have F49 := (F42.front 1 rfl rfl).pt4 (.int .i64 t.bl) (.int .i64 t.wh) (.int .i64 (t.we + d.water + (dn (t.sn + f) l.soak))) (.int .i64 0)
   clear F42
   have kb50 := F49.bx4 0 rfl
   go_wp2_with fail
   exact bodyPost_ret (v := .agg #[.int .i64 t.bl, .int .i64 t.wh, .int .i64 (t.we + d.water + (dn (t.sn + f) l.soak)), .int .i64 0]) (by simp [results, Tryz.results34, go_sem, kb50]) rfl (⟨by rw [Hx43.out, Hx44.out, Hx45.out, Hx46.out] <;> rfl, F49.gb⟩)
  have c4H := lhd c4
  have c4a := dec_f c4
  have Hx51 := lhd (show ((opn l t d f).bl) = t.bl by simp [opn, c3H.out, c4H.out])
  have Hx52 := lhd (show ((opn l t d f).wh) = t.wh by simp [opn, c3H.out, c4H.out])
  have Hx53 := lhd (show ((opn l t d f).we) = t.we by simp [opn, c3H.out, c4H.out])
  have Hx54 := lhd (show ((opn l t d f).sn) = t.sn + f by simp [opn, c3H.out, c4H.out])
  go_wp2_with fail
  replace F1 := F1.new 29 (froC l (.slice sa l.cov.length sc)) (n := w.heap.size) (by simp)
  replace F1 := F1.new 47 #[.int .i64 t.bl, .int .i64 t.wh, .int .i64 t.we, .int .i64 (t.sn + f)] (n := (w.heap.size + 1)) (by simp)
  replace F1 := F1.new 51 (weaC d false) (n := (w.heap.size + 2)) (by simp)
  replace F1 := F1.new 47 #[.int .i64 t.bl, .int .i64 t.wh, .int .i64 t.we, .int .i64 (t.sn + f)] (n := (w.heap.size + 3)) (by simp)
  have kb59 := F1.bx4 0 rfl
  go_wp2_with fail
  exact bodyPost_ret (v := .agg #[.int .i64 t.bl, .int .i64 t.wh, .int .i64 t.we, .int .i64 (t.sn + f)]) (by simp [results, Tryz.results34, go_sem, kb59]) rfl (⟨by rw [Hx51.out, Hx52.out, Hx53.out, Hx54.out] <;> rfl, F1.gb⟩)
 have c3H := lhd c3
 by_cases c60 : 0 < d.water
 ·
  have c60H := lhd c60
  go_wp2_with fail
  replace F1 := F1.new 29 (froC l (.slice sa l.cov.length sc)) (n := w.heap.size) (by simp)
  replace F1 := F1.new 47 #[.int .i64 t.bl, .int .i64 t.wh, .int .i64 t.we, .int .i64 f] (n := (w.heap.size + 1)) (by simp)
  replace F1 := F1.new 51 (weaC d true) (n := (w.heap.size + 2)) (by simp)
  replace F1 := F1.new 47 #[.int .i64 0, .int .i64 0, .int .i64 0, .int .i64 0] (n := (w.heap.size + 3)) (by simp)
  have Fn_ := F1
  (try dsimp only [lpF, lpG] at Fn_)
  obtain ⟨w66, hx67, F69, hxs68⟩ := Fn_.name
  (try simp at hxs68)
  rw [hx67]
  clear hx67 F1 Fn_
  replace F69 := F69.drew
  refine ru_begin (fun W => W.cell? ⟨(w.heap.size + 2), 4, none⟩ = some (.int .i64 d.water) /\ W.cell? ⟨(w.heap.size + 1), 3, none⟩ = some (.int .i64 f) /\ W.cell? ⟨w.heap.size, 5, none⟩ = some (.int .i64 l.soak)) 14 (by kernel_rfl) ?_ ?_
  · exact ⟨F69.q 1 4, F69.q 2 3, F69.q 3 5⟩
  obtain ⟨wd72, hwd_⟩ : ∃ x : World, w66.drew = x := ⟨_, rfl⟩
  rw [hwd_] at F69 ⊢
  have wd72s : w66.heap.size <= wd72.heap.size := by rw [← hwd_]; exact Nat.le_refl _
  clear hwd_
  have hS71 := (And.intro (F69.q 1 4) (And.intro (F69.q 2 3) (F69.q 3 5)))
  refine ru_t 0 [] ?_
  refine ru_t 2 [] ?_
  refine ru_t 3 [] ?_
  refine ru_t 5 [] ?_
  refine ru_t 6 [] ?_
  refine ru_t 7 [] ?_
  refine ru_t 8 [] ?_
  (try simp only [lpX])
  clear hS71
  refine ru_two 1 9 rfl rfl (by kernel_rfl) ?_ ?_
  ·
   intro K hK
   have kq0_ := F69.q 2 2
   go_simp
   clear kq0_
   refine ru_back hK (by exact ⟨F69.q 1 4, F69.q 2 3, F69.q 3 5⟩) (fun _ => ?_)
   clear hK K
   (try simp only [lpX])
   have hw73 : IntKind.i64.wrap (t.we + d.water) = t.we + d.water := IntWalk.i64_in _ (by omega)
   refine ru_p 4 ?_
   (try simp only [lpX])
   refine ru_o 9 fun K hK => ?_
   go_simp
   refine (rdown_c _ _ _ (by omega) (by omega) (by omega) (by omega)).mono ?_
   rintro e _ ⟨rfl, rfl⟩
   have hd74 := dn_bd (n := f) (p := l.soak) (by omega) (by omega) (by omega)
   refine ru_back hK (by exact ⟨F69.q 1 4, F69.q 2 3, F69.q 3 5⟩) (fun _ => ?_)
   clear hK K
   (try simp only [lpX])
   have hw75 : IntKind.i64.wrap (t.we + d.water + (dn f l.soak)) = t.we + d.water + (dn f l.soak) := IntWalk.i64_in _ (by omega)
   refine ru_p 10 ?_
   (try simp only [lpX])
   refine ru_p 11 ?_
   (try simp only [lpX])
   refine ru_o 12 fun K hK => ?_
   have kb_ := F69.bx4 2 rfl
   go_simp
   clear kb_
   have F76 := ((F69.front 2 rfl rfl).set 2 (.int .i64 (t.we + d.water + (dn f l.soak)))).nf #[.int .i64 t.bl, .int .i64 t.wh, .int .i64 (t.we + d.water + (dn f l.soak)), .int .i64 f] rfl
   clear F69
   refine ru_back hK (by exact ⟨F76.q 2 4, F76.q 0 3, F76.q 3 5⟩) (fun _ => ?_)
   clear hK K
   (try simp only [lpX])
   refine ru_p 13 ?_
   (try simp only [lpX])
   refine ru_o 14 fun K hK => ?_
   have kb_ := F76.bx4 0 rfl
   go_simp
   clear kb_
   have F77 := (F76.set 3 (.int .i64 0)).nf #[.int .i64 t.bl, .int .i64 t.wh, .int .i64 (t.we + d.water + (dn f l.soak)), .int .i64 0] rfl
   clear F76
   refine ru_back_late hK (by kernel_rfl) ?_
   clear hK K
   (try simp only [lpX])
   refine ru_done (by kernel_rfl) ?_
   (try clear hw73 hw75)
   have Fn_ := ((F77.drop 2 rfl).drop 2 rfl)
   (try dsimp only [lpF, lpG] at Fn_)
   obtain ⟨w78, hx79, F81, hxs80⟩ := Fn_.name
   (try simp at hxs80)
   rw [hx79]
   clear hx79 F77 Fn_
   have Hx82 := lhd (show ((opn l t d f).bl) = t.bl by simp [opn, c3H.out, c60H.out])
   have Hx83 := lhd (show ((opn l t d f).wh) = t.wh by simp [opn, c3H.out, c60H.out])
   have Hx84 := lhd (show ((opn l t d f).we) = t.we + d.water + (dn f l.soak) by simp [opn, c3H.out, c60H.out])
   have Hx85 := lhd (show ((opn l t d f).sn) = 0 by simp [opn, c3H.out, c60H.out])
   have b86 := F81.bx4 0 rfl
   have b87 := F81.bx4 1 rfl
   go_wp2_with fail
   clear b86 b87
   have F88 := (F81.front 1 rfl rfl).pt4 (.int .i64 t.bl) (.int .i64 t.wh) (.int .i64 (t.we + d.water + (dn f l.soak))) (.int .i64 0)
   clear F81
   have kb89 := F88.bx4 0 rfl
   go_wp2_with fail
   exact bodyPost_ret (v := .agg #[.int .i64 t.bl, .int .i64 t.wh, .int .i64 (t.we + d.water + (dn f l.soak)), .int .i64 0]) (by simp [results, Tryz.results34, go_sem, kb89]) rfl (⟨by rw [Hx82.out, Hx83.out, Hx84.out, Hx85.out] <;> rfl, F88.gb⟩)
  intro K hK
  go_simp
  refine (rdown_c _ _ _ (by omega) (by omega) (by omega) (by omega)).mono ?_
  rintro e _ ⟨rfl, rfl⟩
  have hd90 := dn_bd (n := f) (p := l.soak) (by omega) (by omega) (by omega)
  refine ru_back hK (by exact ⟨F69.q 1 4, F69.q 2 3, F69.q 3 5⟩) (fun _ => ?_)
  clear hK K
  (try simp only [lpX])
  refine ru_o 1 fun K hK => ?_
  have kq0_ := F69.q 2 2
  go_simp
  clear kq0_
  refine ru_back hK (by exact ⟨F69.q 1 4, F69.q 2 3, F69.q 3 5⟩) (fun _ => ?_)
  clear hK K
  (try simp only [lpX])
  have hw91 : IntKind.i64.wrap (t.we + d.water) = t.we + d.water := IntWalk.i64_in _ (by omega)
  refine ru_p 4 ?_
  (try simp only [lpX])
  have hw92 : IntKind.i64.wrap (t.we + d.water + (dn f l.soak)) = t.we + d.water + (dn f l.soak) := IntWalk.i64_in _ (by omega)
  refine ru_p 10 ?_
  (try simp only [lpX])
  refine ru_p 11 ?_
  (try simp only [lpX])
  refine ru_o 12 fun K hK => ?_
  have kb_ := F69.bx4 2 rfl
  go_simp
  clear kb_
  have F93 := ((F69.front 2 rfl rfl).set 2 (.int .i64 (t.we + d.water + (dn f l.soak)))).nf #[.int .i64 t.bl, .int .i64 t.wh, .int .i64 (t.we + d.water + (dn f l.soak)), .int .i64 f] rfl
  clear F69
  refine ru_back hK (by exact ⟨F93.q 2 4, F93.q 0 3, F93.q 3 5⟩) (fun _ => ?_)
  clear hK K
  (try simp only [lpX])
  refine ru_p 13 ?_
  (try simp only [lpX])
  refine ru_o 14 fun K hK => ?_
  have kb_ := F93.bx4 0 rfl
  go_simp
  clear kb_
  have F94 := (F93.set 3 (.int .i64 0)).nf #[.int .i64 t.bl, .int .i64 t.wh, .int .i64 (t.we + d.water + (dn f l.soak)), .int .i64 0] rfl
  clear F93
  refine ru_back_late hK (by kernel_rfl) ?_
  clear hK K
  (try simp only [lpX])
  refine ru_done (by kernel_rfl) ?_
  (try clear hw73 hw75 hw91 hw92)
  have Fn_ := ((F94.drop 2 rfl).drop 2 rfl)
  (try dsimp only [lpF, lpG] at Fn_)
  obtain ⟨w95, hx96, F98, hxs97⟩ := Fn_.name
  (try simp at hxs97)
  rw [hx96]
  clear hx96 F94 Fn_
  have Hx99 := lhd (show ((opn l t d f).bl) = t.bl by simp [opn, c3H.out, c60H.out])
  have Hx100 := lhd (show ((opn l t d f).wh) = t.wh by simp [opn, c3H.out, c60H.out])
  have Hx101 := lhd (show ((opn l t d f).we) = t.we + d.water + (dn f l.soak) by simp [opn, c3H.out, c60H.out])
  have Hx102 := lhd (show ((opn l t d f).sn) = 0 by simp [opn, c3H.out, c60H.out])
  have b103 := F98.bx4 0 rfl
  have b104 := F98.bx4 1 rfl
  go_wp2_with fail
  clear b103 b104
  have F105 := (F98.front 1 rfl rfl).pt4 (.int .i64 t.bl) (.int .i64 t.wh) (.int .i64 (t.we + d.water + (dn f l.soak))) (.int .i64 0)
  clear F98
  have kb106 := F105.bx4 0 rfl
  go_wp2_with fail
  exact bodyPost_ret (v := .agg #[.int .i64 t.bl, .int .i64 t.wh, .int .i64 (t.we + d.water + (dn f l.soak)), .int .i64 0]) (by simp [results, Tryz.results34, go_sem, kb106]) rfl (⟨by rw [Hx99.out, Hx100.out, Hx101.out, Hx102.out] <;> rfl, F105.gb⟩)
 have c60H := lhd c60
 have c60a := dec_f c60
 have Hx107 := lhd (show ((opn l t d f).bl) = t.bl by simp [opn, c3H.out, c60H.out])
 have Hx108 := lhd (show ((opn l t d f).wh) = t.wh by simp [opn, c3H.out, c60H.out])
 have Hx109 := lhd (show ((opn l t d f).we) = t.we by simp [opn, c3H.out, c60H.out])
 have Hx110 := lhd (show ((opn l t d f).sn) = f by simp [opn, c3H.out, c60H.out])
 go_wp2_with fail
 replace F1 := F1.new 29 (froC l (.slice sa l.cov.length sc)) (n := w.heap.size) (by simp)
 replace F1 := F1.new 47 #[.int .i64 t.bl, .int .i64 t.wh, .int .i64 t.we, .int .i64 f] (n := (w.heap.size + 1)) (by simp)
 replace F1 := F1.new 51 (weaC d true) (n := (w.heap.size + 2)) (by simp)
 replace F1 := F1.new 47 #[.int .i64 t.bl, .int .i64 t.wh, .int .i64 t.we, .int .i64 f] (n := (w.heap.size + 3)) (by simp)
 have kb115 := F1.bx4 0 rfl
 go_wp2_with fail
 exact bodyPost_ret (v := .agg #[.int .i64 t.bl, .int .i64 t.wh, .int .i64 t.we, .int .i64 f]) (by simp [results, Tryz.results34, go_sem, kb115]) rfl (⟨by rw [Hx107.out, Hx108.out, Hx109.out, Hx110.out] <;> rfl, F1.gb⟩)
set_option maxHeartbeats 4000000 in
theorem thawed_c (lo hi : Nat) (v : Value) (l : Fro) (n : Int) (w : World) (hl : Sl covEnc 3 lo hi w v l.cov) (h2 : hi <= w.heap.size) (hL : LawOk l) (hn : 0 <= n /\ n <= 1000) :
  Calls Tryz.prog 36 #[.agg (froC l v), .int .i64 n] w (Ret (.agg #[.int .i64 ((thW l n).lo), .int .i64 ((thW l n).hi)]) w) := by
 have F1 : Bun w [] w := Bun.nil _
 have hm_cs := hl.len
 unfold maxLen at hm_cs
 obtain ⟨sa, sc, rfl⟩ := hl.any
 replace F1 := F1.sl0 hl h2 rfl
 clear hl
 obtain ⟨⟨hg1, hg2⟩, ⟨hl1, hl2⟩, ⟨hn1, hn2⟩, hpt, ⟨hm1, hm2, hm3⟩, ⟨hs1, hs2⟩, ⟨hw1, hw2, hw3⟩⟩ := id hL
 have HL := lhd hL
 clear hL hpt
 go_enter Tryz.func36, Tryz.ntmps36
 go_wp2_with fail
 replace F1 := F1.new 29 (froC l (.slice sa l.cov.length sc)) (n := w.heap.size) (by simp)
 replace F1 := F1.new 27 #[.int .i64 0, .int .i64 0] (n := (w.heap.size + 1)) (by simp)
 have Fn_ := F1
 (try dsimp only [lpF, lpG] at Fn_)
 obtain ⟨w7, hx8, F10, hxs9⟩ := Fn_.name
 (try simp at hxs9)
 rw [hx8]
 clear hx8 F1 Fn_
 replace F10 := F10.drew
 refine ru_begin (fun W => W.cell? ⟨w.heap.size, 3, none⟩ = some (.int .i64 l.melt.lo) /\ W.cell? ⟨w.heap.size, 4, none⟩ = some (.int .i64 l.melt.hi)) 11 (by kernel_rfl) ?_ ?_
 · exact ⟨F10.q 1 3, F10.q 1 4⟩
 obtain ⟨wd13, hwd_⟩ : ∃ x : World, w7.drew = x := ⟨_, rfl⟩
 rw [hwd_] at F10 ⊢
 have wd13s : w7.heap.size <= wd13.heap.size := by rw [← hwd_]; exact Nat.le_refl _
 clear hwd_
 have hS12 := (And.intro (F10.q 1 3) (F10.q 1 4))
 refine ru_t 0 [] ?_
 refine ru_t 1 [] ?_
 refine ru_t 2 [] ?_
 refine ru_t 3 [] ?_
 refine ru_t 5 [] ?_
 refine ru_t 6 [] ?_
 refine ru_t 7 [] ?_
 refine ru_t 8 [] ?_
 (try simp only [lpX])
 clear hS12
 refine ru_o 4 fun K hK => ?_
 go_simp
 refine (rdown_c _ _ _ (by omega) (by omega) (by omega) (by omega)).mono ?_
 rintro e _ ⟨rfl, rfl⟩
 have hd14 := dn_bd7 (n := n) (p := l.melt.lo) (by omega) (by omega) (by omega)
 refine ru_back hK (by exact ⟨F10.q 1 3, F10.q 1 4⟩) (fun _ => ?_)
 clear hK K
 (try simp only [lpX])
 refine ru_o 9 fun K hK => ?_
 go_simp
 refine (rup_c _ _ _ (by omega) (by omega) (by omega) (by omega)).mono ?_
 rintro e _ ⟨rfl, rfl⟩
 have hd15 := up_bd7 (n := n) (p := l.melt.hi) (by omega) (by omega) (by omega)
 refine ru_back hK (by exact ⟨F10.q 1 3, F10.q 1 4⟩) (fun _ => ?_)
 clear hK K
 (try simp only [lpX])
 refine ru_p 10 ?_
 (try simp only [lpX])
 refine ru_o 11 fun K hK => ?_
 have kb_ := F10.bx2 0 rfl
 go_simp
 clear kb_
 replace F10 := F10.pt2 (.int .i64 (dn n l.melt.lo)) (.int .i64 (upp n l.melt.hi))
 refine ru_back_late hK (by kernel_rfl) ?_
 clear hK K
 (try simp only [lpX])
 refine ru_done (by kernel_rfl) ?_
 have Fn_ := (F10.drop 1 rfl)
 (try dsimp only [lpF, lpG] at Fn_)
 obtain ⟨w17, hx18, F20, hxs19⟩ := Fn_.name
 (try simp at hxs19)
 rw [hx18]
 clear hx18 F10 Fn_
 have Hx21 := lhd (show ((thW l n).lo) = dn n l.melt.lo by rfl)
 have Hx22 := lhd (show ((thW l n).hi) = upp n l.melt.hi by rfl)
 go_wp2_with fail
 have kb23 := F20.bx2 0 rfl
 go_wp2_with fail
 exact bodyPost_ret (v := .agg #[.int .i64 (dn n l.melt.lo), .int .i64 (upp n l.melt.hi)]) (by simp [results, Tryz.results36, go_sem, kb23]) rfl (⟨by rw [Hx21.out, Hx22.out] <;> rfl, F20.gb⟩)
set_option maxHeartbeats 4000000 in
theorem rmelted_c (t : Tr) (k m n : Int) (w : World)  (ht : TrK t k m) (hk : (0 <= k /\ k <= 401) /\ 0 <= m /\ m <= 401) (hn : 0 <= n /\ n <= 100000) :
  Calls Tryz.prog 35 #[.agg #[.int .i64 t.bl, .int .i64 t.wh, .int .i64 t.we, .int .i64 t.sn], .int .i64 n] w (Ret (.agg #[.int .i64 ((mlT t n).bl), .int .i64 ((mlT t n).wh), .int .i64 ((mlT t n).we), .int .i64 ((mlT t n).sn)]) w) := by
 have F1 : Bun w [] w := Bun.nil _
 obtain ⟨⟨tb1, tb2⟩, ⟨tw1, tw2⟩, te1, ts1, tm1⟩ := ht
 go_enter Tryz.func35, Tryz.ntmps35
 have Hx2 := lhd (show ((mlT t n).bl) = t.bl - (min t.bl (n - (min t.sn n) - (min t.wh (n - (min t.sn n))))) by rfl)
 have Hx3 := lhd (show ((mlT t n).wh) = t.wh - (min t.wh (n - (min t.sn n))) by rfl)
 have Hx4 := lhd (show ((mlT t n).we) = t.we by rfl)
 have Hx5 := lhd (show ((mlT t n).sn) = t.sn - (min t.sn n) by rfl)
 go_wp2_with fail
 replace F1 := F1.new 47 #[.int .i64 (t.bl - (min t.bl (n - (min t.sn n) - (min t.wh (n - (min t.sn n)))))), .int .i64 (t.wh - (min t.wh (n - (min t.sn n)))), .int .i64 t.we, .int .i64 (t.sn - (min t.sn n))] (n := w.heap.size) (by simp)
 replace F1 := F1.new 47 #[.int .i64 (t.bl - (min t.bl (n - (min t.sn n) - (min t.wh (n - (min t.sn n)))))), .int .i64 (t.wh - (min t.wh (n - (min t.sn n)))), .int .i64 t.we, .int .i64 (t.sn - (min t.sn n))] (n := (w.heap.size + 1)) (by simp)
 have kb8 := F1.bx4 0 rfl
 go_wp2_with fail
 exact bodyPost_ret (v := .agg #[.int .i64 (t.bl - (min t.bl (n - (min t.sn n) - (min t.wh (n - (min t.sn n)))))), .int .i64 (t.wh - (min t.wh (n - (min t.sn n)))), .int .i64 t.we, .int .i64 (t.sn - (min t.sn n))]) (by simp [results, Tryz.results35, go_sem, kb8]) rfl (⟨by rw [Hx2.out, Hx3.out, Hx4.out, Hx5.out] <;> rfl, F1.gb⟩)
set_option maxHeartbeats 8000000 in
theorem rfrozen_c (lo hi : Nat) (v : Value) (l : Fro) (t : Tr) (k m : Int) (c : Int) (up : Bool) (w : World) (hl : Sl covEnc 3 lo hi w v l.cov) (h2 : hi <= w.heap.size) (hL : LawOk l) (ht : TrK t k m) (hk : (0 <= k /\ k <= 401) /\ 0 <= m /\ m <= 401) (hc : 0 <= c /\ c <= 1000) :
  Calls Tryz.prog 37 #[.agg (froC l v), .agg #[.int .i64 t.bl, .int .i64 t.wh, .int .i64 t.we, .int .i64 t.sn], .int .i64 c, .bool up] w (Ret (.agg #[.int .i64 ((frT l t c up).bl), .int .i64 ((frT l t c up).wh), .int .i64 ((frT l t c up).we), .int .i64 ((frT l t c up).sn)]) w) := by
 have F1 : Bun w [] w := Bun.nil _
 have hm_cs := hl.len
 unfold maxLen at hm_cs
 obtain ⟨sa, sc, rfl⟩ := hl.any
 replace F1 := F1.sl0 hl h2 rfl
 clear hl
 obtain ⟨⟨hg1, hg2⟩, ⟨hl1, hl2⟩, ⟨hn1, hn2⟩, hpt, ⟨hm1, hm2, hm3⟩, ⟨hs1, hs2⟩, ⟨hw1, hw2, hw3⟩⟩ := id hL
 have HL := lhd hL
 clear hL hpt
 obtain ⟨⟨tb1, tb2⟩, ⟨tw1, tw2⟩, te1, ts1, tm1⟩ := ht
 obtain ⟨z, hz⟩ : ∃ z, min t.we (c / l.la) = z := ⟨_, rfl⟩
 have HZ := lhd hz
 have hzd := div_nn (b := l.la) (c := c) (by omega) (by omega)
 have hz1 : 0 <= z /\ z <= t.we /\ z <= c / l.la := by omega
 have hzq : z * l.la <= c := mul_of_div (by omega) hz1.2.2
 have hqn : 0 <= z * l.la := Int.mul_nonneg (by omega) (by omega)
 have hgn : 0 <= l.gr * (c - z * l.la) := Int.mul_nonneg (by omega) (by omega)
 have hg3 : l.gr * (c - z * l.la) <= 10000000 := by
  have h1 : l.gr * (c - z * l.la) <= l.gr * 1000 := Int.mul_le_mul_of_nonneg_left (by omega) (by omega)
  omega
 have hhn : 0 <= (t.bl + (t.wh + z)) * (t.bl + (t.wh + z)) := Int.mul_nonneg (by omega) (by omega)
 have hh2 : (t.bl + (t.wh + z)) * (t.bl + (t.wh + z)) <= 90000000000000000 := by
  have := sq_lt (a := t.bl + (t.wh + z)) (b := 300000000) (by omega) (by omega); omega
 go_enter Tryz.func37, Tryz.ntmps37
 go_wp2_with fail
 replace F1 := F1.new 29 (froC l (.slice sa l.cov.length sc)) (n := w.heap.size) (by simp)
 replace F1 := F1.new 47 #[.int .i64 t.bl, .int .i64 t.wh, .int .i64 t.we, .int .i64 t.sn] (n := (w.heap.size + 1)) (by simp)
 replace F1 := F1.new 47 #[.int .i64 0, .int .i64 0, .int .i64 0, .int .i64 0] (n := (w.heap.size + 2)) (by simp)
 have b10 := F1.bx4 1 rfl
 have b11 := F1.bx8 2 rfl
 have hq8 : Int.tdiv c l.la = c / l.la := Int.tdiv_eq_ediv_of_nonneg (by omega)
 have hw9 : IntKind.i64.wrap (c / l.la) = c / l.la := IntWalk.i64_in _ (by omega)
 go_quiet (fail)
 clear b10 b11 hq8 hw9
 replace F1 := F1.drewN nq
 have Fn_ := F1
 (try dsimp only [lpF, lpG] at Fn_)
 obtain ⟨w13, hx14, F16, hxs15⟩ := Fn_.name
 (try simp at hxs15)
 rw [hx14]
 clear hx14 F1 Fn_
 by_cases c17 : 0 < t.we - z
 ·
  have c17H := lhd c17
  have Hx18 := lhd (show ((frT l t c up).bl) = t.bl by rw [frT, HZ.out, frZ, if_pos c17H.out])
  have Hx19 := lhd (show ((frT l t c up).wh) = t.wh + z by rw [frT, HZ.out, frZ, if_pos c17H.out])
  have Hx20 := lhd (show ((frT l t c up).we) = t.we - z by rw [frT, HZ.out, frZ, if_pos c17H.out])
  have Hx21 := lhd (show ((frT l t c up).sn) = t.sn by rw [frT, HZ.out, frZ, if_pos c17H.out])
  have b22 := F16.bx4 0 rfl
  have b23 := F16.bx4 1 rfl
  go_wp2_with fail
  clear b22 b23
  have F24 := ((F16.front 1 rfl rfl).set 1 (.int .i64 (t.wh + z))).nf #[.int .i64 t.bl, .int .i64 (t.wh + z), .int .i64 t.we, .int .i64 t.sn] rfl
  clear F16
  have F25 := (F24.set 2 (.int .i64 (t.we - z))).nf #[.int .i64 t.bl, .int .i64 (t.wh + z), .int .i64 (t.we - z), .int .i64 t.sn] rfl
  clear F24
  have F26 := (F25.front 1 rfl rfl).pt4 (.int .i64 t.bl) (.int .i64 (t.wh + z)) (.int .i64 (t.we - z)) (.int .i64 t.sn)
  clear F25
  have kb27 := F26.bx4 0 rfl
  go_wp2_with fail
  exact bodyPost_ret (v := .agg #[.int .i64 t.bl, .int .i64 (t.wh + z), .int .i64 (t.we - z), .int .i64 t.sn]) (by simp [results, Tryz.results37, go_sem, kb27]) rfl (⟨by rw [Hx18.out, Hx19.out, Hx20.out, Hx21.out] <;> rfl, F26.gb⟩)
 have c17H := lhd c17
 have c17a := dec_f c17
 have b29 := F16.bx4 1 rfl
 have b30 := F16.bx8 2 rfl
 go_wp2_with fail
 clear b29 b30
 have F31 := ((F16.front 1 rfl rfl).set 1 (.int .i64 (t.wh + z))).nf #[.int .i64 t.bl, .int .i64 (t.wh + z), .int .i64 t.we, .int .i64 t.sn] rfl
 clear F16
 have F32 := (F31.set 2 (.int .i64 (t.we - z))).nf #[.int .i64 t.bl, .int .i64 (t.wh + z), .int .i64 (t.we - z), .int .i64 t.sn] rfl
 clear F31
 refine (rroot_c _ _ (by omega)).mono ?_
 rintro e _ ⟨rfl, rfl⟩
 have hrb28 := root_bd (n := (t.bl + (t.wh + z)) * (t.bl + (t.wh + z)) + (l.gr * (c - (z * l.la)))) (by omega)
 have Fn_ := F32
 (try dsimp only [lpF, lpG] at Fn_)
 obtain ⟨w33, hx34, F36, hxs35⟩ := Fn_.name
 (try simp at hxs35)
 rw [hx34]
 clear hx34 F32 Fn_
 cases c37 : up
 ·
  have c37H := lhd c37
  have Hx38 := lhd (show ((frT l t c up).bl) = root ((t.bl + (t.wh + z)) * (t.bl + (t.wh + z)) + (l.gr * (c - (z * l.la)))) - (t.wh + z) by rw [frT, HZ.out, frZ, if_neg (by have := c17H.out; omega)]; simp only [sqT]; rw [if_neg (by rw [c37H.out]; simp)])
  have Hx39 := lhd (show ((frT l t c up).wh) = t.wh + z by rw [frT, HZ.out, frZ, if_neg (by have := c17H.out; omega)])
  have Hx40 := lhd (show ((frT l t c up).we) = t.we - z by rw [frT, HZ.out, frZ, if_neg (by have := c17H.out; omega)])
  have Hx41 := lhd (show ((frT l t c up).sn) = t.sn by rw [frT, HZ.out, frZ, if_neg (by have := c17H.out; omega)])
  have b42 := F36.bx4 0 rfl
  have b43 := F36.bx4 1 rfl
  go_wp2_with fail
  clear b42 b43
  have F44 := (F36.set 0 (.int .i64 (root ((t.bl + (t.wh + z)) * (t.bl + (t.wh + z)) + (l.gr * (c - (z * l.la)))) - (t.wh + z)))).nf #[.int .i64 (root ((t.bl + (t.wh + z)) * (t.bl + (t.wh + z)) + (l.gr * (c - (z * l.la)))) - (t.wh + z)), .int .i64 (t.wh + z), .int .i64 (t.we - z), .int .i64 t.sn] rfl
  clear F36
  have F45 := (F44.front 1 rfl rfl).pt4 (.int .i64 (root ((t.bl + (t.wh + z)) * (t.bl + (t.wh + z)) + (l.gr * (c - (z * l.la)))) - (t.wh + z))) (.int .i64 (t.wh + z)) (.int .i64 (t.we - z)) (.int .i64 t.sn)
  clear F44
  have kb46 := F45.bx4 0 rfl
  go_wp2_with fail
  exact bodyPost_ret (v := .agg #[.int .i64 (root ((t.bl + (t.wh + z)) * (t.bl + (t.wh + z)) + (l.gr * (c - (z * l.la)))) - (t.wh + z)), .int .i64 (t.wh + z), .int .i64 (t.we - z), .int .i64 t.sn]) (by simp [results, Tryz.results37, go_sem, kb46]) rfl (⟨by rw [Hx38.out, Hx39.out, Hx40.out, Hx41.out] <;> rfl, F45.gb⟩)
 have c37H := lhd c37
 go_wp2_with fail
 refine (rroof_c _ _ (by omega)).mono ?_
 rintro e _ ⟨rfl, rfl⟩
 have hrb47 := roof_bd (n := (t.bl + (t.wh + z)) * (t.bl + (t.wh + z)) + (l.gr * (c - (z * l.la)))) (by omega)
 have Hx48 := lhd (show ((frT l t c up).bl) = roof ((t.bl + (t.wh + z)) * (t.bl + (t.wh + z)) + (l.gr * (c - (z * l.la)))) - (t.wh + z) by rw [frT, HZ.out, frZ, if_neg (by have := c17H.out; omega)]; simp only [sqT]; rw [if_pos (by exact c37H.out)])
 have Hx49 := lhd (show ((frT l t c up).wh) = t.wh + z by rw [frT, HZ.out, frZ, if_neg (by have := c17H.out; omega)])
 have Hx50 := lhd (show ((frT l t c up).we) = t.we - z by rw [frT, HZ.out, frZ, if_neg (by have := c17H.out; omega)])
 have Hx51 := lhd (show ((frT l t c up).sn) = t.sn by rw [frT, HZ.out, frZ, if_neg (by have := c17H.out; omega)])
 have b52 := F36.bx4 0 rfl
 have b53 := F36.bx4 1 rfl
 go_wp2_with fail
 clear b52 b53
 have F54 := (F36.set 0 (.int .i64 (roof ((t.bl + (t.wh + z)) * (t.bl + (t.wh + z)) + (l.gr * (c - (z * l.la)))) - (t.wh + z)))).nf #[.int .i64 (roof ((t.bl + (t.wh + z)) * (t.bl + (t.wh + z)) + (l.gr * (c - (z * l.la)))) - (t.wh + z)), .int .i64 (t.wh + z), .int .i64 (t.we - z), .int .i64 t.sn] rfl
 clear F36
 have F55 := (F54.front 1 rfl rfl).pt4 (.int .i64 (roof ((t.bl + (t.wh + z)) * (t.bl + (t.wh + z)) + (l.gr * (c - (z * l.la)))) - (t.wh + z))) (.int .i64 (t.wh + z)) (.int .i64 (t.we - z)) (.int .i64 t.sn)
 clear F54
 have kb56 := F55.bx4 0 rfl
 go_wp2_with fail
 exact bodyPost_ret (v := .agg #[.int .i64 (roof ((t.bl + (t.wh + z)) * (t.bl + (t.wh + z)) + (l.gr * (c - (z * l.la)))) - (t.wh + z)), .int .i64 (t.wh + z), .int .i64 (t.we - z), .int .i64 t.sn]) (by simp [results, Tryz.results37, go_sem, kb56]) rfl (⟨by rw [Hx48.out, Hx49.out, Hx50.out, Hx51.out] <;> rfl, F55.gb⟩)
def lowT (x : Ice) : Tr := ⟨x.bl.lo, x.wh.lo, x.we.lo, x.sn.lo⟩
def hiT (x : Ice) : Tr := ⟨x.bl.hi, x.wh.hi, x.we.hi, x.sn.hi⟩
theorem opn_low (l : Fro) (x : Ice) (d : Wea) : opn l (lowT x) d d.fall.lo = lowT (cvd l x d) := by
 unfold opn cvd lowT
 split <;> rfl
theorem opn_hi (l : Fro) (x : Ice) (d : Wea) : opn l (hiT x) d d.fall.hi = hiT (cvd l x d) := by
 unfold opn cvd hiT
 split <;> rfl
theorem frT_bl {l : Fro} {t : Tr} {c : Int} {up : Bool} : (frT l t c up).bl = if t.we <= c / l.la then (if up = true then roof else root) ((t.bl + (t.wh + t.we)) * (t.bl + (t.wh + t.we)) + l.gr * (c - t.we * l.la)) - (t.wh + t.we) else t.bl := by
 unfold frT frZ
 by_cases h : t.we <= c / l.la
 ·
  rw [if_neg (by omega), if_pos h, show min t.we (c / l.la) = t.we by omega]
  cases up <;> rfl
 · rw [if_pos (by omega), if_neg h]
theorem frT_wh {l : Fro} {t : Tr} {c : Int} {up : Bool} : (frT l t c up).wh = t.wh + min t.we (c / l.la) := by
 unfold frT frZ
 split <;> rfl
theorem frT_we {l : Fro} {t : Tr} {c : Int} {up : Bool} : (frT l t c up).we = t.we - min t.we (c / l.la) := by
 unfold frT frZ
 split <;> rfl
theorem frT_sn {l : Fro} {t : Tr} {c : Int} {up : Bool} : (frT l t c up).sn = t.sn := by
 unfold frT frZ
 split <;> rfl
theorem mlT_eq {t : Tr} {n : Int} (h : (0 <= t.bl /\ 0 <= t.wh) /\ 0 <= t.sn /\ 0 <= n) : mlT t n = ⟨max 0 (t.bl - max 0 (max 0 (n - t.sn) - t.wh)), max 0 (t.wh - max 0 (n - t.sn)), t.we, max 0 (t.sn - n)⟩ := by
 unfold mlT
 congr 1 <;> omega
/-! ### covers keep the less cold out the less snow there is -/
def spLe (a b : Sp) : Prop := a.lo <= b.lo /\ a.hi <= b.hi
def Falls : List Cov -> Prop := List.Pairwise fun a b => spLe b.pt a.pt
theorem thrF_mono {s s' : Int} (hs : s <= s') : ∀ (cs : List Cov) (p p' : Sp), Falls cs -> (∀ c ∈ cs, spLe c.pt p /\ spLe c.pt p') -> spLe p' p -> spLe (thrF s' p' cs) (thrF s p cs)
 | [], p, p', _, _, h => h
 | c :: cs, p, p', hf, hp, h => by
  unfold Falls at hf
  rw [List.pairwise_cons] at hf
  unfold thrF
  by_cases h1 : c.dp <= s
  ·
   rw [if_pos h1, if_pos (by omega)]
   exact thrF_mono hs cs _ _ hf.2 (fun c' hc' => ⟨hf.1 c' hc', hf.1 c' hc'⟩) ⟨Int.le_refl _, Int.le_refl _⟩
  rw [if_neg h1]
  split
  · exact thrF_mono hs cs _ _ hf.2 (fun c' hc' => ⟨(hp c' (.tail _ hc')).1, hf.1 c' hc'⟩) (hp c (.head _)).1
  · exact thrF_mono hs cs _ _ hf.2 (fun c' hc' => hp c' (.tail _ hc')) h
theorem thr_mono {cs : List Cov} (hf : Falls cs) {s s' : Int} (hs : s <= s') : spLe (thr cs s') (thr cs s) := by
 have hr : ∀ a : Sp, spLe a a := fun a => ⟨Int.le_refl _, Int.le_refl _⟩
 refine thrF_mono hs cs _ _ hf (fun c hc => ?_) (hr _)
 cases cs with
 | nil => cases hc
 | cons c0 cs =>
  rcases List.mem_cons.1 hc with rfl | hc
  · exact ⟨hr _, hr _⟩
  · have := (List.pairwise_cons.1 hf).1 c hc; exact ⟨this, this⟩
theorem covErr_falls : ∀ (cs : List Cov) (p : Option Cov), covErr p cs = 0 -> Falls cs /\ ∀ q, p = some q -> ∀ c ∈ cs, spLe c.pt q.pt
 | [], _, _ => ⟨.nil, fun _ _ c h => by cases h⟩
 | c :: cs, p, h => by
  unfold covErr at h
  split at h
  · cases h
  split at h
  · cases h
  split at h
  · contradiction
  split at h
  · cases h
  rename_i h4
  obtain ⟨a, b⟩ := covErr_falls cs _ h
  have b' := b c rfl
  refine ⟨List.pairwise_cons.2 ⟨b', a⟩, fun q hq c' hc' => ?_⟩
  subst hq
  simp only [moreB, decide_eq_true_eq] at h4
  have h0 : spLe c.pt q.pt := ⟨by omega, by omega⟩
  rcases List.mem_cons.1 hc' with rfl | hc'
  · exact h0
  · have := b' c' hc'; exact ⟨Int.le_trans this.1 h0.1, Int.le_trans this.2 h0.2⟩
theorem lawFalls {l : Fro} (h : froErr l = 0) : Falls l.cov := by
 unfold froErr at h
 split at h
 · cases h
 split at h
 · contradiction
 rename_i h2
 have h2' := Classical.not_not.1 h2
 unfold covsE at h2'
 split at h2'
 · cases h2'
 split at h2'
 · cases h2'
 · exact (covErr_falls _ _ h2').1
/-! ### true ice within -/
def inI (t : Tr) (x : Ice) : Prop := ((x.bl.lo <= t.bl /\ t.bl <= x.bl.hi) /\ x.wh.lo <= t.wh /\ t.wh <= x.wh.hi) /\ (x.we.lo <= t.we /\ t.we <= x.we.hi) /\ x.sn.lo <= t.sn /\ t.sn <= x.sn.hi
theorem dn_mono {n n' p p' : Int} (h0 : 0 <= n) (h : n <= n') (h1 : 0 <= p) (hp : p <= p') : dn n p <= dn n' p' := by
 unfold dn
 have h2 : n * p <= n' * p' := Int.mul_le_mul h hp h1 (by omega)
 exact Int.ediv_le_ediv (by omega) h2
theorem upp_mono {n n' p p' : Int} (h0 : 0 <= n) (h : n <= n') (h1 : 0 <= p) (hp : p <= p') : upp n p <= upp n' p' := by
 unfold upp
 have h2 : n * p <= n' * p' := Int.mul_le_mul h hp h1 (by omega)
 exact Int.ediv_le_ediv (by omega) (by omega)
theorem dn_le_upp {n p : Int} : dn n p <= upp n p := by
 unfold dn upp
 exact Int.ediv_le_ediv (by omega) (by omega)
theorem opn_in {l : Fro} {t : Tr} {x : Ice} {d : Wea} {f : Int} (hL : LawOk l) (h : inI t x) (hs : 0 <= x.sn.lo) (hf : d.fall.lo <= f /\ f <= d.fall.hi) (hf0 : 0 <= d.fall.lo) : inI (opn l t d f) (cvd l x d) := by
 obtain ⟨⟨a, b⟩, c, e⟩ := h
 have hk := hL.soak
 unfold opn cvd
 have h1 : (if d.clear = true then 0 else x.sn.lo) <= (if d.clear = true then 0 else t.sn) /\ (if d.clear = true then 0 else t.sn) <= (if d.clear = true then 0 else x.sn.hi) /\ 0 <= (if d.clear = true then 0 else x.sn.lo) := by split <;> omega
 generalize (if d.clear = true then 0 else x.sn.lo) = s1 at *
 generalize (if d.clear = true then 0 else x.sn.hi) = s2 at *
 generalize (if d.clear = true then 0 else t.sn) = s3 at *
 have m1 := dn_mono (n := s1 + d.fall.lo) (n' := s3 + f) (p := l.soak) (p' := l.soak) (by omega) (by omega) (by omega) (Int.le_refl _)
 have m2 := dn_mono (n := s3 + f) (n' := s2 + d.fall.hi) (p := l.soak) (p' := l.soak) (by omega) (by omega) (by omega) (Int.le_refl _)
 split
 · exact ⟨⟨a, b⟩, ⟨by show x.we.lo + d.water + _ <= t.we + d.water + _; omega, by show t.we + d.water + _ <= x.we.hi + d.water + _; omega⟩, Int.le_refl _, Int.le_refl _⟩
 · exact ⟨⟨a, b⟩, c, by show s1 + _ <= s3 + f; omega, by show s3 + f <= s2 + _; omega⟩
theorem root_shift {h e d : Int} (h0 : 0 <= h) (he : 0 <= e) (hd : 0 <= d) : root ((h + d) * (h + d) + e) <= root (h * h + e) + d := by
 have hp : 0 <= h * h := Int.mul_nonneg h0 h0
 have hp2 : 0 <= (h + d) * (h + d) := Int.mul_nonneg (by omega) (by omega)
 obtain ⟨a1, a2, a3⟩ := root_is (n := h * h + e) (by omega)
 obtain ⟨b1, b2, b3⟩ := root_is (n := (h + d) * (h + d) + e) (by omega)
 have hr : h <= root (h * h + e) := by
  have := root_mono (a := h * h) (b := h * h + e) (by omega) hp
  rwa [root_sq h0] at this
 rcases Int.lt_or_le (root (h * h + e) + d) (root ((h + d) * (h + d) + e)) with h1 | h1
 ·
  exfalso
  generalize root (h * h + e) = r at *
  have h2 := sq_lt (a := r + 1 + d) (b := root ((h + d) * (h + d) + e)) (by omega) (by omega)
  have e1 : (r + 1 + d) * (r + 1 + d) = (r + 1) * (r + 1) + (2 * (r * d) + 2 * d + d * d) := by
   simp only [Int.add_mul, Int.mul_add, Int.one_mul, Int.mul_one, Int.mul_comm d r]; omega
  have e2 : (h + d) * (h + d) = h * h + (2 * (h * d) + d * d) := by
   simp only [Int.add_mul, Int.mul_add, Int.mul_comm d h]; omega
  have e3 : h * d <= r * d := Int.mul_le_mul_of_nonneg_right hr hd
  omega
 · exact h1
theorem roof_sq {n : Int} (h : 0 <= n) : 0 <= roof n /\ n <= roof n * roof n := by
 obtain ⟨a1, a2, a3⟩ := root_is h
 unfold roof
 split
 · exact ⟨by omega, by omega⟩
 · exact ⟨by omega, by omega⟩
theorem roof_le {n r : Int} (h : 0 <= n) (hr : 0 <= r) (hn : n <= r * r) : roof n <= r := by
 obtain ⟨a1, a2, a3⟩ := root_is h
 have h1 : root n <= r := by
  rcases Int.lt_or_le r (root n) with h2 | h2
  ·
   have := sq_lt (a := r + 1) (b := root n) (by omega) (by omega)
   have e : (r + 1) * (r + 1) = r * r + 2 * r + 1 := by simp only [Int.add_mul, Int.mul_add, Int.one_mul, Int.mul_one]; omega
   omega
  · exact h2
 unfold roof
 split
 ·
  rcases Int.lt_or_eq_of_le h1 with h2 | h2
  · omega
  · rw [← h2] at hn; omega
 · exact h1
theorem root_le_roof (n : Int) : root n <= roof n := by
 unfold roof
 split <;> omega
theorem roof_mono {a b : Int} (h : a <= b) (h0 : 0 <= a) : roof a <= roof b := by
 have := roof_sq (n := b) (by omega)
 exact roof_le h0 this.1 (by omega)
theorem roof_shift {h e d : Int} (h0 : 0 <= h) (he : 0 <= e) (hd : 0 <= d) : roof ((h + d) * (h + d) + e) <= roof (h * h + e) + d := by
 have hp : 0 <= h * h := Int.mul_nonneg h0 h0
 have hp2 : 0 <= (h + d) * (h + d) := Int.mul_nonneg (by omega) (by omega)
 obtain ⟨a1, a2⟩ := roof_sq (n := h * h + e) (by omega)
 have hr : h <= roof (h * h + e) := by
  have := root_mono (a := h * h) (b := h * h + e) (by omega) hp
  rw [root_sq h0] at this
  exact Int.le_trans this (root_le_roof _)
 generalize roof (h * h + e) = r at *
 refine roof_le (by omega) (by omega) ?_
 have e1 : (r + d) * (r + d) = r * r + (2 * (r * d) + d * d) := by simp only [Int.add_mul, Int.mul_add, Int.mul_comm d r]; omega
 have e2 : (h + d) * (h + d) = h * h + (2 * (h * d) + d * d) := by simp only [Int.add_mul, Int.mul_add, Int.mul_comm d h]; omega
 have e3 : h * d <= r * d := Int.mul_le_mul_of_nonneg_right hr hd
 omega
structure RootLike (R : Int -> Int) : Prop where
 mono : ∀ a b, a <= b -> 0 <= a -> R a <= R b
 shift : ∀ h e d, 0 <= h -> 0 <= e -> 0 <= d -> R ((h + d) * (h + d) + e) <= R (h * h + e) + d
 up : ∀ h e, 0 <= h -> 0 <= e -> h <= R (h * h + e)
theorem rl_root : RootLike root := ⟨fun _ _ => root_mono, fun _ _ _ => root_shift, fun h e h0 he => by
 have hp : 0 <= h * h := Int.mul_nonneg h0 h0
 have := root_mono (a := h * h) (b := h * h + e) (by omega) hp
 rwa [root_sq h0] at this⟩
theorem rl_roof : RootLike roof := ⟨fun _ _ => roof_mono, fun _ _ _ => roof_shift, fun h e h0 he => Int.le_trans (rl_root.up h e h0 he) (root_le_roof _)⟩
theorem grow_le {R : Int -> Int} (hR : RootLike R) {b b' a a' e e' : Int} (hb : 0 <= b /\ b <= b') (ha : 0 <= a' /\ a' <= a) (he : 0 <= e /\ e <= e') : R ((b + a) * (b + a) + e) - a <= R ((b' + a') * (b' + a') + e') - a' := by
 have h1 : (b + a) * (b + a) <= (b' + a) * (b' + a) := sq_lt (by omega) (by omega)
 have h2 : 0 <= (b + a) * (b + a) := Int.mul_nonneg (by omega) (by omega)
 have h3 := hR.mono ((b + a) * (b + a) + e) ((b' + a) * (b' + a) + e') (by omega) (by omega)
 have h4 := hR.shift (b' + a') e' (a - a') (by omega) (by omega) (by omega)
 rw [show b' + a' + (a - a') = b' + a by omega] at h4
 omega
theorem ediv_le {a b c : Int} (hc : 1 <= c) (h : a <= b) : a / c <= b / c := Int.ediv_le_ediv (by omega) h
theorem frT_in {l : Fro} {t : Tr} {y : Ice} {cs : Sp} {c k m : Int} {up : Bool} (hL : LawOk l) (hy : IceK y k m) (h : inI t y) (hf : 0 <= fewC l y cs) (hc : fewC l y cs <= c /\ c <= manyC l y cs) : inI (frT l t c up) (frz l y cs) := by
 obtain ⟨⟨⟨a1, a2⟩, b1, b2⟩, ⟨c1, c2⟩, s1, s2⟩ := h
 obtain ⟨⟨⟨x1, x2⟩, x3, x4⟩, ⟨⟨x5, x6⟩, x7, x8⟩, ⟨x9, xa⟩, ⟨xb, xc⟩, _⟩ := hy
 have hla := hL.la
 have hg := hL.gr
 have q1 := ediv_le hla.1 hc.1
 have q2 := ediv_le hla.1 hc.2
 have q0 := div_nn hla.1 hf
 have R1 : RootLike (if up = true then roof else root) := by cases up <;> first | exact rl_root | exact rl_roof
 refine ⟨⟨⟨?_, ?_⟩, ?_, ?_⟩, ⟨?_, ?_⟩, ?_, ?_⟩
 ·
  rw [frT_bl]
  show (if y.we.hi <= fewC l y cs / l.la then grw l y.bl.lo y.wh.hi y.we.hi (fewC l y cs) root else y.bl.lo) <= _
  by_cases h1 : t.we <= c / l.la
  ·
   rw [if_pos h1]
   have m1 : t.we * l.la <= c := mul_of_div hla.1 h1
   have m0 : 0 <= l.gr * (c - t.we * l.la) := Int.mul_nonneg hg.1 (by omega)
   split
   ·
    rename_i h2
    have m2 : y.we.hi * l.la <= fewC l y cs := mul_of_div hla.1 h2
    have m3 : t.we * l.la <= y.we.hi * l.la := Int.mul_le_mul_of_nonneg_right c2 (by omega)
    have m4 : 0 <= l.gr * (fewC l y cs - y.we.hi * l.la) := Int.mul_nonneg hg.1 (by omega)
    have m5 : l.gr * (fewC l y cs - y.we.hi * l.la) <= l.gr * (c - t.we * l.la) := Int.mul_le_mul_of_nonneg_left (by omega) hg.1
    have := grow_le rl_root (b := y.bl.lo) (b' := t.bl) (a := y.wh.hi + y.we.hi) (a' := t.wh + t.we) (e := l.gr * (fewC l y cs - y.we.hi * l.la)) (e' := l.gr * (c - t.we * l.la)) ⟨by omega, by omega⟩ ⟨by omega, by omega⟩ ⟨m4, m5⟩
    refine Int.le_trans this ?_
    cases up
    · exact Int.le_refl _
    have := root_le_roof ((t.bl + (t.wh + t.we)) * (t.bl + (t.wh + t.we)) + l.gr * (c - t.we * l.la))
    show _ <= roof _ - _
    omega
   have := R1.up (t.bl + (t.wh + t.we)) (l.gr * (c - t.we * l.la)) (by omega) m0
   omega
  have h3 : ¬ y.we.hi <= fewC l y cs / l.la := by omega
  rw [if_neg h1, if_neg h3]
  exact a1
 ·
  rw [frT_bl]
  show _ <= (if y.we.lo <= manyC l y cs / l.la then grw l y.bl.hi y.wh.lo y.we.lo (manyC l y cs) roof else y.bl.hi)
  by_cases h1 : t.we <= c / l.la
  ·
   have h3 : y.we.lo <= manyC l y cs / l.la := by omega
   rw [if_pos h1, if_pos h3]
   have m1 : t.we * l.la <= c := mul_of_div hla.1 h1
   have m0 : 0 <= l.gr * (c - t.we * l.la) := Int.mul_nonneg hg.1 (by omega)
   have m3 : y.we.lo * l.la <= t.we * l.la := Int.mul_le_mul_of_nonneg_right c1 (by omega)
   have m5 : l.gr * (c - t.we * l.la) <= l.gr * (manyC l y cs - y.we.lo * l.la) := Int.mul_le_mul_of_nonneg_left (by omega) hg.1
   have := grow_le rl_roof (b := t.bl) (b' := y.bl.hi) (a := t.wh + t.we) (a' := y.wh.lo + y.we.lo) (e := l.gr * (c - t.we * l.la)) (e' := l.gr * (manyC l y cs - y.we.lo * l.la)) ⟨by omega, by omega⟩ ⟨by omega, by omega⟩ ⟨m0, m5⟩
   refine Int.le_trans ?_ this
   cases up
   ·
    have := root_le_roof ((t.bl + (t.wh + t.we)) * (t.bl + (t.wh + t.we)) + l.gr * (c - t.we * l.la))
    show root _ - _ <= _
    omega
   · exact Int.le_refl _
  rw [if_neg h1]
  split
  ·
   rename_i h2
   have m2 : y.we.lo * l.la <= manyC l y cs := mul_of_div hla.1 h2
   have := rl_roof.up (y.bl.hi + (y.wh.lo + y.we.lo)) (l.gr * (manyC l y cs - y.we.lo * l.la)) (by omega) (Int.mul_nonneg hg.1 (by omega))
   unfold grw
   omega
  · exact a2
 · rw [frT_wh]; show y.wh.lo + min y.we.lo _ <= _; omega
 · rw [frT_wh]; show _ <= y.wh.hi + min y.we.hi _; omega
 · rw [frT_we]; show max 0 (y.we.lo - _) <= _; omega
 · rw [frT_we]; show _ <= max 0 (y.we.hi - _); omega
 · rw [frT_sn]; exact s1
 · rw [frT_sn]; exact s2
theorem mlT_in {l : Fro} {t : Tr} {y : Ice} {cs : Sp} {n k m : Int} (hL : LawOk l) (hy : IceK y k m) (h : inI t y) (hc : cs.lo <= cs.hi /\ cs.hi < 0) (hn : dn (-cs.hi) l.melt.lo <= n /\ n <= upp (-cs.lo) l.melt.hi) : inI (mlT t n) (mlt l y cs) := by
 obtain ⟨⟨⟨a1, a2⟩, b1, b2⟩, ⟨c1, c2⟩, s1, s2⟩ := h
 obtain ⟨⟨⟨x1, x2⟩, x3, x4⟩, ⟨⟨x5, x6⟩, x7, x8⟩, ⟨x9, xa⟩, ⟨xb, xc⟩, _⟩ := hy
 have hm := hL.melt
 have f1 := dn_bd7 (n := -cs.hi) (p := l.melt.lo) (by omega) (by omega) (by omega)
 rw [mlT_eq ⟨⟨by omega, by omega⟩, by omega, by omega⟩]
 unfold mlt mlt1
 generalize dn (-cs.hi) l.melt.lo = u at *
 generalize upp (-cs.lo) l.melt.hi = v at *
 refine ⟨⟨⟨?_, ?_⟩, ?_, ?_⟩, ⟨c1, c2⟩, ?_, ?_⟩
 all_goals simp only
 all_goals omega
theorem jnd_left {t : Tr} {a b : Ice} (h : inI t a) : inI t (jnd a b) := by
 obtain ⟨⟨⟨a1, a2⟩, b1, b2⟩, ⟨c1, c2⟩, s1, s2⟩ := h
 unfold jnd
 refine ⟨⟨⟨?_, ?_⟩, ?_, ?_⟩, ⟨?_, ?_⟩, ?_, ?_⟩
 all_goals simp only
 all_goals omega
theorem jnd_right {t : Tr} {a b : Ice} (h : inI t b) : inI t (jnd a b) := by
 obtain ⟨⟨⟨a1, a2⟩, b1, b2⟩, ⟨c1, c2⟩, s1, s2⟩ := h
 unfold jnd
 refine ⟨⟨⟨?_, ?_⟩, ?_, ?_⟩, ⟨?_, ?_⟩, ?_, ?_⟩
 all_goals simp only
 all_goals omega
theorem thC_in {l : Fro} {y : Ice} {cs : Sp} {s cold c : Int} (hL : LawOk l) (hF : Falls l.cov) (hs : y.sn.lo <= s /\ s <= y.sn.hi) (h0 : 0 <= cs.lo) (hc : cs.lo <= cold /\ cold <= cs.hi) (h : (thC l s cold).lo <= c /\ c <= (thC l s cold).hi) : fewC l y cs <= c /\ c <= manyC l y cs := by
 have t1 := thr_mono hF hs.1
 have t2 := thr_mono hF hs.2
 have o1 := thr_ok hL y.sn.hi
 have o2 := thr_ok hL s
 exact ⟨Int.le_trans (dn_mono h0 hc.1 o1.1 t2.1) h.1, Int.le_trans h.2 (upp_mono (by omega) hc.2 (by omega) t1.2)⟩
theorem few_nn {l : Fro} {y : Ice} {cs : Sp} (hL : LawOk l) (h0 : 0 <= cs.lo) : 0 <= fewC l y cs := by
 have o1 := thr_ok hL y.sn.hi
 exact (dn_bd h0 o1.1 (by omega)).1
theorem aft_frost {l : Fro} {x : Ice} {d : Wea} {k : Int} {t : Tr} {f cold c : Int} {up : Bool} (hL : LawOk l) (hF : Falls l.cov) (hx : IceK x k k) (hd : WeaOk d) (h : inI t x) (hf : d.fall.lo <= f /\ f <= d.fall.hi) (hc : d.cold.lo <= cold /\ cold <= d.cold.hi) (h0 : 0 <= cold)
  (hcc : (thC l (opn l t d f).sn cold).lo <= c /\ c <= (thC l (opn l t d f).sn cold).hi) : inI (frT l (opn l t d f) c up) (aft l x d) := by
 have hy := cvd_K hL hx hd
 have ho := opn_in hL h hx.sn.1 hf hd.fall.1
 have hdc := hd.cold
 unfold aft
 split
 · exact frT_in hL hy ho (few_nn hL (by assumption)) (thC_in hL hF ho.2.2 (by assumption) hc hcc)
 rw [if_neg (by omega)]
 exact jnd_left (frT_in hL hy ho (few_nn hL (Int.le_refl _)) (thC_in (cs := ⟨0, d.cold.hi⟩) hL hF ho.2.2 (Int.le_refl _) ⟨h0, hc.2⟩ hcc))
theorem aft_warm {l : Fro} {x : Ice} {d : Wea} {k : Int} {t : Tr} {f cold n : Int} (hL : LawOk l) (hx : IceK x k k) (hd : WeaOk d) (h : inI t x) (hf : d.fall.lo <= f /\ f <= d.fall.hi) (hc : d.cold.lo <= cold /\ cold <= d.cold.hi) (h0 : cold < 0)
  (hn : (thW l (-cold)).lo <= n /\ n <= (thW l (-cold)).hi) : inI (mlT (opn l t d f) n) (aft l x d) := by
 have hy := cvd_K hL hx hd
 have ho := opn_in hL h hx.sn.1 hf hd.fall.1
 have hdc := hd.cold
 have hm := hL.melt
 unfold aft
 rw [if_neg (by omega)]
 split
 · refine mlT_in hL hy ho ⟨by omega, by assumption⟩ ⟨Int.le_trans (dn_mono (by omega) (by omega) hm.1 (Int.le_refl _)) hn.1, Int.le_trans hn.2 (upp_mono (by omega) (by omega) (by omega) (Int.le_refl _))⟩
 · refine jnd_right (mlT_in hL hy ho ⟨by show d.cold.lo <= -1; omega, by show (-1 : Int) < 0; omega⟩ ⟨Int.le_trans (dn_mono (by show (0 : Int) <= - -1; omega) (by show - -1 <= -cold; omega) hm.1 (Int.le_refl _)) hn.1, Int.le_trans hn.2 (upp_mono (by omega) (by show -cold <= -d.cold.lo; omega) (by omega) (Int.le_refl _))⟩)
set_option maxHeartbeats 8000000 in
theorem iceOf_c (sb : Nat) (w : World) (hs : SeedAt w sb) :
  Calls Tryz.prog 6 #[.pointer (some ⟨sb, 0, none⟩)] w (fun e w' => ∃ x : Ice, e = .returned (.agg (iceC x)) /\ (iceErr x = 0 /\ x.bl.hi <= 1200 /\ x.wh.hi <= 200 /\ x.we.hi <= 60 /\ x.sn.hi <= 400) /\ SeedAt w' sb /\ w.grownBy w' (some sb)) := by
 have F1 : Bus w sb [rseed sb] w := Bus.ofSeed hs
 have hsl := hs.lt
 clear hs
 go_enter Tryz.func6, Tryz.ntmps6
 go_wp2_with fail
 replace F1 := F1.new 32 (z8) (n := w.heap.size) (by simp)
 replace F1 := F1.new 3 #[.int .i64 60, .int .i64 1200] (n := (w.heap.size + 1)) (by simp)
 refine (of2_c sb _ (w.heap.size + 1) 2 60 1200 (F1.e 2 rfl) (by omega) (F1.q 0 0) (F1.q 0 1)).mono ?_
 rintro e w8 ⟨r2, rfl, hr3, hs7, hg6⟩
 have hg6s := hg6.size
 (try simp at hg6s)
 replace F1 := F1.seedAt 2 rfl hg6 hs7
 clear hg6
 go_wp2_with fail
 refine (spanOf_c sb 0 r2 _ (F1.e 2 rfl) (by omega) (by omega) (by omega)).mono ?_
 rintro e w15 ⟨_, rfl, ⟨lo10, hi11, rfl, hr12a, hr12b, hr12c⟩, hs14, hg13⟩
 have hg13s := hg13.size
 (try simp at hg13s)
 replace F1 := F1.seedAt 2 rfl hg13 hs14
 clear hg13
 go_wp2_with fail
 replace F1 := F1.new 3 #[.int .i64 20, .int .i64 200] (n := w15.heap.size) (by simp)
 refine (of2_c sb _ w15.heap.size 2 20 200 (F1.e 3 rfl) (by omega) (F1.q 0 0) (F1.q 0 1)).mono ?_
 rintro e w22 ⟨r17, rfl, hr18, hs21, hg20⟩
 have hg20s := hg20.size
 (try simp at hg20s)
 replace F1 := F1.seedAt 3 rfl hg20 hs21
 clear hg20
 go_wp2_with fail
 refine (spanOf_c sb 0 r17 _ (F1.e 3 rfl) (by omega) (by omega) (by omega)).mono ?_
 rintro e w29 ⟨_, rfl, ⟨lo24, hi25, rfl, hr26a, hr26b, hr26c⟩, hs28, hg27⟩
 have hg27s := hg27.size
 (try simp at hg27s)
 replace F1 := F1.seedAt 3 rfl hg27 hs28
 clear hg27
 go_wp2_with fail
 replace F1 := F1.new 3 #[.int .i64 0, .int .i64 5, .int .i64 60] (n := w29.heap.size) (by simp)
 refine (of3_c sb _ w29.heap.size 3 0 5 60 (F1.e 4 rfl) (by omega) (F1.q 0 0) (F1.q 0 1) (F1.q 0 2)).mono ?_
 rintro e w36 ⟨r31, rfl, hr32, hs35, hg34⟩
 have hg34s := hg34.size
 (try simp at hg34s)
 replace F1 := F1.seedAt 4 rfl hg34 hs35
 clear hg34
 go_wp2_with fail
 refine (spanOf_c sb 0 r31 _ (F1.e 4 rfl) (by omega) (by omega) (by omega)).mono ?_
 rintro e w43 ⟨_, rfl, ⟨lo38, hi39, rfl, hr40a, hr40b, hr40c⟩, hs42, hg41⟩
 have hg41s := hg41.size
 (try simp at hg41s)
 replace F1 := F1.seedAt 4 rfl hg41 hs42
 clear hg41
 go_wp2_with fail
 replace F1 := F1.new 3 #[.int .i64 0, .int .i64 40, .int .i64 400] (n := w43.heap.size) (by simp)
 refine (of3_c sb _ w43.heap.size 3 0 40 400 (F1.e 5 rfl) (by omega) (F1.q 0 0) (F1.q 0 1) (F1.q 0 2)).mono ?_
 rintro e w50 ⟨r45, rfl, hr46, hs49, hg48⟩
 have hg48s := hg48.size
 (try simp at hg48s)
 replace F1 := F1.seedAt 5 rfl hg48 hs49
 clear hg48
 go_wp2_with fail
 refine (spanOf_c sb 0 r45 _ (F1.e 5 rfl) (by omega) (by omega) (by omega)).mono ?_
 rintro e w57 ⟨_, rfl, ⟨lo52, hi53, rfl, hr54a, hr54b, hr54c⟩, hs56, hg55⟩
 have hg55s := hg55.size
 (try simp at hg55s)
 replace F1 := F1.seedAt 5 rfl hg55 hs56
 clear hg55
 have b59 := F1.bx8 4 rfl
 go_wp2_with fail
 clear b59
 have F60 := (F1.front 4 rfl rfl).pt8 (.int .i64 lo10) (.int .i64 hi11) (.int .i64 lo24) (.int .i64 hi25) (.int .i64 lo38) (.int .i64 hi39) (.int .i64 lo52) (.int .i64 hi53)
 clear F1
 have kb61 := F60.bx8 0 rfl
 go_wp2_with fail
 exact bodyPost_ret (v := .agg #[.int .i64 lo10, .int .i64 hi11, .int .i64 lo24, .int .i64 hi25, .int .i64 lo38, .int .i64 hi39, .int .i64 lo52, .int .i64 hi53]) (by simp [results, Tryz.results6, go_sem, kb61]) rfl (⟨⟨⟨lo10, hi11⟩, ⟨lo24, hi25⟩, ⟨lo38, hi39⟩, ⟨lo52, hi53⟩⟩, rfl, ⟨by unfold iceErr spanErr; simp only; (repeat' split) <;> first | rfl | (exfalso; omega) | omega, by simp only; omega, by simp only; omega, by simp only; omega, by simp only; omega⟩, (F60.e 5 rfl), F60.gb⟩)
def subI (a b : Ice) : Prop := ((b.bl.lo <= a.bl.lo /\ a.bl.hi <= b.bl.hi) /\ b.wh.lo <= a.wh.lo /\ a.wh.hi <= b.wh.hi) /\ (b.we.lo <= a.we.lo /\ a.we.hi <= b.we.hi) /\ b.sn.lo <= a.sn.lo /\ a.sn.hi <= b.sn.hi
theorem iceB {x : Ice} (h : iceErr x = 0) : ((0 <= x.bl.lo /\ x.bl.lo <= x.bl.hi /\ x.bl.hi <= 5000) /\ 0 <= x.wh.lo /\ x.wh.lo <= x.wh.hi /\ x.wh.hi <= 5000) /\ (0 <= x.we.lo /\ x.we.lo <= x.we.hi /\ x.we.hi <= 5000) /\ 0 <= x.sn.lo /\ x.sn.lo <= x.sn.hi /\ x.sn.hi <= 5000 := by
 unfold iceErr at h
 split at h
 · contradiction
 rename_i h1
 split at h
 · contradiction
 rename_i h2
 split at h
 · contradiction
 rename_i h3
 exact ⟨⟨spanErr_ok (Classical.not_not.1 h1), spanErr_ok (Classical.not_not.1 h2)⟩, spanErr_ok (Classical.not_not.1 h3), spanErr_ok h⟩
set_option maxHeartbeats 8000000 in
theorem trueIce_c (sb : Nat) (x : Ice) (w : World) (hs : SeedAt w sb) (hx : iceErr x = 0) :
  Calls Tryz.prog 12 #[.pointer (some ⟨sb, 0, none⟩), .agg (iceC x)] w (fun e w' => ∃ t : Tr, e = .returned (.agg #[.int .i64 t.bl, .int .i64 t.wh, .int .i64 t.we, .int .i64 t.sn]) /\ inI t x /\ SeedAt w' sb /\ w.grownBy w' (some sb)) := by
 have F1 : Bus w sb [rseed sb] w := Bus.ofSeed hs
 have hsl := hs.lt
 clear hs
 have hxb := iceB hx
 go_enter Tryz.func12, Tryz.ntmps12
 go_wp2_with fail
 replace F1 := F1.new 32 (iceC x) (n := w.heap.size) (by simp)
 replace F1 := F1.new 47 #[.int .i64 0, .int .i64 0, .int .i64 0, .int .i64 0] (n := (w.heap.size + 1)) (by simp)
 have Fn_ := F1
 (try dsimp only [lpF, lpG] at Fn_)
 obtain ⟨w12, hx13, F15, hxs14⟩ := Fn_.name
 (try simp at hxs14)
 rw [hx13]
 clear hx13 F1 Fn_
 replace F15 := F15.drew
 refine ru_begin (fun W => C8 W w.heap.size (.int .i64 x.bl.lo) (.int .i64 x.bl.hi) (.int .i64 x.wh.lo) (.int .i64 x.wh.hi) (.int .i64 x.we.lo) (.int .i64 x.we.hi) (.int .i64 x.sn.lo) (.int .i64 x.sn.hi)) 17 (by kernel_rfl) ?_ ?_
 · exact (F15.c8 1)
 obtain ⟨wd18, hwd_⟩ : ∃ x : World, w12.drew = x := ⟨_, rfl⟩
 rw [hwd_] at F15 ⊢
 have wd18s : w12.heap.size <= wd18.heap.size := by rw [← hwd_]; exact Nat.le_refl _
 clear hwd_
 have hS17 := (F15.c8 1)
 refine ru_t 0 [] ?_
 refine ru_t 1 [] ?_
 refine ru_t 2 [] ?_
 refine ru_t 4 [] ?_
 refine ru_t 5 [] ?_
 refine ru_t 6 [] ?_
 refine ru_t 8 [] ?_
 refine ru_t 9 [] ?_
 refine ru_t 10 [] ?_
 refine ru_t 12 [] ?_
 refine ru_t 13 [] ?_
 refine ru_t 14 [] ?_
 (try simp only [lpX])
 clear hS17
 refine ru_o 3 fun K hK => ?_
 go_simp
 refine (inside_c sb x.bl.lo x.bl.hi _ (F15.e 2 rfl) (by omega) (by omega) (by omega) (by omega)).mono ?_
 rintro e w23 ⟨r19, rfl, hr20, hs22, hg21⟩
 unfold insideR fromR at hr20; have hr20b : x.bl.lo <= r19 /\ r19 <= x.bl.hi := (by omega); clear hr20
 have hg21s := hg21.size
 (try simp at hg21s)
 replace F15 := F15.seedAt 2 rfl hg21 hs22
 refine ru_back hK (by exact (F15.c8 1)) (fun _ => ?_)
 clear hK K
 (try simp only [lpX])
 refine ru_o 7 fun K hK => ?_
 go_simp
 refine (inside_c sb x.wh.lo x.wh.hi _ (F15.e 2 rfl) (by omega) (by omega) (by omega) (by omega)).mono ?_
 rintro e w29 ⟨r25, rfl, hr26, hs28, hg27⟩
 unfold insideR fromR at hr26; have hr26b : x.wh.lo <= r25 /\ r25 <= x.wh.hi := (by omega); clear hr26
 have hg27s := hg27.size
 (try simp at hg27s)
 replace F15 := F15.seedAt 2 rfl hg27 hs28
 refine ru_back hK (by exact (F15.c8 1)) (fun _ => ?_)
 clear hK K
 (try simp only [lpX])
 refine ru_o 11 fun K hK => ?_
 go_simp
 refine (inside_c sb x.we.lo x.we.hi _ (F15.e 2 rfl) (by omega) (by omega) (by omega) (by omega)).mono ?_
 rintro e w35 ⟨r31, rfl, hr32, hs34, hg33⟩
 unfold insideR fromR at hr32; have hr32b : x.we.lo <= r31 /\ r31 <= x.we.hi := (by omega); clear hr32
 have hg33s := hg33.size
 (try simp at hg33s)
 replace F15 := F15.seedAt 2 rfl hg33 hs34
 refine ru_back hK (by exact (F15.c8 1)) (fun _ => ?_)
 clear hK K
 (try simp only [lpX])
 refine ru_o 15 fun K hK => ?_
 go_simp
 refine (inside_c sb x.sn.lo x.sn.hi _ (F15.e 2 rfl) (by omega) (by omega) (by omega) (by omega)).mono ?_
 rintro e w41 ⟨r37, rfl, hr38, hs40, hg39⟩
 unfold insideR fromR at hr38; have hr38b : x.sn.lo <= r37 /\ r37 <= x.sn.hi := (by omega); clear hr38
 have hg39s := hg39.size
 (try simp at hg39s)
 replace F15 := F15.seedAt 2 rfl hg39 hs40
 refine ru_back hK (by exact (F15.c8 1)) (fun _ => ?_)
 clear hK K
 (try simp only [lpX])
 refine ru_p 16 ?_
 (try simp only [lpX])
 refine ru_o 17 fun K hK => ?_
 have kb_ := F15.bx4 0 rfl
 go_simp
 clear kb_
 replace F15 := F15.pt4 (.int .i64 r19) (.int .i64 r25) (.int .i64 r31) (.int .i64 r37)
 refine ru_back_late hK (by kernel_rfl) ?_
 clear hK K
 (try simp only [lpX])
 refine ru_done (by kernel_rfl) ?_
 have Fn_ := (F15.drop 1 rfl)
 (try dsimp only [lpF, lpG] at Fn_)
 obtain ⟨w44, hx45, F47, hxs46⟩ := Fn_.name
 (try simp at hxs46)
 rw [hx45]
 clear hx45 F15 Fn_
 go_wp2_with fail
 have kb48 := F47.bx4 0 rfl
 go_wp2_with fail
 exact bodyPost_ret (v := .agg #[.int .i64 r19, .int .i64 r25, .int .i64 r31, .int .i64 r37]) (by simp [results, Tryz.results12, go_sem, kb48]) rfl (⟨⟨r19, r25, r31, r37⟩, rfl, by unfold inI; simp only; omega, (F47.e 1 rfl), F47.gb⟩)
def endS (n : Int) (s : Sp) : Prop := n = s.lo ∨ n = s.hi
def corner (t : Tr) (x : Ice) : Prop := (endS t.bl x.bl /\ endS t.wh x.wh) /\ endS t.we x.we /\ endS t.sn x.sn
def endC (c : Int) (s : Sp) : Prop := endS c s ∨ ((s.lo < 0 /\ 0 <= s.hi) /\ (c = -1 ∨ c = 0))
def Rch (l : Fro) (t : Tr) (d : Wea) (c f : Int) (u : Tr) : Prop :=
 (c < 0 /\ ∃ n, endS n (thW l (-c)) /\ u = mlT (opn l t d f) n) ∨ (0 <= c /\ ∃ n up, endS n (thC l (opn l t d f).sn c) /\ u = frT l (opn l t d f) n up)
def Met (l : Fro) (x : Ice) (d : Wea) (u : Tr) : Prop := ∃ t c f, corner t x /\ endC c d.cold /\ endS f d.fall /\ Rch l t d c f u
structure Ends8 (M : Tr -> Prop) (z : Ice) : Prop where
 bl1 : ∃ u, M u /\ u.bl = z.bl.lo
 bl2 : ∃ u, M u /\ u.bl = z.bl.hi
 wh1 : ∃ u, M u /\ u.wh = z.wh.lo
 wh2 : ∃ u, M u /\ u.wh = z.wh.hi
 we1 : ∃ u, M u /\ u.we = z.we.lo
 we2 : ∃ u, M u /\ u.we = z.we.hi
 sn1 : ∃ u, M u /\ u.sn = z.sn.lo
 sn2 : ∃ u, M u /\ u.sn = z.sn.hi
theorem Ends8.jnd {M : Tr -> Prop} {a b : Ice} (ha : Ends8 M a) (hb : Ends8 M b) : Ends8 M (jnd a b) := by
 have mn : ∀ (f : Tr -> Int) (p q : Int), (∃ u, M u /\ f u = p) -> (∃ u, M u /\ f u = q) -> ∃ u, M u /\ f u = min p q := by
  rintro f p q ⟨u, hu, eu⟩ ⟨v, hv, ev⟩
  by_cases h : p <= q
  · exact ⟨u, hu, by omega⟩
  · exact ⟨v, hv, by omega⟩
 have mx : ∀ (f : Tr -> Int) (p q : Int), (∃ u, M u /\ f u = p) -> (∃ u, M u /\ f u = q) -> ∃ u, M u /\ f u = max p q := by
  rintro f p q ⟨u, hu, eu⟩ ⟨v, hv, ev⟩
  by_cases h : p <= q
  · exact ⟨v, hv, by omega⟩
  · exact ⟨u, hu, by omega⟩
 exact ⟨mn _ _ _ ha.bl1 hb.bl1, mx _ _ _ ha.bl2 hb.bl2, mn _ _ _ ha.wh1 hb.wh1, mx _ _ _ ha.wh2 hb.wh2, mn _ _ _ ha.we1 hb.we1, mx _ _ _ ha.we2 hb.we2, mn _ _ _ ha.sn1 hb.sn1, mx _ _ _ ha.sn2 hb.sn2⟩
theorem opn_hh (l : Fro) (x : Ice) (d : Wea) (a b : Int) : opn l ⟨a, b, x.we.hi, x.sn.hi⟩ d d.fall.hi = ⟨a, b, (cvd l x d).we.hi, (cvd l x d).sn.hi⟩ := by
 unfold opn cvd
 split <;> rfl
theorem opn_ll (l : Fro) (x : Ice) (d : Wea) (a b : Int) : opn l ⟨a, b, x.we.lo, x.sn.lo⟩ d d.fall.lo = ⟨a, b, (cvd l x d).we.lo, (cvd l x d).sn.lo⟩ := by
 unfold opn cvd
 split <;> rfl
theorem opn_lh (l : Fro) (x : Ice) (d : Wea) : ∃ s f, (endS s x.sn /\ endS f d.fall) /\ ∀ a b, opn l ⟨a, b, x.we.lo, s⟩ d f = ⟨a, b, (cvd l x d).we.lo, (cvd l x d).sn.hi⟩ := by
 by_cases h : 0 < d.water
 ·
  refine ⟨x.sn.lo, d.fall.lo, ⟨.inl rfl, .inl rfl⟩, fun a b => ?_⟩
  unfold opn cvd
  rw [if_pos h, if_pos h]
 refine ⟨x.sn.hi, d.fall.hi, ⟨.inr rfl, .inr rfl⟩, fun a b => ?_⟩
 unfold opn cvd
 rw [if_neg h, if_neg h]
theorem opn_hl (l : Fro) (x : Ice) (d : Wea) : ∃ s f, (endS s x.sn /\ endS f d.fall) /\ ∀ a b, opn l ⟨a, b, x.we.hi, s⟩ d f = ⟨a, b, (cvd l x d).we.hi, (cvd l x d).sn.lo⟩ := by
 by_cases h : 0 < d.water
 ·
  refine ⟨x.sn.hi, d.fall.hi, ⟨.inr rfl, .inr rfl⟩, fun a b => ?_⟩
  unfold opn cvd
  rw [if_pos h, if_pos h]
 refine ⟨x.sn.lo, d.fall.lo, ⟨.inl rfl, .inl rfl⟩, fun a b => ?_⟩
 unfold opn cvd
 rw [if_neg h, if_neg h]
theorem cvd_bl (l : Fro) (x : Ice) (d : Wea) : (cvd l x d).bl = x.bl /\ (cvd l x d).wh = x.wh := by
 unfold cvd
 split <;> exact ⟨rfl, rfl⟩
theorem met_frz {l : Fro} {x : Ice} {d : Wea} {cs : Sp} (h0 : 0 <= cs.lo /\ cs.lo <= cs.hi) (h1 : endC cs.lo d.cold) (h2 : endC cs.hi d.cold) : Ends8 (Met l x d) (frz l (cvd l x d) cs) := by
 have E : ∀ s : Sp, endS s.lo s /\ endS s.hi s := fun s => ⟨.inl rfl, .inr rfl⟩
 obtain ⟨eb, ew⟩ := cvd_bl l x d
 have few : ∀ (t : Tr) (f : Int) (up : Bool), corner t x -> endS f d.fall -> (opn l t d f).sn = (cvd l x d).sn.hi -> Met l x d (frT l (opn l t d f) (fewC l (cvd l x d) cs) up) := fun t f up ht hf hs =>
  ⟨t, cs.lo, f, ht, h1, hf, .inr ⟨h0.1, _, up, .inl (by rw [hs]; rfl), rfl⟩⟩
 have many : ∀ (t : Tr) (f : Int) (up : Bool), corner t x -> endS f d.fall -> (opn l t d f).sn = (cvd l x d).sn.lo -> Met l x d (frT l (opn l t d f) (manyC l (cvd l x d) cs) up) := fun t f up ht hf hs =>
  ⟨t, cs.hi, f, ht, h2, hf, .inr ⟨by omega, _, up, .inr (by rw [hs]; rfl), rfl⟩⟩
 refine ⟨?_, ?_, ?_, ?_, ?_, ?_, ?_, ?_⟩
 ·
  refine ⟨_, few ⟨x.bl.lo, x.wh.hi, x.we.hi, x.sn.hi⟩ d.fall.hi false ⟨⟨.inl rfl, .inr rfl⟩, .inr rfl, .inr rfl⟩ (.inr rfl) (by rw [opn_hh]), ?_⟩
  rw [frT_bl, opn_hh]
  show _ = if (cvd l x d).we.hi <= _ then grw l (cvd l x d).bl.lo (cvd l x d).wh.hi (cvd l x d).we.hi _ root else (cvd l x d).bl.lo
  rw [eb, ew]
  rfl
 ·
  refine ⟨_, many ⟨x.bl.hi, x.wh.lo, x.we.lo, x.sn.lo⟩ d.fall.lo true ⟨⟨.inr rfl, .inl rfl⟩, .inl rfl, .inl rfl⟩ (.inl rfl) (by rw [opn_ll]), ?_⟩
  rw [frT_bl, opn_ll]
  show _ = if (cvd l x d).we.lo <= _ then grw l (cvd l x d).bl.hi (cvd l x d).wh.lo (cvd l x d).we.lo _ roof else (cvd l x d).bl.hi
  rw [eb, ew]
  rfl
 ·
  obtain ⟨s, f, ⟨hs, hf⟩, e⟩ := opn_lh l x d
  refine ⟨_, few ⟨x.bl.lo, x.wh.lo, x.we.lo, s⟩ f false ⟨⟨.inl rfl, .inl rfl⟩, .inl rfl, hs⟩ hf (by rw [e]), ?_⟩
  rw [frT_wh, e]
  show _ = (cvd l x d).wh.lo + _
  rw [ew]
 ·
  obtain ⟨s, f, ⟨hs, hf⟩, e⟩ := opn_hl l x d
  refine ⟨_, many ⟨x.bl.lo, x.wh.hi, x.we.hi, s⟩ f false ⟨⟨.inl rfl, .inr rfl⟩, .inr rfl, hs⟩ hf (by rw [e]), ?_⟩
  rw [frT_wh, e]
  show _ = (cvd l x d).wh.hi + _
  rw [ew]
 ·
  refine ⟨_, many ⟨x.bl.hi, x.wh.lo, x.we.lo, x.sn.lo⟩ d.fall.lo true ⟨⟨.inr rfl, .inl rfl⟩, .inl rfl, .inl rfl⟩ (.inl rfl) (by rw [opn_ll]), ?_⟩
  rw [frT_we, opn_ll]
  show _ = max 0 ((cvd l x d).we.lo - _)
  show (cvd l x d).we.lo - min (cvd l x d).we.lo (manyC l (cvd l x d) cs / l.la) = _
  omega
 ·
  refine ⟨_, few ⟨x.bl.lo, x.wh.hi, x.we.hi, x.sn.hi⟩ d.fall.hi false ⟨⟨.inl rfl, .inr rfl⟩, .inr rfl, .inr rfl⟩ (.inr rfl) (by rw [opn_hh]), ?_⟩
  rw [frT_we, opn_hh]
  show _ = max 0 ((cvd l x d).we.hi - _)
  show (cvd l x d).we.hi - min (cvd l x d).we.hi (fewC l (cvd l x d) cs / l.la) = _
  omega
 ·
  refine ⟨_, many ⟨x.bl.hi, x.wh.lo, x.we.lo, x.sn.lo⟩ d.fall.lo true ⟨⟨.inr rfl, .inl rfl⟩, .inl rfl, .inl rfl⟩ (.inl rfl) (by rw [opn_ll]), ?_⟩
  rw [frT_sn, opn_ll]
  rfl
 refine ⟨_, few ⟨x.bl.lo, x.wh.hi, x.we.hi, x.sn.hi⟩ d.fall.hi false ⟨⟨.inl rfl, .inr rfl⟩, .inr rfl, .inr rfl⟩ (.inr rfl) (by rw [opn_hh]), ?_⟩
 rw [frT_sn, opn_hh]
 rfl
theorem met_mlt {l : Fro} {x : Ice} {d : Wea} {cs : Sp} {k : Int} (hL : LawOk l) (hx : IceK x k k) (hd : WeaOk d) (h0 : cs.lo <= cs.hi /\ cs.hi < 0) (h1 : endC cs.lo d.cold) (h2 : endC cs.hi d.cold) : Ends8 (Met l x d) (mlt l (cvd l x d) cs) := by
 have hy := cvd_K hL hx hd
 have hm := hL.melt
 have f1 := dn_bd7 (n := -cs.hi) (p := l.melt.lo) (by omega) (by omega) (by omega)
 have f2 := up_bd7 (n := -cs.lo) (p := l.melt.hi) (by omega) (by omega) (by omega)
 have e1 : mlT (lowT (cvd l x d)) (upp (-cs.lo) l.melt.hi) = _ := mlT_eq ⟨⟨hy.bl.1.1, hy.wh.1.1⟩, hy.sn.1, f2.1⟩
 have e2 : mlT (hiT (cvd l x d)) (dn (-cs.hi) l.melt.lo) = _ := mlT_eq ⟨⟨hy.bl.2.1, hy.wh.2.1⟩, hy.sn.2, f1.1⟩
 have m1 : Met l x d (mlT (lowT (cvd l x d)) (upp (-cs.lo) l.melt.hi)) := ⟨lowT x, cs.lo, d.fall.lo, ⟨⟨.inl rfl, .inl rfl⟩, .inl rfl, .inl rfl⟩, h1, .inl rfl, .inl ⟨by omega, _, .inr rfl, by rw [opn_low]; rfl⟩⟩
 have m2 : Met l x d (mlT (hiT (cvd l x d)) (dn (-cs.hi) l.melt.lo)) := ⟨hiT x, cs.hi, d.fall.hi, ⟨⟨.inr rfl, .inr rfl⟩, .inr rfl, .inr rfl⟩, h2, .inr rfl, .inl ⟨by omega, _, .inl rfl, by rw [opn_hi]; rfl⟩⟩
 rw [e1] at m1
 rw [e2] at m2
 exact ⟨⟨_, m1, rfl⟩, ⟨_, m2, rfl⟩, ⟨_, m1, rfl⟩, ⟨_, m2, rfl⟩, ⟨_, m1, rfl⟩, ⟨_, m2, rfl⟩, ⟨_, m1, rfl⟩, ⟨_, m2, rfl⟩⟩
theorem met_aft {l : Fro} {x : Ice} {d : Wea} {k : Int} (hL : LawOk l) (hx : IceK x k k) (hd : WeaOk d) : Ends8 (Met l x d) (aft l x d) := by
 have hc := hd.cold
 unfold aft
 split
 · exact met_frz ⟨by assumption, hc.2.1⟩ (.inl (.inl rfl)) (.inl (.inr rfl))
 split
 · exact met_mlt hL hx hd ⟨hc.2.1, by assumption⟩ (.inl (.inl rfl)) (.inl (.inr rfl))
 refine (met_frz (cs := ⟨0, d.cold.hi⟩) ⟨Int.le_refl _, by show 0 <= d.cold.hi; omega⟩ (.inr ⟨⟨by omega, by omega⟩, .inr rfl⟩) (.inl (.inr rfl))).jnd
  (met_mlt (cs := ⟨d.cold.lo, -1⟩) hL hx hd ⟨by show d.cold.lo <= -1; omega, by show (-1 : Int) < 0; omega⟩ (.inl (.inl rfl)) (.inr ⟨⟨by omega, by omega⟩, .inl rfl⟩))
def okI (x : Ice) : Prop := ((x.bl.lo <= x.bl.hi) /\ x.wh.lo <= x.wh.hi) /\ (x.we.lo <= x.we.hi) /\ x.sn.lo <= x.sn.hi
theorem inI_ok {t : Tr} {x : Ice} (h : inI t x) : okI x := by
 obtain ⟨⟨⟨a1, a2⟩, b1, b2⟩, ⟨c1, c2⟩, s1, s2⟩ := h
 exact ⟨⟨by omega, by omega⟩, by omega, by omega⟩
theorem corner_in {t : Tr} {x : Ice} (hx : okI x) (h : corner t x) : inI t x := by
 obtain ⟨⟨a, b⟩, c, e⟩ := h
 obtain ⟨⟨xa, xb⟩, xc, xe⟩ := hx
 unfold endS at a b c e
 exact ⟨⟨by omega, by omega⟩, by omega, by omega⟩
theorem endC_in {c : Int} {s : Sp} (hs : s.lo <= s.hi) (h : endC c s) : s.lo <= c /\ c <= s.hi := by
 unfold endC endS at h
 omega
theorem endS_in {c : Int} {s : Sp} (hs : s.lo <= s.hi) (h : endS c s) : s.lo <= c /\ c <= s.hi := by
 unfold endS at h
 omega
def subD (e d : Wea) : Prop := ((d.cold.lo <= e.cold.lo /\ e.cold.hi <= d.cold.hi) /\ d.fall.lo <= e.fall.lo /\ e.fall.hi <= d.fall.hi) /\ e.water = d.water /\ e.clear = d.clear
theorem inI_sub {t : Tr} {y x : Ice} (h : inI t y) (hs : subI y x) : inI t x := by
 obtain ⟨⟨⟨a1, a2⟩, b1, b2⟩, ⟨c1, c2⟩, s1, s2⟩ := h
 obtain ⟨⟨⟨p1, p2⟩, q1, q2⟩, ⟨r1, r2⟩, u1, u2⟩ := hs
 exact ⟨⟨⟨by omega, by omega⟩, by omega, by omega⟩, ⟨by omega, by omega⟩, by omega, by omega⟩
theorem rch_in {l : Fro} {x : Ice} {d : Wea} {k : Int} {t u : Tr} {c f : Int} (hL : LawOk l) (hF : Falls l.cov) (hx : IceK x k k) (hd : WeaOk d) (h : inI t x) (hf : d.fall.lo <= f /\ f <= d.fall.hi) (hc : d.cold.lo <= c /\ c <= d.cold.hi) (hr : Rch l t d c f u) : inI u (aft l x d) := by
 have hm := hL.melt
 have hdc := hd.cold
 rcases hr with ⟨h0, n, hn, rfl⟩ | ⟨h0, n, up, hn, rfl⟩
 ·
  refine aft_warm hL hx hd h hf hc h0 (endS_in ?_ hn)
  show dn (-c) l.melt.lo <= upp (-c) l.melt.hi
  exact Int.le_trans (dn_mono (by omega) (Int.le_refl _) (by omega) hm.2.1) dn_le_upp
 refine aft_frost hL hF hx hd h hf hc h0 (endS_in ?_ hn)
 have := thr_ok hL (opn l t d f).sn
 exact Int.le_trans (dn_mono h0 (Int.le_refl _) this.1 this.2.1) dn_le_upp
theorem opn_congr {l : Fro} {t : Tr} {e d : Wea} {f : Int} (hw : e.water = d.water) (hc : e.clear = d.clear) : opn l t e f = opn l t d f := by
 unfold opn
 rw [hw, hc]
theorem rch_congr {l : Fro} {t u : Tr} {e d : Wea} {c f : Int} (hw : e.water = d.water) (hc : e.clear = d.clear) (h : Rch l t e c f u) : Rch l t d c f u := by
 unfold Rch at *
 rw [opn_congr hw hc] at h
 exact h
theorem met_in {l : Fro} {y x : Ice} {e d : Wea} {k : Int} {u : Tr} (hL : LawOk l) (hF : Falls l.cov) (hx : IceK x k k) (hd : WeaOk d) (hy : okI y) (he : WeaOk e) (hs : subI y x) (hsd : subD e d) (h : Met l y e u) : inI u (aft l x d) := by
 obtain ⟨t, c, f, ht, hc, hf, hr⟩ := h
 obtain ⟨⟨⟨a1, a2⟩, b1, b2⟩, e1, e2⟩ := hsd
 have h1 := endC_in he.cold.2.1 hc
 have h2 := endS_in he.fall.2.1 hf
 exact rch_in hL hF hx hd (inI_sub (corner_in hy ht) hs) ⟨by omega, by omega⟩ ⟨by omega, by omega⟩ (rch_congr e1 e2 hr)
theorem Ends8.sub {M : Tr -> Prop} {z x : Ice} (h : Ends8 M z) (hM : ∀ u, M u -> inI u x) : subI z x := by
 obtain ⟨⟨u1, a1, e1⟩, ⟨u2, a2, e2⟩, ⟨u3, a3, e3⟩, ⟨u4, a4, e4⟩, ⟨u5, a5, e5⟩, ⟨u6, a6, e6⟩, ⟨u7, a7, e7⟩, ⟨u8, a8, e8⟩⟩ := h
 have i1 := (hM _ a1).1.1
 have i2 := (hM _ a2).1.1
 have i3 := (hM _ a3).1.2
 have i4 := (hM _ a4).1.2
 have i5 := (hM _ a5).2.1
 have i6 := (hM _ a6).2.1
 have i7 := (hM _ a7).2.2
 have i8 := (hM _ a8).2.2
 exact ⟨⟨⟨by omega, by omega⟩, by omega, by omega⟩, ⟨by omega, by omega⟩, by omega, by omega⟩
theorem subI_refl (x : Ice) : subI x x := ⟨⟨⟨Int.le_refl _, Int.le_refl _⟩, Int.le_refl _, Int.le_refl _⟩, ⟨Int.le_refl _, Int.le_refl _⟩, Int.le_refl _, Int.le_refl _⟩
theorem subD_refl (d : Wea) : subD d d := ⟨⟨⟨Int.le_refl _, Int.le_refl _⟩, Int.le_refl _, Int.le_refl _⟩, rfl, rfl⟩
theorem aft_ok {l : Fro} {x : Ice} {d : Wea} {k : Int} (hL : LawOk l) (hF : Falls l.cov) (hx : IceK x k k) (hd : WeaOk d) (ho : okI x) : okI (aft l x d) := by
 obtain ⟨u, hu, _⟩ := (met_aft hL hx hd).bl1
 exact inI_ok (met_in hL hF hx hd ho hd (subI_refl x) (subD_refl d) hu)
theorem okI_of {x : Ice} (h : iceErr x = 0) : okI x := by
 have := iceB h
 exact ⟨⟨by omega, by omega⟩, by omega, by omega⟩
theorem TrK.le {t : Tr} {k m k' m' : Int} (h : TrK t k m) (hk : k <= k') (hm : m <= m') : TrK t k' m' := ⟨by have := h.bl; omega, by have := h.wh; omega, h.we, h.sn, by have := h.sum; omega⟩
theorem thC_bd {l : Fro} (hL : LawOk l) (s : Int) {c : Int} (hc : 0 <= c /\ c <= 1000) : (0 <= (thC l s c).lo /\ (thC l s c).lo <= 1000) /\ 0 <= (thC l s c).hi /\ (thC l s c).hi <= 1000 := by
 have t := thr_ok hL s
 have a := dn_bd (n := c) (p := (thr l.cov s).lo) (by omega) (by omega) (by omega)
 have b := up_bd (n := c) (p := (thr l.cov s).hi) (by omega) (by omega) (by omega)
 exact ⟨⟨a.1, by show dn _ _ <= _; omega⟩, b.1, by show upp _ _ <= _; omega⟩
theorem thW_bd {l : Fro} (hL : LawOk l) {n : Int} (hn : 0 <= n /\ n <= 1000) : (0 <= (thW l n).lo /\ (thW l n).lo <= 100000) /\ 0 <= (thW l n).hi /\ (thW l n).hi <= 100000 := by
 have hm := hL.melt
 have a := dn_bd7 (n := n) (p := l.melt.lo) (by omega) (by omega) (by omega)
 have b := up_bd7 (n := n) (p := l.melt.hi) (by omega) (by omega) (by omega)
 exact ⟨⟨a.1, by show dn _ _ <= _; omega⟩, b.1, by show upp _ _ <= _; omega⟩
set_option maxHeartbeats 8000000 in
theorem rthrough_c (lo hi : Nat) (v : Value) (l : Fro) (s c : Int) (w : World) (hl : Sl covEnc 3 lo hi w v l.cov) (h2 : hi <= w.heap.size) (hL : LawOk l) (hc0 : 0 <= c /\ c <= 1000) :
  Calls Tryz.prog 38 #[.agg (froC l v), .int .i64 s, .int .i64 c] w (Ret (.agg #[.int .i64 ((thC l s c).lo), .int .i64 ((thC l s c).hi)]) w) := by
 have F1 : Bun w [] w := Bun.nil _
 have hm_cs := hl.len
 unfold maxLen at hm_cs
 obtain ⟨sa, sc, rfl⟩ := hl.any
 replace F1 := F1.sl0 hl h2 rfl
 clear hl
 obtain ⟨x3, o4, e_⟩ := Sl.addr (F1.s 0 rfl) hL.n.1
 subst e_
 obtain ⟨c0, hz5_⟩ : ∃ z_, l.cov[0]? = some z_ := ⟨_, List.getElem?_eq_getElem hL.n.1⟩
 have hz5 := lhd hz5_
 clear hz5_
 have hn0 := hL.n
 have HL := lhd hL
 clear hL
 go_enter Tryz.func38, Tryz.ntmps38
 have ge6 : World.cell? _ ⟨x3, o4 + 1, none⟩ = some (.int .i64 c0.pt.lo) := (by have h_ := Sl.cells (F1.at 0 rfl) hz5.out 1 _ rfl; simpa [Nat.add_assoc] using h_)
 have gl7 := cell_lt ge6
 have ge8 : World.cell? _ ⟨x3, o4 + 1 + 1, none⟩ = some (.int .i64 c0.pt.hi) := (by have h_ := Sl.cells (F1.at 0 rfl) hz5.out 2 _ rfl; simpa [Nat.add_assoc] using h_)
 go_wp2_with fail
 clear ge6 gl7 ge8
 replace F1 := F1.new 29 (froC l (.slice (some ⟨x3, o4, none⟩) l.cov.length sc)) (n := w.heap.size) (by simp)
 replace F1 := F1.new 27 #[.int .i64 0, .int .i64 0] (n := (w.heap.size + 1)) (by simp)
 replace F1 := F1.new 27 #[.int .i64 c0.pt.lo, .int .i64 c0.pt.hi] (n := (w.heap.size + 2)) (by simp)
 have H0 : Hid (thr l.cov s = thrF s c0.pt l.cov) := lhd (by have hq := hz5.out; unfold thr hdP; cases hc : l.cov with | nil => rw [hc] at hq; cases hq | cons c cs => (rw [hc] at hq; simp at hq; rw [hq]))
 obtain ⟨HI12_, HI120⟩ : ∃ I : RelT, I = (fun t ds wr => ∃ (k : Nat) (p : Sp), t 1 = .int .i64 s /\ t 2 = .int .i64 c /\ t 3 = .pointer (some ⟨w.heap.size, 0, none⟩) /\ t 6 = .pointer (some ⟨w.heap.size + 1, 0, none⟩) /\ t 7 = .pointer (some ⟨w.heap.size + 2, 0, none⟩) /\ t 8 = .int .i64 (k : Int) /\ k <= l.cov.length /\ thr l.cov s = thrF s p (l.cov.drop k) /\ ds = [] /\ w.heap.size <= wr.heap.size /\ Bun w [rbox (w.heap.size + 2) 27 #[.int .i64 p.lo, .int .i64 p.hi], rbox (w.heap.size + 1) 27 #[.int .i64 0, .int .i64 0], rbox w.heap.size 29 (froC l (.slice (some ⟨x3, o4, none⟩) l.cov.length sc)), rsl covEnc 3 lo hi (.slice (some ⟨x3, o4, none⟩) l.cov.length sc) l.cov] wr) := ⟨_, rfl⟩
 have HI12 := lhd HI120
 clear HI120
 refine wp_loopS 44 rfl HI12_ (fun t wr => l.cov.length - (intOf (t 8)).toNat) ?atStart1 ?round1
 case round1 =>
  intro t ds wr hHid
  rw [HI12.out] at hHid
  obtain ⟨k, p, e1, e2, e3, e6, e7, e8, hrel⟩ := hHid
  have e : ((List.range 44).map t).toArray = #[t 0, t 1, t 2, t 3, t 4, t 5, t 6, t 7, t 8, t 9, t 10, t 11, t 12, t 13, t 14, t 15, t 16, t 17, t 18, t 19, t 20, t 21, t 22, t 23, t 24, t 25, t 26, t 27, t 28, t 29, t 30, t 31, t 32, t 33, t 34, t 35, t 36, t 37, t 38, t 39, t 40, t 41, t 42, t 43] := rfl
  (try dsimp only at e)
  rw [e1, e2, e3, e6, e7, e8] at e
  rw [e]
  simp only [e8]
  clear e e1 e2 e3 e6 e7 e8
  obtain ⟨hk, hR, rfl, hs14, hF13⟩ := hrel
  clear F1
  obtain ⟨w15, rfl⟩ : ∃ x_ : World, x_ = wr := ⟨_, rfl⟩
  have HR := lhd hR
  clear hR
  by_cases c16 : (k : Int) < (l.cov.length : Int)
  ·
   have c16H := lhd c16
   obtain ⟨z, hz17_⟩ : ∃ z_, l.cov[k]? = some z_ := ⟨_, List.getElem?_eq_getElem (by omega)⟩
   have hz17 := lhd hz17_
   clear hz17_
   have HZ : Hid (thr l.cov s = thrF s p (z :: l.cov.drop (k + 1))) := lhd (by rw [HR.out, drop_cons hz17.out])
   by_cases c18 : z.dp <= s
   ·
    have c18H := lhd c18
    have b19 := hF13.bx2 0 rfl
    have b20 := hF13.bx8 2 rfl
    have ge21 : World.cell? _ ⟨x3, o4 + k * 3, none⟩ = some (.int .i64 z.dp) := (Sl.cells (hF13.at 3 rfl) hz17.out 0 _ rfl)
    have gl22 := cell_lt ge21
    have ge23 : World.cell? _ ⟨x3, o4 + k * 3 + 1, none⟩ = some (.int .i64 z.pt.lo) := (Sl.cells (hF13.at 3 rfl) hz17.out 1 _ rfl)
    have ge24 : World.cell? _ ⟨x3, o4 + k * 3 + 1 + 1, none⟩ = some (.int .i64 z.pt.hi) := (Sl.cells (hF13.at 3 rfl) hz17.out 2 _ rfl)
    go_wp2_with fail
    clear b19 b20 ge21 gl22 ge23 ge24
    have F25 := hF13.pt2 (.int .i64 z.pt.lo) (.int .i64 z.pt.hi)
    clear hF13
    (first | refine ⟨by kernel_rfl, ?_, ?_⟩ | refine ⟨rfl, ?_, ?_⟩ | refine ⟨?_, ?_⟩)
    · rw [HI12.out]; exact ⟨k + 1, z.pt, by (iterate 5 refine ⟨by kernel_rfl, ?_⟩); exact ⟨(by show Value.int .i64 ((k : Int) + 1) = _; simp), (by omega), (by rw [HZ.out, thrF, if_pos c18H.out]), (by first | rfl | simp), (by first | omega | (simp; done) | (simp; omega)), F25⟩⟩
    · simp [slot, intOf]; omega
   have c18H := lhd c18
   have c18a := dec_f c18
   have b26 := hF13.bx8 2 rfl
   have ge27 : World.cell? _ ⟨x3, o4 + k * 3, none⟩ = some (.int .i64 z.dp) := (Sl.cells (hF13.at 3 rfl) hz17.out 0 _ rfl)
   have gl28 := cell_lt ge27
   go_wp2_with fail
   clear b26 ge27 gl28
   (first | refine ⟨by kernel_rfl, ?_, ?_⟩ | refine ⟨rfl, ?_, ?_⟩ | refine ⟨?_, ?_⟩)
   · rw [HI12.out]; exact ⟨k + 1, p, by (iterate 5 refine ⟨by kernel_rfl, ?_⟩); exact ⟨(by show Value.int .i64 ((k : Int) + 1) = _; simp), (by omega), (by rw [HZ.out, thrF, if_neg (by omega)]), (by first | rfl | simp), (by first | omega | (simp; done) | (simp; omega)), hF13⟩⟩
   · simp [slot, intOf]; omega
  have c16H := lhd c16
  have c16a := dec_f c16
  have HE : Hid (thr l.cov s = p) := lhd (by rw [HR.out, List.drop_eq_nil_of_le (by omega)]; rfl)
  have htp := thr_ok HL.out s
  rw [HE.out] at htp
  have b31 := hF13.bx8 2 rfl
  go_wp2_with fail
  clear b31
  have F32 := hF13.drew
  clear hF13
  refine ru_begin (fun W => C2 W (w.heap.size + 2) (.int .i64 p.lo) (.int .i64 p.hi)) 9 (by kernel_rfl) ?_ ?_
  · exact (F32.c2 0)
  obtain ⟨wd34, hwd_⟩ : ∃ x : World, w15.drew = x := ⟨_, rfl⟩
  rw [hwd_] at F32 ⊢
  have wd34s : w15.heap.size <= wd34.heap.size := by rw [← hwd_]; exact Nat.le_refl _
  clear hwd_
  have hS33 := (F32.c2 0)
  refine ru_t 0 [] ?_
  refine ru_t 1 [] ?_
  refine ru_t 2 [] ?_
  refine ru_t 4 [] ?_
  refine ru_t 5 [] ?_
  refine ru_t 6 [] ?_
  (try simp only [lpX])
  clear hS33
  refine ru_o 3 fun K hK => ?_
  go_simp
  refine (rdown_c _ _ _ (by omega) (by omega) (by omega) (by omega)).mono ?_
  rintro e _ ⟨rfl, rfl⟩
  have hd35 := dn_bd (n := c) (p := p.lo) (by omega) (by omega) (by omega)
  refine ru_back hK (by exact (F32.c2 0)) (fun _ => ?_)
  clear hK K
  (try simp only [lpX])
  refine ru_o 7 fun K hK => ?_
  go_simp
  refine (rup_c _ _ _ (by omega) (by omega) (by omega) (by omega)).mono ?_
  rintro e _ ⟨rfl, rfl⟩
  have hd36 := up_bd (n := c) (p := p.hi) (by omega) (by omega) (by omega)
  refine ru_back hK (by exact (F32.c2 0)) (fun _ => ?_)
  clear hK K
  (try simp only [lpX])
  refine ru_p 8 ?_
  (try simp only [lpX])
  refine ru_o 9 fun K hK => ?_
  have kb_ := F32.bx2 1 rfl
  go_simp
  clear kb_
  have F37 := (F32.front 1 rfl rfl).pt2 (.int .i64 (dn c p.lo)) (.int .i64 (upp c p.hi))
  clear F32
  refine ru_back_late hK (by kernel_rfl) ?_
  clear hK K
  (try simp only [lpX])
  refine ru_done (by kernel_rfl) ?_
  have Fn_ := ((F37.drop 1 rfl).drop 1 rfl)
  (try dsimp only [lpF, lpG] at Fn_)
  obtain ⟨w38, hx39, F41, hxs40⟩ := Fn_.name
  (try simp at hxs40)
  rw [hx39]
  clear hx39 F37 Fn_
  have Hx42 := lhd (show ((thC l s c).lo) = dn c p.lo by show dn _ _ = _; rw [HE.out])
  have Hx43 := lhd (show ((thC l s c).hi) = upp c p.hi by show upp _ _ = _; rw [HE.out])
  go_wp2_with fail
  have kb44 := F41.bx2 0 rfl
  go_wp2_with fail
  exact bodyPost_ret (v := .agg #[.int .i64 (dn c p.lo), .int .i64 (upp c p.hi)]) (by simp [results, Tryz.results38, go_sem, kb44]) rfl (⟨by rw [Hx42.out, Hx43.out] <;> rfl, F41.gb⟩)
 case atStart1 =>
  rw [HI12.out]
  exact ⟨0, c0.pt, by (iterate 5 refine ⟨by kernel_rfl, ?_⟩); exact ⟨rfl, Nat.zero_le _, H0.out, rfl, (by first | exact Nat.le_refl _ | omega | (simp; done) | (simp; omega)), F1⟩⟩
end Go.Proofs.YtdgplekokdeafaaGreat
