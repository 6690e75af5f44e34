/- frost: FrostEnds walked. -/
import Derived.Test.YthblaiefalbomaaF49
import Derived.Test.YthblaiefalbomaaF50
import Derived.Test.YthblaiefalbomaaF10
import Derived.Test.YthblaiefalbomaaF43
import Derived.Test.YthblaiefalbomaaF26
import Derived.Test.YthblaiefalbomaaF24
import Derived.Test.YthblaiefalbomaaMixG
set_option linter.unusedVariables false
set_option linter.unusedSimpArgs false
set_option linter.unnecessarySimpa false
namespace Go.Proofs.Ythblaiefalbomaa
open Go.RowKit
set_option maxRecDepth 100000

theorem step_ok (lo hi : Nat) (v : Value) (l : Fro) (x : Ice) (d : Wea) (w : World) (hl : Sl covEnc 3 lo hi w v l.cov) (h2 : hi ≤ w.heap.size) (h0 : allE l x [d] = 0) :
    Calls Try.prog 18 #[.agg (froC l v), .agg (iceC x), .agg (weaC d d.clear)] w (Ret (.tuple #[.agg (iceC (aft l x d)), .int .i64 0]) w) := by
  have h := step_c lo hi v l x d w hl h2
  rw [stepI, if_pos h0, h0] at h
  exact h
theorem days_v (D : List Tr) (lo hi : Nat) (v : Value) (l : Fro) (t : Tr) (d : Wea) (c f : Int) (w : World) (hl : Sl covEnc 3 lo hi w v l.cov) (h2 : hi ≤ w.heap.size) (hL : LawOk l) (ht : TrK t 0 0) (hd : WeaOk d) (hc : d.cold.lo ≤ c ∧ c ≤ d.cold.hi) (hf : d.fall.lo ≤ f ∧ f ≤ d.fall.hi) (hD : daysI l t d c f = D) :
    Calls Try.prog 22 #[.agg (froC l v), .agg #[.int .i64 t.bl, .int .i64 t.wh, .int .i64 t.we, .int .i64 t.sn], .agg (weaC d d.clear), .int .i64 c, .int .i64 f] w (SlT D w) := by
  subst hD
  exact days_c lo hi v l t 0 d c f w hl h2 hL ht (by omega) hd hc hf
theorem allI_ne {l : Fro} {x : Ice} {d : Wea} {k : Nat} (h : 0 < k) : allI l x d k ≠ [] := by
  obtain ⟨j, rfl⟩ : ∃ j, k = j + 1 := ⟨k - 1, by omega⟩
  intro e
  rw [allI_succ] at e
  have h1 := (List.append_eq_nil_iff.1 e).2
  have h2 : 1 ≤ (dayP l d (pkL (lsI x d) j)).length := daysI_pos _ _ _ _ _
  rw [h1] at h2
  exact absurd h2 (by decide)
theorem hul_in {l : Fro} {x : Ice} {d : Wea} {k i : Nat} {D : List Tr} {u : Tr} {m : Ice} {fi : Bool} (h : Hul (allI l x d k ++ D.take i) m) (hu : D[i]? = some u) (hf : fi = true ↔ k = 0 ∧ i = 0) : Hul (allI l x d k ++ D.take (i + 1)) (widI m u fi) := by
  have hi := (List.getElem?_eq_some_iff.1 hu).1
  rw [List.take_add_one, hu, ← List.append_assoc]
  refine hul_step h (hf.trans ⟨?_, ?_⟩)
  · rintro ⟨rfl, rfl⟩
    rfl
  · intro e
    obtain ⟨e1, e2⟩ := List.append_eq_nil_iff.1 e
    refine ⟨?_, ?_⟩
    · rcases Nat.eq_zero_or_pos k with h0 | h0
      · exact h0
      · exact absurd e1 (allI_ne h0)
    · rcases Nat.eq_zero_or_pos i with h0 | h0
      · exact h0
      · have h1 : (D.take i).length = i := by rw [List.length_take]; omega
        rw [e2] at h1
        exact h1.symm
theorem hul_out {l : Fro} {x : Ice} {d : Wea} {k i : Nat} {D : List Tr} {m : Ice} (h : Hul (allI l x d k ++ D.take i) m) (hD : dayP l d (pkL (lsI x d) k) = D) (hi : D.length ≤ i) : Hul (allI l x d (k + 1)) m := by
  rw [List.take_of_length_le hi, ← hD, ← allI_succ] at h
  exact h
theorem hul_zero (l : Fro) (x : Ice) (d : Wea) (m : Ice) : Hul (allI l x d 0) m := fun h => absurd rfl h
def Sl6 (l : List Int) (w : World) : Ending → World → Prop := fun e w' => ∃ (a : Option Addr) (c lo hi : Nat), e = .returned (.slice a 6 c) ∧ (w.heap.size ≤ lo ∧ hi ≤ w'.heap.size) ∧ Sl intEnc 1 lo hi w' (.slice a 6 c) l ∧ w.grownBy w' none
theorem SlI.six {l : List Int} {w : World} {e : Ending} {w' : World} (h : SlI l w e w') (hl : l.length = 6) : Sl6 l w e w' := by
  obtain ⟨a, c, lo, hi, rfl, h1, h2, h3⟩ := h
  exact ⟨a, c, lo, hi, by rw [hl], h1, by rw [hl] at h2; exact h2, h3⟩
theorem mul_le4 {p q a b : Nat} (h1 : p ≤ a) (h2 : q ≤ b) : p * q ≤ a * b := Nat.mul_le_mul h1 h2
set_option maxHeartbeats 16000000 in
theorem endsL_walk (vn : Value) (zs : List Int) (w : World) (hn : Sl intEnc 1 0 w.heap.size w vn zs) :
    Calls Try.prog 3 #[vn] w (Ret (.bool true) w) := by
  have F1 : Bun w [] w := Bun.nil _
  obtain ⟨na, nc, rfl⟩ := hn.any
  have hm_nums := hn.len
  unfold maxLen at hm_nums
  have F2 := F1.sl0 hn (Nat.le_refl _) rfl
  clear F1
  go_enter Try.func3, Try.ntmps3
  go_wp2_with fail
  refine (newSeed_c 0 w.heap.size _ zs _ (F2.at 0 rfl : Sl intEnc 1 0 w.heap.size _ (.slice na zs.length nc) zs)).mono ?_
  rintro e w5 ⟨sb, rfl, hsb, hsbs, hg3⟩
  have hsbl := hsbs.lt
  have hg3s := hg3.size
  (try simp at hg3s)
  have F6 := F2.add (rseed sb) hg3 (hsbs) (fun g e => by cases e; exact ⟨hsb, hsbs.lt⟩)
  clear F2
  clear hg3
  go_wp2_with fail
  refine (frostOf_c sb _ (F6.at 0 rfl : SeedAt _ sb)).mono ?_
  rintro e w9 ⟨l, vl, lo_l, hi_l, rfl, hxl, hyl, hzl, hfl, hs8, hg7⟩
  obtain ⟨sal, scl, rfl⟩ := hzl.any
  have HFl := Lib.hid hfl
  clear hfl
  have hml := hzl.len
  unfold maxLen at hml
  have hg7s := hg7.size
  (try simp at hg7s)
  have F10 := F6.seedAdd (rsl covEnc 3 lo_l hi_l (.slice sal l.cov.length scl) l.cov) hg7 hs8 (hzl) (fun g e => ⟨Nat.le_trans hxl e.1, Nat.lt_of_lt_of_le e.2 hyl⟩)
  clear F6
  clear hg7
  go_wp2_with fail
  refine (iceOf_c sb _ (F10.at 1 rfl : SeedAt _ sb)).mono ?_
  rintro e w13 ⟨ic, rfl, ⟨hic, hicm⟩, hs12, hg11⟩
  have hicb := iceB hic
  have hg11s := hg11.size
  (try simp at hg11s)
  have F14 := F10.seedAt 1 rfl hg11 hs12
  clear F10
  clear hg11
  go_wp2_with fail
  have F15 := F14.new 29 (froC l (.slice sal l.cov.length scl)) (n := w13.heap.size) (by simp)
  clear F14
  have F16 := F15.new 32 (iceC ic) (n := (w13.heap.size + 1)) (by simp)
  clear F15
  refine (daysOf_o sb w.heap.size 1 false _ ((F16.front 3 rfl rfl).at 0 rfl : SeedAt _ sb) (by omega) F16.gb.size).mono ?_
  rintro e w19 ⟨vo_dl, dl, rfl, hdodl, hdxdl, hdndl, hdvdl, hs18, hg17⟩
  have HDdl := Lib.hid hdvdl
  clear hdvdl
  have hg17s := hg17.size
  (try simp at hg17s)
  have F20 := (F16.front 3 rfl rfl).seedAdd (rown weaEnc 35 6 w.heap.size vo_dl dl) hg17 hs18 (hdodl) (hdxdl)
  clear F16
  clear hg17
  go_wp2_with fail
  refine (day_c 100 0 0 _).mono ?_
  rintro e w23 ⟨rfl, hg21⟩
  have hg21s := hg21.size
  (try simp at hg21s)
  have F24 := F20.gn hg21
  clear F20
  clear hg21
  go_wp2_with (at_builtin; refine wpList_app _ okWea rfl _ _ rfl w.heap.size vo_dl dl [(⟨⟨100, 100⟩, ⟨0, 0⟩, 0, false⟩ : Wea)] rfl (by exact ((F24.at 0 rfl : Own weaEnc 35 6 w.heap.size _ vo_dl dl)).alloc _) ⟨_, 0, none⟩ 1 1 rfl rfl (by decide) (news_of (Bk.newAt _ _ _ (by simp))) (dl.length + 1) (by simp) (by omega) (by first | omega | (simp; omega)) _ rfl ?_; intro g25 cap26 w27 hp28; refine Hid.out ?_)
  refine Lib.hid ?_
  have hp28s := hp28.gb.size
  (try simp at hp28s)
  have F29 := ((F24.alloc (.cells #[.int .i64 100, .int .i64 100, .int .i64 0, .int .i64 0, .int .i64 0, .bool false] 35)).front 0 rfl rfl).app hp28 (by simp)
  clear F24
  obtain ⟨al, hal_⟩ : ∃ z_, dl ++ [(⟨⟨100, 100⟩, ⟨0, 0⟩, 0, false⟩ : Wea)] = z_ := ⟨_, rfl⟩
  rw [hal_] at F29
  have hal1 : al.length ≤ dl.length + 1 := by rw [← hal_]; simp
  have hal2 : dl.length + 1 ≤ al.length := by rw [← hal_]; simp
  have HDal : Hid (∀ d ∈ al, weaErr d = 0) := Lib.hid (by rw [← hal_]; intro d_ hd_; rcases List.mem_append.1 hd_ with h_ | h_; exact (HDdl.out d_ h_).1; obtain rfl := List.mem_singleton.1 h_; unfold weaErr spanErr; simp only; (repeat' split) <;> first | rfl | (exfalso; omega) | omega)
  clear hal_
  obtain ⟨dd, hz30_⟩ : ∃ z_, al[0]? = some z_ := ⟨_, List.getElem?_eq_getElem (by omega)⟩
  have hz30 := Lib.hid hz30_
  clear hz30_
  have HDD : Hid (weaErr dd = 0) := Lib.hid (HDal.out dd (List.mem_of_getElem? hz30.out))
  have HWD := Lib.hid (weaOk HDD.out)
  have HL := Lib.hid (lawOk HFl.out)
  have HFa := Lib.hid (lawFalls HFl.out)
  have HIK := Lib.hid (iceK hic)
  have HOI := Lib.hid (okI_of hic)
  have b31 := F29.bx8 2 rfl
  have b32 := F29.bx8 3 rfl
  have ge33 : World.cell? _ ⟨g25, 0, none⟩ = some (.int .i64 dd.cold.lo) := (by simpa using (Own.sl (F29.at 0 rfl : Own weaEnc 35 6 w.heap.size _ (.slice (some ⟨g25, 0, none⟩) (dl.length + 1) cap26) al) (fun _ => rfl)).cells hz30.out 0 _ rfl)
  have gl34 := cell_lt ge33
  have ge35 : World.cell? _ ⟨g25, 1, none⟩ = some (.int .i64 dd.cold.hi) := (by simpa using (Own.sl (F29.at 0 rfl : Own weaEnc 35 6 w.heap.size _ (.slice (some ⟨g25, 0, none⟩) (dl.length + 1) cap26) al) (fun _ => rfl)).cells hz30.out 1 _ rfl)
  have ge36 : World.cell? _ ⟨g25, 2, none⟩ = some (.int .i64 dd.fall.lo) := (by simpa using (Own.sl (F29.at 0 rfl : Own weaEnc 35 6 w.heap.size _ (.slice (some ⟨g25, 0, none⟩) (dl.length + 1) cap26) al) (fun _ => rfl)).cells hz30.out 2 _ rfl)
  have ge37 : World.cell? _ ⟨g25, 3, none⟩ = some (.int .i64 dd.fall.hi) := (by simpa using (Own.sl (F29.at 0 rfl : Own weaEnc 35 6 w.heap.size _ (.slice (some ⟨g25, 0, none⟩) (dl.length + 1) cap26) al) (fun _ => rfl)).cells hz30.out 3 _ rfl)
  have ge38 : World.cell? _ ⟨g25, 4, none⟩ = some (.int .i64 dd.water) := (by simpa using (Own.sl (F29.at 0 rfl : Own weaEnc 35 6 w.heap.size _ (.slice (some ⟨g25, 0, none⟩) (dl.length + 1) cap26) al) (fun _ => rfl)).cells hz30.out 4 _ rfl)
  have ge39 : World.cell? _ ⟨g25, 5, none⟩ = some (.bool dd.clear) := (by simpa using (Own.sl (F29.at 0 rfl : Own weaEnc 35 6 w.heap.size _ (.slice (some ⟨g25, 0, none⟩) (dl.length + 1) cap26) al) (fun _ => rfl)).cells hz30.out 5 _ rfl)
  go_wp2_with fail
  clear b31 b32 ge33 gl34 ge35 ge36 ge37 ge38 ge39
  have F40 := F29.new 35 (weaC dd dd.clear) (n := w27.heap.size) (by simp)
  clear F29
  refine (step_ok _ _ _ l ic dd _ (F40.at 5 rfl : Sl covEnc 3 lo_l hi_l _ (.slice sal l.cov.length scl) l.cov) (by first | omega | (simp; omega)) (allE_of HFl.out hic (fun d_ h_ => by obtain rfl := List.mem_singleton.1 h_; exact HDD.out) (by simp))).mono ?_
  rintro e w43 ⟨rfl, hg41⟩
  have hg41s := hg41.size
  (try simp at hg41s)
  have F44 := F40.gn hg41
  clear F40
  clear hg41
  go_wp2_with fail
  have F45 := F44.new 32 #[.int .i64 ((aft l ic dd).bl.lo), .int .i64 ((aft l ic dd).bl.hi), .int .i64 ((aft l ic dd).wh.lo), .int .i64 ((aft l ic dd).wh.hi), .int .i64 ((aft l ic dd).we.lo), .int .i64 ((aft l ic dd).we.hi), .int .i64 ((aft l ic dd).sn.lo), .int .i64 ((aft l ic dd).sn.hi)] (n := w43.heap.size) (by simp)
  clear F44
  have Fn_ := F45
  (try dsimp only [List.eraseIdx_cons_succ, List.eraseIdx_cons_zero] at Fn_)
  obtain ⟨w46, hx47, F49, hxs48⟩ := Fn_.name
  (try simp at hxs48)
  rw [hx47]
  clear hx47 F45 Fn_
  have F50 := F49.drew
  clear F49
  refine ru_begin (fun W => W.cell? ⟨(w13.heap.size + 1), 0, none⟩ = some (.int .i64 ic.bl.lo) ∧ W.cell? ⟨(w13.heap.size + 1), 1, none⟩ = some (.int .i64 ic.bl.hi) ∧ W.cell? ⟨(w13.heap.size + 1), 2, none⟩ = some (.int .i64 ic.wh.lo) ∧ W.cell? ⟨(w13.heap.size + 1), 3, none⟩ = some (.int .i64 ic.wh.hi) ∧ W.cell? ⟨(w13.heap.size + 1), 4, none⟩ = some (.int .i64 ic.we.lo) ∧ W.cell? ⟨(w13.heap.size + 1), 5, none⟩ = some (.int .i64 ic.we.hi) ∧ W.cell? ⟨(w13.heap.size + 1), 6, none⟩ = some (.int .i64 ic.sn.lo) ∧ W.cell? ⟨(w13.heap.size + 1), 7, none⟩ = some (.int .i64 ic.sn.hi)) 15 (by kernel_rfl) ?_ ?_
  · exact ⟨F50.cl 4 0 rfl rfl, F50.cl 4 1 rfl rfl, F50.cl 4 2 rfl rfl, F50.cl 4 3 rfl rfl, F50.cl 4 4 rfl rfl, F50.cl 4 5 rfl rfl, F50.cl 4 6 rfl rfl, F50.cl 4 7 rfl rfl⟩
  obtain ⟨wd52, hwd_⟩ : ∃ x : World, w46.drew = x := ⟨_, rfl⟩
  rw [hwd_] at F50 ⊢
  have wd52s : w46.heap.size ≤ wd52.heap.size := by rw [← hwd_]; exact Nat.le_refl _
  clear hwd_
  have hS51 := (And.intro (F50.cl 4 0 rfl rfl) (And.intro (F50.cl 4 1 rfl rfl) (And.intro (F50.cl 4 2 rfl rfl) (And.intro (F50.cl 4 3 rfl rfl) (And.intro (F50.cl 4 4 rfl rfl) (And.intro (F50.cl 4 5 rfl rfl) (And.intro (F50.cl 4 6 rfl rfl) (F50.cl 4 7 rfl rfl))))))))
  refine ru_t 0 [] ?_
  refine ru_t 1 [] ?_
  refine ru_t 3 [] ?_
  refine ru_t 4 [] ?_
  refine ru_t 6 [] ?_
  refine ru_t 7 [] ?_
  refine ru_t 9 [] ?_
  refine ru_t 10 [] ?_
  (try simp only [Act.put, List.setIfInBounds_toArray, List.set_cons_zero, List.set_cons_succ])
  clear hS51
  refine ru_one 2 rfl (by kernel_rfl) (fun K hK => ?_)
  go_simp
  refine (ends_s ic.bl _).mono ?_
  rintro e w55 ⟨ea_b, ec_b, le_b, he_b, rfl, ⟨hexb, heyb⟩, hezb, hg53⟩
  have helb := endsI_len ic.bl
  have hg53s := hg53.size
  (try simp at hg53s)
  have F56 := F50.add (rsl intEnc 1 le_b he_b (.slice ea_b (endsI ic.bl).length ec_b) (endsI ic.bl)) hg53 (hezb) (fun g e => ⟨Nat.le_trans hexb e.1, Nat.lt_of_lt_of_le e.2 heyb⟩)
  clear F50
  refine ru_back hK (by exact ⟨F56.cl 5 0 rfl rfl, F56.cl 5 1 rfl rfl, F56.cl 5 2 rfl rfl, F56.cl 5 3 rfl rfl, F56.cl 5 4 rfl rfl, F56.cl 5 5 rfl rfl, F56.cl 5 6 rfl rfl, F56.cl 5 7 rfl rfl⟩) (fun hHeld => ?_)
  clear hK K
  (try simp only [Act.put, List.setIfInBounds_toArray, List.set_cons_zero, List.set_cons_succ])
  refine ru_one 5 rfl (by kernel_rfl) (fun K hK => ?_)
  go_simp
  refine (ends_s ic.wh _).mono ?_
  rintro e w59 ⟨ea_h, ec_h, le_h, he_h, rfl, ⟨hexh, heyh⟩, hezh, hg57⟩
  have helh := endsI_len ic.wh
  have hg57s := hg57.size
  (try simp at hg57s)
  have F60 := F56.add (rsl intEnc 1 le_h he_h (.slice ea_h (endsI ic.wh).length ec_h) (endsI ic.wh)) hg57 (hezh) (fun g e => ⟨Nat.le_trans hexh e.1, Nat.lt_of_lt_of_le e.2 heyh⟩)
  clear F56
  refine ru_back hK (by exact ⟨F60.cl 6 0 rfl rfl, F60.cl 6 1 rfl rfl, F60.cl 6 2 rfl rfl, F60.cl 6 3 rfl rfl, F60.cl 6 4 rfl rfl, F60.cl 6 5 rfl rfl, F60.cl 6 6 rfl rfl, F60.cl 6 7 rfl rfl⟩) (fun hHeld => ?_)
  clear hK K
  (try simp only [Act.put, List.setIfInBounds_toArray, List.set_cons_zero, List.set_cons_succ])
  refine ru_one 8 rfl (by kernel_rfl) (fun K hK => ?_)
  go_simp
  refine (ends_s ic.we _).mono ?_
  rintro e w63 ⟨ea_t, ec_t, le_t, he_t, rfl, ⟨hext, heyt⟩, hezt, hg61⟩
  have helt := endsI_len ic.we
  have hg61s := hg61.size
  (try simp at hg61s)
  have F64 := F60.add (rsl intEnc 1 le_t he_t (.slice ea_t (endsI ic.we).length ec_t) (endsI ic.we)) hg61 (hezt) (fun g e => ⟨Nat.le_trans hext e.1, Nat.lt_of_lt_of_le e.2 heyt⟩)
  clear F60
  refine ru_back hK (by exact ⟨F64.cl 7 0 rfl rfl, F64.cl 7 1 rfl rfl, F64.cl 7 2 rfl rfl, F64.cl 7 3 rfl rfl, F64.cl 7 4 rfl rfl, F64.cl 7 5 rfl rfl, F64.cl 7 6 rfl rfl, F64.cl 7 7 rfl rfl⟩) (fun hHeld => ?_)
  clear hK K
  (try simp only [Act.put, List.setIfInBounds_toArray, List.set_cons_zero, List.set_cons_succ])
  refine ru_one 11 rfl (by kernel_rfl) (fun K hK => ?_)
  go_simp
  refine (ends_s ic.sn _).mono ?_
  rintro e w67 ⟨ea_s, ec_s, le_s, he_s, rfl, ⟨hexs, heys⟩, hezs, hg65⟩
  have hels := endsI_len ic.sn
  have hg65s := hg65.size
  (try simp at hg65s)
  have F68 := F64.add (rsl intEnc 1 le_s he_s (.slice ea_s (endsI ic.sn).length ec_s) (endsI ic.sn)) hg65 (hezs) (fun g e => ⟨Nat.le_trans hexs e.1, Nat.lt_of_lt_of_le e.2 heys⟩)
  clear F64
  refine ru_back hK (by exact ⟨F68.cl 8 0 rfl rfl, F68.cl 8 1 rfl rfl, F68.cl 8 2 rfl rfl, F68.cl 8 3 rfl rfl, F68.cl 8 4 rfl rfl, F68.cl 8 5 rfl rfl, F68.cl 8 6 rfl rfl, F68.cl 8 7 rfl rfl⟩) (fun hHeld => ?_)
  clear hK K
  (try simp only [Act.put, List.setIfInBounds_toArray, List.set_cons_zero, List.set_cons_succ])
  refine ru_p 12 ?_
  (try simp only [Act.put, List.setIfInBounds_toArray, List.set_cons_zero, List.set_cons_succ])
  refine ru_p 13 ?_
  (try simp only [Act.put, List.setIfInBounds_toArray, List.set_cons_zero, List.set_cons_succ])
  refine ru_p 14 ?_
  (try simp only [Act.put, List.setIfInBounds_toArray, List.set_cons_zero, List.set_cons_succ])
  refine ru_one 15 rfl (by kernel_rfl) (fun K hK => ?_)
  go_simp
  refine ru_back_late hK (by kernel_rfl) ?_
  clear hK K
  (try simp only [Act.put, List.setIfInBounds_toArray, List.set_cons_zero, List.set_cons_succ])
  refine ru_done (by kernel_rfl) ?_
  have Fn_ := (F68.drop 8 rfl)
  (try dsimp only [List.eraseIdx_cons_succ, List.eraseIdx_cons_zero] at Fn_)
  obtain ⟨w69, hx70, F72, hxs71⟩ := Fn_.name
  (try simp at hxs71)
  rw [hx70]
  clear hx70 F68 Fn_
  go_wp2_with fail
  have F73 := F72.drew
  clear F72
  refine ru_begin (fun W => W.cell? ⟨w27.heap.size, 0, none⟩ = some (.int .i64 dd.cold.lo) ∧ W.cell? ⟨w27.heap.size, 1, none⟩ = some (.int .i64 dd.cold.hi) ∧ W.cell? ⟨w27.heap.size, 2, none⟩ = some (.int .i64 dd.fall.lo) ∧ W.cell? ⟨w27.heap.size, 3, none⟩ = some (.int .i64 dd.fall.hi)) 7 (by kernel_rfl) ?_ ?_
  · exact ⟨F73.cl 5 0 rfl rfl, F73.cl 5 1 rfl rfl, F73.cl 5 2 rfl rfl, F73.cl 5 3 rfl rfl⟩
  obtain ⟨wd75, hwd_⟩ : ∃ x : World, w69.drew = x := ⟨_, rfl⟩
  rw [hwd_] at F73 ⊢
  have wd75s : w69.heap.size ≤ wd75.heap.size := by rw [← hwd_]; exact Nat.le_refl _
  clear hwd_
  have hS74 := (And.intro (F73.cl 5 0 rfl rfl) (And.intro (F73.cl 5 1 rfl rfl) (And.intro (F73.cl 5 2 rfl rfl) (F73.cl 5 3 rfl rfl))))
  refine ru_t 0 [] ?_
  refine ru_t 1 [] ?_
  refine ru_t 3 [] ?_
  refine ru_t 4 [] ?_
  (try simp only [Act.put, List.setIfInBounds_toArray, List.set_cons_zero, List.set_cons_succ])
  clear hS74
  refine ru_one 2 rfl (by kernel_rfl) (fun K hK => ?_)
  go_simp
  refine (colds_s dd.cold _).mono ?_
  rintro e w78 ⟨ea_c, ec_c, le_c, he_c, rfl, ⟨hexc, heyc⟩, hezc, hg76⟩
  have helc := coldsI_len dd.cold
  have hg76s := hg76.size
  (try simp at hg76s)
  have F79 := F73.add (rsl intEnc 1 le_c he_c (.slice ea_c (coldsI dd.cold).length ec_c) (coldsI dd.cold)) hg76 (hezc) (fun g e => ⟨Nat.le_trans hexc e.1, Nat.lt_of_lt_of_le e.2 heyc⟩)
  clear F73
  refine ru_back hK (by exact ⟨F79.cl 6 0 rfl rfl, F79.cl 6 1 rfl rfl, F79.cl 6 2 rfl rfl, F79.cl 6 3 rfl rfl⟩) (fun hHeld => ?_)
  clear hK K
  (try simp only [Act.put, List.setIfInBounds_toArray, List.set_cons_zero, List.set_cons_succ])
  refine ru_one 5 rfl (by kernel_rfl) (fun K hK => ?_)
  go_simp
  refine (ends_s dd.fall _).mono ?_
  rintro e w82 ⟨ea_f, ec_f, le_f, he_f, rfl, ⟨hexf, heyf⟩, hezf, hg80⟩
  have helf := endsI_len dd.fall
  have hg80s := hg80.size
  (try simp at hg80s)
  have F83 := F79.add (rsl intEnc 1 le_f he_f (.slice ea_f (endsI dd.fall).length ec_f) (endsI dd.fall)) hg80 (hezf) (fun g e => ⟨Nat.le_trans hexf e.1, Nat.lt_of_lt_of_le e.2 heyf⟩)
  clear F79
  refine ru_back hK (by exact ⟨F83.cl 7 0 rfl rfl, F83.cl 7 1 rfl rfl, F83.cl 7 2 rfl rfl, F83.cl 7 3 rfl rfl⟩) (fun hHeld => ?_)
  clear hK K
  (try simp only [Act.put, List.setIfInBounds_toArray, List.set_cons_zero, List.set_cons_succ])
  refine ru_p 6 ?_
  (try simp only [Act.put, List.setIfInBounds_toArray, List.set_cons_zero, List.set_cons_succ])
  refine ru_one 7 rfl (by kernel_rfl) (fun K hK => ?_)
  go_simp
  refine ru_back_late hK (by kernel_rfl) ?_
  clear hK K
  (try simp only [Act.put, List.setIfInBounds_toArray, List.set_cons_zero, List.set_cons_succ])
  refine ru_done (by kernel_rfl) ?_
  have Fn_ := F83
  (try dsimp only [List.eraseIdx_cons_succ, List.eraseIdx_cons_zero] at Fn_)
  obtain ⟨w84, hx85, F87, hxs86⟩ := Fn_.name
  (try simp at hxs86)
  rw [hx85]
  clear hx85 F83 Fn_
  go_wp2_with fail
  have F88 := F87.new 22 #[.slice ea_b ((endsI ic.bl).length) ec_b, .slice ea_h ((endsI ic.wh).length) ec_h, .slice ea_t ((endsI ic.we).length) ec_t, .slice ea_s ((endsI ic.sn).length) ec_s, .slice ea_c ((coldsI dd.cold).length) ec_c, .slice ea_f ((endsI dd.fall).length) ec_f] (n := w84.heap.size) (by simp)
  clear F87
  refine wp_loop_rounds 7 ?_
  rw [rounds_succ]
  have hmo89 : (1 : Int) * ((endsI ic.bl).length : Int) = ((endsI ic.bl).length : Int) := Int.one_mul _
  have b90 := F88.bx6 0 rfl
  go_wp2_with fail
  clear b90
  have Fn_ := F88
  (try dsimp only [List.eraseIdx_cons_succ, List.eraseIdx_cons_zero] at Fn_)
  obtain ⟨w91, hx92, F94, hxs93⟩ := Fn_.name
  (try simp at hxs93)
  rw [hx92]
  clear hx92 F88 Fn_
  rw [rounds_succ]
  obtain ⟨p1, hp_⟩ : ∃ p : Nat, p = (endsI ic.bl).length * (endsI ic.wh).length := ⟨_, rfl⟩
  have hpb1 : p1 ≤ 4 := by rw [hp_]; exact mul_le4 (a := 2) (b := 2) (by omega) (by omega)
  have hpw1 : IntKind.i64.wrap (((endsI ic.bl).length : Int) * ((endsI ic.wh).length : Int)) = (p1 : Int) := by rw [← Int.natCast_mul, ← hp_]; exact IntWalk.i64_in _ (by omega)
  have HP1 := Lib.hid hp_
  clear hp_
  have b96 := F94.bx6 0 rfl
  go_wp2_with fail
  clear b96
  rw [rounds_succ]
  obtain ⟨p2, hp_⟩ : ∃ p : Nat, p = p1 * (endsI ic.we).length := ⟨_, rfl⟩
  have hpb2 : p2 ≤ 8 := by rw [hp_]; exact mul_le4 (a := 4) (b := 2) (by omega) (by omega)
  have hpw2 : IntKind.i64.wrap ((p1 : Int) * ((endsI ic.we).length : Int)) = (p2 : Int) := by rw [← Int.natCast_mul, ← hp_]; exact IntWalk.i64_in _ (by omega)
  have HP2 := Lib.hid hp_
  clear hp_
  have b98 := F94.bx6 0 rfl
  go_wp2_with fail
  clear b98
  rw [rounds_succ]
  obtain ⟨p3, hp_⟩ : ∃ p : Nat, p = p2 * (endsI ic.sn).length := ⟨_, rfl⟩
  have hpb3 : p3 ≤ 16 := by rw [hp_]; exact mul_le4 (a := 8) (b := 2) (by omega) (by omega)
  have hpw3 : IntKind.i64.wrap ((p2 : Int) * ((endsI ic.sn).length : Int)) = (p3 : Int) := by rw [← Int.natCast_mul, ← hp_]; exact IntWalk.i64_in _ (by omega)
  have HP3 := Lib.hid hp_
  clear hp_
  have b100 := F94.bx6 0 rfl
  go_wp2_with fail
  clear b100
  rw [rounds_succ]
  obtain ⟨p4, hp_⟩ : ∃ p : Nat, p = p3 * (coldsI dd.cold).length := ⟨_, rfl⟩
  have hpb4 : p4 ≤ 64 := by rw [hp_]; exact mul_le4 (a := 16) (b := 4) (by omega) (by omega)
  have hpw4 : IntKind.i64.wrap ((p3 : Int) * ((coldsI dd.cold).length : Int)) = (p4 : Int) := by rw [← Int.natCast_mul, ← hp_]; exact IntWalk.i64_in _ (by omega)
  have HP4 := Lib.hid hp_
  clear hp_
  have b102 := F94.bx6 0 rfl
  go_wp2_with fail
  clear b102
  rw [rounds_succ]
  obtain ⟨p5, hp_⟩ : ∃ p : Nat, p = p4 * (endsI dd.fall).length := ⟨_, rfl⟩
  have hpb5 : p5 ≤ 128 := by rw [hp_]; exact mul_le4 (a := 64) (b := 2) (by omega) (by omega)
  have hpw5 : IntKind.i64.wrap ((p4 : Int) * ((endsI dd.fall).length : Int)) = (p5 : Int) := by rw [← Int.natCast_mul, ← hp_]; exact IntWalk.i64_in _ (by omega)
  have HP5 := Lib.hid hp_
  clear hp_
  have b104 := F94.bx6 0 rfl
  go_wp2_with fail
  clear b104
  rw [rounds_succ]
  go_wp2_with fail
  have F105 := F94.new 32 (z8) (n := w91.heap.size) (by simp)
  clear F94
  obtain ⟨HI106_, HI1060⟩ : ∃ I : (Nat → Value) → List Deferred → World → Prop, I = (fun t ds wr => ∃ (k : Nat) (m : Ice), t 4 = .pointer (some ⟨w13.heap.size, 0, none⟩) ∧ t 6 = .pointer (some ⟨w27.heap.size, 0, none⟩) ∧ t 7 = .pointer (some ⟨w43.heap.size, 0, none⟩) ∧ t 15 = .slice (some ⟨w84.heap.size, 0, none⟩) 6 6 ∧ t 16 = .int .i64 (p5 : Int) ∧ t 18 = .pointer (some ⟨w91.heap.size, 0, none⟩) ∧ t 19 = .int .i64 (k : Int) ∧ k ≤ p5 ∧ Hul (allI l ic dd k) m ∧ ds = [] ∧ w91.heap.size ≤ wr.heap.size ∧ Bun w [rbox w91.heap.size 32 (iceC m), rbox w84.heap.size 22 #[.slice ea_b ((endsI ic.bl).length) ec_b, .slice ea_h ((endsI ic.wh).length) ec_h, .slice ea_t ((endsI ic.we).length) ec_t, .slice ea_s ((endsI ic.sn).length) ec_s, .slice ea_c ((coldsI dd.cold).length) ec_c, .slice ea_f ((endsI dd.fall).length) ec_f], rsl intEnc 1 le_f he_f (.slice ea_f (endsI dd.fall).length ec_f) (endsI dd.fall), rsl intEnc 1 le_c he_c (.slice ea_c (coldsI dd.cold).length ec_c) (coldsI dd.cold), rsl intEnc 1 le_s he_s (.slice ea_s (endsI ic.sn).length ec_s) (endsI ic.sn), rsl intEnc 1 le_t he_t (.slice ea_t (endsI ic.we).length ec_t) (endsI ic.we), rsl intEnc 1 le_h he_h (.slice ea_h (endsI ic.wh).length ec_h) (endsI ic.wh), rsl intEnc 1 le_b he_b (.slice ea_b (endsI ic.bl).length ec_b) (endsI ic.bl), rbox w43.heap.size 32 #[.int .i64 ((aft l ic dd).bl.lo), .int .i64 ((aft l ic dd).bl.hi), .int .i64 ((aft l ic dd).wh.lo), .int .i64 ((aft l ic dd).wh.hi), .int .i64 ((aft l ic dd).we.lo), .int .i64 ((aft l ic dd).we.hi), .int .i64 ((aft l ic dd).sn.lo), .int .i64 ((aft l ic dd).sn.hi)], rbox w27.heap.size 35 (weaC dd dd.clear), rown weaEnc 35 6 w.heap.size (.slice (some ⟨g25, 0, none⟩) (dl.length + 1) cap26) al, rseed sb, rbox w13.heap.size 29 (froC l (.slice sal l.cov.length scl)), rsl covEnc 3 lo_l hi_l (.slice sal l.cov.length scl) l.cov, rsl intEnc 1 0 w.heap.size (.slice na zs.length nc) zs] wr) := ⟨_, rfl⟩
  have HI106 := Lib.hid HI1060
  clear HI1060
  refine wp_loopS 137 rfl HI106_ (fun t wr => p5 - (intOf (t 19)).toNat) ?atStart19 ?round19
  case round19 =>
    intro t ds wr hHid
    rw [HI106.out] at hHid
    obtain ⟨k, m, e4, e6, e7, e15, e16, e18, e19, hrel⟩ := hHid
    have e : ((List.range 137).map t).toArray = #[t 0, t 1, t 2, t 3, t 4, t 5, t 6, t 7, t 8, t 9, t 10, t 11, t 12, t 13, t 14, t 15, t 16, t 17, t 18, t 19, t 20, t 21, t 22, t 23, t 24, t 25, t 26, t 27, t 28, t 29, t 30, t 31, t 32, t 33, t 34, t 35, t 36, t 37, t 38, t 39, t 40, t 41, t 42, t 43, t 44, t 45, t 46, t 47, t 48, t 49, t 50, t 51, t 52, t 53, t 54, t 55, t 56, t 57, t 58, t 59, t 60, t 61, t 62, t 63, t 64, t 65, t 66, t 67, t 68, t 69, t 70, t 71, t 72, t 73, t 74, t 75, t 76, t 77, t 78, t 79, t 80, t 81, t 82, t 83, t 84, t 85, t 86, t 87, t 88, t 89, t 90, t 91, t 92, t 93, t 94, t 95, t 96, t 97, t 98, t 99, t 100, t 101, t 102, t 103, t 104, t 105, t 106, t 107, t 108, t 109, t 110, t 111, t 112, t 113, t 114, t 115, t 116, t 117, t 118, t 119, t 120, t 121, t 122, t 123, t 124, t 125, t 126, t 127, t 128, t 129, t 130, t 131, t 132, t 133, t 134, t 135, t 136] := rfl
    (try dsimp only at e)
    rw [e4, e6, e7, e15, e16, e18, e19] at e
    rw [e]
    simp only [e19]
    clear e e4 e6 e7 e15 e16 e18 e19
    obtain ⟨hk, hhu, rfl, hs108, hF107⟩ := hrel
    clear F105
    obtain ⟨w109, rfl⟩ : ∃ x_ : World, x_ = wr := ⟨_, rfl⟩
    have HHU := Lib.hid hhu
    clear hhu
    by_cases c110 : (k : Int) < (p5 : Int)
    · skip
      have c110H := Lib.hid c110
      go_wp2_with fail
      refine ((picked_c w84.heap.size k _ _ _ _ _ _ _ _ _ _ _ _ _ _ _ _ _ _ _ _ _ _ _ _ _ _ _ _ _ _ _ (hF107.at 1 rfl : Bk _ w84.heap.size 22 #[.slice ea_b ((endsI ic.bl).length) ec_b, .slice ea_h ((endsI ic.wh).length) ec_h, .slice ea_t ((endsI ic.we).length) ec_t, .slice ea_s ((endsI ic.sn).length) ec_s, .slice ea_c ((coldsI dd.cold).length) ec_c, .slice ea_f ((endsI dd.fall).length) ec_f]) (by omega) (hF107.at 7 rfl : Sl intEnc 1 le_b he_b _ (.slice ea_b (endsI ic.bl).length ec_b) (endsI ic.bl)) (by first | omega | (simp; omega)) (by omega) (hF107.at 6 rfl : Sl intEnc 1 le_h he_h _ (.slice ea_h (endsI ic.wh).length ec_h) (endsI ic.wh)) (by first | omega | (simp; omega)) (by omega) (hF107.at 5 rfl : Sl intEnc 1 le_t he_t _ (.slice ea_t (endsI ic.we).length ec_t) (endsI ic.we)) (by first | omega | (simp; omega)) (by omega) (hF107.at 4 rfl : Sl intEnc 1 le_s he_s _ (.slice ea_s (endsI ic.sn).length ec_s) (endsI ic.sn)) (by first | omega | (simp; omega)) (by omega) (hF107.at 3 rfl : Sl intEnc 1 le_c he_c _ (.slice ea_c (coldsI dd.cold).length ec_c) (coldsI dd.cold)) (by first | omega | (simp; omega)) (by omega) (hF107.at 2 rfl : Sl intEnc 1 le_f he_f _ (.slice ea_f (endsI dd.fall).length ec_f) (endsI dd.fall)) (by first | omega | (simp; omega)) (by omega)).mono (fun _ _ h_ => SlI.six (l := pkL (lsI ic dd) k) h_ rfl)).mono ?_
      rintro e w113 ⟨pa, pc, lo_pk, hi_pk, rfl, ⟨rxp, ryp⟩, rwp, hg111⟩
      have hg111s := hg111.size
      (try simp at hg111s)
      have F114 := hF107.add (rsl intEnc 1 lo_pk hi_pk (.slice pa 6 pc) (pkL (lsI ic dd) k)) hg111 (rwp) (fun g e => ⟨Nat.le_trans rxp e.1, Nat.lt_of_lt_of_le e.2 ryp⟩)
      clear hF107
      clear hg111
      obtain ⟨z0, z1, z2, z3, z4, z5, hv_, ⟨ha_, hb_⟩, ⟨hc_, he_⟩, hf_, hg_⟩ := of6.1 (pkL_of (lsI ic dd) k (lsI_pos ic dd))
      rw [hv_] at F114
      have HT : Hid (TrK ⟨z0, z1, z2, z3⟩ 0 0) := Lib.hid (inI_K (corner_in (t := ⟨z0, z1, z2, z3⟩) HOI.out ⟨⟨ha_, hb_⟩, hc_, he_⟩) HIK.out)
      have hcb := endC_in HWD.out.cold.2.1 hf_
      have hfb := endS_in HWD.out.fall.2.1 hg_
      obtain ⟨DD, hD_⟩ : ∃ D_, daysI l ⟨z0, z1, z2, z3⟩ dd z4 z5 = D_ := ⟨_, rfl⟩
      have HDy : Hid (dayP l dd (pkL (lsI ic dd) k) = DD) := Lib.hid (by rw [hv_]; exact hD_)
      have hdl1 : 1 ≤ DD.length := by rw [← hD_]; exact daysI_pos _ _ _ _ _
      have hdl2 : DD.length ≤ 4 := by rw [← hD_]; exact daysI_le _ _ _ _ _
      have HDI := Lib.hid hD_
      clear hD_ hv_ ha_ hb_ hc_ he_ hf_ hg_
      obtain ⟨x115, o116, e_⟩ := Sl.addr (F114.at 0 rfl : Sl intEnc 1 lo_pk hi_pk _ (.slice pa 6 pc) ([z0, z1, z2, z3, z4, z5])) (by simp)
      subst e_
      go_wp2_with fail
      have F117 := F114.drew
      clear F114
      refine ru_begin (fun W => W.cell? ⟨w13.heap.size, 0, none⟩ = some (.int .i64 l.gr) ∧ W.cell? ⟨w13.heap.size, 1, none⟩ = some (.int .i64 l.la) ∧ W.cell? ⟨w13.heap.size, 2, none⟩ = some (.slice sal l.cov.length scl) ∧ W.cell? ⟨w13.heap.size, 3, none⟩ = some (.int .i64 l.melt.lo) ∧ W.cell? ⟨w13.heap.size, 4, none⟩ = some (.int .i64 l.melt.hi) ∧ W.cell? ⟨w13.heap.size, 5, none⟩ = some (.int .i64 l.soak) ∧ W.cell? ⟨w13.heap.size, 6, none⟩ = some (.int .i64 l.white.lo) ∧ W.cell? ⟨w13.heap.size, 7, none⟩ = some (.int .i64 l.white.hi) ∧ W.cell? ⟨x115, o116, none⟩ = some (.int .i64 z0) ∧ W.cell? ⟨x115, o116 + 1, none⟩ = some (.int .i64 z1) ∧ W.cell? ⟨x115, o116 + 2, none⟩ = some (.int .i64 z2) ∧ W.cell? ⟨x115, o116 + 3, none⟩ = some (.int .i64 z3) ∧ W.cell? ⟨w27.heap.size, 0, none⟩ = some (.int .i64 dd.cold.lo) ∧ W.cell? ⟨w27.heap.size, 1, none⟩ = some (.int .i64 dd.cold.hi) ∧ W.cell? ⟨w27.heap.size, 2, none⟩ = some (.int .i64 dd.fall.lo) ∧ W.cell? ⟨w27.heap.size, 3, none⟩ = some (.int .i64 dd.fall.hi) ∧ W.cell? ⟨w27.heap.size, 4, none⟩ = some (.int .i64 dd.water) ∧ W.cell? ⟨w27.heap.size, 5, none⟩ = some (.bool dd.clear) ∧ W.cell? ⟨x115, o116 + 4, none⟩ = some (.int .i64 z4) ∧ W.cell? ⟨x115, o116 + 5, none⟩ = some (.int .i64 z5)) 22 (by kernel_rfl) ?_ ?_
      · exact ⟨F117.cl 13 0 rfl rfl, F117.cl 13 1 rfl rfl, F117.cl 13 2 rfl rfl, F117.cl 13 3 rfl rfl, F117.cl 13 4 rfl rfl, F117.cl 13 5 rfl rfl, F117.cl 13 6 rfl rfl, F117.cl 13 7 rfl rfl, (by have h_ := ((F117.at 0 rfl : Sl intEnc 1 lo_pk hi_pk _ (.slice (some ⟨x115, o116, none⟩) 6 pc) ([z0, z1, z2, z3, z4, z5]))).cells (i := 0) rfl 0 _ rfl; simpa [Nat.add_assoc] using h_), (by have h_ := ((F117.at 0 rfl : Sl intEnc 1 lo_pk hi_pk _ (.slice (some ⟨x115, o116, none⟩) 6 pc) ([z0, z1, z2, z3, z4, z5]))).cells (i := 1) rfl 0 _ rfl; simpa [Nat.add_assoc] using h_), (by have h_ := ((F117.at 0 rfl : Sl intEnc 1 lo_pk hi_pk _ (.slice (some ⟨x115, o116, none⟩) 6 pc) ([z0, z1, z2, z3, z4, z5]))).cells (i := 2) rfl 0 _ rfl; simpa [Nat.add_assoc] using h_), (by have h_ := ((F117.at 0 rfl : Sl intEnc 1 lo_pk hi_pk _ (.slice (some ⟨x115, o116, none⟩) 6 pc) ([z0, z1, z2, z3, z4, z5]))).cells (i := 3) rfl 0 _ rfl; simpa [Nat.add_assoc] using h_), F117.cl 10 0 rfl rfl, F117.cl 10 1 rfl rfl, F117.cl 10 2 rfl rfl, F117.cl 10 3 rfl rfl, F117.cl 10 4 rfl rfl, F117.cl 10 5 rfl rfl, (by have h_ := ((F117.at 0 rfl : Sl intEnc 1 lo_pk hi_pk _ (.slice (some ⟨x115, o116, none⟩) 6 pc) ([z0, z1, z2, z3, z4, z5]))).cells (i := 4) rfl 0 _ rfl; simpa [Nat.add_assoc] using h_), (by have h_ := ((F117.at 0 rfl : Sl intEnc 1 lo_pk hi_pk _ (.slice (some ⟨x115, o116, none⟩) 6 pc) ([z0, z1, z2, z3, z4, z5]))).cells (i := 5) rfl 0 _ rfl; simpa [Nat.add_assoc] using h_)⟩
      obtain ⟨wd119, hwd_⟩ : ∃ x : World, w113.drew = x := ⟨_, rfl⟩
      rw [hwd_] at F117 ⊢
      have wd119s : w113.heap.size ≤ wd119.heap.size := by rw [← hwd_]; exact Nat.le_refl _
      clear hwd_
      have hS118 := (And.intro (F117.cl 13 0 rfl rfl) (And.intro (F117.cl 13 1 rfl rfl) (And.intro (F117.cl 13 2 rfl rfl) (And.intro (F117.cl 13 3 rfl rfl) (And.intro (F117.cl 13 4 rfl rfl) (And.intro (F117.cl 13 5 rfl rfl) (And.intro (F117.cl 13 6 rfl rfl) (And.intro (F117.cl 13 7 rfl rfl) (And.intro ((by have h_ := ((F117.at 0 rfl : Sl intEnc 1 lo_pk hi_pk _ (.slice (some ⟨x115, o116, none⟩) 6 pc) ([z0, z1, z2, z3, z4, z5]))).cells (i := 0) rfl 0 _ rfl; simpa [Nat.add_assoc] using h_)) (And.intro ((by have h_ := ((F117.at 0 rfl : Sl intEnc 1 lo_pk hi_pk _ (.slice (some ⟨x115, o116, none⟩) 6 pc) ([z0, z1, z2, z3, z4, z5]))).cells (i := 1) rfl 0 _ rfl; simpa [Nat.add_assoc] using h_)) (And.intro ((by have h_ := ((F117.at 0 rfl : Sl intEnc 1 lo_pk hi_pk _ (.slice (some ⟨x115, o116, none⟩) 6 pc) ([z0, z1, z2, z3, z4, z5]))).cells (i := 2) rfl 0 _ rfl; simpa [Nat.add_assoc] using h_)) (And.intro ((by have h_ := ((F117.at 0 rfl : Sl intEnc 1 lo_pk hi_pk _ (.slice (some ⟨x115, o116, none⟩) 6 pc) ([z0, z1, z2, z3, z4, z5]))).cells (i := 3) rfl 0 _ rfl; simpa [Nat.add_assoc] using h_)) (And.intro (F117.cl 10 0 rfl rfl) (And.intro (F117.cl 10 1 rfl rfl) (And.intro (F117.cl 10 2 rfl rfl) (And.intro (F117.cl 10 3 rfl rfl) (And.intro (F117.cl 10 4 rfl rfl) (And.intro (F117.cl 10 5 rfl rfl) (And.intro ((by have h_ := ((F117.at 0 rfl : Sl intEnc 1 lo_pk hi_pk _ (.slice (some ⟨x115, o116, none⟩) 6 pc) ([z0, z1, z2, z3, z4, z5]))).cells (i := 4) rfl 0 _ rfl; simpa [Nat.add_assoc] using h_)) ((by have h_ := ((F117.at 0 rfl : Sl intEnc 1 lo_pk hi_pk _ (.slice (some ⟨x115, o116, none⟩) 6 pc) ([z0, z1, z2, z3, z4, z5]))).cells (i := 5) rfl 0 _ rfl; simpa [Nat.add_assoc] using h_)))))))))))))))))))))
      refine ru_t 0 [] ?_
      refine ru_t 1 [] ?_
      refine ru_t 2 [] ?_
      refine ru_t 3 [] ?_
      refine ru_t 4 [] ?_
      refine ru_t 5 [] ?_
      refine ru_t 6 [] ?_
      refine ru_t 7 [] ?_
      refine ru_t 8 [] ?_
      refine ru_t 9 [] ?_
      refine ru_t 10 [] ?_
      refine ru_t 11 [] ?_
      refine ru_t 12 [] ?_
      refine ru_t 13 [] ?_
      refine ru_t 14 [] ?_
      refine ru_t 15 [] ?_
      refine ru_t 16 [] ?_
      refine ru_t 17 [] ?_
      refine ru_t 18 [] ?_
      refine ru_t 19 [] ?_
      refine ru_t 20 [] ?_
      (try simp only [Act.put, List.setIfInBounds_toArray, List.set_cons_zero, List.set_cons_succ])
      clear hS118
      refine ru_one 21 rfl (by kernel_rfl) (fun K hK => ?_)
      go_simp
      refine (days_v DD _ _ _ l ⟨z0, z1, z2, z3⟩ dd z4 z5 _ (F117.at 14 rfl : Sl covEnc 3 lo_l hi_l _ (.slice sal l.cov.length scl) l.cov) (by first | omega | (simp; omega)) HL.out HT.out HWD.out (by omega) (by omega) HDI.out).mono ?_
      rintro e w122 ⟨da_z, dc_z, lo_dz, hi_dz, rfl, ⟨rxz, ryz⟩, rwz, hg120⟩
      have hg120s := hg120.size
      (try simp at hg120s)
      have F123 := F117.add (rsl truEnc 4 lo_dz hi_dz (.slice da_z DD.length dc_z) DD) hg120 (rwz) (fun g e => ⟨Nat.le_trans rxz e.1, Nat.lt_of_lt_of_le e.2 ryz⟩)
      clear F117
      refine ru_back hK (by exact ⟨F123.cl 14 0 rfl rfl, F123.cl 14 1 rfl rfl, F123.cl 14 2 rfl rfl, F123.cl 14 3 rfl rfl, F123.cl 14 4 rfl rfl, F123.cl 14 5 rfl rfl, F123.cl 14 6 rfl rfl, F123.cl 14 7 rfl rfl, (by have h_ := ((F123.at 1 rfl : Sl intEnc 1 lo_pk hi_pk _ (.slice (some ⟨x115, o116, none⟩) 6 pc) ([z0, z1, z2, z3, z4, z5]))).cells (i := 0) rfl 0 _ rfl; simpa [Nat.add_assoc] using h_), (by have h_ := ((F123.at 1 rfl : Sl intEnc 1 lo_pk hi_pk _ (.slice (some ⟨x115, o116, none⟩) 6 pc) ([z0, z1, z2, z3, z4, z5]))).cells (i := 1) rfl 0 _ rfl; simpa [Nat.add_assoc] using h_), (by have h_ := ((F123.at 1 rfl : Sl intEnc 1 lo_pk hi_pk _ (.slice (some ⟨x115, o116, none⟩) 6 pc) ([z0, z1, z2, z3, z4, z5]))).cells (i := 2) rfl 0 _ rfl; simpa [Nat.add_assoc] using h_), (by have h_ := ((F123.at 1 rfl : Sl intEnc 1 lo_pk hi_pk _ (.slice (some ⟨x115, o116, none⟩) 6 pc) ([z0, z1, z2, z3, z4, z5]))).cells (i := 3) rfl 0 _ rfl; simpa [Nat.add_assoc] using h_), F123.cl 11 0 rfl rfl, F123.cl 11 1 rfl rfl, F123.cl 11 2 rfl rfl, F123.cl 11 3 rfl rfl, F123.cl 11 4 rfl rfl, F123.cl 11 5 rfl rfl, (by have h_ := ((F123.at 1 rfl : Sl intEnc 1 lo_pk hi_pk _ (.slice (some ⟨x115, o116, none⟩) 6 pc) ([z0, z1, z2, z3, z4, z5]))).cells (i := 4) rfl 0 _ rfl; simpa [Nat.add_assoc] using h_), (by have h_ := ((F123.at 1 rfl : Sl intEnc 1 lo_pk hi_pk _ (.slice (some ⟨x115, o116, none⟩) 6 pc) ([z0, z1, z2, z3, z4, z5]))).cells (i := 5) rfl 0 _ rfl; simpa [Nat.add_assoc] using h_)⟩) (fun hHeld => ?_)
      clear hK K
      (try simp only [Act.put, List.setIfInBounds_toArray, List.set_cons_zero, List.set_cons_succ])
      refine ru_one 22 rfl (by kernel_rfl) (fun K hK => ?_)
      go_simp
      refine ru_back_late hK (by kernel_rfl) ?_
      clear hK K
      (try simp only [Act.put, List.setIfInBounds_toArray, List.set_cons_zero, List.set_cons_succ])
      refine ru_done (by kernel_rfl) ?_
      have Fn_ := F123
      (try dsimp only [List.eraseIdx_cons_succ, List.eraseIdx_cons_zero] at Fn_)
      obtain ⟨w124, hx125, F127, hxs126⟩ := Fn_.name
      (try simp at hxs126)
      rw [hx125]
      clear hx125 F123 Fn_
      go_wp2_with fail
      obtain ⟨HI128_, HI1280⟩ : ∃ I : (Nat → Value) → List Deferred → World → Prop, I = (fun t ds wr => ∃ (i : Nat) (m2 : Ice), t 4 = .pointer (some ⟨w13.heap.size, 0, none⟩) ∧ t 6 = .pointer (some ⟨w27.heap.size, 0, none⟩) ∧ t 7 = .pointer (some ⟨w43.heap.size, 0, none⟩) ∧ t 15 = .slice (some ⟨w84.heap.size, 0, none⟩) 6 6 ∧ t 16 = .int .i64 (p5 : Int) ∧ t 18 = .pointer (some ⟨w91.heap.size, 0, none⟩) ∧ t 19 = .int .i64 (k : Int) ∧ t 21 = .slice da_z DD.length dc_z ∧ t 22 = .int .i64 (i : Int) ∧ i ≤ DD.length ∧ Hul (allI l ic dd k ++ DD.take i) m2 ∧ ds = [] ∧ w124.heap.size ≤ wr.heap.size ∧ Bun w [rsl truEnc 4 lo_dz hi_dz (.slice da_z DD.length dc_z) DD, rsl intEnc 1 lo_pk hi_pk (.slice (some ⟨x115, o116, none⟩) 6 pc) ([z0, z1, z2, z3, z4, z5]), rbox w91.heap.size 32 (iceC m2), rbox w84.heap.size 22 #[.slice ea_b ((endsI ic.bl).length) ec_b, .slice ea_h ((endsI ic.wh).length) ec_h, .slice ea_t ((endsI ic.we).length) ec_t, .slice ea_s ((endsI ic.sn).length) ec_s, .slice ea_c ((coldsI dd.cold).length) ec_c, .slice ea_f ((endsI dd.fall).length) ec_f], rsl intEnc 1 le_f he_f (.slice ea_f (endsI dd.fall).length ec_f) (endsI dd.fall), rsl intEnc 1 le_c he_c (.slice ea_c (coldsI dd.cold).length ec_c) (coldsI dd.cold), rsl intEnc 1 le_s he_s (.slice ea_s (endsI ic.sn).length ec_s) (endsI ic.sn), rsl intEnc 1 le_t he_t (.slice ea_t (endsI ic.we).length ec_t) (endsI ic.we), rsl intEnc 1 le_h he_h (.slice ea_h (endsI ic.wh).length ec_h) (endsI ic.wh), rsl intEnc 1 le_b he_b (.slice ea_b (endsI ic.bl).length ec_b) (endsI ic.bl), rbox w43.heap.size 32 #[.int .i64 ((aft l ic dd).bl.lo), .int .i64 ((aft l ic dd).bl.hi), .int .i64 ((aft l ic dd).wh.lo), .int .i64 ((aft l ic dd).wh.hi), .int .i64 ((aft l ic dd).we.lo), .int .i64 ((aft l ic dd).we.hi), .int .i64 ((aft l ic dd).sn.lo), .int .i64 ((aft l ic dd).sn.hi)], rbox w27.heap.size 35 (weaC dd dd.clear), rown weaEnc 35 6 w.heap.size (.slice (some ⟨g25, 0, none⟩) (dl.length + 1) cap26) al, rseed sb, rbox w13.heap.size 29 (froC l (.slice sal l.cov.length scl)), rsl covEnc 3 lo_l hi_l (.slice sal l.cov.length scl) l.cov, rsl intEnc 1 0 w.heap.size (.slice na zs.length nc) zs] wr) := ⟨_, rfl⟩
      have HI128 := Lib.hid HI1280
      clear HI1280
      refine wp_loopS 137 rfl HI128_ (fun t wr => DD.length - (intOf (t 22)).toNat) ?atStart20 ?round20
      case round20 =>
        intro t ds wr hHid
        rw [HI128.out] at hHid
        obtain ⟨i, m2, e4, e6, e7, e15, e16, e18, e19, e21, e22, hrel⟩ := hHid
        have e : ((List.range 137).map t).toArray = #[t 0, t 1, t 2, t 3, t 4, t 5, t 6, t 7, t 8, t 9, t 10, t 11, t 12, t 13, t 14, t 15, t 16, t 17, t 18, t 19, t 20, t 21, t 22, t 23, t 24, t 25, t 26, t 27, t 28, t 29, t 30, t 31, t 32, t 33, t 34, t 35, t 36, t 37, t 38, t 39, t 40, t 41, t 42, t 43, t 44, t 45, t 46, t 47, t 48, t 49, t 50, t 51, t 52, t 53, t 54, t 55, t 56, t 57, t 58, t 59, t 60, t 61, t 62, t 63, t 64, t 65, t 66, t 67, t 68, t 69, t 70, t 71, t 72, t 73, t 74, t 75, t 76, t 77, t 78, t 79, t 80, t 81, t 82, t 83, t 84, t 85, t 86, t 87, t 88, t 89, t 90, t 91, t 92, t 93, t 94, t 95, t 96, t 97, t 98, t 99, t 100, t 101, t 102, t 103, t 104, t 105, t 106, t 107, t 108, t 109, t 110, t 111, t 112, t 113, t 114, t 115, t 116, t 117, t 118, t 119, t 120, t 121, t 122, t 123, t 124, t 125, t 126, t 127, t 128, t 129, t 130, t 131, t 132, t 133, t 134, t 135, t 136] := rfl
        (try dsimp only at e)
        rw [e4, e6, e7, e15, e16, e18, e19, e21, e22] at e
        rw [e]
        simp only [e22]
        clear e e4 e6 e7 e15 e16 e18 e19 e21 e22
        obtain ⟨hi, hh2, rfl, hs130, hF129⟩ := hrel
        clear F127
        obtain ⟨w131, rfl⟩ : ∃ x_ : World, x_ = wr := ⟨_, rfl⟩
        have HH2 := Lib.hid hh2
        clear hh2
        by_cases c132 : (i : Int) < (DD.length : Int)
        · skip
          have c132H := Lib.hid c132
          obtain ⟨x133, o134, e_⟩ := Sl.addr (hF129.at 0 rfl : Sl truEnc 4 lo_dz hi_dz _ (.slice da_z DD.length dc_z) DD) (by omega)
          subst e_
          obtain ⟨u, hz135_⟩ : ∃ z_, DD[i]? = some z_ := ⟨_, List.getElem?_eq_getElem (by omega)⟩
          have hz135 := Lib.hid hz135_
          clear hz135_
          by_cases c136 : (k : Int) = 0
          · skip
            have c136a : ((k : Int) == 0) = true := beq_t c136
            have c136b : ((k : Int) != 0) = false := bne_f c136
            have c136H := Lib.hid c136
            clear c136
            by_cases c137 : (i : Int) = 0
            · skip
              have c137a : ((i : Int) == 0) = true := beq_t c137
              have c137b : ((i : Int) != 0) = false := bne_f c137
              have c137H := Lib.hid c137
              clear c137
              go_wp2_with fail
              have F138 := hF129.drew
              clear hF129
              refine ru_begin (fun W => W.cell? ⟨w91.heap.size, 0, none⟩ = some (.int .i64 m2.bl.lo) ∧ W.cell? ⟨w91.heap.size, 1, none⟩ = some (.int .i64 m2.bl.hi) ∧ W.cell? ⟨w91.heap.size, 2, none⟩ = some (.int .i64 m2.wh.lo) ∧ W.cell? ⟨w91.heap.size, 3, none⟩ = some (.int .i64 m2.wh.hi) ∧ W.cell? ⟨w91.heap.size, 4, none⟩ = some (.int .i64 m2.we.lo) ∧ W.cell? ⟨w91.heap.size, 5, none⟩ = some (.int .i64 m2.we.hi) ∧ W.cell? ⟨w91.heap.size, 6, none⟩ = some (.int .i64 m2.sn.lo) ∧ W.cell? ⟨w91.heap.size, 7, none⟩ = some (.int .i64 m2.sn.hi) ∧ W.cell? ⟨x133, o134 + i * 4, none⟩ = some (.int .i64 u.bl) ∧ W.cell? ⟨x133, o134 + i * 4 + 1, none⟩ = some (.int .i64 u.wh) ∧ W.cell? ⟨x133, o134 + i * 4 + 2, none⟩ = some (.int .i64 u.we) ∧ W.cell? ⟨x133, o134 + i * 4 + 3, none⟩ = some (.int .i64 u.sn)) 12 (by kernel_rfl) ?_ ?_
              · exact ⟨F138.cl 2 0 rfl rfl, F138.cl 2 1 rfl rfl, F138.cl 2 2 rfl rfl, F138.cl 2 3 rfl rfl, F138.cl 2 4 rfl rfl, F138.cl 2 5 rfl rfl, F138.cl 2 6 rfl rfl, F138.cl 2 7 rfl rfl, (((F138.at 0 rfl : Sl truEnc 4 lo_dz hi_dz _ (.slice (some ⟨x133, o134, none⟩) DD.length dc_z) DD)).cells hz135.out 0 _ rfl), (((F138.at 0 rfl : Sl truEnc 4 lo_dz hi_dz _ (.slice (some ⟨x133, o134, none⟩) DD.length dc_z) DD)).cells hz135.out 1 _ rfl), (((F138.at 0 rfl : Sl truEnc 4 lo_dz hi_dz _ (.slice (some ⟨x133, o134, none⟩) DD.length dc_z) DD)).cells hz135.out 2 _ rfl), (((F138.at 0 rfl : Sl truEnc 4 lo_dz hi_dz _ (.slice (some ⟨x133, o134, none⟩) DD.length dc_z) DD)).cells hz135.out 3 _ rfl)⟩
              obtain ⟨wd140, hwd_⟩ : ∃ x : World, w131.drew = x := ⟨_, rfl⟩
              rw [hwd_] at F138 ⊢
              have wd140s : w131.heap.size ≤ wd140.heap.size := by rw [← hwd_]; exact Nat.le_refl _
              clear hwd_
              have hS139 := (And.intro (F138.cl 2 0 rfl rfl) (And.intro (F138.cl 2 1 rfl rfl) (And.intro (F138.cl 2 2 rfl rfl) (And.intro (F138.cl 2 3 rfl rfl) (And.intro (F138.cl 2 4 rfl rfl) (And.intro (F138.cl 2 5 rfl rfl) (And.intro (F138.cl 2 6 rfl rfl) (And.intro (F138.cl 2 7 rfl rfl) (And.intro ((((F138.at 0 rfl : Sl truEnc 4 lo_dz hi_dz _ (.slice (some ⟨x133, o134, none⟩) DD.length dc_z) DD)).cells hz135.out 0 _ rfl)) (And.intro ((((F138.at 0 rfl : Sl truEnc 4 lo_dz hi_dz _ (.slice (some ⟨x133, o134, none⟩) DD.length dc_z) DD)).cells hz135.out 1 _ rfl)) (And.intro ((((F138.at 0 rfl : Sl truEnc 4 lo_dz hi_dz _ (.slice (some ⟨x133, o134, none⟩) DD.length dc_z) DD)).cells hz135.out 2 _ rfl)) ((((F138.at 0 rfl : Sl truEnc 4 lo_dz hi_dz _ (.slice (some ⟨x133, o134, none⟩) DD.length dc_z) DD)).cells hz135.out 3 _ rfl)))))))))))))
              refine ru_t 0 [] ?_
              refine ru_t 1 [] ?_
              refine ru_t 2 [] ?_
              refine ru_t 3 [] ?_
              refine ru_t 4 [] ?_
              refine ru_t 5 [] ?_
              refine ru_t 6 [] ?_
              refine ru_t 7 [] ?_
              refine ru_t 8 [] ?_
              refine ru_t 9 [] ?_
              refine ru_t 10 [] ?_
              (try simp only [Act.put, List.setIfInBounds_toArray, List.set_cons_zero, List.set_cons_succ])
              clear hS139
              refine ru_one 11 rfl (by kernel_rfl) (fun K hK => ?_)
              go_simp
              refine (wider_c m2 u true _).mono ?_
              rintro e w143 ⟨rfl, hg141⟩
              have hg141s := hg141.size
              (try simp at hg141s)
              have F144 := F138.gn hg141
              clear F138
              refine ru_back hK (by exact ⟨F144.cl 2 0 rfl rfl, F144.cl 2 1 rfl rfl, F144.cl 2 2 rfl rfl, F144.cl 2 3 rfl rfl, F144.cl 2 4 rfl rfl, F144.cl 2 5 rfl rfl, F144.cl 2 6 rfl rfl, F144.cl 2 7 rfl rfl, (((F144.at 0 rfl : Sl truEnc 4 lo_dz hi_dz _ (.slice (some ⟨x133, o134, none⟩) DD.length dc_z) DD)).cells hz135.out 0 _ rfl), (((F144.at 0 rfl : Sl truEnc 4 lo_dz hi_dz _ (.slice (some ⟨x133, o134, none⟩) DD.length dc_z) DD)).cells hz135.out 1 _ rfl), (((F144.at 0 rfl : Sl truEnc 4 lo_dz hi_dz _ (.slice (some ⟨x133, o134, none⟩) DD.length dc_z) DD)).cells hz135.out 2 _ rfl), (((F144.at 0 rfl : Sl truEnc 4 lo_dz hi_dz _ (.slice (some ⟨x133, o134, none⟩) DD.length dc_z) DD)).cells hz135.out 3 _ rfl)⟩) (fun hHeld => ?_)
              clear hK K
              (try simp only [Act.put, List.setIfInBounds_toArray, List.set_cons_zero, List.set_cons_succ])
              refine ru_one 12 rfl (by kernel_rfl) (fun K hK => ?_)
              have kb_ := F144.bx8 2 rfl
              go_simp
              clear kb_
              have F145 := (F144.front 2 rfl rfl).pt8 (.int .i64 ((widI m2 u true).bl.lo)) (.int .i64 ((widI m2 u true).bl.hi)) (.int .i64 ((widI m2 u true).wh.lo)) (.int .i64 ((widI m2 u true).wh.hi)) (.int .i64 ((widI m2 u true).we.lo)) (.int .i64 ((widI m2 u true).we.hi)) (.int .i64 ((widI m2 u true).sn.lo)) (.int .i64 ((widI m2 u true).sn.hi))
              clear F144
              refine ru_back_late hK (by kernel_rfl) ?_
              clear hK K
              (try simp only [Act.put, List.setIfInBounds_toArray, List.set_cons_zero, List.set_cons_succ])
              refine ru_done (by kernel_rfl) ?_
              have Fn_ := F145
              (try dsimp only [List.eraseIdx_cons_succ, List.eraseIdx_cons_zero] at Fn_)
              obtain ⟨w146, hx147, F149, hxs148⟩ := Fn_.name
              (try simp at hxs148)
              rw [hx147]
              clear hx147 F145 Fn_
              go_wp2_with fail
              have F150 : Bun w [rsl truEnc 4 lo_dz hi_dz (.slice (some ⟨x133, o134, none⟩) DD.length dc_z) DD, rsl intEnc 1 lo_pk hi_pk (.slice (some ⟨x115, o116, none⟩) 6 pc) ([z0, z1, z2, z3, z4, z5]), rbox w91.heap.size 32 #[.int .i64 ((widI m2 u true).bl.lo), .int .i64 ((widI m2 u true).bl.hi), .int .i64 ((widI m2 u true).wh.lo), .int .i64 ((widI m2 u true).wh.hi), .int .i64 ((widI m2 u true).we.lo), .int .i64 ((widI m2 u true).we.hi), .int .i64 ((widI m2 u true).sn.lo), .int .i64 ((widI m2 u true).sn.hi)], rbox w84.heap.size 22 #[.slice ea_b ((endsI ic.bl).length) ec_b, .slice ea_h ((endsI ic.wh).length) ec_h, .slice ea_t ((endsI ic.we).length) ec_t, .slice ea_s ((endsI ic.sn).length) ec_s, .slice ea_c ((coldsI dd.cold).length) ec_c, .slice ea_f ((endsI dd.fall).length) ec_f], rsl intEnc 1 le_f he_f (.slice ea_f (endsI dd.fall).length ec_f) (endsI dd.fall), rsl intEnc 1 le_c he_c (.slice ea_c (coldsI dd.cold).length ec_c) (coldsI dd.cold), rsl intEnc 1 le_s he_s (.slice ea_s (endsI ic.sn).length ec_s) (endsI ic.sn), rsl intEnc 1 le_t he_t (.slice ea_t (endsI ic.we).length ec_t) (endsI ic.we), rsl intEnc 1 le_h he_h (.slice ea_h (endsI ic.wh).length ec_h) (endsI ic.wh), rsl intEnc 1 le_b he_b (.slice ea_b (endsI ic.bl).length ec_b) (endsI ic.bl), rbox w43.heap.size 32 #[.int .i64 ((aft l ic dd).bl.lo), .int .i64 ((aft l ic dd).bl.hi), .int .i64 ((aft l ic dd).wh.lo), .int .i64 ((aft l ic dd).wh.hi), .int .i64 ((aft l ic dd).we.lo), .int .i64 ((aft l ic dd).we.hi), .int .i64 ((aft l ic dd).sn.lo), .int .i64 ((aft l ic dd).sn.hi)], rbox w27.heap.size 35 (weaC dd dd.clear), rown weaEnc 35 6 w.heap.size (.slice (some ⟨g25, 0, none⟩) (dl.length + 1) cap26) al, rseed sb, rbox w13.heap.size 29 (froC l (.slice sal l.cov.length scl)), rsl covEnc 3 lo_l hi_l (.slice sal l.cov.length scl) l.cov, rsl intEnc 1 0 w.heap.size (.slice na zs.length nc) zs] _ := F149.pick [1, 2, 0, 3, 4, 5, 6, 7, 8, 9, 10, 11, 12, 13, 14, 15, 16] (by decide) rfl
              clear F149
              (first | refine ⟨by kernel_rfl, ?_, ?_⟩ | refine ⟨rfl, ?_, ?_⟩ | refine ⟨?_, ?_⟩)
              · rw [HI128.out]; exact ⟨i + 1, (widI m2 u true), (by first | kernel_rfl | rfl), (by first | kernel_rfl | rfl), (by first | kernel_rfl | rfl), (by first | kernel_rfl | rfl), (by first | kernel_rfl | rfl), (by first | kernel_rfl | rfl), (by first | kernel_rfl | rfl), (by first | kernel_rfl | rfl), (by show Value.int .i64 ((i : Int) + 1) = _; simp), (by omega), (hul_in HH2.out hz135.out ⟨fun _ => by have := c136H.out; have := c137H.out; exact ⟨by omega, by omega⟩, fun _ => rfl⟩), (by first | rfl | simp), (by first | omega | (simp; done) | (simp; omega)), F150⟩
              · simp [slot, intOf]; omega
            · skip
              have c137a : ((i : Int) == 0) = false := beq_f c137
              have c137b : ((i : Int) != 0) = true := bne_t c137
              have c137H := Lib.hid c137
              clear c137
              go_wp2_with fail
              have F151 := hF129.drew
              clear hF129
              refine ru_begin (fun W => W.cell? ⟨w91.heap.size, 0, none⟩ = some (.int .i64 m2.bl.lo) ∧ W.cell? ⟨w91.heap.size, 1, none⟩ = some (.int .i64 m2.bl.hi) ∧ W.cell? ⟨w91.heap.size, 2, none⟩ = some (.int .i64 m2.wh.lo) ∧ W.cell? ⟨w91.heap.size, 3, none⟩ = some (.int .i64 m2.wh.hi) ∧ W.cell? ⟨w91.heap.size, 4, none⟩ = some (.int .i64 m2.we.lo) ∧ W.cell? ⟨w91.heap.size, 5, none⟩ = some (.int .i64 m2.we.hi) ∧ W.cell? ⟨w91.heap.size, 6, none⟩ = some (.int .i64 m2.sn.lo) ∧ W.cell? ⟨w91.heap.size, 7, none⟩ = some (.int .i64 m2.sn.hi) ∧ W.cell? ⟨x133, o134 + i * 4, none⟩ = some (.int .i64 u.bl) ∧ W.cell? ⟨x133, o134 + i * 4 + 1, none⟩ = some (.int .i64 u.wh) ∧ W.cell? ⟨x133, o134 + i * 4 + 2, none⟩ = some (.int .i64 u.we) ∧ W.cell? ⟨x133, o134 + i * 4 + 3, none⟩ = some (.int .i64 u.sn)) 12 (by kernel_rfl) ?_ ?_
              · exact ⟨F151.cl 2 0 rfl rfl, F151.cl 2 1 rfl rfl, F151.cl 2 2 rfl rfl, F151.cl 2 3 rfl rfl, F151.cl 2 4 rfl rfl, F151.cl 2 5 rfl rfl, F151.cl 2 6 rfl rfl, F151.cl 2 7 rfl rfl, (((F151.at 0 rfl : Sl truEnc 4 lo_dz hi_dz _ (.slice (some ⟨x133, o134, none⟩) DD.length dc_z) DD)).cells hz135.out 0 _ rfl), (((F151.at 0 rfl : Sl truEnc 4 lo_dz hi_dz _ (.slice (some ⟨x133, o134, none⟩) DD.length dc_z) DD)).cells hz135.out 1 _ rfl), (((F151.at 0 rfl : Sl truEnc 4 lo_dz hi_dz _ (.slice (some ⟨x133, o134, none⟩) DD.length dc_z) DD)).cells hz135.out 2 _ rfl), (((F151.at 0 rfl : Sl truEnc 4 lo_dz hi_dz _ (.slice (some ⟨x133, o134, none⟩) DD.length dc_z) DD)).cells hz135.out 3 _ rfl)⟩
              obtain ⟨wd153, hwd_⟩ : ∃ x : World, w131.drew = x := ⟨_, rfl⟩
              rw [hwd_] at F151 ⊢
              have wd153s : w131.heap.size ≤ wd153.heap.size := by rw [← hwd_]; exact Nat.le_refl _
              clear hwd_
              have hS152 := (And.intro (F151.cl 2 0 rfl rfl) (And.intro (F151.cl 2 1 rfl rfl) (And.intro (F151.cl 2 2 rfl rfl) (And.intro (F151.cl 2 3 rfl rfl) (And.intro (F151.cl 2 4 rfl rfl) (And.intro (F151.cl 2 5 rfl rfl) (And.intro (F151.cl 2 6 rfl rfl) (And.intro (F151.cl 2 7 rfl rfl) (And.intro ((((F151.at 0 rfl : Sl truEnc 4 lo_dz hi_dz _ (.slice (some ⟨x133, o134, none⟩) DD.length dc_z) DD)).cells hz135.out 0 _ rfl)) (And.intro ((((F151.at 0 rfl : Sl truEnc 4 lo_dz hi_dz _ (.slice (some ⟨x133, o134, none⟩) DD.length dc_z) DD)).cells hz135.out 1 _ rfl)) (And.intro ((((F151.at 0 rfl : Sl truEnc 4 lo_dz hi_dz _ (.slice (some ⟨x133, o134, none⟩) DD.length dc_z) DD)).cells hz135.out 2 _ rfl)) ((((F151.at 0 rfl : Sl truEnc 4 lo_dz hi_dz _ (.slice (some ⟨x133, o134, none⟩) DD.length dc_z) DD)).cells hz135.out 3 _ rfl)))))))))))))
              refine ru_t 0 [] ?_
              refine ru_t 1 [] ?_
              refine ru_t 2 [] ?_
              refine ru_t 3 [] ?_
              refine ru_t 4 [] ?_
              refine ru_t 5 [] ?_
              refine ru_t 6 [] ?_
              refine ru_t 7 [] ?_
              refine ru_t 8 [] ?_
              refine ru_t 9 [] ?_
              refine ru_t 10 [] ?_
              (try simp only [Act.put, List.setIfInBounds_toArray, List.set_cons_zero, List.set_cons_succ])
              clear hS152
              refine ru_one 11 rfl (by kernel_rfl) (fun K hK => ?_)
              go_simp
              refine (wider_c m2 u false _).mono ?_
              rintro e w156 ⟨rfl, hg154⟩
              have hg154s := hg154.size
              (try simp at hg154s)
              have F157 := F151.gn hg154
              clear F151
              refine ru_back hK (by exact ⟨F157.cl 2 0 rfl rfl, F157.cl 2 1 rfl rfl, F157.cl 2 2 rfl rfl, F157.cl 2 3 rfl rfl, F157.cl 2 4 rfl rfl, F157.cl 2 5 rfl rfl, F157.cl 2 6 rfl rfl, F157.cl 2 7 rfl rfl, (((F157.at 0 rfl : Sl truEnc 4 lo_dz hi_dz _ (.slice (some ⟨x133, o134, none⟩) DD.length dc_z) DD)).cells hz135.out 0 _ rfl), (((F157.at 0 rfl : Sl truEnc 4 lo_dz hi_dz _ (.slice (some ⟨x133, o134, none⟩) DD.length dc_z) DD)).cells hz135.out 1 _ rfl), (((F157.at 0 rfl : Sl truEnc 4 lo_dz hi_dz _ (.slice (some ⟨x133, o134, none⟩) DD.length dc_z) DD)).cells hz135.out 2 _ rfl), (((F157.at 0 rfl : Sl truEnc 4 lo_dz hi_dz _ (.slice (some ⟨x133, o134, none⟩) DD.length dc_z) DD)).cells hz135.out 3 _ rfl)⟩) (fun hHeld => ?_)
              clear hK K
              (try simp only [Act.put, List.setIfInBounds_toArray, List.set_cons_zero, List.set_cons_succ])
              refine ru_one 12 rfl (by kernel_rfl) (fun K hK => ?_)
              have kb_ := F157.bx8 2 rfl
              go_simp
              clear kb_
              have F158 := (F157.front 2 rfl rfl).pt8 (.int .i64 ((widI m2 u false).bl.lo)) (.int .i64 ((widI m2 u false).bl.hi)) (.int .i64 ((widI m2 u false).wh.lo)) (.int .i64 ((widI m2 u false).wh.hi)) (.int .i64 ((widI m2 u false).we.lo)) (.int .i64 ((widI m2 u false).we.hi)) (.int .i64 ((widI m2 u false).sn.lo)) (.int .i64 ((widI m2 u false).sn.hi))
              clear F157
              refine ru_back_late hK (by kernel_rfl) ?_
              clear hK K
              (try simp only [Act.put, List.setIfInBounds_toArray, List.set_cons_zero, List.set_cons_succ])
              refine ru_done (by kernel_rfl) ?_
              have Fn_ := F158
              (try dsimp only [List.eraseIdx_cons_succ, List.eraseIdx_cons_zero] at Fn_)
              obtain ⟨w159, hx160, F162, hxs161⟩ := Fn_.name
              (try simp at hxs161)
              rw [hx160]
              clear hx160 F158 Fn_
              go_wp2_with fail
              have F163 : Bun w [rsl truEnc 4 lo_dz hi_dz (.slice (some ⟨x133, o134, none⟩) DD.length dc_z) DD, rsl intEnc 1 lo_pk hi_pk (.slice (some ⟨x115, o116, none⟩) 6 pc) ([z0, z1, z2, z3, z4, z5]), rbox w91.heap.size 32 #[.int .i64 ((widI m2 u false).bl.lo), .int .i64 ((widI m2 u false).bl.hi), .int .i64 ((widI m2 u false).wh.lo), .int .i64 ((widI m2 u false).wh.hi), .int .i64 ((widI m2 u false).we.lo), .int .i64 ((widI m2 u false).we.hi), .int .i64 ((widI m2 u false).sn.lo), .int .i64 ((widI m2 u false).sn.hi)], rbox w84.heap.size 22 #[.slice ea_b ((endsI ic.bl).length) ec_b, .slice ea_h ((endsI ic.wh).length) ec_h, .slice ea_t ((endsI ic.we).length) ec_t, .slice ea_s ((endsI ic.sn).length) ec_s, .slice ea_c ((coldsI dd.cold).length) ec_c, .slice ea_f ((endsI dd.fall).length) ec_f], rsl intEnc 1 le_f he_f (.slice ea_f (endsI dd.fall).length ec_f) (endsI dd.fall), rsl intEnc 1 le_c he_c (.slice ea_c (coldsI dd.cold).length ec_c) (coldsI dd.cold), rsl intEnc 1 le_s he_s (.slice ea_s (endsI ic.sn).length ec_s) (endsI ic.sn), rsl intEnc 1 le_t he_t (.slice ea_t (endsI ic.we).length ec_t) (endsI ic.we), rsl intEnc 1 le_h he_h (.slice ea_h (endsI ic.wh).length ec_h) (endsI ic.wh), rsl intEnc 1 le_b he_b (.slice ea_b (endsI ic.bl).length ec_b) (endsI ic.bl), rbox w43.heap.size 32 #[.int .i64 ((aft l ic dd).bl.lo), .int .i64 ((aft l ic dd).bl.hi), .int .i64 ((aft l ic dd).wh.lo), .int .i64 ((aft l ic dd).wh.hi), .int .i64 ((aft l ic dd).we.lo), .int .i64 ((aft l ic dd).we.hi), .int .i64 ((aft l ic dd).sn.lo), .int .i64 ((aft l ic dd).sn.hi)], rbox w27.heap.size 35 (weaC dd dd.clear), rown weaEnc 35 6 w.heap.size (.slice (some ⟨g25, 0, none⟩) (dl.length + 1) cap26) al, rseed sb, rbox w13.heap.size 29 (froC l (.slice sal l.cov.length scl)), rsl covEnc 3 lo_l hi_l (.slice sal l.cov.length scl) l.cov, rsl intEnc 1 0 w.heap.size (.slice na zs.length nc) zs] _ := F162.pick [1, 2, 0, 3, 4, 5, 6, 7, 8, 9, 10, 11, 12, 13, 14, 15, 16] (by decide) rfl
              clear F162
              (first | refine ⟨by kernel_rfl, ?_, ?_⟩ | refine ⟨rfl, ?_, ?_⟩ | refine ⟨?_, ?_⟩)
              · rw [HI128.out]; exact ⟨i + 1, (widI m2 u false), (by first | kernel_rfl | rfl), (by first | kernel_rfl | rfl), (by first | kernel_rfl | rfl), (by first | kernel_rfl | rfl), (by first | kernel_rfl | rfl), (by first | kernel_rfl | rfl), (by first | kernel_rfl | rfl), (by first | kernel_rfl | rfl), (by show Value.int .i64 ((i : Int) + 1) = _; simp), (by omega), (hul_in HH2.out hz135.out ⟨fun h_ => (by cases h_), fun h_ => absurd h_ (by have := c136H.out; have := c137H.out; omega)⟩), (by first | rfl | simp), (by first | omega | (simp; done) | (simp; omega)), F163⟩
              · simp [slot, intOf]; omega
          · skip
            have c136a : ((k : Int) == 0) = false := beq_f c136
            have c136b : ((k : Int) != 0) = true := bne_t c136
            have c136H := Lib.hid c136
            clear c136
            go_wp2_with fail
            have F164 := hF129.drew
            clear hF129
            refine ru_begin (fun W => W.cell? ⟨w91.heap.size, 0, none⟩ = some (.int .i64 m2.bl.lo) ∧ W.cell? ⟨w91.heap.size, 1, none⟩ = some (.int .i64 m2.bl.hi) ∧ W.cell? ⟨w91.heap.size, 2, none⟩ = some (.int .i64 m2.wh.lo) ∧ W.cell? ⟨w91.heap.size, 3, none⟩ = some (.int .i64 m2.wh.hi) ∧ W.cell? ⟨w91.heap.size, 4, none⟩ = some (.int .i64 m2.we.lo) ∧ W.cell? ⟨w91.heap.size, 5, none⟩ = some (.int .i64 m2.we.hi) ∧ W.cell? ⟨w91.heap.size, 6, none⟩ = some (.int .i64 m2.sn.lo) ∧ W.cell? ⟨w91.heap.size, 7, none⟩ = some (.int .i64 m2.sn.hi) ∧ W.cell? ⟨x133, o134 + i * 4, none⟩ = some (.int .i64 u.bl) ∧ W.cell? ⟨x133, o134 + i * 4 + 1, none⟩ = some (.int .i64 u.wh) ∧ W.cell? ⟨x133, o134 + i * 4 + 2, none⟩ = some (.int .i64 u.we) ∧ W.cell? ⟨x133, o134 + i * 4 + 3, none⟩ = some (.int .i64 u.sn)) 12 (by kernel_rfl) ?_ ?_
            · exact ⟨F164.cl 2 0 rfl rfl, F164.cl 2 1 rfl rfl, F164.cl 2 2 rfl rfl, F164.cl 2 3 rfl rfl, F164.cl 2 4 rfl rfl, F164.cl 2 5 rfl rfl, F164.cl 2 6 rfl rfl, F164.cl 2 7 rfl rfl, (((F164.at 0 rfl : Sl truEnc 4 lo_dz hi_dz _ (.slice (some ⟨x133, o134, none⟩) DD.length dc_z) DD)).cells hz135.out 0 _ rfl), (((F164.at 0 rfl : Sl truEnc 4 lo_dz hi_dz _ (.slice (some ⟨x133, o134, none⟩) DD.length dc_z) DD)).cells hz135.out 1 _ rfl), (((F164.at 0 rfl : Sl truEnc 4 lo_dz hi_dz _ (.slice (some ⟨x133, o134, none⟩) DD.length dc_z) DD)).cells hz135.out 2 _ rfl), (((F164.at 0 rfl : Sl truEnc 4 lo_dz hi_dz _ (.slice (some ⟨x133, o134, none⟩) DD.length dc_z) DD)).cells hz135.out 3 _ rfl)⟩
            obtain ⟨wd166, hwd_⟩ : ∃ x : World, w131.drew = x := ⟨_, rfl⟩
            rw [hwd_] at F164 ⊢
            have wd166s : w131.heap.size ≤ wd166.heap.size := by rw [← hwd_]; exact Nat.le_refl _
            clear hwd_
            have hS165 := (And.intro (F164.cl 2 0 rfl rfl) (And.intro (F164.cl 2 1 rfl rfl) (And.intro (F164.cl 2 2 rfl rfl) (And.intro (F164.cl 2 3 rfl rfl) (And.intro (F164.cl 2 4 rfl rfl) (And.intro (F164.cl 2 5 rfl rfl) (And.intro (F164.cl 2 6 rfl rfl) (And.intro (F164.cl 2 7 rfl rfl) (And.intro ((((F164.at 0 rfl : Sl truEnc 4 lo_dz hi_dz _ (.slice (some ⟨x133, o134, none⟩) DD.length dc_z) DD)).cells hz135.out 0 _ rfl)) (And.intro ((((F164.at 0 rfl : Sl truEnc 4 lo_dz hi_dz _ (.slice (some ⟨x133, o134, none⟩) DD.length dc_z) DD)).cells hz135.out 1 _ rfl)) (And.intro ((((F164.at 0 rfl : Sl truEnc 4 lo_dz hi_dz _ (.slice (some ⟨x133, o134, none⟩) DD.length dc_z) DD)).cells hz135.out 2 _ rfl)) ((((F164.at 0 rfl : Sl truEnc 4 lo_dz hi_dz _ (.slice (some ⟨x133, o134, none⟩) DD.length dc_z) DD)).cells hz135.out 3 _ rfl)))))))))))))
            refine ru_t 0 [] ?_
            refine ru_t 1 [] ?_
            refine ru_t 2 [] ?_
            refine ru_t 3 [] ?_
            refine ru_t 4 [] ?_
            refine ru_t 5 [] ?_
            refine ru_t 6 [] ?_
            refine ru_t 7 [] ?_
            refine ru_ts 8 [] ?_
            refine ru_ts 9 [] ?_
            refine ru_t 10 [] ?_
            (try simp only [Act.put, List.setIfInBounds_toArray, List.set_cons_zero, List.set_cons_succ])
            clear hS165
            refine ru_one 11 rfl (by kernel_rfl) (fun K hK => ?_)
            go_simp
            refine (wider_c m2 u false _).mono ?_
            rintro e w169 ⟨rfl, hg167⟩
            have hg167s := hg167.size
            (try simp at hg167s)
            have F170 := F164.gn hg167
            clear F164
            refine ru_back hK (by exact ⟨F170.cl 2 0 rfl rfl, F170.cl 2 1 rfl rfl, F170.cl 2 2 rfl rfl, F170.cl 2 3 rfl rfl, F170.cl 2 4 rfl rfl, F170.cl 2 5 rfl rfl, F170.cl 2 6 rfl rfl, F170.cl 2 7 rfl rfl, (((F170.at 0 rfl : Sl truEnc 4 lo_dz hi_dz _ (.slice (some ⟨x133, o134, none⟩) DD.length dc_z) DD)).cells hz135.out 0 _ rfl), (((F170.at 0 rfl : Sl truEnc 4 lo_dz hi_dz _ (.slice (some ⟨x133, o134, none⟩) DD.length dc_z) DD)).cells hz135.out 1 _ rfl), (((F170.at 0 rfl : Sl truEnc 4 lo_dz hi_dz _ (.slice (some ⟨x133, o134, none⟩) DD.length dc_z) DD)).cells hz135.out 2 _ rfl), (((F170.at 0 rfl : Sl truEnc 4 lo_dz hi_dz _ (.slice (some ⟨x133, o134, none⟩) DD.length dc_z) DD)).cells hz135.out 3 _ rfl)⟩) (fun hHeld => ?_)
            clear hK K
            (try simp only [Act.put, List.setIfInBounds_toArray, List.set_cons_zero, List.set_cons_succ])
            refine ru_one 12 rfl (by kernel_rfl) (fun K hK => ?_)
            have kb_ := F170.bx8 2 rfl
            go_simp
            clear kb_
            have F171 := (F170.front 2 rfl rfl).pt8 (.int .i64 ((widI m2 u false).bl.lo)) (.int .i64 ((widI m2 u false).bl.hi)) (.int .i64 ((widI m2 u false).wh.lo)) (.int .i64 ((widI m2 u false).wh.hi)) (.int .i64 ((widI m2 u false).we.lo)) (.int .i64 ((widI m2 u false).we.hi)) (.int .i64 ((widI m2 u false).sn.lo)) (.int .i64 ((widI m2 u false).sn.hi))
            clear F170
            refine ru_back_late hK (by kernel_rfl) ?_
            clear hK K
            (try simp only [Act.put, List.setIfInBounds_toArray, List.set_cons_zero, List.set_cons_succ])
            refine ru_done (by kernel_rfl) ?_
            have Fn_ := F171
            (try dsimp only [List.eraseIdx_cons_succ, List.eraseIdx_cons_zero] at Fn_)
            obtain ⟨w172, hx173, F175, hxs174⟩ := Fn_.name
            (try simp at hxs174)
            rw [hx173]
            clear hx173 F171 Fn_
            go_wp2_with fail
            have F176 : Bun w [rsl truEnc 4 lo_dz hi_dz (.slice (some ⟨x133, o134, none⟩) DD.length dc_z) DD, rsl intEnc 1 lo_pk hi_pk (.slice (some ⟨x115, o116, none⟩) 6 pc) ([z0, z1, z2, z3, z4, z5]), rbox w91.heap.size 32 #[.int .i64 ((widI m2 u false).bl.lo), .int .i64 ((widI m2 u false).bl.hi), .int .i64 ((widI m2 u false).wh.lo), .int .i64 ((widI m2 u false).wh.hi), .int .i64 ((widI m2 u false).we.lo), .int .i64 ((widI m2 u false).we.hi), .int .i64 ((widI m2 u false).sn.lo), .int .i64 ((widI m2 u false).sn.hi)], rbox w84.heap.size 22 #[.slice ea_b ((endsI ic.bl).length) ec_b, .slice ea_h ((endsI ic.wh).length) ec_h, .slice ea_t ((endsI ic.we).length) ec_t, .slice ea_s ((endsI ic.sn).length) ec_s, .slice ea_c ((coldsI dd.cold).length) ec_c, .slice ea_f ((endsI dd.fall).length) ec_f], rsl intEnc 1 le_f he_f (.slice ea_f (endsI dd.fall).length ec_f) (endsI dd.fall), rsl intEnc 1 le_c he_c (.slice ea_c (coldsI dd.cold).length ec_c) (coldsI dd.cold), rsl intEnc 1 le_s he_s (.slice ea_s (endsI ic.sn).length ec_s) (endsI ic.sn), rsl intEnc 1 le_t he_t (.slice ea_t (endsI ic.we).length ec_t) (endsI ic.we), rsl intEnc 1 le_h he_h (.slice ea_h (endsI ic.wh).length ec_h) (endsI ic.wh), rsl intEnc 1 le_b he_b (.slice ea_b (endsI ic.bl).length ec_b) (endsI ic.bl), rbox w43.heap.size 32 #[.int .i64 ((aft l ic dd).bl.lo), .int .i64 ((aft l ic dd).bl.hi), .int .i64 ((aft l ic dd).wh.lo), .int .i64 ((aft l ic dd).wh.hi), .int .i64 ((aft l ic dd).we.lo), .int .i64 ((aft l ic dd).we.hi), .int .i64 ((aft l ic dd).sn.lo), .int .i64 ((aft l ic dd).sn.hi)], rbox w27.heap.size 35 (weaC dd dd.clear), rown weaEnc 35 6 w.heap.size (.slice (some ⟨g25, 0, none⟩) (dl.length + 1) cap26) al, rseed sb, rbox w13.heap.size 29 (froC l (.slice sal l.cov.length scl)), rsl covEnc 3 lo_l hi_l (.slice sal l.cov.length scl) l.cov, rsl intEnc 1 0 w.heap.size (.slice na zs.length nc) zs] _ := F175.pick [1, 2, 0, 3, 4, 5, 6, 7, 8, 9, 10, 11, 12, 13, 14, 15, 16] (by decide) rfl
            clear F175
            (first | refine ⟨by kernel_rfl, ?_, ?_⟩ | refine ⟨rfl, ?_, ?_⟩ | refine ⟨?_, ?_⟩)
            · rw [HI128.out]; exact ⟨i + 1, (widI m2 u false), (by first | kernel_rfl | rfl), (by first | kernel_rfl | rfl), (by first | kernel_rfl | rfl), (by first | kernel_rfl | rfl), (by first | kernel_rfl | rfl), (by first | kernel_rfl | rfl), (by first | kernel_rfl | rfl), (by first | kernel_rfl | rfl), (by show Value.int .i64 ((i : Int) + 1) = _; simp), (by omega), (hul_in HH2.out hz135.out ⟨fun h_ => (by cases h_), fun h_ => absurd h_ (by have := c136H.out; omega)⟩), (by first | rfl | simp), (by first | omega | (simp; done) | (simp; omega)), F176⟩
            · simp [slot, intOf]; omega
        · skip
          have c132H := Lib.hid c132
          have c132a : decide ((i : Int) < (DD.length : Int)) = false := dec_f c132
          go_wp2_with fail
          have F177 : Bun w [rbox w91.heap.size 32 (iceC m2), rbox w84.heap.size 22 #[.slice ea_b ((endsI ic.bl).length) ec_b, .slice ea_h ((endsI ic.wh).length) ec_h, .slice ea_t ((endsI ic.we).length) ec_t, .slice ea_s ((endsI ic.sn).length) ec_s, .slice ea_c ((coldsI dd.cold).length) ec_c, .slice ea_f ((endsI dd.fall).length) ec_f], rsl intEnc 1 le_f he_f (.slice ea_f (endsI dd.fall).length ec_f) (endsI dd.fall), rsl intEnc 1 le_c he_c (.slice ea_c (coldsI dd.cold).length ec_c) (coldsI dd.cold), rsl intEnc 1 le_s he_s (.slice ea_s (endsI ic.sn).length ec_s) (endsI ic.sn), rsl intEnc 1 le_t he_t (.slice ea_t (endsI ic.we).length ec_t) (endsI ic.we), rsl intEnc 1 le_h he_h (.slice ea_h (endsI ic.wh).length ec_h) (endsI ic.wh), rsl intEnc 1 le_b he_b (.slice ea_b (endsI ic.bl).length ec_b) (endsI ic.bl), rbox w43.heap.size 32 #[.int .i64 ((aft l ic dd).bl.lo), .int .i64 ((aft l ic dd).bl.hi), .int .i64 ((aft l ic dd).wh.lo), .int .i64 ((aft l ic dd).wh.hi), .int .i64 ((aft l ic dd).we.lo), .int .i64 ((aft l ic dd).we.hi), .int .i64 ((aft l ic dd).sn.lo), .int .i64 ((aft l ic dd).sn.hi)], rbox w27.heap.size 35 (weaC dd dd.clear), rown weaEnc 35 6 w.heap.size (.slice (some ⟨g25, 0, none⟩) (dl.length + 1) cap26) al, rseed sb, rbox w13.heap.size 29 (froC l (.slice sal l.cov.length scl)), rsl covEnc 3 lo_l hi_l (.slice sal l.cov.length scl) l.cov, rsl intEnc 1 0 w.heap.size (.slice na zs.length nc) zs] _ := hF129.pick [2, 3, 4, 5, 6, 7, 8, 9, 10, 11, 12, 13, 14, 15, 16] (by decide) rfl
          clear hF129
          (first | refine ⟨by kernel_rfl, ?_, ?_⟩ | refine ⟨rfl, ?_, ?_⟩ | refine ⟨?_, ?_⟩)
          · rw [HI106.out]; exact ⟨k + 1, m2, (by first | kernel_rfl | rfl), (by first | kernel_rfl | rfl), (by first | kernel_rfl | rfl), (by first | kernel_rfl | rfl), (by first | kernel_rfl | rfl), (by first | kernel_rfl | rfl), (by show Value.int .i64 ((k : Int) + 1) = _; simp), (by omega), (hul_out HH2.out HDy.out (by omega)), (by first | rfl | simp), (by first | omega | (simp; done) | (simp; omega)), F177⟩
          · simp [slot, intOf]; omega
      case atStart20 =>
        rw [HI128.out]
        exact ⟨0, m, (by first | kernel_rfl | rfl), (by first | kernel_rfl | rfl), (by first | kernel_rfl | rfl), (by first | kernel_rfl | rfl), (by first | kernel_rfl | rfl), (by first | kernel_rfl | rfl), (by first | kernel_rfl | rfl), (by first | kernel_rfl | rfl), rfl, Nat.zero_le _, (by rw [List.take_zero, List.append_nil]; exact HHU.out), rfl, (by first | exact Nat.le_refl _ | omega | (simp; done) | (simp; omega)), F127⟩
    · skip
      have c110H := Lib.hid c110
      have c110a : decide ((k : Int) < (p5 : Int)) = false := dec_f c110
      have hkp : k = p5 := by omega
      have hfin : aft l ic dd = m := met_hul HL.out HFa.out HIK.out HWD.out HOI.out (by have h_ := HHU.out; rw [hkp, HP5.out, HP4.out, HP3.out, HP2.out, HP1.out] at h_; rw [show prodL (lsI ic dd) = (endsI ic.bl).length * (endsI ic.wh).length * (endsI ic.we).length * (endsI ic.sn).length * (coldsI dd.cold).length * (endsI dd.fall).length by simp only [prodL, lsI, Nat.mul_assoc, Nat.mul_one]]; exact h_)
      subst hfin
      have b178 := hF107.bx8 0 rfl
      have b179 := hF107.bx8 8 rfl
      go_wp2_with fail
      clear b178 b179
      refine (awake_c _).mono ?_
      rintro e w182 ⟨rfl, hg180⟩
      have hg180s := hg180.size
      (try simp at hg180s)
      have F183 := hF107.gn hg180
      clear hF107
      clear hg180
      go_wp2_with fail
      go_ret
      exact ⟨rfl, F183.gb⟩
  case atStart19 =>
    rw [HI106.out]
    exact ⟨0, ⟨⟨0, 0⟩, ⟨0, 0⟩, ⟨0, 0⟩, ⟨0, 0⟩⟩, (by first | kernel_rfl | rfl), (by first | kernel_rfl | rfl), (by first | kernel_rfl | rfl), (by first | kernel_rfl | rfl), (by first | kernel_rfl | rfl), (by first | kernel_rfl | rfl), rfl, Nat.zero_le _, hul_zero _ _ _ _, rfl, (by first | exact Nat.le_refl _ | omega | (simp; done) | (simp; omega)), F105⟩

end Go.Proofs.Ythblaiefalbomaa
