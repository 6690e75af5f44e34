/- the reference of frost: cold that gets through; a cold day, a warm day. -/
import Derived.Test.YthblaiefalbomaaFP1
set_option linter.unusedVariables false
set_option linter.unusedSimpArgs false
set_option linter.unnecessarySimpa false
namespace Go.Proofs.Ythblaiefalbomaa
open Go.RowKit
set_option maxRecDepth 100000

theorem TrK.le {t : Tr} {k m k' m' : Int} (h : TrK t k m) (hk : k ≤ k') (hm : m ≤ m') : TrK t k' m' := ⟨by have := h.bl; omega, by have := h.wh; omega, h.we, h.sn, by have := h.sum; omega⟩
theorem thC_bd {l : Fro} (hL : LawOk l) (s : Int) {c : Int} (hc : 0 ≤ c ∧ c ≤ 1000) : (0 ≤ (thC l s c).lo ∧ (thC l s c).lo ≤ 1000) ∧ 0 ≤ (thC l s c).hi ∧ (thC l s c).hi ≤ 1000 := by
  have t := thr_ok hL s
  have a := dn_bd (n := c) (p := (thr l.cov s).lo) (by omega) (by omega) (by omega)
  have b := up_bd (n := c) (p := (thr l.cov s).hi) (by omega) (by omega) (by omega)
  exact ⟨⟨a.1, by show dn _ _ ≤ _; omega⟩, b.1, by show upp _ _ ≤ _; omega⟩
theorem thW_bd {l : Fro} (hL : LawOk l) {n : Int} (hn : 0 ≤ n ∧ n ≤ 1000) : (0 ≤ (thW l n).lo ∧ (thW l n).lo ≤ 100000) ∧ 0 ≤ (thW l n).hi ∧ (thW l n).hi ≤ 100000 := by
  have hm := hL.melt
  have a := dn_bd7 (n := n) (p := l.melt.lo) (by omega) (by omega) (by omega)
  have b := up_bd7 (n := n) (p := l.melt.hi) (by omega) (by omega) (by omega)
  exact ⟨⟨a.1, by show dn _ _ ≤ _; omega⟩, b.1, by show upp _ _ ≤ _; omega⟩
set_option maxHeartbeats 8000000 in
theorem rthrough_c (lo hi : Nat) (v : Value) (l : Fro) (s c : Int) (w : World) (hl : Sl covEnc 3 lo hi w v l.cov) (h2 : hi ≤ w.heap.size) (hL : LawOk l) (hc0 : 0 ≤ c ∧ c ≤ 1000) :
    Calls Try.prog 67 #[.agg (froC l v), .int .i64 s, .int .i64 c] w (Ret (.agg #[.int .i64 ((thC l s c).lo), .int .i64 ((thC l s c).hi)]) w) := by
  have F1 : Bun w [] w := Bun.nil _
  have hm_cs := hl.len
  unfold maxLen at hm_cs
  obtain ⟨sa, sc, rfl⟩ := hl.any
  have F2 := F1.sl0 hl h2 rfl
  clear F1
  clear hl
  obtain ⟨x3, o4, e_⟩ := Sl.addr (F2.at 0 rfl : Sl covEnc 3 lo hi _ (.slice sa l.cov.length sc) l.cov) hL.n.1
  subst e_
  obtain ⟨c0, hz5_⟩ : ∃ z_, l.cov[0]? = some z_ := ⟨_, List.getElem?_eq_getElem hL.n.1⟩
  have hz5 := Lib.hid hz5_
  clear hz5_
  have hn0 := hL.n
  have HL := Lib.hid hL
  clear hL
  go_enter Try.func67, Try.ntmps67
  have ge6 : World.cell? _ ⟨x3, o4 + 1, none⟩ = some (.int .i64 c0.pt.lo) := (by have h_ := ((F2.at 0 rfl : Sl covEnc 3 lo hi _ (.slice (some ⟨x3, o4, none⟩) l.cov.length sc) l.cov)).cells hz5.out 1 _ rfl; simpa [Nat.add_assoc] using h_)
  have gl7 := cell_lt ge6
  have ge8 : World.cell? _ ⟨x3, o4 + 1 + 1, none⟩ = some (.int .i64 c0.pt.hi) := (by have h_ := ((F2.at 0 rfl : Sl covEnc 3 lo hi _ (.slice (some ⟨x3, o4, none⟩) l.cov.length sc) l.cov)).cells hz5.out 2 _ rfl; simpa [Nat.add_assoc] using h_)
  go_wp2_with fail
  clear ge6 gl7 ge8
  have F9 := F2.new 29 (froC l (.slice (some ⟨x3, o4, none⟩) l.cov.length sc)) (n := w.heap.size) (by simp)
  clear F2
  have F10 := F9.new 27 #[.int .i64 0, .int .i64 0] (n := (w.heap.size + 1)) (by simp)
  clear F9
  have F11 := F10.new 27 #[.int .i64 c0.pt.lo, .int .i64 c0.pt.hi] (n := (w.heap.size + 2)) (by simp)
  clear F10
  have H0 : Hid (thr l.cov s = thrF s c0.pt l.cov) := Lib.hid (by have hq := hz5.out; unfold thr hdP; cases hc : l.cov with | nil => rw [hc] at hq; cases hq | cons c cs => (rw [hc] at hq; simp at hq; rw [hq]))
  obtain ⟨HI12_, HI120⟩ : ∃ I : (Nat → Value) → List Deferred → World → Prop, I = (fun t ds wr => ∃ (k : Nat) (p : Sp), t 1 = .int .i64 s ∧ t 2 = .int .i64 c ∧ t 3 = .pointer (some ⟨w.heap.size, 0, none⟩) ∧ t 6 = .pointer (some ⟨w.heap.size + 1, 0, none⟩) ∧ t 7 = .pointer (some ⟨w.heap.size + 2, 0, none⟩) ∧ t 8 = .int .i64 (k : Int) ∧ k ≤ l.cov.length ∧ thr l.cov s = thrF s p (l.cov.drop k) ∧ ds = [] ∧ w.heap.size ≤ wr.heap.size ∧ Bun w [rbox (w.heap.size + 2) 27 #[.int .i64 p.lo, .int .i64 p.hi], rbox (w.heap.size + 1) 27 #[.int .i64 0, .int .i64 0], rbox w.heap.size 29 (froC l (.slice (some ⟨x3, o4, none⟩) l.cov.length sc)), rsl covEnc 3 lo hi (.slice (some ⟨x3, o4, none⟩) l.cov.length sc) l.cov] wr) := ⟨_, rfl⟩
  have HI12 := Lib.hid HI120
  clear HI120
  refine wp_loopS 44 rfl HI12_ (fun t wr => l.cov.length - (intOf (t 8)).toNat) ?atStart8 ?round8
  case round8 =>
    intro t ds wr hHid
    rw [HI12.out] at hHid
    obtain ⟨k, p, e1, e2, e3, e6, e7, e8, hrel⟩ := hHid
    have e : ((List.range 44).map t).toArray = #[t 0, t 1, t 2, t 3, t 4, t 5, t 6, t 7, t 8, t 9, t 10, t 11, t 12, t 13, t 14, t 15, t 16, t 17, t 18, t 19, t 20, t 21, t 22, t 23, t 24, t 25, t 26, t 27, t 28, t 29, t 30, t 31, t 32, t 33, t 34, t 35, t 36, t 37, t 38, t 39, t 40, t 41, t 42, t 43] := rfl
    (try dsimp only at e)
    rw [e1, e2, e3, e6, e7, e8] at e
    rw [e]
    simp only [e8]
    clear e e1 e2 e3 e6 e7 e8
    obtain ⟨hk, hR, rfl, hs14, hF13⟩ := hrel
    clear F11
    obtain ⟨w15, rfl⟩ : ∃ x_ : World, x_ = wr := ⟨_, rfl⟩
    have HR := Lib.hid hR
    clear hR
    by_cases c16 : (k : Int) < (l.cov.length : Int)
    · skip
      have c16H := Lib.hid c16
      obtain ⟨z, hz17_⟩ : ∃ z_, l.cov[k]? = some z_ := ⟨_, List.getElem?_eq_getElem (by omega)⟩
      have hz17 := Lib.hid hz17_
      clear hz17_
      have HZ : Hid (thr l.cov s = thrF s p (z :: l.cov.drop (k + 1))) := Lib.hid (by rw [HR.out, drop_cons hz17.out])
      by_cases c18 : z.dp ≤ s
      · skip
        have c18H := Lib.hid c18
        have b19 := hF13.bx2 0 rfl
        have b20 := hF13.bx8 2 rfl
        have ge21 : World.cell? _ ⟨x3, o4 + k * 3, none⟩ = some (.int .i64 z.dp) := (((hF13.at 3 rfl : Sl covEnc 3 lo hi _ (.slice (some ⟨x3, o4, none⟩) l.cov.length sc) l.cov)).cells hz17.out 0 _ rfl)
        have gl22 := cell_lt ge21
        have ge23 : World.cell? _ ⟨x3, o4 + k * 3 + 1, none⟩ = some (.int .i64 z.pt.lo) := (((hF13.at 3 rfl : Sl covEnc 3 lo hi _ (.slice (some ⟨x3, o4, none⟩) l.cov.length sc) l.cov)).cells hz17.out 1 _ rfl)
        have ge24 : World.cell? _ ⟨x3, o4 + k * 3 + 1 + 1, none⟩ = some (.int .i64 z.pt.hi) := (((hF13.at 3 rfl : Sl covEnc 3 lo hi _ (.slice (some ⟨x3, o4, none⟩) l.cov.length sc) l.cov)).cells hz17.out 2 _ rfl)
        go_wp2_with fail
        clear b19 b20 ge21 gl22 ge23 ge24
        have F25 := hF13.pt2 (.int .i64 z.pt.lo) (.int .i64 z.pt.hi)
        clear hF13
        (first | refine ⟨by kernel_rfl, ?_, ?_⟩ | refine ⟨rfl, ?_, ?_⟩ | refine ⟨?_, ?_⟩)
        · rw [HI12.out]; exact ⟨k + 1, z.pt, (by first | kernel_rfl | rfl), (by first | kernel_rfl | rfl), (by first | kernel_rfl | rfl), (by first | kernel_rfl | rfl), (by first | kernel_rfl | rfl), (by show Value.int .i64 ((k : Int) + 1) = _; simp), (by omega), (by rw [HZ.out, thrF, if_pos c18H.out]), (by first | rfl | simp), (by first | omega | (simp; done) | (simp; omega)), F25⟩
        · simp [slot, intOf]; omega
      · skip
        have c18H := Lib.hid c18
        have c18a : decide (z.dp ≤ s) = false := dec_f c18
        have b26 := hF13.bx8 2 rfl
        have ge27 : World.cell? _ ⟨x3, o4 + k * 3, none⟩ = some (.int .i64 z.dp) := (((hF13.at 3 rfl : Sl covEnc 3 lo hi _ (.slice (some ⟨x3, o4, none⟩) l.cov.length sc) l.cov)).cells hz17.out 0 _ rfl)
        have gl28 := cell_lt ge27
        go_wp2_with fail
        clear b26 ge27 gl28
        (first | refine ⟨by kernel_rfl, ?_, ?_⟩ | refine ⟨rfl, ?_, ?_⟩ | refine ⟨?_, ?_⟩)
        · rw [HI12.out]; exact ⟨k + 1, p, (by first | kernel_rfl | rfl), (by first | kernel_rfl | rfl), (by first | kernel_rfl | rfl), (by first | kernel_rfl | rfl), (by first | kernel_rfl | rfl), (by show Value.int .i64 ((k : Int) + 1) = _; simp), (by omega), (by rw [HZ.out, thrF, if_neg (by omega)]), (by first | rfl | simp), (by first | omega | (simp; done) | (simp; omega)), hF13⟩
        · simp [slot, intOf]; omega
    · skip
      have c16H := Lib.hid c16
      have c16a : decide ((k : Int) < (l.cov.length : Int)) = false := dec_f c16
      have HE : Hid (thr l.cov s = p) := Lib.hid (by rw [HR.out, List.drop_eq_nil_of_le (by omega)]; rfl)
      have htp := thr_ok HL.out s
      rw [HE.out] at htp
      have b31 := hF13.bx8 2 rfl
      go_wp2_with fail
      clear b31
      have F32 := hF13.drew
      clear hF13
      refine ru_begin (fun W => W.cell? ⟨(w.heap.size + 2), 0, none⟩ = some (.int .i64 p.lo) ∧ W.cell? ⟨(w.heap.size + 2), 1, none⟩ = some (.int .i64 p.hi)) 9 (by kernel_rfl) ?_ ?_
      · exact ⟨F32.cl 0 0 rfl rfl, F32.cl 0 1 rfl rfl⟩
      obtain ⟨wd34, hwd_⟩ : ∃ x : World, w15.drew = x := ⟨_, rfl⟩
      rw [hwd_] at F32 ⊢
      have wd34s : w15.heap.size ≤ wd34.heap.size := by rw [← hwd_]; exact Nat.le_refl _
      clear hwd_
      have hS33 := (And.intro (F32.cl 0 0 rfl rfl) (F32.cl 0 1 rfl rfl))
      refine ru_t 0 [] ?_
      refine ru_t 1 [] ?_
      refine ru_t 2 [] ?_
      refine ru_t 4 [] ?_
      refine ru_t 5 [] ?_
      refine ru_t 6 [] ?_
      (try simp only [Act.put, List.setIfInBounds_toArray, List.set_cons_zero, List.set_cons_succ])
      clear hS33
      refine ru_one 3 rfl (by kernel_rfl) (fun K hK => ?_)
      go_simp
      refine (rdown_c _ _ _ (by omega) (by omega) (by omega) (by omega)).mono ?_
      rintro e _ ⟨rfl, rfl⟩
      have hd35 := dn_bd (n := c) (p := p.lo) (by omega) (by omega) (by omega)
      refine ru_back hK (by exact ⟨F32.cl 0 0 rfl rfl, F32.cl 0 1 rfl rfl⟩) (fun hHeld => ?_)
      clear hK K
      (try simp only [Act.put, List.setIfInBounds_toArray, List.set_cons_zero, List.set_cons_succ])
      refine ru_one 7 rfl (by kernel_rfl) (fun K hK => ?_)
      go_simp
      refine (rup_c _ _ _ (by omega) (by omega) (by omega) (by omega)).mono ?_
      rintro e _ ⟨rfl, rfl⟩
      have hd36 := up_bd (n := c) (p := p.hi) (by omega) (by omega) (by omega)
      refine ru_back hK (by exact ⟨F32.cl 0 0 rfl rfl, F32.cl 0 1 rfl rfl⟩) (fun hHeld => ?_)
      clear hK K
      (try simp only [Act.put, List.setIfInBounds_toArray, List.set_cons_zero, List.set_cons_succ])
      refine ru_p 8 ?_
      (try simp only [Act.put, List.setIfInBounds_toArray, List.set_cons_zero, List.set_cons_succ])
      refine ru_one 9 rfl (by kernel_rfl) (fun K hK => ?_)
      have kb_ := F32.bx2 1 rfl
      go_simp
      clear kb_
      have F37 := (F32.front 1 rfl rfl).pt2 (.int .i64 (dn c p.lo)) (.int .i64 (upp c p.hi))
      clear F32
      refine ru_back_late hK (by kernel_rfl) ?_
      clear hK K
      (try simp only [Act.put, List.setIfInBounds_toArray, List.set_cons_zero, List.set_cons_succ])
      refine ru_done (by kernel_rfl) ?_
      obtain ⟨w38, hx39, F41, hxs40⟩ := (show Bun w [rbox (w.heap.size + 1) 27 #[.int .i64 (dn c p.lo), .int .i64 (upp c p.hi)], rsl covEnc 3 lo hi (.slice (some ⟨x3, o4, none⟩) l.cov.length sc) l.cov] _ from ((F37.drop 1 rfl).drop 1 rfl)).name
      (try simp at hxs40)
      rw [hx39]
      clear hx39 F37
      have Hx42 := Lib.hid (show (((thC l s c).lo : Int)) = dn c p.lo by show dn _ _ = _; rw [HE.out])
      have Hx43 := Lib.hid (show (((thC l s c).hi : Int)) = upp c p.hi by show upp _ _ = _; rw [HE.out])
      go_wp2_with fail
      have kb44 := F41.bx2 0 rfl
      go_wp2_with fail
      exact bodyPost_ret (v := .agg #[.int .i64 (dn c p.lo), .int .i64 (upp c p.hi)]) (by simp [results, Try.results67, go_sem, kb44]) rfl (⟨by rw [Hx42.out, Hx43.out] <;> rfl, F41.gb⟩)
  case atStart8 =>
    rw [HI12.out]
    exact ⟨0, c0.pt, (by first | kernel_rfl | rfl), (by first | kernel_rfl | rfl), (by first | kernel_rfl | rfl), (by first | kernel_rfl | rfl), (by first | kernel_rfl | rfl), rfl, Nat.zero_le _, H0.out, rfl, (by first | exact Nat.le_refl _ | omega | (simp; done) | (simp; omega)), F11⟩

end Go.Proofs.Ythblaiefalbomaa
