/- top: the examples of chapters 1 and 3. -/
import Derived.Test.YtlefmbjipdlcfaaMB2
import Derived.Test.YtlefmbjipdlcfaaMKF1
import Derived.Test.YtlefmbjipdlcfaaMKB
import Derived.Test.YtlefmbjipdlcfaaMMixG
set_option linter.unusedVariables false
set_option linter.unusedSimpArgs false
set_option linter.unnecessarySimpa false
namespace Go.Proofs.Ytlefmbjipdlcfaa
open Go.RowKit
set_option maxRecDepth 100000
attribute [local go_sem] Oper.semAt_some
theorem Bk.slT {α : Type} (enc : α -> List Value) (sz : Nat) (l : List α) (c n : Nat) {w : World} {g : Nat} {t : TypeId} {cs : Array Value} (hb : Bk w g t cs) (hsz : ∀ x, (enc x).length = sz) (hcs : cs.toList = l.flatMap enc) (hn : l.length = n) (hl : n <= 1000) :
  Sl enc sz g (g + 1) w (.slice (some ⟨g, 0, none⟩) n c) l := by
 subst hn
 exact ⟨by unfold maxLen; omega, _, c, rfl, .inr ⟨g, 0, rfl, Nat.le_refl _, by omega, fun i x hi j u hj => by
   have h1 := flat_at' hsz l i x hi j u hj
   rw [← hcs] at h1
   rw [show 0 + i * sz + j = i * sz + j by omega, hb.cell]
   simpa using h1⟩⟩
def lawT : Fro := ⟨100, 10, [⟨0, ⟨1000000, 1000000⟩⟩], ⟨0, 0⟩, 0, ⟨0, 0⟩⟩
def blk (b : Sp) : Ice := ⟨b, ⟨0, 0⟩, ⟨0, 0⟩, ⟨0, 0⟩⟩
def d160 : Wea := ⟨⟨160, 160⟩, ⟨0, 0⟩, 0, false⟩
theorem dayT {b1 b2 r1 r2 : Int} (h1 : root (b1 * b1 + 16000) = r1) (h2 : roof (b2 * b2 + 16000) = r2) : aft lawT (blk ⟨b1, b2⟩) d160 = blk ⟨r1, r2⟩ := by
 have e1 : (thr lawT.cov 0).lo = 1000000 := rfl
 have e2 : (thr lawT.cov 0).hi = 1000000 := rfl
 have hc : cvd lawT (blk ⟨b1, b2⟩) d160 = blk ⟨b1, b2⟩ := rfl
 have f1 : fewC lawT (blk ⟨b1, b2⟩) d160.cold = 160 := rfl
 have f2 : manyC lawT (blk ⟨b1, b2⟩) d160.cold = 160 := rfl
 have g1 : grw lawT b1 0 0 160 root = r1 := by
  unfold grw
  rw [show (b1 + (0 + 0)) * (b1 + (0 + 0)) + lawT.gr * (160 - 0 * lawT.la) = b1 * b1 + 16000 by simp [lawT]]
  omega
 have g2 : grw lawT b2 0 0 160 roof = r2 := by
  unfold grw
  rw [show (b2 + (0 + 0)) * (b2 + (0 + 0)) + lawT.gr * (160 - 0 * lawT.la) = b2 * b2 + 16000 by simp [lawT]]
  omega
 unfold aft
 rw [if_pos (by decide), hc]
 unfold frz
 rw [f1, f2, if_pos (by show (0 : Int) <= 160 / 10; decide), if_pos (by show (0 : Int) <= 160 / 10; decide)]
 show (⟨⟨grw lawT b1 0 0 160 root, grw lawT b2 0 0 160 roof⟩, _, _, _⟩ : Ice) = _
 rw [g1, g2]
 rfl
theorem roof_of {n r : Int} (h : isRoot n r) (hn : r * r < n) : roof n = r + 1 := by
 have := root_eq h
 unfold roof
 rw [this, if_pos hn]
theorem stT : aft lawT (blk ⟨300, 300⟩) d160 = blk ⟨325, 326⟩ := dayT (root_eq ⟨by decide, by decide, by decide⟩) (roof_of (r := 325) ⟨by decide, by decide, by decide⟩ (by decide))
theorem allET : allE lawT (blk ⟨300, 300⟩) [d160] = 0 := by decide
theorem stepT : stepI lawT (blk ⟨300, 300⟩) d160 = blk ⟨325, 326⟩ := by rw [stepI, if_pos allET, stT]
theorem stepT_c (g : Nat) (t : TypeId) (w : World) (hb : Bk w g t #[.int .i64 0, .int .i64 1000000, .int .i64 1000000]) :
  Calls Try.prog 58 #[.agg #[.int .i64 100, .int .i64 10, .slice (some ⟨g, 0, none⟩) 1 1, .int .i64 0, .int .i64 0, .int .i64 0, .int .i64 0, .int .i64 0], .agg #[.int .i64 300, .int .i64 300, .int .i64 0, .int .i64 0, .int .i64 0, .int .i64 0, .int .i64 0, .int .i64 0], .agg #[.int .i64 160, .int .i64 160, .int .i64 0, .int .i64 0, .int .i64 0, .bool false]] w (Ret (.tuple #[.agg #[.int .i64 325, .int .i64 326, .int .i64 0, .int .i64 0, .int .i64 0, .int .i64 0, .int .i64 0, .int .i64 0], .int .i64 0]) w) := by
 have hs : Sl covEnc 3 g (g + 1) w (.slice (some ⟨g, 0, none⟩) 1 1) lawT.cov := Bk.slT covEnc 3 lawT.cov 1 1 hb (fun _ => rfl) rfl rfl (by omega)
 have h := step_c g (g + 1) _ lawT (blk ⟨300, 300⟩) d160 w hs hb.lt
 rw [stepT, allET] at h
 exact h
def exP : Pla := ⟨⟨40000, 50000⟩, [⟨0, 1000000⟩], [⟨0, 1000000⟩], 0, 0, 98, 640000, 1440000, 0, 0⟩
theorem exTab : TabOk [⟨0, 1000000⟩] := by
 refine ⟨⟨by decide, by decide⟩, fun q h => ?_, fun i a b _ h => ?_, fun i a b _ h => ?_, fun q h => ?_, fun q h => ?_⟩
 · obtain rfl := Option.some.inj h; exact ⟨rfl, rfl⟩
 · cases h
 · cases h
 · obtain rfl := List.mem_singleton.1 h; exact ⟨by decide, by decide⟩
 · obtain rfl := List.mem_singleton.1 h; exact ⟨by decide, by decide⟩
theorem exOk : PlaOk exP := ⟨by decide, exTab, exTab, by decide, by decide, by decide, by decide, by decide, by decide⟩
theorem bearsT_c (g g2 : Nat) (t t2 : TypeId) (w : World) (hb : Bk w g t #[.int .i64 0, .int .i64 1000000]) (hb2 : Bk w g2 t2 #[.int .i64 0, .int .i64 1000000]) :
  Calls Try.prog 49 #[.agg #[.int .i64 40000, .int .i64 50000, .slice (some ⟨g, 0, none⟩) 1 1, .slice (some ⟨g2, 0, none⟩) 1 1, .int .i64 0, .int .i64 0, .int .i64 98, .int .i64 640000, .int .i64 1440000, .int .i64 0, .int .i64 0], .int .i64 500, .int .i64 0] w (Ret (.tuple #[.int .i64 10000, .int .i64 0]) w) := by
 have h1 : Sl shaEnc 2 g (g + 1) w (.slice (some ⟨g, 0, none⟩) 1 1) exP.sh := Bk.slT shaEnc 2 exP.sh 1 1 hb (fun _ => rfl) rfl rfl (by omega)
 have h2 : Sl shaEnc 2 g2 (g2 + 1) w (.slice (some ⟨g2, 0, none⟩) 1 1) exP.cr := Bk.slT shaEnc 2 exP.cr 1 1 hb2 (fun _ => rfl) rfl rfl (by omega)
 have h := pbears_c g (g + 1) g2 (g2 + 1) _ _ exP 500 0 w exOk tabC_1 tabC_1 h1 hb.lt h2 hb2.lt (by decide) (by decide)
 rw [show alnV exP 500 0 = 10000 by decide] at h
 exact h
theorem root99_c (w : World) : Calls Try.prog 59 #[.int .i64 99] w (fun e w' => e = .returned (.int .i64 9) /\ w = w') := by
 have h := root_c 99 w (by decide)
 rw [show root 99 = 9 from root_eq ⟨by decide, by decide, by decide⟩] at h
 exact h
theorem tone_c (n : Int) (w : World)  :
  Calls Try.prog 7 #[.int .i64 n] w (Ret (.agg #[.int .i64 n, .int .i64 n]) w) := by
 have F1 : Bun w [] w := Bun.nil _
 go_enter Try.func7, Try.ntmps7
 go_wp2_with fail
 replace F1 := F1.new 31 #[.int .i64 n, .int .i64 n] (n := w.heap.size) (by simp)
 have kb3 := F1.bx2 0 rfl
 go_wp2_with fail
 exact bodyPost_ret (v := .agg #[.int .i64 n, .int .i64 n]) (by simp [results, Try.results7, go_sem, kb3]) rfl (⟨rfl, F1.gb⟩)
theorem rng_tawake1_c (t : Nat -> Value) : ((List.range 29).map t).toArray = List.toArray [t 0, t 1, t 2, t 3, t 4, t 5, t 6, t 7, t 8, t 9, t 10, t 11, t 12, t 13, t 14, t 15, t 16, t 17, t 18, t 19, t 20, t 21, t 22, t 23, t 24, t 25, t 26, t 27, t 28] := rfl
set_option maxHeartbeats 8000000 in
theorem tawake1_c  (w : World)  :
  Calls Try.prog 50 #[] w (Ret (.bool true) w) := by
 have F1 : Bun w [] w := Bun.nil _
 go_enter Try.func50, Try.ntmps50
 go_wp2_with fail
 refine (tone_c 1000000 _).mono ?_
 rintro e w4 ⟨rfl, hg2⟩
 have hg2s := hg2.size
 (try simp at hg2s)
 replace F1 := F1.gn hg2
 clear hg2
 go_wp2_with fail
 replace F1 := F1.new 117 #[.int .i64 0, .int .i64 1000000, .int .i64 1000000] (n := w4.heap.size) (by simp)
 replace F1 := F1.new 120 #[.int .i64 100, .int .i64 10, .slice (some ⟨w4.heap.size, 0, none⟩) 1 1, .int .i64 0, .int .i64 0, .int .i64 0, .int .i64 0, .int .i64 0] (n := (w4.heap.size + 1)) (by simp)
 have Fn_ := F1
 (try dsimp only [List.eraseIdx_cons_succ, List.eraseIdx_cons_zero] at Fn_)
 obtain ⟨w8, hx9, F11, hxs10⟩ := Fn_.name
 (try simp at hxs10)
 rw [hx9]
 clear hx9 F1 Fn_
 replace F11 := F11.drew
 refine ru_begin (fun W => W.cell? ⟨(w4.heap.size + 1), 0, none⟩ = some (.int .i64 100) /\ W.cell? ⟨(w4.heap.size + 1), 1, none⟩ = some (.int .i64 10) /\ W.cell? ⟨(w4.heap.size + 1), 2, none⟩ = some (.slice (some ⟨w4.heap.size, 0, none⟩) 1 1) /\ W.cell? ⟨(w4.heap.size + 1), 3, none⟩ = some (.int .i64 0) /\ W.cell? ⟨(w4.heap.size + 1), 4, none⟩ = some (.int .i64 0) /\ W.cell? ⟨(w4.heap.size + 1), 5, none⟩ = some (.int .i64 0) /\ W.cell? ⟨(w4.heap.size + 1), 6, none⟩ = some (.int .i64 0) /\ W.cell? ⟨(w4.heap.size + 1), 7, none⟩ = some (.int .i64 0)) 10 (by kernel_rfl) ?_ ?_
 · exact ⟨F11.q 0 0, F11.q 0 1, F11.q 0 2, F11.q 0 3, F11.q 0 4, F11.q 0 5, F11.q 0 6, F11.q 0 7⟩
 obtain ⟨wd14, hwd_⟩ : ∃ x : World, w8.drew = x := ⟨_, rfl⟩
 rw [hwd_] at F11 ⊢
 have wd14s : w8.heap.size <= wd14.heap.size := by rw [← hwd_]; exact Nat.le_refl _
 clear hwd_
 have hS13 := (And.intro (F11.q 0 0) (And.intro (F11.q 0 1) (And.intro (F11.q 0 2) (And.intro (F11.q 0 3) (And.intro (F11.q 0 4) (And.intro (F11.q 0 5) (And.intro (F11.q 0 6) (F11.q 0 7))))))))
 refine ru_t 0 [] ?_
 (try simp only [lpX])
 clear hS13
 have hSS := ru_hS F11 (S := fun W => W.cell? ⟨(w4.heap.size + 1), 0, none⟩ = some (.int .i64 100) /\ W.cell? ⟨(w4.heap.size + 1), 1, none⟩ = some (.int .i64 10) /\ W.cell? ⟨(w4.heap.size + 1), 2, none⟩ = some (.slice (some ⟨w4.heap.size, 0, none⟩) 1 1) /\ W.cell? ⟨(w4.heap.size + 1), 3, none⟩ = some (.int .i64 0) /\ W.cell? ⟨(w4.heap.size + 1), 4, none⟩ = some (.int .i64 0) /\ W.cell? ⟨(w4.heap.size + 1), 5, none⟩ = some (.int .i64 0) /\ W.cell? ⟨(w4.heap.size + 1), 6, none⟩ = some (.int .i64 0) /\ W.cell? ⟨(w4.heap.size + 1), 7, none⟩ = some (.int .i64 0)) (fun _ _ F_ => ⟨F_.q 0 0, F_.q 0 1, F_.q 0 2, F_.q 0 3, F_.q 0 4, F_.q 0 5, F_.q 0 6, F_.q 0 7⟩)
 refine ru_mixS 29 [⟨9, 2, 122, fun t => #[.int .i64 0, .int .i64 0, .int .i64 0, .int .i64 0, .int .i64 0, .int .i64 0, .int .i64 0, .int .i64 0], ptrOf, fun t => True⟩] [] [1, 2, 3, 4, 5, 6, 7, 8] 2 F11 (by kernel_rfl) (by kernel_rfl) (fun _ _ _ _ _ h => h) (U0 := (fun t => t 9 = .agg #[.int .i64 100, .int .i64 10, .slice (some ⟨w4.heap.size, 0, none⟩) 1 1, .int .i64 0, .int .i64 0, .int .i64 0, .int .i64 0, .int .i64 0])) (Um := (fun t => t 15 = .agg #[.int .i64 325, .int .i64 326, .int .i64 0, .int .i64 0, .int .i64 0, .int .i64 0, .int .i64 0, .int .i64 0] /\ t 16 = .int .i64 0)) ?chM15 ?alM15 ?mvM15 (List.forall_mem_cons.2 ⟨List.forall_mem_cons.2 ⟨fun _ _ => rfl, fun _ h => (by cases h)⟩, fun _ h => (by cases h)⟩) ⟨rfl, rfl, rfl⟩ ?restM15
 case chM15 =>
  refine ChainL.callS 1 (fun t => t 9 = .agg #[.int .i64 100, .int .i64 10, .slice (some ⟨w4.heap.size, 0, none⟩) 1 1, .int .i64 0, .int .i64 0, .int .i64 0, .int .i64 0, .int .i64 0] /\ t 10 = .agg #[.int .i64 300, .int .i64 300]) (List.forall_mem_cons.2 ⟨fun _ _ u => u, fun _ h => (by cases h)⟩) hSS (List.forall_mem_cons.2 ⟨fun _ t e9 => trivial, fun _ h => (by cases h)⟩) (by kernel_rfl) ?_ ?_
  ·
   rintro t w_ LA e9 ⟨F_, hwn_⟩
   have hws := F_.gb.size
   rw [rng_tawake1_c t, e9]
   clear e9
   refine wpOp_stepH rfl (fun K hK => ?_)
   go_simp
   refine (tone_c 300 _).mono ?_
   rintro e w16 ⟨rfl, hg17⟩
   exact hK.out _ _ ⟨rfl, rfl, ⟨rfl, rfl⟩, List.forall_mem_cons.2 ⟨rfl, fun _ h => (by cases h)⟩, List.forall_mem_cons.2 ⟨fun _ => rfl, fun _ h => (by cases h)⟩, ⟨F_.gn hg17, Nat.le_trans hwn_ hg17.size⟩, hSS _ _ ⟨F_.gn hg17, Nat.le_trans hwn_ hg17.size⟩⟩
  refine ChainL.pureS 2 (fun t => t 9 = .agg #[.int .i64 100, .int .i64 10, .slice (some ⟨w4.heap.size, 0, none⟩) 1 1, .int .i64 0, .int .i64 0, .int .i64 0, .int .i64 0, .int .i64 0] /\ t 11 = .agg #[.int .i64 300, .int .i64 300, .int .i64 0, .int .i64 0, .int .i64 0, .int .i64 0, .int .i64 0, .int .i64 0]) rfl (List.forall_mem_cons.2 ⟨fun _ _ u => u, fun _ h => (by cases h)⟩) hSS (List.forall_mem_cons.2 ⟨fun _ t ⟨e9, e10⟩ => trivial, fun _ h => (by cases h)⟩) (by kernel_rfl) ?_ ?_
  ·
   rintro t ⟨e9, e10⟩
   rw [rng_tawake1_c t, e9, e10]
   clear e9 e10
   refine ⟨.agg #[.int .i64 300, .int .i64 300, .int .i64 0, .int .i64 0, .int .i64 0, .int .i64 0, .int .i64 0, .int .i64 0], .inl ⟨by first | kernel_rfl | rfl, ?_⟩, ⟨rfl, rfl⟩, ⟨rfl, rfl⟩, List.forall_mem_cons.2 ⟨rfl, fun _ h => (by cases h)⟩, List.forall_mem_cons.2 ⟨fun _ => rfl, fun _ h => (by cases h)⟩⟩
   intro wS _
   go_simp
   (try with_reducible rfl)
  refine ChainL.callS 3 (fun t => t 9 = .agg #[.int .i64 100, .int .i64 10, .slice (some ⟨w4.heap.size, 0, none⟩) 1 1, .int .i64 0, .int .i64 0, .int .i64 0, .int .i64 0, .int .i64 0] /\ t 11 = .agg #[.int .i64 300, .int .i64 300, .int .i64 0, .int .i64 0, .int .i64 0, .int .i64 0, .int .i64 0, .int .i64 0] /\ t 12 = .agg #[.int .i64 160, .int .i64 160]) (List.forall_mem_cons.2 ⟨fun _ _ u => u, fun _ h => (by cases h)⟩) hSS (List.forall_mem_cons.2 ⟨fun _ t ⟨e9, e11⟩ => trivial, fun _ h => (by cases h)⟩) (by kernel_rfl) ?_ ?_
  ·
   rintro t w_ LA ⟨e9, e11⟩ ⟨F_, hwn_⟩
   have hws := F_.gb.size
   rw [rng_tawake1_c t, e9, e11]
   clear e9 e11
   refine wpOp_stepH rfl (fun K hK => ?_)
   go_simp
   refine (tone_c 160 _).mono ?_
   rintro e w19 ⟨rfl, hg20⟩
   exact hK.out _ _ ⟨rfl, rfl, ⟨rfl, rfl, rfl⟩, List.forall_mem_cons.2 ⟨rfl, fun _ h => (by cases h)⟩, List.forall_mem_cons.2 ⟨fun _ => rfl, fun _ h => (by cases h)⟩, ⟨F_.gn hg20, Nat.le_trans hwn_ hg20.size⟩, hSS _ _ ⟨F_.gn hg20, Nat.le_trans hwn_ hg20.size⟩⟩
  refine ChainL.pureS 4 (fun t => t 9 = .agg #[.int .i64 100, .int .i64 10, .slice (some ⟨w4.heap.size, 0, none⟩) 1 1, .int .i64 0, .int .i64 0, .int .i64 0, .int .i64 0, .int .i64 0] /\ t 11 = .agg #[.int .i64 300, .int .i64 300, .int .i64 0, .int .i64 0, .int .i64 0, .int .i64 0, .int .i64 0, .int .i64 0] /\ t 13 = .agg #[.int .i64 160, .int .i64 160, .int .i64 0, .int .i64 0, .int .i64 0, .bool false]) rfl (List.forall_mem_cons.2 ⟨fun _ _ u => u, fun _ h => (by cases h)⟩) hSS (List.forall_mem_cons.2 ⟨fun _ t ⟨e9, e11, e12⟩ => trivial, fun _ h => (by cases h)⟩) (by kernel_rfl) ?_ ?_
  ·
   rintro t ⟨e9, e11, e12⟩
   rw [rng_tawake1_c t, e9, e11, e12]
   clear e9 e11 e12
   refine ⟨.agg #[.int .i64 160, .int .i64 160, .int .i64 0, .int .i64 0, .int .i64 0, .bool false], .inl ⟨by first | kernel_rfl | rfl, ?_⟩, ⟨rfl, rfl⟩, ⟨rfl, rfl, rfl⟩, List.forall_mem_cons.2 ⟨rfl, fun _ h => (by cases h)⟩, List.forall_mem_cons.2 ⟨fun _ => rfl, fun _ h => (by cases h)⟩⟩
   intro wS _
   go_simp
   (try with_reducible rfl)
  refine ChainL.callS 5 (fun t => t 14 = .tuple #[.agg #[.int .i64 325, .int .i64 326, .int .i64 0, .int .i64 0, .int .i64 0, .int .i64 0, .int .i64 0, .int .i64 0], .int .i64 0]) (List.forall_mem_cons.2 ⟨fun _ _ u => u, fun _ h => (by cases h)⟩) hSS (List.forall_mem_cons.2 ⟨fun _ t ⟨e9, e11, e13⟩ => trivial, fun _ h => (by cases h)⟩) (by kernel_rfl) ?_ ?_
  ·
   rintro t w_ LA ⟨e9, e11, e13⟩ ⟨F_, hwn_⟩
   have hws := F_.gb.size
   rw [rng_tawake1_c t, e9, e11, e13]
   clear e9 e11 e13
   refine wpOp_stepH rfl (fun K hK => ?_)
   go_simp
   refine (stepT_c w4.heap.size _ _ (F_.at 1 rfl : Bk _ w4.heap.size 117 #[.int .i64 0, .int .i64 1000000, .int .i64 1000000])).mono ?_
   rintro e w22 ⟨rfl, hg23⟩
   exact hK.out _ _ ⟨rfl, rfl, rfl, List.forall_mem_cons.2 ⟨rfl, fun _ h => (by cases h)⟩, List.forall_mem_cons.2 ⟨fun _ => rfl, fun _ h => (by cases h)⟩, ⟨F_.gn hg23, Nat.le_trans hwn_ hg23.size⟩, hSS _ _ ⟨F_.gn hg23, Nat.le_trans hwn_ hg23.size⟩⟩
  refine ChainL.pureS 6 (fun t => t 8 = .tuple #[.agg #[.int .i64 325, .int .i64 326, .int .i64 0, .int .i64 0, .int .i64 0, .int .i64 0, .int .i64 0, .int .i64 0], .int .i64 0]) rfl (List.forall_mem_cons.2 ⟨fun _ _ u => u, fun _ h => (by cases h)⟩) hSS (List.forall_mem_cons.2 ⟨fun _ t e14 => trivial, fun _ h => (by cases h)⟩) (by kernel_rfl) ?_ ?_
  ·
   rintro t e14
   rw [rng_tawake1_c t, e14]
   clear e14
   refine ⟨.tuple #[.agg #[.int .i64 325, .int .i64 326, .int .i64 0, .int .i64 0, .int .i64 0, .int .i64 0, .int .i64 0, .int .i64 0], .int .i64 0], .inl ⟨by first | kernel_rfl | rfl, ?_⟩, ⟨rfl, rfl⟩, rfl, List.forall_mem_cons.2 ⟨rfl, fun _ h => (by cases h)⟩, List.forall_mem_cons.2 ⟨fun _ => rfl, fun _ h => (by cases h)⟩⟩
   intro wS _
   go_simp
   (try with_reducible rfl)
  refine ChainL.pureS 7 (fun t => t 8 = .tuple #[.agg #[.int .i64 325, .int .i64 326, .int .i64 0, .int .i64 0, .int .i64 0, .int .i64 0, .int .i64 0, .int .i64 0], .int .i64 0] /\ t 15 = .agg #[.int .i64 325, .int .i64 326, .int .i64 0, .int .i64 0, .int .i64 0, .int .i64 0, .int .i64 0, .int .i64 0]) rfl (List.forall_mem_cons.2 ⟨fun _ _ u => u, fun _ h => (by cases h)⟩) hSS (List.forall_mem_cons.2 ⟨fun _ t e8 => trivial, fun _ h => (by cases h)⟩) (by kernel_rfl) ?_ ?_
  ·
   rintro t e8
   rw [rng_tawake1_c t, e8]
   clear e8
   refine ⟨.agg #[.int .i64 325, .int .i64 326, .int .i64 0, .int .i64 0, .int .i64 0, .int .i64 0, .int .i64 0, .int .i64 0], .inl ⟨by first | kernel_rfl | rfl, ?_⟩, ⟨rfl, rfl⟩, ⟨rfl, rfl⟩, List.forall_mem_cons.2 ⟨rfl, fun _ h => (by cases h)⟩, List.forall_mem_cons.2 ⟨fun _ => rfl, fun _ h => (by cases h)⟩⟩
   intro wS _
   go_simp
   (try with_reducible rfl)
  refine ChainL.pureS 8 (fun t => t 15 = .agg #[.int .i64 325, .int .i64 326, .int .i64 0, .int .i64 0, .int .i64 0, .int .i64 0, .int .i64 0, .int .i64 0] /\ t 16 = .int .i64 0) rfl (List.forall_mem_cons.2 ⟨fun _ _ u => u, fun _ h => (by cases h)⟩) hSS (List.forall_mem_cons.2 ⟨fun _ t ⟨e8, e15⟩ => trivial, fun _ h => (by cases h)⟩) (by kernel_rfl) ?_ ?_
  ·
   rintro t ⟨e8, e15⟩
   rw [rng_tawake1_c t, e8, e15]
   clear e8 e15
   refine ⟨.int .i64 0, .inl ⟨by first | kernel_rfl | rfl, ?_⟩, ⟨rfl, rfl⟩, ⟨rfl, rfl⟩, List.forall_mem_cons.2 ⟨rfl, fun _ h => (by cases h)⟩, List.forall_mem_cons.2 ⟨fun _ => rfl, fun _ h => (by cases h)⟩⟩
   intro wS _
   go_simp
   (try with_reducible rfl)
  exact ChainL.nil _ _ _ (List.forall_mem_cons.2 ⟨fun _ _ u => u, fun _ h => (by cases h)⟩) hSS (List.forall_mem_cons.2 ⟨fun _ t ⟨e15, e16⟩ => trivial, fun _ h => (by cases h)⟩)
 case alM15 =>
  refine List.forall_mem_cons.2 ⟨fun t w K hv h => ?_, ?_⟩
  · exact wpOp_step rfl (fun K hK => by go_simp; exact hK _ _ h)
  exact fun _ h => (by cases h)
 case mvM15 => exact fun _ h => (by cases h)
 case restM15 =>
  rintro t w26 g ⟨e15, e16⟩ hA hB ⟨F_, hwnM15⟩
  clear hSS
  clear F11
  have hA0_0 : t 2 = .pointer (some ⟨g 9, 0, none⟩) := hA _ (.head _)
  (try simp only [List.map_cons, List.map_nil, List.cons_append, List.nil_append] at F_)
  have F27 := F_
  clear hA hB F_
  obtain ⟨g25, hgx_⟩ : ∃ x_, g 9 = x_ := ⟨_, rfl⟩
  rw [hgx_] at hA0_0 F27; clear hgx_
  have hws := F27.gb.size
  have g25l := (F27.at 0 rfl : Bk _ _ _ _).lt
  rw [rng_tawake1_c t, e15, e16, hA0_0]
  clear e15 e16 hA0_0
  have hS_ : (fun W : World => W.cell? ⟨(w4.heap.size + 1), 0, none⟩ = some (.int .i64 100) /\ W.cell? ⟨(w4.heap.size + 1), 1, none⟩ = some (.int .i64 10) /\ W.cell? ⟨(w4.heap.size + 1), 2, none⟩ = some (.slice (some ⟨w4.heap.size, 0, none⟩) 1 1) /\ W.cell? ⟨(w4.heap.size + 1), 3, none⟩ = some (.int .i64 0) /\ W.cell? ⟨(w4.heap.size + 1), 4, none⟩ = some (.int .i64 0) /\ W.cell? ⟨(w4.heap.size + 1), 5, none⟩ = some (.int .i64 0) /\ W.cell? ⟨(w4.heap.size + 1), 6, none⟩ = some (.int .i64 0) /\ W.cell? ⟨(w4.heap.size + 1), 7, none⟩ = some (.int .i64 0)) _ := ⟨F27.q 1 0, F27.q 1 1, F27.q 1 2, F27.q 1 3, F27.q 1 4, F27.q 1 5, F27.q 1 6, F27.q 1 7⟩
  refine ru_one 10 rfl (by kernel_rfl) (fun K hK => ?_)
  have kb_ := F27.bx8 0 rfl
  go_simp
  clear kb_
  replace F27 := F27.pt8 (.int .i64 325) (.int .i64 326) (.int .i64 0) (.int .i64 0) (.int .i64 0) (.int .i64 0) (.int .i64 0) (.int .i64 0)
  refine ru_back_late hK (by kernel_rfl) ?_
  clear hK K
  (try simp only [lpX])
  refine ru_one 11 rfl (by kernel_rfl) (fun K hK => ?_)
  go_simp
  refine ru_back_late hK (by kernel_rfl) ?_
  clear hK K
  (try simp only [lpX])
  refine ru_done (by kernel_rfl) ?_
  have Fn_ := ((F27.drop 1 rfl).drop 1 rfl)
  (try dsimp only [List.eraseIdx_cons_succ, List.eraseIdx_cons_zero] at Fn_)
  obtain ⟨w29, hx30, F32, hxs31⟩ := Fn_.name
  (try simp at hxs31)
  rw [hx30]
  clear hx30 F27 Fn_
  have b33 := F32.bx8 0 rfl
  go_wp2_with fail
  clear b33
  refine (root99_c _).mono ?_
  rintro e _ ⟨rfl, rfl⟩
  go_wp2_with fail
  go_ret
  exact ⟨rfl, F32.gb⟩
set_option maxHeartbeats 8000000 in
theorem tawake3_c  (w : World)  :
  Calls Try.prog 43 #[] w (Ret (.bool true) w) := by
 have F1 : Bun w [] w := Bun.nil _
 go_enter Try.func43, Try.ntmps43
 go_wp2_with fail
 replace F1 := F1.new 104 #[.int .i64 0, .int .i64 1000000] (n := w.heap.size) (by simp)
 replace F1 := F1.new 104 #[.int .i64 0, .int .i64 1000000] (n := (w.heap.size + 1)) (by simp)
 replace F1 := F1.new 107 #[.int .i64 40000, .int .i64 50000, .slice (some ⟨w.heap.size, 0, none⟩) 1 1, .slice (some ⟨w.heap.size + 1, 0, none⟩) 1 1, .int .i64 0, .int .i64 0, .int .i64 98, .int .i64 640000, .int .i64 1440000, .int .i64 0, .int .i64 0] (n := (w.heap.size + 2)) (by simp)
 refine (bearsT_c w.heap.size (w.heap.size + 1) _ _ _ (F1.at 2 rfl : Bk _ w.heap.size 104 #[.int .i64 0, .int .i64 1000000]) (F1.at 1 rfl : Bk _ (w.heap.size + 1) 104 #[.int .i64 0, .int .i64 1000000])).mono ?_
 rintro e w7 ⟨rfl, hg5⟩
 have hg5s := hg5.size
 (try simp at hg5s)
 replace F1 := F1.gn hg5
 clear hg5
 go_wp2_with fail
 refine (tawake1_c _).mono ?_
 rintro e w11 ⟨rfl, hg9⟩
 have hg9s := hg9.size
 (try simp at hg9s)
 replace F1 := F1.gn hg9
 clear hg9
 go_wp2_with fail
 go_ret
 exact ⟨rfl, F1.gb⟩
end Go.Proofs.Ytlefmbjipdlcfaa
