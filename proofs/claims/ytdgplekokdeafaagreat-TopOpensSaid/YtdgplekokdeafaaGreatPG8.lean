/- top: the example of chapter 5. -/
import Derived.Test.YtdgplekokdeafaaGreatPB3
import Derived.Test.YtdgplekokdeafaaGreatPN6
import Derived.Test.YtdgplekokdeafaaGreatPKF2
import Derived.Test.YtdgplekokdeafaaGreatPG5
import Derived.Test.YtdgplekokdeafaaGreatPMixG
set_option linter.unusedVariables false
set_option linter.unusedSimpArgs false
set_option linter.unnecessarySimpa false
namespace Go.Proofs.YtdgplekokdeafaaGreat
open Go.RowKit
set_option maxRecDepth 100000
attribute [local go_sem] Oper.semAt_some
def netT : List Lg := [⟨0, 1, 7, 3, 0⟩]
theorem detT_c (g : Nat) (t : TypeId) (w : World) (hb : Bk w g t #[.int .i64 0, .int .i64 1, .int .i64 7, .int .i64 3, .int .i64 0]) :
  Calls Tryz.prog 31 #[.agg #[.int .i64 2, .slice (some ⟨g, 0, none⟩) 1 1], .int .i64 0, .int .i64 1] w (fun e w' => ∃ (a : Option Addr) (c : Nat), e = .returned (.tuple #[.slice a 0 c, .int .i64 (-1), .int .i64 7, .int .i64 0]) /\ w.grownBy w' none) := by
 have hs : Sl lgEnc 5 g (g + 1) w (.slice (some ⟨g, 0, none⟩) 1 1) netT := Bk.slT lgEnc 5 netT 1 1 hb (fun _ => rfl) rfl rfl (by omega)
 refine (detour_c g (g + 1) _ netT 2 0 1 5 2 [some (7, 1), some (0, 0)] [none, some (0, 0)] [] w hs hb.lt (by kernel_rfl) ⟨by decide, by decide⟩ ⟨by decide, by decide⟩ (by decide) (by decide) (by show dst netT useP 5 (far0 2 1) = _; kernel_rfl) (by show dst netT useS 5 (far0 2 1) = _; kernel_rfl) (fun ⟨v, hv⟩ => by cases hv) (fun _ => rfl)).mono ?_
 rintro e w' ⟨a, c, l1, l2, he, _, _, hg⟩
 exact ⟨a, c, he, hg⟩
set_option maxHeartbeats 8000000 in
theorem tawake5_c  (w : World)  :
  Calls Tryz.prog 11 #[] w (Ret (.bool true) w) := by
 have F1 : Bun w [] w := Bun.nil _
 go_enter Tryz.func11, Tryz.ntmps11
 go_wp2_with fail
 replace F1 := F1.new 96 #[.int .i64 0, .int .i64 1, .int .i64 7, .int .i64 3, .int .i64 0] (n := w.heap.size) (by simp)
 replace F1 := F1.new 99 #[.int .i64 2, .slice (some ⟨w.heap.size, 0, none⟩) 1 1] (n := (w.heap.size + 1)) (by simp)
 refine (detT_c w.heap.size _ _ (F1.b 1 rfl)).mono ?_
 rintro e w6 ⟨aD, cD, rfl, hg4⟩
 have hg4s := hg4.size
 (try simp at hg4s)
 replace F1 := F1.gn hg4
 clear hg4
 go_wp2_with fail
 refine (tawake3_c _).mono ?_
 rintro e w10 ⟨rfl, hg8⟩
 have hg8s := hg8.size
 (try simp at hg8s)
 replace F1 := F1.gn hg8
 clear hg8
 go_wp2_with fail
 go_ret
 exact ⟨rfl, F1.gb⟩
end Go.Proofs.YtdgplekokdeafaaGreat
/- top: the true thickness of ice. -/
namespace Go.Proofs.YtdgplekokdeafaaGreat
open Go.RowKit
set_option maxRecDepth 100000
attribute [local go_sem] Oper.semAt_some
theorem dn_le_upq {n p q : Int} (h0 : 0 <= n) (h1 : 0 <= p) (h2 : p <= q) : dn n p <= upp n q := by
 unfold dn upp
 have h3 : n * p <= n * q := Int.mul_le_mul_of_nonneg_left h2 h0
 omega
def ThkP (sb : Nat) (l : Fro) (u : Tr) (w : World) : Ending -> World -> Prop := fun e w' => ∃ th : Int, e = .returned (.int .i64 th) /\ (u.bl + dn u.wh l.white.lo <= th /\ th <= u.bl + upp u.wh l.white.hi) /\ SeedAt w' sb /\ w.grownBy w' (some sb)
set_option maxHeartbeats 8000000 in
theorem thick_tc (sb : Nat) (v : Value) (l : Fro) (u : Tr) (k m : Int) (w : World) (hs : SeedAt w sb) (hL : LawOk l) (ht : TrK u k m) (hk : 0 <= k /\ k <= 400) :
  Calls Tryz.prog 14 #[.pointer (some ⟨sb, 0, none⟩), .agg (froC l v), .agg #[.int .i64 u.bl, .int .i64 u.wh, .int .i64 u.we, .int .i64 u.sn]] w (ThkP sb l u w) := by
 have F1 : Bus w sb [rseed sb] w := Bus.ofSeed hs
 have hsl := hs.lt
 clear hs
 have hwl_ := hL.white
 have hwh_ := ht.wh
 have hbl_ := ht.bl
 have hd1_ := dn_bd (n := u.wh) (p := l.white.lo) (by omega) (by omega) (by omega)
 have hd2_ := up_bd (n := u.wh) (p := l.white.hi) (by omega) (by omega) (by omega)
 have hd3_ := dn_le_upq (n := u.wh) (p := l.white.lo) (q := l.white.hi) (by omega) (by omega) (by omega)
 clear hL ht
 go_enter Tryz.func14, Tryz.ntmps14
 go_wp2_with fail
 replace F1 := F1.new 29 (froC l v) (n := w.heap.size) (by simp)
 replace F1 := F1.new 47 #[.int .i64 u.bl, .int .i64 u.wh, .int .i64 u.we, .int .i64 u.sn] (n := (w.heap.size + 1)) (by simp)
 have Fn_ := F1
 (try dsimp only [lpF, lpG] at Fn_)
 obtain ⟨w8, hx9, F11, hxs10⟩ := Fn_.name
 (try simp at hxs10)
 rw [hx9]
 clear hx9 F1 Fn_
 replace F11 := F11.drew
 refine ru_begin (fun W => C2 W (w.heap.size + 1) (.int .i64 u.bl) (.int .i64 u.wh) /\ W.cell? ⟨w.heap.size, 6, none⟩ = some (.int .i64 l.white.lo) /\ W.cell? ⟨w.heap.size, 7, none⟩ = some (.int .i64 l.white.hi)) 17 (by kernel_rfl) ?_ ?_
 · exact ⟨F11.c2 0, F11.q 1 6, F11.q 1 7⟩
 obtain ⟨wd14, hwd_⟩ : ∃ x : World, w8.drew = x := ⟨_, rfl⟩
 rw [hwd_] at F11 ⊢
 have wd14s : w8.heap.size <= wd14.heap.size := by rw [← hwd_]; exact Nat.le_refl _
 clear hwd_
 have hS13 := (And.intro (F11.c2 0) (And.intro (F11.q 1 6) (F11.q 1 7)))
 refine ru_t 0 [] ?_
 refine ru_t 1 [] ?_
 refine ru_t 2 [] ?_
 refine ru_t 3 [] ?_
 refine ru_t 4 [] ?_
 refine ru_t 5 [] ?_
 refine ru_t 6 [] ?_
 refine ru_t 7 [] ?_
 refine ru_t 9 [] ?_
 refine ru_t 10 [] ?_
 refine ru_t 11 [] ?_
 refine ru_t 12 [] ?_
 refine ru_t 13 [] ?_
 (try simp only [lpX])
 clear hS13
 refine ru_o 8 fun K hK => ?_
 go_simp
 refine (rdown_c _ _ _ (by omega) (by omega) (by omega) (by omega)).mono ?_
 rintro e _ ⟨rfl, rfl⟩
 refine ru_back hK (by exact ⟨F11.c2 0, F11.q 1 6, F11.q 1 7⟩) (fun _ => ?_)
 clear hK K
 (try simp only [lpX])
 refine ru_o 14 fun K hK => ?_
 go_simp
 refine (rup_c _ _ _ (by omega) (by omega) (by omega) (by omega)).mono ?_
 rintro e _ ⟨rfl, rfl⟩
 refine ru_back hK (by exact ⟨F11.c2 0, F11.q 1 6, F11.q 1 7⟩) (fun _ => ?_)
 clear hK K
 (try simp only [lpX])
 refine ru_o 15 fun K hK => ?_
 go_simp
 refine (from_c sb (dn u.wh l.white.lo) (upp u.wh l.white.hi) _ (F11.e 2 rfl) (by omega) (by omega) (by omega) (by omega)).mono ?_
 rintro e w19 ⟨r15, rfl, hr16, hs18, hg17⟩
 unfold fromR at hr16; have hr16b : (dn u.wh l.white.lo) <= r15 /\ r15 <= (upp u.wh l.white.hi) := (by omega); clear hr16
 have hg17s := hg17.size
 (try simp at hg17s)
 replace F11 := F11.seedAt 2 rfl hg17 hs18
 refine ru_back hK (by exact ⟨F11.c2 0, F11.q 1 6, F11.q 1 7⟩) (fun _ => ?_)
 clear hK K
 (try simp only [lpX])
 have hw21 : IntKind.i64.wrap (u.bl + r15) = u.bl + r15 := IntWalk.i64_in _ (by omega)
 refine ru_p 16 ?_
 (try simp only [lpX])
 refine ru_o 17 fun K hK => ?_
 go_simp
 refine ru_back_late hK (by kernel_rfl) ?_
 clear hK K
 (try simp only [lpX])
 refine ru_done (by kernel_rfl) ?_
 (try clear hw21)
 have Fn_ := ((F11.drop 0 rfl).drop 0 rfl)
 (try dsimp only [lpF, lpG] at Fn_)
 obtain ⟨w22, hx23, F25, hxs24⟩ := Fn_.name
 (try simp at hxs24)
 rw [hx23]
 clear hx23 F11 Fn_
 go_wp2_with fail
 go_ret
 exact ⟨_, rfl, (by omega), (F25.e 0 rfl), F25.gb⟩
end Go.Proofs.YtdgplekokdeafaaGreat
