/- top: the example of chapter 5. -/
import Derived.Test.YtlefmbjipdlcfaaMB3
import Derived.Test.YtlefmbjipdlcfaaMN6
set_option linter.unusedVariables false
set_option linter.unusedSimpArgs false
set_option linter.unnecessarySimpa false
namespace Go.Proofs.Ytlefmbjipdlcfaa
open Go.RowKit
set_option maxRecDepth 100000
attribute [local go_sem] Oper.semAt_some
def netT : List Lg := [⟨0, 1, 7, 3, 0⟩]
theorem detT_c (g : Nat) (t : TypeId) (w : World) (hb : Bk w g t #[.int .i64 0, .int .i64 1, .int .i64 7, .int .i64 3, .int .i64 0]) :
  Calls Try.prog 9 #[.agg #[.int .i64 2, .slice (some ⟨g, 0, none⟩) 1 1], .int .i64 0, .int .i64 1] w (fun e w' => ∃ (a : Option Addr) (c : Nat), e = .returned (.tuple #[.slice a 0 c, .int .i64 (-1), .int .i64 7, .int .i64 0]) /\ w.grownBy w' none) := by
 have hs : Sl lgEnc 5 g (g + 1) w (.slice (some ⟨g, 0, none⟩) 1 1) netT := Bk.slT lgEnc 5 netT 1 1 hb (fun _ => rfl) rfl rfl (by omega)
 refine (detour_c g (g + 1) _ netT 2 0 1 5 2 [some (7, 1), some (0, 0)] [none, some (0, 0)] [] w hs hb.lt (by kernel_rfl) ⟨by decide, by decide⟩ ⟨by decide, by decide⟩ (by decide) (by decide) (by show dst netT useP 5 (far0 2 1) = _; kernel_rfl) (by show dst netT useS 5 (far0 2 1) = _; kernel_rfl) (fun ⟨v, hv⟩ => by cases hv) (fun _ => rfl)).mono ?_
 rintro e w' ⟨a, c, l1, l2, he, _, _, hg⟩
 exact ⟨a, c, he, hg⟩
set_option maxHeartbeats 8000000 in
theorem tawake5_c  (w : World)  :
  Calls Try.prog 28 #[] w (Ret (.bool true) w) := by
 have F1 : Bun w [] w := Bun.nil _
 go_enter Try.func28, Try.ntmps28
 go_wp2_with fail
 replace F1 := F1.new 44 #[.int .i64 0, .int .i64 1, .int .i64 7, .int .i64 3, .int .i64 0] (n := w.heap.size) (by simp)
 replace F1 := F1.new 27 #[.int .i64 2, .slice (some ⟨w.heap.size, 0, none⟩) 1 1] (n := (w.heap.size + 1)) (by simp)
 refine (detT_c w.heap.size _ _ (F1.at 1 rfl : Bk _ w.heap.size 44 #[.int .i64 0, .int .i64 1, .int .i64 7, .int .i64 3, .int .i64 0])).mono ?_
 rintro e w6 ⟨aD, cD, rfl, hg4⟩
 have hg4s := hg4.size
 (try simp at hg4s)
 replace F1 := F1.gn hg4
 clear hg4
 go_wp2_with fail
 refine (tawake3_c _).mono ?_
 rintro e w10 ⟨rfl, hg8⟩
 have hg8s := hg8.size
 (try simp at hg8s)
 replace F1 := F1.gn hg8
 clear hg8
 go_wp2_with fail
 go_ret
 exact ⟨rfl, F1.gb⟩
end Go.Proofs.Ytlefmbjipdlcfaa
