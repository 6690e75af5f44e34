/- bear: a scene in the worst case. -/
import Derived.Test.YtdgplekokdeafaaQB7
import Derived.Test.YtdgplekokdeafaaQKC
import Derived.Test.YtdgplekokdeafaaQMixG
set_option linter.unusedVariables false
set_option linter.unusedSimpArgs false
set_option linter.unnecessarySimpa false
namespace Go.Proofs.Ytdgplekokdeafaa
open Go.RowKit
set_option maxRecDepth 100000
attribute [local go_sem] Oper.semAt_some
def enB (p : Pla) (b h m : Int) : Bool := decide (b * 1000000 <= p.st.lo * h * h * prtV p.cr m)
theorem strong_c (x : Sp) (w : World)  :
  Calls Try.prog 91 #[.agg #[.bool true], .agg #[.int .i64 x.lo, .int .i64 x.hi]] w (Ret (.int .i64 x.lo) w) := by
 have F1 : Bun w [] w := Bun.nil _
 go_enter Try.func91, Try.ntmps91
 go_wp2_with fail
 replace F1 := F1.new 126 #[.bool true] (n := w.heap.size) (by simp)
 replace F1 := F1.new 27 #[.int .i64 x.lo, .int .i64 x.hi] (n := (w.heap.size + 1)) (by simp)
 go_ret
 exact ⟨rfl, F1.gb⟩
theorem heavy_c (x : Sp) (w : World)  :
  Calls Try.prog 83 #[.agg #[.bool true], .agg #[.int .i64 x.lo, .int .i64 x.hi]] w (Ret (.int .i64 x.hi) w) := by
 have F1 : Bun w [] w := Bun.nil _
 go_enter Try.func83, Try.ntmps83
 go_wp2_with fail
 replace F1 := F1.new 126 #[.bool true] (n := w.heap.size) (by simp)
 replace F1 := F1.new 27 #[.int .i64 x.lo, .int .i64 x.hi] (n := (w.heap.size + 1)) (by simp)
 go_ret
 exact ⟨rfl, F1.gb⟩
set_option maxHeartbeats 8000000 in
theorem enough_c (loc hic : Nat) (vs vc vi vk : Value) (p : Pla) (b h m : Int) (w : World) (hp : PlaOk p) (hc : Sl shaEnc 2 loc hic w vc p.cr) (hc2 : hic <= w.heap.size) (hh : 0 <= h /\ h <= 5000) (hb : 0 <= b /\ b <= 200000000000) :
  Calls Try.prog 84 #[.agg #[.bool true, .int .i64 p.st.lo, .int .i64 p.st.hi, vs, vc, .int .i64 p.near, .int .i64 p.edge, .int .i64 p.grav, .int .i64 p.low, .int .i64 p.high, .int .i64 p.shore, .int .i64 p.wider, vi, vk], .int .i64 b, .int .i64 h, .int .i64 m] w (Ret (.bool (enB p b h m)) w) := by
 have F1 : Bun w [] w := Bun.nil _
 have hm_cr := hc.len
 unfold maxLen at hm_cr
 obtain ⟨ac_, cc_, rfl⟩ := hc.any
 replace F1 := F1.sl0 hc hc2 rfl
 clear hc
 have HPK := lhd hp
 have HAB := lhd (aln_bd hp (h := h) (m := m) hh)
 have hab_ := HAB.out
 clear hp
 go_enter Try.func84, Try.ntmps84
 go_wp2_with fail
 replace F1 := F1.new 128 #[.bool true, .int .i64 p.st.lo, .int .i64 p.st.hi, vs, .slice ac_ p.cr.length cc_, .int .i64 p.near, .int .i64 p.edge, .int .i64 p.grav, .int .i64 p.low, .int .i64 p.high, .int .i64 p.shore, .int .i64 p.wider, vi, vk] (n := w.heap.size) (by simp)
 have Fn_ := F1
 (try dsimp only [lpF, lpG] at Fn_)
 obtain ⟨w6, hx7, F9, hxs8⟩ := Fn_.name
 (try simp at hxs8)
 rw [hx7]
 clear hx7 F1 Fn_
 have hw4 : IntKind.i64.wrap (b * 1000000) = b * 1000000 := IntWalk.i64_in _ (by omega)
 replace F9 := F9.drew
 refine ru_begin (fun W => C3 W w.heap.size (.bool true) (.int .i64 p.st.lo) (.int .i64 p.st.hi) /\ W.cell? ⟨w.heap.size, 4, none⟩ = some (.slice ac_ p.cr.length cc_)) 19 (by kernel_rfl) ?_ ?_
 · exact ⟨F9.c3 0, F9.q 0 4⟩
 obtain ⟨wd12, hwd_⟩ : ∃ x : World, w6.drew = x := ⟨_, rfl⟩
 rw [hwd_] at F9 ⊢
 have wd12s : w6.heap.size <= wd12.heap.size := by rw [← hwd_]; exact Nat.le_refl _
 clear hwd_
 have hS11 := (And.intro (F9.c3 0) (F9.q 0 4))
 refine ru_t 0 [] ?_
 refine ru_t 1 [] ?_
 refine ru_t 2 [] ?_
 refine ru_t 3 [] ?_
 refine ru_t 4 [] ?_
 refine ru_t 5 [] ?_
 refine ru_t 6 [] ?_
 refine ru_t 8 [] ?_
 refine ru_t 10 [] ?_
 refine ru_t 12 [] ?_
 refine ru_t 13 [] ?_
 refine ru_t 14 [] ?_
 refine ru_t 15 [] ?_
 (try simp only [lpX])
 clear hS11
 refine ru_o 7 fun K hK => ?_
 go_simp
 refine (strong_c p.st _).mono ?_
 rintro e w15 ⟨rfl, hg13⟩
 have hg13s := hg13.size
 (try simp at hg13s)
 replace F9 := F9.gn hg13
 refine ru_back hK (by exact ⟨F9.c3 0, F9.q 0 4⟩) (fun _ => ?_)
 clear hK K
 (try simp only [lpX])
 have hw17 : IntKind.i64.wrap (p.st.lo * h) = p.st.lo * h := IntWalk.i64_in _ (by omega)
 refine ru_p 9 ?_
 (try simp only [lpX])
 have hw18 : IntKind.i64.wrap ((p.st.lo * h) * h) = (p.st.lo * h) * h := IntWalk.i64_in _ (by omega)
 refine ru_p 11 ?_
 (try simp only [lpX])
 refine ru_o 16 fun K hK => ?_
 go_simp
 refine (part_c loc hic _ p.cr m _ HPK.out.cr.n.1 (F9.s 1 rfl) (Nat.le_trans hc2 F9.gb.size)).mono ?_
 rintro e w21 ⟨rfl, hg19⟩
 have hg19s := hg19.size
 (try simp at hg19s)
 replace F9 := F9.gn hg19
 refine ru_back hK (by exact ⟨F9.c3 0, F9.q 0 4⟩) (fun _ => ?_)
 clear hK K
 (try simp only [lpX])
 have hw23 : IntKind.i64.wrap (((p.st.lo * h) * h) * (prtV p.cr m)) = ((p.st.lo * h) * h) * (prtV p.cr m) := IntWalk.i64_in _ (by omega)
 refine ru_p 17 ?_
 (try simp only [lpX])
 refine ru_p 18 ?_
 (try simp only [lpX])
 refine ru_o 19 fun K hK => ?_
 go_simp
 refine ru_back_late hK (by kernel_rfl) ?_
 clear hK K
 (try simp only [lpX])
 refine ru_done (by kernel_rfl) ?_
 (try clear hw4 hw17 hw18 hw23)
 have Fn_ := (F9.drop 0 rfl)
 (try dsimp only [lpF, lpG] at Fn_)
 obtain ⟨w24, hx25, F27, hxs26⟩ := Fn_.name
 (try simp at hxs26)
 rw [hx25]
 clear hx25 F9 Fn_
 have Hx28 := lhd (show ((enB p b h m : Bool)) = (decide (b * 1000000 <= ((p.st.lo * h) * h) * (prtV p.cr m))) by rfl)
 go_wp2_with fail
 go_ret
 exact ⟨by rw [Hx28.out] <;> rfl, F27.gb⟩
end Go.Proofs.Ytdgplekokdeafaa
