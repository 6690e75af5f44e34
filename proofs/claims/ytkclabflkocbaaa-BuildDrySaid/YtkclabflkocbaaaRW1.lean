/- build and its reference: what the chapter's examples are made of. -/
import Derived.Test.YtkclabflkocbaaaRW0
import Derived.Test.YtkclabflkocbaaaRKC
set_option linter.unusedVariables false
set_option linter.unusedSimpArgs false
set_option linter.unnecessarySimpa false
namespace Go.Proofs.Ytkclabflkocbaaa
open Go.RowKit
set_option maxRecDepth 100000
theorem afs_job {lo hi : Nat} {w : World} {av : Value} (h : Sl intEnc 1 lo hi w av [0]) (hc : CapOk av) : Afs lo hi w (jobT av) := by
 intro t ht
 simp only [jobT, List.mem_cons, List.not_mem_nil, or_false] at ht
 rcases ht with rfl | rfl | rfl
 · exact ⟨Sl.of_nil _ _, Nat.le_refl _⟩
 · exact ⟨h, hc⟩
 · exact ⟨Sl.of_nil _ _, Nat.le_refl _⟩
theorem aspan_c (a b : Int) (w : World)  :
  Calls Try.prog 19 #[.int .i64 a, .int .i64 b] w (Ret (.agg #[.int .i64 a, .int .i64 b]) w) := by
 have F1 : Bun w [] w := Bun.nil _
 go_enter Try.func19, Try.ntmps19
 go_wp2_with fail
 replace F1 := F1.new 27 #[.int .i64 a, .int .i64 b] (n := w.heap.size) (by simp)
 have kb3 := F1.bx2 0 rfl
 go_wp2_with fail
 exact bodyPost_ret (v := .agg #[.int .i64 a, .int .i64 b]) (by simp [results, Try.results19, go_sem, kb3]) rfl (⟨rfl, F1.gb⟩)
theorem aone_c (n : Int) (w : World)  :
  Calls Try.prog 10 #[.int .i64 n] w (Ret (.agg #[.int .i64 n, .int .i64 n]) w) := by
 have F1 : Bun w [] w := Bun.nil _
 go_enter Try.func10, Try.ntmps10
 go_wp2_with fail
 replace F1 := F1.new 27 #[.int .i64 0, .int .i64 0] (n := w.heap.size) (by simp)
 refine (aspan_c n n _).mono ?_
 rintro e w5 ⟨rfl, hg3⟩
 have hg3s := hg3.size
 (try simp at hg3s)
 replace F1 := F1.gn hg3
 clear hg3
 have b7 := F1.bx2 0 rfl
 go_wp2_with fail
 clear b7
 replace F1 := F1.pt2 (.int .i64 n) (.int .i64 n)
 have kb9 := F1.bx2 0 rfl
 go_wp2_with fail
 exact bodyPost_ret (v := .agg #[.int .i64 n, .int .i64 n]) (by simp [results, Try.results10, go_sem, kb9]) rfl (⟨rfl, F1.gb⟩)
set_option maxHeartbeats 8000000 in
theorem ajob_c  (w : World)  :
  Calls Try.prog 32 #[] w (fun e w' => ∃ (a1 a2 : Option Addr) (c1 c2 : Nat) (av : Value), e = .returned (.agg #[.slice a1 2 c1, .slice a2 3 c2]) /\ JobAt w.heap.size w'.heap.size w' (.slice a1 2 c1) (.slice a2 3 c2) jobM (jobT av) /\ w.grownBy w' none) := by
 have F1 : Bun w [] w := Bun.nil _
 go_enter Try.func32, Try.ntmps32
 go_wp2_with fail
 replace F1 := F1.new 84 #[.slice none 0 0, .slice none 0 0] (n := w.heap.size) (by simp)
 replace F1 := F1.new 112 #[.int .i64 0, .int .i64 300, .int .i64 10, .int .i64 50, .int .i64 200, .int .i64 24] (n := (w.heap.size + 1)) (by simp)
 refine (aspan_c 5 12 _).mono ?_
 rintro e w6 ⟨rfl, hg4⟩
 have hg4s := hg4.size
 (try simp at hg4s)
 replace F1 := F1.gn hg4
 clear hg4
 go_wp2_with fail
 refine (aone_c 10 _).mono ?_
 rintro e w10 ⟨rfl, hg8⟩
 have hg8s := hg8.size
 (try simp at hg8s)
 replace F1 := F1.gn hg8
 clear hg8
 go_wp2_with fail
 refine (aone_c 24 _).mono ?_
 rintro e w14 ⟨rfl, hg12⟩
 have hg12s := hg12.size
 (try simp at hg12s)
 replace F1 := F1.gn hg12
 clear hg12
 go_wp2_with fail
 refine (aspan_c 0 6 _).mono ?_
 rintro e w18 ⟨rfl, hg16⟩
 have hg16s := hg16.size
 (try simp at hg16s)
 replace F1 := F1.gn hg16
 clear hg16
 go_wp2_with fail
 replace F1 := F1.new 3 #[.int .i64 0] (n := w18.heap.size) (by simp)
 refine (aone_c 4 _).mono ?_
 rintro e w23 ⟨rfl, hg21⟩
 have hg21s := hg21.size
 (try simp at hg21s)
 replace F1 := F1.gn hg21
 clear hg21
 go_wp2_with fail
 refine (aone_c 30 _).mono ?_
 rintro e w27 ⟨rfl, hg25⟩
 have hg25s := hg25.size
 (try simp at hg25s)
 replace F1 := F1.gn hg25
 clear hg25
 have b29 := F1.bx2 2 rfl
 go_wp2_with fail
 clear b29
 have F30 := (F1.front 2 rfl rfl).pt2 (.slice (some ⟨w.heap.size + 1, 0, none⟩) 2 2) (.slice (some ⟨w27.heap.size, 0, none⟩) 3 3)
 clear F1
 replace F30 := F30.new 114 #[.int .i64 0, .int .i64 5, .int .i64 12, .int .i64 0, .int .i64 0, .int .i64 0, .int .i64 0, .slice none 0 0, .int .i64 1, .int .i64 10, .int .i64 10, .int .i64 24, .int .i64 24, .int .i64 0, .int .i64 6, .slice (some ⟨w18.heap.size, 0, none⟩) 1 1, .int .i64 0, .int .i64 4, .int .i64 4, .int .i64 0, .int .i64 0, .int .i64 30, .int .i64 30, .slice none 0 0] (n := w27.heap.size) (by simp)
 have kb32 := F30.bx2 1 rfl
 go_wp2_with fail
 exact bodyPost_ret (v := .agg #[.slice (some ⟨w.heap.size + 1, 0, none⟩) 2 2, .slice (some ⟨w27.heap.size, 0, none⟩) 3 3]) (by simp [results, Try.results32, go_sem, kb32]) rfl ((by have hm_ := (F30.at 3 rfl : Bk _ (w.heap.size + 1) 112 #[.int .i64 0, .int .i64 300, .int .i64 10, .int .i64 50, .int .i64 200, .int .i64 24]); have ht_ := (F30.at 0 rfl : Bk _ w27.heap.size 114 #[.int .i64 0, .int .i64 5, .int .i64 12, .int .i64 0, .int .i64 0, .int .i64 0, .int .i64 0, .slice none 0 0, .int .i64 1, .int .i64 10, .int .i64 10, .int .i64 24, .int .i64 24, .int .i64 0, .int .i64 6, .slice (some ⟨w18.heap.size, 0, none⟩) 1 1, .int .i64 0, .int .i64 4, .int .i64 4, .int .i64 0, .int .i64 0, .int .i64 30, .int .i64 30, .slice none 0 0]); have hi_ := (F30.at 2 rfl : Bk _ w18.heap.size 3 #[.int .i64 0]); have lm_ := hm_.lt; have lt_ := ht_.lt; have li_ := hi_.lt; exact ⟨_, _, _, _, (.slice (some ⟨w18.heap.size, 0, none⟩) 1 1), rfl, ⟨(Bk.sl mchEnc 3 jobM 2 2 hm_ (fun _ => rfl) rfl rfl (by omega)).wide (by first | omega | (simp; omega)) (by first | omega | (simp; omega)), (Bk.sl tskEnc 8 (jobT (.slice (some ⟨w18.heap.size, 0, none⟩) 1 1)) 3 3 ht_ (fun _ => rfl) rfl rfl (by omega)).wide (by first | omega | (simp; omega)) (by first | omega | (simp; omega)), afs_job ((slI_of [0] 1 1 hi_ rfl rfl (by omega)).wide (by first | omega | (simp; omega)) (by first | omega | (simp; omega))) (Nat.le_refl _)⟩, F30.gb⟩))
set_option maxHeartbeats 8000000 in
theorem aweek_c  (w : World)  :
  Calls Try.prog 33 #[] w (fun e w' => ∃ (a : Option Addr) (c : Nat), e = .returned (.slice a 4 c) /\ Sl weaEnc 6 w.heap.size w'.heap.size w' (.slice a 4 c) weekD /\ w.grownBy w' none) := by
 have F1 : Bun w [] w := Bun.nil _
 go_enter Try.func33, Try.ntmps33
 go_wp2_with fail
 refine (aone_c 100 _).mono ?_
 rintro e w4 ⟨rfl, hg2⟩
 have hg2s := hg2.size
 (try simp at hg2s)
 replace F1 := F1.gn hg2
 clear hg2
 go_wp2_with fail
 refine (aone_c 100 _).mono ?_
 rintro e w8 ⟨rfl, hg6⟩
 have hg6s := hg6.size
 (try simp at hg6s)
 replace F1 := F1.gn hg6
 clear hg6
 go_wp2_with fail
 refine (aone_c 250 _).mono ?_
 rintro e w12 ⟨rfl, hg10⟩
 have hg10s := hg10.size
 (try simp at hg10s)
 replace F1 := F1.gn hg10
 clear hg10
 go_wp2_with fail
 refine (aspan_c 150 210 _).mono ?_
 rintro e w16 ⟨rfl, hg14⟩
 have hg14s := hg14.size
 (try simp at hg14s)
 replace F1 := F1.gn hg14
 clear hg14
 go_wp2_with fail
 replace F1 := F1.new 43 #[.int .i64 100, .int .i64 100, .int .i64 0, .int .i64 0, .int .i64 0, .bool false, .int .i64 100, .int .i64 100, .int .i64 0, .int .i64 0, .int .i64 0, .bool false, .int .i64 250, .int .i64 250, .int .i64 0, .int .i64 0, .int .i64 0, .bool false, .int .i64 150, .int .i64 210, .int .i64 0, .int .i64 0, .int .i64 0, .bool false] (n := w16.heap.size) (by simp)
 exact bodyPost_ret (v := .slice (some ⟨w16.heap.size, 0, none⟩) 4 4) (by simp [results, Try.results33, go_sem]) rfl ((by have hm_ := (F1.at 0 rfl : Bk _ w16.heap.size 43 #[.int .i64 100, .int .i64 100, .int .i64 0, .int .i64 0, .int .i64 0, .bool false, .int .i64 100, .int .i64 100, .int .i64 0, .int .i64 0, .int .i64 0, .bool false, .int .i64 250, .int .i64 250, .int .i64 0, .int .i64 0, .int .i64 0, .bool false, .int .i64 150, .int .i64 210, .int .i64 0, .int .i64 0, .int .i64 0, .bool false]); have lm_ := hm_.lt; exact ⟨_, _, rfl, (Bk.sl weaEnc 6 weekD 4 4 hm_ (fun _ => rfl) rfl rfl (by omega)).wide (by first | omega | (simp; omega)) (by first | omega | (simp; omega)), F1.gb⟩))
set_option maxHeartbeats 8000000 in
theorem anet_c  (w : World)  :
  Calls Try.prog 35 #[] w (fun e w' => ∃ (a : Option Addr) (c : Nat), e = .returned (.agg #[.int .i64 3, .slice a 4 c]) /\ Sl lgEnc 5 w.heap.size w'.heap.size w' (.slice a 4 c) netL /\ w.grownBy w' none) := by
 have F1 : Bun w [] w := Bun.nil _
 go_enter Try.func35, Try.ntmps35
 go_wp2_with fail
 replace F1 := F1.new 91 #[.int .i64 3, .slice (some ⟨w.heap.size + 1, 0, none⟩) 4 4] (n := w.heap.size) (by simp)
 replace F1 := F1.new 122 #[.int .i64 0, .int .i64 1, .int .i64 10, .int .i64 1, .int .i64 4, .int .i64 1, .int .i64 2, .int .i64 10, .int .i64 1, .int .i64 9, .int .i64 0, .int .i64 2, .int .i64 30, .int .i64 1, .int .i64 9, .int .i64 0, .int .i64 2, .int .i64 5, .int .i64 3, .int .i64 2] (n := (w.heap.size + 1)) (by simp)
 have kb4 := F1.bx2 1 rfl
 go_wp2_with fail
 exact bodyPost_ret (v := .agg #[.int .i64 3, .slice (some ⟨w.heap.size + 1, 0, none⟩) 4 4]) (by simp [results, Try.results35, go_sem, kb4]) rfl ((by have hm_ := (F1.at 0 rfl : Bk _ (w.heap.size + 1) 122 #[.int .i64 0, .int .i64 1, .int .i64 10, .int .i64 1, .int .i64 4, .int .i64 1, .int .i64 2, .int .i64 10, .int .i64 1, .int .i64 9, .int .i64 0, .int .i64 2, .int .i64 30, .int .i64 1, .int .i64 9, .int .i64 0, .int .i64 2, .int .i64 5, .int .i64 3, .int .i64 2]); have lm_ := hm_.lt; exact ⟨_, _, rfl, (Bk.sl lgEnc 5 netL 4 4 hm_ (fun _ => rfl) rfl rfl (by omega)).wide (by first | omega | (simp; omega)) (by first | omega | (simp; omega)), F1.gb⟩))
set_option maxHeartbeats 8000000 in
theorem sameTimes_c (lo hi lo2 hi2 : Nat) (va vb : Value) (l : List Tim) (w : World) (hl : Sl timEnc 4 lo hi w va l) (h2 : hi <= w.heap.size) (hl2 : Sl timEnc 4 lo2 hi2 w vb l) (h22 : hi2 <= w.heap.size) :
  Calls Try.prog 36 #[va, vb] w (Ret (.bool true) w) := by
 have F1 : Bun w [] w := Bun.nil _
 have hm_as := hl.len
 unfold maxLen at hm_as
 obtain ⟨aa, ac, rfl⟩ := hl.any
 replace F1 := F1.sl0 hl h2 rfl
 clear hl
 have hm_bs := hl2.len
 unfold maxLen at hm_bs
 obtain ⟨ba, bc, rfl⟩ := hl2.any
 replace F1 := F1.sl0 hl2 h22 rfl
 clear hl2
 go_enter Try.func36, Try.ntmps36
 go_wp2_with fail
 obtain ⟨HI4_, HI40⟩ : ∃ I : RelT, I = (fun t ds wr => ∃ (k : Nat), t 0 = .slice aa l.length ac /\ t 1 = .slice ba l.length bc /\ t 5 = .int .i64 (k : Int) /\ k <= l.length /\ ds = [] /\ w.heap.size <= wr.heap.size /\ Bun w [rsl timEnc 4 lo2 hi2 (.slice ba l.length bc) l, rsl timEnc 4 lo hi (.slice aa l.length ac) l] wr) := ⟨_, rfl⟩
 have HI4 := lhd HI40
 clear HI40
 refine wp_loopS 26 rfl HI4_ (fun t wr => l.length - (intOf (t 5)).toNat) ?atStart1 ?round1
 case round1 =>
  intro t ds wr hHid
  rw [HI4.out] at hHid
  obtain ⟨k, e0, e1, e5, hrel⟩ := hHid
  have e : ((List.range 26).map t).toArray = #[t 0, t 1, t 2, t 3, t 4, t 5, t 6, t 7, t 8, t 9, t 10, t 11, t 12, t 13, t 14, t 15, t 16, t 17, t 18, t 19, t 20, t 21, t 22, t 23, t 24, t 25] := rfl
  (try dsimp only at e)
  rw [e0, e1, e5] at e
  rw [e]
  simp only [e5]
  clear e e0 e1 e5
  obtain ⟨hk, rfl, hs6, hF5⟩ := hrel
  clear F1
  obtain ⟨w7, rfl⟩ : ∃ x_ : World, x_ = wr := ⟨_, rfl⟩
  by_cases c8 : (k : Int) < (l.length : Int)
  ·
   have c8H := lhd c8
   obtain ⟨x9, o10, e_⟩ := Sl.addr (hF5.at 1 rfl : Sl timEnc 4 lo hi _ (.slice aa l.length ac) l) (by omega)
   subst e_
   obtain ⟨x11, o12, e_⟩ := Sl.addr (hF5.at 0 rfl : Sl timEnc 4 lo2 hi2 _ (.slice ba l.length bc) l) (by omega)
   subst e_
   obtain ⟨z, hz13_⟩ : ∃ z_, l[k]? = some z_ := ⟨_, List.getElem?_eq_getElem (by omega)⟩
   have hz13 := lhd hz13_
   clear hz13_
   go_wp2_with fail
   have ge14 : World.cell? _ ⟨x9, o10 + k * 4, none⟩ = some (.int .i64 z.b.lo) := (Sl.cells (hF5.at 1 rfl) hz13.out 0 _ rfl)
   have ge15 : World.cell? _ ⟨x9, o10 + k * 4 + 1, none⟩ = some (.int .i64 z.b.hi) := (Sl.cells (hF5.at 1 rfl) hz13.out 1 _ rfl)
   have ge16 : World.cell? _ ⟨x9, o10 + k * 4 + 2, none⟩ = some (.int .i64 z.e.lo) := (Sl.cells (hF5.at 1 rfl) hz13.out 2 _ rfl)
   have ge17 : World.cell? _ ⟨x9, o10 + k * 4 + 3, none⟩ = some (.int .i64 z.e.hi) := (Sl.cells (hF5.at 1 rfl) hz13.out 3 _ rfl)
   have ge18 : World.cell? _ ⟨x11, o12 + k * 4, none⟩ = some (.int .i64 z.b.lo) := (Sl.cells (hF5.at 0 rfl) hz13.out 0 _ rfl)
   have ge19 : World.cell? _ ⟨x11, o12 + k * 4 + 1, none⟩ = some (.int .i64 z.b.hi) := (Sl.cells (hF5.at 0 rfl) hz13.out 1 _ rfl)
   have ge20 : World.cell? _ ⟨x11, o12 + k * 4 + 2, none⟩ = some (.int .i64 z.e.lo) := (Sl.cells (hF5.at 0 rfl) hz13.out 2 _ rfl)
   have ge21 : World.cell? _ ⟨x11, o12 + k * 4 + 3, none⟩ = some (.int .i64 z.e.hi) := (Sl.cells (hF5.at 0 rfl) hz13.out 3 _ rfl)
   go_quiet (fail)
   clear ge14 ge15 ge16 ge17 ge18 ge19 ge20 ge21
   have F22 := hF5.drewN nq
   clear hF5
   obtain ⟨w23, hx24, F26, hxs25⟩ := (show Bun w [rsl timEnc 4 lo2 hi2 (.slice (some ⟨x11, o12, none⟩) l.length bc) l, rsl timEnc 4 lo hi (.slice (some ⟨x9, o10, none⟩) l.length ac) l] _ from F22).name
   (try simp at hxs25)
   rw [hx24]
   clear hx24 F22
   go_wp2_with fail
   (first | refine ⟨rfl, ?_, ?_⟩ | refine ⟨?_, ?_⟩)
   · rw [HI4.out]; exact ⟨k + 1, rfl, rfl, (by show Value.int .i64 ((k : Int) + 1) = _; simp), by omega, (by first | rfl | simp), (by first | omega | (simp; done) | (simp; omega)), F26⟩
   · simp [slot, intOf]; omega
  have c8H := lhd c8
  have c8a : decide ((k : Int) < (l.length : Int)) = false := dec_f c8
  go_wp2_with fail
  go_ret
  exact ⟨rfl, hF5.gb⟩
 case atStart1 =>
  rw [HI4.out]
  exact ⟨0, rfl, rfl, rfl, Nat.zero_le _, rfl, (by first | exact Nat.le_refl _ | omega | (simp; done) | (simp; omega)), F1⟩
end Go.Proofs.Ytkclabflkocbaaa
