/- build: the chapter's examples, reckoned. -/
import Derived.Test.YtcoldeolmleeiaaGreatKJ10
import Derived.Test.YtcoldeolmleeiaaGreatKN5
import Derived.Test.YtcoldeolmleeiaaGreatKK1
import Derived.Test.YtcoldeolmleeiaaGreatKKC
import Derived.Test.YtcoldeolmleeiaaGreatKN6
set_option linter.unusedVariables false
set_option linter.unusedSimpArgs false
set_option linter.unnecessarySimpa false
namespace Go.Proofs.YtcoldeolmleeiaaGreat
open Go.RowKit
set_option maxRecDepth 100000
theorem Bk.sl {α : Type} (enc : α -> List Value) (sz : Nat) (l : List α) (c n : Nat) {w : World} {g : Nat} {t : TypeId} {cs : Array Value} (hb : Bk w g t cs) (hsz : ∀ x, (enc x).length = sz) (hcs : cs.toList = l.flatMap enc) (hn : l.length = n) (hl : n <= 1000) :
  Sl enc sz g (g + 1) w (.slice (some ⟨g, 0, none⟩) n c) l := by
 subst hn
 exact ⟨by unfold maxLen; omega, _, c, rfl, .inr ⟨g, 0, rfl, Nat.le_refl _, by omega, fun i x hi j u hj => by
   have h1 := flat_at' hsz l i x hi j u hj
   rw [← hcs] at h1
   rw [show 0 + i * sz + j = i * sz + j by omega, hb.cell]
   simpa using h1⟩⟩
def jobM : List Mch := [⟨0, 300, 10⟩, ⟨50, 200, 24⟩]
def jobT (av : Value) : List Tsk := [⟨0, ⟨5, 12⟩, ⟨0, 0⟩, ⟨0, 0⟩, [], .slice none 0 0⟩, ⟨1, ⟨10, 10⟩, ⟨24, 24⟩, ⟨0, 6⟩, [0], av⟩, ⟨0, ⟨4, 4⟩, ⟨0, 0⟩, ⟨30, 30⟩, [], .slice none 0 0⟩]
def weekD : List Wea := [⟨⟨100, 100⟩, ⟨0, 0⟩, 0, false⟩, ⟨⟨100, 100⟩, ⟨0, 0⟩, 0, false⟩, ⟨⟨250, 250⟩, ⟨0, 0⟩, 0, false⟩, ⟨⟨150, 210⟩, ⟨0, 0⟩, 0, false⟩]
def netL : List Lg := [⟨0, 1, 10, 1, 4⟩, ⟨1, 2, 10, 1, 9⟩, ⟨0, 2, 30, 1, 9⟩, ⟨0, 2, 5, 3, 2⟩]
def awT : List Tim := [⟨⟨0, 0⟩, ⟨5, 26⟩⟩, ⟨⟨5, 26⟩, ⟨15, 36⟩⟩, ⟨⟨30, 30⟩, ⟨34, 34⟩⟩]
theorem aw_both (av : Value) : bothErr jobM (jobT av) weekD = 0 := by kernel_rfl
theorem aw_tims (av : Value) : timsOf jobM (jobT av) weekD = awT := by kernel_rfl
theorem aw_opn (av : Value) : opnOf jobM (jobT av) weekD = ⟨39, 60⟩ := by kernel_rfl
def awP : FM := [some (5, 1), some (10, 1), some (0, 0)]
def awS : FM := [some (20, 2), some (10, 1), some (0, 0)]
theorem aw_net : netErr ((3 : Nat) : Int) netL = 0 := by kernel_rfl
theorem aw_dp : dst netL useP 5 (far0 3 2) = some awP := by kernel_rfl
theorem aw_ds : dst netL useS 5 (far0 3 2) = some awS := by kernel_rfl
theorem aw_pth : pth netL awS 2 5 0 = some [0, 1] := by kernel_rfl
theorem afs_job {lo hi : Nat} {w : World} {av : Value} (h : Sl intEnc 1 lo hi w av [0]) (hc : CapOk av) : Afs lo hi w (jobT av) := by
 intro t ht
 simp only [jobT, List.mem_cons, List.not_mem_nil, or_false] at ht
 rcases ht with rfl | rfl | rfl
 · exact ⟨Sl.of_nil _ _, Nat.le_refl _⟩
 · exact ⟨h, hc⟩
 · exact ⟨Sl.of_nil _ _, Nat.le_refl _⟩
theorem aspan_c (a b : Int) (w : World)  :
  Calls Tryz.prog 9 #[.int .i64 a, .int .i64 b] w (Ret (.agg #[.int .i64 a, .int .i64 b]) w) := by
 have F1 : Bun w [] w := Bun.nil _
 go_enter Tryz.func9, Tryz.ntmps9
 go_wp2_with fail
 replace F1 := F1.new 32 #[.int .i64 a, .int .i64 b] (n := w.heap.size) (by simp)
 have kb3 := F1.bx2 0 rfl
 go_wp2_with fail
 exact bodyPost_ret (v := .agg #[.int .i64 a, .int .i64 b]) (by simp [results, Tryz.results9, go_sem, kb3]) rfl (⟨rfl, F1.gb⟩)
theorem aone_c (n : Int) (w : World)  :
  Calls Tryz.prog 13 #[.int .i64 n] w (Ret (.agg #[.int .i64 n, .int .i64 n]) w) := by
 have F1 : Bun w [] w := Bun.nil _
 go_enter Tryz.func13, Tryz.ntmps13
 go_wp2_with fail
 replace F1 := F1.new 32 #[.int .i64 0, .int .i64 0] (n := w.heap.size) (by simp)
 refine (aspan_c n n _).mono ?_
 rintro e w5 ⟨rfl, hg3⟩
 have hg3s := hg3.size
 (try simp at hg3s)
 replace F1 := F1.gn hg3
 clear hg3
 have b7 := F1.bx2 0 rfl
 go_wp2_with fail
 clear b7
 replace F1 := F1.pt2 (.int .i64 n) (.int .i64 n)
 have kb9 := F1.bx2 0 rfl
 go_wp2_with fail
 exact bodyPost_ret (v := .agg #[.int .i64 n, .int .i64 n]) (by simp [results, Tryz.results13, go_sem, kb9]) rfl (⟨rfl, F1.gb⟩)
set_option maxHeartbeats 8000000 in
theorem ajob_c  (w : World)  :
  Calls Tryz.prog 4 #[] w (fun e w' => ∃ (a1 a2 : Option Addr) (c1 c2 : Nat) (av : Value), e = .returned (.agg #[.slice a1 2 c1, .slice a2 3 c2]) /\ JobAt w.heap.size w'.heap.size w' (.slice a1 2 c1) (.slice a2 3 c2) jobM (jobT av) /\ w.grownBy w' none) := by
 have F1 : Bun w [] w := Bun.nil _
 go_enter Tryz.func4, Tryz.ntmps4
 go_wp2_with fail
 replace F1 := F1.new 25 #[.slice none 0 0, .slice none 0 0] (n := w.heap.size) (by simp)
 replace F1 := F1.new 30 #[.int .i64 0, .int .i64 300, .int .i64 10, .int .i64 50, .int .i64 200, .int .i64 24] (n := (w.heap.size + 1)) (by simp)
 refine (aspan_c 5 12 _).mono ?_
 rintro e w6 ⟨rfl, hg4⟩
 have hg4s := hg4.size
 (try simp at hg4s)
 replace F1 := F1.gn hg4
 clear hg4
 go_wp2_with fail
 refine (aone_c 10 _).mono ?_
 rintro e w10 ⟨rfl, hg8⟩
 have hg8s := hg8.size
 (try simp at hg8s)
 replace F1 := F1.gn hg8
 clear hg8
 go_wp2_with fail
 refine (aone_c 24 _).mono ?_
 rintro e w14 ⟨rfl, hg12⟩
 have hg12s := hg12.size
 (try simp at hg12s)
 replace F1 := F1.gn hg12
 clear hg12
 go_wp2_with fail
 refine (aspan_c 0 6 _).mono ?_
 rintro e w18 ⟨rfl, hg16⟩
 have hg16s := hg16.size
 (try simp at hg16s)
 replace F1 := F1.gn hg16
 clear hg16
 go_wp2_with fail
 replace F1 := F1.new 3 #[.int .i64 0] (n := w18.heap.size) (by simp)
 refine (aone_c 4 _).mono ?_
 rintro e w23 ⟨rfl, hg21⟩
 have hg21s := hg21.size
 (try simp at hg21s)
 replace F1 := F1.gn hg21
 clear hg21
 go_wp2_with fail
 refine (aone_c 30 _).mono ?_
 rintro e w27 ⟨rfl, hg25⟩
 have hg25s := hg25.size
 (try simp at hg25s)
 replace F1 := F1.gn hg25
 clear hg25
 have b29 := F1.bx2 2 rfl
 go_wp2_with fail
 clear b29
 have F30 := (F1.front 2 rfl rfl).pt2 (.slice (some ⟨w.heap.size + 1, 0, none⟩) 2 2) (.slice (some ⟨w27.heap.size, 0, none⟩) 3 3)
 clear F1
 replace F30 := F30.new 34 #[.int .i64 0, .int .i64 5, .int .i64 12, .int .i64 0, .int .i64 0, .int .i64 0, .int .i64 0, .slice none 0 0, .int .i64 1, .int .i64 10, .int .i64 10, .int .i64 24, .int .i64 24, .int .i64 0, .int .i64 6, .slice (some ⟨w18.heap.size, 0, none⟩) 1 1, .int .i64 0, .int .i64 4, .int .i64 4, .int .i64 0, .int .i64 0, .int .i64 30, .int .i64 30, .slice none 0 0] (n := w27.heap.size) (by simp)
 have kb32 := F30.bx2 1 rfl
 go_wp2_with fail
 exact bodyPost_ret (v := .agg #[.slice (some ⟨w.heap.size + 1, 0, none⟩) 2 2, .slice (some ⟨w27.heap.size, 0, none⟩) 3 3]) (by simp [results, Tryz.results4, go_sem, kb32]) rfl ((by have hm_ := (F30.b 3 rfl); have ht_ := (F30.b 0 rfl); have hi_ := (F30.b 2 rfl); have lm_ := hm_.lt; have lt_ := ht_.lt; have li_ := hi_.lt; exact ⟨_, _, _, _, (.slice (some ⟨w18.heap.size, 0, none⟩) 1 1), rfl, ⟨(Bk.sl mchEnc 3 jobM 2 2 hm_ (fun _ => rfl) rfl rfl (by omega)).wide (by first | omega | (simp; omega)) (by first | omega | (simp; omega)), (Bk.sl tskEnc 8 (jobT (.slice (some ⟨w18.heap.size, 0, none⟩) 1 1)) 3 3 ht_ (fun _ => rfl) rfl rfl (by omega)).wide (by first | omega | (simp; omega)) (by first | omega | (simp; omega)), afs_job ((slI_of [0] 1 1 hi_ rfl rfl (by omega)).wide (by first | omega | (simp; omega)) (by first | omega | (simp; omega))) (Nat.le_refl _)⟩, F30.gb⟩))
set_option maxHeartbeats 8000000 in
theorem aweek_c  (w : World)  :
  Calls Tryz.prog 8 #[] w (fun e w' => ∃ (a : Option Addr) (c : Nat), e = .returned (.slice a 4 c) /\ Sl weaEnc 6 w.heap.size w'.heap.size w' (.slice a 4 c) weekD /\ w.grownBy w' none) := by
 have F1 : Bun w [] w := Bun.nil _
 go_enter Tryz.func8, Tryz.ntmps8
 go_wp2_with fail
 refine (aone_c 100 _).mono ?_
 rintro e w4 ⟨rfl, hg2⟩
 have hg2s := hg2.size
 (try simp at hg2s)
 replace F1 := F1.gn hg2
 clear hg2
 go_wp2_with fail
 refine (aone_c 100 _).mono ?_
 rintro e w8 ⟨rfl, hg6⟩
 have hg6s := hg6.size
 (try simp at hg6s)
 replace F1 := F1.gn hg6
 clear hg6
 go_wp2_with fail
 refine (aone_c 250 _).mono ?_
 rintro e w12 ⟨rfl, hg10⟩
 have hg10s := hg10.size
 (try simp at hg10s)
 replace F1 := F1.gn hg10
 clear hg10
 go_wp2_with fail
 refine (aspan_c 150 210 _).mono ?_
 rintro e w16 ⟨rfl, hg14⟩
 have hg14s := hg14.size
 (try simp at hg14s)
 replace F1 := F1.gn hg14
 clear hg14
 go_wp2_with fail
 replace F1 := F1.new 61 #[.int .i64 100, .int .i64 100, .int .i64 0, .int .i64 0, .int .i64 0, .bool false, .int .i64 100, .int .i64 100, .int .i64 0, .int .i64 0, .int .i64 0, .bool false, .int .i64 250, .int .i64 250, .int .i64 0, .int .i64 0, .int .i64 0, .bool false, .int .i64 150, .int .i64 210, .int .i64 0, .int .i64 0, .int .i64 0, .bool false] (n := w16.heap.size) (by simp)
 exact bodyPost_ret (v := .slice (some ⟨w16.heap.size, 0, none⟩) 4 4) (by simp [results, Tryz.results8, go_sem]) rfl ((by have hm_ := (F1.b 0 rfl); have lm_ := hm_.lt; exact ⟨_, _, rfl, (Bk.sl weaEnc 6 weekD 4 4 hm_ (fun _ => rfl) rfl rfl (by omega)).wide (by first | omega | (simp; omega)) (by first | omega | (simp; omega)), F1.gb⟩))
set_option maxHeartbeats 8000000 in
theorem anet_c  (w : World)  :
  Calls Tryz.prog 15 #[] w (fun e w' => ∃ (a : Option Addr) (c : Nat), e = .returned (.agg #[.int .i64 3, .slice a 4 c]) /\ Sl lgEnc 5 w.heap.size w'.heap.size w' (.slice a 4 c) netL /\ w.grownBy w' none) := by
 have F1 : Bun w [] w := Bun.nil _
 go_enter Tryz.func15, Tryz.ntmps15
 go_wp2_with fail
 replace F1 := F1.new 54 #[.int .i64 3, .slice (some ⟨w.heap.size + 1, 0, none⟩) 4 4] (n := w.heap.size) (by simp)
 replace F1 := F1.new 94 #[.int .i64 0, .int .i64 1, .int .i64 10, .int .i64 1, .int .i64 4, .int .i64 1, .int .i64 2, .int .i64 10, .int .i64 1, .int .i64 9, .int .i64 0, .int .i64 2, .int .i64 30, .int .i64 1, .int .i64 9, .int .i64 0, .int .i64 2, .int .i64 5, .int .i64 3, .int .i64 2] (n := (w.heap.size + 1)) (by simp)
 have kb4 := F1.bx2 1 rfl
 go_wp2_with fail
 exact bodyPost_ret (v := .agg #[.int .i64 3, .slice (some ⟨w.heap.size + 1, 0, none⟩) 4 4]) (by simp [results, Tryz.results15, go_sem, kb4]) rfl ((by have hm_ := (F1.b 0 rfl); have lm_ := hm_.lt; exact ⟨_, _, rfl, (Bk.sl lgEnc 5 netL 4 4 hm_ (fun _ => rfl) rfl rfl (by omega)).wide (by first | omega | (simp; omega)) (by first | omega | (simp; omega)), F1.gb⟩))
set_option maxHeartbeats 8000000 in
theorem sameTimes_c (lo hi lo2 hi2 : Nat) (va vb : Value) (l : List Tim) (w : World) (hl : Sl timEnc 4 lo hi w va l) (h2 : hi <= w.heap.size) (hl2 : Sl timEnc 4 lo2 hi2 w vb l) (h22 : hi2 <= w.heap.size) :
  Calls Tryz.prog 16 #[va, vb] w (Ret (.bool true) w) := by
 have F1 : Bun w [] w := Bun.nil _
 have hm_as := hl.len
 unfold maxLen at hm_as
 obtain ⟨aa, ac, rfl⟩ := hl.any
 replace F1 := F1.sl0 hl h2 rfl
 clear hl
 have hm_bs := hl2.len
 unfold maxLen at hm_bs
 obtain ⟨ba, bc, rfl⟩ := hl2.any
 replace F1 := F1.sl0 hl2 h22 rfl
 clear hl2
 go_enter Tryz.func16, Tryz.ntmps16
 go_wp2_with fail
 obtain ⟨HI4_, HI40⟩ : ∃ I : RelT, I = (fun t ds wr => ∃ (k : Nat), t 0 = .slice aa l.length ac /\ t 1 = .slice ba l.length bc /\ t 5 = .int .i64 (k : Int) /\ k <= l.length /\ ds = [] /\ w.heap.size <= wr.heap.size /\ Bun w [rsl timEnc 4 lo2 hi2 (.slice ba l.length bc) l, rsl timEnc 4 lo hi (.slice aa l.length ac) l] wr) := ⟨_, rfl⟩
 have HI4 := lhd HI40
 clear HI40
 refine wp_loopS 26 rfl HI4_ (fun t wr => l.length - (intOf (t 5)).toNat) ?atStart1 ?round1
 case round1 =>
  intro t ds wr hHid
  rw [HI4.out] at hHid
  obtain ⟨k, e0, e1, e5, hrel⟩ := hHid
  have e : ((List.range 26).map t).toArray = #[t 0, t 1, t 2, t 3, t 4, t 5, t 6, t 7, t 8, t 9, t 10, t 11, t 12, t 13, t 14, t 15, t 16, t 17, t 18, t 19, t 20, t 21, t 22, t 23, t 24, t 25] := rfl
  (try dsimp only at e)
  rw [e0, e1, e5] at e
  rw [e]
  simp only [e5]
  clear e e0 e1 e5
  obtain ⟨hk, rfl, hs6, hF5⟩ := hrel
  clear F1
  obtain ⟨w7, rfl⟩ : ∃ x_ : World, x_ = wr := ⟨_, rfl⟩
  by_cases c8 : (k : Int) < (l.length : Int)
  ·
   have c8H := lhd c8
   obtain ⟨x9, o10, e_⟩ := Sl.addr (hF5.s 1 rfl) (by omega)
   subst e_
   obtain ⟨x11, o12, e_⟩ := Sl.addr (hF5.s 0 rfl) (by omega)
   subst e_
   obtain ⟨z, hz13_⟩ : ∃ z_, l[k]? = some z_ := ⟨_, List.getElem?_eq_getElem (by omega)⟩
   have hz13 := lhd hz13_
   clear hz13_
   go_wp2_with fail
   have ge14 : World.cell? _ ⟨x9, o10 + k * 4, none⟩ = some (.int .i64 z.b.lo) := (Sl.cells (hF5.at 1 rfl) hz13.out 0 _ rfl)
   have ge15 : World.cell? _ ⟨x9, o10 + k * 4 + 1, none⟩ = some (.int .i64 z.b.hi) := (Sl.cells (hF5.at 1 rfl) hz13.out 1 _ rfl)
   have ge16 : World.cell? _ ⟨x9, o10 + k * 4 + 2, none⟩ = some (.int .i64 z.e.lo) := (Sl.cells (hF5.at 1 rfl) hz13.out 2 _ rfl)
   have ge17 : World.cell? _ ⟨x9, o10 + k * 4 + 3, none⟩ = some (.int .i64 z.e.hi) := (Sl.cells (hF5.at 1 rfl) hz13.out 3 _ rfl)
   have ge18 : World.cell? _ ⟨x11, o12 + k * 4, none⟩ = some (.int .i64 z.b.lo) := (Sl.cells (hF5.at 0 rfl) hz13.out 0 _ rfl)
   have ge19 : World.cell? _ ⟨x11, o12 + k * 4 + 1, none⟩ = some (.int .i64 z.b.hi) := (Sl.cells (hF5.at 0 rfl) hz13.out 1 _ rfl)
   have ge20 : World.cell? _ ⟨x11, o12 + k * 4 + 2, none⟩ = some (.int .i64 z.e.lo) := (Sl.cells (hF5.at 0 rfl) hz13.out 2 _ rfl)
   have ge21 : World.cell? _ ⟨x11, o12 + k * 4 + 3, none⟩ = some (.int .i64 z.e.hi) := (Sl.cells (hF5.at 0 rfl) hz13.out 3 _ rfl)
   go_quiet (fail)
   clear ge14 ge15 ge16 ge17 ge18 ge19 ge20 ge21
   have F22 := hF5.drewN nq
   clear hF5
   have Fn_ := F22
   (try dsimp only [lpF, lpG] at Fn_)
   obtain ⟨w23, hx24, F26, hxs25⟩ := Fn_.name
   (try simp at hxs25)
   rw [hx24]
   clear hx24 F22 Fn_
   go_wp2_with fail
   (first | refine ⟨rfl, ?_, ?_⟩ | refine ⟨?_, ?_⟩)
   · rw [HI4.out]; exact ⟨k + 1, rfl, rfl, (by show Value.int .i64 ((k : Int) + 1) = _; simp), by omega, (by first | rfl | simp), (by first | omega | (simp; done) | (simp; omega)), F26⟩
   · simp [slot, intOf]; omega
  have c8H := lhd c8
  have c8a := dec_f c8
  go_wp2_with fail
  go_ret
  exact ⟨rfl, hF5.gb⟩
 case atStart1 =>
  rw [HI4.out]
  exact ⟨0, rfl, rfl, rfl, Nat.zero_le _, rfl, (by first | exact Nat.le_refl _ | omega | (simp; done) | (simp; omega)), F1⟩
attribute [local go_sem] Oper.semAt_some
theorem same_t (lo hi lo' hi' : Nat) (v v' : Value) (l : List Int) (w : World) (hx : Ints lo hi w v l) (hy : Ints lo' hi' w v' l) : Calls Tryz.prog 11 #[v, v'] w (Ret (.bool true) w) := by
 have h := same_c lo hi lo' hi' v v' l l w hx hy
 rw [sameB_self] at h
 exact h
theorem Bun.job3 {w w' : World} {lo hi : Nat} {vm vt : Value} {ms : List Mch} {ts : List Tsk} (h1 : w.heap.size <= lo) (h2 : hi <= w'.heap.size) (hj : JobAt lo hi w' vm vt ms ts) (hg : w.grownBy w' none) : Bun w [rsl mchEnc 3 lo hi vm ms, rsl tskEnc 8 lo hi vt ts, rafs lo hi ts] w' :=
 ((((Bun.nil w).add (rafs lo hi ts) hg hj.af (fun g hx => ⟨Nat.le_trans h1 hx.1, Nat.lt_of_lt_of_le hx.2 h2⟩)).more 0 (rsl tskEnc 8 lo hi vt ts) rfl rfl rfl (fun _ h => h) hj.t).more 0 (rsl mchEnc 3 lo hi vm ms) rfl rfl rfl (fun _ h => h) hj.m)
theorem ajob_b (w : World) : Calls Tryz.prog 4 #[] w (fun e w' => ∃ (av : Value) (a1 a2 : Option Addr) (c1 c2 lo hi : Nat), e = .returned (.agg #[.slice a1 2 c1, .slice a2 3 c2]) /\ (w.heap.size <= lo /\ hi <= w'.heap.size) /\ Bun w [rsl mchEnc 3 lo hi (.slice a1 2 c1) jobM, rsl tskEnc 8 lo hi (.slice a2 3 c2) (jobT av), rafs lo hi (jobT av)] w') := by
 refine (ajob_c w).mono ?_
 rintro e w' ⟨a1, a2, c1, c2, av, rfl, hj, hg⟩
 exact ⟨av, a1, a2, c1, c2, _, _, rfl, ⟨Nat.le_refl _, Nat.le_refl _⟩, Bun.job3 (Nat.le_refl _) (Nat.le_refl _) hj hg⟩
theorem awTimes (lo hi : Nat) (vm vt : Value) (av : Value) (lo2 hi2 : Nat) (vd : Value) (w : World) (hj : JobAt lo hi w vm vt jobM (jobT av)) (h2 : hi <= w.heap.size) (hd : Sl weaEnc 6 lo2 hi2 w vd weekD) (h3 : hi2 <= w.heap.size) :
  Calls Tryz.prog 10 #[.agg #[vm, vt], vd] w (fun e w' => ∃ (a : Option Addr) (c lo hi : Nat), e = .returned (.tuple #[.slice a 3 c, .agg #[.int .i64 39, .int .i64 60], .int .i64 0]) /\ (w.heap.size <= lo /\ hi <= w'.heap.size) /\ Sl timEnc 4 lo hi w' (.slice a 3 c) awT /\ w.grownBy w' none) := by
 refine (btimes_c lo hi vm vt jobM (jobT av) lo2 hi2 vd weekD w hj h2 hd h3).mono ?_
 rintro e w' ⟨a, c, lo', hi', he, h4, hs, hg⟩
 rw [aw_tims, aw_opn, aw_both] at he
 rw [aw_tims] at hs
 exact ⟨a, c, lo', hi', he, h4, hs, hg⟩
theorem awDetour (lo hi : Nat) (v : Value) (w : World) (hl : Sl lgEnc 5 lo hi w v netL) (h2 : hi <= w.heap.size) :
  Calls Tryz.prog 14 #[.agg #[.int .i64 3, v], .int .i64 0, .int .i64 2] w (fun e w' => ∃ (a : Option Addr) (c lo hi : Nat), e = .returned (.tuple #[.slice a 2 c, .int .i64 20, .int .i64 5, .int .i64 0]) /\ (w.heap.size <= lo /\ hi <= w'.heap.size) /\ Sl intEnc 1 lo hi w' (.slice a 2 c) [0, 1] /\ w.grownBy w' none) :=
 (detour_c lo hi v netL 3 0 2 5 2 awP awS [0, 1] w hl h2 aw_net ⟨by decide, by decide⟩ ⟨by decide, by decide⟩ (by decide) (by decide) aw_dp aw_ds (fun _ => aw_pth) (fun h => by cases h)).mono fun _ _ h => h
theorem aweek_b (w : World) : Calls Tryz.prog 8 #[] w (fun e w' => ∃ (a : Option Addr) (c lo hi : Nat), e = .returned (.slice a 4 c) /\ (w.heap.size <= lo /\ hi <= w'.heap.size) /\ Sl weaEnc 6 lo hi w' (.slice a 4 c) weekD /\ w.grownBy w' none) := by
 refine (aweek_c w).mono ?_
 rintro e w' ⟨a, c, rfl, hs, hg⟩
 exact ⟨a, c, _, _, rfl, ⟨Nat.le_refl _, Nat.le_refl _⟩, hs, hg⟩
theorem anet_b (w : World) : Calls Tryz.prog 15 #[] w (fun e w' => ∃ (a : Option Addr) (c lo hi : Nat), e = .returned (.agg #[.int .i64 3, .slice a 4 c]) /\ (w.heap.size <= lo /\ hi <= w'.heap.size) /\ Sl lgEnc 5 lo hi w' (.slice a 4 c) netL /\ w.grownBy w' none) := by
 refine (anet_c w).mono ?_
 rintro e w' ⟨a, c, rfl, hs, hg⟩
 exact ⟨a, c, _, _, rfl, ⟨Nat.le_refl _, Nat.le_refl _⟩, hs, hg⟩
set_option maxHeartbeats 16000000 in
theorem awake_c  (w : World)  :
  Calls Tryz.prog 5 #[] w (Ret (.bool true) w) := by
 have F1 : Bun w [] w := Bun.nil _
 go_enter Tryz.func5, Tryz.ntmps5
 go_wp2_with fail
 refine (ajob_b _).mono ?_
 rintro e w2 ⟨avJ, a1J, a2J, c1J, c2J, loJ, hiJ, rfl, ⟨hlJ, hyJ⟩, hB3⟩
 have hB3s := hB3.gb.size
 (try simp at hB3s)
 replace F1 := F1.joinV (L2 := [rsl mchEnc 3 loJ hiJ (.slice a1J 2 c1J) jobM, rsl tskEnc 8 loJ hiJ (.slice a2J 3 c2J) (jobT avJ), rafs loJ hiJ (jobT avJ)]) hB3 (lfm ⟨fun g hx => Nat.le_trans hlJ hx.1, lfm ⟨fun g hx => Nat.le_trans hlJ hx.1, lfm ⟨fun g hx => Nat.le_trans hlJ hx.1, fun _ h => by cases h⟩⟩⟩)
 clear hB3
 (try dsimp only [List.cons_append, List.nil_append] at F1)
 go_wp2_with fail
 refine (aweek_b _).mono ?_
 rintro e w7 ⟨aW, cW, loW, hiW, rfl, ⟨hxW, hyW⟩, hzW, hg5⟩
 have hg5s := hg5.size
 (try simp at hg5s)
 replace F1 := F1.add (rsl weaEnc 6 loW hiW (.slice aW 4 cW) weekD) hg5 (hzW) (fun g e => ⟨Nat.le_trans hxW e.1, Nat.lt_of_lt_of_le e.2 hyW⟩)
 clear hg5
 go_wp2_with fail
 refine (awTimes loJ hiJ _ _ avJ loW hiW _ _ (JobAt.mk (F1.s 1 rfl) (F1.s 2 rfl) (F1.at 3 rfl : Afs loJ hiJ _ (jobT avJ))) (by first | omega | (simp; omega)) (F1.s 0 rfl) (by first | omega | (simp; omega))).mono ?_
 rintro e w11 ⟨aT, cT, loT, hiT, rfl, ⟨hxT, hyT⟩, hzT, hg9⟩
 have hg9s := hg9.size
 (try simp at hg9s)
 replace F1 := F1.add (rsl timEnc 4 loT hiT (.slice aT 3 cT) awT) hg9 (hzT) (fun g e => ⟨Nat.le_trans hxT e.1, Nat.lt_of_lt_of_le e.2 hyT⟩)
 clear hg9
 go_wp2_with fail
 replace F1 := F1.new 32 #[.int .i64 39, .int .i64 60] (n := w11.heap.size) (by simp)
 refine (anet_b _).mono ?_
 rintro e w16 ⟨aN, cN, loN, hiN, rfl, ⟨hxN, hyN⟩, hzN, hg14⟩
 have hg14s := hg14.size
 (try simp at hg14s)
 replace F1 := F1.add (rsl lgEnc 5 loN hiN (.slice aN 4 cN) netL) hg14 (hzN) (fun g e => ⟨Nat.le_trans hxN e.1, Nat.lt_of_lt_of_le e.2 hyN⟩)
 clear hg14
 go_wp2_with fail
 refine (awDetour loN hiN _ _ (F1.s 0 rfl) (by first | omega | (simp; omega))).mono ?_
 rintro e w20 ⟨aP, cP, loP, hiP, rfl, ⟨hxP, hyP⟩, hzP, hg18⟩
 have hg18s := hg18.size
 (try simp at hg18s)
 replace F1 := F1.add (rsl intEnc 1 loP hiP (.slice aP 2 cP) ([0, 1])) hg18 (hzP) (fun g e => ⟨Nat.le_trans hxP e.1, Nat.lt_of_lt_of_le e.2 hyP⟩)
 clear hg18
 go_wp2_with fail
 replace F1 := F1.drew
 refine ru_begin (fun W => C2 W w11.heap.size (.int .i64 39) (.int .i64 60)) 38 (by kernel_rfl) ?_ ?_
 · exact (F1.c2 2)
 obtain ⟨wd24, hwd_⟩ : ∃ x : World, w20.drew = x := ⟨_, rfl⟩
 rw [hwd_] at F1 ⊢
 have wd24s : w20.heap.size <= wd24.heap.size := by rw [← hwd_]; exact Nat.le_refl _
 clear hwd_
 have hS23 := (F1.c2 2)
 refine ru_t 0 [] ?_
 refine ru_t 1 [] ?_
 refine ru_t 2 [] ?_
 refine ru_t 3 [] ?_
 refine ru_t 4 [] ?_
 refine ru_t 5 [] ?_
 refine ru_t 6 [] ?_
 refine ru_t 7 [] ?_
 (try simp only [lpX])
 clear hS23
 refine ru_o 8 fun K hK => ?_
 go_simp
 refine (aone_c 0 _).mono ?_
 rintro e w27 ⟨rfl, hg25⟩
 have hg25s := hg25.size
 (try simp at hg25s)
 replace F1 := F1.gn hg25
 refine ru_back hK (by exact (F1.c2 2)) (fun _ => ?_)
 clear hK K
 (try simp only [lpX])
 refine ru_o 9 fun K hK => ?_
 go_simp
 refine (aspan_c 5 26 _).mono ?_
 rintro e w31 ⟨rfl, hg29⟩
 have hg29s := hg29.size
 (try simp at hg29s)
 replace F1 := F1.gn hg29
 refine ru_back hK (by exact (F1.c2 2)) (fun _ => ?_)
 clear hK K
 (try simp only [lpX])
 refine ru_p 10 ?_
 (try simp only [lpX])
 refine ru_o 11 fun K hK => ?_
 go_simp
 refine (aspan_c 5 26 _).mono ?_
 rintro e w35 ⟨rfl, hg33⟩
 have hg33s := hg33.size
 (try simp at hg33s)
 replace F1 := F1.gn hg33
 refine ru_back hK (by exact (F1.c2 2)) (fun _ => ?_)
 clear hK K
 (try simp only [lpX])
 refine ru_o 12 fun K hK => ?_
 go_simp
 refine (aspan_c 15 36 _).mono ?_
 rintro e w39 ⟨rfl, hg37⟩
 have hg37s := hg37.size
 (try simp at hg37s)
 replace F1 := F1.gn hg37
 refine ru_back hK (by exact (F1.c2 2)) (fun _ => ?_)
 clear hK K
 (try simp only [lpX])
 refine ru_p 13 ?_
 (try simp only [lpX])
 refine ru_o 14 fun K hK => ?_
 go_simp
 refine (aone_c 30 _).mono ?_
 rintro e w43 ⟨rfl, hg41⟩
 have hg41s := hg41.size
 (try simp at hg41s)
 replace F1 := F1.gn hg41
 refine ru_back hK (by exact (F1.c2 2)) (fun _ => ?_)
 clear hK K
 (try simp only [lpX])
 refine ru_o 15 fun K hK => ?_
 go_simp
 refine (aone_c 34 _).mono ?_
 rintro e w47 ⟨rfl, hg45⟩
 have hg45s := hg45.size
 (try simp at hg45s)
 replace F1 := F1.gn hg45
 refine ru_back hK (by exact (F1.c2 2)) (fun _ => ?_)
 clear hK K
 (try simp only [lpX])
 refine ru_p 16 ?_
 (try simp only [lpX])
 refine ru_o 17 fun K hK => ?_
 go_simp
 replace F1 := F1.new 47 #[.int .i64 0, .int .i64 0, .int .i64 5, .int .i64 26, .int .i64 5, .int .i64 26, .int .i64 15, .int .i64 36, .int .i64 30, .int .i64 30, .int .i64 34, .int .i64 34] (n := w47.heap.size) (by simp)
 refine ru_back hK (by exact (F1.c2 3)) (fun _ => ?_)
 clear hK K
 (try simp only [lpX])
 refine ru_o 18 fun K hK => ?_
 go_simp
 refine (sameTimes_c _ _ _ _ _ _ awT _ (F1.s 4 rfl) (by first | omega | (simp; omega)) (Bk.sl timEnc 4 awT 3 3 (F1.b 0 rfl) (fun _ => rfl) rfl rfl (by omega)) ((F1.b 0 rfl)).lt).mono ?_
 rintro e w52 ⟨rfl, hg50⟩
 have hg50s := hg50.size
 (try simp at hg50s)
 replace F1 := F1.gn hg50
 refine ru_back hK (by exact (F1.c2 3)) (fun _ => ?_)
 clear hK K
 (try simp only [lpX])
 refine ru_p 19 ?_
 (try simp only [lpX])
 refine ru_p 20 ?_
 (try simp only [lpX])
 refine ru_t 21 [] ?_
 (try simp only [lpX])
 refine ru_o 22 fun K hK => ?_
 go_simp
 refine (aspan_c 39 60 _).mono ?_
 rintro e w56 ⟨rfl, hg54⟩
 have hg54s := hg54.size
 (try simp at hg54s)
 replace F1 := F1.gn hg54
 refine ru_back hK (by exact (F1.c2 3)) (fun _ => ?_)
 clear hK K
 (try simp only [lpX])
 refine ru_p 23 ?_
 (try simp only [lpX])
 refine ru_p 24 ?_
 (try simp only [lpX])
 refine ru_p 25 ?_
 (try simp only [lpX])
 refine ru_p 26 ?_
 (try simp only [lpX])
 refine ru_o 27 fun K hK => ?_
 go_simp
 replace F1 := F1.new 3 #[.int .i64 0, .int .i64 1] (n := w56.heap.size) (by simp)
 refine ru_back hK (by exact (F1.c2 4)) (fun _ => ?_)
 clear hK K
 (try simp only [lpX])
 refine ru_o 28 fun K hK => ?_
 go_simp
 refine (same_t _ _ _ _ _ _ [0, 1] _ (F1.s 2 rfl) (slI_of [0, 1] 2 2 (F1.b 0 rfl) rfl rfl (by omega))).mono ?_
 rintro e w61 ⟨rfl, hg59⟩
 have hg59s := hg59.size
 (try simp at hg59s)
 replace F1 := F1.gn hg59
 refine ru_back hK (by exact (F1.c2 4)) (fun _ => ?_)
 clear hK K
 (try simp only [lpX])
 refine ru_p 29 ?_
 (try simp only [lpX])
 refine ru_p 30 ?_
 (try simp only [lpX])
 refine ru_p 31 ?_
 (try simp only [lpX])
 refine ru_p 32 ?_
 (try simp only [lpX])
 refine ru_p 33 ?_
 (try simp only [lpX])
 refine ru_p 34 ?_
 (try simp only [lpX])
 refine ru_p 35 ?_
 (try simp only [lpX])
 refine ru_p 36 ?_
 (try simp only [lpX])
 refine ru_p 37 ?_
 (try simp only [lpX])
 refine ru_o 38 fun K hK => ?_
 go_simp
 refine ru_back_late hK (by kernel_rfl) ?_
 clear hK K
 (try simp only [lpX])
 refine ru_done (by kernel_rfl) ?_
 have Fn_ := (((F1.drop 0 rfl).drop 0 rfl).drop 2 rfl)
 (try dsimp only [lpF, lpG] at Fn_)
 obtain ⟨w63, hx64, F66, hxs65⟩ := Fn_.name
 (try simp at hxs65)
 rw [hx64]
 clear hx64 F1 Fn_
 go_wp2_with fail
 go_ret
 exact ⟨rfl, F66.gb⟩
end Go.Proofs.YtcoldeolmleeiaaGreat
