/- build: days that are flooded one by one: what Thicken reckons. -/
import Derived.Test.YtcoldeolmleeiaaGreatKKF4
import Derived.Test.YtcoldeolmleeiaaGreatKGG9
import Derived.Test.YtcoldeolmleeiaaGreatKI1
import Derived.Test.YtcoldeolmleeiaaGreatKF16
import Derived.Test.YtcoldeolmleeiaaGreatKJ2
import Derived.Test.YtcoldeolmleeiaaGreatKF40
import Derived.Test.YtcoldeolmleeiaaGreatKKA
import Derived.Test.YtcoldeolmleeiaaGreatKKC
import Derived.Test.YtcoldeolmleeiaaGreatKGG1
set_option linter.unusedVariables false
set_option linter.unusedSimpArgs false
set_option linter.unnecessarySimpa false
namespace Go.Proofs.YtcoldeolmleeiaaGreat
open Go.RowKit
set_option maxRecDepth 100000
noncomputable def thkS (l : Fro) (x : Ice) (dl : List Wea) (m : Int) : Nat -> List Wea
 | 0 => dl
 | k + 1 => setW (thkS l x dl m k) k (max 0 (floodI l x ((thkS l x dl m k).take (k + 1)) ((k : Int) + 1) m))
noncomputable def thkN (l : Fro) (x : Ice) (dl : List Wea) (m : Int) (k : Nat) : Int := max 0 (floodI l x ((thkS l x dl m k).take (k + 1)) ((k : Int) + 1) m)
noncomputable def thkL (l : Fro) (x : Ice) (dl : List Wea) (m : Int) (n : Nat) : List Int := (List.range n).map (thkN l x dl m)
noncomputable def thkE (l : Fro) (x : Ice) (dl : List Wea) (need m : Int) : Int := if ¬ allE l x dl = 0 then allE l x dl else if need < 0 ∨ 5000 < need ∨ m < 0 ∨ 200 < m then 2 else 0
noncomputable def thkW (l : Fro) (x : Ice) (dl : List Wea) (need m : Int) : List Int := if thkE l x dl need m = 0 then thkL l x dl m dl.length else []
noncomputable def thkD (l : Fro) (x : Ice) (dl : List Wea) (need m : Int) : Int := if thkE l x dl need m = 0 then readyS l x (thkS l x dl m dl.length) need else 0
theorem thkL_succ (l : Fro) (x : Ice) (dl : List Wea) (m : Int) (n : Nat) : thkL l x dl m (n + 1) = thkL l x dl m n ++ [thkN l x dl m n] := by simp [thkL, List.range_succ]
theorem thkS_len (l : Fro) (x : Ice) (dl : List Wea) (m : Int) : ∀ k, (thkS l x dl m k).length = dl.length
 | 0 => rfl
 | k + 1 => by rw [thkS, setW_len, thkS_len l x dl m k]
structure ThF (l : Fro) (x : Ice) (dl : List Wea) (m : Int) : Prop where
 fl : froErr l = 0
 ic : iceErr x = 0
 ok : ∀ d ∈ dl, weaErr d = 0
 n : dl.length <= 400
 m : 0 <= m /\ m <= 200
theorem weaErr_w {d : Wea} {n : Int} (h : weaErr d = 0) (hn : 0 <= n /\ n <= 200) : weaErr ⟨d.cold, d.fall, n, d.clear⟩ = 0 := by
 unfold weaErr at h ⊢
 split at h
 · contradiction
 rename_i h6
 split at h
 · contradiction
 rename_i h7
 rw [if_neg h6, if_neg h7, if_neg (by simp only; omega)]
theorem daysErr_all : ∀ {ds : List Wea}, daysErr ds = 0 -> ∀ d ∈ ds, weaErr d = 0
 | [], _, d, hd => by cases hd
 | c :: cs, h, d, hd => by
  unfold daysErr at h
  split at h
  · contradiction
  rename_i h3
  rcases List.mem_cons.1 hd with rfl | hd
  · exact Classical.not_not.1 h3
  · exact daysErr_all h d hd
theorem allE_weas {l : Fro} {x : Ice} {ds : List Wea} (h : allE l x ds = 0) : froErr l = 0 /\ iceErr x = 0 /\ (∀ d ∈ ds, weaErr d = 0) /\ ds.length <= 400 := by
 unfold allE at h
 split at h
 · contradiction
 rename_i h1
 split at h
 · contradiction
 rename_i h2
 unfold daysE at h
 split at h
 · cases h
 · exact ⟨Classical.not_not.1 h1, Classical.not_not.1 h2, daysErr_all h, by omega⟩
theorem ThF.of {l : Fro} {x : Ice} {dl : List Wea} {m : Int} (h : allE l x dl = 0) (hm : 0 <= m /\ m <= 200) : ThF l x dl m :=
 have h1 := allE_weas h
 ⟨h1.1, h1.2.1, h1.2.2.1, h1.2.2.2, hm⟩
theorem flood_at {l : Fro} {x : Ice} {dl : List Wea} {m : Int} {k : Nat} (hE : allE l x (dl.take (k + 1)) = 0) (hk : k < dl.length) (hm : 0 <= m /\ m <= 200) : floodE l x (dl.take (k + 1)) ((k : Int) + 1) m = 0 /\ FloodF l x (dl.take (k + 1)) k m (floodI l x (dl.take (k + 1)) ((k : Int) + 1) m) := by
 have hl : (dl.take (k + 1)).length = k + 1 := by rw [List.length_take]; omega
 have he : floodE l x (dl.take (k + 1)) ((k : Int) + 1) m = 0 := by rw [floodE, if_neg (not_not_intro hE), if_neg (by rw [hl]; omega)]
 refine ⟨he, ?_⟩
 have h := floodF (l := l) (x := x) (dl := dl.take (k + 1)) (m := k) (most := m) hm.1
 rw [floodI, if_pos he, show ((k : Int) + 1 - 1).toNat = k by omega]
 exact h
theorem thkS_ok {l : Fro} {x : Ice} {dl : List Wea} {m : Int} (h : ThF l x dl m) : ∀ k, k <= dl.length -> ∀ d ∈ thkS l x dl m k, weaErr d = 0
 | 0, _ => h.ok
 | k + 1, hk => fun d hd => by
  have ih := thkS_ok h k (by omega)
  have hE : allE l x ((thkS l x dl m k).take (k + 1)) = 0 := allE_take _ h.fl h.ic ih (by rw [thkS_len]; exact h.n)
  have hF := (flood_at hE (by rw [thkS_len]; omega) h.m).2.1
  have hm := h.m
  rcases setW_mem hd with hd | ⟨z, hz, rfl⟩
  · exact ih d hd
  · exact weaErr_w (ih z hz) (by omega)
theorem thkS_allE {l : Fro} {x : Ice} {dl : List Wea} {m : Int} (h : ThF l x dl m) {k : Nat} (hk : k <= dl.length) : allE l x (thkS l x dl m k) = 0 := allE_of h.fl h.ic (thkS_ok h k hk) (by rw [thkS_len]; exact h.n)
theorem thkS_takeE {l : Fro} {x : Ice} {dl : List Wea} {m : Int} (h : ThF l x dl m) {k : Nat} (hk : k <= dl.length) (j : Nat) : allE l x ((thkS l x dl m k).take j) = 0 := allE_take _ h.fl h.ic (thkS_ok h k hk) (by rw [thkS_len]; exact h.n)
theorem thkS_flood {l : Fro} {x : Ice} {dl : List Wea} {m : Int} (h : ThF l x dl m) {k : Nat} (hk : k < dl.length) : floodE l x ((thkS l x dl m k).take (k + 1)) ((k : Int) + 1) m = 0 /\ FloodF l x ((thkS l x dl m k).take (k + 1)) k m (floodI l x ((thkS l x dl m k).take (k + 1)) ((k : Int) + 1) m) := flood_at (thkS_takeE h (by omega) _) (by rw [thkS_len]; exact hk) h.m
open Go.Shelf
attribute [local go_sem] Oper.semAt_some
set_option maxHeartbeats 4000000 in
theorem cloneWea_nil (b0 c : Nat) (w : World) (hb : b0 <= w.heap.size) :
  Calls Tryz.prog 58 #[.slice none 0 c] w (CloneP weaEnc 61 6 b0 ([] : List Wea) w) := by
 have F1 : Bun w [] w := Bun.nil _
 go_enter Tryz.func58, Tryz.ntmps58
 have hqn : ∀ W : World, (binOp .eql 40 (.slice none 0 c) (.slice none 0 0)).run Tryz.prog W = .ok (.bool true) W := fun W => by rw [Lib.run_eql_slice_nil W _ _ _ _ _ _ _ Tryz.underlying40]; rfl
 go_wp2_with fail
 exact bodyPost_ret (v := .slice none 0 0) (by simp [results, Tryz.results58, go_sem]) rfl (CloneP.nil F1.gb)
set_option maxHeartbeats 4000000 in
theorem cloneWea_some (b0 lo hi : Nat) (p : Addr) (c : Nat) (l : List Wea) (w : World) (hl : Sl weaEnc 6 lo hi w (.slice (some p) l.length c) l) (h2 : hi <= w.heap.size) (hs : l.length <= 100000000000) (hb : b0 <= w.heap.size) :
  Calls Tryz.prog 58 #[.slice (some p) l.length c] w (CloneP weaEnc 61 6 b0 l w) := by
 have F1 : Bun w [] w := Bun.nil _
 have hm_ := hl.len
 unfold maxLen at hm_
 replace F1 := F1.sl0 hl h2 rfl
 clear hl
 go_enter Tryz.func58, Tryz.ntmps58
 have hqn : ∀ W : World, (binOp .eql 40 (.slice (some p) l.length c) (.slice none 0 0)).run Tryz.prog W = .ok (.bool false) W := fun W => by rw [Lib.run_eql_slice_nil W _ _ _ _ _ _ _ Tryz.underlying40]; rfl
 go_wp2_with (at_builtin; refine wpList_copyB okWea rfl _ _ rfl w.heap.size w.heap.size rfl (F1.new 61 #[] (n := w.heap.size) (by simp)) (by first | omega | (simp; omega)) lo hi (.slice (some p) l.length c) l rfl ((F1.new 61 #[] (n := w.heap.size) (by simp)).at 1 rfl) (by omega) ?_; intro vc3 w4 hB5 hs6; refine Hid.out ?_)
 refine lhd ?_
 (try simp at hs6)
 have F7 := hB5
 clear F1
 obtain ⟨ca8, cap9, e_⟩ := (Own.sl (F7.o 0 rfl) (fun _ => rfl)).any
 subst e_
 go_wp2_with fail
 exact bodyPost_ret (v := .slice ca8 l.length cap9) (by simp [results, Tryz.results58, go_sem]) rfl (CloneP.of hb (F7.pick [0] (by decide) rfl))
theorem cloneWea_c (b0 lo hi : Nat) (v : Value) (l : List Wea) (w : World) (hl : Sl weaEnc 6 lo hi w v l) (h2 : hi <= w.heap.size) (hs : l.length <= 100000000000) (hb : b0 <= w.heap.size) : Calls Tryz.prog 58 #[v] w (CloneP weaEnc 61 6 b0 l w) := by
 obtain ⟨a, c, rfl⟩ := hl.any
 cases a with
 | none =>
  have e : l = [] := by
   rcases hl.nilOr with ⟨rfl, _⟩ | ⟨x, ox, c', h | ⟨rfl, _⟩⟩
   · rfl
   · injection h with h; cases h
   · rfl
  subst e
  exact cloneWea_nil b0 c w hb
 | some p => exact cloneWea_some b0 lo hi p c l w hl h2 hs hb
def ThP (l : Fro) (x : Ice) (dl : List Wea) (need most : Int) (w : World) : Ending -> World -> Prop := fun e w' => ∃ (a : Option Addr) (c lo hi : Nat), e = .returned (.tuple #[.slice a (thkW l x dl need most).length c, .int .i64 (thkD l x dl need most), .int .i64 (thkE l x dl need most)]) /\ ((w.heap.size <= lo /\ hi <= w'.heap.size) /\ (thkW l x dl need most).length <= c) /\ Sl intEnc 1 lo hi w' (.slice a (thkW l x dl need most).length c) (thkW l x dl need most) /\ w.grownBy w' none
theorem ThP.err {l : Fro} {x : Ice} {dl : List Wea} {need most : Int} {w w' : World} {e : Int} (he : e ≠ 0) (h : thkE l x dl need most = e) (hg : w.grownBy w' none) : ThP l x dl need most w (.returned (.tuple #[.slice none 0 0, .int .i64 0, .int .i64 e])) w' := by
 have h1 : thkW l x dl need most = [] := by rw [thkW, if_neg (by rw [h]; exact he)]
 have h2 : thkD l x dl need most = 0 := by rw [thkD, if_neg (by rw [h]; exact he)]
 exact ⟨none, 0, w.heap.size, w'.heap.size, by rw [h1, h2, h]; rfl, ⟨⟨Nat.le_refl _, Nat.le_refl _⟩, by rw [h1]; exact Nat.le_refl _⟩, by rw [h1]; exact (Own.nil intEnc 3 1 w.heap.size w').sl (fun _ => rfl), hg⟩
theorem ThP.ok {l : Fro} {x : Ice} {dl : List Wea} {need most d : Int} {w w' : World} {vo : Value} {lo_ : List Int} (h : thkE l x dl need most = 0) (hl : lo_ = thkL l x dl most dl.length) (hd : readyS l x (thkS l x dl most dl.length) need = d) (ho : Own intEnc 3 1 w.heap.size w' vo lo_) (hg : w.grownBy w' none) : ThP l x dl need most w (.returned (.tuple #[vo, .int .i64 d, .int .i64 0])) w' := by
 have h1 : thkW l x dl need most = lo_ := by rw [thkW, if_pos h, hl]
 have h2 : thkD l x dl need most = d := by rw [thkD, if_pos h, hd]
 obtain ⟨a, c, rfl, hc, hs⟩ := ho.slC (fun _ => rfl)
 exact ⟨a, c, _, _, by rw [h1, h2, h], ⟨⟨Nat.le_refl _, Nat.le_refl _⟩, by rw [h1]; exact hc⟩, by rw [h1]; exact hs, hg⟩
theorem Own.capN {α : Type} {enc : α -> List Value} {e : TypeId} {sz base n c : Nat} {a : Option Addr} {w : World} {l : List α} (h : Own enc e sz base w (.slice a n c) l) : l.length <= c := by
 obtain ⟨h0, h2⟩ := h
 rcases h2 with ⟨e2, hn⟩ | ⟨g, cap, cur, e2, hb, hh, hnc, hcm, hcs, htk⟩
 ·
  injection e2 with e3 e4 e5
  omega
 injection e2 with e3 e4 e5
 omega
theorem wth_of {n lo hi : Int} (h : wth n lo hi = true) : lo <= n /\ n <= hi := by simpa [wth] using h
theorem wth_not {n lo hi : Int} (h : wth n lo hi = false) : n < lo ∨ hi < n := by simp [wth] at h; omega
theorem floodT_c (lo hi : Nat) (v : Value) (l : Fro) (x : Ice) (lo2 hi2 : Nat) (vd : Value) (dl : List Wea) (att most n : Int) (w : World) (hl : Sl covEnc 3 lo hi w v l.cov) (h2 : hi <= w.heap.size) (hl2 : Sl weaEnc 6 lo2 hi2 w vd dl) (h22 : hi2 <= w.heap.size) (hn : floodI l x dl att most = n) (he : floodE l x dl att most = 0) :
  Calls Tryz.prog 59 #[.agg (froC l v), .agg (iceC x), vd, .int .i64 att, .int .i64 most] w (Ret (.tuple #[.int .i64 n, .int .i64 0]) w) := by
 have h := flood_c lo hi v l x lo2 hi2 vd dl att most w hl h2 hl2 h22
 rw [hn, he] at h
 exact h
theorem readyT_c (lo hi : Nat) (v : Value) (l : Fro) (x : Ice) (lo2 hi2 : Nat) (vd : Value) (dl : List Wea) (need : Int) (w : World) (hl : Sl covEnc 3 lo hi w v l.cov) (h2 : hi <= w.heap.size) (hl2 : Sl weaEnc 6 lo2 hi2 w vd dl) (h22 : hi2 <= w.heap.size) (h0 : allE l x dl = 0) (hn : 0 <= need /\ need <= 5000) :
  Calls Tryz.prog 60 #[.agg (froC l v), .agg (iceC x), vd, .int .i64 need] w (Ret (.tuple #[.int .i64 (readyS l x dl need), .int .i64 (readyP l x dl need), .int .i64 0]) w) := ready_ok lo hi v l x lo2 hi2 vd dl need w hl h2 hl2 h22 h0 hn
set_option maxHeartbeats 16000000 in
theorem thicken_c (lo hi : Nat) (v : Value) (l : Fro) (x : Ice) (lo2 hi2 : Nat) (vd : Value) (dl : List Wea) (need most : Int) (w : World) (hl : Sl covEnc 3 lo hi w v l.cov) (h2 : hi <= w.heap.size) (hl2 : Sl weaEnc 6 lo2 hi2 w vd dl) (h22 : hi2 <= w.heap.size) :
  Calls Tryz.prog 26 #[.agg (froC l v), .agg (iceC x), vd, .int .i64 need, .int .i64 most] w (ThP l x dl need most w) := by
 have F1 : Bun w [] w := Bun.nil _
 have hm_cs := hl.len
 unfold maxLen at hm_cs
 obtain ⟨sa, sc, rfl⟩ := hl.any
 replace F1 := F1.sl0 hl h2 rfl
 clear hl
 have hm_ds := hl2.len
 unfold maxLen at hm_ds
 obtain ⟨da, dc, rfl⟩ := hl2.any
 replace F1 := F1.sl0 hl2 h22 rfl
 clear hl2
 go_enter Tryz.func26, Tryz.ntmps26
 go_wp2_with fail
 replace F1 := F1.new 78 (froC l (.slice sa l.cov.length sc)) (n := w.heap.size) (by simp)
 replace F1 := F1.new 84 (iceC x) (n := (w.heap.size + 1)) (by simp)
 refine (run_c lo hi _ l x lo2 hi2 _ dl _ (F1.s 3 rfl) (Nat.le_trans h2 F1.gb.size) (F1.s 2 rfl) (Nat.le_trans h22 F1.gb.size)).mono ?_
 rintro e w8 ⟨vr_, rfl, _, hg6⟩
 have hg6s := hg6.size
 (try simp at hg6s)
 replace F1 := F1.gn hg6
 clear hg6
 by_cases c10 : allE l x dl = 0
 ·
  obtain ⟨c10a, c10b⟩ := bqt c10
  have c10H := lhd c10
  clear c10
  have HOK := lhd (allOk c10H.out)
  have hn4 := HOK.out.2.2.2.1
  go_wp2_with fail
  refine (within_c _ _ _ _).mono ?_
  rintro e _ ⟨rfl, rfl⟩
  cases c11 : wth need 0 5000
  ·
   have c11H := lhd c11
   go_wp2_with fail
   exact bodyPost_ret (v := .tuple #[.slice none 0 0, .int .i64 0, .int .i64 2]) (by simp [results, Tryz.results26, go_sem]) rfl (ThP.err (by decide) (by rw [thkE, if_neg (not_not_intro c10H.out), if_pos (by have h_ := wth_not c11H.out; omega)]) F1.gb)
  have c11H := lhd c11
  go_wp2_with fail
  refine (within_c _ _ _ _).mono ?_
  rintro e _ ⟨rfl, rfl⟩
  cases c12 : wth most 0 200
  ·
   have c12H := lhd c12
   go_wp2_with fail
   exact bodyPost_ret (v := .tuple #[.slice none 0 0, .int .i64 0, .int .i64 2]) (by simp [results, Tryz.results26, go_sem]) rfl (ThP.err (by decide) (by rw [thkE, if_neg (not_not_intro c10H.out), if_pos (by have h_ := wth_not c12H.out; omega)]) F1.gb)
  have c12H := lhd c12
  have HTE := lhd (show thkE l x dl need most = 0 by rw [thkE, if_neg (not_not_intro c10H.out), if_neg (by have h1_ := wth_of c11H.out; have h2_ := wth_of c12H.out; omega)])
  have hmm : (0 <= need /\ need <= 5000) /\ 0 <= most /\ most <= 200 := ⟨wth_of c11H.out, wth_of c12H.out⟩
  have HTF := lhd (ThF.of c10H.out hmm.2)
  go_wp2_with fail
  refine (cloneWea_c w.heap.size lo2 hi2 _ dl _ (F1.s 2 rfl) (Nat.le_trans h22 F1.gb.size) (by omega) F1.gb.size).mono ?_
  rintro e w15 ⟨aF, cF, rfl, hof, hxf, hg13⟩
  have hg13s := hg13.size
  (try simp at hg13s)
  replace F1 := F1.add (rown weaEnc 61 6 w.heap.size (.slice aF dl.length cF) dl) hg13 (hof) (fun g e => hxf g e)
  clear hg13
  go_wp2_with fail
  replace F1 := F1.nilrow intEnc 3 1
  (skip)
  obtain ⟨HI18_, HI180⟩ : ∃ I : RelT, I = (fun t ds wr => ∃ (k : Nat) (vo : Value) (lo_ : List Int), t 3 = .int .i64 need /\ t 4 = .int .i64 most /\ t 5 = .pointer (some ⟨w.heap.size, 0, none⟩) /\ t 6 = .pointer (some ⟨w.heap.size + 1, 0, none⟩) /\ t 10 = vo /\ t 15 = .slice aF dl.length cF /\ t 40 = .int .i64 (dl.length : Int) /\ t 41 = .int .i64 (k : Int) /\ k <= dl.length /\ lo_.length = k /\ lo_ = thkL l x dl most k /\ ds = [] /\ w15.heap.size <= wr.heap.size /\ Bun w [rown intEnc 3 1 w.heap.size vo lo_, rown weaEnc 61 6 w.heap.size (.slice aF dl.length cF) (thkS l x dl most k), rbox (w.heap.size + 1) 84 (iceC x), rbox w.heap.size 78 (froC l (.slice sa l.cov.length sc)), rsl weaEnc 6 lo2 hi2 (.slice da dl.length dc) dl, rsl covEnc 3 lo hi (.slice sa l.cov.length sc) l.cov] wr) := ⟨_, rfl⟩
  have HI18 := lhd HI180
  clear HI180
  refine wp_loopS 89 rfl HI18_ (fun t wr => dl.length - (intOf (t 41)).toNat) ?atStart1 ?round1
  case round1 =>
   intro t ds wr hHid
   rw [HI18.out] at hHid
   obtain ⟨k, vo, lo_, e3, e4, e5, e6, e10, e15, e40, e41, hrel⟩ := hHid
   have e : ((List.range 89).map t).toArray = #[t 0, t 1, t 2, t 3, t 4, t 5, t 6, t 7, t 8, t 9, t 10, t 11, t 12, t 13, t 14, t 15, t 16, t 17, t 18, t 19, t 20, t 21, t 22, t 23, t 24, t 25, t 26, t 27, t 28, t 29, t 30, t 31, t 32, t 33, t 34, t 35, t 36, t 37, t 38, t 39, t 40, t 41, t 42, t 43, t 44, t 45, t 46, t 47, t 48, t 49, t 50, t 51, t 52, t 53, t 54, t 55, t 56, t 57, t 58, t 59, t 60, t 61, t 62, t 63, t 64, t 65, t 66, t 67, t 68, t 69, t 70, t 71, t 72, t 73, t 74, t 75, t 76, t 77, t 78, t 79, t 80, t 81, t 82, t 83, t 84, t 85, t 86, t 87, t 88] := rfl
   (try dsimp only at e)
   rw [e3, e4, e5, e6, e10, e15, e40, e41] at e
   rw [e]
   simp only [e41]
   clear e e3 e4 e5 e6 e10 e15 e40 e41
   obtain ⟨hk, hlen, hlo, rfl, hs20, hF19⟩ := hrel
   clear F1
   obtain ⟨w21, rfl⟩ : ∃ x_ : World, x_ = wr := ⟨_, rfl⟩
   have HLO := lhd hlo
   clear hlo
   by_cases c22 : (k : Int) < (dl.length : Int)
   ·
    have c22H := lhd c22
    obtain ⟨gF, cG, e_⟩ := Own.opnN (hF19.o 1 rfl) (n := dl.length) (thkS_len l x dl most k) (by omega)
    injection e_ with e1_ en_ e2_
    clear en_
    subst e1_ e2_
    have gFl := (hF19.ltAt 1 rfl _ rfl).1
    have hcf_ : dl.length <= cF := by have h_ := Own.capN (hF19.o 1 rfl); rw [thkS_len] at h_; exact h_
    have HFA := lhd (thkS_flood HTF.out (k := k) (by omega))
    have hle_ := thkS_len l x dl most k
    obtain ⟨n, hn_⟩ : ∃ z_, floodI l x ((thkS l x dl most k).take (k + 1)) ((k : Int) + 1) most = z_ := ⟨_, rfl⟩
    have hnb : -1 <= n /\ n <= most := by rw [← hn_]; exact HFA.out.2.1
    have HN := lhd hn_
    clear hn_
    have hwk : IntKind.i64.wrap ((k : Int) + 1) = (k : Int) + 1 := IntWalk.i64_in _ (by omega)
    go_wp2_with fail
    have hw25 : IntKind.i64.wrap ((k : Int) + 1) = (k : Int) + 1 := IntWalk.i64_in _ (by omega)
    have hw26 : IntKind.i64.wrap ((k : Int) + 1) = (k : Int) + 1 := IntWalk.i64_in _ (by omega)
    have hi27 : ∀ w, (Instr.sliceAt 40 (.slice (some ⟨gF, 0, none⟩) dl.length cF) none (some (.int .i64 ((k : Int) + 1))) none).run Tryz.prog w = .ok (.slice (some ⟨gF, 0, none⟩) (k + 1) cF) w := fun w => (by have h_ := slice_pre okWea (a := (some ⟨gF, 0, none⟩)) (n := dl.length) (c := cF) (k := k + 1) (by omega) w; push_cast at h_; exact h_)
    have F28 := hF19.drew
    clear hF19
    refine ru_begin (fun W => C8 W w.heap.size (.int .i64 l.gr) (.int .i64 l.la) (.slice sa l.cov.length sc) (.int .i64 l.melt.lo) (.int .i64 l.melt.hi) (.int .i64 l.soak) (.int .i64 l.white.lo) (.int .i64 l.white.hi) /\ C8 W (w.heap.size + 1) (.int .i64 x.bl.lo) (.int .i64 x.bl.hi) (.int .i64 x.wh.lo) (.int .i64 x.wh.hi) (.int .i64 x.we.lo) (.int .i64 x.we.hi) (.int .i64 x.sn.lo) (.int .i64 x.sn.hi)) 14 (by kernel_rfl) ?_ ?_
    · exact ⟨F28.c8 3, F28.c8 2⟩
    obtain ⟨wd30, hwd_⟩ : ∃ x : World, w21.drew = x := ⟨_, rfl⟩
    rw [hwd_] at F28 ⊢
    have wd30s : w21.heap.size <= wd30.heap.size := by rw [← hwd_]; exact Nat.le_refl _
    clear hwd_
    have hS29 := (And.intro (F28.c8 3) (F28.c8 2))
    refine ru_t 0 [] ?_
    refine ru_t 1 [] ?_
    refine ru_t 2 [] ?_
    refine ru_t 3 [] ?_
    refine ru_t 4 [] ?_
    refine ru_t 5 [] ?_
    refine ru_t 6 [] ?_
    refine ru_t 7 [] ?_
    refine ru_t 8 [] ?_
    (try simp only [lpX])
    clear hS29
    refine ru_o 9 fun K hK => ?_
    go_simp
    refine (floodT_c lo hi _ l x _ _ _ ((thkS l x dl most k).take (k + 1)) ((k : Int) + 1) most n _ (F28.s 5 rfl) (Nat.le_trans h2 F28.gb.size) (Sl.take (Own.sl (F28.o 1 rfl) (fun _ => rfl)) (by rw [thkS_len]; omega)) (Nat.le_refl _) HN.out HFA.out.1).mono ?_
    rintro e w33 ⟨rfl, hg31⟩
    have hg31s := hg31.size
    (try simp at hg31s)
    replace F28 := F28.gn hg31
    refine ru_back hK (by exact ⟨F28.c8 3, F28.c8 2⟩) (fun _ => ?_)
    clear hK K
    (try simp only [lpX])
    refine ru_p 10 ?_
    (try simp only [lpX])
    refine ru_p 11 ?_
    refine ru_p 12 ?_
    (try simp only [lpX])
    refine ru_p 13 ?_
    (try simp only [lpX])
    refine ru_o 14 fun K hK => ?_
    go_simp
    refine ru_back_late hK (by kernel_rfl) ?_
    clear hK K
    (try simp only [lpX])
    refine ru_done (by kernel_rfl) ?_
    (try clear hw25 hw26 hi27)
    have Fn_ := F28
    (try dsimp only [lpF, lpG] at Fn_)
    obtain ⟨w35, hx36, F38, hxs37⟩ := Fn_.name
    (try simp at hxs37)
    rw [hx36]
    clear hx36 F28 Fn_
    obtain ⟨z, hz39_⟩ : ∃ z_, (thkS l x dl most k)[k]? = some z_ := ⟨_, List.getElem?_eq_getElem (by omega)⟩
    have hz39 := lhd hz39_
    clear hz39_
    have ge40 : World.cell? _ ⟨gF, k * 6 + 4, none⟩ = some (.int .i64 z.water) := (by simpa using (Own.sl (F38.o 1 rfl) (fun _ => rfl)).cells hz39.out 4 _ rfl)
    have gl41 := cell_lt ge40
    have ge42 : World.frozen? _ ⟨gF, k * 6 + 4, none⟩ = false := Own.live (F38.o 1 rfl) _
    go_wp2_with (at_builtin; refine Hid.out ?_)
    clear ge40 gl41 ge42
    have F43 := Bun.setOwn (sz := 6) (fun _ => rfl) (F38.front 1 rfl rfl) hz39.out (y := (⟨z.cold, z.fall, max 0 n, z.clear⟩ : Wea)) (j := 4) (u := (.int .i64 (max 0 n))) (by decide) rfl rfl
    clear F38
    have eW_ : (thkS l x dl most k).set k (⟨z.cold, z.fall, max 0 n, z.clear⟩ : Wea) = thkS l x dl most (k + 1) := (setW_at hz39.out (max 0 n)).trans (by rw [thkS, HN.out])
    rw [eW_] at F43
    clear eW_
    refine lhd ?_
    go_wp2_with (at_builtin; refine wpList_app _ okInt rfl _ _ rfl w.heap.size vo lo_ [max 0 n] rfl (by exact ((F43.o 1 rfl)).alloc _) ⟨_, 0, none⟩ 1 1 rfl rfl (by decide) (news_of (Bk.newAt _ _ _ (by simp))) (k + 1) (by simp [hlen]) (by omega) (by first | omega | (simp; omega)) _ rfl ?_; intro g44 cap45 w46 hp47; refine Hid.out ?_)
    refine lhd ?_
    have hp47s := hp47.gb.size
    (try simp at hp47s)
    have F48 := ((F43.alloc (.cells #[.int .i64 (max 0 n)] 3)).front 1 rfl rfl).app hp47 (by simp)
    clear F43
    go_wp2_with fail
    (first | refine ⟨by kernel_rfl, ?_, ?_⟩ | refine ⟨rfl, ?_, ?_⟩ | refine ⟨?_, ?_⟩)
    · rw [HI18.out]; exact ⟨k + 1, _, _, by (iterate 7 refine ⟨by kernel_rfl, ?_⟩); exact ⟨(by show Value.int .i64 ((k : Int) + 1) = _; simp), (by omega), (by simp [hlen]), (by rw [HLO.out, thkL_succ, thkN, HN.out]), (by first | rfl | simp), (by first | omega | (simp; done) | (simp; omega)), F48⟩⟩
    · simp [slot, intOf]; omega
   have c22H := lhd c22
   have c22a := dec_f c22
   have b49 := hF19.bx8 2 rfl
   have b50 := hF19.bx8 3 rfl
   go_wp2_with fail
   clear b49 b50
   refine (readyT_c lo hi _ l x _ _ _ (thkS l x dl most k) need _ (hF19.s 5 rfl) (Nat.le_trans h2 hF19.gb.size) (Own.sl (hF19.o 1 rfl) (fun _ => rfl)) (Nat.le_refl _) (thkS_allE HTF.out hk) hmm.1).mono ?_
   rintro e w53 ⟨rfl, hg51⟩
   have hg51s := hg51.size
   (try simp at hg51s)
   have F54 := hF19.gn hg51
   clear hF19
   clear hg51
   go_wp2_with fail
   exact bodyPost_ret (v := .tuple #[vo, .int .i64 (readyS l x (thkS l x dl most k) need), .int .i64 0]) (by simp [results, Tryz.results26, go_sem]) rfl (ThP.ok HTE.out (by rw [HLO.out, show k = dl.length by omega]) (by rw [show k = dl.length by omega]) (F54.o 0 rfl) F54.gb)
  case atStart1 =>
   rw [HI18.out]
   exact ⟨0, _, [], (by kernel_rfl), (by kernel_rfl), (by kernel_rfl), (by kernel_rfl), rfl, (by kernel_rfl), (by kernel_rfl), rfl, Nat.zero_le _, rfl, rfl, rfl, (by first | exact Nat.le_refl _ | omega | (simp; done) | (simp; omega)), F1⟩
 obtain ⟨c10a, c10b⟩ := bqf c10
 have c10H := lhd c10
 clear c10
 go_wp2_with fail
 exact bodyPost_ret (v := .tuple #[.slice none 0 0, .int .i64 0, .int .i64 (allE l x dl)]) (by simp [results, Tryz.results26, go_sem]) rfl (ThP.err c10H.out (by rw [thkE, if_pos c10H.out]) F1.gb)
end Go.Proofs.YtcoldeolmleeiaaGreat
/- build: ice is thickened, the reference. -/
namespace Go.Proofs.YtcoldeolmleeiaaGreat
open Go.RowKit
set_option maxRecDepth 100000
attribute [local go_sem] Oper.semAt_some
end Go.Proofs.YtcoldeolmleeiaaGreat
