/- top: TopPaths walked. -/
import Derived.Test.YtlefmbjipdlcfaaMRC3
import Derived.Test.YtlefmbjipdlcfaaMRC5
import Derived.Test.YtlefmbjipdlcfaaMRC6
import Derived.Test.YtlefmbjipdlcfaaMPR4
import Derived.Test.YtlefmbjipdlcfaaMN6
import Derived.Test.YtlefmbjipdlcfaaMK1
import Derived.Test.YtlefmbjipdlcfaaMKC
import Derived.Test.YtlefmbjipdlcfaaMJ3
set_option linter.unusedVariables false
set_option linter.unusedSimpArgs false
set_option linter.unnecessarySimpa false
namespace Go.Proofs.Ytlefmbjipdlcfaa
open Go.RowKit
set_option maxRecDepth 100000
attribute [local go_sem] Oper.semAt_some
theorem rgRC7134 (t : Nat -> Value) : ((List.range 134).map t).toArray = #[t 0, t 1, t 2, t 3, t 4, t 5, t 6, t 7, t 8, t 9, t 10, t 11, t 12, t 13, t 14, t 15, t 16, t 17, t 18, t 19, t 20, t 21, t 22, t 23, t 24, t 25, t 26, t 27, t 28, t 29, t 30, t 31, t 32, t 33, t 34, t 35, t 36, t 37, t 38, t 39, t 40, t 41, t 42, t 43, t 44, t 45, t 46, t 47, t 48, t 49, t 50, t 51, t 52, t 53, t 54, t 55, t 56, t 57, t 58, t 59, t 60, t 61, t 62, t 63, t 64, t 65, t 66, t 67, t 68, t 69, t 70, t 71, t 72, t 73, t 74, t 75, t 76, t 77, t 78, t 79, t 80, t 81, t 82, t 83, t 84, t 85, t 86, t 87, t 88, t 89, t 90, t 91, t 92, t 93, t 94, t 95, t 96, t 97, t 98, t 99, t 100, t 101, t 102, t 103, t 104, t 105, t 106, t 107, t 108, t 109, t 110, t 111, t 112, t 113, t 114, t 115, t 116, t 117, t 118, t 119, t 120, t 121, t 122, t 123, t 124, t 125, t 126, t 127, t 128, t 129, t 130, t 131, t 132, t 133] := rfl
theorem detour_r (lo hi : Nat) (v : Value) (ls : List Lg) (n : Nat) (x d : Int) (mp ms : FM) (path : List Int) (f g : Nat -> Int) (su pe : Int) (w : World) (hl : Sl lgEnc 5 lo hi w v ls) (h2 : hi <= w.heap.size) (hnet : netErr n ls = 0) (hx : 0 <= x /\ x < n) (hd : 0 <= d /\ d < n) (hr : RtOk ls n x d mp ms path f g) (hsu : perF ms x = su) (hpe : perF mp x = pe) :
  Calls Try.prog 9 #[.agg #[.int .i64 (n : Int), v], .int .i64 x, .int .i64 d] w (DetR path su pe 0 w) := by
 subst hsu hpe
 have hb := (netOk hnet).1
 exact detour_c lo hi v ls n x d (n + 1) (n + 1) mp ms path w hl h2 hnet hx hd (by omega) (by omega) hr.dp hr.ds hr.pt hr.pn
def minE (r l : Int) : Int := if l < 0 then 1000000 else r + l
theorem gmn_far {ls : List Lg} {u : Lg -> Bool} {n : Nat} {d x r : Int} {m : TM} (hls : ∀ l ∈ ls, LgOk n l) (hd : 0 <= d /\ d < n) (hx : 0 <= x /\ x < n) (h : LeastT ls u d n m) : gmn m r x = minE r (mget (lenM ls u n) d.toNat x.toNat) := by
 rw [← time_far hls hd hx h]
 unfold gmn minE perT
 cases e : tget m x with
 | none => rfl
 | some v =>
  obtain ⟨q, hw⟩ := h.snd x v e
  have := hw.nonneg hls
  simp only
  rw [if_neg (by omega)]
theorem det7_c (lo hi : Nat) (v : Value) (ls : List Lg) (n : Nat) (x d su pe : Int) (w : World) (hl : Sl lgEnc 5 lo hi w v ls) (h2 : hi <= w.heap.size) (hnet : netErr n ls = 0) (hx : 0 <= x /\ x < n) (hd : 0 <= d /\ d < n) (hs : mget (lenM ls useS n) x.toNat d.toNat = su) (hp : mget (lenM ls useP n) x.toNat d.toNat = pe) :
  Calls Try.prog 9 #[.agg #[.int .i64 (n : Int), v], .int .i64 x, .int .i64 d] w (fun e w' => ∃ a : Value, e = .returned (.tuple #[a, .int .i64 su, .int .i64 pe, .int .i64 0]) /\ w.grownBy w' none) := by
 obtain ⟨mp, ms, path, f, g, hr⟩ := rtOk_of (netOk hnet).2.2 (by have := (netOk hnet).1; omega) hd hx
 refine (detour_r lo hi v ls n x d mp ms path f g su pe w hl h2 hnet hx hd hr (hr.es.trans hs) (hr.ep.trans hp)).mono ?_
 rintro e w' ⟨a, c, l1, l2, he, _, _, hg⟩
 exact ⟨_, he, hg⟩
theorem goL_z {ls : List Lg} {n k : Nat} {p : Pst} {mp ms : TM} {su pe : Int} (hls : ∀ l ∈ ls, LgOk n l) (hd : 0 <= p.spot /\ p.spot < n) (hk : k < n) (hP : LeastT ls useP p.spot n mp) (hS : LeastT ls useS p.spot n ms) (hs : mget (lenM ls useS n) p.spot.toNat (k : Int).toNat = su) (hp : mget (lenM ls useP n) p.spot.toNat (k : Int).toNat = pe) :
  (goL mp ms p n)[k]? = some ⟨minE p.lo pe, minE p.hi su⟩ := by
 rw [goL_at mp ms p hk, goE, gmn_far hls hd (by omega) hP, gmn_far hls hd (by omega) hS, hs, hp]
theorem infoPt : (Try.prog.info? 46).map (fun i => (i.zero, i.size, i.bytes)) = some (some (.agg #[.int .i64 0, .int .i64 0, .int .i64 0, .int .i64 0, .int .i64 0]), 5, 40) := by kernel_rfl
theorem okPt : ElemOk Try.prog 40 46 5 40 ptEnc where
 under := Try.underlying40
 info := info5 infoPt rfl
 pos := by omega
 small := by omega
 len := fun _ => rfl
 one := fun x u hu => by
  simp [ptEnc] at hu
  rcases hu with rfl | rfl | rfl | rfl | rfl <;> rfl
theorem rsc_of {w : World} {n : Nat} {ls : List Lg} {x r : Int} {b1 b3 g2 g4 : Nat} {vp vw : Value} {t2 t4 : TypeId} (hp : Own ptEnc 46 5 b1 w vp ls) (hw : Own spEnc 31 2 b3 w vw (ws0 n)) (h2 : Bk w g2 t2 #[.int .i64 x, .int .i64 r, .int .i64 r, .int .i64 0, .int .i64 0, .int .i64 0, .slice none 0 0]) (h4 : Bk w g4 t4 #[.int .i64 (-400), .int .i64 30, .int .i64 30]) :
  RscAt w vp (.slice (some ⟨g2, 0, none⟩) 1 1) vw (.slice (some ⟨g4, 0, none⟩) 1 1) n ls ⟨x, r, r⟩ 30 :=
 ⟨⟨_, _, Own.sl hp (fun _ => rfl), Nat.le_refl _⟩, ⟨_, _, Bk.slT poEnc 7 [⟨x, r, r⟩] 1 1 h2 (fun _ => rfl) rfl rfl (by omega), h2.lt⟩, ⟨_, _, Own.sl hw (fun _ => rfl), Nat.le_refl _⟩, ⟨_, _, Bk.slT chEnc 3 [(30 : Int)] 1 1 h4 (fun _ => rfl) rfl rfl (by omega), h4.lt⟩⟩
theorem len_bd {ls : List Lg} {u : Lg -> Bool} {n i j : Nat} {v : Int} (hls : ∀ l ∈ ls, LgOk n l) (hn : n <= 20) (h : mget (lenM ls u n) i j = v) (hi : i < n) (hj : j < n) : -1 <= v /\ v <= 1048576000000 := by
 rw [← h, legK_len]
 exact (zb_great (legK_zb hls) hn (Nat.le_refl _) hi hj).2
theorem minutes_c (r l : Int) (w : World) (hb : -1000000000000000 <= r + l /\ r + l <= 1000000000000000) :
  Calls Try.prog 10 #[.int .i64 r, .int .i64 l] w (Ret (.int .i64 (minE r l)) w) := by
 have F1 : Bun w [] w := Bun.nil _
 go_enter Try.func10, Try.ntmps10
 by_cases c2 : l < 0
 ·
  have c2H := lhd c2
  have Hx3 := lhd (show ((minE r l : Int)) = 1000000 by unfold minE; rw [if_pos c2H.out])
  go_wp2_with fail
  go_ret
  exact ⟨by rw [Hx3.out] <;> rfl, F1.gb⟩
 have c2H := lhd c2
 have c2a : decide (l < 0) = false := dec_f c2
 have Hx4 := lhd (show ((minE r l : Int)) = r + l by unfold minE; rw [if_neg c2H.out])
 go_wp2_with fail
 go_ret
 exact ⟨by rw [Hx4.out] <;> rfl, F1.gb⟩
theorem rng_paths_walk (t : Nat -> Value) : ((List.range 134).map t).toArray = List.toArray [t 0, t 1, t 2, t 3, t 4, t 5, t 6, t 7, t 8, t 9, t 10, t 11, t 12, t 13, t 14, t 15, t 16, t 17, t 18, t 19, t 20, t 21, t 22, t 23, t 24, t 25, t 26, t 27, t 28, t 29, t 30, t 31, t 32, t 33, t 34, t 35, t 36, t 37, t 38, t 39, t 40, t 41, t 42, t 43, t 44, t 45, t 46, t 47, t 48, t 49, t 50, t 51, t 52, t 53, t 54, t 55, t 56, t 57, t 58, t 59, t 60, t 61, t 62, t 63, t 64, t 65, t 66, t 67, t 68, t 69, t 70, t 71, t 72, t 73, t 74, t 75, t 76, t 77, t 78, t 79, t 80, t 81, t 82, t 83, t 84, t 85, t 86, t 87, t 88, t 89, t 90, t 91, t 92, t 93, t 94, t 95, t 96, t 97, t 98, t 99, t 100, t 101, t 102, t 103, t 104, t 105, t 106, t 107, t 108, t 109, t 110, t 111, t 112, t 113, t 114, t 115, t 116, t 117, t 118, t 119, t 120, t 121, t 122, t 123, t 124, t 125, t 126, t 127, t 128, t 129, t 130, t 131, t 132, t 133] := rfl
set_option maxHeartbeats 64000000 in
theorem paths_walk (vn : Value) (zs : List Int) (w : World) (hn : Sl intEnc 1 0 w.heap.size w vn zs) :
  Calls Try.prog 3 #[vn] w (Ret (.bool true) w) := by
 have F1 : Bun w [] w := Bun.nil _
 obtain ⟨na, nc, rfl⟩ := hn.any
 have hm_nums := hn.len
 unfold maxLen at hm_nums
 replace F1 := F1.sl0 hn (Nat.le_refl _) rfl
 go_enter Try.func3, Try.ntmps3
 go_wp2_with fail
 refine (newSeed_c 0 w.heap.size _ zs _ (F1.at 0 rfl : Sl intEnc 1 0 w.heap.size _ (.slice na zs.length nc) zs)).mono ?_
 rintro e w5 ⟨sb, rfl, hsb, hsbs, hg3⟩
 have hsbl := hsbs.lt
 have hg3s := hg3.size
 (try simp at hg3s)
 replace F1 := F1.add (rseed sb) hg3 (hsbs) (fun g e => by cases e; exact ⟨hsb, hsbs.lt⟩)
 clear hg3
 go_wp2_with fail
 refine (netOfq_c sb 8 _ (F1.at 0 rfl : SeedAt _ sb) (by omega)).mono ?_
 rintro e w9 ⟨n, ls, aN, cN, loN, hiN, rfl, ⟨hxN, hyN⟩, hzN, ⟨hneN, hn1N, hn2N⟩, ⟨hlenN, hlngN⟩, hs8, hg7⟩
 have HNE := lhd hneN
 have HLG : Hid (∀ l ∈ ls, LgOk (n : Int) l) := lhd (netOk hneN).2.2
 have HLNG := lhd hlngN
 clear hneN hlngN
 have hg7s := hg7.size
 (try simp at hg7s)
 replace F1 := F1.seedAdd (rsl lgEnc 5 loN hiN (.slice aN ls.length cN) ls) hg7 hs8 (hzN) (fun g e => ⟨Nat.le_trans hxN e.1, Nat.lt_of_lt_of_le e.2 hyN⟩)
 clear hg7
 go_wp2_with fail
 refine (below_c sb 9 _ (F1.at 1 rfl : SeedAt _ sb) (by omega) (by omega)).mono ?_
 rintro e w15 ⟨r11, rfl, hr12, hs14, hg13⟩
 unfold belowR at hr12
 have hg13s := hg13.size
 (try simp at hg13s)
 replace F1 := F1.seedAt 1 rfl hg13 hs14
 clear hg13
 go_wp2_with fail
 replace F1 := F1.new 27 #[.int .i64 (n : Int), .slice aN ls.length cN] (n := w15.heap.size) (by simp)
 have Fn_ := F1
 (try dsimp only [List.eraseIdx_cons_succ, List.eraseIdx_cons_zero] at Fn_)
 obtain ⟨w20, hx21, F23, hxs22⟩ := Fn_.name
 (try simp at hxs22)
 rw [hx21]
 clear hx21 F1 Fn_
 replace F23 := F23.drew
 refine ru_begin (fun W => W.cell? ⟨w15.heap.size, 0, none⟩ = some (.int .i64 (n : Int))) 15 (by kernel_rfl) ?_ ?_
 · exact F23.q 0 0
 obtain ⟨wd26, hwd_⟩ : ∃ x : World, w20.drew = x := ⟨_, rfl⟩
 rw [hwd_] at F23 ⊢
 have wd26s : w20.heap.size <= wd26.heap.size := by rw [← hwd_]; exact Nat.le_refl _
 clear hwd_
 have hS25 := (F23.q 0 0)
 refine ru_t 0 [] ?_
 refine ru_t 1 [] ?_
 refine ru_t 2 [] ?_
 refine ru_t 3 [] ?_
 refine ru_t 4 [] ?_
 refine ru_t 6 [] ?_
 (try simp only [lpX])
 clear hS25
 refine ru_state 134 (fun t w_ => ∃ (r27 : Int) (yg9 : Nat) (yg12 : Nat) (yg14 : Nat), (0 <= r27 /\ (r27 < (n : Int) ∨ r27 = 0)) /\ t 4 = .pointer (some ⟨w15.heap.size, 0, none⟩) /\ t 5 = .int .i64 r11 /\ t 6 = .pointer (some ⟨yg14, 0, none⟩) /\ w20.heap.size <= w_.heap.size /\ Bun w [rbox yg14 42 #[.int .i64 (n : Int), .slice none 0 0, .slice (some ⟨yg9, 0, none⟩) 1 1, .slice none 0 0, .slice (some ⟨yg12, 0, none⟩) 1 1], rbox yg12 38 #[.int .i64 (-400), .int .i64 30, .int .i64 30], rbox yg9 35 #[.int .i64 r27, .int .i64 r11, .int .i64 r11, .int .i64 0, .int .i64 0, .int .i64 0, .slice none 0 0], rbox w15.heap.size 27 #[.int .i64 (n : Int), .slice aN ls.length cN], rsl lgEnc 5 loN hiN (.slice aN ls.length cN) ls, rseed sb, rsl intEnc 1 0 w.heap.size (.slice na zs.length nc) zs] w_) #[true, true, true, true, true, true, true, true, true, true, true, true, true, true, true, true] 0 ?st29 ?nx29
 case st29 =>
  rintro t w30 ⟨r27, yg9, yg12, yg14, hr28, e4, e5, e6, hsz29, F31⟩
  clear F23
  rw [rng_paths_walk t, e4, e5, e6]
  clear e4 e5 e6
  have hws29 := F31.gb.size
  have yg14l := F31.ltAt 0 rfl yg14 rfl
  have yg14b := yg14l.2 rfl
  have yg12l := F31.ltAt 1 rfl yg12 rfl
  have yg12b := yg12l.2 rfl
  have yg9l := F31.ltAt 2 rfl yg9 rfl
  have yg9b := yg9l.2 rfl
  refine ru_done (by kernel_rfl) ?_
  obtain ⟨w32, hx33, F35, hxs34⟩ := F31.name
  (try simp at hxs34)
  rw [hx33]
  clear hx33 F31
  obtain ⟨qg_36, rfl⟩ : ∃ x_ : Nat, x_ = yg14 := ⟨_, rfl⟩
  obtain ⟨qg_37, rfl⟩ : ∃ x_ : Nat, x_ = yg9 := ⟨_, rfl⟩
  obtain ⟨qg_38, rfl⟩ : ∃ x_ : Nat, x_ = yg12 := ⟨_, rfl⟩
  go_wp2_with fail
  replace F35 := F35.nilrow ptEnc 46 5
  (skip)
  obtain ⟨HI40_, HI400⟩ : ∃ I : RelT, I = (fun t ds wr => ∃ (i : Nat) (vo : Value), t 4 = .pointer (some ⟨w15.heap.size, 0, none⟩) /\ t 5 = .int .i64 r11 /\ t 6 = .pointer (some ⟨qg_36, 0, none⟩) /\ t 7 = .int .i64 (i : Int) /\ i <= ls.length /\ ds = [] /\ w32.heap.size <= wr.heap.size /\ Bun w [rown ptEnc 46 5 w.heap.size vo (ls.take i), rbox qg_36 42 #[.int .i64 (n : Int), vo, .slice (some ⟨qg_37, 0, none⟩) 1 1, .slice none 0 0, .slice (some ⟨qg_38, 0, none⟩) 1 1], rbox qg_38 38 #[.int .i64 (-400), .int .i64 30, .int .i64 30], rbox qg_37 35 #[.int .i64 r27, .int .i64 r11, .int .i64 r11, .int .i64 0, .int .i64 0, .int .i64 0, .slice none 0 0], rbox w15.heap.size 27 #[.int .i64 (n : Int), .slice aN ls.length cN], rsl lgEnc 5 loN hiN (.slice aN ls.length cN) ls, rseed sb, rsl intEnc 1 0 w.heap.size (.slice na zs.length nc) zs] wr) := ⟨_, rfl⟩
  have HI40 := lhd HI400
  clear HI400
  refine wp_loopS 134 rfl HI40_ (fun t wr => ls.length - (intOf (t 7)).toNat) ?atStart1 ?round1
  case round1 =>
   intro t ds wr hHid
   rw [HI40.out] at hHid
   obtain ⟨i, vo, e4, e5, e6, e7, hrel⟩ := hHid
   have e := rgRC7134 t
   (try dsimp only at e)
   rw [e4, e5, e6, e7] at e
   rw [e]
   simp only [e7]
   clear e e4 e5 e6 e7
   obtain ⟨hi_, rfl, hs42, hF41⟩ := hrel
   clear F35
   obtain ⟨w43, rfl⟩ : ∃ x_ : World, x_ = wr := ⟨_, rfl⟩
   obtain ⟨al44, cl45, e_⟩ := (Own.sl (hF41.at 0 rfl : Own ptEnc 46 5 w.heap.size _ vo (ls.take i)) (fun _ => rfl)).any
   rw [show (ls.take i).length = i by simp; omega] at e_
   subst e_
   (skip)
   by_cases c46 : (i : Int) < (ls.length : Int)
   ·
    have c46H := lhd c46
    obtain ⟨x47, o48, e_⟩ := Sl.addr (hF41.at 5 rfl : Sl lgEnc 5 loN hiN _ (.slice aN ls.length cN) ls) (by omega)
    subst e_
    obtain ⟨z, hz49_⟩ : ∃ z_, ls[i]? = some z_ := ⟨_, List.getElem?_eq_getElem (by omega)⟩
    have hz49 := lhd hz49_
    clear hz49_
    have b50 := hF41.bx2 4 rfl
    have ge51 : World.cell? _ ⟨x47, o48 + i * 5, none⟩ = some (.int .i64 z.a) := (Sl.cells (hF41.at 5 rfl) hz49.out 0 _ rfl)
    have gl52 := cell_lt ge51
    have ge53 : World.cell? _ ⟨x47, o48 + i * 5 + 1, none⟩ = some (.int .i64 z.b) := (Sl.cells (hF41.at 5 rfl) hz49.out 1 _ rfl)
    have ge54 : World.cell? _ ⟨x47, o48 + i * 5 + 2, none⟩ = some (.int .i64 z.long) := (Sl.cells (hF41.at 5 rfl) hz49.out 2 _ rfl)
    have ge55 : World.cell? _ ⟨x47, o48 + i * 5 + 3, none⟩ = some (.int .i64 z.op) := (Sl.cells (hF41.at 5 rfl) hz49.out 3 _ rfl)
    have ge56 : World.cell? _ ⟨x47, o48 + i * 5 + 4, none⟩ = some (.int .i64 z.cost) := (Sl.cells (hF41.at 5 rfl) hz49.out 4 _ rfl)
    go_wp2_with fail
    clear b50 ge51 gl52 ge53 ge54 ge55 ge56
    have F57 := hF41.new 44 #[.int .i64 z.a, .int .i64 z.b, .int .i64 z.long, .int .i64 z.op, .int .i64 z.cost] (n := w43.heap.size) (by simp)
    clear hF41
    have Fn_ := F57
    (try dsimp only [List.eraseIdx_cons_succ, List.eraseIdx_cons_zero] at Fn_)
    obtain ⟨w58, hx59, F61, hxs60⟩ := Fn_.name
    (try simp at hxs60)
    rw [hx59]
    clear hx59 F57 Fn_
    replace F61 := F61.drew
    refine ru_begin (fun W => W.cell? ⟨qg_36, 1, none⟩ = some (.slice al44 i cl45) /\ W.cell? ⟨w43.heap.size, 0, none⟩ = some (.int .i64 z.a) /\ W.cell? ⟨w43.heap.size, 1, none⟩ = some (.int .i64 z.b) /\ W.cell? ⟨w43.heap.size, 2, none⟩ = some (.int .i64 z.long) /\ W.cell? ⟨w43.heap.size, 3, none⟩ = some (.int .i64 z.op)) 15 (by kernel_rfl) ?_ ?_
    · exact ⟨F61.q 2 1, F61.q 0 0, F61.q 0 1, F61.q 0 2, F61.q 0 3⟩
    obtain ⟨wd64, hwd_⟩ : ∃ x : World, w58.drew = x := ⟨_, rfl⟩
    rw [hwd_] at F61 ⊢
    have wd64s : w58.heap.size <= wd64.heap.size := by rw [← hwd_]; exact Nat.le_refl _
    clear hwd_
    have hS63 := (And.intro (F61.q 2 1) (And.intro (F61.q 0 0) (And.intro (F61.q 0 1) (And.intro (F61.q 0 2) (F61.q 0 3)))))
    refine ru_t 0 [] ?_
    refine ru_t 1 [] ?_
    refine ru_t 2 [] ?_
    refine ru_t 3 [] ?_
    refine ru_t 4 [] ?_
    refine ru_t 5 [] ?_
    refine ru_t 6 [] ?_
    refine ru_t 7 [] ?_
    refine ru_t 9 [] ?_
    refine ru_t 10 [] ?_
    (try simp only [lpX])
    clear hS63
    refine ru_state 134 (fun t w_ => ∃ (yg12 : Nat) (yg13 : Nat) (yc13 : Nat), t 4 = .pointer (some ⟨w15.heap.size, 0, none⟩) /\ t 5 = .int .i64 r11 /\ t 6 = .pointer (some ⟨qg_36, 0, none⟩) /\ t 7 = .int .i64 (i : Int) /\ w58.heap.size <= w_.heap.size /\ Bun w [rbox qg_36 42 #[.int .i64 (n : Int), .slice (some ⟨yg13, 0, none⟩) (i + 1) yc13, .slice (some ⟨qg_37, 0, none⟩) 1 1, .slice none 0 0, .slice (some ⟨qg_38, 0, none⟩) 1 1], rown ptEnc 46 5 w.heap.size (.slice (some ⟨yg13, 0, none⟩) (i + 1) yc13) (ls.take i ++ [z]), rbox yg12 46 #[.int .i64 z.a, .int .i64 z.b, .int .i64 z.long, .int .i64 z.long, .int .i64 z.op], rbox w43.heap.size 44 #[.int .i64 z.a, .int .i64 z.b, .int .i64 z.long, .int .i64 z.op, .int .i64 z.cost], rbox qg_38 38 #[.int .i64 (-400), .int .i64 30, .int .i64 30], rbox qg_37 35 #[.int .i64 r27, .int .i64 r11, .int .i64 r11, .int .i64 0, .int .i64 0, .int .i64 0, .slice none 0 0], rbox w15.heap.size 27 #[.int .i64 (n : Int), .slice (some ⟨x47, o48, none⟩) ls.length cN], rsl lgEnc 5 loN hiN (.slice (some ⟨x47, o48, none⟩) ls.length cN) ls, rseed sb, rsl intEnc 1 0 w.heap.size (.slice na zs.length nc) zs] w_) #[true, true, true, true, true, true, true, true, true, true, true, true, true, true, true, true] 0 ?st65 ?nx65
    case st65 =>
     rintro t w66 ⟨yg12, yg13, yc13, e4, e5, e6, e7, hsz65, F67⟩
     clear F61
     rw [rng_paths_walk t, e4, e5, e6, e7]
     clear e4 e5 e6 e7
     have hws65 := F67.gb.size
     have yg13l := (F67.ltAt 1 rfl _ rfl).1
     have yg12l := F67.ltAt 2 rfl yg12 rfl
     have yg12b := yg12l.2 rfl
     refine ru_done (by kernel_rfl) ?_
     have Fn_ := ((F67.drop 2 rfl).drop 2 rfl)
     (try dsimp only [List.eraseIdx_cons_succ, List.eraseIdx_cons_zero] at Fn_)
     obtain ⟨w68, hx69, F71, hxs70⟩ := Fn_.name
     (try simp at hxs70)
     rw [hx69]
     clear hx69 F67 Fn_
     go_wp2_with fail
     rw [take_snoc hz49.out] at F71
     go_wp2_with fail
     have F72 : Bun w [rown ptEnc 46 5 w.heap.size (.slice (some ⟨yg13, 0, none⟩) (i + 1) yc13) (ls.take (i + 1)), rbox qg_36 42 #[.int .i64 (n : Int), .slice (some ⟨yg13, 0, none⟩) (i + 1) yc13, .slice (some ⟨qg_37, 0, none⟩) 1 1, .slice none 0 0, .slice (some ⟨qg_38, 0, none⟩) 1 1], rbox qg_38 38 #[.int .i64 (-400), .int .i64 30, .int .i64 30], rbox qg_37 35 #[.int .i64 r27, .int .i64 r11, .int .i64 r11, .int .i64 0, .int .i64 0, .int .i64 0, .slice none 0 0], rbox w15.heap.size 27 #[.int .i64 (n : Int), .slice (some ⟨x47, o48, none⟩) ls.length cN], rsl lgEnc 5 loN hiN (.slice (some ⟨x47, o48, none⟩) ls.length cN) ls, rseed sb, rsl intEnc 1 0 w.heap.size (.slice na zs.length nc) zs] _ := F71.pick [1, 0, 2, 3, 4, 5, 6, 7] (by decide) rfl
     clear F71
     (first | refine ⟨by kernel_rfl, ?_, ?_⟩ | refine ⟨rfl, ?_, ?_⟩ | refine ⟨?_, ?_⟩)
     · rw [HI40.out]; exact ⟨i + 1, _, (by kernel_rfl), (by kernel_rfl), (by kernel_rfl), (by show Value.int .i64 ((i : Int) + 1) = _; simp), (by omega), (by first | rfl | simp), (by first | omega | (simp; done) | (simp; omega)), F72⟩
     · simp [slot, intOf]; omega
    intro hZ65
    refine ru_state 134 (fun t w_ => ∃ (yg12 : Nat) (yg13 : Nat) (yc13 : Nat), t 4 = .pointer (some ⟨w15.heap.size, 0, none⟩) /\ t 5 = .int .i64 r11 /\ t 6 = .pointer (some ⟨qg_36, 0, none⟩) /\ t 7 = .int .i64 (i : Int) /\ t 62 = .slice (some ⟨yg13, 0, none⟩) (i + 1) yc13 /\ t 63 = .pointer (some ⟨qg_36, 1, none⟩) /\ w58.heap.size <= w_.heap.size /\ Bun w [rown ptEnc 46 5 w.heap.size (.slice (some ⟨yg13, 0, none⟩) (i + 1) yc13) (ls.take i ++ [z]), rbox yg12 46 #[.int .i64 z.a, .int .i64 z.b, .int .i64 z.long, .int .i64 z.long, .int .i64 z.op], rbox w43.heap.size 44 #[.int .i64 z.a, .int .i64 z.b, .int .i64 z.long, .int .i64 z.op, .int .i64 z.cost], rbox qg_36 42 #[.int .i64 (n : Int), .slice al44 i cl45, .slice (some ⟨qg_37, 0, none⟩) 1 1, .slice none 0 0, .slice (some ⟨qg_38, 0, none⟩) 1 1], rbox qg_38 38 #[.int .i64 (-400), .int .i64 30, .int .i64 30], rbox qg_37 35 #[.int .i64 r27, .int .i64 r11, .int .i64 r11, .int .i64 0, .int .i64 0, .int .i64 0, .slice none 0 0], rbox w15.heap.size 27 #[.int .i64 (n : Int), .slice (some ⟨x47, o48, none⟩) ls.length cN], rsl lgEnc 5 loN hiN (.slice (some ⟨x47, o48, none⟩) ls.length cN) ls, rseed sb, rsl intEnc 1 0 w.heap.size (.slice na zs.length nc) zs] w_) #[true, true, true, true, true, true, true, true, true, true, true, true, true, true, true, false] 1 ?st73 ?nx73
    case st73 =>
     rintro t w74 ⟨yg12, yg13, yc13, e4, e5, e6, e7, e62, e63, hsz73, F75⟩
     clear F61
     rw [rng_paths_walk t, e4, e5, e6, e7, e62, e63]
     clear e4 e5 e6 e7 e62 e63
     have hws73 := F75.gb.size
     have yg13l := (F75.ltAt 0 rfl _ rfl).1
     have yg12l := F75.ltAt 1 rfl yg12 rfl
     have yg12b := yg12l.2 rfl
     refine ru_one 15 rfl (by kernel_rfl) (fun K hK => ?_)
     have kb_ := F75.bx5 3 rfl
     go_simp
     clear kb_
     have F76 := ((F75.front 3 rfl rfl).set 1 (.slice (some ⟨yg13, 0, none⟩) (i + 1) yc13)).nf #[.int .i64 (n : Int), .slice (some ⟨yg13, 0, none⟩) (i + 1) yc13, .slice (some ⟨qg_37, 0, none⟩) 1 1, .slice none 0 0, .slice (some ⟨qg_38, 0, none⟩) 1 1] rfl
     clear F75
     refine ru_back_late hK (by kernel_rfl) ?_
     exact hZ65.out _ _ _ (by kernel_rfl) (by kernel_rfl) rfl ⟨yg12, yg13, yc13, (by kernel_rfl), (by kernel_rfl), (by kernel_rfl), (by kernel_rfl), (by first | omega | (simp; done) | (simp; omega)), F76⟩
    intro hZ73
    refine ru_state 134 (fun t w_ => ∃ (yg12 : Nat), t 4 = .pointer (some ⟨w15.heap.size, 0, none⟩) /\ t 5 = .int .i64 r11 /\ t 6 = .pointer (some ⟨qg_36, 0, none⟩) /\ t 7 = .int .i64 (i : Int) /\ t 50 = .slice al44 i cl45 /\ t 61 = .slice (some ⟨yg12, 0, none⟩) 1 1 /\ w58.heap.size <= w_.heap.size /\ Bun w [rbox yg12 46 #[.int .i64 z.a, .int .i64 z.b, .int .i64 z.long, .int .i64 z.long, .int .i64 z.op], rbox w43.heap.size 44 #[.int .i64 z.a, .int .i64 z.b, .int .i64 z.long, .int .i64 z.op, .int .i64 z.cost], rown ptEnc 46 5 w.heap.size (.slice al44 i cl45) (ls.take i), rbox qg_36 42 #[.int .i64 (n : Int), .slice al44 i cl45, .slice (some ⟨qg_37, 0, none⟩) 1 1, .slice none 0 0, .slice (some ⟨qg_38, 0, none⟩) 1 1], rbox qg_38 38 #[.int .i64 (-400), .int .i64 30, .int .i64 30], rbox qg_37 35 #[.int .i64 r27, .int .i64 r11, .int .i64 r11, .int .i64 0, .int .i64 0, .int .i64 0, .slice none 0 0], rbox w15.heap.size 27 #[.int .i64 (n : Int), .slice (some ⟨x47, o48, none⟩) ls.length cN], rsl lgEnc 5 loN hiN (.slice (some ⟨x47, o48, none⟩) ls.length cN) ls, rseed sb, rsl intEnc 1 0 w.heap.size (.slice na zs.length nc) zs] w_) #[true, true, true, true, true, true, true, true, true, true, true, true, true, false, false, false] 3 ?st77 ?nx77
    case st77 =>
     rintro t w78 ⟨yg12, e4, e5, e6, e7, e50, e61, hsz77, F79⟩
     clear F61
     rw [rng_paths_walk t, e4, e5, e6, e7, e50, e61]
     clear e4 e5 e6 e7 e50 e61
     have hws77 := F79.gb.size
     have yg12l := F79.ltAt 0 rfl yg12 rfl
     have yg12b := yg12l.2 rfl
     refine ru_one 13 rfl (by kernel_rfl) (fun K hK => ?_)
     refine step_app _ okPt rfl _ _ rfl w.heap.size (.slice al44 i cl45) (ls.take i) [z] rfl (by exact (F79.at 2 rfl : Own ptEnc 46 5 w.heap.size _ (.slice al44 i cl45) (ls.take i))) ⟨_, 0, none⟩ 1 1 rfl rfl (by decide) (news_of (F79.at 0 rfl : Bk _ yg12 46 #[.int .i64 z.a, .int .i64 z.b, .int .i64 z.long, .int .i64 z.long, .int .i64 z.op])) (i + 1) (by simp; omega) (by omega) (by first | omega | (simp; omega)) _ rfl ?_
     intro g80 cap81 w82 hp83
     have hp83s := hp83.gb.size
     (try simp at hp83s)
     have F84 := (F79.front 2 rfl rfl).app hp83 (Nat.le_refl _)
     clear F79
     refine ru_back hK (by exact ⟨F84.q 3 1, F84.q 2 0, F84.q 2 1, F84.q 2 2, F84.q 2 3⟩) (fun _ => ?_)
     clear hK K
     (try simp only [lpX])
     refine ru_p 14 ?_
     (try simp only [lpX])
     exact hZ73.out _ _ _ (by kernel_rfl) (by kernel_rfl) rfl ⟨yg12, g80, cap81, by (iterate 6 refine ⟨by kernel_rfl, ?_⟩); exact ⟨(by first | omega | (simp; done) | (simp; omega)), F84⟩⟩
    intro hZ77
    refine ru_state 134 (fun t w_ => t 4 = .pointer (some ⟨w15.heap.size, 0, none⟩) /\ t 5 = .int .i64 r11 /\ t 6 = .pointer (some ⟨qg_36, 0, none⟩) /\ t 7 = .int .i64 (i : Int) /\ t 50 = .slice al44 i cl45 /\ t 60 = .agg #[.int .i64 z.a, .int .i64 z.b, .int .i64 z.long, .int .i64 z.long, .int .i64 z.op] /\ w58.heap.size <= w_.heap.size /\ Bun w [rbox w43.heap.size 44 #[.int .i64 z.a, .int .i64 z.b, .int .i64 z.long, .int .i64 z.op, .int .i64 z.cost], rown ptEnc 46 5 w.heap.size (.slice al44 i cl45) (ls.take i), rbox qg_36 42 #[.int .i64 (n : Int), .slice al44 i cl45, .slice (some ⟨qg_37, 0, none⟩) 1 1, .slice none 0 0, .slice (some ⟨qg_38, 0, none⟩) 1 1], rbox qg_38 38 #[.int .i64 (-400), .int .i64 30, .int .i64 30], rbox qg_37 35 #[.int .i64 r27, .int .i64 r11, .int .i64 r11, .int .i64 0, .int .i64 0, .int .i64 0, .slice none 0 0], rbox w15.heap.size 27 #[.int .i64 (n : Int), .slice (some ⟨x47, o48, none⟩) ls.length cN], rsl lgEnc 5 loN hiN (.slice (some ⟨x47, o48, none⟩) ls.length cN) ls, rseed sb, rsl intEnc 1 0 w.heap.size (.slice na zs.length nc) zs] w_) #[true, true, true, true, true, true, true, true, true, true, true, true, false, false, false, false] 4 ?st85 ?nx85
    case st85 =>
     rintro t w86 ⟨e4, e5, e6, e7, e50, e60, hsz85, F87⟩
     clear F61
     rw [rng_paths_walk t, e4, e5, e6, e7, e50, e60]
     clear e4 e5 e6 e7 e50 e60
     have hws85 := F87.gb.size
     refine ru_one 12 rfl (by kernel_rfl) (fun K hK => ?_)
     go_simp
     replace F87 := F87.new 46 #[.int .i64 z.a, .int .i64 z.b, .int .i64 z.long, .int .i64 z.long, .int .i64 z.op] (n := w86.heap.size) (by simp)
     refine ru_back hK (by exact ⟨F87.q 3 1, F87.q 1 0, F87.q 1 1, F87.q 1 2, F87.q 1 3⟩) (fun _ => ?_)
     exact hZ77.out _ _ _ (by kernel_rfl) (by kernel_rfl) rfl ⟨w86.heap.size, by (iterate 6 refine ⟨by kernel_rfl, ?_⟩); exact ⟨(by first | omega | (simp; done) | (simp; omega)), F87⟩⟩
    intro hZ85
    refine ru_one 8 rfl (by kernel_rfl) (fun K hK => ?_)
    go_simp
    refine (tone_c z.long _).mono ?_
    rintro e w91 ⟨rfl, hg89⟩
    have hg89s := hg89.size
    (try simp at hg89s)
    replace F61 := F61.gn hg89
    refine ru_back hK (by exact ⟨F61.q 2 1, F61.q 0 0, F61.q 0 1, F61.q 0 2, F61.q 0 3⟩) (fun _ => ?_)
    clear hK K
    (try simp only [lpX])
    refine ru_p 11 ?_
    (try simp only [lpX])
    exact hZ85.out _ _ _ (by kernel_rfl) (by kernel_rfl) rfl (by (iterate 6 refine ⟨by kernel_rfl, ?_⟩); exact ⟨(by first | omega | (simp; done) | (simp; omega)), F61⟩)
   have c46H := lhd c46
   have c46a : decide ((i : Int) < (ls.length : Int)) = false := dec_f c46
   have htk_ : ls.take i = ls := List.take_of_length_le (by omega)
   rw [htk_] at hF41
   clear htk_
   have b93 := hF41.bx2 4 rfl
   go_wp2_with fail
   clear b93
   go_wp2_with fail
   have F94 := hF41.nilrow spEnc 31 2
   clear hF41
   (skip)
   obtain ⟨HI95_, HI950⟩ : ∃ I : RelT, I = (fun t ds wr => ∃ (j : Nat) (vw_ : Value), t 4 = .pointer (some ⟨w15.heap.size, 0, none⟩) /\ t 5 = .int .i64 r11 /\ t 6 = .pointer (some ⟨qg_36, 0, none⟩) /\ t 9 = .int .i64 (j : Int) /\ j <= n /\ ds = [] /\ w43.heap.size <= wr.heap.size /\ Bun w [rown spEnc 31 2 w.heap.size vw_ (ws0 j), rown ptEnc 46 5 w.heap.size (.slice al44 i cl45) ls, rbox qg_36 42 #[.int .i64 (n : Int), .slice al44 i cl45, .slice (some ⟨qg_37, 0, none⟩) 1 1, vw_, .slice (some ⟨qg_38, 0, none⟩) 1 1], rbox qg_38 38 #[.int .i64 (-400), .int .i64 30, .int .i64 30], rbox qg_37 35 #[.int .i64 r27, .int .i64 r11, .int .i64 r11, .int .i64 0, .int .i64 0, .int .i64 0, .slice none 0 0], rbox w15.heap.size 27 #[.int .i64 (n : Int), .slice aN ls.length cN], rsl lgEnc 5 loN hiN (.slice aN ls.length cN) ls, rseed sb, rsl intEnc 1 0 w.heap.size (.slice na zs.length nc) zs] wr) := ⟨_, rfl⟩
   have HI95 := lhd HI950
   clear HI950
   refine wp_loopS 134 rfl HI95_ (fun t wr => n - (intOf (t 9)).toNat) ?atStart2 ?round2
   case round2 =>
    intro t ds wr hHid
    rw [HI95.out] at hHid
    obtain ⟨j, vw_, e4, e5, e6, e9, hrel⟩ := hHid
    have e := rgRC7134 t
    (try dsimp only at e)
    rw [e4, e5, e6, e9] at e
    rw [e]
    simp only [e9]
    clear e e4 e5 e6 e9
    obtain ⟨hj_, rfl, hs97, hF96⟩ := hrel
    clear F94
    obtain ⟨w98, rfl⟩ : ∃ x_ : World, x_ = wr := ⟨_, rfl⟩
    obtain ⟨al99, cl100, e_⟩ := (Own.sl (hF96.at 0 rfl : Own spEnc 31 2 w.heap.size _ vw_ (ws0 j)) (fun _ => rfl)).any
    rw [show (ws0 j).length = j by simp] at e_
    subst e_
    (skip)
    by_cases c101 : (j : Int) < (n : Int)
    ·
     have c101H := lhd c101
     have b102 := hF96.bx2 5 rfl
     go_wp2_with fail
     clear b102
     have F103 := hF96.drew
     clear hF96
     refine ru_begin (fun W => W.cell? ⟨qg_36, 3, none⟩ = some (.slice al99 j cl100)) 6 (by kernel_rfl) ?_ ?_
     · exact F103.q 2 3
     obtain ⟨wd105, hwd_⟩ : ∃ x : World, w98.drew = x := ⟨_, rfl⟩
     rw [hwd_] at F103 ⊢
     have wd105s : w98.heap.size <= wd105.heap.size := by rw [← hwd_]; exact Nat.le_refl _
     clear hwd_
     have hS104 := (F103.q 2 3)
     refine ru_t 0 [] ?_
     refine ru_t 1 [] ?_
     (try simp only [lpX])
     clear hS104
     refine ru_state 134 (fun t w_ => ∃ (yg3 : Nat) (yg4 : Nat) (yc4 : Nat), t 4 = .pointer (some ⟨w15.heap.size, 0, none⟩) /\ t 5 = .int .i64 r11 /\ t 6 = .pointer (some ⟨qg_36, 0, none⟩) /\ t 9 = .int .i64 (j : Int) /\ w98.heap.size <= w_.heap.size /\ Bun w [rbox qg_36 42 #[.int .i64 (n : Int), .slice al44 i cl45, .slice (some ⟨qg_37, 0, none⟩) 1 1, .slice (some ⟨yg4, 0, none⟩) (j + 1) yc4, .slice (some ⟨qg_38, 0, none⟩) 1 1], rown spEnc 31 2 w.heap.size (.slice (some ⟨yg4, 0, none⟩) (j + 1) yc4) (ws0 j ++ [(⟨0, 0⟩ : Sp)]), rbox yg3 31 #[.int .i64 0, .int .i64 0], rown ptEnc 46 5 w.heap.size (.slice al44 i cl45) ls, rbox qg_38 38 #[.int .i64 (-400), .int .i64 30, .int .i64 30], rbox qg_37 35 #[.int .i64 r27, .int .i64 r11, .int .i64 r11, .int .i64 0, .int .i64 0, .int .i64 0, .slice none 0 0], rbox w15.heap.size 27 #[.int .i64 (n : Int), .slice aN ls.length cN], rsl lgEnc 5 loN hiN (.slice aN ls.length cN) ls, rseed sb, rsl intEnc 1 0 w.heap.size (.slice na zs.length nc) zs] w_) #[true, true, true, true, true, true, true] 0 ?st106 ?nx106
     case st106 =>
      rintro t w107 ⟨yg3, yg4, yc4, e4, e5, e6, e9, hsz106, F108⟩
      clear F103
      rw [rng_paths_walk t, e4, e5, e6, e9]
      clear e4 e5 e6 e9
      have hws106 := F108.gb.size
      have yg4l := (F108.ltAt 1 rfl _ rfl).1
      have yg3l := F108.ltAt 2 rfl yg3 rfl
      have yg3b := yg3l.2 rfl
      refine ru_done (by kernel_rfl) ?_
      have Fn_ := (F108.drop 2 rfl)
      (try dsimp only [List.eraseIdx_cons_succ, List.eraseIdx_cons_zero] at Fn_)
      obtain ⟨w109, hx110, F112, hxs111⟩ := Fn_.name
      (try simp at hxs111)
      rw [hx110]
      clear hx110 F108 Fn_
      go_wp2_with fail
      rw [show ws0 j ++ [⟨0, 0⟩] = ws0 (j + 1) from List.replicate_succ'.symm] at F112
      go_wp2_with fail
      have F113 : Bun w [rown spEnc 31 2 w.heap.size (.slice (some ⟨yg4, 0, none⟩) (j + 1) yc4) (ws0 (j + 1)), rown ptEnc 46 5 w.heap.size (.slice al44 i cl45) ls, rbox qg_36 42 #[.int .i64 (n : Int), .slice al44 i cl45, .slice (some ⟨qg_37, 0, none⟩) 1 1, .slice (some ⟨yg4, 0, none⟩) (j + 1) yc4, .slice (some ⟨qg_38, 0, none⟩) 1 1], rbox qg_38 38 #[.int .i64 (-400), .int .i64 30, .int .i64 30], rbox qg_37 35 #[.int .i64 r27, .int .i64 r11, .int .i64 r11, .int .i64 0, .int .i64 0, .int .i64 0, .slice none 0 0], rbox w15.heap.size 27 #[.int .i64 (n : Int), .slice aN ls.length cN], rsl lgEnc 5 loN hiN (.slice aN ls.length cN) ls, rseed sb, rsl intEnc 1 0 w.heap.size (.slice na zs.length nc) zs] _ := F112.pick [1, 2, 0, 3, 4, 5, 6, 7, 8] (by decide) rfl
      clear F112
      (first | refine ⟨by kernel_rfl, ?_, ?_⟩ | refine ⟨rfl, ?_, ?_⟩ | refine ⟨?_, ?_⟩)
      · rw [HI95.out]; exact ⟨j + 1, _, (by kernel_rfl), (by kernel_rfl), (by kernel_rfl), (by show Value.int .i64 ((j : Int) + 1) = _; simp), (by omega), (by first | rfl | simp), (by first | omega | (simp; done) | (simp; omega)), F113⟩
      · simp [slot, intOf]; omega
     intro hZ106
     refine ru_state 134 (fun t w_ => ∃ (yg3 : Nat) (yg4 : Nat) (yc4 : Nat), t 4 = .pointer (some ⟨w15.heap.size, 0, none⟩) /\ t 5 = .int .i64 r11 /\ t 6 = .pointer (some ⟨qg_36, 0, none⟩) /\ t 9 = .int .i64 (j : Int) /\ t 74 = .slice (some ⟨yg4, 0, none⟩) (j + 1) yc4 /\ t 75 = .pointer (some ⟨qg_36, 3, none⟩) /\ w98.heap.size <= w_.heap.size /\ Bun w [rown spEnc 31 2 w.heap.size (.slice (some ⟨yg4, 0, none⟩) (j + 1) yc4) (ws0 j ++ [(⟨0, 0⟩ : Sp)]), rbox yg3 31 #[.int .i64 0, .int .i64 0], rown ptEnc 46 5 w.heap.size (.slice al44 i cl45) ls, rbox qg_36 42 #[.int .i64 (n : Int), .slice al44 i cl45, .slice (some ⟨qg_37, 0, none⟩) 1 1, .slice al99 j cl100, .slice (some ⟨qg_38, 0, none⟩) 1 1], rbox qg_38 38 #[.int .i64 (-400), .int .i64 30, .int .i64 30], rbox qg_37 35 #[.int .i64 r27, .int .i64 r11, .int .i64 r11, .int .i64 0, .int .i64 0, .int .i64 0, .slice none 0 0], rbox w15.heap.size 27 #[.int .i64 (n : Int), .slice aN ls.length cN], rsl lgEnc 5 loN hiN (.slice aN ls.length cN) ls, rseed sb, rsl intEnc 1 0 w.heap.size (.slice na zs.length nc) zs] w_) #[true, true, true, true, true, true, false] 1 ?st114 ?nx114
     case st114 =>
      rintro t w115 ⟨yg3, yg4, yc4, e4, e5, e6, e9, e74, e75, hsz114, F116⟩
      clear F103
      rw [rng_paths_walk t, e4, e5, e6, e9, e74, e75]
      clear e4 e5 e6 e9 e74 e75
      have hws114 := F116.gb.size
      have yg4l := (F116.ltAt 0 rfl _ rfl).1
      have yg3l := F116.ltAt 1 rfl yg3 rfl
      have yg3b := yg3l.2 rfl
      refine ru_one 6 rfl (by kernel_rfl) (fun K hK => ?_)
      have kb_ := F116.bx5 3 rfl
      go_simp
      clear kb_
      have F117 := ((F116.front 3 rfl rfl).set 3 (.slice (some ⟨yg4, 0, none⟩) (j + 1) yc4)).nf #[.int .i64 (n : Int), .slice al44 i cl45, .slice (some ⟨qg_37, 0, none⟩) 1 1, .slice (some ⟨yg4, 0, none⟩) (j + 1) yc4, .slice (some ⟨qg_38, 0, none⟩) 1 1] rfl
      clear F116
      refine ru_back_late hK (by kernel_rfl) ?_
      exact hZ106.out _ _ _ (by kernel_rfl) (by kernel_rfl) rfl ⟨yg3, yg4, yc4, (by kernel_rfl), (by kernel_rfl), (by kernel_rfl), (by kernel_rfl), (by first | omega | (simp; done) | (simp; omega)), F117⟩
     intro hZ114
     refine ru_state 134 (fun t w_ => ∃ (yg3 : Nat), t 4 = .pointer (some ⟨w15.heap.size, 0, none⟩) /\ t 5 = .int .i64 r11 /\ t 6 = .pointer (some ⟨qg_36, 0, none⟩) /\ t 9 = .int .i64 (j : Int) /\ t 71 = .slice al99 j cl100 /\ t 73 = .slice (some ⟨yg3, 0, none⟩) 1 1 /\ w98.heap.size <= w_.heap.size /\ Bun w [rbox yg3 31 #[.int .i64 0, .int .i64 0], rown spEnc 31 2 w.heap.size (.slice al99 j cl100) (ws0 j), rown ptEnc 46 5 w.heap.size (.slice al44 i cl45) ls, rbox qg_36 42 #[.int .i64 (n : Int), .slice al44 i cl45, .slice (some ⟨qg_37, 0, none⟩) 1 1, .slice al99 j cl100, .slice (some ⟨qg_38, 0, none⟩) 1 1], rbox qg_38 38 #[.int .i64 (-400), .int .i64 30, .int .i64 30], rbox qg_37 35 #[.int .i64 r27, .int .i64 r11, .int .i64 r11, .int .i64 0, .int .i64 0, .int .i64 0, .slice none 0 0], rbox w15.heap.size 27 #[.int .i64 (n : Int), .slice aN ls.length cN], rsl lgEnc 5 loN hiN (.slice aN ls.length cN) ls, rseed sb, rsl intEnc 1 0 w.heap.size (.slice na zs.length nc) zs] w_) #[true, true, true, true, false, false, false] 3 ?st118 ?nx118
     case st118 =>
      rintro t w119 ⟨yg3, e4, e5, e6, e9, e71, e73, hsz118, F120⟩
      clear F103
      rw [rng_paths_walk t, e4, e5, e6, e9, e71, e73]
      clear e4 e5 e6 e9 e71 e73
      have hws118 := F120.gb.size
      have yg3l := F120.ltAt 0 rfl yg3 rfl
      have yg3b := yg3l.2 rfl
      refine ru_one 4 rfl (by kernel_rfl) (fun K hK => ?_)
      refine step_app _ okSp rfl _ _ rfl w.heap.size (.slice al99 j cl100) (ws0 j) [(⟨0, 0⟩ : Sp)] rfl (by exact (F120.at 1 rfl : Own spEnc 31 2 w.heap.size _ (.slice al99 j cl100) (ws0 j))) ⟨_, 0, none⟩ 1 1 rfl rfl (by decide) (news_of (F120.at 0 rfl : Bk _ yg3 31 #[.int .i64 0, .int .i64 0])) (j + 1) (by simp) (by omega) (by first | omega | (simp; omega)) _ rfl ?_
      intro g121 cap122 w123 hp124
      have hp124s := hp124.gb.size
      (try simp at hp124s)
      have F125 := (F120.front 1 rfl rfl).app hp124 (Nat.le_refl _)
      clear F120
      refine ru_back hK (by exact F125.q 3 3) (fun _ => ?_)
      clear hK K
      (try simp only [lpX])
      refine ru_p 5 ?_
      (try simp only [lpX])
      exact hZ114.out _ _ _ (by kernel_rfl) (by kernel_rfl) rfl ⟨yg3, g121, cap122, by (iterate 6 refine ⟨by kernel_rfl, ?_⟩); exact ⟨(by first | omega | (simp; done) | (simp; omega)), F125⟩⟩
     intro hZ118
     refine ru_state 134 (fun t w_ => t 4 = .pointer (some ⟨w15.heap.size, 0, none⟩) /\ t 5 = .int .i64 r11 /\ t 6 = .pointer (some ⟨qg_36, 0, none⟩) /\ t 9 = .int .i64 (j : Int) /\ t 71 = .slice al99 j cl100 /\ t 72 = .agg #[.int .i64 0, .int .i64 0] /\ w98.heap.size <= w_.heap.size /\ Bun w [rown spEnc 31 2 w.heap.size (.slice al99 j cl100) (ws0 j), rown ptEnc 46 5 w.heap.size (.slice al44 i cl45) ls, rbox qg_36 42 #[.int .i64 (n : Int), .slice al44 i cl45, .slice (some ⟨qg_37, 0, none⟩) 1 1, .slice al99 j cl100, .slice (some ⟨qg_38, 0, none⟩) 1 1], rbox qg_38 38 #[.int .i64 (-400), .int .i64 30, .int .i64 30], rbox qg_37 35 #[.int .i64 r27, .int .i64 r11, .int .i64 r11, .int .i64 0, .int .i64 0, .int .i64 0, .slice none 0 0], rbox w15.heap.size 27 #[.int .i64 (n : Int), .slice aN ls.length cN], rsl lgEnc 5 loN hiN (.slice aN ls.length cN) ls, rseed sb, rsl intEnc 1 0 w.heap.size (.slice na zs.length nc) zs] w_) #[true, true, true, false, false, false, false] 4 ?st126 ?nx126
     case st126 =>
      rintro t w127 ⟨e4, e5, e6, e9, e71, e72, hsz126, F128⟩
      clear F103
      rw [rng_paths_walk t, e4, e5, e6, e9, e71, e72]
      clear e4 e5 e6 e9 e71 e72
      have hws126 := F128.gb.size
      refine ru_one 3 rfl (by kernel_rfl) (fun K hK => ?_)
      go_simp
      replace F128 := F128.new 31 #[.int .i64 0, .int .i64 0] (n := w127.heap.size) (by simp)
      refine ru_back hK (by exact F128.q 3 3) (fun _ => ?_)
      exact hZ118.out _ _ _ (by kernel_rfl) (by kernel_rfl) rfl ⟨w127.heap.size, by (iterate 6 refine ⟨by kernel_rfl, ?_⟩); exact ⟨(by first | omega | (simp; done) | (simp; omega)), F128⟩⟩
     intro hZ126
     refine ru_one 2 rfl (by kernel_rfl) (fun K hK => ?_)
     go_simp
     refine (tone_c 0 _).mono ?_
     rintro e w132 ⟨rfl, hg130⟩
     have hg130s := hg130.size
     (try simp at hg130s)
     replace F103 := F103.gn hg130
     refine ru_back hK (by exact F103.q 2 3) (fun _ => ?_)
     exact hZ126.out _ _ _ (by kernel_rfl) (by kernel_rfl) rfl (by (iterate 6 refine ⟨by kernel_rfl, ?_⟩); exact ⟨(by first | omega | (simp; done) | (simp; omega)), F103⟩)
    have c101H := lhd c101
    have c101a : decide ((j : Int) < (n : Int)) = false := dec_f c101
    obtain rfl : n = j := by omega
    have hspb : 0 <= r27 /\ r27 < (n : Int) := by omega
    obtain ⟨mp, hmp_, hlp_⟩ := dsT_time0 (u := useP) HLG.out hspb
    obtain ⟨ms, hms_, hls_⟩ := dsT_time0 (u := useS) HLG.out hspb
    have HLP := lhd hlp_
    have HLS := lhd hls_
    have HMP := lhd hmp_
    have HMS := lhd hms_
    clear hmp_ hms_ hlp_ hls_
    have b134 := hF96.bx5 2 rfl
    have b135 := hF96.bx2 5 rfl
    go_wp2_with fail
    clear b134 b135
    refine (rgo_c _ _ _ _ n ls ⟨r27, r11, r11⟩ 30 (n + 1) mp ms _ (rsc_of (hF96.at 1 rfl : Own ptEnc 46 5 w.heap.size _ (.slice al44 i cl45) ls) (hF96.at 0 rfl : Own spEnc 31 2 w.heap.size _ (.slice al99 n cl100) (ws0 n)) (hF96.at 4 rfl : Bk _ qg_37 35 #[.int .i64 r27, .int .i64 r11, .int .i64 r11, .int .i64 0, .int .i64 0, .int .i64 0, .slice none 0 0]) (hF96.at 3 rfl : Bk _ qg_38 38 #[.int .i64 (-400), .int .i64 30, .int .i64 30])) ⟨⟨by omega, by omega⟩, hlenN, HLG.out, HLNG.out, hspb, ⟨by simp only; omega, Int.le_refl _, by simp only; omega⟩, ⟨by omega, by omega⟩⟩ (by omega) (by rw [dsS, if_pos rfl]; exact HMP.out) (by rw [dsS, if_pos rfl]; exact HMS.out)).mono ?_
    rintro e w138 ⟨ags, cgs, logs, higs, rfl, ⟨hxgs, hygs⟩, hzgs, hg136⟩
    have hg136s := hg136.size
    (try simp at hg136s)
    have F139 := hF96.add (rsl spEnc 2 logs higs (.slice ags n cgs) (goL mp ms ⟨r27, r11, r11⟩ n)) hg136 (hzgs) (fun g e => ⟨Nat.le_trans hxgs e.1, Nat.lt_of_lt_of_le e.2 hygs⟩)
    clear hF96
    clear hg136
    have b140 := F139.bx2 6 rfl
    go_wp2_with fail
    clear b140
    obtain ⟨HI141_, HI1410⟩ : ∃ I : RelT, I = (fun t ds wr => ∃ (k : Nat), t 4 = .pointer (some ⟨w15.heap.size, 0, none⟩) /\ t 5 = .int .i64 r11 /\ t 6 = .pointer (some ⟨qg_36, 0, none⟩) /\ t 10 = .slice ags n cgs /\ t 12 = .int .i64 (k : Int) /\ k <= n /\ ds = [] /\ w138.heap.size <= wr.heap.size /\ Bun w [rsl spEnc 2 logs higs (.slice ags n cgs) (goL mp ms ⟨r27, r11, r11⟩ n), rown spEnc 31 2 w.heap.size (.slice al99 n cl100) (ws0 n), rown ptEnc 46 5 w.heap.size (.slice al44 i cl45) ls, rbox qg_36 42 #[.int .i64 (n : Int), .slice al44 i cl45, .slice (some ⟨qg_37, 0, none⟩) 1 1, .slice al99 n cl100, .slice (some ⟨qg_38, 0, none⟩) 1 1], rbox qg_38 38 #[.int .i64 (-400), .int .i64 30, .int .i64 30], rbox qg_37 35 #[.int .i64 r27, .int .i64 r11, .int .i64 r11, .int .i64 0, .int .i64 0, .int .i64 0, .slice none 0 0], rbox w15.heap.size 27 #[.int .i64 (n : Int), .slice aN ls.length cN], rsl lgEnc 5 loN hiN (.slice aN ls.length cN) ls, rseed sb, rsl intEnc 1 0 w.heap.size (.slice na zs.length nc) zs] wr) := ⟨_, rfl⟩
    have HI141 := lhd HI1410
    clear HI1410
    refine wp_loopS 134 rfl HI141_ (fun t wr => n - (intOf (t 12)).toNat) ?atStart3 ?round3
    case round3 =>
     intro t ds wr hHid
     rw [HI141.out] at hHid
     obtain ⟨k, e4, e5, e6, e10, e12, hrel⟩ := hHid
     have e := rgRC7134 t
     (try dsimp only at e)
     rw [e4, e5, e6, e10, e12] at e
     rw [e]
     simp only [e12]
     clear e e4 e5 e6 e10 e12
     obtain ⟨hk_, rfl, hs143, hF142⟩ := hrel
     clear F139
     obtain ⟨w144, rfl⟩ : ∃ x_ : World, x_ = wr := ⟨_, rfl⟩
     by_cases c145 : (k : Int) < (n : Int)
     ·
      have c145H := lhd c145
      obtain ⟨su, hsu_⟩ : ∃ x_, mget (lenM ls useS n) r27.toNat (k : Int).toNat = x_ := ⟨_, rfl⟩
      obtain ⟨pe, hpe_⟩ : ∃ x_, mget (lenM ls useP n) r27.toNat (k : Int).toNat = x_ := ⟨_, rfl⟩
      have HSU := lhd hsu_
      have HPE := lhd hpe_
      clear hsu_ hpe_
      have hpb := len_bd HLG.out (by omega) HPE.out (by omega) (by omega)
      have hsb_ := len_bd HLG.out (by omega) HSU.out (by omega) (by omega)
      obtain ⟨x146, o147, e_⟩ := Sl.addr (hF142.at 0 rfl : Sl spEnc 2 logs higs _ (.slice ags n cgs) (goL mp ms ⟨r27, r11, r11⟩ n)) (by rw [goL_len]; omega)
      subst e_
      have hz148 : Hid ((goL mp ms ⟨r27, r11, r11⟩ n)[k]? = some (⟨minE r11 pe, minE r11 su⟩ : Sp)) := lhd (goL_z (p := ⟨r27, r11, r11⟩) HLG.out (by simp only; omega) (by omega) HLP.out HLS.out HSU.out HPE.out)
      have b149 := hF142.bx2 6 rfl
      go_wp2_with fail
      clear b149
      have F150 := hF142.drew
      clear hF142
      refine ru_begin (fun W => W.cell? ⟨w15.heap.size, 0, none⟩ = some (.int .i64 (n : Int)) /\ W.cell? ⟨w15.heap.size, 1, none⟩ = some (.slice aN ls.length cN) /\ W.cell? ⟨qg_36, 2, none⟩ = some (.slice (some ⟨qg_37, 0, none⟩) 1 1) /\ W.cell? ⟨qg_37, 0, none⟩ = some (.int .i64 r27)) 16 (by kernel_rfl) ?_ ?_
      · exact ⟨F150.q 6 0, F150.q 6 1, F150.q 3 2, F150.q 5 0⟩
      obtain ⟨wd152, hwd_⟩ : ∃ x : World, w144.drew = x := ⟨_, rfl⟩
      rw [hwd_] at F150 ⊢
      have wd152s : w144.heap.size <= wd152.heap.size := by rw [← hwd_]; exact Nat.le_refl _
      clear hwd_
      have hS151 := (And.intro (F150.q 6 0) (And.intro (F150.q 6 1) (And.intro (F150.q 3 2) (F150.q 5 0))))
      refine ru_t 0 [] ?_
      refine ru_t 1 [] ?_
      refine ru_t 2 [] ?_
      refine ru_t 3 [] ?_
      refine ru_t 4 [] ?_
      refine ru_t 5 [] ?_
      refine ru_t 6 [] ?_
      (try simp only [lpX])
      clear hS151
      refine ru_one 7 rfl (by kernel_rfl) (fun K hK => ?_)
      go_simp
      refine (det7_c _ _ _ ls n r27 (k : Int) su pe _ (F150.at 7 rfl : Sl lgEnc 5 loN hiN _ (.slice aN ls.length cN) ls) (by first | omega | (simp; omega)) HNE.out hspb (by omega) HSU.out HPE.out).mono ?_
      rintro e w155 ⟨vD, rfl, hg153⟩
      have hg153s := hg153.size
      (try simp at hg153s)
      replace F150 := F150.gn hg153
      refine ru_back hK (by exact ⟨F150.q 6 0, F150.q 6 1, F150.q 3 2, F150.q 5 0⟩) (fun _ => ?_)
      clear hK K
      (try simp only [lpX])
      refine ru_p 8 ?_
      (try simp only [lpX])
      refine ru_p 9 ?_
      refine ru_p 10 ?_
      refine ru_p 11 ?_
      refine ru_p 12 ?_
      (try simp only [lpX])
      refine ru_p 13 ?_
      (try simp only [lpX])
      refine ru_p 14 ?_
      (try simp only [lpX])
      refine ru_p 15 ?_
      (try simp only [lpX])
      refine ru_one 16 rfl (by kernel_rfl) (fun K hK => ?_)
      go_simp
      refine ru_back_late hK (by kernel_rfl) ?_
      clear hK K
      (try simp only [lpX])
      refine ru_done (by kernel_rfl) ?_
      have Fn_ := F150
      (try dsimp only [List.eraseIdx_cons_succ, List.eraseIdx_cons_zero] at Fn_)
      obtain ⟨w157, hx158, F160, hxs159⟩ := Fn_.name
      (try simp at hxs159)
      rw [hx158]
      clear hx158 F150 Fn_
      go_wp2_with fail
      replace F160 := F160.drew
      refine ru_begin (fun W => W.cell? ⟨x146, o147 + k * 2, none⟩ = some (.int .i64 (minE r11 pe)) /\ W.cell? ⟨x146, o147 + k * 2 + 1, none⟩ = some (.int .i64 (minE r11 su))) 23 (by kernel_rfl) ?_ ?_
      · exact ⟨(Sl.cells (F160.at 0 rfl) hz148.out 0 _ rfl), (Sl.cells (F160.at 0 rfl) hz148.out 1 _ rfl)⟩
      obtain ⟨wd163, hwd_⟩ : ∃ x : World, w157.drew = x := ⟨_, rfl⟩
      rw [hwd_] at F160 ⊢
      have wd163s : w157.heap.size <= wd163.heap.size := by rw [← hwd_]; exact Nat.le_refl _
      clear hwd_
      have hS162 := (And.intro ((Sl.cells (F160.at 0 rfl) hz148.out 0 _ rfl)) ((Sl.cells (F160.at 0 rfl) hz148.out 1 _ rfl)))
      refine ru_t 0 [13, 10, 2, 1] ?_
      refine ru_t 1 [13, 10, 2] ?_
      refine ru_t 2 [13, 10] ?_
      refine ru_t 3 [13, 12, 11, 7, 6, 5] ?_
      refine ru_t 4 [13, 12, 11, 7, 6, 5] ?_
      refine ru_t 5 [13, 12, 11, 7, 6] ?_
      refine ru_t 6 [13, 12, 11, 7] ?_
      refine ru_t 7 [13, 12, 11] ?_
      refine ru_t 8 [13, 10] ?_
      refine ru_t 9 [13, 10] ?_
      (try simp only [lpX])
      clear hS162
      refine ru_one 10 rfl (by kernel_rfl) (fun K hK => ?_)
      go_simp
      refine (minutes_c r11 pe _ (by omega)).mono ?_
      rintro e w166 ⟨rfl, hg164⟩
      have hg164s := hg164.size
      (try simp at hg164s)
      replace F160 := F160.gn hg164
      refine ru_back hK (by exact ⟨(Sl.cells (F160.at 0 rfl) hz148.out 0 _ rfl), (Sl.cells (F160.at 0 rfl) hz148.out 1 _ rfl)⟩) (fun _ => ?_)
      clear hK K
      (try simp only [lpX])
      refine ru_p 11 ?_
      (try simp only [lpX])
      refine ru_p 12 ?_
      (try simp only [lpX])
      refine ru_p 13 ?_
      (try simp only [lpX])
      refine ru_p 14 ?_
      refine ru_p 15 ?_
      refine ru_p 19 ?_
      refine ru_p 20 ?_
      (try simp only [lpX])
      refine ru_p 16 ?_
      (try simp only [lpX])
      refine ru_p 17 ?_
      (try simp only [lpX])
      refine ru_t 18 [22] ?_
      (try simp only [lpX])
      refine ru_one 21 rfl (by kernel_rfl) (fun K hK => ?_)
      go_simp
      refine (minutes_c r11 su _ (by omega)).mono ?_
      rintro e w170 ⟨rfl, hg168⟩
      have hg168s := hg168.size
      (try simp at hg168s)
      replace F160 := F160.gn hg168
      refine ru_back hK (by exact ⟨(Sl.cells (F160.at 0 rfl) hz148.out 0 _ rfl), (Sl.cells (F160.at 0 rfl) hz148.out 1 _ rfl)⟩) (fun _ => ?_)
      clear hK K
      (try simp only [lpX])
      refine ru_p 22 ?_
      (try simp only [lpX])
      refine ru_one 23 rfl (by kernel_rfl) (fun K hK => ?_)
      go_simp
      refine ru_back_late hK (by kernel_rfl) ?_
      clear hK K
      (try simp only [lpX])
      refine ru_done (by kernel_rfl) ?_
      have Fn_ := F160
      (try dsimp only [List.eraseIdx_cons_succ, List.eraseIdx_cons_zero] at Fn_)
      obtain ⟨w172, hx173, F175, hxs174⟩ := Fn_.name
      (try simp at hxs174)
      rw [hx173]
      clear hx173 F160 Fn_
      go_wp2_with fail
      (first | refine ⟨by kernel_rfl, ?_, ?_⟩ | refine ⟨rfl, ?_, ?_⟩ | refine ⟨?_, ?_⟩)
      · rw [HI141.out]; exact ⟨k + 1, (by kernel_rfl), (by kernel_rfl), (by kernel_rfl), (by kernel_rfl), (by show Value.int .i64 ((k : Int) + 1) = _; simp), (by omega), (by first | rfl | simp), (by first | omega | (simp; done) | (simp; omega)), F175⟩
      · simp [slot, intOf]; omega
     have c145H := lhd c145
     have c145a : decide ((k : Int) < (n : Int)) = false := dec_f c145
     have b176 := hF142.bx2 6 rfl
     go_wp2_with fail
     clear b176
     refine (tawake7_c _).mono ?_
     rintro e w179 ⟨rfl, hg177⟩
     have hg177s := hg177.size
     (try simp at hg177s)
     have F180 := hF142.gn hg177
     clear hF142
     clear hg177
     go_wp2_with fail
     go_ret
     exact ⟨rfl, F180.gb⟩
    case atStart3 =>
     rw [HI141.out]
     exact ⟨0, (by kernel_rfl), (by kernel_rfl), (by kernel_rfl), (by kernel_rfl), rfl, Nat.zero_le _, rfl, (by first | exact Nat.le_refl _ | omega | (simp; done) | (simp; omega)), F139⟩
   case atStart2 =>
    rw [HI95.out]
    exact ⟨0, _, (by kernel_rfl), (by kernel_rfl), (by kernel_rfl), rfl, Nat.zero_le _, rfl, (by first | exact Nat.le_refl _ | omega | (simp; done) | (simp; omega)), F94⟩
  case atStart1 =>
   rw [HI40.out]
   exact ⟨0, _, (by kernel_rfl), (by kernel_rfl), (by kernel_rfl), rfl, Nat.zero_le _, rfl, (by first | exact Nat.le_refl _ | omega | (simp; done) | (simp; omega)), F35⟩
 intro hZ29
 refine ru_state 134 (fun t w_ => ∃ (r27 : Int) (yg9 : Nat) (yg12 : Nat) (yg14 : Nat), (0 <= r27 /\ (r27 < (n : Int) ∨ r27 = 0)) /\ t 4 = .pointer (some ⟨w15.heap.size, 0, none⟩) /\ t 5 = .int .i64 r11 /\ t 6 = .pointer (some ⟨yg14, 0, none⟩) /\ t 36 = .agg #[.int .i64 (n : Int), .slice none 0 0, .slice (some ⟨yg9, 0, none⟩) 1 1, .slice none 0 0, .slice (some ⟨yg12, 0, none⟩) 1 1] /\ w20.heap.size <= w_.heap.size /\ Bun w [rbox yg14 42 #[.int .i64 0, .slice none 0 0, .slice none 0 0, .slice none 0 0, .slice none 0 0], rbox yg12 38 #[.int .i64 (-400), .int .i64 30, .int .i64 30], rbox yg9 35 #[.int .i64 r27, .int .i64 r11, .int .i64 r11, .int .i64 0, .int .i64 0, .int .i64 0, .slice none 0 0], rbox w15.heap.size 27 #[.int .i64 (n : Int), .slice aN ls.length cN], rsl lgEnc 5 loN hiN (.slice aN ls.length cN) ls, rseed sb, rsl intEnc 1 0 w.heap.size (.slice na zs.length nc) zs] w_) #[true, true, true, true, true, true, true, true, true, true, true, true, true, true, true, false] 1 ?st181 ?nx181
 case st181 =>
  rintro t w182 ⟨r27, yg9, yg12, yg14, hr28, e4, e5, e6, e36, hsz181, F183⟩
  clear F23
  rw [rng_paths_walk t, e4, e5, e6, e36]
  clear e4 e5 e6 e36
  have hws181 := F183.gb.size
  have yg14l := F183.ltAt 0 rfl yg14 rfl
  have yg14b := yg14l.2 rfl
  have yg12l := F183.ltAt 1 rfl yg12 rfl
  have yg12b := yg12l.2 rfl
  have yg9l := F183.ltAt 2 rfl yg9 rfl
  have yg9b := yg9l.2 rfl
  refine ru_one 15 rfl (by kernel_rfl) (fun K hK => ?_)
  have kb_ := F183.bx5 0 rfl
  go_simp
  clear kb_
  replace F183 := F183.pt5 (.int .i64 (n : Int)) (.slice none 0 0) (.slice (some ⟨yg9, 0, none⟩) 1 1) (.slice none 0 0) (.slice (some ⟨yg12, 0, none⟩) 1 1)
  refine ru_back_late hK (by kernel_rfl) ?_
  exact hZ29.out _ _ _ (by kernel_rfl) (by kernel_rfl) rfl ⟨r27, yg9, yg12, yg14, (by first | assumption | omega), (by kernel_rfl), (by kernel_rfl), (by kernel_rfl), (by first | omega | (simp; done) | (simp; omega)), F183⟩
 intro hZ181
 refine ru_state 134 (fun t w_ => ∃ (r27 : Int) (yg9 : Nat) (yg12 : Nat), (0 <= r27 /\ (r27 < (n : Int) ∨ r27 = 0)) /\ t 4 = .pointer (some ⟨w15.heap.size, 0, none⟩) /\ t 5 = .int .i64 r11 /\ t 36 = .agg #[.int .i64 (n : Int), .slice none 0 0, .slice (some ⟨yg9, 0, none⟩) 1 1, .slice none 0 0, .slice (some ⟨yg12, 0, none⟩) 1 1] /\ w20.heap.size <= w_.heap.size /\ Bun w [rbox yg12 38 #[.int .i64 (-400), .int .i64 30, .int .i64 30], rbox yg9 35 #[.int .i64 r27, .int .i64 r11, .int .i64 r11, .int .i64 0, .int .i64 0, .int .i64 0, .slice none 0 0], rbox w15.heap.size 27 #[.int .i64 (n : Int), .slice aN ls.length cN], rsl lgEnc 5 loN hiN (.slice aN ls.length cN) ls, rseed sb, rsl intEnc 1 0 w.heap.size (.slice na zs.length nc) zs] w_) #[true, true, true, true, true, true, true, true, true, true, true, true, true, true, false, false] 2 ?st185 ?nx185
 case st185 =>
  rintro t w186 ⟨r27, yg9, yg12, hr28, e4, e5, e36, hsz185, F187⟩
  clear F23
  rw [rng_paths_walk t, e4, e5, e36]
  clear e4 e5 e36
  have hws185 := F187.gb.size
  have yg12l := F187.ltAt 0 rfl yg12 rfl
  have yg12b := yg12l.2 rfl
  have yg9l := F187.ltAt 1 rfl yg9 rfl
  have yg9b := yg9l.2 rfl
  refine ru_one 14 rfl (by kernel_rfl) (fun K hK => ?_)
  go_simp
  replace F187 := F187.new 42 #[.int .i64 0, .slice none 0 0, .slice none 0 0, .slice none 0 0, .slice none 0 0] (n := w186.heap.size) (by simp)
  refine ru_back hK (by exact F187.q 3 0) (fun _ => ?_)
  exact hZ181.out _ _ _ (by kernel_rfl) (by kernel_rfl) rfl ⟨r27, yg9, yg12, w186.heap.size, (by first | assumption | omega), (by kernel_rfl), (by kernel_rfl), (by kernel_rfl), (by kernel_rfl), (by first | omega | (simp; done) | (simp; omega)), F187⟩
 intro hZ185
 refine ru_state 134 (fun t w_ => ∃ (r27 : Int) (yg9 : Nat) (yg14 : Nat), (0 <= r27 /\ (r27 < (n : Int) ∨ r27 = 0)) /\ t 4 = .pointer (some ⟨w15.heap.size, 0, none⟩) /\ t 5 = .int .i64 r11 /\ t 6 = .pointer (some ⟨yg14, 0, none⟩) /\ t 24 = .int .i64 (n : Int) /\ t 32 = .slice (some ⟨yg9, 0, none⟩) 1 1 /\ t 34 = .agg #[.int .i64 (-400), .int .i64 30, .int .i64 30] /\ w20.heap.size <= w_.heap.size /\ Bun w [rbox yg14 42 #[.int .i64 0, .slice none 0 0, .slice none 0 0, .slice none 0 0, .slice none 0 0], rbox yg9 35 #[.int .i64 r27, .int .i64 r11, .int .i64 r11, .int .i64 0, .int .i64 0, .int .i64 0, .slice none 0 0], rbox w15.heap.size 27 #[.int .i64 (n : Int), .slice aN ls.length cN], rsl lgEnc 5 loN hiN (.slice aN ls.length cN) ls, rseed sb, rsl intEnc 1 0 w.heap.size (.slice na zs.length nc) zs] w_) #[true, true, true, true, true, true, true, true, true, true, true, true, false, false, true, false] 3 ?st189 ?nx189
 case st189 =>
  rintro t w190 ⟨r27, yg9, yg14, hr28, e4, e5, e6, e24, e32, e34, hsz189, F191⟩
  clear F23
  rw [rng_paths_walk t, e4, e5, e6, e24, e32, e34]
  clear e4 e5 e6 e24 e32 e34
  have hws189 := F191.gb.size
  have yg14l := F191.ltAt 0 rfl yg14 rfl
  have yg14b := yg14l.2 rfl
  have yg9l := F191.ltAt 1 rfl yg9 rfl
  have yg9b := yg9l.2 rfl
  refine ru_one 12 rfl (by kernel_rfl) (fun K hK => ?_)
  go_simp
  replace F191 := F191.new 38 #[.int .i64 (-400), .int .i64 30, .int .i64 30] (n := w190.heap.size) (by simp)
  refine ru_back hK (by exact F191.q 3 0) (fun _ => ?_)
  clear hK K
  (try simp only [lpX])
  refine ru_p 13 ?_
  (try simp only [lpX])
  exact hZ181.out _ _ _ (by kernel_rfl) (by kernel_rfl) rfl ⟨r27, yg9, w190.heap.size, yg14, (by first | assumption | omega), (by kernel_rfl), (by kernel_rfl), (by kernel_rfl), (by kernel_rfl), (by first | omega | (simp; done) | (simp; omega)), (F191.pick [1, 0, 2, 3, 4, 5, 6] (by decide) rfl)⟩
 intro hZ189
 refine ru_state 134 (fun t w_ => ∃ (r27 : Int) (yg12 : Nat) (yg14 : Nat), (0 <= r27 /\ (r27 < (n : Int) ∨ r27 = 0)) /\ t 4 = .pointer (some ⟨w15.heap.size, 0, none⟩) /\ t 5 = .int .i64 r11 /\ t 6 = .pointer (some ⟨yg14, 0, none⟩) /\ t 24 = .int .i64 (n : Int) /\ t 31 = .agg #[.int .i64 r27, .int .i64 r11, .int .i64 r11, .int .i64 0, .int .i64 0, .int .i64 0, .slice none 0 0] /\ t 35 = .slice (some ⟨yg12, 0, none⟩) 1 1 /\ w20.heap.size <= w_.heap.size /\ Bun w [rbox yg14 42 #[.int .i64 0, .slice none 0 0, .slice none 0 0, .slice none 0 0, .slice none 0 0], rbox yg12 38 #[.int .i64 (-400), .int .i64 30, .int .i64 30], rbox w15.heap.size 27 #[.int .i64 (n : Int), .slice aN ls.length cN], rsl lgEnc 5 loN hiN (.slice aN ls.length cN) ls, rseed sb, rsl intEnc 1 0 w.heap.size (.slice na zs.length nc) zs] w_) #[true, true, true, true, true, true, true, true, true, false, true, true, true, false, true, false] 3 ?st193 ?nx193
 case st193 =>
  rintro t w194 ⟨r27, yg12, yg14, hr28, e4, e5, e6, e24, e31, e35, hsz193, F195⟩
  clear F23
  rw [rng_paths_walk t, e4, e5, e6, e24, e31, e35]
  clear e4 e5 e6 e24 e31 e35
  have hws193 := F195.gb.size
  have yg14l := F195.ltAt 0 rfl yg14 rfl
  have yg14b := yg14l.2 rfl
  have yg12l := F195.ltAt 1 rfl yg12 rfl
  have yg12b := yg12l.2 rfl
  refine ru_one 9 rfl (by kernel_rfl) (fun K hK => ?_)
  go_simp
  replace F195 := F195.new 35 #[.int .i64 r27, .int .i64 r11, .int .i64 r11, .int .i64 0, .int .i64 0, .int .i64 0, .slice none 0 0] (n := w194.heap.size) (by simp)
  refine ru_back hK (by exact F195.q 3 0) (fun _ => ?_)
  clear hK K
  (try simp only [lpX])
  refine ru_p 13 ?_
  (try simp only [lpX])
  exact hZ181.out _ _ _ (by kernel_rfl) (by kernel_rfl) rfl ⟨r27, w194.heap.size, yg12, yg14, (by first | assumption | omega), (by kernel_rfl), (by kernel_rfl), (by kernel_rfl), (by kernel_rfl), (by first | omega | (simp; done) | (simp; omega)), (F195.pick [1, 2, 0, 3, 4, 5, 6] (by decide) rfl)⟩
 intro hZ193
 refine ru_state 134 (fun t w_ => ∃ (r27 : Int) (yg9 : Nat), (0 <= r27 /\ (r27 < (n : Int) ∨ r27 = 0)) /\ t 4 = .pointer (some ⟨w15.heap.size, 0, none⟩) /\ t 5 = .int .i64 r11 /\ t 24 = .int .i64 (n : Int) /\ t 32 = .slice (some ⟨yg9, 0, none⟩) 1 1 /\ t 34 = .agg #[.int .i64 (-400), .int .i64 30, .int .i64 30] /\ w20.heap.size <= w_.heap.size /\ Bun w [rbox yg9 35 #[.int .i64 r27, .int .i64 r11, .int .i64 r11, .int .i64 0, .int .i64 0, .int .i64 0, .slice none 0 0], rbox w15.heap.size 27 #[.int .i64 (n : Int), .slice aN ls.length cN], rsl lgEnc 5 loN hiN (.slice aN ls.length cN) ls, rseed sb, rsl intEnc 1 0 w.heap.size (.slice na zs.length nc) zs] w_) #[true, true, true, true, true, true, true, true, true, true, true, true, false, false, false, false] 4 ?st197 ?nx197
 case st197 =>
  rintro t w198 ⟨r27, yg9, hr28, e4, e5, e24, e32, e34, hsz197, F199⟩
  clear F23
  rw [rng_paths_walk t, e4, e5, e24, e32, e34]
  clear e4 e5 e24 e32 e34
  have hws197 := F199.gb.size
  have yg9l := F199.ltAt 0 rfl yg9 rfl
  have yg9b := yg9l.2 rfl
  refine ru_two 12 14 rfl rfl (by kernel_rfl) ?_ ?_
  ·
   intro K hK
   go_simp
   replace F199 := F199.new 38 #[.int .i64 (-400), .int .i64 30, .int .i64 30] (n := w198.heap.size) (by simp)
   refine ru_back hK (by exact F199.q 2 0) (fun _ => ?_)
   clear hK K
   (try simp only [lpX])
   refine ru_p 13 ?_
   (try simp only [lpX])
   exact hZ185.out _ _ _ (by kernel_rfl) (by kernel_rfl) rfl ⟨r27, yg9, w198.heap.size, (by first | assumption | omega), (by kernel_rfl), (by kernel_rfl), (by kernel_rfl), (by first | omega | (simp; done) | (simp; omega)), F199⟩
  intro K hK
  go_simp
  replace F199 := F199.new 42 #[.int .i64 0, .slice none 0 0, .slice none 0 0, .slice none 0 0, .slice none 0 0] (n := w198.heap.size) (by simp)
  refine ru_back hK (by exact F199.q 2 0) (fun _ => ?_)
  exact hZ189.out _ _ _ (by kernel_rfl) (by kernel_rfl) rfl ⟨r27, yg9, w198.heap.size, (by first | assumption | omega), by (iterate 6 refine ⟨by kernel_rfl, ?_⟩); exact ⟨(by first | omega | (simp; done) | (simp; omega)), F199⟩⟩
 intro hZ197
 refine ru_state 134 (fun t w_ => ∃ (r27 : Int) (yg12 : Nat), (0 <= r27 /\ (r27 < (n : Int) ∨ r27 = 0)) /\ t 4 = .pointer (some ⟨w15.heap.size, 0, none⟩) /\ t 5 = .int .i64 r11 /\ t 24 = .int .i64 (n : Int) /\ t 31 = .agg #[.int .i64 r27, .int .i64 r11, .int .i64 r11, .int .i64 0, .int .i64 0, .int .i64 0, .slice none 0 0] /\ t 35 = .slice (some ⟨yg12, 0, none⟩) 1 1 /\ w20.heap.size <= w_.heap.size /\ Bun w [rbox yg12 38 #[.int .i64 (-400), .int .i64 30, .int .i64 30], rbox w15.heap.size 27 #[.int .i64 (n : Int), .slice aN ls.length cN], rsl lgEnc 5 loN hiN (.slice aN ls.length cN) ls, rseed sb, rsl intEnc 1 0 w.heap.size (.slice na zs.length nc) zs] w_) #[true, true, true, true, true, true, true, true, true, false, true, true, true, false, false, false] 4 ?st202 ?nx202
 case st202 =>
  rintro t w203 ⟨r27, yg12, hr28, e4, e5, e24, e31, e35, hsz202, F204⟩
  clear F23
  rw [rng_paths_walk t, e4, e5, e24, e31, e35]
  clear e4 e5 e24 e31 e35
  have hws202 := F204.gb.size
  have yg12l := F204.ltAt 0 rfl yg12 rfl
  have yg12b := yg12l.2 rfl
  refine ru_two 9 14 rfl rfl (by kernel_rfl) ?_ ?_
  ·
   intro K hK
   go_simp
   replace F204 := F204.new 35 #[.int .i64 r27, .int .i64 r11, .int .i64 r11, .int .i64 0, .int .i64 0, .int .i64 0, .slice none 0 0] (n := w203.heap.size) (by simp)
   refine ru_back hK (by exact F204.q 2 0) (fun _ => ?_)
   clear hK K
   (try simp only [lpX])
   refine ru_p 13 ?_
   (try simp only [lpX])
   exact hZ185.out _ _ _ (by kernel_rfl) (by kernel_rfl) rfl ⟨r27, w203.heap.size, yg12, (by first | assumption | omega), (by kernel_rfl), (by kernel_rfl), (by kernel_rfl), (by first | omega | (simp; done) | (simp; omega)), (F204.pick [1, 0, 2, 3, 4, 5] (by decide) rfl)⟩
  intro K hK
  go_simp
  replace F204 := F204.new 42 #[.int .i64 0, .slice none 0 0, .slice none 0 0, .slice none 0 0, .slice none 0 0] (n := w203.heap.size) (by simp)
  refine ru_back hK (by exact F204.q 2 0) (fun _ => ?_)
  exact hZ193.out _ _ _ (by kernel_rfl) (by kernel_rfl) rfl ⟨r27, yg12, w203.heap.size, (by first | assumption | omega), by (iterate 6 refine ⟨by kernel_rfl, ?_⟩); exact ⟨(by first | omega | (simp; done) | (simp; omega)), F204⟩⟩
 intro hZ202
 refine ru_state 134 (fun t w_ => ∃ (r27 : Int) (yg14 : Nat), (0 <= r27 /\ (r27 < (n : Int) ∨ r27 = 0)) /\ t 4 = .pointer (some ⟨w15.heap.size, 0, none⟩) /\ t 5 = .int .i64 r11 /\ t 6 = .pointer (some ⟨yg14, 0, none⟩) /\ t 24 = .int .i64 (n : Int) /\ t 31 = .agg #[.int .i64 r27, .int .i64 r11, .int .i64 r11, .int .i64 0, .int .i64 0, .int .i64 0, .slice none 0 0] /\ t 34 = .agg #[.int .i64 (-400), .int .i64 30, .int .i64 30] /\ w20.heap.size <= w_.heap.size /\ Bun w [rbox yg14 42 #[.int .i64 0, .slice none 0 0, .slice none 0 0, .slice none 0 0, .slice none 0 0], rbox w15.heap.size 27 #[.int .i64 (n : Int), .slice aN ls.length cN], rsl lgEnc 5 loN hiN (.slice aN ls.length cN) ls, rseed sb, rsl intEnc 1 0 w.heap.size (.slice na zs.length nc) zs] w_) #[true, true, true, true, true, true, true, true, true, false, true, true, false, false, true, false] 4 ?st207 ?nx207
 case st207 =>
  rintro t w208 ⟨r27, yg14, hr28, e4, e5, e6, e24, e31, e34, hsz207, F209⟩
  clear F23
  rw [rng_paths_walk t, e4, e5, e6, e24, e31, e34]
  clear e4 e5 e6 e24 e31 e34
  have hws207 := F209.gb.size
  have yg14l := F209.ltAt 0 rfl yg14 rfl
  have yg14b := yg14l.2 rfl
  refine ru_two 9 12 rfl rfl (by kernel_rfl) ?_ ?_
  ·
   intro K hK
   go_simp
   replace F209 := F209.new 35 #[.int .i64 r27, .int .i64 r11, .int .i64 r11, .int .i64 0, .int .i64 0, .int .i64 0, .slice none 0 0] (n := w208.heap.size) (by simp)
   refine ru_back hK (by exact F209.q 2 0) (fun _ => ?_)
   exact hZ189.out _ _ _ (by kernel_rfl) (by kernel_rfl) rfl ⟨r27, w208.heap.size, yg14, (by first | assumption | omega), by (iterate 6 refine ⟨by kernel_rfl, ?_⟩); exact ⟨(by first | omega | (simp; done) | (simp; omega)), (F209.pick [1, 0, 2, 3, 4, 5] (by decide) rfl)⟩⟩
  intro K hK
  go_simp
  replace F209 := F209.new 38 #[.int .i64 (-400), .int .i64 30, .int .i64 30] (n := w208.heap.size) (by simp)
  refine ru_back hK (by exact F209.q 2 0) (fun _ => ?_)
  exact hZ193.out _ _ _ (by kernel_rfl) (by kernel_rfl) rfl ⟨r27, w208.heap.size, yg14, (by first | assumption | omega), by (iterate 6 refine ⟨by kernel_rfl, ?_⟩); exact ⟨(by first | omega | (simp; done) | (simp; omega)), (F209.pick [1, 0, 2, 3, 4, 5] (by decide) rfl)⟩⟩
 intro hZ207
 refine ru_state 134 (fun t w_ => ∃ (r27 : Int), (0 <= r27 /\ (r27 < (n : Int) ∨ r27 = 0)) /\ t 4 = .pointer (some ⟨w15.heap.size, 0, none⟩) /\ t 5 = .int .i64 r11 /\ t 24 = .int .i64 (n : Int) /\ t 31 = .agg #[.int .i64 r27, .int .i64 r11, .int .i64 r11, .int .i64 0, .int .i64 0, .int .i64 0, .slice none 0 0] /\ t 34 = .agg #[.int .i64 (-400), .int .i64 30, .int .i64 30] /\ w20.heap.size <= w_.heap.size /\ Bun w [rbox w15.heap.size 27 #[.int .i64 (n : Int), .slice aN ls.length cN], rsl lgEnc 5 loN hiN (.slice aN ls.length cN) ls, rseed sb, rsl intEnc 1 0 w.heap.size (.slice na zs.length nc) zs] w_) #[true, true, true, true, true, true, true, true, true, false, true, true, false, false, false, false] 5 ?st212 ?nx212
 case st212 =>
  rintro t w213 ⟨r27, hr28, e4, e5, e24, e31, e34, hsz212, F214⟩
  clear F23
  rw [rng_paths_walk t, e4, e5, e24, e31, e34]
  clear e4 e5 e24 e31 e34
  have hws212 := F214.gb.size
  refine ru_three 9 12 14 rfl rfl rfl (by kernel_rfl) ?_ ?_ ?_
  ·
   intro K hK
   go_simp
   replace F214 := F214.new 35 #[.int .i64 r27, .int .i64 r11, .int .i64 r11, .int .i64 0, .int .i64 0, .int .i64 0, .slice none 0 0] (n := w213.heap.size) (by simp)
   refine ru_back hK (by exact F214.q 1 0) (fun _ => ?_)
   exact hZ197.out _ _ _ (by kernel_rfl) (by kernel_rfl) rfl ⟨r27, w213.heap.size, (by first | assumption | omega), by (iterate 5 refine ⟨by kernel_rfl, ?_⟩); exact ⟨(by first | omega | (simp; done) | (simp; omega)), F214⟩⟩
  ·
   intro K hK
   go_simp
   replace F214 := F214.new 38 #[.int .i64 (-400), .int .i64 30, .int .i64 30] (n := w213.heap.size) (by simp)
   refine ru_back hK (by exact F214.q 1 0) (fun _ => ?_)
   exact hZ202.out _ _ _ (by kernel_rfl) (by kernel_rfl) rfl ⟨r27, w213.heap.size, (by first | assumption | omega), by (iterate 5 refine ⟨by kernel_rfl, ?_⟩); exact ⟨(by first | omega | (simp; done) | (simp; omega)), F214⟩⟩
  intro K hK
  go_simp
  replace F214 := F214.new 42 #[.int .i64 0, .slice none 0 0, .slice none 0 0, .slice none 0 0, .slice none 0 0] (n := w213.heap.size) (by simp)
  refine ru_back hK (by exact F214.q 1 0) (fun _ => ?_)
  exact hZ207.out _ _ _ (by kernel_rfl) (by kernel_rfl) rfl ⟨r27, w213.heap.size, (by first | assumption | omega), by (iterate 6 refine ⟨by kernel_rfl, ?_⟩); exact ⟨(by first | omega | (simp; done) | (simp; omega)), F214⟩⟩
 intro hZ212
 refine ru_state 134 (fun t w_ => ∃ (r27 : Int) (yg9 : Nat) (yg14 : Nat), (0 <= r27 /\ (r27 < (n : Int) ∨ r27 = 0)) /\ t 4 = .pointer (some ⟨w15.heap.size, 0, none⟩) /\ t 5 = .int .i64 r11 /\ t 6 = .pointer (some ⟨yg14, 0, none⟩) /\ t 24 = .int .i64 (n : Int) /\ t 32 = .slice (some ⟨yg9, 0, none⟩) 1 1 /\ w20.heap.size <= w_.heap.size /\ Bun w [rbox yg14 42 #[.int .i64 0, .slice none 0 0, .slice none 0 0, .slice none 0 0, .slice none 0 0], rbox yg9 35 #[.int .i64 r27, .int .i64 r11, .int .i64 r11, .int .i64 0, .int .i64 0, .int .i64 0, .slice none 0 0], rbox w15.heap.size 27 #[.int .i64 (n : Int), .slice aN ls.length cN], rsl lgEnc 5 loN hiN (.slice aN ls.length cN) ls, rseed sb, rsl intEnc 1 0 w.heap.size (.slice na zs.length nc) zs] w_) #[true, true, true, true, true, true, true, true, true, true, false, false, false, false, true, false] 5 ?st218 ?nx218
 case st218 =>
  rintro t w219 ⟨r27, yg9, yg14, hr28, e4, e5, e6, e24, e32, hsz218, F220⟩
  clear F23
  rw [rng_paths_walk t, e4, e5, e6, e24, e32]
  clear e4 e5 e6 e24 e32
  have hws218 := F220.gb.size
  have yg14l := F220.ltAt 0 rfl yg14 rfl
  have yg14b := yg14l.2 rfl
  have yg9l := F220.ltAt 1 rfl yg9 rfl
  have yg9b := yg9l.2 rfl
  refine ru_one 10 rfl (by kernel_rfl) (fun K hK => ?_)
  go_simp
  refine (tone_c 30 _).mono ?_
  rintro e w223 ⟨rfl, hg221⟩
  have hg221s := hg221.size
  (try simp at hg221s)
  replace F220 := F220.gn hg221
  refine ru_back hK (by exact F220.q 2 0) (fun _ => ?_)
  clear hK K
  (try simp only [lpX])
  refine ru_p 11 ?_
  (try simp only [lpX])
  exact hZ189.out _ _ _ (by kernel_rfl) (by kernel_rfl) rfl ⟨r27, yg9, yg14, (by first | assumption | omega), by (iterate 6 refine ⟨by kernel_rfl, ?_⟩); exact ⟨(by first | omega | (simp; done) | (simp; omega)), F220⟩⟩
 intro hZ218
 refine ru_state 134 (fun t w_ => ∃ (r27 : Int) (yg9 : Nat), (0 <= r27 /\ (r27 < (n : Int) ∨ r27 = 0)) /\ t 4 = .pointer (some ⟨w15.heap.size, 0, none⟩) /\ t 5 = .int .i64 r11 /\ t 24 = .int .i64 (n : Int) /\ t 32 = .slice (some ⟨yg9, 0, none⟩) 1 1 /\ w20.heap.size <= w_.heap.size /\ Bun w [rbox yg9 35 #[.int .i64 r27, .int .i64 r11, .int .i64 r11, .int .i64 0, .int .i64 0, .int .i64 0, .slice none 0 0], rbox w15.heap.size 27 #[.int .i64 (n : Int), .slice aN ls.length cN], rsl lgEnc 5 loN hiN (.slice aN ls.length cN) ls, rseed sb, rsl intEnc 1 0 w.heap.size (.slice na zs.length nc) zs] w_) #[true, true, true, true, true, true, true, true, true, true, false, false, false, false, false, false] 6 ?st225 ?nx225
 case st225 =>
  rintro t w226 ⟨r27, yg9, hr28, e4, e5, e24, e32, hsz225, F227⟩
  clear F23
  rw [rng_paths_walk t, e4, e5, e24, e32]
  clear e4 e5 e24 e32
  have hws225 := F227.gb.size
  have yg9l := F227.ltAt 0 rfl yg9 rfl
  have yg9b := yg9l.2 rfl
  refine ru_two 10 14 rfl rfl (by kernel_rfl) ?_ ?_
  ·
   intro K hK
   go_simp
   refine (tone_c 30 _).mono ?_
   rintro e w230 ⟨rfl, hg228⟩
   have hg228s := hg228.size
   (try simp at hg228s)
   replace F227 := F227.gn hg228
   refine ru_back hK (by exact F227.q 1 0) (fun _ => ?_)
   clear hK K
   (try simp only [lpX])
   refine ru_p 11 ?_
   (try simp only [lpX])
   exact hZ197.out _ _ _ (by kernel_rfl) (by kernel_rfl) rfl ⟨r27, yg9, (by first | assumption | omega), by (iterate 5 refine ⟨by kernel_rfl, ?_⟩); exact ⟨(by first | omega | (simp; done) | (simp; omega)), F227⟩⟩
  intro K hK
  go_simp
  replace F227 := F227.new 42 #[.int .i64 0, .slice none 0 0, .slice none 0 0, .slice none 0 0, .slice none 0 0] (n := w226.heap.size) (by simp)
  refine ru_back hK (by exact F227.q 2 0) (fun _ => ?_)
  exact hZ218.out _ _ _ (by kernel_rfl) (by kernel_rfl) rfl ⟨r27, yg9, w226.heap.size, (by first | assumption | omega), by (iterate 5 refine ⟨by kernel_rfl, ?_⟩); exact ⟨(by first | omega | (simp; done) | (simp; omega)), F227⟩⟩
 intro hZ225
 refine ru_state 134 (fun t w_ => ∃ (r27 : Int) (yg14 : Nat), (0 <= r27 /\ (r27 < (n : Int) ∨ r27 = 0)) /\ t 4 = .pointer (some ⟨w15.heap.size, 0, none⟩) /\ t 5 = .int .i64 r11 /\ t 6 = .pointer (some ⟨yg14, 0, none⟩) /\ t 24 = .int .i64 (n : Int) /\ t 31 = .agg #[.int .i64 r27, .int .i64 r11, .int .i64 r11, .int .i64 0, .int .i64 0, .int .i64 0, .slice none 0 0] /\ w20.heap.size <= w_.heap.size /\ Bun w [rbox yg14 42 #[.int .i64 0, .slice none 0 0, .slice none 0 0, .slice none 0 0, .slice none 0 0], rbox w15.heap.size 27 #[.int .i64 (n : Int), .slice aN ls.length cN], rsl lgEnc 5 loN hiN (.slice aN ls.length cN) ls, rseed sb, rsl intEnc 1 0 w.heap.size (.slice na zs.length nc) zs] w_) #[true, true, true, true, true, true, true, true, true, false, false, false, false, false, true, false] 6 ?st233 ?nx233
 case st233 =>
  rintro t w234 ⟨r27, yg14, hr28, e4, e5, e6, e24, e31, hsz233, F235⟩
  clear F23
  rw [rng_paths_walk t, e4, e5, e6, e24, e31]
  clear e4 e5 e6 e24 e31
  have hws233 := F235.gb.size
  have yg14l := F235.ltAt 0 rfl yg14 rfl
  have yg14b := yg14l.2 rfl
  refine ru_two 9 10 rfl rfl (by kernel_rfl) ?_ ?_
  ·
   intro K hK
   go_simp
   replace F235 := F235.new 35 #[.int .i64 r27, .int .i64 r11, .int .i64 r11, .int .i64 0, .int .i64 0, .int .i64 0, .slice none 0 0] (n := w234.heap.size) (by simp)
   refine ru_back hK (by exact F235.q 2 0) (fun _ => ?_)
   exact hZ218.out _ _ _ (by kernel_rfl) (by kernel_rfl) rfl ⟨r27, w234.heap.size, yg14, (by first | assumption | omega), by (iterate 5 refine ⟨by kernel_rfl, ?_⟩); exact ⟨(by first | omega | (simp; done) | (simp; omega)), (F235.pick [1, 0, 2, 3, 4, 5] (by decide) rfl)⟩⟩
  intro K hK
  go_simp
  refine (tone_c 30 _).mono ?_
  rintro e w239 ⟨rfl, hg237⟩
  have hg237s := hg237.size
  (try simp at hg237s)
  replace F235 := F235.gn hg237
  refine ru_back hK (by exact F235.q 1 0) (fun _ => ?_)
  clear hK K
  (try simp only [lpX])
  refine ru_p 11 ?_
  (try simp only [lpX])
  exact hZ207.out _ _ _ (by kernel_rfl) (by kernel_rfl) rfl ⟨r27, yg14, (by first | assumption | omega), by (iterate 6 refine ⟨by kernel_rfl, ?_⟩); exact ⟨(by first | omega | (simp; done) | (simp; omega)), F235⟩⟩
 intro hZ233
 refine ru_state 134 (fun t w_ => ∃ (r27 : Int), (0 <= r27 /\ (r27 < (n : Int) ∨ r27 = 0)) /\ t 4 = .pointer (some ⟨w15.heap.size, 0, none⟩) /\ t 5 = .int .i64 r11 /\ t 24 = .int .i64 (n : Int) /\ t 31 = .agg #[.int .i64 r27, .int .i64 r11, .int .i64 r11, .int .i64 0, .int .i64 0, .int .i64 0, .slice none 0 0] /\ w20.heap.size <= w_.heap.size /\ Bun w [rbox w15.heap.size 27 #[.int .i64 (n : Int), .slice aN ls.length cN], rsl lgEnc 5 loN hiN (.slice aN ls.length cN) ls, rseed sb, rsl intEnc 1 0 w.heap.size (.slice na zs.length nc) zs] w_) #[true, true, true, true, true, true, true, true, true, false, false, false, false, false, false, false] 7 ?st241 ?nx241
 case st241 =>
  rintro t w242 ⟨r27, hr28, e4, e5, e24, e31, hsz241, F243⟩
  clear F23
  rw [rng_paths_walk t, e4, e5, e24, e31]
  clear e4 e5 e24 e31
  have hws241 := F243.gb.size
  refine ru_three 9 10 14 rfl rfl rfl (by kernel_rfl) ?_ ?_ ?_
  ·
   intro K hK
   go_simp
   replace F243 := F243.new 35 #[.int .i64 r27, .int .i64 r11, .int .i64 r11, .int .i64 0, .int .i64 0, .int .i64 0, .slice none 0 0] (n := w242.heap.size) (by simp)
   refine ru_back hK (by exact F243.q 1 0) (fun _ => ?_)
   exact hZ225.out _ _ _ (by kernel_rfl) (by kernel_rfl) rfl ⟨r27, w242.heap.size, (by first | assumption | omega), (by kernel_rfl), (by kernel_rfl), (by kernel_rfl), (by kernel_rfl), (by first | omega | (simp; done) | (simp; omega)), F243⟩
  ·
   intro K hK
   go_simp
   refine (tone_c 30 _).mono ?_
   rintro e w247 ⟨rfl, hg245⟩
   have hg245s := hg245.size
   (try simp at hg245s)
   replace F243 := F243.gn hg245
   refine ru_back hK (by exact F243.q 0 0) (fun _ => ?_)
   clear hK K
   (try simp only [lpX])
   refine ru_p 11 ?_
   (try simp only [lpX])
   exact hZ212.out _ _ _ (by kernel_rfl) (by kernel_rfl) rfl ⟨r27, (by first | assumption | omega), by (iterate 5 refine ⟨by kernel_rfl, ?_⟩); exact ⟨(by first | omega | (simp; done) | (simp; omega)), F243⟩⟩
  intro K hK
  go_simp
  replace F243 := F243.new 42 #[.int .i64 0, .slice none 0 0, .slice none 0 0, .slice none 0 0, .slice none 0 0] (n := w242.heap.size) (by simp)
  refine ru_back hK (by exact F243.q 1 0) (fun _ => ?_)
  exact hZ233.out _ _ _ (by kernel_rfl) (by kernel_rfl) rfl ⟨r27, w242.heap.size, (by first | assumption | omega), by (iterate 5 refine ⟨by kernel_rfl, ?_⟩); exact ⟨(by first | omega | (simp; done) | (simp; omega)), F243⟩⟩
 intro hZ241
 refine ru_state 134 (fun t w_ => ∃ (r27 : Int) (yg14 : Nat), (0 <= r27 /\ (r27 < (n : Int) ∨ r27 = 0)) /\ t 4 = .pointer (some ⟨w15.heap.size, 0, none⟩) /\ t 5 = .int .i64 r11 /\ t 6 = .pointer (some ⟨yg14, 0, none⟩) /\ t 24 = .int .i64 (n : Int) /\ t 28 = .int .i64 r27 /\ t 29 = .int .i64 r11 /\ w20.heap.size <= w_.heap.size /\ Bun w [rbox yg14 42 #[.int .i64 0, .slice none 0 0, .slice none 0 0, .slice none 0 0, .slice none 0 0], rbox w15.heap.size 27 #[.int .i64 (n : Int), .slice aN ls.length cN], rsl lgEnc 5 loN hiN (.slice aN ls.length cN) ls, rseed sb, rsl intEnc 1 0 w.heap.size (.slice na zs.length nc) zs] w_) #[true, true, true, true, true, true, true, false, false, false, false, false, false, false, true, false] 8 ?st250 ?nx250
 case st250 =>
  rintro t w251 ⟨r27, yg14, hr28, e4, e5, e6, e24, e28, e29, hsz250, F252⟩
  clear F23
  rw [rng_paths_walk t, e4, e5, e6, e24, e28, e29]
  clear e4 e5 e6 e24 e28 e29
  have hws250 := F252.gb.size
  have yg14l := F252.ltAt 0 rfl yg14 rfl
  have yg14b := yg14l.2 rfl
  refine ru_one 7 rfl (by kernel_rfl) (fun K hK => ?_)
  go_simp
  refine (tone_c r11 _).mono ?_
  rintro e w255 ⟨rfl, hg253⟩
  have hg253s := hg253.size
  (try simp at hg253s)
  replace F252 := F252.gn hg253
  refine ru_back hK (by exact F252.q 1 0) (fun _ => ?_)
  clear hK K
  (try simp only [lpX])
  refine ru_p 8 ?_
  (try simp only [lpX])
  exact hZ233.out _ _ _ (by kernel_rfl) (by kernel_rfl) rfl ⟨r27, yg14, (by first | assumption | omega), by (iterate 5 refine ⟨by kernel_rfl, ?_⟩); exact ⟨(by first | omega | (simp; done) | (simp; omega)), F252⟩⟩
 intro hZ250
 refine ru_state 134 (fun t w_ => ∃ (r27 : Int), (0 <= r27 /\ (r27 < (n : Int) ∨ r27 = 0)) /\ t 4 = .pointer (some ⟨w15.heap.size, 0, none⟩) /\ t 5 = .int .i64 r11 /\ t 24 = .int .i64 (n : Int) /\ t 28 = .int .i64 r27 /\ t 29 = .int .i64 r11 /\ w20.heap.size <= w_.heap.size /\ Bun w [rbox w15.heap.size 27 #[.int .i64 (n : Int), .slice aN ls.length cN], rsl lgEnc 5 loN hiN (.slice aN ls.length cN) ls, rseed sb, rsl intEnc 1 0 w.heap.size (.slice na zs.length nc) zs] w_) #[true, true, true, true, true, true, true, false, false, false, false, false, false, false, false, false] 9 ?st257 ?nx257
 case st257 =>
  rintro t w258 ⟨r27, hr28, e4, e5, e24, e28, e29, hsz257, F259⟩
  clear F23
  rw [rng_paths_walk t, e4, e5, e24, e28, e29]
  clear e4 e5 e24 e28 e29
  have hws257 := F259.gb.size
  refine ru_two 7 14 rfl rfl (by kernel_rfl) ?_ ?_
  ·
   intro K hK
   go_simp
   refine (tone_c r11 _).mono ?_
   rintro e w262 ⟨rfl, hg260⟩
   have hg260s := hg260.size
   (try simp at hg260s)
   replace F259 := F259.gn hg260
   refine ru_back hK (by exact F259.q 0 0) (fun _ => ?_)
   clear hK K
   (try simp only [lpX])
   refine ru_p 8 ?_
   (try simp only [lpX])
   exact hZ241.out _ _ _ (by kernel_rfl) (by kernel_rfl) rfl ⟨r27, (by first | assumption | omega), (by kernel_rfl), (by kernel_rfl), (by kernel_rfl), (by kernel_rfl), (by first | omega | (simp; done) | (simp; omega)), F259⟩
  intro K hK
  go_simp
  replace F259 := F259.new 42 #[.int .i64 0, .slice none 0 0, .slice none 0 0, .slice none 0 0, .slice none 0 0] (n := w258.heap.size) (by simp)
  refine ru_back hK (by exact F259.q 1 0) (fun _ => ?_)
  exact hZ250.out _ _ _ (by kernel_rfl) (by kernel_rfl) rfl ⟨r27, w258.heap.size, (by first | assumption | omega), by (iterate 6 refine ⟨by kernel_rfl, ?_⟩); exact ⟨(by first | omega | (simp; done) | (simp; omega)), F259⟩⟩
 intro hZ257
 refine ru_state 134 (fun t w_ => ∃ (yg14 : Nat), t 4 = .pointer (some ⟨w15.heap.size, 0, none⟩) /\ t 5 = .int .i64 r11 /\ t 6 = .pointer (some ⟨yg14, 0, none⟩) /\ t 24 = .int .i64 (n : Int) /\ t 25 = .pointer (some ⟨sb, 0, none⟩) /\ t 27 = .int .i64 (n : Int) /\ t 29 = .int .i64 r11 /\ w20.heap.size <= w_.heap.size /\ Bun w [rbox yg14 42 #[.int .i64 0, .slice none 0 0, .slice none 0 0, .slice none 0 0, .slice none 0 0], rbox w15.heap.size 27 #[.int .i64 (n : Int), .slice aN ls.length cN], rsl lgEnc 5 loN hiN (.slice aN ls.length cN) ls, rseed sb, rsl intEnc 1 0 w.heap.size (.slice na zs.length nc) zs] w_) #[true, true, true, true, true, false, true, false, false, false, false, false, false, false, true, false] 9 ?st265 ?nx265
 case st265 =>
  rintro t w266 ⟨yg14, e4, e5, e6, e24, e25, e27, e29, hsz265, F267⟩
  clear F23
  rw [rng_paths_walk t, e4, e5, e6, e24, e25, e27, e29]
  clear e4 e5 e6 e24 e25 e27 e29
  have hws265 := F267.gb.size
  have yg14l := F267.ltAt 0 rfl yg14 rfl
  have yg14b := yg14l.2 rfl
  refine ru_one 5 rfl (by kernel_rfl) (fun K hK => ?_)
  go_simp
  refine (below_c sb (n : Int) _ (F267.at 3 rfl : SeedAt _ sb) (by omega) (by omega)).mono ?_
  rintro e w272 ⟨r268, rfl, hr269, hs271, hg270⟩
  unfold belowR at hr269
  have hg270s := hg270.size
  (try simp at hg270s)
  replace F267 := F267.seedAt 3 rfl hg270 hs271
  refine ru_back hK (by exact F267.q 1 0) (fun _ => ?_)
  exact hZ250.out _ _ _ (by kernel_rfl) (by kernel_rfl) rfl ⟨r268, yg14, (by first | assumption | omega), by (iterate 6 refine ⟨by kernel_rfl, ?_⟩); exact ⟨(by first | omega | (simp; done) | (simp; omega)), F267⟩⟩
 intro hZ265
 refine ru_two 5 14 rfl rfl (by kernel_rfl) ?_ ?_
 ·
  intro K hK
  go_simp
  refine (below_c sb (n : Int) _ (F23.at 2 rfl : SeedAt _ sb) (by omega) (by omega)).mono ?_
  rintro e w278 ⟨r274, rfl, hr275, hs277, hg276⟩
  unfold belowR at hr275
  have hg276s := hg276.size
  (try simp at hg276s)
  replace F23 := F23.seedAt 2 rfl hg276 hs277
  refine ru_back hK (by exact F23.q 0 0) (fun _ => ?_)
  exact hZ257.out _ _ _ (by kernel_rfl) (by kernel_rfl) rfl ⟨r274, (by first | assumption | omega), by (iterate 5 refine ⟨by kernel_rfl, ?_⟩); exact ⟨(by first | omega | (simp; done) | (simp; omega)), F23⟩⟩
 intro K hK
 go_simp
 replace F23 := F23.new 42 #[.int .i64 0, .slice none 0 0, .slice none 0 0, .slice none 0 0, .slice none 0 0] (n := wd26.heap.size) (by simp)
 refine ru_back hK (by exact F23.q 1 0) (fun _ => ?_)
 exact hZ265.out _ _ _ (by kernel_rfl) (by kernel_rfl) rfl ⟨wd26.heap.size, by (iterate 7 refine ⟨by kernel_rfl, ?_⟩); exact ⟨(by first | omega | (simp; done) | (simp; omega)), F23⟩⟩
end Go.Proofs.Ytlefmbjipdlcfaa
