/- frost: Flood. -/
import Derived.Test.YtcoldeolmleeiaaGreatKKF1
import Derived.Test.YtcoldeolmleeiaaGreatKGG8
import Derived.Test.YtcoldeolmleeiaaGreatKKC
import Derived.Test.YtcoldeolmleeiaaGreatKK1
set_option linter.unusedVariables false
set_option linter.unusedSimpArgs false
set_option linter.unnecessarySimpa false
namespace Go.Proofs.YtcoldeolmleeiaaGreat
open Go.RowKit
set_option maxRecDepth 100000
open Go.Shelf
attribute [local go_sem] Oper.semAt_some
def setW (l : List Wea) (m : Nat) (n : Int) : List Wea := match l[m]? with | some d => l.set m ⟨d.cold, d.fall, n, d.clear⟩ | none => l
theorem setW_len (l : List Wea) (m : Nat) (n : Int) : (setW l m n).length = l.length := by unfold setW; split <;> simp
theorem setW_at {l : List Wea} {m : Nat} {z : Wea} (h : l[m]? = some z) (n : Int) : l.set m ⟨z.cold, z.fall, n, z.clear⟩ = setW l m n := by unfold setW; rw [h]
theorem setW_again (l : List Wea) (m : Nat) (a b : Int) : setW (setW l m a) m b = setW l m b := by
 unfold setW
 cases h : l[m]? with
 | none => simp [h]
 | some d =>
  have hm := (List.getElem?_eq_some_iff.1 h).1
  simp [List.getElem?_set_self hm]
theorem setW_mem {l : List Wea} {m : Nat} {n : Int} {d : Wea} (h : d ∈ setW l m n) : d ∈ l ∨ ∃ z ∈ l, d = ⟨z.cold, z.fall, n, z.clear⟩ := by
 unfold setW at h
 split at h
 ·
  rename_i z hz
  rcases List.mem_or_eq_of_mem_set h with h | h
  · exact .inl h
  · exact .inr ⟨z, List.mem_of_getElem? hz, h⟩
 · exact .inl h
theorem setW_ok {l : List Wea} {m : Nat} {n : Int} (h : ∀ d ∈ l, WeaOk d) (hn : 0 <= n /\ n <= 200) : ∀ d ∈ setW l m n, WeaOk d := fun d hd => by
 rcases setW_mem hd with hd | ⟨z, hz, rfl⟩
 · exact h d hd
 · exact ⟨(h z hz).cold, (h z hz).fall, hn⟩
noncomputable def dryB (l : Fro) (x : Ice) (dl : List Wea) : Bool := decide ((stI l x dl dl.length).we.hi = 0)
def grtP (p : Nat -> Bool) : Nat -> Int
 | 0 => -1
 | c + 1 => if p c = true then (c : Int) else grtP p c
theorem grtP_step {q : Int -> Bool} {n : Int} (h : 0 <= n) : grtP (fun k => q (k : Int)) (n + 1).toNat = if q n = true then n else grtP (fun k => q (k : Int)) (n - 1 + 1).toNat := by
 obtain ⟨k, rfl⟩ : ∃ k : Nat, n = (k : Int) := ⟨n.toNat, by omega⟩
 rw [show ((k : Int) + 1).toNat = k + 1 by omega, show ((k : Int) - 1 + 1).toNat = k by omega]
 rfl
noncomputable def floodE (l : Fro) (x : Ice) (dl : List Wea) (att most : Int) : Int := if ¬ allE l x dl = 0 then allE l x dl else if att < 1 ∨ (dl.length : Int) < att ∨ most < 0 ∨ 200 < most then 2 else 0
noncomputable def floodI (l : Fro) (x : Ice) (dl : List Wea) (att most : Int) : Int := if floodE l x dl att most = 0 then grtP (fun n => dryB l x (setW dl (att - 1).toNat (n : Int))) (most.toNat + 1) else 0
set_option maxHeartbeats 16000000 in
theorem flood_c (lo hi : Nat) (v : Value) (l : Fro) (x : Ice) (lo2 hi2 : Nat) (vd : Value) (dl : List Wea) (att most : Int) (w : World) (hl : Sl covEnc 3 lo hi w v l.cov) (h2 : hi <= w.heap.size) (hl2 : Sl weaEnc 6 lo2 hi2 w vd dl) (h22 : hi2 <= w.heap.size) :
  Calls Tryz.prog 59 #[.agg (froC l v), .agg (iceC x), vd, .int .i64 att, .int .i64 most] w (Ret (.tuple #[.int .i64 (floodI l x dl att most), .int .i64 (floodE l x dl att most)]) w) := by
 have F1 : Bun w [] w := Bun.nil _
 have hm_cs := hl.len
 unfold maxLen at hm_cs
 obtain ⟨sa, sc, rfl⟩ := hl.any
 replace F1 := F1.sl0 hl h2 rfl
 clear hl
 have hm_ds := hl2.len
 unfold maxLen at hm_ds
 obtain ⟨da, dc, rfl⟩ := hl2.any
 replace F1 := F1.sl0 hl2 h22 rfl
 clear hl2
 replace F1 := F1.marks0
 refine callsIn_wide.1 (callsIn_of_wp_marks (n := 0) Tryz.func59 rfl trivial ?_ rfl)
 simp only [Tryz.ntmps59, List.size_toArray, List.length_cons, List.length_nil, Nat.reduceAdd, Nat.reduceSub, Array.replicate_succ, Array.replicate_zero, List.push_toArray, List.append_toArray, List.nil_append, List.cons_append]
 refine wpIn_wide.2 ?_
 refine wp_mono (Q := calmQ _) ?_ calmQ_le
 go_wp2_with fail
 replace F1 := F1.new 78 (froC l (.slice sa l.cov.length sc)) (n := w.heap.size) (by simp)
 replace F1 := F1.new 84 (iceC x) (n := (w.heap.size + 1)) (by simp)
 refine (checkAll_c lo hi _ l x lo2 hi2 _ dl _ (F1.s 4 rfl) (Nat.le_trans h2 F1.gb.size) (F1.s 3 rfl) (Nat.le_trans h22 F1.gb.size)).mono ?_
 rintro e w9 ⟨rfl, hg7⟩
 have hg7s := hg7.size
 (try simp at hg7s)
 replace F1 := F1.gn hg7
 clear hg7
 by_cases c11 : allE l x dl = 0
 ·
  obtain ⟨c11a, c11b⟩ := bqt c11
  have c11H := lhd c11
  clear c11
  have HOK := lhd (allOk c11H.out)
  have hn4 := HOK.out.2.2.2.1
  by_cases c12 : att < 1
  ·
   have c12H := lhd c12
   have Hx13 := lhd (show (floodI l x dl att most) = 0 by rw [floodI, if_neg (by rw [floodE, if_neg (not_not_intro c11H.out), if_pos (by have := c12H.out; omega)]; omega)])
   have Hx14 := lhd (show (floodE l x dl att most) = 2 by rw [floodE, if_neg (not_not_intro c11H.out), if_pos (by have := c12H.out; omega)])
   go_wp2_with fail
   refine leave_marks (F1.front 2 rfl rfl).marks (.tuple #[.int .i64 0, .int .i64 2]) fun w' hs => ?_
   exact ⟨by simp [results, Tryz.results59, go_sem], ⟨by rw [Hx13.out, Hx14.out] <;> rfl, hs.gb (F1.front 2 rfl rfl).gb (Nat.le_refl _)⟩⟩
  have c12H := lhd c12
  have c12a := dec_f c12
  by_cases c15 : (dl.length : Int) < att
  ·
   have c15H := lhd c15
   have Hx16 := lhd (show (floodI l x dl att most) = 0 by rw [floodI, if_neg (by rw [floodE, if_neg (not_not_intro c11H.out), if_pos (by have := c12H.out; have := c15H.out; omega)]; omega)])
   have Hx17 := lhd (show (floodE l x dl att most) = 2 by rw [floodE, if_neg (not_not_intro c11H.out), if_pos (by have := c12H.out; have := c15H.out; omega)])
   go_wp2_with fail
   refine leave_marks (F1.front 2 rfl rfl).marks (.tuple #[.int .i64 0, .int .i64 2]) fun w' hs => ?_
   exact ⟨by simp [results, Tryz.results59, go_sem], ⟨by rw [Hx16.out, Hx17.out] <;> rfl, hs.gb (F1.front 2 rfl rfl).gb (Nat.le_refl _)⟩⟩
  have c15H := lhd c15
  have c15a := dec_f c15
  by_cases c18 : most < 0
  ·
   have c18H := lhd c18
   have Hx19 := lhd (show (floodI l x dl att most) = 0 by rw [floodI, if_neg (by rw [floodE, if_neg (not_not_intro c11H.out), if_pos (by have := c12H.out; have := c15H.out; have := c18H.out; omega)]; omega)])
   have Hx20 := lhd (show (floodE l x dl att most) = 2 by rw [floodE, if_neg (not_not_intro c11H.out), if_pos (by have := c12H.out; have := c15H.out; have := c18H.out; omega)])
   go_wp2_with fail
   refine leave_marks (F1.front 2 rfl rfl).marks (.tuple #[.int .i64 0, .int .i64 2]) fun w' hs => ?_
   exact ⟨by simp [results, Tryz.results59, go_sem], ⟨by rw [Hx19.out, Hx20.out] <;> rfl, hs.gb (F1.front 2 rfl rfl).gb (Nat.le_refl _)⟩⟩
  have c18H := lhd c18
  have c18a := dec_f c18
  by_cases c21 : 200 < most
  ·
   have c21H := lhd c21
   have Hx22 := lhd (show (floodI l x dl att most) = 0 by rw [floodI, if_neg (by rw [floodE, if_neg (not_not_intro c11H.out), if_pos (by have := c12H.out; have := c15H.out; have := c18H.out; have := c21H.out; omega)]; omega)])
   have Hx23 := lhd (show (floodE l x dl att most) = 2 by rw [floodE, if_neg (not_not_intro c11H.out), if_pos (by have := c12H.out; have := c15H.out; have := c18H.out; have := c21H.out; omega)])
   go_wp2_with fail
   refine leave_marks (F1.front 2 rfl rfl).marks (.tuple #[.int .i64 0, .int .i64 2]) fun w' hs => ?_
   exact ⟨by simp [results, Tryz.results59, go_sem], ⟨by rw [Hx22.out, Hx23.out] <;> rfl, hs.gb (F1.front 2 rfl rfl).gb (Nat.le_refl _)⟩⟩
  have c21H := lhd c21
  have c21a := dec_f c21
  have HFE : Hid (floodE l x dl att most = 0) := lhd (by rw [floodE, if_neg (not_not_intro c11H.out), if_neg (by have := c12H.out; have := c15H.out; have := c18H.out; have := c21H.out; omega)])
  have hra : (1 <= att /\ att <= (dl.length : Int)) /\ 0 <= most /\ most <= 200 := by have := c12H.out; have := c15H.out; have := c18H.out; have := c21H.out; omega
  obtain ⟨m, hm⟩ : ∃ m : Nat, att = (m : Int) + 1 := ⟨(att - 1).toNat, by omega⟩
  have hmL : m < dl.length := by omega
  have hwm : IntKind.i64.wrap (att - 1) = (m : Int) := by rw [show att - 1 = (m : Int) by omega]; exact IntWalk.i64_in _ (by omega)
  have HFI : Hid (floodI l x dl att most = grtP (fun k : Nat => dryB l x (setW dl m (k : Int))) (most.toNat + 1)) := lhd (by rw [floodI, if_pos HFE.out, show (att - 1).toNat = m by omega])
  have hm0 : (0 : Int) <= (m : Int) := by omega
  have hmL2 : (m : Int) < (dl.length : Int) := by omega
  have Hm := lhd hm
  clear hm
  go_wp2_with (at_builtin; refine wpList_copyB okWea rfl _ _ rfl w.heap.size w9.heap.size rfl (F1.new 61 #[] (n := w9.heap.size) (by simp)) (by first | omega | (simp; omega)) lo2 hi2 (.slice da dl.length dc) dl rfl ((F1.new 61 #[] (n := w9.heap.size) (by simp)).at 4 rfl) (by omega) ?_; intro vc24 w25 hB26 hs27; refine Hid.out ?_)
  refine lhd ?_
  (try simp at hs27)
  have F28 := hB26
  clear F1
  obtain ⟨g29, cap30, e_⟩ := Own.opn (F28.o 0 rfl) (by omega)
  subst e_
  have g29l := (F28.ltAt 0 rfl _ rfl).1
  go_wp2_with fail
  obtain ⟨HI31_, HI310⟩ : ∃ I : RelT, I = (fun t ds wr => ∃ (n : Int) (ll : List Wea) (Dm : List Nat), t 3 = .int .i64 att /\ t 5 = .pointer (some ⟨w.heap.size, 0, none⟩) /\ t 6 = .pointer (some ⟨w.heap.size + 1, 0, none⟩) /\ t 13 = .slice (some ⟨g29, 0, none⟩) dl.length cap30 /\ t 14 = .int .i64 n /\ (-1 <= n /\ n <= most) /\ (∀ k, setW ll m k = setW dl m k) /\ ll.length <= dl.length /\ dl.length <= ll.length /\ grtP (fun k : Nat => dryB l x (setW dl m (k : Int))) (most.toNat + 1) = grtP (fun k : Nat => dryB l x (setW dl m (k : Int))) (n + 1).toNat /\ ds = Dm.map mkD /\ w25.heap.size <= wr.heap.size /\ Bun w [rown weaEnc 61 6 w.heap.size (.slice (some ⟨g29, 0, none⟩) dl.length cap30) ll, rbox (w.heap.size + 1) 84 (iceC x), rbox w.heap.size 78 (froC l (.slice sa l.cov.length sc)), rmarks Dm, rsl weaEnc 6 lo2 hi2 (.slice da dl.length dc) dl, rsl covEnc 3 lo hi (.slice sa l.cov.length sc) l.cov] wr) := ⟨_, rfl⟩
  have HI31 := lhd HI310
  clear HI310
  refine wp_loopS 70 rfl HI31_ (fun t wr => (intOf (t 14) + 1).toNat) ?atStart1 ?round1
  case round1 =>
   intro t ds wr hHid
   rw [HI31.out] at hHid
   obtain ⟨n, ll, Dm, e3, e5, e6, e13, e14, hrel⟩ := hHid
   have e : ((List.range 70).map t).toArray = #[t 0, t 1, t 2, t 3, t 4, t 5, t 6, t 7, t 8, t 9, t 10, t 11, t 12, t 13, t 14, t 15, t 16, t 17, t 18, t 19, t 20, t 21, t 22, t 23, t 24, t 25, t 26, t 27, t 28, t 29, t 30, t 31, t 32, t 33, t 34, t 35, t 36, t 37, t 38, t 39, t 40, t 41, t 42, t 43, t 44, t 45, t 46, t 47, t 48, t 49, t 50, t 51, t 52, t 53, t 54, t 55, t 56, t 57, t 58, t 59, t 60, t 61, t 62, t 63, t 64, t 65, t 66, t 67, t 68, t 69] := rfl
   (try dsimp only at e)
   rw [e3, e5, e6, e13, e14] at e
   rw [e]
   simp only [e14]
   clear e e3 e5 e6 e13 e14
   obtain ⟨hnn, hll, hle1, hle2, hg_, rfl, hs33, hF32⟩ := hrel
   clear F28
   obtain ⟨w34, rfl⟩ : ∃ x_ : World, x_ = wr := ⟨_, rfl⟩
   have HLL := lhd hll
   have HG := lhd hg_
   clear hll hg_
   by_cases c35 : 0 <= n
   ·
    have c35H := lhd c35
    obtain ⟨z, hz36_⟩ : ∃ z_, ll[m]? = some z_ := ⟨_, List.getElem?_eq_getElem (by omega)⟩
    have hz36 := lhd hz36_
    clear hz36_
    have HFO : Hid (LawOk l /\ iceErr x = 0 /\ IceK x 0 0 /\ (setW dl m n).length <= 400 /\ ∀ d ∈ (setW dl m n), WeaOk d) := lhd ⟨HOK.out.1, HOK.out.2.1, HOK.out.2.2.1, by rw [setW_len]; exact HOK.out.2.2.2.1, setW_ok HOK.out.2.2.2.2 (by omega)⟩
    have hfl1 : (setW dl m n).length <= dl.length := Nat.le_of_eq (setW_len _ _ _)
    have hfl2 : dl.length <= (setW dl m n).length := Nat.le_of_eq (setW_len _ _ _).symm
    have b37 := hF32.bx8 1 rfl
    have ge38 : World.cell? _ ⟨g29, m * 6 + 4, none⟩ = some (.int .i64 z.water) := (by simpa using (Own.sl (hF32.o 0 rfl) (fun _ => rfl)).cells hz36.out 4 _ rfl)
    have gl39 := cell_lt ge38
    have ge40 : World.frozen? _ ⟨g29, m * 6 + 4, none⟩ = false := Own.live (hF32.o 0 rfl) _
    have hne41 : ¬ g29 = (w.heap.size + 1) := hF32.neAt 0 1 rfl rfl (by decide) (.inl rfl) g29 rfl
    have hne41s : ¬ (w.heap.size + 1) = g29 := fun e => hne41 e.symm
    go_wp2_with fail
    clear b37 ge38 gl39 ge40 hne41 hne41s
    have F42 := Bun.setOwn (sz := 6) (fun _ => rfl) hF32 hz36.out (y := (⟨z.cold, z.fall, n, z.clear⟩ : Wea)) (j := 4) (u := (.int .i64 n)) (by decide) rfl rfl
    clear hF32
    have eW_ : ll.set m (⟨z.cold, z.fall, n, z.clear⟩ : Wea) = (setW dl m n) := ((setW_at hz36.out n).trans (HLL.out n))
    rw [eW_] at F42
    clear eW_
    refine (layersOf_c x _).mono ?_
    rintro e w45 ⟨rfl, hg43⟩
    have hg43s := hg43.size
    (try simp at hg43s)
    replace F42 := F42.gn hg43
    clear hg43
    have b48 := F42.bx8 2 rfl
    go_wp2_with fail
    clear b48
    replace F42 := F42.new 142 (iceC x) (n := w45.heap.size) (by simp)
    refine (course_e lo hi _ _ _ _ l x _ (F42.s 6 rfl) (Nat.le_trans h2 F42.gb.size)).mono ?_
    rintro e w52 ⟨pd47, pd47e, rfl, hg50, hX47⟩
    have hg50s := hg50.size
    (try simp at hg50s)
    replace F42 := F42.add (rext pd47 (pd47 + 3) (HoldX pd47 (.slice sa l.cov.length sc) (.slice (some ⟨g29, 0, none⟩) dl.length cap30) l x) (fun _ _ _ hg hr h => h.gb hg hr)) hg50 (hX47) (rext_in (by rw [← pd47e]; exact Nat.le_refl _) hX47.2.2.lt)
    clear hg50
    go_wp2_with fail
    have hgpd : g29 + 1 <= pd47 := by first | omega | (simp at *; omega)
    have hipd : hi <= pd47 := by first | omega | (simp at *; omega)
    refine wp_rangeI (gf := 87) (lb := #[.pointer (some ⟨pd47 + 1, 0, none⟩), .pointer (some ⟨pd47 + 2, 0, none⟩), .pointer (some ⟨pd47, 0, none⟩)]) rfl (enters_of Tryz.func87 (by kernel_rfl) rfl) (fun _ => rfl) (course_seq pd47 lo hi g29 (g29 + 1) (.slice sa l.cov.length sc) (.slice (some ⟨g29, 0, none⟩) dl.length cap30) l x (setW dl m n) HOK.out.1 HOK.out.2.2.1 HFO.out.2.2.2.2 HFO.out.2.2.2.1) (fun hq_ i A => Bun w [rkeep w52.heap.size hq_ A, rext pd47 (pd47 + 3) (HoldX pd47 (.slice sa l.cov.length sc) (.slice (some ⟨g29, 0, none⟩) dl.length cap30) l x) (fun _ _ _ hg hr h => h.gb hg hr), rbox w45.heap.size 142 #[.int .i64 ((stI l x (setW dl m n) i).bl.lo), .int .i64 ((stI l x (setW dl m n) i).bl.hi), .int .i64 ((stI l x (setW dl m n) i).wh.lo), .int .i64 ((stI l x (setW dl m n) i).wh.hi), .int .i64 ((stI l x (setW dl m n) i).we.lo), .int .i64 ((stI l x (setW dl m n) i).we.hi), .int .i64 ((stI l x (setW dl m n) i).sn.lo), .int .i64 ((stI l x (setW dl m n) i).sn.hi)], rown weaEnc 61 6 w.heap.size (.slice (some ⟨g29, 0, none⟩) dl.length cap30) (setW dl m n), rbox (w.heap.size + 1) 84 (iceC x), rbox w.heap.size 78 (froC l (.slice sa l.cov.length sc)), rmarks Dm, rsl weaEnc 6 lo2 hi2 (.slice da dl.length dc) dl, rsl covEnc 3 lo hi (.slice sa l.cov.length sc) l.cov] A) (fun _ _ _ _ => False) ?hI54 ?hIx54 ?hH54 ?h054 ?round54 ?done54 ?stop54
    case hI54 =>
     rintro hq_ i A B r F_ hg hr
     exact F_.rekeep hg hr
    case hIx54 => exact fun _ _ _ _ _ _ h _ _ => h
    case hH54 =>
     rintro hq_ i A F_
     exact ⟨⟨(F_.at 1 rfl : HoldX _ _ _ _ _ _).1, (F_.at 1 rfl : HoldX _ _ _ _ _ _).2.1, (F_.at 1 rfl : HoldX _ _ _ _ _ _).2.2, (F_.s 8 rfl), Own.slG (F_.o 3 rfl) (fun _ => rfl), (by omega), (by omega)⟩, F_.kept.1⟩
    case h054 =>
     intro hq_ B hg hs hle
     exact F42.keep0 hg (Nat.le_refl _) (by omega)
    case round54 =>
     rintro l54 hi54 i W54 F54_ hlt54 hle54 hhW54
     clear F42
     (try simp only [iceC])
     gi_wp2_with fail
     have F55 := F54_.new 142 #[.int .i64 ((stI l x (setW dl m n) (i + 1)).bl.lo), .int .i64 ((stI l x (setW dl m n) (i + 1)).bl.hi), .int .i64 ((stI l x (setW dl m n) (i + 1)).wh.lo), .int .i64 ((stI l x (setW dl m n) (i + 1)).wh.hi), .int .i64 ((stI l x (setW dl m n) (i + 1)).we.lo), .int .i64 ((stI l x (setW dl m n) (i + 1)).we.hi), .int .i64 ((stI l x (setW dl m n) (i + 1)).sn.lo), .int .i64 ((stI l x (setW dl m n) (i + 1)).sn.hi)] (n := W54.heap.size) (by simp)
     clear F54_
     refine And.intro (F55.front 1 rfl rfl).kept (fun W54b hg54b => ?_)
     have hg54bs := hg54b.size
     (try simp at hg54bs)
     have F56 := (F55.front 1 rfl rfl).rekeep hg54b (fun g e => by cases e; omega)
     clear F55
     have b57 := F56.bx8 1 rfl
     have b58 := F56.bx8 3 rfl
     gi_wp2_with fail
     clear b57 b58
     have F59 := (F56.front 3 rfl rfl).pt8 (.int .i64 ((stI l x (setW dl m n) (i + 1)).bl.lo)) (.int .i64 ((stI l x (setW dl m n) (i + 1)).bl.hi)) (.int .i64 ((stI l x (setW dl m n) (i + 1)).wh.lo)) (.int .i64 ((stI l x (setW dl m n) (i + 1)).wh.hi)) (.int .i64 ((stI l x (setW dl m n) (i + 1)).we.lo)) (.int .i64 ((stI l x (setW dl m n) (i + 1)).we.hi)) (.int .i64 ((stI l x (setW dl m n) (i + 1)).sn.lo)) (.int .i64 ((stI l x (setW dl m n) (i + 1)).sn.hi))
     clear F56
     have F60 : Bun w [rkeep w52.heap.size hi54 W54b, rext pd47 (pd47 + 3) (HoldX pd47 (.slice sa l.cov.length sc) (.slice (some ⟨g29, 0, none⟩) dl.length cap30) l x) (fun _ _ _ hg hr h => h.gb hg hr), rbox w45.heap.size 142 #[.int .i64 ((stI l x (setW dl m n) (i + 1)).bl.lo), .int .i64 ((stI l x (setW dl m n) (i + 1)).bl.hi), .int .i64 ((stI l x (setW dl m n) (i + 1)).wh.lo), .int .i64 ((stI l x (setW dl m n) (i + 1)).wh.hi), .int .i64 ((stI l x (setW dl m n) (i + 1)).we.lo), .int .i64 ((stI l x (setW dl m n) (i + 1)).we.hi), .int .i64 ((stI l x (setW dl m n) (i + 1)).sn.lo), .int .i64 ((stI l x (setW dl m n) (i + 1)).sn.hi)], rown weaEnc 61 6 w.heap.size (.slice (some ⟨g29, 0, none⟩) dl.length cap30) (setW dl m n), rbox (w.heap.size + 1) 84 (iceC x), rbox w.heap.size 78 (froC l (.slice sa l.cov.length sc)), rmarks Dm, rsl weaEnc 6 lo2 hi2 (.slice da dl.length dc) dl, rsl covEnc 3 lo hi (.slice sa l.cov.length sc) l.cov] _ := F59.pick [1, 3, 0, 4, 5, 6, 7, 8, 9] (by decide) rfl
     clear F59
     refine And.intro F60.kept ?_
     exact F60.rekeep (gb_refl _ none) (fun _ e => by cases e)
    case done54 =>
     rintro hi54 W54 hle54 F54_ hK54
     clear F42
     have F61 : Bun w [rkeep w52.heap.size hi54 W54, rmarks Dm, rext pd47 (pd47 + 3) (HoldX pd47 (.slice sa l.cov.length sc) (.slice (some ⟨g29, 0, none⟩) dl.length cap30) l x) (fun _ _ _ hg hr h => h.gb hg hr), rbox w45.heap.size 142 #[.int .i64 ((stI l x (setW dl m n) ((setW dl m n).length)).bl.lo), .int .i64 ((stI l x (setW dl m n) ((setW dl m n).length)).bl.hi), .int .i64 ((stI l x (setW dl m n) ((setW dl m n).length)).wh.lo), .int .i64 ((stI l x (setW dl m n) ((setW dl m n).length)).wh.hi), .int .i64 ((stI l x (setW dl m n) ((setW dl m n).length)).we.lo), .int .i64 ((stI l x (setW dl m n) ((setW dl m n).length)).we.hi), .int .i64 ((stI l x (setW dl m n) ((setW dl m n).length)).sn.lo), .int .i64 ((stI l x (setW dl m n) ((setW dl m n).length)).sn.hi)], rown weaEnc 61 6 w.heap.size (.slice (some ⟨g29, 0, none⟩) dl.length cap30) (setW dl m n), rbox (w.heap.size + 1) 84 (iceC x), rbox w.heap.size 78 (froC l (.slice sa l.cov.length sc)), rsl weaEnc 6 lo2 hi2 (.slice da dl.length dc) dl, rsl covEnc 3 lo hi (.slice sa l.cov.length sc) l.cov] _ := F54_.pick [0, 6, 1, 2, 3, 4, 5, 7, 8] (by decide) rfl
     clear F54_
     have hiW54 := F61.kept.1
     replace F61 := F61.mark (by omega) hK54
     by_cases c63 : (stI l x (setW dl m n) ((setW dl m n).length)).we.hi = 0
     ·
      obtain ⟨c63a, c63b⟩ := bqt c63
      have c63H := lhd c63
      clear c63
      have Hx64 := lhd (show (floodI l x dl att most) = n by rw [HFI.out, HG.out, grtP_step (q := (fun k : Int => dryB l x (setW dl m k))) (by omega), if_pos (by simp only [dryB]; exact decide_eq_true c63H.out)])
      have Hx65 := lhd (show (floodE l x dl att most) = 0 by exact HFE.out)
      have b66 := F61.bx8 2 rfl
      go_wp2_with fail
      clear b66
      refine leave_marks F61.marks (.tuple #[.int .i64 n, .int .i64 0]) fun w' hs => ?_
      exact ⟨by simp [results, Tryz.results59, go_sem], ⟨by rw [Hx64.out, Hx65.out] <;> rfl, hs.gb F61.gb (Nat.le_refl _)⟩⟩
     obtain ⟨c63a, c63b⟩ := bqf c63
     have c63H := lhd c63
     clear c63
     have b67 := F61.bx8 2 rfl
     go_wp2_with fail
     clear b67
     have F68 : Bun w [rown weaEnc 61 6 w.heap.size (.slice (some ⟨g29, 0, none⟩) dl.length cap30) (setW dl m n), rbox (w.heap.size + 1) 84 (iceC x), rbox w.heap.size 78 (froC l (.slice sa l.cov.length sc)), rmarks (w52.heap.size :: Dm), rsl weaEnc 6 lo2 hi2 (.slice da dl.length dc) dl, rsl covEnc 3 lo hi (.slice sa l.cov.length sc) l.cov] _ := F61.pick [3, 4, 5, 0, 6, 7] (by decide) rfl
     clear F61
     (first | refine ⟨by kernel_rfl, ?_, ?_⟩ | refine ⟨rfl, ?_, ?_⟩ | refine ⟨?_, ?_⟩)
     · rw [HI31.out]; exact ⟨n - 1, _, (w52.heap.size :: Dm), by (iterate 5 refine ⟨by kernel_rfl, ?_⟩); exact ⟨(by omega), (fun k_ => by rw [setW_again]), (by omega), (by omega), (by rw [HG.out, grtP_step (q := (fun k : Int => dryB l x (setW dl m k))) (by omega), if_neg (by simp only [dryB]; simpa using c63H.out)]), (by first | rfl | simp), (by first | omega | (simp; done) | (simp; omega)), F68⟩⟩
     · simp [slot, intOf]; omega
    case stop54 =>
     intro _ _ _ _ _ _ h; exact h.elim
   have c35H := lhd c35
   have c35a := dec_f c35
   have Hx69 := lhd (show (floodI l x dl att most) = -1 by rw [HFI.out, HG.out, show (n + 1).toNat = 0 by omega]; rfl)
   have Hx70 := lhd (show (floodE l x dl att most) = 0 by exact HFE.out)
   go_wp2_with fail
   refine leave_marks (hF32.front 3 rfl rfl).marks (.tuple #[.int .i64 (-1), .int .i64 0]) fun w' hs => ?_
   exact ⟨by simp [results, Tryz.results59, go_sem], ⟨by rw [Hx69.out, Hx70.out] <;> rfl, hs.gb (hF32.front 3 rfl rfl).gb (Nat.le_refl _)⟩⟩
  case atStart1 =>
   rw [HI31.out]
   exact ⟨most, dl, [], (by kernel_rfl), (by kernel_rfl), (by kernel_rfl), (by kernel_rfl), rfl, (by omega), (fun _ => rfl), Nat.le_refl _, Nat.le_refl _, (by rw [show (most + 1).toNat = most.toNat + 1 by omega]), rfl, (by first | exact Nat.le_refl _ | omega | (simp; done) | (simp; omega)), F28⟩
 obtain ⟨c11a, c11b⟩ := bqf c11
 have c11H := lhd c11
 clear c11
 have Hx71 := lhd (show (floodI l x dl att most) = 0 by rw [floodI, if_neg (by rw [floodE, if_pos c11H.out]; exact c11H.out)])
 have Hx72 := lhd (show (floodE l x dl att most) = allE l x dl by rw [floodE, if_pos c11H.out])
 go_wp2_with fail
 refine leave_marks (F1.front 2 rfl rfl).marks (.tuple #[.int .i64 0, .int .i64 (allE l x dl)]) fun w' hs => ?_
 exact ⟨by simp [results, Tryz.results59, go_sem], ⟨by rw [Hx71.out, Hx72.out] <;> rfl, hs.gb (F1.front 2 rfl rfl).gb (Nat.le_refl _)⟩⟩
end Go.Proofs.YtcoldeolmleeiaaGreat
