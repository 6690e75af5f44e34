/- build: tasks in an order. -/
import Derived.Test.YtcoldeolmleeiaaGreatKGG3
import Derived.Test.YtcoldeolmleeiaaGreatKG2
import Derived.Test.YtcoldeolmleeiaaGreatKGG4
set_option linter.unusedVariables false
set_option linter.unusedSimpArgs false
set_option linter.unnecessarySimpa false
namespace Go.Proofs.YtcoldeolmleeiaaGreat
open Go.RowKit
set_option maxRecDepth 100000
attribute [local go_sem] Oper.semAt_some
theorem rgO269 (t : Nat -> Value) : ((List.range 69).map t).toArray = #[t 0, t 1, t 2, t 3, t 4, t 5, t 6, t 7, t 8, t 9, t 10, t 11, t 12, t 13, t 14, t 15, t 16, t 17, t 18, t 19, t 20, t 21, t 22, t 23, t 24, t 25, t 26, t 27, t 28, t 29, t 30, t 31, t 32, t 33, t 34, t 35, t 36, t 37, t 38, t 39, t 40, t 41, t 42, t 43, t 44, t 45, t 46, t 47, t 48, t 49, t 50, t 51, t 52, t 53, t 54, t 55, t 56, t 57, t 58, t 59, t 60, t 61, t 62, t 63, t 64, t 65, t 66, t 67, t 68] := rfl
theorem af_lenO {i : Nat} {l : List Int} (h : l.Nodup) (hl : ∀ a ∈ l, 0 <= a /\ a < (i : Int)) : l.length <= i := by
 have h2 := List.Nodup.length_le_of_subset (l₂ := (List.range i).map (fun (x : Nat) => (x : Int))) h (fun a ha => by
  have := hl a ha
  exact List.mem_map.2 ⟨a.toNat, by simp; omega, by omega⟩)
 simpa using h2
theorem ints_get {r : List Nat} {i x : Nat} (h : r[i]? = some x) : (ints r)[i]? = some (x : Int) := by rw [ints, List.getElem?_map, h]; rfl
def afP (o : List Nat) (l : List Int) (j : Nat) : List Int := (l.take j).map fun a => ((posN o a.toNat : Nat) : Int)
theorem afP_len {o : List Nat} {l : List Int} {j : Nat} (h : j <= l.length) : (afP o l j).length = j := by simp [afP, Nat.min_eq_left h]
theorem afP_next {o : List Nat} {l : List Int} {j : Nat} {y : Int} (h : l[j]? = some y) : afP o l (j + 1) = afP o l j ++ [((posN o y.toNat : Nat) : Int)] := by rw [afP, ← take_snoc h, List.map_append]; rfl
theorem afP_all (o : List Nat) (l : List Int) : afP o l l.length = l.map fun a => ((posN o a.toNat : Nat) : Int) := by rw [afP, List.take_length]
def ordM (ts : List Tsk) (o : List Nat) (i : Nat) (lt : List Tsk) : Prop := lt.length = i /\ (∀ (q x : Nat) (t : Tsk), o[q]? = some x -> lt[q]? = some t -> sameT t (ordOf ts o x)) /\ ∀ t ∈ lt, sliceB t.av = true
theorem ordM.snoc {ts : List Tsk} {o : List Nat} {i x : Nat} {lt : List Tsk} {t : Tsk} (h : ordM ts o i lt) (hx : o[i]? = some x) (ht : sameT t (ordOf ts o x)) (hs : sliceB t.av = true) : ordM ts o (i + 1) (lt ++ [t]) := by
 refine ⟨by simp [h.1], fun q y u hy hu => ?_, fun u hu => ?_⟩
 ·
  by_cases hq : q < i
  ·
   rw [List.getElem?_append_left (by rw [h.1]; exact hq)] at hu
   exact h.2.1 q y u hy hu
  rw [List.getElem?_append_right (by rw [h.1]; omega), h.1] at hu
  obtain ⟨d, hd⟩ : ∃ d, q - i = d := ⟨_, rfl⟩
  rw [hd] at hu
  cases d with
  | zero =>
   simp at hu
   subst hu
   rw [show q = i by omega, hx] at hy
   obtain rfl := Option.some.inj hy
   exact ht
  | succ d => simp at hu
 rcases List.mem_append.1 hu with hu | hu
 · exact h.2.2 u hu
 · rw [List.mem_singleton.1 hu]; exact hs
theorem ordM.mix {ts : List Tsk} {o : List Nat} {lt : List Tsk} {n : Nat} (h : ordM ts o o.length lt) (hn : o.length <= n) : mixT n lt (ordT ts o) := by
 refine ⟨by rw [h.1, ordT_len], fun i x y hx hy => ?_, h.2.2⟩
 rw [ordT, List.getElem?_map] at hy
 rcases ho : o[i]? with _ | k
 · rw [ho] at hy; cases hy
 rw [ho] at hy
 obtain rfl := Option.some.inj hy
 exact ⟨h.2.1 i k x ho hx, fun hi => absurd (List.getElem?_eq_some_iff.1 ho).1 (by omega)⟩
def OrdJ (vm : Value) (ts : List Tsk) (o : List Nat) (w : World) : Ending -> World -> Prop := fun e w' => ∃ (a : Option Addr) (c lo hi : Nat) (lt : List Tsk), e = .returned (.agg #[vm, .slice a lt.length c]) /\ (w.heap.size <= lo /\ hi <= w'.heap.size) /\ Sl tskEnc 8 lo hi w' (.slice a lt.length c) lt /\ Afs lo hi w' lt /\ mixT ts.length lt (ordT ts o) /\ w.grownBy w' none
theorem OrdJ.of {vm v2 : Value} {ts lt : List Tsk} {o : List Nat} {w w' : World} {e : Ending} (he : e = .returned (.agg #[vm, v2])) (hm : ordM ts o o.length lt) (hl : o.length = ts.length) (ho : Own tskEncS 34 8 w.heap.size w' v2 lt) (ha : ∀ t ∈ lt, Own intEnc 3 1 w.heap.size w' t.av t.af) (hg : w.grownBy w' none) : OrdJ vm ts o w e w' := by
 obtain ⟨a, c, rfl, hs⟩ := Own.slN ho (fun _ => rfl) rfl
 exact ⟨a, c, w.heap.size, w'.heap.size, lt, he, ⟨Nat.le_refl _, Nat.le_refl _⟩, slS hs hm.2.2, fun t ht => ⟨Own.sl (ha t ht) (fun _ => rfl), own_cap (ha t ht)⟩, hm.mix (by omega), hg⟩
set_option maxHeartbeats 32000000 in
theorem ordered_c (lo hi : Nat) (vm vt : Value) (ms : List Mch) (ts : List Tsk) (lo4 hi4 : Nat) (vo : Value) (o : List Nat) (w : World) (hj : JobAt lo hi w vm vt ms ts) (h2 : hi <= w.heap.size) (ho : Sl intEnc 1 lo4 hi4 w vo (ints o)) (h5 : hi4 <= w.heap.size) (hok : JobOk ms ts) (hop : OrdP ts o) (hol : o.length = ts.length) :
  Calls Tryz.prog 55 #[.agg #[vm, vt], vo] w (OrdJ vm ts o w) := by
 have hmm := @run_makeMap Tryz.prog
 have F1 : Bun w [] w := Bun.nil _
 obtain ⟨hms, hts, haf⟩ := hj
 have hm_ms := hms.len
 unfold maxLen at hm_ms
 obtain ⟨aM, cM, rfl⟩ := hms.any
 replace F1 := F1.sl0 hms h2 rfl
 clear hms
 have hm_ts := hts.len
 unfold maxLen at hm_ts
 obtain ⟨aT, cT, rfl⟩ := hts.any
 replace F1 := F1.sl0 hts h2 rfl
 clear hts
 replace F1 := F1.non0 (rafs lo hi ts) haf (fun _ h_ => Nat.lt_of_lt_of_le h_.2 h2) rfl rfl
 clear haf
 have hm_o := ho.len
 unfold maxLen at hm_o
 obtain ⟨aO, cO, rfl⟩ := ho.any
 replace F1 := F1.sl0 ho h5 rfl
 clear ho
 have HOK := lhd hok
 have HOP := lhd hop
 have hol2 : o.length <= ts.length /\ ts.length <= o.length := by omega
 have HOL := lhd hol
 have hnt := hok.nt
 rw [ints_len] at *
 clear hok hop hol
 go_enter Tryz.func55, Tryz.ntmps55
 replace F1 := F1.new 25 #[.slice aM ms.length cM, .slice aT ts.length cT] (n := w.heap.size) (by simp)
 replace F1 := F1.new 25 #[.slice none 0 0, .slice none 0 0] (n := (w.heap.size + 1)) (by simp)
 replace F1 := F1.atNew o (g := (w.heap.size + 2)) (by simp)
 go_wp2_with fail
 obtain ⟨HI9_, HI90⟩ : ∃ I : RelT, I = (fun t ds wr => ∃ (i : Nat), t 1 = .slice aO o.length cO /\ t 2 = .pointer (some ⟨w.heap.size, 0, none⟩) /\ t 4 = .pointer (some ⟨w.heap.size + 1, 0, none⟩) /\ t 5 = .map (some (w.heap.size + 2)) /\ t 15 = .slice aO o.length cO /\ t 16 = .int .i64 (o.length : Int) /\ t 17 = .int .i64 (i : Int) /\ i <= o.length /\ ds = [] /\ w.heap.size <= wr.heap.size /\ Bun w [rat (w.heap.size + 2) i (atF o i), rbox (w.heap.size + 1) 25 #[.slice none 0 0, .slice none 0 0], rbox w.heap.size 25 #[.slice aM ms.length cM, .slice aT ts.length cT], rsl intEnc 1 lo4 hi4 (.slice aO o.length cO) (ints o), rafs lo hi ts, rsl tskEnc 8 lo hi (.slice aT ts.length cT) ts, rsl mchEnc 3 lo hi (.slice aM ms.length cM) ms] wr) := ⟨_, rfl⟩
 have HI9 := lhd HI90
 clear HI90
 refine wp_loopS 69 rfl HI9_ (fun t wr => o.length - (intOf (t 17)).toNat) ?atStart1 ?round1
 case round1 =>
  intro t ds wr hHid
  rw [HI9.out] at hHid
  obtain ⟨i, e1, e2, e4, e5, e15, e16, e17, hrel⟩ := hHid
  have e := rgO269 t
  (try dsimp only at e)
  rw [e1, e2, e4, e5, e15, e16, e17] at e
  rw [e]
  simp only [e17]
  clear e e1 e2 e4 e5 e15 e16 e17
  obtain ⟨hi_, rfl, hs11, hF10⟩ := hrel
  clear F1
  obtain ⟨w12, rfl⟩ : ∃ x_ : World, x_ = wr := ⟨_, rfl⟩
  by_cases c13 : (i : Int) < (o.length : Int)
  ·
   have c13H := lhd c13
   obtain ⟨x14, o15, e_⟩ := Sl.addr (hF10.s 3 rfl) (by rw [ints_len]; omega)
   subst e_
   obtain ⟨x, hx_⟩ : ∃ x_, o[i]? = some x_ := ⟨_, List.getElem?_eq_getElem (by omega)⟩
   have HX := lhd hx_
   have hxt := HOP.out.lt x (List.mem_of_getElem? hx_)
   clear hx_
   have hxi : (x : Int) < (ts.length : Int) := by omega
   have hz16 : Hid ((ints o)[i]? = some ((x : Nat) : Int)) := lhd (ints_get HX.out)
   have ge17 : World.cell? _ ⟨x14, o15 + i, none⟩ = some (.int .i64 (x : Int)) := (by have h_ := Sl.cells (hF10.at 3 rfl) hz16.out 0 _ rfl; simpa using h_)
   have gl18 := cell_lt ge17
   obtain ⟨w19, hr20, F21, hs22⟩ := hF10.atPut HOP.out.nd HX.out (by omega) (by omega)
   (try simp at hr20 hs22)
   clear hF10
   go_wp2_with fail
   clear hr20
   clear ge17 gl18
   go_wp2_with fail
   (first | refine ⟨by kernel_rfl, ?_, ?_⟩ | refine ⟨rfl, ?_, ?_⟩ | refine ⟨?_, ?_⟩)
   · rw [HI9.out]; exact ⟨i + 1, by (iterate 6 refine ⟨by kernel_rfl, ?_⟩); exact ⟨(by show Value.int .i64 ((i : Int) + 1) = _; simp), (by omega), (by first | rfl | simp), (by first | omega | (simp; done) | (simp; omega)), F21⟩⟩
   · simp [slot, intOf]; omega
  have c13H := lhd c13
  have c13a := dec_f c13
  have b23 := hF10.bx2 2 rfl
  go_wp2_with fail
  clear b23
  have F24 := hF10.new 25 #[.slice aM ms.length cM, .slice none 0 0] (n := w12.heap.size) (by simp)
  clear hF10
  have hio_ : i = o.length := by omega
  rw [hio_] at F24
  clear hio_
  replace F24 := F24.nilrow tskEncS 34 8
  replace F24 := F24.afo0 w.heap.size
  (skip)
  obtain ⟨HI27_, HI270⟩ : ∃ I : RelT, I = (fun t ds wr => ∃ (i : Nat) (tv : Value) (lt : List Tsk), t 2 = .pointer (some ⟨w.heap.size, 0, none⟩) /\ t 4 = .pointer (some ⟨w.heap.size + 1, 0, none⟩) /\ t 5 = .map (some (w.heap.size + 2)) /\ t 8 = .pointer (some ⟨w12.heap.size, 0, none⟩) /\ t 29 = .slice aO o.length cO /\ t 30 = .int .i64 (o.length : Int) /\ t 31 = .int .i64 (i : Int) /\ i <= o.length /\ Hid (ordM ts o i lt) /\ ds = [] /\ w12.heap.size <= wr.heap.size /\ Bun w [rafo w.heap.size lt, rown tskEncS 34 8 w.heap.size tv lt, rbox w12.heap.size 25 #[.slice aM ms.length cM, tv], rat (w.heap.size + 2) o.length (atF o o.length), rbox (w.heap.size + 1) 25 #[.slice none 0 0, .slice none 0 0], rbox w.heap.size 25 #[.slice aM ms.length cM, .slice aT ts.length cT], rsl intEnc 1 lo4 hi4 (.slice aO o.length cO) (ints o), rafs lo hi ts, rsl tskEnc 8 lo hi (.slice aT ts.length cT) ts, rsl mchEnc 3 lo hi (.slice aM ms.length cM) ms] wr) := ⟨_, rfl⟩
  have HI27 := lhd HI270
  clear HI270
  refine wp_loopS 69 rfl HI27_ (fun t wr => o.length - (intOf (t 31)).toNat) ?atStart2 ?round2
  case round2 =>
   intro t ds wr hHid
   rw [HI27.out] at hHid
   obtain ⟨i, tv, lt, e2, e4, e5, e8, e29, e30, e31, hrel⟩ := hHid
   have e := rgO269 t
   (try dsimp only at e)
   rw [e2, e4, e5, e8, e29, e30, e31] at e
   rw [e]
   simp only [e31]
   clear e e2 e4 e5 e8 e29 e30 e31
   obtain ⟨hi_, HM, rfl, hs29, hF28⟩ := hrel
   clear F24
   obtain ⟨w30, rfl⟩ : ∃ x_ : World, x_ = wr := ⟨_, rfl⟩
   by_cases c31 : (i : Int) < (o.length : Int)
   ·
    have c31H := lhd c31
    obtain ⟨x32, o33, e_⟩ := Sl.addr (hF28.s 6 rfl) (by rw [ints_len]; omega)
    subst e_
    obtain ⟨x, hx_⟩ : ∃ x_, o[i]? = some x_ := ⟨_, List.getElem?_eq_getElem (by omega)⟩
    have HX := lhd hx_
    have hxt := HOP.out.lt x (List.mem_of_getElem? hx_)
    clear hx_
    have hxi : (x : Int) < (ts.length : Int) := by omega
    have hz34 : Hid ((ints o)[i]? = some ((x : Nat) : Int)) := lhd (ints_get HX.out)
    have ge35 : World.cell? _ ⟨x32, o33 + i, none⟩ = some (.int .i64 (x : Int)) := (by have h_ := Sl.cells (hF28.at 6 rfl) hz34.out 0 _ rfl; simpa using h_)
    have gl36 := cell_lt ge35
    obtain ⟨x37, o38, e_⟩ := Sl.addr (hF28.s 8 rfl) (by omega)
    subst e_
    obtain ⟨z, hz39_⟩ : ∃ z_, ts[x]? = some z_ := ⟨_, List.getElem?_eq_getElem (by omega)⟩
    have hz39 := lhd hz39_
    clear hz39_
    obtain ⟨a_z, c_z, hav_z, hcap_z, hsl_z⟩ := Afs.open (hF28.at 7 rfl : Afs lo hi _ ts) hz39.out
    have HAV_z := lhd hav_z
    clear hav_z
    have F40 := hF28.more 7 (rsl intEnc 1 lo hi (.slice a_z z.af.length c_z) z.af) rfl rfl rfl (fun _ h_ => h_) hsl_z
    clear hF28
    have hm_z := (F40.s 0 rfl).len
    unfold maxLen at hm_z
    have HZA : Hid (∀ a ∈ z.af, 0 <= a /\ a < (x : Int) /\ a.toNat ∈ o) := lhd (fun a h_ => by have h2_ := (HOK.out.to_ x z hz39.out).af a h_; exact ⟨h2_.1, h2_.2, HOP.out.all HOL.out (by omega)⟩)
    have HZT : Hid (tk ts x = z) := lhd (tk_get hz39.out)
    have hafl : z.af.length <= x := by have h_ := HOK.out.to_ x z hz39.out; exact af_lenO h_.nd h_.af
    have b41 := F40.bx2 6 rfl
    have ge42 : World.cell? _ ⟨x37, o38 + x * 8, none⟩ = some (.int .i64 z.m) := (Sl.cells (F40.at 9 rfl) hz39.out 0 _ rfl)
    have gl43 := cell_lt ge42
    have ge44 : World.cell? _ ⟨x37, o38 + x * 8 + 1, none⟩ = some (.int .i64 z.ho.lo) := (Sl.cells (F40.at 9 rfl) hz39.out 1 _ rfl)
    have ge45 : World.cell? _ ⟨x37, o38 + x * 8 + 2, none⟩ = some (.int .i64 z.ho.hi) := (Sl.cells (F40.at 9 rfl) hz39.out 2 _ rfl)
    have ge46 : World.cell? _ ⟨x37, o38 + x * 8 + 3, none⟩ = some (.int .i64 z.wa.lo) := (Sl.cells (F40.at 9 rfl) hz39.out 3 _ rfl)
    have ge47 : World.cell? _ ⟨x37, o38 + x * 8 + 4, none⟩ = some (.int .i64 z.wa.hi) := (Sl.cells (F40.at 9 rfl) hz39.out 4 _ rfl)
    have ge48 : World.cell? _ ⟨x37, o38 + x * 8 + 5, none⟩ = some (.int .i64 z.fr.lo) := (Sl.cells (F40.at 9 rfl) hz39.out 5 _ rfl)
    have ge49 : World.cell? _ ⟨x37, o38 + x * 8 + 6, none⟩ = some (.int .i64 z.fr.hi) := (Sl.cells (F40.at 9 rfl) hz39.out 6 _ rfl)
    have ge50 : World.cell? _ ⟨x37, o38 + x * 8 + 7, none⟩ = some (.slice a_z z.af.length c_z) := (HAV_z.out ▸ (Sl.cells (F40.at 9 rfl) hz39.out 7 _ rfl))
    go_wp2_with fail
    clear b41 ge42 gl43 ge44 ge45 ge46 ge47 ge48 ge49 ge50
    clear ge35 gl36
    replace F40 := F40.new 34 #[.int .i64 z.m, .int .i64 z.ho.lo, .int .i64 z.ho.hi, .int .i64 z.wa.lo, .int .i64 z.wa.hi, .int .i64 z.fr.lo, .int .i64 z.fr.hi, .slice none 0 0] (n := w30.heap.size) (by simp)
    replace F40 := F40.nilrow intEnc 3 1
    (skip)
    obtain ⟨HI53_, HI530⟩ : ∃ I : RelT, I = (fun t ds wr => ∃ (j : Nat) (av : Value), t 2 = .pointer (some ⟨w.heap.size, 0, none⟩) /\ t 4 = .pointer (some ⟨w.heap.size + 1, 0, none⟩) /\ t 5 = .map (some (w.heap.size + 2)) /\ t 8 = .pointer (some ⟨w12.heap.size, 0, none⟩) /\ t 11 = .pointer (some ⟨w30.heap.size, 0, none⟩) /\ t 29 = .slice (some ⟨x32, o33, none⟩) o.length cO /\ t 30 = .int .i64 (o.length : Int) /\ t 31 = .int .i64 (i : Int) /\ t 46 = .slice a_z z.af.length c_z /\ t 47 = .int .i64 (z.af.length : Int) /\ t 48 = .int .i64 (j : Int) /\ j <= z.af.length /\ ds = [] /\ w30.heap.size <= wr.heap.size /\ Bun w [rown intEnc 3 1 w.heap.size av (afP o z.af j), rbox w30.heap.size 34 #[.int .i64 z.m, .int .i64 z.ho.lo, .int .i64 z.ho.hi, .int .i64 z.wa.lo, .int .i64 z.wa.hi, .int .i64 z.fr.lo, .int .i64 z.fr.hi, av], rsl intEnc 1 lo hi (.slice a_z z.af.length c_z) z.af, rafo w.heap.size lt, rown tskEncS 34 8 w.heap.size tv lt, rbox w12.heap.size 25 #[.slice aM ms.length cM, tv], rat (w.heap.size + 2) o.length (atF o o.length), rbox (w.heap.size + 1) 25 #[.slice none 0 0, .slice none 0 0], rbox w.heap.size 25 #[.slice aM ms.length cM, .slice (some ⟨x37, o38, none⟩) ts.length cT], rsl intEnc 1 lo4 hi4 (.slice (some ⟨x32, o33, none⟩) o.length cO) (ints o), rafs lo hi ts, rsl tskEnc 8 lo hi (.slice (some ⟨x37, o38, none⟩) ts.length cT) ts, rsl mchEnc 3 lo hi (.slice aM ms.length cM) ms] wr) := ⟨_, rfl⟩
    have HI53 := lhd HI530
    clear HI530
    refine wp_loopS 69 rfl HI53_ (fun t wr => z.af.length - (intOf (t 48)).toNat) ?atStart3 ?round3
    case round3 =>
     intro t ds wr hHid
     rw [HI53.out] at hHid
     obtain ⟨j, av, e2, e4, e5, e8, e11, e29, e30, e31, e46, e47, e48, hrel⟩ := hHid
     have e := rgO269 t
     (try dsimp only at e)
     rw [e2, e4, e5, e8, e11, e29, e30, e31, e46, e47, e48] at e
     rw [e]
     simp only [e48]
     clear e e2 e4 e5 e8 e11 e29 e30 e31 e46 e47 e48
     obtain ⟨hj_, rfl, hs55, hF54⟩ := hrel
     clear F40
     obtain ⟨w56, rfl⟩ : ∃ x_ : World, x_ = wr := ⟨_, rfl⟩
     by_cases c57 : (j : Int) < (z.af.length : Int)
     ·
      have c57H := lhd c57
      obtain ⟨x58, o59, e_⟩ := Sl.addr (hF54.s 2 rfl) (by omega)
      subst e_
      obtain ⟨y, hz60_⟩ : ∃ z_, z.af[j]? = some z_ := ⟨_, List.getElem?_eq_getElem (by omega)⟩
      have hz60 := lhd hz60_
      clear hz60_
      have hya := HZA.out y (List.mem_of_getElem? hz60.out)
      have b61 := hF54.bx8 1 rfl
      have ge62 : World.cell? _ ⟨x58, o59 + j, none⟩ = some (.int .i64 y) := (by have h_ := Sl.cells (hF54.at 2 rfl) hz60.out 0 _ rfl; simpa using h_)
      have gl63 := cell_lt ge62
      have ge64 : _ := AtMap.look1 (hF54.at 6 rfl : AtMap _ (w.heap.size + 2) o.length (atF o o.length)) (by omega) (atF_at (by omega) hya.2.2)
      go_wp2_with (at_builtin; refine wpList_app _ okInt rfl _ _ rfl w.heap.size av (afP o z.af j) [((posN o y.toNat : Nat) : Int)] rfl (by exact ((hF54.o 0 rfl)).alloc _) ⟨_, 0, none⟩ 1 1 rfl rfl (by decide) (news_of (Bk.newAt _ _ _ (by simp))) (j + 1) (by rw [afP_len (o := o) (l := z.af) (j := j) (by omega)]) (by omega) (by first | omega | (simp; omega)) _ rfl ?_; intro g65 cap66 w67 hp68; refine Hid.out ?_)
      refine lhd ?_
      have hp68s := hp68.gb.size
      (try simp at hp68s)
      clear b61 ge62 gl63 ge64
      have F69 := ((hF54.alloc (.cells #[.int .i64 ((posN o y.toNat : Nat) : Int)] 3)).front 0 rfl rfl).app hp68 (by simp)
      clear hF54
      have b70 := F69.bx8 1 rfl
      go_wp2_with fail
      clear b70
      have F71 := ((F69.front 1 rfl rfl).set 7 (.slice (some ⟨g65, 0, none⟩) (j + 1) cap66)).nf #[.int .i64 z.m, .int .i64 z.ho.lo, .int .i64 z.ho.hi, .int .i64 z.wa.lo, .int .i64 z.wa.hi, .int .i64 z.fr.lo, .int .i64 z.fr.hi, .slice (some ⟨g65, 0, none⟩) (j + 1) cap66] rfl
      clear F69
      have F72 : Bun w [rown intEnc 3 1 w.heap.size (.slice (some ⟨g65, 0, none⟩) (j + 1) cap66) ((afP o z.af j) ++ [((posN o y.toNat : Nat) : Int)]), rbox w30.heap.size 34 #[.int .i64 z.m, .int .i64 z.ho.lo, .int .i64 z.ho.hi, .int .i64 z.wa.lo, .int .i64 z.wa.hi, .int .i64 z.fr.lo, .int .i64 z.fr.hi, .slice (some ⟨g65, 0, none⟩) (j + 1) cap66], rsl intEnc 1 lo hi (.slice (some ⟨x58, o59, none⟩) z.af.length c_z) z.af, rafo w.heap.size lt, rown tskEncS 34 8 w.heap.size tv lt, rbox w12.heap.size 25 #[.slice aM ms.length cM, tv], rat (w.heap.size + 2) o.length (atF o o.length), rbox (w.heap.size + 1) 25 #[.slice none 0 0, .slice none 0 0], rbox w.heap.size 25 #[.slice aM ms.length cM, .slice (some ⟨x37, o38, none⟩) ts.length cT], rsl intEnc 1 lo4 hi4 (.slice (some ⟨x32, o33, none⟩) o.length cO) (ints o), rafs lo hi ts, rsl tskEnc 8 lo hi (.slice (some ⟨x37, o38, none⟩) ts.length cT) ts, rsl mchEnc 3 lo hi (.slice aM ms.length cM) ms] _ := F71.pick [1, 0, 2, 3, 4, 5, 6, 7, 8, 9, 10, 11, 12] (by decide) rfl
      clear F71
      (first | refine ⟨by kernel_rfl, ?_, ?_⟩ | refine ⟨rfl, ?_, ?_⟩ | refine ⟨?_, ?_⟩)
      · rw [HI53.out]; exact ⟨j + 1, _, by (iterate 10 refine ⟨by kernel_rfl, ?_⟩); exact ⟨(by show Value.int .i64 ((j : Int) + 1) = _; simp), (by omega), (by first | rfl | simp), (by first | omega | (simp; done) | (simp; omega)), (by rw [afP_next hz60.out]; exact F72)⟩⟩
      · simp [slot, intOf]; omega
     have c57H := lhd c57
     have c57a := dec_f c57
     have hjz_ : j = z.af.length := by omega
     rw [hjz_] at hF54
     clear hjz_
     obtain ⟨aa73, ac74, e_⟩ := (Own.sl (hF54.o 0 rfl) (fun _ => rfl)).any
     subst e_
     obtain ⟨av75, vc76, e_, _⟩ := Own.slN (hF54.o 4 rfl) (fun _ => rfl) HM.out.1
     subst e_
     have b77 := hF54.bx8 1 rfl
     have b78 := hF54.bx2 5 rfl
     go_wp2_with (at_builtin; refine wpList_app _ okTskS rfl _ _ rfl w.heap.size (.slice av75 i vc76) lt [(⟨z.m, ⟨z.ho.lo, z.ho.hi⟩, ⟨z.wa.lo, z.wa.hi⟩, ⟨z.fr.lo, z.fr.hi⟩, (afP o z.af z.af.length), .slice aa73 (((afP o z.af z.af.length)).length) ac74⟩ : Tsk)] rfl (by exact ((hF54.o 4 rfl)).alloc _) ⟨_, 0, none⟩ 1 1 rfl rfl (by decide) (news_of (Bk.newAt _ _ _ (by simp))) (i + 1) (by have h_ := HM.out.1; omega) (by omega) (by first | omega | (simp; omega)) _ rfl ?_; intro g79 cap80 w81 hp82; refine Hid.out ?_)
     refine lhd ?_
     have hp82s := hp82.gb.size
     (try simp at hp82s)
     clear b77 b78
     have F83 := ((hF54.alloc (.cells #[.int .i64 z.m, .int .i64 z.ho.lo, .int .i64 z.ho.hi, .int .i64 z.wa.lo, .int .i64 z.wa.hi, .int .i64 z.fr.lo, .int .i64 z.fr.hi, .slice aa73 (((afP o z.af z.af.length)).length) ac74] 34)).front 4 rfl rfl).app hp82 (by simp)
     clear hF54
     have b84 := F83.bx2 5 rfl
     go_wp2_with fail
     clear b84
     have F85 := ((F83.front 5 rfl rfl).set 1 (.slice (some ⟨g79, 0, none⟩) (i + 1) cap80)).nf #[.slice aM ms.length cM, .slice (some ⟨g79, 0, none⟩) (i + 1) cap80] rfl
     clear F83
     have F86 : Bun w [rown intEnc 3 1 w.heap.size (.slice aa73 ((afP o z.af z.af.length)).length ac74) (afP o z.af z.af.length), rafo w.heap.size lt, rbox w12.heap.size 25 #[.slice aM ms.length cM, .slice (some ⟨g79, 0, none⟩) (i + 1) cap80], rown tskEncS 34 8 w.heap.size (.slice (some ⟨g79, 0, none⟩) (i + 1) cap80) (lt ++ [(⟨z.m, ⟨z.ho.lo, z.ho.hi⟩, ⟨z.wa.lo, z.wa.hi⟩, ⟨z.fr.lo, z.fr.hi⟩, (afP o z.af z.af.length), .slice aa73 (((afP o z.af z.af.length)).length) ac74⟩ : Tsk)]), rbox w30.heap.size 34 #[.int .i64 z.m, .int .i64 z.ho.lo, .int .i64 z.ho.hi, .int .i64 z.wa.lo, .int .i64 z.wa.hi, .int .i64 z.fr.lo, .int .i64 z.fr.hi, .slice aa73 ((afP o z.af z.af.length)).length ac74], rsl intEnc 1 lo hi (.slice a_z z.af.length c_z) z.af, rat (w.heap.size + 2) o.length (atF o o.length), rbox (w.heap.size + 1) 25 #[.slice none 0 0, .slice none 0 0], rbox w.heap.size 25 #[.slice aM ms.length cM, .slice (some ⟨x37, o38, none⟩) ts.length cT], rsl intEnc 1 lo4 hi4 (.slice (some ⟨x32, o33, none⟩) o.length cO) (ints o), rafs lo hi ts, rsl tskEnc 8 lo hi (.slice (some ⟨x37, o38, none⟩) ts.length cT) ts, rsl mchEnc 3 lo hi (.slice aM ms.length cM) ms] _ := F85.pick [2, 5, 0, 1, 3, 4, 6, 7, 8, 9, 10, 11, 12] (by decide) rfl
     clear F85
     replace F86 := F86.afo (⟨z.m, ⟨z.ho.lo, z.ho.hi⟩, ⟨z.wa.lo, z.wa.hi⟩, ⟨z.fr.lo, z.fr.hi⟩, (afP o z.af z.af.length), .slice aa73 (((afP o z.af z.af.length)).length) ac74⟩ : Tsk) rfl rfl
     go_wp2_with fail
     have F88 : Bun w [rafo w.heap.size (lt ++ [(⟨z.m, ⟨z.ho.lo, z.ho.hi⟩, ⟨z.wa.lo, z.wa.hi⟩, ⟨z.fr.lo, z.fr.hi⟩, (afP o z.af z.af.length), .slice aa73 (((afP o z.af z.af.length)).length) ac74⟩ : Tsk)]), rown tskEncS 34 8 w.heap.size (.slice (some ⟨g79, 0, none⟩) (i + 1) cap80) (lt ++ [(⟨z.m, ⟨z.ho.lo, z.ho.hi⟩, ⟨z.wa.lo, z.wa.hi⟩, ⟨z.fr.lo, z.fr.hi⟩, (afP o z.af z.af.length), .slice aa73 (((afP o z.af z.af.length)).length) ac74⟩ : Tsk)]), rbox w12.heap.size 25 #[.slice aM ms.length cM, .slice (some ⟨g79, 0, none⟩) (i + 1) cap80], rat (w.heap.size + 2) o.length (atF o o.length), rbox (w.heap.size + 1) 25 #[.slice none 0 0, .slice none 0 0], rbox w.heap.size 25 #[.slice aM ms.length cM, .slice (some ⟨x37, o38, none⟩) ts.length cT], rsl intEnc 1 lo4 hi4 (.slice (some ⟨x32, o33, none⟩) o.length cO) (ints o), rafs lo hi ts, rsl tskEnc 8 lo hi (.slice (some ⟨x37, o38, none⟩) ts.length cT) ts, rsl mchEnc 3 lo hi (.slice aM ms.length cM) ms] _ := F86.pick [0, 2, 1, 5, 6, 7, 8, 9, 10, 11] (by decide) rfl
     clear F86
     (first | refine ⟨by kernel_rfl, ?_, ?_⟩ | refine ⟨rfl, ?_, ?_⟩ | refine ⟨?_, ?_⟩)
     · rw [HI27.out]; exact ⟨i + 1, _, _, by (iterate 6 refine ⟨by kernel_rfl, ?_⟩); exact ⟨(by show Value.int .i64 ((i : Int) + 1) = _; simp), (by omega), (lhd (HM.out.snoc HX.out (by rw [ordOf, HZT.out, ← afP_all]; exact ⟨rfl, rfl, rfl, rfl, rfl⟩) rfl)), (by first | rfl | simp), (by first | omega | (simp; done) | (simp; omega)), F88⟩⟩
     · simp [slot, intOf]; omega
    case atStart3 =>
     rw [HI53.out]
     exact ⟨0, _, by (iterate 10 refine ⟨by kernel_rfl, ?_⟩); exact ⟨rfl, Nat.zero_le _, rfl, (by first | exact Nat.le_refl _ | omega | (simp; done) | (simp; omega)), F40⟩⟩
   have c31H := lhd c31
   have c31a := dec_f c31
   obtain ⟨av89, vc90, e_, _⟩ := Own.slN (hF28.o 1 rfl) (fun _ => rfl) HM.out.1
   subst e_
   have b91 := hF28.bx2 2 rfl
   have b92 := hF28.bx2 4 rfl
   go_wp2_with fail
   clear b91 b92
   have F93 := (hF28.front 4 rfl rfl).pt2 (.slice aM ms.length cM) (.slice av89 i vc90)
   clear hF28
   have kb94 := F93.bx2 0 rfl
   go_wp2_with fail
   exact bodyPost_ret (v := .agg #[.slice aM ms.length cM, .slice av89 i vc90]) (by simp [results, Tryz.results55, go_sem, kb94]) rfl ((OrdJ.of rfl (by have h_ : i = o.length := (by omega); have h2_ := HM.out; rwa [h_] at h2_) HOL.out (F93.o 2 rfl) (F93.at 1 rfl : ∀ t ∈ lt, Own intEnc 3 1 w.heap.size _ t.av t.af) F93.gb))
  case atStart2 =>
   rw [HI27.out]
   exact ⟨0, _, [], by (iterate 6 refine ⟨by kernel_rfl, ?_⟩); exact ⟨rfl, Nat.zero_le _, (lhd ⟨rfl, (fun q x t _ h => by simp at h), (fun _ h => by cases h)⟩), rfl, (by first | exact Nat.le_refl _ | omega | (simp; done) | (simp; omega)), F24⟩⟩
 case atStart1 =>
  rw [HI9.out]
  exact ⟨0, by (iterate 6 refine ⟨by kernel_rfl, ?_⟩); exact ⟨rfl, Nat.zero_le _, rfl, (by first | exact Nat.le_refl _ | omega | (simp; done) | (simp; omega)), F1⟩⟩
end Go.Proofs.YtcoldeolmleeiaaGreat
