/- fuel: a flow narrowed (0). -/
import Derived.Test.YtcndphefomigeaaDoorPKF
import Derived.Test.YtcndphefomigeaaDoorPG9
import Derived.Test.YtcndphefomigeaaDoorPK1
set_option linter.unusedVariables false
set_option linter.unusedSimpArgs false
set_option linter.unnecessarySimpa false
namespace Go.Proofs.YtcndphefomigeaaDoor
open Go.RowKit Go.Shelf
set_option maxRecDepth 100000
attribute [local go_sem] run_store_func Oper.semAt_some

theorem narF_in {b : Bok} {into out : Nat → Bool} {was : Sp} {i : Nat} (h : into i = true) : narF b into out was (i + 1) = ⟨max (narF b into out was i).lo (was.hi - (grp b i).most), if (grp b i).ground = true then min (narF b into out was i).hi (was.lo - (grp b i).least) else (narF b into out was i).hi⟩ := by rw [narF, if_pos h]
theorem narF_ou {b : Bok} {into out : Nat → Bool} {was : Sp} {i : Nat} (h : into i = false) (h2 : out i = true) : narF b into out was (i + 1) = ⟨if (grp b i).ground = true then max (narF b into out was i).lo (was.hi + (grp b i).least) else (narF b into out was i).lo, min (narF b into out was i).hi (was.lo + (grp b i).most)⟩ := by rw [narF, if_neg (by rw [h]; simp), if_pos h2]
theorem narF_no {b : Bok} {into out : Nat → Bool} {was : Sp} {i : Nat} (h : into i = false) (h2 : out i = false) : narF b into out was (i + 1) = narF b into out was i := by rw [narF, if_neg (by rw [h]; simp), if_neg (by rw [h2]; simp)]
theorem pow256 {n : Nat} (h : n ≤ 8) : 2 ^ n ≤ 256 := Nat.pow_le_pow_right (n := 2) (by omega) h
set_option maxHeartbeats 16000000 in
theorem nar0_c (l1 h1 l2 h2 : Nat) (va vm : Value) (b : Bok) (r k xb lo3 hi3 c3 : Nat) (w : World) (ha : Accs l1 h1 w va b.accs) (hm : Mvs l2 h2 w vm b.mvs) (b1 : h1 ≤ w.heap.size) (b2 : h2 ≤ w.heap.size) (hok : BokOk b) (hk : k < b.accs.length) (hx : Bk w xb 3 #[.int .i64 (k : Int)]) (hl : Sl accEnc 6 lo3 hi3 w (.slice (some ⟨r, 0, none⟩) b.accs.length c3) b.accs) (h3 : hi3 ≤ w.heap.size) :
    Calls Tryd.prog 58 #[.agg #[va, vm], .agg #[.pointer (some ⟨r, k * 6 + 2, none⟩), .func (.func 67) #[] #[.pointer (some ⟨xb, 0, none⟩)], .func (.func 68) #[] #[]]] w (Ret (.agg #[.int .i64 ((narF b (fun i_ => bitOf i_ (k : Int)) (fun _ => false) (ga b.accs k).op (2 ^ b.accs.length)).lo), .int .i64 ((narF b (fun i_ => bitOf i_ (k : Int)) (fun _ => false) (ga b.accs k).op (2 ^ b.accs.length)).hi)]) w) := by
  have F1 : Bun w [] w := Bun.nil _
  have hm_ac := ha.len
  unfold maxLen at hm_ac
  obtain ⟨aa, ak, rfl⟩ := ha.any
  have F2 := F1.sl0 ha b1 rfl
  clear F1
  clear ha
  have hm_mv := hm.len
  unfold maxLen at hm_mv
  obtain ⟨ma, mk, rfl⟩ := hm.any
  have F3 := F2.sl0 hm b2 rfl
  clear F2
  clear hm
  have F4 := F3.sl0 hl h3 rfl
  clear F3
  clear hl
  have F5 := F4.fix0 hx rfl
  clear F4
  clear hx
  have HOK := Lib.hid hok
  have h8_ := hok.n8
  have h30_ := hok.m30
  have hz_ : Hid (b.accs[k]? = some (ga b.accs k)) := Lib.hid (by rw [ga_get hk]; exact List.getElem?_eq_getElem hk)
  have hwb := (hok.acc k hk).op
  have hr0_ := cell_lt (((F5.at 1 rfl : Sl accEnc 6 lo3 hi3 _ (.slice (some ⟨r, 0, none⟩) b.accs.length c3) b.accs)).cells0 hz_.out 0 _ rfl)
  have hr1_ : r < w.heap.size + 1 := by omega
  have hr2_ : r < w.heap.size + 1 + 1 := by omega
  have hpw := pow256 hok.n8
  clear hok
  have F6 := F5.marks0
  clear F5
  refine callsIn_wide.1 (callsIn_of_wp_marks (n := 0) Tryd.func58 rfl trivial ?_ rfl)
  simp only [Tryd.ntmps58, List.size_toArray, List.length_cons, List.length_nil, Nat.reduceAdd, Nat.reduceSub, Array.replicate_succ, Array.replicate_zero, List.push_toArray, List.append_toArray, List.nil_append, List.cons_append]
  refine wpIn_wide.2 ?_
  refine wp_mono (Q := calmQ _) ?_ calmQ_le
  have ge7 : World.cell? _ ⟨r, k * 6 + 2, none⟩ = some (.int .i64 (ga b.accs k).op.lo) := (((F6.at 2 rfl : Sl accEnc 6 lo3 hi3 _ (.slice (some ⟨r, 0, none⟩) b.accs.length c3) b.accs)).cells0 hz_.out 2 _ rfl)
  have gl8 := cell_lt ge7
  have ge9 : World.cell? _ ⟨r, k * 6 + 2 + 1, none⟩ = some (.int .i64 (ga b.accs k).op.hi) := (((F6.at 2 rfl : Sl accEnc 6 lo3 hi3 _ (.slice (some ⟨r, 0, none⟩) b.accs.length c3) b.accs)).cells0 hz_.out 3 _ rfl)
  go_wp2_with fail
  clear ge7 gl8 ge9
  have F10 := F6.new 38 #[.slice aa b.accs.length ak, .slice ma b.mvs.length mk] (n := w.heap.size) (by simp)
  clear F6
  have F11 := F10.new 121 #[.pointer (some ⟨r, k * 6 + 2, none⟩), .func (.func 67) #[] #[.pointer (some ⟨xb, 0, none⟩)], .func (.func 68) #[] #[]] (n := (w.heap.size + 1)) (by simp)
  clear F10
  have F12 := F11.new 23 #[.int .i64 0, .int .i64 0] (n := (w.heap.size + 2)) (by simp)
  clear F11
  have F13 := F12.new 23 #[.int .i64 ((ga b.accs k).op.lo), .int .i64 ((ga b.accs k).op.hi)] (n := (w.heap.size + 3)) (by simp)
  clear F12
  have F14 := F13.new 23 #[.int .i64 ((ga b.accs k).op.lo), .int .i64 ((ga b.accs k).op.hi)] (n := (w.heap.size + 4)) (by simp)
  clear F13
  refine (groups_b (.slice aa b.accs.length ak) (.slice ma b.mvs.length mk) _ ⟨_, _, _, rfl⟩ ⟨_, _, _, rfl⟩).mono ?_
  rintro e w17 ⟨gb, rfl, hgb1, hgb2, hg15⟩
  have hg15s := hg15.size
  (try simp at hg15s)
  have F18 := F14.add (rbox gb 38 #[.slice aa b.accs.length ak, .slice ma b.mvs.length mk]) hg15 (hgb2) (fun g e => by cases e; exact ⟨hgb1, hgb2.lt⟩)
  clear F14
  clear hg15
  go_wp2_with fail
  have F20 : Bun w [rbox gb 38 #[.slice aa b.accs.length ak, .slice ma b.mvs.length mk], rbox (w.heap.size + 4) 23 #[.int .i64 ((ga b.accs k).op.lo), .int .i64 ((ga b.accs k).op.hi)], rbox (w.heap.size + 3) 23 #[.int .i64 ((ga b.accs k).op.lo), .int .i64 ((ga b.accs k).op.hi)], rbox (w.heap.size + 2) 23 #[.int .i64 0, .int .i64 0], rbox (w.heap.size + 1) 121 #[.pointer (some ⟨r, k * 6 + 2, none⟩), .func (.func 67) #[] #[.pointer (some ⟨xb, 0, none⟩)], .func (.func 68) #[] #[]], rbox w.heap.size 38 #[.slice aa b.accs.length ak, .slice ma b.mvs.length mk], rmarks [], rfix xb 3 #[.int .i64 (k : Int)], rsl accEnc 6 lo3 hi3 (.slice (some ⟨r, 0, none⟩) b.accs.length c3) b.accs, rsl mvEnc 4 l2 h2 (.slice ma b.mvs.length mk) b.mvs, rsl accEnc 6 l1 h1 (.slice aa b.accs.length ak) b.accs] w17 := F18
  have hLw19 := F20.low
  have hw019 := F20.gb.size
  refine wp_rangeG (gf := 54) (lb := #[.pointer (some ⟨gb, 0, none⟩)]) (el := (fun i p => .agg #[.func (.func 55) #[] #[.pointer (some ⟨p, 0, none⟩)], .int .i64 ((grp b i).least), .int .i64 ((grp b i).most), .bool ((grp b i).ground), .bool ((grp b i).rest)])) rfl (enters_of Tryd.func54 (by kernel_rfl) rfl) rfl (groups_seq gb l1 h1 l2 h2 (.slice aa b.accs.length ak) (.slice ma b.mvs.length mk) b HOK.out) (fun i A => LowL w17.heap.size [rbox gb 38 #[.slice aa b.accs.length ak, .slice ma b.mvs.length mk], rbox (w.heap.size + 4) 23 #[.int .i64 (narF b (fun i_ => bitOf i_ (k : Int)) (fun _ => false) (ga b.accs k).op i).lo, .int .i64 (narF b (fun i_ => bitOf i_ (k : Int)) (fun _ => false) (ga b.accs k).op i).hi], rbox (w.heap.size + 3) 23 #[.int .i64 ((ga b.accs k).op.lo), .int .i64 ((ga b.accs k).op.hi)], rbox (w.heap.size + 2) 23 #[.int .i64 0, .int .i64 0], rbox (w.heap.size + 1) 121 #[.pointer (some ⟨r, k * 6 + 2, none⟩), .func (.func 67) #[] #[.pointer (some ⟨xb, 0, none⟩)], .func (.func 68) #[] #[]], rbox w.heap.size 38 #[.slice aa b.accs.length ak, .slice ma b.mvs.length mk], rmarks [], rfix xb 3 #[.int .i64 (k : Int)], rsl accEnc 6 lo3 hi3 (.slice (some ⟨r, 0, none⟩) b.accs.length c3) b.accs, rsl mvEnc 4 l2 h2 (.slice ma b.mvs.length mk) b.mvs, rsl accEnc 6 l1 h1 (.slice aa b.accs.length ak) b.accs] ∧ Bun w [rbox gb 38 #[.slice aa b.accs.length ak, .slice ma b.mvs.length mk], rbox (w.heap.size + 4) 23 #[.int .i64 (narF b (fun i_ => bitOf i_ (k : Int)) (fun _ => false) (ga b.accs k).op i).lo, .int .i64 (narF b (fun i_ => bitOf i_ (k : Int)) (fun _ => false) (ga b.accs k).op i).hi], rbox (w.heap.size + 3) 23 #[.int .i64 ((ga b.accs k).op.lo), .int .i64 ((ga b.accs k).op.hi)], rbox (w.heap.size + 2) 23 #[.int .i64 0, .int .i64 0], rbox (w.heap.size + 1) 121 #[.pointer (some ⟨r, k * 6 + 2, none⟩), .func (.func 67) #[] #[.pointer (some ⟨xb, 0, none⟩)], .func (.func 68) #[] #[]], rbox w.heap.size 38 #[.slice aa b.accs.length ak, .slice ma b.mvs.length mk], rmarks [], rfix xb 3 #[.int .i64 (k : Int)], rsl accEnc 6 lo3 hi3 (.slice (some ⟨r, 0, none⟩) b.accs.length c3) b.accs, rsl mvEnc 4 l2 h2 (.slice ma b.mvs.length mk) b.mvs, rsl accEnc 6 l1 h1 (.slice aa b.accs.length ak) b.accs] A) (fun _ _ _ => False) ?hI19 (fun _ _ _ _ _ h _ _ => h) ?hH19 ?h019 ?round19 ?done19 (fun _ _ _ _ h => h.elim)
  case hI19 =>
    rintro i A B r ⟨hL19, F_⟩ hg hr
    exact ⟨hL19, F_.gbFrom hL19 hw019 hg (fun g e => (hr g e).1)⟩
  case hH19 =>
    rintro i A ⟨hL19, F_⟩
    exact ⟨(F_.at 0 rfl : Bk _ gb 38 #[.slice aa b.accs.length ak, .slice ma b.mvs.length mk]), (F_.at 10 rfl : Sl accEnc 6 l1 h1 _ (.slice aa b.accs.length ak) b.accs), (F_.at 9 rfl : Sl mvEnc 4 l2 h2 _ (.slice ma b.mvs.length mk) b.mvs)⟩
  case h019 => exact ⟨hLw19, F20⟩
  case round19 =>
    rintro l19 i p19 W19 ⟨hL19, G19_⟩ hlt19 hp19 hs19 hbk19
    have F19_ := G19_.ranged hL19 hw019 hs19 hp19 hbk19
    clear G19_ hbk19 F20
    have hi6 : i < 256 := by omega
    have hgd := grp_bd HOK.out i
    gi_wp2_with fail
    have F21 := F19_.new 72 #[.func (.func 55) #[] #[.pointer (some ⟨p19, 0, none⟩)], .int .i64 ((grp b i).least), .int .i64 ((grp b i).most), .bool ((grp b i).ground), .bool ((grp b i).rest)] (n := W19.heap.size) (by simp)
    clear F19_
    refine And.intro (F21.front 1 rfl rfl).kept.d (fun W19b hg19b => ?_)
    have hg19bs := hg19b.size
    (try simp at hg19bs)
    have F22 := (F21.front 1 rfl rfl).rekeep hg19b (fun g e => by cases e; omega)
    clear F21
    have b23 := F22.bx5 1 rfl
    have b24 := F22.bx3 7 rfl
    gi_wp2_with fail
    clear b23 b24
    refine ⟨trivial, rfl, ?_⟩
    refine (CallsIn.inRound l19 (callsIn_wide.2 (flow1_c p19 xb i (grp b i) (k : Int) _ (F22.at 2 rfl : Bk _ p19 3 #[.int .i64 (i : Int)]) hi6 (F22.at 10 rfl : Bk _ xb 3 #[.int .i64 (k : Int)]) (by omega)))).mono ?_
    rintro e w27 ⟨rfl, hg25⟩
    have hg25s := hg25.size
    (try simp at hg25s)
    have F28 := F22.gn hg25
    clear F22
    clear hg25
    cases c29 : bitOf i (k : Int)
    · skip
      have c29H := Lib.hid c29
      have b30 := F28.bx5 1 rfl
      have b31 := F28.bx3 7 rfl
      gi_wp2_with fail
      clear b30 b31
      refine ⟨trivial, rfl, ?_⟩
      refine (CallsIn.inRound l19 (callsIn_wide.2 (no_c p19 (grp b i) _))).mono ?_
      rintro e w34 ⟨rfl, hg32⟩
      have hg32s := hg32.size
      (try simp at hg32s)
      have F35 := F28.gn hg32
      clear F28
      clear hg32
      gi_wp2_with fail
      have F36 : Bun w [rkeep w17.heap.size (w17.heap.size + 2) W19b, rbox gb 38 #[.slice aa b.accs.length ak, .slice ma b.mvs.length mk], rbox (w.heap.size + 4) 23 #[.int .i64 (narF b (fun i_ => bitOf i_ (k : Int)) (fun _ => false) (ga b.accs k).op i).lo, .int .i64 (narF b (fun i_ => bitOf i_ (k : Int)) (fun _ => false) (ga b.accs k).op i).hi], rbox (w.heap.size + 3) 23 #[.int .i64 ((ga b.accs k).op.lo), .int .i64 ((ga b.accs k).op.hi)], rbox (w.heap.size + 2) 23 #[.int .i64 0, .int .i64 0], rbox (w.heap.size + 1) 121 #[.pointer (some ⟨r, k * 6 + 2, none⟩), .func (.func 67) #[] #[.pointer (some ⟨xb, 0, none⟩)], .func (.func 68) #[] #[]], rbox w.heap.size 38 #[.slice aa b.accs.length ak, .slice ma b.mvs.length mk], rmarks [], rfix xb 3 #[.int .i64 (k : Int)], rsl accEnc 6 lo3 hi3 (.slice (some ⟨r, 0, none⟩) b.accs.length c3) b.accs, rsl mvEnc 4 l2 h2 (.slice ma b.mvs.length mk) b.mvs, rsl accEnc 6 l1 h1 (.slice aa b.accs.length ak) b.accs] _ := F35.pick [0, 3, 4, 5, 6, 7, 8, 9, 10, 11, 12, 13] (by decide) rfl
      clear F35
      refine And.intro F36.kept.d ?_
      have hN_ := narF_no (b := b) (into := (fun i_ => bitOf i_ (k : Int))) (out := (fun _ => false)) (was := (ga b.accs k).op) (i := i) (by exact c29) rfl
      (try dsimp only)
      rw [hN_]
      exact ⟨hL19.cong rfl, F36.drop 0 rfl⟩
    · skip
      have c29H := Lib.hid c29
      cases c37 : ((grp b i).ground)
      · skip
        (try rw [c37] at F28)
        have c37H := Lib.hid c37
        have b38 := F28.bx5 1 rfl
        have b39 := F28.bx2 4 rfl
        have b40 := F28.bx2 5 rfl
        gi_wp2_with fail
        clear b38 b39 b40
        have F41 := ((F28.front 4 rfl rfl).set 0 (.int .i64 (max ((narF b (fun i_ => bitOf i_ (k : Int)) (fun _ => false) (ga b.accs k).op i).lo) ((ga b.accs k).op.hi - ((grp b i).most))))).nf #[.int .i64 (max ((narF b (fun i_ => bitOf i_ (k : Int)) (fun _ => false) (ga b.accs k).op i).lo) ((ga b.accs k).op.hi - ((grp b i).most))), .int .i64 (narF b (fun i_ => bitOf i_ (k : Int)) (fun _ => false) (ga b.accs k).op i).hi] rfl
        clear F28
        have F42 : Bun w [rkeep w17.heap.size (w17.heap.size + 2) W19b, rbox gb 38 #[.slice aa b.accs.length ak, .slice ma b.mvs.length mk], rbox (w.heap.size + 4) 23 #[.int .i64 (max ((narF b (fun i_ => bitOf i_ (k : Int)) (fun _ => false) (ga b.accs k).op i).lo) ((ga b.accs k).op.hi - ((grp b i).most))), .int .i64 (narF b (fun i_ => bitOf i_ (k : Int)) (fun _ => false) (ga b.accs k).op i).hi], rbox (w.heap.size + 3) 23 #[.int .i64 ((ga b.accs k).op.lo), .int .i64 ((ga b.accs k).op.hi)], rbox (w.heap.size + 2) 23 #[.int .i64 0, .int .i64 0], rbox (w.heap.size + 1) 121 #[.pointer (some ⟨r, k * 6 + 2, none⟩), .func (.func 67) #[] #[.pointer (some ⟨xb, 0, none⟩)], .func (.func 68) #[] #[]], rbox w.heap.size 38 #[.slice aa b.accs.length ak, .slice ma b.mvs.length mk], rmarks [], rfix xb 3 #[.int .i64 (k : Int)], rsl accEnc 6 lo3 hi3 (.slice (some ⟨r, 0, none⟩) b.accs.length c3) b.accs, rsl mvEnc 4 l2 h2 (.slice ma b.mvs.length mk) b.mvs, rsl accEnc 6 l1 h1 (.slice aa b.accs.length ak) b.accs] _ := F41.pick [1, 4, 0, 5, 6, 7, 8, 9, 10, 11, 12, 13] (by decide) rfl
        clear F41
        refine And.intro F42.kept.d ?_
        have hN_ := narF_in (b := b) (into := (fun i_ => bitOf i_ (k : Int))) (out := (fun _ => false)) (was := (ga b.accs k).op) (i := i) (by exact c29)
        rw [if_neg (by rw [c37]; simp)] at hN_
        (try dsimp only)
        rw [hN_]
        exact ⟨hL19.cong rfl, F42.drop 0 rfl⟩
      · skip
        (try rw [c37] at F28)
        have c37H := Lib.hid c37
        have b43 := F28.bx5 1 rfl
        have b44 := F28.bx2 4 rfl
        have b45 := F28.bx2 5 rfl
        gi_wp2_with fail
        clear b43 b44 b45
        have F46 := (F28.front 4 rfl rfl).pt2 (.int .i64 (max ((narF b (fun i_ => bitOf i_ (k : Int)) (fun _ => false) (ga b.accs k).op i).lo) ((ga b.accs k).op.hi - ((grp b i).most)))) (.int .i64 (min ((narF b (fun i_ => bitOf i_ (k : Int)) (fun _ => false) (ga b.accs k).op i).hi) ((ga b.accs k).op.lo - ((grp b i).least))))
        clear F28
        have F47 : Bun w [rkeep w17.heap.size (w17.heap.size + 2) W19b, rbox gb 38 #[.slice aa b.accs.length ak, .slice ma b.mvs.length mk], rbox (w.heap.size + 4) 23 #[.int .i64 (max ((narF b (fun i_ => bitOf i_ (k : Int)) (fun _ => false) (ga b.accs k).op i).lo) ((ga b.accs k).op.hi - ((grp b i).most))), .int .i64 (min ((narF b (fun i_ => bitOf i_ (k : Int)) (fun _ => false) (ga b.accs k).op i).hi) ((ga b.accs k).op.lo - ((grp b i).least)))], rbox (w.heap.size + 3) 23 #[.int .i64 ((ga b.accs k).op.lo), .int .i64 ((ga b.accs k).op.hi)], rbox (w.heap.size + 2) 23 #[.int .i64 0, .int .i64 0], rbox (w.heap.size + 1) 121 #[.pointer (some ⟨r, k * 6 + 2, none⟩), .func (.func 67) #[] #[.pointer (some ⟨xb, 0, none⟩)], .func (.func 68) #[] #[]], rbox w.heap.size 38 #[.slice aa b.accs.length ak, .slice ma b.mvs.length mk], rmarks [], rfix xb 3 #[.int .i64 (k : Int)], rsl accEnc 6 lo3 hi3 (.slice (some ⟨r, 0, none⟩) b.accs.length c3) b.accs, rsl mvEnc 4 l2 h2 (.slice ma b.mvs.length mk) b.mvs, rsl accEnc 6 l1 h1 (.slice aa b.accs.length ak) b.accs] _ := F46.pick [1, 4, 0, 5, 6, 7, 8, 9, 10, 11, 12, 13] (by decide) rfl
        clear F46
        refine And.intro F47.kept.d ?_
        have hN_ := narF_in (b := b) (into := (fun i_ => bitOf i_ (k : Int))) (out := (fun _ => false)) (was := (ga b.accs k).op) (i := i) (by exact c29)
        rw [if_pos c37] at hN_
        (try dsimp only)
        rw [hN_]
        exact ⟨hL19.cong rfl, F47.drop 0 rfl⟩
  case done19 =>
    rintro W19 ⟨hL19, G19_⟩ hK19
    have F19_ := G19_.marked hL19 hw019 hK19
    have hWs19 : w17.heap.size < W19.heap.size := (Array.getElem?_eq_some_iff.1 hK19).1
    clear G19_ F20
    have F48 : Bun w [rkeep w17.heap.size (w17.heap.size + 1) W19, rmarks [], rbox gb 38 #[.slice aa b.accs.length ak, .slice ma b.mvs.length mk], rbox (w.heap.size + 4) 23 #[.int .i64 (narF b (fun i_ => bitOf i_ (k : Int)) (fun _ => false) (ga b.accs k).op (2 ^ b.accs.length)).lo, .int .i64 (narF b (fun i_ => bitOf i_ (k : Int)) (fun _ => false) (ga b.accs k).op (2 ^ b.accs.length)).hi], rbox (w.heap.size + 3) 23 #[.int .i64 ((ga b.accs k).op.lo), .int .i64 ((ga b.accs k).op.hi)], rbox (w.heap.size + 2) 23 #[.int .i64 0, .int .i64 0], rbox (w.heap.size + 1) 121 #[.pointer (some ⟨r, k * 6 + 2, none⟩), .func (.func 67) #[] #[.pointer (some ⟨xb, 0, none⟩)], .func (.func 68) #[] #[]], rbox w.heap.size 38 #[.slice aa b.accs.length ak, .slice ma b.mvs.length mk], rfix xb 3 #[.int .i64 (k : Int)], rsl accEnc 6 lo3 hi3 (.slice (some ⟨r, 0, none⟩) b.accs.length c3) b.accs, rsl mvEnc 4 l2 h2 (.slice ma b.mvs.length mk) b.mvs, rsl accEnc 6 l1 h1 (.slice aa b.accs.length ak) b.accs] _ := F19_.pick [0, 7, 1, 2, 3, 4, 5, 6, 8, 9, 10, 11] (by decide) rfl
    clear F19_
    have F49 := F48.mark (by omega) hK19
    clear F48
    have b50 := F49.bx2 2 rfl
    have b51 := F49.bx2 4 rfl
    go_wp2_with fail
    clear b50 b51
    have F52 := (F49.front 4 rfl rfl).pt2 (.int .i64 ((narF b (fun i_ => bitOf i_ (k : Int)) (fun _ => false) (ga b.accs k).op (2 ^ b.accs.length)).lo)) (.int .i64 ((narF b (fun i_ => bitOf i_ (k : Int)) (fun _ => false) (ga b.accs k).op (2 ^ b.accs.length)).hi))
    clear F49
    have kb53 := F52.bx2 0 rfl
    go_wp2_with fail
    refine leave_marks (F52.front 1 rfl rfl).marks (.agg #[.int .i64 ((narF b (fun i_ => bitOf i_ (k : Int)) (fun _ => false) (ga b.accs k).op (2 ^ b.accs.length)).lo), .int .i64 ((narF b (fun i_ => bitOf i_ (k : Int)) (fun _ => false) (ga b.accs k).op (2 ^ b.accs.length)).hi)]) fun w' hs => ?_
    have km54 := Bk.bx2 (hs.bk ((F52.front 1 rfl rfl).at 1 rfl : Bk _ (w.heap.size + 2) 23 #[.int .i64 ((narF b (fun i_ => bitOf i_ (k : Int)) (fun _ => false) (ga b.accs k).op (2 ^ b.accs.length)).lo), .int .i64 ((narF b (fun i_ => bitOf i_ (k : Int)) (fun _ => false) (ga b.accs k).op (2 ^ b.accs.length)).hi)]))
    exact ⟨by simp [results, Tryd.results58, go_sem, km54], ⟨rfl, hs.gb (F52.front 1 rfl rfl).gb (Nat.le_refl _)⟩⟩

end Go.Proofs.YtcndphefomigeaaDoor
/- fuel: a flow narrowed (1). -/
namespace Go.Proofs.YtcndphefomigeaaDoor
open Go.RowKit Go.Shelf
set_option maxRecDepth 100000
attribute [local go_sem] run_store_func Oper.semAt_some

set_option maxHeartbeats 16000000 in
theorem nar1_c (l1 h1 l2 h2 : Nat) (va vm : Value) (b : Bok) (r k xb lo3 hi3 c3 : Nat) (w : World) (ha : Accs l1 h1 w va b.accs) (hm : Mvs l2 h2 w vm b.mvs) (b1 : h1 ≤ w.heap.size) (b2 : h2 ≤ w.heap.size) (hok : BokOk b) (hk : k < b.accs.length) (hx : Bk w xb 3 #[.int .i64 (k : Int)]) (hl : Sl accEnc 6 lo3 hi3 w (.slice (some ⟨r, 0, none⟩) b.accs.length c3) b.accs) (h3 : hi3 ≤ w.heap.size) :
    Calls Tryd.prog 58 #[.agg #[va, vm], .agg #[.pointer (some ⟨r, k * 6 + 4, none⟩), .func (.func 68) #[] #[], .func (.func 67) #[] #[.pointer (some ⟨xb, 0, none⟩)]]] w (Ret (.agg #[.int .i64 ((narF b (fun _ => false) (fun i_ => bitOf i_ (k : Int)) (ga b.accs k).cl (2 ^ b.accs.length)).lo), .int .i64 ((narF b (fun _ => false) (fun i_ => bitOf i_ (k : Int)) (ga b.accs k).cl (2 ^ b.accs.length)).hi)]) w) := by
  have F1 : Bun w [] w := Bun.nil _
  have hm_ac := ha.len
  unfold maxLen at hm_ac
  obtain ⟨aa, ak, rfl⟩ := ha.any
  have F2 := F1.sl0 ha b1 rfl
  clear F1
  clear ha
  have hm_mv := hm.len
  unfold maxLen at hm_mv
  obtain ⟨ma, mk, rfl⟩ := hm.any
  have F3 := F2.sl0 hm b2 rfl
  clear F2
  clear hm
  have F4 := F3.sl0 hl h3 rfl
  clear F3
  clear hl
  have F5 := F4.fix0 hx rfl
  clear F4
  clear hx
  have HOK := Lib.hid hok
  have h8_ := hok.n8
  have h30_ := hok.m30
  have hz_ : Hid (b.accs[k]? = some (ga b.accs k)) := Lib.hid (by rw [ga_get hk]; exact List.getElem?_eq_getElem hk)
  have hwb := (hok.acc k hk).cl
  have hr0_ := cell_lt (((F5.at 1 rfl : Sl accEnc 6 lo3 hi3 _ (.slice (some ⟨r, 0, none⟩) b.accs.length c3) b.accs)).cells0 hz_.out 0 _ rfl)
  have hr1_ : r < w.heap.size + 1 := by omega
  have hr2_ : r < w.heap.size + 1 + 1 := by omega
  have hpw := pow256 hok.n8
  clear hok
  have F6 := F5.marks0
  clear F5
  refine callsIn_wide.1 (callsIn_of_wp_marks (n := 0) Tryd.func58 rfl trivial ?_ rfl)
  simp only [Tryd.ntmps58, List.size_toArray, List.length_cons, List.length_nil, Nat.reduceAdd, Nat.reduceSub, Array.replicate_succ, Array.replicate_zero, List.push_toArray, List.append_toArray, List.nil_append, List.cons_append]
  refine wpIn_wide.2 ?_
  refine wp_mono (Q := calmQ _) ?_ calmQ_le
  have ge7 : World.cell? _ ⟨r, k * 6 + 4, none⟩ = some (.int .i64 (ga b.accs k).cl.lo) := (((F6.at 2 rfl : Sl accEnc 6 lo3 hi3 _ (.slice (some ⟨r, 0, none⟩) b.accs.length c3) b.accs)).cells0 hz_.out 4 _ rfl)
  have gl8 := cell_lt ge7
  have ge9 : World.cell? _ ⟨r, k * 6 + 4 + 1, none⟩ = some (.int .i64 (ga b.accs k).cl.hi) := (((F6.at 2 rfl : Sl accEnc 6 lo3 hi3 _ (.slice (some ⟨r, 0, none⟩) b.accs.length c3) b.accs)).cells0 hz_.out 5 _ rfl)
  go_wp2_with fail
  clear ge7 gl8 ge9
  have F10 := F6.new 38 #[.slice aa b.accs.length ak, .slice ma b.mvs.length mk] (n := w.heap.size) (by simp)
  clear F6
  have F11 := F10.new 121 #[.pointer (some ⟨r, k * 6 + 4, none⟩), .func (.func 68) #[] #[], .func (.func 67) #[] #[.pointer (some ⟨xb, 0, none⟩)]] (n := (w.heap.size + 1)) (by simp)
  clear F10
  have F12 := F11.new 23 #[.int .i64 0, .int .i64 0] (n := (w.heap.size + 2)) (by simp)
  clear F11
  have F13 := F12.new 23 #[.int .i64 ((ga b.accs k).cl.lo), .int .i64 ((ga b.accs k).cl.hi)] (n := (w.heap.size + 3)) (by simp)
  clear F12
  have F14 := F13.new 23 #[.int .i64 ((ga b.accs k).cl.lo), .int .i64 ((ga b.accs k).cl.hi)] (n := (w.heap.size + 4)) (by simp)
  clear F13
  refine (groups_b (.slice aa b.accs.length ak) (.slice ma b.mvs.length mk) _ ⟨_, _, _, rfl⟩ ⟨_, _, _, rfl⟩).mono ?_
  rintro e w17 ⟨gb, rfl, hgb1, hgb2, hg15⟩
  have hg15s := hg15.size
  (try simp at hg15s)
  have F18 := F14.add (rbox gb 38 #[.slice aa b.accs.length ak, .slice ma b.mvs.length mk]) hg15 (hgb2) (fun g e => by cases e; exact ⟨hgb1, hgb2.lt⟩)
  clear F14
  clear hg15
  go_wp2_with fail
  have F20 : Bun w [rbox gb 38 #[.slice aa b.accs.length ak, .slice ma b.mvs.length mk], rbox (w.heap.size + 4) 23 #[.int .i64 ((ga b.accs k).cl.lo), .int .i64 ((ga b.accs k).cl.hi)], rbox (w.heap.size + 3) 23 #[.int .i64 ((ga b.accs k).cl.lo), .int .i64 ((ga b.accs k).cl.hi)], rbox (w.heap.size + 2) 23 #[.int .i64 0, .int .i64 0], rbox (w.heap.size + 1) 121 #[.pointer (some ⟨r, k * 6 + 4, none⟩), .func (.func 68) #[] #[], .func (.func 67) #[] #[.pointer (some ⟨xb, 0, none⟩)]], rbox w.heap.size 38 #[.slice aa b.accs.length ak, .slice ma b.mvs.length mk], rmarks [], rfix xb 3 #[.int .i64 (k : Int)], rsl accEnc 6 lo3 hi3 (.slice (some ⟨r, 0, none⟩) b.accs.length c3) b.accs, rsl mvEnc 4 l2 h2 (.slice ma b.mvs.length mk) b.mvs, rsl accEnc 6 l1 h1 (.slice aa b.accs.length ak) b.accs] w17 := F18
  have hLw19 := F20.low
  have hw019 := F20.gb.size
  refine wp_rangeG (gf := 54) (lb := #[.pointer (some ⟨gb, 0, none⟩)]) (el := (fun i p => .agg #[.func (.func 55) #[] #[.pointer (some ⟨p, 0, none⟩)], .int .i64 ((grp b i).least), .int .i64 ((grp b i).most), .bool ((grp b i).ground), .bool ((grp b i).rest)])) rfl (enters_of Tryd.func54 (by kernel_rfl) rfl) rfl (groups_seq gb l1 h1 l2 h2 (.slice aa b.accs.length ak) (.slice ma b.mvs.length mk) b HOK.out) (fun i A => LowL w17.heap.size [rbox gb 38 #[.slice aa b.accs.length ak, .slice ma b.mvs.length mk], rbox (w.heap.size + 4) 23 #[.int .i64 (narF b (fun _ => false) (fun i_ => bitOf i_ (k : Int)) (ga b.accs k).cl i).lo, .int .i64 (narF b (fun _ => false) (fun i_ => bitOf i_ (k : Int)) (ga b.accs k).cl i).hi], rbox (w.heap.size + 3) 23 #[.int .i64 ((ga b.accs k).cl.lo), .int .i64 ((ga b.accs k).cl.hi)], rbox (w.heap.size + 2) 23 #[.int .i64 0, .int .i64 0], rbox (w.heap.size + 1) 121 #[.pointer (some ⟨r, k * 6 + 4, none⟩), .func (.func 68) #[] #[], .func (.func 67) #[] #[.pointer (some ⟨xb, 0, none⟩)]], rbox w.heap.size 38 #[.slice aa b.accs.length ak, .slice ma b.mvs.length mk], rmarks [], rfix xb 3 #[.int .i64 (k : Int)], rsl accEnc 6 lo3 hi3 (.slice (some ⟨r, 0, none⟩) b.accs.length c3) b.accs, rsl mvEnc 4 l2 h2 (.slice ma b.mvs.length mk) b.mvs, rsl accEnc 6 l1 h1 (.slice aa b.accs.length ak) b.accs] ∧ Bun w [rbox gb 38 #[.slice aa b.accs.length ak, .slice ma b.mvs.length mk], rbox (w.heap.size + 4) 23 #[.int .i64 (narF b (fun _ => false) (fun i_ => bitOf i_ (k : Int)) (ga b.accs k).cl i).lo, .int .i64 (narF b (fun _ => false) (fun i_ => bitOf i_ (k : Int)) (ga b.accs k).cl i).hi], rbox (w.heap.size + 3) 23 #[.int .i64 ((ga b.accs k).cl.lo), .int .i64 ((ga b.accs k).cl.hi)], rbox (w.heap.size + 2) 23 #[.int .i64 0, .int .i64 0], rbox (w.heap.size + 1) 121 #[.pointer (some ⟨r, k * 6 + 4, none⟩), .func (.func 68) #[] #[], .func (.func 67) #[] #[.pointer (some ⟨xb, 0, none⟩)]], rbox w.heap.size 38 #[.slice aa b.accs.length ak, .slice ma b.mvs.length mk], rmarks [], rfix xb 3 #[.int .i64 (k : Int)], rsl accEnc 6 lo3 hi3 (.slice (some ⟨r, 0, none⟩) b.accs.length c3) b.accs, rsl mvEnc 4 l2 h2 (.slice ma b.mvs.length mk) b.mvs, rsl accEnc 6 l1 h1 (.slice aa b.accs.length ak) b.accs] A) (fun _ _ _ => False) ?hI19 (fun _ _ _ _ _ h _ _ => h) ?hH19 ?h019 ?round19 ?done19 (fun _ _ _ _ h => h.elim)
  case hI19 =>
    rintro i A B r ⟨hL19, F_⟩ hg hr
    exact ⟨hL19, F_.gbFrom hL19 hw019 hg (fun g e => (hr g e).1)⟩
  case hH19 =>
    rintro i A ⟨hL19, F_⟩
    exact ⟨(F_.at 0 rfl : Bk _ gb 38 #[.slice aa b.accs.length ak, .slice ma b.mvs.length mk]), (F_.at 10 rfl : Sl accEnc 6 l1 h1 _ (.slice aa b.accs.length ak) b.accs), (F_.at 9 rfl : Sl mvEnc 4 l2 h2 _ (.slice ma b.mvs.length mk) b.mvs)⟩
  case h019 => exact ⟨hLw19, F20⟩
  case round19 =>
    rintro l19 i p19 W19 ⟨hL19, G19_⟩ hlt19 hp19 hs19 hbk19
    have F19_ := G19_.ranged hL19 hw019 hs19 hp19 hbk19
    clear G19_ hbk19 F20
    have hi6 : i < 256 := by omega
    have hgd := grp_bd HOK.out i
    gi_wp2_with fail
    have F21 := F19_.new 72 #[.func (.func 55) #[] #[.pointer (some ⟨p19, 0, none⟩)], .int .i64 ((grp b i).least), .int .i64 ((grp b i).most), .bool ((grp b i).ground), .bool ((grp b i).rest)] (n := W19.heap.size) (by simp)
    clear F19_
    refine And.intro (F21.front 1 rfl rfl).kept.d (fun W19b hg19b => ?_)
    have hg19bs := hg19b.size
    (try simp at hg19bs)
    have F22 := (F21.front 1 rfl rfl).rekeep hg19b (fun g e => by cases e; omega)
    clear F21
    have b23 := F22.bx5 1 rfl
    have b24 := F22.bx3 7 rfl
    gi_wp2_with fail
    clear b23 b24
    refine ⟨trivial, rfl, ?_⟩
    refine (CallsIn.inRound l19 (callsIn_wide.2 (no_c p19 (grp b i) _))).mono ?_
    rintro e w27 ⟨rfl, hg25⟩
    have hg25s := hg25.size
    (try simp at hg25s)
    have F28 := F22.gn hg25
    clear F22
    clear hg25
    have b29 := F28.bx5 1 rfl
    have b30 := F28.bx3 7 rfl
    gi_wp2_with fail
    clear b29 b30
    refine ⟨trivial, rfl, ?_⟩
    refine (CallsIn.inRound l19 (callsIn_wide.2 (flow1_c p19 xb i (grp b i) (k : Int) _ (F28.at 2 rfl : Bk _ p19 3 #[.int .i64 (i : Int)]) hi6 (F28.at 10 rfl : Bk _ xb 3 #[.int .i64 (k : Int)]) (by omega)))).mono ?_
    rintro e w33 ⟨rfl, hg31⟩
    have hg31s := hg31.size
    (try simp at hg31s)
    have F34 := F28.gn hg31
    clear F28
    clear hg31
    cases c35 : bitOf i (k : Int)
    · skip
      have c35H := Lib.hid c35
      gi_wp2_with fail
      have F36 : Bun w [rkeep w17.heap.size (w17.heap.size + 2) W19b, rbox gb 38 #[.slice aa b.accs.length ak, .slice ma b.mvs.length mk], rbox (w.heap.size + 4) 23 #[.int .i64 (narF b (fun _ => false) (fun i_ => bitOf i_ (k : Int)) (ga b.accs k).cl i).lo, .int .i64 (narF b (fun _ => false) (fun i_ => bitOf i_ (k : Int)) (ga b.accs k).cl i).hi], rbox (w.heap.size + 3) 23 #[.int .i64 ((ga b.accs k).cl.lo), .int .i64 ((ga b.accs k).cl.hi)], rbox (w.heap.size + 2) 23 #[.int .i64 0, .int .i64 0], rbox (w.heap.size + 1) 121 #[.pointer (some ⟨r, k * 6 + 4, none⟩), .func (.func 68) #[] #[], .func (.func 67) #[] #[.pointer (some ⟨xb, 0, none⟩)]], rbox w.heap.size 38 #[.slice aa b.accs.length ak, .slice ma b.mvs.length mk], rmarks [], rfix xb 3 #[.int .i64 (k : Int)], rsl accEnc 6 lo3 hi3 (.slice (some ⟨r, 0, none⟩) b.accs.length c3) b.accs, rsl mvEnc 4 l2 h2 (.slice ma b.mvs.length mk) b.mvs, rsl accEnc 6 l1 h1 (.slice aa b.accs.length ak) b.accs] _ := F34.pick [0, 3, 4, 5, 6, 7, 8, 9, 10, 11, 12, 13] (by decide) rfl
      clear F34
      refine And.intro F36.kept.d ?_
      have hN_ := narF_no (b := b) (into := (fun _ => false)) (out := (fun i_ => bitOf i_ (k : Int))) (was := (ga b.accs k).cl) (i := i) rfl (by exact c35)
      (try dsimp only)
      rw [hN_]
      exact ⟨hL19.cong rfl, F36.drop 0 rfl⟩
    · skip
      have c35H := Lib.hid c35
      cases c37 : ((grp b i).ground)
      · skip
        (try rw [c37] at F34)
        have c37H := Lib.hid c37
        have b38 := F34.bx5 1 rfl
        have b39 := F34.bx2 4 rfl
        have b40 := F34.bx2 5 rfl
        gi_wp2_with fail
        clear b38 b39 b40
        have F41 := ((F34.front 4 rfl rfl).set 1 (.int .i64 (min ((narF b (fun _ => false) (fun i_ => bitOf i_ (k : Int)) (ga b.accs k).cl i).hi) ((ga b.accs k).cl.lo + ((grp b i).most))))).nf #[.int .i64 (narF b (fun _ => false) (fun i_ => bitOf i_ (k : Int)) (ga b.accs k).cl i).lo, .int .i64 (min ((narF b (fun _ => false) (fun i_ => bitOf i_ (k : Int)) (ga b.accs k).cl i).hi) ((ga b.accs k).cl.lo + ((grp b i).most)))] rfl
        clear F34
        have F42 : Bun w [rkeep w17.heap.size (w17.heap.size + 2) W19b, rbox gb 38 #[.slice aa b.accs.length ak, .slice ma b.mvs.length mk], rbox (w.heap.size + 4) 23 #[.int .i64 (narF b (fun _ => false) (fun i_ => bitOf i_ (k : Int)) (ga b.accs k).cl i).lo, .int .i64 (min ((narF b (fun _ => false) (fun i_ => bitOf i_ (k : Int)) (ga b.accs k).cl i).hi) ((ga b.accs k).cl.lo + ((grp b i).most)))], rbox (w.heap.size + 3) 23 #[.int .i64 ((ga b.accs k).cl.lo), .int .i64 ((ga b.accs k).cl.hi)], rbox (w.heap.size + 2) 23 #[.int .i64 0, .int .i64 0], rbox (w.heap.size + 1) 121 #[.pointer (some ⟨r, k * 6 + 4, none⟩), .func (.func 68) #[] #[], .func (.func 67) #[] #[.pointer (some ⟨xb, 0, none⟩)]], rbox w.heap.size 38 #[.slice aa b.accs.length ak, .slice ma b.mvs.length mk], rmarks [], rfix xb 3 #[.int .i64 (k : Int)], rsl accEnc 6 lo3 hi3 (.slice (some ⟨r, 0, none⟩) b.accs.length c3) b.accs, rsl mvEnc 4 l2 h2 (.slice ma b.mvs.length mk) b.mvs, rsl accEnc 6 l1 h1 (.slice aa b.accs.length ak) b.accs] _ := F41.pick [1, 4, 0, 5, 6, 7, 8, 9, 10, 11, 12, 13] (by decide) rfl
        clear F41
        refine And.intro F42.kept.d ?_
        have hN_ := narF_ou (b := b) (into := (fun _ => false)) (out := (fun i_ => bitOf i_ (k : Int))) (was := (ga b.accs k).cl) (i := i) rfl (by exact c35)
        rw [if_neg (by rw [c37]; simp)] at hN_
        (try dsimp only)
        rw [hN_]
        exact ⟨hL19.cong rfl, F42.drop 0 rfl⟩
      · skip
        (try rw [c37] at F34)
        have c37H := Lib.hid c37
        have b43 := F34.bx5 1 rfl
        have b44 := F34.bx2 4 rfl
        have b45 := F34.bx2 5 rfl
        gi_wp2_with fail
        clear b43 b44 b45
        have F46 := ((F34.front 4 rfl rfl).set 1 (.int .i64 (min ((narF b (fun _ => false) (fun i_ => bitOf i_ (k : Int)) (ga b.accs k).cl i).hi) ((ga b.accs k).cl.lo + ((grp b i).most))))).nf #[.int .i64 (narF b (fun _ => false) (fun i_ => bitOf i_ (k : Int)) (ga b.accs k).cl i).lo, .int .i64 (min ((narF b (fun _ => false) (fun i_ => bitOf i_ (k : Int)) (ga b.accs k).cl i).hi) ((ga b.accs k).cl.lo + ((grp b i).most)))] rfl
        clear F34
        have F47 := (F46.set 0 (.int .i64 (max ((narF b (fun _ => false) (fun i_ => bitOf i_ (k : Int)) (ga b.accs k).cl i).lo) ((ga b.accs k).cl.hi + ((grp b i).least))))).nf #[.int .i64 (max ((narF b (fun _ => false) (fun i_ => bitOf i_ (k : Int)) (ga b.accs k).cl i).lo) ((ga b.accs k).cl.hi + ((grp b i).least))), .int .i64 (min ((narF b (fun _ => false) (fun i_ => bitOf i_ (k : Int)) (ga b.accs k).cl i).hi) ((ga b.accs k).cl.lo + ((grp b i).most)))] rfl
        clear F46
        have F48 : Bun w [rkeep w17.heap.size (w17.heap.size + 2) W19b, rbox gb 38 #[.slice aa b.accs.length ak, .slice ma b.mvs.length mk], rbox (w.heap.size + 4) 23 #[.int .i64 (max ((narF b (fun _ => false) (fun i_ => bitOf i_ (k : Int)) (ga b.accs k).cl i).lo) ((ga b.accs k).cl.hi + ((grp b i).least))), .int .i64 (min ((narF b (fun _ => false) (fun i_ => bitOf i_ (k : Int)) (ga b.accs k).cl i).hi) ((ga b.accs k).cl.lo + ((grp b i).most)))], rbox (w.heap.size + 3) 23 #[.int .i64 ((ga b.accs k).cl.lo), .int .i64 ((ga b.accs k).cl.hi)], rbox (w.heap.size + 2) 23 #[.int .i64 0, .int .i64 0], rbox (w.heap.size + 1) 121 #[.pointer (some ⟨r, k * 6 + 4, none⟩), .func (.func 68) #[] #[], .func (.func 67) #[] #[.pointer (some ⟨xb, 0, none⟩)]], rbox w.heap.size 38 #[.slice aa b.accs.length ak, .slice ma b.mvs.length mk], rmarks [], rfix xb 3 #[.int .i64 (k : Int)], rsl accEnc 6 lo3 hi3 (.slice (some ⟨r, 0, none⟩) b.accs.length c3) b.accs, rsl mvEnc 4 l2 h2 (.slice ma b.mvs.length mk) b.mvs, rsl accEnc 6 l1 h1 (.slice aa b.accs.length ak) b.accs] _ := F47.pick [1, 4, 0, 5, 6, 7, 8, 9, 10, 11, 12, 13] (by decide) rfl
        clear F47
        refine And.intro F48.kept.d ?_
        have hN_ := narF_ou (b := b) (into := (fun _ => false)) (out := (fun i_ => bitOf i_ (k : Int))) (was := (ga b.accs k).cl) (i := i) rfl (by exact c35)
        rw [if_pos c37] at hN_
        (try dsimp only)
        rw [hN_]
        exact ⟨hL19.cong rfl, F48.drop 0 rfl⟩
  case done19 =>
    rintro W19 ⟨hL19, G19_⟩ hK19
    have F19_ := G19_.marked hL19 hw019 hK19
    have hWs19 : w17.heap.size < W19.heap.size := (Array.getElem?_eq_some_iff.1 hK19).1
    clear G19_ F20
    have F49 : Bun w [rkeep w17.heap.size (w17.heap.size + 1) W19, rmarks [], rbox gb 38 #[.slice aa b.accs.length ak, .slice ma b.mvs.length mk], rbox (w.heap.size + 4) 23 #[.int .i64 (narF b (fun _ => false) (fun i_ => bitOf i_ (k : Int)) (ga b.accs k).cl (2 ^ b.accs.length)).lo, .int .i64 (narF b (fun _ => false) (fun i_ => bitOf i_ (k : Int)) (ga b.accs k).cl (2 ^ b.accs.length)).hi], rbox (w.heap.size + 3) 23 #[.int .i64 ((ga b.accs k).cl.lo), .int .i64 ((ga b.accs k).cl.hi)], rbox (w.heap.size + 2) 23 #[.int .i64 0, .int .i64 0], rbox (w.heap.size + 1) 121 #[.pointer (some ⟨r, k * 6 + 4, none⟩), .func (.func 68) #[] #[], .func (.func 67) #[] #[.pointer (some ⟨xb, 0, none⟩)]], rbox w.heap.size 38 #[.slice aa b.accs.length ak, .slice ma b.mvs.length mk], rfix xb 3 #[.int .i64 (k : Int)], rsl accEnc 6 lo3 hi3 (.slice (some ⟨r, 0, none⟩) b.accs.length c3) b.accs, rsl mvEnc 4 l2 h2 (.slice ma b.mvs.length mk) b.mvs, rsl accEnc 6 l1 h1 (.slice aa b.accs.length ak) b.accs] _ := F19_.pick [0, 7, 1, 2, 3, 4, 5, 6, 8, 9, 10, 11] (by decide) rfl
    clear F19_
    have F50 := F49.mark (by omega) hK19
    clear F49
    have b51 := F50.bx2 2 rfl
    have b52 := F50.bx2 4 rfl
    go_wp2_with fail
    clear b51 b52
    have F53 := (F50.front 4 rfl rfl).pt2 (.int .i64 ((narF b (fun _ => false) (fun i_ => bitOf i_ (k : Int)) (ga b.accs k).cl (2 ^ b.accs.length)).lo)) (.int .i64 ((narF b (fun _ => false) (fun i_ => bitOf i_ (k : Int)) (ga b.accs k).cl (2 ^ b.accs.length)).hi))
    clear F50
    have kb54 := F53.bx2 0 rfl
    go_wp2_with fail
    refine leave_marks (F53.front 1 rfl rfl).marks (.agg #[.int .i64 ((narF b (fun _ => false) (fun i_ => bitOf i_ (k : Int)) (ga b.accs k).cl (2 ^ b.accs.length)).lo), .int .i64 ((narF b (fun _ => false) (fun i_ => bitOf i_ (k : Int)) (ga b.accs k).cl (2 ^ b.accs.length)).hi)]) fun w' hs => ?_
    have km55 := Bk.bx2 (hs.bk ((F53.front 1 rfl rfl).at 1 rfl : Bk _ (w.heap.size + 2) 23 #[.int .i64 ((narF b (fun _ => false) (fun i_ => bitOf i_ (k : Int)) (ga b.accs k).cl (2 ^ b.accs.length)).lo), .int .i64 ((narF b (fun _ => false) (fun i_ => bitOf i_ (k : Int)) (ga b.accs k).cl (2 ^ b.accs.length)).hi)]))
    exact ⟨by simp [results, Tryd.results58, go_sem, km55], ⟨rfl, hs.gb (F53.front 1 rfl rfl).gb (Nat.le_refl _)⟩⟩

end Go.Proofs.YtcndphefomigeaaDoor
/- fuel: a flow narrowed (2). -/
namespace Go.Proofs.YtcndphefomigeaaDoor
open Go.RowKit Go.Shelf
set_option maxRecDepth 100000
attribute [local go_sem] run_store_func Oper.semAt_some

set_option maxHeartbeats 16000000 in
theorem nar2_c (l1 h1 l2 h2 : Nat) (va vm : Value) (b : Bok) (r k xb lo3 hi3 c3 : Nat) (w : World) (ha : Accs l1 h1 w va b.accs) (hm : Mvs l2 h2 w vm b.mvs) (b1 : h1 ≤ w.heap.size) (b2 : h2 ≤ w.heap.size) (hok : BokOk b) (hk : k < b.mvs.length) (hx : Bk w xb 135 #[.pointer (some ⟨r, k * 4, none⟩)]) (hl : Sl mvEnc 4 lo3 hi3 w (.slice (some ⟨r, 0, none⟩) b.mvs.length c3) b.mvs) (h3 : hi3 ≤ w.heap.size) :
    Calls Tryd.prog 58 #[.agg #[va, vm], .agg #[.pointer (some ⟨r, k * 4 + 2, none⟩), .func (.func 69) #[] #[.pointer (some ⟨xb, 0, none⟩)], .func (.func 70) #[] #[.pointer (some ⟨xb, 0, none⟩)]]] w (Ret (.agg #[.int .i64 ((narF b (fun i_ => bitOf i_ (gm b.mvs k).to && !bitOf i_ (gm b.mvs k).fr) (fun i_ => bitOf i_ (gm b.mvs k).fr && !bitOf i_ (gm b.mvs k).to) (gm b.mvs k).li (2 ^ b.accs.length)).lo), .int .i64 ((narF b (fun i_ => bitOf i_ (gm b.mvs k).to && !bitOf i_ (gm b.mvs k).fr) (fun i_ => bitOf i_ (gm b.mvs k).fr && !bitOf i_ (gm b.mvs k).to) (gm b.mvs k).li (2 ^ b.accs.length)).hi)]) w) := by
  have F1 : Bun w [] w := Bun.nil _
  have hm_ac := ha.len
  unfold maxLen at hm_ac
  obtain ⟨aa, ak, rfl⟩ := ha.any
  have F2 := F1.sl0 ha b1 rfl
  clear F1
  clear ha
  have hm_mv := hm.len
  unfold maxLen at hm_mv
  obtain ⟨ma, mk, rfl⟩ := hm.any
  have F3 := F2.sl0 hm b2 rfl
  clear F2
  clear hm
  have F4 := F3.sl0 hl h3 rfl
  clear F3
  clear hl
  have F5 := F4.fix0 hx rfl
  clear F4
  clear hx
  have HOK := Lib.hid hok
  have h8_ := hok.n8
  have h30_ := hok.m30
  have hz_ : Hid (b.mvs[k]? = some (gm b.mvs k)) := Lib.hid (gm_at' hk)
  have hwb := (hok.mv k hk).li
  have hmb : (0 ≤ (gm b.mvs k).fr ∧ (gm b.mvs k).fr < 8) ∧ 0 ≤ (gm b.mvs k).to ∧ (gm b.mvs k).to < 8 := by have h1_ := (hok.mv k hk).fr; have h2_ := (hok.mv k hk).to; omega
  have hr0_ := cell_lt (((F5.at 1 rfl : Sl mvEnc 4 lo3 hi3 _ (.slice (some ⟨r, 0, none⟩) b.mvs.length c3) b.mvs)).cells0 hz_.out 0 _ rfl)
  have hr1_ : r < w.heap.size + 1 := by omega
  have hr2_ : r < w.heap.size + 1 + 1 := by omega
  have hpw := pow256 hok.n8
  clear hok
  have F6 := F5.marks0
  clear F5
  refine callsIn_wide.1 (callsIn_of_wp_marks (n := 0) Tryd.func58 rfl trivial ?_ rfl)
  simp only [Tryd.ntmps58, List.size_toArray, List.length_cons, List.length_nil, Nat.reduceAdd, Nat.reduceSub, Array.replicate_succ, Array.replicate_zero, List.push_toArray, List.append_toArray, List.nil_append, List.cons_append]
  refine wpIn_wide.2 ?_
  refine wp_mono (Q := calmQ _) ?_ calmQ_le
  have ge7 : World.cell? _ ⟨r, k * 4 + 2, none⟩ = some (.int .i64 (gm b.mvs k).li.lo) := (((F6.at 2 rfl : Sl mvEnc 4 lo3 hi3 _ (.slice (some ⟨r, 0, none⟩) b.mvs.length c3) b.mvs)).cells0 hz_.out 2 _ rfl)
  have gl8 := cell_lt ge7
  have ge9 : World.cell? _ ⟨r, k * 4 + 2 + 1, none⟩ = some (.int .i64 (gm b.mvs k).li.hi) := (((F6.at 2 rfl : Sl mvEnc 4 lo3 hi3 _ (.slice (some ⟨r, 0, none⟩) b.mvs.length c3) b.mvs)).cells0 hz_.out 3 _ rfl)
  go_wp2_with fail
  clear ge7 gl8 ge9
  have F10 := F6.new 38 #[.slice aa b.accs.length ak, .slice ma b.mvs.length mk] (n := w.heap.size) (by simp)
  clear F6
  have F11 := F10.new 121 #[.pointer (some ⟨r, k * 4 + 2, none⟩), .func (.func 69) #[] #[.pointer (some ⟨xb, 0, none⟩)], .func (.func 70) #[] #[.pointer (some ⟨xb, 0, none⟩)]] (n := (w.heap.size + 1)) (by simp)
  clear F10
  have F12 := F11.new 23 #[.int .i64 0, .int .i64 0] (n := (w.heap.size + 2)) (by simp)
  clear F11
  have F13 := F12.new 23 #[.int .i64 ((gm b.mvs k).li.lo), .int .i64 ((gm b.mvs k).li.hi)] (n := (w.heap.size + 3)) (by simp)
  clear F12
  have F14 := F13.new 23 #[.int .i64 ((gm b.mvs k).li.lo), .int .i64 ((gm b.mvs k).li.hi)] (n := (w.heap.size + 4)) (by simp)
  clear F13
  refine (groups_b (.slice aa b.accs.length ak) (.slice ma b.mvs.length mk) _ ⟨_, _, _, rfl⟩ ⟨_, _, _, rfl⟩).mono ?_
  rintro e w17 ⟨gb, rfl, hgb1, hgb2, hg15⟩
  have hg15s := hg15.size
  (try simp at hg15s)
  have F18 := F14.add (rbox gb 38 #[.slice aa b.accs.length ak, .slice ma b.mvs.length mk]) hg15 (hgb2) (fun g e => by cases e; exact ⟨hgb1, hgb2.lt⟩)
  clear F14
  clear hg15
  go_wp2_with fail
  have F20 : Bun w [rbox gb 38 #[.slice aa b.accs.length ak, .slice ma b.mvs.length mk], rbox (w.heap.size + 4) 23 #[.int .i64 ((gm b.mvs k).li.lo), .int .i64 ((gm b.mvs k).li.hi)], rbox (w.heap.size + 3) 23 #[.int .i64 ((gm b.mvs k).li.lo), .int .i64 ((gm b.mvs k).li.hi)], rbox (w.heap.size + 2) 23 #[.int .i64 0, .int .i64 0], rbox (w.heap.size + 1) 121 #[.pointer (some ⟨r, k * 4 + 2, none⟩), .func (.func 69) #[] #[.pointer (some ⟨xb, 0, none⟩)], .func (.func 70) #[] #[.pointer (some ⟨xb, 0, none⟩)]], rbox w.heap.size 38 #[.slice aa b.accs.length ak, .slice ma b.mvs.length mk], rmarks [], rfix xb 135 #[.pointer (some ⟨r, k * 4, none⟩)], rsl mvEnc 4 lo3 hi3 (.slice (some ⟨r, 0, none⟩) b.mvs.length c3) b.mvs, rsl mvEnc 4 l2 h2 (.slice ma b.mvs.length mk) b.mvs, rsl accEnc 6 l1 h1 (.slice aa b.accs.length ak) b.accs] w17 := F18
  have hLw19 := F20.low
  have hw019 := F20.gb.size
  refine wp_rangeG (gf := 54) (lb := #[.pointer (some ⟨gb, 0, none⟩)]) (el := (fun i p => .agg #[.func (.func 55) #[] #[.pointer (some ⟨p, 0, none⟩)], .int .i64 ((grp b i).least), .int .i64 ((grp b i).most), .bool ((grp b i).ground), .bool ((grp b i).rest)])) rfl (enters_of Tryd.func54 (by kernel_rfl) rfl) rfl (groups_seq gb l1 h1 l2 h2 (.slice aa b.accs.length ak) (.slice ma b.mvs.length mk) b HOK.out) (fun i A => LowL w17.heap.size [rbox gb 38 #[.slice aa b.accs.length ak, .slice ma b.mvs.length mk], rbox (w.heap.size + 4) 23 #[.int .i64 (narF b (fun i_ => bitOf i_ (gm b.mvs k).to && !bitOf i_ (gm b.mvs k).fr) (fun i_ => bitOf i_ (gm b.mvs k).fr && !bitOf i_ (gm b.mvs k).to) (gm b.mvs k).li i).lo, .int .i64 (narF b (fun i_ => bitOf i_ (gm b.mvs k).to && !bitOf i_ (gm b.mvs k).fr) (fun i_ => bitOf i_ (gm b.mvs k).fr && !bitOf i_ (gm b.mvs k).to) (gm b.mvs k).li i).hi], rbox (w.heap.size + 3) 23 #[.int .i64 ((gm b.mvs k).li.lo), .int .i64 ((gm b.mvs k).li.hi)], rbox (w.heap.size + 2) 23 #[.int .i64 0, .int .i64 0], rbox (w.heap.size + 1) 121 #[.pointer (some ⟨r, k * 4 + 2, none⟩), .func (.func 69) #[] #[.pointer (some ⟨xb, 0, none⟩)], .func (.func 70) #[] #[.pointer (some ⟨xb, 0, none⟩)]], rbox w.heap.size 38 #[.slice aa b.accs.length ak, .slice ma b.mvs.length mk], rmarks [], rfix xb 135 #[.pointer (some ⟨r, k * 4, none⟩)], rsl mvEnc 4 lo3 hi3 (.slice (some ⟨r, 0, none⟩) b.mvs.length c3) b.mvs, rsl mvEnc 4 l2 h2 (.slice ma b.mvs.length mk) b.mvs, rsl accEnc 6 l1 h1 (.slice aa b.accs.length ak) b.accs] ∧ Bun w [rbox gb 38 #[.slice aa b.accs.length ak, .slice ma b.mvs.length mk], rbox (w.heap.size + 4) 23 #[.int .i64 (narF b (fun i_ => bitOf i_ (gm b.mvs k).to && !bitOf i_ (gm b.mvs k).fr) (fun i_ => bitOf i_ (gm b.mvs k).fr && !bitOf i_ (gm b.mvs k).to) (gm b.mvs k).li i).lo, .int .i64 (narF b (fun i_ => bitOf i_ (gm b.mvs k).to && !bitOf i_ (gm b.mvs k).fr) (fun i_ => bitOf i_ (gm b.mvs k).fr && !bitOf i_ (gm b.mvs k).to) (gm b.mvs k).li i).hi], rbox (w.heap.size + 3) 23 #[.int .i64 ((gm b.mvs k).li.lo), .int .i64 ((gm b.mvs k).li.hi)], rbox (w.heap.size + 2) 23 #[.int .i64 0, .int .i64 0], rbox (w.heap.size + 1) 121 #[.pointer (some ⟨r, k * 4 + 2, none⟩), .func (.func 69) #[] #[.pointer (some ⟨xb, 0, none⟩)], .func (.func 70) #[] #[.pointer (some ⟨xb, 0, none⟩)]], rbox w.heap.size 38 #[.slice aa b.accs.length ak, .slice ma b.mvs.length mk], rmarks [], rfix xb 135 #[.pointer (some ⟨r, k * 4, none⟩)], rsl mvEnc 4 lo3 hi3 (.slice (some ⟨r, 0, none⟩) b.mvs.length c3) b.mvs, rsl mvEnc 4 l2 h2 (.slice ma b.mvs.length mk) b.mvs, rsl accEnc 6 l1 h1 (.slice aa b.accs.length ak) b.accs] A) (fun _ _ _ => False) ?hI19 (fun _ _ _ _ _ h _ _ => h) ?hH19 ?h019 ?round19 ?done19 (fun _ _ _ _ h => h.elim)
  case hI19 =>
    rintro i A B r ⟨hL19, F_⟩ hg hr
    exact ⟨hL19, F_.gbFrom hL19 hw019 hg (fun g e => (hr g e).1)⟩
  case hH19 =>
    rintro i A ⟨hL19, F_⟩
    exact ⟨(F_.at 0 rfl : Bk _ gb 38 #[.slice aa b.accs.length ak, .slice ma b.mvs.length mk]), (F_.at 10 rfl : Sl accEnc 6 l1 h1 _ (.slice aa b.accs.length ak) b.accs), (F_.at 9 rfl : Sl mvEnc 4 l2 h2 _ (.slice ma b.mvs.length mk) b.mvs)⟩
  case h019 => exact ⟨hLw19, F20⟩
  case round19 =>
    rintro l19 i p19 W19 ⟨hL19, G19_⟩ hlt19 hp19 hs19 hbk19
    have F19_ := G19_.ranged hL19 hw019 hs19 hp19 hbk19
    clear G19_ hbk19 F20
    have hi6 : i < 256 := by omega
    have hgd := grp_bd HOK.out i
    gi_wp2_with fail
    have F21 := F19_.new 72 #[.func (.func 55) #[] #[.pointer (some ⟨p19, 0, none⟩)], .int .i64 ((grp b i).least), .int .i64 ((grp b i).most), .bool ((grp b i).ground), .bool ((grp b i).rest)] (n := W19.heap.size) (by simp)
    clear F19_
    refine And.intro (F21.front 1 rfl rfl).kept.d (fun W19b hg19b => ?_)
    have hg19bs := hg19b.size
    (try simp at hg19bs)
    have F22 := (F21.front 1 rfl rfl).rekeep hg19b (fun g e => by cases e; omega)
    clear F21
    have b23 := F22.bx5 1 rfl
    have b24 := F22.bx3 7 rfl
    gi_wp2_with fail
    clear b23 b24
    refine ⟨trivial, rfl, ?_⟩
    refine (CallsIn.inRound l19 (callsIn_wide.2 (flow2_c p19 xb i r 0 _ _ _ k (grp b i) _ _ (F22.at 2 rfl : Bk _ p19 3 #[.int .i64 (i : Int)]) hi6 (by have h_ : Bk _ xb 135 #[.pointer (some ⟨r, k * 4, none⟩)] := (F22.at 10 rfl : Bk _ xb 135 #[.pointer (some ⟨r, k * 4, none⟩)]); rw [Nat.zero_add]; exact h_) (F22.at 11 rfl : Sl mvEnc 4 lo3 hi3 _ (.slice (some ⟨r, 0, none⟩) b.mvs.length c3) b.mvs) (by first | omega | (simp; omega)) hk hmb))).mono ?_
    rintro e w27 ⟨rfl, hg25⟩
    have hg25s := hg25.size
    (try simp at hg25s)
    have F28 := F22.gn hg25
    clear F22
    clear hg25
    cases c29 : (bitOf i (gm b.mvs k).to && !bitOf i (gm b.mvs k).fr)
    · skip
      have c29H := Lib.hid c29
      have b30 := F28.bx5 1 rfl
      have b31 := F28.bx3 7 rfl
      gi_wp2_with fail
      clear b30 b31
      refine ⟨trivial, rfl, ?_⟩
      refine (CallsIn.inRound l19 (callsIn_wide.2 (flow3_c p19 xb i r 0 _ _ _ k (grp b i) _ _ (F28.at 2 rfl : Bk _ p19 3 #[.int .i64 (i : Int)]) hi6 (by have h_ : Bk _ xb 135 #[.pointer (some ⟨r, k * 4, none⟩)] := (F28.at 10 rfl : Bk _ xb 135 #[.pointer (some ⟨r, k * 4, none⟩)]); rw [Nat.zero_add]; exact h_) (F28.at 11 rfl : Sl mvEnc 4 lo3 hi3 _ (.slice (some ⟨r, 0, none⟩) b.mvs.length c3) b.mvs) (by first | omega | (simp; omega)) hk hmb))).mono ?_
      rintro e w34 ⟨rfl, hg32⟩
      have hg32s := hg32.size
      (try simp at hg32s)
      have F35 := F28.gn hg32
      clear F28
      clear hg32
      cases c36 : (bitOf i (gm b.mvs k).fr && !bitOf i (gm b.mvs k).to)
      · skip
        have c36H := Lib.hid c36
        gi_wp2_with fail
        have F37 : Bun w [rkeep w17.heap.size (w17.heap.size + 2) W19b, rbox gb 38 #[.slice aa b.accs.length ak, .slice ma b.mvs.length mk], rbox (w.heap.size + 4) 23 #[.int .i64 (narF b (fun i_ => bitOf i_ (gm b.mvs k).to && !bitOf i_ (gm b.mvs k).fr) (fun i_ => bitOf i_ (gm b.mvs k).fr && !bitOf i_ (gm b.mvs k).to) (gm b.mvs k).li i).lo, .int .i64 (narF b (fun i_ => bitOf i_ (gm b.mvs k).to && !bitOf i_ (gm b.mvs k).fr) (fun i_ => bitOf i_ (gm b.mvs k).fr && !bitOf i_ (gm b.mvs k).to) (gm b.mvs k).li i).hi], rbox (w.heap.size + 3) 23 #[.int .i64 ((gm b.mvs k).li.lo), .int .i64 ((gm b.mvs k).li.hi)], rbox (w.heap.size + 2) 23 #[.int .i64 0, .int .i64 0], rbox (w.heap.size + 1) 121 #[.pointer (some ⟨r, k * 4 + 2, none⟩), .func (.func 69) #[] #[.pointer (some ⟨xb, 0, none⟩)], .func (.func 70) #[] #[.pointer (some ⟨xb, 0, none⟩)]], rbox w.heap.size 38 #[.slice aa b.accs.length ak, .slice ma b.mvs.length mk], rmarks [], rfix xb 135 #[.pointer (some ⟨r, k * 4, none⟩)], rsl mvEnc 4 lo3 hi3 (.slice (some ⟨r, 0, none⟩) b.mvs.length c3) b.mvs, rsl mvEnc 4 l2 h2 (.slice ma b.mvs.length mk) b.mvs, rsl accEnc 6 l1 h1 (.slice aa b.accs.length ak) b.accs] _ := F35.pick [0, 3, 4, 5, 6, 7, 8, 9, 10, 11, 12, 13] (by decide) rfl
        clear F35
        refine And.intro F37.kept.d ?_
        have hN_ := narF_no (b := b) (into := (fun i_ => bitOf i_ (gm b.mvs k).to && !bitOf i_ (gm b.mvs k).fr)) (out := (fun i_ => bitOf i_ (gm b.mvs k).fr && !bitOf i_ (gm b.mvs k).to)) (was := (gm b.mvs k).li) (i := i) (by exact c29) (by exact c36)
        (try dsimp only)
        rw [hN_]
        exact ⟨hL19.cong rfl, F37.drop 0 rfl⟩
      · skip
        have c36H := Lib.hid c36
        cases c38 : ((grp b i).ground)
        · skip
          (try rw [c38] at F35)
          have c38H := Lib.hid c38
          have b39 := F35.bx5 1 rfl
          have b40 := F35.bx2 4 rfl
          have b41 := F35.bx2 5 rfl
          gi_wp2_with fail
          clear b39 b40 b41
          have F42 := ((F35.front 4 rfl rfl).set 1 (.int .i64 (min ((narF b (fun i_ => bitOf i_ (gm b.mvs k).to && !bitOf i_ (gm b.mvs k).fr) (fun i_ => bitOf i_ (gm b.mvs k).fr && !bitOf i_ (gm b.mvs k).to) (gm b.mvs k).li i).hi) ((gm b.mvs k).li.lo + ((grp b i).most))))).nf #[.int .i64 (narF b (fun i_ => bitOf i_ (gm b.mvs k).to && !bitOf i_ (gm b.mvs k).fr) (fun i_ => bitOf i_ (gm b.mvs k).fr && !bitOf i_ (gm b.mvs k).to) (gm b.mvs k).li i).lo, .int .i64 (min ((narF b (fun i_ => bitOf i_ (gm b.mvs k).to && !bitOf i_ (gm b.mvs k).fr) (fun i_ => bitOf i_ (gm b.mvs k).fr && !bitOf i_ (gm b.mvs k).to) (gm b.mvs k).li i).hi) ((gm b.mvs k).li.lo + ((grp b i).most)))] rfl
          clear F35
          have F43 : Bun w [rkeep w17.heap.size (w17.heap.size + 2) W19b, rbox gb 38 #[.slice aa b.accs.length ak, .slice ma b.mvs.length mk], rbox (w.heap.size + 4) 23 #[.int .i64 (narF b (fun i_ => bitOf i_ (gm b.mvs k).to && !bitOf i_ (gm b.mvs k).fr) (fun i_ => bitOf i_ (gm b.mvs k).fr && !bitOf i_ (gm b.mvs k).to) (gm b.mvs k).li i).lo, .int .i64 (min ((narF b (fun i_ => bitOf i_ (gm b.mvs k).to && !bitOf i_ (gm b.mvs k).fr) (fun i_ => bitOf i_ (gm b.mvs k).fr && !bitOf i_ (gm b.mvs k).to) (gm b.mvs k).li i).hi) ((gm b.mvs k).li.lo + ((grp b i).most)))], rbox (w.heap.size + 3) 23 #[.int .i64 ((gm b.mvs k).li.lo), .int .i64 ((gm b.mvs k).li.hi)], rbox (w.heap.size + 2) 23 #[.int .i64 0, .int .i64 0], rbox (w.heap.size + 1) 121 #[.pointer (some ⟨r, k * 4 + 2, none⟩), .func (.func 69) #[] #[.pointer (some ⟨xb, 0, none⟩)], .func (.func 70) #[] #[.pointer (some ⟨xb, 0, none⟩)]], rbox w.heap.size 38 #[.slice aa b.accs.length ak, .slice ma b.mvs.length mk], rmarks [], rfix xb 135 #[.pointer (some ⟨r, k * 4, none⟩)], rsl mvEnc 4 lo3 hi3 (.slice (some ⟨r, 0, none⟩) b.mvs.length c3) b.mvs, rsl mvEnc 4 l2 h2 (.slice ma b.mvs.length mk) b.mvs, rsl accEnc 6 l1 h1 (.slice aa b.accs.length ak) b.accs] _ := F42.pick [1, 4, 0, 5, 6, 7, 8, 9, 10, 11, 12, 13] (by decide) rfl
          clear F42
          refine And.intro F43.kept.d ?_
          have hN_ := narF_ou (b := b) (into := (fun i_ => bitOf i_ (gm b.mvs k).to && !bitOf i_ (gm b.mvs k).fr)) (out := (fun i_ => bitOf i_ (gm b.mvs k).fr && !bitOf i_ (gm b.mvs k).to)) (was := (gm b.mvs k).li) (i := i) (by exact c29) (by exact c36)
          rw [if_neg (by rw [c38]; simp)] at hN_
          (try dsimp only)
          rw [hN_]
          exact ⟨hL19.cong rfl, F43.drop 0 rfl⟩
        · skip
          (try rw [c38] at F35)
          have c38H := Lib.hid c38
          have b44 := F35.bx5 1 rfl
          have b45 := F35.bx2 4 rfl
          have b46 := F35.bx2 5 rfl
          gi_wp2_with fail
          clear b44 b45 b46
          have F47 := ((F35.front 4 rfl rfl).set 1 (.int .i64 (min ((narF b (fun i_ => bitOf i_ (gm b.mvs k).to && !bitOf i_ (gm b.mvs k).fr) (fun i_ => bitOf i_ (gm b.mvs k).fr && !bitOf i_ (gm b.mvs k).to) (gm b.mvs k).li i).hi) ((gm b.mvs k).li.lo + ((grp b i).most))))).nf #[.int .i64 (narF b (fun i_ => bitOf i_ (gm b.mvs k).to && !bitOf i_ (gm b.mvs k).fr) (fun i_ => bitOf i_ (gm b.mvs k).fr && !bitOf i_ (gm b.mvs k).to) (gm b.mvs k).li i).lo, .int .i64 (min ((narF b (fun i_ => bitOf i_ (gm b.mvs k).to && !bitOf i_ (gm b.mvs k).fr) (fun i_ => bitOf i_ (gm b.mvs k).fr && !bitOf i_ (gm b.mvs k).to) (gm b.mvs k).li i).hi) ((gm b.mvs k).li.lo + ((grp b i).most)))] rfl
          clear F35
          have F48 := (F47.set 0 (.int .i64 (max ((narF b (fun i_ => bitOf i_ (gm b.mvs k).to && !bitOf i_ (gm b.mvs k).fr) (fun i_ => bitOf i_ (gm b.mvs k).fr && !bitOf i_ (gm b.mvs k).to) (gm b.mvs k).li i).lo) ((gm b.mvs k).li.hi + ((grp b i).least))))).nf #[.int .i64 (max ((narF b (fun i_ => bitOf i_ (gm b.mvs k).to && !bitOf i_ (gm b.mvs k).fr) (fun i_ => bitOf i_ (gm b.mvs k).fr && !bitOf i_ (gm b.mvs k).to) (gm b.mvs k).li i).lo) ((gm b.mvs k).li.hi + ((grp b i).least))), .int .i64 (min ((narF b (fun i_ => bitOf i_ (gm b.mvs k).to && !bitOf i_ (gm b.mvs k).fr) (fun i_ => bitOf i_ (gm b.mvs k).fr && !bitOf i_ (gm b.mvs k).to) (gm b.mvs k).li i).hi) ((gm b.mvs k).li.lo + ((grp b i).most)))] rfl
          clear F47
          have F49 : Bun w [rkeep w17.heap.size (w17.heap.size + 2) W19b, rbox gb 38 #[.slice aa b.accs.length ak, .slice ma b.mvs.length mk], rbox (w.heap.size + 4) 23 #[.int .i64 (max ((narF b (fun i_ => bitOf i_ (gm b.mvs k).to && !bitOf i_ (gm b.mvs k).fr) (fun i_ => bitOf i_ (gm b.mvs k).fr && !bitOf i_ (gm b.mvs k).to) (gm b.mvs k).li i).lo) ((gm b.mvs k).li.hi + ((grp b i).least))), .int .i64 (min ((narF b (fun i_ => bitOf i_ (gm b.mvs k).to && !bitOf i_ (gm b.mvs k).fr) (fun i_ => bitOf i_ (gm b.mvs k).fr && !bitOf i_ (gm b.mvs k).to) (gm b.mvs k).li i).hi) ((gm b.mvs k).li.lo + ((grp b i).most)))], rbox (w.heap.size + 3) 23 #[.int .i64 ((gm b.mvs k).li.lo), .int .i64 ((gm b.mvs k).li.hi)], rbox (w.heap.size + 2) 23 #[.int .i64 0, .int .i64 0], rbox (w.heap.size + 1) 121 #[.pointer (some ⟨r, k * 4 + 2, none⟩), .func (.func 69) #[] #[.pointer (some ⟨xb, 0, none⟩)], .func (.func 70) #[] #[.pointer (some ⟨xb, 0, none⟩)]], rbox w.heap.size 38 #[.slice aa b.accs.length ak, .slice ma b.mvs.length mk], rmarks [], rfix xb 135 #[.pointer (some ⟨r, k * 4, none⟩)], rsl mvEnc 4 lo3 hi3 (.slice (some ⟨r, 0, none⟩) b.mvs.length c3) b.mvs, rsl mvEnc 4 l2 h2 (.slice ma b.mvs.length mk) b.mvs, rsl accEnc 6 l1 h1 (.slice aa b.accs.length ak) b.accs] _ := F48.pick [1, 4, 0, 5, 6, 7, 8, 9, 10, 11, 12, 13] (by decide) rfl
          clear F48
          refine And.intro F49.kept.d ?_
          have hN_ := narF_ou (b := b) (into := (fun i_ => bitOf i_ (gm b.mvs k).to && !bitOf i_ (gm b.mvs k).fr)) (out := (fun i_ => bitOf i_ (gm b.mvs k).fr && !bitOf i_ (gm b.mvs k).to)) (was := (gm b.mvs k).li) (i := i) (by exact c29) (by exact c36)
          rw [if_pos c38] at hN_
          (try dsimp only)
          rw [hN_]
          exact ⟨hL19.cong rfl, F49.drop 0 rfl⟩
    · skip
      have c29H := Lib.hid c29
      cases c50 : ((grp b i).ground)
      · skip
        (try rw [c50] at F28)
        have c50H := Lib.hid c50
        have b51 := F28.bx5 1 rfl
        have b52 := F28.bx2 4 rfl
        have b53 := F28.bx2 5 rfl
        gi_wp2_with fail
        clear b51 b52 b53
        have F54 := ((F28.front 4 rfl rfl).set 0 (.int .i64 (max ((narF b (fun i_ => bitOf i_ (gm b.mvs k).to && !bitOf i_ (gm b.mvs k).fr) (fun i_ => bitOf i_ (gm b.mvs k).fr && !bitOf i_ (gm b.mvs k).to) (gm b.mvs k).li i).lo) ((gm b.mvs k).li.hi - ((grp b i).most))))).nf #[.int .i64 (max ((narF b (fun i_ => bitOf i_ (gm b.mvs k).to && !bitOf i_ (gm b.mvs k).fr) (fun i_ => bitOf i_ (gm b.mvs k).fr && !bitOf i_ (gm b.mvs k).to) (gm b.mvs k).li i).lo) ((gm b.mvs k).li.hi - ((grp b i).most))), .int .i64 (narF b (fun i_ => bitOf i_ (gm b.mvs k).to && !bitOf i_ (gm b.mvs k).fr) (fun i_ => bitOf i_ (gm b.mvs k).fr && !bitOf i_ (gm b.mvs k).to) (gm b.mvs k).li i).hi] rfl
        clear F28
        have F55 : Bun w [rkeep w17.heap.size (w17.heap.size + 2) W19b, rbox gb 38 #[.slice aa b.accs.length ak, .slice ma b.mvs.length mk], rbox (w.heap.size + 4) 23 #[.int .i64 (max ((narF b (fun i_ => bitOf i_ (gm b.mvs k).to && !bitOf i_ (gm b.mvs k).fr) (fun i_ => bitOf i_ (gm b.mvs k).fr && !bitOf i_ (gm b.mvs k).to) (gm b.mvs k).li i).lo) ((gm b.mvs k).li.hi - ((grp b i).most))), .int .i64 (narF b (fun i_ => bitOf i_ (gm b.mvs k).to && !bitOf i_ (gm b.mvs k).fr) (fun i_ => bitOf i_ (gm b.mvs k).fr && !bitOf i_ (gm b.mvs k).to) (gm b.mvs k).li i).hi], rbox (w.heap.size + 3) 23 #[.int .i64 ((gm b.mvs k).li.lo), .int .i64 ((gm b.mvs k).li.hi)], rbox (w.heap.size + 2) 23 #[.int .i64 0, .int .i64 0], rbox (w.heap.size + 1) 121 #[.pointer (some ⟨r, k * 4 + 2, none⟩), .func (.func 69) #[] #[.pointer (some ⟨xb, 0, none⟩)], .func (.func 70) #[] #[.pointer (some ⟨xb, 0, none⟩)]], rbox w.heap.size 38 #[.slice aa b.accs.length ak, .slice ma b.mvs.length mk], rmarks [], rfix xb 135 #[.pointer (some ⟨r, k * 4, none⟩)], rsl mvEnc 4 lo3 hi3 (.slice (some ⟨r, 0, none⟩) b.mvs.length c3) b.mvs, rsl mvEnc 4 l2 h2 (.slice ma b.mvs.length mk) b.mvs, rsl accEnc 6 l1 h1 (.slice aa b.accs.length ak) b.accs] _ := F54.pick [1, 4, 0, 5, 6, 7, 8, 9, 10, 11, 12, 13] (by decide) rfl
        clear F54
        refine And.intro F55.kept.d ?_
        have hN_ := narF_in (b := b) (into := (fun i_ => bitOf i_ (gm b.mvs k).to && !bitOf i_ (gm b.mvs k).fr)) (out := (fun i_ => bitOf i_ (gm b.mvs k).fr && !bitOf i_ (gm b.mvs k).to)) (was := (gm b.mvs k).li) (i := i) (by exact c29)
        rw [if_neg (by rw [c50]; simp)] at hN_
        (try dsimp only)
        rw [hN_]
        exact ⟨hL19.cong rfl, F55.drop 0 rfl⟩
      · skip
        (try rw [c50] at F28)
        have c50H := Lib.hid c50
        have b56 := F28.bx5 1 rfl
        have b57 := F28.bx2 4 rfl
        have b58 := F28.bx2 5 rfl
        gi_wp2_with fail
        clear b56 b57 b58
        have F59 := (F28.front 4 rfl rfl).pt2 (.int .i64 (max ((narF b (fun i_ => bitOf i_ (gm b.mvs k).to && !bitOf i_ (gm b.mvs k).fr) (fun i_ => bitOf i_ (gm b.mvs k).fr && !bitOf i_ (gm b.mvs k).to) (gm b.mvs k).li i).lo) ((gm b.mvs k).li.hi - ((grp b i).most)))) (.int .i64 (min ((narF b (fun i_ => bitOf i_ (gm b.mvs k).to && !bitOf i_ (gm b.mvs k).fr) (fun i_ => bitOf i_ (gm b.mvs k).fr && !bitOf i_ (gm b.mvs k).to) (gm b.mvs k).li i).hi) ((gm b.mvs k).li.lo - ((grp b i).least))))
        clear F28
        have F60 : Bun w [rkeep w17.heap.size (w17.heap.size + 2) W19b, rbox gb 38 #[.slice aa b.accs.length ak, .slice ma b.mvs.length mk], rbox (w.heap.size + 4) 23 #[.int .i64 (max ((narF b (fun i_ => bitOf i_ (gm b.mvs k).to && !bitOf i_ (gm b.mvs k).fr) (fun i_ => bitOf i_ (gm b.mvs k).fr && !bitOf i_ (gm b.mvs k).to) (gm b.mvs k).li i).lo) ((gm b.mvs k).li.hi - ((grp b i).most))), .int .i64 (min ((narF b (fun i_ => bitOf i_ (gm b.mvs k).to && !bitOf i_ (gm b.mvs k).fr) (fun i_ => bitOf i_ (gm b.mvs k).fr && !bitOf i_ (gm b.mvs k).to) (gm b.mvs k).li i).hi) ((gm b.mvs k).li.lo - ((grp b i).least)))], rbox (w.heap.size + 3) 23 #[.int .i64 ((gm b.mvs k).li.lo), .int .i64 ((gm b.mvs k).li.hi)], rbox (w.heap.size + 2) 23 #[.int .i64 0, .int .i64 0], rbox (w.heap.size + 1) 121 #[.pointer (some ⟨r, k * 4 + 2, none⟩), .func (.func 69) #[] #[.pointer (some ⟨xb, 0, none⟩)], .func (.func 70) #[] #[.pointer (some ⟨xb, 0, none⟩)]], rbox w.heap.size 38 #[.slice aa b.accs.length ak, .slice ma b.mvs.length mk], rmarks [], rfix xb 135 #[.pointer (some ⟨r, k * 4, none⟩)], rsl mvEnc 4 lo3 hi3 (.slice (some ⟨r, 0, none⟩) b.mvs.length c3) b.mvs, rsl mvEnc 4 l2 h2 (.slice ma b.mvs.length mk) b.mvs, rsl accEnc 6 l1 h1 (.slice aa b.accs.length ak) b.accs] _ := F59.pick [1, 4, 0, 5, 6, 7, 8, 9, 10, 11, 12, 13] (by decide) rfl
        clear F59
        refine And.intro F60.kept.d ?_
        have hN_ := narF_in (b := b) (into := (fun i_ => bitOf i_ (gm b.mvs k).to && !bitOf i_ (gm b.mvs k).fr)) (out := (fun i_ => bitOf i_ (gm b.mvs k).fr && !bitOf i_ (gm b.mvs k).to)) (was := (gm b.mvs k).li) (i := i) (by exact c29)
        rw [if_pos c50] at hN_
        (try dsimp only)
        rw [hN_]
        exact ⟨hL19.cong rfl, F60.drop 0 rfl⟩
  case done19 =>
    rintro W19 ⟨hL19, G19_⟩ hK19
    have F19_ := G19_.marked hL19 hw019 hK19
    have hWs19 : w17.heap.size < W19.heap.size := (Array.getElem?_eq_some_iff.1 hK19).1
    clear G19_ F20
    have F61 : Bun w [rkeep w17.heap.size (w17.heap.size + 1) W19, rmarks [], rbox gb 38 #[.slice aa b.accs.length ak, .slice ma b.mvs.length mk], rbox (w.heap.size + 4) 23 #[.int .i64 (narF b (fun i_ => bitOf i_ (gm b.mvs k).to && !bitOf i_ (gm b.mvs k).fr) (fun i_ => bitOf i_ (gm b.mvs k).fr && !bitOf i_ (gm b.mvs k).to) (gm b.mvs k).li (2 ^ b.accs.length)).lo, .int .i64 (narF b (fun i_ => bitOf i_ (gm b.mvs k).to && !bitOf i_ (gm b.mvs k).fr) (fun i_ => bitOf i_ (gm b.mvs k).fr && !bitOf i_ (gm b.mvs k).to) (gm b.mvs k).li (2 ^ b.accs.length)).hi], rbox (w.heap.size + 3) 23 #[.int .i64 ((gm b.mvs k).li.lo), .int .i64 ((gm b.mvs k).li.hi)], rbox (w.heap.size + 2) 23 #[.int .i64 0, .int .i64 0], rbox (w.heap.size + 1) 121 #[.pointer (some ⟨r, k * 4 + 2, none⟩), .func (.func 69) #[] #[.pointer (some ⟨xb, 0, none⟩)], .func (.func 70) #[] #[.pointer (some ⟨xb, 0, none⟩)]], rbox w.heap.size 38 #[.slice aa b.accs.length ak, .slice ma b.mvs.length mk], rfix xb 135 #[.pointer (some ⟨r, k * 4, none⟩)], rsl mvEnc 4 lo3 hi3 (.slice (some ⟨r, 0, none⟩) b.mvs.length c3) b.mvs, rsl mvEnc 4 l2 h2 (.slice ma b.mvs.length mk) b.mvs, rsl accEnc 6 l1 h1 (.slice aa b.accs.length ak) b.accs] _ := F19_.pick [0, 7, 1, 2, 3, 4, 5, 6, 8, 9, 10, 11] (by decide) rfl
    clear F19_
    have F62 := F61.mark (by omega) hK19
    clear F61
    have b63 := F62.bx2 2 rfl
    have b64 := F62.bx2 4 rfl
    go_wp2_with fail
    clear b63 b64
    have F65 := (F62.front 4 rfl rfl).pt2 (.int .i64 ((narF b (fun i_ => bitOf i_ (gm b.mvs k).to && !bitOf i_ (gm b.mvs k).fr) (fun i_ => bitOf i_ (gm b.mvs k).fr && !bitOf i_ (gm b.mvs k).to) (gm b.mvs k).li (2 ^ b.accs.length)).lo)) (.int .i64 ((narF b (fun i_ => bitOf i_ (gm b.mvs k).to && !bitOf i_ (gm b.mvs k).fr) (fun i_ => bitOf i_ (gm b.mvs k).fr && !bitOf i_ (gm b.mvs k).to) (gm b.mvs k).li (2 ^ b.accs.length)).hi))
    clear F62
    have kb66 := F65.bx2 0 rfl
    go_wp2_with fail
    refine leave_marks (F65.front 1 rfl rfl).marks (.agg #[.int .i64 ((narF b (fun i_ => bitOf i_ (gm b.mvs k).to && !bitOf i_ (gm b.mvs k).fr) (fun i_ => bitOf i_ (gm b.mvs k).fr && !bitOf i_ (gm b.mvs k).to) (gm b.mvs k).li (2 ^ b.accs.length)).lo), .int .i64 ((narF b (fun i_ => bitOf i_ (gm b.mvs k).to && !bitOf i_ (gm b.mvs k).fr) (fun i_ => bitOf i_ (gm b.mvs k).fr && !bitOf i_ (gm b.mvs k).to) (gm b.mvs k).li (2 ^ b.accs.length)).hi)]) fun w' hs => ?_
    have km67 := Bk.bx2 (hs.bk ((F65.front 1 rfl rfl).at 1 rfl : Bk _ (w.heap.size + 2) 23 #[.int .i64 ((narF b (fun i_ => bitOf i_ (gm b.mvs k).to && !bitOf i_ (gm b.mvs k).fr) (fun i_ => bitOf i_ (gm b.mvs k).fr && !bitOf i_ (gm b.mvs k).to) (gm b.mvs k).li (2 ^ b.accs.length)).lo), .int .i64 ((narF b (fun i_ => bitOf i_ (gm b.mvs k).to && !bitOf i_ (gm b.mvs k).fr) (fun i_ => bitOf i_ (gm b.mvs k).fr && !bitOf i_ (gm b.mvs k).to) (gm b.mvs k).li (2 ^ b.accs.length)).hi)]))
    exact ⟨by simp [results, Tryd.results58, go_sem, km67], ⟨rfl, hs.gb (F65.front 1 rfl rfl).gb (Nat.le_refl _)⟩⟩

end Go.Proofs.YtcndphefomigeaaDoor
