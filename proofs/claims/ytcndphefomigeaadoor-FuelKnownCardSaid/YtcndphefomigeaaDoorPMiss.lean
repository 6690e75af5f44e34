/- What is missing, by the program. -/
import Derived.Test.YtcndphefomigeaaDoorPAwake
import Derived.Test.YtcndphefomigeaaDoorPG7
import Derived.Test.YtcndphefomigeaaDoorPMarks
import Derived.Test.YtcndphefomigeaaDoorPSp
set_option linter.unusedVariables false
set_option linter.unusedSimpArgs false
set_option linter.unnecessarySimpa false
namespace Go.Proofs.YtcndphefomigeaaDoor
open Go.RowKit Go.Shelf
set_option maxRecDepth 100000

theorem lossL_len (b : Bok) : (lossL b).length = b.accs.length := by simp [lossL]
/-- What is known of an account: 1: it surely loses; 2: never; 3: open. -/
def verd (s : Sp) : Int := if 0 < s.lo then 1 else if s.hi = 0 then 2 else 3
def verdP (b : Bok) (i : Nat) : List Int := ((List.range i).map (lossA b)).map verd
theorem verdP_succ (b : Bok) (i : Nat) : verdP b (i + 1) = verdP b i ++ [verd (lossA b i)] := by simp [verdP, List.range_succ]
theorem verdP_len (b : Bok) (i : Nat) : (verdP b i).length = i := by simp [verdP]
def verdL (b : Bok) : List Int := (lossL b).map verd
noncomputable def missPost (b : Bok) (w : World) (e : Ending) (w' : World) : Prop :=
  (checkE b ≠ 0 ∧ e = .returned (.tuple #[.slice none 0 0, .int .i64 (checkE b)]) ∧ w.grownBy w' none) ∨
  (checkE b = 0 ∧ ∃ v, e = .returned (.tuple #[v, .int .i64 0]) ∧ Own intEnc 3 1 w.heap.size w' v (verdL b) ∧ w.grownBy w' none)
theorem lossL_at {b : Bok} {i : Nat} (h : i < b.accs.length) : sp (lossL b) i = lossA b i := by simp [sp, lossL, h]

set_option maxHeartbeats 4000000 in
theorem fMissing_c (lo hi : Nat) (va vm : Value) (b : Bok) (w : World) (hb : HasB lo hi w va vm b) (hn : nameOk b.accs) (h2 : hi ≤ w.heap.size) :
    Calls Tryd.prog 30 #[.agg #[va, vm]] w (missPost b w) := by
  obtain ⟨a1, c, a', c', rfl, rfl⟩ := hb.vals
  have hm1 := hb.1.len
  have hm2 := hb.2.len
  unfold maxLen at hm1 hm2
  have HN := Lib.hid hn
  clear hn
  have F1 : Bun w [rbook lo hi (.slice a1 b.accs.length c) (.slice a' b.mvs.length c') b] _ := Bun.book hb h2
  clear hb
  go_enter Tryd.func30, Tryd.ntmps30
  have F2 : Bun w [rbox w.heap.size 38 #[.slice a1 b.accs.length c, .slice a' b.mvs.length c'], rbook lo hi (.slice a1 b.accs.length c) (.slice a' b.mvs.length c') b] _ := F1.new 38 #[.slice a1 b.accs.length c, .slice a' b.mvs.length c'] (n := w.heap.size) (by simp)
  clear F1
  have b3 : Bk _ w.heap.size 38 #[.slice a1 b.accs.length c, .slice a' b.mvs.length c'] := F2.at 0 rfl
  have l4 := b3.lt
  have q5 : World.cell? _ ⟨w.heap.size, 0, none⟩ = some (.slice a1 b.accs.length c) := b3.cell 0
  have z6 := b3.frozen 0
  have q7 : World.cell? _ ⟨w.heap.size, 1, none⟩ = some (.slice a' b.mvs.length c') := b3.cell 1
  have z8 := b3.frozen 1
  go_wp2_with fail
  refine (fLosses_c lo hi lo hi _ _ b _ ((F2.at 1 rfl : HasB lo hi _ (.slice a1 b.accs.length c) (.slice a' b.mvs.length c') b)).1 ((F2.at 1 rfl : HasB lo hi _ (.slice a1 b.accs.length c) (.slice a' b.mvs.length c') b)).2 HN.out (Nat.le_trans h2 F2.gb.size) (Nat.le_trans h2 F2.gb.size)).mono ?_
  rintro e w1 (⟨e0, rfl, hg1⟩ | ⟨e0, v1, rfl, ho, hg1⟩)
  clear b3 l4 q5 z6 q7 z8
  · have e1 : (checkE b != 0) = true := by simpa using e0
    have HE := Lib.hid e0
    clear e0
    have F9 : Bun w [rbox w.heap.size 38 #[.slice a1 b.accs.length c, .slice a' b.mvs.length c'], rbook lo hi (.slice a1 b.accs.length c) (.slice a' b.mvs.length c') b] w1 := F2.gn hg1
    clear F2
    go_wp2_with fail
    have G := F9.new 23 #[.int .i64 0, .int .i64 0] (n := w1.heap.size) rfl
    go_ret2
    exact .inl ⟨HE.out, rfl, G.gb⟩
  · skip
    have HE := Lib.hid e0
    have hn8 := (check_bok e0).n8
    clear e0
    have hg1s := hg1.size
    (try simp at hg1s)
    have hsl : Sps (w.heap.size + 1) w1.heap.size w1 v1 (lossL b) := by have h := ho.sl (fun _ => rfl); exact h.wide (by simp) (Nat.le_refl _)
    have F10 : Bun w [rsl spEnc 2 (w.heap.size + 1) w1.heap.size v1 (lossL b), rbox w.heap.size 38 #[.slice a1 b.accs.length c, .slice a' b.mvs.length c'], rbook lo hi (.slice a1 b.accs.length c) (.slice a' b.mvs.length c') b] w1 := F2.add (rsl spEnc 2 (w.heap.size + 1) w1.heap.size v1 (lossL b)) hg1 hsl (rsl_in (by simp) (Nat.le_refl _))
    clear F2
    obtain ⟨a3, k3, e3⟩ := hsl.any
    have hll := lossL_len b
    rw [hll] at e3
    subst e3
    clear hsl ho hg1
    simp only [Sp.v]
    go_wp2_with fail
    have F11 : Bun w [rbox w1.heap.size 23 #[.int .i64 (lossT b).lo, .int .i64 (lossT b).hi], rsl spEnc 2 (w.heap.size + 1) w1.heap.size (.slice a3 b.accs.length k3) (lossL b), rbox w.heap.size 38 #[.slice a1 b.accs.length c, .slice a' b.mvs.length c'], rbook lo hi (.slice a1 b.accs.length c) (.slice a' b.mvs.length c') b] _ := F10.new 23 #[.int .i64 (lossT b).lo, .int .i64 (lossT b).hi] (n := w1.heap.size) (by simp)
    clear F10
    have F12 : Bun w [rown intEnc 3 1 w1.heap.size (.slice none 0 0) [], rbox w1.heap.size 23 #[.int .i64 (lossT b).lo, .int .i64 (lossT b).hi], rsl spEnc 2 (w.heap.size + 1) w1.heap.size (.slice a3 b.accs.length k3) (lossL b), rbox w.heap.size 38 #[.slice a1 b.accs.length c, .slice a' b.mvs.length c'], rbook lo hi (.slice a1 b.accs.length c) (.slice a' b.mvs.length c') b] _ := F11.add (rown intEnc 3 1 w1.heap.size (.slice none 0 0) []) (gb_refl _ _) (Own.nil _ _ _ _ _) (fun g e => by simp [rown, Value.ownBlock] at e)
    clear F11
    obtain ⟨HI13_, HI130⟩ : ∃ I : (Nat → Value) → List Deferred → World → Prop, I = (fun t ds wr => ∃ (i : Nat) (v : Value), t 7 = v ∧ t 19 = .slice a3 b.accs.length k3 ∧ t 20 = .int .i64 b.accs.length ∧ t 21 = .int .i64 i ∧ i ≤ b.accs.length ∧ ds = [] ∧ w1.heap.size < wr.heap.size ∧ Bun w [rown intEnc 3 1 w1.heap.size v (verdP b i), rbox w1.heap.size 23 #[.int .i64 (lossT b).lo, .int .i64 (lossT b).hi], rsl spEnc 2 (w.heap.size + 1) w1.heap.size (.slice a3 b.accs.length k3) (lossL b), rbox w.heap.size 38 #[.slice a1 b.accs.length c, .slice a' b.mvs.length c'], rbook lo hi (.slice a1 b.accs.length c) (.slice a' b.mvs.length c') b] wr) := ⟨_, rfl⟩
    have HI13 := Lib.hid HI130
    clear HI130
    refine wp_loopS 44 rfl HI13_ (fun t wr => b.accs.length - (intOf (t 21)).toNat) ?atStart1 ?round1
    case round1 =>
      intro t ds wr hHid
      rw [HI13.out] at hHid
      obtain ⟨i, v, e7, e19, e20, e21, hrel⟩ := hHid
      have e : ((List.range 44).map t).toArray = #[t 0, t 1, t 2, t 3, t 4, t 5, t 6, t 7, t 8, t 9, t 10, t 11, t 12, t 13, t 14, t 15, t 16, t 17, t 18, t 19, t 20, t 21, t 22, t 23, t 24, t 25, t 26, t 27, t 28, t 29, t 30, t 31, t 32, t 33, t 34, t 35, t 36, t 37, t 38, t 39, t 40, t 41, t 42, t 43] := rfl
      (try dsimp only at e)
      rw [e7, e19, e20, e21] at e
      rw [e]
      simp only [e21]
      clear e e7 e19 e20 e21
      clear F12
      obtain ⟨hi_, rfl, hws, hF⟩ := hrel
      by_cases hlt : i < b.accs.length
      · have hln := verdP_len b i
        have HL := Lib.hid hln
        clear hln
        obtain ⟨y, oy, c4, hy, hy1, hy2, hyc⟩ := Sps.at (hF.at 2 rfl : Sl spEnc 2 (w.heap.size + 1) w1.heap.size _ (.slice a3 b.accs.length k3) (lossL b)) (by rw [hll]; omega)
        rw [hll] at hy
        injection hy with hy hyn hyk
        subst hy hyk
        clear hyn
        obtain ⟨g1, g2⟩ := hyc i (by rw [hll]; exact hlt)
        rw [lossL_at hlt] at g1 g2
        have HS := Lib.hid (verdP_succ b i)
        generalize lossA b i = s at *
        clear hyc
        by_cases k1 : 0 < s.lo
        · skip
          have HV : Hid (verd s = 1) := Lib.hid (if_pos k1)
          have F14 : Bun w [rbox wr.heap.size 23 #[.int .i64 s.lo, .int .i64 s.hi], rown intEnc 3 1 w1.heap.size v (verdP b i), rbox w1.heap.size 23 #[.int .i64 (lossT b).lo, .int .i64 (lossT b).hi], rsl spEnc 2 (w.heap.size + 1) w1.heap.size (.slice (some ⟨y, oy, none⟩) b.accs.length k3) (lossL b), rbox w.heap.size 38 #[.slice a1 b.accs.length c, .slice a' b.mvs.length c'], rbook lo hi (.slice a1 b.accs.length c) (.slice a' b.mvs.length c') b] _ := hF.new 23 #[.int .i64 s.lo, .int .i64 s.hi] (n := wr.heap.size) (by simp)
          clear hF
          go_wp2_with (at_builtin; refine wpList_app _ okInt rfl _ _ rfl w1.heap.size v (verdP b i) [(1 : Int)] rfl (by exact ((F14.at 1 rfl : Own intEnc 3 1 w1.heap.size _ v (verdP b i))).alloc _) ⟨_, 0, none⟩ 1 1 rfl rfl (by decide) (news_of (Bk.newAt _ _ _ (by simp))) (i + 1) (by have := HL.out; omega) (by omega) (by first | omega | (simp; omega)) _ rfl ?_; intro g16 cap17 w15 hp18)
          have hp18s := hp18.gb.size
          (try simp at hp18s)
          have F19 : Bun w [rown intEnc 3 1 w1.heap.size (.slice (some ⟨g16, 0, none⟩) (i + 1) cap17) ((verdP b i) ++ [(1 : Int)]), rbox wr.heap.size 23 #[.int .i64 s.lo, .int .i64 s.hi], rbox w1.heap.size 23 #[.int .i64 (lossT b).lo, .int .i64 (lossT b).hi], rsl spEnc 2 (w.heap.size + 1) w1.heap.size (.slice (some ⟨y, oy, none⟩) b.accs.length k3) (lossL b), rbox w.heap.size 38 #[.slice a1 b.accs.length c, .slice a' b.mvs.length c'], rbook lo hi (.slice a1 b.accs.length c) (.slice a' b.mvs.length c') b] w15 := ((F14.alloc (.cells #[.int .i64 1] 3)).front 1 rfl rfl).app hp18 (by simp)
          clear F14
          have F20 : Bun w [rown intEnc 3 1 w1.heap.size (.slice (some ⟨g16, 0, none⟩) (i + 1) cap17) (verdP b (i + 1)), rbox wr.heap.size 23 #[.int .i64 s.lo, .int .i64 s.hi], rbox w1.heap.size 23 #[.int .i64 (lossT b).lo, .int .i64 (lossT b).hi], rsl spEnc 2 (w.heap.size + 1) w1.heap.size (.slice (some ⟨y, oy, none⟩) b.accs.length k3) (lossL b), rbox w.heap.size 38 #[.slice a1 b.accs.length c, .slice a' b.mvs.length c'], rbook lo hi (.slice a1 b.accs.length c) (.slice a' b.mvs.length c') b] w15 := by rw [HS.out, HV.out]; exact F19
          clear F19
          go_wp2_with fail
          have F21 : Bun w [rown intEnc 3 1 w1.heap.size (.slice (some ⟨g16, 0, none⟩) (i + 1) cap17) (verdP b (i + 1)), rbox w1.heap.size 23 #[.int .i64 (lossT b).lo, .int .i64 (lossT b).hi], rsl spEnc 2 (w.heap.size + 1) w1.heap.size (.slice (some ⟨y, oy, none⟩) b.accs.length k3) (lossL b), rbox w.heap.size 38 #[.slice a1 b.accs.length c, .slice a' b.mvs.length c'], rbook lo hi (.slice a1 b.accs.length c) (.slice a' b.mvs.length c') b] _ := F20.drop 1 rfl
          clear F20
          (first | refine ⟨rfl, ?_, ?_⟩ | refine ⟨?_, ?_⟩)
          · rw [HI13.out]; exact ⟨i + 1, _, rfl, rfl, rfl, (by show Value.int .i64 ((i : Int) + 1) = _; simp), by omega, (by simp), by omega, F21⟩
          · simp [slot, intOf]; omega
        by_cases k2 : s.hi = 0
        · have k3_ : (s.hi == 0) = true := by simp [k2]
          have HV : Hid (verd s = 2) := Lib.hid (by rw [verd, if_neg k1, if_pos k2])
          clear k2
          have F22 : Bun w [rbox wr.heap.size 23 #[.int .i64 s.lo, .int .i64 s.hi], rown intEnc 3 1 w1.heap.size v (verdP b i), rbox w1.heap.size 23 #[.int .i64 (lossT b).lo, .int .i64 (lossT b).hi], rsl spEnc 2 (w.heap.size + 1) w1.heap.size (.slice (some ⟨y, oy, none⟩) b.accs.length k3) (lossL b), rbox w.heap.size 38 #[.slice a1 b.accs.length c, .slice a' b.mvs.length c'], rbook lo hi (.slice a1 b.accs.length c) (.slice a' b.mvs.length c') b] _ := hF.new 23 #[.int .i64 s.lo, .int .i64 s.hi] (n := wr.heap.size) (by simp)
          clear hF
          go_wp2_with (at_builtin; refine wpList_app _ okInt rfl _ _ rfl w1.heap.size v (verdP b i) [(2 : Int)] rfl (by exact ((F22.at 1 rfl : Own intEnc 3 1 w1.heap.size _ v (verdP b i))).alloc _) ⟨_, 0, none⟩ 1 1 rfl rfl (by decide) (news_of (Bk.newAt _ _ _ (by simp))) (i + 1) (by have := HL.out; omega) (by omega) (by first | omega | (simp; omega)) _ rfl ?_; intro g24 cap25 w23 hp26)
          have hp26s := hp26.gb.size
          (try simp at hp26s)
          have F27 : Bun w [rown intEnc 3 1 w1.heap.size (.slice (some ⟨g24, 0, none⟩) (i + 1) cap25) ((verdP b i) ++ [(2 : Int)]), rbox wr.heap.size 23 #[.int .i64 s.lo, .int .i64 s.hi], rbox w1.heap.size 23 #[.int .i64 (lossT b).lo, .int .i64 (lossT b).hi], rsl spEnc 2 (w.heap.size + 1) w1.heap.size (.slice (some ⟨y, oy, none⟩) b.accs.length k3) (lossL b), rbox w.heap.size 38 #[.slice a1 b.accs.length c, .slice a' b.mvs.length c'], rbook lo hi (.slice a1 b.accs.length c) (.slice a' b.mvs.length c') b] w23 := ((F22.alloc (.cells #[.int .i64 2] 3)).front 1 rfl rfl).app hp26 (by simp)
          clear F22
          have F28 : Bun w [rown intEnc 3 1 w1.heap.size (.slice (some ⟨g24, 0, none⟩) (i + 1) cap25) (verdP b (i + 1)), rbox wr.heap.size 23 #[.int .i64 s.lo, .int .i64 s.hi], rbox w1.heap.size 23 #[.int .i64 (lossT b).lo, .int .i64 (lossT b).hi], rsl spEnc 2 (w.heap.size + 1) w1.heap.size (.slice (some ⟨y, oy, none⟩) b.accs.length k3) (lossL b), rbox w.heap.size 38 #[.slice a1 b.accs.length c, .slice a' b.mvs.length c'], rbook lo hi (.slice a1 b.accs.length c) (.slice a' b.mvs.length c') b] w23 := by rw [HS.out, HV.out]; exact F27
          clear F27
          go_wp2_with fail
          have F29 : Bun w [rown intEnc 3 1 w1.heap.size (.slice (some ⟨g24, 0, none⟩) (i + 1) cap25) (verdP b (i + 1)), rbox w1.heap.size 23 #[.int .i64 (lossT b).lo, .int .i64 (lossT b).hi], rsl spEnc 2 (w.heap.size + 1) w1.heap.size (.slice (some ⟨y, oy, none⟩) b.accs.length k3) (lossL b), rbox w.heap.size 38 #[.slice a1 b.accs.length c, .slice a' b.mvs.length c'], rbook lo hi (.slice a1 b.accs.length c) (.slice a' b.mvs.length c') b] _ := F28.drop 1 rfl
          clear F28
          (first | refine ⟨rfl, ?_, ?_⟩ | refine ⟨?_, ?_⟩)
          · rw [HI13.out]; exact ⟨i + 1, _, rfl, rfl, rfl, (by show Value.int .i64 ((i : Int) + 1) = _; simp), by omega, (by simp), by omega, F29⟩
          · simp [slot, intOf]; omega
        · have k3_ : (s.hi == 0) = false := by simp [k2]
          have HV : Hid (verd s = 3) := Lib.hid (by rw [verd, if_neg k1, if_neg k2])
          clear k2
          have F30 : Bun w [rbox wr.heap.size 23 #[.int .i64 s.lo, .int .i64 s.hi], rown intEnc 3 1 w1.heap.size v (verdP b i), rbox w1.heap.size 23 #[.int .i64 (lossT b).lo, .int .i64 (lossT b).hi], rsl spEnc 2 (w.heap.size + 1) w1.heap.size (.slice (some ⟨y, oy, none⟩) b.accs.length k3) (lossL b), rbox w.heap.size 38 #[.slice a1 b.accs.length c, .slice a' b.mvs.length c'], rbook lo hi (.slice a1 b.accs.length c) (.slice a' b.mvs.length c') b] _ := hF.new 23 #[.int .i64 s.lo, .int .i64 s.hi] (n := wr.heap.size) (by simp)
          clear hF
          go_wp2_with (at_builtin; refine wpList_app _ okInt rfl _ _ rfl w1.heap.size v (verdP b i) [(3 : Int)] rfl (by exact ((F30.at 1 rfl : Own intEnc 3 1 w1.heap.size _ v (verdP b i))).alloc _) ⟨_, 0, none⟩ 1 1 rfl rfl (by decide) (news_of (Bk.newAt _ _ _ (by simp))) (i + 1) (by have := HL.out; omega) (by omega) (by first | omega | (simp; omega)) _ rfl ?_; intro g32 cap33 w31 hp34)
          have hp34s := hp34.gb.size
          (try simp at hp34s)
          have F35 : Bun w [rown intEnc 3 1 w1.heap.size (.slice (some ⟨g32, 0, none⟩) (i + 1) cap33) ((verdP b i) ++ [(3 : Int)]), rbox wr.heap.size 23 #[.int .i64 s.lo, .int .i64 s.hi], rbox w1.heap.size 23 #[.int .i64 (lossT b).lo, .int .i64 (lossT b).hi], rsl spEnc 2 (w.heap.size + 1) w1.heap.size (.slice (some ⟨y, oy, none⟩) b.accs.length k3) (lossL b), rbox w.heap.size 38 #[.slice a1 b.accs.length c, .slice a' b.mvs.length c'], rbook lo hi (.slice a1 b.accs.length c) (.slice a' b.mvs.length c') b] w31 := ((F30.alloc (.cells #[.int .i64 3] 3)).front 1 rfl rfl).app hp34 (by simp)
          clear F30
          have F36 : Bun w [rown intEnc 3 1 w1.heap.size (.slice (some ⟨g32, 0, none⟩) (i + 1) cap33) (verdP b (i + 1)), rbox wr.heap.size 23 #[.int .i64 s.lo, .int .i64 s.hi], rbox w1.heap.size 23 #[.int .i64 (lossT b).lo, .int .i64 (lossT b).hi], rsl spEnc 2 (w.heap.size + 1) w1.heap.size (.slice (some ⟨y, oy, none⟩) b.accs.length k3) (lossL b), rbox w.heap.size 38 #[.slice a1 b.accs.length c, .slice a' b.mvs.length c'], rbook lo hi (.slice a1 b.accs.length c) (.slice a' b.mvs.length c') b] w31 := by rw [HS.out, HV.out]; exact F35
          clear F35
          go_wp2_with fail
          have F37 : Bun w [rown intEnc 3 1 w1.heap.size (.slice (some ⟨g32, 0, none⟩) (i + 1) cap33) (verdP b (i + 1)), rbox w1.heap.size 23 #[.int .i64 (lossT b).lo, .int .i64 (lossT b).hi], rsl spEnc 2 (w.heap.size + 1) w1.heap.size (.slice (some ⟨y, oy, none⟩) b.accs.length k3) (lossL b), rbox w.heap.size 38 #[.slice a1 b.accs.length c, .slice a' b.mvs.length c'], rbook lo hi (.slice a1 b.accs.length c) (.slice a' b.mvs.length c') b] _ := F36.drop 1 rfl
          clear F36
          (first | refine ⟨rfl, ?_, ?_⟩ | refine ⟨?_, ?_⟩)
          · rw [HI13.out]; exact ⟨i + 1, _, rfl, rfl, rfl, (by show Value.int .i64 ((i : Int) + 1) = _; simp), by omega, (by simp), by omega, F37⟩
          · simp [slot, intOf]; omega
      · obtain rfl : i = b.accs.length := by omega
        have hfin : Own intEnc 3 1 w.heap.size wr v (verdL b) := Own.base (hF.at 0 rfl : Own intEnc 3 1 w1.heap.size _ v (verdP b b.accs.length)) (by omega)
        have HFIN := Lib.hid hfin
        clear hfin
        go_wp2_with fail
        go_ret2
        exact .inr ⟨HE.out, v, rfl, HFIN.out, hF.gb⟩
    case atStart1 =>
      rw [HI13.out]
      exact ⟨0, .slice none 0 0, rfl, rfl, rfl, rfl, Nat.zero_le _, rfl, by simp, F12⟩

end Go.Proofs.YtcndphefomigeaaDoor
