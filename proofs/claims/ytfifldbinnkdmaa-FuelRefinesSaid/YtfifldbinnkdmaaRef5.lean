/- The reference: whether a book has a truth. -/
import Derived.Test.YtfifldbinnkdmaaKR
import Derived.Deep.RegionHeld3
set_option linter.unusedVariables false
set_option linter.unusedSimpArgs false
set_option linter.unnecessarySimpa false
namespace Go.Proofs.Ytfifldbinnkdmaa
open Go.RowKit Go.Shelf
set_option maxRecDepth 100000

theorem grpM_pos (l : List Mv) (s : Nat) (g : Grp) (h : ∀ z : Int, bitOf s z = false) : ∀ k, grpM l s g k = g := by
  intro k
  induction k with
  | zero => rfl
  | succ k ih => rw [grpM, if_neg (by simp [h]), if_neg (by simp [h]), ih]
theorem calm_one (b : Bok) : calm b 1 := by
  intro j hj
  obtain rfl : j = 0 := by omega
  have hz : ∀ z : Int, bitOf 0 z = false := fun z => by simp [bitOf]
  have hA : ∀ k, (grpA b.accs 0 k).least = 0 ∧ (grpA b.accs 0 k).most = 0 := by
    intro k
    induction k with
    | zero => simp [grpA]
    | succ k ih => rw [grpA_no (by simp)]; exact ih
  unfold grp clash
  rw [grpM_pos _ _ _ hz]
  simp [hA]

set_option maxHeartbeats 4000000 in
theorem rpossible_c (lo hi : Nat) (va vm : Value) (b : Bok) (w : World) (hb : HasB lo hi w va vm b) (hok : BokOk b) (h2 : hi ≤ w.heap.size) :
    Calls Try.prog 89 #[.agg #[va, vm]] w (fun e w' => ∃ r : Bool, e = .returned (.bool r) ∧ (r = true ↔ calm b (2 ^ b.accs.length)) ∧ w.grownBy w' none) := by
  obtain ⟨x, ox, c, a', c', rfl, rfl⟩ := hb.valA hok.n0
  have hn8 := hok.n8
  have hp8 := pow_le hn8
  have HOK := Lib.hid hok
  clear hok
  have F1 := Bun.book hb h2
  clear hb
  go_enter Try.func89, Try.ntmps89
  have F2 := F1.new 25 #[.slice (some ⟨x, ox, none⟩) b.accs.length c, .slice a' b.mvs.length c'] (n := w.heap.size) (by simp)
  clear F1
  go_wp2_with fail
  refine wp_loopS 36 rfl (fun t ds wr => Hid (∃ (s : Nat), t 1 = .pointer (some ⟨w.heap.size, 0, none⟩) ∧ t 3 = .int .i64 s ∧ 1 ≤ s ∧ s ≤ 2 ^ b.accs.length ∧ ds = [] ∧ calm b s ∧ Bun w [rbox w.heap.size 25 #[.slice (some ⟨x, ox, none⟩) b.accs.length c, .slice a' b.mvs.length c'], rbook lo hi (.slice (some ⟨x, ox, none⟩) b.accs.length c) (.slice a' b.mvs.length c') b] wr)) (fun t wr => 2 ^ b.accs.length - (intOf (t 3)).toNat) ?atStart1 ?round1
  case round1 =>
    intro t ds wr hHid
    obtain ⟨s, e1, e3, hrel⟩ := hHid.out
    clear hHid
    have e : ((List.range 36).map t).toArray = #[t 0, t 1, t 2, t 3, t 4, t 5, t 6, t 7, t 8, t 9, t 10, t 11, t 12, t 13, t 14, t 15, t 16, t 17, t 18, t 19, t 20, t 21, t 22, t 23, t 24, t 25, t 26, t 27, t 28, t 29, t 30, t 31, t 32, t 33, t 34, t 35] := rfl
    (try dsimp only at e)
    rw [e1, e3] at e
    rw [e]
    simp only [e3]
    clear e e1 e3
    clear F2
    obtain ⟨hs1, hs2, rfl, hcalm, hF⟩ := hrel
    have b3 : Bk _ w.heap.size 25 #[.slice (some ⟨x, ox, none⟩) b.accs.length c, .slice a' b.mvs.length c'] := hF.at 0 rfl
    have l4 := b3.lt
    have q5 : World.cell? _ ⟨w.heap.size, 0, none⟩ = some (.slice (some ⟨x, ox, none⟩) b.accs.length c) := b3.cell 0
    have z6 := b3.frozen 0
    have q7 : World.cell? _ ⟨w.heap.size, 1, none⟩ = some (.slice a' b.mvs.length c') := b3.cell 1
    have z8 := b3.frozen 1
    go_wp2_with fail
    refine (rsets_c lo hi _ _ b _ (hF.at 1 rfl : HasB lo hi _ (.slice (some ⟨x, ox, none⟩) b.accs.length c) (.slice a' b.mvs.length c') b) hn8).mono ?_
    rintro e w1 ⟨rfl, hg1⟩
    clear b3 l4 q5 z6 q7 z8
    have F9 := hF.gn hg1
    clear hF
    clear hg1
    have HC := Lib.hid hcalm
    clear hcalm
    obtain ⟨P, hP⟩ : ∃ P, 2 ^ b.accs.length = P := ⟨_, rfl⟩
    rw [hP] at hs2 hp8 ⊢
    have HP := Lib.hid hP
    clear hP
    by_cases hlt : s < P
    · skip
      have HC2 : Hid (clash (grp b s) = false → calm b (s + 1)) := Lib.hid (fun h => HC.out.step h)
      go_wp2_with fail
      refine wp_cutK 36 (fun t wr => ∃ (gx gy : Nat), t 1 = .pointer (some ⟨w.heap.size, 0, none⟩) ∧ t 3 = .int .i64 s ∧ t 4 = .pointer (some ⟨gx, 0, none⟩) ∧ t 5 = .pointer (some ⟨gy, 0, none⟩) ∧ Bun w [rbox gx 40 #[.int .i64 (inS b s (-1)).lo, .int .i64 (inS b s (-1)).hi], rbox gy 40 #[.int .i64 (outS b s (-1)).lo, .int .i64 (outS b s (-1)).hi], rbox w.heap.size 25 #[.slice (some ⟨x, ox, none⟩) b.accs.length c, .slice a' b.mvs.length c'], rbook lo hi (.slice (some ⟨x, ox, none⟩) b.accs.length c) (.slice a' b.mvs.length c') b] wr) ?first2 ?rest2
      case rest2 =>
        rintro t wr ⟨gx, gy, e1, e3, e4, e5, hrel⟩
        have e : ((List.range 36).map t).toArray = #[t 0, t 1, t 2, t 3, t 4, t 5, t 6, t 7, t 8, t 9, t 10, t 11, t 12, t 13, t 14, t 15, t 16, t 17, t 18, t 19, t 20, t 21, t 22, t 23, t 24, t 25, t 26, t 27, t 28, t 29, t 30, t 31, t 32, t 33, t 34, t 35] := rfl
        (try dsimp only at e)
        rw [e1, e3, e4, e5] at e
        rw [e]
        clear e e1 e3 e4 e5
        have hF2 := hrel
        clear hrel
        have hgi := grp_in b s
        have hgg := grp_ground HOK.out s
        have hc1 : calm b (2 ^ b.accs.length) → clash (grp b s) = false := fun h => h s (by rw [HP.out]; exact hlt)
        generalize grp b s = g at hgi hgg hc1 HC2
        have bX := inS_bd HOK.out s (-1)
        have bY := outS_bd HOK.out s (-1)
        generalize inS b s (-1) = X at *
        generalize outS b s (-1) = Y at *
        have HQ := Lib.hid (And.intro hgi (And.intro hgg hc1))
        clear hgi hgg hc1
        by_cases k1 : X.hi < Y.lo
        · skip
          have b10 : Bk _ gx 40 #[.int .i64 X.lo, .int .i64 X.hi] := hF2.at 0 rfl
          have l11 := b10.lt
          have q12 : World.cell? _ ⟨gx, 0, none⟩ = some (.int .i64 X.lo) := b10.cell 0
          have z13 := b10.frozen 0
          have q14 : World.cell? _ ⟨gx, 1, none⟩ = some (.int .i64 X.hi) := b10.cell 1
          have z15 := b10.frozen 1
          have b16 : Bk _ gy 40 #[.int .i64 Y.lo, .int .i64 Y.hi] := hF2.at 1 rfl
          have l17 := b16.lt
          have q18 : World.cell? _ ⟨gy, 0, none⟩ = some (.int .i64 Y.lo) := b16.cell 0
          have z19 := b16.frozen 0
          have q20 : World.cell? _ ⟨gy, 1, none⟩ = some (.int .i64 Y.hi) := b16.cell 1
          have z21 := b16.frozen 1
          have b22 : Bk _ w.heap.size 25 #[.slice (some ⟨x, ox, none⟩) b.accs.length c, .slice a' b.mvs.length c'] := hF2.at 2 rfl
          have l23 := b22.lt
          have q24 : World.cell? _ ⟨w.heap.size, 0, none⟩ = some (.slice (some ⟨x, ox, none⟩) b.accs.length c) := b22.cell 0
          have z25 := b22.frozen 0
          have q26 : World.cell? _ ⟨w.heap.size, 1, none⟩ = some (.slice a' b.mvs.length c') := b22.cell 1
          have z27 := b22.frozen 1
          go_wp2_with fail
          go_ret
          exact ⟨false, rfl, ⟨fun h => (by cases h), fun h => (by have := HQ.out.2.2 h; have h2 := HQ.out.1; have h3 := HQ.out.2.1; simp [clash] at this; omega)⟩, hF2.gb⟩
        · skip
          have b28 : Bk _ gx 40 #[.int .i64 X.lo, .int .i64 X.hi] := hF2.at 0 rfl
          have l29 := b28.lt
          have q30 : World.cell? _ ⟨gx, 0, none⟩ = some (.int .i64 X.lo) := b28.cell 0
          have z31 := b28.frozen 0
          have q32 : World.cell? _ ⟨gx, 1, none⟩ = some (.int .i64 X.hi) := b28.cell 1
          have z33 := b28.frozen 1
          have b34 : Bk _ gy 40 #[.int .i64 Y.lo, .int .i64 Y.hi] := hF2.at 1 rfl
          have l35 := b34.lt
          have q36 : World.cell? _ ⟨gy, 0, none⟩ = some (.int .i64 Y.lo) := b34.cell 0
          have z37 := b34.frozen 0
          have q38 : World.cell? _ ⟨gy, 1, none⟩ = some (.int .i64 Y.hi) := b34.cell 1
          have z39 := b34.frozen 1
          have b40 : Bk _ w.heap.size 25 #[.slice (some ⟨x, ox, none⟩) b.accs.length c, .slice a' b.mvs.length c'] := hF2.at 2 rfl
          have l41 := b40.lt
          have q42 : World.cell? _ ⟨w.heap.size, 0, none⟩ = some (.slice (some ⟨x, ox, none⟩) b.accs.length c) := b40.cell 0
          have z43 := b40.frozen 0
          have q44 : World.cell? _ ⟨w.heap.size, 1, none⟩ = some (.slice a' b.mvs.length c') := b40.cell 1
          have z45 := b40.frozen 1
          go_wp2_with fail
          refine (rloses_c lo hi _ _ b s (-1) _ (hF2.at 3 rfl : HasB lo hi _ (.slice (some ⟨x, ox, none⟩) b.accs.length c) (.slice a' b.mvs.length c') b) HOK.out (by omega) (by omega)).mono ?_
          rintro e w3 ⟨rfl, hg3⟩
          clear b28 l29 q30 z31 q32 z33 b34 l35 q36 z37 q38 z39 b40 l41 q42 z43 q44 z45
          have F46 := hF2.gn hg3
          clear hF2
          clear hg3
          generalize losesB b s (-1) = q at HQ ⊢
          cases q
          · skip
            by_cases k2 : Y.hi < X.lo
            · skip
              have b47 : Bk _ gx 40 #[.int .i64 X.lo, .int .i64 X.hi] := F46.at 0 rfl
              have l48 := b47.lt
              have q49 : World.cell? _ ⟨gx, 0, none⟩ = some (.int .i64 X.lo) := b47.cell 0
              have z50 := b47.frozen 0
              have q51 : World.cell? _ ⟨gx, 1, none⟩ = some (.int .i64 X.hi) := b47.cell 1
              have z52 := b47.frozen 1
              have b53 : Bk _ gy 40 #[.int .i64 Y.lo, .int .i64 Y.hi] := F46.at 1 rfl
              have l54 := b53.lt
              have q55 : World.cell? _ ⟨gy, 0, none⟩ = some (.int .i64 Y.lo) := b53.cell 0
              have z56 := b53.frozen 0
              have q57 : World.cell? _ ⟨gy, 1, none⟩ = some (.int .i64 Y.hi) := b53.cell 1
              have z58 := b53.frozen 1
              have b59 : Bk _ w.heap.size 25 #[.slice (some ⟨x, ox, none⟩) b.accs.length c, .slice a' b.mvs.length c'] := F46.at 2 rfl
              have l60 := b59.lt
              have q61 : World.cell? _ ⟨w.heap.size, 0, none⟩ = some (.slice (some ⟨x, ox, none⟩) b.accs.length c) := b59.cell 0
              have z62 := b59.frozen 0
              have q63 : World.cell? _ ⟨w.heap.size, 1, none⟩ = some (.slice a' b.mvs.length c') := b59.cell 1
              have z64 := b59.frozen 1
              go_wp2_with fail
              go_ret
              exact ⟨false, rfl, ⟨fun h => (by cases h), fun h => (by have := HQ.out.2.2 h; have h2 := HQ.out.1; have h3 := HQ.out.2.1; simp [clash] at this; simp [h3] at this; omega)⟩, F46.gb⟩
            · skip
              have b65 : Bk _ gx 40 #[.int .i64 X.lo, .int .i64 X.hi] := F46.at 0 rfl
              have l66 := b65.lt
              have q67 : World.cell? _ ⟨gx, 0, none⟩ = some (.int .i64 X.lo) := b65.cell 0
              have z68 := b65.frozen 0
              have q69 : World.cell? _ ⟨gx, 1, none⟩ = some (.int .i64 X.hi) := b65.cell 1
              have z70 := b65.frozen 1
              have b71 : Bk _ gy 40 #[.int .i64 Y.lo, .int .i64 Y.hi] := F46.at 1 rfl
              have l72 := b71.lt
              have q73 : World.cell? _ ⟨gy, 0, none⟩ = some (.int .i64 Y.lo) := b71.cell 0
              have z74 := b71.frozen 0
              have q75 : World.cell? _ ⟨gy, 1, none⟩ = some (.int .i64 Y.hi) := b71.cell 1
              have z76 := b71.frozen 1
              have b77 : Bk _ w.heap.size 25 #[.slice (some ⟨x, ox, none⟩) b.accs.length c, .slice a' b.mvs.length c'] := F46.at 2 rfl
              have l78 := b77.lt
              have q79 : World.cell? _ ⟨w.heap.size, 0, none⟩ = some (.slice (some ⟨x, ox, none⟩) b.accs.length c) := b77.cell 0
              have z80 := b77.frozen 0
              have q81 : World.cell? _ ⟨w.heap.size, 1, none⟩ = some (.slice a' b.mvs.length c') := b77.cell 1
              have z82 := b77.frozen 1
              go_wp2_with fail
              exact ⟨rfl, Lib.hid ⟨s + 1, rfl, (by show Value.int .i64 ((s : Int) + 1) = _; simp), by omega, by rw [HP.out]; omega, (by simp), HC2.out (by have h2 := HQ.out.1; have h3 := HQ.out.2.1; simp [clash, h3]; omega), F46.drop 0 rfl |>.drop 0 rfl⟩, by simp [slot, intOf]; have := HP.out; omega⟩
          · skip
            have b83 : Bk _ gx 40 #[.int .i64 X.lo, .int .i64 X.hi] := F46.at 0 rfl
            have l84 := b83.lt
            have q85 : World.cell? _ ⟨gx, 0, none⟩ = some (.int .i64 X.lo) := b83.cell 0
            have z86 := b83.frozen 0
            have q87 : World.cell? _ ⟨gx, 1, none⟩ = some (.int .i64 X.hi) := b83.cell 1
            have z88 := b83.frozen 1
            have b89 : Bk _ gy 40 #[.int .i64 Y.lo, .int .i64 Y.hi] := F46.at 1 rfl
            have l90 := b89.lt
            have q91 : World.cell? _ ⟨gy, 0, none⟩ = some (.int .i64 Y.lo) := b89.cell 0
            have z92 := b89.frozen 0
            have q93 : World.cell? _ ⟨gy, 1, none⟩ = some (.int .i64 Y.hi) := b89.cell 1
            have z94 := b89.frozen 1
            have b95 : Bk _ w.heap.size 25 #[.slice (some ⟨x, ox, none⟩) b.accs.length c, .slice a' b.mvs.length c'] := F46.at 2 rfl
            have l96 := b95.lt
            have q97 : World.cell? _ ⟨w.heap.size, 0, none⟩ = some (.slice (some ⟨x, ox, none⟩) b.accs.length c) := b95.cell 0
            have z98 := b95.frozen 0
            have q99 : World.cell? _ ⟨w.heap.size, 1, none⟩ = some (.slice a' b.mvs.length c') := b95.cell 1
            have z100 := b95.frozen 1
            go_wp2_with fail
            exact ⟨rfl, Lib.hid ⟨s + 1, rfl, (by show Value.int .i64 ((s : Int) + 1) = _; simp), by omega, by rw [HP.out]; omega, (by simp), HC2.out (by have h2 := HQ.out.1; have h3 := HQ.out.2.1; simp [clash, h3]; omega), F46.drop 0 rfl |>.drop 0 rfl⟩, by simp [slot, intOf]; have := HP.out; omega⟩
      case first2 =>
        have FD := F9.drew
        have q0 : World.cell? _ ⟨w.heap.size, 0, none⟩ = some (.slice (some ⟨x, ox, none⟩) b.accs.length c) := (F9.at 0 rfl : Bk _ w.heap.size 25 #[.slice (some ⟨x, ox, none⟩) b.accs.length c, .slice a' b.mvs.length c']).cell 0
        have q1 : World.cell? _ ⟨w.heap.size, 1, none⟩ = some (.slice a' b.mvs.length c') := (F9.at 0 rfl : Bk _ w.heap.size 25 #[.slice (some ⟨x, ox, none⟩) b.accs.length c, .slice a' b.mvs.length c']).cell 1
        have ql := (F9.at 0 rfl : Bk _ w.heap.size 25 #[.slice (some ⟨x, ox, none⟩) b.accs.length c, .slice a' b.mvs.length c']).lt
        have hS0 := And.intro q0 q1
        refine ru_begin (fun W => W.cell? ⟨w.heap.size, 0, none⟩ = some (.slice (some ⟨x, ox, none⟩) b.accs.length c) ∧ W.cell? ⟨w.heap.size, 1, none⟩ = some (.slice a' b.mvs.length c')) 9 (by kernel_rfl) hS0 ?_
        refine ru_t 0 [] ?_
        refine ru_t 1 [] ?_
        refine ru_t 3 [] ?_
        refine ru_t 4 [] ?_
        (try simp only [Act.put, List.setIfInBounds_toArray, List.set_cons_zero, List.set_cons_succ])
        refine ru_three 2 6 7 rfl rfl rfl (by kernel_rfl) ?_ ?_ ?_
        · intro K hK
          go_simp
          refine (rin_c lo hi _ _ b s (-1) _ (FD.at 1 rfl : HasB lo hi _ (.slice (some ⟨x, ox, none⟩) b.accs.length c) (.slice a' b.mvs.length c') b) HOK.out (by first | omega | (simp; omega)) (by omega)).mono ?_
          rintro e wa1 ⟨rfl, hg1⟩
          have hz1 := hg1.size
          (try simp at hz1)
          simp only [Sp.v]
          have G1 := FD.gn hg1
          have s1_0 : World.cell? _ ⟨w.heap.size, 0, none⟩ = some (.slice (some ⟨x, ox, none⟩) b.accs.length c) := (G1.at 0 rfl : Bk _ w.heap.size 25 #[.slice (some ⟨x, ox, none⟩) b.accs.length c, .slice a' b.mvs.length c']).cell 0
          have s1_1 : World.cell? _ ⟨w.heap.size, 1, none⟩ = some (.slice a' b.mvs.length c') := (G1.at 0 rfl : Bk _ w.heap.size 25 #[.slice (some ⟨x, ox, none⟩) b.accs.length c, .slice a' b.mvs.length c']).cell 1
          refine ru_back hK (by exact ⟨s1_0, s1_1⟩) (fun hHeld => ?_)
          clear hK K
          (try simp only [Act.put, List.setIfInBounds_toArray, List.set_cons_zero, List.set_cons_succ])
          clear s1_0 s1_1
          refine ru_three 5 6 7 rfl rfl rfl (by kernel_rfl) ?_ ?_ ?_
          · intro K hK
            go_simp
            refine (rout_c lo hi _ _ b s (-1) _ (G1.at 1 rfl : HasB lo hi _ (.slice (some ⟨x, ox, none⟩) b.accs.length c) (.slice a' b.mvs.length c') b) HOK.out (by first | omega | (simp; omega)) (by omega)).mono ?_
            rintro e wb2 ⟨rfl, hg2⟩
            have hz2 := hg2.size
            (try simp at hz2)
            simp only [Sp.v]
            have G2 := G1.gn hg2
            have s2_0 : World.cell? _ ⟨w.heap.size, 0, none⟩ = some (.slice (some ⟨x, ox, none⟩) b.accs.length c) := (G2.at 0 rfl : Bk _ w.heap.size 25 #[.slice (some ⟨x, ox, none⟩) b.accs.length c, .slice a' b.mvs.length c']).cell 0
            have s2_1 : World.cell? _ ⟨w.heap.size, 1, none⟩ = some (.slice a' b.mvs.length c') := (G2.at 0 rfl : Bk _ w.heap.size 25 #[.slice (some ⟨x, ox, none⟩) b.accs.length c, .slice a' b.mvs.length c']).cell 1
            refine ru_back hK (by exact ⟨s2_0, s2_1⟩) (fun hHeld => ?_)
            clear hK K
            (try simp only [Act.put, List.setIfInBounds_toArray, List.set_cons_zero, List.set_cons_succ])
            clear s2_0 s2_1
            refine ru_two 6 7 rfl rfl (by kernel_rfl) ?_ ?_
            · intro K hK
              go_simp
              have G3 := G2.new 40 #[.int .i64 0, .int .i64 0] (n := wb2.heap.size) (by simp)
              have s3_0 : World.cell? _ ⟨w.heap.size, 0, none⟩ = some (.slice (some ⟨x, ox, none⟩) b.accs.length c) := (G3.at 1 rfl : Bk _ w.heap.size 25 #[.slice (some ⟨x, ox, none⟩) b.accs.length c, .slice a' b.mvs.length c']).cell 0
              have s3_1 : World.cell? _ ⟨w.heap.size, 1, none⟩ = some (.slice a' b.mvs.length c') := (G3.at 1 rfl : Bk _ w.heap.size 25 #[.slice (some ⟨x, ox, none⟩) b.accs.length c, .slice a' b.mvs.length c']).cell 1
              refine ru_back hK (by exact ⟨s3_0, s3_1⟩) (fun hHeld => ?_)
              clear hK K
              (try simp only [Act.put, List.setIfInBounds_toArray, List.set_cons_zero, List.set_cons_succ])
              clear s3_0 s3_1
              refine ru_one 7 rfl (by kernel_rfl) (fun K hK => ?_)
              go_simp
              have G4 := G3.new 40 #[.int .i64 0, .int .i64 0] (n := (wb2.heap.size + 1)) (by simp)
              have s4_0 : World.cell? _ ⟨w.heap.size, 0, none⟩ = some (.slice (some ⟨x, ox, none⟩) b.accs.length c) := (G4.at 2 rfl : Bk _ w.heap.size 25 #[.slice (some ⟨x, ox, none⟩) b.accs.length c, .slice a' b.mvs.length c']).cell 0
              have s4_1 : World.cell? _ ⟨w.heap.size, 1, none⟩ = some (.slice a' b.mvs.length c') := (G4.at 2 rfl : Bk _ w.heap.size 25 #[.slice (some ⟨x, ox, none⟩) b.accs.length c, .slice a' b.mvs.length c']).cell 1
              refine ru_back hK (by exact ⟨s4_0, s4_1⟩) (fun hHeld => ?_)
              clear hK K
              (try simp only [Act.put, List.setIfInBounds_toArray, List.set_cons_zero, List.set_cons_succ])
              clear s4_0 s4_1
              refine ru_one 8 rfl (by kernel_rfl) (fun K hK => ?_)
              have k5 : Bk _ wb2.heap.size 40 #[.int .i64 0, .int .i64 0] := G4.at 1 rfl
              have c5 := k5.c2
              have l5 := k5.lt
              go_simp
              clear c5 l5 k5
              have G5 := ((G2.new 40 #[.int .i64 (inS b s (-1)).lo, .int .i64 (inS b s (-1)).hi] (n := wb2.heap.size) (by simp)).new 40 #[.int .i64 0, .int .i64 0] (n := (wb2.heap.size + 1)) (by simp))
              have s5_0 : World.cell? _ ⟨w.heap.size, 0, none⟩ = some (.slice (some ⟨x, ox, none⟩) b.accs.length c) := (G5.at 2 rfl : Bk _ w.heap.size 25 #[.slice (some ⟨x, ox, none⟩) b.accs.length c, .slice a' b.mvs.length c']).cell 0
              have s5_1 : World.cell? _ ⟨w.heap.size, 1, none⟩ = some (.slice a' b.mvs.length c') := (G5.at 2 rfl : Bk _ w.heap.size 25 #[.slice (some ⟨x, ox, none⟩) b.accs.length c, .slice a' b.mvs.length c']).cell 1
              refine ru_back hK (by exact ⟨s5_0, s5_1⟩) (fun hHeld => ?_)
              clear hK K
              (try simp only [Act.put, List.setIfInBounds_toArray, List.set_cons_zero, List.set_cons_succ])
              clear s5_0 s5_1
              refine ru_one 9 rfl (by kernel_rfl) (fun K hK => ?_)
              have k6 : Bk _ (wb2.heap.size + 1) 40 #[.int .i64 0, .int .i64 0] := G5.at 0 rfl
              have c6 := k6.c2
              have l6 := k6.lt
              go_simp
              clear c6 l6 k6
              have G6 := ((G2.new 40 #[.int .i64 (inS b s (-1)).lo, .int .i64 (inS b s (-1)).hi] (n := wb2.heap.size) (by simp)).new 40 #[.int .i64 (outS b s (-1)).lo, .int .i64 (outS b s (-1)).hi] (n := (wb2.heap.size + 1)) (by simp))
              have s6_0 : World.cell? _ ⟨w.heap.size, 0, none⟩ = some (.slice (some ⟨x, ox, none⟩) b.accs.length c) := (G6.at 2 rfl : Bk _ w.heap.size 25 #[.slice (some ⟨x, ox, none⟩) b.accs.length c, .slice a' b.mvs.length c']).cell 0
              have s6_1 : World.cell? _ ⟨w.heap.size, 1, none⟩ = some (.slice a' b.mvs.length c') := (G6.at 2 rfl : Bk _ w.heap.size 25 #[.slice (some ⟨x, ox, none⟩) b.accs.length c, .slice a' b.mvs.length c']).cell 1
              refine ru_back_late hK (by kernel_rfl) ?_
              clear hK K
              (try simp only [Act.put, List.setIfInBounds_toArray, List.set_cons_zero, List.set_cons_succ])
              clear s6_0 s6_1
              refine ru_done (by kernel_rfl) ?_
              exact ⟨rfl, rfl, wb2.heap.size, (wb2.heap.size + 1), rfl, rfl, rfl, rfl, G6.perm (List.Perm.swap _ _ _)⟩
            · intro K hK
              go_simp
              have G3 := G2.new 40 #[.int .i64 0, .int .i64 0] (n := wb2.heap.size) (by simp)
              have s3_0 : World.cell? _ ⟨w.heap.size, 0, none⟩ = some (.slice (some ⟨x, ox, none⟩) b.accs.length c) := (G3.at 1 rfl : Bk _ w.heap.size 25 #[.slice (some ⟨x, ox, none⟩) b.accs.length c, .slice a' b.mvs.length c']).cell 0
              have s3_1 : World.cell? _ ⟨w.heap.size, 1, none⟩ = some (.slice a' b.mvs.length c') := (G3.at 1 rfl : Bk _ w.heap.size 25 #[.slice (some ⟨x, ox, none⟩) b.accs.length c, .slice a' b.mvs.length c']).cell 1
              refine ru_back hK (by exact ⟨s3_0, s3_1⟩) (fun hHeld => ?_)
              clear hK K
              (try simp only [Act.put, List.setIfInBounds_toArray, List.set_cons_zero, List.set_cons_succ])
              clear s3_0 s3_1
              refine ru_one 6 rfl (by kernel_rfl) (fun K hK => ?_)
              go_simp
              have G4 := G3.new 40 #[.int .i64 0, .int .i64 0] (n := (wb2.heap.size + 1)) (by simp)
              have s4_0 : World.cell? _ ⟨w.heap.size, 0, none⟩ = some (.slice (some ⟨x, ox, none⟩) b.accs.length c) := (G4.at 2 rfl : Bk _ w.heap.size 25 #[.slice (some ⟨x, ox, none⟩) b.accs.length c, .slice a' b.mvs.length c']).cell 0
              have s4_1 : World.cell? _ ⟨w.heap.size, 1, none⟩ = some (.slice a' b.mvs.length c') := (G4.at 2 rfl : Bk _ w.heap.size 25 #[.slice (some ⟨x, ox, none⟩) b.accs.length c, .slice a' b.mvs.length c']).cell 1
              refine ru_back hK (by exact ⟨s4_0, s4_1⟩) (fun hHeld => ?_)
              clear hK K
              (try simp only [Act.put, List.setIfInBounds_toArray, List.set_cons_zero, List.set_cons_succ])
              clear s4_0 s4_1
              refine ru_one 8 rfl (by kernel_rfl) (fun K hK => ?_)
              have k5 : Bk _ (wb2.heap.size + 1) 40 #[.int .i64 0, .int .i64 0] := G4.at 0 rfl
              have c5 := k5.c2
              have l5 := k5.lt
              go_simp
              clear c5 l5 k5
              have G5 := ((G2.new 40 #[.int .i64 0, .int .i64 0] (n := wb2.heap.size) (by simp)).new 40 #[.int .i64 (inS b s (-1)).lo, .int .i64 (inS b s (-1)).hi] (n := (wb2.heap.size + 1)) (by simp))
              have s5_0 : World.cell? _ ⟨w.heap.size, 0, none⟩ = some (.slice (some ⟨x, ox, none⟩) b.accs.length c) := (G5.at 2 rfl : Bk _ w.heap.size 25 #[.slice (some ⟨x, ox, none⟩) b.accs.length c, .slice a' b.mvs.length c']).cell 0
              have s5_1 : World.cell? _ ⟨w.heap.size, 1, none⟩ = some (.slice a' b.mvs.length c') := (G5.at 2 rfl : Bk _ w.heap.size 25 #[.slice (some ⟨x, ox, none⟩) b.accs.length c, .slice a' b.mvs.length c']).cell 1
              refine ru_back hK (by exact ⟨s5_0, s5_1⟩) (fun hHeld => ?_)
              clear hK K
              (try simp only [Act.put, List.setIfInBounds_toArray, List.set_cons_zero, List.set_cons_succ])
              clear s5_0 s5_1
              refine ru_one 9 rfl (by kernel_rfl) (fun K hK => ?_)
              have k6 : Bk _ wb2.heap.size 40 #[.int .i64 0, .int .i64 0] := G5.at 1 rfl
              have c6 := k6.c2
              have l6 := k6.lt
              go_simp
              clear c6 l6 k6
              have G6 := ((G2.new 40 #[.int .i64 (outS b s (-1)).lo, .int .i64 (outS b s (-1)).hi] (n := wb2.heap.size) (by simp)).new 40 #[.int .i64 (inS b s (-1)).lo, .int .i64 (inS b s (-1)).hi] (n := (wb2.heap.size + 1)) (by simp))
              have s6_0 : World.cell? _ ⟨w.heap.size, 0, none⟩ = some (.slice (some ⟨x, ox, none⟩) b.accs.length c) := (G6.at 2 rfl : Bk _ w.heap.size 25 #[.slice (some ⟨x, ox, none⟩) b.accs.length c, .slice a' b.mvs.length c']).cell 0
              have s6_1 : World.cell? _ ⟨w.heap.size, 1, none⟩ = some (.slice a' b.mvs.length c') := (G6.at 2 rfl : Bk _ w.heap.size 25 #[.slice (some ⟨x, ox, none⟩) b.accs.length c, .slice a' b.mvs.length c']).cell 1
              refine ru_back_late hK (by kernel_rfl) ?_
              clear hK K
              (try simp only [Act.put, List.setIfInBounds_toArray, List.set_cons_zero, List.set_cons_succ])
              clear s6_0 s6_1
              refine ru_done (by kernel_rfl) ?_
              exact ⟨rfl, rfl, (wb2.heap.size + 1), wb2.heap.size, rfl, rfl, rfl, rfl, G6⟩
          · intro K hK
            go_simp
            have G2 := G1.new 40 #[.int .i64 0, .int .i64 0] (n := wa1.heap.size) (by simp)
            have s2_0 : World.cell? _ ⟨w.heap.size, 0, none⟩ = some (.slice (some ⟨x, ox, none⟩) b.accs.length c) := (G2.at 1 rfl : Bk _ w.heap.size 25 #[.slice (some ⟨x, ox, none⟩) b.accs.length c, .slice a' b.mvs.length c']).cell 0
            have s2_1 : World.cell? _ ⟨w.heap.size, 1, none⟩ = some (.slice a' b.mvs.length c') := (G2.at 1 rfl : Bk _ w.heap.size 25 #[.slice (some ⟨x, ox, none⟩) b.accs.length c, .slice a' b.mvs.length c']).cell 1
            refine ru_back hK (by exact ⟨s2_0, s2_1⟩) (fun hHeld => ?_)
            clear hK K
            (try simp only [Act.put, List.setIfInBounds_toArray, List.set_cons_zero, List.set_cons_succ])
            clear s2_0 s2_1
            refine ru_two 5 7 rfl rfl (by kernel_rfl) ?_ ?_
            · intro K hK
              go_simp
              refine (rout_c lo hi _ _ b s (-1) _ (G2.at 2 rfl : HasB lo hi _ (.slice (some ⟨x, ox, none⟩) b.accs.length c) (.slice a' b.mvs.length c') b) HOK.out (by first | omega | (simp; omega)) (by omega)).mono ?_
              rintro e wb3 ⟨rfl, hg3⟩
              have hz3 := hg3.size
              (try simp at hz3)
              simp only [Sp.v]
              have G3 := G2.gn hg3
              have s3_0 : World.cell? _ ⟨w.heap.size, 0, none⟩ = some (.slice (some ⟨x, ox, none⟩) b.accs.length c) := (G3.at 1 rfl : Bk _ w.heap.size 25 #[.slice (some ⟨x, ox, none⟩) b.accs.length c, .slice a' b.mvs.length c']).cell 0
              have s3_1 : World.cell? _ ⟨w.heap.size, 1, none⟩ = some (.slice a' b.mvs.length c') := (G3.at 1 rfl : Bk _ w.heap.size 25 #[.slice (some ⟨x, ox, none⟩) b.accs.length c, .slice a' b.mvs.length c']).cell 1
              refine ru_back hK (by exact ⟨s3_0, s3_1⟩) (fun hHeld => ?_)
              clear hK K
              (try simp only [Act.put, List.setIfInBounds_toArray, List.set_cons_zero, List.set_cons_succ])
              clear s3_0 s3_1
              refine ru_one 7 rfl (by kernel_rfl) (fun K hK => ?_)
              go_simp
              have G4 := G3.new 40 #[.int .i64 0, .int .i64 0] (n := wb3.heap.size) (by simp)
              have s4_0 : World.cell? _ ⟨w.heap.size, 0, none⟩ = some (.slice (some ⟨x, ox, none⟩) b.accs.length c) := (G4.at 2 rfl : Bk _ w.heap.size 25 #[.slice (some ⟨x, ox, none⟩) b.accs.length c, .slice a' b.mvs.length c']).cell 0
              have s4_1 : World.cell? _ ⟨w.heap.size, 1, none⟩ = some (.slice a' b.mvs.length c') := (G4.at 2 rfl : Bk _ w.heap.size 25 #[.slice (some ⟨x, ox, none⟩) b.accs.length c, .slice a' b.mvs.length c']).cell 1
              refine ru_back hK (by exact ⟨s4_0, s4_1⟩) (fun hHeld => ?_)
              clear hK K
              (try simp only [Act.put, List.setIfInBounds_toArray, List.set_cons_zero, List.set_cons_succ])
              clear s4_0 s4_1
              refine ru_one 8 rfl (by kernel_rfl) (fun K hK => ?_)
              have k5 : Bk _ wa1.heap.size 40 #[.int .i64 0, .int .i64 0] := G4.at 1 rfl
              have c5 := k5.c2
              have l5 := k5.lt
              go_simp
              clear c5 l5 k5
              have G5 := ((G4.front 1 rfl rfl).set 0 (.int .i64 (inS b s (-1)).lo)).set 1 (.int .i64 (inS b s (-1)).hi)
              have s5_0 : World.cell? _ ⟨w.heap.size, 0, none⟩ = some (.slice (some ⟨x, ox, none⟩) b.accs.length c) := (G5.at 2 rfl : Bk _ w.heap.size 25 #[.slice (some ⟨x, ox, none⟩) b.accs.length c, .slice a' b.mvs.length c']).cell 0
              have s5_1 : World.cell? _ ⟨w.heap.size, 1, none⟩ = some (.slice a' b.mvs.length c') := (G5.at 2 rfl : Bk _ w.heap.size 25 #[.slice (some ⟨x, ox, none⟩) b.accs.length c, .slice a' b.mvs.length c']).cell 1
              refine ru_back hK (by exact ⟨s5_0, s5_1⟩) (fun hHeld => ?_)
              clear hK K
              (try simp only [Act.put, List.setIfInBounds_toArray, List.set_cons_zero, List.set_cons_succ])
              clear s5_0 s5_1
              refine ru_one 9 rfl (by kernel_rfl) (fun K hK => ?_)
              have k6 : Bk _ wb3.heap.size 40 #[.int .i64 0, .int .i64 0] := G5.at 1 rfl
              have c6 := k6.c2
              have l6 := k6.lt
              go_simp
              clear c6 l6 k6
              have G6 := ((G5.front 1 rfl rfl).set 0 (.int .i64 (outS b s (-1)).lo)).set 1 (.int .i64 (outS b s (-1)).hi)
              have s6_0 : World.cell? _ ⟨w.heap.size, 0, none⟩ = some (.slice (some ⟨x, ox, none⟩) b.accs.length c) := (G6.at 2 rfl : Bk _ w.heap.size 25 #[.slice (some ⟨x, ox, none⟩) b.accs.length c, .slice a' b.mvs.length c']).cell 0
              have s6_1 : World.cell? _ ⟨w.heap.size, 1, none⟩ = some (.slice a' b.mvs.length c') := (G6.at 2 rfl : Bk _ w.heap.size 25 #[.slice (some ⟨x, ox, none⟩) b.accs.length c, .slice a' b.mvs.length c']).cell 1
              refine ru_back_late hK (by kernel_rfl) ?_
              clear hK K
              (try simp only [Act.put, List.setIfInBounds_toArray, List.set_cons_zero, List.set_cons_succ])
              clear s6_0 s6_1
              refine ru_done (by kernel_rfl) ?_
              exact ⟨rfl, rfl, wa1.heap.size, wb3.heap.size, rfl, rfl, rfl, rfl, G6.perm (List.Perm.swap _ _ _)⟩
            · intro K hK
              go_simp
              have G3 := G2.new 40 #[.int .i64 0, .int .i64 0] (n := (wa1.heap.size + 1)) (by simp)
              have s3_0 : World.cell? _ ⟨w.heap.size, 0, none⟩ = some (.slice (some ⟨x, ox, none⟩) b.accs.length c) := (G3.at 2 rfl : Bk _ w.heap.size 25 #[.slice (some ⟨x, ox, none⟩) b.accs.length c, .slice a' b.mvs.length c']).cell 0
              have s3_1 : World.cell? _ ⟨w.heap.size, 1, none⟩ = some (.slice a' b.mvs.length c') := (G3.at 2 rfl : Bk _ w.heap.size 25 #[.slice (some ⟨x, ox, none⟩) b.accs.length c, .slice a' b.mvs.length c']).cell 1
              refine ru_back hK (by exact ⟨s3_0, s3_1⟩) (fun hHeld => ?_)
              clear hK K
              (try simp only [Act.put, List.setIfInBounds_toArray, List.set_cons_zero, List.set_cons_succ])
              clear s3_0 s3_1
              refine ru_one 5 rfl (by kernel_rfl) (fun K hK => ?_)
              go_simp
              refine (rout_c lo hi _ _ b s (-1) _ (G3.at 3 rfl : HasB lo hi _ (.slice (some ⟨x, ox, none⟩) b.accs.length c) (.slice a' b.mvs.length c') b) HOK.out (by first | omega | (simp; omega)) (by omega)).mono ?_
              rintro e wb4 ⟨rfl, hg4⟩
              have hz4 := hg4.size
              (try simp at hz4)
              simp only [Sp.v]
              have G4 := G3.gn hg4
              have s4_0 : World.cell? _ ⟨w.heap.size, 0, none⟩ = some (.slice (some ⟨x, ox, none⟩) b.accs.length c) := (G4.at 2 rfl : Bk _ w.heap.size 25 #[.slice (some ⟨x, ox, none⟩) b.accs.length c, .slice a' b.mvs.length c']).cell 0
              have s4_1 : World.cell? _ ⟨w.heap.size, 1, none⟩ = some (.slice a' b.mvs.length c') := (G4.at 2 rfl : Bk _ w.heap.size 25 #[.slice (some ⟨x, ox, none⟩) b.accs.length c, .slice a' b.mvs.length c']).cell 1
              refine ru_back hK (by exact ⟨s4_0, s4_1⟩) (fun hHeld => ?_)
              clear hK K
              (try simp only [Act.put, List.setIfInBounds_toArray, List.set_cons_zero, List.set_cons_succ])
              clear s4_0 s4_1
              refine ru_one 8 rfl (by kernel_rfl) (fun K hK => ?_)
              have k5 : Bk _ wa1.heap.size 40 #[.int .i64 0, .int .i64 0] := G4.at 1 rfl
              have c5 := k5.c2
              have l5 := k5.lt
              go_simp
              clear c5 l5 k5
              have G5 := ((G4.front 1 rfl rfl).set 0 (.int .i64 (inS b s (-1)).lo)).set 1 (.int .i64 (inS b s (-1)).hi)
              have s5_0 : World.cell? _ ⟨w.heap.size, 0, none⟩ = some (.slice (some ⟨x, ox, none⟩) b.accs.length c) := (G5.at 2 rfl : Bk _ w.heap.size 25 #[.slice (some ⟨x, ox, none⟩) b.accs.length c, .slice a' b.mvs.length c']).cell 0
              have s5_1 : World.cell? _ ⟨w.heap.size, 1, none⟩ = some (.slice a' b.mvs.length c') := (G5.at 2 rfl : Bk _ w.heap.size 25 #[.slice (some ⟨x, ox, none⟩) b.accs.length c, .slice a' b.mvs.length c']).cell 1
              refine ru_back hK (by exact ⟨s5_0, s5_1⟩) (fun hHeld => ?_)
              clear hK K
              (try simp only [Act.put, List.setIfInBounds_toArray, List.set_cons_zero, List.set_cons_succ])
              clear s5_0 s5_1
              refine ru_one 9 rfl (by kernel_rfl) (fun K hK => ?_)
              have k6 : Bk _ (wa1.heap.size + 1) 40 #[.int .i64 0, .int .i64 0] := G5.at 1 rfl
              have c6 := k6.c2
              have l6 := k6.lt
              go_simp
              clear c6 l6 k6
              have G6 := ((G5.front 1 rfl rfl).set 0 (.int .i64 (outS b s (-1)).lo)).set 1 (.int .i64 (outS b s (-1)).hi)
              have s6_0 : World.cell? _ ⟨w.heap.size, 0, none⟩ = some (.slice (some ⟨x, ox, none⟩) b.accs.length c) := (G6.at 2 rfl : Bk _ w.heap.size 25 #[.slice (some ⟨x, ox, none⟩) b.accs.length c, .slice a' b.mvs.length c']).cell 0
              have s6_1 : World.cell? _ ⟨w.heap.size, 1, none⟩ = some (.slice a' b.mvs.length c') := (G6.at 2 rfl : Bk _ w.heap.size 25 #[.slice (some ⟨x, ox, none⟩) b.accs.length c, .slice a' b.mvs.length c']).cell 1
              refine ru_back_late hK (by kernel_rfl) ?_
              clear hK K
              (try simp only [Act.put, List.setIfInBounds_toArray, List.set_cons_zero, List.set_cons_succ])
              clear s6_0 s6_1
              refine ru_done (by kernel_rfl) ?_
              exact ⟨rfl, rfl, wa1.heap.size, (wa1.heap.size + 1), rfl, rfl, rfl, rfl, G6.perm (List.Perm.swap _ _ _)⟩
          · intro K hK
            go_simp
            have G2 := G1.new 40 #[.int .i64 0, .int .i64 0] (n := wa1.heap.size) (by simp)
            have s2_0 : World.cell? _ ⟨w.heap.size, 0, none⟩ = some (.slice (some ⟨x, ox, none⟩) b.accs.length c) := (G2.at 1 rfl : Bk _ w.heap.size 25 #[.slice (some ⟨x, ox, none⟩) b.accs.length c, .slice a' b.mvs.length c']).cell 0
            have s2_1 : World.cell? _ ⟨w.heap.size, 1, none⟩ = some (.slice a' b.mvs.length c') := (G2.at 1 rfl : Bk _ w.heap.size 25 #[.slice (some ⟨x, ox, none⟩) b.accs.length c, .slice a' b.mvs.length c']).cell 1
            refine ru_back hK (by exact ⟨s2_0, s2_1⟩) (fun hHeld => ?_)
            clear hK K
            (try simp only [Act.put, List.setIfInBounds_toArray, List.set_cons_zero, List.set_cons_succ])
            clear s2_0 s2_1
            refine ru_two 5 6 rfl rfl (by kernel_rfl) ?_ ?_
            · intro K hK
              go_simp
              refine (rout_c lo hi _ _ b s (-1) _ (G2.at 2 rfl : HasB lo hi _ (.slice (some ⟨x, ox, none⟩) b.accs.length c) (.slice a' b.mvs.length c') b) HOK.out (by first | omega | (simp; omega)) (by omega)).mono ?_
              rintro e wb3 ⟨rfl, hg3⟩
              have hz3 := hg3.size
              (try simp at hz3)
              simp only [Sp.v]
              have G3 := G2.gn hg3
              have s3_0 : World.cell? _ ⟨w.heap.size, 0, none⟩ = some (.slice (some ⟨x, ox, none⟩) b.accs.length c) := (G3.at 1 rfl : Bk _ w.heap.size 25 #[.slice (some ⟨x, ox, none⟩) b.accs.length c, .slice a' b.mvs.length c']).cell 0
              have s3_1 : World.cell? _ ⟨w.heap.size, 1, none⟩ = some (.slice a' b.mvs.length c') := (G3.at 1 rfl : Bk _ w.heap.size 25 #[.slice (some ⟨x, ox, none⟩) b.accs.length c, .slice a' b.mvs.length c']).cell 1
              refine ru_back hK (by exact ⟨s3_0, s3_1⟩) (fun hHeld => ?_)
              clear hK K
              (try simp only [Act.put, List.setIfInBounds_toArray, List.set_cons_zero, List.set_cons_succ])
              clear s3_0 s3_1
              refine ru_one 6 rfl (by kernel_rfl) (fun K hK => ?_)
              go_simp
              have G4 := G3.new 40 #[.int .i64 0, .int .i64 0] (n := wb3.heap.size) (by simp)
              have s4_0 : World.cell? _ ⟨w.heap.size, 0, none⟩ = some (.slice (some ⟨x, ox, none⟩) b.accs.length c) := (G4.at 2 rfl : Bk _ w.heap.size 25 #[.slice (some ⟨x, ox, none⟩) b.accs.length c, .slice a' b.mvs.length c']).cell 0
              have s4_1 : World.cell? _ ⟨w.heap.size, 1, none⟩ = some (.slice a' b.mvs.length c') := (G4.at 2 rfl : Bk _ w.heap.size 25 #[.slice (some ⟨x, ox, none⟩) b.accs.length c, .slice a' b.mvs.length c']).cell 1
              refine ru_back hK (by exact ⟨s4_0, s4_1⟩) (fun hHeld => ?_)
              clear hK K
              (try simp only [Act.put, List.setIfInBounds_toArray, List.set_cons_zero, List.set_cons_succ])
              clear s4_0 s4_1
              refine ru_one 8 rfl (by kernel_rfl) (fun K hK => ?_)
              have k5 : Bk _ wb3.heap.size 40 #[.int .i64 0, .int .i64 0] := G4.at 0 rfl
              have c5 := k5.c2
              have l5 := k5.lt
              go_simp
              clear c5 l5 k5
              have G5 := (G3.new 40 #[.int .i64 (inS b s (-1)).lo, .int .i64 (inS b s (-1)).hi] (n := wb3.heap.size) (by simp))
              have s5_0 : World.cell? _ ⟨w.heap.size, 0, none⟩ = some (.slice (some ⟨x, ox, none⟩) b.accs.length c) := (G5.at 2 rfl : Bk _ w.heap.size 25 #[.slice (some ⟨x, ox, none⟩) b.accs.length c, .slice a' b.mvs.length c']).cell 0
              have s5_1 : World.cell? _ ⟨w.heap.size, 1, none⟩ = some (.slice a' b.mvs.length c') := (G5.at 2 rfl : Bk _ w.heap.size 25 #[.slice (some ⟨x, ox, none⟩) b.accs.length c, .slice a' b.mvs.length c']).cell 1
              refine ru_back hK (by exact ⟨s5_0, s5_1⟩) (fun hHeld => ?_)
              clear hK K
              (try simp only [Act.put, List.setIfInBounds_toArray, List.set_cons_zero, List.set_cons_succ])
              clear s5_0 s5_1
              refine ru_one 9 rfl (by kernel_rfl) (fun K hK => ?_)
              have k6 : Bk _ wa1.heap.size 40 #[.int .i64 0, .int .i64 0] := G5.at 1 rfl
              have c6 := k6.c2
              have l6 := k6.lt
              go_simp
              clear c6 l6 k6
              have G6 := ((G5.front 1 rfl rfl).set 0 (.int .i64 (outS b s (-1)).lo)).set 1 (.int .i64 (outS b s (-1)).hi)
              have s6_0 : World.cell? _ ⟨w.heap.size, 0, none⟩ = some (.slice (some ⟨x, ox, none⟩) b.accs.length c) := (G6.at 2 rfl : Bk _ w.heap.size 25 #[.slice (some ⟨x, ox, none⟩) b.accs.length c, .slice a' b.mvs.length c']).cell 0
              have s6_1 : World.cell? _ ⟨w.heap.size, 1, none⟩ = some (.slice a' b.mvs.length c') := (G6.at 2 rfl : Bk _ w.heap.size 25 #[.slice (some ⟨x, ox, none⟩) b.accs.length c, .slice a' b.mvs.length c']).cell 1
              refine ru_back_late hK (by kernel_rfl) ?_
              clear hK K
              (try simp only [Act.put, List.setIfInBounds_toArray, List.set_cons_zero, List.set_cons_succ])
              clear s6_0 s6_1
              refine ru_done (by kernel_rfl) ?_
              exact ⟨rfl, rfl, wb3.heap.size, wa1.heap.size, rfl, rfl, rfl, rfl, G6.perm (List.Perm.swap _ _ _)⟩
            · intro K hK
              go_simp
              have G3 := G2.new 40 #[.int .i64 0, .int .i64 0] (n := (wa1.heap.size + 1)) (by simp)
              have s3_0 : World.cell? _ ⟨w.heap.size, 0, none⟩ = some (.slice (some ⟨x, ox, none⟩) b.accs.length c) := (G3.at 2 rfl : Bk _ w.heap.size 25 #[.slice (some ⟨x, ox, none⟩) b.accs.length c, .slice a' b.mvs.length c']).cell 0
              have s3_1 : World.cell? _ ⟨w.heap.size, 1, none⟩ = some (.slice a' b.mvs.length c') := (G3.at 2 rfl : Bk _ w.heap.size 25 #[.slice (some ⟨x, ox, none⟩) b.accs.length c, .slice a' b.mvs.length c']).cell 1
              refine ru_back hK (by exact ⟨s3_0, s3_1⟩) (fun hHeld => ?_)
              clear hK K
              (try simp only [Act.put, List.setIfInBounds_toArray, List.set_cons_zero, List.set_cons_succ])
              clear s3_0 s3_1
              refine ru_one 5 rfl (by kernel_rfl) (fun K hK => ?_)
              go_simp
              refine (rout_c lo hi _ _ b s (-1) _ (G3.at 3 rfl : HasB lo hi _ (.slice (some ⟨x, ox, none⟩) b.accs.length c) (.slice a' b.mvs.length c') b) HOK.out (by first | omega | (simp; omega)) (by omega)).mono ?_
              rintro e wb4 ⟨rfl, hg4⟩
              have hz4 := hg4.size
              (try simp at hz4)
              simp only [Sp.v]
              have G4 := G3.gn hg4
              have s4_0 : World.cell? _ ⟨w.heap.size, 0, none⟩ = some (.slice (some ⟨x, ox, none⟩) b.accs.length c) := (G4.at 2 rfl : Bk _ w.heap.size 25 #[.slice (some ⟨x, ox, none⟩) b.accs.length c, .slice a' b.mvs.length c']).cell 0
              have s4_1 : World.cell? _ ⟨w.heap.size, 1, none⟩ = some (.slice a' b.mvs.length c') := (G4.at 2 rfl : Bk _ w.heap.size 25 #[.slice (some ⟨x, ox, none⟩) b.accs.length c, .slice a' b.mvs.length c']).cell 1
              refine ru_back hK (by exact ⟨s4_0, s4_1⟩) (fun hHeld => ?_)
              clear hK K
              (try simp only [Act.put, List.setIfInBounds_toArray, List.set_cons_zero, List.set_cons_succ])
              clear s4_0 s4_1
              refine ru_one 8 rfl (by kernel_rfl) (fun K hK => ?_)
              have k5 : Bk _ (wa1.heap.size + 1) 40 #[.int .i64 0, .int .i64 0] := G4.at 0 rfl
              have c5 := k5.c2
              have l5 := k5.lt
              go_simp
              clear c5 l5 k5
              have G5 := (G4.set 0 (.int .i64 (inS b s (-1)).lo)).set 1 (.int .i64 (inS b s (-1)).hi)
              have s5_0 : World.cell? _ ⟨w.heap.size, 0, none⟩ = some (.slice (some ⟨x, ox, none⟩) b.accs.length c) := (G5.at 2 rfl : Bk _ w.heap.size 25 #[.slice (some ⟨x, ox, none⟩) b.accs.length c, .slice a' b.mvs.length c']).cell 0
              have s5_1 : World.cell? _ ⟨w.heap.size, 1, none⟩ = some (.slice a' b.mvs.length c') := (G5.at 2 rfl : Bk _ w.heap.size 25 #[.slice (some ⟨x, ox, none⟩) b.accs.length c, .slice a' b.mvs.length c']).cell 1
              refine ru_back hK (by exact ⟨s5_0, s5_1⟩) (fun hHeld => ?_)
              clear hK K
              (try simp only [Act.put, List.setIfInBounds_toArray, List.set_cons_zero, List.set_cons_succ])
              clear s5_0 s5_1
              refine ru_one 9 rfl (by kernel_rfl) (fun K hK => ?_)
              have k6 : Bk _ wa1.heap.size 40 #[.int .i64 0, .int .i64 0] := G5.at 1 rfl
              have c6 := k6.c2
              have l6 := k6.lt
              go_simp
              clear c6 l6 k6
              have G6 := ((G5.front 1 rfl rfl).set 0 (.int .i64 (outS b s (-1)).lo)).set 1 (.int .i64 (outS b s (-1)).hi)
              have s6_0 : World.cell? _ ⟨w.heap.size, 0, none⟩ = some (.slice (some ⟨x, ox, none⟩) b.accs.length c) := (G6.at 2 rfl : Bk _ w.heap.size 25 #[.slice (some ⟨x, ox, none⟩) b.accs.length c, .slice a' b.mvs.length c']).cell 0
              have s6_1 : World.cell? _ ⟨w.heap.size, 1, none⟩ = some (.slice a' b.mvs.length c') := (G6.at 2 rfl : Bk _ w.heap.size 25 #[.slice (some ⟨x, ox, none⟩) b.accs.length c, .slice a' b.mvs.length c']).cell 1
              refine ru_back_late hK (by kernel_rfl) ?_
              clear hK K
              (try simp only [Act.put, List.setIfInBounds_toArray, List.set_cons_zero, List.set_cons_succ])
              clear s6_0 s6_1
              refine ru_done (by kernel_rfl) ?_
              exact ⟨rfl, rfl, (wa1.heap.size + 1), wa1.heap.size, rfl, rfl, rfl, rfl, G6.perm (List.Perm.swap _ _ _)⟩
        · intro K hK
          go_simp
          have G1 := FD.new 40 #[.int .i64 0, .int .i64 0] (n := w1.heap.size) (by simp)
          have s1_0 : World.cell? _ ⟨w.heap.size, 0, none⟩ = some (.slice (some ⟨x, ox, none⟩) b.accs.length c) := (G1.at 1 rfl : Bk _ w.heap.size 25 #[.slice (some ⟨x, ox, none⟩) b.accs.length c, .slice a' b.mvs.length c']).cell 0
          have s1_1 : World.cell? _ ⟨w.heap.size, 1, none⟩ = some (.slice a' b.mvs.length c') := (G1.at 1 rfl : Bk _ w.heap.size 25 #[.slice (some ⟨x, ox, none⟩) b.accs.length c, .slice a' b.mvs.length c']).cell 1
          refine ru_back hK (by exact ⟨s1_0, s1_1⟩) (fun hHeld => ?_)
          clear hK K
          (try simp only [Act.put, List.setIfInBounds_toArray, List.set_cons_zero, List.set_cons_succ])
          clear s1_0 s1_1
          refine ru_two 2 7 rfl rfl (by kernel_rfl) ?_ ?_
          · intro K hK
            go_simp
            refine (rin_c lo hi _ _ b s (-1) _ (G1.at 2 rfl : HasB lo hi _ (.slice (some ⟨x, ox, none⟩) b.accs.length c) (.slice a' b.mvs.length c') b) HOK.out (by first | omega | (simp; omega)) (by omega)).mono ?_
            rintro e wa2 ⟨rfl, hg2⟩
            have hz2 := hg2.size
            (try simp at hz2)
            simp only [Sp.v]
            have G2 := G1.gn hg2
            have s2_0 : World.cell? _ ⟨w.heap.size, 0, none⟩ = some (.slice (some ⟨x, ox, none⟩) b.accs.length c) := (G2.at 1 rfl : Bk _ w.heap.size 25 #[.slice (some ⟨x, ox, none⟩) b.accs.length c, .slice a' b.mvs.length c']).cell 0
            have s2_1 : World.cell? _ ⟨w.heap.size, 1, none⟩ = some (.slice a' b.mvs.length c') := (G2.at 1 rfl : Bk _ w.heap.size 25 #[.slice (some ⟨x, ox, none⟩) b.accs.length c, .slice a' b.mvs.length c']).cell 1
            refine ru_back hK (by exact ⟨s2_0, s2_1⟩) (fun hHeld => ?_)
            clear hK K
            (try simp only [Act.put, List.setIfInBounds_toArray, List.set_cons_zero, List.set_cons_succ])
            clear s2_0 s2_1
            refine ru_two 5 7 rfl rfl (by kernel_rfl) ?_ ?_
            · intro K hK
              go_simp
              refine (rout_c lo hi _ _ b s (-1) _ (G2.at 2 rfl : HasB lo hi _ (.slice (some ⟨x, ox, none⟩) b.accs.length c) (.slice a' b.mvs.length c') b) HOK.out (by first | omega | (simp; omega)) (by omega)).mono ?_
              rintro e wb3 ⟨rfl, hg3⟩
              have hz3 := hg3.size
              (try simp at hz3)
              simp only [Sp.v]
              have G3 := G2.gn hg3
              have s3_0 : World.cell? _ ⟨w.heap.size, 0, none⟩ = some (.slice (some ⟨x, ox, none⟩) b.accs.length c) := (G3.at 1 rfl : Bk _ w.heap.size 25 #[.slice (some ⟨x, ox, none⟩) b.accs.length c, .slice a' b.mvs.length c']).cell 0
              have s3_1 : World.cell? _ ⟨w.heap.size, 1, none⟩ = some (.slice a' b.mvs.length c') := (G3.at 1 rfl : Bk _ w.heap.size 25 #[.slice (some ⟨x, ox, none⟩) b.accs.length c, .slice a' b.mvs.length c']).cell 1
              refine ru_back hK (by exact ⟨s3_0, s3_1⟩) (fun hHeld => ?_)
              clear hK K
              (try simp only [Act.put, List.setIfInBounds_toArray, List.set_cons_zero, List.set_cons_succ])
              clear s3_0 s3_1
              refine ru_one 7 rfl (by kernel_rfl) (fun K hK => ?_)
              go_simp
              have G4 := G3.new 40 #[.int .i64 0, .int .i64 0] (n := wb3.heap.size) (by simp)
              have s4_0 : World.cell? _ ⟨w.heap.size, 0, none⟩ = some (.slice (some ⟨x, ox, none⟩) b.accs.length c) := (G4.at 2 rfl : Bk _ w.heap.size 25 #[.slice (some ⟨x, ox, none⟩) b.accs.length c, .slice a' b.mvs.length c']).cell 0
              have s4_1 : World.cell? _ ⟨w.heap.size, 1, none⟩ = some (.slice a' b.mvs.length c') := (G4.at 2 rfl : Bk _ w.heap.size 25 #[.slice (some ⟨x, ox, none⟩) b.accs.length c, .slice a' b.mvs.length c']).cell 1
              refine ru_back hK (by exact ⟨s4_0, s4_1⟩) (fun hHeld => ?_)
              clear hK K
              (try simp only [Act.put, List.setIfInBounds_toArray, List.set_cons_zero, List.set_cons_succ])
              clear s4_0 s4_1
              refine ru_one 8 rfl (by kernel_rfl) (fun K hK => ?_)
              have k5 : Bk _ w1.heap.size 40 #[.int .i64 0, .int .i64 0] := G4.at 1 rfl
              have c5 := k5.c2
              have l5 := k5.lt
              go_simp
              clear c5 l5 k5
              have G5 := ((G4.front 1 rfl rfl).set 0 (.int .i64 (inS b s (-1)).lo)).set 1 (.int .i64 (inS b s (-1)).hi)
              have s5_0 : World.cell? _ ⟨w.heap.size, 0, none⟩ = some (.slice (some ⟨x, ox, none⟩) b.accs.length c) := (G5.at 2 rfl : Bk _ w.heap.size 25 #[.slice (some ⟨x, ox, none⟩) b.accs.length c, .slice a' b.mvs.length c']).cell 0
              have s5_1 : World.cell? _ ⟨w.heap.size, 1, none⟩ = some (.slice a' b.mvs.length c') := (G5.at 2 rfl : Bk _ w.heap.size 25 #[.slice (some ⟨x, ox, none⟩) b.accs.length c, .slice a' b.mvs.length c']).cell 1
              refine ru_back hK (by exact ⟨s5_0, s5_1⟩) (fun hHeld => ?_)
              clear hK K
              (try simp only [Act.put, List.setIfInBounds_toArray, List.set_cons_zero, List.set_cons_succ])
              clear s5_0 s5_1
              refine ru_one 9 rfl (by kernel_rfl) (fun K hK => ?_)
              have k6 : Bk _ wb3.heap.size 40 #[.int .i64 0, .int .i64 0] := G5.at 1 rfl
              have c6 := k6.c2
              have l6 := k6.lt
              go_simp
              clear c6 l6 k6
              have G6 := ((G5.front 1 rfl rfl).set 0 (.int .i64 (outS b s (-1)).lo)).set 1 (.int .i64 (outS b s (-1)).hi)
              have s6_0 : World.cell? _ ⟨w.heap.size, 0, none⟩ = some (.slice (some ⟨x, ox, none⟩) b.accs.length c) := (G6.at 2 rfl : Bk _ w.heap.size 25 #[.slice (some ⟨x, ox, none⟩) b.accs.length c, .slice a' b.mvs.length c']).cell 0
              have s6_1 : World.cell? _ ⟨w.heap.size, 1, none⟩ = some (.slice a' b.mvs.length c') := (G6.at 2 rfl : Bk _ w.heap.size 25 #[.slice (some ⟨x, ox, none⟩) b.accs.length c, .slice a' b.mvs.length c']).cell 1
              refine ru_back_late hK (by kernel_rfl) ?_
              clear hK K
              (try simp only [Act.put, List.setIfInBounds_toArray, List.set_cons_zero, List.set_cons_succ])
              clear s6_0 s6_1
              refine ru_done (by kernel_rfl) ?_
              exact ⟨rfl, rfl, w1.heap.size, wb3.heap.size, rfl, rfl, rfl, rfl, G6.perm (List.Perm.swap _ _ _)⟩
            · intro K hK
              go_simp
              have G3 := G2.new 40 #[.int .i64 0, .int .i64 0] (n := wa2.heap.size) (by simp)
              have s3_0 : World.cell? _ ⟨w.heap.size, 0, none⟩ = some (.slice (some ⟨x, ox, none⟩) b.accs.length c) := (G3.at 2 rfl : Bk _ w.heap.size 25 #[.slice (some ⟨x, ox, none⟩) b.accs.length c, .slice a' b.mvs.length c']).cell 0
              have s3_1 : World.cell? _ ⟨w.heap.size, 1, none⟩ = some (.slice a' b.mvs.length c') := (G3.at 2 rfl : Bk _ w.heap.size 25 #[.slice (some ⟨x, ox, none⟩) b.accs.length c, .slice a' b.mvs.length c']).cell 1
              refine ru_back hK (by exact ⟨s3_0, s3_1⟩) (fun hHeld => ?_)
              clear hK K
              (try simp only [Act.put, List.setIfInBounds_toArray, List.set_cons_zero, List.set_cons_succ])
              clear s3_0 s3_1
              refine ru_one 5 rfl (by kernel_rfl) (fun K hK => ?_)
              go_simp
              refine (rout_c lo hi _ _ b s (-1) _ (G3.at 3 rfl : HasB lo hi _ (.slice (some ⟨x, ox, none⟩) b.accs.length c) (.slice a' b.mvs.length c') b) HOK.out (by first | omega | (simp; omega)) (by omega)).mono ?_
              rintro e wb4 ⟨rfl, hg4⟩
              have hz4 := hg4.size
              (try simp at hz4)
              simp only [Sp.v]
              have G4 := G3.gn hg4
              have s4_0 : World.cell? _ ⟨w.heap.size, 0, none⟩ = some (.slice (some ⟨x, ox, none⟩) b.accs.length c) := (G4.at 2 rfl : Bk _ w.heap.size 25 #[.slice (some ⟨x, ox, none⟩) b.accs.length c, .slice a' b.mvs.length c']).cell 0
              have s4_1 : World.cell? _ ⟨w.heap.size, 1, none⟩ = some (.slice a' b.mvs.length c') := (G4.at 2 rfl : Bk _ w.heap.size 25 #[.slice (some ⟨x, ox, none⟩) b.accs.length c, .slice a' b.mvs.length c']).cell 1
              refine ru_back hK (by exact ⟨s4_0, s4_1⟩) (fun hHeld => ?_)
              clear hK K
              (try simp only [Act.put, List.setIfInBounds_toArray, List.set_cons_zero, List.set_cons_succ])
              clear s4_0 s4_1
              refine ru_one 8 rfl (by kernel_rfl) (fun K hK => ?_)
              have k5 : Bk _ w1.heap.size 40 #[.int .i64 0, .int .i64 0] := G4.at 1 rfl
              have c5 := k5.c2
              have l5 := k5.lt
              go_simp
              clear c5 l5 k5
              have G5 := ((G4.front 1 rfl rfl).set 0 (.int .i64 (inS b s (-1)).lo)).set 1 (.int .i64 (inS b s (-1)).hi)
              have s5_0 : World.cell? _ ⟨w.heap.size, 0, none⟩ = some (.slice (some ⟨x, ox, none⟩) b.accs.length c) := (G5.at 2 rfl : Bk _ w.heap.size 25 #[.slice (some ⟨x, ox, none⟩) b.accs.length c, .slice a' b.mvs.length c']).cell 0
              have s5_1 : World.cell? _ ⟨w.heap.size, 1, none⟩ = some (.slice a' b.mvs.length c') := (G5.at 2 rfl : Bk _ w.heap.size 25 #[.slice (some ⟨x, ox, none⟩) b.accs.length c, .slice a' b.mvs.length c']).cell 1
              refine ru_back hK (by exact ⟨s5_0, s5_1⟩) (fun hHeld => ?_)
              clear hK K
              (try simp only [Act.put, List.setIfInBounds_toArray, List.set_cons_zero, List.set_cons_succ])
              clear s5_0 s5_1
              refine ru_one 9 rfl (by kernel_rfl) (fun K hK => ?_)
              have k6 : Bk _ wa2.heap.size 40 #[.int .i64 0, .int .i64 0] := G5.at 1 rfl
              have c6 := k6.c2
              have l6 := k6.lt
              go_simp
              clear c6 l6 k6
              have G6 := ((G5.front 1 rfl rfl).set 0 (.int .i64 (outS b s (-1)).lo)).set 1 (.int .i64 (outS b s (-1)).hi)
              have s6_0 : World.cell? _ ⟨w.heap.size, 0, none⟩ = some (.slice (some ⟨x, ox, none⟩) b.accs.length c) := (G6.at 2 rfl : Bk _ w.heap.size 25 #[.slice (some ⟨x, ox, none⟩) b.accs.length c, .slice a' b.mvs.length c']).cell 0
              have s6_1 : World.cell? _ ⟨w.heap.size, 1, none⟩ = some (.slice a' b.mvs.length c') := (G6.at 2 rfl : Bk _ w.heap.size 25 #[.slice (some ⟨x, ox, none⟩) b.accs.length c, .slice a' b.mvs.length c']).cell 1
              refine ru_back_late hK (by kernel_rfl) ?_
              clear hK K
              (try simp only [Act.put, List.setIfInBounds_toArray, List.set_cons_zero, List.set_cons_succ])
              clear s6_0 s6_1
              refine ru_done (by kernel_rfl) ?_
              exact ⟨rfl, rfl, w1.heap.size, wa2.heap.size, rfl, rfl, rfl, rfl, G6.perm (List.Perm.swap _ _ _)⟩
          · intro K hK
            go_simp
            have G2 := G1.new 40 #[.int .i64 0, .int .i64 0] (n := (w1.heap.size + 1)) (by simp)
            have s2_0 : World.cell? _ ⟨w.heap.size, 0, none⟩ = some (.slice (some ⟨x, ox, none⟩) b.accs.length c) := (G2.at 2 rfl : Bk _ w.heap.size 25 #[.slice (some ⟨x, ox, none⟩) b.accs.length c, .slice a' b.mvs.length c']).cell 0
            have s2_1 : World.cell? _ ⟨w.heap.size, 1, none⟩ = some (.slice a' b.mvs.length c') := (G2.at 2 rfl : Bk _ w.heap.size 25 #[.slice (some ⟨x, ox, none⟩) b.accs.length c, .slice a' b.mvs.length c']).cell 1
            refine ru_back hK (by exact ⟨s2_0, s2_1⟩) (fun hHeld => ?_)
            clear hK K
            (try simp only [Act.put, List.setIfInBounds_toArray, List.set_cons_zero, List.set_cons_succ])
            clear s2_0 s2_1
            refine ru_one 2 rfl (by kernel_rfl) (fun K hK => ?_)
            go_simp
            refine (rin_c lo hi _ _ b s (-1) _ (G2.at 3 rfl : HasB lo hi _ (.slice (some ⟨x, ox, none⟩) b.accs.length c) (.slice a' b.mvs.length c') b) HOK.out (by first | omega | (simp; omega)) (by omega)).mono ?_
            rintro e wa3 ⟨rfl, hg3⟩
            have hz3 := hg3.size
            (try simp at hz3)
            simp only [Sp.v]
            have G3 := G2.gn hg3
            have s3_0 : World.cell? _ ⟨w.heap.size, 0, none⟩ = some (.slice (some ⟨x, ox, none⟩) b.accs.length c) := (G3.at 2 rfl : Bk _ w.heap.size 25 #[.slice (some ⟨x, ox, none⟩) b.accs.length c, .slice a' b.mvs.length c']).cell 0
            have s3_1 : World.cell? _ ⟨w.heap.size, 1, none⟩ = some (.slice a' b.mvs.length c') := (G3.at 2 rfl : Bk _ w.heap.size 25 #[.slice (some ⟨x, ox, none⟩) b.accs.length c, .slice a' b.mvs.length c']).cell 1
            refine ru_back hK (by exact ⟨s3_0, s3_1⟩) (fun hHeld => ?_)
            clear hK K
            (try simp only [Act.put, List.setIfInBounds_toArray, List.set_cons_zero, List.set_cons_succ])
            clear s3_0 s3_1
            refine ru_one 5 rfl (by kernel_rfl) (fun K hK => ?_)
            go_simp
            refine (rout_c lo hi _ _ b s (-1) _ (G3.at 3 rfl : HasB lo hi _ (.slice (some ⟨x, ox, none⟩) b.accs.length c) (.slice a' b.mvs.length c') b) HOK.out (by first | omega | (simp; omega)) (by omega)).mono ?_
            rintro e wb4 ⟨rfl, hg4⟩
            have hz4 := hg4.size
            (try simp at hz4)
            simp only [Sp.v]
            have G4 := G3.gn hg4
            have s4_0 : World.cell? _ ⟨w.heap.size, 0, none⟩ = some (.slice (some ⟨x, ox, none⟩) b.accs.length c) := (G4.at 2 rfl : Bk _ w.heap.size 25 #[.slice (some ⟨x, ox, none⟩) b.accs.length c, .slice a' b.mvs.length c']).cell 0
            have s4_1 : World.cell? _ ⟨w.heap.size, 1, none⟩ = some (.slice a' b.mvs.length c') := (G4.at 2 rfl : Bk _ w.heap.size 25 #[.slice (some ⟨x, ox, none⟩) b.accs.length c, .slice a' b.mvs.length c']).cell 1
            refine ru_back hK (by exact ⟨s4_0, s4_1⟩) (fun hHeld => ?_)
            clear hK K
            (try simp only [Act.put, List.setIfInBounds_toArray, List.set_cons_zero, List.set_cons_succ])
            clear s4_0 s4_1
            refine ru_one 8 rfl (by kernel_rfl) (fun K hK => ?_)
            have k5 : Bk _ w1.heap.size 40 #[.int .i64 0, .int .i64 0] := G4.at 1 rfl
            have c5 := k5.c2
            have l5 := k5.lt
            go_simp
            clear c5 l5 k5
            have G5 := ((G4.front 1 rfl rfl).set 0 (.int .i64 (inS b s (-1)).lo)).set 1 (.int .i64 (inS b s (-1)).hi)
            have s5_0 : World.cell? _ ⟨w.heap.size, 0, none⟩ = some (.slice (some ⟨x, ox, none⟩) b.accs.length c) := (G5.at 2 rfl : Bk _ w.heap.size 25 #[.slice (some ⟨x, ox, none⟩) b.accs.length c, .slice a' b.mvs.length c']).cell 0
            have s5_1 : World.cell? _ ⟨w.heap.size, 1, none⟩ = some (.slice a' b.mvs.length c') := (G5.at 2 rfl : Bk _ w.heap.size 25 #[.slice (some ⟨x, ox, none⟩) b.accs.length c, .slice a' b.mvs.length c']).cell 1
            refine ru_back hK (by exact ⟨s5_0, s5_1⟩) (fun hHeld => ?_)
            clear hK K
            (try simp only [Act.put, List.setIfInBounds_toArray, List.set_cons_zero, List.set_cons_succ])
            clear s5_0 s5_1
            refine ru_one 9 rfl (by kernel_rfl) (fun K hK => ?_)
            have k6 : Bk _ (w1.heap.size + 1) 40 #[.int .i64 0, .int .i64 0] := G5.at 1 rfl
            have c6 := k6.c2
            have l6 := k6.lt
            go_simp
            clear c6 l6 k6
            have G6 := ((G5.front 1 rfl rfl).set 0 (.int .i64 (outS b s (-1)).lo)).set 1 (.int .i64 (outS b s (-1)).hi)
            have s6_0 : World.cell? _ ⟨w.heap.size, 0, none⟩ = some (.slice (some ⟨x, ox, none⟩) b.accs.length c) := (G6.at 2 rfl : Bk _ w.heap.size 25 #[.slice (some ⟨x, ox, none⟩) b.accs.length c, .slice a' b.mvs.length c']).cell 0
            have s6_1 : World.cell? _ ⟨w.heap.size, 1, none⟩ = some (.slice a' b.mvs.length c') := (G6.at 2 rfl : Bk _ w.heap.size 25 #[.slice (some ⟨x, ox, none⟩) b.accs.length c, .slice a' b.mvs.length c']).cell 1
            refine ru_back_late hK (by kernel_rfl) ?_
            clear hK K
            (try simp only [Act.put, List.setIfInBounds_toArray, List.set_cons_zero, List.set_cons_succ])
            clear s6_0 s6_1
            refine ru_done (by kernel_rfl) ?_
            exact ⟨rfl, rfl, w1.heap.size, (w1.heap.size + 1), rfl, rfl, rfl, rfl, G6.perm (List.Perm.swap _ _ _)⟩
        · intro K hK
          go_simp
          have G1 := FD.new 40 #[.int .i64 0, .int .i64 0] (n := w1.heap.size) (by simp)
          have s1_0 : World.cell? _ ⟨w.heap.size, 0, none⟩ = some (.slice (some ⟨x, ox, none⟩) b.accs.length c) := (G1.at 1 rfl : Bk _ w.heap.size 25 #[.slice (some ⟨x, ox, none⟩) b.accs.length c, .slice a' b.mvs.length c']).cell 0
          have s1_1 : World.cell? _ ⟨w.heap.size, 1, none⟩ = some (.slice a' b.mvs.length c') := (G1.at 1 rfl : Bk _ w.heap.size 25 #[.slice (some ⟨x, ox, none⟩) b.accs.length c, .slice a' b.mvs.length c']).cell 1
          refine ru_back hK (by exact ⟨s1_0, s1_1⟩) (fun hHeld => ?_)
          clear hK K
          (try simp only [Act.put, List.setIfInBounds_toArray, List.set_cons_zero, List.set_cons_succ])
          clear s1_0 s1_1
          refine ru_two 2 6 rfl rfl (by kernel_rfl) ?_ ?_
          · intro K hK
            go_simp
            refine (rin_c lo hi _ _ b s (-1) _ (G1.at 2 rfl : HasB lo hi _ (.slice (some ⟨x, ox, none⟩) b.accs.length c) (.slice a' b.mvs.length c') b) HOK.out (by first | omega | (simp; omega)) (by omega)).mono ?_
            rintro e wa2 ⟨rfl, hg2⟩
            have hz2 := hg2.size
            (try simp at hz2)
            simp only [Sp.v]
            have G2 := G1.gn hg2
            have s2_0 : World.cell? _ ⟨w.heap.size, 0, none⟩ = some (.slice (some ⟨x, ox, none⟩) b.accs.length c) := (G2.at 1 rfl : Bk _ w.heap.size 25 #[.slice (some ⟨x, ox, none⟩) b.accs.length c, .slice a' b.mvs.length c']).cell 0
            have s2_1 : World.cell? _ ⟨w.heap.size, 1, none⟩ = some (.slice a' b.mvs.length c') := (G2.at 1 rfl : Bk _ w.heap.size 25 #[.slice (some ⟨x, ox, none⟩) b.accs.length c, .slice a' b.mvs.length c']).cell 1
            refine ru_back hK (by exact ⟨s2_0, s2_1⟩) (fun hHeld => ?_)
            clear hK K
            (try simp only [Act.put, List.setIfInBounds_toArray, List.set_cons_zero, List.set_cons_succ])
            clear s2_0 s2_1
            refine ru_two 5 6 rfl rfl (by kernel_rfl) ?_ ?_
            · intro K hK
              go_simp
              refine (rout_c lo hi _ _ b s (-1) _ (G2.at 2 rfl : HasB lo hi _ (.slice (some ⟨x, ox, none⟩) b.accs.length c) (.slice a' b.mvs.length c') b) HOK.out (by first | omega | (simp; omega)) (by omega)).mono ?_
              rintro e wb3 ⟨rfl, hg3⟩
              have hz3 := hg3.size
              (try simp at hz3)
              simp only [Sp.v]
              have G3 := G2.gn hg3
              have s3_0 : World.cell? _ ⟨w.heap.size, 0, none⟩ = some (.slice (some ⟨x, ox, none⟩) b.accs.length c) := (G3.at 1 rfl : Bk _ w.heap.size 25 #[.slice (some ⟨x, ox, none⟩) b.accs.length c, .slice a' b.mvs.length c']).cell 0
              have s3_1 : World.cell? _ ⟨w.heap.size, 1, none⟩ = some (.slice a' b.mvs.length c') := (G3.at 1 rfl : Bk _ w.heap.size 25 #[.slice (some ⟨x, ox, none⟩) b.accs.length c, .slice a' b.mvs.length c']).cell 1
              refine ru_back hK (by exact ⟨s3_0, s3_1⟩) (fun hHeld => ?_)
              clear hK K
              (try simp only [Act.put, List.setIfInBounds_toArray, List.set_cons_zero, List.set_cons_succ])
              clear s3_0 s3_1
              refine ru_one 6 rfl (by kernel_rfl) (fun K hK => ?_)
              go_simp
              have G4 := G3.new 40 #[.int .i64 0, .int .i64 0] (n := wb3.heap.size) (by simp)
              have s4_0 : World.cell? _ ⟨w.heap.size, 0, none⟩ = some (.slice (some ⟨x, ox, none⟩) b.accs.length c) := (G4.at 2 rfl : Bk _ w.heap.size 25 #[.slice (some ⟨x, ox, none⟩) b.accs.length c, .slice a' b.mvs.length c']).cell 0
              have s4_1 : World.cell? _ ⟨w.heap.size, 1, none⟩ = some (.slice a' b.mvs.length c') := (G4.at 2 rfl : Bk _ w.heap.size 25 #[.slice (some ⟨x, ox, none⟩) b.accs.length c, .slice a' b.mvs.length c']).cell 1
              refine ru_back hK (by exact ⟨s4_0, s4_1⟩) (fun hHeld => ?_)
              clear hK K
              (try simp only [Act.put, List.setIfInBounds_toArray, List.set_cons_zero, List.set_cons_succ])
              clear s4_0 s4_1
              refine ru_one 8 rfl (by kernel_rfl) (fun K hK => ?_)
              have k5 : Bk _ wb3.heap.size 40 #[.int .i64 0, .int .i64 0] := G4.at 0 rfl
              have c5 := k5.c2
              have l5 := k5.lt
              go_simp
              clear c5 l5 k5
              have G5 := (G3.new 40 #[.int .i64 (inS b s (-1)).lo, .int .i64 (inS b s (-1)).hi] (n := wb3.heap.size) (by simp))
              have s5_0 : World.cell? _ ⟨w.heap.size, 0, none⟩ = some (.slice (some ⟨x, ox, none⟩) b.accs.length c) := (G5.at 2 rfl : Bk _ w.heap.size 25 #[.slice (some ⟨x, ox, none⟩) b.accs.length c, .slice a' b.mvs.length c']).cell 0
              have s5_1 : World.cell? _ ⟨w.heap.size, 1, none⟩ = some (.slice a' b.mvs.length c') := (G5.at 2 rfl : Bk _ w.heap.size 25 #[.slice (some ⟨x, ox, none⟩) b.accs.length c, .slice a' b.mvs.length c']).cell 1
              refine ru_back hK (by exact ⟨s5_0, s5_1⟩) (fun hHeld => ?_)
              clear hK K
              (try simp only [Act.put, List.setIfInBounds_toArray, List.set_cons_zero, List.set_cons_succ])
              clear s5_0 s5_1
              refine ru_one 9 rfl (by kernel_rfl) (fun K hK => ?_)
              have k6 : Bk _ w1.heap.size 40 #[.int .i64 0, .int .i64 0] := G5.at 1 rfl
              have c6 := k6.c2
              have l6 := k6.lt
              go_simp
              clear c6 l6 k6
              have G6 := ((G5.front 1 rfl rfl).set 0 (.int .i64 (outS b s (-1)).lo)).set 1 (.int .i64 (outS b s (-1)).hi)
              have s6_0 : World.cell? _ ⟨w.heap.size, 0, none⟩ = some (.slice (some ⟨x, ox, none⟩) b.accs.length c) := (G6.at 2 rfl : Bk _ w.heap.size 25 #[.slice (some ⟨x, ox, none⟩) b.accs.length c, .slice a' b.mvs.length c']).cell 0
              have s6_1 : World.cell? _ ⟨w.heap.size, 1, none⟩ = some (.slice a' b.mvs.length c') := (G6.at 2 rfl : Bk _ w.heap.size 25 #[.slice (some ⟨x, ox, none⟩) b.accs.length c, .slice a' b.mvs.length c']).cell 1
              refine ru_back_late hK (by kernel_rfl) ?_
              clear hK K
              (try simp only [Act.put, List.setIfInBounds_toArray, List.set_cons_zero, List.set_cons_succ])
              clear s6_0 s6_1
              refine ru_done (by kernel_rfl) ?_
              exact ⟨rfl, rfl, wb3.heap.size, w1.heap.size, rfl, rfl, rfl, rfl, G6.perm (List.Perm.swap _ _ _)⟩
            · intro K hK
              go_simp
              have G3 := G2.new 40 #[.int .i64 0, .int .i64 0] (n := wa2.heap.size) (by simp)
              have s3_0 : World.cell? _ ⟨w.heap.size, 0, none⟩ = some (.slice (some ⟨x, ox, none⟩) b.accs.length c) := (G3.at 2 rfl : Bk _ w.heap.size 25 #[.slice (some ⟨x, ox, none⟩) b.accs.length c, .slice a' b.mvs.length c']).cell 0
              have s3_1 : World.cell? _ ⟨w.heap.size, 1, none⟩ = some (.slice a' b.mvs.length c') := (G3.at 2 rfl : Bk _ w.heap.size 25 #[.slice (some ⟨x, ox, none⟩) b.accs.length c, .slice a' b.mvs.length c']).cell 1
              refine ru_back hK (by exact ⟨s3_0, s3_1⟩) (fun hHeld => ?_)
              clear hK K
              (try simp only [Act.put, List.setIfInBounds_toArray, List.set_cons_zero, List.set_cons_succ])
              clear s3_0 s3_1
              refine ru_one 5 rfl (by kernel_rfl) (fun K hK => ?_)
              go_simp
              refine (rout_c lo hi _ _ b s (-1) _ (G3.at 3 rfl : HasB lo hi _ (.slice (some ⟨x, ox, none⟩) b.accs.length c) (.slice a' b.mvs.length c') b) HOK.out (by first | omega | (simp; omega)) (by omega)).mono ?_
              rintro e wb4 ⟨rfl, hg4⟩
              have hz4 := hg4.size
              (try simp at hz4)
              simp only [Sp.v]
              have G4 := G3.gn hg4
              have s4_0 : World.cell? _ ⟨w.heap.size, 0, none⟩ = some (.slice (some ⟨x, ox, none⟩) b.accs.length c) := (G4.at 2 rfl : Bk _ w.heap.size 25 #[.slice (some ⟨x, ox, none⟩) b.accs.length c, .slice a' b.mvs.length c']).cell 0
              have s4_1 : World.cell? _ ⟨w.heap.size, 1, none⟩ = some (.slice a' b.mvs.length c') := (G4.at 2 rfl : Bk _ w.heap.size 25 #[.slice (some ⟨x, ox, none⟩) b.accs.length c, .slice a' b.mvs.length c']).cell 1
              refine ru_back hK (by exact ⟨s4_0, s4_1⟩) (fun hHeld => ?_)
              clear hK K
              (try simp only [Act.put, List.setIfInBounds_toArray, List.set_cons_zero, List.set_cons_succ])
              clear s4_0 s4_1
              refine ru_one 8 rfl (by kernel_rfl) (fun K hK => ?_)
              have k5 : Bk _ wa2.heap.size 40 #[.int .i64 0, .int .i64 0] := G4.at 0 rfl
              have c5 := k5.c2
              have l5 := k5.lt
              go_simp
              clear c5 l5 k5
              have G5 := (G4.set 0 (.int .i64 (inS b s (-1)).lo)).set 1 (.int .i64 (inS b s (-1)).hi)
              have s5_0 : World.cell? _ ⟨w.heap.size, 0, none⟩ = some (.slice (some ⟨x, ox, none⟩) b.accs.length c) := (G5.at 2 rfl : Bk _ w.heap.size 25 #[.slice (some ⟨x, ox, none⟩) b.accs.length c, .slice a' b.mvs.length c']).cell 0
              have s5_1 : World.cell? _ ⟨w.heap.size, 1, none⟩ = some (.slice a' b.mvs.length c') := (G5.at 2 rfl : Bk _ w.heap.size 25 #[.slice (some ⟨x, ox, none⟩) b.accs.length c, .slice a' b.mvs.length c']).cell 1
              refine ru_back hK (by exact ⟨s5_0, s5_1⟩) (fun hHeld => ?_)
              clear hK K
              (try simp only [Act.put, List.setIfInBounds_toArray, List.set_cons_zero, List.set_cons_succ])
              clear s5_0 s5_1
              refine ru_one 9 rfl (by kernel_rfl) (fun K hK => ?_)
              have k6 : Bk _ w1.heap.size 40 #[.int .i64 0, .int .i64 0] := G5.at 1 rfl
              have c6 := k6.c2
              have l6 := k6.lt
              go_simp
              clear c6 l6 k6
              have G6 := ((G5.front 1 rfl rfl).set 0 (.int .i64 (outS b s (-1)).lo)).set 1 (.int .i64 (outS b s (-1)).hi)
              have s6_0 : World.cell? _ ⟨w.heap.size, 0, none⟩ = some (.slice (some ⟨x, ox, none⟩) b.accs.length c) := (G6.at 2 rfl : Bk _ w.heap.size 25 #[.slice (some ⟨x, ox, none⟩) b.accs.length c, .slice a' b.mvs.length c']).cell 0
              have s6_1 : World.cell? _ ⟨w.heap.size, 1, none⟩ = some (.slice a' b.mvs.length c') := (G6.at 2 rfl : Bk _ w.heap.size 25 #[.slice (some ⟨x, ox, none⟩) b.accs.length c, .slice a' b.mvs.length c']).cell 1
              refine ru_back_late hK (by kernel_rfl) ?_
              clear hK K
              (try simp only [Act.put, List.setIfInBounds_toArray, List.set_cons_zero, List.set_cons_succ])
              clear s6_0 s6_1
              refine ru_done (by kernel_rfl) ?_
              exact ⟨rfl, rfl, wa2.heap.size, w1.heap.size, rfl, rfl, rfl, rfl, G6.perm (List.Perm.swap _ _ _)⟩
          · intro K hK
            go_simp
            have G2 := G1.new 40 #[.int .i64 0, .int .i64 0] (n := (w1.heap.size + 1)) (by simp)
            have s2_0 : World.cell? _ ⟨w.heap.size, 0, none⟩ = some (.slice (some ⟨x, ox, none⟩) b.accs.length c) := (G2.at 2 rfl : Bk _ w.heap.size 25 #[.slice (some ⟨x, ox, none⟩) b.accs.length c, .slice a' b.mvs.length c']).cell 0
            have s2_1 : World.cell? _ ⟨w.heap.size, 1, none⟩ = some (.slice a' b.mvs.length c') := (G2.at 2 rfl : Bk _ w.heap.size 25 #[.slice (some ⟨x, ox, none⟩) b.accs.length c, .slice a' b.mvs.length c']).cell 1
            refine ru_back hK (by exact ⟨s2_0, s2_1⟩) (fun hHeld => ?_)
            clear hK K
            (try simp only [Act.put, List.setIfInBounds_toArray, List.set_cons_zero, List.set_cons_succ])
            clear s2_0 s2_1
            refine ru_one 2 rfl (by kernel_rfl) (fun K hK => ?_)
            go_simp
            refine (rin_c lo hi _ _ b s (-1) _ (G2.at 3 rfl : HasB lo hi _ (.slice (some ⟨x, ox, none⟩) b.accs.length c) (.slice a' b.mvs.length c') b) HOK.out (by first | omega | (simp; omega)) (by omega)).mono ?_
            rintro e wa3 ⟨rfl, hg3⟩
            have hz3 := hg3.size
            (try simp at hz3)
            simp only [Sp.v]
            have G3 := G2.gn hg3
            have s3_0 : World.cell? _ ⟨w.heap.size, 0, none⟩ = some (.slice (some ⟨x, ox, none⟩) b.accs.length c) := (G3.at 2 rfl : Bk _ w.heap.size 25 #[.slice (some ⟨x, ox, none⟩) b.accs.length c, .slice a' b.mvs.length c']).cell 0
            have s3_1 : World.cell? _ ⟨w.heap.size, 1, none⟩ = some (.slice a' b.mvs.length c') := (G3.at 2 rfl : Bk _ w.heap.size 25 #[.slice (some ⟨x, ox, none⟩) b.accs.length c, .slice a' b.mvs.length c']).cell 1
            refine ru_back hK (by exact ⟨s3_0, s3_1⟩) (fun hHeld => ?_)
            clear hK K
            (try simp only [Act.put, List.setIfInBounds_toArray, List.set_cons_zero, List.set_cons_succ])
            clear s3_0 s3_1
            refine ru_one 5 rfl (by kernel_rfl) (fun K hK => ?_)
            go_simp
            refine (rout_c lo hi _ _ b s (-1) _ (G3.at 3 rfl : HasB lo hi _ (.slice (some ⟨x, ox, none⟩) b.accs.length c) (.slice a' b.mvs.length c') b) HOK.out (by first | omega | (simp; omega)) (by omega)).mono ?_
            rintro e wb4 ⟨rfl, hg4⟩
            have hz4 := hg4.size
            (try simp at hz4)
            simp only [Sp.v]
            have G4 := G3.gn hg4
            have s4_0 : World.cell? _ ⟨w.heap.size, 0, none⟩ = some (.slice (some ⟨x, ox, none⟩) b.accs.length c) := (G4.at 2 rfl : Bk _ w.heap.size 25 #[.slice (some ⟨x, ox, none⟩) b.accs.length c, .slice a' b.mvs.length c']).cell 0
            have s4_1 : World.cell? _ ⟨w.heap.size, 1, none⟩ = some (.slice a' b.mvs.length c') := (G4.at 2 rfl : Bk _ w.heap.size 25 #[.slice (some ⟨x, ox, none⟩) b.accs.length c, .slice a' b.mvs.length c']).cell 1
            refine ru_back hK (by exact ⟨s4_0, s4_1⟩) (fun hHeld => ?_)
            clear hK K
            (try simp only [Act.put, List.setIfInBounds_toArray, List.set_cons_zero, List.set_cons_succ])
            clear s4_0 s4_1
            refine ru_one 8 rfl (by kernel_rfl) (fun K hK => ?_)
            have k5 : Bk _ (w1.heap.size + 1) 40 #[.int .i64 0, .int .i64 0] := G4.at 0 rfl
            have c5 := k5.c2
            have l5 := k5.lt
            go_simp
            clear c5 l5 k5
            have G5 := (G4.set 0 (.int .i64 (inS b s (-1)).lo)).set 1 (.int .i64 (inS b s (-1)).hi)
            have s5_0 : World.cell? _ ⟨w.heap.size, 0, none⟩ = some (.slice (some ⟨x, ox, none⟩) b.accs.length c) := (G5.at 2 rfl : Bk _ w.heap.size 25 #[.slice (some ⟨x, ox, none⟩) b.accs.length c, .slice a' b.mvs.length c']).cell 0
            have s5_1 : World.cell? _ ⟨w.heap.size, 1, none⟩ = some (.slice a' b.mvs.length c') := (G5.at 2 rfl : Bk _ w.heap.size 25 #[.slice (some ⟨x, ox, none⟩) b.accs.length c, .slice a' b.mvs.length c']).cell 1
            refine ru_back hK (by exact ⟨s5_0, s5_1⟩) (fun hHeld => ?_)
            clear hK K
            (try simp only [Act.put, List.setIfInBounds_toArray, List.set_cons_zero, List.set_cons_succ])
            clear s5_0 s5_1
            refine ru_one 9 rfl (by kernel_rfl) (fun K hK => ?_)
            have k6 : Bk _ w1.heap.size 40 #[.int .i64 0, .int .i64 0] := G5.at 1 rfl
            have c6 := k6.c2
            have l6 := k6.lt
            go_simp
            clear c6 l6 k6
            have G6 := ((G5.front 1 rfl rfl).set 0 (.int .i64 (outS b s (-1)).lo)).set 1 (.int .i64 (outS b s (-1)).hi)
            have s6_0 : World.cell? _ ⟨w.heap.size, 0, none⟩ = some (.slice (some ⟨x, ox, none⟩) b.accs.length c) := (G6.at 2 rfl : Bk _ w.heap.size 25 #[.slice (some ⟨x, ox, none⟩) b.accs.length c, .slice a' b.mvs.length c']).cell 0
            have s6_1 : World.cell? _ ⟨w.heap.size, 1, none⟩ = some (.slice a' b.mvs.length c') := (G6.at 2 rfl : Bk _ w.heap.size 25 #[.slice (some ⟨x, ox, none⟩) b.accs.length c, .slice a' b.mvs.length c']).cell 1
            refine ru_back_late hK (by kernel_rfl) ?_
            clear hK K
            (try simp only [Act.put, List.setIfInBounds_toArray, List.set_cons_zero, List.set_cons_succ])
            clear s6_0 s6_1
            refine ru_done (by kernel_rfl) ?_
            exact ⟨rfl, rfl, (w1.heap.size + 1), w1.heap.size, rfl, rfl, rfl, rfl, G6.perm (List.Perm.swap _ _ _)⟩
    · obtain rfl : s = P := by omega
      have b101 : Bk _ w.heap.size 25 #[.slice (some ⟨x, ox, none⟩) b.accs.length c, .slice a' b.mvs.length c'] := F9.at 0 rfl
      have l102 := b101.lt
      have q103 : World.cell? _ ⟨w.heap.size, 0, none⟩ = some (.slice (some ⟨x, ox, none⟩) b.accs.length c) := b101.cell 0
      have z104 := b101.frozen 0
      have q105 : World.cell? _ ⟨w.heap.size, 1, none⟩ = some (.slice a' b.mvs.length c') := b101.cell 1
      have z106 := b101.frozen 1
      go_wp2_with fail
      go_ret
      exact ⟨true, rfl, ⟨fun _ => (by rw [HP.out]; exact HC.out), fun _ => rfl⟩, F9.gb⟩
  case atStart1 =>
    exact Lib.hid ⟨1, rfl, rfl, Nat.le_refl _, Nat.one_le_two_pow, rfl, calm_one b, F2⟩
end Go.Proofs.Ytfifldbinnkdmaa
