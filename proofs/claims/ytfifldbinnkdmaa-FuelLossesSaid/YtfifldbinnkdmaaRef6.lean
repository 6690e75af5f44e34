/- The reference: what an account loses. -/
import Derived.Test.YtfifldbinnkdmaaRef5
import Derived.Lib.MinMax
set_option linter.unusedVariables false
set_option linter.unusedSimpArgs false
set_option linter.unnecessarySimpa false
namespace Go.Proofs.Ytfifldbinnkdmaa
open Go.RowKit Go.Shelf
set_option maxRecDepth 100000

theorem most_bd {b : Bok} (h : BokOk b) {s : Nat} (hc : clash (grp b s) = false) : 0 ≤ (grp b s).most ∧ (grp b s).most ≤ 40000000000 := by
  have h1 := (grp_bd h s).2.2
  simp [clash] at hc
  omega
/-- An end that has not been met yet is -1. -/
def neg1 (z : Int) : Int := if z = 1125899906842624 then -1 else z
def lostR (b : Bok) (a i : Nat) : Sp := ⟨(accF b a i).lo, neg1 (accF b a i).hi⟩
theorem accF_bd {b : Bok} (h : BokOk b) (a : Nat) : ∀ i, calm b i → ((0 ≤ (accF b a i).lo ∧ (accF b a i).lo ≤ 40000000000) ∧ 0 ≤ (accF b a i).hi) ∧ ((accF b a i).hi = 1125899906842624 ∨ (accF b a i).hi ≤ 40000000000) := by
  intro i
  induction i with
  | zero => intro _; simp [accF]
  | succ i ih =>
    intro hc
    have a1 := ih (fun j hj => hc j (by omega))
    have a2 := most_bd h (hc i (by omega))
    have a3 := (grp_bd h i).1
    unfold accF
    split
    · refine ⟨⟨?_, ?_⟩, ?_⟩
      · dsimp only; split <;> omega
      · dsimp only; omega
      · dsimp only; omega
    · exact a1
theorem lostR_no {b : Bok} {a i : Nat} (h : i.testBit a = false) : lostR b a (i + 1) = lostR b a i := by
  unfold lostR
  rw [show accF b a (i + 1) = accF b a i from by rw [accF, if_neg (by simp [h])]]
theorem lostR_yes {b : Bok} (hok : BokOk b) {a i : Nat} (hc : calm b i) (hi : clash (grp b i) = false) (h : i.testBit a = true) :
    lostR b a (i + 1) = ⟨if losesB b i a = false then max (lostR b a i).lo (grp b i).least else (lostR b a i).lo, if (lostR b a i).hi < 0 ∨ (grp b i).most < (lostR b a i).hi then (grp b i).most else (lostR b a i).hi⟩ := by
  have a1 := accF_bd hok a i hc
  have a2 := most_bd hok hi
  have a3 := oth_loses hok a i b.accs.length (Nat.le_refl _)
  unfold lostR
  rw [accF, if_pos h, a3]
  generalize accF b a i = z at *
  obtain ⟨zl, zh⟩ := z
  simp only at *
  have e : (!losesF b i a b.accs.length) = !losesB b i a := rfl
  rw [e]
  cases losesB b i a
  · simp only [Bool.not_false, if_true, Sp.mk.injEq, true_and]
    unfold neg1
    repeat' split
    all_goals omega
  · simp only [Bool.not_true, if_false, Sp.mk.injEq, Bool.false_eq_true, Bool.true_eq_false, true_and]
    unfold neg1
    repeat' split
    all_goals omega
theorem lostR_bd {b : Bok} (h : BokOk b) {a i : Nat} (hc : calm b i) : (0 ≤ (lostR b a i).lo ∧ (lostR b a i).lo ≤ 40000000000) ∧ -1 ≤ (lostR b a i).hi ∧ (lostR b a i).hi ≤ 40000000000 := by
  have a1 := accF_bd h a i hc
  unfold lostR neg1
  dsimp only
  split <;> omega
theorem accF_mono {b : Bok} {a : Nat} : ∀ k i, (accF b a (i + k)).hi ≤ (accF b a i).hi := by
  intro k
  induction k with
  | zero => intro i; exact Int.le_refl _
  | succ k ih =>
    intro i
    have := ih i
    rw [← Nat.add_assoc, accF]
    split
    · dsimp only; omega
    · exact this
theorem lostR_end {b : Bok} (h : BokOk b) {a : Nat} (ha : a < b.accs.length) (hc : calm b (2 ^ b.accs.length)) : lostR b a (2 ^ b.accs.length) = accF b a (2 ^ b.accs.length) := by
  have hlt : 2 ^ a < 2 ^ b.accs.length := Nat.pow_lt_pow_right (by decide) ha
  have h1 := accF_mono (b := b) (a := a) (2 ^ b.accs.length - (2 ^ a + 1)) (2 ^ a + 1)
  rw [show 2 ^ a + 1 + (2 ^ b.accs.length - (2 ^ a + 1)) = 2 ^ b.accs.length by omega] at h1
  have h2 : (accF b a (2 ^ a + 1)).hi ≤ (grp b (2 ^ a)).most := by
    rw [accF, if_pos (by simp)]
    dsimp only
    omega
  have h3 := most_bd h (hc _ hlt)
  unfold lostR neg1
  rw [if_neg (by omega)]

set_option maxHeartbeats 8000000 in
theorem rlost_c (lo hi : Nat) (va vm : Value) (b : Bok) (k : Nat) (w : World) (hb : HasB lo hi w va vm b) (hok : BokOk b) (h2 : hi ≤ w.heap.size) (ha : k < b.accs.length) (hcalm : calm b (2 ^ b.accs.length)) :
    Calls Try.prog 71 #[.agg #[va, vm], .int .i64 k] w (Ret (lossA b k).v w) := by
  obtain ⟨x, ox, c, a', c', rfl, rfl⟩ := hb.valA hok.n0
  have hn8 := hok.n8
  have hp8 := pow_le hn8
  have HOK := Lib.hid hok
  have HCA := Lib.hid hcalm
  clear hok hcalm
  have F1 : Bun w [rbook lo hi (.slice (some ⟨x, ox, none⟩) b.accs.length c) (.slice a' b.mvs.length c') b] _ := Bun.book hb h2
  clear hb
  have hkk := (HOK.out.acc k ha).kind
  have HL := Lib.hid (show lossA b k = if (ga b.accs k).kind = 2 then ⟨0, 0⟩ else accF b k (2 ^ b.accs.length) from rfl)
  obtain ⟨kd, hkd0⟩ : ∃ kd, (ga b.accs k).kind = kd := ⟨_, rfl⟩
  rw [hkd0] at hkk HL
  have HK0 := Lib.hid hkd0
  clear hkd0
  by_cases hkd : kd = 2
  · subst hkd
    go_enter Try.func71, Try.ntmps71
    have F2 : Bun w [rbox w.heap.size 25 #[.slice (some ⟨x, ox, none⟩) b.accs.length c, .slice a' b.mvs.length c'], rbook lo hi (.slice (some ⟨x, ox, none⟩) b.accs.length c) (.slice a' b.mvs.length c') b] _ := F1.new 25 #[.slice (some ⟨x, ox, none⟩) b.accs.length c, .slice a' b.mvs.length c'] (n := w.heap.size) (by simp)
    clear F1
    have F3 : Bun w [rbox (w.heap.size + 1) 40 #[.int .i64 0, .int .i64 0], rbox w.heap.size 25 #[.slice (some ⟨x, ox, none⟩) b.accs.length c, .slice a' b.mvs.length c'], rbook lo hi (.slice (some ⟨x, ox, none⟩) b.accs.length c) (.slice a' b.mvs.length c') b] _ := F2.new 40 #[.int .i64 0, .int .i64 0] (n := (w.heap.size + 1)) (by simp)
    clear F2
    have hRS : Bk _ (w.heap.size + 1) 40 #[.int .i64 0, .int .i64 0] := F3.at 0 rfl
    have hrc := hRS.c2
    have g1 := (HasB.acc (F3.at 2 rfl : HasB lo hi _ (.slice (some ⟨x, ox, none⟩) b.accs.length c) (.slice a' b.mvs.length c') b) ha).2.1
    rw [HK0.out] at g1
    have b4 : Bk _ w.heap.size 25 #[.slice (some ⟨x, ox, none⟩) b.accs.length c, .slice a' b.mvs.length c'] := F3.at 1 rfl
    have l5 := b4.lt
    have q6 : World.cell? _ ⟨w.heap.size, 0, none⟩ = some (.slice (some ⟨x, ox, none⟩) b.accs.length c) := b4.cell 0
    have z7 := b4.frozen 0
    have q8 : World.cell? _ ⟨w.heap.size, 1, none⟩ = some (.slice a' b.mvs.length c') := b4.cell 1
    have z9 := b4.frozen 1
    go_wp2_with fail
    exact bodyPost_ret (v := .agg #[.int .i64 0, .int .i64 0]) (by simp [results, Try.results71, go_sem, hrc]) rfl ⟨by rw [HL.out]; rfl, F3.gb⟩
  have e0 : (kd == 2) = false := by simp [hkd]
  have HKD := Lib.hid hkd
  clear hkd
  go_enter Try.func71, Try.ntmps71
  have F10 : Bun w [rbox w.heap.size 25 #[.slice (some ⟨x, ox, none⟩) b.accs.length c, .slice a' b.mvs.length c'], rbook lo hi (.slice (some ⟨x, ox, none⟩) b.accs.length c) (.slice a' b.mvs.length c') b] _ := F1.new 25 #[.slice (some ⟨x, ox, none⟩) b.accs.length c, .slice a' b.mvs.length c'] (n := w.heap.size) (by simp)
  clear F1
  have F11 : Bun w [rbox (w.heap.size + 1) 40 #[.int .i64 0, .int .i64 0], rbox w.heap.size 25 #[.slice (some ⟨x, ox, none⟩) b.accs.length c, .slice a' b.mvs.length c'], rbook lo hi (.slice (some ⟨x, ox, none⟩) b.accs.length c) (.slice a' b.mvs.length c') b] _ := F10.new 40 #[.int .i64 0, .int .i64 0] (n := (w.heap.size + 1)) (by simp)
  clear F10
  have g1 := (HasB.acc (F11.at 2 rfl : HasB lo hi _ (.slice (some ⟨x, ox, none⟩) b.accs.length c) (.slice a' b.mvs.length c') b) ha).2.1
  rw [HK0.out] at g1
  have b12 : Bk _ w.heap.size 25 #[.slice (some ⟨x, ox, none⟩) b.accs.length c, .slice a' b.mvs.length c'] := F11.at 1 rfl
  have l13 := b12.lt
  have q14 : World.cell? _ ⟨w.heap.size, 0, none⟩ = some (.slice (some ⟨x, ox, none⟩) b.accs.length c) := b12.cell 0
  have z15 := b12.frozen 0
  have q16 : World.cell? _ ⟨w.heap.size, 1, none⟩ = some (.slice a' b.mvs.length c') := b12.cell 1
  have z17 := b12.frozen 1
  go_wp2_with fail
  clear b12 l13 q14 z15 q16 z17
  clear g1
  have F18 : Bun w [rbox (w.heap.size + 2) 40 #[.int .i64 0, .int .i64 (-1)], rbox (w.heap.size + 1) 40 #[.int .i64 0, .int .i64 0], rbox w.heap.size 25 #[.slice (some ⟨x, ox, none⟩) b.accs.length c, .slice a' b.mvs.length c'], rbook lo hi (.slice (some ⟨x, ox, none⟩) b.accs.length c) (.slice a' b.mvs.length c') b] _ := F11.new 40 #[.int .i64 0, .int .i64 (-1)] (n := (w.heap.size + 2)) (by simp)
  clear F11
  refine wp_loopS 68 rfl (fun t ds wr => Hid (∃ (s : Nat), t 1 = .int .i64 k ∧ t 2 = .pointer (some ⟨w.heap.size, 0, none⟩) ∧ t 4 = .pointer (some ⟨(w.heap.size + 1), 0, none⟩) ∧ t 5 = .pointer (some ⟨(w.heap.size + 2), 0, none⟩) ∧ t 6 = .int .i64 s ∧ 1 ≤ s ∧ s ≤ 2 ^ b.accs.length ∧ ds = [] ∧ Bun w [rbox (w.heap.size + 2) 40 #[.int .i64 (lostR b k s).lo, .int .i64 (lostR b k s).hi], rbox (w.heap.size + 1) 40 #[.int .i64 0, .int .i64 0], rbox w.heap.size 25 #[.slice (some ⟨x, ox, none⟩) b.accs.length c, .slice a' b.mvs.length c'], rbook lo hi (.slice (some ⟨x, ox, none⟩) b.accs.length c) (.slice a' b.mvs.length c') b] wr)) (fun t wr => 2 ^ b.accs.length - (intOf (t 6)).toNat) ?atStart28 ?round28
  case round28 =>
    intro t ds wr hHid
    obtain ⟨s, e1, e2, e4, e5, e6, hrel⟩ := hHid.out
    clear hHid
    have e : ((List.range 68).map t).toArray = #[t 0, t 1, t 2, t 3, t 4, t 5, t 6, t 7, t 8, t 9, t 10, t 11, t 12, t 13, t 14, t 15, t 16, t 17, t 18, t 19, t 20, t 21, t 22, t 23, t 24, t 25, t 26, t 27, t 28, t 29, t 30, t 31, t 32, t 33, t 34, t 35, t 36, t 37, t 38, t 39, t 40, t 41, t 42, t 43, t 44, t 45, t 46, t 47, t 48, t 49, t 50, t 51, t 52, t 53, t 54, t 55, t 56, t 57, t 58, t 59, t 60, t 61, t 62, t 63, t 64, t 65, t 66, t 67] := rfl
    (try dsimp only at e)
    rw [e1, e2, e4, e5, e6] at e
    rw [e]
    simp only [e6]
    clear e e1 e2 e4 e5 e6
    clear F18
    obtain ⟨hs1, hs2, rfl, hF⟩ := hrel
    have b19 : Bk _ w.heap.size 25 #[.slice (some ⟨x, ox, none⟩) b.accs.length c, .slice a' b.mvs.length c'] := hF.at 2 rfl
    have l20 := b19.lt
    have q21 : World.cell? _ ⟨w.heap.size, 0, none⟩ = some (.slice (some ⟨x, ox, none⟩) b.accs.length c) := b19.cell 0
    have z22 := b19.frozen 0
    have q23 : World.cell? _ ⟨w.heap.size, 1, none⟩ = some (.slice a' b.mvs.length c') := b19.cell 1
    have z24 := b19.frozen 1
    go_wp2_with fail
    refine (rsets_c lo hi _ _ b _ (hF.at 3 rfl : HasB lo hi _ (.slice (some ⟨x, ox, none⟩) b.accs.length c) (.slice a' b.mvs.length c') b) hn8).mono ?_
    rintro e w1 ⟨rfl, hg1⟩
    clear b19 l20 q21 z22 q23 z24
    have F25 : Bun w [rbox (w.heap.size + 2) 40 #[.int .i64 (lostR b k s).lo, .int .i64 (lostR b k s).hi], rbox (w.heap.size + 1) 40 #[.int .i64 0, .int .i64 0], rbox w.heap.size 25 #[.slice (some ⟨x, ox, none⟩) b.accs.length c, .slice a' b.mvs.length c'], rbook lo hi (.slice (some ⟨x, ox, none⟩) b.accs.length c) (.slice a' b.mvs.length c') b] w1 := hF.gn hg1
    clear hF
    clear hg1
    obtain ⟨P, hP⟩ : ∃ P, 2 ^ b.accs.length = P := ⟨_, rfl⟩
    rw [hP] at hs2 hp8 ⊢
    have HP := Lib.hid hP
    clear hP
    by_cases hlt : s < P
    · skip
      have hcs : calm b s := fun j hj => HCA.out j (by rw [HP.out]; omega)
      have hcl : clash (grp b s) = false := HCA.out s (by rw [HP.out]; exact hlt)
      have HN := Lib.hid (And.intro (fun h => lostR_no (b := b) (a := k) (i := s) h) (fun h => lostR_yes HOK.out hcs hcl (a := k) h))
      have hbd := lostR_bd HOK.out (a := k) hcs
      generalize lostR b k s = r at *
      clear hcs
      go_wp2_with fail
      refine (rhas_c s k _ (by omega) (by omega) (by omega)).mono ?_
      rintro e w2 ⟨rfl, hg2⟩
      have F26 : Bun w [rbox (w.heap.size + 2) 40 #[.int .i64 r.lo, .int .i64 r.hi], rbox (w.heap.size + 1) 40 #[.int .i64 0, .int .i64 0], rbox w.heap.size 25 #[.slice (some ⟨x, ox, none⟩) b.accs.length c, .slice a' b.mvs.length c'], rbook lo hi (.slice (some ⟨x, ox, none⟩) b.accs.length c) (.slice a' b.mvs.length c') b] w2 := F25.gn hg2
      clear F25
      clear hg2
      rw [bitOf_nat]
      cases hbit : s.testBit k
      · have HB := Lib.hid hbit
        clear hbit
        go_wp2_with fail
        exact ⟨rfl, Lib.hid ⟨s + 1, rfl, rfl, rfl, rfl, (by show Value.int .i64 ((s : Int) + 1) = _; simp), by omega, by rw [HP.out]; omega, (by simp), (by rw [HN.out.1 HB.out]; exact F26)⟩, by simp [slot, intOf]; have := HP.out; omega⟩
      · have HB := Lib.hid hbit
        clear hbit
        go_wp2_with fail
        refine wp_cutK 68 (fun t wr => ∃ (gx gy : Nat), t 1 = .int .i64 k ∧ t 2 = .pointer (some ⟨w.heap.size, 0, none⟩) ∧ t 4 = .pointer (some ⟨(w.heap.size + 1), 0, none⟩) ∧ t 5 = .pointer (some ⟨(w.heap.size + 2), 0, none⟩) ∧ t 6 = .int .i64 s ∧ t 7 = .pointer (some ⟨gx, 0, none⟩) ∧ t 8 = .pointer (some ⟨gy, 0, none⟩) ∧ Bun w [rbox gx 40 #[.int .i64 (inS b s (-1)).lo, .int .i64 (inS b s (-1)).hi], rbox gy 40 #[.int .i64 (outS b s (-1)).lo, .int .i64 (outS b s (-1)).hi], rbox (w.heap.size + 2) 40 #[.int .i64 r.lo, .int .i64 r.hi], rbox (w.heap.size + 1) 40 #[.int .i64 0, .int .i64 0], rbox w.heap.size 25 #[.slice (some ⟨x, ox, none⟩) b.accs.length c, .slice a' b.mvs.length c'], rbook lo hi (.slice (some ⟨x, ox, none⟩) b.accs.length c) (.slice a' b.mvs.length c') b] wr) ?first29 ?rest29
        case rest29 =>
          rintro t wr ⟨gx, gy, e1, e2, e4, e5, e6, e7, e8, hrel⟩
          have e : ((List.range 68).map t).toArray = #[t 0, t 1, t 2, t 3, t 4, t 5, t 6, t 7, t 8, t 9, t 10, t 11, t 12, t 13, t 14, t 15, t 16, t 17, t 18, t 19, t 20, t 21, t 22, t 23, t 24, t 25, t 26, t 27, t 28, t 29, t 30, t 31, t 32, t 33, t 34, t 35, t 36, t 37, t 38, t 39, t 40, t 41, t 42, t 43, t 44, t 45, t 46, t 47, t 48, t 49, t 50, t 51, t 52, t 53, t 54, t 55, t 56, t 57, t 58, t 59, t 60, t 61, t 62, t 63, t 64, t 65, t 66, t 67] := rfl
          (try dsimp only at e)
          rw [e1, e2, e4, e5, e6, e7, e8] at e
          rw [e]
          clear e e1 e2 e4 e5 e6 e7 e8
          have hF2 := hrel
          clear hrel
          have hgi := grp_in b s
          have bX := inS_bd HOK.out s (-1)
          have bY := outS_bd HOK.out s (-1)
          have HV := Lib.hid (HN.out.2 HB.out)
          generalize grp b s = g at hgi HV
          generalize inS b s (-1) = X at *
          generalize outS b s (-1) = Y at *
          rw [hgi.1, hgi.2] at HV
          clear hgi
          by_cases k1 : r.hi < 0
          · have kk : r.hi < 0 ∨ X.hi - Y.lo < r.hi := .inl k1
            have HK := Lib.hid kk
            clear kk
            have b27 : Bk _ gx 40 #[.int .i64 X.lo, .int .i64 X.hi] := hF2.at 0 rfl
            have l28 := b27.lt
            have q29 : World.cell? _ ⟨gx, 0, none⟩ = some (.int .i64 X.lo) := b27.cell 0
            have z30 := b27.frozen 0
            have q31 : World.cell? _ ⟨gx, 1, none⟩ = some (.int .i64 X.hi) := b27.cell 1
            have z32 := b27.frozen 1
            have b33 : Bk _ gy 40 #[.int .i64 Y.lo, .int .i64 Y.hi] := hF2.at 1 rfl
            have l34 := b33.lt
            have q35 : World.cell? _ ⟨gy, 0, none⟩ = some (.int .i64 Y.lo) := b33.cell 0
            have z36 := b33.frozen 0
            have q37 : World.cell? _ ⟨gy, 1, none⟩ = some (.int .i64 Y.hi) := b33.cell 1
            have z38 := b33.frozen 1
            have b39 : Bk _ (w.heap.size + 2) 40 #[.int .i64 r.lo, .int .i64 r.hi] := hF2.at 2 rfl
            have l40 := b39.lt
            have q41 : World.cell? _ ⟨(w.heap.size + 2), 0, none⟩ = some (.int .i64 r.lo) := b39.cell 0
            have z42 := b39.frozen 0
            have q43 : World.cell? _ ⟨(w.heap.size + 2), 1, none⟩ = some (.int .i64 r.hi) := b39.cell 1
            have z44 := b39.frozen 1
            have b45 : Bk _ w.heap.size 25 #[.slice (some ⟨x, ox, none⟩) b.accs.length c, .slice a' b.mvs.length c'] := hF2.at 4 rfl
            have l46 := b45.lt
            have q47 : World.cell? _ ⟨w.heap.size, 0, none⟩ = some (.slice (some ⟨x, ox, none⟩) b.accs.length c) := b45.cell 0
            have z48 := b45.frozen 0
            have q49 : World.cell? _ ⟨w.heap.size, 1, none⟩ = some (.slice a' b.mvs.length c') := b45.cell 1
            have z50 := b45.frozen 1
            go_wp2_with fail
            clear b27 l28 q29 z30 q31 z32 b33 l34 q35 z36 q37 z38 b39 l40 q41 z42 q43 z44 b45 l46 q47 z48 q49 z50
            have F51 : Bun w [rbox (w.heap.size + 2) 40 #[.int .i64 r.lo, .int .i64 r.hi], rbox gx 40 #[.int .i64 X.lo, .int .i64 X.hi], rbox gy 40 #[.int .i64 Y.lo, .int .i64 Y.hi], rbox (w.heap.size + 1) 40 #[.int .i64 0, .int .i64 0], rbox w.heap.size 25 #[.slice (some ⟨x, ox, none⟩) b.accs.length c, .slice a' b.mvs.length c'], rbook lo hi (.slice (some ⟨x, ox, none⟩) b.accs.length c) (.slice a' b.mvs.length c') b] _ := hF2.front 2 rfl rfl
            clear hF2
            have F52 : Bun w [rbox (w.heap.size + 2) 40 #[.int .i64 r.lo, .int .i64 (X.hi - Y.lo)], rbox gx 40 #[.int .i64 X.lo, .int .i64 X.hi], rbox gy 40 #[.int .i64 Y.lo, .int .i64 Y.hi], rbox (w.heap.size + 1) 40 #[.int .i64 0, .int .i64 0], rbox w.heap.size 25 #[.slice (some ⟨x, ox, none⟩) b.accs.length c, .slice a' b.mvs.length c'], rbook lo hi (.slice (some ⟨x, ox, none⟩) b.accs.length c) (.slice a' b.mvs.length c') b] _ := F51.set 1 (.int .i64 (X.hi - Y.lo))
            clear F51
            refine (rloses_c lo hi _ _ b s k _ (F52.at 5 rfl : HasB lo hi _ (.slice (some ⟨x, ox, none⟩) b.accs.length c) (.slice a' b.mvs.length c') b) HOK.out (Nat.le_trans h2 F52.gb.size) (by omega)).mono ?_
            rintro e w3 ⟨rfl, hg3⟩
            have F53 : Bun w [rbox (w.heap.size + 2) 40 #[.int .i64 r.lo, .int .i64 (X.hi - Y.lo)], rbox gx 40 #[.int .i64 X.lo, .int .i64 X.hi], rbox gy 40 #[.int .i64 Y.lo, .int .i64 Y.hi], rbox (w.heap.size + 1) 40 #[.int .i64 0, .int .i64 0], rbox w.heap.size 25 #[.slice (some ⟨x, ox, none⟩) b.accs.length c, .slice a' b.mvs.length c'], rbook lo hi (.slice (some ⟨x, ox, none⟩) b.accs.length c) (.slice a' b.mvs.length c') b] w3 := F52.gn hg3
            clear F52
            clear hg3
            generalize losesB b s k = q at HV ⊢
            cases q
            · skip
              have b54 : Bk _ gx 40 #[.int .i64 X.lo, .int .i64 X.hi] := F53.at 1 rfl
              have l55 := b54.lt
              have q56 : World.cell? _ ⟨gx, 0, none⟩ = some (.int .i64 X.lo) := b54.cell 0
              have z57 := b54.frozen 0
              have q58 : World.cell? _ ⟨gx, 1, none⟩ = some (.int .i64 X.hi) := b54.cell 1
              have z59 := b54.frozen 1
              have b60 : Bk _ gy 40 #[.int .i64 Y.lo, .int .i64 Y.hi] := F53.at 2 rfl
              have l61 := b60.lt
              have q62 : World.cell? _ ⟨gy, 0, none⟩ = some (.int .i64 Y.lo) := b60.cell 0
              have z63 := b60.frozen 0
              have q64 : World.cell? _ ⟨gy, 1, none⟩ = some (.int .i64 Y.hi) := b60.cell 1
              have z65 := b60.frozen 1
              have b66 : Bk _ (w.heap.size + 2) 40 #[.int .i64 r.lo, .int .i64 (X.hi - Y.lo)] := F53.at 0 rfl
              have l67 := b66.lt
              have q68 : World.cell? _ ⟨(w.heap.size + 2), 0, none⟩ = some (.int .i64 r.lo) := b66.cell 0
              have z69 := b66.frozen 0
              have q70 : World.cell? _ ⟨(w.heap.size + 2), 1, none⟩ = some (.int .i64 (X.hi - Y.lo)) := b66.cell 1
              have z71 := b66.frozen 1
              have b72 : Bk _ w.heap.size 25 #[.slice (some ⟨x, ox, none⟩) b.accs.length c, .slice a' b.mvs.length c'] := F53.at 4 rfl
              have l73 := b72.lt
              have q74 : World.cell? _ ⟨w.heap.size, 0, none⟩ = some (.slice (some ⟨x, ox, none⟩) b.accs.length c) := b72.cell 0
              have z75 := b72.frozen 0
              have q76 : World.cell? _ ⟨w.heap.size, 1, none⟩ = some (.slice a' b.mvs.length c') := b72.cell 1
              have z77 := b72.frozen 1
              go_wp2_with fail
              have G1 : Bun w [rbox (w.heap.size + 2) 40 #[.int .i64 (max r.lo (X.lo - Y.hi)), .int .i64 (X.hi - Y.lo)], rbox gx 40 #[.int .i64 X.lo, .int .i64 X.hi], rbox gy 40 #[.int .i64 Y.lo, .int .i64 Y.hi], rbox (w.heap.size + 1) 40 #[.int .i64 0, .int .i64 0], rbox w.heap.size 25 #[.slice (some ⟨x, ox, none⟩) b.accs.length c, .slice a' b.mvs.length c'], rbook lo hi (.slice (some ⟨x, ox, none⟩) b.accs.length c) (.slice a' b.mvs.length c') b] _ := (F53.front 0 rfl rfl).set 0 (.int .i64 (max r.lo (X.lo - Y.hi)))
              exact ⟨rfl, Lib.hid ⟨s + 1, rfl, rfl, rfl, rfl, (by show Value.int .i64 ((s : Int) + 1) = _; simp), by omega, by rw [HP.out]; omega, (by simp), (by rw [HV.out]; rw [if_pos (by simp), if_pos HK.out]; exact ((((((G1.drop 1 rfl).drop 1 rfl).front 3 rfl rfl).front 3 rfl rfl).front 3 rfl rfl).front 3 rfl rfl))⟩, by simp [slot, intOf]; have := HP.out; omega⟩
            · skip
              have b78 : Bk _ gx 40 #[.int .i64 X.lo, .int .i64 X.hi] := F53.at 1 rfl
              have l79 := b78.lt
              have q80 : World.cell? _ ⟨gx, 0, none⟩ = some (.int .i64 X.lo) := b78.cell 0
              have z81 := b78.frozen 0
              have q82 : World.cell? _ ⟨gx, 1, none⟩ = some (.int .i64 X.hi) := b78.cell 1
              have z83 := b78.frozen 1
              have b84 : Bk _ gy 40 #[.int .i64 Y.lo, .int .i64 Y.hi] := F53.at 2 rfl
              have l85 := b84.lt
              have q86 : World.cell? _ ⟨gy, 0, none⟩ = some (.int .i64 Y.lo) := b84.cell 0
              have z87 := b84.frozen 0
              have q88 : World.cell? _ ⟨gy, 1, none⟩ = some (.int .i64 Y.hi) := b84.cell 1
              have z89 := b84.frozen 1
              have b90 : Bk _ (w.heap.size + 2) 40 #[.int .i64 r.lo, .int .i64 (X.hi - Y.lo)] := F53.at 0 rfl
              have l91 := b90.lt
              have q92 : World.cell? _ ⟨(w.heap.size + 2), 0, none⟩ = some (.int .i64 r.lo) := b90.cell 0
              have z93 := b90.frozen 0
              have q94 : World.cell? _ ⟨(w.heap.size + 2), 1, none⟩ = some (.int .i64 (X.hi - Y.lo)) := b90.cell 1
              have z95 := b90.frozen 1
              have b96 : Bk _ w.heap.size 25 #[.slice (some ⟨x, ox, none⟩) b.accs.length c, .slice a' b.mvs.length c'] := F53.at 4 rfl
              have l97 := b96.lt
              have q98 : World.cell? _ ⟨w.heap.size, 0, none⟩ = some (.slice (some ⟨x, ox, none⟩) b.accs.length c) := b96.cell 0
              have z99 := b96.frozen 0
              have q100 : World.cell? _ ⟨w.heap.size, 1, none⟩ = some (.slice a' b.mvs.length c') := b96.cell 1
              have z101 := b96.frozen 1
              go_wp2_with fail
              have G1 : Bun w [rbox (w.heap.size + 2) 40 #[.int .i64 (r.lo), .int .i64 (X.hi - Y.lo)], rbox gx 40 #[.int .i64 X.lo, .int .i64 X.hi], rbox gy 40 #[.int .i64 Y.lo, .int .i64 Y.hi], rbox (w.heap.size + 1) 40 #[.int .i64 0, .int .i64 0], rbox w.heap.size 25 #[.slice (some ⟨x, ox, none⟩) b.accs.length c, .slice a' b.mvs.length c'], rbook lo hi (.slice (some ⟨x, ox, none⟩) b.accs.length c) (.slice a' b.mvs.length c') b] _ := F53.front 0 rfl rfl
              exact ⟨rfl, Lib.hid ⟨s + 1, rfl, rfl, rfl, rfl, (by show Value.int .i64 ((s : Int) + 1) = _; simp), by omega, by rw [HP.out]; omega, (by simp), (by rw [HV.out]; rw [if_neg (by simp), if_pos HK.out]; exact ((((((G1.drop 1 rfl).drop 1 rfl).front 3 rfl rfl).front 3 rfl rfl).front 3 rfl rfl).front 3 rfl rfl))⟩, by simp [slot, intOf]; have := HP.out; omega⟩
          by_cases k2 : X.hi - Y.lo < r.hi
          · have kk : r.hi < 0 ∨ X.hi - Y.lo < r.hi := .inr k2
            have HK := Lib.hid kk
            clear kk
            have b102 : Bk _ gx 40 #[.int .i64 X.lo, .int .i64 X.hi] := hF2.at 0 rfl
            have l103 := b102.lt
            have q104 : World.cell? _ ⟨gx, 0, none⟩ = some (.int .i64 X.lo) := b102.cell 0
            have z105 := b102.frozen 0
            have q106 : World.cell? _ ⟨gx, 1, none⟩ = some (.int .i64 X.hi) := b102.cell 1
            have z107 := b102.frozen 1
            have b108 : Bk _ gy 40 #[.int .i64 Y.lo, .int .i64 Y.hi] := hF2.at 1 rfl
            have l109 := b108.lt
            have q110 : World.cell? _ ⟨gy, 0, none⟩ = some (.int .i64 Y.lo) := b108.cell 0
            have z111 := b108.frozen 0
            have q112 : World.cell? _ ⟨gy, 1, none⟩ = some (.int .i64 Y.hi) := b108.cell 1
            have z113 := b108.frozen 1
            have b114 : Bk _ (w.heap.size + 2) 40 #[.int .i64 r.lo, .int .i64 r.hi] := hF2.at 2 rfl
            have l115 := b114.lt
            have q116 : World.cell? _ ⟨(w.heap.size + 2), 0, none⟩ = some (.int .i64 r.lo) := b114.cell 0
            have z117 := b114.frozen 0
            have q118 : World.cell? _ ⟨(w.heap.size + 2), 1, none⟩ = some (.int .i64 r.hi) := b114.cell 1
            have z119 := b114.frozen 1
            have b120 : Bk _ w.heap.size 25 #[.slice (some ⟨x, ox, none⟩) b.accs.length c, .slice a' b.mvs.length c'] := hF2.at 4 rfl
            have l121 := b120.lt
            have q122 : World.cell? _ ⟨w.heap.size, 0, none⟩ = some (.slice (some ⟨x, ox, none⟩) b.accs.length c) := b120.cell 0
            have z123 := b120.frozen 0
            have q124 : World.cell? _ ⟨w.heap.size, 1, none⟩ = some (.slice a' b.mvs.length c') := b120.cell 1
            have z125 := b120.frozen 1
            go_wp2_with fail
            clear b102 l103 q104 z105 q106 z107 b108 l109 q110 z111 q112 z113 b114 l115 q116 z117 q118 z119 b120 l121 q122 z123 q124 z125
            have F126 : Bun w [rbox (w.heap.size + 2) 40 #[.int .i64 r.lo, .int .i64 r.hi], rbox gx 40 #[.int .i64 X.lo, .int .i64 X.hi], rbox gy 40 #[.int .i64 Y.lo, .int .i64 Y.hi], rbox (w.heap.size + 1) 40 #[.int .i64 0, .int .i64 0], rbox w.heap.size 25 #[.slice (some ⟨x, ox, none⟩) b.accs.length c, .slice a' b.mvs.length c'], rbook lo hi (.slice (some ⟨x, ox, none⟩) b.accs.length c) (.slice a' b.mvs.length c') b] _ := hF2.front 2 rfl rfl
            clear hF2
            have F127 : Bun w [rbox (w.heap.size + 2) 40 #[.int .i64 r.lo, .int .i64 (X.hi - Y.lo)], rbox gx 40 #[.int .i64 X.lo, .int .i64 X.hi], rbox gy 40 #[.int .i64 Y.lo, .int .i64 Y.hi], rbox (w.heap.size + 1) 40 #[.int .i64 0, .int .i64 0], rbox w.heap.size 25 #[.slice (some ⟨x, ox, none⟩) b.accs.length c, .slice a' b.mvs.length c'], rbook lo hi (.slice (some ⟨x, ox, none⟩) b.accs.length c) (.slice a' b.mvs.length c') b] _ := F126.set 1 (.int .i64 (X.hi - Y.lo))
            clear F126
            refine (rloses_c lo hi _ _ b s k _ (F127.at 5 rfl : HasB lo hi _ (.slice (some ⟨x, ox, none⟩) b.accs.length c) (.slice a' b.mvs.length c') b) HOK.out (Nat.le_trans h2 F127.gb.size) (by omega)).mono ?_
            rintro e w3 ⟨rfl, hg3⟩
            have F128 : Bun w [rbox (w.heap.size + 2) 40 #[.int .i64 r.lo, .int .i64 (X.hi - Y.lo)], rbox gx 40 #[.int .i64 X.lo, .int .i64 X.hi], rbox gy 40 #[.int .i64 Y.lo, .int .i64 Y.hi], rbox (w.heap.size + 1) 40 #[.int .i64 0, .int .i64 0], rbox w.heap.size 25 #[.slice (some ⟨x, ox, none⟩) b.accs.length c, .slice a' b.mvs.length c'], rbook lo hi (.slice (some ⟨x, ox, none⟩) b.accs.length c) (.slice a' b.mvs.length c') b] w3 := F127.gn hg3
            clear F127
            clear hg3
            generalize losesB b s k = q at HV ⊢
            cases q
            · skip
              have b129 : Bk _ gx 40 #[.int .i64 X.lo, .int .i64 X.hi] := F128.at 1 rfl
              have l130 := b129.lt
              have q131 : World.cell? _ ⟨gx, 0, none⟩ = some (.int .i64 X.lo) := b129.cell 0
              have z132 := b129.frozen 0
              have q133 : World.cell? _ ⟨gx, 1, none⟩ = some (.int .i64 X.hi) := b129.cell 1
              have z134 := b129.frozen 1
              have b135 : Bk _ gy 40 #[.int .i64 Y.lo, .int .i64 Y.hi] := F128.at 2 rfl
              have l136 := b135.lt
              have q137 : World.cell? _ ⟨gy, 0, none⟩ = some (.int .i64 Y.lo) := b135.cell 0
              have z138 := b135.frozen 0
              have q139 : World.cell? _ ⟨gy, 1, none⟩ = some (.int .i64 Y.hi) := b135.cell 1
              have z140 := b135.frozen 1
              have b141 : Bk _ (w.heap.size + 2) 40 #[.int .i64 r.lo, .int .i64 (X.hi - Y.lo)] := F128.at 0 rfl
              have l142 := b141.lt
              have q143 : World.cell? _ ⟨(w.heap.size + 2), 0, none⟩ = some (.int .i64 r.lo) := b141.cell 0
              have z144 := b141.frozen 0
              have q145 : World.cell? _ ⟨(w.heap.size + 2), 1, none⟩ = some (.int .i64 (X.hi - Y.lo)) := b141.cell 1
              have z146 := b141.frozen 1
              have b147 : Bk _ w.heap.size 25 #[.slice (some ⟨x, ox, none⟩) b.accs.length c, .slice a' b.mvs.length c'] := F128.at 4 rfl
              have l148 := b147.lt
              have q149 : World.cell? _ ⟨w.heap.size, 0, none⟩ = some (.slice (some ⟨x, ox, none⟩) b.accs.length c) := b147.cell 0
              have z150 := b147.frozen 0
              have q151 : World.cell? _ ⟨w.heap.size, 1, none⟩ = some (.slice a' b.mvs.length c') := b147.cell 1
              have z152 := b147.frozen 1
              go_wp2_with fail
              have G1 : Bun w [rbox (w.heap.size + 2) 40 #[.int .i64 (max r.lo (X.lo - Y.hi)), .int .i64 (X.hi - Y.lo)], rbox gx 40 #[.int .i64 X.lo, .int .i64 X.hi], rbox gy 40 #[.int .i64 Y.lo, .int .i64 Y.hi], rbox (w.heap.size + 1) 40 #[.int .i64 0, .int .i64 0], rbox w.heap.size 25 #[.slice (some ⟨x, ox, none⟩) b.accs.length c, .slice a' b.mvs.length c'], rbook lo hi (.slice (some ⟨x, ox, none⟩) b.accs.length c) (.slice a' b.mvs.length c') b] _ := (F128.front 0 rfl rfl).set 0 (.int .i64 (max r.lo (X.lo - Y.hi)))
              exact ⟨rfl, Lib.hid ⟨s + 1, rfl, rfl, rfl, rfl, (by show Value.int .i64 ((s : Int) + 1) = _; simp), by omega, by rw [HP.out]; omega, (by simp), (by rw [HV.out]; rw [if_pos (by simp), if_pos HK.out]; exact ((((((G1.drop 1 rfl).drop 1 rfl).front 3 rfl rfl).front 3 rfl rfl).front 3 rfl rfl).front 3 rfl rfl))⟩, by simp [slot, intOf]; have := HP.out; omega⟩
            · skip
              have b153 : Bk _ gx 40 #[.int .i64 X.lo, .int .i64 X.hi] := F128.at 1 rfl
              have l154 := b153.lt
              have q155 : World.cell? _ ⟨gx, 0, none⟩ = some (.int .i64 X.lo) := b153.cell 0
              have z156 := b153.frozen 0
              have q157 : World.cell? _ ⟨gx, 1, none⟩ = some (.int .i64 X.hi) := b153.cell 1
              have z158 := b153.frozen 1
              have b159 : Bk _ gy 40 #[.int .i64 Y.lo, .int .i64 Y.hi] := F128.at 2 rfl
              have l160 := b159.lt
              have q161 : World.cell? _ ⟨gy, 0, none⟩ = some (.int .i64 Y.lo) := b159.cell 0
              have z162 := b159.frozen 0
              have q163 : World.cell? _ ⟨gy, 1, none⟩ = some (.int .i64 Y.hi) := b159.cell 1
              have z164 := b159.frozen 1
              have b165 : Bk _ (w.heap.size + 2) 40 #[.int .i64 r.lo, .int .i64 (X.hi - Y.lo)] := F128.at 0 rfl
              have l166 := b165.lt
              have q167 : World.cell? _ ⟨(w.heap.size + 2), 0, none⟩ = some (.int .i64 r.lo) := b165.cell 0
              have z168 := b165.frozen 0
              have q169 : World.cell? _ ⟨(w.heap.size + 2), 1, none⟩ = some (.int .i64 (X.hi - Y.lo)) := b165.cell 1
              have z170 := b165.frozen 1
              have b171 : Bk _ w.heap.size 25 #[.slice (some ⟨x, ox, none⟩) b.accs.length c, .slice a' b.mvs.length c'] := F128.at 4 rfl
              have l172 := b171.lt
              have q173 : World.cell? _ ⟨w.heap.size, 0, none⟩ = some (.slice (some ⟨x, ox, none⟩) b.accs.length c) := b171.cell 0
              have z174 := b171.frozen 0
              have q175 : World.cell? _ ⟨w.heap.size, 1, none⟩ = some (.slice a' b.mvs.length c') := b171.cell 1
              have z176 := b171.frozen 1
              go_wp2_with fail
              have G1 : Bun w [rbox (w.heap.size + 2) 40 #[.int .i64 (r.lo), .int .i64 (X.hi - Y.lo)], rbox gx 40 #[.int .i64 X.lo, .int .i64 X.hi], rbox gy 40 #[.int .i64 Y.lo, .int .i64 Y.hi], rbox (w.heap.size + 1) 40 #[.int .i64 0, .int .i64 0], rbox w.heap.size 25 #[.slice (some ⟨x, ox, none⟩) b.accs.length c, .slice a' b.mvs.length c'], rbook lo hi (.slice (some ⟨x, ox, none⟩) b.accs.length c) (.slice a' b.mvs.length c') b] _ := F128.front 0 rfl rfl
              exact ⟨rfl, Lib.hid ⟨s + 1, rfl, rfl, rfl, rfl, (by show Value.int .i64 ((s : Int) + 1) = _; simp), by omega, by rw [HP.out]; omega, (by simp), (by rw [HV.out]; rw [if_neg (by simp), if_pos HK.out]; exact ((((((G1.drop 1 rfl).drop 1 rfl).front 3 rfl rfl).front 3 rfl rfl).front 3 rfl rfl).front 3 rfl rfl))⟩, by simp [slot, intOf]; have := HP.out; omega⟩
          · have kk : ¬ (r.hi < 0 ∨ X.hi - Y.lo < r.hi) := by omega
            have HK := Lib.hid kk
            clear kk
            have b177 : Bk _ gx 40 #[.int .i64 X.lo, .int .i64 X.hi] := hF2.at 0 rfl
            have l178 := b177.lt
            have q179 : World.cell? _ ⟨gx, 0, none⟩ = some (.int .i64 X.lo) := b177.cell 0
            have z180 := b177.frozen 0
            have q181 : World.cell? _ ⟨gx, 1, none⟩ = some (.int .i64 X.hi) := b177.cell 1
            have z182 := b177.frozen 1
            have b183 : Bk _ gy 40 #[.int .i64 Y.lo, .int .i64 Y.hi] := hF2.at 1 rfl
            have l184 := b183.lt
            have q185 : World.cell? _ ⟨gy, 0, none⟩ = some (.int .i64 Y.lo) := b183.cell 0
            have z186 := b183.frozen 0
            have q187 : World.cell? _ ⟨gy, 1, none⟩ = some (.int .i64 Y.hi) := b183.cell 1
            have z188 := b183.frozen 1
            have b189 : Bk _ (w.heap.size + 2) 40 #[.int .i64 r.lo, .int .i64 r.hi] := hF2.at 2 rfl
            have l190 := b189.lt
            have q191 : World.cell? _ ⟨(w.heap.size + 2), 0, none⟩ = some (.int .i64 r.lo) := b189.cell 0
            have z192 := b189.frozen 0
            have q193 : World.cell? _ ⟨(w.heap.size + 2), 1, none⟩ = some (.int .i64 r.hi) := b189.cell 1
            have z194 := b189.frozen 1
            have b195 : Bk _ w.heap.size 25 #[.slice (some ⟨x, ox, none⟩) b.accs.length c, .slice a' b.mvs.length c'] := hF2.at 4 rfl
            have l196 := b195.lt
            have q197 : World.cell? _ ⟨w.heap.size, 0, none⟩ = some (.slice (some ⟨x, ox, none⟩) b.accs.length c) := b195.cell 0
            have z198 := b195.frozen 0
            have q199 : World.cell? _ ⟨w.heap.size, 1, none⟩ = some (.slice a' b.mvs.length c') := b195.cell 1
            have z200 := b195.frozen 1
            go_wp2_with fail
            clear b177 l178 q179 z180 q181 z182 b183 l184 q185 z186 q187 z188 b189 l190 q191 z192 q193 z194 b195 l196 q197 z198 q199 z200
            refine (rloses_c lo hi _ _ b s k _ (hF2.at 5 rfl : HasB lo hi _ (.slice (some ⟨x, ox, none⟩) b.accs.length c) (.slice a' b.mvs.length c') b) HOK.out (Nat.le_trans h2 hF2.gb.size) (by omega)).mono ?_
            rintro e w3 ⟨rfl, hg3⟩
            have F201 : Bun w [rbox gx 40 #[.int .i64 X.lo, .int .i64 X.hi], rbox gy 40 #[.int .i64 Y.lo, .int .i64 Y.hi], rbox (w.heap.size + 2) 40 #[.int .i64 r.lo, .int .i64 r.hi], rbox (w.heap.size + 1) 40 #[.int .i64 0, .int .i64 0], rbox w.heap.size 25 #[.slice (some ⟨x, ox, none⟩) b.accs.length c, .slice a' b.mvs.length c'], rbook lo hi (.slice (some ⟨x, ox, none⟩) b.accs.length c) (.slice a' b.mvs.length c') b] w3 := hF2.gn hg3
            clear hF2
            clear hg3
            generalize losesB b s k = q at HV ⊢
            cases q
            · skip
              have b202 : Bk _ gx 40 #[.int .i64 X.lo, .int .i64 X.hi] := F201.at 0 rfl
              have l203 := b202.lt
              have q204 : World.cell? _ ⟨gx, 0, none⟩ = some (.int .i64 X.lo) := b202.cell 0
              have z205 := b202.frozen 0
              have q206 : World.cell? _ ⟨gx, 1, none⟩ = some (.int .i64 X.hi) := b202.cell 1
              have z207 := b202.frozen 1
              have b208 : Bk _ gy 40 #[.int .i64 Y.lo, .int .i64 Y.hi] := F201.at 1 rfl
              have l209 := b208.lt
              have q210 : World.cell? _ ⟨gy, 0, none⟩ = some (.int .i64 Y.lo) := b208.cell 0
              have z211 := b208.frozen 0
              have q212 : World.cell? _ ⟨gy, 1, none⟩ = some (.int .i64 Y.hi) := b208.cell 1
              have z213 := b208.frozen 1
              have b214 : Bk _ (w.heap.size + 2) 40 #[.int .i64 r.lo, .int .i64 r.hi] := F201.at 2 rfl
              have l215 := b214.lt
              have q216 : World.cell? _ ⟨(w.heap.size + 2), 0, none⟩ = some (.int .i64 r.lo) := b214.cell 0
              have z217 := b214.frozen 0
              have q218 : World.cell? _ ⟨(w.heap.size + 2), 1, none⟩ = some (.int .i64 r.hi) := b214.cell 1
              have z219 := b214.frozen 1
              have b220 : Bk _ w.heap.size 25 #[.slice (some ⟨x, ox, none⟩) b.accs.length c, .slice a' b.mvs.length c'] := F201.at 4 rfl
              have l221 := b220.lt
              have q222 : World.cell? _ ⟨w.heap.size, 0, none⟩ = some (.slice (some ⟨x, ox, none⟩) b.accs.length c) := b220.cell 0
              have z223 := b220.frozen 0
              have q224 : World.cell? _ ⟨w.heap.size, 1, none⟩ = some (.slice a' b.mvs.length c') := b220.cell 1
              have z225 := b220.frozen 1
              go_wp2_with fail
              have G1 : Bun w [rbox (w.heap.size + 2) 40 #[.int .i64 (max r.lo (X.lo - Y.hi)), .int .i64 (r.hi)], rbox gx 40 #[.int .i64 X.lo, .int .i64 X.hi], rbox gy 40 #[.int .i64 Y.lo, .int .i64 Y.hi], rbox (w.heap.size + 1) 40 #[.int .i64 0, .int .i64 0], rbox w.heap.size 25 #[.slice (some ⟨x, ox, none⟩) b.accs.length c, .slice a' b.mvs.length c'], rbook lo hi (.slice (some ⟨x, ox, none⟩) b.accs.length c) (.slice a' b.mvs.length c') b] _ := (F201.front 2 rfl rfl).set 0 (.int .i64 (max r.lo (X.lo - Y.hi)))
              exact ⟨rfl, Lib.hid ⟨s + 1, rfl, rfl, rfl, rfl, (by show Value.int .i64 ((s : Int) + 1) = _; simp), by omega, by rw [HP.out]; omega, (by simp), (by rw [HV.out]; rw [if_pos (by simp), if_neg HK.out]; exact ((((((G1.drop 1 rfl).drop 1 rfl).front 3 rfl rfl).front 3 rfl rfl).front 3 rfl rfl).front 3 rfl rfl))⟩, by simp [slot, intOf]; have := HP.out; omega⟩
            · skip
              have b226 : Bk _ gx 40 #[.int .i64 X.lo, .int .i64 X.hi] := F201.at 0 rfl
              have l227 := b226.lt
              have q228 : World.cell? _ ⟨gx, 0, none⟩ = some (.int .i64 X.lo) := b226.cell 0
              have z229 := b226.frozen 0
              have q230 : World.cell? _ ⟨gx, 1, none⟩ = some (.int .i64 X.hi) := b226.cell 1
              have z231 := b226.frozen 1
              have b232 : Bk _ gy 40 #[.int .i64 Y.lo, .int .i64 Y.hi] := F201.at 1 rfl
              have l233 := b232.lt
              have q234 : World.cell? _ ⟨gy, 0, none⟩ = some (.int .i64 Y.lo) := b232.cell 0
              have z235 := b232.frozen 0
              have q236 : World.cell? _ ⟨gy, 1, none⟩ = some (.int .i64 Y.hi) := b232.cell 1
              have z237 := b232.frozen 1
              have b238 : Bk _ (w.heap.size + 2) 40 #[.int .i64 r.lo, .int .i64 r.hi] := F201.at 2 rfl
              have l239 := b238.lt
              have q240 : World.cell? _ ⟨(w.heap.size + 2), 0, none⟩ = some (.int .i64 r.lo) := b238.cell 0
              have z241 := b238.frozen 0
              have q242 : World.cell? _ ⟨(w.heap.size + 2), 1, none⟩ = some (.int .i64 r.hi) := b238.cell 1
              have z243 := b238.frozen 1
              have b244 : Bk _ w.heap.size 25 #[.slice (some ⟨x, ox, none⟩) b.accs.length c, .slice a' b.mvs.length c'] := F201.at 4 rfl
              have l245 := b244.lt
              have q246 : World.cell? _ ⟨w.heap.size, 0, none⟩ = some (.slice (some ⟨x, ox, none⟩) b.accs.length c) := b244.cell 0
              have z247 := b244.frozen 0
              have q248 : World.cell? _ ⟨w.heap.size, 1, none⟩ = some (.slice a' b.mvs.length c') := b244.cell 1
              have z249 := b244.frozen 1
              go_wp2_with fail
              have G1 : Bun w [rbox (w.heap.size + 2) 40 #[.int .i64 (r.lo), .int .i64 (r.hi)], rbox gx 40 #[.int .i64 X.lo, .int .i64 X.hi], rbox gy 40 #[.int .i64 Y.lo, .int .i64 Y.hi], rbox (w.heap.size + 1) 40 #[.int .i64 0, .int .i64 0], rbox w.heap.size 25 #[.slice (some ⟨x, ox, none⟩) b.accs.length c, .slice a' b.mvs.length c'], rbook lo hi (.slice (some ⟨x, ox, none⟩) b.accs.length c) (.slice a' b.mvs.length c') b] _ := F201.front 2 rfl rfl
              exact ⟨rfl, Lib.hid ⟨s + 1, rfl, rfl, rfl, rfl, (by show Value.int .i64 ((s : Int) + 1) = _; simp), by omega, by rw [HP.out]; omega, (by simp), (by rw [HV.out]; rw [if_neg (by simp), if_neg HK.out]; exact ((((((G1.drop 1 rfl).drop 1 rfl).front 3 rfl rfl).front 3 rfl rfl).front 3 rfl rfl).front 3 rfl rfl))⟩, by simp [slot, intOf]; have := HP.out; omega⟩
        case first29 =>
          have FD := F26.drew
          have q0 : World.cell? _ ⟨w.heap.size, 0, none⟩ = some (.slice (some ⟨x, ox, none⟩) b.accs.length c) := (F26.at 2 rfl : Bk _ w.heap.size 25 #[.slice (some ⟨x, ox, none⟩) b.accs.length c, .slice a' b.mvs.length c']).cell 0
          have q1 : World.cell? _ ⟨w.heap.size, 1, none⟩ = some (.slice a' b.mvs.length c') := (F26.at 2 rfl : Bk _ w.heap.size 25 #[.slice (some ⟨x, ox, none⟩) b.accs.length c, .slice a' b.mvs.length c']).cell 1
          have ql := (F26.at 2 rfl : Bk _ w.heap.size 25 #[.slice (some ⟨x, ox, none⟩) b.accs.length c, .slice a' b.mvs.length c']).lt
          have hS0 := And.intro q0 q1
          refine ru_begin (fun W => W.cell? ⟨w.heap.size, 0, none⟩ = some (.slice (some ⟨x, ox, none⟩) b.accs.length c) ∧ W.cell? ⟨w.heap.size, 1, none⟩ = some (.slice a' b.mvs.length c')) 9 (by kernel_rfl) hS0 ?_
          refine ru_take 0 [] (v := ?_) rfl (by kernel_rfl) (fun _ _ _ h => h) (by assumption) (.inl ⟨by rfl, ?_⟩) ?_
          rotate_left
          · (intro wS hwS; (try dsimp only at hwS); go_simp; (try with_reducible rfl))
          (try simp only [Act.put, List.setIfInBounds_toArray, List.set_cons_zero, List.set_cons_succ])
          refine ru_take 1 [] (v := ?_) rfl (by kernel_rfl) (fun _ _ _ h => h) (by assumption) (.inl ⟨by rfl, ?_⟩) ?_
          rotate_left
          · (intro wS hwS; (try dsimp only at hwS); go_simp; (try with_reducible rfl))
          (try simp only [Act.put, List.setIfInBounds_toArray, List.set_cons_zero, List.set_cons_succ])
          refine ru_take 3 [] (v := ?_) rfl (by kernel_rfl) (fun _ _ _ h => h) (by assumption) (.inl ⟨by rfl, ?_⟩) ?_
          rotate_left
          · (intro wS hwS; (try dsimp only at hwS); go_simp; (try with_reducible rfl))
          (try simp only [Act.put, List.setIfInBounds_toArray, List.set_cons_zero, List.set_cons_succ])
          refine ru_take 4 [] (v := ?_) rfl (by kernel_rfl) (fun _ _ _ h => h) (by assumption) (.inl ⟨by rfl, ?_⟩) ?_
          rotate_left
          · (intro wS hwS; (try dsimp only at hwS); go_simp; (try with_reducible rfl))
          (try simp only [Act.put, List.setIfInBounds_toArray, List.set_cons_zero, List.set_cons_succ])
          refine ru_three 2 6 7 rfl rfl rfl (by kernel_rfl) ?_ ?_ ?_
          · intro K hK
            go_simp
            refine (rin_c lo hi _ _ b s (-1) _ (FD.at 3 rfl : HasB lo hi _ (.slice (some ⟨x, ox, none⟩) b.accs.length c) (.slice a' b.mvs.length c') b) HOK.out (by first | omega | (simp; omega)) (by omega)).mono ?_
            rintro e wa1 ⟨rfl, hg1⟩
            have hz1 := hg1.size
            (try simp at hz1)
            simp only [Sp.v]
            have G1 := FD.gn hg1
            have s1_0 : World.cell? _ ⟨w.heap.size, 0, none⟩ = some (.slice (some ⟨x, ox, none⟩) b.accs.length c) := (G1.at 2 rfl : Bk _ w.heap.size 25 #[.slice (some ⟨x, ox, none⟩) b.accs.length c, .slice a' b.mvs.length c']).cell 0
            have s1_1 : World.cell? _ ⟨w.heap.size, 1, none⟩ = some (.slice a' b.mvs.length c') := (G1.at 2 rfl : Bk _ w.heap.size 25 #[.slice (some ⟨x, ox, none⟩) b.accs.length c, .slice a' b.mvs.length c']).cell 1
            refine ru_back hK (by exact ⟨s1_0, s1_1⟩) (fun hHeld => ?_)
            clear hK K
            (try simp only [Act.put, List.setIfInBounds_toArray, List.set_cons_zero, List.set_cons_succ])
            clear s1_0 s1_1
            refine ru_three 5 6 7 rfl rfl rfl (by kernel_rfl) ?_ ?_ ?_
            · intro K hK
              go_simp
              refine (rout_c lo hi _ _ b s (-1) _ (G1.at 3 rfl : HasB lo hi _ (.slice (some ⟨x, ox, none⟩) b.accs.length c) (.slice a' b.mvs.length c') b) HOK.out (by first | omega | (simp; omega)) (by omega)).mono ?_
              rintro e wb2 ⟨rfl, hg2⟩
              have hz2 := hg2.size
              (try simp at hz2)
              simp only [Sp.v]
              have G2 := G1.gn hg2
              have s2_0 : World.cell? _ ⟨w.heap.size, 0, none⟩ = some (.slice (some ⟨x, ox, none⟩) b.accs.length c) := (G2.at 2 rfl : Bk _ w.heap.size 25 #[.slice (some ⟨x, ox, none⟩) b.accs.length c, .slice a' b.mvs.length c']).cell 0
              have s2_1 : World.cell? _ ⟨w.heap.size, 1, none⟩ = some (.slice a' b.mvs.length c') := (G2.at 2 rfl : Bk _ w.heap.size 25 #[.slice (some ⟨x, ox, none⟩) b.accs.length c, .slice a' b.mvs.length c']).cell 1
              refine ru_back hK (by exact ⟨s2_0, s2_1⟩) (fun hHeld => ?_)
              clear hK K
              (try simp only [Act.put, List.setIfInBounds_toArray, List.set_cons_zero, List.set_cons_succ])
              clear s2_0 s2_1
              refine ru_two 6 7 rfl rfl (by kernel_rfl) ?_ ?_
              · intro K hK
                go_simp
                have G3 := G2.new 40 #[.int .i64 0, .int .i64 0] (n := wb2.heap.size) (by simp)
                have s3_0 : World.cell? _ ⟨w.heap.size, 0, none⟩ = some (.slice (some ⟨x, ox, none⟩) b.accs.length c) := (G3.at 3 rfl : Bk _ w.heap.size 25 #[.slice (some ⟨x, ox, none⟩) b.accs.length c, .slice a' b.mvs.length c']).cell 0
                have s3_1 : World.cell? _ ⟨w.heap.size, 1, none⟩ = some (.slice a' b.mvs.length c') := (G3.at 3 rfl : Bk _ w.heap.size 25 #[.slice (some ⟨x, ox, none⟩) b.accs.length c, .slice a' b.mvs.length c']).cell 1
                refine ru_back hK (by exact ⟨s3_0, s3_1⟩) (fun hHeld => ?_)
                clear hK K
                (try simp only [Act.put, List.setIfInBounds_toArray, List.set_cons_zero, List.set_cons_succ])
                clear s3_0 s3_1
                refine ru_one 7 rfl (by kernel_rfl) (fun K hK => ?_)
                go_simp
                have G4 := G3.new 40 #[.int .i64 0, .int .i64 0] (n := (wb2.heap.size + 1)) (by simp)
                have s4_0 : World.cell? _ ⟨w.heap.size, 0, none⟩ = some (.slice (some ⟨x, ox, none⟩) b.accs.length c) := (G4.at 4 rfl : Bk _ w.heap.size 25 #[.slice (some ⟨x, ox, none⟩) b.accs.length c, .slice a' b.mvs.length c']).cell 0
                have s4_1 : World.cell? _ ⟨w.heap.size, 1, none⟩ = some (.slice a' b.mvs.length c') := (G4.at 4 rfl : Bk _ w.heap.size 25 #[.slice (some ⟨x, ox, none⟩) b.accs.length c, .slice a' b.mvs.length c']).cell 1
                refine ru_back hK (by exact ⟨s4_0, s4_1⟩) (fun hHeld => ?_)
                clear hK K
                (try simp only [Act.put, List.setIfInBounds_toArray, List.set_cons_zero, List.set_cons_succ])
                clear s4_0 s4_1
                refine ru_one 8 rfl (by kernel_rfl) (fun K hK => ?_)
                have k5 : Bk _ wb2.heap.size 40 #[.int .i64 0, .int .i64 0] := G4.at 1 rfl
                have c5 := k5.c2
                have l5 := k5.lt
                go_simp
                clear c5 l5 k5
                have G5 := ((G2.new 40 #[.int .i64 (inS b s (-1)).lo, .int .i64 (inS b s (-1)).hi] (n := wb2.heap.size) (by simp)).new 40 #[.int .i64 0, .int .i64 0] (n := (wb2.heap.size + 1)) (by simp))
                have s5_0 : World.cell? _ ⟨w.heap.size, 0, none⟩ = some (.slice (some ⟨x, ox, none⟩) b.accs.length c) := (G5.at 4 rfl : Bk _ w.heap.size 25 #[.slice (some ⟨x, ox, none⟩) b.accs.length c, .slice a' b.mvs.length c']).cell 0
                have s5_1 : World.cell? _ ⟨w.heap.size, 1, none⟩ = some (.slice a' b.mvs.length c') := (G5.at 4 rfl : Bk _ w.heap.size 25 #[.slice (some ⟨x, ox, none⟩) b.accs.length c, .slice a' b.mvs.length c']).cell 1
                refine ru_back hK (by exact ⟨s5_0, s5_1⟩) (fun hHeld => ?_)
                clear hK K
                (try simp only [Act.put, List.setIfInBounds_toArray, List.set_cons_zero, List.set_cons_succ])
                clear s5_0 s5_1
                refine ru_one 9 rfl (by kernel_rfl) (fun K hK => ?_)
                have k6 : Bk _ (wb2.heap.size + 1) 40 #[.int .i64 0, .int .i64 0] := G5.at 0 rfl
                have c6 := k6.c2
                have l6 := k6.lt
                go_simp
                clear c6 l6 k6
                have G6 := ((G2.new 40 #[.int .i64 (inS b s (-1)).lo, .int .i64 (inS b s (-1)).hi] (n := wb2.heap.size) (by simp)).new 40 #[.int .i64 (outS b s (-1)).lo, .int .i64 (outS b s (-1)).hi] (n := (wb2.heap.size + 1)) (by simp))
                have s6_0 : World.cell? _ ⟨w.heap.size, 0, none⟩ = some (.slice (some ⟨x, ox, none⟩) b.accs.length c) := (G6.at 4 rfl : Bk _ w.heap.size 25 #[.slice (some ⟨x, ox, none⟩) b.accs.length c, .slice a' b.mvs.length c']).cell 0
                have s6_1 : World.cell? _ ⟨w.heap.size, 1, none⟩ = some (.slice a' b.mvs.length c') := (G6.at 4 rfl : Bk _ w.heap.size 25 #[.slice (some ⟨x, ox, none⟩) b.accs.length c, .slice a' b.mvs.length c']).cell 1
                refine ru_back_late hK (by kernel_rfl) ?_
                clear hK K
                (try simp only [Act.put, List.setIfInBounds_toArray, List.set_cons_zero, List.set_cons_succ])
                clear s6_0 s6_1
                refine ru_done (by kernel_rfl) ?_
                exact ⟨rfl, rfl, wb2.heap.size, (wb2.heap.size + 1), rfl, rfl, rfl, rfl, rfl, rfl, rfl, G6.perm (List.Perm.swap _ _ _)⟩
              · intro K hK
                go_simp
                have G3 := G2.new 40 #[.int .i64 0, .int .i64 0] (n := wb2.heap.size) (by simp)
                have s3_0 : World.cell? _ ⟨w.heap.size, 0, none⟩ = some (.slice (some ⟨x, ox, none⟩) b.accs.length c) := (G3.at 3 rfl : Bk _ w.heap.size 25 #[.slice (some ⟨x, ox, none⟩) b.accs.length c, .slice a' b.mvs.length c']).cell 0
                have s3_1 : World.cell? _ ⟨w.heap.size, 1, none⟩ = some (.slice a' b.mvs.length c') := (G3.at 3 rfl : Bk _ w.heap.size 25 #[.slice (some ⟨x, ox, none⟩) b.accs.length c, .slice a' b.mvs.length c']).cell 1
                refine ru_back hK (by exact ⟨s3_0, s3_1⟩) (fun hHeld => ?_)
                clear hK K
                (try simp only [Act.put, List.setIfInBounds_toArray, List.set_cons_zero, List.set_cons_succ])
                clear s3_0 s3_1
                refine ru_one 6 rfl (by kernel_rfl) (fun K hK => ?_)
                go_simp
                have G4 := G3.new 40 #[.int .i64 0, .int .i64 0] (n := (wb2.heap.size + 1)) (by simp)
                have s4_0 : World.cell? _ ⟨w.heap.size, 0, none⟩ = some (.slice (some ⟨x, ox, none⟩) b.accs.length c) := (G4.at 4 rfl : Bk _ w.heap.size 25 #[.slice (some ⟨x, ox, none⟩) b.accs.length c, .slice a' b.mvs.length c']).cell 0
                have s4_1 : World.cell? _ ⟨w.heap.size, 1, none⟩ = some (.slice a' b.mvs.length c') := (G4.at 4 rfl : Bk _ w.heap.size 25 #[.slice (some ⟨x, ox, none⟩) b.accs.length c, .slice a' b.mvs.length c']).cell 1
                refine ru_back hK (by exact ⟨s4_0, s4_1⟩) (fun hHeld => ?_)
                clear hK K
                (try simp only [Act.put, List.setIfInBounds_toArray, List.set_cons_zero, List.set_cons_succ])
                clear s4_0 s4_1
                refine ru_one 8 rfl (by kernel_rfl) (fun K hK => ?_)
                have k5 : Bk _ (wb2.heap.size + 1) 40 #[.int .i64 0, .int .i64 0] := G4.at 0 rfl
                have c5 := k5.c2
                have l5 := k5.lt
                go_simp
                clear c5 l5 k5
                have G5 := ((G2.new 40 #[.int .i64 0, .int .i64 0] (n := wb2.heap.size) (by simp)).new 40 #[.int .i64 (inS b s (-1)).lo, .int .i64 (inS b s (-1)).hi] (n := (wb2.heap.size + 1)) (by simp))
                have s5_0 : World.cell? _ ⟨w.heap.size, 0, none⟩ = some (.slice (some ⟨x, ox, none⟩) b.accs.length c) := (G5.at 4 rfl : Bk _ w.heap.size 25 #[.slice (some ⟨x, ox, none⟩) b.accs.length c, .slice a' b.mvs.length c']).cell 0
                have s5_1 : World.cell? _ ⟨w.heap.size, 1, none⟩ = some (.slice a' b.mvs.length c') := (G5.at 4 rfl : Bk _ w.heap.size 25 #[.slice (some ⟨x, ox, none⟩) b.accs.length c, .slice a' b.mvs.length c']).cell 1
                refine ru_back hK (by exact ⟨s5_0, s5_1⟩) (fun hHeld => ?_)
                clear hK K
                (try simp only [Act.put, List.setIfInBounds_toArray, List.set_cons_zero, List.set_cons_succ])
                clear s5_0 s5_1
                refine ru_one 9 rfl (by kernel_rfl) (fun K hK => ?_)
                have k6 : Bk _ wb2.heap.size 40 #[.int .i64 0, .int .i64 0] := G5.at 1 rfl
                have c6 := k6.c2
                have l6 := k6.lt
                go_simp
                clear c6 l6 k6
                have G6 := ((G2.new 40 #[.int .i64 (outS b s (-1)).lo, .int .i64 (outS b s (-1)).hi] (n := wb2.heap.size) (by simp)).new 40 #[.int .i64 (inS b s (-1)).lo, .int .i64 (inS b s (-1)).hi] (n := (wb2.heap.size + 1)) (by simp))
                have s6_0 : World.cell? _ ⟨w.heap.size, 0, none⟩ = some (.slice (some ⟨x, ox, none⟩) b.accs.length c) := (G6.at 4 rfl : Bk _ w.heap.size 25 #[.slice (some ⟨x, ox, none⟩) b.accs.length c, .slice a' b.mvs.length c']).cell 0
                have s6_1 : World.cell? _ ⟨w.heap.size, 1, none⟩ = some (.slice a' b.mvs.length c') := (G6.at 4 rfl : Bk _ w.heap.size 25 #[.slice (some ⟨x, ox, none⟩) b.accs.length c, .slice a' b.mvs.length c']).cell 1
                refine ru_back_late hK (by kernel_rfl) ?_
                clear hK K
                (try simp only [Act.put, List.setIfInBounds_toArray, List.set_cons_zero, List.set_cons_succ])
                clear s6_0 s6_1
                refine ru_done (by kernel_rfl) ?_
                exact ⟨rfl, rfl, (wb2.heap.size + 1), wb2.heap.size, rfl, rfl, rfl, rfl, rfl, rfl, rfl, G6⟩
            · intro K hK
              go_simp
              have G2 := G1.new 40 #[.int .i64 0, .int .i64 0] (n := wa1.heap.size) (by simp)
              have s2_0 : World.cell? _ ⟨w.heap.size, 0, none⟩ = some (.slice (some ⟨x, ox, none⟩) b.accs.length c) := (G2.at 3 rfl : Bk _ w.heap.size 25 #[.slice (some ⟨x, ox, none⟩) b.accs.length c, .slice a' b.mvs.length c']).cell 0
              have s2_1 : World.cell? _ ⟨w.heap.size, 1, none⟩ = some (.slice a' b.mvs.length c') := (G2.at 3 rfl : Bk _ w.heap.size 25 #[.slice (some ⟨x, ox, none⟩) b.accs.length c, .slice a' b.mvs.length c']).cell 1
              refine ru_back hK (by exact ⟨s2_0, s2_1⟩) (fun hHeld => ?_)
              clear hK K
              (try simp only [Act.put, List.setIfInBounds_toArray, List.set_cons_zero, List.set_cons_succ])
              clear s2_0 s2_1
              refine ru_two 5 7 rfl rfl (by kernel_rfl) ?_ ?_
              · intro K hK
                go_simp
                refine (rout_c lo hi _ _ b s (-1) _ (G2.at 4 rfl : HasB lo hi _ (.slice (some ⟨x, ox, none⟩) b.accs.length c) (.slice a' b.mvs.length c') b) HOK.out (by first | omega | (simp; omega)) (by omega)).mono ?_
                rintro e wb3 ⟨rfl, hg3⟩
                have hz3 := hg3.size
                (try simp at hz3)
                simp only [Sp.v]
                have G3 := G2.gn hg3
                have s3_0 : World.cell? _ ⟨w.heap.size, 0, none⟩ = some (.slice (some ⟨x, ox, none⟩) b.accs.length c) := (G3.at 3 rfl : Bk _ w.heap.size 25 #[.slice (some ⟨x, ox, none⟩) b.accs.length c, .slice a' b.mvs.length c']).cell 0
                have s3_1 : World.cell? _ ⟨w.heap.size, 1, none⟩ = some (.slice a' b.mvs.length c') := (G3.at 3 rfl : Bk _ w.heap.size 25 #[.slice (some ⟨x, ox, none⟩) b.accs.length c, .slice a' b.mvs.length c']).cell 1
                refine ru_back hK (by exact ⟨s3_0, s3_1⟩) (fun hHeld => ?_)
                clear hK K
                (try simp only [Act.put, List.setIfInBounds_toArray, List.set_cons_zero, List.set_cons_succ])
                clear s3_0 s3_1
                refine ru_one 7 rfl (by kernel_rfl) (fun K hK => ?_)
                go_simp
                have G4 := G3.new 40 #[.int .i64 0, .int .i64 0] (n := wb3.heap.size) (by simp)
                have s4_0 : World.cell? _ ⟨w.heap.size, 0, none⟩ = some (.slice (some ⟨x, ox, none⟩) b.accs.length c) := (G4.at 4 rfl : Bk _ w.heap.size 25 #[.slice (some ⟨x, ox, none⟩) b.accs.length c, .slice a' b.mvs.length c']).cell 0
                have s4_1 : World.cell? _ ⟨w.heap.size, 1, none⟩ = some (.slice a' b.mvs.length c') := (G4.at 4 rfl : Bk _ w.heap.size 25 #[.slice (some ⟨x, ox, none⟩) b.accs.length c, .slice a' b.mvs.length c']).cell 1
                refine ru_back hK (by exact ⟨s4_0, s4_1⟩) (fun hHeld => ?_)
                clear hK K
                (try simp only [Act.put, List.setIfInBounds_toArray, List.set_cons_zero, List.set_cons_succ])
                clear s4_0 s4_1
                refine ru_one 8 rfl (by kernel_rfl) (fun K hK => ?_)
                have k5 : Bk _ wa1.heap.size 40 #[.int .i64 0, .int .i64 0] := G4.at 1 rfl
                have c5 := k5.c2
                have l5 := k5.lt
                go_simp
                clear c5 l5 k5
                have G5 := ((G4.front 1 rfl rfl).set 0 (.int .i64 (inS b s (-1)).lo)).set 1 (.int .i64 (inS b s (-1)).hi)
                have s5_0 : World.cell? _ ⟨w.heap.size, 0, none⟩ = some (.slice (some ⟨x, ox, none⟩) b.accs.length c) := (G5.at 4 rfl : Bk _ w.heap.size 25 #[.slice (some ⟨x, ox, none⟩) b.accs.length c, .slice a' b.mvs.length c']).cell 0
                have s5_1 : World.cell? _ ⟨w.heap.size, 1, none⟩ = some (.slice a' b.mvs.length c') := (G5.at 4 rfl : Bk _ w.heap.size 25 #[.slice (some ⟨x, ox, none⟩) b.accs.length c, .slice a' b.mvs.length c']).cell 1
                refine ru_back hK (by exact ⟨s5_0, s5_1⟩) (fun hHeld => ?_)
                clear hK K
                (try simp only [Act.put, List.setIfInBounds_toArray, List.set_cons_zero, List.set_cons_succ])
                clear s5_0 s5_1
                refine ru_one 9 rfl (by kernel_rfl) (fun K hK => ?_)
                have k6 : Bk _ wb3.heap.size 40 #[.int .i64 0, .int .i64 0] := G5.at 1 rfl
                have c6 := k6.c2
                have l6 := k6.lt
                go_simp
                clear c6 l6 k6
                have G6 := ((G5.front 1 rfl rfl).set 0 (.int .i64 (outS b s (-1)).lo)).set 1 (.int .i64 (outS b s (-1)).hi)
                have s6_0 : World.cell? _ ⟨w.heap.size, 0, none⟩ = some (.slice (some ⟨x, ox, none⟩) b.accs.length c) := (G6.at 4 rfl : Bk _ w.heap.size 25 #[.slice (some ⟨x, ox, none⟩) b.accs.length c, .slice a' b.mvs.length c']).cell 0
                have s6_1 : World.cell? _ ⟨w.heap.size, 1, none⟩ = some (.slice a' b.mvs.length c') := (G6.at 4 rfl : Bk _ w.heap.size 25 #[.slice (some ⟨x, ox, none⟩) b.accs.length c, .slice a' b.mvs.length c']).cell 1
                refine ru_back_late hK (by kernel_rfl) ?_
                clear hK K
                (try simp only [Act.put, List.setIfInBounds_toArray, List.set_cons_zero, List.set_cons_succ])
                clear s6_0 s6_1
                refine ru_done (by kernel_rfl) ?_
                exact ⟨rfl, rfl, wa1.heap.size, wb3.heap.size, rfl, rfl, rfl, rfl, rfl, rfl, rfl, G6.perm (List.Perm.swap _ _ _)⟩
              · intro K hK
                go_simp
                have G3 := G2.new 40 #[.int .i64 0, .int .i64 0] (n := (wa1.heap.size + 1)) (by simp)
                have s3_0 : World.cell? _ ⟨w.heap.size, 0, none⟩ = some (.slice (some ⟨x, ox, none⟩) b.accs.length c) := (G3.at 4 rfl : Bk _ w.heap.size 25 #[.slice (some ⟨x, ox, none⟩) b.accs.length c, .slice a' b.mvs.length c']).cell 0
                have s3_1 : World.cell? _ ⟨w.heap.size, 1, none⟩ = some (.slice a' b.mvs.length c') := (G3.at 4 rfl : Bk _ w.heap.size 25 #[.slice (some ⟨x, ox, none⟩) b.accs.length c, .slice a' b.mvs.length c']).cell 1
                refine ru_back hK (by exact ⟨s3_0, s3_1⟩) (fun hHeld => ?_)
                clear hK K
                (try simp only [Act.put, List.setIfInBounds_toArray, List.set_cons_zero, List.set_cons_succ])
                clear s3_0 s3_1
                refine ru_one 5 rfl (by kernel_rfl) (fun K hK => ?_)
                go_simp
                refine (rout_c lo hi _ _ b s (-1) _ (G3.at 5 rfl : HasB lo hi _ (.slice (some ⟨x, ox, none⟩) b.accs.length c) (.slice a' b.mvs.length c') b) HOK.out (by first | omega | (simp; omega)) (by omega)).mono ?_
                rintro e wb4 ⟨rfl, hg4⟩
                have hz4 := hg4.size
                (try simp at hz4)
                simp only [Sp.v]
                have G4 := G3.gn hg4
                have s4_0 : World.cell? _ ⟨w.heap.size, 0, none⟩ = some (.slice (some ⟨x, ox, none⟩) b.accs.length c) := (G4.at 4 rfl : Bk _ w.heap.size 25 #[.slice (some ⟨x, ox, none⟩) b.accs.length c, .slice a' b.mvs.length c']).cell 0
                have s4_1 : World.cell? _ ⟨w.heap.size, 1, none⟩ = some (.slice a' b.mvs.length c') := (G4.at 4 rfl : Bk _ w.heap.size 25 #[.slice (some ⟨x, ox, none⟩) b.accs.length c, .slice a' b.mvs.length c']).cell 1
                refine ru_back hK (by exact ⟨s4_0, s4_1⟩) (fun hHeld => ?_)
                clear hK K
                (try simp only [Act.put, List.setIfInBounds_toArray, List.set_cons_zero, List.set_cons_succ])
                clear s4_0 s4_1
                refine ru_one 8 rfl (by kernel_rfl) (fun K hK => ?_)
                have k5 : Bk _ wa1.heap.size 40 #[.int .i64 0, .int .i64 0] := G4.at 1 rfl
                have c5 := k5.c2
                have l5 := k5.lt
                go_simp
                clear c5 l5 k5
                have G5 := ((G4.front 1 rfl rfl).set 0 (.int .i64 (inS b s (-1)).lo)).set 1 (.int .i64 (inS b s (-1)).hi)
                have s5_0 : World.cell? _ ⟨w.heap.size, 0, none⟩ = some (.slice (some ⟨x, ox, none⟩) b.accs.length c) := (G5.at 4 rfl : Bk _ w.heap.size 25 #[.slice (some ⟨x, ox, none⟩) b.accs.length c, .slice a' b.mvs.length c']).cell 0
                have s5_1 : World.cell? _ ⟨w.heap.size, 1, none⟩ = some (.slice a' b.mvs.length c') := (G5.at 4 rfl : Bk _ w.heap.size 25 #[.slice (some ⟨x, ox, none⟩) b.accs.length c, .slice a' b.mvs.length c']).cell 1
                refine ru_back hK (by exact ⟨s5_0, s5_1⟩) (fun hHeld => ?_)
                clear hK K
                (try simp only [Act.put, List.setIfInBounds_toArray, List.set_cons_zero, List.set_cons_succ])
                clear s5_0 s5_1
                refine ru_one 9 rfl (by kernel_rfl) (fun K hK => ?_)
                have k6 : Bk _ (wa1.heap.size + 1) 40 #[.int .i64 0, .int .i64 0] := G5.at 1 rfl
                have c6 := k6.c2
                have l6 := k6.lt
                go_simp
                clear c6 l6 k6
                have G6 := ((G5.front 1 rfl rfl).set 0 (.int .i64 (outS b s (-1)).lo)).set 1 (.int .i64 (outS b s (-1)).hi)
                have s6_0 : World.cell? _ ⟨w.heap.size, 0, none⟩ = some (.slice (some ⟨x, ox, none⟩) b.accs.length c) := (G6.at 4 rfl : Bk _ w.heap.size 25 #[.slice (some ⟨x, ox, none⟩) b.accs.length c, .slice a' b.mvs.length c']).cell 0
                have s6_1 : World.cell? _ ⟨w.heap.size, 1, none⟩ = some (.slice a' b.mvs.length c') := (G6.at 4 rfl : Bk _ w.heap.size 25 #[.slice (some ⟨x, ox, none⟩) b.accs.length c, .slice a' b.mvs.length c']).cell 1
                refine ru_back_late hK (by kernel_rfl) ?_
                clear hK K
                (try simp only [Act.put, List.setIfInBounds_toArray, List.set_cons_zero, List.set_cons_succ])
                clear s6_0 s6_1
                refine ru_done (by kernel_rfl) ?_
                exact ⟨rfl, rfl, wa1.heap.size, (wa1.heap.size + 1), rfl, rfl, rfl, rfl, rfl, rfl, rfl, G6.perm (List.Perm.swap _ _ _)⟩
            · intro K hK
              go_simp
              have G2 := G1.new 40 #[.int .i64 0, .int .i64 0] (n := wa1.heap.size) (by simp)
              have s2_0 : World.cell? _ ⟨w.heap.size, 0, none⟩ = some (.slice (some ⟨x, ox, none⟩) b.accs.length c) := (G2.at 3 rfl : Bk _ w.heap.size 25 #[.slice (some ⟨x, ox, none⟩) b.accs.length c, .slice a' b.mvs.length c']).cell 0
              have s2_1 : World.cell? _ ⟨w.heap.size, 1, none⟩ = some (.slice a' b.mvs.length c') := (G2.at 3 rfl : Bk _ w.heap.size 25 #[.slice (some ⟨x, ox, none⟩) b.accs.length c, .slice a' b.mvs.length c']).cell 1
              refine ru_back hK (by exact ⟨s2_0, s2_1⟩) (fun hHeld => ?_)
              clear hK K
              (try simp only [Act.put, List.setIfInBounds_toArray, List.set_cons_zero, List.set_cons_succ])
              clear s2_0 s2_1
              refine ru_two 5 6 rfl rfl (by kernel_rfl) ?_ ?_
              · intro K hK
                go_simp
                refine (rout_c lo hi _ _ b s (-1) _ (G2.at 4 rfl : HasB lo hi _ (.slice (some ⟨x, ox, none⟩) b.accs.length c) (.slice a' b.mvs.length c') b) HOK.out (by first | omega | (simp; omega)) (by omega)).mono ?_
                rintro e wb3 ⟨rfl, hg3⟩
                have hz3 := hg3.size
                (try simp at hz3)
                simp only [Sp.v]
                have G3 := G2.gn hg3
                have s3_0 : World.cell? _ ⟨w.heap.size, 0, none⟩ = some (.slice (some ⟨x, ox, none⟩) b.accs.length c) := (G3.at 3 rfl : Bk _ w.heap.size 25 #[.slice (some ⟨x, ox, none⟩) b.accs.length c, .slice a' b.mvs.length c']).cell 0
                have s3_1 : World.cell? _ ⟨w.heap.size, 1, none⟩ = some (.slice a' b.mvs.length c') := (G3.at 3 rfl : Bk _ w.heap.size 25 #[.slice (some ⟨x, ox, none⟩) b.accs.length c, .slice a' b.mvs.length c']).cell 1
                refine ru_back hK (by exact ⟨s3_0, s3_1⟩) (fun hHeld => ?_)
                clear hK K
                (try simp only [Act.put, List.setIfInBounds_toArray, List.set_cons_zero, List.set_cons_succ])
                clear s3_0 s3_1
                refine ru_one 6 rfl (by kernel_rfl) (fun K hK => ?_)
                go_simp
                have G4 := G3.new 40 #[.int .i64 0, .int .i64 0] (n := wb3.heap.size) (by simp)
                have s4_0 : World.cell? _ ⟨w.heap.size, 0, none⟩ = some (.slice (some ⟨x, ox, none⟩) b.accs.length c) := (G4.at 4 rfl : Bk _ w.heap.size 25 #[.slice (some ⟨x, ox, none⟩) b.accs.length c, .slice a' b.mvs.length c']).cell 0
                have s4_1 : World.cell? _ ⟨w.heap.size, 1, none⟩ = some (.slice a' b.mvs.length c') := (G4.at 4 rfl : Bk _ w.heap.size 25 #[.slice (some ⟨x, ox, none⟩) b.accs.length c, .slice a' b.mvs.length c']).cell 1
                refine ru_back hK (by exact ⟨s4_0, s4_1⟩) (fun hHeld => ?_)
                clear hK K
                (try simp only [Act.put, List.setIfInBounds_toArray, List.set_cons_zero, List.set_cons_succ])
                clear s4_0 s4_1
                refine ru_one 8 rfl (by kernel_rfl) (fun K hK => ?_)
                have k5 : Bk _ wb3.heap.size 40 #[.int .i64 0, .int .i64 0] := G4.at 0 rfl
                have c5 := k5.c2
                have l5 := k5.lt
                go_simp
                clear c5 l5 k5
                have G5 := (G3.new 40 #[.int .i64 (inS b s (-1)).lo, .int .i64 (inS b s (-1)).hi] (n := wb3.heap.size) (by simp))
                have s5_0 : World.cell? _ ⟨w.heap.size, 0, none⟩ = some (.slice (some ⟨x, ox, none⟩) b.accs.length c) := (G5.at 4 rfl : Bk _ w.heap.size 25 #[.slice (some ⟨x, ox, none⟩) b.accs.length c, .slice a' b.mvs.length c']).cell 0
                have s5_1 : World.cell? _ ⟨w.heap.size, 1, none⟩ = some (.slice a' b.mvs.length c') := (G5.at 4 rfl : Bk _ w.heap.size 25 #[.slice (some ⟨x, ox, none⟩) b.accs.length c, .slice a' b.mvs.length c']).cell 1
                refine ru_back hK (by exact ⟨s5_0, s5_1⟩) (fun hHeld => ?_)
                clear hK K
                (try simp only [Act.put, List.setIfInBounds_toArray, List.set_cons_zero, List.set_cons_succ])
                clear s5_0 s5_1
                refine ru_one 9 rfl (by kernel_rfl) (fun K hK => ?_)
                have k6 : Bk _ wa1.heap.size 40 #[.int .i64 0, .int .i64 0] := G5.at 1 rfl
                have c6 := k6.c2
                have l6 := k6.lt
                go_simp
                clear c6 l6 k6
                have G6 := ((G5.front 1 rfl rfl).set 0 (.int .i64 (outS b s (-1)).lo)).set 1 (.int .i64 (outS b s (-1)).hi)
                have s6_0 : World.cell? _ ⟨w.heap.size, 0, none⟩ = some (.slice (some ⟨x, ox, none⟩) b.accs.length c) := (G6.at 4 rfl : Bk _ w.heap.size 25 #[.slice (some ⟨x, ox, none⟩) b.accs.length c, .slice a' b.mvs.length c']).cell 0
                have s6_1 : World.cell? _ ⟨w.heap.size, 1, none⟩ = some (.slice a' b.mvs.length c') := (G6.at 4 rfl : Bk _ w.heap.size 25 #[.slice (some ⟨x, ox, none⟩) b.accs.length c, .slice a' b.mvs.length c']).cell 1
                refine ru_back_late hK (by kernel_rfl) ?_
                clear hK K
                (try simp only [Act.put, List.setIfInBounds_toArray, List.set_cons_zero, List.set_cons_succ])
                clear s6_0 s6_1
                refine ru_done (by kernel_rfl) ?_
                exact ⟨rfl, rfl, wb3.heap.size, wa1.heap.size, rfl, rfl, rfl, rfl, rfl, rfl, rfl, G6.perm (List.Perm.swap _ _ _)⟩
              · intro K hK
                go_simp
                have G3 := G2.new 40 #[.int .i64 0, .int .i64 0] (n := (wa1.heap.size + 1)) (by simp)
                have s3_0 : World.cell? _ ⟨w.heap.size, 0, none⟩ = some (.slice (some ⟨x, ox, none⟩) b.accs.length c) := (G3.at 4 rfl : Bk _ w.heap.size 25 #[.slice (some ⟨x, ox, none⟩) b.accs.length c, .slice a' b.mvs.length c']).cell 0
                have s3_1 : World.cell? _ ⟨w.heap.size, 1, none⟩ = some (.slice a' b.mvs.length c') := (G3.at 4 rfl : Bk _ w.heap.size 25 #[.slice (some ⟨x, ox, none⟩) b.accs.length c, .slice a' b.mvs.length c']).cell 1
                refine ru_back hK (by exact ⟨s3_0, s3_1⟩) (fun hHeld => ?_)
                clear hK K
                (try simp only [Act.put, List.setIfInBounds_toArray, List.set_cons_zero, List.set_cons_succ])
                clear s3_0 s3_1
                refine ru_one 5 rfl (by kernel_rfl) (fun K hK => ?_)
                go_simp
                refine (rout_c lo hi _ _ b s (-1) _ (G3.at 5 rfl : HasB lo hi _ (.slice (some ⟨x, ox, none⟩) b.accs.length c) (.slice a' b.mvs.length c') b) HOK.out (by first | omega | (simp; omega)) (by omega)).mono ?_
                rintro e wb4 ⟨rfl, hg4⟩
                have hz4 := hg4.size
                (try simp at hz4)
                simp only [Sp.v]
                have G4 := G3.gn hg4
                have s4_0 : World.cell? _ ⟨w.heap.size, 0, none⟩ = some (.slice (some ⟨x, ox, none⟩) b.accs.length c) := (G4.at 4 rfl : Bk _ w.heap.size 25 #[.slice (some ⟨x, ox, none⟩) b.accs.length c, .slice a' b.mvs.length c']).cell 0
                have s4_1 : World.cell? _ ⟨w.heap.size, 1, none⟩ = some (.slice a' b.mvs.length c') := (G4.at 4 rfl : Bk _ w.heap.size 25 #[.slice (some ⟨x, ox, none⟩) b.accs.length c, .slice a' b.mvs.length c']).cell 1
                refine ru_back hK (by exact ⟨s4_0, s4_1⟩) (fun hHeld => ?_)
                clear hK K
                (try simp only [Act.put, List.setIfInBounds_toArray, List.set_cons_zero, List.set_cons_succ])
                clear s4_0 s4_1
                refine ru_one 8 rfl (by kernel_rfl) (fun K hK => ?_)
                have k5 : Bk _ (wa1.heap.size + 1) 40 #[.int .i64 0, .int .i64 0] := G4.at 0 rfl
                have c5 := k5.c2
                have l5 := k5.lt
                go_simp
                clear c5 l5 k5
                have G5 := (G4.set 0 (.int .i64 (inS b s (-1)).lo)).set 1 (.int .i64 (inS b s (-1)).hi)
                have s5_0 : World.cell? _ ⟨w.heap.size, 0, none⟩ = some (.slice (some ⟨x, ox, none⟩) b.accs.length c) := (G5.at 4 rfl : Bk _ w.heap.size 25 #[.slice (some ⟨x, ox, none⟩) b.accs.length c, .slice a' b.mvs.length c']).cell 0
                have s5_1 : World.cell? _ ⟨w.heap.size, 1, none⟩ = some (.slice a' b.mvs.length c') := (G5.at 4 rfl : Bk _ w.heap.size 25 #[.slice (some ⟨x, ox, none⟩) b.accs.length c, .slice a' b.mvs.length c']).cell 1
                refine ru_back hK (by exact ⟨s5_0, s5_1⟩) (fun hHeld => ?_)
                clear hK K
                (try simp only [Act.put, List.setIfInBounds_toArray, List.set_cons_zero, List.set_cons_succ])
                clear s5_0 s5_1
                refine ru_one 9 rfl (by kernel_rfl) (fun K hK => ?_)
                have k6 : Bk _ wa1.heap.size 40 #[.int .i64 0, .int .i64 0] := G5.at 1 rfl
                have c6 := k6.c2
                have l6 := k6.lt
                go_simp
                clear c6 l6 k6
                have G6 := ((G5.front 1 rfl rfl).set 0 (.int .i64 (outS b s (-1)).lo)).set 1 (.int .i64 (outS b s (-1)).hi)
                have s6_0 : World.cell? _ ⟨w.heap.size, 0, none⟩ = some (.slice (some ⟨x, ox, none⟩) b.accs.length c) := (G6.at 4 rfl : Bk _ w.heap.size 25 #[.slice (some ⟨x, ox, none⟩) b.accs.length c, .slice a' b.mvs.length c']).cell 0
                have s6_1 : World.cell? _ ⟨w.heap.size, 1, none⟩ = some (.slice a' b.mvs.length c') := (G6.at 4 rfl : Bk _ w.heap.size 25 #[.slice (some ⟨x, ox, none⟩) b.accs.length c, .slice a' b.mvs.length c']).cell 1
                refine ru_back_late hK (by kernel_rfl) ?_
                clear hK K
                (try simp only [Act.put, List.setIfInBounds_toArray, List.set_cons_zero, List.set_cons_succ])
                clear s6_0 s6_1
                refine ru_done (by kernel_rfl) ?_
                exact ⟨rfl, rfl, (wa1.heap.size + 1), wa1.heap.size, rfl, rfl, rfl, rfl, rfl, rfl, rfl, G6.perm (List.Perm.swap _ _ _)⟩
          · intro K hK
            go_simp
            have G1 := FD.new 40 #[.int .i64 0, .int .i64 0] (n := w2.heap.size) (by simp)
            have s1_0 : World.cell? _ ⟨w.heap.size, 0, none⟩ = some (.slice (some ⟨x, ox, none⟩) b.accs.length c) := (G1.at 3 rfl : Bk _ w.heap.size 25 #[.slice (some ⟨x, ox, none⟩) b.accs.length c, .slice a' b.mvs.length c']).cell 0
            have s1_1 : World.cell? _ ⟨w.heap.size, 1, none⟩ = some (.slice a' b.mvs.length c') := (G1.at 3 rfl : Bk _ w.heap.size 25 #[.slice (some ⟨x, ox, none⟩) b.accs.length c, .slice a' b.mvs.length c']).cell 1
            refine ru_back hK (by exact ⟨s1_0, s1_1⟩) (fun hHeld => ?_)
            clear hK K
            (try simp only [Act.put, List.setIfInBounds_toArray, List.set_cons_zero, List.set_cons_succ])
            clear s1_0 s1_1
            refine ru_two 2 7 rfl rfl (by kernel_rfl) ?_ ?_
            · intro K hK
              go_simp
              refine (rin_c lo hi _ _ b s (-1) _ (G1.at 4 rfl : HasB lo hi _ (.slice (some ⟨x, ox, none⟩) b.accs.length c) (.slice a' b.mvs.length c') b) HOK.out (by first | omega | (simp; omega)) (by omega)).mono ?_
              rintro e wa2 ⟨rfl, hg2⟩
              have hz2 := hg2.size
              (try simp at hz2)
              simp only [Sp.v]
              have G2 := G1.gn hg2
              have s2_0 : World.cell? _ ⟨w.heap.size, 0, none⟩ = some (.slice (some ⟨x, ox, none⟩) b.accs.length c) := (G2.at 3 rfl : Bk _ w.heap.size 25 #[.slice (some ⟨x, ox, none⟩) b.accs.length c, .slice a' b.mvs.length c']).cell 0
              have s2_1 : World.cell? _ ⟨w.heap.size, 1, none⟩ = some (.slice a' b.mvs.length c') := (G2.at 3 rfl : Bk _ w.heap.size 25 #[.slice (some ⟨x, ox, none⟩) b.accs.length c, .slice a' b.mvs.length c']).cell 1
              refine ru_back hK (by exact ⟨s2_0, s2_1⟩) (fun hHeld => ?_)
              clear hK K
              (try simp only [Act.put, List.setIfInBounds_toArray, List.set_cons_zero, List.set_cons_succ])
              clear s2_0 s2_1
              refine ru_two 5 7 rfl rfl (by kernel_rfl) ?_ ?_
              · intro K hK
                go_simp
                refine (rout_c lo hi _ _ b s (-1) _ (G2.at 4 rfl : HasB lo hi _ (.slice (some ⟨x, ox, none⟩) b.accs.length c) (.slice a' b.mvs.length c') b) HOK.out (by first | omega | (simp; omega)) (by omega)).mono ?_
                rintro e wb3 ⟨rfl, hg3⟩
                have hz3 := hg3.size
                (try simp at hz3)
                simp only [Sp.v]
                have G3 := G2.gn hg3
                have s3_0 : World.cell? _ ⟨w.heap.size, 0, none⟩ = some (.slice (some ⟨x, ox, none⟩) b.accs.length c) := (G3.at 3 rfl : Bk _ w.heap.size 25 #[.slice (some ⟨x, ox, none⟩) b.accs.length c, .slice a' b.mvs.length c']).cell 0
                have s3_1 : World.cell? _ ⟨w.heap.size, 1, none⟩ = some (.slice a' b.mvs.length c') := (G3.at 3 rfl : Bk _ w.heap.size 25 #[.slice (some ⟨x, ox, none⟩) b.accs.length c, .slice a' b.mvs.length c']).cell 1
                refine ru_back hK (by exact ⟨s3_0, s3_1⟩) (fun hHeld => ?_)
                clear hK K
                (try simp only [Act.put, List.setIfInBounds_toArray, List.set_cons_zero, List.set_cons_succ])
                clear s3_0 s3_1
                refine ru_one 7 rfl (by kernel_rfl) (fun K hK => ?_)
                go_simp
                have G4 := G3.new 40 #[.int .i64 0, .int .i64 0] (n := wb3.heap.size) (by simp)
                have s4_0 : World.cell? _ ⟨w.heap.size, 0, none⟩ = some (.slice (some ⟨x, ox, none⟩) b.accs.length c) := (G4.at 4 rfl : Bk _ w.heap.size 25 #[.slice (some ⟨x, ox, none⟩) b.accs.length c, .slice a' b.mvs.length c']).cell 0
                have s4_1 : World.cell? _ ⟨w.heap.size, 1, none⟩ = some (.slice a' b.mvs.length c') := (G4.at 4 rfl : Bk _ w.heap.size 25 #[.slice (some ⟨x, ox, none⟩) b.accs.length c, .slice a' b.mvs.length c']).cell 1
                refine ru_back hK (by exact ⟨s4_0, s4_1⟩) (fun hHeld => ?_)
                clear hK K
                (try simp only [Act.put, List.setIfInBounds_toArray, List.set_cons_zero, List.set_cons_succ])
                clear s4_0 s4_1
                refine ru_one 8 rfl (by kernel_rfl) (fun K hK => ?_)
                have k5 : Bk _ w2.heap.size 40 #[.int .i64 0, .int .i64 0] := G4.at 1 rfl
                have c5 := k5.c2
                have l5 := k5.lt
                go_simp
                clear c5 l5 k5
                have G5 := ((G4.front 1 rfl rfl).set 0 (.int .i64 (inS b s (-1)).lo)).set 1 (.int .i64 (inS b s (-1)).hi)
                have s5_0 : World.cell? _ ⟨w.heap.size, 0, none⟩ = some (.slice (some ⟨x, ox, none⟩) b.accs.length c) := (G5.at 4 rfl : Bk _ w.heap.size 25 #[.slice (some ⟨x, ox, none⟩) b.accs.length c, .slice a' b.mvs.length c']).cell 0
                have s5_1 : World.cell? _ ⟨w.heap.size, 1, none⟩ = some (.slice a' b.mvs.length c') := (G5.at 4 rfl : Bk _ w.heap.size 25 #[.slice (some ⟨x, ox, none⟩) b.accs.length c, .slice a' b.mvs.length c']).cell 1
                refine ru_back hK (by exact ⟨s5_0, s5_1⟩) (fun hHeld => ?_)
                clear hK K
                (try simp only [Act.put, List.setIfInBounds_toArray, List.set_cons_zero, List.set_cons_succ])
                clear s5_0 s5_1
                refine ru_one 9 rfl (by kernel_rfl) (fun K hK => ?_)
                have k6 : Bk _ wb3.heap.size 40 #[.int .i64 0, .int .i64 0] := G5.at 1 rfl
                have c6 := k6.c2
                have l6 := k6.lt
                go_simp
                clear c6 l6 k6
                have G6 := ((G5.front 1 rfl rfl).set 0 (.int .i64 (outS b s (-1)).lo)).set 1 (.int .i64 (outS b s (-1)).hi)
                have s6_0 : World.cell? _ ⟨w.heap.size, 0, none⟩ = some (.slice (some ⟨x, ox, none⟩) b.accs.length c) := (G6.at 4 rfl : Bk _ w.heap.size 25 #[.slice (some ⟨x, ox, none⟩) b.accs.length c, .slice a' b.mvs.length c']).cell 0
                have s6_1 : World.cell? _ ⟨w.heap.size, 1, none⟩ = some (.slice a' b.mvs.length c') := (G6.at 4 rfl : Bk _ w.heap.size 25 #[.slice (some ⟨x, ox, none⟩) b.accs.length c, .slice a' b.mvs.length c']).cell 1
                refine ru_back_late hK (by kernel_rfl) ?_
                clear hK K
                (try simp only [Act.put, List.setIfInBounds_toArray, List.set_cons_zero, List.set_cons_succ])
                clear s6_0 s6_1
                refine ru_done (by kernel_rfl) ?_
                exact ⟨rfl, rfl, w2.heap.size, wb3.heap.size, rfl, rfl, rfl, rfl, rfl, rfl, rfl, G6.perm (List.Perm.swap _ _ _)⟩
              · intro K hK
                go_simp
                have G3 := G2.new 40 #[.int .i64 0, .int .i64 0] (n := wa2.heap.size) (by simp)
                have s3_0 : World.cell? _ ⟨w.heap.size, 0, none⟩ = some (.slice (some ⟨x, ox, none⟩) b.accs.length c) := (G3.at 4 rfl : Bk _ w.heap.size 25 #[.slice (some ⟨x, ox, none⟩) b.accs.length c, .slice a' b.mvs.length c']).cell 0
                have s3_1 : World.cell? _ ⟨w.heap.size, 1, none⟩ = some (.slice a' b.mvs.length c') := (G3.at 4 rfl : Bk _ w.heap.size 25 #[.slice (some ⟨x, ox, none⟩) b.accs.length c, .slice a' b.mvs.length c']).cell 1
                refine ru_back hK (by exact ⟨s3_0, s3_1⟩) (fun hHeld => ?_)
                clear hK K
                (try simp only [Act.put, List.setIfInBounds_toArray, List.set_cons_zero, List.set_cons_succ])
                clear s3_0 s3_1
                refine ru_one 5 rfl (by kernel_rfl) (fun K hK => ?_)
                go_simp
                refine (rout_c lo hi _ _ b s (-1) _ (G3.at 5 rfl : HasB lo hi _ (.slice (some ⟨x, ox, none⟩) b.accs.length c) (.slice a' b.mvs.length c') b) HOK.out (by first | omega | (simp; omega)) (by omega)).mono ?_
                rintro e wb4 ⟨rfl, hg4⟩
                have hz4 := hg4.size
                (try simp at hz4)
                simp only [Sp.v]
                have G4 := G3.gn hg4
                have s4_0 : World.cell? _ ⟨w.heap.size, 0, none⟩ = some (.slice (some ⟨x, ox, none⟩) b.accs.length c) := (G4.at 4 rfl : Bk _ w.heap.size 25 #[.slice (some ⟨x, ox, none⟩) b.accs.length c, .slice a' b.mvs.length c']).cell 0
                have s4_1 : World.cell? _ ⟨w.heap.size, 1, none⟩ = some (.slice a' b.mvs.length c') := (G4.at 4 rfl : Bk _ w.heap.size 25 #[.slice (some ⟨x, ox, none⟩) b.accs.length c, .slice a' b.mvs.length c']).cell 1
                refine ru_back hK (by exact ⟨s4_0, s4_1⟩) (fun hHeld => ?_)
                clear hK K
                (try simp only [Act.put, List.setIfInBounds_toArray, List.set_cons_zero, List.set_cons_succ])
                clear s4_0 s4_1
                refine ru_one 8 rfl (by kernel_rfl) (fun K hK => ?_)
                have k5 : Bk _ w2.heap.size 40 #[.int .i64 0, .int .i64 0] := G4.at 1 rfl
                have c5 := k5.c2
                have l5 := k5.lt
                go_simp
                clear c5 l5 k5
                have G5 := ((G4.front 1 rfl rfl).set 0 (.int .i64 (inS b s (-1)).lo)).set 1 (.int .i64 (inS b s (-1)).hi)
                have s5_0 : World.cell? _ ⟨w.heap.size, 0, none⟩ = some (.slice (some ⟨x, ox, none⟩) b.accs.length c) := (G5.at 4 rfl : Bk _ w.heap.size 25 #[.slice (some ⟨x, ox, none⟩) b.accs.length c, .slice a' b.mvs.length c']).cell 0
                have s5_1 : World.cell? _ ⟨w.heap.size, 1, none⟩ = some (.slice a' b.mvs.length c') := (G5.at 4 rfl : Bk _ w.heap.size 25 #[.slice (some ⟨x, ox, none⟩) b.accs.length c, .slice a' b.mvs.length c']).cell 1
                refine ru_back hK (by exact ⟨s5_0, s5_1⟩) (fun hHeld => ?_)
                clear hK K
                (try simp only [Act.put, List.setIfInBounds_toArray, List.set_cons_zero, List.set_cons_succ])
                clear s5_0 s5_1
                refine ru_one 9 rfl (by kernel_rfl) (fun K hK => ?_)
                have k6 : Bk _ wa2.heap.size 40 #[.int .i64 0, .int .i64 0] := G5.at 1 rfl
                have c6 := k6.c2
                have l6 := k6.lt
                go_simp
                clear c6 l6 k6
                have G6 := ((G5.front 1 rfl rfl).set 0 (.int .i64 (outS b s (-1)).lo)).set 1 (.int .i64 (outS b s (-1)).hi)
                have s6_0 : World.cell? _ ⟨w.heap.size, 0, none⟩ = some (.slice (some ⟨x, ox, none⟩) b.accs.length c) := (G6.at 4 rfl : Bk _ w.heap.size 25 #[.slice (some ⟨x, ox, none⟩) b.accs.length c, .slice a' b.mvs.length c']).cell 0
                have s6_1 : World.cell? _ ⟨w.heap.size, 1, none⟩ = some (.slice a' b.mvs.length c') := (G6.at 4 rfl : Bk _ w.heap.size 25 #[.slice (some ⟨x, ox, none⟩) b.accs.length c, .slice a' b.mvs.length c']).cell 1
                refine ru_back_late hK (by kernel_rfl) ?_
                clear hK K
                (try simp only [Act.put, List.setIfInBounds_toArray, List.set_cons_zero, List.set_cons_succ])
                clear s6_0 s6_1
                refine ru_done (by kernel_rfl) ?_
                exact ⟨rfl, rfl, w2.heap.size, wa2.heap.size, rfl, rfl, rfl, rfl, rfl, rfl, rfl, G6.perm (List.Perm.swap _ _ _)⟩
            · intro K hK
              go_simp
              have G2 := G1.new 40 #[.int .i64 0, .int .i64 0] (n := (w2.heap.size + 1)) (by simp)
              have s2_0 : World.cell? _ ⟨w.heap.size, 0, none⟩ = some (.slice (some ⟨x, ox, none⟩) b.accs.length c) := (G2.at 4 rfl : Bk _ w.heap.size 25 #[.slice (some ⟨x, ox, none⟩) b.accs.length c, .slice a' b.mvs.length c']).cell 0
              have s2_1 : World.cell? _ ⟨w.heap.size, 1, none⟩ = some (.slice a' b.mvs.length c') := (G2.at 4 rfl : Bk _ w.heap.size 25 #[.slice (some ⟨x, ox, none⟩) b.accs.length c, .slice a' b.mvs.length c']).cell 1
              refine ru_back hK (by exact ⟨s2_0, s2_1⟩) (fun hHeld => ?_)
              clear hK K
              (try simp only [Act.put, List.setIfInBounds_toArray, List.set_cons_zero, List.set_cons_succ])
              clear s2_0 s2_1
              refine ru_one 2 rfl (by kernel_rfl) (fun K hK => ?_)
              go_simp
              refine (rin_c lo hi _ _ b s (-1) _ (G2.at 5 rfl : HasB lo hi _ (.slice (some ⟨x, ox, none⟩) b.accs.length c) (.slice a' b.mvs.length c') b) HOK.out (by first | omega | (simp; omega)) (by omega)).mono ?_
              rintro e wa3 ⟨rfl, hg3⟩
              have hz3 := hg3.size
              (try simp at hz3)
              simp only [Sp.v]
              have G3 := G2.gn hg3
              have s3_0 : World.cell? _ ⟨w.heap.size, 0, none⟩ = some (.slice (some ⟨x, ox, none⟩) b.accs.length c) := (G3.at 4 rfl : Bk _ w.heap.size 25 #[.slice (some ⟨x, ox, none⟩) b.accs.length c, .slice a' b.mvs.length c']).cell 0
              have s3_1 : World.cell? _ ⟨w.heap.size, 1, none⟩ = some (.slice a' b.mvs.length c') := (G3.at 4 rfl : Bk _ w.heap.size 25 #[.slice (some ⟨x, ox, none⟩) b.accs.length c, .slice a' b.mvs.length c']).cell 1
              refine ru_back hK (by exact ⟨s3_0, s3_1⟩) (fun hHeld => ?_)
              clear hK K
              (try simp only [Act.put, List.setIfInBounds_toArray, List.set_cons_zero, List.set_cons_succ])
              clear s3_0 s3_1
              refine ru_one 5 rfl (by kernel_rfl) (fun K hK => ?_)
              go_simp
              refine (rout_c lo hi _ _ b s (-1) _ (G3.at 5 rfl : HasB lo hi _ (.slice (some ⟨x, ox, none⟩) b.accs.length c) (.slice a' b.mvs.length c') b) HOK.out (by first | omega | (simp; omega)) (by omega)).mono ?_
              rintro e wb4 ⟨rfl, hg4⟩
              have hz4 := hg4.size
              (try simp at hz4)
              simp only [Sp.v]
              have G4 := G3.gn hg4
              have s4_0 : World.cell? _ ⟨w.heap.size, 0, none⟩ = some (.slice (some ⟨x, ox, none⟩) b.accs.length c) := (G4.at 4 rfl : Bk _ w.heap.size 25 #[.slice (some ⟨x, ox, none⟩) b.accs.length c, .slice a' b.mvs.length c']).cell 0
              have s4_1 : World.cell? _ ⟨w.heap.size, 1, none⟩ = some (.slice a' b.mvs.length c') := (G4.at 4 rfl : Bk _ w.heap.size 25 #[.slice (some ⟨x, ox, none⟩) b.accs.length c, .slice a' b.mvs.length c']).cell 1
              refine ru_back hK (by exact ⟨s4_0, s4_1⟩) (fun hHeld => ?_)
              clear hK K
              (try simp only [Act.put, List.setIfInBounds_toArray, List.set_cons_zero, List.set_cons_succ])
              clear s4_0 s4_1
              refine ru_one 8 rfl (by kernel_rfl) (fun K hK => ?_)
              have k5 : Bk _ w2.heap.size 40 #[.int .i64 0, .int .i64 0] := G4.at 1 rfl
              have c5 := k5.c2
              have l5 := k5.lt
              go_simp
              clear c5 l5 k5
              have G5 := ((G4.front 1 rfl rfl).set 0 (.int .i64 (inS b s (-1)).lo)).set 1 (.int .i64 (inS b s (-1)).hi)
              have s5_0 : World.cell? _ ⟨w.heap.size, 0, none⟩ = some (.slice (some ⟨x, ox, none⟩) b.accs.length c) := (G5.at 4 rfl : Bk _ w.heap.size 25 #[.slice (some ⟨x, ox, none⟩) b.accs.length c, .slice a' b.mvs.length c']).cell 0
              have s5_1 : World.cell? _ ⟨w.heap.size, 1, none⟩ = some (.slice a' b.mvs.length c') := (G5.at 4 rfl : Bk _ w.heap.size 25 #[.slice (some ⟨x, ox, none⟩) b.accs.length c, .slice a' b.mvs.length c']).cell 1
              refine ru_back hK (by exact ⟨s5_0, s5_1⟩) (fun hHeld => ?_)
              clear hK K
              (try simp only [Act.put, List.setIfInBounds_toArray, List.set_cons_zero, List.set_cons_succ])
              clear s5_0 s5_1
              refine ru_one 9 rfl (by kernel_rfl) (fun K hK => ?_)
              have k6 : Bk _ (w2.heap.size + 1) 40 #[.int .i64 0, .int .i64 0] := G5.at 1 rfl
              have c6 := k6.c2
              have l6 := k6.lt
              go_simp
              clear c6 l6 k6
              have G6 := ((G5.front 1 rfl rfl).set 0 (.int .i64 (outS b s (-1)).lo)).set 1 (.int .i64 (outS b s (-1)).hi)
              have s6_0 : World.cell? _ ⟨w.heap.size, 0, none⟩ = some (.slice (some ⟨x, ox, none⟩) b.accs.length c) := (G6.at 4 rfl : Bk _ w.heap.size 25 #[.slice (some ⟨x, ox, none⟩) b.accs.length c, .slice a' b.mvs.length c']).cell 0
              have s6_1 : World.cell? _ ⟨w.heap.size, 1, none⟩ = some (.slice a' b.mvs.length c') := (G6.at 4 rfl : Bk _ w.heap.size 25 #[.slice (some ⟨x, ox, none⟩) b.accs.length c, .slice a' b.mvs.length c']).cell 1
              refine ru_back_late hK (by kernel_rfl) ?_
              clear hK K
              (try simp only [Act.put, List.setIfInBounds_toArray, List.set_cons_zero, List.set_cons_succ])
              clear s6_0 s6_1
              refine ru_done (by kernel_rfl) ?_
              exact ⟨rfl, rfl, w2.heap.size, (w2.heap.size + 1), rfl, rfl, rfl, rfl, rfl, rfl, rfl, G6.perm (List.Perm.swap _ _ _)⟩
          · intro K hK
            go_simp
            have G1 := FD.new 40 #[.int .i64 0, .int .i64 0] (n := w2.heap.size) (by simp)
            have s1_0 : World.cell? _ ⟨w.heap.size, 0, none⟩ = some (.slice (some ⟨x, ox, none⟩) b.accs.length c) := (G1.at 3 rfl : Bk _ w.heap.size 25 #[.slice (some ⟨x, ox, none⟩) b.accs.length c, .slice a' b.mvs.length c']).cell 0
            have s1_1 : World.cell? _ ⟨w.heap.size, 1, none⟩ = some (.slice a' b.mvs.length c') := (G1.at 3 rfl : Bk _ w.heap.size 25 #[.slice (some ⟨x, ox, none⟩) b.accs.length c, .slice a' b.mvs.length c']).cell 1
            refine ru_back hK (by exact ⟨s1_0, s1_1⟩) (fun hHeld => ?_)
            clear hK K
            (try simp only [Act.put, List.setIfInBounds_toArray, List.set_cons_zero, List.set_cons_succ])
            clear s1_0 s1_1
            refine ru_two 2 6 rfl rfl (by kernel_rfl) ?_ ?_
            · intro K hK
              go_simp
              refine (rin_c lo hi _ _ b s (-1) _ (G1.at 4 rfl : HasB lo hi _ (.slice (some ⟨x, ox, none⟩) b.accs.length c) (.slice a' b.mvs.length c') b) HOK.out (by first | omega | (simp; omega)) (by omega)).mono ?_
              rintro e wa2 ⟨rfl, hg2⟩
              have hz2 := hg2.size
              (try simp at hz2)
              simp only [Sp.v]
              have G2 := G1.gn hg2
              have s2_0 : World.cell? _ ⟨w.heap.size, 0, none⟩ = some (.slice (some ⟨x, ox, none⟩) b.accs.length c) := (G2.at 3 rfl : Bk _ w.heap.size 25 #[.slice (some ⟨x, ox, none⟩) b.accs.length c, .slice a' b.mvs.length c']).cell 0
              have s2_1 : World.cell? _ ⟨w.heap.size, 1, none⟩ = some (.slice a' b.mvs.length c') := (G2.at 3 rfl : Bk _ w.heap.size 25 #[.slice (some ⟨x, ox, none⟩) b.accs.length c, .slice a' b.mvs.length c']).cell 1
              refine ru_back hK (by exact ⟨s2_0, s2_1⟩) (fun hHeld => ?_)
              clear hK K
              (try simp only [Act.put, List.setIfInBounds_toArray, List.set_cons_zero, List.set_cons_succ])
              clear s2_0 s2_1
              refine ru_two 5 6 rfl rfl (by kernel_rfl) ?_ ?_
              · intro K hK
                go_simp
                refine (rout_c lo hi _ _ b s (-1) _ (G2.at 4 rfl : HasB lo hi _ (.slice (some ⟨x, ox, none⟩) b.accs.length c) (.slice a' b.mvs.length c') b) HOK.out (by first | omega | (simp; omega)) (by omega)).mono ?_
                rintro e wb3 ⟨rfl, hg3⟩
                have hz3 := hg3.size
                (try simp at hz3)
                simp only [Sp.v]
                have G3 := G2.gn hg3
                have s3_0 : World.cell? _ ⟨w.heap.size, 0, none⟩ = some (.slice (some ⟨x, ox, none⟩) b.accs.length c) := (G3.at 3 rfl : Bk _ w.heap.size 25 #[.slice (some ⟨x, ox, none⟩) b.accs.length c, .slice a' b.mvs.length c']).cell 0
                have s3_1 : World.cell? _ ⟨w.heap.size, 1, none⟩ = some (.slice a' b.mvs.length c') := (G3.at 3 rfl : Bk _ w.heap.size 25 #[.slice (some ⟨x, ox, none⟩) b.accs.length c, .slice a' b.mvs.length c']).cell 1
                refine ru_back hK (by exact ⟨s3_0, s3_1⟩) (fun hHeld => ?_)
                clear hK K
                (try simp only [Act.put, List.setIfInBounds_toArray, List.set_cons_zero, List.set_cons_succ])
                clear s3_0 s3_1
                refine ru_one 6 rfl (by kernel_rfl) (fun K hK => ?_)
                go_simp
                have G4 := G3.new 40 #[.int .i64 0, .int .i64 0] (n := wb3.heap.size) (by simp)
                have s4_0 : World.cell? _ ⟨w.heap.size, 0, none⟩ = some (.slice (some ⟨x, ox, none⟩) b.accs.length c) := (G4.at 4 rfl : Bk _ w.heap.size 25 #[.slice (some ⟨x, ox, none⟩) b.accs.length c, .slice a' b.mvs.length c']).cell 0
                have s4_1 : World.cell? _ ⟨w.heap.size, 1, none⟩ = some (.slice a' b.mvs.length c') := (G4.at 4 rfl : Bk _ w.heap.size 25 #[.slice (some ⟨x, ox, none⟩) b.accs.length c, .slice a' b.mvs.length c']).cell 1
                refine ru_back hK (by exact ⟨s4_0, s4_1⟩) (fun hHeld => ?_)
                clear hK K
                (try simp only [Act.put, List.setIfInBounds_toArray, List.set_cons_zero, List.set_cons_succ])
                clear s4_0 s4_1
                refine ru_one 8 rfl (by kernel_rfl) (fun K hK => ?_)
                have k5 : Bk _ wb3.heap.size 40 #[.int .i64 0, .int .i64 0] := G4.at 0 rfl
                have c5 := k5.c2
                have l5 := k5.lt
                go_simp
                clear c5 l5 k5
                have G5 := (G3.new 40 #[.int .i64 (inS b s (-1)).lo, .int .i64 (inS b s (-1)).hi] (n := wb3.heap.size) (by simp))
                have s5_0 : World.cell? _ ⟨w.heap.size, 0, none⟩ = some (.slice (some ⟨x, ox, none⟩) b.accs.length c) := (G5.at 4 rfl : Bk _ w.heap.size 25 #[.slice (some ⟨x, ox, none⟩) b.accs.length c, .slice a' b.mvs.length c']).cell 0
                have s5_1 : World.cell? _ ⟨w.heap.size, 1, none⟩ = some (.slice a' b.mvs.length c') := (G5.at 4 rfl : Bk _ w.heap.size 25 #[.slice (some ⟨x, ox, none⟩) b.accs.length c, .slice a' b.mvs.length c']).cell 1
                refine ru_back hK (by exact ⟨s5_0, s5_1⟩) (fun hHeld => ?_)
                clear hK K
                (try simp only [Act.put, List.setIfInBounds_toArray, List.set_cons_zero, List.set_cons_succ])
                clear s5_0 s5_1
                refine ru_one 9 rfl (by kernel_rfl) (fun K hK => ?_)
                have k6 : Bk _ w2.heap.size 40 #[.int .i64 0, .int .i64 0] := G5.at 1 rfl
                have c6 := k6.c2
                have l6 := k6.lt
                go_simp
                clear c6 l6 k6
                have G6 := ((G5.front 1 rfl rfl).set 0 (.int .i64 (outS b s (-1)).lo)).set 1 (.int .i64 (outS b s (-1)).hi)
                have s6_0 : World.cell? _ ⟨w.heap.size, 0, none⟩ = some (.slice (some ⟨x, ox, none⟩) b.accs.length c) := (G6.at 4 rfl : Bk _ w.heap.size 25 #[.slice (some ⟨x, ox, none⟩) b.accs.length c, .slice a' b.mvs.length c']).cell 0
                have s6_1 : World.cell? _ ⟨w.heap.size, 1, none⟩ = some (.slice a' b.mvs.length c') := (G6.at 4 rfl : Bk _ w.heap.size 25 #[.slice (some ⟨x, ox, none⟩) b.accs.length c, .slice a' b.mvs.length c']).cell 1
                refine ru_back_late hK (by kernel_rfl) ?_
                clear hK K
                (try simp only [Act.put, List.setIfInBounds_toArray, List.set_cons_zero, List.set_cons_succ])
                clear s6_0 s6_1
                refine ru_done (by kernel_rfl) ?_
                exact ⟨rfl, rfl, wb3.heap.size, w2.heap.size, rfl, rfl, rfl, rfl, rfl, rfl, rfl, G6.perm (List.Perm.swap _ _ _)⟩
              · intro K hK
                go_simp
                have G3 := G2.new 40 #[.int .i64 0, .int .i64 0] (n := wa2.heap.size) (by simp)
                have s3_0 : World.cell? _ ⟨w.heap.size, 0, none⟩ = some (.slice (some ⟨x, ox, none⟩) b.accs.length c) := (G3.at 4 rfl : Bk _ w.heap.size 25 #[.slice (some ⟨x, ox, none⟩) b.accs.length c, .slice a' b.mvs.length c']).cell 0
                have s3_1 : World.cell? _ ⟨w.heap.size, 1, none⟩ = some (.slice a' b.mvs.length c') := (G3.at 4 rfl : Bk _ w.heap.size 25 #[.slice (some ⟨x, ox, none⟩) b.accs.length c, .slice a' b.mvs.length c']).cell 1
                refine ru_back hK (by exact ⟨s3_0, s3_1⟩) (fun hHeld => ?_)
                clear hK K
                (try simp only [Act.put, List.setIfInBounds_toArray, List.set_cons_zero, List.set_cons_succ])
                clear s3_0 s3_1
                refine ru_one 5 rfl (by kernel_rfl) (fun K hK => ?_)
                go_simp
                refine (rout_c lo hi _ _ b s (-1) _ (G3.at 5 rfl : HasB lo hi _ (.slice (some ⟨x, ox, none⟩) b.accs.length c) (.slice a' b.mvs.length c') b) HOK.out (by first | omega | (simp; omega)) (by omega)).mono ?_
                rintro e wb4 ⟨rfl, hg4⟩
                have hz4 := hg4.size
                (try simp at hz4)
                simp only [Sp.v]
                have G4 := G3.gn hg4
                have s4_0 : World.cell? _ ⟨w.heap.size, 0, none⟩ = some (.slice (some ⟨x, ox, none⟩) b.accs.length c) := (G4.at 4 rfl : Bk _ w.heap.size 25 #[.slice (some ⟨x, ox, none⟩) b.accs.length c, .slice a' b.mvs.length c']).cell 0
                have s4_1 : World.cell? _ ⟨w.heap.size, 1, none⟩ = some (.slice a' b.mvs.length c') := (G4.at 4 rfl : Bk _ w.heap.size 25 #[.slice (some ⟨x, ox, none⟩) b.accs.length c, .slice a' b.mvs.length c']).cell 1
                refine ru_back hK (by exact ⟨s4_0, s4_1⟩) (fun hHeld => ?_)
                clear hK K
                (try simp only [Act.put, List.setIfInBounds_toArray, List.set_cons_zero, List.set_cons_succ])
                clear s4_0 s4_1
                refine ru_one 8 rfl (by kernel_rfl) (fun K hK => ?_)
                have k5 : Bk _ wa2.heap.size 40 #[.int .i64 0, .int .i64 0] := G4.at 0 rfl
                have c5 := k5.c2
                have l5 := k5.lt
                go_simp
                clear c5 l5 k5
                have G5 := (G4.set 0 (.int .i64 (inS b s (-1)).lo)).set 1 (.int .i64 (inS b s (-1)).hi)
                have s5_0 : World.cell? _ ⟨w.heap.size, 0, none⟩ = some (.slice (some ⟨x, ox, none⟩) b.accs.length c) := (G5.at 4 rfl : Bk _ w.heap.size 25 #[.slice (some ⟨x, ox, none⟩) b.accs.length c, .slice a' b.mvs.length c']).cell 0
                have s5_1 : World.cell? _ ⟨w.heap.size, 1, none⟩ = some (.slice a' b.mvs.length c') := (G5.at 4 rfl : Bk _ w.heap.size 25 #[.slice (some ⟨x, ox, none⟩) b.accs.length c, .slice a' b.mvs.length c']).cell 1
                refine ru_back hK (by exact ⟨s5_0, s5_1⟩) (fun hHeld => ?_)
                clear hK K
                (try simp only [Act.put, List.setIfInBounds_toArray, List.set_cons_zero, List.set_cons_succ])
                clear s5_0 s5_1
                refine ru_one 9 rfl (by kernel_rfl) (fun K hK => ?_)
                have k6 : Bk _ w2.heap.size 40 #[.int .i64 0, .int .i64 0] := G5.at 1 rfl
                have c6 := k6.c2
                have l6 := k6.lt
                go_simp
                clear c6 l6 k6
                have G6 := ((G5.front 1 rfl rfl).set 0 (.int .i64 (outS b s (-1)).lo)).set 1 (.int .i64 (outS b s (-1)).hi)
                have s6_0 : World.cell? _ ⟨w.heap.size, 0, none⟩ = some (.slice (some ⟨x, ox, none⟩) b.accs.length c) := (G6.at 4 rfl : Bk _ w.heap.size 25 #[.slice (some ⟨x, ox, none⟩) b.accs.length c, .slice a' b.mvs.length c']).cell 0
                have s6_1 : World.cell? _ ⟨w.heap.size, 1, none⟩ = some (.slice a' b.mvs.length c') := (G6.at 4 rfl : Bk _ w.heap.size 25 #[.slice (some ⟨x, ox, none⟩) b.accs.length c, .slice a' b.mvs.length c']).cell 1
                refine ru_back_late hK (by kernel_rfl) ?_
                clear hK K
                (try simp only [Act.put, List.setIfInBounds_toArray, List.set_cons_zero, List.set_cons_succ])
                clear s6_0 s6_1
                refine ru_done (by kernel_rfl) ?_
                exact ⟨rfl, rfl, wa2.heap.size, w2.heap.size, rfl, rfl, rfl, rfl, rfl, rfl, rfl, G6.perm (List.Perm.swap _ _ _)⟩
            · intro K hK
              go_simp
              have G2 := G1.new 40 #[.int .i64 0, .int .i64 0] (n := (w2.heap.size + 1)) (by simp)
              have s2_0 : World.cell? _ ⟨w.heap.size, 0, none⟩ = some (.slice (some ⟨x, ox, none⟩) b.accs.length c) := (G2.at 4 rfl : Bk _ w.heap.size 25 #[.slice (some ⟨x, ox, none⟩) b.accs.length c, .slice a' b.mvs.length c']).cell 0
              have s2_1 : World.cell? _ ⟨w.heap.size, 1, none⟩ = some (.slice a' b.mvs.length c') := (G2.at 4 rfl : Bk _ w.heap.size 25 #[.slice (some ⟨x, ox, none⟩) b.accs.length c, .slice a' b.mvs.length c']).cell 1
              refine ru_back hK (by exact ⟨s2_0, s2_1⟩) (fun hHeld => ?_)
              clear hK K
              (try simp only [Act.put, List.setIfInBounds_toArray, List.set_cons_zero, List.set_cons_succ])
              clear s2_0 s2_1
              refine ru_one 2 rfl (by kernel_rfl) (fun K hK => ?_)
              go_simp
              refine (rin_c lo hi _ _ b s (-1) _ (G2.at 5 rfl : HasB lo hi _ (.slice (some ⟨x, ox, none⟩) b.accs.length c) (.slice a' b.mvs.length c') b) HOK.out (by first | omega | (simp; omega)) (by omega)).mono ?_
              rintro e wa3 ⟨rfl, hg3⟩
              have hz3 := hg3.size
              (try simp at hz3)
              simp only [Sp.v]
              have G3 := G2.gn hg3
              have s3_0 : World.cell? _ ⟨w.heap.size, 0, none⟩ = some (.slice (some ⟨x, ox, none⟩) b.accs.length c) := (G3.at 4 rfl : Bk _ w.heap.size 25 #[.slice (some ⟨x, ox, none⟩) b.accs.length c, .slice a' b.mvs.length c']).cell 0
              have s3_1 : World.cell? _ ⟨w.heap.size, 1, none⟩ = some (.slice a' b.mvs.length c') := (G3.at 4 rfl : Bk _ w.heap.size 25 #[.slice (some ⟨x, ox, none⟩) b.accs.length c, .slice a' b.mvs.length c']).cell 1
              refine ru_back hK (by exact ⟨s3_0, s3_1⟩) (fun hHeld => ?_)
              clear hK K
              (try simp only [Act.put, List.setIfInBounds_toArray, List.set_cons_zero, List.set_cons_succ])
              clear s3_0 s3_1
              refine ru_one 5 rfl (by kernel_rfl) (fun K hK => ?_)
              go_simp
              refine (rout_c lo hi _ _ b s (-1) _ (G3.at 5 rfl : HasB lo hi _ (.slice (some ⟨x, ox, none⟩) b.accs.length c) (.slice a' b.mvs.length c') b) HOK.out (by first | omega | (simp; omega)) (by omega)).mono ?_
              rintro e wb4 ⟨rfl, hg4⟩
              have hz4 := hg4.size
              (try simp at hz4)
              simp only [Sp.v]
              have G4 := G3.gn hg4
              have s4_0 : World.cell? _ ⟨w.heap.size, 0, none⟩ = some (.slice (some ⟨x, ox, none⟩) b.accs.length c) := (G4.at 4 rfl : Bk _ w.heap.size 25 #[.slice (some ⟨x, ox, none⟩) b.accs.length c, .slice a' b.mvs.length c']).cell 0
              have s4_1 : World.cell? _ ⟨w.heap.size, 1, none⟩ = some (.slice a' b.mvs.length c') := (G4.at 4 rfl : Bk _ w.heap.size 25 #[.slice (some ⟨x, ox, none⟩) b.accs.length c, .slice a' b.mvs.length c']).cell 1
              refine ru_back hK (by exact ⟨s4_0, s4_1⟩) (fun hHeld => ?_)
              clear hK K
              (try simp only [Act.put, List.setIfInBounds_toArray, List.set_cons_zero, List.set_cons_succ])
              clear s4_0 s4_1
              refine ru_one 8 rfl (by kernel_rfl) (fun K hK => ?_)
              have k5 : Bk _ (w2.heap.size + 1) 40 #[.int .i64 0, .int .i64 0] := G4.at 0 rfl
              have c5 := k5.c2
              have l5 := k5.lt
              go_simp
              clear c5 l5 k5
              have G5 := (G4.set 0 (.int .i64 (inS b s (-1)).lo)).set 1 (.int .i64 (inS b s (-1)).hi)
              have s5_0 : World.cell? _ ⟨w.heap.size, 0, none⟩ = some (.slice (some ⟨x, ox, none⟩) b.accs.length c) := (G5.at 4 rfl : Bk _ w.heap.size 25 #[.slice (some ⟨x, ox, none⟩) b.accs.length c, .slice a' b.mvs.length c']).cell 0
              have s5_1 : World.cell? _ ⟨w.heap.size, 1, none⟩ = some (.slice a' b.mvs.length c') := (G5.at 4 rfl : Bk _ w.heap.size 25 #[.slice (some ⟨x, ox, none⟩) b.accs.length c, .slice a' b.mvs.length c']).cell 1
              refine ru_back hK (by exact ⟨s5_0, s5_1⟩) (fun hHeld => ?_)
              clear hK K
              (try simp only [Act.put, List.setIfInBounds_toArray, List.set_cons_zero, List.set_cons_succ])
              clear s5_0 s5_1
              refine ru_one 9 rfl (by kernel_rfl) (fun K hK => ?_)
              have k6 : Bk _ w2.heap.size 40 #[.int .i64 0, .int .i64 0] := G5.at 1 rfl
              have c6 := k6.c2
              have l6 := k6.lt
              go_simp
              clear c6 l6 k6
              have G6 := ((G5.front 1 rfl rfl).set 0 (.int .i64 (outS b s (-1)).lo)).set 1 (.int .i64 (outS b s (-1)).hi)
              have s6_0 : World.cell? _ ⟨w.heap.size, 0, none⟩ = some (.slice (some ⟨x, ox, none⟩) b.accs.length c) := (G6.at 4 rfl : Bk _ w.heap.size 25 #[.slice (some ⟨x, ox, none⟩) b.accs.length c, .slice a' b.mvs.length c']).cell 0
              have s6_1 : World.cell? _ ⟨w.heap.size, 1, none⟩ = some (.slice a' b.mvs.length c') := (G6.at 4 rfl : Bk _ w.heap.size 25 #[.slice (some ⟨x, ox, none⟩) b.accs.length c, .slice a' b.mvs.length c']).cell 1
              refine ru_back_late hK (by kernel_rfl) ?_
              clear hK K
              (try simp only [Act.put, List.setIfInBounds_toArray, List.set_cons_zero, List.set_cons_succ])
              clear s6_0 s6_1
              refine ru_done (by kernel_rfl) ?_
              exact ⟨rfl, rfl, (w2.heap.size + 1), w2.heap.size, rfl, rfl, rfl, rfl, rfl, rfl, rfl, G6.perm (List.Perm.swap _ _ _)⟩
    · obtain rfl : s = P := by omega
      have HE := Lib.hid (lostR_end HOK.out ha HCA.out)
      rw [HP.out] at HE HL
      generalize lostR b k s = r at *
      have b250 : Bk _ (w.heap.size + 2) 40 #[.int .i64 r.lo, .int .i64 r.hi] := F25.at 0 rfl
      have l251 := b250.lt
      have q252 : World.cell? _ ⟨(w.heap.size + 2), 0, none⟩ = some (.int .i64 r.lo) := b250.cell 0
      have z253 := b250.frozen 0
      have q254 : World.cell? _ ⟨(w.heap.size + 2), 1, none⟩ = some (.int .i64 r.hi) := b250.cell 1
      have z255 := b250.frozen 1
      have b256 : Bk _ (w.heap.size + 1) 40 #[.int .i64 0, .int .i64 0] := F25.at 1 rfl
      have l257 := b256.lt
      have q258 : World.cell? _ ⟨(w.heap.size + 1), 0, none⟩ = some (.int .i64 0) := b256.cell 0
      have z259 := b256.frozen 0
      have q260 : World.cell? _ ⟨(w.heap.size + 1), 1, none⟩ = some (.int .i64 0) := b256.cell 1
      have z261 := b256.frozen 1
      go_wp2_with fail
      clear b250 l251 q252 z253 q254 z255 b256 l257 q258 z259 q260 z261
      have G : Bun w [rbox (w.heap.size + 1) 40 #[.int .i64 r.lo, .int .i64 r.hi], rbox (w.heap.size + 2) 40 #[.int .i64 r.lo, .int .i64 r.hi], rbox w.heap.size 25 #[.slice (some ⟨x, ox, none⟩) b.accs.length c, .slice a' b.mvs.length c'], rbook lo hi (.slice (some ⟨x, ox, none⟩) b.accs.length c) (.slice a' b.mvs.length c') b] _ := ((F25.front 1 rfl rfl).set 0 (.int .i64 r.lo)).set 1 (.int .i64 r.hi)
      have gb : Bk _ (w.heap.size + 1) 40 #[.int .i64 r.lo, .int .i64 r.hi] := G.at 0 rfl
      have gc := gb.c2
      exact bodyPost_ret (v := r.v) (by simp [results, Try.results71, go_sem, Sp.v, gc]) rfl ⟨by rw [HL.out, if_neg HKD.out, ← HE.out], G.gb⟩
  case atStart28 =>
    exact Lib.hid ⟨1, rfl, rfl, rfl, rfl, rfl, Nat.le_refl _, Nat.one_le_two_pow, rfl, by simpa [lostR, accF, neg1] using F18⟩
end Go.Proofs.Ytfifldbinnkdmaa
