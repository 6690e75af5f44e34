/- The reference: what all accounts lose. -/
import Derived.Test.YtfifldbinnkdmaaRef6
import Derived.Lib.MinMax
set_option linter.unusedVariables false
set_option linter.unusedSimpArgs false
set_option linter.unnecessarySimpa false
namespace Go.Proofs.Ytfifldbinnkdmaa
open Go.RowKit Go.Shelf
set_option maxRecDepth 100000

def totR (b : Bok) (i : Nat) : Sp := ⟨(totF b i).lo, neg1 (totF b i).hi⟩
theorem totF_bd {b : Bok} (h : BokOk b) : ∀ i, calm b i → ((0 ≤ (totF b i).lo ∧ (totF b i).lo ≤ 40000000000) ∧ 0 ≤ (totF b i).hi) ∧ ((totF b i).hi = 1125899906842624 ∨ (totF b i).hi ≤ 40000000000) := by
  intro i
  induction i with
  | zero => intro _; simp [totF]
  | succ i ih =>
    intro hc
    have a1 := ih (fun j hj => hc j (by omega))
    have a2 := most_bd h (hc i (by omega))
    have a3 := (grp_bd h i).1
    unfold totF
    dsimp only
    split <;> omega
theorem totR_step {b : Bok} (hok : BokOk b) {i : Nat} (hc : calm b i) (hi : clash (grp b i) = false) :
    totR b (i + 1) = ⟨max (totR b i).lo (grp b i).least, if (grp b i).rest = true ∧ ((totR b i).hi < 0 ∨ (grp b i).most < (totR b i).hi) then (grp b i).most else (totR b i).hi⟩ := by
  have a1 := totF_bd hok i hc
  have a2 := most_bd hok hi
  unfold totR
  rw [totF]
  generalize totF b i = z at *
  obtain ⟨zl, zh⟩ := z
  simp only at *
  cases (grp b i).rest
  · simp
  · simp only [if_true, true_and, Sp.mk.injEq]
    unfold neg1
    repeat' split
    all_goals omega
theorem totR_bd {b : Bok} (h : BokOk b) {i : Nat} (hc : calm b i) : (0 ≤ (totR b i).lo ∧ (totR b i).lo ≤ 40000000000) ∧ -1 ≤ (totR b i).hi ∧ (totR b i).hi ≤ 40000000000 := by
  have a1 := totF_bd h i hc
  unfold totR neg1
  dsimp only
  split <;> omega
theorem losesF_zero (b : Bok) (but : Int) : ∀ k, losesF b 0 but k = false := by
  intro k
  induction k with
  | zero => rfl
  | succ k ih => simp [losesF, ih, bitOf]
theorem totR_end {b : Bok} (h : BokOk b) (hc : calm b (2 ^ b.accs.length)) : totR b (2 ^ b.accs.length) = totF b (2 ^ b.accs.length) := by
  have hp : 0 < 2 ^ b.accs.length := Nat.two_pow_pos _
  have h1 : (totF b (2 ^ b.accs.length)).hi ≤ (grp b (2 ^ b.accs.length - 1)).most := by
    have e : 2 ^ b.accs.length = (2 ^ b.accs.length - 1) + 1 := by omega
    have hr : (grp b (2 ^ b.accs.length - 1)).rest = true := by
      rw [grp_rest h (by omega), show 2 ^ b.accs.length - 1 - (2 ^ b.accs.length - 1) = 0 by omega]
      simp [losesB, losesF_zero]
    generalize 2 ^ b.accs.length - 1 = m at *
    rw [e, totF]
    dsimp only
    rw [if_pos hr]
    omega
  have h3 := most_bd h (hc (2 ^ b.accs.length - 1) (by omega))
  unfold totR neg1
  rw [if_neg (by omega)]

set_option maxHeartbeats 8000000 in
theorem rtotal_c (lo hi : Nat) (va vm : Value) (b : Bok) (w : World) (hb : HasB lo hi w va vm b) (hok : BokOk b) (h2 : hi ≤ w.heap.size) (hcalm : calm b (2 ^ b.accs.length)) :
    Calls Try.prog 72 #[.agg #[va, vm]] w (Ret (lossT b).v w) := by
  obtain ⟨x, ox, c, a', c', rfl, rfl⟩ := hb.valA hok.n0
  have hn8 := hok.n8
  have hp8 := pow_le hn8
  have HOK := Lib.hid hok
  have HCA := Lib.hid hcalm
  clear hok hcalm
  have F1 : Bun w [rbook lo hi (.slice (some ⟨x, ox, none⟩) b.accs.length c) (.slice a' b.mvs.length c') b] _ := Bun.book hb h2
  clear hb
  go_enter Try.func72, Try.ntmps72
  have F2 : Bun w [rbox w.heap.size 25 #[.slice (some ⟨x, ox, none⟩) b.accs.length c, .slice a' b.mvs.length c'], rbook lo hi (.slice (some ⟨x, ox, none⟩) b.accs.length c) (.slice a' b.mvs.length c') b] _ := F1.new 25 #[.slice (some ⟨x, ox, none⟩) b.accs.length c, .slice a' b.mvs.length c'] (n := w.heap.size) (by simp)
  clear F1
  have F3 : Bun w [rbox (w.heap.size + 1) 40 #[.int .i64 0, .int .i64 0], rbox w.heap.size 25 #[.slice (some ⟨x, ox, none⟩) b.accs.length c, .slice a' b.mvs.length c'], rbook lo hi (.slice (some ⟨x, ox, none⟩) b.accs.length c) (.slice a' b.mvs.length c') b] _ := F2.new 40 #[.int .i64 0, .int .i64 0] (n := (w.heap.size + 1)) (by simp)
  clear F2
  go_wp2_with fail
  have F4 : Bun w [rbox (w.heap.size + 2) 40 #[.int .i64 0, .int .i64 (-1)], rbox (w.heap.size + 1) 40 #[.int .i64 0, .int .i64 0], rbox w.heap.size 25 #[.slice (some ⟨x, ox, none⟩) b.accs.length c, .slice a' b.mvs.length c'], rbook lo hi (.slice (some ⟨x, ox, none⟩) b.accs.length c) (.slice a' b.mvs.length c') b] _ := F3.new 40 #[.int .i64 0, .int .i64 (-1)] (n := (w.heap.size + 2)) (by simp)
  clear F3
  refine wp_loopS 54 rfl (fun t ds wr => Hid (∃ (s : Nat), t 1 = .pointer (some ⟨w.heap.size, 0, none⟩) ∧ t 2 = .pointer (some ⟨(w.heap.size + 1), 0, none⟩) ∧ t 3 = .pointer (some ⟨(w.heap.size + 2), 0, none⟩) ∧ t 4 = .int .i64 s ∧ s ≤ 2 ^ b.accs.length ∧ ds = [] ∧ Bun w [rbox (w.heap.size + 2) 40 #[.int .i64 (totR b s).lo, .int .i64 (totR b s).hi], rbox (w.heap.size + 1) 40 #[.int .i64 0, .int .i64 0], rbox w.heap.size 25 #[.slice (some ⟨x, ox, none⟩) b.accs.length c, .slice a' b.mvs.length c'], rbook lo hi (.slice (some ⟨x, ox, none⟩) b.accs.length c) (.slice a' b.mvs.length c') b] wr)) (fun t wr => 2 ^ b.accs.length - (intOf (t 4)).toNat) ?atStart30 ?round30
  case round30 =>
    intro t ds wr hHid
    obtain ⟨s, e1, e2, e3, e4, hrel⟩ := hHid.out
    clear hHid
    have e : ((List.range 54).map t).toArray = #[t 0, t 1, t 2, t 3, t 4, t 5, t 6, t 7, t 8, t 9, t 10, t 11, t 12, t 13, t 14, t 15, t 16, t 17, t 18, t 19, t 20, t 21, t 22, t 23, t 24, t 25, t 26, t 27, t 28, t 29, t 30, t 31, t 32, t 33, t 34, t 35, t 36, t 37, t 38, t 39, t 40, t 41, t 42, t 43, t 44, t 45, t 46, t 47, t 48, t 49, t 50, t 51, t 52, t 53] := rfl
    (try dsimp only at e)
    rw [e1, e2, e3, e4] at e
    rw [e]
    simp only [e4]
    clear e e1 e2 e3 e4
    clear F4
    obtain ⟨hs2, rfl, hF⟩ := hrel
    have b5 : Bk _ w.heap.size 25 #[.slice (some ⟨x, ox, none⟩) b.accs.length c, .slice a' b.mvs.length c'] := hF.at 2 rfl
    have l6 := b5.lt
    have q7 : World.cell? _ ⟨w.heap.size, 0, none⟩ = some (.slice (some ⟨x, ox, none⟩) b.accs.length c) := b5.cell 0
    have z8 := b5.frozen 0
    have q9 : World.cell? _ ⟨w.heap.size, 1, none⟩ = some (.slice a' b.mvs.length c') := b5.cell 1
    have z10 := b5.frozen 1
    go_wp2_with fail
    refine (rsets_c lo hi _ _ b _ (hF.at 3 rfl : HasB lo hi _ (.slice (some ⟨x, ox, none⟩) b.accs.length c) (.slice a' b.mvs.length c') b) hn8).mono ?_
    rintro e w1 ⟨rfl, hg1⟩
    clear b5 l6 q7 z8 q9 z10
    have F11 : Bun w [rbox (w.heap.size + 2) 40 #[.int .i64 (totR b s).lo, .int .i64 (totR b s).hi], rbox (w.heap.size + 1) 40 #[.int .i64 0, .int .i64 0], rbox w.heap.size 25 #[.slice (some ⟨x, ox, none⟩) b.accs.length c, .slice a' b.mvs.length c'], rbook lo hi (.slice (some ⟨x, ox, none⟩) b.accs.length c) (.slice a' b.mvs.length c') b] w1 := hF.gn hg1
    clear hF
    clear hg1
    obtain ⟨P, hP⟩ : ∃ P, 2 ^ b.accs.length = P := ⟨_, rfl⟩
    rw [hP] at hs2 hp8 ⊢
    have HP := Lib.hid hP
    clear hP
    by_cases hlt : s < P
    · skip
      have hcs : calm b s := fun j hj => HCA.out j (by rw [HP.out]; omega)
      have hcl : clash (grp b s) = false := HCA.out s (by rw [HP.out]; exact hlt)
      have HN := Lib.hid (totR_step HOK.out hcs hcl)
      have hbd := totR_bd HOK.out hcs
      generalize totR b s = r at *
      clear hcs hcl
      go_wp2_with fail
      refine wp_cutK 54 (fun t wr => ∃ (gx gy : Nat), t 1 = .pointer (some ⟨w.heap.size, 0, none⟩) ∧ t 2 = .pointer (some ⟨(w.heap.size + 1), 0, none⟩) ∧ t 3 = .pointer (some ⟨(w.heap.size + 2), 0, none⟩) ∧ t 4 = .int .i64 s ∧ t 5 = .pointer (some ⟨gx, 0, none⟩) ∧ t 6 = .pointer (some ⟨gy, 0, none⟩) ∧ Bun w [rbox gx 40 #[.int .i64 (inS b s (-1)).lo, .int .i64 (inS b s (-1)).hi], rbox gy 40 #[.int .i64 (outS b s (-1)).lo, .int .i64 (outS b s (-1)).hi], rbox (w.heap.size + 2) 40 #[.int .i64 r.lo, .int .i64 r.hi], rbox (w.heap.size + 1) 40 #[.int .i64 0, .int .i64 0], rbox w.heap.size 25 #[.slice (some ⟨x, ox, none⟩) b.accs.length c, .slice a' b.mvs.length c'], rbook lo hi (.slice (some ⟨x, ox, none⟩) b.accs.length c) (.slice a' b.mvs.length c') b] wr) ?first31 ?rest31
      case rest31 =>
        rintro t wr ⟨gx, gy, e1, e2, e3, e4, e5, e6, hrel⟩
        have e : ((List.range 54).map t).toArray = #[t 0, t 1, t 2, t 3, t 4, t 5, t 6, t 7, t 8, t 9, t 10, t 11, t 12, t 13, t 14, t 15, t 16, t 17, t 18, t 19, t 20, t 21, t 22, t 23, t 24, t 25, t 26, t 27, t 28, t 29, t 30, t 31, t 32, t 33, t 34, t 35, t 36, t 37, t 38, t 39, t 40, t 41, t 42, t 43, t 44, t 45, t 46, t 47, t 48, t 49, t 50, t 51, t 52, t 53] := rfl
        (try dsimp only at e)
        rw [e1, e2, e3, e4, e5, e6] at e
        rw [e]
        clear e e1 e2 e3 e4 e5 e6
        have hF2 := hrel
        clear hrel
        have hgi := grp_in b s
        have bX := inS_bd HOK.out s (-1)
        have bY := outS_bd HOK.out s (-1)
        rw [hgi.1, hgi.2] at HN
        clear hgi
        generalize inS b s (-1) = X at *
        generalize outS b s (-1) = Y at *
        have b12 : Bk _ gx 40 #[.int .i64 X.lo, .int .i64 X.hi] := hF2.at 0 rfl
        have l13 := b12.lt
        have q14 : World.cell? _ ⟨gx, 0, none⟩ = some (.int .i64 X.lo) := b12.cell 0
        have z15 := b12.frozen 0
        have q16 : World.cell? _ ⟨gx, 1, none⟩ = some (.int .i64 X.hi) := b12.cell 1
        have z17 := b12.frozen 1
        have b18 : Bk _ gy 40 #[.int .i64 Y.lo, .int .i64 Y.hi] := hF2.at 1 rfl
        have l19 := b18.lt
        have q20 : World.cell? _ ⟨gy, 0, none⟩ = some (.int .i64 Y.lo) := b18.cell 0
        have z21 := b18.frozen 0
        have q22 : World.cell? _ ⟨gy, 1, none⟩ = some (.int .i64 Y.hi) := b18.cell 1
        have z23 := b18.frozen 1
        have b24 : Bk _ (w.heap.size + 2) 40 #[.int .i64 r.lo, .int .i64 r.hi] := hF2.at 2 rfl
        have l25 := b24.lt
        have q26 : World.cell? _ ⟨(w.heap.size + 2), 0, none⟩ = some (.int .i64 r.lo) := b24.cell 0
        have z27 := b24.frozen 0
        have q28 : World.cell? _ ⟨(w.heap.size + 2), 1, none⟩ = some (.int .i64 r.hi) := b24.cell 1
        have z29 := b24.frozen 1
        have b30 : Bk _ w.heap.size 25 #[.slice (some ⟨x, ox, none⟩) b.accs.length c, .slice a' b.mvs.length c'] := hF2.at 4 rfl
        have l31 := b30.lt
        have q32 : World.cell? _ ⟨w.heap.size, 0, none⟩ = some (.slice (some ⟨x, ox, none⟩) b.accs.length c) := b30.cell 0
        have z33 := b30.frozen 0
        have q34 : World.cell? _ ⟨w.heap.size, 1, none⟩ = some (.slice a' b.mvs.length c') := b30.cell 1
        have z35 := b30.frozen 1
        go_wp2_with fail
        clear b12 l13 q14 z15 q16 z17 b18 l19 q20 z21 q22 z23 b24 l25 q26 z27 q28 z29 b30 l31 q32 z33 q34 z35
        have F36 : Bun w [rbox (w.heap.size + 2) 40 #[.int .i64 r.lo, .int .i64 r.hi], rbox gx 40 #[.int .i64 X.lo, .int .i64 X.hi], rbox gy 40 #[.int .i64 Y.lo, .int .i64 Y.hi], rbox (w.heap.size + 1) 40 #[.int .i64 0, .int .i64 0], rbox w.heap.size 25 #[.slice (some ⟨x, ox, none⟩) b.accs.length c, .slice a' b.mvs.length c'], rbook lo hi (.slice (some ⟨x, ox, none⟩) b.accs.length c) (.slice a' b.mvs.length c') b] _ := hF2.front 2 rfl rfl
        clear hF2
        have F37 : Bun w [rbox (w.heap.size + 2) 40 #[.int .i64 (max r.lo (X.lo - Y.hi)), .int .i64 r.hi], rbox gx 40 #[.int .i64 X.lo, .int .i64 X.hi], rbox gy 40 #[.int .i64 Y.lo, .int .i64 Y.hi], rbox (w.heap.size + 1) 40 #[.int .i64 0, .int .i64 0], rbox w.heap.size 25 #[.slice (some ⟨x, ox, none⟩) b.accs.length c, .slice a' b.mvs.length c'], rbook lo hi (.slice (some ⟨x, ox, none⟩) b.accs.length c) (.slice a' b.mvs.length c') b] _ := F36.set 0 (.int .i64 (max r.lo (X.lo - Y.hi)))
        clear F36
        refine (rallTanks_c lo hi _ _ b s _ (F37.at 5 rfl : HasB lo hi _ (.slice (some ⟨x, ox, none⟩) b.accs.length c) (.slice a' b.mvs.length c') b) HOK.out (Nat.le_trans h2 F37.gb.size) (by rw [HP.out]; exact hlt)).mono ?_
        rintro e w3 ⟨rfl, hg3⟩
        have F38 : Bun w [rbox (w.heap.size + 2) 40 #[.int .i64 (max r.lo (X.lo - Y.hi)), .int .i64 r.hi], rbox gx 40 #[.int .i64 X.lo, .int .i64 X.hi], rbox gy 40 #[.int .i64 Y.lo, .int .i64 Y.hi], rbox (w.heap.size + 1) 40 #[.int .i64 0, .int .i64 0], rbox w.heap.size 25 #[.slice (some ⟨x, ox, none⟩) b.accs.length c, .slice a' b.mvs.length c'], rbook lo hi (.slice (some ⟨x, ox, none⟩) b.accs.length c) (.slice a' b.mvs.length c') b] w3 := F37.gn hg3
        clear F37
        clear hg3
        generalize (grp b s).rest = q at HN ⊢
        obtain ⟨nl, hnl⟩ : ∃ nl, max r.lo (X.lo - Y.hi) = nl := ⟨_, rfl⟩
        rw [hnl] at HN F38
        clear hnl
        cases q
        · skip
          have b39 : Bk _ gx 40 #[.int .i64 X.lo, .int .i64 X.hi] := F38.at 1 rfl
          have l40 := b39.lt
          have q41 : World.cell? _ ⟨gx, 0, none⟩ = some (.int .i64 X.lo) := b39.cell 0
          have z42 := b39.frozen 0
          have q43 : World.cell? _ ⟨gx, 1, none⟩ = some (.int .i64 X.hi) := b39.cell 1
          have z44 := b39.frozen 1
          have b45 : Bk _ gy 40 #[.int .i64 Y.lo, .int .i64 Y.hi] := F38.at 2 rfl
          have l46 := b45.lt
          have q47 : World.cell? _ ⟨gy, 0, none⟩ = some (.int .i64 Y.lo) := b45.cell 0
          have z48 := b45.frozen 0
          have q49 : World.cell? _ ⟨gy, 1, none⟩ = some (.int .i64 Y.hi) := b45.cell 1
          have z50 := b45.frozen 1
          have b51 : Bk _ (w.heap.size + 2) 40 #[.int .i64 nl, .int .i64 r.hi] := F38.at 0 rfl
          have l52 := b51.lt
          have q53 : World.cell? _ ⟨(w.heap.size + 2), 0, none⟩ = some (.int .i64 nl) := b51.cell 0
          have z54 := b51.frozen 0
          have q55 : World.cell? _ ⟨(w.heap.size + 2), 1, none⟩ = some (.int .i64 r.hi) := b51.cell 1
          have z56 := b51.frozen 1
          have b57 : Bk _ w.heap.size 25 #[.slice (some ⟨x, ox, none⟩) b.accs.length c, .slice a' b.mvs.length c'] := F38.at 4 rfl
          have l58 := b57.lt
          have q59 : World.cell? _ ⟨w.heap.size, 0, none⟩ = some (.slice (some ⟨x, ox, none⟩) b.accs.length c) := b57.cell 0
          have z60 := b57.frozen 0
          have q61 : World.cell? _ ⟨w.heap.size, 1, none⟩ = some (.slice a' b.mvs.length c') := b57.cell 1
          have z62 := b57.frozen 1
          go_wp2_with fail
          have G1 : Bun w [rbox (w.heap.size + 2) 40 #[.int .i64 nl, .int .i64 (r.hi)], rbox gx 40 #[.int .i64 X.lo, .int .i64 X.hi], rbox gy 40 #[.int .i64 Y.lo, .int .i64 Y.hi], rbox (w.heap.size + 1) 40 #[.int .i64 0, .int .i64 0], rbox w.heap.size 25 #[.slice (some ⟨x, ox, none⟩) b.accs.length c, .slice a' b.mvs.length c'], rbook lo hi (.slice (some ⟨x, ox, none⟩) b.accs.length c) (.slice a' b.mvs.length c') b] _ := F38.front 0 rfl rfl
          exact ⟨rfl, Lib.hid ⟨s + 1, rfl, rfl, rfl, (by show Value.int .i64 ((s : Int) + 1) = _; simp), by rw [HP.out]; omega, (by simp), (by rw [HN.out, if_neg (by simp)]; exact ((((((G1.drop 1 rfl).drop 1 rfl).front 3 rfl rfl).front 3 rfl rfl).front 3 rfl rfl).front 3 rfl rfl))⟩, by simp [slot, intOf]; have := HP.out; omega⟩
        · skip
          by_cases k1 : r.hi < 0
          · have kk : (true = true) ∧ (r.hi < 0 ∨ X.hi - Y.lo < r.hi) := ⟨rfl, .inl k1⟩
            have HK := Lib.hid kk
            clear kk
            have b63 : Bk _ gx 40 #[.int .i64 X.lo, .int .i64 X.hi] := F38.at 1 rfl
            have l64 := b63.lt
            have q65 : World.cell? _ ⟨gx, 0, none⟩ = some (.int .i64 X.lo) := b63.cell 0
            have z66 := b63.frozen 0
            have q67 : World.cell? _ ⟨gx, 1, none⟩ = some (.int .i64 X.hi) := b63.cell 1
            have z68 := b63.frozen 1
            have b69 : Bk _ gy 40 #[.int .i64 Y.lo, .int .i64 Y.hi] := F38.at 2 rfl
            have l70 := b69.lt
            have q71 : World.cell? _ ⟨gy, 0, none⟩ = some (.int .i64 Y.lo) := b69.cell 0
            have z72 := b69.frozen 0
            have q73 : World.cell? _ ⟨gy, 1, none⟩ = some (.int .i64 Y.hi) := b69.cell 1
            have z74 := b69.frozen 1
            have b75 : Bk _ (w.heap.size + 2) 40 #[.int .i64 nl, .int .i64 r.hi] := F38.at 0 rfl
            have l76 := b75.lt
            have q77 : World.cell? _ ⟨(w.heap.size + 2), 0, none⟩ = some (.int .i64 nl) := b75.cell 0
            have z78 := b75.frozen 0
            have q79 : World.cell? _ ⟨(w.heap.size + 2), 1, none⟩ = some (.int .i64 r.hi) := b75.cell 1
            have z80 := b75.frozen 1
            have b81 : Bk _ w.heap.size 25 #[.slice (some ⟨x, ox, none⟩) b.accs.length c, .slice a' b.mvs.length c'] := F38.at 4 rfl
            have l82 := b81.lt
            have q83 : World.cell? _ ⟨w.heap.size, 0, none⟩ = some (.slice (some ⟨x, ox, none⟩) b.accs.length c) := b81.cell 0
            have z84 := b81.frozen 0
            have q85 : World.cell? _ ⟨w.heap.size, 1, none⟩ = some (.slice a' b.mvs.length c') := b81.cell 1
            have z86 := b81.frozen 1
            go_wp2_with fail
            have G1 : Bun w [rbox (w.heap.size + 2) 40 #[.int .i64 nl, .int .i64 (X.hi - Y.lo)], rbox gx 40 #[.int .i64 X.lo, .int .i64 X.hi], rbox gy 40 #[.int .i64 Y.lo, .int .i64 Y.hi], rbox (w.heap.size + 1) 40 #[.int .i64 0, .int .i64 0], rbox w.heap.size 25 #[.slice (some ⟨x, ox, none⟩) b.accs.length c, .slice a' b.mvs.length c'], rbook lo hi (.slice (some ⟨x, ox, none⟩) b.accs.length c) (.slice a' b.mvs.length c') b] _ := (F38.front 0 rfl rfl).set 1 (.int .i64 (X.hi - Y.lo))
            exact ⟨rfl, Lib.hid ⟨s + 1, rfl, rfl, rfl, (by show Value.int .i64 ((s : Int) + 1) = _; simp), by rw [HP.out]; omega, (by simp), (by rw [HN.out, if_pos HK.out]; exact ((((((G1.drop 1 rfl).drop 1 rfl).front 3 rfl rfl).front 3 rfl rfl).front 3 rfl rfl).front 3 rfl rfl))⟩, by simp [slot, intOf]; have := HP.out; omega⟩
          by_cases k2 : X.hi - Y.lo < r.hi
          · have kk : (true = true) ∧ (r.hi < 0 ∨ X.hi - Y.lo < r.hi) := ⟨rfl, .inr k2⟩
            have HK := Lib.hid kk
            clear kk
            have b87 : Bk _ gx 40 #[.int .i64 X.lo, .int .i64 X.hi] := F38.at 1 rfl
            have l88 := b87.lt
            have q89 : World.cell? _ ⟨gx, 0, none⟩ = some (.int .i64 X.lo) := b87.cell 0
            have z90 := b87.frozen 0
            have q91 : World.cell? _ ⟨gx, 1, none⟩ = some (.int .i64 X.hi) := b87.cell 1
            have z92 := b87.frozen 1
            have b93 : Bk _ gy 40 #[.int .i64 Y.lo, .int .i64 Y.hi] := F38.at 2 rfl
            have l94 := b93.lt
            have q95 : World.cell? _ ⟨gy, 0, none⟩ = some (.int .i64 Y.lo) := b93.cell 0
            have z96 := b93.frozen 0
            have q97 : World.cell? _ ⟨gy, 1, none⟩ = some (.int .i64 Y.hi) := b93.cell 1
            have z98 := b93.frozen 1
            have b99 : Bk _ (w.heap.size + 2) 40 #[.int .i64 nl, .int .i64 r.hi] := F38.at 0 rfl
            have l100 := b99.lt
            have q101 : World.cell? _ ⟨(w.heap.size + 2), 0, none⟩ = some (.int .i64 nl) := b99.cell 0
            have z102 := b99.frozen 0
            have q103 : World.cell? _ ⟨(w.heap.size + 2), 1, none⟩ = some (.int .i64 r.hi) := b99.cell 1
            have z104 := b99.frozen 1
            have b105 : Bk _ w.heap.size 25 #[.slice (some ⟨x, ox, none⟩) b.accs.length c, .slice a' b.mvs.length c'] := F38.at 4 rfl
            have l106 := b105.lt
            have q107 : World.cell? _ ⟨w.heap.size, 0, none⟩ = some (.slice (some ⟨x, ox, none⟩) b.accs.length c) := b105.cell 0
            have z108 := b105.frozen 0
            have q109 : World.cell? _ ⟨w.heap.size, 1, none⟩ = some (.slice a' b.mvs.length c') := b105.cell 1
            have z110 := b105.frozen 1
            go_wp2_with fail
            have G1 : Bun w [rbox (w.heap.size + 2) 40 #[.int .i64 nl, .int .i64 (X.hi - Y.lo)], rbox gx 40 #[.int .i64 X.lo, .int .i64 X.hi], rbox gy 40 #[.int .i64 Y.lo, .int .i64 Y.hi], rbox (w.heap.size + 1) 40 #[.int .i64 0, .int .i64 0], rbox w.heap.size 25 #[.slice (some ⟨x, ox, none⟩) b.accs.length c, .slice a' b.mvs.length c'], rbook lo hi (.slice (some ⟨x, ox, none⟩) b.accs.length c) (.slice a' b.mvs.length c') b] _ := (F38.front 0 rfl rfl).set 1 (.int .i64 (X.hi - Y.lo))
            exact ⟨rfl, Lib.hid ⟨s + 1, rfl, rfl, rfl, (by show Value.int .i64 ((s : Int) + 1) = _; simp), by rw [HP.out]; omega, (by simp), (by rw [HN.out, if_pos HK.out]; exact ((((((G1.drop 1 rfl).drop 1 rfl).front 3 rfl rfl).front 3 rfl rfl).front 3 rfl rfl).front 3 rfl rfl))⟩, by simp [slot, intOf]; have := HP.out; omega⟩
          · have kk : ¬ ((true = true) ∧ (r.hi < 0 ∨ X.hi - Y.lo < r.hi)) := by simp; omega
            have HK := Lib.hid kk
            clear kk
            have b111 : Bk _ gx 40 #[.int .i64 X.lo, .int .i64 X.hi] := F38.at 1 rfl
            have l112 := b111.lt
            have q113 : World.cell? _ ⟨gx, 0, none⟩ = some (.int .i64 X.lo) := b111.cell 0
            have z114 := b111.frozen 0
            have q115 : World.cell? _ ⟨gx, 1, none⟩ = some (.int .i64 X.hi) := b111.cell 1
            have z116 := b111.frozen 1
            have b117 : Bk _ gy 40 #[.int .i64 Y.lo, .int .i64 Y.hi] := F38.at 2 rfl
            have l118 := b117.lt
            have q119 : World.cell? _ ⟨gy, 0, none⟩ = some (.int .i64 Y.lo) := b117.cell 0
            have z120 := b117.frozen 0
            have q121 : World.cell? _ ⟨gy, 1, none⟩ = some (.int .i64 Y.hi) := b117.cell 1
            have z122 := b117.frozen 1
            have b123 : Bk _ (w.heap.size + 2) 40 #[.int .i64 nl, .int .i64 r.hi] := F38.at 0 rfl
            have l124 := b123.lt
            have q125 : World.cell? _ ⟨(w.heap.size + 2), 0, none⟩ = some (.int .i64 nl) := b123.cell 0
            have z126 := b123.frozen 0
            have q127 : World.cell? _ ⟨(w.heap.size + 2), 1, none⟩ = some (.int .i64 r.hi) := b123.cell 1
            have z128 := b123.frozen 1
            have b129 : Bk _ w.heap.size 25 #[.slice (some ⟨x, ox, none⟩) b.accs.length c, .slice a' b.mvs.length c'] := F38.at 4 rfl
            have l130 := b129.lt
            have q131 : World.cell? _ ⟨w.heap.size, 0, none⟩ = some (.slice (some ⟨x, ox, none⟩) b.accs.length c) := b129.cell 0
            have z132 := b129.frozen 0
            have q133 : World.cell? _ ⟨w.heap.size, 1, none⟩ = some (.slice a' b.mvs.length c') := b129.cell 1
            have z134 := b129.frozen 1
            go_wp2_with fail
            have G1 : Bun w [rbox (w.heap.size + 2) 40 #[.int .i64 nl, .int .i64 (r.hi)], rbox gx 40 #[.int .i64 X.lo, .int .i64 X.hi], rbox gy 40 #[.int .i64 Y.lo, .int .i64 Y.hi], rbox (w.heap.size + 1) 40 #[.int .i64 0, .int .i64 0], rbox w.heap.size 25 #[.slice (some ⟨x, ox, none⟩) b.accs.length c, .slice a' b.mvs.length c'], rbook lo hi (.slice (some ⟨x, ox, none⟩) b.accs.length c) (.slice a' b.mvs.length c') b] _ := F38.front 0 rfl rfl
            exact ⟨rfl, Lib.hid ⟨s + 1, rfl, rfl, rfl, (by show Value.int .i64 ((s : Int) + 1) = _; simp), by rw [HP.out]; omega, (by simp), (by rw [HN.out, if_neg HK.out]; exact ((((((G1.drop 1 rfl).drop 1 rfl).front 3 rfl rfl).front 3 rfl rfl).front 3 rfl rfl).front 3 rfl rfl))⟩, by simp [slot, intOf]; have := HP.out; omega⟩
      case first31 =>
        have FD := F11.drew
        have q0 : World.cell? _ ⟨w.heap.size, 0, none⟩ = some (.slice (some ⟨x, ox, none⟩) b.accs.length c) := (F11.at 2 rfl : Bk _ w.heap.size 25 #[.slice (some ⟨x, ox, none⟩) b.accs.length c, .slice a' b.mvs.length c']).cell 0
        have q1 : World.cell? _ ⟨w.heap.size, 1, none⟩ = some (.slice a' b.mvs.length c') := (F11.at 2 rfl : Bk _ w.heap.size 25 #[.slice (some ⟨x, ox, none⟩) b.accs.length c, .slice a' b.mvs.length c']).cell 1
        have ql := (F11.at 2 rfl : Bk _ w.heap.size 25 #[.slice (some ⟨x, ox, none⟩) b.accs.length c, .slice a' b.mvs.length c']).lt
        have hS0 := And.intro q0 q1
        refine ru_begin (fun W => W.cell? ⟨w.heap.size, 0, none⟩ = some (.slice (some ⟨x, ox, none⟩) b.accs.length c) ∧ W.cell? ⟨w.heap.size, 1, none⟩ = some (.slice a' b.mvs.length c')) 9 (by kernel_rfl) hS0 ?_
        refine ru_take 0 [] (v := ?_) rfl (by kernel_rfl) (fun _ _ _ h => h) (by assumption) (.inl ⟨by rfl, ?_⟩) ?_
        rotate_left
        · (intro wS hwS; (try dsimp only at hwS); go_simp; (try with_reducible rfl))
        (try simp only [Act.put, List.setIfInBounds_toArray, List.set_cons_zero, List.set_cons_succ])
        refine ru_take 1 [] (v := ?_) rfl (by kernel_rfl) (fun _ _ _ h => h) (by assumption) (.inl ⟨by rfl, ?_⟩) ?_
        rotate_left
        · (intro wS hwS; (try dsimp only at hwS); go_simp; (try with_reducible rfl))
        (try simp only [Act.put, List.setIfInBounds_toArray, List.set_cons_zero, List.set_cons_succ])
        refine ru_take 3 [] (v := ?_) rfl (by kernel_rfl) (fun _ _ _ h => h) (by assumption) (.inl ⟨by rfl, ?_⟩) ?_
        rotate_left
        · (intro wS hwS; (try dsimp only at hwS); go_simp; (try with_reducible rfl))
        (try simp only [Act.put, List.setIfInBounds_toArray, List.set_cons_zero, List.set_cons_succ])
        refine ru_take 4 [] (v := ?_) rfl (by kernel_rfl) (fun _ _ _ h => h) (by assumption) (.inl ⟨by rfl, ?_⟩) ?_
        rotate_left
        · (intro wS hwS; (try dsimp only at hwS); go_simp; (try with_reducible rfl))
        (try simp only [Act.put, List.setIfInBounds_toArray, List.set_cons_zero, List.set_cons_succ])
        refine ru_three 2 6 7 rfl rfl rfl (by kernel_rfl) ?_ ?_ ?_
        · intro K hK
          go_simp
          refine (rin_c lo hi _ _ b s (-1) _ (FD.at 3 rfl : HasB lo hi _ (.slice (some ⟨x, ox, none⟩) b.accs.length c) (.slice a' b.mvs.length c') b) HOK.out (by first | omega | (simp; omega)) (by omega)).mono ?_
          rintro e wa1 ⟨rfl, hg1⟩
          have hz1 := hg1.size
          (try simp at hz1)
          simp only [Sp.v]
          have G1 := FD.gn hg1
          have s1_0 : World.cell? _ ⟨w.heap.size, 0, none⟩ = some (.slice (some ⟨x, ox, none⟩) b.accs.length c) := (G1.at 2 rfl : Bk _ w.heap.size 25 #[.slice (some ⟨x, ox, none⟩) b.accs.length c, .slice a' b.mvs.length c']).cell 0
          have s1_1 : World.cell? _ ⟨w.heap.size, 1, none⟩ = some (.slice a' b.mvs.length c') := (G1.at 2 rfl : Bk _ w.heap.size 25 #[.slice (some ⟨x, ox, none⟩) b.accs.length c, .slice a' b.mvs.length c']).cell 1
          refine ru_back hK (by exact ⟨s1_0, s1_1⟩) (fun hHeld => ?_)
          clear hK K
          (try simp only [Act.put, List.setIfInBounds_toArray, List.set_cons_zero, List.set_cons_succ])
          clear s1_0 s1_1
          refine ru_three 5 6 7 rfl rfl rfl (by kernel_rfl) ?_ ?_ ?_
          · intro K hK
            go_simp
            refine (rout_c lo hi _ _ b s (-1) _ (G1.at 3 rfl : HasB lo hi _ (.slice (some ⟨x, ox, none⟩) b.accs.length c) (.slice a' b.mvs.length c') b) HOK.out (by first | omega | (simp; omega)) (by omega)).mono ?_
            rintro e wb2 ⟨rfl, hg2⟩
            have hz2 := hg2.size
            (try simp at hz2)
            simp only [Sp.v]
            have G2 := G1.gn hg2
            have s2_0 : World.cell? _ ⟨w.heap.size, 0, none⟩ = some (.slice (some ⟨x, ox, none⟩) b.accs.length c) := (G2.at 2 rfl : Bk _ w.heap.size 25 #[.slice (some ⟨x, ox, none⟩) b.accs.length c, .slice a' b.mvs.length c']).cell 0
            have s2_1 : World.cell? _ ⟨w.heap.size, 1, none⟩ = some (.slice a' b.mvs.length c') := (G2.at 2 rfl : Bk _ w.heap.size 25 #[.slice (some ⟨x, ox, none⟩) b.accs.length c, .slice a' b.mvs.length c']).cell 1
            refine ru_back hK (by exact ⟨s2_0, s2_1⟩) (fun hHeld => ?_)
            clear hK K
            (try simp only [Act.put, List.setIfInBounds_toArray, List.set_cons_zero, List.set_cons_succ])
            clear s2_0 s2_1
            refine ru_two 6 7 rfl rfl (by kernel_rfl) ?_ ?_
            · intro K hK
              go_simp
              have G3 := G2.new 40 #[.int .i64 0, .int .i64 0] (n := wb2.heap.size) (by simp)
              have s3_0 : World.cell? _ ⟨w.heap.size, 0, none⟩ = some (.slice (some ⟨x, ox, none⟩) b.accs.length c) := (G3.at 3 rfl : Bk _ w.heap.size 25 #[.slice (some ⟨x, ox, none⟩) b.accs.length c, .slice a' b.mvs.length c']).cell 0
              have s3_1 : World.cell? _ ⟨w.heap.size, 1, none⟩ = some (.slice a' b.mvs.length c') := (G3.at 3 rfl : Bk _ w.heap.size 25 #[.slice (some ⟨x, ox, none⟩) b.accs.length c, .slice a' b.mvs.length c']).cell 1
              refine ru_back hK (by exact ⟨s3_0, s3_1⟩) (fun hHeld => ?_)
              clear hK K
              (try simp only [Act.put, List.setIfInBounds_toArray, List.set_cons_zero, List.set_cons_succ])
              clear s3_0 s3_1
              refine ru_one 7 rfl (by kernel_rfl) (fun K hK => ?_)
              go_simp
              have G4 := G3.new 40 #[.int .i64 0, .int .i64 0] (n := (wb2.heap.size + 1)) (by simp)
              have s4_0 : World.cell? _ ⟨w.heap.size, 0, none⟩ = some (.slice (some ⟨x, ox, none⟩) b.accs.length c) := (G4.at 4 rfl : Bk _ w.heap.size 25 #[.slice (some ⟨x, ox, none⟩) b.accs.length c, .slice a' b.mvs.length c']).cell 0
              have s4_1 : World.cell? _ ⟨w.heap.size, 1, none⟩ = some (.slice a' b.mvs.length c') := (G4.at 4 rfl : Bk _ w.heap.size 25 #[.slice (some ⟨x, ox, none⟩) b.accs.length c, .slice a' b.mvs.length c']).cell 1
              refine ru_back hK (by exact ⟨s4_0, s4_1⟩) (fun hHeld => ?_)
              clear hK K
              (try simp only [Act.put, List.setIfInBounds_toArray, List.set_cons_zero, List.set_cons_succ])
              clear s4_0 s4_1
              refine ru_one 8 rfl (by kernel_rfl) (fun K hK => ?_)
              have k5 : Bk _ wb2.heap.size 40 #[.int .i64 0, .int .i64 0] := G4.at 1 rfl
              have c5 := k5.c2
              have l5 := k5.lt
              go_simp
              clear c5 l5 k5
              have G5 := ((G2.new 40 #[.int .i64 (inS b s (-1)).lo, .int .i64 (inS b s (-1)).hi] (n := wb2.heap.size) (by simp)).new 40 #[.int .i64 0, .int .i64 0] (n := (wb2.heap.size + 1)) (by simp))
              have s5_0 : World.cell? _ ⟨w.heap.size, 0, none⟩ = some (.slice (some ⟨x, ox, none⟩) b.accs.length c) := (G5.at 4 rfl : Bk _ w.heap.size 25 #[.slice (some ⟨x, ox, none⟩) b.accs.length c, .slice a' b.mvs.length c']).cell 0
              have s5_1 : World.cell? _ ⟨w.heap.size, 1, none⟩ = some (.slice a' b.mvs.length c') := (G5.at 4 rfl : Bk _ w.heap.size 25 #[.slice (some ⟨x, ox, none⟩) b.accs.length c, .slice a' b.mvs.length c']).cell 1
              refine ru_back hK (by exact ⟨s5_0, s5_1⟩) (fun hHeld => ?_)
              clear hK K
              (try simp only [Act.put, List.setIfInBounds_toArray, List.set_cons_zero, List.set_cons_succ])
              clear s5_0 s5_1
              refine ru_one 9 rfl (by kernel_rfl) (fun K hK => ?_)
              have k6 : Bk _ (wb2.heap.size + 1) 40 #[.int .i64 0, .int .i64 0] := G5.at 0 rfl
              have c6 := k6.c2
              have l6 := k6.lt
              go_simp
              clear c6 l6 k6
              have G6 := ((G2.new 40 #[.int .i64 (inS b s (-1)).lo, .int .i64 (inS b s (-1)).hi] (n := wb2.heap.size) (by simp)).new 40 #[.int .i64 (outS b s (-1)).lo, .int .i64 (outS b s (-1)).hi] (n := (wb2.heap.size + 1)) (by simp))
              have s6_0 : World.cell? _ ⟨w.heap.size, 0, none⟩ = some (.slice (some ⟨x, ox, none⟩) b.accs.length c) := (G6.at 4 rfl : Bk _ w.heap.size 25 #[.slice (some ⟨x, ox, none⟩) b.accs.length c, .slice a' b.mvs.length c']).cell 0
              have s6_1 : World.cell? _ ⟨w.heap.size, 1, none⟩ = some (.slice a' b.mvs.length c') := (G6.at 4 rfl : Bk _ w.heap.size 25 #[.slice (some ⟨x, ox, none⟩) b.accs.length c, .slice a' b.mvs.length c']).cell 1
              refine ru_back_late hK (by kernel_rfl) ?_
              clear hK K
              (try simp only [Act.put, List.setIfInBounds_toArray, List.set_cons_zero, List.set_cons_succ])
              clear s6_0 s6_1
              refine ru_done (by kernel_rfl) ?_
              exact ⟨rfl, rfl, wb2.heap.size, (wb2.heap.size + 1), rfl, rfl, rfl, rfl, rfl, rfl, G6.perm (List.Perm.swap _ _ _)⟩
            · intro K hK
              go_simp
              have G3 := G2.new 40 #[.int .i64 0, .int .i64 0] (n := wb2.heap.size) (by simp)
              have s3_0 : World.cell? _ ⟨w.heap.size, 0, none⟩ = some (.slice (some ⟨x, ox, none⟩) b.accs.length c) := (G3.at 3 rfl : Bk _ w.heap.size 25 #[.slice (some ⟨x, ox, none⟩) b.accs.length c, .slice a' b.mvs.length c']).cell 0
              have s3_1 : World.cell? _ ⟨w.heap.size, 1, none⟩ = some (.slice a' b.mvs.length c') := (G3.at 3 rfl : Bk _ w.heap.size 25 #[.slice (some ⟨x, ox, none⟩) b.accs.length c, .slice a' b.mvs.length c']).cell 1
              refine ru_back hK (by exact ⟨s3_0, s3_1⟩) (fun hHeld => ?_)
              clear hK K
              (try simp only [Act.put, List.setIfInBounds_toArray, List.set_cons_zero, List.set_cons_succ])
              clear s3_0 s3_1
              refine ru_one 6 rfl (by kernel_rfl) (fun K hK => ?_)
              go_simp
              have G4 := G3.new 40 #[.int .i64 0, .int .i64 0] (n := (wb2.heap.size + 1)) (by simp)
              have s4_0 : World.cell? _ ⟨w.heap.size, 0, none⟩ = some (.slice (some ⟨x, ox, none⟩) b.accs.length c) := (G4.at 4 rfl : Bk _ w.heap.size 25 #[.slice (some ⟨x, ox, none⟩) b.accs.length c, .slice a' b.mvs.length c']).cell 0
              have s4_1 : World.cell? _ ⟨w.heap.size, 1, none⟩ = some (.slice a' b.mvs.length c') := (G4.at 4 rfl : Bk _ w.heap.size 25 #[.slice (some ⟨x, ox, none⟩) b.accs.length c, .slice a' b.mvs.length c']).cell 1
              refine ru_back hK (by exact ⟨s4_0, s4_1⟩) (fun hHeld => ?_)
              clear hK K
              (try simp only [Act.put, List.setIfInBounds_toArray, List.set_cons_zero, List.set_cons_succ])
              clear s4_0 s4_1
              refine ru_one 8 rfl (by kernel_rfl) (fun K hK => ?_)
              have k5 : Bk _ (wb2.heap.size + 1) 40 #[.int .i64 0, .int .i64 0] := G4.at 0 rfl
              have c5 := k5.c2
              have l5 := k5.lt
              go_simp
              clear c5 l5 k5
              have G5 := ((G2.new 40 #[.int .i64 0, .int .i64 0] (n := wb2.heap.size) (by simp)).new 40 #[.int .i64 (inS b s (-1)).lo, .int .i64 (inS b s (-1)).hi] (n := (wb2.heap.size + 1)) (by simp))
              have s5_0 : World.cell? _ ⟨w.heap.size, 0, none⟩ = some (.slice (some ⟨x, ox, none⟩) b.accs.length c) := (G5.at 4 rfl : Bk _ w.heap.size 25 #[.slice (some ⟨x, ox, none⟩) b.accs.length c, .slice a' b.mvs.length c']).cell 0
              have s5_1 : World.cell? _ ⟨w.heap.size, 1, none⟩ = some (.slice a' b.mvs.length c') := (G5.at 4 rfl : Bk _ w.heap.size 25 #[.slice (some ⟨x, ox, none⟩) b.accs.length c, .slice a' b.mvs.length c']).cell 1
              refine ru_back hK (by exact ⟨s5_0, s5_1⟩) (fun hHeld => ?_)
              clear hK K
              (try simp only [Act.put, List.setIfInBounds_toArray, List.set_cons_zero, List.set_cons_succ])
              clear s5_0 s5_1
              refine ru_one 9 rfl (by kernel_rfl) (fun K hK => ?_)
              have k6 : Bk _ wb2.heap.size 40 #[.int .i64 0, .int .i64 0] := G5.at 1 rfl
              have c6 := k6.c2
              have l6 := k6.lt
              go_simp
              clear c6 l6 k6
              have G6 := ((G2.new 40 #[.int .i64 (outS b s (-1)).lo, .int .i64 (outS b s (-1)).hi] (n := wb2.heap.size) (by simp)).new 40 #[.int .i64 (inS b s (-1)).lo, .int .i64 (inS b s (-1)).hi] (n := (wb2.heap.size + 1)) (by simp))
              have s6_0 : World.cell? _ ⟨w.heap.size, 0, none⟩ = some (.slice (some ⟨x, ox, none⟩) b.accs.length c) := (G6.at 4 rfl : Bk _ w.heap.size 25 #[.slice (some ⟨x, ox, none⟩) b.accs.length c, .slice a' b.mvs.length c']).cell 0
              have s6_1 : World.cell? _ ⟨w.heap.size, 1, none⟩ = some (.slice a' b.mvs.length c') := (G6.at 4 rfl : Bk _ w.heap.size 25 #[.slice (some ⟨x, ox, none⟩) b.accs.length c, .slice a' b.mvs.length c']).cell 1
              refine ru_back_late hK (by kernel_rfl) ?_
              clear hK K
              (try simp only [Act.put, List.setIfInBounds_toArray, List.set_cons_zero, List.set_cons_succ])
              clear s6_0 s6_1
              refine ru_done (by kernel_rfl) ?_
              exact ⟨rfl, rfl, (wb2.heap.size + 1), wb2.heap.size, rfl, rfl, rfl, rfl, rfl, rfl, G6⟩
          · intro K hK
            go_simp
            have G2 := G1.new 40 #[.int .i64 0, .int .i64 0] (n := wa1.heap.size) (by simp)
            have s2_0 : World.cell? _ ⟨w.heap.size, 0, none⟩ = some (.slice (some ⟨x, ox, none⟩) b.accs.length c) := (G2.at 3 rfl : Bk _ w.heap.size 25 #[.slice (some ⟨x, ox, none⟩) b.accs.length c, .slice a' b.mvs.length c']).cell 0
            have s2_1 : World.cell? _ ⟨w.heap.size, 1, none⟩ = some (.slice a' b.mvs.length c') := (G2.at 3 rfl : Bk _ w.heap.size 25 #[.slice (some ⟨x, ox, none⟩) b.accs.length c, .slice a' b.mvs.length c']).cell 1
            refine ru_back hK (by exact ⟨s2_0, s2_1⟩) (fun hHeld => ?_)
            clear hK K
            (try simp only [Act.put, List.setIfInBounds_toArray, List.set_cons_zero, List.set_cons_succ])
            clear s2_0 s2_1
            refine ru_two 5 7 rfl rfl (by kernel_rfl) ?_ ?_
            · intro K hK
              go_simp
              refine (rout_c lo hi _ _ b s (-1) _ (G2.at 4 rfl : HasB lo hi _ (.slice (some ⟨x, ox, none⟩) b.accs.length c) (.slice a' b.mvs.length c') b) HOK.out (by first | omega | (simp; omega)) (by omega)).mono ?_
              rintro e wb3 ⟨rfl, hg3⟩
              have hz3 := hg3.size
              (try simp at hz3)
              simp only [Sp.v]
              have G3 := G2.gn hg3
              have s3_0 : World.cell? _ ⟨w.heap.size, 0, none⟩ = some (.slice (some ⟨x, ox, none⟩) b.accs.length c) := (G3.at 3 rfl : Bk _ w.heap.size 25 #[.slice (some ⟨x, ox, none⟩) b.accs.length c, .slice a' b.mvs.length c']).cell 0
              have s3_1 : World.cell? _ ⟨w.heap.size, 1, none⟩ = some (.slice a' b.mvs.length c') := (G3.at 3 rfl : Bk _ w.heap.size 25 #[.slice (some ⟨x, ox, none⟩) b.accs.length c, .slice a' b.mvs.length c']).cell 1
              refine ru_back hK (by exact ⟨s3_0, s3_1⟩) (fun hHeld => ?_)
              clear hK K
              (try simp only [Act.put, List.setIfInBounds_toArray, List.set_cons_zero, List.set_cons_succ])
              clear s3_0 s3_1
              refine ru_one 7 rfl (by kernel_rfl) (fun K hK => ?_)
              go_simp
              have G4 := G3.new 40 #[.int .i64 0, .int .i64 0] (n := wb3.heap.size) (by simp)
              have s4_0 : World.cell? _ ⟨w.heap.size, 0, none⟩ = some (.slice (some ⟨x, ox, none⟩) b.accs.length c) := (G4.at 4 rfl : Bk _ w.heap.size 25 #[.slice (some ⟨x, ox, none⟩) b.accs.length c, .slice a' b.mvs.length c']).cell 0
              have s4_1 : World.cell? _ ⟨w.heap.size, 1, none⟩ = some (.slice a' b.mvs.length c') := (G4.at 4 rfl : Bk _ w.heap.size 25 #[.slice (some ⟨x, ox, none⟩) b.accs.length c, .slice a' b.mvs.length c']).cell 1
              refine ru_back hK (by exact ⟨s4_0, s4_1⟩) (fun hHeld => ?_)
              clear hK K
              (try simp only [Act.put, List.setIfInBounds_toArray, List.set_cons_zero, List.set_cons_succ])
              clear s4_0 s4_1
              refine ru_one 8 rfl (by kernel_rfl) (fun K hK => ?_)
              have k5 : Bk _ wa1.heap.size 40 #[.int .i64 0, .int .i64 0] := G4.at 1 rfl
              have c5 := k5.c2
              have l5 := k5.lt
              go_simp
              clear c5 l5 k5
              have G5 := ((G4.front 1 rfl rfl).set 0 (.int .i64 (inS b s (-1)).lo)).set 1 (.int .i64 (inS b s (-1)).hi)
              have s5_0 : World.cell? _ ⟨w.heap.size, 0, none⟩ = some (.slice (some ⟨x, ox, none⟩) b.accs.length c) := (G5.at 4 rfl : Bk _ w.heap.size 25 #[.slice (some ⟨x, ox, none⟩) b.accs.length c, .slice a' b.mvs.length c']).cell 0
              have s5_1 : World.cell? _ ⟨w.heap.size, 1, none⟩ = some (.slice a' b.mvs.length c') := (G5.at 4 rfl : Bk _ w.heap.size 25 #[.slice (some ⟨x, ox, none⟩) b.accs.length c, .slice a' b.mvs.length c']).cell 1
              refine ru_back hK (by exact ⟨s5_0, s5_1⟩) (fun hHeld => ?_)
              clear hK K
              (try simp only [Act.put, List.setIfInBounds_toArray, List.set_cons_zero, List.set_cons_succ])
              clear s5_0 s5_1
              refine ru_one 9 rfl (by kernel_rfl) (fun K hK => ?_)
              have k6 : Bk _ wb3.heap.size 40 #[.int .i64 0, .int .i64 0] := G5.at 1 rfl
              have c6 := k6.c2
              have l6 := k6.lt
              go_simp
              clear c6 l6 k6
              have G6 := ((G5.front 1 rfl rfl).set 0 (.int .i64 (outS b s (-1)).lo)).set 1 (.int .i64 (outS b s (-1)).hi)
              have s6_0 : World.cell? _ ⟨w.heap.size, 0, none⟩ = some (.slice (some ⟨x, ox, none⟩) b.accs.length c) := (G6.at 4 rfl : Bk _ w.heap.size 25 #[.slice (some ⟨x, ox, none⟩) b.accs.length c, .slice a' b.mvs.length c']).cell 0
              have s6_1 : World.cell? _ ⟨w.heap.size, 1, none⟩ = some (.slice a' b.mvs.length c') := (G6.at 4 rfl : Bk _ w.heap.size 25 #[.slice (some ⟨x, ox, none⟩) b.accs.length c, .slice a' b.mvs.length c']).cell 1
              refine ru_back_late hK (by kernel_rfl) ?_
              clear hK K
              (try simp only [Act.put, List.setIfInBounds_toArray, List.set_cons_zero, List.set_cons_succ])
              clear s6_0 s6_1
              refine ru_done (by kernel_rfl) ?_
              exact ⟨rfl, rfl, wa1.heap.size, wb3.heap.size, rfl, rfl, rfl, rfl, rfl, rfl, G6.perm (List.Perm.swap _ _ _)⟩
            · intro K hK
              go_simp
              have G3 := G2.new 40 #[.int .i64 0, .int .i64 0] (n := (wa1.heap.size + 1)) (by simp)
              have s3_0 : World.cell? _ ⟨w.heap.size, 0, none⟩ = some (.slice (some ⟨x, ox, none⟩) b.accs.length c) := (G3.at 4 rfl : Bk _ w.heap.size 25 #[.slice (some ⟨x, ox, none⟩) b.accs.length c, .slice a' b.mvs.length c']).cell 0
              have s3_1 : World.cell? _ ⟨w.heap.size, 1, none⟩ = some (.slice a' b.mvs.length c') := (G3.at 4 rfl : Bk _ w.heap.size 25 #[.slice (some ⟨x, ox, none⟩) b.accs.length c, .slice a' b.mvs.length c']).cell 1
              refine ru_back hK (by exact ⟨s3_0, s3_1⟩) (fun hHeld => ?_)
              clear hK K
              (try simp only [Act.put, List.setIfInBounds_toArray, List.set_cons_zero, List.set_cons_succ])
              clear s3_0 s3_1
              refine ru_one 5 rfl (by kernel_rfl) (fun K hK => ?_)
              go_simp
              refine (rout_c lo hi _ _ b s (-1) _ (G3.at 5 rfl : HasB lo hi _ (.slice (some ⟨x, ox, none⟩) b.accs.length c) (.slice a' b.mvs.length c') b) HOK.out (by first | omega | (simp; omega)) (by omega)).mono ?_
              rintro e wb4 ⟨rfl, hg4⟩
              have hz4 := hg4.size
              (try simp at hz4)
              simp only [Sp.v]
              have G4 := G3.gn hg4
              have s4_0 : World.cell? _ ⟨w.heap.size, 0, none⟩ = some (.slice (some ⟨x, ox, none⟩) b.accs.length c) := (G4.at 4 rfl : Bk _ w.heap.size 25 #[.slice (some ⟨x, ox, none⟩) b.accs.length c, .slice a' b.mvs.length c']).cell 0
              have s4_1 : World.cell? _ ⟨w.heap.size, 1, none⟩ = some (.slice a' b.mvs.length c') := (G4.at 4 rfl : Bk _ w.heap.size 25 #[.slice (some ⟨x, ox, none⟩) b.accs.length c, .slice a' b.mvs.length c']).cell 1
              refine ru_back hK (by exact ⟨s4_0, s4_1⟩) (fun hHeld => ?_)
              clear hK K
              (try simp only [Act.put, List.setIfInBounds_toArray, List.set_cons_zero, List.set_cons_succ])
              clear s4_0 s4_1
              refine ru_one 8 rfl (by kernel_rfl) (fun K hK => ?_)
              have k5 : Bk _ wa1.heap.size 40 #[.int .i64 0, .int .i64 0] := G4.at 1 rfl
              have c5 := k5.c2
              have l5 := k5.lt
              go_simp
              clear c5 l5 k5
              have G5 := ((G4.front 1 rfl rfl).set 0 (.int .i64 (inS b s (-1)).lo)).set 1 (.int .i64 (inS b s (-1)).hi)
              have s5_0 : World.cell? _ ⟨w.heap.size, 0, none⟩ = some (.slice (some ⟨x, ox, none⟩) b.accs.length c) := (G5.at 4 rfl : Bk _ w.heap.size 25 #[.slice (some ⟨x, ox, none⟩) b.accs.length c, .slice a' b.mvs.length c']).cell 0
              have s5_1 : World.cell? _ ⟨w.heap.size, 1, none⟩ = some (.slice a' b.mvs.length c') := (G5.at 4 rfl : Bk _ w.heap.size 25 #[.slice (some ⟨x, ox, none⟩) b.accs.length c, .slice a' b.mvs.length c']).cell 1
              refine ru_back hK (by exact ⟨s5_0, s5_1⟩) (fun hHeld => ?_)
              clear hK K
              (try simp only [Act.put, List.setIfInBounds_toArray, List.set_cons_zero, List.set_cons_succ])
              clear s5_0 s5_1
              refine ru_one 9 rfl (by kernel_rfl) (fun K hK => ?_)
              have k6 : Bk _ (wa1.heap.size + 1) 40 #[.int .i64 0, .int .i64 0] := G5.at 1 rfl
              have c6 := k6.c2
              have l6 := k6.lt
              go_simp
              clear c6 l6 k6
              have G6 := ((G5.front 1 rfl rfl).set 0 (.int .i64 (outS b s (-1)).lo)).set 1 (.int .i64 (outS b s (-1)).hi)
              have s6_0 : World.cell? _ ⟨w.heap.size, 0, none⟩ = some (.slice (some ⟨x, ox, none⟩) b.accs.length c) := (G6.at 4 rfl : Bk _ w.heap.size 25 #[.slice (some ⟨x, ox, none⟩) b.accs.length c, .slice a' b.mvs.length c']).cell 0
              have s6_1 : World.cell? _ ⟨w.heap.size, 1, none⟩ = some (.slice a' b.mvs.length c') := (G6.at 4 rfl : Bk _ w.heap.size 25 #[.slice (some ⟨x, ox, none⟩) b.accs.length c, .slice a' b.mvs.length c']).cell 1
              refine ru_back_late hK (by kernel_rfl) ?_
              clear hK K
              (try simp only [Act.put, List.setIfInBounds_toArray, List.set_cons_zero, List.set_cons_succ])
              clear s6_0 s6_1
              refine ru_done (by kernel_rfl) ?_
              exact ⟨rfl, rfl, wa1.heap.size, (wa1.heap.size + 1), rfl, rfl, rfl, rfl, rfl, rfl, G6.perm (List.Perm.swap _ _ _)⟩
          · intro K hK
            go_simp
            have G2 := G1.new 40 #[.int .i64 0, .int .i64 0] (n := wa1.heap.size) (by simp)
            have s2_0 : World.cell? _ ⟨w.heap.size, 0, none⟩ = some (.slice (some ⟨x, ox, none⟩) b.accs.length c) := (G2.at 3 rfl : Bk _ w.heap.size 25 #[.slice (some ⟨x, ox, none⟩) b.accs.length c, .slice a' b.mvs.length c']).cell 0
            have s2_1 : World.cell? _ ⟨w.heap.size, 1, none⟩ = some (.slice a' b.mvs.length c') := (G2.at 3 rfl : Bk _ w.heap.size 25 #[.slice (some ⟨x, ox, none⟩) b.accs.length c, .slice a' b.mvs.length c']).cell 1
            refine ru_back hK (by exact ⟨s2_0, s2_1⟩) (fun hHeld => ?_)
            clear hK K
            (try simp only [Act.put, List.setIfInBounds_toArray, List.set_cons_zero, List.set_cons_succ])
            clear s2_0 s2_1
            refine ru_two 5 6 rfl rfl (by kernel_rfl) ?_ ?_
            · intro K hK
              go_simp
              refine (rout_c lo hi _ _ b s (-1) _ (G2.at 4 rfl : HasB lo hi _ (.slice (some ⟨x, ox, none⟩) b.accs.length c) (.slice a' b.mvs.length c') b) HOK.out (by first | omega | (simp; omega)) (by omega)).mono ?_
              rintro e wb3 ⟨rfl, hg3⟩
              have hz3 := hg3.size
              (try simp at hz3)
              simp only [Sp.v]
              have G3 := G2.gn hg3
              have s3_0 : World.cell? _ ⟨w.heap.size, 0, none⟩ = some (.slice (some ⟨x, ox, none⟩) b.accs.length c) := (G3.at 3 rfl : Bk _ w.heap.size 25 #[.slice (some ⟨x, ox, none⟩) b.accs.length c, .slice a' b.mvs.length c']).cell 0
              have s3_1 : World.cell? _ ⟨w.heap.size, 1, none⟩ = some (.slice a' b.mvs.length c') := (G3.at 3 rfl : Bk _ w.heap.size 25 #[.slice (some ⟨x, ox, none⟩) b.accs.length c, .slice a' b.mvs.length c']).cell 1
              refine ru_back hK (by exact ⟨s3_0, s3_1⟩) (fun hHeld => ?_)
              clear hK K
              (try simp only [Act.put, List.setIfInBounds_toArray, List.set_cons_zero, List.set_cons_succ])
              clear s3_0 s3_1
              refine ru_one 6 rfl (by kernel_rfl) (fun K hK => ?_)
              go_simp
              have G4 := G3.new 40 #[.int .i64 0, .int .i64 0] (n := wb3.heap.size) (by simp)
              have s4_0 : World.cell? _ ⟨w.heap.size, 0, none⟩ = some (.slice (some ⟨x, ox, none⟩) b.accs.length c) := (G4.at 4 rfl : Bk _ w.heap.size 25 #[.slice (some ⟨x, ox, none⟩) b.accs.length c, .slice a' b.mvs.length c']).cell 0
              have s4_1 : World.cell? _ ⟨w.heap.size, 1, none⟩ = some (.slice a' b.mvs.length c') := (G4.at 4 rfl : Bk _ w.heap.size 25 #[.slice (some ⟨x, ox, none⟩) b.accs.length c, .slice a' b.mvs.length c']).cell 1
              refine ru_back hK (by exact ⟨s4_0, s4_1⟩) (fun hHeld => ?_)
              clear hK K
              (try simp only [Act.put, List.setIfInBounds_toArray, List.set_cons_zero, List.set_cons_succ])
              clear s4_0 s4_1
              refine ru_one 8 rfl (by kernel_rfl) (fun K hK => ?_)
              have k5 : Bk _ wb3.heap.size 40 #[.int .i64 0, .int .i64 0] := G4.at 0 rfl
              have c5 := k5.c2
              have l5 := k5.lt
              go_simp
              clear c5 l5 k5
              have G5 := (G3.new 40 #[.int .i64 (inS b s (-1)).lo, .int .i64 (inS b s (-1)).hi] (n := wb3.heap.size) (by simp))
              have s5_0 : World.cell? _ ⟨w.heap.size, 0, none⟩ = some (.slice (some ⟨x, ox, none⟩) b.accs.length c) := (G5.at 4 rfl : Bk _ w.heap.size 25 #[.slice (some ⟨x, ox, none⟩) b.accs.length c, .slice a' b.mvs.length c']).cell 0
              have s5_1 : World.cell? _ ⟨w.heap.size, 1, none⟩ = some (.slice a' b.mvs.length c') := (G5.at 4 rfl : Bk _ w.heap.size 25 #[.slice (some ⟨x, ox, none⟩) b.accs.length c, .slice a' b.mvs.length c']).cell 1
              refine ru_back hK (by exact ⟨s5_0, s5_1⟩) (fun hHeld => ?_)
              clear hK K
              (try simp only [Act.put, List.setIfInBounds_toArray, List.set_cons_zero, List.set_cons_succ])
              clear s5_0 s5_1
              refine ru_one 9 rfl (by kernel_rfl) (fun K hK => ?_)
              have k6 : Bk _ wa1.heap.size 40 #[.int .i64 0, .int .i64 0] := G5.at 1 rfl
              have c6 := k6.c2
              have l6 := k6.lt
              go_simp
              clear c6 l6 k6
              have G6 := ((G5.front 1 rfl rfl).set 0 (.int .i64 (outS b s (-1)).lo)).set 1 (.int .i64 (outS b s (-1)).hi)
              have s6_0 : World.cell? _ ⟨w.heap.size, 0, none⟩ = some (.slice (some ⟨x, ox, none⟩) b.accs.length c) := (G6.at 4 rfl : Bk _ w.heap.size 25 #[.slice (some ⟨x, ox, none⟩) b.accs.length c, .slice a' b.mvs.length c']).cell 0
              have s6_1 : World.cell? _ ⟨w.heap.size, 1, none⟩ = some (.slice a' b.mvs.length c') := (G6.at 4 rfl : Bk _ w.heap.size 25 #[.slice (some ⟨x, ox, none⟩) b.accs.length c, .slice a' b.mvs.length c']).cell 1
              refine ru_back_late hK (by kernel_rfl) ?_
              clear hK K
              (try simp only [Act.put, List.setIfInBounds_toArray, List.set_cons_zero, List.set_cons_succ])
              clear s6_0 s6_1
              refine ru_done (by kernel_rfl) ?_
              exact ⟨rfl, rfl, wb3.heap.size, wa1.heap.size, rfl, rfl, rfl, rfl, rfl, rfl, G6.perm (List.Perm.swap _ _ _)⟩
            · intro K hK
              go_simp
              have G3 := G2.new 40 #[.int .i64 0, .int .i64 0] (n := (wa1.heap.size + 1)) (by simp)
              have s3_0 : World.cell? _ ⟨w.heap.size, 0, none⟩ = some (.slice (some ⟨x, ox, none⟩) b.accs.length c) := (G3.at 4 rfl : Bk _ w.heap.size 25 #[.slice (some ⟨x, ox, none⟩) b.accs.length c, .slice a' b.mvs.length c']).cell 0
              have s3_1 : World.cell? _ ⟨w.heap.size, 1, none⟩ = some (.slice a' b.mvs.length c') := (G3.at 4 rfl : Bk _ w.heap.size 25 #[.slice (some ⟨x, ox, none⟩) b.accs.length c, .slice a' b.mvs.length c']).cell 1
              refine ru_back hK (by exact ⟨s3_0, s3_1⟩) (fun hHeld => ?_)
              clear hK K
              (try simp only [Act.put, List.setIfInBounds_toArray, List.set_cons_zero, List.set_cons_succ])
              clear s3_0 s3_1
              refine ru_one 5 rfl (by kernel_rfl) (fun K hK => ?_)
              go_simp
              refine (rout_c lo hi _ _ b s (-1) _ (G3.at 5 rfl : HasB lo hi _ (.slice (some ⟨x, ox, none⟩) b.accs.length c) (.slice a' b.mvs.length c') b) HOK.out (by first | omega | (simp; omega)) (by omega)).mono ?_
              rintro e wb4 ⟨rfl, hg4⟩
              have hz4 := hg4.size
              (try simp at hz4)
              simp only [Sp.v]
              have G4 := G3.gn hg4
              have s4_0 : World.cell? _ ⟨w.heap.size, 0, none⟩ = some (.slice (some ⟨x, ox, none⟩) b.accs.length c) := (G4.at 4 rfl : Bk _ w.heap.size 25 #[.slice (some ⟨x, ox, none⟩) b.accs.length c, .slice a' b.mvs.length c']).cell 0
              have s4_1 : World.cell? _ ⟨w.heap.size, 1, none⟩ = some (.slice a' b.mvs.length c') := (G4.at 4 rfl : Bk _ w.heap.size 25 #[.slice (some ⟨x, ox, none⟩) b.accs.length c, .slice a' b.mvs.length c']).cell 1
              refine ru_back hK (by exact ⟨s4_0, s4_1⟩) (fun hHeld => ?_)
              clear hK K
              (try simp only [Act.put, List.setIfInBounds_toArray, List.set_cons_zero, List.set_cons_succ])
              clear s4_0 s4_1
              refine ru_one 8 rfl (by kernel_rfl) (fun K hK => ?_)
              have k5 : Bk _ (wa1.heap.size + 1) 40 #[.int .i64 0, .int .i64 0] := G4.at 0 rfl
              have c5 := k5.c2
              have l5 := k5.lt
              go_simp
              clear c5 l5 k5
              have G5 := (G4.set 0 (.int .i64 (inS b s (-1)).lo)).set 1 (.int .i64 (inS b s (-1)).hi)
              have s5_0 : World.cell? _ ⟨w.heap.size, 0, none⟩ = some (.slice (some ⟨x, ox, none⟩) b.accs.length c) := (G5.at 4 rfl : Bk _ w.heap.size 25 #[.slice (some ⟨x, ox, none⟩) b.accs.length c, .slice a' b.mvs.length c']).cell 0
              have s5_1 : World.cell? _ ⟨w.heap.size, 1, none⟩ = some (.slice a' b.mvs.length c') := (G5.at 4 rfl : Bk _ w.heap.size 25 #[.slice (some ⟨x, ox, none⟩) b.accs.length c, .slice a' b.mvs.length c']).cell 1
              refine ru_back hK (by exact ⟨s5_0, s5_1⟩) (fun hHeld => ?_)
              clear hK K
              (try simp only [Act.put, List.setIfInBounds_toArray, List.set_cons_zero, List.set_cons_succ])
              clear s5_0 s5_1
              refine ru_one 9 rfl (by kernel_rfl) (fun K hK => ?_)
              have k6 : Bk _ wa1.heap.size 40 #[.int .i64 0, .int .i64 0] := G5.at 1 rfl
              have c6 := k6.c2
              have l6 := k6.lt
              go_simp
              clear c6 l6 k6
              have G6 := ((G5.front 1 rfl rfl).set 0 (.int .i64 (outS b s (-1)).lo)).set 1 (.int .i64 (outS b s (-1)).hi)
              have s6_0 : World.cell? _ ⟨w.heap.size, 0, none⟩ = some (.slice (some ⟨x, ox, none⟩) b.accs.length c) := (G6.at 4 rfl : Bk _ w.heap.size 25 #[.slice (some ⟨x, ox, none⟩) b.accs.length c, .slice a' b.mvs.length c']).cell 0
              have s6_1 : World.cell? _ ⟨w.heap.size, 1, none⟩ = some (.slice a' b.mvs.length c') := (G6.at 4 rfl : Bk _ w.heap.size 25 #[.slice (some ⟨x, ox, none⟩) b.accs.length c, .slice a' b.mvs.length c']).cell 1
              refine ru_back_late hK (by kernel_rfl) ?_
              clear hK K
              (try simp only [Act.put, List.setIfInBounds_toArray, List.set_cons_zero, List.set_cons_succ])
              clear s6_0 s6_1
              refine ru_done (by kernel_rfl) ?_
              exact ⟨rfl, rfl, (wa1.heap.size + 1), wa1.heap.size, rfl, rfl, rfl, rfl, rfl, rfl, G6.perm (List.Perm.swap _ _ _)⟩
        · intro K hK
          go_simp
          have G1 := FD.new 40 #[.int .i64 0, .int .i64 0] (n := w1.heap.size) (by simp)
          have s1_0 : World.cell? _ ⟨w.heap.size, 0, none⟩ = some (.slice (some ⟨x, ox, none⟩) b.accs.length c) := (G1.at 3 rfl : Bk _ w.heap.size 25 #[.slice (some ⟨x, ox, none⟩) b.accs.length c, .slice a' b.mvs.length c']).cell 0
          have s1_1 : World.cell? _ ⟨w.heap.size, 1, none⟩ = some (.slice a' b.mvs.length c') := (G1.at 3 rfl : Bk _ w.heap.size 25 #[.slice (some ⟨x, ox, none⟩) b.accs.length c, .slice a' b.mvs.length c']).cell 1
          refine ru_back hK (by exact ⟨s1_0, s1_1⟩) (fun hHeld => ?_)
          clear hK K
          (try simp only [Act.put, List.setIfInBounds_toArray, List.set_cons_zero, List.set_cons_succ])
          clear s1_0 s1_1
          refine ru_two 2 7 rfl rfl (by kernel_rfl) ?_ ?_
          · intro K hK
            go_simp
            refine (rin_c lo hi _ _ b s (-1) _ (G1.at 4 rfl : HasB lo hi _ (.slice (some ⟨x, ox, none⟩) b.accs.length c) (.slice a' b.mvs.length c') b) HOK.out (by first | omega | (simp; omega)) (by omega)).mono ?_
            rintro e wa2 ⟨rfl, hg2⟩
            have hz2 := hg2.size
            (try simp at hz2)
            simp only [Sp.v]
            have G2 := G1.gn hg2
            have s2_0 : World.cell? _ ⟨w.heap.size, 0, none⟩ = some (.slice (some ⟨x, ox, none⟩) b.accs.length c) := (G2.at 3 rfl : Bk _ w.heap.size 25 #[.slice (some ⟨x, ox, none⟩) b.accs.length c, .slice a' b.mvs.length c']).cell 0
            have s2_1 : World.cell? _ ⟨w.heap.size, 1, none⟩ = some (.slice a' b.mvs.length c') := (G2.at 3 rfl : Bk _ w.heap.size 25 #[.slice (some ⟨x, ox, none⟩) b.accs.length c, .slice a' b.mvs.length c']).cell 1
            refine ru_back hK (by exact ⟨s2_0, s2_1⟩) (fun hHeld => ?_)
            clear hK K
            (try simp only [Act.put, List.setIfInBounds_toArray, List.set_cons_zero, List.set_cons_succ])
            clear s2_0 s2_1
            refine ru_two 5 7 rfl rfl (by kernel_rfl) ?_ ?_
            · intro K hK
              go_simp
              refine (rout_c lo hi _ _ b s (-1) _ (G2.at 4 rfl : HasB lo hi _ (.slice (some ⟨x, ox, none⟩) b.accs.length c) (.slice a' b.mvs.length c') b) HOK.out (by first | omega | (simp; omega)) (by omega)).mono ?_
              rintro e wb3 ⟨rfl, hg3⟩
              have hz3 := hg3.size
              (try simp at hz3)
              simp only [Sp.v]
              have G3 := G2.gn hg3
              have s3_0 : World.cell? _ ⟨w.heap.size, 0, none⟩ = some (.slice (some ⟨x, ox, none⟩) b.accs.length c) := (G3.at 3 rfl : Bk _ w.heap.size 25 #[.slice (some ⟨x, ox, none⟩) b.accs.length c, .slice a' b.mvs.length c']).cell 0
              have s3_1 : World.cell? _ ⟨w.heap.size, 1, none⟩ = some (.slice a' b.mvs.length c') := (G3.at 3 rfl : Bk _ w.heap.size 25 #[.slice (some ⟨x, ox, none⟩) b.accs.length c, .slice a' b.mvs.length c']).cell 1
              refine ru_back hK (by exact ⟨s3_0, s3_1⟩) (fun hHeld => ?_)
              clear hK K
              (try simp only [Act.put, List.setIfInBounds_toArray, List.set_cons_zero, List.set_cons_succ])
              clear s3_0 s3_1
              refine ru_one 7 rfl (by kernel_rfl) (fun K hK => ?_)
              go_simp
              have G4 := G3.new 40 #[.int .i64 0, .int .i64 0] (n := wb3.heap.size) (by simp)
              have s4_0 : World.cell? _ ⟨w.heap.size, 0, none⟩ = some (.slice (some ⟨x, ox, none⟩) b.accs.length c) := (G4.at 4 rfl : Bk _ w.heap.size 25 #[.slice (some ⟨x, ox, none⟩) b.accs.length c, .slice a' b.mvs.length c']).cell 0
              have s4_1 : World.cell? _ ⟨w.heap.size, 1, none⟩ = some (.slice a' b.mvs.length c') := (G4.at 4 rfl : Bk _ w.heap.size 25 #[.slice (some ⟨x, ox, none⟩) b.accs.length c, .slice a' b.mvs.length c']).cell 1
              refine ru_back hK (by exact ⟨s4_0, s4_1⟩) (fun hHeld => ?_)
              clear hK K
              (try simp only [Act.put, List.setIfInBounds_toArray, List.set_cons_zero, List.set_cons_succ])
              clear s4_0 s4_1
              refine ru_one 8 rfl (by kernel_rfl) (fun K hK => ?_)
              have k5 : Bk _ w1.heap.size 40 #[.int .i64 0, .int .i64 0] := G4.at 1 rfl
              have c5 := k5.c2
              have l5 := k5.lt
              go_simp
              clear c5 l5 k5
              have G5 := ((G4.front 1 rfl rfl).set 0 (.int .i64 (inS b s (-1)).lo)).set 1 (.int .i64 (inS b s (-1)).hi)
              have s5_0 : World.cell? _ ⟨w.heap.size, 0, none⟩ = some (.slice (some ⟨x, ox, none⟩) b.accs.length c) := (G5.at 4 rfl : Bk _ w.heap.size 25 #[.slice (some ⟨x, ox, none⟩) b.accs.length c, .slice a' b.mvs.length c']).cell 0
              have s5_1 : World.cell? _ ⟨w.heap.size, 1, none⟩ = some (.slice a' b.mvs.length c') := (G5.at 4 rfl : Bk _ w.heap.size 25 #[.slice (some ⟨x, ox, none⟩) b.accs.length c, .slice a' b.mvs.length c']).cell 1
              refine ru_back hK (by exact ⟨s5_0, s5_1⟩) (fun hHeld => ?_)
              clear hK K
              (try simp only [Act.put, List.setIfInBounds_toArray, List.set_cons_zero, List.set_cons_succ])
              clear s5_0 s5_1
              refine ru_one 9 rfl (by kernel_rfl) (fun K hK => ?_)
              have k6 : Bk _ wb3.heap.size 40 #[.int .i64 0, .int .i64 0] := G5.at 1 rfl
              have c6 := k6.c2
              have l6 := k6.lt
              go_simp
              clear c6 l6 k6
              have G6 := ((G5.front 1 rfl rfl).set 0 (.int .i64 (outS b s (-1)).lo)).set 1 (.int .i64 (outS b s (-1)).hi)
              have s6_0 : World.cell? _ ⟨w.heap.size, 0, none⟩ = some (.slice (some ⟨x, ox, none⟩) b.accs.length c) := (G6.at 4 rfl : Bk _ w.heap.size 25 #[.slice (some ⟨x, ox, none⟩) b.accs.length c, .slice a' b.mvs.length c']).cell 0
              have s6_1 : World.cell? _ ⟨w.heap.size, 1, none⟩ = some (.slice a' b.mvs.length c') := (G6.at 4 rfl : Bk _ w.heap.size 25 #[.slice (some ⟨x, ox, none⟩) b.accs.length c, .slice a' b.mvs.length c']).cell 1
              refine ru_back_late hK (by kernel_rfl) ?_
              clear hK K
              (try simp only [Act.put, List.setIfInBounds_toArray, List.set_cons_zero, List.set_cons_succ])
              clear s6_0 s6_1
              refine ru_done (by kernel_rfl) ?_
              exact ⟨rfl, rfl, w1.heap.size, wb3.heap.size, rfl, rfl, rfl, rfl, rfl, rfl, G6.perm (List.Perm.swap _ _ _)⟩
            · intro K hK
              go_simp
              have G3 := G2.new 40 #[.int .i64 0, .int .i64 0] (n := wa2.heap.size) (by simp)
              have s3_0 : World.cell? _ ⟨w.heap.size, 0, none⟩ = some (.slice (some ⟨x, ox, none⟩) b.accs.length c) := (G3.at 4 rfl : Bk _ w.heap.size 25 #[.slice (some ⟨x, ox, none⟩) b.accs.length c, .slice a' b.mvs.length c']).cell 0
              have s3_1 : World.cell? _ ⟨w.heap.size, 1, none⟩ = some (.slice a' b.mvs.length c') := (G3.at 4 rfl : Bk _ w.heap.size 25 #[.slice (some ⟨x, ox, none⟩) b.accs.length c, .slice a' b.mvs.length c']).cell 1
              refine ru_back hK (by exact ⟨s3_0, s3_1⟩) (fun hHeld => ?_)
              clear hK K
              (try simp only [Act.put, List.setIfInBounds_toArray, List.set_cons_zero, List.set_cons_succ])
              clear s3_0 s3_1
              refine ru_one 5 rfl (by kernel_rfl) (fun K hK => ?_)
              go_simp
              refine (rout_c lo hi _ _ b s (-1) _ (G3.at 5 rfl : HasB lo hi _ (.slice (some ⟨x, ox, none⟩) b.accs.length c) (.slice a' b.mvs.length c') b) HOK.out (by first | omega | (simp; omega)) (by omega)).mono ?_
              rintro e wb4 ⟨rfl, hg4⟩
              have hz4 := hg4.size
              (try simp at hz4)
              simp only [Sp.v]
              have G4 := G3.gn hg4
              have s4_0 : World.cell? _ ⟨w.heap.size, 0, none⟩ = some (.slice (some ⟨x, ox, none⟩) b.accs.length c) := (G4.at 4 rfl : Bk _ w.heap.size 25 #[.slice (some ⟨x, ox, none⟩) b.accs.length c, .slice a' b.mvs.length c']).cell 0
              have s4_1 : World.cell? _ ⟨w.heap.size, 1, none⟩ = some (.slice a' b.mvs.length c') := (G4.at 4 rfl : Bk _ w.heap.size 25 #[.slice (some ⟨x, ox, none⟩) b.accs.length c, .slice a' b.mvs.length c']).cell 1
              refine ru_back hK (by exact ⟨s4_0, s4_1⟩) (fun hHeld => ?_)
              clear hK K
              (try simp only [Act.put, List.setIfInBounds_toArray, List.set_cons_zero, List.set_cons_succ])
              clear s4_0 s4_1
              refine ru_one 8 rfl (by kernel_rfl) (fun K hK => ?_)
              have k5 : Bk _ w1.heap.size 40 #[.int .i64 0, .int .i64 0] := G4.at 1 rfl
              have c5 := k5.c2
              have l5 := k5.lt
              go_simp
              clear c5 l5 k5
              have G5 := ((G4.front 1 rfl rfl).set 0 (.int .i64 (inS b s (-1)).lo)).set 1 (.int .i64 (inS b s (-1)).hi)
              have s5_0 : World.cell? _ ⟨w.heap.size, 0, none⟩ = some (.slice (some ⟨x, ox, none⟩) b.accs.length c) := (G5.at 4 rfl : Bk _ w.heap.size 25 #[.slice (some ⟨x, ox, none⟩) b.accs.length c, .slice a' b.mvs.length c']).cell 0
              have s5_1 : World.cell? _ ⟨w.heap.size, 1, none⟩ = some (.slice a' b.mvs.length c') := (G5.at 4 rfl : Bk _ w.heap.size 25 #[.slice (some ⟨x, ox, none⟩) b.accs.length c, .slice a' b.mvs.length c']).cell 1
              refine ru_back hK (by exact ⟨s5_0, s5_1⟩) (fun hHeld => ?_)
              clear hK K
              (try simp only [Act.put, List.setIfInBounds_toArray, List.set_cons_zero, List.set_cons_succ])
              clear s5_0 s5_1
              refine ru_one 9 rfl (by kernel_rfl) (fun K hK => ?_)
              have k6 : Bk _ wa2.heap.size 40 #[.int .i64 0, .int .i64 0] := G5.at 1 rfl
              have c6 := k6.c2
              have l6 := k6.lt
              go_simp
              clear c6 l6 k6
              have G6 := ((G5.front 1 rfl rfl).set 0 (.int .i64 (outS b s (-1)).lo)).set 1 (.int .i64 (outS b s (-1)).hi)
              have s6_0 : World.cell? _ ⟨w.heap.size, 0, none⟩ = some (.slice (some ⟨x, ox, none⟩) b.accs.length c) := (G6.at 4 rfl : Bk _ w.heap.size 25 #[.slice (some ⟨x, ox, none⟩) b.accs.length c, .slice a' b.mvs.length c']).cell 0
              have s6_1 : World.cell? _ ⟨w.heap.size, 1, none⟩ = some (.slice a' b.mvs.length c') := (G6.at 4 rfl : Bk _ w.heap.size 25 #[.slice (some ⟨x, ox, none⟩) b.accs.length c, .slice a' b.mvs.length c']).cell 1
              refine ru_back_late hK (by kernel_rfl) ?_
              clear hK K
              (try simp only [Act.put, List.setIfInBounds_toArray, List.set_cons_zero, List.set_cons_succ])
              clear s6_0 s6_1
              refine ru_done (by kernel_rfl) ?_
              exact ⟨rfl, rfl, w1.heap.size, wa2.heap.size, rfl, rfl, rfl, rfl, rfl, rfl, G6.perm (List.Perm.swap _ _ _)⟩
          · intro K hK
            go_simp
            have G2 := G1.new 40 #[.int .i64 0, .int .i64 0] (n := (w1.heap.size + 1)) (by simp)
            have s2_0 : World.cell? _ ⟨w.heap.size, 0, none⟩ = some (.slice (some ⟨x, ox, none⟩) b.accs.length c) := (G2.at 4 rfl : Bk _ w.heap.size 25 #[.slice (some ⟨x, ox, none⟩) b.accs.length c, .slice a' b.mvs.length c']).cell 0
            have s2_1 : World.cell? _ ⟨w.heap.size, 1, none⟩ = some (.slice a' b.mvs.length c') := (G2.at 4 rfl : Bk _ w.heap.size 25 #[.slice (some ⟨x, ox, none⟩) b.accs.length c, .slice a' b.mvs.length c']).cell 1
            refine ru_back hK (by exact ⟨s2_0, s2_1⟩) (fun hHeld => ?_)
            clear hK K
            (try simp only [Act.put, List.setIfInBounds_toArray, List.set_cons_zero, List.set_cons_succ])
            clear s2_0 s2_1
            refine ru_one 2 rfl (by kernel_rfl) (fun K hK => ?_)
            go_simp
            refine (rin_c lo hi _ _ b s (-1) _ (G2.at 5 rfl : HasB lo hi _ (.slice (some ⟨x, ox, none⟩) b.accs.length c) (.slice a' b.mvs.length c') b) HOK.out (by first | omega | (simp; omega)) (by omega)).mono ?_
            rintro e wa3 ⟨rfl, hg3⟩
            have hz3 := hg3.size
            (try simp at hz3)
            simp only [Sp.v]
            have G3 := G2.gn hg3
            have s3_0 : World.cell? _ ⟨w.heap.size, 0, none⟩ = some (.slice (some ⟨x, ox, none⟩) b.accs.length c) := (G3.at 4 rfl : Bk _ w.heap.size 25 #[.slice (some ⟨x, ox, none⟩) b.accs.length c, .slice a' b.mvs.length c']).cell 0
            have s3_1 : World.cell? _ ⟨w.heap.size, 1, none⟩ = some (.slice a' b.mvs.length c') := (G3.at 4 rfl : Bk _ w.heap.size 25 #[.slice (some ⟨x, ox, none⟩) b.accs.length c, .slice a' b.mvs.length c']).cell 1
            refine ru_back hK (by exact ⟨s3_0, s3_1⟩) (fun hHeld => ?_)
            clear hK K
            (try simp only [Act.put, List.setIfInBounds_toArray, List.set_cons_zero, List.set_cons_succ])
            clear s3_0 s3_1
            refine ru_one 5 rfl (by kernel_rfl) (fun K hK => ?_)
            go_simp
            refine (rout_c lo hi _ _ b s (-1) _ (G3.at 5 rfl : HasB lo hi _ (.slice (some ⟨x, ox, none⟩) b.accs.length c) (.slice a' b.mvs.length c') b) HOK.out (by first | omega | (simp; omega)) (by omega)).mono ?_
            rintro e wb4 ⟨rfl, hg4⟩
            have hz4 := hg4.size
            (try simp at hz4)
            simp only [Sp.v]
            have G4 := G3.gn hg4
            have s4_0 : World.cell? _ ⟨w.heap.size, 0, none⟩ = some (.slice (some ⟨x, ox, none⟩) b.accs.length c) := (G4.at 4 rfl : Bk _ w.heap.size 25 #[.slice (some ⟨x, ox, none⟩) b.accs.length c, .slice a' b.mvs.length c']).cell 0
            have s4_1 : World.cell? _ ⟨w.heap.size, 1, none⟩ = some (.slice a' b.mvs.length c') := (G4.at 4 rfl : Bk _ w.heap.size 25 #[.slice (some ⟨x, ox, none⟩) b.accs.length c, .slice a' b.mvs.length c']).cell 1
            refine ru_back hK (by exact ⟨s4_0, s4_1⟩) (fun hHeld => ?_)
            clear hK K
            (try simp only [Act.put, List.setIfInBounds_toArray, List.set_cons_zero, List.set_cons_succ])
            clear s4_0 s4_1
            refine ru_one 8 rfl (by kernel_rfl) (fun K hK => ?_)
            have k5 : Bk _ w1.heap.size 40 #[.int .i64 0, .int .i64 0] := G4.at 1 rfl
            have c5 := k5.c2
            have l5 := k5.lt
            go_simp
            clear c5 l5 k5
            have G5 := ((G4.front 1 rfl rfl).set 0 (.int .i64 (inS b s (-1)).lo)).set 1 (.int .i64 (inS b s (-1)).hi)
            have s5_0 : World.cell? _ ⟨w.heap.size, 0, none⟩ = some (.slice (some ⟨x, ox, none⟩) b.accs.length c) := (G5.at 4 rfl : Bk _ w.heap.size 25 #[.slice (some ⟨x, ox, none⟩) b.accs.length c, .slice a' b.mvs.length c']).cell 0
            have s5_1 : World.cell? _ ⟨w.heap.size, 1, none⟩ = some (.slice a' b.mvs.length c') := (G5.at 4 rfl : Bk _ w.heap.size 25 #[.slice (some ⟨x, ox, none⟩) b.accs.length c, .slice a' b.mvs.length c']).cell 1
            refine ru_back hK (by exact ⟨s5_0, s5_1⟩) (fun hHeld => ?_)
            clear hK K
            (try simp only [Act.put, List.setIfInBounds_toArray, List.set_cons_zero, List.set_cons_succ])
            clear s5_0 s5_1
            refine ru_one 9 rfl (by kernel_rfl) (fun K hK => ?_)
            have k6 : Bk _ (w1.heap.size + 1) 40 #[.int .i64 0, .int .i64 0] := G5.at 1 rfl
            have c6 := k6.c2
            have l6 := k6.lt
            go_simp
            clear c6 l6 k6
            have G6 := ((G5.front 1 rfl rfl).set 0 (.int .i64 (outS b s (-1)).lo)).set 1 (.int .i64 (outS b s (-1)).hi)
            have s6_0 : World.cell? _ ⟨w.heap.size, 0, none⟩ = some (.slice (some ⟨x, ox, none⟩) b.accs.length c) := (G6.at 4 rfl : Bk _ w.heap.size 25 #[.slice (some ⟨x, ox, none⟩) b.accs.length c, .slice a' b.mvs.length c']).cell 0
            have s6_1 : World.cell? _ ⟨w.heap.size, 1, none⟩ = some (.slice a' b.mvs.length c') := (G6.at 4 rfl : Bk _ w.heap.size 25 #[.slice (some ⟨x, ox, none⟩) b.accs.length c, .slice a' b.mvs.length c']).cell 1
            refine ru_back_late hK (by kernel_rfl) ?_
            clear hK K
            (try simp only [Act.put, List.setIfInBounds_toArray, List.set_cons_zero, List.set_cons_succ])
            clear s6_0 s6_1
            refine ru_done (by kernel_rfl) ?_
            exact ⟨rfl, rfl, w1.heap.size, (w1.heap.size + 1), rfl, rfl, rfl, rfl, rfl, rfl, G6.perm (List.Perm.swap _ _ _)⟩
        · intro K hK
          go_simp
          have G1 := FD.new 40 #[.int .i64 0, .int .i64 0] (n := w1.heap.size) (by simp)
          have s1_0 : World.cell? _ ⟨w.heap.size, 0, none⟩ = some (.slice (some ⟨x, ox, none⟩) b.accs.length c) := (G1.at 3 rfl : Bk _ w.heap.size 25 #[.slice (some ⟨x, ox, none⟩) b.accs.length c, .slice a' b.mvs.length c']).cell 0
          have s1_1 : World.cell? _ ⟨w.heap.size, 1, none⟩ = some (.slice a' b.mvs.length c') := (G1.at 3 rfl : Bk _ w.heap.size 25 #[.slice (some ⟨x, ox, none⟩) b.accs.length c, .slice a' b.mvs.length c']).cell 1
          refine ru_back hK (by exact ⟨s1_0, s1_1⟩) (fun hHeld => ?_)
          clear hK K
          (try simp only [Act.put, List.setIfInBounds_toArray, List.set_cons_zero, List.set_cons_succ])
          clear s1_0 s1_1
          refine ru_two 2 6 rfl rfl (by kernel_rfl) ?_ ?_
          · intro K hK
            go_simp
            refine (rin_c lo hi _ _ b s (-1) _ (G1.at 4 rfl : HasB lo hi _ (.slice (some ⟨x, ox, none⟩) b.accs.length c) (.slice a' b.mvs.length c') b) HOK.out (by first | omega | (simp; omega)) (by omega)).mono ?_
            rintro e wa2 ⟨rfl, hg2⟩
            have hz2 := hg2.size
            (try simp at hz2)
            simp only [Sp.v]
            have G2 := G1.gn hg2
            have s2_0 : World.cell? _ ⟨w.heap.size, 0, none⟩ = some (.slice (some ⟨x, ox, none⟩) b.accs.length c) := (G2.at 3 rfl : Bk _ w.heap.size 25 #[.slice (some ⟨x, ox, none⟩) b.accs.length c, .slice a' b.mvs.length c']).cell 0
            have s2_1 : World.cell? _ ⟨w.heap.size, 1, none⟩ = some (.slice a' b.mvs.length c') := (G2.at 3 rfl : Bk _ w.heap.size 25 #[.slice (some ⟨x, ox, none⟩) b.accs.length c, .slice a' b.mvs.length c']).cell 1
            refine ru_back hK (by exact ⟨s2_0, s2_1⟩) (fun hHeld => ?_)
            clear hK K
            (try simp only [Act.put, List.setIfInBounds_toArray, List.set_cons_zero, List.set_cons_succ])
            clear s2_0 s2_1
            refine ru_two 5 6 rfl rfl (by kernel_rfl) ?_ ?_
            · intro K hK
              go_simp
              refine (rout_c lo hi _ _ b s (-1) _ (G2.at 4 rfl : HasB lo hi _ (.slice (some ⟨x, ox, none⟩) b.accs.length c) (.slice a' b.mvs.length c') b) HOK.out (by first | omega | (simp; omega)) (by omega)).mono ?_
              rintro e wb3 ⟨rfl, hg3⟩
              have hz3 := hg3.size
              (try simp at hz3)
              simp only [Sp.v]
              have G3 := G2.gn hg3
              have s3_0 : World.cell? _ ⟨w.heap.size, 0, none⟩ = some (.slice (some ⟨x, ox, none⟩) b.accs.length c) := (G3.at 3 rfl : Bk _ w.heap.size 25 #[.slice (some ⟨x, ox, none⟩) b.accs.length c, .slice a' b.mvs.length c']).cell 0
              have s3_1 : World.cell? _ ⟨w.heap.size, 1, none⟩ = some (.slice a' b.mvs.length c') := (G3.at 3 rfl : Bk _ w.heap.size 25 #[.slice (some ⟨x, ox, none⟩) b.accs.length c, .slice a' b.mvs.length c']).cell 1
              refine ru_back hK (by exact ⟨s3_0, s3_1⟩) (fun hHeld => ?_)
              clear hK K
              (try simp only [Act.put, List.setIfInBounds_toArray, List.set_cons_zero, List.set_cons_succ])
              clear s3_0 s3_1
              refine ru_one 6 rfl (by kernel_rfl) (fun K hK => ?_)
              go_simp
              have G4 := G3.new 40 #[.int .i64 0, .int .i64 0] (n := wb3.heap.size) (by simp)
              have s4_0 : World.cell? _ ⟨w.heap.size, 0, none⟩ = some (.slice (some ⟨x, ox, none⟩) b.accs.length c) := (G4.at 4 rfl : Bk _ w.heap.size 25 #[.slice (some ⟨x, ox, none⟩) b.accs.length c, .slice a' b.mvs.length c']).cell 0
              have s4_1 : World.cell? _ ⟨w.heap.size, 1, none⟩ = some (.slice a' b.mvs.length c') := (G4.at 4 rfl : Bk _ w.heap.size 25 #[.slice (some ⟨x, ox, none⟩) b.accs.length c, .slice a' b.mvs.length c']).cell 1
              refine ru_back hK (by exact ⟨s4_0, s4_1⟩) (fun hHeld => ?_)
              clear hK K
              (try simp only [Act.put, List.setIfInBounds_toArray, List.set_cons_zero, List.set_cons_succ])
              clear s4_0 s4_1
              refine ru_one 8 rfl (by kernel_rfl) (fun K hK => ?_)
              have k5 : Bk _ wb3.heap.size 40 #[.int .i64 0, .int .i64 0] := G4.at 0 rfl
              have c5 := k5.c2
              have l5 := k5.lt
              go_simp
              clear c5 l5 k5
              have G5 := (G3.new 40 #[.int .i64 (inS b s (-1)).lo, .int .i64 (inS b s (-1)).hi] (n := wb3.heap.size) (by simp))
              have s5_0 : World.cell? _ ⟨w.heap.size, 0, none⟩ = some (.slice (some ⟨x, ox, none⟩) b.accs.length c) := (G5.at 4 rfl : Bk _ w.heap.size 25 #[.slice (some ⟨x, ox, none⟩) b.accs.length c, .slice a' b.mvs.length c']).cell 0
              have s5_1 : World.cell? _ ⟨w.heap.size, 1, none⟩ = some (.slice a' b.mvs.length c') := (G5.at 4 rfl : Bk _ w.heap.size 25 #[.slice (some ⟨x, ox, none⟩) b.accs.length c, .slice a' b.mvs.length c']).cell 1
              refine ru_back hK (by exact ⟨s5_0, s5_1⟩) (fun hHeld => ?_)
              clear hK K
              (try simp only [Act.put, List.setIfInBounds_toArray, List.set_cons_zero, List.set_cons_succ])
              clear s5_0 s5_1
              refine ru_one 9 rfl (by kernel_rfl) (fun K hK => ?_)
              have k6 : Bk _ w1.heap.size 40 #[.int .i64 0, .int .i64 0] := G5.at 1 rfl
              have c6 := k6.c2
              have l6 := k6.lt
              go_simp
              clear c6 l6 k6
              have G6 := ((G5.front 1 rfl rfl).set 0 (.int .i64 (outS b s (-1)).lo)).set 1 (.int .i64 (outS b s (-1)).hi)
              have s6_0 : World.cell? _ ⟨w.heap.size, 0, none⟩ = some (.slice (some ⟨x, ox, none⟩) b.accs.length c) := (G6.at 4 rfl : Bk _ w.heap.size 25 #[.slice (some ⟨x, ox, none⟩) b.accs.length c, .slice a' b.mvs.length c']).cell 0
              have s6_1 : World.cell? _ ⟨w.heap.size, 1, none⟩ = some (.slice a' b.mvs.length c') := (G6.at 4 rfl : Bk _ w.heap.size 25 #[.slice (some ⟨x, ox, none⟩) b.accs.length c, .slice a' b.mvs.length c']).cell 1
              refine ru_back_late hK (by kernel_rfl) ?_
              clear hK K
              (try simp only [Act.put, List.setIfInBounds_toArray, List.set_cons_zero, List.set_cons_succ])
              clear s6_0 s6_1
              refine ru_done (by kernel_rfl) ?_
              exact ⟨rfl, rfl, wb3.heap.size, w1.heap.size, rfl, rfl, rfl, rfl, rfl, rfl, G6.perm (List.Perm.swap _ _ _)⟩
            · intro K hK
              go_simp
              have G3 := G2.new 40 #[.int .i64 0, .int .i64 0] (n := wa2.heap.size) (by simp)
              have s3_0 : World.cell? _ ⟨w.heap.size, 0, none⟩ = some (.slice (some ⟨x, ox, none⟩) b.accs.length c) := (G3.at 4 rfl : Bk _ w.heap.size 25 #[.slice (some ⟨x, ox, none⟩) b.accs.length c, .slice a' b.mvs.length c']).cell 0
              have s3_1 : World.cell? _ ⟨w.heap.size, 1, none⟩ = some (.slice a' b.mvs.length c') := (G3.at 4 rfl : Bk _ w.heap.size 25 #[.slice (some ⟨x, ox, none⟩) b.accs.length c, .slice a' b.mvs.length c']).cell 1
              refine ru_back hK (by exact ⟨s3_0, s3_1⟩) (fun hHeld => ?_)
              clear hK K
              (try simp only [Act.put, List.setIfInBounds_toArray, List.set_cons_zero, List.set_cons_succ])
              clear s3_0 s3_1
              refine ru_one 5 rfl (by kernel_rfl) (fun K hK => ?_)
              go_simp
              refine (rout_c lo hi _ _ b s (-1) _ (G3.at 5 rfl : HasB lo hi _ (.slice (some ⟨x, ox, none⟩) b.accs.length c) (.slice a' b.mvs.length c') b) HOK.out (by first | omega | (simp; omega)) (by omega)).mono ?_
              rintro e wb4 ⟨rfl, hg4⟩
              have hz4 := hg4.size
              (try simp at hz4)
              simp only [Sp.v]
              have G4 := G3.gn hg4
              have s4_0 : World.cell? _ ⟨w.heap.size, 0, none⟩ = some (.slice (some ⟨x, ox, none⟩) b.accs.length c) := (G4.at 4 rfl : Bk _ w.heap.size 25 #[.slice (some ⟨x, ox, none⟩) b.accs.length c, .slice a' b.mvs.length c']).cell 0
              have s4_1 : World.cell? _ ⟨w.heap.size, 1, none⟩ = some (.slice a' b.mvs.length c') := (G4.at 4 rfl : Bk _ w.heap.size 25 #[.slice (some ⟨x, ox, none⟩) b.accs.length c, .slice a' b.mvs.length c']).cell 1
              refine ru_back hK (by exact ⟨s4_0, s4_1⟩) (fun hHeld => ?_)
              clear hK K
              (try simp only [Act.put, List.setIfInBounds_toArray, List.set_cons_zero, List.set_cons_succ])
              clear s4_0 s4_1
              refine ru_one 8 rfl (by kernel_rfl) (fun K hK => ?_)
              have k5 : Bk _ wa2.heap.size 40 #[.int .i64 0, .int .i64 0] := G4.at 0 rfl
              have c5 := k5.c2
              have l5 := k5.lt
              go_simp
              clear c5 l5 k5
              have G5 := (G4.set 0 (.int .i64 (inS b s (-1)).lo)).set 1 (.int .i64 (inS b s (-1)).hi)
              have s5_0 : World.cell? _ ⟨w.heap.size, 0, none⟩ = some (.slice (some ⟨x, ox, none⟩) b.accs.length c) := (G5.at 4 rfl : Bk _ w.heap.size 25 #[.slice (some ⟨x, ox, none⟩) b.accs.length c, .slice a' b.mvs.length c']).cell 0
              have s5_1 : World.cell? _ ⟨w.heap.size, 1, none⟩ = some (.slice a' b.mvs.length c') := (G5.at 4 rfl : Bk _ w.heap.size 25 #[.slice (some ⟨x, ox, none⟩) b.accs.length c, .slice a' b.mvs.length c']).cell 1
              refine ru_back hK (by exact ⟨s5_0, s5_1⟩) (fun hHeld => ?_)
              clear hK K
              (try simp only [Act.put, List.setIfInBounds_toArray, List.set_cons_zero, List.set_cons_succ])
              clear s5_0 s5_1
              refine ru_one 9 rfl (by kernel_rfl) (fun K hK => ?_)
              have k6 : Bk _ w1.heap.size 40 #[.int .i64 0, .int .i64 0] := G5.at 1 rfl
              have c6 := k6.c2
              have l6 := k6.lt
              go_simp
              clear c6 l6 k6
              have G6 := ((G5.front 1 rfl rfl).set 0 (.int .i64 (outS b s (-1)).lo)).set 1 (.int .i64 (outS b s (-1)).hi)
              have s6_0 : World.cell? _ ⟨w.heap.size, 0, none⟩ = some (.slice (some ⟨x, ox, none⟩) b.accs.length c) := (G6.at 4 rfl : Bk _ w.heap.size 25 #[.slice (some ⟨x, ox, none⟩) b.accs.length c, .slice a' b.mvs.length c']).cell 0
              have s6_1 : World.cell? _ ⟨w.heap.size, 1, none⟩ = some (.slice a' b.mvs.length c') := (G6.at 4 rfl : Bk _ w.heap.size 25 #[.slice (some ⟨x, ox, none⟩) b.accs.length c, .slice a' b.mvs.length c']).cell 1
              refine ru_back_late hK (by kernel_rfl) ?_
              clear hK K
              (try simp only [Act.put, List.setIfInBounds_toArray, List.set_cons_zero, List.set_cons_succ])
              clear s6_0 s6_1
              refine ru_done (by kernel_rfl) ?_
              exact ⟨rfl, rfl, wa2.heap.size, w1.heap.size, rfl, rfl, rfl, rfl, rfl, rfl, G6.perm (List.Perm.swap _ _ _)⟩
          · intro K hK
            go_simp
            have G2 := G1.new 40 #[.int .i64 0, .int .i64 0] (n := (w1.heap.size + 1)) (by simp)
            have s2_0 : World.cell? _ ⟨w.heap.size, 0, none⟩ = some (.slice (some ⟨x, ox, none⟩) b.accs.length c) := (G2.at 4 rfl : Bk _ w.heap.size 25 #[.slice (some ⟨x, ox, none⟩) b.accs.length c, .slice a' b.mvs.length c']).cell 0
            have s2_1 : World.cell? _ ⟨w.heap.size, 1, none⟩ = some (.slice a' b.mvs.length c') := (G2.at 4 rfl : Bk _ w.heap.size 25 #[.slice (some ⟨x, ox, none⟩) b.accs.length c, .slice a' b.mvs.length c']).cell 1
            refine ru_back hK (by exact ⟨s2_0, s2_1⟩) (fun hHeld => ?_)
            clear hK K
            (try simp only [Act.put, List.setIfInBounds_toArray, List.set_cons_zero, List.set_cons_succ])
            clear s2_0 s2_1
            refine ru_one 2 rfl (by kernel_rfl) (fun K hK => ?_)
            go_simp
            refine (rin_c lo hi _ _ b s (-1) _ (G2.at 5 rfl : HasB lo hi _ (.slice (some ⟨x, ox, none⟩) b.accs.length c) (.slice a' b.mvs.length c') b) HOK.out (by first | omega | (simp; omega)) (by omega)).mono ?_
            rintro e wa3 ⟨rfl, hg3⟩
            have hz3 := hg3.size
            (try simp at hz3)
            simp only [Sp.v]
            have G3 := G2.gn hg3
            have s3_0 : World.cell? _ ⟨w.heap.size, 0, none⟩ = some (.slice (some ⟨x, ox, none⟩) b.accs.length c) := (G3.at 4 rfl : Bk _ w.heap.size 25 #[.slice (some ⟨x, ox, none⟩) b.accs.length c, .slice a' b.mvs.length c']).cell 0
            have s3_1 : World.cell? _ ⟨w.heap.size, 1, none⟩ = some (.slice a' b.mvs.length c') := (G3.at 4 rfl : Bk _ w.heap.size 25 #[.slice (some ⟨x, ox, none⟩) b.accs.length c, .slice a' b.mvs.length c']).cell 1
            refine ru_back hK (by exact ⟨s3_0, s3_1⟩) (fun hHeld => ?_)
            clear hK K
            (try simp only [Act.put, List.setIfInBounds_toArray, List.set_cons_zero, List.set_cons_succ])
            clear s3_0 s3_1
            refine ru_one 5 rfl (by kernel_rfl) (fun K hK => ?_)
            go_simp
            refine (rout_c lo hi _ _ b s (-1) _ (G3.at 5 rfl : HasB lo hi _ (.slice (some ⟨x, ox, none⟩) b.accs.length c) (.slice a' b.mvs.length c') b) HOK.out (by first | omega | (simp; omega)) (by omega)).mono ?_
            rintro e wb4 ⟨rfl, hg4⟩
            have hz4 := hg4.size
            (try simp at hz4)
            simp only [Sp.v]
            have G4 := G3.gn hg4
            have s4_0 : World.cell? _ ⟨w.heap.size, 0, none⟩ = some (.slice (some ⟨x, ox, none⟩) b.accs.length c) := (G4.at 4 rfl : Bk _ w.heap.size 25 #[.slice (some ⟨x, ox, none⟩) b.accs.length c, .slice a' b.mvs.length c']).cell 0
            have s4_1 : World.cell? _ ⟨w.heap.size, 1, none⟩ = some (.slice a' b.mvs.length c') := (G4.at 4 rfl : Bk _ w.heap.size 25 #[.slice (some ⟨x, ox, none⟩) b.accs.length c, .slice a' b.mvs.length c']).cell 1
            refine ru_back hK (by exact ⟨s4_0, s4_1⟩) (fun hHeld => ?_)
            clear hK K
            (try simp only [Act.put, List.setIfInBounds_toArray, List.set_cons_zero, List.set_cons_succ])
            clear s4_0 s4_1
            refine ru_one 8 rfl (by kernel_rfl) (fun K hK => ?_)
            have k5 : Bk _ (w1.heap.size + 1) 40 #[.int .i64 0, .int .i64 0] := G4.at 0 rfl
            have c5 := k5.c2
            have l5 := k5.lt
            go_simp
            clear c5 l5 k5
            have G5 := (G4.set 0 (.int .i64 (inS b s (-1)).lo)).set 1 (.int .i64 (inS b s (-1)).hi)
            have s5_0 : World.cell? _ ⟨w.heap.size, 0, none⟩ = some (.slice (some ⟨x, ox, none⟩) b.accs.length c) := (G5.at 4 rfl : Bk _ w.heap.size 25 #[.slice (some ⟨x, ox, none⟩) b.accs.length c, .slice a' b.mvs.length c']).cell 0
            have s5_1 : World.cell? _ ⟨w.heap.size, 1, none⟩ = some (.slice a' b.mvs.length c') := (G5.at 4 rfl : Bk _ w.heap.size 25 #[.slice (some ⟨x, ox, none⟩) b.accs.length c, .slice a' b.mvs.length c']).cell 1
            refine ru_back hK (by exact ⟨s5_0, s5_1⟩) (fun hHeld => ?_)
            clear hK K
            (try simp only [Act.put, List.setIfInBounds_toArray, List.set_cons_zero, List.set_cons_succ])
            clear s5_0 s5_1
            refine ru_one 9 rfl (by kernel_rfl) (fun K hK => ?_)
            have k6 : Bk _ w1.heap.size 40 #[.int .i64 0, .int .i64 0] := G5.at 1 rfl
            have c6 := k6.c2
            have l6 := k6.lt
            go_simp
            clear c6 l6 k6
            have G6 := ((G5.front 1 rfl rfl).set 0 (.int .i64 (outS b s (-1)).lo)).set 1 (.int .i64 (outS b s (-1)).hi)
            have s6_0 : World.cell? _ ⟨w.heap.size, 0, none⟩ = some (.slice (some ⟨x, ox, none⟩) b.accs.length c) := (G6.at 4 rfl : Bk _ w.heap.size 25 #[.slice (some ⟨x, ox, none⟩) b.accs.length c, .slice a' b.mvs.length c']).cell 0
            have s6_1 : World.cell? _ ⟨w.heap.size, 1, none⟩ = some (.slice a' b.mvs.length c') := (G6.at 4 rfl : Bk _ w.heap.size 25 #[.slice (some ⟨x, ox, none⟩) b.accs.length c, .slice a' b.mvs.length c']).cell 1
            refine ru_back_late hK (by kernel_rfl) ?_
            clear hK K
            (try simp only [Act.put, List.setIfInBounds_toArray, List.set_cons_zero, List.set_cons_succ])
            clear s6_0 s6_1
            refine ru_done (by kernel_rfl) ?_
            exact ⟨rfl, rfl, (w1.heap.size + 1), w1.heap.size, rfl, rfl, rfl, rfl, rfl, rfl, G6.perm (List.Perm.swap _ _ _)⟩
    · obtain rfl : s = P := by omega
      have HE := Lib.hid (totR_end HOK.out HCA.out)
      have HL : Hid (lossT b = totF b (2 ^ b.accs.length)) := Lib.hid rfl
      rw [HP.out] at HE HL
      generalize totR b s = r at *
      have b135 : Bk _ (w.heap.size + 2) 40 #[.int .i64 r.lo, .int .i64 r.hi] := F11.at 0 rfl
      have l136 := b135.lt
      have q137 : World.cell? _ ⟨(w.heap.size + 2), 0, none⟩ = some (.int .i64 r.lo) := b135.cell 0
      have z138 := b135.frozen 0
      have q139 : World.cell? _ ⟨(w.heap.size + 2), 1, none⟩ = some (.int .i64 r.hi) := b135.cell 1
      have z140 := b135.frozen 1
      have b141 : Bk _ (w.heap.size + 1) 40 #[.int .i64 0, .int .i64 0] := F11.at 1 rfl
      have l142 := b141.lt
      have q143 : World.cell? _ ⟨(w.heap.size + 1), 0, none⟩ = some (.int .i64 0) := b141.cell 0
      have z144 := b141.frozen 0
      have q145 : World.cell? _ ⟨(w.heap.size + 1), 1, none⟩ = some (.int .i64 0) := b141.cell 1
      have z146 := b141.frozen 1
      go_wp2_with fail
      clear b135 l136 q137 z138 q139 z140 b141 l142 q143 z144 q145 z146
      have G : Bun w [rbox (w.heap.size + 1) 40 #[.int .i64 r.lo, .int .i64 r.hi], rbox (w.heap.size + 2) 40 #[.int .i64 r.lo, .int .i64 r.hi], rbox w.heap.size 25 #[.slice (some ⟨x, ox, none⟩) b.accs.length c, .slice a' b.mvs.length c'], rbook lo hi (.slice (some ⟨x, ox, none⟩) b.accs.length c) (.slice a' b.mvs.length c') b] _ := ((F11.front 1 rfl rfl).set 0 (.int .i64 r.lo)).set 1 (.int .i64 r.hi)
      have gb : Bk _ (w.heap.size + 1) 40 #[.int .i64 r.lo, .int .i64 r.hi] := G.at 0 rfl
      have gc := gb.c2
      exact bodyPost_ret (v := r.v) (by simp [results, Try.results72, go_sem, Sp.v, gc]) rfl ⟨by rw [HL.out, ← HE.out], G.gb⟩
  case atStart30 =>
    exact Lib.hid ⟨0, rfl, rfl, rfl, rfl, Nat.zero_le _, rfl, by simpa [totR, totF, neg1] using F4⟩
end Go.Proofs.Ytfifldbinnkdmaa
