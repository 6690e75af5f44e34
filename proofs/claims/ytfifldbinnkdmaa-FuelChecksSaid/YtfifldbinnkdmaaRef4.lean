/- The reference's cuts: accounts that may lose; its cuts are the program's sets. -/
import Derived.Test.YtfifldbinnkdmaaRef3
import Derived.Test.YtfifldbinnkdmaaLoss
import Derived.Deep.RegionHeld3
set_option linter.unusedVariables false
set_option linter.unusedSimpArgs false
set_option linter.unnecessarySimpa false
namespace Go.Proofs.Ytfifldbinnkdmaa
open Go.RowKit Go.Shelf
set_option maxRecDepth 100000

/-- A set has an account before number k, other than one, that may lose. -/
def losesF (b : Bok) (s : Nat) (but : Int) : Nat → Bool
  | 0 => false
  | k + 1 => losesF b s but k || (bitOf s k && ((k : Int) != but) && (ga b.accs k).kind == 1)
def losesB (b : Bok) (s : Nat) (but : Int) : Bool := losesF b s but b.accs.length
theorem losesF_stop {b : Bok} {s : Nat} {but : Int} {k : Nat} : ∀ m, losesF b s but (k + 1) = true → losesF b s but (k + 1 + m) = true := by
  intro m
  induction m with
  | zero => exact id
  | succ m ih => intro h; rw [show k + 1 + (m + 1) = (k + 1 + m) + 1 by omega]; simp [losesF, ih h]
theorem bitOf_nat (s i : Nat) : bitOf s (i : Int) = s.testBit i := rfl
theorem grpA_in {b : Bok} {s : Nat} : ∀ k, (grpA b.accs s k).least = (inA b s (-1) k).lo - (outA b s (-1) k).hi ∧ (grpA b.accs s k).most = (inA b s (-1) k).hi - (outA b s (-1) k).lo := by
  intro k
  induction k with
  | zero => simp [grpA, inA, outA]
  | succ k ih =>
    have h1 : ((k : Nat) : Int) ≠ -1 := by omega
    have h2 : ((b.accs.length + k : Nat) : Int) ≠ -1 := by omega
    cases hk : s.testBit k
    · rw [grpA_no hk, inA, outA, if_neg (by simp [bitOf_nat, hk]), if_neg (by simp [bitOf_nat, hk])]
      exact ih
    · rw [grpA_yes hk, inA, outA, if_pos ⟨by simp [bitOf_nat, hk], h1⟩, if_pos ⟨by simp [bitOf_nat, hk], h2⟩]
      simp only [addS]
      omega
theorem grpM_in {b : Bok} {s : Nat} : ∀ k, (grpM b.mvs s (grpA b.accs s b.accs.length) k).least = (inM b s (-1) k).lo - (outM b s (-1) k).hi ∧ (grpM b.mvs s (grpA b.accs s b.accs.length) k).most = (inM b s (-1) k).hi - (outM b s (-1) k).lo := by
  intro k
  induction k with
  | zero => exact grpA_in _
  | succ k ih =>
    have h1 : ((2 * b.accs.length + k : Nat) : Int) ≠ -1 := by omega
    cases ht : bitOf s (gm b.mvs k).to <;> cases hf : bitOf s (gm b.mvs k).fr
    · rw [grpM, inM, outM, if_neg (by simp [ht]), if_neg (by simp [hf]), if_neg (by simp [ht]), if_neg (by simp [hf])]
      exact ih
    · rw [grpM, inM, outM, if_neg (by simp [ht]), if_pos (by simp [hf, ht]), if_neg (by simp [ht]), if_pos ⟨hf, ht, h1⟩]
      simp only [addS]
      omega
    · rw [grpM, inM, outM, if_pos (by simp [hf, ht]), if_pos ⟨ht, hf, h1⟩, if_neg (by simp [hf])]
      simp only [addS]
      omega
    · rw [grpM, inM, outM, if_neg (by simp [hf]), if_neg (by simp [ht]), if_neg (by simp [hf]), if_neg (by simp [ht])]
      exact ih
/-- A set's least and most are the cut's. -/
theorem grp_in (b : Bok) (s : Nat) : (grp b s).least = (inS b s (-1)).lo - (outS b s (-1)).hi ∧ (grp b s).most = (inS b s (-1)).hi - (outS b s (-1)).lo := grpM_in _
theorem grpM_same (l : List Mv) (s : Nat) (g : Grp) : ∀ k, (grpM l s g k).ground = g.ground ∧ (grpM l s g k).rest = g.rest := by
  intro k
  induction k with
  | zero => exact ⟨rfl, rfl⟩
  | succ k ih => unfold grpM; split <;> (try split) <;> exact ih
theorem ground_loses {b : Bok} (h : BokOk b) (s : Nat) : ∀ k, k ≤ b.accs.length → (grpA b.accs s k).ground = !losesF b s (-1) k := by
  intro k
  induction k with
  | zero => intro _; rfl
  | succ k ih =>
    intro hk
    have hk2 := (h.acc k (by omega)).kind
    have h1 : (((k : Nat) : Int) != -1) = true := by rw [bne_iff_ne]; omega
    cases hb : s.testBit k
    · rw [grpA_no hb]; simp [losesF, bitOf_nat, hb, ih (by omega)]
    · rw [grpA_yes hb]
      rcases hk2 with e | e <;> simp [losesF, bitOf_nat, hb, ih (by omega), e, h1]
theorem grp_ground {b : Bok} (h : BokOk b) (s : Nat) : (grp b s).ground = !losesB b s (-1) := by
  unfold grp
  rw [(grpM_same _ _ _ _).1]
  exact ground_loses h s _ (Nat.le_refl _)
theorem oth_loses {b : Bok} (h : BokOk b) (a s : Nat) : ∀ k, k ≤ b.accs.length → othF b a s k = !losesF b s a k := by
  intro k
  induction k with
  | zero => intro _; rfl
  | succ k ih =>
    intro hk
    have hk2 := (h.acc k (by omega)).kind
    have e1 : (((k : Nat) : Int) != (a : Int)) = !(k == a) := by
      by_cases e : k = a
      · subst e; simp
      · have : ((k : Nat) : Int) ≠ a := by omega
        rw [bne_iff_ne.2 this, beq_eq_false_iff_ne.2 e]; rfl
    unfold othF losesF
    rw [ih (by omega), e1, bitOf_nat]
    rcases hk2 with e | e <;> cases s.testBit k <;> cases (k == a) <;> cases losesF b s a k <;> simp [e]
theorem rest_loses {b : Bok} (h : BokOk b) {s : Nat} (hs : s < 2 ^ b.accs.length) : ∀ k, k ≤ b.accs.length → (grpA b.accs s k).rest = !losesF b (2 ^ b.accs.length - 1 - s) (-1) k := by
  intro k
  induction k with
  | zero => intro _; rfl
  | succ k ih =>
    intro hk
    have hk2 := (h.acc k (by omega)).kind
    have h1 : (((k : Nat) : Int) != -1) = true := by rw [bne_iff_ne]; omega
    have hb2 : (2 ^ b.accs.length - 1 - s).testBit k = !s.testBit k := by
      rw [show 2 ^ b.accs.length - 1 - s = 2 ^ b.accs.length - (s + 1) by omega, Nat.testBit_two_pow_sub_succ hs]
      simp [show k < b.accs.length by omega]
    cases hb : s.testBit k
    · rw [grpA_no hb]
      rcases hk2 with e | e <;> simp [losesF, bitOf_nat, hb2, hb, ih (by omega), e, h1]
    · rw [grpA_yes hb]; simp [losesF, bitOf_nat, hb2, hb, ih (by omega)]
theorem grp_rest {b : Bok} (h : BokOk b) {s : Nat} (hs : s < 2 ^ b.accs.length) : (grp b s).rest = !losesB b (2 ^ b.accs.length - 1 - s) (-1) := by
  unfold grp
  rw [(grpM_same _ _ _ _).2]
  exact rest_loses h hs _ (Nat.le_refl _)
theorem pow_le {n : Nat} (h : n ≤ 8) : 2 ^ n ≤ 256 := Nat.pow_le_pow_right (by decide) h

set_option maxHeartbeats 2000000 in
theorem rloses_c (lo hi : Nat) (va vm : Value) (b : Bok) (s : Nat) (but : Int) (w : World) (hb : HasB lo hi w va vm b) (hok : BokOk b) (h2 : hi ≤ w.heap.size) (hs8 : s < 256) :
    Calls Try.prog 103 #[.agg #[va, vm], .int .i64 s, .int .i64 but] w (Ret (.bool (losesB b s but)) w) := by
  obtain ⟨x, ox, c, a', c', rfl, rfl⟩ := hb.valA hok.n0
  have hn8 := hok.n8
  have HOK := Lib.hid hok
  clear hok
  have F1 : Bun w [rbook lo hi (.slice (some ⟨x, ox, none⟩) b.accs.length c) (.slice a' b.mvs.length c') b] _ := Bun.book hb h2
  clear hb
  go_enter Try.func103, Try.ntmps103
  have F2 : Bun w [rbox w.heap.size 25 #[.slice (some ⟨x, ox, none⟩) b.accs.length c, .slice a' b.mvs.length c'], rbook lo hi (.slice (some ⟨x, ox, none⟩) b.accs.length c) (.slice a' b.mvs.length c') b] _ := F1.new 25 #[.slice (some ⟨x, ox, none⟩) b.accs.length c, .slice a' b.mvs.length c'] (n := w.heap.size) (by simp)
  clear F1
  go_wp2_with fail
  refine wp_loopS 32 rfl (fun t ds wr => Hid (∃ (i : Nat), t 1 = .int .i64 s ∧ t 2 = .int .i64 but ∧ t 3 = .pointer (some ⟨w.heap.size, 0, none⟩) ∧ t 7 = .int .i64 i ∧ i ≤ b.accs.length ∧ ds = [] ∧ losesF b s but i = false ∧ Bun w [rbox w.heap.size 25 #[.slice (some ⟨x, ox, none⟩) b.accs.length c, .slice a' b.mvs.length c'], rbook lo hi (.slice (some ⟨x, ox, none⟩) b.accs.length c) (.slice a' b.mvs.length c') b] wr)) (fun t wr => b.accs.length - (intOf (t 7)).toNat) ?atStart1 ?round1
  case round1 =>
    intro t ds wr hHid
    obtain ⟨i, e1, e2, e3, e7, hrel⟩ := hHid.out
    clear hHid
    have e : ((List.range 32).map t).toArray = #[t 0, t 1, t 2, t 3, t 4, t 5, t 6, t 7, t 8, t 9, t 10, t 11, t 12, t 13, t 14, t 15, t 16, t 17, t 18, t 19, t 20, t 21, t 22, t 23, t 24, t 25, t 26, t 27, t 28, t 29, t 30, t 31] := rfl
    (try dsimp only at e)
    rw [e1, e2, e3, e7] at e
    rw [e]
    simp only [e7]
    clear e e1 e2 e3 e7
    clear F2
    obtain ⟨hi_, rfl, hno, hF⟩ := hrel
    by_cases hlt : i < b.accs.length
    · skip
      obtain ⟨_, g1, _⟩ := HasB.acc (hF.at 1 rfl : HasB lo hi _ (.slice (some ⟨x, ox, none⟩) b.accs.length c) (.slice a' b.mvs.length c') b) hlt
      have hk2 := (HOK.out.acc i hlt).kind
      have HN := Lib.hid (show losesF b s but (i + 1) = (losesF b s but i || (bitOf s i && ((i : Int) != but) && (ga b.accs i).kind == 1)) from rfl)
      rw [hno, Bool.false_or] at HN
      clear hno
      have hst := losesF_stop (b := b) (s := s) (but := but) (k := i) (b.accs.length - (i + 1))
      rw [show i + 1 + (b.accs.length - (i + 1)) = b.accs.length by omega] at hst
      have HS := Lib.hid hst
      clear hst
      generalize (ga b.accs i).kind = kd at *
      have b3 : Bk _ w.heap.size 25 #[.slice (some ⟨x, ox, none⟩) b.accs.length c, .slice a' b.mvs.length c'] := hF.at 0 rfl
      have l4 := b3.lt
      have q5 : World.cell? _ ⟨w.heap.size, 0, none⟩ = some (.slice (some ⟨x, ox, none⟩) b.accs.length c) := b3.cell 0
      have z6 := b3.frozen 0
      have q7 : World.cell? _ ⟨w.heap.size, 1, none⟩ = some (.slice a' b.mvs.length c') := b3.cell 1
      have z8 := b3.frozen 1
      go_wp2_with fail
      refine (rhas_c s i _ hs8 (by omega) (by omega)).mono ?_
      rintro e w2 ⟨rfl, hg2⟩
      replace g1 := gbc hg2 (by simp) g1
      clear b3 l4 q5 z6 q7 z8
      have F9 : Bun w [rbox w.heap.size 25 #[.slice (some ⟨x, ox, none⟩) b.accs.length c, .slice a' b.mvs.length c'], rbook lo hi (.slice (some ⟨x, ox, none⟩) b.accs.length c) (.slice a' b.mvs.length c') b] w2 := hF.gn hg2
      clear hF
      clear hg2
      generalize hq : bitOf s i = q at HN ⊢
      clear hq
      cases q
      · skip
        have b10 : Bk _ w.heap.size 25 #[.slice (some ⟨x, ox, none⟩) b.accs.length c, .slice a' b.mvs.length c'] := F9.at 0 rfl
        have l11 := b10.lt
        have q12 : World.cell? _ ⟨w.heap.size, 0, none⟩ = some (.slice (some ⟨x, ox, none⟩) b.accs.length c) := b10.cell 0
        have z13 := b10.frozen 0
        have q14 : World.cell? _ ⟨w.heap.size, 1, none⟩ = some (.slice a' b.mvs.length c') := b10.cell 1
        have z15 := b10.frozen 1
        go_wp2_with fail
        exact ⟨rfl, Lib.hid ⟨i + 1, rfl, rfl, rfl, (by show Value.int .i64 ((i : Int) + 1) = _; simp), by omega, (by simp), (by rw [HN.out]; simp), F9⟩, by simp [slot, intOf]; omega⟩
      · skip
        by_cases hk : (i : Int) = but
        · have e1 : ((i : Int) != but) = false := by simp [hk]
          have HE := Lib.hid e1
          have HK := Lib.hid hk
          clear hk
          have b16 : Bk _ w.heap.size 25 #[.slice (some ⟨x, ox, none⟩) b.accs.length c, .slice a' b.mvs.length c'] := F9.at 0 rfl
          have l17 := b16.lt
          have q18 : World.cell? _ ⟨w.heap.size, 0, none⟩ = some (.slice (some ⟨x, ox, none⟩) b.accs.length c) := b16.cell 0
          have z19 := b16.frozen 0
          have q20 : World.cell? _ ⟨w.heap.size, 1, none⟩ = some (.slice a' b.mvs.length c') := b16.cell 1
          have z21 := b16.frozen 1
          go_wp2_with fail
          exact ⟨rfl, Lib.hid ⟨i + 1, rfl, rfl, rfl, (by show Value.int .i64 ((i : Int) + 1) = _; simp), by omega, (by simp), (by rw [HN.out]; simp [HE.out]), F9⟩, by simp [slot, intOf]; omega⟩
        · have e1 : ((i : Int) != but) = true := by simpa using hk
          have HE := Lib.hid e1
          clear hk
          by_cases hd : kd = 1
          · have e2 : (kd == 1) = true := by simp [hd]
            have HD := Lib.hid e2
            clear hd
            have b22 : Bk _ w.heap.size 25 #[.slice (some ⟨x, ox, none⟩) b.accs.length c, .slice a' b.mvs.length c'] := F9.at 0 rfl
            have l23 := b22.lt
            have q24 : World.cell? _ ⟨w.heap.size, 0, none⟩ = some (.slice (some ⟨x, ox, none⟩) b.accs.length c) := b22.cell 0
            have z25 := b22.frozen 0
            have q26 : World.cell? _ ⟨w.heap.size, 1, none⟩ = some (.slice a' b.mvs.length c') := b22.cell 1
            have z27 := b22.frozen 1
            go_wp2_with fail
            go_ret
            exact ⟨by rw [show losesB b s but = true from HS.out (by rw [HN.out, HE.out, HD.out]; rfl)]; rfl, F9.gb⟩
          · have e2 : (kd == 1) = false := by simp [hd]
            have HD := Lib.hid e2
            clear hd
            have b28 : Bk _ w.heap.size 25 #[.slice (some ⟨x, ox, none⟩) b.accs.length c, .slice a' b.mvs.length c'] := F9.at 0 rfl
            have l29 := b28.lt
            have q30 : World.cell? _ ⟨w.heap.size, 0, none⟩ = some (.slice (some ⟨x, ox, none⟩) b.accs.length c) := b28.cell 0
            have z31 := b28.frozen 0
            have q32 : World.cell? _ ⟨w.heap.size, 1, none⟩ = some (.slice a' b.mvs.length c') := b28.cell 1
            have z33 := b28.frozen 1
            go_wp2_with fail
            exact ⟨rfl, Lib.hid ⟨i + 1, rfl, rfl, rfl, (by show Value.int .i64 ((i : Int) + 1) = _; simp), by omega, (by simp), (by rw [HN.out]; simp [HE.out, HD.out]), F9⟩, by simp [slot, intOf]; omega⟩
    · obtain rfl : i = b.accs.length := by omega
      have b34 : Bk _ w.heap.size 25 #[.slice (some ⟨x, ox, none⟩) b.accs.length c, .slice a' b.mvs.length c'] := hF.at 0 rfl
      have l35 := b34.lt
      have q36 : World.cell? _ ⟨w.heap.size, 0, none⟩ = some (.slice (some ⟨x, ox, none⟩) b.accs.length c) := b34.cell 0
      have z37 := b34.frozen 0
      have q38 : World.cell? _ ⟨w.heap.size, 1, none⟩ = some (.slice a' b.mvs.length c') := b34.cell 1
      have z39 := b34.frozen 1
      have HN := Lib.hid hno
      clear hno
      go_wp2_with fail
      go_ret
      exact ⟨by rw [show losesB b s but = false from HN.out]; rfl, hF.gb⟩
  case atStart1 =>
    exact Lib.hid ⟨0, rfl, rfl, rfl, rfl, Nat.zero_le _, rfl, rfl, F2⟩

set_option maxHeartbeats 1000000 in
theorem rallTanks_c (lo hi : Nat) (va vm : Value) (b : Bok) (s : Nat) (w : World) (hb : HasB lo hi w va vm b) (hok : BokOk b) (h2 : hi ≤ w.heap.size) (hs8 : s < 2 ^ b.accs.length) :
    Calls Try.prog 104 #[.agg #[va, vm], .int .i64 s] w (Ret (.bool (grp b s).rest) w) := by
  obtain ⟨x, ox, c, a', c', rfl, rfl⟩ := hb.valA hok.n0
  have hn8 := hok.n8
  have hp := pow_le hn8
  have HR := Lib.hid (grp_rest hok hs8)
  have HOK := Lib.hid hok
  have hB := hb.alloc (.cells #[.slice (some ⟨x, ox, none⟩) b.accs.length c, .slice a' b.mvs.length c'] 25)
  have hx := Bk.new w 25 #[.slice (some ⟨x, ox, none⟩) b.accs.length c, .slice a' b.mvs.length c']
  have hc := hx.c2
  have hl := hx.lt
  clear hok hb
  obtain ⟨P, hP⟩ : ∃ P, 2 ^ b.accs.length = P := ⟨_, rfl⟩
  rw [hP] at hs8 hp HR
  have HP := Lib.hid hP
  clear hP
  have hw1 : IntKind.i64.wrap ((P : Int) - 1) = (P : Int) - 1 := IntWalk.i64_in _ (by omega)
  have hw2 : IntKind.i64.wrap ((P : Int) - 1 - s) = (P : Int) - 1 - s := IntWalk.i64_in _ (by omega)
  have hcast : ((P - 1 - s : Nat) : Int) = (P : Int) - 1 - s := by omega
  have HC := Lib.hid hcast
  clear hcast
  go_enter Try.func104, Try.ntmps104
  go_wp2_with fail
  go_region_held3 (fun W => W.cell? ⟨w.heap.size, 0, none⟩ = some (.slice (some ⟨x, ox, none⟩) b.accs.length c) ∧ W.cell? ⟨w.heap.size, 1, none⟩ = some (.slice a' b.mvs.length c')) (go_keep)
    (first
    | (go_at_call 99; refine (rsets_c lo hi _ _ b _ hB.drew hn8).mono ?_; rintro e w2 ⟨rfl, hg2⟩; rw [HP.out]; have r0 := gbc hg2 (by simp) hc.1; have r1 := gbc hg2 (by simp) hc.2.1; have hz := hg2.size; (try simp at hz))
    | (go_at_call 103; rw [← HC.out]; refine (rloses_c lo hi _ _ b (P - 1 - s) (-1) _ (HasB.gn hB.drew hg2) HOK.out (by omega) (by omega)).mono ?_; rintro e w3 ⟨rfl, hg3⟩; have r0' := gbc hg3 (by simp) r0; have r1' := gbc hg3 (by simp) r1))
  go_wp2_with fail
  go_ret
  exact ⟨by rw [HR.out]; rfl, gb_trans (gb_trans (gb_drew (gb_alloc (gb_refl _ _) _)) hg2) hg3⟩
end Go.Proofs.Ytfifldbinnkdmaa
