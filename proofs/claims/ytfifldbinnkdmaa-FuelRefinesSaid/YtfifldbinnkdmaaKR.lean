/- The reference's cuts: what comes into a set of accounts, and what goes out of it. -/
import Derived.Test.YtfifldbinnkdmaaRef1
import Derived.Test.YtfifldbinnkdmaaSp
import Derived.Test.YtfifldbinnkdmaaLoss
import Derived.Deep.RegionHeld3
set_option linter.unusedVariables false
set_option linter.unusedSimpArgs false
set_option linter.unnecessarySimpa false
namespace Go.Proofs.Ytfifldbinnkdmaa
open Go.RowKit Go.Shelf
set_option maxRecDepth 100000

def addS (x y : Sp) : Sp := ⟨x.lo + y.lo, x.hi + y.hi⟩
theorem sp_left {l m : List Sp} {i : Nat} (h : i < l.length) : sp (l ++ m) i = sp l i := by simp [sp, h, List.getElem?_append_left]
theorem sp_right {l m : List Sp} {i : Nat} : sp (l ++ m) (l.length + i) = sp m i := by simp [sp, List.getElem?_append_right]
theorem spansA_at {f : Acc → Sp} {l : List Acc} {i : Nat} (h : i < l.length) : sp (spansA f l l.length) i = f (ga l i) := by simp [sp, spansA, ga_get h, h]
theorem spansM_at {l : List Mv} {i : Nat} (h : i < l.length) : sp (spansM l l.length) i = (gm l i).li := by simp [sp, spansM, gm_get h, h]
theorem spansL_len (b : Bok) : (spansL b).length = b.accs.length + b.accs.length + b.mvs.length := by simp [spansL, spansA_len, spansM_len]; omega
theorem spansL_op {b : Bok} {i : Nat} (h : i < b.accs.length) : sp (spansL b) i = (ga b.accs i).op := by
  unfold spansL
  rw [List.append_assoc, sp_left (by rw [spansA_len (Nat.le_refl _)]; exact h), spansA_at h]
theorem spansL_cl {b : Bok} {i : Nat} (h : i < b.accs.length) : sp (spansL b) (b.accs.length + i) = (ga b.accs i).cl := by
  have e : (spansA (·.op) b.accs b.accs.length).length = b.accs.length := spansA_len (Nat.le_refl _)
  unfold spansL
  rw [List.append_assoc]
  conv => lhs; arg 2; rw [← e]
  rw [sp_right, sp_left (by rw [spansA_len (Nat.le_refl _)]; exact h), spansA_at h]
theorem spansL_li {b : Bok} {i : Nat} (h : i < b.mvs.length) : sp (spansL b) (2 * b.accs.length + i) = (gm b.mvs i).li := by
  have e : (spansA (·.op) b.accs b.accs.length ++ spansA (·.cl) b.accs b.accs.length).length = 2 * b.accs.length := by rw [List.length_append, spansA_len (Nat.le_refl _), spansA_len (Nat.le_refl _)]; omega
  unfold spansL
  conv => lhs; arg 2; rw [← e]
  rw [sp_right, spansM_at h]
theorem Sps.cell2 {lo hi : Nat} {w : World} {x ox n c : Nat} {l : List Sp} (h : Sps lo hi w (.slice (some ⟨x, ox, none⟩) n c) l) {i : Nat} (hi' : i < l.length) :
    w.cell? ⟨x, ox + i * 2, none⟩ = some (.int .i64 (sp l i).lo) ∧ w.cell? ⟨x, ox + i * 2 + 1, none⟩ = some (.int .i64 (sp l i).hi) := by
  obtain ⟨x', ox', c', ev, _, _, H⟩ := Sps.at h (by omega)
  injection ev with e1 _ e2
  injection e1 with e1
  injection e1 with e3 e4
  subst e3 e4
  exact H i hi'

/-- What X, but for span number 'but'. -/
def inA (b : Bok) (s : Nat) (but : Int) : Nat → Sp
  | 0 => ⟨0, 0⟩
  | i + 1 => if bitOf s i = true ∧ (i : Int) ≠ but then addS (inA b s but i) (ga b.accs i).op else inA b s but i
def inM (b : Bok) (s : Nat) (but : Int) : Nat → Sp
  | 0 => inA b s but b.accs.length
  | j + 1 => if bitOf s (gm b.mvs j).to = true ∧ bitOf s (gm b.mvs j).fr = false ∧ ((2 * b.accs.length + j : Nat) : Int) ≠ but then addS (inM b s but j) (gm b.mvs j).li else inM b s but j
def inS (b : Bok) (s : Nat) (but : Int) : Sp := inM b s but b.mvs.length
theorem inA_bd {b : Bok} (h : BokOk b) (s : Nat) (but : Int) : ∀ i : Nat, i ≤ b.accs.length → (0 ≤ (inA b s but i).lo ∧ (inA b s but i).lo ≤ 1000000000 * i) ∧ 0 ≤ (inA b s but i).hi ∧ (inA b s but i).hi ≤ 1000000000 * i := by
  intro i
  induction i with
  | zero => intro _; simp [inA]
  | succ i ih =>
    intro hi
    have a := ih (by omega)
    have d := (h.acc i (by omega)).op
    unfold inA
    split
    · simp only [addS]; omega
    · omega
theorem inM_bd {b : Bok} (h : BokOk b) (s : Nat) (but : Int) : ∀ i : Nat, i ≤ b.mvs.length → (0 ≤ (inM b s but i).lo ∧ (inM b s but i).lo ≤ 1000000000 * (8 + i)) ∧ 0 ≤ (inM b s but i).hi ∧ (inM b s but i).hi ≤ 1000000000 * (8 + i) := by
  intro i
  induction i with
  | zero => intro _; have := inA_bd h s but b.accs.length (Nat.le_refl _); have := h.n8; simp only [inM]; omega
  | succ i ih =>
    intro hi
    have a := ih (by omega)
    have d := (h.mv i (by omega)).li
    unfold inM
    split
    · simp only [addS]; omega
    · omega
theorem inS_bd {b : Bok} (h : BokOk b) (s : Nat) (but : Int) : (0 ≤ (inS b s but).lo ∧ (inS b s but).lo ≤ 40000000000) ∧ 0 ≤ (inS b s but).hi ∧ (inS b s but).hi ≤ 40000000000 := by
  have a := inM_bd h s but b.mvs.length (Nat.le_refl _)
  have := h.m30
  unfold inS
  omega

set_option maxHeartbeats 4000000 in
theorem rin_c (lo hi : Nat) (va vm : Value) (b : Bok) (s : Nat) (but : Int) (w : World) (hb : HasB lo hi w va vm b) (hok : BokOk b) (h2 : hi ≤ w.heap.size) (hs8 : s < 256) :
    Calls Try.prog 101 #[.agg #[va, vm], .int .i64 s, .int .i64 but] w (Ret (inS b s but).v w) := by
  obtain ⟨x, ox, c, a', c', rfl, rfl⟩ := hb.valA hok.n0
  have hn8 := hok.n8
  have hm31 := hok.m30
  have hn0 := hok.n0
  have HOK := Lib.hid hok
  clear hok
  have F1 := Bun.book hb h2
  clear hb
  go_enter Try.func101, Try.ntmps101
  have F2 := F1.new 25 #[.slice (some ⟨x, ox, none⟩) b.accs.length c, .slice a' b.mvs.length c'] (n := w.heap.size) (by simp)
  clear F1
  have F3 := F2.new 40 #[.int .i64 0, .int .i64 0] (n := (w.heap.size + 1)) (by simp)
  clear F2
  have F4 := F3.new 40 #[.int .i64 0, .int .i64 0] (n := (w.heap.size + 2)) (by simp)
  clear F3
  have b5 : Bk _ w.heap.size 25 #[.slice (some ⟨x, ox, none⟩) b.accs.length c, .slice a' b.mvs.length c'] := F4.at 2 rfl
  have l6 := b5.lt
  have q7 : World.cell? _ ⟨w.heap.size, 0, none⟩ = some (.slice (some ⟨x, ox, none⟩) b.accs.length c) := b5.cell 0
  have z8 := b5.frozen 0
  have q9 : World.cell? _ ⟨w.heap.size, 1, none⟩ = some (.slice a' b.mvs.length c') := b5.cell 1
  have z10 := b5.frozen 1
  go_wp2_with fail
  refine (rspans_c lo hi _ _ b _ ((F4.at 3 rfl : HasB lo hi _ (.slice (some ⟨x, ox, none⟩) b.accs.length c) (.slice a' b.mvs.length c') b)) HOK.out (by simp; omega)).mono ?_
  rintro e w1 ⟨vs, rfl, hsp, hg1⟩
  have hg1s := hg1.size
  (try simp at hg1s)
  clear b5 l6 q7 z8 q9 z10
  have F11 := F4.add (rsl spEnc 2 (w.heap.size + 3) w1.heap.size vs (spansL b)) hg1 (hsp.wide (by simp) (Nat.le_refl _)) (rsl_in (by simp) (Nat.le_refl _))
  clear F4
  obtain ⟨z, oz, cz, ez, _, _, _⟩ := Sps.at hsp (by rw [spansL_len]; omega)
  have hsl := spansL_len b
  rw [hsl] at ez
  subst ez
  clear hsp hg1
  go_wp2_with fail
  refine wp_loopS 101 rfl (fun t ds wr => Hid (∃ (i : Nat), t 1 = .int .i64 s ∧ t 2 = .int .i64 but ∧ t 3 = .pointer (some ⟨w.heap.size, 0, none⟩) ∧ t 6 = .pointer (some ⟨(w.heap.size + 1), 0, none⟩) ∧ t 7 = .pointer (some ⟨(w.heap.size + 2), 0, none⟩) ∧ t 8 = .int .i64 b.accs.length ∧ t 9 = .slice (some ⟨z, oz, none⟩) (b.accs.length + b.accs.length + b.mvs.length) cz ∧ t 10 = .int .i64 i ∧ i ≤ b.accs.length ∧ ds = [] ∧ Bun w [rsl spEnc 2 (w.heap.size + 3) w1.heap.size (.slice (some ⟨z, oz, none⟩) (b.accs.length + b.accs.length + b.mvs.length) cz) (spansL b), rbox (w.heap.size + 2) 40 #[.int .i64 (inA b s but i).lo, .int .i64 (inA b s but i).hi], rbox (w.heap.size + 1) 40 #[.int .i64 0, .int .i64 0], rbox w.heap.size 25 #[.slice (some ⟨x, ox, none⟩) b.accs.length c, .slice a' b.mvs.length c'], rbook lo hi (.slice (some ⟨x, ox, none⟩) b.accs.length c) (.slice a' b.mvs.length c') b] wr)) (fun t wr => b.accs.length - (intOf (t 10)).toNat) ?atStart1 ?round1
  case round1 =>
    intro t ds wr hHid
    obtain ⟨i, e1, e2, e3, e6, e7, e8, e9, e10, hrel⟩ := hHid.out
    clear hHid
    have e : ((List.range 101).map t).toArray = #[t 0, t 1, t 2, t 3, t 4, t 5, t 6, t 7, t 8, t 9, t 10, t 11, t 12, t 13, t 14, t 15, t 16, t 17, t 18, t 19, t 20, t 21, t 22, t 23, t 24, t 25, t 26, t 27, t 28, t 29, t 30, t 31, t 32, t 33, t 34, t 35, t 36, t 37, t 38, t 39, t 40, t 41, t 42, t 43, t 44, t 45, t 46, t 47, t 48, t 49, t 50, t 51, t 52, t 53, t 54, t 55, t 56, t 57, t 58, t 59, t 60, t 61, t 62, t 63, t 64, t 65, t 66, t 67, t 68, t 69, t 70, t 71, t 72, t 73, t 74, t 75, t 76, t 77, t 78, t 79, t 80, t 81, t 82, t 83, t 84, t 85, t 86, t 87, t 88, t 89, t 90, t 91, t 92, t 93, t 94, t 95, t 96, t 97, t 98, t 99, t 100] := rfl
    (try dsimp only at e)
    rw [e1, e2, e3, e6, e7, e8, e9, e10] at e
    rw [e]
    simp only [e1, e10]
    clear e e1 e2 e3 e6 e7 e8 e9 e10
    clear F11
    obtain ⟨hi_, rfl, hF⟩ := hrel
    by_cases hlt : i < b.accs.length
    · skip
      have hbd := inA_bd HOK.out s but i hi_
      obtain ⟨p, hp⟩ : ∃ p, inA b s but i = p := ⟨_, rfl⟩
      have hcl := Sps.cell2 (hF.at 0 rfl : Sl spEnc 2 (w.heap.size + 3) w1.heap.size _ (.slice (some ⟨z, oz, none⟩) (b.accs.length + b.accs.length + b.mvs.length) cz) (spansL b)) (i := i) (by rw [hsl]; omega)
      rw [spansL_op hlt] at hcl
      have hac := (HOK.out.acc i hlt).op
      obtain ⟨a, ha⟩ : ∃ a, (ga b.accs i).op = a := ⟨_, rfl⟩
      rw [ha] at hcl hac
      have HN := Lib.hid (show inA b s but (i + 1) = if bitOf s i = true ∧ ((i : Nat) : Int) ≠ but then addS p a else p by simp only [inA, hp, ha])
      rw [hp] at hF hbd
      obtain ⟨h1, h2⟩ := hcl
      clear hp ha
      have HX := Lib.hid (And.intro h1 h2)
      go_wp2_with fail
      refine (rhas_c s i _ hs8 (by omega) (by omega)).mono ?_
      rintro e w2 ⟨rfl, hg2⟩
      have F12 := hF.gn hg2
      clear hF
      have q1 := gbc hg2 (by simp) HX.out.1
      have q2 := gbc hg2 (by simp) HX.out.2
      clear hg2 h1 h2
      generalize hq : bitOf s i = q at HN ⊢
      clear hq
      cases q
      · skip
        go_wp2_with fail
        exact ⟨rfl, Lib.hid ⟨i + 1, rfl, rfl, rfl, rfl, rfl, rfl, rfl, (by show Value.int .i64 ((i : Int) + 1) = _; simp), by omega, (by simp), (by rw [HN.out, if_neg (by simp)]; exact F12)⟩, by simp [slot, intOf]; omega⟩
      · skip
        by_cases hk : (i : Int) = but
        · have e1 : ((i : Int) != but) = false := by simp [hk]
          have HK := Lib.hid hk
          clear hk
          go_wp2_with fail
          exact ⟨rfl, Lib.hid ⟨i + 1, rfl, rfl, rfl, rfl, rfl, rfl, rfl, (by show Value.int .i64 ((i : Int) + 1) = _; simp), by omega, (by simp), (by rw [HN.out, if_neg (fun h => h.2 (by have := HK.out; omega))]; exact F12)⟩, by simp [slot, intOf]; omega⟩
        · have e1 : ((i : Int) != but) = true := by simpa using hk
          have HK := Lib.hid hk
          clear hk
          have b13 : Bk _ (w.heap.size + 2) 40 #[.int .i64 (p).lo, .int .i64 (p).hi] := F12.at 1 rfl
          have l14 := b13.lt
          have q15 : World.cell? _ ⟨(w.heap.size + 2), 0, none⟩ = some (.int .i64 (p).lo) := b13.cell 0
          have z16 := b13.frozen 0
          have q17 : World.cell? _ ⟨(w.heap.size + 2), 1, none⟩ = some (.int .i64 (p).hi) := b13.cell 1
          have z18 := b13.frozen 1
          have b19 : Bk _ w.heap.size 25 #[.slice (some ⟨x, ox, none⟩) b.accs.length c, .slice a' b.mvs.length c'] := F12.at 3 rfl
          have l20 := b19.lt
          have q21 : World.cell? _ ⟨w.heap.size, 0, none⟩ = some (.slice (some ⟨x, ox, none⟩) b.accs.length c) := b19.cell 0
          have z22 := b19.frozen 0
          have q23 : World.cell? _ ⟨w.heap.size, 1, none⟩ = some (.slice a' b.mvs.length c') := b19.cell 1
          have z24 := b19.frozen 1
          go_wp2_with fail
          go_region
          clear b13 l14 q15 z16 q17 z18 b19 l20 q21 z22 q23 z24
          go_wp2_with fail
          have G : Bun w [rbox (w.heap.size + 2) 40 #[.int .i64 (addS p a).lo, .int .i64 (addS p a).hi], rsl spEnc 2 (w.heap.size + 3) w1.heap.size (.slice (some ⟨z, oz, none⟩) (b.accs.length + b.accs.length + b.mvs.length) cz) (spansL b), rbox (w.heap.size + 1) 40 #[.int .i64 0, .int .i64 0], rbox w.heap.size 25 #[.slice (some ⟨x, ox, none⟩) b.accs.length c, .slice a' b.mvs.length c'], rbook lo hi (.slice (some ⟨x, ox, none⟩) b.accs.length c) (.slice a' b.mvs.length c') b] _ := (((F12.front 1 rfl rfl).set 0 (.int .i64 (p.lo + a.lo))).set 1 (.int .i64 (p.hi + a.hi))).drew
          have G2 : Bun w [rsl spEnc 2 (w.heap.size + 3) w1.heap.size (.slice (some ⟨z, oz, none⟩) (b.accs.length + b.accs.length + b.mvs.length) cz) (spansL b), rbox (w.heap.size + 2) 40 #[.int .i64 (addS p a).lo, .int .i64 (addS p a).hi], rbox (w.heap.size + 1) 40 #[.int .i64 0, .int .i64 0], rbox w.heap.size 25 #[.slice (some ⟨x, ox, none⟩) b.accs.length c, .slice a' b.mvs.length c'], rbook lo hi (.slice (some ⟨x, ox, none⟩) b.accs.length c) (.slice a' b.mvs.length c') b] _ := G.perm (List.perm_middle (l₁ := [rsl spEnc 2 (w.heap.size + 3) w1.heap.size (.slice (some ⟨z, oz, none⟩) (b.accs.length + b.accs.length + b.mvs.length) cz) (spansL b)]) (l₂ := [rbox (w.heap.size + 1) 40 #[.int .i64 0, .int .i64 0], rbox w.heap.size 25 #[.slice (some ⟨x, ox, none⟩) b.accs.length c, .slice a' b.mvs.length c'], rbook lo hi (.slice (some ⟨x, ox, none⟩) b.accs.length c) (.slice a' b.mvs.length c') b])).symm
          exact ⟨rfl, Lib.hid ⟨i + 1, rfl, rfl, rfl, rfl, rfl, rfl, rfl, (by show Value.int .i64 ((i : Int) + 1) = _; simp), by omega, (by simp), (by rw [HN.out, if_pos (⟨by simp, by have := HK.out; omega⟩)]; exact G2)⟩, by simp [slot, intOf]; omega⟩
    · obtain rfl : i = b.accs.length := by omega
      go_wp2_with fail
      refine wp_loopS 101 rfl (fun t ds wr => Hid (∃ (i : Nat), t 1 = .int .i64 s ∧ t 2 = .int .i64 but ∧ t 3 = .pointer (some ⟨w.heap.size, 0, none⟩) ∧ t 6 = .pointer (some ⟨(w.heap.size + 1), 0, none⟩) ∧ t 7 = .pointer (some ⟨(w.heap.size + 2), 0, none⟩) ∧ t 8 = .int .i64 b.accs.length ∧ t 9 = .slice (some ⟨z, oz, none⟩) (b.accs.length + b.accs.length + b.mvs.length) cz ∧ t 11 = .int .i64 i ∧ i ≤ b.mvs.length ∧ ds = [] ∧ Bun w [rsl spEnc 2 (w.heap.size + 3) w1.heap.size (.slice (some ⟨z, oz, none⟩) (b.accs.length + b.accs.length + b.mvs.length) cz) (spansL b), rbox (w.heap.size + 2) 40 #[.int .i64 (inM b s but i).lo, .int .i64 (inM b s but i).hi], rbox (w.heap.size + 1) 40 #[.int .i64 0, .int .i64 0], rbox w.heap.size 25 #[.slice (some ⟨x, ox, none⟩) b.accs.length c, .slice a' b.mvs.length c'], rbook lo hi (.slice (some ⟨x, ox, none⟩) b.accs.length c) (.slice a' b.mvs.length c') b] wr)) (fun t wr => b.mvs.length - (intOf (t 11)).toNat) ?atStart2 ?round2
      case round2 =>
        intro t ds wr hHid
        obtain ⟨i, e1, e2, e3, e6, e7, e8, e9, e11, hrel⟩ := hHid.out
        clear hHid
        have e : ((List.range 101).map t).toArray = #[t 0, t 1, t 2, t 3, t 4, t 5, t 6, t 7, t 8, t 9, t 10, t 11, t 12, t 13, t 14, t 15, t 16, t 17, t 18, t 19, t 20, t 21, t 22, t 23, t 24, t 25, t 26, t 27, t 28, t 29, t 30, t 31, t 32, t 33, t 34, t 35, t 36, t 37, t 38, t 39, t 40, t 41, t 42, t 43, t 44, t 45, t 46, t 47, t 48, t 49, t 50, t 51, t 52, t 53, t 54, t 55, t 56, t 57, t 58, t 59, t 60, t 61, t 62, t 63, t 64, t 65, t 66, t 67, t 68, t 69, t 70, t 71, t 72, t 73, t 74, t 75, t 76, t 77, t 78, t 79, t 80, t 81, t 82, t 83, t 84, t 85, t 86, t 87, t 88, t 89, t 90, t 91, t 92, t 93, t 94, t 95, t 96, t 97, t 98, t 99, t 100] := rfl
        (try dsimp only at e)
        rw [e1, e2, e3, e6, e7, e8, e9, e11] at e
        rw [e]
        simp only [e1, e11]
        clear e e1 e2 e3 e6 e7 e8 e9 e11
        clear hF
        obtain ⟨hi_, rfl, hF⟩ := hrel
        by_cases hlt : i < b.mvs.length
        · skip
          have hbd := inM_bd HOK.out s but i hi_
          obtain ⟨p, hp⟩ : ∃ p, inM b s but i = p := ⟨_, rfl⟩
          obtain ⟨y, oy, rfl, -⟩ := HasB.valM (hF.at 4 rfl : HasB lo hi _ (.slice (some ⟨x, ox, none⟩) b.accs.length c) (.slice a' b.mvs.length c') b) (by omega)
          have hcl := Sps.cell2 (hF.at 0 rfl : Sl spEnc 2 (w.heap.size + 3) w1.heap.size _ (.slice (some ⟨z, oz, none⟩) (b.accs.length + b.accs.length + b.mvs.length) cz) (spansL b)) (i := 2 * b.accs.length + i) (by rw [hsl]; omega)
          rw [spansL_li hlt] at hcl
          have hmv := HOK.out.mv i hlt
          have hac := hmv.li
          have hfr := hmv.fr
          have hto := hmv.to
          obtain ⟨f1, f2, _, _⟩ := HasB.mov (hF.at 4 rfl : HasB lo hi _ (.slice (some ⟨x, ox, none⟩) b.accs.length c) (.slice (some ⟨y, oy, none⟩) b.mvs.length c') b) hlt
          obtain ⟨a, ha⟩ : ∃ a, (gm b.mvs i).li = a := ⟨_, rfl⟩
          rw [ha] at hcl hac
          have HN := Lib.hid (show inM b s but (i + 1) = if bitOf s (gm b.mvs i).to = true ∧ bitOf s (gm b.mvs i).fr = false ∧ ((2 * b.accs.length + i : Nat) : Int) ≠ but then addS p a else p by simp only [inM, hp, ha])
          rw [hp] at hF hbd
          obtain ⟨h1, h2⟩ := hcl
          clear hp ha
          clear hmv
          generalize (gm b.mvs i).fr = zf at *
          generalize (gm b.mvs i).to = zt at *
          have HX := Lib.hid (And.intro h1 h2)
          have HF := Lib.hid (And.intro f1 f2)
          have b25 : Bk _ w.heap.size 25 #[.slice (some ⟨x, ox, none⟩) b.accs.length c, .slice (some ⟨y, oy, none⟩) b.mvs.length c'] := hF.at 3 rfl
          have l26 := b25.lt
          have q27 : World.cell? _ ⟨w.heap.size, 0, none⟩ = some (.slice (some ⟨x, ox, none⟩) b.accs.length c) := b25.cell 0
          have z28 := b25.frozen 0
          have q29 : World.cell? _ ⟨w.heap.size, 1, none⟩ = some (.slice (some ⟨y, oy, none⟩) b.mvs.length c') := b25.cell 1
          have z30 := b25.frozen 1
          go_wp2_with fail
          refine (rhas_c s zt _ hs8 (by omega) (by omega)).mono ?_
          rintro e w2 ⟨rfl, hg2⟩
          clear b25 l26 q27 z28 q29 z30
          have F31 := hF.gn hg2
          clear hF
          have q1 := gbc hg2 (by simp) HX.out.1
          have q2 := gbc hg2 (by simp) HX.out.2
          have q3 := gbc hg2 (by simp) HF.out.1
          have q4 := gbc hg2 (by simp) HF.out.2
          clear hg2 h1 h2 f1 f2
          generalize hq : bitOf s zt = q at HN ⊢
          clear hq
          cases q
          · skip
            have b32 : Bk _ w.heap.size 25 #[.slice (some ⟨x, ox, none⟩) b.accs.length c, .slice (some ⟨y, oy, none⟩) b.mvs.length c'] := F31.at 3 rfl
            have l33 := b32.lt
            have q34 : World.cell? _ ⟨w.heap.size, 0, none⟩ = some (.slice (some ⟨x, ox, none⟩) b.accs.length c) := b32.cell 0
            have z35 := b32.frozen 0
            have q36 : World.cell? _ ⟨w.heap.size, 1, none⟩ = some (.slice (some ⟨y, oy, none⟩) b.mvs.length c') := b32.cell 1
            have z37 := b32.frozen 1
            go_wp2_with fail
            exact ⟨rfl, Lib.hid ⟨i + 1, rfl, rfl, rfl, rfl, rfl, rfl, rfl, (by show Value.int .i64 ((i : Int) + 1) = _; simp), by omega, (by simp), (by rw [HN.out, if_neg (by simp)]; exact F31)⟩, by simp [slot, intOf]; omega⟩
          · skip
            have b38 : Bk _ w.heap.size 25 #[.slice (some ⟨x, ox, none⟩) b.accs.length c, .slice (some ⟨y, oy, none⟩) b.mvs.length c'] := F31.at 3 rfl
            have l39 := b38.lt
            have q40 : World.cell? _ ⟨w.heap.size, 0, none⟩ = some (.slice (some ⟨x, ox, none⟩) b.accs.length c) := b38.cell 0
            have z41 := b38.frozen 0
            have q42 : World.cell? _ ⟨w.heap.size, 1, none⟩ = some (.slice (some ⟨y, oy, none⟩) b.mvs.length c') := b38.cell 1
            have z43 := b38.frozen 1
            go_wp2_with fail
            refine (rhas_c s zf _ hs8 (by omega) (by omega)).mono ?_
            rintro e w3 ⟨rfl, hg3⟩
            clear b38 l39 q40 z41 q42 z43
            have F44 := F31.gn hg3
            clear F31
            replace q1 := gbc hg3 (by simp) q1
            replace q2 := gbc hg3 (by simp) q2
            clear hg3 q3 q4
            generalize hq : bitOf s zf = q at HN ⊢
            clear hq
            cases q
            · skip
              by_cases hk : (2 * (b.accs.length : Int) + i) = but
              · have e1 : ((2 * (b.accs.length : Int) + i) != but) = false := by simp [hk]
                have HK := Lib.hid hk
                clear hk
                go_wp2_with fail
                exact ⟨rfl, Lib.hid ⟨i + 1, rfl, rfl, rfl, rfl, rfl, rfl, rfl, (by show Value.int .i64 ((i : Int) + 1) = _; simp), by omega, (by simp), (by rw [HN.out, if_neg (fun h => h.2.2 (by have := HK.out; omega))]; exact F44)⟩, by simp [slot, intOf]; omega⟩
              · have e1 : ((2 * (b.accs.length : Int) + i) != but) = true := by simpa using hk
                have HK := Lib.hid hk
                clear hk
                have b45 : Bk _ (w.heap.size + 2) 40 #[.int .i64 (p).lo, .int .i64 (p).hi] := F44.at 1 rfl
                have l46 := b45.lt
                have q47 : World.cell? _ ⟨(w.heap.size + 2), 0, none⟩ = some (.int .i64 (p).lo) := b45.cell 0
                have z48 := b45.frozen 0
                have q49 : World.cell? _ ⟨(w.heap.size + 2), 1, none⟩ = some (.int .i64 (p).hi) := b45.cell 1
                have z50 := b45.frozen 1
                have b51 : Bk _ w.heap.size 25 #[.slice (some ⟨x, ox, none⟩) b.accs.length c, .slice (some ⟨y, oy, none⟩) b.mvs.length c'] := F44.at 3 rfl
                have l52 := b51.lt
                have q53 : World.cell? _ ⟨w.heap.size, 0, none⟩ = some (.slice (some ⟨x, ox, none⟩) b.accs.length c) := b51.cell 0
                have z54 := b51.frozen 0
                have q55 : World.cell? _ ⟨w.heap.size, 1, none⟩ = some (.slice (some ⟨y, oy, none⟩) b.mvs.length c') := b51.cell 1
                have z56 := b51.frozen 1
                go_wp2_with fail
                go_region
                clear b45 l46 q47 z48 q49 z50 b51 l52 q53 z54 q55 z56
                go_wp2_with fail
                have G : Bun w [rbox (w.heap.size + 2) 40 #[.int .i64 (addS p a).lo, .int .i64 (addS p a).hi], rsl spEnc 2 (w.heap.size + 3) w1.heap.size (.slice (some ⟨z, oz, none⟩) (b.accs.length + b.accs.length + b.mvs.length) cz) (spansL b), rbox (w.heap.size + 1) 40 #[.int .i64 0, .int .i64 0], rbox w.heap.size 25 #[.slice (some ⟨x, ox, none⟩) b.accs.length c, .slice (some ⟨y, oy, none⟩) b.mvs.length c'], rbook lo hi (.slice (some ⟨x, ox, none⟩) b.accs.length c) (.slice (some ⟨y, oy, none⟩) b.mvs.length c') b] _ := (((F44.front 1 rfl rfl).set 0 (.int .i64 (p.lo + a.lo))).set 1 (.int .i64 (p.hi + a.hi))).drew
                have G2 : Bun w [rsl spEnc 2 (w.heap.size + 3) w1.heap.size (.slice (some ⟨z, oz, none⟩) (b.accs.length + b.accs.length + b.mvs.length) cz) (spansL b), rbox (w.heap.size + 2) 40 #[.int .i64 (addS p a).lo, .int .i64 (addS p a).hi], rbox (w.heap.size + 1) 40 #[.int .i64 0, .int .i64 0], rbox w.heap.size 25 #[.slice (some ⟨x, ox, none⟩) b.accs.length c, .slice (some ⟨y, oy, none⟩) b.mvs.length c'], rbook lo hi (.slice (some ⟨x, ox, none⟩) b.accs.length c) (.slice (some ⟨y, oy, none⟩) b.mvs.length c') b] _ := G.perm (List.perm_middle (l₁ := [rsl spEnc 2 (w.heap.size + 3) w1.heap.size (.slice (some ⟨z, oz, none⟩) (b.accs.length + b.accs.length + b.mvs.length) cz) (spansL b)]) (l₂ := [rbox (w.heap.size + 1) 40 #[.int .i64 0, .int .i64 0], rbox w.heap.size 25 #[.slice (some ⟨x, ox, none⟩) b.accs.length c, .slice (some ⟨y, oy, none⟩) b.mvs.length c'], rbook lo hi (.slice (some ⟨x, ox, none⟩) b.accs.length c) (.slice (some ⟨y, oy, none⟩) b.mvs.length c') b])).symm
                exact ⟨rfl, Lib.hid ⟨i + 1, rfl, rfl, rfl, rfl, rfl, rfl, rfl, (by show Value.int .i64 ((i : Int) + 1) = _; simp), by omega, (by simp), (by rw [HN.out, if_pos (⟨by simp, by simp, by have := HK.out; omega⟩)]; exact G2)⟩, by simp [slot, intOf]; omega⟩
            · skip
              go_wp2_with fail
              exact ⟨rfl, Lib.hid ⟨i + 1, rfl, rfl, rfl, rfl, rfl, rfl, rfl, (by show Value.int .i64 ((i : Int) + 1) = _; simp), by omega, (by simp), (by rw [HN.out, if_neg (by simp)]; exact F44)⟩, by simp [slot, intOf]; omega⟩
        · obtain rfl : i = b.mvs.length := by omega
          have b57 : Bk _ (w.heap.size + 2) 40 #[.int .i64 (inM b s but b.mvs.length).lo, .int .i64 (inM b s but b.mvs.length).hi] := hF.at 1 rfl
          have l58 := b57.lt
          have q59 : World.cell? _ ⟨(w.heap.size + 2), 0, none⟩ = some (.int .i64 (inM b s but b.mvs.length).lo) := b57.cell 0
          have z60 := b57.frozen 0
          have q61 : World.cell? _ ⟨(w.heap.size + 2), 1, none⟩ = some (.int .i64 (inM b s but b.mvs.length).hi) := b57.cell 1
          have z62 := b57.frozen 1
          have b63 : Bk _ (w.heap.size + 1) 40 #[.int .i64 0, .int .i64 0] := hF.at 2 rfl
          have l64 := b63.lt
          have q65 : World.cell? _ ⟨(w.heap.size + 1), 0, none⟩ = some (.int .i64 0) := b63.cell 0
          have z66 := b63.frozen 0
          have q67 : World.cell? _ ⟨(w.heap.size + 1), 1, none⟩ = some (.int .i64 0) := b63.cell 1
          have z68 := b63.frozen 1
          have b69 : Bk _ w.heap.size 25 #[.slice (some ⟨x, ox, none⟩) b.accs.length c, .slice a' b.mvs.length c'] := hF.at 3 rfl
          have l70 := b69.lt
          have q71 : World.cell? _ ⟨w.heap.size, 0, none⟩ = some (.slice (some ⟨x, ox, none⟩) b.accs.length c) := b69.cell 0
          have z72 := b69.frozen 0
          have q73 : World.cell? _ ⟨w.heap.size, 1, none⟩ = some (.slice a' b.mvs.length c') := b69.cell 1
          have z74 := b69.frozen 1
          go_wp2_with fail
          clear b57 l58 q59 z60 q61 z62 b63 l64 q65 z66 q67 z68 b69 l70 q71 z72 q73 z74
          have G : Bun w [rbox (w.heap.size + 1) 40 #[.int .i64 (inM b s but b.mvs.length).lo, .int .i64 (inM b s but b.mvs.length).hi], rsl spEnc 2 (w.heap.size + 3) w1.heap.size (.slice (some ⟨z, oz, none⟩) (b.accs.length + b.accs.length + b.mvs.length) cz) (spansL b), rbox (w.heap.size + 2) 40 #[.int .i64 (inM b s but b.mvs.length).lo, .int .i64 (inM b s but b.mvs.length).hi], rbox w.heap.size 25 #[.slice (some ⟨x, ox, none⟩) b.accs.length c, .slice a' b.mvs.length c'], rbook lo hi (.slice (some ⟨x, ox, none⟩) b.accs.length c) (.slice a' b.mvs.length c') b] _ := ((hF.front 2 rfl rfl).set 0 (.int .i64 (inM b s but b.mvs.length).lo)).set 1 (.int .i64 (inM b s but b.mvs.length).hi)
          have gb : Bk _ (w.heap.size + 1) 40 #[.int .i64 (inM b s but b.mvs.length).lo, .int .i64 (inM b s but b.mvs.length).hi] := G.at 0 rfl
          have gc := gb.c2
          exact bodyPost_ret (v := (inM b s but b.mvs.length).v) (by simp [results, Try.results101, go_sem, Sp.v, gc]) rfl ⟨rfl, G.gb⟩
      case atStart2 =>
        exact Lib.hid ⟨0, rfl, rfl, rfl, rfl, rfl, rfl, rfl, rfl, Nat.zero_le _, rfl, hF⟩
  case atStart1 =>
    exact Lib.hid ⟨0, rfl, rfl, rfl, rfl, rfl, rfl, rfl, rfl, Nat.zero_le _, rfl, F11⟩
end Go.Proofs.Ytfifldbinnkdmaa
/- The reference's cuts: what goes out of a set of accounts. -/
namespace Go.Proofs.Ytfifldbinnkdmaa
open Go.RowKit Go.Shelf
set_option maxRecDepth 100000


/-- What X, but for span number 'but'. -/
def outA (b : Bok) (s : Nat) (but : Int) : Nat → Sp
  | 0 => ⟨0, 0⟩
  | i + 1 => if bitOf s i = true ∧ ((b.accs.length + i : Nat) : Int) ≠ but then addS (outA b s but i) (ga b.accs i).cl else outA b s but i
def outM (b : Bok) (s : Nat) (but : Int) : Nat → Sp
  | 0 => outA b s but b.accs.length
  | j + 1 => if bitOf s (gm b.mvs j).fr = true ∧ bitOf s (gm b.mvs j).to = false ∧ ((2 * b.accs.length + j : Nat) : Int) ≠ but then addS (outM b s but j) (gm b.mvs j).li else outM b s but j
def outS (b : Bok) (s : Nat) (but : Int) : Sp := outM b s but b.mvs.length
theorem outA_bd {b : Bok} (h : BokOk b) (s : Nat) (but : Int) : ∀ i : Nat, i ≤ b.accs.length → (0 ≤ (outA b s but i).lo ∧ (outA b s but i).lo ≤ 1000000000 * i) ∧ 0 ≤ (outA b s but i).hi ∧ (outA b s but i).hi ≤ 1000000000 * i := by
  intro i
  induction i with
  | zero => intro _; simp [outA]
  | succ i ih =>
    intro hi
    have a := ih (by omega)
    have d := (h.acc i (by omega)).cl
    unfold outA
    split
    · simp only [addS]; omega
    · omega
theorem outM_bd {b : Bok} (h : BokOk b) (s : Nat) (but : Int) : ∀ i : Nat, i ≤ b.mvs.length → (0 ≤ (outM b s but i).lo ∧ (outM b s but i).lo ≤ 1000000000 * (8 + i)) ∧ 0 ≤ (outM b s but i).hi ∧ (outM b s but i).hi ≤ 1000000000 * (8 + i) := by
  intro i
  induction i with
  | zero => intro _; have := outA_bd h s but b.accs.length (Nat.le_refl _); have := h.n8; simp only [outM]; omega
  | succ i ih =>
    intro hi
    have a := ih (by omega)
    have d := (h.mv i (by omega)).li
    unfold outM
    split
    · simp only [addS]; omega
    · omega
theorem outS_bd {b : Bok} (h : BokOk b) (s : Nat) (but : Int) : (0 ≤ (outS b s but).lo ∧ (outS b s but).lo ≤ 40000000000) ∧ 0 ≤ (outS b s but).hi ∧ (outS b s but).hi ≤ 40000000000 := by
  have a := outM_bd h s but b.mvs.length (Nat.le_refl _)
  have := h.m30
  unfold outS
  omega

set_option maxHeartbeats 4000000 in
theorem rout_c (lo hi : Nat) (va vm : Value) (b : Bok) (s : Nat) (but : Int) (w : World) (hb : HasB lo hi w va vm b) (hok : BokOk b) (h2 : hi ≤ w.heap.size) (hs8 : s < 256) :
    Calls Try.prog 102 #[.agg #[va, vm], .int .i64 s, .int .i64 but] w (Ret (outS b s but).v w) := by
  obtain ⟨x, ox, c, a', c', rfl, rfl⟩ := hb.valA hok.n0
  have hn8 := hok.n8
  have hm31 := hok.m30
  have hn0 := hok.n0
  have HOK := Lib.hid hok
  clear hok
  have F1 := Bun.book hb h2
  clear hb
  go_enter Try.func102, Try.ntmps102
  have F2 := F1.new 25 #[.slice (some ⟨x, ox, none⟩) b.accs.length c, .slice a' b.mvs.length c'] (n := w.heap.size) (by simp)
  clear F1
  have F3 := F2.new 40 #[.int .i64 0, .int .i64 0] (n := (w.heap.size + 1)) (by simp)
  clear F2
  have F4 := F3.new 40 #[.int .i64 0, .int .i64 0] (n := (w.heap.size + 2)) (by simp)
  clear F3
  have b5 : Bk _ w.heap.size 25 #[.slice (some ⟨x, ox, none⟩) b.accs.length c, .slice a' b.mvs.length c'] := F4.at 2 rfl
  have l6 := b5.lt
  have q7 : World.cell? _ ⟨w.heap.size, 0, none⟩ = some (.slice (some ⟨x, ox, none⟩) b.accs.length c) := b5.cell 0
  have z8 := b5.frozen 0
  have q9 : World.cell? _ ⟨w.heap.size, 1, none⟩ = some (.slice a' b.mvs.length c') := b5.cell 1
  have z10 := b5.frozen 1
  go_wp2_with fail
  refine (rspans_c lo hi _ _ b _ ((F4.at 3 rfl : HasB lo hi _ (.slice (some ⟨x, ox, none⟩) b.accs.length c) (.slice a' b.mvs.length c') b)) HOK.out (by simp; omega)).mono ?_
  rintro e w1 ⟨vs, rfl, hsp, hg1⟩
  have hg1s := hg1.size
  (try simp at hg1s)
  clear b5 l6 q7 z8 q9 z10
  have F11 := F4.add (rsl spEnc 2 (w.heap.size + 3) w1.heap.size vs (spansL b)) hg1 (hsp.wide (by simp) (Nat.le_refl _)) (rsl_in (by simp) (Nat.le_refl _))
  clear F4
  obtain ⟨z, oz, cz, ez, _, _, _⟩ := Sps.at hsp (by rw [spansL_len]; omega)
  have hsl := spansL_len b
  rw [hsl] at ez
  subst ez
  clear hsp hg1
  go_wp2_with fail
  refine wp_loopS 105 rfl (fun t ds wr => Hid (∃ (i : Nat), t 1 = .int .i64 s ∧ t 2 = .int .i64 but ∧ t 3 = .pointer (some ⟨w.heap.size, 0, none⟩) ∧ t 6 = .pointer (some ⟨(w.heap.size + 1), 0, none⟩) ∧ t 7 = .pointer (some ⟨(w.heap.size + 2), 0, none⟩) ∧ t 8 = .int .i64 b.accs.length ∧ t 9 = .slice (some ⟨z, oz, none⟩) (b.accs.length + b.accs.length + b.mvs.length) cz ∧ t 10 = .int .i64 i ∧ i ≤ b.accs.length ∧ ds = [] ∧ Bun w [rsl spEnc 2 (w.heap.size + 3) w1.heap.size (.slice (some ⟨z, oz, none⟩) (b.accs.length + b.accs.length + b.mvs.length) cz) (spansL b), rbox (w.heap.size + 2) 40 #[.int .i64 (outA b s but i).lo, .int .i64 (outA b s but i).hi], rbox (w.heap.size + 1) 40 #[.int .i64 0, .int .i64 0], rbox w.heap.size 25 #[.slice (some ⟨x, ox, none⟩) b.accs.length c, .slice a' b.mvs.length c'], rbook lo hi (.slice (some ⟨x, ox, none⟩) b.accs.length c) (.slice a' b.mvs.length c') b] wr)) (fun t wr => b.accs.length - (intOf (t 10)).toNat) ?atStart3 ?round3
  case round3 =>
    intro t ds wr hHid
    obtain ⟨i, e1, e2, e3, e6, e7, e8, e9, e10, hrel⟩ := hHid.out
    clear hHid
    have e : ((List.range 105).map t).toArray = #[t 0, t 1, t 2, t 3, t 4, t 5, t 6, t 7, t 8, t 9, t 10, t 11, t 12, t 13, t 14, t 15, t 16, t 17, t 18, t 19, t 20, t 21, t 22, t 23, t 24, t 25, t 26, t 27, t 28, t 29, t 30, t 31, t 32, t 33, t 34, t 35, t 36, t 37, t 38, t 39, t 40, t 41, t 42, t 43, t 44, t 45, t 46, t 47, t 48, t 49, t 50, t 51, t 52, t 53, t 54, t 55, t 56, t 57, t 58, t 59, t 60, t 61, t 62, t 63, t 64, t 65, t 66, t 67, t 68, t 69, t 70, t 71, t 72, t 73, t 74, t 75, t 76, t 77, t 78, t 79, t 80, t 81, t 82, t 83, t 84, t 85, t 86, t 87, t 88, t 89, t 90, t 91, t 92, t 93, t 94, t 95, t 96, t 97, t 98, t 99, t 100, t 101, t 102, t 103, t 104] := rfl
    (try dsimp only at e)
    rw [e1, e2, e3, e6, e7, e8, e9, e10] at e
    rw [e]
    simp only [e1, e10]
    clear e e1 e2 e3 e6 e7 e8 e9 e10
    clear F11
    obtain ⟨hi_, rfl, hF⟩ := hrel
    by_cases hlt : i < b.accs.length
    · skip
      have hbd := outA_bd HOK.out s but i hi_
      obtain ⟨p, hp⟩ : ∃ p, outA b s but i = p := ⟨_, rfl⟩
      have hcl := Sps.cell2 (hF.at 0 rfl : Sl spEnc 2 (w.heap.size + 3) w1.heap.size _ (.slice (some ⟨z, oz, none⟩) (b.accs.length + b.accs.length + b.mvs.length) cz) (spansL b)) (i := b.accs.length + i) (by rw [hsl]; omega)
      rw [spansL_cl hlt] at hcl
      have hac := (HOK.out.acc i hlt).cl
      obtain ⟨a, ha⟩ : ∃ a, (ga b.accs i).cl = a := ⟨_, rfl⟩
      rw [ha] at hcl hac
      have HN := Lib.hid (show outA b s but (i + 1) = if bitOf s i = true ∧ ((b.accs.length + i : Nat) : Int) ≠ but then addS p a else p by simp only [outA, hp, ha])
      rw [hp] at hF hbd
      obtain ⟨h1, h2⟩ := hcl
      clear hp ha
      have HX := Lib.hid (And.intro h1 h2)
      go_wp2_with fail
      refine (rhas_c s i _ hs8 (by omega) (by omega)).mono ?_
      rintro e w2 ⟨rfl, hg2⟩
      have F12 := hF.gn hg2
      clear hF
      have q1 := gbc hg2 (by simp) HX.out.1
      have q2 := gbc hg2 (by simp) HX.out.2
      clear hg2 h1 h2
      generalize hq : bitOf s i = q at HN ⊢
      clear hq
      cases q
      · skip
        go_wp2_with fail
        exact ⟨rfl, Lib.hid ⟨i + 1, rfl, rfl, rfl, rfl, rfl, rfl, rfl, (by show Value.int .i64 ((i : Int) + 1) = _; simp), by omega, (by simp), (by rw [HN.out, if_neg (by simp)]; exact F12)⟩, by simp [slot, intOf]; omega⟩
      · skip
        by_cases hk : ((b.accs.length : Int) + i) = but
        · have e1 : (((b.accs.length : Int) + i) != but) = false := by simp [hk]
          have HK := Lib.hid hk
          clear hk
          go_wp2_with fail
          exact ⟨rfl, Lib.hid ⟨i + 1, rfl, rfl, rfl, rfl, rfl, rfl, rfl, (by show Value.int .i64 ((i : Int) + 1) = _; simp), by omega, (by simp), (by rw [HN.out, if_neg (fun h => h.2 (by have := HK.out; omega))]; exact F12)⟩, by simp [slot, intOf]; omega⟩
        · have e1 : (((b.accs.length : Int) + i) != but) = true := by simpa using hk
          have HK := Lib.hid hk
          clear hk
          have b13 : Bk _ (w.heap.size + 2) 40 #[.int .i64 (p).lo, .int .i64 (p).hi] := F12.at 1 rfl
          have l14 := b13.lt
          have q15 : World.cell? _ ⟨(w.heap.size + 2), 0, none⟩ = some (.int .i64 (p).lo) := b13.cell 0
          have z16 := b13.frozen 0
          have q17 : World.cell? _ ⟨(w.heap.size + 2), 1, none⟩ = some (.int .i64 (p).hi) := b13.cell 1
          have z18 := b13.frozen 1
          have b19 : Bk _ w.heap.size 25 #[.slice (some ⟨x, ox, none⟩) b.accs.length c, .slice a' b.mvs.length c'] := F12.at 3 rfl
          have l20 := b19.lt
          have q21 : World.cell? _ ⟨w.heap.size, 0, none⟩ = some (.slice (some ⟨x, ox, none⟩) b.accs.length c) := b19.cell 0
          have z22 := b19.frozen 0
          have q23 : World.cell? _ ⟨w.heap.size, 1, none⟩ = some (.slice a' b.mvs.length c') := b19.cell 1
          have z24 := b19.frozen 1
          go_wp2_with fail
          go_region
          clear b13 l14 q15 z16 q17 z18 b19 l20 q21 z22 q23 z24
          go_wp2_with fail
          have G : Bun w [rbox (w.heap.size + 2) 40 #[.int .i64 (addS p a).lo, .int .i64 (addS p a).hi], rsl spEnc 2 (w.heap.size + 3) w1.heap.size (.slice (some ⟨z, oz, none⟩) (b.accs.length + b.accs.length + b.mvs.length) cz) (spansL b), rbox (w.heap.size + 1) 40 #[.int .i64 0, .int .i64 0], rbox w.heap.size 25 #[.slice (some ⟨x, ox, none⟩) b.accs.length c, .slice a' b.mvs.length c'], rbook lo hi (.slice (some ⟨x, ox, none⟩) b.accs.length c) (.slice a' b.mvs.length c') b] _ := (((F12.front 1 rfl rfl).set 0 (.int .i64 (p.lo + a.lo))).set 1 (.int .i64 (p.hi + a.hi))).drew
          have G2 : Bun w [rsl spEnc 2 (w.heap.size + 3) w1.heap.size (.slice (some ⟨z, oz, none⟩) (b.accs.length + b.accs.length + b.mvs.length) cz) (spansL b), rbox (w.heap.size + 2) 40 #[.int .i64 (addS p a).lo, .int .i64 (addS p a).hi], rbox (w.heap.size + 1) 40 #[.int .i64 0, .int .i64 0], rbox w.heap.size 25 #[.slice (some ⟨x, ox, none⟩) b.accs.length c, .slice a' b.mvs.length c'], rbook lo hi (.slice (some ⟨x, ox, none⟩) b.accs.length c) (.slice a' b.mvs.length c') b] _ := G.perm (List.perm_middle (l₁ := [rsl spEnc 2 (w.heap.size + 3) w1.heap.size (.slice (some ⟨z, oz, none⟩) (b.accs.length + b.accs.length + b.mvs.length) cz) (spansL b)]) (l₂ := [rbox (w.heap.size + 1) 40 #[.int .i64 0, .int .i64 0], rbox w.heap.size 25 #[.slice (some ⟨x, ox, none⟩) b.accs.length c, .slice a' b.mvs.length c'], rbook lo hi (.slice (some ⟨x, ox, none⟩) b.accs.length c) (.slice a' b.mvs.length c') b])).symm
          exact ⟨rfl, Lib.hid ⟨i + 1, rfl, rfl, rfl, rfl, rfl, rfl, rfl, (by show Value.int .i64 ((i : Int) + 1) = _; simp), by omega, (by simp), (by rw [HN.out, if_pos (⟨by simp, by have := HK.out; omega⟩)]; exact G2)⟩, by simp [slot, intOf]; omega⟩
    · obtain rfl : i = b.accs.length := by omega
      go_wp2_with fail
      refine wp_loopS 105 rfl (fun t ds wr => Hid (∃ (i : Nat), t 1 = .int .i64 s ∧ t 2 = .int .i64 but ∧ t 3 = .pointer (some ⟨w.heap.size, 0, none⟩) ∧ t 6 = .pointer (some ⟨(w.heap.size + 1), 0, none⟩) ∧ t 7 = .pointer (some ⟨(w.heap.size + 2), 0, none⟩) ∧ t 8 = .int .i64 b.accs.length ∧ t 9 = .slice (some ⟨z, oz, none⟩) (b.accs.length + b.accs.length + b.mvs.length) cz ∧ t 12 = .int .i64 i ∧ i ≤ b.mvs.length ∧ ds = [] ∧ Bun w [rsl spEnc 2 (w.heap.size + 3) w1.heap.size (.slice (some ⟨z, oz, none⟩) (b.accs.length + b.accs.length + b.mvs.length) cz) (spansL b), rbox (w.heap.size + 2) 40 #[.int .i64 (outM b s but i).lo, .int .i64 (outM b s but i).hi], rbox (w.heap.size + 1) 40 #[.int .i64 0, .int .i64 0], rbox w.heap.size 25 #[.slice (some ⟨x, ox, none⟩) b.accs.length c, .slice a' b.mvs.length c'], rbook lo hi (.slice (some ⟨x, ox, none⟩) b.accs.length c) (.slice a' b.mvs.length c') b] wr)) (fun t wr => b.mvs.length - (intOf (t 12)).toNat) ?atStart4 ?round4
      case round4 =>
        intro t ds wr hHid
        obtain ⟨i, e1, e2, e3, e6, e7, e8, e9, e12, hrel⟩ := hHid.out
        clear hHid
        have e : ((List.range 105).map t).toArray = #[t 0, t 1, t 2, t 3, t 4, t 5, t 6, t 7, t 8, t 9, t 10, t 11, t 12, t 13, t 14, t 15, t 16, t 17, t 18, t 19, t 20, t 21, t 22, t 23, t 24, t 25, t 26, t 27, t 28, t 29, t 30, t 31, t 32, t 33, t 34, t 35, t 36, t 37, t 38, t 39, t 40, t 41, t 42, t 43, t 44, t 45, t 46, t 47, t 48, t 49, t 50, t 51, t 52, t 53, t 54, t 55, t 56, t 57, t 58, t 59, t 60, t 61, t 62, t 63, t 64, t 65, t 66, t 67, t 68, t 69, t 70, t 71, t 72, t 73, t 74, t 75, t 76, t 77, t 78, t 79, t 80, t 81, t 82, t 83, t 84, t 85, t 86, t 87, t 88, t 89, t 90, t 91, t 92, t 93, t 94, t 95, t 96, t 97, t 98, t 99, t 100, t 101, t 102, t 103, t 104] := rfl
        (try dsimp only at e)
        rw [e1, e2, e3, e6, e7, e8, e9, e12] at e
        rw [e]
        simp only [e1, e12]
        clear e e1 e2 e3 e6 e7 e8 e9 e12
        clear hF
        obtain ⟨hi_, rfl, hF⟩ := hrel
        by_cases hlt : i < b.mvs.length
        · skip
          have hbd := outM_bd HOK.out s but i hi_
          obtain ⟨p, hp⟩ : ∃ p, outM b s but i = p := ⟨_, rfl⟩
          obtain ⟨y, oy, rfl, -⟩ := HasB.valM (hF.at 4 rfl : HasB lo hi _ (.slice (some ⟨x, ox, none⟩) b.accs.length c) (.slice a' b.mvs.length c') b) (by omega)
          have hcl := Sps.cell2 (hF.at 0 rfl : Sl spEnc 2 (w.heap.size + 3) w1.heap.size _ (.slice (some ⟨z, oz, none⟩) (b.accs.length + b.accs.length + b.mvs.length) cz) (spansL b)) (i := 2 * b.accs.length + i) (by rw [hsl]; omega)
          rw [spansL_li hlt] at hcl
          have hmv := HOK.out.mv i hlt
          have hac := hmv.li
          have hfr := hmv.fr
          have hto := hmv.to
          obtain ⟨f1, f2, _, _⟩ := HasB.mov (hF.at 4 rfl : HasB lo hi _ (.slice (some ⟨x, ox, none⟩) b.accs.length c) (.slice (some ⟨y, oy, none⟩) b.mvs.length c') b) hlt
          obtain ⟨a, ha⟩ : ∃ a, (gm b.mvs i).li = a := ⟨_, rfl⟩
          rw [ha] at hcl hac
          have HN := Lib.hid (show outM b s but (i + 1) = if bitOf s (gm b.mvs i).fr = true ∧ bitOf s (gm b.mvs i).to = false ∧ ((2 * b.accs.length + i : Nat) : Int) ≠ but then addS p a else p by simp only [outM, hp, ha])
          rw [hp] at hF hbd
          obtain ⟨h1, h2⟩ := hcl
          clear hp ha
          clear hmv
          generalize (gm b.mvs i).fr = zf at *
          generalize (gm b.mvs i).to = zt at *
          have HX := Lib.hid (And.intro h1 h2)
          have HF := Lib.hid (And.intro f1 f2)
          have b25 : Bk _ w.heap.size 25 #[.slice (some ⟨x, ox, none⟩) b.accs.length c, .slice (some ⟨y, oy, none⟩) b.mvs.length c'] := hF.at 3 rfl
          have l26 := b25.lt
          have q27 : World.cell? _ ⟨w.heap.size, 0, none⟩ = some (.slice (some ⟨x, ox, none⟩) b.accs.length c) := b25.cell 0
          have z28 := b25.frozen 0
          have q29 : World.cell? _ ⟨w.heap.size, 1, none⟩ = some (.slice (some ⟨y, oy, none⟩) b.mvs.length c') := b25.cell 1
          have z30 := b25.frozen 1
          go_wp2_with fail
          refine (rhas_c s zf _ hs8 (by omega) (by omega)).mono ?_
          rintro e w2 ⟨rfl, hg2⟩
          clear b25 l26 q27 z28 q29 z30
          have F31 := hF.gn hg2
          clear hF
          have q1 := gbc hg2 (by simp) HX.out.1
          have q2 := gbc hg2 (by simp) HX.out.2
          have q3 := gbc hg2 (by simp) HF.out.1
          have q4 := gbc hg2 (by simp) HF.out.2
          clear hg2 h1 h2 f1 f2
          generalize hq : bitOf s zf = q at HN ⊢
          clear hq
          cases q
          · skip
            have b32 : Bk _ w.heap.size 25 #[.slice (some ⟨x, ox, none⟩) b.accs.length c, .slice (some ⟨y, oy, none⟩) b.mvs.length c'] := F31.at 3 rfl
            have l33 := b32.lt
            have q34 : World.cell? _ ⟨w.heap.size, 0, none⟩ = some (.slice (some ⟨x, ox, none⟩) b.accs.length c) := b32.cell 0
            have z35 := b32.frozen 0
            have q36 : World.cell? _ ⟨w.heap.size, 1, none⟩ = some (.slice (some ⟨y, oy, none⟩) b.mvs.length c') := b32.cell 1
            have z37 := b32.frozen 1
            go_wp2_with fail
            exact ⟨rfl, Lib.hid ⟨i + 1, rfl, rfl, rfl, rfl, rfl, rfl, rfl, (by show Value.int .i64 ((i : Int) + 1) = _; simp), by omega, (by simp), (by rw [HN.out, if_neg (by simp)]; exact F31)⟩, by simp [slot, intOf]; omega⟩
          · skip
            have b38 : Bk _ w.heap.size 25 #[.slice (some ⟨x, ox, none⟩) b.accs.length c, .slice (some ⟨y, oy, none⟩) b.mvs.length c'] := F31.at 3 rfl
            have l39 := b38.lt
            have q40 : World.cell? _ ⟨w.heap.size, 0, none⟩ = some (.slice (some ⟨x, ox, none⟩) b.accs.length c) := b38.cell 0
            have z41 := b38.frozen 0
            have q42 : World.cell? _ ⟨w.heap.size, 1, none⟩ = some (.slice (some ⟨y, oy, none⟩) b.mvs.length c') := b38.cell 1
            have z43 := b38.frozen 1
            go_wp2_with fail
            refine (rhas_c s zt _ hs8 (by omega) (by omega)).mono ?_
            rintro e w3 ⟨rfl, hg3⟩
            clear b38 l39 q40 z41 q42 z43
            have F44 := F31.gn hg3
            clear F31
            replace q1 := gbc hg3 (by simp) q1
            replace q2 := gbc hg3 (by simp) q2
            clear hg3 q3 q4
            generalize hq : bitOf s zt = q at HN ⊢
            clear hq
            cases q
            · skip
              by_cases hk : (2 * (b.accs.length : Int) + i) = but
              · have e1 : ((2 * (b.accs.length : Int) + i) != but) = false := by simp [hk]
                have HK := Lib.hid hk
                clear hk
                go_wp2_with fail
                exact ⟨rfl, Lib.hid ⟨i + 1, rfl, rfl, rfl, rfl, rfl, rfl, rfl, (by show Value.int .i64 ((i : Int) + 1) = _; simp), by omega, (by simp), (by rw [HN.out, if_neg (fun h => h.2.2 (by have := HK.out; omega))]; exact F44)⟩, by simp [slot, intOf]; omega⟩
              · have e1 : ((2 * (b.accs.length : Int) + i) != but) = true := by simpa using hk
                have HK := Lib.hid hk
                clear hk
                have b45 : Bk _ (w.heap.size + 2) 40 #[.int .i64 (p).lo, .int .i64 (p).hi] := F44.at 1 rfl
                have l46 := b45.lt
                have q47 : World.cell? _ ⟨(w.heap.size + 2), 0, none⟩ = some (.int .i64 (p).lo) := b45.cell 0
                have z48 := b45.frozen 0
                have q49 : World.cell? _ ⟨(w.heap.size + 2), 1, none⟩ = some (.int .i64 (p).hi) := b45.cell 1
                have z50 := b45.frozen 1
                have b51 : Bk _ w.heap.size 25 #[.slice (some ⟨x, ox, none⟩) b.accs.length c, .slice (some ⟨y, oy, none⟩) b.mvs.length c'] := F44.at 3 rfl
                have l52 := b51.lt
                have q53 : World.cell? _ ⟨w.heap.size, 0, none⟩ = some (.slice (some ⟨x, ox, none⟩) b.accs.length c) := b51.cell 0
                have z54 := b51.frozen 0
                have q55 : World.cell? _ ⟨w.heap.size, 1, none⟩ = some (.slice (some ⟨y, oy, none⟩) b.mvs.length c') := b51.cell 1
                have z56 := b51.frozen 1
                go_wp2_with fail
                go_region
                clear b45 l46 q47 z48 q49 z50 b51 l52 q53 z54 q55 z56
                go_wp2_with fail
                have G : Bun w [rbox (w.heap.size + 2) 40 #[.int .i64 (addS p a).lo, .int .i64 (addS p a).hi], rsl spEnc 2 (w.heap.size + 3) w1.heap.size (.slice (some ⟨z, oz, none⟩) (b.accs.length + b.accs.length + b.mvs.length) cz) (spansL b), rbox (w.heap.size + 1) 40 #[.int .i64 0, .int .i64 0], rbox w.heap.size 25 #[.slice (some ⟨x, ox, none⟩) b.accs.length c, .slice (some ⟨y, oy, none⟩) b.mvs.length c'], rbook lo hi (.slice (some ⟨x, ox, none⟩) b.accs.length c) (.slice (some ⟨y, oy, none⟩) b.mvs.length c') b] _ := (((F44.front 1 rfl rfl).set 0 (.int .i64 (p.lo + a.lo))).set 1 (.int .i64 (p.hi + a.hi))).drew
                have G2 : Bun w [rsl spEnc 2 (w.heap.size + 3) w1.heap.size (.slice (some ⟨z, oz, none⟩) (b.accs.length + b.accs.length + b.mvs.length) cz) (spansL b), rbox (w.heap.size + 2) 40 #[.int .i64 (addS p a).lo, .int .i64 (addS p a).hi], rbox (w.heap.size + 1) 40 #[.int .i64 0, .int .i64 0], rbox w.heap.size 25 #[.slice (some ⟨x, ox, none⟩) b.accs.length c, .slice (some ⟨y, oy, none⟩) b.mvs.length c'], rbook lo hi (.slice (some ⟨x, ox, none⟩) b.accs.length c) (.slice (some ⟨y, oy, none⟩) b.mvs.length c') b] _ := G.perm (List.perm_middle (l₁ := [rsl spEnc 2 (w.heap.size + 3) w1.heap.size (.slice (some ⟨z, oz, none⟩) (b.accs.length + b.accs.length + b.mvs.length) cz) (spansL b)]) (l₂ := [rbox (w.heap.size + 1) 40 #[.int .i64 0, .int .i64 0], rbox w.heap.size 25 #[.slice (some ⟨x, ox, none⟩) b.accs.length c, .slice (some ⟨y, oy, none⟩) b.mvs.length c'], rbook lo hi (.slice (some ⟨x, ox, none⟩) b.accs.length c) (.slice (some ⟨y, oy, none⟩) b.mvs.length c') b])).symm
                exact ⟨rfl, Lib.hid ⟨i + 1, rfl, rfl, rfl, rfl, rfl, rfl, rfl, (by show Value.int .i64 ((i : Int) + 1) = _; simp), by omega, (by simp), (by rw [HN.out, if_pos (⟨by simp, by simp, by have := HK.out; omega⟩)]; exact G2)⟩, by simp [slot, intOf]; omega⟩
            · skip
              go_wp2_with fail
              exact ⟨rfl, Lib.hid ⟨i + 1, rfl, rfl, rfl, rfl, rfl, rfl, rfl, (by show Value.int .i64 ((i : Int) + 1) = _; simp), by omega, (by simp), (by rw [HN.out, if_neg (by simp)]; exact F44)⟩, by simp [slot, intOf]; omega⟩
        · obtain rfl : i = b.mvs.length := by omega
          have b57 : Bk _ (w.heap.size + 2) 40 #[.int .i64 (outM b s but b.mvs.length).lo, .int .i64 (outM b s but b.mvs.length).hi] := hF.at 1 rfl
          have l58 := b57.lt
          have q59 : World.cell? _ ⟨(w.heap.size + 2), 0, none⟩ = some (.int .i64 (outM b s but b.mvs.length).lo) := b57.cell 0
          have z60 := b57.frozen 0
          have q61 : World.cell? _ ⟨(w.heap.size + 2), 1, none⟩ = some (.int .i64 (outM b s but b.mvs.length).hi) := b57.cell 1
          have z62 := b57.frozen 1
          have b63 : Bk _ (w.heap.size + 1) 40 #[.int .i64 0, .int .i64 0] := hF.at 2 rfl
          have l64 := b63.lt
          have q65 : World.cell? _ ⟨(w.heap.size + 1), 0, none⟩ = some (.int .i64 0) := b63.cell 0
          have z66 := b63.frozen 0
          have q67 : World.cell? _ ⟨(w.heap.size + 1), 1, none⟩ = some (.int .i64 0) := b63.cell 1
          have z68 := b63.frozen 1
          have b69 : Bk _ w.heap.size 25 #[.slice (some ⟨x, ox, none⟩) b.accs.length c, .slice a' b.mvs.length c'] := hF.at 3 rfl
          have l70 := b69.lt
          have q71 : World.cell? _ ⟨w.heap.size, 0, none⟩ = some (.slice (some ⟨x, ox, none⟩) b.accs.length c) := b69.cell 0
          have z72 := b69.frozen 0
          have q73 : World.cell? _ ⟨w.heap.size, 1, none⟩ = some (.slice a' b.mvs.length c') := b69.cell 1
          have z74 := b69.frozen 1
          go_wp2_with fail
          clear b57 l58 q59 z60 q61 z62 b63 l64 q65 z66 q67 z68 b69 l70 q71 z72 q73 z74
          have G : Bun w [rbox (w.heap.size + 1) 40 #[.int .i64 (outM b s but b.mvs.length).lo, .int .i64 (outM b s but b.mvs.length).hi], rsl spEnc 2 (w.heap.size + 3) w1.heap.size (.slice (some ⟨z, oz, none⟩) (b.accs.length + b.accs.length + b.mvs.length) cz) (spansL b), rbox (w.heap.size + 2) 40 #[.int .i64 (outM b s but b.mvs.length).lo, .int .i64 (outM b s but b.mvs.length).hi], rbox w.heap.size 25 #[.slice (some ⟨x, ox, none⟩) b.accs.length c, .slice a' b.mvs.length c'], rbook lo hi (.slice (some ⟨x, ox, none⟩) b.accs.length c) (.slice a' b.mvs.length c') b] _ := ((hF.front 2 rfl rfl).set 0 (.int .i64 (outM b s but b.mvs.length).lo)).set 1 (.int .i64 (outM b s but b.mvs.length).hi)
          have gb : Bk _ (w.heap.size + 1) 40 #[.int .i64 (outM b s but b.mvs.length).lo, .int .i64 (outM b s but b.mvs.length).hi] := G.at 0 rfl
          have gc := gb.c2
          exact bodyPost_ret (v := (outM b s but b.mvs.length).v) (by simp [results, Try.results102, go_sem, Sp.v, gc]) rfl ⟨rfl, G.gb⟩
      case atStart4 =>
        exact Lib.hid ⟨0, rfl, rfl, rfl, rfl, rfl, rfl, rfl, rfl, Nat.zero_le _, rfl, hF⟩
  case atStart3 =>
    exact Lib.hid ⟨0, rfl, rfl, rfl, rfl, rfl, rfl, rfl, rfl, Nat.zero_le _, rfl, F11⟩
end Go.Proofs.Ytfifldbinnkdmaa
/- The reference's cuts: accounts that may lose; its cuts are the program's sets. -/
namespace Go.Proofs.Ytfifldbinnkdmaa
open Go.RowKit Go.Shelf
set_option maxRecDepth 100000

/-- A set has an account before number k, other than one, that may lose. -/
def losesF (b : Bok) (s : Nat) (but : Int) : Nat → Bool
  | 0 => false
  | k + 1 => losesF b s but k || (bitOf s k && ((k : Int) != but) && (ga b.accs k).kind == 1)
def losesB (b : Bok) (s : Nat) (but : Int) : Bool := losesF b s but b.accs.length
theorem losesF_stop {b : Bok} {s : Nat} {but : Int} {k : Nat} : ∀ m, losesF b s but (k + 1) = true → losesF b s but (k + 1 + m) = true := by
  intro m
  induction m with
  | zero => exact id
  | succ m ih => intro h; rw [show k + 1 + (m + 1) = (k + 1 + m) + 1 by omega]; simp [losesF, ih h]
theorem bitOf_nat (s i : Nat) : bitOf s (i : Int) = s.testBit i := rfl
theorem grpA_in {b : Bok} {s : Nat} : ∀ k, (grpA b.accs s k).least = (inA b s (-1) k).lo - (outA b s (-1) k).hi ∧ (grpA b.accs s k).most = (inA b s (-1) k).hi - (outA b s (-1) k).lo := by
  intro k
  induction k with
  | zero => simp [grpA, inA, outA]
  | succ k ih =>
    have h1 : ((k : Nat) : Int) ≠ -1 := by omega
    have h2 : ((b.accs.length + k : Nat) : Int) ≠ -1 := by omega
    cases hk : s.testBit k
    · rw [grpA_no hk, inA, outA, if_neg (by simp [bitOf_nat, hk]), if_neg (by simp [bitOf_nat, hk])]
      exact ih
    · rw [grpA_yes hk, inA, outA, if_pos ⟨by simp [bitOf_nat, hk], h1⟩, if_pos ⟨by simp [bitOf_nat, hk], h2⟩]
      simp only [addS]
      omega
theorem grpM_in {b : Bok} {s : Nat} : ∀ k, (grpM b.mvs s (grpA b.accs s b.accs.length) k).least = (inM b s (-1) k).lo - (outM b s (-1) k).hi ∧ (grpM b.mvs s (grpA b.accs s b.accs.length) k).most = (inM b s (-1) k).hi - (outM b s (-1) k).lo := by
  intro k
  induction k with
  | zero => exact grpA_in _
  | succ k ih =>
    have h1 : ((2 * b.accs.length + k : Nat) : Int) ≠ -1 := by omega
    cases ht : bitOf s (gm b.mvs k).to <;> cases hf : bitOf s (gm b.mvs k).fr
    · rw [grpM, inM, outM, if_neg (by simp [ht]), if_neg (by simp [hf]), if_neg (by simp [ht]), if_neg (by simp [hf])]
      exact ih
    · rw [grpM, inM, outM, if_neg (by simp [ht]), if_pos (by simp [hf, ht]), if_neg (by simp [ht]), if_pos ⟨hf, ht, h1⟩]
      simp only [addS]
      omega
    · rw [grpM, inM, outM, if_pos (by simp [hf, ht]), if_pos ⟨ht, hf, h1⟩, if_neg (by simp [hf])]
      simp only [addS]
      omega
    · rw [grpM, inM, outM, if_neg (by simp [hf]), if_neg (by simp [ht]), if_neg (by simp [hf]), if_neg (by simp [ht])]
      exact ih
/-- A set's least and most are the cut's. -/
theorem grp_in (b : Bok) (s : Nat) : (grp b s).least = (inS b s (-1)).lo - (outS b s (-1)).hi ∧ (grp b s).most = (inS b s (-1)).hi - (outS b s (-1)).lo := grpM_in _
theorem grpM_same (l : List Mv) (s : Nat) (g : Grp) : ∀ k, (grpM l s g k).ground = g.ground ∧ (grpM l s g k).rest = g.rest := by
  intro k
  induction k with
  | zero => exact ⟨rfl, rfl⟩
  | succ k ih => unfold grpM; split <;> (try split) <;> exact ih
theorem ground_loses {b : Bok} (h : BokOk b) (s : Nat) : ∀ k, k ≤ b.accs.length → (grpA b.accs s k).ground = !losesF b s (-1) k := by
  intro k
  induction k with
  | zero => intro _; rfl
  | succ k ih =>
    intro hk
    have hk2 := (h.acc k (by omega)).kind
    have h1 : (((k : Nat) : Int) != -1) = true := by rw [bne_iff_ne]; omega
    cases hb : s.testBit k
    · rw [grpA_no hb]; simp [losesF, bitOf_nat, hb, ih (by omega)]
    · rw [grpA_yes hb]
      rcases hk2 with e | e <;> simp [losesF, bitOf_nat, hb, ih (by omega), e, h1]
theorem grp_ground {b : Bok} (h : BokOk b) (s : Nat) : (grp b s).ground = !losesB b s (-1) := by
  unfold grp
  rw [(grpM_same _ _ _ _).1]
  exact ground_loses h s _ (Nat.le_refl _)
theorem oth_loses {b : Bok} (h : BokOk b) (a s : Nat) : ∀ k, k ≤ b.accs.length → othF b a s k = !losesF b s a k := by
  intro k
  induction k with
  | zero => intro _; rfl
  | succ k ih =>
    intro hk
    have hk2 := (h.acc k (by omega)).kind
    have e1 : (((k : Nat) : Int) != (a : Int)) = !(k == a) := by
      by_cases e : k = a
      · subst e; simp
      · have : ((k : Nat) : Int) ≠ a := by omega
        rw [bne_iff_ne.2 this, beq_eq_false_iff_ne.2 e]; rfl
    unfold othF losesF
    rw [ih (by omega), e1, bitOf_nat]
    rcases hk2 with e | e <;> cases s.testBit k <;> cases (k == a) <;> cases losesF b s a k <;> simp [e]
theorem rest_loses {b : Bok} (h : BokOk b) {s : Nat} (hs : s < 2 ^ b.accs.length) : ∀ k, k ≤ b.accs.length → (grpA b.accs s k).rest = !losesF b (2 ^ b.accs.length - 1 - s) (-1) k := by
  intro k
  induction k with
  | zero => intro _; rfl
  | succ k ih =>
    intro hk
    have hk2 := (h.acc k (by omega)).kind
    have h1 : (((k : Nat) : Int) != -1) = true := by rw [bne_iff_ne]; omega
    have hb2 : (2 ^ b.accs.length - 1 - s).testBit k = !s.testBit k := by
      rw [show 2 ^ b.accs.length - 1 - s = 2 ^ b.accs.length - (s + 1) by omega, Nat.testBit_two_pow_sub_succ hs]
      simp [show k < b.accs.length by omega]
    cases hb : s.testBit k
    · rw [grpA_no hb]
      rcases hk2 with e | e <;> simp [losesF, bitOf_nat, hb2, hb, ih (by omega), e, h1]
    · rw [grpA_yes hb]; simp [losesF, bitOf_nat, hb2, hb, ih (by omega)]
theorem grp_rest {b : Bok} (h : BokOk b) {s : Nat} (hs : s < 2 ^ b.accs.length) : (grp b s).rest = !losesB b (2 ^ b.accs.length - 1 - s) (-1) := by
  unfold grp
  rw [(grpM_same _ _ _ _).2]
  exact rest_loses h hs _ (Nat.le_refl _)
theorem pow_le {n : Nat} (h : n ≤ 8) : 2 ^ n ≤ 256 := Nat.pow_le_pow_right (by decide) h

set_option maxHeartbeats 2000000 in
theorem rloses_c (lo hi : Nat) (va vm : Value) (b : Bok) (s : Nat) (but : Int) (w : World) (hb : HasB lo hi w va vm b) (hok : BokOk b) (h2 : hi ≤ w.heap.size) (hs8 : s < 256) :
    Calls Try.prog 103 #[.agg #[va, vm], .int .i64 s, .int .i64 but] w (Ret (.bool (losesB b s but)) w) := by
  obtain ⟨x, ox, c, a', c', rfl, rfl⟩ := hb.valA hok.n0
  have hn8 := hok.n8
  have HOK := Lib.hid hok
  clear hok
  have F1 : Bun w [rbook lo hi (.slice (some ⟨x, ox, none⟩) b.accs.length c) (.slice a' b.mvs.length c') b] _ := Bun.book hb h2
  clear hb
  go_enter Try.func103, Try.ntmps103
  have F2 : Bun w [rbox w.heap.size 25 #[.slice (some ⟨x, ox, none⟩) b.accs.length c, .slice a' b.mvs.length c'], rbook lo hi (.slice (some ⟨x, ox, none⟩) b.accs.length c) (.slice a' b.mvs.length c') b] _ := F1.new 25 #[.slice (some ⟨x, ox, none⟩) b.accs.length c, .slice a' b.mvs.length c'] (n := w.heap.size) (by simp)
  clear F1
  go_wp2_with fail
  refine wp_loopS 32 rfl (fun t ds wr => Hid (∃ (i : Nat), t 1 = .int .i64 s ∧ t 2 = .int .i64 but ∧ t 3 = .pointer (some ⟨w.heap.size, 0, none⟩) ∧ t 7 = .int .i64 i ∧ i ≤ b.accs.length ∧ ds = [] ∧ losesF b s but i = false ∧ Bun w [rbox w.heap.size 25 #[.slice (some ⟨x, ox, none⟩) b.accs.length c, .slice a' b.mvs.length c'], rbook lo hi (.slice (some ⟨x, ox, none⟩) b.accs.length c) (.slice a' b.mvs.length c') b] wr)) (fun t wr => b.accs.length - (intOf (t 7)).toNat) ?atStart5 ?round5
  case round5 =>
    intro t ds wr hHid
    obtain ⟨i, e1, e2, e3, e7, hrel⟩ := hHid.out
    clear hHid
    have e : ((List.range 32).map t).toArray = #[t 0, t 1, t 2, t 3, t 4, t 5, t 6, t 7, t 8, t 9, t 10, t 11, t 12, t 13, t 14, t 15, t 16, t 17, t 18, t 19, t 20, t 21, t 22, t 23, t 24, t 25, t 26, t 27, t 28, t 29, t 30, t 31] := rfl
    (try dsimp only at e)
    rw [e1, e2, e3, e7] at e
    rw [e]
    simp only [e7]
    clear e e1 e2 e3 e7
    clear F2
    obtain ⟨hi_, rfl, hno, hF⟩ := hrel
    by_cases hlt : i < b.accs.length
    · skip
      obtain ⟨_, g1, _⟩ := HasB.acc (hF.at 1 rfl : HasB lo hi _ (.slice (some ⟨x, ox, none⟩) b.accs.length c) (.slice a' b.mvs.length c') b) hlt
      have hk2 := (HOK.out.acc i hlt).kind
      have HN := Lib.hid (show losesF b s but (i + 1) = (losesF b s but i || (bitOf s i && ((i : Int) != but) && (ga b.accs i).kind == 1)) from rfl)
      rw [hno, Bool.false_or] at HN
      clear hno
      have hst := losesF_stop (b := b) (s := s) (but := but) (k := i) (b.accs.length - (i + 1))
      rw [show i + 1 + (b.accs.length - (i + 1)) = b.accs.length by omega] at hst
      have HS := Lib.hid hst
      clear hst
      generalize (ga b.accs i).kind = kd at *
      have b3 : Bk _ w.heap.size 25 #[.slice (some ⟨x, ox, none⟩) b.accs.length c, .slice a' b.mvs.length c'] := hF.at 0 rfl
      have l4 := b3.lt
      have q5 : World.cell? _ ⟨w.heap.size, 0, none⟩ = some (.slice (some ⟨x, ox, none⟩) b.accs.length c) := b3.cell 0
      have z6 := b3.frozen 0
      have q7 : World.cell? _ ⟨w.heap.size, 1, none⟩ = some (.slice a' b.mvs.length c') := b3.cell 1
      have z8 := b3.frozen 1
      go_wp2_with fail
      refine (rhas_c s i _ hs8 (by omega) (by omega)).mono ?_
      rintro e w2 ⟨rfl, hg2⟩
      replace g1 := gbc hg2 (by simp) g1
      clear b3 l4 q5 z6 q7 z8
      have F9 : Bun w [rbox w.heap.size 25 #[.slice (some ⟨x, ox, none⟩) b.accs.length c, .slice a' b.mvs.length c'], rbook lo hi (.slice (some ⟨x, ox, none⟩) b.accs.length c) (.slice a' b.mvs.length c') b] w2 := hF.gn hg2
      clear hF
      clear hg2
      generalize hq : bitOf s i = q at HN ⊢
      clear hq
      cases q
      · skip
        have b10 : Bk _ w.heap.size 25 #[.slice (some ⟨x, ox, none⟩) b.accs.length c, .slice a' b.mvs.length c'] := F9.at 0 rfl
        have l11 := b10.lt
        have q12 : World.cell? _ ⟨w.heap.size, 0, none⟩ = some (.slice (some ⟨x, ox, none⟩) b.accs.length c) := b10.cell 0
        have z13 := b10.frozen 0
        have q14 : World.cell? _ ⟨w.heap.size, 1, none⟩ = some (.slice a' b.mvs.length c') := b10.cell 1
        have z15 := b10.frozen 1
        go_wp2_with fail
        exact ⟨rfl, Lib.hid ⟨i + 1, rfl, rfl, rfl, (by show Value.int .i64 ((i : Int) + 1) = _; simp), by omega, (by simp), (by rw [HN.out]; simp), F9⟩, by simp [slot, intOf]; omega⟩
      · skip
        by_cases hk : (i : Int) = but
        · have e1 : ((i : Int) != but) = false := by simp [hk]
          have HE := Lib.hid e1
          have HK := Lib.hid hk
          clear hk
          have b16 : Bk _ w.heap.size 25 #[.slice (some ⟨x, ox, none⟩) b.accs.length c, .slice a' b.mvs.length c'] := F9.at 0 rfl
          have l17 := b16.lt
          have q18 : World.cell? _ ⟨w.heap.size, 0, none⟩ = some (.slice (some ⟨x, ox, none⟩) b.accs.length c) := b16.cell 0
          have z19 := b16.frozen 0
          have q20 : World.cell? _ ⟨w.heap.size, 1, none⟩ = some (.slice a' b.mvs.length c') := b16.cell 1
          have z21 := b16.frozen 1
          go_wp2_with fail
          exact ⟨rfl, Lib.hid ⟨i + 1, rfl, rfl, rfl, (by show Value.int .i64 ((i : Int) + 1) = _; simp), by omega, (by simp), (by rw [HN.out]; simp [HE.out]), F9⟩, by simp [slot, intOf]; omega⟩
        · have e1 : ((i : Int) != but) = true := by simpa using hk
          have HE := Lib.hid e1
          clear hk
          by_cases hd : kd = 1
          · have e2 : (kd == 1) = true := by simp [hd]
            have HD := Lib.hid e2
            clear hd
            have b22 : Bk _ w.heap.size 25 #[.slice (some ⟨x, ox, none⟩) b.accs.length c, .slice a' b.mvs.length c'] := F9.at 0 rfl
            have l23 := b22.lt
            have q24 : World.cell? _ ⟨w.heap.size, 0, none⟩ = some (.slice (some ⟨x, ox, none⟩) b.accs.length c) := b22.cell 0
            have z25 := b22.frozen 0
            have q26 : World.cell? _ ⟨w.heap.size, 1, none⟩ = some (.slice a' b.mvs.length c') := b22.cell 1
            have z27 := b22.frozen 1
            go_wp2_with fail
            go_ret
            exact ⟨by rw [show losesB b s but = true from HS.out (by rw [HN.out, HE.out, HD.out]; rfl)]; rfl, F9.gb⟩
          · have e2 : (kd == 1) = false := by simp [hd]
            have HD := Lib.hid e2
            clear hd
            have b28 : Bk _ w.heap.size 25 #[.slice (some ⟨x, ox, none⟩) b.accs.length c, .slice a' b.mvs.length c'] := F9.at 0 rfl
            have l29 := b28.lt
            have q30 : World.cell? _ ⟨w.heap.size, 0, none⟩ = some (.slice (some ⟨x, ox, none⟩) b.accs.length c) := b28.cell 0
            have z31 := b28.frozen 0
            have q32 : World.cell? _ ⟨w.heap.size, 1, none⟩ = some (.slice a' b.mvs.length c') := b28.cell 1
            have z33 := b28.frozen 1
            go_wp2_with fail
            exact ⟨rfl, Lib.hid ⟨i + 1, rfl, rfl, rfl, (by show Value.int .i64 ((i : Int) + 1) = _; simp), by omega, (by simp), (by rw [HN.out]; simp [HE.out, HD.out]), F9⟩, by simp [slot, intOf]; omega⟩
    · obtain rfl : i = b.accs.length := by omega
      have b34 : Bk _ w.heap.size 25 #[.slice (some ⟨x, ox, none⟩) b.accs.length c, .slice a' b.mvs.length c'] := hF.at 0 rfl
      have l35 := b34.lt
      have q36 : World.cell? _ ⟨w.heap.size, 0, none⟩ = some (.slice (some ⟨x, ox, none⟩) b.accs.length c) := b34.cell 0
      have z37 := b34.frozen 0
      have q38 : World.cell? _ ⟨w.heap.size, 1, none⟩ = some (.slice a' b.mvs.length c') := b34.cell 1
      have z39 := b34.frozen 1
      have HN := Lib.hid hno
      clear hno
      go_wp2_with fail
      go_ret
      exact ⟨by rw [show losesB b s but = false from HN.out]; rfl, hF.gb⟩
  case atStart5 =>
    exact Lib.hid ⟨0, rfl, rfl, rfl, rfl, Nat.zero_le _, rfl, rfl, F2⟩

set_option maxHeartbeats 1000000 in
theorem rallTanks_c (lo hi : Nat) (va vm : Value) (b : Bok) (s : Nat) (w : World) (hb : HasB lo hi w va vm b) (hok : BokOk b) (h2 : hi ≤ w.heap.size) (hs8 : s < 2 ^ b.accs.length) :
    Calls Try.prog 104 #[.agg #[va, vm], .int .i64 s] w (Ret (.bool (grp b s).rest) w) := by
  obtain ⟨x, ox, c, a', c', rfl, rfl⟩ := hb.valA hok.n0
  have hn8 := hok.n8
  have hp := pow_le hn8
  have HR := Lib.hid (grp_rest hok hs8)
  have HOK := Lib.hid hok
  have hB := hb.alloc (.cells #[.slice (some ⟨x, ox, none⟩) b.accs.length c, .slice a' b.mvs.length c'] 25)
  have hx := Bk.new w 25 #[.slice (some ⟨x, ox, none⟩) b.accs.length c, .slice a' b.mvs.length c']
  have hc := hx.c2
  have hl := hx.lt
  clear hok hb
  obtain ⟨P, hP⟩ : ∃ P, 2 ^ b.accs.length = P := ⟨_, rfl⟩
  rw [hP] at hs8 hp HR
  have HP := Lib.hid hP
  clear hP
  have hw1 : IntKind.i64.wrap ((P : Int) - 1) = (P : Int) - 1 := IntWalk.i64_in _ (by omega)
  have hw2 : IntKind.i64.wrap ((P : Int) - 1 - s) = (P : Int) - 1 - s := IntWalk.i64_in _ (by omega)
  have hcast : ((P - 1 - s : Nat) : Int) = (P : Int) - 1 - s := by omega
  have HC := Lib.hid hcast
  clear hcast
  go_enter Try.func104, Try.ntmps104
  go_wp2_with fail
  go_region_held3 (fun W => W.cell? ⟨w.heap.size, 0, none⟩ = some (.slice (some ⟨x, ox, none⟩) b.accs.length c) ∧ W.cell? ⟨w.heap.size, 1, none⟩ = some (.slice a' b.mvs.length c')) (go_keep)
    (first
    | (go_at_call 99; refine (rsets_c lo hi _ _ b _ hB.drew hn8).mono ?_; rintro e w2 ⟨rfl, hg2⟩; rw [HP.out]; have r0 := gbc hg2 (by simp) hc.1; have r1 := gbc hg2 (by simp) hc.2.1; have hz := hg2.size; (try simp at hz))
    | (go_at_call 103; rw [← HC.out]; refine (rloses_c lo hi _ _ b (P - 1 - s) (-1) _ (HasB.gn hB.drew hg2) HOK.out (by omega) (by omega)).mono ?_; rintro e w3 ⟨rfl, hg3⟩; have r0' := gbc hg3 (by simp) r0; have r1' := gbc hg3 (by simp) r1))
  go_wp2_with fail
  go_ret
  exact ⟨by rw [HR.out]; rfl, gb_trans (gb_trans (gb_drew (gb_alloc (gb_refl _ _) _)) hg2) hg3⟩
end Go.Proofs.Ytfifldbinnkdmaa
