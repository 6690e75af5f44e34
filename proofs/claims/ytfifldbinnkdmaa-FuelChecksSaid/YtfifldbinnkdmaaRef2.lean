/- The reference's cuts: what comes into a set of accounts, and what goes out of it. -/
import Derived.Test.YtfifldbinnkdmaaRef1
import Derived.Test.YtfifldbinnkdmaaSp
set_option linter.unusedVariables false
set_option linter.unusedSimpArgs false
set_option linter.unnecessarySimpa false
namespace Go.Proofs.Ytfifldbinnkdmaa
open Go.RowKit Go.Shelf
set_option maxRecDepth 100000

def addS (x y : Sp) : Sp := ⟨x.lo + y.lo, x.hi + y.hi⟩
theorem sp_left {l m : List Sp} {i : Nat} (h : i < l.length) : sp (l ++ m) i = sp l i := by simp [sp, h, List.getElem?_append_left]
theorem sp_right {l m : List Sp} {i : Nat} : sp (l ++ m) (l.length + i) = sp m i := by simp [sp, List.getElem?_append_right]
theorem spansA_at {f : Acc → Sp} {l : List Acc} {i : Nat} (h : i < l.length) : sp (spansA f l l.length) i = f (ga l i) := by simp [sp, spansA, ga_get h, h]
theorem spansM_at {l : List Mv} {i : Nat} (h : i < l.length) : sp (spansM l l.length) i = (gm l i).li := by simp [sp, spansM, gm_get h, h]
theorem spansL_len (b : Bok) : (spansL b).length = b.accs.length + b.accs.length + b.mvs.length := by simp [spansL, spansA_len, spansM_len]; omega
theorem spansL_op {b : Bok} {i : Nat} (h : i < b.accs.length) : sp (spansL b) i = (ga b.accs i).op := by
  unfold spansL
  rw [List.append_assoc, sp_left (by rw [spansA_len (Nat.le_refl _)]; exact h), spansA_at h]
theorem spansL_cl {b : Bok} {i : Nat} (h : i < b.accs.length) : sp (spansL b) (b.accs.length + i) = (ga b.accs i).cl := by
  have e : (spansA (·.op) b.accs b.accs.length).length = b.accs.length := spansA_len (Nat.le_refl _)
  unfold spansL
  rw [List.append_assoc]
  conv => lhs; arg 2; rw [← e]
  rw [sp_right, sp_left (by rw [spansA_len (Nat.le_refl _)]; exact h), spansA_at h]
theorem spansL_li {b : Bok} {i : Nat} (h : i < b.mvs.length) : sp (spansL b) (2 * b.accs.length + i) = (gm b.mvs i).li := by
  have e : (spansA (·.op) b.accs b.accs.length ++ spansA (·.cl) b.accs b.accs.length).length = 2 * b.accs.length := by rw [List.length_append, spansA_len (Nat.le_refl _), spansA_len (Nat.le_refl _)]; omega
  unfold spansL
  conv => lhs; arg 2; rw [← e]
  rw [sp_right, spansM_at h]
theorem Sps.cell2 {lo hi : Nat} {w : World} {x ox n c : Nat} {l : List Sp} (h : Sps lo hi w (.slice (some ⟨x, ox, none⟩) n c) l) {i : Nat} (hi' : i < l.length) :
    w.cell? ⟨x, ox + i * 2, none⟩ = some (.int .i64 (sp l i).lo) ∧ w.cell? ⟨x, ox + i * 2 + 1, none⟩ = some (.int .i64 (sp l i).hi) := by
  obtain ⟨x', ox', c', ev, _, _, H⟩ := Sps.at h (by omega)
  injection ev with e1 _ e2
  injection e1 with e1
  injection e1 with e3 e4
  subst e3 e4
  exact H i hi'

/-- What X, but for span number 'but'. -/
def inA (b : Bok) (s : Nat) (but : Int) : Nat → Sp
  | 0 => ⟨0, 0⟩
  | i + 1 => if bitOf s i = true ∧ (i : Int) ≠ but then addS (inA b s but i) (ga b.accs i).op else inA b s but i
def inM (b : Bok) (s : Nat) (but : Int) : Nat → Sp
  | 0 => inA b s but b.accs.length
  | j + 1 => if bitOf s (gm b.mvs j).to = true ∧ bitOf s (gm b.mvs j).fr = false ∧ ((2 * b.accs.length + j : Nat) : Int) ≠ but then addS (inM b s but j) (gm b.mvs j).li else inM b s but j
def inS (b : Bok) (s : Nat) (but : Int) : Sp := inM b s but b.mvs.length
theorem inA_bd {b : Bok} (h : BokOk b) (s : Nat) (but : Int) : ∀ i : Nat, i ≤ b.accs.length → (0 ≤ (inA b s but i).lo ∧ (inA b s but i).lo ≤ 1000000000 * i) ∧ 0 ≤ (inA b s but i).hi ∧ (inA b s but i).hi ≤ 1000000000 * i := by
  intro i
  induction i with
  | zero => intro _; simp [inA]
  | succ i ih =>
    intro hi
    have a := ih (by omega)
    have d := (h.acc i (by omega)).op
    unfold inA
    split
    · simp only [addS]; omega
    · omega
theorem inM_bd {b : Bok} (h : BokOk b) (s : Nat) (but : Int) : ∀ i : Nat, i ≤ b.mvs.length → (0 ≤ (inM b s but i).lo ∧ (inM b s but i).lo ≤ 1000000000 * (8 + i)) ∧ 0 ≤ (inM b s but i).hi ∧ (inM b s but i).hi ≤ 1000000000 * (8 + i) := by
  intro i
  induction i with
  | zero => intro _; have := inA_bd h s but b.accs.length (Nat.le_refl _); have := h.n8; simp only [inM]; omega
  | succ i ih =>
    intro hi
    have a := ih (by omega)
    have d := (h.mv i (by omega)).li
    unfold inM
    split
    · simp only [addS]; omega
    · omega
theorem inS_bd {b : Bok} (h : BokOk b) (s : Nat) (but : Int) : (0 ≤ (inS b s but).lo ∧ (inS b s but).lo ≤ 40000000000) ∧ 0 ≤ (inS b s but).hi ∧ (inS b s but).hi ≤ 40000000000 := by
  have a := inM_bd h s but b.mvs.length (Nat.le_refl _)
  have := h.m30
  unfold inS
  omega

set_option maxHeartbeats 4000000 in
theorem rin_c (lo hi : Nat) (va vm : Value) (b : Bok) (s : Nat) (but : Int) (w : World) (hb : HasB lo hi w va vm b) (hok : BokOk b) (h2 : hi ≤ w.heap.size) (hs8 : s < 256) :
    Calls Try.prog 101 #[.agg #[va, vm], .int .i64 s, .int .i64 but] w (Ret (inS b s but).v w) := by
  obtain ⟨x, ox, c, a', c', rfl, rfl⟩ := hb.valA hok.n0
  have hn8 := hok.n8
  have hm31 := hok.m30
  have hn0 := hok.n0
  have HOK := Lib.hid hok
  clear hok
  have F1 : Bun w [rbook lo hi (.slice (some ⟨x, ox, none⟩) b.accs.length c) (.slice a' b.mvs.length c') b] _ := Bun.book hb h2
  clear hb
  go_enter Try.func101, Try.ntmps101
  have F2 : Bun w [rbox w.heap.size 25 #[.slice (some ⟨x, ox, none⟩) b.accs.length c, .slice a' b.mvs.length c'], rbook lo hi (.slice (some ⟨x, ox, none⟩) b.accs.length c) (.slice a' b.mvs.length c') b] _ := F1.new 25 #[.slice (some ⟨x, ox, none⟩) b.accs.length c, .slice a' b.mvs.length c'] (n := w.heap.size) (by simp)
  clear F1
  have F3 : Bun w [rbox (w.heap.size + 1) 40 #[.int .i64 0, .int .i64 0], rbox w.heap.size 25 #[.slice (some ⟨x, ox, none⟩) b.accs.length c, .slice a' b.mvs.length c'], rbook lo hi (.slice (some ⟨x, ox, none⟩) b.accs.length c) (.slice a' b.mvs.length c') b] _ := F2.new 40 #[.int .i64 0, .int .i64 0] (n := (w.heap.size + 1)) (by simp)
  clear F2
  have F4 : Bun w [rbox (w.heap.size + 2) 40 #[.int .i64 0, .int .i64 0], rbox (w.heap.size + 1) 40 #[.int .i64 0, .int .i64 0], rbox w.heap.size 25 #[.slice (some ⟨x, ox, none⟩) b.accs.length c, .slice a' b.mvs.length c'], rbook lo hi (.slice (some ⟨x, ox, none⟩) b.accs.length c) (.slice a' b.mvs.length c') b] _ := F3.new 40 #[.int .i64 0, .int .i64 0] (n := (w.heap.size + 2)) (by simp)
  clear F3
  have b5 : Bk _ w.heap.size 25 #[.slice (some ⟨x, ox, none⟩) b.accs.length c, .slice a' b.mvs.length c'] := F4.at 2 rfl
  have l6 := b5.lt
  have q7 : World.cell? _ ⟨w.heap.size, 0, none⟩ = some (.slice (some ⟨x, ox, none⟩) b.accs.length c) := b5.cell 0
  have z8 := b5.frozen 0
  have q9 : World.cell? _ ⟨w.heap.size, 1, none⟩ = some (.slice a' b.mvs.length c') := b5.cell 1
  have z10 := b5.frozen 1
  go_wp2_with fail
  refine (rspans_c lo hi _ _ b _ ((F4.at 3 rfl : HasB lo hi _ (.slice (some ⟨x, ox, none⟩) b.accs.length c) (.slice a' b.mvs.length c') b)) HOK.out (by simp; omega)).mono ?_
  rintro e w1 ⟨vs, rfl, hsp, hg1⟩
  have hg1s := hg1.size
  (try simp at hg1s)
  clear b5 l6 q7 z8 q9 z10
  have F11 : Bun w [rsl spEnc 2 (w.heap.size + 3) w1.heap.size vs (spansL b), rbox (w.heap.size + 2) 40 #[.int .i64 0, .int .i64 0], rbox (w.heap.size + 1) 40 #[.int .i64 0, .int .i64 0], rbox w.heap.size 25 #[.slice (some ⟨x, ox, none⟩) b.accs.length c, .slice a' b.mvs.length c'], rbook lo hi (.slice (some ⟨x, ox, none⟩) b.accs.length c) (.slice a' b.mvs.length c') b] w1 := F4.add (rsl spEnc 2 (w.heap.size + 3) w1.heap.size vs (spansL b)) hg1 (hsp.wide (by simp) (Nat.le_refl _)) (rsl_in (by simp) (Nat.le_refl _))
  clear F4
  obtain ⟨z, oz, cz, ez, _, _, _⟩ := Sps.at hsp (by rw [spansL_len]; omega)
  have hsl := spansL_len b
  rw [hsl] at ez
  subst ez
  clear hsp hg1
  go_wp2_with fail
  refine wp_loopS 101 rfl (fun t ds wr => Hid (∃ (i : Nat), t 1 = .int .i64 s ∧ t 2 = .int .i64 but ∧ t 3 = .pointer (some ⟨w.heap.size, 0, none⟩) ∧ t 6 = .pointer (some ⟨(w.heap.size + 1), 0, none⟩) ∧ t 7 = .pointer (some ⟨(w.heap.size + 2), 0, none⟩) ∧ t 8 = .int .i64 b.accs.length ∧ t 9 = .slice (some ⟨z, oz, none⟩) (b.accs.length + b.accs.length + b.mvs.length) cz ∧ t 10 = .int .i64 i ∧ i ≤ b.accs.length ∧ ds = [] ∧ Bun w [rsl spEnc 2 (w.heap.size + 3) w1.heap.size (.slice (some ⟨z, oz, none⟩) (b.accs.length + b.accs.length + b.mvs.length) cz) (spansL b), rbox (w.heap.size + 2) 40 #[.int .i64 (inA b s but i).lo, .int .i64 (inA b s but i).hi], rbox (w.heap.size + 1) 40 #[.int .i64 0, .int .i64 0], rbox w.heap.size 25 #[.slice (some ⟨x, ox, none⟩) b.accs.length c, .slice a' b.mvs.length c'], rbook lo hi (.slice (some ⟨x, ox, none⟩) b.accs.length c) (.slice a' b.mvs.length c') b] wr)) (fun t wr => b.accs.length - (intOf (t 10)).toNat) ?atStart1 ?round1
  case round1 =>
    intro t ds wr hHid
    obtain ⟨i, e1, e2, e3, e6, e7, e8, e9, e10, hrel⟩ := hHid.out
    clear hHid
    have e : ((List.range 101).map t).toArray = #[t 0, t 1, t 2, t 3, t 4, t 5, t 6, t 7, t 8, t 9, t 10, t 11, t 12, t 13, t 14, t 15, t 16, t 17, t 18, t 19, t 20, t 21, t 22, t 23, t 24, t 25, t 26, t 27, t 28, t 29, t 30, t 31, t 32, t 33, t 34, t 35, t 36, t 37, t 38, t 39, t 40, t 41, t 42, t 43, t 44, t 45, t 46, t 47, t 48, t 49, t 50, t 51, t 52, t 53, t 54, t 55, t 56, t 57, t 58, t 59, t 60, t 61, t 62, t 63, t 64, t 65, t 66, t 67, t 68, t 69, t 70, t 71, t 72, t 73, t 74, t 75, t 76, t 77, t 78, t 79, t 80, t 81, t 82, t 83, t 84, t 85, t 86, t 87, t 88, t 89, t 90, t 91, t 92, t 93, t 94, t 95, t 96, t 97, t 98, t 99, t 100] := rfl
    (try dsimp only at e)
    rw [e1, e2, e3, e6, e7, e8, e9, e10] at e
    rw [e]
    simp only [e1, e10]
    clear e e1 e2 e3 e6 e7 e8 e9 e10
    clear F11
    obtain ⟨hi_, rfl, hF⟩ := hrel
    by_cases hlt : i < b.accs.length
    · skip
      have hbd := inA_bd HOK.out s but i hi_
      obtain ⟨p, hp⟩ : ∃ p, inA b s but i = p := ⟨_, rfl⟩
      have hcl := Sps.cell2 (hF.at 0 rfl : Sl spEnc 2 (w.heap.size + 3) w1.heap.size _ (.slice (some ⟨z, oz, none⟩) (b.accs.length + b.accs.length + b.mvs.length) cz) (spansL b)) (i := i) (by rw [hsl]; omega)
      rw [spansL_op hlt] at hcl
      have hac := (HOK.out.acc i hlt).op
      obtain ⟨a, ha⟩ : ∃ a, (ga b.accs i).op = a := ⟨_, rfl⟩
      rw [ha] at hcl hac
      have HN := Lib.hid (show inA b s but (i + 1) = if bitOf s i = true ∧ ((i : Nat) : Int) ≠ but then addS p a else p by simp only [inA, hp, ha])
      rw [hp] at hF hbd
      obtain ⟨h1, h2⟩ := hcl
      clear hp ha
      have HX := Lib.hid (And.intro h1 h2)
      go_wp2_with fail
      refine (rhas_c s i _ hs8 (by omega) (by omega)).mono ?_
      rintro e w2 ⟨rfl, hg2⟩
      have F12 : Bun w [rsl spEnc 2 (w.heap.size + 3) w1.heap.size (.slice (some ⟨z, oz, none⟩) (b.accs.length + b.accs.length + b.mvs.length) cz) (spansL b), rbox (w.heap.size + 2) 40 #[.int .i64 (p).lo, .int .i64 (p).hi], rbox (w.heap.size + 1) 40 #[.int .i64 0, .int .i64 0], rbox w.heap.size 25 #[.slice (some ⟨x, ox, none⟩) b.accs.length c, .slice a' b.mvs.length c'], rbook lo hi (.slice (some ⟨x, ox, none⟩) b.accs.length c) (.slice a' b.mvs.length c') b] w2 := hF.gn hg2
      clear hF
      have q1 := gbc hg2 (by simp) HX.out.1
      have q2 := gbc hg2 (by simp) HX.out.2
      clear hg2 h1 h2
      generalize hq : bitOf s i = q at HN ⊢
      clear hq
      cases q
      · skip
        go_wp2_with fail
        exact ⟨rfl, Lib.hid ⟨i + 1, rfl, rfl, rfl, rfl, rfl, rfl, rfl, (by show Value.int .i64 ((i : Int) + 1) = _; simp), by omega, (by simp), (by rw [HN.out, if_neg (by simp)]; exact F12)⟩, by simp [slot, intOf]; omega⟩
      · skip
        by_cases hk : (i : Int) = but
        · have e1 : ((i : Int) != but) = false := by simp [hk]
          have HK := Lib.hid hk
          clear hk
          go_wp2_with fail
          exact ⟨rfl, Lib.hid ⟨i + 1, rfl, rfl, rfl, rfl, rfl, rfl, rfl, (by show Value.int .i64 ((i : Int) + 1) = _; simp), by omega, (by simp), (by rw [HN.out, if_neg (fun h => h.2 (by have := HK.out; omega))]; exact F12)⟩, by simp [slot, intOf]; omega⟩
        · have e1 : ((i : Int) != but) = true := by simpa using hk
          have HK := Lib.hid hk
          clear hk
          have b13 : Bk _ (w.heap.size + 2) 40 #[.int .i64 (p).lo, .int .i64 (p).hi] := F12.at 1 rfl
          have l14 := b13.lt
          have q15 : World.cell? _ ⟨(w.heap.size + 2), 0, none⟩ = some (.int .i64 (p).lo) := b13.cell 0
          have z16 := b13.frozen 0
          have q17 : World.cell? _ ⟨(w.heap.size + 2), 1, none⟩ = some (.int .i64 (p).hi) := b13.cell 1
          have z18 := b13.frozen 1
          have b19 : Bk _ w.heap.size 25 #[.slice (some ⟨x, ox, none⟩) b.accs.length c, .slice a' b.mvs.length c'] := F12.at 3 rfl
          have l20 := b19.lt
          have q21 : World.cell? _ ⟨w.heap.size, 0, none⟩ = some (.slice (some ⟨x, ox, none⟩) b.accs.length c) := b19.cell 0
          have z22 := b19.frozen 0
          have q23 : World.cell? _ ⟨w.heap.size, 1, none⟩ = some (.slice a' b.mvs.length c') := b19.cell 1
          have z24 := b19.frozen 1
          go_wp2_with fail
          go_region
          clear b13 l14 q15 z16 q17 z18 b19 l20 q21 z22 q23 z24
          go_wp2_with fail
          have G : Bun w [rbox (w.heap.size + 2) 40 #[.int .i64 (addS p a).lo, .int .i64 (addS p a).hi], rsl spEnc 2 (w.heap.size + 3) w1.heap.size (.slice (some ⟨z, oz, none⟩) (b.accs.length + b.accs.length + b.mvs.length) cz) (spansL b), rbox (w.heap.size + 1) 40 #[.int .i64 0, .int .i64 0], rbox w.heap.size 25 #[.slice (some ⟨x, ox, none⟩) b.accs.length c, .slice a' b.mvs.length c'], rbook lo hi (.slice (some ⟨x, ox, none⟩) b.accs.length c) (.slice a' b.mvs.length c') b] _ := (((F12.front 1 rfl rfl).set 0 (.int .i64 (p.lo + a.lo))).set 1 (.int .i64 (p.hi + a.hi))).drew
          have G2 : Bun w [rsl spEnc 2 (w.heap.size + 3) w1.heap.size (.slice (some ⟨z, oz, none⟩) (b.accs.length + b.accs.length + b.mvs.length) cz) (spansL b), rbox (w.heap.size + 2) 40 #[.int .i64 (addS p a).lo, .int .i64 (addS p a).hi], rbox (w.heap.size + 1) 40 #[.int .i64 0, .int .i64 0], rbox w.heap.size 25 #[.slice (some ⟨x, ox, none⟩) b.accs.length c, .slice a' b.mvs.length c'], rbook lo hi (.slice (some ⟨x, ox, none⟩) b.accs.length c) (.slice a' b.mvs.length c') b] _ := G.perm (List.perm_middle (l₁ := [rsl spEnc 2 (w.heap.size + 3) w1.heap.size (.slice (some ⟨z, oz, none⟩) (b.accs.length + b.accs.length + b.mvs.length) cz) (spansL b)]) (l₂ := [rbox (w.heap.size + 1) 40 #[.int .i64 0, .int .i64 0], rbox w.heap.size 25 #[.slice (some ⟨x, ox, none⟩) b.accs.length c, .slice a' b.mvs.length c'], rbook lo hi (.slice (some ⟨x, ox, none⟩) b.accs.length c) (.slice a' b.mvs.length c') b])).symm
          exact ⟨rfl, Lib.hid ⟨i + 1, rfl, rfl, rfl, rfl, rfl, rfl, rfl, (by show Value.int .i64 ((i : Int) + 1) = _; simp), by omega, (by simp), (by rw [HN.out, if_pos (⟨by simp, by have := HK.out; omega⟩)]; exact G2)⟩, by simp [slot, intOf]; omega⟩
    · obtain rfl : i = b.accs.length := by omega
      go_wp2_with fail
      refine wp_loopS 101 rfl (fun t ds wr => Hid (∃ (i : Nat), t 1 = .int .i64 s ∧ t 2 = .int .i64 but ∧ t 3 = .pointer (some ⟨w.heap.size, 0, none⟩) ∧ t 6 = .pointer (some ⟨(w.heap.size + 1), 0, none⟩) ∧ t 7 = .pointer (some ⟨(w.heap.size + 2), 0, none⟩) ∧ t 8 = .int .i64 b.accs.length ∧ t 9 = .slice (some ⟨z, oz, none⟩) (b.accs.length + b.accs.length + b.mvs.length) cz ∧ t 11 = .int .i64 i ∧ i ≤ b.mvs.length ∧ ds = [] ∧ Bun w [rsl spEnc 2 (w.heap.size + 3) w1.heap.size (.slice (some ⟨z, oz, none⟩) (b.accs.length + b.accs.length + b.mvs.length) cz) (spansL b), rbox (w.heap.size + 2) 40 #[.int .i64 (inM b s but i).lo, .int .i64 (inM b s but i).hi], rbox (w.heap.size + 1) 40 #[.int .i64 0, .int .i64 0], rbox w.heap.size 25 #[.slice (some ⟨x, ox, none⟩) b.accs.length c, .slice a' b.mvs.length c'], rbook lo hi (.slice (some ⟨x, ox, none⟩) b.accs.length c) (.slice a' b.mvs.length c') b] wr)) (fun t wr => b.mvs.length - (intOf (t 11)).toNat) ?atStart2 ?round2
      case round2 =>
        intro t ds wr hHid
        obtain ⟨i, e1, e2, e3, e6, e7, e8, e9, e11, hrel⟩ := hHid.out
        clear hHid
        have e : ((List.range 101).map t).toArray = #[t 0, t 1, t 2, t 3, t 4, t 5, t 6, t 7, t 8, t 9, t 10, t 11, t 12, t 13, t 14, t 15, t 16, t 17, t 18, t 19, t 20, t 21, t 22, t 23, t 24, t 25, t 26, t 27, t 28, t 29, t 30, t 31, t 32, t 33, t 34, t 35, t 36, t 37, t 38, t 39, t 40, t 41, t 42, t 43, t 44, t 45, t 46, t 47, t 48, t 49, t 50, t 51, t 52, t 53, t 54, t 55, t 56, t 57, t 58, t 59, t 60, t 61, t 62, t 63, t 64, t 65, t 66, t 67, t 68, t 69, t 70, t 71, t 72, t 73, t 74, t 75, t 76, t 77, t 78, t 79, t 80, t 81, t 82, t 83, t 84, t 85, t 86, t 87, t 88, t 89, t 90, t 91, t 92, t 93, t 94, t 95, t 96, t 97, t 98, t 99, t 100] := rfl
        (try dsimp only at e)
        rw [e1, e2, e3, e6, e7, e8, e9, e11] at e
        rw [e]
        simp only [e1, e11]
        clear e e1 e2 e3 e6 e7 e8 e9 e11
        clear hF
        obtain ⟨hi_, rfl, hF⟩ := hrel
        by_cases hlt : i < b.mvs.length
        · skip
          have hbd := inM_bd HOK.out s but i hi_
          obtain ⟨p, hp⟩ : ∃ p, inM b s but i = p := ⟨_, rfl⟩
          obtain ⟨y, oy, rfl, -⟩ := HasB.valM (hF.at 4 rfl : HasB lo hi _ (.slice (some ⟨x, ox, none⟩) b.accs.length c) (.slice a' b.mvs.length c') b) (by omega)
          have hcl := Sps.cell2 (hF.at 0 rfl : Sl spEnc 2 (w.heap.size + 3) w1.heap.size _ (.slice (some ⟨z, oz, none⟩) (b.accs.length + b.accs.length + b.mvs.length) cz) (spansL b)) (i := 2 * b.accs.length + i) (by rw [hsl]; omega)
          rw [spansL_li hlt] at hcl
          have hmv := HOK.out.mv i hlt
          have hac := hmv.li
          have hfr := hmv.fr
          have hto := hmv.to
          obtain ⟨f1, f2, _, _⟩ := HasB.mov (hF.at 4 rfl : HasB lo hi _ (.slice (some ⟨x, ox, none⟩) b.accs.length c) (.slice (some ⟨y, oy, none⟩) b.mvs.length c') b) hlt
          obtain ⟨a, ha⟩ : ∃ a, (gm b.mvs i).li = a := ⟨_, rfl⟩
          rw [ha] at hcl hac
          have HN := Lib.hid (show inM b s but (i + 1) = if bitOf s (gm b.mvs i).to = true ∧ bitOf s (gm b.mvs i).fr = false ∧ ((2 * b.accs.length + i : Nat) : Int) ≠ but then addS p a else p by simp only [inM, hp, ha])
          rw [hp] at hF hbd
          obtain ⟨h1, h2⟩ := hcl
          clear hp ha
          clear hmv
          generalize (gm b.mvs i).fr = zf at *
          generalize (gm b.mvs i).to = zt at *
          have HX := Lib.hid (And.intro h1 h2)
          have HF := Lib.hid (And.intro f1 f2)
          have b25 : Bk _ w.heap.size 25 #[.slice (some ⟨x, ox, none⟩) b.accs.length c, .slice (some ⟨y, oy, none⟩) b.mvs.length c'] := hF.at 3 rfl
          have l26 := b25.lt
          have q27 : World.cell? _ ⟨w.heap.size, 0, none⟩ = some (.slice (some ⟨x, ox, none⟩) b.accs.length c) := b25.cell 0
          have z28 := b25.frozen 0
          have q29 : World.cell? _ ⟨w.heap.size, 1, none⟩ = some (.slice (some ⟨y, oy, none⟩) b.mvs.length c') := b25.cell 1
          have z30 := b25.frozen 1
          go_wp2_with fail
          refine (rhas_c s zt _ hs8 (by omega) (by omega)).mono ?_
          rintro e w2 ⟨rfl, hg2⟩
          clear b25 l26 q27 z28 q29 z30
          have F31 : Bun w [rsl spEnc 2 (w.heap.size + 3) w1.heap.size (.slice (some ⟨z, oz, none⟩) (b.accs.length + b.accs.length + b.mvs.length) cz) (spansL b), rbox (w.heap.size + 2) 40 #[.int .i64 (p).lo, .int .i64 (p).hi], rbox (w.heap.size + 1) 40 #[.int .i64 0, .int .i64 0], rbox w.heap.size 25 #[.slice (some ⟨x, ox, none⟩) b.accs.length c, .slice (some ⟨y, oy, none⟩) b.mvs.length c'], rbook lo hi (.slice (some ⟨x, ox, none⟩) b.accs.length c) (.slice (some ⟨y, oy, none⟩) b.mvs.length c') b] w2 := hF.gn hg2
          clear hF
          have q1 := gbc hg2 (by simp) HX.out.1
          have q2 := gbc hg2 (by simp) HX.out.2
          have q3 := gbc hg2 (by simp) HF.out.1
          have q4 := gbc hg2 (by simp) HF.out.2
          clear hg2 h1 h2 f1 f2
          generalize hq : bitOf s zt = q at HN ⊢
          clear hq
          cases q
          · skip
            have b32 : Bk _ w.heap.size 25 #[.slice (some ⟨x, ox, none⟩) b.accs.length c, .slice (some ⟨y, oy, none⟩) b.mvs.length c'] := F31.at 3 rfl
            have l33 := b32.lt
            have q34 : World.cell? _ ⟨w.heap.size, 0, none⟩ = some (.slice (some ⟨x, ox, none⟩) b.accs.length c) := b32.cell 0
            have z35 := b32.frozen 0
            have q36 : World.cell? _ ⟨w.heap.size, 1, none⟩ = some (.slice (some ⟨y, oy, none⟩) b.mvs.length c') := b32.cell 1
            have z37 := b32.frozen 1
            go_wp2_with fail
            exact ⟨rfl, Lib.hid ⟨i + 1, rfl, rfl, rfl, rfl, rfl, rfl, rfl, (by show Value.int .i64 ((i : Int) + 1) = _; simp), by omega, (by simp), (by rw [HN.out, if_neg (by simp)]; exact F31)⟩, by simp [slot, intOf]; omega⟩
          · skip
            have b38 : Bk _ w.heap.size 25 #[.slice (some ⟨x, ox, none⟩) b.accs.length c, .slice (some ⟨y, oy, none⟩) b.mvs.length c'] := F31.at 3 rfl
            have l39 := b38.lt
            have q40 : World.cell? _ ⟨w.heap.size, 0, none⟩ = some (.slice (some ⟨x, ox, none⟩) b.accs.length c) := b38.cell 0
            have z41 := b38.frozen 0
            have q42 : World.cell? _ ⟨w.heap.size, 1, none⟩ = some (.slice (some ⟨y, oy, none⟩) b.mvs.length c') := b38.cell 1
            have z43 := b38.frozen 1
            go_wp2_with fail
            refine (rhas_c s zf _ hs8 (by omega) (by omega)).mono ?_
            rintro e w3 ⟨rfl, hg3⟩
            clear b38 l39 q40 z41 q42 z43
            have F44 : Bun w [rsl spEnc 2 (w.heap.size + 3) w1.heap.size (.slice (some ⟨z, oz, none⟩) (b.accs.length + b.accs.length + b.mvs.length) cz) (spansL b), rbox (w.heap.size + 2) 40 #[.int .i64 (p).lo, .int .i64 (p).hi], rbox (w.heap.size + 1) 40 #[.int .i64 0, .int .i64 0], rbox w.heap.size 25 #[.slice (some ⟨x, ox, none⟩) b.accs.length c, .slice (some ⟨y, oy, none⟩) b.mvs.length c'], rbook lo hi (.slice (some ⟨x, ox, none⟩) b.accs.length c) (.slice (some ⟨y, oy, none⟩) b.mvs.length c') b] w3 := F31.gn hg3
            clear F31
            replace q1 := gbc hg3 (by simp) q1
            replace q2 := gbc hg3 (by simp) q2
            clear hg3 q3 q4
            generalize hq : bitOf s zf = q at HN ⊢
            clear hq
            cases q
            · skip
              by_cases hk : (2 * (b.accs.length : Int) + i) = but
              · have e1 : ((2 * (b.accs.length : Int) + i) != but) = false := by simp [hk]
                have HK := Lib.hid hk
                clear hk
                go_wp2_with fail
                exact ⟨rfl, Lib.hid ⟨i + 1, rfl, rfl, rfl, rfl, rfl, rfl, rfl, (by show Value.int .i64 ((i : Int) + 1) = _; simp), by omega, (by simp), (by rw [HN.out, if_neg (fun h => h.2.2 (by have := HK.out; omega))]; exact F44)⟩, by simp [slot, intOf]; omega⟩
              · have e1 : ((2 * (b.accs.length : Int) + i) != but) = true := by simpa using hk
                have HK := Lib.hid hk
                clear hk
                have b45 : Bk _ (w.heap.size + 2) 40 #[.int .i64 (p).lo, .int .i64 (p).hi] := F44.at 1 rfl
                have l46 := b45.lt
                have q47 : World.cell? _ ⟨(w.heap.size + 2), 0, none⟩ = some (.int .i64 (p).lo) := b45.cell 0
                have z48 := b45.frozen 0
                have q49 : World.cell? _ ⟨(w.heap.size + 2), 1, none⟩ = some (.int .i64 (p).hi) := b45.cell 1
                have z50 := b45.frozen 1
                have b51 : Bk _ w.heap.size 25 #[.slice (some ⟨x, ox, none⟩) b.accs.length c, .slice (some ⟨y, oy, none⟩) b.mvs.length c'] := F44.at 3 rfl
                have l52 := b51.lt
                have q53 : World.cell? _ ⟨w.heap.size, 0, none⟩ = some (.slice (some ⟨x, ox, none⟩) b.accs.length c) := b51.cell 0
                have z54 := b51.frozen 0
                have q55 : World.cell? _ ⟨w.heap.size, 1, none⟩ = some (.slice (some ⟨y, oy, none⟩) b.mvs.length c') := b51.cell 1
                have z56 := b51.frozen 1
                go_wp2_with fail
                go_region
                clear b45 l46 q47 z48 q49 z50 b51 l52 q53 z54 q55 z56
                go_wp2_with fail
                have G : Bun w [rbox (w.heap.size + 2) 40 #[.int .i64 (addS p a).lo, .int .i64 (addS p a).hi], rsl spEnc 2 (w.heap.size + 3) w1.heap.size (.slice (some ⟨z, oz, none⟩) (b.accs.length + b.accs.length + b.mvs.length) cz) (spansL b), rbox (w.heap.size + 1) 40 #[.int .i64 0, .int .i64 0], rbox w.heap.size 25 #[.slice (some ⟨x, ox, none⟩) b.accs.length c, .slice (some ⟨y, oy, none⟩) b.mvs.length c'], rbook lo hi (.slice (some ⟨x, ox, none⟩) b.accs.length c) (.slice (some ⟨y, oy, none⟩) b.mvs.length c') b] _ := (((F44.front 1 rfl rfl).set 0 (.int .i64 (p.lo + a.lo))).set 1 (.int .i64 (p.hi + a.hi))).drew
                have G2 : Bun w [rsl spEnc 2 (w.heap.size + 3) w1.heap.size (.slice (some ⟨z, oz, none⟩) (b.accs.length + b.accs.length + b.mvs.length) cz) (spansL b), rbox (w.heap.size + 2) 40 #[.int .i64 (addS p a).lo, .int .i64 (addS p a).hi], rbox (w.heap.size + 1) 40 #[.int .i64 0, .int .i64 0], rbox w.heap.size 25 #[.slice (some ⟨x, ox, none⟩) b.accs.length c, .slice (some ⟨y, oy, none⟩) b.mvs.length c'], rbook lo hi (.slice (some ⟨x, ox, none⟩) b.accs.length c) (.slice (some ⟨y, oy, none⟩) b.mvs.length c') b] _ := G.perm (List.perm_middle (l₁ := [rsl spEnc 2 (w.heap.size + 3) w1.heap.size (.slice (some ⟨z, oz, none⟩) (b.accs.length + b.accs.length + b.mvs.length) cz) (spansL b)]) (l₂ := [rbox (w.heap.size + 1) 40 #[.int .i64 0, .int .i64 0], rbox w.heap.size 25 #[.slice (some ⟨x, ox, none⟩) b.accs.length c, .slice (some ⟨y, oy, none⟩) b.mvs.length c'], rbook lo hi (.slice (some ⟨x, ox, none⟩) b.accs.length c) (.slice (some ⟨y, oy, none⟩) b.mvs.length c') b])).symm
                exact ⟨rfl, Lib.hid ⟨i + 1, rfl, rfl, rfl, rfl, rfl, rfl, rfl, (by show Value.int .i64 ((i : Int) + 1) = _; simp), by omega, (by simp), (by rw [HN.out, if_pos (⟨by simp, by simp, by have := HK.out; omega⟩)]; exact G2)⟩, by simp [slot, intOf]; omega⟩
            · skip
              go_wp2_with fail
              exact ⟨rfl, Lib.hid ⟨i + 1, rfl, rfl, rfl, rfl, rfl, rfl, rfl, (by show Value.int .i64 ((i : Int) + 1) = _; simp), by omega, (by simp), (by rw [HN.out, if_neg (by simp)]; exact F44)⟩, by simp [slot, intOf]; omega⟩
        · obtain rfl : i = b.mvs.length := by omega
          have b57 : Bk _ (w.heap.size + 2) 40 #[.int .i64 (inM b s but b.mvs.length).lo, .int .i64 (inM b s but b.mvs.length).hi] := hF.at 1 rfl
          have l58 := b57.lt
          have q59 : World.cell? _ ⟨(w.heap.size + 2), 0, none⟩ = some (.int .i64 (inM b s but b.mvs.length).lo) := b57.cell 0
          have z60 := b57.frozen 0
          have q61 : World.cell? _ ⟨(w.heap.size + 2), 1, none⟩ = some (.int .i64 (inM b s but b.mvs.length).hi) := b57.cell 1
          have z62 := b57.frozen 1
          have b63 : Bk _ (w.heap.size + 1) 40 #[.int .i64 0, .int .i64 0] := hF.at 2 rfl
          have l64 := b63.lt
          have q65 : World.cell? _ ⟨(w.heap.size + 1), 0, none⟩ = some (.int .i64 0) := b63.cell 0
          have z66 := b63.frozen 0
          have q67 : World.cell? _ ⟨(w.heap.size + 1), 1, none⟩ = some (.int .i64 0) := b63.cell 1
          have z68 := b63.frozen 1
          have b69 : Bk _ w.heap.size 25 #[.slice (some ⟨x, ox, none⟩) b.accs.length c, .slice a' b.mvs.length c'] := hF.at 3 rfl
          have l70 := b69.lt
          have q71 : World.cell? _ ⟨w.heap.size, 0, none⟩ = some (.slice (some ⟨x, ox, none⟩) b.accs.length c) := b69.cell 0
          have z72 := b69.frozen 0
          have q73 : World.cell? _ ⟨w.heap.size, 1, none⟩ = some (.slice a' b.mvs.length c') := b69.cell 1
          have z74 := b69.frozen 1
          go_wp2_with fail
          clear b57 l58 q59 z60 q61 z62 b63 l64 q65 z66 q67 z68 b69 l70 q71 z72 q73 z74
          have G : Bun w [rbox (w.heap.size + 1) 40 #[.int .i64 (inM b s but b.mvs.length).lo, .int .i64 (inM b s but b.mvs.length).hi], rsl spEnc 2 (w.heap.size + 3) w1.heap.size (.slice (some ⟨z, oz, none⟩) (b.accs.length + b.accs.length + b.mvs.length) cz) (spansL b), rbox (w.heap.size + 2) 40 #[.int .i64 (inM b s but b.mvs.length).lo, .int .i64 (inM b s but b.mvs.length).hi], rbox w.heap.size 25 #[.slice (some ⟨x, ox, none⟩) b.accs.length c, .slice a' b.mvs.length c'], rbook lo hi (.slice (some ⟨x, ox, none⟩) b.accs.length c) (.slice a' b.mvs.length c') b] _ := ((hF.front 2 rfl rfl).set 0 (.int .i64 (inM b s but b.mvs.length).lo)).set 1 (.int .i64 (inM b s but b.mvs.length).hi)
          have gb : Bk _ (w.heap.size + 1) 40 #[.int .i64 (inM b s but b.mvs.length).lo, .int .i64 (inM b s but b.mvs.length).hi] := G.at 0 rfl
          have gc := gb.c2
          exact bodyPost_ret (v := (inM b s but b.mvs.length).v) (by simp [results, Try.results101, go_sem, Sp.v, gc]) rfl ⟨rfl, G.gb⟩
      case atStart2 =>
        exact Lib.hid ⟨0, rfl, rfl, rfl, rfl, rfl, rfl, rfl, rfl, Nat.zero_le _, rfl, hF⟩
  case atStart1 =>
    exact Lib.hid ⟨0, rfl, rfl, rfl, rfl, rfl, rfl, rfl, rfl, Nat.zero_le _, rfl, F11⟩
end Go.Proofs.Ytfifldbinnkdmaa
