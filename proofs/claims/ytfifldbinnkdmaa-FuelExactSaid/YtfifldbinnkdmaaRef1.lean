/- The reference's cuts: spans, sets, accounts that may lose. -/
import Derived.Test.YtfifldbinnkdmaaHasB
import Derived.Test.YtfifldbinnkdmaaMarks
import Derived.Deep.QuietTactic
import Derived.BigQuiet
set_option linter.unusedVariables false
set_option linter.unusedSimpArgs false
set_option linter.unnecessarySimpa false
namespace Go.Proofs.Ytfifldbinnkdmaa
open Go.RowKit Go.Shelf
set_option maxRecDepth 100000

def spansA (f : Acc → Sp) (l : List Acc) (i : Nat) : List Sp := (l.take i).map f
theorem spansA_succ {f : Acc → Sp} {l : List Acc} {i : Nat} (h : i < l.length) : spansA f l (i + 1) = spansA f l i ++ [f (ga l i)] := by
  unfold spansA
  rw [List.take_add_one, List.getElem?_eq_getElem h, ga_get h, List.map_append]
  rfl
def spansM (l : List Mv) (i : Nat) : List Sp := (l.take i).map (·.li)
theorem spansM_succ {l : List Mv} {i : Nat} (h : i < l.length) : spansM l (i + 1) = spansM l i ++ [(gm l i).li] := by
  unfold spansM
  rw [List.take_add_one, List.getElem?_eq_getElem h, gm_get h, List.map_append]
  rfl
theorem spansA_len {f : Acc → Sp} {l : List Acc} {i : Nat} (h : i ≤ l.length) : (spansA f l i).length = i := by simp [spansA]; omega
theorem spansM_len {l : List Mv} {i : Nat} (h : i ≤ l.length) : (spansM l i).length = i := by simp [spansM]; omega
def spansL (b : Bok) : List Sp := spansA (·.op) b.accs b.accs.length ++ spansA (·.cl) b.accs b.accs.length ++ spansM b.mvs b.mvs.length

/-- A bit of a set. -/
theorem rhas_c (i : Nat) (k : Int) (w : World) (hi : i < 256) (hk : 0 ≤ k) (hk' : k < 8) :
    Calls Try.prog 100 #[.int .i64 i, .int .i64 k] w (Ret (.bool (bitOf i k)) w) := by
  obtain ⟨n, rfl⟩ := Int.eq_ofNat_of_zero_le hk
  have hb := has_bit i n hi
  have hn : n < 8 := by omega
  go_enter Try.func100, Try.ntmps100
  go_wp2_with fail
  go_ret
  refine ⟨?_, gb_refl _ _⟩
  simp only [bitOf, Int.toNat_natCast]
  rw [← hb]
  rfl
theorem rsets_c (lo hi : Nat) (va vm : Value) (b : Bok) (w : World) (hb : HasB lo hi w va vm b) (h8 : b.accs.length ≤ 8) :
    Calls Try.prog 99 #[.agg #[va, vm]] w (Ret (.int .i64 (2 ^ b.accs.length : Nat)) w) := by
  obtain ⟨a, c, a', c', rfl, rfl⟩ := hb.vals
  have key : ∀ n : Nat, n ≤ 8 → wrap64 (2 ^ n) = ((2 ^ n : Nat) : Int) := by decide +kernel
  have hk := key _ h8
  clear hb
  generalize b.accs.length = n at *
  go_enter Try.func99, Try.ntmps99
  go_wp2_with fail
  go_ret
  exact ⟨ret_int hk, gb_alloc (gb_refl _ _) _⟩

set_option maxHeartbeats 2000000 in
theorem rspans_c (lo hi : Nat) (va vm : Value) (b : Bok) (w : World) (hb : HasB lo hi w va vm b) (hok : BokOk b) (h2 : hi ≤ w.heap.size) :
    Calls Try.prog 84 #[.agg #[va, vm]] w (fun e w' => ∃ v, e = .returned v ∧ Sps w.heap.size w'.heap.size w' v (spansL b) ∧ w.grownBy w' none) := by
  obtain ⟨x, ox, c, a', c', rfl, rfl⟩ := hb.valA hok.n0
  have hn8 := hok.n8
  have hm31 := hok.m30
  have F1 : Bun w [rbook lo hi (.slice (some ⟨x, ox, none⟩) b.accs.length c) (.slice a' b.mvs.length c') b] _ := Bun.book hb h2
  clear hb
  go_enter Try.func84, Try.ntmps84
  have F2 : Bun w [rbox w.heap.size 25 #[.slice (some ⟨x, ox, none⟩) b.accs.length c, .slice a' b.mvs.length c'], rbook lo hi (.slice (some ⟨x, ox, none⟩) b.accs.length c) (.slice a' b.mvs.length c') b] _ := F1.new 25 #[.slice (some ⟨x, ox, none⟩) b.accs.length c, .slice a' b.mvs.length c'] (n := w.heap.size) (by simp)
  clear F1
  have F3 : Bun w [rown spEnc 40 2 w.heap.size (.slice none 0 0) [], rbox w.heap.size 25 #[.slice (some ⟨x, ox, none⟩) b.accs.length c, .slice a' b.mvs.length c'], rbook lo hi (.slice (some ⟨x, ox, none⟩) b.accs.length c) (.slice a' b.mvs.length c') b] _ := F2.add (rown spEnc 40 2 w.heap.size (.slice none 0 0) []) (gb_refl _ _) (Own.nil _ _ _ _ _) (fun g e => by simp [rown, Value.ownBlock] at e)
  clear F2
  go_wp2_with fail
  refine wp_loopS 56 rfl (fun t ds wr => Hid (∃ (i : Nat) (v : Value), t 1 = .pointer (some ⟨w.heap.size, 0, none⟩) ∧ t 3 = v ∧ t 4 = .int .i64 i ∧ i ≤ b.accs.length ∧ ds = [] ∧ w.heap.size < wr.heap.size ∧ Bun w [rown spEnc 40 2 w.heap.size v (spansA (·.op) b.accs i), rbox w.heap.size 25 #[.slice (some ⟨x, ox, none⟩) b.accs.length c, .slice a' b.mvs.length c'], rbook lo hi (.slice (some ⟨x, ox, none⟩) b.accs.length c) (.slice a' b.mvs.length c') b] wr)) (fun t wr => b.accs.length - (intOf (t 4)).toNat) ?atStart1 ?round1
  case round1 =>
    intro t ds wr hHid
    obtain ⟨i, v, e1, e3, e4, hrel⟩ := hHid.out
    clear hHid
    have e : ((List.range 56).map t).toArray = #[t 0, t 1, t 2, t 3, t 4, t 5, t 6, t 7, t 8, t 9, t 10, t 11, t 12, t 13, t 14, t 15, t 16, t 17, t 18, t 19, t 20, t 21, t 22, t 23, t 24, t 25, t 26, t 27, t 28, t 29, t 30, t 31, t 32, t 33, t 34, t 35, t 36, t 37, t 38, t 39, t 40, t 41, t 42, t 43, t 44, t 45, t 46, t 47, t 48, t 49, t 50, t 51, t 52, t 53, t 54, t 55] := rfl
    (try dsimp only at e)
    rw [e1, e3, e4] at e
    rw [e]
    simp only [e4]
    clear e e1 e3 e4
    clear F3
    obtain ⟨hi_, rfl, hws, hF⟩ := hrel
    by_cases hlt : i < b.accs.length
    · have hlen : (spansA (·.op) b.accs i).length = 0 + i := by rw [spansA_len hi_, Nat.zero_add]
      obtain ⟨_, _, g1, g2, g3, g4⟩ := HasB.acc (hF.at 2 rfl : HasB lo hi _ (.slice (some ⟨x, ox, none⟩) b.accs.length c) (.slice a' b.mvs.length c') b) hlt
      generalize hz : ga b.accs i = z at g1 g2 g3 g4
      have HZ := Lib.hid hz
      have HL := Lib.hid hlen
      clear hz hlen
      have b4 : Bk _ w.heap.size 25 #[.slice (some ⟨x, ox, none⟩) b.accs.length c, .slice a' b.mvs.length c'] := hF.at 1 rfl
      have l5 := b4.lt
      have q6 : World.cell? _ ⟨w.heap.size, 0, none⟩ = some (.slice (some ⟨x, ox, none⟩) b.accs.length c) := b4.cell 0
      have z7 := b4.frozen 0
      have q8 : World.cell? _ ⟨w.heap.size, 1, none⟩ = some (.slice a' b.mvs.length c') := b4.cell 1
      have z9 := b4.frozen 1
      go_wp2_with (at_builtin; refine wpList_app _ okSp rfl _ _ rfl w.heap.size v (spansA (·.op) b.accs i) [(z.op : Sp)] rfl (by exact ((hF.at 0 rfl : Own spEnc 40 2 w.heap.size _ v (spansA (·.op) b.accs i))).alloc _) ⟨_, 0, none⟩ 1 1 rfl rfl (by decide) (news_of (Bk.newAt _ _ _ (by simp))) (i + 1) (by have := HL.out; omega) (by omega) (by first | omega | (simp; omega)) _ rfl ?_; intro g11 cap12 w10 hp13)
      have hp13s := hp13.gb.size
      (try simp at hp13s)
      clear b4 l5 q6 z7 q8 z9
      have F14 : Bun w [rown spEnc 40 2 w.heap.size (.slice (some ⟨g11, 0, none⟩) (i + 1) cap12) (spansA (·.op) b.accs i ++ [(z.op : Sp)]), rbox w.heap.size 25 #[.slice (some ⟨x, ox, none⟩) b.accs.length c, .slice a' b.mvs.length c'], rbook lo hi (.slice (some ⟨x, ox, none⟩) b.accs.length c) (.slice a' b.mvs.length c') b] w10 := ((hF.alloc (.cells #[.int .i64 z.op.lo, .int .i64 z.op.hi] 40)).front 0 rfl rfl).app hp13 (by simp)
      clear hF
      have F15 : Bun w [rown spEnc 40 2 w.heap.size (.slice (some ⟨g11, 0, none⟩) (i + 1) cap12) (spansA (·.op) b.accs (i + 1)), rbox w.heap.size 25 #[.slice (some ⟨x, ox, none⟩) b.accs.length c, .slice a' b.mvs.length c'], rbook lo hi (.slice (some ⟨x, ox, none⟩) b.accs.length c) (.slice a' b.mvs.length c') b] w10 := by rw [spansA_succ hlt, HZ.out]; exact F14
      clear F14
      go_wp2_with fail
      exact ⟨rfl, Lib.hid ⟨i + 1, _, rfl, rfl, (by show Value.int .i64 ((i : Int) + 1) = _; simp), by omega, (by simp), by omega, F15⟩, by simp [slot, intOf]; omega⟩
    · obtain rfl : i = b.accs.length := by omega
      have b16 : Bk _ w.heap.size 25 #[.slice (some ⟨x, ox, none⟩) b.accs.length c, .slice a' b.mvs.length c'] := hF.at 1 rfl
      have l17 := b16.lt
      have q18 : World.cell? _ ⟨w.heap.size, 0, none⟩ = some (.slice (some ⟨x, ox, none⟩) b.accs.length c) := b16.cell 0
      have z19 := b16.frozen 0
      have q20 : World.cell? _ ⟨w.heap.size, 1, none⟩ = some (.slice a' b.mvs.length c') := b16.cell 1
      have z21 := b16.frozen 1
      go_wp2_with fail
      refine wp_loopS 56 rfl (fun t ds wr => Hid (∃ (i : Nat) (v : Value), t 1 = .pointer (some ⟨w.heap.size, 0, none⟩) ∧ t 3 = v ∧ t 5 = .int .i64 i ∧ i ≤ b.accs.length ∧ ds = [] ∧ w.heap.size < wr.heap.size ∧ Bun w [rown spEnc 40 2 w.heap.size v (spansA (·.op) b.accs b.accs.length ++ spansA (·.cl) b.accs i), rbox w.heap.size 25 #[.slice (some ⟨x, ox, none⟩) b.accs.length c, .slice a' b.mvs.length c'], rbook lo hi (.slice (some ⟨x, ox, none⟩) b.accs.length c) (.slice a' b.mvs.length c') b] wr)) (fun t wr => b.accs.length - (intOf (t 5)).toNat) ?atStart2 ?round2
      case round2 =>
        intro t ds wr hHid
        obtain ⟨i, v, e1, e3, e5, hrel⟩ := hHid.out
        clear hHid
        have e : ((List.range 56).map t).toArray = #[t 0, t 1, t 2, t 3, t 4, t 5, t 6, t 7, t 8, t 9, t 10, t 11, t 12, t 13, t 14, t 15, t 16, t 17, t 18, t 19, t 20, t 21, t 22, t 23, t 24, t 25, t 26, t 27, t 28, t 29, t 30, t 31, t 32, t 33, t 34, t 35, t 36, t 37, t 38, t 39, t 40, t 41, t 42, t 43, t 44, t 45, t 46, t 47, t 48, t 49, t 50, t 51, t 52, t 53, t 54, t 55] := rfl
        (try dsimp only at e)
        rw [e1, e3, e5] at e
        rw [e]
        simp only [e5]
        clear e e1 e3 e5
        clear hF
        obtain ⟨hi_, rfl, hws, hF⟩ := hrel
        by_cases hlt : i < b.accs.length
        · have hlen : (spansA (·.op) b.accs b.accs.length ++ spansA (·.cl) b.accs i).length = b.accs.length + i := by rw [List.length_append, spansA_len (Nat.le_refl _), spansA_len hi_]
          obtain ⟨_, _, g1, g2, g3, g4⟩ := HasB.acc (hF.at 2 rfl : HasB lo hi _ (.slice (some ⟨x, ox, none⟩) b.accs.length c) (.slice a' b.mvs.length c') b) hlt
          generalize hz : ga b.accs i = z at g1 g2 g3 g4
          have HZ := Lib.hid hz
          have HL := Lib.hid hlen
          clear hz hlen
          clear b16 l17 q18 z19 q20 z21
          have b22 : Bk _ w.heap.size 25 #[.slice (some ⟨x, ox, none⟩) b.accs.length c, .slice a' b.mvs.length c'] := hF.at 1 rfl
          have l23 := b22.lt
          have q24 : World.cell? _ ⟨w.heap.size, 0, none⟩ = some (.slice (some ⟨x, ox, none⟩) b.accs.length c) := b22.cell 0
          have z25 := b22.frozen 0
          have q26 : World.cell? _ ⟨w.heap.size, 1, none⟩ = some (.slice a' b.mvs.length c') := b22.cell 1
          have z27 := b22.frozen 1
          go_wp2_with (at_builtin; refine wpList_app _ okSp rfl _ _ rfl w.heap.size v (spansA (·.op) b.accs b.accs.length ++ spansA (·.cl) b.accs i) [(z.cl : Sp)] rfl (by exact ((hF.at 0 rfl : Own spEnc 40 2 w.heap.size _ v (spansA (·.op) b.accs b.accs.length ++ spansA (·.cl) b.accs i))).alloc _) ⟨_, 0, none⟩ 1 1 rfl rfl (by decide) (news_of (Bk.newAt _ _ _ (by simp))) (b.accs.length + i + 1) (by have := HL.out; omega) (by omega) (by first | omega | (simp; omega)) _ rfl ?_; intro g29 cap30 w28 hp31)
          have hp31s := hp31.gb.size
          (try simp at hp31s)
          clear b22 l23 q24 z25 q26 z27
          have F32 : Bun w [rown spEnc 40 2 w.heap.size (.slice (some ⟨g29, 0, none⟩) (b.accs.length + i + 1) cap30) (spansA (·.op) b.accs b.accs.length ++ spansA (·.cl) b.accs i ++ [(z.cl : Sp)]), rbox w.heap.size 25 #[.slice (some ⟨x, ox, none⟩) b.accs.length c, .slice a' b.mvs.length c'], rbook lo hi (.slice (some ⟨x, ox, none⟩) b.accs.length c) (.slice a' b.mvs.length c') b] w28 := ((hF.alloc (.cells #[.int .i64 z.cl.lo, .int .i64 z.cl.hi] 40)).front 0 rfl rfl).app hp31 (by simp)
          clear hF
          have F33 : Bun w [rown spEnc 40 2 w.heap.size (.slice (some ⟨g29, 0, none⟩) (b.accs.length + i + 1) cap30) (spansA (·.op) b.accs b.accs.length ++ spansA (·.cl) b.accs (i + 1)), rbox w.heap.size 25 #[.slice (some ⟨x, ox, none⟩) b.accs.length c, .slice a' b.mvs.length c'], rbook lo hi (.slice (some ⟨x, ox, none⟩) b.accs.length c) (.slice a' b.mvs.length c') b] w28 := by rw [spansA_succ hlt, HZ.out, ← List.append_assoc]; exact F32
          clear F32
          go_wp2_with fail
          exact ⟨rfl, Lib.hid ⟨i + 1, _, rfl, rfl, (by show Value.int .i64 ((i : Int) + 1) = _; simp), by omega, (by simp), by omega, F33⟩, by simp [slot, intOf]; omega⟩
        · obtain rfl : i = b.accs.length := by omega
          have b34 : Bk _ w.heap.size 25 #[.slice (some ⟨x, ox, none⟩) b.accs.length c, .slice a' b.mvs.length c'] := hF.at 1 rfl
          have l35 := b34.lt
          have q36 : World.cell? _ ⟨w.heap.size, 0, none⟩ = some (.slice (some ⟨x, ox, none⟩) b.accs.length c) := b34.cell 0
          have z37 := b34.frozen 0
          have q38 : World.cell? _ ⟨w.heap.size, 1, none⟩ = some (.slice a' b.mvs.length c') := b34.cell 1
          have z39 := b34.frozen 1
          go_wp2_with fail
          refine wp_loopS 56 rfl (fun t ds wr => Hid (∃ (i : Nat) (v : Value), t 1 = .pointer (some ⟨w.heap.size, 0, none⟩) ∧ t 3 = v ∧ t 6 = .int .i64 i ∧ i ≤ b.mvs.length ∧ ds = [] ∧ w.heap.size < wr.heap.size ∧ Bun w [rown spEnc 40 2 w.heap.size v (spansA (·.op) b.accs b.accs.length ++ spansA (·.cl) b.accs b.accs.length ++ spansM b.mvs i), rbox w.heap.size 25 #[.slice (some ⟨x, ox, none⟩) b.accs.length c, .slice a' b.mvs.length c'], rbook lo hi (.slice (some ⟨x, ox, none⟩) b.accs.length c) (.slice a' b.mvs.length c') b] wr)) (fun t wr => b.mvs.length - (intOf (t 6)).toNat) ?atStart3 ?round3
          case round3 =>
            intro t ds wr hHid
            obtain ⟨i, v, e1, e3, e6, hrel⟩ := hHid.out
            clear hHid
            have e : ((List.range 56).map t).toArray = #[t 0, t 1, t 2, t 3, t 4, t 5, t 6, t 7, t 8, t 9, t 10, t 11, t 12, t 13, t 14, t 15, t 16, t 17, t 18, t 19, t 20, t 21, t 22, t 23, t 24, t 25, t 26, t 27, t 28, t 29, t 30, t 31, t 32, t 33, t 34, t 35, t 36, t 37, t 38, t 39, t 40, t 41, t 42, t 43, t 44, t 45, t 46, t 47, t 48, t 49, t 50, t 51, t 52, t 53, t 54, t 55] := rfl
            (try dsimp only at e)
            rw [e1, e3, e6] at e
            rw [e]
            simp only [e6]
            clear e e1 e3 e6
            clear hF
            obtain ⟨hi_, rfl, hws, hF⟩ := hrel
            by_cases hlt : i < b.mvs.length
            · have hlen : (spansA (·.op) b.accs b.accs.length ++ spansA (·.cl) b.accs b.accs.length ++ spansM b.mvs i).length = (b.accs.length + b.accs.length) + i := by rw [List.length_append, List.length_append, spansA_len (Nat.le_refl _), spansA_len (Nat.le_refl _), spansM_len hi_]
              obtain ⟨y, oy, rfl, -⟩ := HasB.valM (hF.at 2 rfl : HasB lo hi _ (.slice (some ⟨x, ox, none⟩) b.accs.length c) (.slice a' b.mvs.length c') b) (by omega)
              obtain ⟨_, _, g1, g2⟩ := HasB.mov (hF.at 2 rfl : HasB lo hi _ (.slice (some ⟨x, ox, none⟩) b.accs.length c) (.slice (some ⟨y, oy, none⟩) b.mvs.length c') b) hlt
              generalize hz : gm b.mvs i = z at g1 g2
              have HZ := Lib.hid hz
              have HL := Lib.hid hlen
              clear hz hlen
              clear b34 l35 q36 z37 q38 z39
              have b40 : Bk _ w.heap.size 25 #[.slice (some ⟨x, ox, none⟩) b.accs.length c, .slice (some ⟨y, oy, none⟩) b.mvs.length c'] := hF.at 1 rfl
              have l41 := b40.lt
              have q42 : World.cell? _ ⟨w.heap.size, 0, none⟩ = some (.slice (some ⟨x, ox, none⟩) b.accs.length c) := b40.cell 0
              have z43 := b40.frozen 0
              have q44 : World.cell? _ ⟨w.heap.size, 1, none⟩ = some (.slice (some ⟨y, oy, none⟩) b.mvs.length c') := b40.cell 1
              have z45 := b40.frozen 1
              go_wp2_with (at_builtin; refine wpList_app _ okSp rfl _ _ rfl w.heap.size v (spansA (·.op) b.accs b.accs.length ++ spansA (·.cl) b.accs b.accs.length ++ spansM b.mvs i) [(z.li : Sp)] rfl (by exact ((hF.at 0 rfl : Own spEnc 40 2 w.heap.size _ v (spansA (·.op) b.accs b.accs.length ++ spansA (·.cl) b.accs b.accs.length ++ spansM b.mvs i))).alloc _) ⟨_, 0, none⟩ 1 1 rfl rfl (by decide) (news_of (Bk.newAt _ _ _ (by simp))) ((b.accs.length + b.accs.length) + i + 1) (by have := HL.out; omega) (by omega) (by first | omega | (simp; omega)) _ rfl ?_; intro g47 cap48 w46 hp49)
              have hp49s := hp49.gb.size
              (try simp at hp49s)
              clear b40 l41 q42 z43 q44 z45
              have F50 : Bun w [rown spEnc 40 2 w.heap.size (.slice (some ⟨g47, 0, none⟩) ((b.accs.length + b.accs.length) + i + 1) cap48) (spansA (·.op) b.accs b.accs.length ++ spansA (·.cl) b.accs b.accs.length ++ spansM b.mvs i ++ [(z.li : Sp)]), rbox w.heap.size 25 #[.slice (some ⟨x, ox, none⟩) b.accs.length c, .slice (some ⟨y, oy, none⟩) b.mvs.length c'], rbook lo hi (.slice (some ⟨x, ox, none⟩) b.accs.length c) (.slice (some ⟨y, oy, none⟩) b.mvs.length c') b] w46 := ((hF.alloc (.cells #[.int .i64 z.li.lo, .int .i64 z.li.hi] 40)).front 0 rfl rfl).app hp49 (by simp)
              clear hF
              have F51 : Bun w [rown spEnc 40 2 w.heap.size (.slice (some ⟨g47, 0, none⟩) ((b.accs.length + b.accs.length) + i + 1) cap48) (spansA (·.op) b.accs b.accs.length ++ spansA (·.cl) b.accs b.accs.length ++ spansM b.mvs (i + 1)), rbox w.heap.size 25 #[.slice (some ⟨x, ox, none⟩) b.accs.length c, .slice (some ⟨y, oy, none⟩) b.mvs.length c'], rbook lo hi (.slice (some ⟨x, ox, none⟩) b.accs.length c) (.slice (some ⟨y, oy, none⟩) b.mvs.length c') b] w46 := by rw [spansM_succ hlt, HZ.out, ← List.append_assoc]; exact F50
              clear F50
              go_wp2_with fail
              exact ⟨rfl, Lib.hid ⟨i + 1, _, rfl, rfl, (by show Value.int .i64 ((i : Int) + 1) = _; simp), by omega, (by simp), by omega, F51⟩, by simp [slot, intOf]; omega⟩
            · obtain rfl : i = b.mvs.length := by omega
              have b52 : Bk _ w.heap.size 25 #[.slice (some ⟨x, ox, none⟩) b.accs.length c, .slice a' b.mvs.length c'] := hF.at 1 rfl
              have l53 := b52.lt
              have q54 : World.cell? _ ⟨w.heap.size, 0, none⟩ = some (.slice (some ⟨x, ox, none⟩) b.accs.length c) := b52.cell 0
              have z55 := b52.frozen 0
              have q56 : World.cell? _ ⟨w.heap.size, 1, none⟩ = some (.slice a' b.mvs.length c') := b52.cell 1
              have z57 := b52.frozen 1
              go_wp2_with fail
              go_ret
              exact ⟨_, rfl, Own.sl (hF.at 0 rfl : Own spEnc 40 2 w.heap.size _ v (spansA (·.op) b.accs b.accs.length ++ spansA (·.cl) b.accs b.accs.length ++ spansM b.mvs b.mvs.length)) (fun _ => rfl), hF.gb⟩
          case atStart3 =>
            exact Lib.hid ⟨0, v, rfl, rfl, rfl, Nat.zero_le _, rfl, hws, by simpa [spansM] using hF⟩
      case atStart2 =>
        exact Lib.hid ⟨0, v, rfl, rfl, rfl, Nat.zero_le _, rfl, hws, by simpa [spansA] using hF⟩
  case atStart1 =>
    exact Lib.hid ⟨0, .slice none 0 0, rfl, rfl, rfl, Nat.zero_le _, rfl, (by simp), by simpa [spansA] using F3⟩
end Go.Proofs.Ytfifldbinnkdmaa
