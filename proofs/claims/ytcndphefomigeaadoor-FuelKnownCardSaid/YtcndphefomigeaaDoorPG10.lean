/- The reference: the error of a book's accounts. -/
import Derived.Test.YtcndphefomigeaaDoorPFormed
import Derived.Deep.QuietTactic
import Derived.BigQuiet
import Derived.Test.YtcndphefomigeaaDoorPG5
import Derived.Test.YtcndphefomigeaaDoorPG7
import Derived.Test.YtcndphefomigeaaDoorPReg
import Derived.Test.YtcndphefomigeaaDoorPMarks
set_option linter.unusedVariables false
set_option linter.unusedSimpArgs false
set_option linter.unnecessarySimpa false
namespace Go.Proofs.YtcndphefomigeaaDoor
open Go.RowKit
set_option maxRecDepth 100000

end Go.Proofs.YtcndphefomigeaaDoor
/- The kit's copy of a book, whether two are equal; whether a book has more than the statements go through. -/
namespace Go.Proofs.YtcndphefomigeaaDoor
open Go.RowKit Go.Shelf
set_option maxRecDepth 100000

theorem infoAc : (Tryd.prog.info? 41).map (fun i => (i.zero, i.size, i.bytes)) = some (some (.agg #[.string ByteArray.empty, .int .i64 0, .int .i64 0, .int .i64 0, .int .i64 0, .int .i64 0]), 6, 56) := by kernel_rfl
theorem okAc : ElemOk Tryd.prog 35 41 6 56 accEnc where
  under := Tryd.underlying35
  info := info5 infoAc rfl
  pos := by omega
  small := by omega
  len := fun _ => rfl
  one := fun x u hu => by
    simp [accEnc] at hu
    rcases hu with rfl | rfl | rfl | rfl | rfl | rfl <;> rfl
theorem infoMv : (Tryd.prog.info? 43).map (fun i => (i.zero, i.size, i.bytes)) = some (some (.agg #[.int .i64 0, .int .i64 0, .int .i64 0, .int .i64 0]), 4, 32) := by kernel_rfl
theorem okMv : ElemOk Tryd.prog 36 43 4 32 mvEnc where
  under := Tryd.underlying36
  info := info5 infoMv rfl
  pos := by omega
  small := by omega
  len := fun _ => rfl
  one := fun x u hu => by
    simp [mvEnc] at hu
    rcases hu with rfl | rfl | rfl | rfl <;> rfl
end Go.Proofs.YtcndphefomigeaaDoor
/- Whether two books are equal; whether a book has more than the statements go through. -/
namespace Go.Proofs.YtcndphefomigeaaDoor
open Go.RowKit Go.Shelf
set_option maxRecDepth 100000
set_option maxHeartbeats 4000000 in
theorem sameBooks_c (lo hi lo' hi' : Nat) (va vm va' vm' : Value) (b : Bok) (w : World) (hb : HasB lo hi w va vm b) (hb' : HasB lo' hi' w va' vm' b) :
    Calls Tryd.prog 19 #[.agg #[va, vm], .agg #[va', vm']] w (Ret (.bool true) w) := by
  have hm1 := hb.1.len
  have hm2 := hb.2.len
  unfold maxLen at hm1 hm2
  obtain ⟨a1, c1, a2, c2, rfl, rfl⟩ := hb.vals
  obtain ⟨a3, c3, a4, c4, rfl, rfl⟩ := hb'.vals
  have HB := Lib.hid (And.intro hb hb')
  clear hb hb'
  have F1 : Bun w [] w := Bun.nil _
  go_enter Tryd.func19, Tryd.ntmps19
  have F2 : Bun w [rbox w.heap.size 38 #[.slice a1 b.accs.length c1, .slice a2 b.mvs.length c2]] _ := F1.new 38 #[.slice a1 b.accs.length c1, .slice a2 b.mvs.length c2] (n := w.heap.size) (by simp)
  clear F1
  have F3 : Bun w [rbox (w.heap.size + 1) 38 #[.slice a3 b.accs.length c3, .slice a4 b.mvs.length c4], rbox w.heap.size 38 #[.slice a1 b.accs.length c1, .slice a2 b.mvs.length c2]] _ := F2.new 38 #[.slice a3 b.accs.length c3, .slice a4 b.mvs.length c4] (n := (w.heap.size + 1)) (by simp)
  clear F2
  have b4 : Bk _ w.heap.size 38 #[.slice a1 b.accs.length c1, .slice a2 b.mvs.length c2] := F3.at 1 rfl
  have l5 := b4.lt
  have q6 : World.cell? _ ⟨w.heap.size, 0, none⟩ = some (.slice a1 b.accs.length c1) := b4.cell 0
  have z7 := b4.frozen 0
  have q8 : World.cell? _ ⟨w.heap.size, 1, none⟩ = some (.slice a2 b.mvs.length c2) := b4.cell 1
  have z9 := b4.frozen 1
  have b10 : Bk _ (w.heap.size + 1) 38 #[.slice a3 b.accs.length c3, .slice a4 b.mvs.length c4] := F3.at 0 rfl
  have l11 := b10.lt
  have q12 : World.cell? _ ⟨(w.heap.size + 1), 0, none⟩ = some (.slice a3 b.accs.length c3) := b10.cell 0
  have z13 := b10.frozen 0
  have q14 : World.cell? _ ⟨(w.heap.size + 1), 1, none⟩ = some (.slice a4 b.mvs.length c4) := b10.cell 1
  have z15 := b10.frozen 1
  go_wp2_with fail
  clear b4 l5 q6 z7 q8 z9 b10 l11 q12 z13 q14 z15
  obtain ⟨HI16_, HI160⟩ : ∃ I : (Nat → Value) → List Deferred → World → Prop, I = (fun t ds wr => ∃ (i : Nat), t 2 = .pointer (some ⟨w.heap.size, 0, none⟩) ∧ t 3 = .pointer (some ⟨(w.heap.size + 1), 0, none⟩) ∧ t 5 = .int .i64 i ∧ i ≤ b.accs.length ∧ ds = [] ∧ Bun w [rbox (w.heap.size + 1) 38 #[.slice a3 b.accs.length c3, .slice a4 b.mvs.length c4], rbox w.heap.size 38 #[.slice a1 b.accs.length c1, .slice a2 b.mvs.length c2]] wr) := ⟨_, rfl⟩
  have HI16 := Lib.hid HI160
  clear HI160
  refine wp_loopS 59 rfl HI16_ (fun t wr => b.accs.length - (intOf (t 5)).toNat) ?atStart1 ?round1
  case round1 =>
    intro t ds wr hHid
    rw [HI16.out] at hHid
    obtain ⟨i, e2, e3, e5, hrel⟩ := hHid
    have e : ((List.range 59).map t).toArray = #[t 0, t 1, t 2, t 3, t 4, t 5, t 6, t 7, t 8, t 9, t 10, t 11, t 12, t 13, t 14, t 15, t 16, t 17, t 18, t 19, t 20, t 21, t 22, t 23, t 24, t 25, t 26, t 27, t 28, t 29, t 30, t 31, t 32, t 33, t 34, t 35, t 36, t 37, t 38, t 39, t 40, t 41, t 42, t 43, t 44, t 45, t 46, t 47, t 48, t 49, t 50, t 51, t 52, t 53, t 54, t 55, t 56, t 57, t 58] := rfl
    (try dsimp only at e)
    rw [e2, e3, e5] at e
    rw [e]
    simp only [e5]
    clear e e2 e3 e5
    clear F3
    obtain ⟨hi_, rfl, hF⟩ := hrel
    by_cases hlt : i < b.accs.length
    · skip
      have h1 := HasB.gn HB.out.1 hF.gb
      have h2 := HasB.gn HB.out.2 hF.gb
      obtain ⟨x, ox, d1, e1, _, _, _⟩ := Accs.at h1.1 (by omega)
      obtain ⟨y, oy, d2, e2, _, _, _⟩ := Accs.at h2.1 (by omega)
      injection e1 with e1 e1n e1c
      injection e2 with e2 e2n e2c
      subst e1 e1c e2 e2c
      clear e1n e2n
      obtain ⟨f1, f2, f3, f4, f5, f6⟩ := HasB.acc h1 hlt
      obtain ⟨g1, g2, g3, g4, g5, g6⟩ := HasB.acc h2 hlt
      generalize ga b.accs i = z at *
      clear h1 h2
      have b17 : Bk _ w.heap.size 38 #[.slice (some ⟨x, ox, none⟩) b.accs.length c1, .slice a2 b.mvs.length c2] := hF.at 1 rfl
      have l18 := b17.lt
      have q19 : World.cell? _ ⟨w.heap.size, 0, none⟩ = some (.slice (some ⟨x, ox, none⟩) b.accs.length c1) := b17.cell 0
      have z20 := b17.frozen 0
      have q21 : World.cell? _ ⟨w.heap.size, 1, none⟩ = some (.slice a2 b.mvs.length c2) := b17.cell 1
      have z22 := b17.frozen 1
      have b23 : Bk _ (w.heap.size + 1) 38 #[.slice (some ⟨y, oy, none⟩) b.accs.length c3, .slice a4 b.mvs.length c4] := hF.at 0 rfl
      have l24 := b23.lt
      have q25 : World.cell? _ ⟨(w.heap.size + 1), 0, none⟩ = some (.slice (some ⟨y, oy, none⟩) b.accs.length c3) := b23.cell 0
      have z26 := b23.frozen 0
      have q27 : World.cell? _ ⟨(w.heap.size + 1), 1, none⟩ = some (.slice a4 b.mvs.length c4) := b23.cell 1
      have z28 := b23.frozen 1
      go_wp2_with fail
      go_quiet (fail)
      clear b17 l18 q19 z20 q21 z22 b23 l24 q25 z26 q27 z28
      clear f1 f2 f3 f4 f5 f6 g1 g2 g3 g4 g5 g6
      have F29 : Bun w [rbox (w.heap.size + 1) 38 #[.slice (some ⟨y, oy, none⟩) b.accs.length c3, .slice a4 b.mvs.length c4], rbox w.heap.size 38 #[.slice (some ⟨x, ox, none⟩) b.accs.length c1, .slice a2 b.mvs.length c2]] _ := hF.drewN nq
      clear hF
      go_wp2_with fail
      (first | refine ⟨rfl, ?_, ?_⟩ | refine ⟨?_, ?_⟩)
      · rw [HI16.out]; exact ⟨i + 1, rfl, rfl, (by show Value.int .i64 ((i : Int) + 1) = _; simp), by omega, (by simp), F29⟩
      · simp [slot, intOf]; omega
    · obtain rfl : i = b.accs.length := by omega
      have b30 : Bk _ w.heap.size 38 #[.slice a1 b.accs.length c1, .slice a2 b.mvs.length c2] := hF.at 1 rfl
      have l31 := b30.lt
      have q32 : World.cell? _ ⟨w.heap.size, 0, none⟩ = some (.slice a1 b.accs.length c1) := b30.cell 0
      have z33 := b30.frozen 0
      have q34 : World.cell? _ ⟨w.heap.size, 1, none⟩ = some (.slice a2 b.mvs.length c2) := b30.cell 1
      have z35 := b30.frozen 1
      have b36 : Bk _ (w.heap.size + 1) 38 #[.slice a3 b.accs.length c3, .slice a4 b.mvs.length c4] := hF.at 0 rfl
      have l37 := b36.lt
      have q38 : World.cell? _ ⟨(w.heap.size + 1), 0, none⟩ = some (.slice a3 b.accs.length c3) := b36.cell 0
      have z39 := b36.frozen 0
      have q40 : World.cell? _ ⟨(w.heap.size + 1), 1, none⟩ = some (.slice a4 b.mvs.length c4) := b36.cell 1
      have z41 := b36.frozen 1
      go_wp2_with fail
      clear b30 l31 q32 z33 q34 z35 b36 l37 q38 z39 q40 z41
      obtain ⟨HI42_, HI420⟩ : ∃ I : (Nat → Value) → List Deferred → World → Prop, I = (fun t ds wr => ∃ (i : Nat), t 2 = .pointer (some ⟨w.heap.size, 0, none⟩) ∧ t 3 = .pointer (some ⟨(w.heap.size + 1), 0, none⟩) ∧ t 6 = .int .i64 i ∧ i ≤ b.mvs.length ∧ ds = [] ∧ Bun w [rbox (w.heap.size + 1) 38 #[.slice a3 b.accs.length c3, .slice a4 b.mvs.length c4], rbox w.heap.size 38 #[.slice a1 b.accs.length c1, .slice a2 b.mvs.length c2]] wr) := ⟨_, rfl⟩
      have HI42 := Lib.hid HI420
      clear HI420
      refine wp_loopS 59 rfl HI42_ (fun t wr => b.mvs.length - (intOf (t 6)).toNat) ?atStart2 ?round2
      case round2 =>
        intro t ds wr hHid
        rw [HI42.out] at hHid
        obtain ⟨i, e2, e3, e6, hrel⟩ := hHid
        have e : ((List.range 59).map t).toArray = #[t 0, t 1, t 2, t 3, t 4, t 5, t 6, t 7, t 8, t 9, t 10, t 11, t 12, t 13, t 14, t 15, t 16, t 17, t 18, t 19, t 20, t 21, t 22, t 23, t 24, t 25, t 26, t 27, t 28, t 29, t 30, t 31, t 32, t 33, t 34, t 35, t 36, t 37, t 38, t 39, t 40, t 41, t 42, t 43, t 44, t 45, t 46, t 47, t 48, t 49, t 50, t 51, t 52, t 53, t 54, t 55, t 56, t 57, t 58] := rfl
        (try dsimp only at e)
        rw [e2, e3, e6] at e
        rw [e]
        simp only [e6]
        clear e e2 e3 e6
        clear hF
        obtain ⟨hi_, rfl, hF⟩ := hrel
        by_cases hlt : i < b.mvs.length
        · skip
          have h1 := HasB.gn HB.out.1 hF.gb
          have h2 := HasB.gn HB.out.2 hF.gb
          obtain ⟨x, ox, d1, e1, _, _, _⟩ := Mvs.at h1.2 (by omega)
          obtain ⟨y, oy, d2, e2, _, _, _⟩ := Mvs.at h2.2 (by omega)
          injection e1 with e1 e1n e1c
          injection e2 with e2 e2n e2c
          subst e1 e1c e2 e2c
          clear e1n e2n
          obtain ⟨f1, f2, f3, f4⟩ := HasB.mov h1 hlt
          obtain ⟨g1, g2, g3, g4⟩ := HasB.mov h2 hlt
          generalize gm b.mvs i = z at *
          clear h1 h2
          have b43 : Bk _ w.heap.size 38 #[.slice a1 b.accs.length c1, .slice (some ⟨x, ox, none⟩) b.mvs.length c2] := hF.at 1 rfl
          have l44 := b43.lt
          have q45 : World.cell? _ ⟨w.heap.size, 0, none⟩ = some (.slice a1 b.accs.length c1) := b43.cell 0
          have z46 := b43.frozen 0
          have q47 : World.cell? _ ⟨w.heap.size, 1, none⟩ = some (.slice (some ⟨x, ox, none⟩) b.mvs.length c2) := b43.cell 1
          have z48 := b43.frozen 1
          have b49 : Bk _ (w.heap.size + 1) 38 #[.slice a3 b.accs.length c3, .slice (some ⟨y, oy, none⟩) b.mvs.length c4] := hF.at 0 rfl
          have l50 := b49.lt
          have q51 : World.cell? _ ⟨(w.heap.size + 1), 0, none⟩ = some (.slice a3 b.accs.length c3) := b49.cell 0
          have z52 := b49.frozen 0
          have q53 : World.cell? _ ⟨(w.heap.size + 1), 1, none⟩ = some (.slice (some ⟨y, oy, none⟩) b.mvs.length c4) := b49.cell 1
          have z54 := b49.frozen 1
          go_wp2_with fail
          go_quiet (fail)
          clear b43 l44 q45 z46 q47 z48 b49 l50 q51 z52 q53 z54
          clear f1 f2 f3 f4 g1 g2 g3 g4
          have F55 : Bun w [rbox (w.heap.size + 1) 38 #[.slice a3 b.accs.length c3, .slice (some ⟨y, oy, none⟩) b.mvs.length c4], rbox w.heap.size 38 #[.slice a1 b.accs.length c1, .slice (some ⟨x, ox, none⟩) b.mvs.length c2]] _ := hF.drewN nq
          clear hF
          go_wp2_with fail
          (first | refine ⟨rfl, ?_, ?_⟩ | refine ⟨?_, ?_⟩)
          · rw [HI42.out]; exact ⟨i + 1, rfl, rfl, (by show Value.int .i64 ((i : Int) + 1) = _; simp), by omega, (by simp), F55⟩
          · simp [slot, intOf]; omega
        · obtain rfl : i = b.mvs.length := by omega
          have b56 : Bk _ w.heap.size 38 #[.slice a1 b.accs.length c1, .slice a2 b.mvs.length c2] := hF.at 1 rfl
          have l57 := b56.lt
          have q58 : World.cell? _ ⟨w.heap.size, 0, none⟩ = some (.slice a1 b.accs.length c1) := b56.cell 0
          have z59 := b56.frozen 0
          have q60 : World.cell? _ ⟨w.heap.size, 1, none⟩ = some (.slice a2 b.mvs.length c2) := b56.cell 1
          have z61 := b56.frozen 1
          have b62 : Bk _ (w.heap.size + 1) 38 #[.slice a3 b.accs.length c3, .slice a4 b.mvs.length c4] := hF.at 0 rfl
          have l63 := b62.lt
          have q64 : World.cell? _ ⟨(w.heap.size + 1), 0, none⟩ = some (.slice a3 b.accs.length c3) := b62.cell 0
          have z65 := b62.frozen 0
          have q66 : World.cell? _ ⟨(w.heap.size + 1), 1, none⟩ = some (.slice a4 b.mvs.length c4) := b62.cell 1
          have z67 := b62.frozen 1
          go_wp2_with fail
          go_ret
          exact ⟨rfl, hF.gb⟩
      case atStart2 =>
        rw [HI42.out]
        exact ⟨0, rfl, rfl, rfl, Nat.zero_le _, rfl, hF⟩
  case atStart1 =>
    rw [HI16.out]
    exact ⟨0, rfl, rfl, rfl, Nat.zero_le _, rfl, F3⟩

end Go.Proofs.YtcndphefomigeaaDoor
