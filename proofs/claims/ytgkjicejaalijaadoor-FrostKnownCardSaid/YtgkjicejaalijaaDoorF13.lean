/- frost: course; Run. -/
import Derived.Test.YtgkjicejaalijaaDoorF12
import Derived.Test.YtgkjicejaalijaaDoorK1
set_option linter.unusedVariables false
set_option linter.unusedSimpArgs false
set_option linter.unnecessarySimpa false
namespace Go.Proofs.YtgkjicejaalijaaDoor
open Go.RowKit Go.Shelf
set_option maxRecDepth 100000

/-- The three boxes of an iterator. -/
def HoldX (pd : Nat) (v vd : Value) (l : Fro) (x : Ice) (A : World) : Prop := Bk A pd 84 (froC l v) ∧ Bk A (pd + 1) 82 (iceC x) ∧ Bk A (pd + 2) 44 #[vd]
theorem HoldX.gb {pd : Nat} {v vd : Value} {l : Fro} {x : Ice} {A B : World} (h : HoldX pd v vd l x A) {r : Option Nat} (hg : A.grownBy B r) (hr : ∀ g, r = some g → ¬ (pd ≤ g ∧ g < pd + 3)) : HoldX pd v vd l x B :=
  ⟨h.1.gb hg (fun e => by have := hr _ e.symm; omega), h.2.1.gb hg (fun e => by have := hr _ e.symm; omega), h.2.2.gb hg (fun e => by have := hr _ e.symm; omega)⟩
def iceEnc (x : Ice) : List Value := [.int .i64 x.bl.lo, .int .i64 x.bl.hi, .int .i64 x.wh.lo, .int .i64 x.wh.hi, .int .i64 x.we.lo, .int .i64 x.we.hi, .int .i64 x.sn.lo, .int .i64 x.sn.hi]
theorem infoIce : (Tryd.prog.info? 37).map (fun i => (i.zero, i.size, i.bytes)) = some (some (.agg #[.int .i64 0, .int .i64 0, .int .i64 0, .int .i64 0, .int .i64 0, .int .i64 0, .int .i64 0, .int .i64 0]), 8, 64) := by kernel_rfl
theorem okIce : ElemOk Tryd.prog 40 37 8 64 iceEnc where
  under := Tryd.underlying40
  info := info5 infoIce rfl
  pos := by omega
  small := by omega
  len := fun _ => rfl
  one := fun x u hu => by
    simp [iceEnc] at hu
    rcases hu with rfl | rfl | rfl | rfl | rfl | rfl | rfl | rfl <;> rfl
/-- Ice after each of the first k days. -/
noncomputable def runN (l : Fro) (x : Ice) (dl : List Wea) (k : Nat) : List Ice := (List.range k).map (fun i => stI l x dl (i + 1))
theorem runN_succ (l : Fro) (x : Ice) (dl : List Wea) (k : Nat) : runN l x dl (k + 1) = runN l x dl k ++ [stI l x dl (k + 1)] := by simp [runN, List.range_succ]
theorem runN_len (l : Fro) (x : Ice) (dl : List Wea) (k : Nat) : (runN l x dl k).length = k := by simp [runN]
/-- What Run says. -/
noncomputable def runI (l : Fro) (x : Ice) (dl : List Wea) : List Ice := if allE l x dl = 0 then runN l x dl dl.length else []

set_option maxHeartbeats 4000000 in
theorem course_c (lo hi : Nat) (v : Value) (l : Fro) (da : Option Addr) (dn dc : Nat) (x : Ice) (w : World) (hl : Sl covEnc 3 lo hi w v l.cov) (h2 : hi ≤ w.heap.size) :
    Calls Tryd.prog 72 #[.agg (froC l v), .agg (iceC x), .slice da dn dc] w (fun e w' => e = .returned (.func (.func 99) #[] #[.pointer (some ⟨w.heap.size + 1, 0, none⟩), .pointer (some ⟨w.heap.size + 2, 0, none⟩), .pointer (some ⟨w.heap.size, 0, none⟩)]) ∧ w.grownBy w' none ∧ HoldX w.heap.size v (.slice da dn dc) l x w') := by
  have F1 : Bun w [] w := Bun.nil _
  have hm_cs := hl.len
  unfold maxLen at hm_cs
  obtain ⟨sa, sc, rfl⟩ := hl.any
  have F2 := F1.sl0 hl h2 rfl
  clear F1
  clear hl
  go_enter Tryd.func72, Tryd.ntmps72
  go_wp2_with fail
  have F3 := F2.new 84 (froC l (.slice sa l.cov.length sc)) (n := w.heap.size) (by simp)
  clear F2
  have F4 := F3.new 82 (iceC x) (n := (w.heap.size + 1)) (by simp)
  clear F3
  have F5 := F4.new 44 #[.slice da dn dc] (n := (w.heap.size + 2)) (by simp)
  clear F4
  exact bodyPost_ret (v := .func (.func 99) #[] #[.pointer (some ⟨w.heap.size + 1, 0, none⟩), .pointer (some ⟨w.heap.size + 2, 0, none⟩), .pointer (some ⟨w.heap.size, 0, none⟩)]) (by simp [results, Tryd.results72, go_sem]) rfl (⟨rfl, F5.gb, (F5.at 2 rfl : Bk _ w.heap.size 84 (froC l (.slice sa l.cov.length sc))), (F5.at 1 rfl : Bk _ (w.heap.size + 1) 82 (iceC x)), (F5.at 0 rfl : Bk _ (w.heap.size + 2) 44 #[.slice da dn dc])⟩)

theorem course_e (lo hi : Nat) (v : Value) (da : Option Addr) (dn dc : Nat) (l : Fro) (x : Ice) (w : World) (hl : Sl covEnc 3 lo hi w v l.cov) (h2 : hi ≤ w.heap.size) :
    Calls Tryd.prog 72 #[.agg (froC l v), .agg (iceC x), .slice da dn dc] w (fun e w' => ∃ pd, w.heap.size = pd ∧ e = .returned (.func (.func 99) #[] #[.pointer (some ⟨pd + 1, 0, none⟩), .pointer (some ⟨pd + 2, 0, none⟩), .pointer (some ⟨pd, 0, none⟩)]) ∧ w.grownBy w' none ∧ HoldX pd v (.slice da dn dc) l x w') :=
  (course_c lo hi v l da dn dc x w hl h2).mono fun _ _ h => ⟨_, rfl, h⟩
end Go.Proofs.YtgkjicejaalijaaDoor
