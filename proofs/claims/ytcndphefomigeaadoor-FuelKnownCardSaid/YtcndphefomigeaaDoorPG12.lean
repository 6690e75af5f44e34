/- The reference's cuts: what comes into a set of accounts, and what goes out of it. -/
import Derived.Test.YtcndphefomigeaaDoorPG8
import Derived.Test.YtcndphefomigeaaDoorPSp
import Derived.Test.YtcndphefomigeaaDoorPLoss
import Derived.Deep.RegionHeld3
import Derived.Test.YtcndphefomigeaaDoorPG9
import Derived.Test.YtcndphefomigeaaDoorPKN
import Derived.Test.YtcndphefomigeaaDoorPG7
import Derived.Test.YtcndphefomigeaaDoorPK1
import Derived.Test.YtcndphefomigeaaDoorPG10
import Derived.Test.YtcndphefomigeaaDoorPRefi
import Derived.Lib.SliceRun
set_option linter.unusedVariables false
set_option linter.unusedSimpArgs false
set_option linter.unnecessarySimpa false
namespace Go.Proofs.YtcndphefomigeaaDoor
open Go.RowKit Go.Shelf
set_option maxRecDepth 100000

end Go.Proofs.YtcndphefomigeaaDoor
/- The reference's cuts: what goes out of a set of accounts. -/
namespace Go.Proofs.YtcndphefomigeaaDoor
open Go.RowKit Go.Shelf
set_option maxRecDepth 100000


end Go.Proofs.YtcndphefomigeaaDoor
/- The reference's cuts: accounts that may lose; its cuts are the program's sets. -/
namespace Go.Proofs.YtcndphefomigeaaDoor
open Go.RowKit Go.Shelf
set_option maxRecDepth 100000

end Go.Proofs.YtcndphefomigeaaDoor
/- The reference: whether a book has a truth. -/
namespace Go.Proofs.YtcndphefomigeaaDoor
open Go.RowKit Go.Shelf
set_option maxRecDepth 100000

end Go.Proofs.YtcndphefomigeaaDoor
/- The reference's narrowed spans are the program's; in plain numbers. -/
namespace Go.Proofs.YtcndphefomigeaaDoor
open Go.RowKit

section
variable {b : Bok} {s : Nat}
end
section
variable {b : Bok} (hok : BokOk b)
include hok
end
end Go.Proofs.YtcndphefomigeaaDoor
/- fuel: what the reference says of a span. -/
namespace Go.Proofs.YtcndphefomigeaaDoor
open Go.RowKit Go.Shelf
set_option maxRecDepth 100000

end Go.Proofs.YtcndphefomigeaaDoor
/- The reference: the error of a book. -/
namespace Go.Proofs.YtcndphefomigeaaDoor
open Go.RowKit Go.Shelf
set_option maxRecDepth 100000

end Go.Proofs.YtcndphefomigeaaDoor
/- fuel: the reference: Refine and Post. -/
namespace Go.Proofs.YtcndphefomigeaaDoor
open Go.RowKit Go.Shelf
set_option maxRecDepth 100000

section
variable (l1 h1 l2 h2 : Nat) (va vm : Value) (b : Bok) (w : World) (ha : Accs l1 h1 w va b.accs) (hm : Mvs l2 h2 w vm b.mvs) (b1 : h1 ≤ w.heap.size) (b2 : h2 ≤ w.heap.size)
include ha hm b1 b2
end
section
variable (lo hi : Nat) (va vm : Value) (b : Bok) (i : Nat) (w : World) (hb : HasB lo hi w va vm b) (hh : hi ≤ w.heap.size) (hok : BokOk b)
include hb hh hok
end
set_option maxHeartbeats 8000000 in
theorem fpost_e2 (l1 h1 l2 h2 : Nat) (va vm : Value) (b : Bok) (m : Mv) (w : World) (ha : Accs l1 h1 w va b.accs) (hm : Mvs l2 h2 w vm b.mvs) (b1 : h1 ≤ w.heap.size) (b2 : h2 ≤ w.heap.size) (hn : nameOk b.accs) (hc0 : checkE b = 0) (hck : checkE (addM b m) ≠ 0) (hs1 : b.accs.length ≤ 100000000000) (hs2 : b.mvs.length ≤ 10000000000) :
    Calls Tryd.prog 33 #[.agg #[va, vm], .agg #[.int .i64 m.fr, .int .i64 m.to, .int .i64 m.li.lo, .int .i64 m.li.hi]] w (Ret (.tuple #[.agg #[.slice none 0 0, .slice none 0 0], .int .i64 (checkE (addM b m))]) w) := by
  have hcka : (checkE (addM b m) == 0) = false := beq_f hck
  have hckb : (checkE (addM b m) != 0) = true := bne_t hck
  have HCN := Lib.hid hck
  clear hck
  have HC := Lib.hid hc0
  clear hc0
  have F1 : Bun w [] w := Bun.nil _
  have hm_ac := ha.len
  unfold maxLen at hm_ac
  obtain ⟨aa, ak, rfl⟩ := ha.any
  have F2 := F1.sl0 ha b1 rfl
  clear F1
  clear ha
  have hm_mv := hm.len
  unfold maxLen at hm_mv
  obtain ⟨ma, mk, rfl⟩ := hm.any
  have F3 := F2.sl0 hm b2 rfl
  clear F2
  clear hm
  have HN := Lib.hid hn
  clear hn
  go_enter Tryd.func33, Tryd.ntmps33
  go_wp2_with fail
  have F4 := F3.new 38 #[.slice aa b.accs.length ak, .slice ma b.mvs.length mk] (n := w.heap.size) (by simp)
  clear F3
  have F5 := F4.new 43 #[.int .i64 m.fr, .int .i64 m.to, .int .i64 m.li.lo, .int .i64 m.li.hi] (n := (w.heap.size + 1)) (by simp)
  clear F4
  have F6 := F5.new 38 #[.slice none 0 0, .slice none 0 0] (n := (w.heap.size + 2)) (by simp)
  clear F5
  refine ((check_c _ _ _ _ _ _ b _ (F6.at 4 rfl : Sl accEnc 6 l1 h1 _ (.slice aa b.accs.length ak) b.accs) (F6.at 3 rfl : Sl mvEnc 4 l2 h2 _ (.slice ma b.mvs.length mk) b.mvs) HN.out (by first | omega | (simp; omega)) (by first | omega | (simp; omega))).mono (fun _ _ h_ => check_zero h_ HC.out)).mono ?_
  rintro e w9 ⟨rfl, hg7⟩
  have hg7s := hg7.size
  (try simp at hg7s)
  have F10 := F6.gn hg7
  clear F6
  clear hg7
  have b11 := F10.bx2 2 rfl
  go_wp2_with fail
  clear b11
  obtain ⟨w12, hx13, F15, hxs14⟩ := (show Bun w [rbox (w.heap.size + 2) 38 #[.slice none 0 0, .slice none 0 0], rbox (w.heap.size + 1) 43 #[.int .i64 m.fr, .int .i64 m.to, .int .i64 m.li.lo, .int .i64 m.li.hi], rbox w.heap.size 38 #[.slice aa b.accs.length ak, .slice ma b.mvs.length mk], rsl mvEnc 4 l2 h2 (.slice ma b.mvs.length mk) b.mvs, rsl accEnc 6 l1 h1 (.slice aa b.accs.length ak) b.accs] _ from F10).name
  (try simp at hxs14)
  rw [hx13]
  clear hx13 F10
  refine (fown_b _ _ _ _ _ _ b _ (F15.at 4 rfl : Sl accEnc 6 l1 h1 _ (.slice aa b.accs.length ak) b.accs) (F15.at 3 rfl : Sl mvEnc 4 l2 h2 _ (.slice ma b.mvs.length mk) b.mvs) (by first | omega | (simp; omega)) (by first | omega | (simp; omega)) (by omega) (by omega)).mono ?_
  rintro e w16 ⟨pA, kA, pM, kM, rfl, hB17⟩
  have hB17s := hB17.gb.size
  (try simp at hB17s)
  have F18 := F15.joinN (L2 := [rown accEnc 41 6 w12.heap.size (.slice pA b.accs.length kA) b.accs, rown mvEnc 43 4 w12.heap.size (.slice pM b.mvs.length kM) b.mvs]) hB17 rfl
  clear F15
  clear hB17
  (try dsimp only [List.cons_append, List.nil_append] at F18)
  have b19 := F18.bx4 3 rfl
  have F20 := F18.new 38 #[.slice pA b.accs.length kA, .slice pM b.mvs.length kM] (n := w16.heap.size) (by simp)
  clear F18
  go_wp2_with (at_builtin; refine wpList_app _ okMv rfl _ _ rfl w12.heap.size (.slice pM b.mvs.length kM) b.mvs [m] rfl (by exact ((F20.at 2 rfl : Own mvEnc 43 4 w12.heap.size _ (.slice pM b.mvs.length kM) b.mvs)).alloc _) ⟨_, 0, none⟩ 1 1 rfl rfl (by decide) (news_of (Bk.newAt _ _ _ (by simp))) (b.mvs.length + 1) (by simp) (by omega) (by first | omega | (simp; omega)) _ rfl ?_; intro g21 cap22 w23 hp24; refine Hid.out ?_)
  refine Lib.hid ?_
  have hp24s := hp24.gb.size
  (try simp at hp24s)
  clear b19
  have F25 := ((F20.alloc (.cells #[.int .i64 m.fr, .int .i64 m.to, .int .i64 m.li.lo, .int .i64 m.li.hi] 43)).front 2 rfl rfl).app hp24 (by simp)
  clear F20
  have b26 := F25.bx2 1 rfl
  go_wp2_with fail
  clear b26
  have F27 := ((F25.front 1 rfl rfl).set 1 (.slice (some ⟨g21, 0, none⟩) (b.mvs.length + 1) cap22)).nf #[.slice pA b.accs.length kA, .slice (some ⟨g21, 0, none⟩) (b.mvs.length + 1) cap22] rfl
  clear F25
  refine (check_c _ _ _ _ _ _ (addM b m) _ (Own.sl (F27.at 2 rfl : Own accEnc 41 6 w12.heap.size _ (.slice pA b.accs.length kA) b.accs) (fun _ => rfl)) (Own.sl (F27.at 1 rfl : Own mvEnc 43 4 w12.heap.size _ (.slice (some ⟨g21, 0, none⟩) (b.mvs.length + 1) cap22) (b.mvs ++ [m])) (fun _ => rfl)) HN.out (Nat.le_refl _) (Nat.le_refl _)).mono ?_
  rintro e w30 ⟨rfl, hg28⟩
  have hg28s := hg28.size
  (try simp at hg28s)
  have F31 := F27.gn hg28
  clear F27
  clear hg28
  have b32 := F31.bx2 3 rfl
  go_wp2_with fail
  clear b32
  have F33 := (F31.front 3 rfl rfl).pt2 (.slice none 0 0) (.slice none 0 0)
  clear F31
  have kb34 := F33.bx2 0 rfl
  go_wp2_with fail
  exact bodyPost_ret (v := .tuple #[.agg #[.slice none 0 0, .slice none 0 0], .int .i64 (checkE (addM b m))]) (by simp [results, Tryd.results33, go_sem, kb34]) rfl (⟨rfl, F33.gb⟩)

/-- A book of the call's own, or none, and an error. -/
def BookT (c : Bok) (er : Int) (w : World) : Ending → World → Prop := fun e w' => ∃ (a1 : Option Addr) (c1 : Nat) (a2 : Option Addr) (c2 lo hi : Nat), e = .returned (.tuple #[.agg #[.slice a1 c.accs.length c1, .slice a2 c.mvs.length c2], .int .i64 er]) ∧ (w.heap.size ≤ lo ∧ hi ≤ w'.heap.size) ∧
  HasB lo hi w' (.slice a1 c.accs.length c1) (.slice a2 c.mvs.length c2) c ∧ w.grownBy w' none
noncomputable def postR (b : Bok) (m : Mv) : Bok := if checkE b = 0 ∧ checkE (addM b m) = 0 then addM b m else ⟨[], []⟩
noncomputable def postX (b : Bok) (m : Mv) : Int := if checkE b = 0 then checkE (addM b m) else checkE b
theorem BookT.post {b : Bok} {m : Mv} {w w' : World} {e : Ending} (h : PostB b m w e w') (h0 : checkE b = 0) (h1 : checkE (addM b m) = 0) : BookT (postR b m) (postX b m) w e w' := by
  obtain ⟨a1, c1, a2, c2, lo, hi, rfl, h2, h3, h4⟩ := h
  have e2 : (addM b m).mvs.length = b.mvs.length + 1 := by simp [addM]
  refine ⟨a1, c1, a2, c2, lo, hi, ?_, h2, ?_, h4⟩
  · unfold postR postX
    rw [if_pos ⟨h0, h1⟩, if_pos h0, h1, e2]
    rfl
  · unfold postR
    rw [if_pos ⟨h0, h1⟩, e2]
    exact h3
section
variable (l1 h1 l2 h2 : Nat) (va vm : Value) (b : Bok) (w : World) (ha : Accs l1 h1 w va b.accs) (hm : Mvs l2 h2 w vm b.mvs) (b1 : h1 ≤ w.heap.size) (b2 : h2 ≤ w.heap.size) (hn : nameOk b.accs)
include ha hm b1 b2 hn
variable (m : Mv) (hs1 : b.accs.length ≤ 100000000000) (hs2 : b.mvs.length ≤ 10000000000)
include hs1 hs2
end
end Go.Proofs.YtcndphefomigeaaDoor
