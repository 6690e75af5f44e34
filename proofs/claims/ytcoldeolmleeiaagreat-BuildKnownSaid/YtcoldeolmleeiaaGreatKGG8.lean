/- the reference of frost: a day of true ice. -/
import Derived.Test.YtcoldeolmleeiaaGreatKF9
import Derived.Test.YtcoldeolmleeiaaGreatKK1
import Derived.Test.YtcoldeolmleeiaaGreatKKF1
import Derived.Test.YtcoldeolmleeiaaGreatKGG2
set_option linter.unusedVariables false
set_option linter.unusedSimpArgs false
set_option linter.unnecessarySimpa false
namespace Go.Proofs.YtcoldeolmleeiaaGreat
open Go.RowKit
set_option maxRecDepth 100000
structure Tr where
 bl : Int
 wh : Int
 we : Int
 sn : Int
def opn (l : Fro) (t : Tr) (d : Wea) (f : Int) : Tr :=
 if 0 < d.water then ⟨t.bl, t.wh, t.we + d.water + dn ((if d.clear = true then 0 else t.sn) + f) l.soak, 0⟩ else ⟨t.bl, t.wh, t.we, (if d.clear = true then 0 else t.sn) + f⟩
def hiT (x : Ice) : Tr := ⟨x.bl.hi, x.wh.hi, x.we.hi, x.sn.hi⟩
/-! ### true ice within -/
def inI (t : Tr) (x : Ice) : Prop := ((x.bl.lo <= t.bl /\ t.bl <= x.bl.hi) /\ x.wh.lo <= t.wh /\ t.wh <= x.wh.hi) /\ (x.we.lo <= t.we /\ t.we <= x.we.hi) /\ x.sn.lo <= t.sn /\ t.sn <= x.sn.hi
def subI (a b : Ice) : Prop := ((b.bl.lo <= a.bl.lo /\ a.bl.hi <= b.bl.hi) /\ b.wh.lo <= a.wh.lo /\ a.wh.hi <= b.wh.hi) /\ (b.we.lo <= a.we.lo /\ a.we.hi <= b.we.hi) /\ b.sn.lo <= a.sn.lo /\ a.sn.hi <= b.sn.hi
structure Ends8 (M : Tr -> Prop) (z : Ice) : Prop where
 bl1 : ∃ u, M u /\ u.bl = z.bl.lo
 bl2 : ∃ u, M u /\ u.bl = z.bl.hi
 wh1 : ∃ u, M u /\ u.wh = z.wh.lo
 wh2 : ∃ u, M u /\ u.wh = z.wh.hi
 we1 : ∃ u, M u /\ u.we = z.we.lo
 we2 : ∃ u, M u /\ u.we = z.we.hi
 sn1 : ∃ u, M u /\ u.sn = z.sn.lo
 sn2 : ∃ u, M u /\ u.sn = z.sn.hi
theorem Ends8.sub {M : Tr -> Prop} {z x : Ice} (h : Ends8 M z) (hM : ∀ u, M u -> inI u x) : subI z x := by
 obtain ⟨⟨u1, a1, e1⟩, ⟨u2, a2, e2⟩, ⟨u3, a3, e3⟩, ⟨u4, a4, e4⟩, ⟨u5, a5, e5⟩, ⟨u6, a6, e6⟩, ⟨u7, a7, e7⟩, ⟨u8, a8, e8⟩⟩ := h
 have i1 := (hM _ a1).1.1
 have i2 := (hM _ a2).1.1
 have i3 := (hM _ a3).1.2
 have i4 := (hM _ a4).1.2
 have i5 := (hM _ a5).2.1
 have i6 := (hM _ a6).2.1
 have i7 := (hM _ a7).2.2
 have i8 := (hM _ a8).2.2
 exact ⟨⟨⟨by omega, by omega⟩, by omega, by omega⟩, ⟨by omega, by omega⟩, by omega, by omega⟩
theorem daysErr_ofF : ∀ (l : List Wea), (∀ d ∈ l, weaErr d = 0) -> daysErr l = 0
 | [], _ => rfl
 | d :: ds, h => by
  rw [daysErr, if_neg (not_not_intro (h d (.head _)))]
  exact daysErr_ofF ds fun x hx => h x (.tail _ hx)
end Go.Proofs.YtcoldeolmleeiaaGreat
