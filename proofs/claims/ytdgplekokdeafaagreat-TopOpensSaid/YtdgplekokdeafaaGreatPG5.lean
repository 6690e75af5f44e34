/- the reference of frost: a cold day. -/
import Derived.Test.YtdgplekokdeafaaGreatPKF2
import Derived.Test.YtdgplekokdeafaaGreatPK1
import Derived.Test.YtdgplekokdeafaaGreatPKF1
import Derived.Test.YtdgplekokdeafaaGreatPF29
import Derived.Test.YtdgplekokdeafaaGreatPKC
import Derived.Test.YtdgplekokdeafaaGreatPJ9
import Derived.Test.YtdgplekokdeafaaGreatPF31
import Derived.Test.YtdgplekokdeafaaGreatPKA
set_option linter.unusedVariables false
set_option linter.unusedSimpArgs false
set_option linter.unnecessarySimpa false
namespace Go.Proofs.YtdgplekokdeafaaGreat
open Go.RowKit
set_option maxRecDepth 100000
open Go.Shelf
attribute [local go_sem] Oper.semAt_some
end Go.Proofs.YtdgplekokdeafaaGreat
/- frost: contracts as the laws use them. -/
namespace Go.Proofs.YtdgplekokdeafaaGreat
open Go.RowKit
set_option maxRecDepth 100000
theorem Own.slC {α : Type} {enc : α -> List Value} {e : TypeId} {sz base : Nat} {w : World} {v : Value} {l : List α} (h : Own enc e sz base w v l) (hsz : ∀ x, (enc x).length = sz) : ∃ (a : Option Addr) (c : Nat), v = .slice a l.length c /\ l.length <= c /\ Sl enc sz base w.heap.size w (.slice a l.length c) l := by
 have h1 := h.sl hsz
 obtain ⟨a, c, rfl⟩ := h1.any
 refine ⟨a, c, rfl, ?_, h1⟩
 obtain ⟨h0, h2⟩ := h
 rcases h2 with ⟨e2, hn⟩ | ⟨g, cap, cur, e2, hb, hh, hnc, hcm, hcs, htk⟩
 ·
  injection e2 with e3 e4 e5
  omega
 injection e2 with e3 e4 e5
 omega
def DaysS (sb : Nat) (most : Int) (frost : Bool) (w : World) : Ending -> World -> Prop := fun e w' => ∃ (l : List Wea) (a : Option Addr) (c lo hi : Nat), e = .returned (.slice a l.length c) /\ (w.heap.size <= lo /\ hi <= w'.heap.size /\ l.length <= c) /\ Sl weaEnc 6 lo hi w' (.slice a l.length c) l /\ (l.length : Int) <= most /\ (∀ d ∈ l, weaErr d = 0 /\ (frost = true -> 0 <= d.cold.lo)) /\ SeedAt w' sb /\ w.grownBy w' (some sb)
theorem daysOf_s (sb : Nat) (most : Int) (frost : Bool) (w : World) (hs : SeedAt w sb) (hm : 0 <= most /\ most <= 100) : Calls Tryz.prog 7 #[.pointer (some ⟨sb, 0, none⟩), .int .i64 most, .bool frost] w (DaysS sb most frost w) := by
 refine (daysOf_c sb most frost w hs hm).mono ?_
 rintro e w' ⟨vo, l, rfl, ho, h1, h2, h3, h4⟩
 obtain ⟨a, c, rfl, hc, hsl⟩ := ho.slC (fun _ => rfl)
 exact ⟨l, a, c, _, _, rfl, ⟨Nat.le_refl _, Nat.le_refl _, hc⟩, hsl, h1, h2, h3, h4⟩
theorem allE_of {l : Fro} {x : Ice} {ds : List Wea} (h1 : froErr l = 0) (h2 : iceErr x = 0) (h3 : ∀ d ∈ ds, weaErr d = 0) (h4 : ds.length <= 400) : allE l x ds = 0 := by
 rw [allE, if_neg (not_not_intro h1), if_neg (not_not_intro h2), daysE, if_neg (by omega)]
 exact daysErr_ofF ds h3
theorem inI_K {t : Tr} {x : Ice} {k m : Int} (h : inI t x) (hx : IceK x k m) : TrK t k m := by
 obtain ⟨⟨⟨a1, a2⟩, b1, b2⟩, ⟨c1, c2⟩, s1, s2⟩ := h
 obtain ⟨⟨⟨p1, p2⟩, p3, p4⟩, ⟨⟨q1, q2⟩, q3, q4⟩, ⟨r1, r2⟩, ⟨u1, u2⟩, v1, v2⟩ := hx
 exact ⟨⟨by omega, by omega⟩, ⟨by omega, by omega⟩, by omega, by omega, by omega⟩
attribute [local go_sem] Oper.semAt_some
end Go.Proofs.YtdgplekokdeafaaGreat
/- the reference of frost: bearing. -/
namespace Go.Proofs.YtdgplekokdeafaaGreat
open Go.RowKit
set_option maxRecDepth 100000
open Go.Shelf
end Go.Proofs.YtdgplekokdeafaaGreat
