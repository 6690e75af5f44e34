/- build: a job as it lies in memory; what else is read beside it; errors that are put together. -/
import Derived.Test.YtokelpmngahnoaaJ0
import Derived.Test.YtokelpmngahnoaaSlc
set_option linter.unusedVariables false
set_option linter.unusedSimpArgs false
set_option linter.unnecessarySimpa false
namespace Go.Proofs.Ytokelpmngahnoaa
open Go.RowKit
set_option maxRecDepth 100000

/-- A slice whose capacity is enough. -/
def CapOk : Value → Prop
  | .slice _ n c => n ≤ c
  | _ => False
/-- What comes before each of some tasks, as slices from lo below hi. -/
def Afs (lo hi : Nat) (w : World) (l : List Tsk) : Prop := ∀ t ∈ l, Sl intEnc 1 lo hi w t.av t.af ∧ CapOk t.av
def rafs (lo hi : Nat) (l : List Tsk) : Res := ⟨false, fun x => lo ≤ x ∧ x < hi, fun w => Afs lo hi w l, fun _ _ _ hg hr h t ht => ⟨Sl.gb (h t ht).1 hg (fun g e => by have := hr g e; omega), (h t ht).2⟩⟩
/-- A job from lo below hi. -/
structure JobAt (lo hi : Nat) (w : World) (vm vt : Value) (ms : List Mch) (ts : List Tsk) : Prop where
  m : Sl mchEnc 3 lo hi w vm ms
  t : Sl tskEnc 8 lo hi w vt ts
  af : Afs lo hi w ts
theorem Afs.gb {lo hi : Nat} {w w' : World} {l : List Tsk} {r : Option Nat} (h : Afs lo hi w l) (hg : w.grownBy w' r) (hr : ∀ g, r = some g → g < lo ∨ hi ≤ g) : Afs lo hi w' l := fun t ht => ⟨Sl.gb (h t ht).1 hg hr, (h t ht).2⟩
theorem JobAt.gb {lo hi : Nat} {w w' : World} {vm vt : Value} {ms : List Mch} {ts : List Tsk} {r : Option Nat} (h : JobAt lo hi w vm vt ms ts) (hg : w.grownBy w' r) (hr : ∀ g, r = some g → g < lo ∨ hi ≤ g) : JobAt lo hi w' vm vt ms ts :=
  ⟨h.m.gb hg hr, h.t.gb hg hr, h.af.gb hg hr⟩
/-- A task's slice. -/
theorem Afs.open {lo hi : Nat} {w : World} {l : List Tsk} {t : Tsk} {k : Nat} (h : Afs lo hi w l) (hk : l[k]? = some t) : ∃ (a : Option Addr) (c : Nat), t.av = .slice a t.af.length c ∧ t.af.length ≤ c ∧ Sl intEnc 1 lo hi w (.slice a t.af.length c) t.af := by
  obtain ⟨h1, h2⟩ := h t (List.mem_of_getElem? hk)
  obtain ⟨a, c, e⟩ := h1.any
  rw [e] at h1 h2
  exact ⟨a, c, e, h2, h1⟩
/-- A literal of numbers, read as a list. -/
theorem slI_of {w : World} {g : Nat} {t : TypeId} {cs : Array Value} (l : List Int) (c n : Nat) (h : Bk w g t cs) (hcs : cs.toList = l.map (Value.int .i64)) (hn : l.length = n) (hl : n ≤ 1000) : Sl intEnc 1 g (g + 1) w (.slice (some ⟨g, 0, none⟩) n c) l := by
  subst hn
  refine ⟨by unfold maxLen; omega, _, c, rfl, .inr ⟨g, 0, rfl, Nat.le_refl _, by omega, fun i x hi j u hj => ?_⟩⟩
  rw [h.cell, ← Array.getElem?_toList, hcs, List.getElem?_map]
  cases j with
  | zero =>
    simp only [intEnc, List.getElem?_cons_zero, Option.some.injEq] at hj
    subst hj
    simp [hi]
  | succ j => simp [intEnc] at hj
def wth (n lo hi : Int) : Bool := decide (lo ≤ n ∧ n ≤ hi)
theorem wth_t {n lo hi : Int} (h : wth n lo hi = true) : lo ≤ n ∧ n ≤ hi := by simpa [wth] using h
theorem wth_f {n lo hi : Int} (h : wth n lo hi = false) : ¬ (lo ≤ n ∧ n ≤ hi) := by simpa [wth] using h
def unl (b : Bool) (e : Int) : Int := if b = true then 0 else e
/-- The first error of some. -/
def fstE : List Int → Int
  | [] => 0
  | e :: l => if ¬ e = 0 then e else fstE l
theorem unl_t {b : Bool} {e : Int} (h : b = true) : unl b e = 0 := by rw [unl, if_pos h]
theorem unl_f {b : Bool} {e : Int} (h : b = false) : unl b e = e := by rw [unl, h]; rfl
end Go.Proofs.Ytokelpmngahnoaa
