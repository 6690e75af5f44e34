/- FrostKnown: the chapter's examples have the results given there; it takes no argument; the listed tables of the library read as the program's text lays them. -/
import Derived.Test.YtgkjicejaalijaaDoorTl1
import Derived.Test.YtgkjicejaalijaaDoorCards
import Derived.Test.YtgkjicejaalijaaDoorTie
import Derived.WalkKit
import Derived.ProofKit
import Derived.OpenShut
import Derived.LaidLaws
import Derived.LaidHandle
import Derived.Stop.LaidErr
import Derived.Stop.Joined
set_option linter.unusedVariables false
set_option linter.unusedSimpArgs false
set_option linter.unnecessarySimpa false
namespace Go.Proofs.YtgkjicejaalijaaDoor
open Go.ChangeShapes Go.WideShapes Go.ChangeAt Go.RowKit
set_option maxRecDepth 100000

theorem kOwn : ownKnob Tryd.prog.godebug = none := by kernel_rfl
/-- The cells of a table as a row lists it. -/
def tabCells (d : DataW Unit) : Array Value := match d with
  | .agg l => (l.map fun x => match x with | .lit (.int k z) => Value.int k z | _ => undef).toArray
  | _ => #[]
/-- A world that meets the row's condition: the settled one, the tables laid. -/
noncomputable def tabWorld (os : Os) : World :=
  let w0 := World.holding Tryd.prog os ⟨#[], #[], []⟩
  let put (g : Nat) (cs : Array Value) (h : Array Obj) : Array Obj := h.modify g fun
    | .cells _ t frozen => .cells cs t frozen
    | o => o
  { w0 with heap := put 1 (tabCells Rows.laid_internal_strconv_uint64pow10) (put 8 (tabCells Rows.laid_math_bits_deBruijn64tab) (put 7 (tabCells Rows.laid_math_bits_deBruijn32tab) w0.heap)) }
theorem tabWorld_met (os : Os) (args : Array Value) : laidMetH Tryd.prog Rows.frostKnownRow.laid ((tabWorld os).forCall (fun _ _ => 0) ⟨#[], args, []⟩).memory :=
  laidMetH_of_parts (laidMet_of_run' 8 (by kernel_rfl) (by kernel_rfl)) (by kernel_rfl)
theorem powG : Tryd.prog.globalNamed powName = some 1 := by kernel_rfl
theorem powGT : (Tryd.prog.globals[1]?).map (·.type) = some 200 := by kernel_rfl
theorem pow_tab {W : World} (h : laidMetH Tryd.prog Rows.frostKnownRow.laid W) : Lib.TabIs Tryd.prog W powName .u64 Lib.pow10Tab := by
  have h1 : laidMet Tryd.prog Rows.frostKnownRow.laid W := h
  have h2 : laidMet Tryd.prog ((powName, Lib.tabData .u64 Lib.pow10Tab) :: []) W := h1.tail.tail
  exact Lib.tabIs_of_head powG powGT Tryd.underlying200 Tryd.underlying123 (by kernel_rfl) (by kernel_rfl) h2
theorem pow_lt {W : World} (h : Lib.TabIs Tryd.prog W powName .u64 Lib.pow10Tab) : ∀ g, Tryd.prog.globalNamed powName = some g → g < W.heap.size := by
  intro g hg
  unfold Lib.TabIs World.var? at h
  rw [hg] at h
  simp only [Option.bind_some] at h
  rcases Nat.lt_or_ge g W.heap.size with h1 | h1
  · exact h1
  · rw [Array.getElem?_eq_none h1] at h
    simp at h
theorem known_lifted (os : Os) (started : os.Started) (H : Type) (enc : TypeId × Value → H) :
    ReturnsInHanded {} Tryd.checked os 3 .any (fun w args => (Rows.frostKnownSpec.pre enc Tryd.prog Tryd.f3 [] false w args ∧ laidMetH Tryd.prog Rows.frostKnownRow.laid w) ∧ sizedMet enc Tryd.prog Tryd.f3 (OpenSpec.ofChange Rows.frostKnownSpec) false w args)
      (Rows.frostKnownSpec.post enc Tryd.prog Tryd.f3 false true false false) := by
  refine returnsInHanded_of_change_and (C := Tryd.checked) (X := fun w _ => laidMetH Tryd.prog Rows.frostKnownRow.laid w) (fun _ _ _ hh h => h.of_heap hh) kOwn started (by kernel_rfl) Tryd.func3
    (ChangeSpec.witness_at (enc := enc) (C := Tryd.checked) (os := os) (X := fun w _ => laidMetH Tryd.prog Rows.frostKnownRow.laid w) false (tabWorld os) #[] 8 rfl (by kernel_rfl) (by kernel_rfl) (by kernel_rfl) (by kernel_rfl) (by kernel_rfl) (tabWorld_met os _)) ?_
  intro W base args ds gs before hval0 hW hcnd hL0 hL _
  have hW' := hW
  obtain ⟨p, q, hA0, hV, rfl, hfz, hnd⟩ := hW
  have hA : DataW.TrodAll enc Tryd.prog W 0 (fun _ => true) true Tryd.f3.params.toList args.toList ds p := hA0
  rw [Tryd.params3] at hA
  obtain ⟨rfl, rfl, rfl⟩ := trodAll_none hA
  obtain ⟨rfl, rfl⟩ := trodVars_none hV
  clear hA0 hval0
  simp only [List.append_nil] at hW'
  have ht := pow_tab hL
  refine (known_walk W ht (pow_lt ht)).mono fun e W' ⟨he, hg⟩ => ?_
  subst he
  have bel : Below W.heap.size W W' := ⟨hg.os, hg.tape, hg.output, hg.size, fun k hk => hg.block k hk (by simp)⟩
  exact ⟨_, rfl, _, _, _, [], _, [], hW', trodAll_mk1 (shut_bool Tryd.underlying4 _), trodAll_mk0, rfl, bel.frame _, fun h => by cases h⟩
theorem known_row : Rows.FrostKnownSaid :=
  OpenClaim.holds_of_wide 3 Tryd.f3 rfl rfl rfl rfl rfl rfl rfl ⟨rfl, rfl, rfl, rfl, rfl⟩ rfl rfl rfl rfl rfl (by kernel_rfl) Tryd.func3 (by kernel_rfl)
    (of_decide_eq_true (by kernel_rfl)) (by unfold Func.isWrapper; first | (rw [if_pos (by decide +kernel)]; kernel_rfl) | (rw [if_neg (by decide +kernel)]; exact ⟨rfl, rfl⟩))
    (fun os started H enc _ => known_lifted os started H enc)
theorem known_holds : Rows.FrostKnownCardSaid :=
  Claim7.holds_tied_plain_at .later [] [.data, .data, .data] true Rows.frostKnownCard.stood.harness true
    known_row (fun _ h => by cases h) (by kernel_rfl) (fun _ h => by cases h) frostKnown_row_tie rfl ⟨rfl, rfl⟩ (by kernel_rfl) rfl
    (fun f fn hf hfn => by
      obtain rfl : f = 3 := Option.some.inj ((show Tryd.prog.funcNamed Rows.frostKnownRow.func = some 3 by kernel_rfl).symm.trans hf) |>.symm
      obtain rfl : fn = Tryd.f3 := (Option.some.inj (Tryd.func3.symm.trans hfn)).symm
      exact ⟨by kernel_rfl, fun j t ht => by
        rw [Tryd.params3] at ht
        simp at ht⟩)
    (by kernel_rfl)
end Go.Proofs.YtgkjicejaalijaaDoor
