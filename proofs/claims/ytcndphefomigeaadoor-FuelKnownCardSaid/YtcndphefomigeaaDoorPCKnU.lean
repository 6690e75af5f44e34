/- FuelKnown: the chapter's examples have the results given there; it takes no argument; the listed tables of the library read as the program's text lays them. -/
import Derived.Test.YtcndphefomigeaaDoorPKn5
import Derived.Test.YtcndphefomigeaaDoorCards
import Derived.Test.YtcndphefomigeaaDoorTie
import Derived.WalkKit
import Derived.ProofKit
import Derived.OpenShut
import Derived.LaidLaws
import Derived.LaidHandle
import Derived.Stop.LaidErr
import Derived.Stop.Joined
set_option linter.unusedVariables false
set_option linter.unusedSimpArgs false
set_option linter.unnecessarySimpa false
namespace Go.Proofs.YtcndphefomigeaaDoor
open Go.ChangeShapes Go.WideShapes Go.ChangeAt Go.RowKit
set_option maxRecDepth 100000

theorem kOwn : ownKnob Tryd.prog.godebug = none := by kernel_rfl
/-- The cells of a table as a row lists it. -/
def tabCells (d : DataW Unit) : Array Value := match d with
  | .agg l => (l.map fun x => match x with | .lit (.int k z) => Value.int k z | .lit (.string s) => Value.string ⟨s.toArray⟩ | _ => undef).toArray
  | _ => #[]
/-- A world that meets the row's condition: the settled one, the tables laid. -/
noncomputable def tabWorld (os : Os) : World :=
  let w0 := World.holding Tryd.prog os ⟨#[], #[], []⟩
  let put (g : Nat) (cs : Array Value) (h : Array Obj) : Array Obj := h.modify g fun
    | .cells _ t frozen => .cells cs t frozen
    | o => o
  { w0 with heap := put 0 (tabCells Rows.laid_sastrugi_fuel_kinds) (put 1 (tabCells Rows.laid_internal_strconv_uint64pow10) (put 8 (tabCells Rows.laid_math_bits_deBruijn64tab) (put 7 (tabCells Rows.laid_math_bits_deBruijn32tab) w0.heap))) }
theorem tabWorld_met (os : Os) (args : Array Value) : laidMetH Tryd.prog Rows.fuelKnownRow.laid ((tabWorld os).forCall (fun _ _ => 0) ⟨#[], args, []⟩).memory :=
  laidMetH_of_parts (laidMet_of_run' 8 (by kernel_rfl) (by kernel_rfl)) (by kernel_rfl)
theorem powG : Tryd.prog.globalNamed powName = some 1 := by kernel_rfl
theorem powGT : (Tryd.prog.globals[1]?).map (·.type) = some 152 := by kernel_rfl
theorem pow_tab {W : World} (h : laidMetH Tryd.prog Rows.fuelKnownRow.laid W) : Lib.TabIs Tryd.prog W powName .u64 Lib.pow10Tab := by
  have h1 : laidMet Tryd.prog Rows.fuelKnownRow.laid W := h
  have h2 : laidMet Tryd.prog ((powName, Lib.tabData .u64 Lib.pow10Tab) :: ("sastrugi/fuel.kinds", Rows.laid_sastrugi_fuel_kinds) :: []) W := h1.tail.tail
  exact Lib.tabIs_of_head powG powGT Tryd.underlying152 Tryd.underlying88 (by kernel_rfl) (by kernel_rfl) h2
theorem pow_lt {W : World} (h : Lib.TabIs Tryd.prog W powName .u64 Lib.pow10Tab) : ∀ g, Tryd.prog.globalNamed powName = some g → g < W.heap.size := by
  intro g hg
  unfold Lib.TabIs World.var? at h
  rw [hg] at h
  simp only [Option.bind_some] at h
  rcases Nat.lt_or_ge g W.heap.size with h1 | h1
  · exact h1
  · rw [Array.getElem?_eq_none h1] at h
    simp at h
/-- An array of strings that reads as a list of texts holds these. -/
theorem cells_of_strs {H : Type} {enc : TypeId × Value → H} {P : Program} {w : World} {base : Nat} {sp : Nat → Bool} {held : Bool} {fuel : Nat} {t e : TypeId} {n : Nat} {cs : List Value} {ss : List (List UInt8)} {p : List MemPlace}
    (ht : P.underlying t = some (.array n e)) (he : P.underlying e = some .string) (hce : P.cellsOf e = 1) (hct : P.cellsOf t = n)
    (h : DataW.trod enc P w base sp held fuel t cs = some (.agg (ss.map fun s => .lit (.string s)), p)) : cs = ss.map fun s => Value.string ⟨s.toArray⟩ := by
  cases fuel with
  | zero => simp [DataW.trod] at h
  | succ fuel =>
    simp only [DataW.trod, ht, hce, hct, Nat.mul_one] at h
    split at h
    · rename_i hl
      obtain ⟨xs, hm, hx⟩ := Option.map_eq_some_iff.1 h
      have hxs : xs.map (·.1) = ss.map fun s => (DataW.lit (.string s) : DataW H) := by
        have := congrArg Prod.fst hx
        simpa using this
      have hxl : xs.length = n := by simpa using Lib.mapM_length hm
      have hzl : ss.length = n := by
        have := congrArg List.length hxs
        simp at this
        omega
      apply List.ext_getElem?
      intro i
      by_cases hi : i < n
      · obtain ⟨b, hb, hf⟩ := Lib.mapM_at hm i i (by simp [hi])
        obtain ⟨s, hc, rfl, _⟩ := DataW.trod_string he hf
        have h1 : cs[i]? = some (.string s) := by
          have := congrArg (·[0]?) hc
          simpa [List.getElem?_take, List.getElem?_drop] using this
        have h2 : (xs.map (·.1))[i]? = some (DataW.lit (.string s.data.toList) : DataW H) := by simp [hb]
        rw [hxs] at h2
        simp only [List.getElem?_map, Option.map_eq_some_iff, DataW.lit.injEq, Lit.string.injEq] at h2
        obtain ⟨z', hz', rfl⟩ := h2
        simp [h1, hz']
      · rw [List.getElem?_eq_none (by omega), List.getElem?_eq_none (by simp; omega)]
    · cases h
theorem knd_gv {W : World} (h : laidMetH Tryd.prog Rows.fuelKnownRow.laid W) : Gv W.heap.size W 0 kndC := by
  have h1 : laidMet Tryd.prog Rows.fuelKnownRow.laid W := h
  have h2 : laidMet Tryd.prog (("sastrugi/fuel.kinds", .agg ([[], [116, 97, 110, 107], [103, 114, 111, 117, 110, 100]].map fun s => .lit (.string s))) :: []) W := h1.tail.tail.tail
  obtain ⟨ps, ⟨g', t', cs, fuel, p, q, hg', ht', hvar, hd, _, _⟩, _⟩ := h2
  obtain rfl : 0 = g' := Option.some.inj ((show Tryd.prog.globalNamed "sastrugi/fuel.kinds" = some 0 by kernel_rfl).symm.trans hg')
  obtain rfl : 103 = t' := Option.some.inj ((show (Tryd.prog.globals[0]?).map (·.type) = some 103 by kernel_rfl).symm.trans ht')
  have hc := cells_of_strs Tryd.underlying103 Tryd.underlying9 (by kernel_rfl) (by kernel_rfl) hd
  have e : cs = kndC := by
    rw [← Array.toArray_toList (xs := cs), hc]
    rfl
  subst e
  unfold World.var? at hvar
  rw [hg'] at hvar
  simp only [Option.bind_some] at hvar
  split at hvar
  · rename_i cs t fz hh
    obtain rfl := Option.some.inj hvar
    exact ⟨⟨(Array.getElem?_eq_some_iff.1 hh).1, Nat.le_refl _⟩, t, fz, hh⟩
  · cases hvar
theorem known_lifted (os : Os) (started : os.Started) (H : Type) (enc : TypeId × Value → H) :
    ReturnsInHanded {} Tryd.checked os 3 .any (fun w args => (Rows.fuelKnownSpec.pre enc Tryd.prog Tryd.f3 [] false w args ∧ laidMetH Tryd.prog Rows.fuelKnownRow.laid w) ∧ sizedMet enc Tryd.prog Tryd.f3 (OpenSpec.ofChange Rows.fuelKnownSpec) false w args)
      (Rows.fuelKnownSpec.post enc Tryd.prog Tryd.f3 false true false false) := by
  refine returnsInHanded_of_change_and (C := Tryd.checked) (X := fun w _ => laidMetH Tryd.prog Rows.fuelKnownRow.laid w) (fun _ _ _ hh h => h.of_heap hh) kOwn started (by kernel_rfl) Tryd.func3
    (ChangeSpec.witness_at (enc := enc) (C := Tryd.checked) (os := os) (X := fun w _ => laidMetH Tryd.prog Rows.fuelKnownRow.laid w) false (tabWorld os) #[] 8 rfl (by kernel_rfl) (by kernel_rfl) (by kernel_rfl) (by kernel_rfl) (by kernel_rfl) (tabWorld_met os _)) ?_
  intro W base args ds gs before hval0 hW hcnd hL0 hL _
  have hW' := hW
  obtain ⟨p, q, hA0, hV, rfl, hfz, hnd⟩ := hW
  have hA : DataW.TrodAll enc Tryd.prog W 0 (fun _ => true) true Tryd.f3.params.toList args.toList ds p := hA0
  rw [Tryd.params3] at hA
  obtain ⟨rfl, rfl, rfl⟩ := trodAll_none hA
  obtain ⟨rfl, rfl⟩ := trodVars_none hV
  clear hA0 hval0
  simp only [List.append_nil] at hW'
  have ht := pow_tab hL
  refine (known_walk W ht (pow_lt ht) (knd_gv hL)).mono fun e W' ⟨he, hg⟩ => ?_
  subst he
  have bel : Below W.heap.size W W' := ⟨hg.os, hg.tape, hg.output, hg.size, fun k hk => hg.block k hk (by simp)⟩
  exact ⟨_, rfl, _, _, _, [], _, [], hW', trodAll_mk1 (shut_bool Tryd.underlying4 _), trodAll_mk0, rfl, bel.frame _, fun h => by cases h⟩
theorem known_row : Rows.FuelKnownSaid :=
  OpenClaim.holds_of_wide 3 Tryd.f3 rfl rfl rfl rfl rfl rfl rfl ⟨rfl, rfl, rfl, rfl, rfl⟩ rfl rfl rfl rfl rfl (by kernel_rfl) Tryd.func3 (by kernel_rfl)
    (of_decide_eq_true (by kernel_rfl)) (by unfold Func.isWrapper; first | (rw [if_pos (by decide +kernel)]; kernel_rfl) | (rw [if_neg (by decide +kernel)]; exact ⟨rfl, rfl⟩))
    (fun os started H enc _ => known_lifted os started H enc)
theorem known_holds : Rows.FuelKnownCardSaid :=
  Claim7.holds_tied_plain_at .later [] [.data, .data, .data, .data] true Rows.fuelKnownCard.stood.harness true
    known_row (fun _ h => by cases h) (by kernel_rfl) (fun _ h => by cases h) fuelKnown_row_tie rfl ⟨rfl, rfl⟩ (by kernel_rfl) rfl
    (fun f fn hf hfn => by
      obtain rfl : f = 3 := Option.some.inj ((show Tryd.prog.funcNamed Rows.fuelKnownRow.func = some 3 by kernel_rfl).symm.trans hf) |>.symm
      obtain rfl : fn = Tryd.f3 := (Option.some.inj (Tryd.func3.symm.trans hfn)).symm
      exact ⟨by kernel_rfl, fun j t ht => by
        rw [Tryd.params3] at ht
        simp at ht⟩)
    (by kernel_rfl)
end Go.Proofs.YtcndphefomigeaaDoor
