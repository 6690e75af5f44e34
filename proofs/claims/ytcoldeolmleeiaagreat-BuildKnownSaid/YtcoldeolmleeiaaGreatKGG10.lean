/- frost: the chapter's examples that every statement asks. -/
import Derived.Test.YtcoldeolmleeiaaGreatKF16
import Derived.Test.YtcoldeolmleeiaaGreatKKF1
import Derived.Maps.RangeWalk
set_option linter.unusedVariables false
set_option linter.unusedSimpArgs false
set_option linter.unnecessarySimpa false
namespace Go.Proofs.YtcoldeolmleeiaaGreat
open Go.RowKit
set_option maxRecDepth 100000
def lawF : Fro := ⟨100, 10, [⟨0, ⟨1000000, 1000000⟩⟩, ⟨100, ⟨400000, 500000⟩⟩], ⟨100000, 200000⟩, 300000, ⟨500000, 600000⟩⟩
def blk (b : Sp) : Ice := ⟨b, ⟨0, 0⟩, ⟨0, 0⟩, ⟨0, 0⟩⟩
open Go Go.ChangeMaps Go.MapKept Go.WideShapes
open Go.WideElems (Fit rd rg pl rd_key rd_val rg_of other_key)
open Go.Maps (Keyed)
section
variable {H : Type} {P : Program} {k : TypeId} {R : Value -> Option (DataW H × List MemPlace)} {w : World} {b r n : Nat} {D : DataW H} {left : Lit -> Bool} {cnt : Nat}
theorem setBlock_inj {w : World} {b : Nat} {es : Array MapEntry} {clock : Nat} {o1 o2 : Obj} (hb : w.heap[b]? = some (.map es clock)) (h : setBlock w b o1 = setBlock w b o2) : o1 = o2 := by
 have h1 := heap_setBlock_same hb o1
 have h2 := heap_setBlock_same hb o2
 rw [h] at h1
 exact Option.some.inj (h1.symm.trans h2)
theorem World.ranges.put {t e : TypeId} (h : w.ranges P k R b r n D left cnt) (K : Keyed P k) (ht : P.underlying t = some (.map k e)) (hn : n < maxLen) {key val : Value} {kl : Lit} {d : DataW H} {ps : List MemPlace}
  (hkey : keyOf P k key = some kl) (hv : R val = some (d, ps)) (hin : Maps.has D kl = true) :
  ∃ w', (Instr.mapUpdate t (.map (some b)) key val).run P w = .ok () w' /\ w'.ranges P k R b r n (D.put kl d) left cnt /\ w.grownBy w' (some b) := by
 have hne := h.ne
 obtain ⟨es, clock, since, seen, c0, hb, F, hs, rfl, hr, hold, rfl, hl1, hl2, hsc, hsk⟩ := h
 obtain ⟨es', clock', hrun, F', hput, _⟩ := Maps.fit_store (R' := R) K ht hb F (Nat.lt_of_le_of_lt hs hn) (fun _ _ _ _ hz => hz) hkey hv
 rcases K.find w hkey es.toList F.keys with ⟨h1, h2⟩ | ⟨j, e0, h1, h2, h3⟩
 ·
  obtain ⟨p, hp, hpk⟩ := List.any_eq_true.1 hin
  obtain ⟨x, hx, rfl⟩ := List.mem_map.1 (mem_sorted.1 hp)
  obtain ⟨y, hy⟩ := F.reads x hx
  have m1 := rd_key hy
  have e1 := WideAt.sameKey_eq hpk
  rw [rg_of hy] at e1
  rw [e1] at m1
  exact absurd (K.inj m1 hkey) (h2 x hx)
 have hj : es[j]? = some e0 := by simpa using h2
 have hrun2 : (Instr.mapUpdate t (.map (some b)) key val).run P w = .ok () (setBlock w b (.map (es.modify j (fun e' => { e' with key := key, val := val })) clock)) := by
  simp [Instr.mapUpdate, run_underlying ht, MapKept.run_getObj_map hb, K.check w false hkey, h1, hj, h3, K.stays w hkey, MapKept.run_setObj_map _ hb, Result.andThen, setBlock]
 have hob : Obj.map es' clock' = Obj.map (es.modify j (fun e' => { e' with key := key, val := val })) clock := by
  rw [hrun] at hrun2
  injection hrun2 with _ hw
  exact setBlock_inj hb hw
 injection hob with e1 e2
 subst e1 e2
 have hlist : (es.modify j (fun e' => { e' with key := key, val := val })).toList = es.toList.set j { e0 with key := key, val := val } := by rw [Array.toList_modify, modify_eq_set _ _ _ _ h2]
 have hjl : j < es.toList.length := (List.getElem?_eq_some_iff.1 h2).1
 -- each entry has the one at its place as its elder
 have eld : ∀ x' ∈ es.toList.set j { e0 with key := key, val := val }, ∃ x ∈ es.toList, x.born = x'.born /\ x.key = x'.key := by
  intro x' hx'
  obtain ⟨i, hi, ex⟩ := List.getElem_of_mem hx'
  rw [List.getElem_set] at ex
  split at ex
  ·
   subst ex
   exact ⟨e0, List.mem_of_getElem? h2, rfl, h3⟩
  · exact ⟨x', ex ▸ List.getElem_mem _, rfl, rfl⟩
 have yng : ∀ x ∈ es.toList, ∃ x' ∈ es.toList.set j { e0 with key := key, val := val }, x'.key = x.key := by
  intro x hx
  obtain ⟨i, hi, ex⟩ := List.getElem_of_mem hx
  by_cases e : j = i
  ·
   subst e
   refine ⟨{ e0 with key := key, val := val }, List.mem_of_getElem? (List.getElem?_set_self hjl), ?_⟩
   rw [List.getElem?_eq_getElem hi, ex] at h2
   obtain rfl := Option.some.inj h2
   exact h3.symm
  · exact ⟨x, List.mem_of_getElem? (i := i) (by rw [List.getElem?_set_ne e, List.getElem?_eq_getElem hi, ex]), rfl⟩
 have born : (es.toList.set j { e0 with key := key, val := val }).map (·.born) = es.toList.map (·.born) := by
  rw [List.map_set]
  refine List.ext_getElem? fun i => ?_
  rw [List.getElem?_set]
  split
  ·
   rename_i e
   subst e
   rw [if_pos (by simpa using hjl), List.getElem?_map, h2]
   rfl
  · rfl
 have rgk : ∀ x ∈ es.toList, ∀ x' ∈ es.toList.set j { e0 with key := key, val := val }, x'.key = x.key -> (rg P k R x').1 = (rg P k R x).1 := by
  intro x hx x' hx' ek
  obtain ⟨y, hy⟩ := F.reads x hx
  obtain ⟨y', hy'⟩ := F'.reads x' (by rw [hlist]; exact hx')
  have m1 := rd_key hy
  have m2 := rd_key hy'
  rw [ek] at m2
  rw [rg_of hy, rg_of hy']
  exact Option.some.inj (m2.symm.trans m1)
 refine ⟨_, hrun, ⟨_, _, since, seen, c0, heap_setBlock_same hb _, F', by simpa using hs, by rw [DataW.put_eq, hput], (heap_setBlock_other hb _ hne).trans hr, fun x hx => ?_, ?_, fun x hx => ?_, fun kl' hkl' => ?_, hsc, hsk⟩, ⟨rfl, rfl, rfl, by simp [setBlock], fun i _ hi => heap_setBlock_other hb _ (fun e => hi (by rw [e]))⟩⟩
 ·
  rw [hlist] at hx
  obtain ⟨x0, hx0, e1, _⟩ := eld x hx
  rw [← e1]
  exact hold x0 hx0
 ·
  have e1 : ∀ a : Array MapEntry, (leftOf a seen).size = ((a.toList.map (·.born)).filter fun q => !seen.contains q).length := fun a => by
   unfold leftOf
   rw [← Array.length_toList, Array.toList_filter, List.filter_map, List.length_map]
   rfl
  rw [e1, e1, hlist, born]
 ·
  rw [hlist] at hx
  obtain ⟨x0, hx0, e1, e2⟩ := eld x hx
  rw [rgk x0 hx0 x hx e2.symm, ← e1]
  exact hl1 x0 hx0
 obtain ⟨x0, hx0, rfl⟩ := hl2 kl' hkl'
 obtain ⟨x', hx', e1⟩ := yng x0 hx0
 exact ⟨x', by rw [hlist]; exact hx', rgk x0 hx0 x' hx' e1⟩
end
end Go.Proofs.YtcoldeolmleeiaaGreat
