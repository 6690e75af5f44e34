/- A strings.Builder's text, and numbers as texts. -/
import Derived.Test.YtcndphefomigeaaDoorPG3
import Derived.Test.YtcndphefomigeaaDoorLays
import Derived.Lib.ItoaLen
import Derived.Lib.AppendIntMem
import Derived.Sort.Grow
import Derived.Lib.FrozenHead2
set_option linter.unusedVariables false
set_option linter.unusedSimpArgs false
set_option linter.unnecessarySimpa false
namespace Go.Proofs.YtcndphefomigeaaDoor
open Go.RowKit Go.Shelf
set_option maxRecDepth 100000

theorem gb_grown {A : World} (k : Nat) (os : Array Obj) : A.grownBy (Go.Sort.grow (A.drewN k) os) none := by
  refine ⟨rfl, rfl, rfl, ?_, fun i hi _ => ?_⟩
  · show A.heap.size ≤ (A.heap ++ os).size
    simp
  · show (A.heap ++ os)[i]? = A.heap[i]?
    rw [Array.getElem?_append_left hi]
/-- The name of the table of powers of ten. -/
def powName : String := (Rows.fuelKnownRow.named).getD 1 default
theorem itoa_c (n : Int) (w : World) (h0 : -9223372036854775808 ≤ n ∧ n ≤ 9223372036854775807) (htab : Lib.TabIs Tryd.prog w powName .u64 Lib.pow10Tab) :
    Calls Tryd.prog 44 #[.int .i64 n] w (Ret (.string ⟨(Lib.itoa n).toArray⟩) w) := by
  refine (Tryd.strconv_Itoa n h0.1 h0.2 w htab).mono ?_
  rintro e w' ⟨rfl, k, os, rfl⟩
  exact ⟨rfl, gb_grown k os⟩
theorem Bun.tab0 {w0 A : World} {L : List Res} {k : IntKind} {zs : List Int} {name : String} (h : Bun w0 L A) (ht : Lib.TabIs Tryd.prog A name k zs) (hg : ∀ g, Tryd.prog.globalNamed name = some g → g < w0.heap.size) : Bun w0 (rtab Tryd.prog w0.heap.size name k zs :: L) A := by
  refine ⟨fun r hr => ?_, fun r hr g hx => ?_, ?_, h.gb⟩
  · rcases List.mem_cons.1 hr with rfl | hr
    · exact ⟨fun g e => ⟨hg g e, h.gb.size⟩, ht⟩
    · exact h.all r hr
  · rcases List.mem_cons.1 hr with rfl | hr
    · have hx' : g < w0.heap.size := hx
      exact ⟨Nat.lt_of_lt_of_le hx' h.gb.size, fun e => by cases e⟩
    · exact h.bd r hr g hx
  · rw [List.pairwise_cons]
    refine ⟨fun r hr hm g hx hy => ?_, h.dis⟩
    have hx' : g < w0.heap.size := hx
    rcases hm with hm | hm
    · cases hm
    · have := (h.bd r hr g hy).2 hm
      omega
theorem bytes_app (x y : List UInt8) : Lib.byteCells (x ++ y) = Lib.byteCells x ++ Lib.byteCells y := by simp [Lib.byteCells]
theorem bun_strL {w0 A : World} {L : List Res} {b : Nat} {p v : Value} {x : List UInt8} (h : Bun w0 (rbld 95 5 w0.heap.size b p v (Lib.byteCells x) :: L) A) (hp : p = .pointer none ∨ p = .pointer (some ⟨b, 0, none⟩)) (s : ByteArray) (y : List UInt8) (hs : s.data.toList = y) (hlen : x.length + y.length ≤ 140737488355328) (hL : ∀ r ∈ L, Other 5 w0.heap.size r) :
    Calls Tryd.prog 43 #[.pointer (some ⟨b, 0, none⟩), .string s] A fun e w' => e = .returned (.tuple #[.int .i64 s.size, .nilIface]) ∧ ∃ v', Bun w0 (rbld 95 5 w0.heap.size b (.pointer (some ⟨b, 0, none⟩)) v' (Lib.byteCells (x ++ y)) :: L) w' ∧ A.heap.size ≤ w'.heap.size := by
  subst hs
  have e1 : s.data.toList.length = s.size := by rw [Array.length_toList]; rfl
  have h1 := bun_str h hp s (by rw [Lib.byteCells_length]; omega) hL
  rw [Lib.strCells_eq, ← bytes_app] at h1
  exact h1
theorem bun_string {w0 A : World} {L : List Res} {b : Nat} {p v : Value} {x : List UInt8} (h : Bun w0 (rbld 95 5 w0.heap.size b p v (Lib.byteCells x) :: L) A) (hp : p = .pointer none ∨ p = .pointer (some ⟨b, 0, none⟩)) :
    Calls Tryd.prog 46 #[.pointer (some ⟨b, 0, none⟩)] A fun e w' => e = .returned (.string ⟨x.toArray⟩) ∧ Bun w0 [] w' ∧ A.heap.size ≤ w'.heap.size := by
  have h1 := h.all _ (.head _)
  refine (Tryd.Builder_String_any_k w0.heap.size b x A (by rcases hp with rfl | rfl; exact rbld_is h1; exact rbld_at h1) h.gb.size).mono ?_
  rintro e w' ⟨rfl, _, hb, _⟩
  exact ⟨rfl, ⟨(fun _ h => by cases h), (fun _ h => by cases h), .nil, hb.os.trans h.gb.os, hb.tape.trans h.gb.tape, hb.output.trans h.gb.output, Nat.le_trans h.gb.size hb.size, (fun k hk hne => (hb.block k hk).trans (h.gb.block k hk hne))⟩, hb.size⟩
theorem itoa_len (n : Int) (h : -9223372036854775808 ≤ n ∧ n ≤ 9223372036854775807) : (Lib.itoa n).length ≤ 21 := Lib.itoa_length_le n h.1 h.2
end Go.Proofs.YtcndphefomigeaaDoor
/- A strings.Builder: one byte more. -/
namespace Go.Proofs.YtcndphefomigeaaDoor
open Go.RowKit Go.Shelf
set_option maxRecDepth 100000

set_option maxHeartbeats 4000000 in
theorem bld_byte (B b : Nat) (bs : List Value) (c : Int) (w : World) (h : Lib.IsBuilderF 95 5 B b bs w) (hlen : bs.length + 1 ≤ 140737488355328) (hBw : B ≤ w.heap.size) :
    Calls Tryd.prog 45 #[.pointer (some ⟨b, 0, none⟩), .int .u8 c] w fun e w' => e = .returned .nilIface ∧ Lib.BuilderAtF 95 5 B b (.pointer (some ⟨b, 0, none⟩)) (bs ++ [.int .u8 c]) w' ∧ Below B w w' ∧ Lib.OthersKept 5 (some b) w w' := by
  obtain ⟨i0, hi, hz⟩ := Option.map_eq_some_iff.1 infoU8
  have hz0 : i0.zero = some (.int .u8 0) := congrArg (·.1) hz
  have hz1 : i0.size = 1 := congrArg (·.2.1) hz
  have hz2 : i0.bytes = 1 := congrArg (·.2.2) hz
  clear hz
  go_enter Tryd.func45, Tryd.ntmps45
  go_wp2_with (go_at_call 61; refine (bld_check B b bs _ h).mono ?_)
  rintro e w1 ⟨rfl, h1, hb1, hk1⟩
  obtain ⟨hB, v, hbk, hown, hne⟩ := h1
  have hbl := (Array.getElem?_eq_some_iff.1 hbk).1
  have c0 : w1.cell? ⟨b, 0, none⟩ = some (.pointer (some ⟨b, 0, none⟩)) := by rw [Lib.cell_of_heap hbk]; rfl
  have c1 : w1.cell? ⟨b, 1, none⟩ = some v := by rw [Lib.cell_of_heap hbk]; rfl
  have hs1 := hb1.size
  go_wp2_with (at_builtin; refine wpList_append_ownF _ rfl _ _ 93 rfl B 5 i0 (.int .u8 0) 1 1 Tryd.underlying93 hi hz0 hz1 hz2 rfl (by omega) _ _ _ rfl (hown.alloc _) ⟨w1.heap.size, 0, none⟩ 1 1 [.int .u8 c] rfl rfl ?c1 ?c2 ?c3 ?c4 ?c5 ?_)
  case c1 =>
    intro j u hj
    rcases j with _ | j
    · obtain rfl := Option.some.inj hj
      simp [Addr.add, World.cell?_alloc_new]
    · simp at hj
  case c2 => intro u hu; obtain rfl := List.mem_singleton.1 hu; rfl
  case c3 => unfold maxLen; omega
  case c4 => omega
  case c5 => simp; omega
  intro v' w2 hown' hgrow _
  have hb2 : w2.heap[b]? = some (.cells #[.pointer (some ⟨b, 0, none⟩), v] 95 (0, 0)) := (hgrow.block b (by simp; omega) (fun e => hne e.symm)).trans ((Below.heap_alloc w1 _ b hbl).trans hbk)
  have d0 : w2.cell? ⟨b, 0, none⟩ = some (.pointer (some ⟨b, 0, none⟩)) := by rw [Lib.cell_of_heap hb2]; rfl
  have d1 : w2.cell? ⟨b, 1, none⟩ = some v := by rw [Lib.cell_of_heap hb2]; rfl
  have f1 : w2.frozen? ⟨b, 1, none⟩ = false := Lib.frozen_of_heap hb2 1
  obtain ⟨ao, n', cap, rfl⟩ : ∃ ao n' cap, v' = .slice ao n' cap := by
    rcases hown'.2 with ⟨hv, _⟩ | ⟨g, cap, cur, fz, hv, _⟩
    · exact ⟨_, _, _, hv⟩
    · exact ⟨_, _, _, hv⟩
  go_wp2
  go_ret
  refine ⟨rfl, ?_, ?_, ((hk1.alloc _).grown hgrow (Lib.ownsRowF_kind (hown.alloc _))).setCell ⟨b, 1, none⟩ rfl _⟩
  · exact Lib.BuilderAtF.put (T := 95) (e := 5) hB hb2 (bs' := bs ++ [.int .u8 c]) (by simpa using hown') (by decide)
  · exact ((hb1.alloc (by omega) _).grown hgrow (by simp; omega) (fun k hk => (hown.lt k hk).1)).setCell (p := ⟨b, 1, none⟩) hB _
/-- .. of what is in hand. -/
theorem bun_byte {w0 A : World} {L : List Res} {b : Nat} {p v : Value} {x : List UInt8} (h : Bun w0 (rbld 95 5 w0.heap.size b p v (Lib.byteCells x) :: L) A) (hp : p = .pointer none ∨ p = .pointer (some ⟨b, 0, none⟩)) (hlen : x.length + 1 ≤ 140737488355328) (hL : ∀ r ∈ L, Other 5 w0.heap.size r) :
    Calls Tryd.prog 45 #[.pointer (some ⟨b, 0, none⟩), .int .u8 10] A fun e w' => e = .returned .nilIface ∧ ∃ v', Bun w0 (rbld 95 5 w0.heap.size b (.pointer (some ⟨b, 0, none⟩)) v' (Lib.byteCells (x ++ [10])) :: L) w' ∧ A.heap.size ≤ w'.heap.size := by
  have h1 := h.all _ (.head _)
  refine (bld_byte w0.heap.size b (Lib.byteCells x) 10 A (by rcases hp with rfl | rfl; exact rbld_is h1; exact rbld_at h1) (by rw [Lib.byteCells_length]; exact hlen) h.gb.size).mono ?_
  rintro e w' ⟨rfl, h2, h3, h4⟩
  obtain ⟨v', hB⟩ := h.bld (Nat.le_refl _) h2 h3 h4 hL
  refine ⟨rfl, v', ?_, h3.size⟩
  rw [bytes_app]
  exact hB
end Go.Proofs.YtcndphefomigeaaDoor
