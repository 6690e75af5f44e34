/- A strings.Builder's text, and numbers as texts. -/
import Derived.Test.YtgkjicejaalijaaDoorBld2
import Derived.Test.YtgkjicejaalijaaDoorLays
import Derived.Lib.ItoaLen
import Derived.Lib.AppendIntMem
import Derived.Sort.Grow
set_option linter.unusedVariables false
set_option linter.unusedSimpArgs false
set_option linter.unnecessarySimpa false
namespace Go.Proofs.YtgkjicejaalijaaDoor
open Go.RowKit Go.Shelf
set_option maxRecDepth 100000

theorem gb_grown {A : World} (k : Nat) (os : Array Obj) : A.grownBy (Go.Sort.grow (A.drewN k) os) none := by
  refine ⟨rfl, rfl, rfl, ?_, fun i hi _ => ?_⟩
  · show A.heap.size ≤ (A.heap ++ os).size
    simp
  · show (A.heap ++ os)[i]? = A.heap[i]?
    rw [Array.getElem?_append_left hi]
/-- The name of the table of powers of ten. -/
def powName : String := (Rows.frostKnownRow.named).headD default
theorem itoa_c (n : Int) (w : World) (h0 : -9223372036854775808 ≤ n ∧ n ≤ 9223372036854775807) (htab : Lib.TabIs Tryd.prog w powName .u64 Lib.pow10Tab) :
    Calls Tryd.prog 67 #[.int .i64 n] w (Ret (.string ⟨(Lib.itoa n).toArray⟩) w) := by
  refine (Tryd.strconv_Itoa n h0.1 h0.2 w htab).mono ?_
  rintro e w' ⟨rfl, k, os, rfl⟩
  exact ⟨rfl, gb_grown k os⟩
theorem Bun.tab0 {w0 A : World} {L : List Res} {k : IntKind} {zs : List Int} {name : String} (h : Bun w0 L A) (ht : Lib.TabIs Tryd.prog A name k zs) (hg : ∀ g, Tryd.prog.globalNamed name = some g → g < w0.heap.size) : Bun w0 (rtab Tryd.prog w0.heap.size name k zs :: L) A := by
  refine ⟨fun r hr => ?_, fun r hr g hx => ?_, ?_, h.gb⟩
  · rcases List.mem_cons.1 hr with rfl | hr
    · exact ⟨fun g e => ⟨hg g e, h.gb.size⟩, ht⟩
    · exact h.all r hr
  · rcases List.mem_cons.1 hr with rfl | hr
    · have hx' : g < w0.heap.size := hx
      exact ⟨Nat.lt_of_lt_of_le hx' h.gb.size, fun e => by cases e⟩
    · exact h.bd r hr g hx
  · rw [List.pairwise_cons]
    refine ⟨fun r hr hm g hx hy => ?_, h.dis⟩
    have hx' : g < w0.heap.size := hx
    rcases hm with hm | hm
    · cases hm
    · have := (h.bd r hr g hy).2 hm
      omega
theorem bytes_app (x y : List UInt8) : Lib.byteCells (x ++ y) = Lib.byteCells x ++ Lib.byteCells y := by simp [Lib.byteCells]
theorem bun_strL {w0 A : World} {L : List Res} {b : Nat} {p v : Value} {x : List UInt8} (h : Bun w0 (rbld 130 5 w0.heap.size b p v (Lib.byteCells x) :: L) A) (hp : p = .pointer none ∨ p = .pointer (some ⟨b, 0, none⟩)) (s : ByteArray) (y : List UInt8) (hs : s.data.toList = y) (hlen : x.length + y.length ≤ 140737488355328) (hL : ∀ r ∈ L, Other 5 w0.heap.size r) :
    Calls Tryd.prog 66 #[.pointer (some ⟨b, 0, none⟩), .string s] A fun e w' => e = .returned (.tuple #[.int .i64 s.size, .nilIface]) ∧ ∃ v', Bun w0 (rbld 130 5 w0.heap.size b (.pointer (some ⟨b, 0, none⟩)) v' (Lib.byteCells (x ++ y)) :: L) w' ∧ A.heap.size ≤ w'.heap.size := by
  subst hs
  have e1 : s.data.toList.length = s.size := by rw [Array.length_toList]; rfl
  have h1 := bun_str h hp s (by rw [Lib.byteCells_length]; omega) hL
  rw [Lib.strCells_eq, ← bytes_app] at h1
  exact h1
theorem bun_string {w0 A : World} {L : List Res} {b : Nat} {p v : Value} {x : List UInt8} (h : Bun w0 (rbld 130 5 w0.heap.size b p v (Lib.byteCells x) :: L) A) (hp : p = .pointer none ∨ p = .pointer (some ⟨b, 0, none⟩)) :
    Calls Tryd.prog 69 #[.pointer (some ⟨b, 0, none⟩)] A fun e w' => e = .returned (.string ⟨x.toArray⟩) ∧ Bun w0 [] w' ∧ A.heap.size ≤ w'.heap.size := by
  have h1 := h.all _ (.head _)
  refine (Tryd.Builder_String_any_k w0.heap.size b x A (by rcases hp with rfl | rfl; exact rbld_is h1; exact rbld_at h1) h.gb.size).mono ?_
  rintro e w' ⟨rfl, _, hb, _⟩
  exact ⟨rfl, ⟨(fun _ h => by cases h), (fun _ h => by cases h), .nil, hb.os.trans h.gb.os, hb.tape.trans h.gb.tape, hb.output.trans h.gb.output, Nat.le_trans h.gb.size hb.size, (fun k hk hne => (hb.block k hk).trans (h.gb.block k hk hne))⟩, hb.size⟩
theorem itoa_len (n : Int) (h : -9223372036854775808 ≤ n ∧ n ≤ 9223372036854775807) : (Lib.itoa n).length ≤ 21 := Lib.itoa_length_le n h.1 h.2
end Go.Proofs.YtgkjicejaalijaaDoor
