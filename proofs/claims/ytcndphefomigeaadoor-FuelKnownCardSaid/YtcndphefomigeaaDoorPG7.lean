/- fuel: a row of a text. -/
import Derived.Test.YtcndphefomigeaaDoorPG4
import Derived.Test.YtcndphefomigeaaDoorPK1
import Derived.Test.YtcndphefomigeaaDoorPBun
import Derived.Test.YtcndphefomigeaaDoorPCheck
set_option linter.unusedVariables false
set_option linter.unusedSimpArgs false
set_option linter.unnecessarySimpa false
namespace Go.Proofs.YtcndphefomigeaaDoor
open Go.RowKit Go.Shelf
set_option maxRecDepth 100000
attribute [local go_sem] Oper.semAt_some

/-- Resources put aside, as one. -/
def rall (l : List Res) : Res := ⟨false, fun x => ∃ r ∈ l, r.X x, fun w => ∀ r ∈ l, r.P w, fun A B q hg hr h r hrl => r.st A B q hg (fun g e hx => hr g e ⟨r, hrl, hx⟩) (h r hrl)⟩
theorem other_rall {e : TypeId} {B : Nat} {l : List Res} (h : ∀ r ∈ l, Other e B r) : Other e B (rall l) where
  keep A C b hb ho hx hp r hr := (h r hr).keep A C b hb ho (fun hxr => hx ⟨r, hr, hxr⟩) (hp r hr)
  apart W g hp hx := by
    obtain ⟨r, hr, hxr⟩ := hx
    exact (h r hr).apart W g (hp r hr) hxr
section
variable {w0 A B : World} {K l : List Res} {r r' : Res}
theorem Bun.hide (h : Bun w0 (K ++ l) A) : Bun w0 (K ++ [rall l]) A := by
  have hd := List.pairwise_append.1 h.dis
  refine ⟨fun r hr => ?_, fun r hr g hx => ?_, ?_, h.gb⟩
  · rcases List.mem_append.1 hr with hr | hr
    · exact h.all r (List.mem_append_left _ hr)
    · obtain rfl := List.mem_singleton.1 hr
      exact fun r hr => h.all r (List.mem_append_right _ hr)
  · rcases List.mem_append.1 hr with hr | hr
    · exact h.bd r (List.mem_append_left _ hr) g hx
    · obtain rfl := List.mem_singleton.1 hr
      obtain ⟨r, hr, hx⟩ := hx
      exact ⟨(h.bd r (List.mem_append_right _ hr) g hx).1, fun hm => by cases hm⟩
  · refine List.pairwise_append.2 ⟨hd.1, List.pairwise_singleton _ _, fun a ha b hb hm g hx hy => ?_⟩
    obtain rfl := List.mem_singleton.1 hb
    obtain ⟨r, hr, hy⟩ := hy
    have hm' : a.mine = true := by
      rcases hm with hm | hm
      · exact hm
      · cases hm
    exact hd.2.2 a ha r hr (.inl hm') g hx hy
/-- The first resource has been turned; what was put aside comes back. -/
theorem Bun.show1 (h0 : Bun w0 (r :: (K ++ l)) A) (h : Bun w0 (r' :: (K ++ [rall l])) B) (hm : r'.mine = true) : Bun w0 (r' :: (K ++ l)) B := by
  have hd := h.dis
  rw [List.pairwise_cons] at hd
  have hd0 := h0.dis
  rw [List.pairwise_cons] at hd0
  have hmem : rall l ∈ r' :: (K ++ [rall l]) := by simp
  have hP := h.all _ hmem
  refine ⟨fun x hx => ?_, fun x hx g hg => ?_, ?_, h.gb⟩
  · rcases List.mem_cons.1 hx with rfl | hx
    · exact h.all _ (.head _)
    · rcases List.mem_append.1 hx with hx | hx
      · exact h.all x (.tail _ (List.mem_append_left _ hx))
      · exact hP x hx
  · rcases List.mem_cons.1 hx with rfl | hx
    · exact h.bd _ (.head _) g hg
    · rcases List.mem_append.1 hx with hx2 | hx2
      · exact h.bd x (.tail _ (List.mem_append_left _ hx2)) g hg
      · exact ⟨(h.bd _ hmem g ⟨x, hx2, hg⟩).1, (h0.bd x (.tail _ hx) g hg).2⟩
  · rw [List.pairwise_cons]
    refine ⟨fun x hx hmx g h1 h2 => ?_, hd0.2⟩
    rcases List.mem_append.1 hx with hx2 | hx2
    · exact hd.1 x (List.mem_append_left _ hx2) hmx g h1 h2
    · exact hd.1 (rall l) (by simp) (.inl hm) g h1 ⟨x, hx2, h2⟩
end
/-- A number as it stands in a row. -/
def numT (n : Int) : List UInt8 := 32 :: Lib.itoa n
theorem numT_len {n : Int} (h : -1000000000000 ≤ n ∧ n ≤ 1000000000000) : (numT n).length ≤ 22 := by
  have := itoa_len n (by omega)
  simp only [numT, List.length_cons]
  omega
theorem num_str (n : Int) : (ByteArray.mk #[32] ++ ⟨(Lib.itoa n).toArray⟩).data.toList = numT n := by simp [numT]
set_option maxHeartbeats 16000000 in
theorem row_c (w0 : World) (b g : Nat) (p v : Value) (x y : List UInt8) (s : ByteArray) (a0 a1 a2 a3 : Int) (LR : List Res) (w : World) (hB : Bun w0 [rbld 95 5 w0.heap.size b p v (Lib.byteCells x), rbox g 3 #[.int .i64 a0, .int .i64 a1, .int .i64 a2, .int .i64 a3], rtab Tryd.prog w0.heap.size powName .u64 Lib.pow10Tab, rall LR] w) (hp : p = .pointer none ∨ p = .pointer (some ⟨b, 0, none⟩)) (ho : ∀ r ∈ LR, Other 5 w0.heap.size r) (hx : x.length ≤ 10000000) (hsy : s.data.toList = y) (hs : y.length ≤ 1000000) (hb : (-1000000000000 ≤ a0 ∧ a0 ≤ 1000000000000) ∧ (-1000000000000 ≤ a1 ∧ a1 ≤ 1000000000000) ∧ (-1000000000000 ≤ a2 ∧ a2 ≤ 1000000000000) ∧ -1000000000000 ≤ a3 ∧ a3 ≤ 1000000000000) :
    Calls Tryd.prog 42 #[.string s, .slice (some ⟨g, 0, none⟩) 4 4, .pointer (some ⟨b, 0, none⟩)] w (fun e w' => e = .returned (.tuple #[]) ∧ ∃ v', Bun w0 [rbld 95 5 w0.heap.size b (.pointer (some ⟨b, 0, none⟩)) v' (Lib.byteCells (x ++ y ++ numT a0 ++ numT a1 ++ numT a2 ++ numT a3 ++ [10])), rbox g 3 #[.int .i64 a0, .int .i64 a1, .int .i64 a2, .int .i64 a3], rtab Tryd.prog w0.heap.size powName .u64 Lib.pow10Tab, rall LR] w' ∧ w.heap.size ≤ w'.heap.size) := by
  have hw0 := hB.gb.size
  have HPB := Lib.hid hp
  have HOT := Lib.hid ho
  have HSY := Lib.hid hsy
  clear hp ho hsy
  have hb0 := numT_len (n := a0) (by omega)
  have hb1 := numT_len (n := a1) (by omega)
  have hb2 := numT_len (n := a2) (by omega)
  have hb3 := numT_len (n := a3) (by omega)
  go_enter Tryd.func42, Tryd.ntmps42
  go_wp2_with fail
  refine (bun_strL hB HPB.out _ y (HSY.out) (by (try simp only [List.length_append, List.length_cons, List.length_nil]); omega) (List.forall_mem_cons.2 ⟨other_box (by decide), List.forall_mem_cons.2 ⟨other_tab (Nat.le_refl _), List.forall_mem_cons.2 ⟨other_rall HOT.out, fun _ h_ => by cases h_⟩⟩⟩)).mono ?_
  rintro e w1 ⟨rfl, vb2, F4, hs3⟩
  clear hB
  go_wp2_with fail
  refine wp_loop_rounds 5 ?_
  rw [rounds_succ]
  have b5 := F4.bx4 1 rfl
  go_wp2_with fail
  clear b5
  refine (itoa_c a0 _ (by omega) (F4.at 2 rfl : _ ∧ Lib.TabIs Tryd.prog _ powName .u64 Lib.pow10Tab).2).mono ?_
  rintro e w8 ⟨rfl, hg6⟩
  have hg6s := hg6.size
  (try simp at hg6s)
  have F9 := F4.gn hg6
  clear F4
  clear hg6
  have hst10 : ¬ (9223372036854775807 < 1 + (Lib.itoa a0).length) := by have := itoa_len a0 (by omega); omega
  go_wp2_with fail
  refine (bun_strL F9 (.inr rfl) _ (numT a0) (num_str _) (by (try simp only [List.length_append, List.length_cons, List.length_nil]); omega) (List.forall_mem_cons.2 ⟨other_box (by decide), List.forall_mem_cons.2 ⟨other_tab (Nat.le_refl _), List.forall_mem_cons.2 ⟨other_rall HOT.out, fun _ h_ => by cases h_⟩⟩⟩)).mono ?_
  rintro e w11 ⟨rfl, vb12, F14, hs13⟩
  clear F9
  go_wp2_with fail
  rw [rounds_succ]
  have b15 := F14.bx4 1 rfl
  go_wp2_with fail
  clear b15
  refine (itoa_c a1 _ (by omega) (F14.at 2 rfl : _ ∧ Lib.TabIs Tryd.prog _ powName .u64 Lib.pow10Tab).2).mono ?_
  rintro e w18 ⟨rfl, hg16⟩
  have hg16s := hg16.size
  (try simp at hg16s)
  have F19 := F14.gn hg16
  clear F14
  clear hg16
  have hst20 : ¬ (9223372036854775807 < 1 + (Lib.itoa a1).length) := by have := itoa_len a1 (by omega); omega
  go_wp2_with fail
  refine (bun_strL F19 (.inr rfl) _ (numT a1) (num_str _) (by (try simp only [List.length_append, List.length_cons, List.length_nil]); omega) (List.forall_mem_cons.2 ⟨other_box (by decide), List.forall_mem_cons.2 ⟨other_tab (Nat.le_refl _), List.forall_mem_cons.2 ⟨other_rall HOT.out, fun _ h_ => by cases h_⟩⟩⟩)).mono ?_
  rintro e w21 ⟨rfl, vb22, F24, hs23⟩
  clear F19
  go_wp2_with fail
  rw [rounds_succ]
  have b25 := F24.bx4 1 rfl
  go_wp2_with fail
  clear b25
  refine (itoa_c a2 _ (by omega) (F24.at 2 rfl : _ ∧ Lib.TabIs Tryd.prog _ powName .u64 Lib.pow10Tab).2).mono ?_
  rintro e w28 ⟨rfl, hg26⟩
  have hg26s := hg26.size
  (try simp at hg26s)
  have F29 := F24.gn hg26
  clear F24
  clear hg26
  have hst30 : ¬ (9223372036854775807 < 1 + (Lib.itoa a2).length) := by have := itoa_len a2 (by omega); omega
  go_wp2_with fail
  refine (bun_strL F29 (.inr rfl) _ (numT a2) (num_str _) (by (try simp only [List.length_append, List.length_cons, List.length_nil]); omega) (List.forall_mem_cons.2 ⟨other_box (by decide), List.forall_mem_cons.2 ⟨other_tab (Nat.le_refl _), List.forall_mem_cons.2 ⟨other_rall HOT.out, fun _ h_ => by cases h_⟩⟩⟩)).mono ?_
  rintro e w31 ⟨rfl, vb32, F34, hs33⟩
  clear F29
  go_wp2_with fail
  rw [rounds_succ]
  have b35 := F34.bx4 1 rfl
  go_wp2_with fail
  clear b35
  refine (itoa_c a3 _ (by omega) (F34.at 2 rfl : _ ∧ Lib.TabIs Tryd.prog _ powName .u64 Lib.pow10Tab).2).mono ?_
  rintro e w38 ⟨rfl, hg36⟩
  have hg36s := hg36.size
  (try simp at hg36s)
  have F39 := F34.gn hg36
  clear F34
  clear hg36
  have hst40 : ¬ (9223372036854775807 < 1 + (Lib.itoa a3).length) := by have := itoa_len a3 (by omega); omega
  go_wp2_with fail
  refine (bun_strL F39 (.inr rfl) _ (numT a3) (num_str _) (by (try simp only [List.length_append, List.length_cons, List.length_nil]); omega) (List.forall_mem_cons.2 ⟨other_box (by decide), List.forall_mem_cons.2 ⟨other_tab (Nat.le_refl _), List.forall_mem_cons.2 ⟨other_rall HOT.out, fun _ h_ => by cases h_⟩⟩⟩)).mono ?_
  rintro e w41 ⟨rfl, vb42, F44, hs43⟩
  clear F39
  go_wp2_with fail
  rw [rounds_succ]
  go_wp2_with fail
  refine (bun_byte F44 (.inr rfl) (by (try simp only [List.length_append, List.length_cons, List.length_nil]); omega) (List.forall_mem_cons.2 ⟨other_box (by decide), List.forall_mem_cons.2 ⟨other_tab (Nat.le_refl _), List.forall_mem_cons.2 ⟨other_rall HOT.out, fun _ h_ => by cases h_⟩⟩⟩)).mono ?_
  rintro e w45 ⟨rfl, vb46, F48, hs47⟩
  clear F44
  go_wp2_with fail
  have F49 : Bun w0 [rbld 95 5 w0.heap.size b (.pointer (some ⟨b, 0, none⟩)) vb46 (Lib.byteCells ((((((x ++ y) ++ (numT a0)) ++ (numT a1)) ++ (numT a2)) ++ (numT a3)) ++ [10])), rbox g 3 #[.int .i64 a0, .int .i64 a1, .int .i64 a2, .int .i64 a3], rtab Tryd.prog w0.heap.size powName .u64 Lib.pow10Tab, rall LR] _ := F48.pick [0, 1, 2, 3] (by decide) rfl
  clear F48
  exact bodyPost_end (v := .tuple #[]) (by simp [results, Tryd.results42, go_sem]) rfl (⟨rfl, _, F49, by first | omega | (simp; omega)⟩)

end Go.Proofs.YtcndphefomigeaaDoor
/- A book in hand, as a resource. -/
namespace Go.Proofs.YtcndphefomigeaaDoor
open Go.RowKit

/-- A book in blocks from lo below hi. -/
def HasB (lo hi : Nat) (w : World) (va vm : Value) (b : Bok) : Prop := Accs lo hi w va b.accs ∧ Mvs lo hi w vm b.mvs
def rbook (lo hi : Nat) (va vm : Value) (b : Bok) : Res := ⟨false, fun x => lo ≤ x ∧ x < hi, fun w => HasB lo hi w va vm b, fun _ _ _ hg hr h =>
  ⟨Sl.gb h.1 hg (fun g e => by have := hr g e; omega), Sl.gb h.2 hg (fun g e => by have := hr g e; omega)⟩⟩
section
variable {lo hi lo' hi' : Nat} {w w' : World} {va vm : Value} {b : Bok}
theorem HasB.wide (h : HasB lo hi w va vm b) (h1 : lo' ≤ lo) (h2 : hi ≤ hi') : HasB lo' hi' w va vm b := ⟨h.1.wide h1 h2, h.2.wide h1 h2⟩
theorem HasB.gn (h : HasB lo hi w va vm b) (hg : w.grownBy w' none) : HasB lo hi w' va vm b := ⟨h.1.gb hg (fun _ e => by cases e), h.2.gb hg (fun _ e => by cases e)⟩
theorem HasB.all (h : HasB lo hi w va vm b) (h2 : hi ≤ w.heap.size) : HasB 0 w.heap.size w va vm b := h.wide (Nat.zero_le _) h2
theorem HasB.drew (h : HasB lo hi w va vm b) : HasB lo hi w.drew va vm b := h
theorem HasB.alloc (h : HasB lo hi w va vm b) (o : Obj) : HasB lo hi (w.alloc o) va vm b := ⟨h.1.alloc o, h.2.alloc o⟩
theorem HasB.vals (h : HasB lo hi w va vm b) : ∃ a c a' c', va = .slice a b.accs.length c ∧ vm = .slice a' b.mvs.length c' := by
  obtain ⟨a, c, e⟩ := h.1.any
  obtain ⟨a', c', e'⟩ := h.2.any
  exact ⟨a, c, a', c', e, e'⟩
theorem HasB.acc {x ox n c i : Nat} (h : HasB lo hi w (.slice (some ⟨x, ox, none⟩) n c) vm b) (hi' : i < b.accs.length) : AccCell w x (ox + i * 6) (ga b.accs i) := Accs.cell h.1 hi'
theorem HasB.mov {y oy n c i : Nat} (h : HasB lo hi w va (.slice (some ⟨y, oy, none⟩) n c) b) (hi' : i < b.mvs.length) : MvCell w y (oy + i * 4) (gm b.mvs i) := Mvs.cell h.2 hi'
theorem Bun.book {w0 : World} (h : HasB lo hi w0 va vm b) (h2 : hi ≤ w0.heap.size) : Bun w0 [rbook lo hi va vm b] w0 :=
  ⟨fun r hr => (by rw [List.mem_singleton] at hr; subst hr; exact h), fun r hr g hx => (by rw [List.mem_singleton] at hr; subst hr; exact ⟨Nat.lt_of_lt_of_le hx.2 h2, fun e => by cases e⟩), List.pairwise_singleton _ _, gb_refl _ _⟩
end
end Go.Proofs.YtcndphefomigeaaDoor
