/- fuel: what the chapter's examples use. -/
import Derived.Test.YtcndphefomigeaaDoorPG9
import Derived.Test.YtcndphefomigeaaDoorPBal1
import Derived.Test.YtcndphefomigeaaDoorPG10
import Derived.Test.YtcndphefomigeaaDoorPG1
import Derived.Test.YtcndphefomigeaaDoorPG11
set_option linter.unusedVariables false
set_option linter.unusedSimpArgs false
set_option linter.unnecessarySimpa false
namespace Go.Proofs.YtcndphefomigeaaDoor
open Go.RowKit Go.Shelf
set_option maxRecDepth 100000
attribute [local go_sem] Oper.semAt_some

theorem Bk.bx18 {A : World} {g : Nat} {t : TypeId} {a0 a1 a2 a3 a4 a5 a6 a7 a8 a9 a10 a11 a12 a13 a14 a15 a16 a17 : Value} (b : Bk A g t #[a0, a1, a2, a3, a4, a5, a6, a7, a8, a9, a10, a11, a12, a13, a14, a15, a16, a17]) : (A.cell? ⟨g, 0, none⟩ = some a0 ∧ A.cell? ⟨g, 1, none⟩ = some a1 ∧ A.cell? ⟨g, 2, none⟩ = some a2 ∧ A.cell? ⟨g, 3, none⟩ = some a3 ∧ A.cell? ⟨g, 4, none⟩ = some a4 ∧ A.cell? ⟨g, 5, none⟩ = some a5 ∧ A.cell? ⟨g, 6, none⟩ = some a6 ∧ A.cell? ⟨g, 7, none⟩ = some a7 ∧ A.cell? ⟨g, 8, none⟩ = some a8 ∧ A.cell? ⟨g, 9, none⟩ = some a9 ∧ A.cell? ⟨g, 10, none⟩ = some a10 ∧ A.cell? ⟨g, 11, none⟩ = some a11 ∧ A.cell? ⟨g, 12, none⟩ = some a12 ∧ A.cell? ⟨g, 13, none⟩ = some a13 ∧ A.cell? ⟨g, 14, none⟩ = some a14 ∧ A.cell? ⟨g, 15, none⟩ = some a15 ∧ A.cell? ⟨g, 16, none⟩ = some a16 ∧ A.cell? ⟨g, 17, none⟩ = some a17) ∧ (A.frozen? ⟨g, 0, none⟩ = false ∧ A.frozen? ⟨g, 1, none⟩ = false ∧ A.frozen? ⟨g, 2, none⟩ = false ∧ A.frozen? ⟨g, 3, none⟩ = false ∧ A.frozen? ⟨g, 4, none⟩ = false ∧ A.frozen? ⟨g, 5, none⟩ = false ∧ A.frozen? ⟨g, 6, none⟩ = false ∧ A.frozen? ⟨g, 7, none⟩ = false ∧ A.frozen? ⟨g, 8, none⟩ = false ∧ A.frozen? ⟨g, 9, none⟩ = false ∧ A.frozen? ⟨g, 10, none⟩ = false ∧ A.frozen? ⟨g, 11, none⟩ = false ∧ A.frozen? ⟨g, 12, none⟩ = false ∧ A.frozen? ⟨g, 13, none⟩ = false ∧ A.frozen? ⟨g, 14, none⟩ = false ∧ A.frozen? ⟨g, 15, none⟩ = false ∧ A.frozen? ⟨g, 16, none⟩ = false ∧ A.frozen? ⟨g, 17, none⟩ = false) ∧ g < A.heap.size := ⟨⟨b.cell 0, b.cell 1, b.cell 2, b.cell 3, b.cell 4, b.cell 5, b.cell 6, b.cell 7, b.cell 8, b.cell 9, b.cell 10, b.cell 11, b.cell 12, b.cell 13, b.cell 14, b.cell 15, b.cell 16, b.cell 17⟩, ⟨b.frozen 0, b.frozen 1, b.frozen 2, b.frozen 3, b.frozen 4, b.frozen 5, b.frozen 6, b.frozen 7, b.frozen 8, b.frozen 9, b.frozen 10, b.frozen 11, b.frozen 12, b.frozen 13, b.frozen 14, b.frozen 15, b.frozen 16, b.frozen 17⟩, b.lt⟩
theorem Bun.bx18 {w0 A : World} {L : List Res} (h : Bun w0 L A) (i : Nat) {g : Nat} {t : TypeId} {a0 a1 a2 a3 a4 a5 a6 a7 a8 a9 a10 a11 a12 a13 a14 a15 a16 a17 : Value} (hi : L[i]? = some (rbox g t #[a0, a1, a2, a3, a4, a5, a6, a7, a8, a9, a10, a11, a12, a13, a14, a15, a16, a17])) : (A.cell? ⟨g, 0, none⟩ = some a0 ∧ A.cell? ⟨g, 1, none⟩ = some a1 ∧ A.cell? ⟨g, 2, none⟩ = some a2 ∧ A.cell? ⟨g, 3, none⟩ = some a3 ∧ A.cell? ⟨g, 4, none⟩ = some a4 ∧ A.cell? ⟨g, 5, none⟩ = some a5 ∧ A.cell? ⟨g, 6, none⟩ = some a6 ∧ A.cell? ⟨g, 7, none⟩ = some a7 ∧ A.cell? ⟨g, 8, none⟩ = some a8 ∧ A.cell? ⟨g, 9, none⟩ = some a9 ∧ A.cell? ⟨g, 10, none⟩ = some a10 ∧ A.cell? ⟨g, 11, none⟩ = some a11 ∧ A.cell? ⟨g, 12, none⟩ = some a12 ∧ A.cell? ⟨g, 13, none⟩ = some a13 ∧ A.cell? ⟨g, 14, none⟩ = some a14 ∧ A.cell? ⟨g, 15, none⟩ = some a15 ∧ A.cell? ⟨g, 16, none⟩ = some a16 ∧ A.cell? ⟨g, 17, none⟩ = some a17) ∧ (A.frozen? ⟨g, 0, none⟩ = false ∧ A.frozen? ⟨g, 1, none⟩ = false ∧ A.frozen? ⟨g, 2, none⟩ = false ∧ A.frozen? ⟨g, 3, none⟩ = false ∧ A.frozen? ⟨g, 4, none⟩ = false ∧ A.frozen? ⟨g, 5, none⟩ = false ∧ A.frozen? ⟨g, 6, none⟩ = false ∧ A.frozen? ⟨g, 7, none⟩ = false ∧ A.frozen? ⟨g, 8, none⟩ = false ∧ A.frozen? ⟨g, 9, none⟩ = false ∧ A.frozen? ⟨g, 10, none⟩ = false ∧ A.frozen? ⟨g, 11, none⟩ = false ∧ A.frozen? ⟨g, 12, none⟩ = false ∧ A.frozen? ⟨g, 13, none⟩ = false ∧ A.frozen? ⟨g, 14, none⟩ = false ∧ A.frozen? ⟨g, 15, none⟩ = false ∧ A.frozen? ⟨g, 16, none⟩ = false ∧ A.frozen? ⟨g, 17, none⟩ = false) ∧ g < A.heap.size := Bk.bx18 (h.at i hi)
/-- The book B, each row in a block of its own. -/
def BookX (w : World) : Ending → World → Prop := fun e w' => ∃ g g2 : Nat, e = .returned (.agg #[.slice (some ⟨g, 0, none⟩) 3 3, .slice (some ⟨g2, 0, none⟩) 1 1]) ∧ Bun w [rbox g 41 #[.string ⟨#[114, 97, 99, 107]⟩, .int .i64 1, .int .i64 1000, .int .i64 1000, .int .i64 600, .int .i64 610, .string ⟨#[99, 97, 109, 112]⟩, .int .i64 1, .int .i64 100, .int .i64 110, .int .i64 480, .int .i64 490, .string ⟨#[103, 114, 111, 117, 110, 100]⟩, .int .i64 2, .int .i64 0, .int .i64 0, .int .i64 0, .int .i64 5], rbox g2 43 #[.int .i64 0, .int .i64 1, .int .i64 390, .int .i64 400]] w'
def TankX (w : World) : Ending → World → Prop := fun e w' => ∃ g g2 : Nat, e = .returned (.agg #[.slice (some ⟨g, 0, none⟩) 3 3, .slice (some ⟨g2, 0, none⟩) 3 3]) ∧ Bun w [rbox g 3 #[.int .i64 0, .int .i64 1000, .int .i64 2000], rbox g2 3 #[.int .i64 0, .int .i64 5000, .int .i64 12000]] w'
theorem Sl.ofB {α : Type} {enc : α → List Value} {sz g n : Nat} {w : World} {t : TypeId} {cs : Array Value} (l : List α) (h : Bk w g t cs) (hc : cs = (l.flatMap enc).toArray) (hsz : ∀ x, (enc x).length = sz) (hn : l.length = n) (hm : n ≤ 1000) : Sl enc sz 0 w.heap.size w (.slice (some ⟨g, 0, none⟩) n n) l := by
  subst hn
  exact Sl.of_bk h hc hsz (by unfold maxLen; omega) (Nat.zero_le _) h.lt
theorem hasB_of {b : Bok} {g g2 n m : Nat} {w : World} {t t2 : TypeId} {cs cs2 : Array Value} (h : Bk w g t cs) (h2 : Bk w g2 t2 cs2) (hc : cs = (b.accs.flatMap accEnc).toArray) (hc2 : cs2 = (b.mvs.flatMap mvEnc).toArray) (hn : b.accs.length = n) (hm : b.mvs.length = m) (hn1 : n ≤ 1000) (hm1 : m ≤ 1000) :
    HasB 0 w.heap.size w (.slice (some ⟨g, 0, none⟩) n n) (.slice (some ⟨g2, 0, none⟩) m m) b :=
  ⟨Sl.ofB b.accs h hc (fun _ => rfl) hn hn1, Sl.ofB b.mvs h2 hc2 (fun _ => rfl) hm hm1⟩
theorem names_of {b : Bok} (h : b.accs.all (fun a => decide (a.name.size ≤ 1000)) = true) : nameOk b.accs := by
  intro a ha
  have h1 := List.all_eq_true.1 h a ha
  have h2 := of_decide_eq_true h1
  unfold maxLen
  omega
theorem check_x {b : Bok} {k : Int} {va vm : Value} {w : World} (h : HasB 0 w.heap.size w va vm b) (hn : b.accs.all (fun a => decide (a.name.size ≤ 1000)) = true) (hk : checkE b = k) : Calls Tryd.prog 12 #[.agg #[va, vm]] w (Ret (.int .i64 k) w) := by
  have h1 := check_c 0 w.heap.size 0 w.heap.size va vm b w h.1 h.2 (names_of hn) (Nat.le_refl _) (Nat.le_refl _)
  rwa [hk] at h1
theorem vol_x {hs ls : List Int} {vh vl : Value} {a b : Int} {r : Value} {w : World} (h : Sl intEnc 1 0 w.heap.size w vh hs) (h2 : Sl intEnc 1 0 w.heap.size w vl ls) (hr : volV hs ls a b = r) : Calls Tryd.prog 5 #[.agg #[vh, vl], .agg #[.int .i64 a, .int .i64 b]] w (Ret r w) := by
  have h1 := volume_c 0 w.heap.size 0 w.heap.size vh vl hs ls a b w h h2 (Nat.le_refl _) (Nat.le_refl _)
  rwa [hr] at h1
theorem std_x {a b c d e f : Int} {r : Value} {w : World} (hr : stdV a b c d e f = r) : Calls Tryd.prog 9 #[.agg #[.int .i64 a, .int .i64 b], .agg #[.int .i64 c, .int .i64 d], .agg #[.int .i64 e, .int .i64 f]] w (Ret r w) := by
  have h1 := standard_c a b c d e f w
  rwa [hr] at h1
def BalX (w : World) : Ending → World → Prop := fun e w' => ∃ (a : Option Addr) (c lo hi : Nat), e = .returned (.tuple #[.slice a 3 c, .int .i64 0]) ∧ (w.heap.size ≤ lo ∧ hi ≤ w'.heap.size) ∧ Sl intEnc 1 lo hi w' (.slice a 3 c) [3, 7, 0] ∧ w.grownBy w' none
theorem bal_x1 {va vm vo vc vv : Value} {w : World} (h : HasB 0 w.heap.size w va vm bookB) (ho : Sl intEnc 1 0 w.heap.size w vo [1000, 100, 0]) (hc : Sl intEnc 1 0 w.heap.size w vc [605, 485, 0]) (hv : Sl intEnc 1 0 w.heap.size w vv [392]) : Calls Tryd.prog 29 #[.agg #[va, vm], .agg #[vo, vc, vv]] w (BalX w) := by
  refine (balance_c 0 w.heap.size va vm bookB 0 w.heap.size 0 w.heap.size 0 w.heap.size vo vc vv _ _ _ w h bookB_names (Nat.le_refl _) ho (Nat.le_refl _) hc (Nat.le_refl _) hv (Nat.le_refl _)).mono ?_
  rintro e w' ⟨v, rfl, hl, hg⟩
  rw [bal_l] at hl
  rw [bal_1]
  obtain ⟨a, c, rfl⟩ := hl.any
  exact ⟨a, c, _, _, rfl, ⟨Nat.le_refl _, Nat.le_refl _⟩, hl, hg⟩
theorem bal_x2 {va vm vo vc vv : Value} {w : World} (h : HasB 0 w.heap.size w va vm bookB) (ho : Sl intEnc 1 0 w.heap.size w vo [1000, 100, 0]) (hc : Sl intEnc 1 0 w.heap.size w vc [605, 485, 0]) (hv : Sl intEnc 1 0 w.heap.size w vv [397]) : Calls Tryd.prog 29 #[.agg #[va, vm], .agg #[vo, vc, vv]] w (fun e w' => ∃ v, e = .returned (.tuple #[v, .int .i64 12]) ∧ w.grownBy w' none) := by
  refine (balance_c 0 w.heap.size va vm bookB 0 w.heap.size 0 w.heap.size 0 w.heap.size vo vc vv _ _ _ w h bookB_names (Nat.le_refl _) ho (Nat.le_refl _) hc (Nat.le_refl _) hv (Nat.le_refl _)).mono ?_
  rintro e w' ⟨v, rfl, _, hg⟩
  rw [bal_2]
  exact ⟨v, rfl, hg⟩
def MisX (l : List Int) (w : World) : Ending → World → Prop := fun e w' => ∃ (a : Option Addr) (c lo hi : Nat), e = .returned (.tuple #[.slice a 3 c, .int .i64 0]) ∧ (w.heap.size ≤ lo ∧ hi ≤ w'.heap.size) ∧ Sl intEnc 1 lo hi w' (.slice a 3 c) l ∧ w.grownBy w' none
theorem mis_x {b : Bok} {l : List Int} {va vm : Value} {w : World} (h : HasB 0 w.heap.size w va vm b) (hn : b.accs.all (fun a => decide (a.name.size ≤ 1000)) = true) (h0 : checkE b = 0) (hl : verdL b = l) (h3 : l.length = 3) : Calls Tryd.prog 30 #[.agg #[va, vm]] w (MisX l w) := by
  refine (fMissing_c 0 w.heap.size va vm b w h (names_of hn) (Nat.le_refl _)).mono ?_
  rintro e w' (⟨h1, _⟩ | ⟨_, v, rfl, ho, hg⟩)
  · exact absurd h0 h1
  · rw [hl] at ho
    have hs := ho.sl (fun _ => rfl)
    obtain ⟨a, c, rfl⟩ := hs.any
    rw [h3] at hs ⊢
    exact ⟨a, c, _, _, rfl, ⟨Nat.le_refl _, Nat.le_refl _⟩, hs, hg⟩
theorem same_x {v v' : Value} {l l' : List Int} {lo hi lo' hi' : Nat} {w : World} (h : Sl intEnc 1 lo hi w v l) (h' : Sl intEnc 1 lo' hi' w v' l') (hl : sameB l l' = true) : Calls Tryd.prog 31 #[v, v'] w (Ret (.bool true) w) := by
  have h1 := same_c lo hi lo' hi' v v' l l' w h h'
  rwa [hl] at h1
set_option maxHeartbeats 8000000 in
theorem book_b  (w : World)  :
    Calls Tryd.prog 11 #[] w (BookX w) := by
  have F1 : Bun w [] w := Bun.nil _
  go_enter Tryd.func11, Tryd.ntmps11
  go_wp2_with fail
  have F2 := F1.new 38 #[.slice none 0 0, .slice none 0 0] (n := w.heap.size) (by simp)
  clear F1
  refine (one_c 1000 _).mono ?_
  rintro e w5 ⟨rfl, hg3⟩
  have hg3s := hg3.size
  (try simp at hg3s)
  have F6 := F2.gn hg3
  clear F2
  clear hg3
  go_wp2_with fail
  refine (span_c 600 610 _).mono ?_
  rintro e w9 ⟨rfl, hg7⟩
  have hg7s := hg7.size
  (try simp at hg7s)
  have F10 := F6.gn hg7
  clear F6
  clear hg7
  go_wp2_with fail
  refine (span_c 100 110 _).mono ?_
  rintro e w13 ⟨rfl, hg11⟩
  have hg11s := hg11.size
  (try simp at hg11s)
  have F14 := F10.gn hg11
  clear F10
  clear hg11
  go_wp2_with fail
  refine (span_c 480 490 _).mono ?_
  rintro e w17 ⟨rfl, hg15⟩
  have hg15s := hg15.size
  (try simp at hg15s)
  have F18 := F14.gn hg15
  clear F14
  clear hg15
  go_wp2_with fail
  refine (span_c 0 5 _).mono ?_
  rintro e w21 ⟨rfl, hg19⟩
  have hg19s := hg19.size
  (try simp at hg19s)
  have F22 := F18.gn hg19
  clear F18
  clear hg19
  go_wp2_with fail
  have F23 := F22.new 41 #[.string ⟨#[114, 97, 99, 107]⟩, .int .i64 1, .int .i64 1000, .int .i64 1000, .int .i64 600, .int .i64 610, .string ⟨#[99, 97, 109, 112]⟩, .int .i64 1, .int .i64 100, .int .i64 110, .int .i64 480, .int .i64 490, .string ⟨#[103, 114, 111, 117, 110, 100]⟩, .int .i64 2, .int .i64 0, .int .i64 0, .int .i64 0, .int .i64 5] (n := w21.heap.size) (by simp)
  clear F22
  refine (span_c 390 400 _).mono ?_
  rintro e w26 ⟨rfl, hg24⟩
  have hg24s := hg24.size
  (try simp at hg24s)
  have F27 := F23.gn hg24
  clear F23
  clear hg24
  have b28 := F27.bx2 1 rfl
  go_wp2_with fail
  clear b28
  have F29 := (F27.front 1 rfl rfl).pt2 (.slice (some ⟨w21.heap.size, 0, none⟩) 3 3) (.slice (some ⟨w26.heap.size, 0, none⟩) 1 1)
  clear F27
  have F30 := F29.new 43 #[.int .i64 0, .int .i64 1, .int .i64 390, .int .i64 400] (n := w26.heap.size) (by simp)
  clear F29
  have kb31 := F30.bx2 1 rfl
  go_wp2_with fail
  have F32 : Bun w [rbox w21.heap.size 41 #[.string ⟨#[114, 97, 99, 107]⟩, .int .i64 1, .int .i64 1000, .int .i64 1000, .int .i64 600, .int .i64 610, .string ⟨#[99, 97, 109, 112]⟩, .int .i64 1, .int .i64 100, .int .i64 110, .int .i64 480, .int .i64 490, .string ⟨#[103, 114, 111, 117, 110, 100]⟩, .int .i64 2, .int .i64 0, .int .i64 0, .int .i64 0, .int .i64 5], rbox w26.heap.size 43 #[.int .i64 0, .int .i64 1, .int .i64 390, .int .i64 400]] _ := F30.pick [2, 0] (by decide) rfl
  clear F30
  exact bodyPost_ret (v := .agg #[.slice (some ⟨w21.heap.size, 0, none⟩) 3 3, .slice (some ⟨w26.heap.size, 0, none⟩) 1 1]) (by simp [results, Tryd.results11, go_sem, kb31]) rfl (⟨_, _, rfl, F32⟩)

set_option maxHeartbeats 8000000 in
theorem tank_b  (w : World)  :
    Calls Tryd.prog 6 #[] w (TankX w) := by
  have F1 : Bun w [] w := Bun.nil _
  go_enter Tryd.func6, Tryd.ntmps6
  go_wp2_with fail
  have F2 := F1.new 29 #[.slice (some ⟨w.heap.size + 1, 0, none⟩) 3 3, .slice (some ⟨w.heap.size + 2, 0, none⟩) 3 3] (n := w.heap.size) (by simp)
  clear F1
  have F3 := F2.new 3 #[.int .i64 0, .int .i64 1000, .int .i64 2000] (n := (w.heap.size + 1)) (by simp)
  clear F2
  have F4 := F3.new 3 #[.int .i64 0, .int .i64 5000, .int .i64 12000] (n := (w.heap.size + 2)) (by simp)
  clear F3
  have kb5 := F4.bx2 2 rfl
  go_wp2_with fail
  have F6 : Bun w [rbox (w.heap.size + 1) 3 #[.int .i64 0, .int .i64 1000, .int .i64 2000], rbox (w.heap.size + 2) 3 #[.int .i64 0, .int .i64 5000, .int .i64 12000]] _ := F4.pick [1, 0] (by decide) rfl
  clear F4
  exact bodyPost_ret (v := .agg #[.slice (some ⟨w.heap.size + 1, 0, none⟩) 3 3, .slice (some ⟨w.heap.size + 2, 0, none⟩) 3 3]) (by simp [results, Tryd.results6, go_sem, kb5]) rfl (⟨_, _, rfl, F6⟩)

end Go.Proofs.YtcndphefomigeaaDoor
