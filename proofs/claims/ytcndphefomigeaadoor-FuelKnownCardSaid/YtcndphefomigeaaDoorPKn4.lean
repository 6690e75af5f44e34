/- fuel: the chapter's examples of books that are refined, of moves, of heating and of texts. -/
import Derived.Test.YtcndphefomigeaaDoorPKn3
import Derived.Test.YtcndphefomigeaaDoorPRefi
import Derived.Test.YtcndphefomigeaaDoorPPost
import Derived.Test.YtcndphefomigeaaDoorPG12
import Derived.Test.YtcndphefomigeaaDoorPWr2
set_option linter.unusedVariables false
set_option linter.unusedSimpArgs false
set_option linter.unnecessarySimpa false
namespace Go.Proofs.YtcndphefomigeaaDoor
open Go.RowKit Go.Shelf
set_option maxRecDepth 100000
attribute [local go_sem] Oper.semAt_some

/-- A literal's block, as a row of one's own. -/
theorem Bun.boxOwn {α : Type} {enc : α → List Value} {e t : TypeId} {sz b g n c : Nat} {cs : Array Value} {l : List α} {w0 A : World} {L : List Res} (h : Bun w0 (rbox g t cs :: L) A) (ho : Own enc e sz b A (.slice (some ⟨g, 0, none⟩) n c) l) : Bun w0 (rown enc e sz b (.slice (some ⟨g, 0, none⟩) n c) l :: L) A := by
  have hd := h.dis
  rw [List.pairwise_cons] at hd
  have hX : ∀ y, (rown enc e sz b (.slice (some ⟨g, 0, none⟩) n c) l).X y → y = g := fun y hy => by
    have hy' : some g = some y := hy
    injection hy' with e
    exact e.symm
  refine ⟨fun r hr => ?_, fun r hr y hy => ?_, ?_, h.gb⟩
  · rcases List.mem_cons.1 hr with rfl | hr
    · exact ho
    · exact h.all r (.tail _ hr)
  · rcases List.mem_cons.1 hr with rfl | hr
    · exact h.bd _ (.head _) y (hX y hy)
    · exact h.bd r (.tail _ hr) y hy
  · rw [List.pairwise_cons]
    exact ⟨fun r hr _ y hy => hd.1 r hr (.inl rfl) y (hX y hy), hd.2⟩
theorem own_litM {base g : Nat} {w : World} (h : Bk w g 43 #[.int .i64 0, .int .i64 1, .int .i64 390, .int .i64 400]) (hb : base ≤ g) : Own mvEnc 43 4 base w (.slice (some ⟨g, 0, none⟩) 1 1) [⟨0, 1, ⟨390, 400⟩⟩] :=
  ⟨rfl, .inr ⟨g, 1, _, rfl, hb, h, Nat.le_refl _, by simp [maxLen], rfl, rfl⟩⟩
def RefX (w : World) : Ending → World → Prop := fun e w' => ∃ (a1 : Option Addr) (c1 : Nat) (a2 : Option Addr) (c2 lo hi : Nat), e = .returned (.tuple #[.agg #[.slice a1 3 c1, .slice a2 1 c2], .int .i64 0]) ∧ (w.heap.size ≤ lo ∧ hi ≤ w'.heap.size) ∧ HasB lo hi w' (.slice a1 3 c1) (.slice a2 1 c2) bookF ∧ w.grownBy w' none
theorem ref_x {va vm : Value} {w : World} (h : HasB 0 w.heap.size w va vm bookB) : Calls Tryd.prog 32 #[.agg #[va, vm]] w (RefX w) := by
  refine (fref_c 0 w.heap.size 0 w.heap.size va vm bookB w h.1 h.2 (Nat.le_refl _) (Nat.le_refl _) bookB_names bookB_check).mono ?_
  rintro e w' ⟨a1, c1, a2, c2, lo, hi, rfl, hb, hh, hg⟩
  rw [ref_is] at hh
  exact ⟨a1, c1, a2, c2, lo, hi, rfl, hb, hh, hg⟩
def PosX (w : World) : Ending → World → Prop := fun e w' => ∃ (a1 : Option Addr) (c1 : Nat) (a2 : Option Addr) (c2 lo hi : Nat), e = .returned (.tuple #[.agg #[.slice a1 3 c1, .slice a2 2 c2], .int .i64 0]) ∧ (w.heap.size ≤ lo ∧ hi ≤ w'.heap.size) ∧ HasB lo hi w' (.slice a1 3 c1) (.slice a2 2 c2) (addM bookB mv3) ∧ w.grownBy w' none
theorem post_x {va vm : Value} {w : World} (h : HasB 0 w.heap.size w va vm bookB) : Calls Tryd.prog 33 #[.agg #[va, vm], .agg #[.int .i64 1, .int .i64 2, .int .i64 3, .int .i64 3]] w (PosX w) := by
  refine (fpost_c 0 w.heap.size 0 w.heap.size va vm bookB mv3 w h.1 h.2 (Nat.le_refl _) (Nat.le_refl _) bookB_names bookB_check bookP_e (by decide) (by decide)).mono ?_
  rintro e w' ⟨a1, c1, a2, c2, lo, hi, rfl, hb, hh, hg⟩
  exact ⟨a1, c1, a2, c2, lo, hi, rfl, hb, hh, hg⟩
theorem post_y {va vm : Value} {w : World} (h : HasB 0 w.heap.size w va vm bookB) : Calls Tryd.prog 33 #[.agg #[va, vm], .agg #[.int .i64 2, .int .i64 0, .int .i64 1, .int .i64 1]] w (Ret (.tuple #[.agg #[.slice none 0 0, .slice none 0 0], .int .i64 12]) w) := by
  have h1 := fpost_e2 0 w.heap.size 0 w.heap.size va vm bookB mv1 w h.1 h.2 (Nat.le_refl _) (Nat.le_refl _) bookB_names bookB_check (by rw [bookQ_e]; decide) (by decide) (by decide)
  rw [bookQ_e] at h1
  exact h1
theorem lasts_x {g g2 : Nat} {t t2 : TypeId} {w : World} (h : Bk w g t #[.int .i64 0, .int .i64 100, .int .i64 110, .int .i64 200, .int .i64 150, .int .i64 160]) (h2 : Bk w g2 t2 #[.int .i64 150, .int .i64 150, .int .i64 190, .int .i64 210, .int .i64 300, .int .i64 300]) : Calls Tryd.prog 34 #[.agg #[.int .i64 300, .int .i64 400], .slice (some ⟨g, 0, none⟩) 2 2, .slice (some ⟨g2, 0, none⟩) 3 3] w (Ret (.tuple #[.agg #[.int .i64 2, .int .i64 3], .int .i64 0]) w) := by
  have h1 := lasts_c 0 w.heap.size 0 w.heap.size (.slice (some ⟨g, 0, none⟩) 2 2) (.slice (some ⟨g2, 0, none⟩) 3 3) ⟨300, 400⟩ [⟨0, ⟨100, 110⟩⟩, ⟨200, ⟨150, 160⟩⟩] [⟨150, 150⟩, ⟨190, 210⟩, ⟨300, 300⟩] w (Sl.ofB (enc := bnEnc) _ h rfl (fun _ => rfl) rfl (by decide)) (Sl.ofB (enc := spEnc) _ h2 rfl (fun _ => rfl) rfl (by decide)) (fun a n c e => by injection e with _ e1 e2; subst e1 e2; unfold maxLen; omega) (Nat.le_refl _) (Nat.le_refl _)
  rw [lasts_is] at h1
  exact h1
theorem write_x {va vm : Value} {w : World} (h : HasB 0 w.heap.size w va vm bookB) (ht : Lib.TabIs Tryd.prog w powName .u64 Lib.pow10Tab) (hg : ∀ g, Tryd.prog.globalNamed powName = some g → g < w.heap.size) (hk : Gv w.heap.size w 0 kndC) : Calls Tryd.prog 17 #[.agg #[va, vm]] w (Ret (.tuple #[.string ⟨#[97, 99, 99, 111, 117, 110, 116, 32, 114, 97, 99, 107, 32, 116, 97, 110, 107, 32, 49, 48, 48, 48, 32, 49, 48, 48, 48, 32, 54, 48, 48, 32, 54, 49, 48, 10, 97, 99, 99, 111, 117, 110, 116, 32, 99, 97, 109, 112, 32, 116, 97, 110, 107, 32, 49, 48, 48, 32, 49, 49, 48, 32, 52, 56, 48, 32, 52, 57, 48, 10, 97, 99, 99, 111, 117, 110, 116, 32, 103, 114, 111, 117, 110, 100, 32, 103, 114, 111, 117, 110, 100, 32, 48, 32, 48, 32, 48, 32, 53, 10, 109, 111, 118, 101, 32, 48, 32, 49, 32, 51, 57, 48, 32, 52, 48, 48, 10]⟩, .int .i64 0]) w) := by
  have h1 := fwrite_c 0 w.heap.size va vm bookB w h bookB_names (Nat.le_refl _) ht hg hk
  rw [text_is, bookB_check] at h1
  exact h1
theorem Gv.now {hi g : Nat} {w : World} {cs : Array Value} (h : Gv hi w g cs) : Gv w.heap.size w g cs := ⟨⟨Nat.lt_of_lt_of_le h.1.1 h.1.2, Nat.le_refl _⟩, h.2⟩
set_option maxHeartbeats 32000000 in
theorem posted_c  (w : World) (ht : Lib.TabIs Tryd.prog w powName .u64 Lib.pow10Tab) (hg : ∀ g, Tryd.prog.globalNamed powName = some g → g < w.heap.size) (hk : Gv w.heap.size w 0 kndC) :
    Calls Tryd.prog 14 #[] w (Ret (.bool true) w) := by
  have F1 : Bun w [] w := Bun.nil _
  have HTB := Lib.hid ht
  have HKN := Lib.hid hk
  clear ht hk
  have F2 := F1.gv0 HKN.out rfl
  clear F1
  have F3 := Bun.tab0 F2 HTB.out hg
  clear F2
  go_enter Tryd.func14, Tryd.ntmps14
  go_wp2_with fail
  refine (book_b _).mono ?_
  rintro e w4 ⟨gA13, gM13, rfl, hB5⟩
  have hB5s := hB5.gb.size
  (try simp at hB5s)
  have F6 := F3.joinN (L2 := [rbox gA13 41 #[.string ⟨#[114, 97, 99, 107]⟩, .int .i64 1, .int .i64 1000, .int .i64 1000, .int .i64 600, .int .i64 610, .string ⟨#[99, 97, 109, 112]⟩, .int .i64 1, .int .i64 100, .int .i64 110, .int .i64 480, .int .i64 490, .string ⟨#[103, 114, 111, 117, 110, 100]⟩, .int .i64 2, .int .i64 0, .int .i64 0, .int .i64 0, .int .i64 5], rbox gM13 43 #[.int .i64 0, .int .i64 1, .int .i64 390, .int .i64 400]]) hB5 rfl
  clear F3
  clear hB5
  (try dsimp only [List.cons_append, List.nil_append] at F6)
  go_wp2_with fail
  refine (book_b _).mono ?_
  rintro e w7 ⟨gA14, gM14, rfl, hB8⟩
  have hB8s := hB8.gb.size
  (try simp at hB8s)
  have F9 := F6.joinN (L2 := [rbox gA14 41 #[.string ⟨#[114, 97, 99, 107]⟩, .int .i64 1, .int .i64 1000, .int .i64 1000, .int .i64 600, .int .i64 610, .string ⟨#[99, 97, 109, 112]⟩, .int .i64 1, .int .i64 100, .int .i64 110, .int .i64 480, .int .i64 490, .string ⟨#[103, 114, 111, 117, 110, 100]⟩, .int .i64 2, .int .i64 0, .int .i64 0, .int .i64 0, .int .i64 5], rbox gM14 43 #[.int .i64 0, .int .i64 1, .int .i64 390, .int .i64 400]]) hB8 rfl
  clear F6
  clear hB8
  (try dsimp only [List.cons_append, List.nil_append] at F9)
  go_wp2_with fail
  have F10 := F9.new 38 #[.slice (some ⟨gA13, 0, none⟩) 3 3, .slice (some ⟨gM13, 0, none⟩) 1 1] (n := w7.heap.size) (by simp)
  clear F9
  have F11 := F10.new 38 #[.slice (some ⟨gA14, 0, none⟩) 3 3, .slice (some ⟨gM14, 0, none⟩) 1 1] (n := (w7.heap.size + 1)) (by simp)
  clear F10
  have Fn_ := F11
  (try dsimp only [List.eraseIdx_cons_succ, List.eraseIdx_cons_zero] at Fn_)
  obtain ⟨w12, hx13, F15, hxs14⟩ := Fn_.name
  (try simp at hxs14)
  rw [hx13]
  clear hx13 F11 Fn_
  have F16 := F15.drew
  clear F15
  refine ru_begin (fun W => W.cell? ⟨w7.heap.size, 0, none⟩ = some (.slice (some ⟨gA13, 0, none⟩) 3 3)) 5 (by kernel_rfl) ?_ ?_
  · exact F16.cl 1 0 rfl rfl
  obtain ⟨wd18, hwd_⟩ : ∃ x : World, w12.drew = x := ⟨_, rfl⟩
  rw [hwd_] at F16 ⊢
  have wd18s : w12.heap.size ≤ wd18.heap.size := by rw [← hwd_]; exact Nat.le_refl _
  clear hwd_
  have hS17 := (F16.cl 1 0 rfl rfl)
  refine ru_t 0 [] ?_
  refine ru_t 1 [] ?_
  (try simp only [Act.put, List.setIfInBounds_toArray, List.set_cons_zero, List.set_cons_succ])
  clear hS17
  refine ru_one 2 rfl (by kernel_rfl) (fun K hK => ?_)
  go_simp
  refine (span_c 0 0 _).mono ?_
  rintro e w21 ⟨rfl, hg19⟩
  have hg19s := hg19.size
  (try simp at hg19s)
  have F22 := F16.gn hg19
  clear F16
  refine ru_back hK (by exact F22.cl 1 0 rfl rfl) (fun hHeld => ?_)
  clear hK K
  (try simp only [Act.put, List.setIfInBounds_toArray, List.set_cons_zero, List.set_cons_succ])
  refine ru_p 3 ?_
  (try simp only [Act.put, List.setIfInBounds_toArray, List.set_cons_zero, List.set_cons_succ])
  refine ru_p 4 ?_
  (try simp only [Act.put, List.setIfInBounds_toArray, List.set_cons_zero, List.set_cons_succ])
  refine ru_one 5 rfl (by kernel_rfl) (fun K hK => ?_)
  have kb_ := F22.bx18 4 rfl
  go_simp
  clear kb_
  have F23 := ((F22.front 4 rfl rfl).set 16 (.int .i64 0)).nf #[.string ⟨#[114, 97, 99, 107]⟩, .int .i64 1, .int .i64 1000, .int .i64 1000, .int .i64 600, .int .i64 610, .string ⟨#[99, 97, 109, 112]⟩, .int .i64 1, .int .i64 100, .int .i64 110, .int .i64 480, .int .i64 490, .string ⟨#[103, 114, 111, 117, 110, 100]⟩, .int .i64 2, .int .i64 0, .int .i64 0, .int .i64 0, .int .i64 5] rfl
  clear F22
  have F24 := (F23.set 17 (.int .i64 0)).nf #[.string ⟨#[114, 97, 99, 107]⟩, .int .i64 1, .int .i64 1000, .int .i64 1000, .int .i64 600, .int .i64 610, .string ⟨#[99, 97, 109, 112]⟩, .int .i64 1, .int .i64 100, .int .i64 110, .int .i64 480, .int .i64 490, .string ⟨#[103, 114, 111, 117, 110, 100]⟩, .int .i64 2, .int .i64 0, .int .i64 0, .int .i64 0, .int .i64 0] rfl
  clear F23
  refine ru_back_late hK (by kernel_rfl) ?_
  clear hK K
  (try simp only [Act.put, List.setIfInBounds_toArray, List.set_cons_zero, List.set_cons_succ])
  refine ru_done (by kernel_rfl) ?_
  have Fn_ := F24
  (try dsimp only [List.eraseIdx_cons_succ, List.eraseIdx_cons_zero] at Fn_)
  obtain ⟨w25, hx26, F28, hxs27⟩ := Fn_.name
  (try simp at hxs27)
  rw [hx26]
  clear hx26 F24 Fn_
  obtain ⟨w29, hx30, F32, hxs31⟩ := F28.name
  (try simp at hxs31)
  rw [hx30]
  clear hx30 F28
  have F33 := (F32.front 4 rfl rfl).boxOwn (own_litM (base := w.heap.size) ((F32.front 4 rfl rfl).at 0 rfl : Bk _ gM14 43 #[.int .i64 0, .int .i64 1, .int .i64 390, .int .i64 400]) (((F32.front 4 rfl rfl).ltAt 0 rfl _ rfl).2 rfl))
  clear F32
  go_wp2_with fail
  have F34 := F33.drew
  clear F33
  refine ru_begin (fun W => W.cell? ⟨(w7.heap.size + 1), 1, none⟩ = some (.slice (some ⟨gM14, 0, none⟩) 1 1)) 7 (by kernel_rfl) ?_ ?_
  · exact F34.cl 2 1 rfl rfl
  obtain ⟨wd36, hwd_⟩ : ∃ x : World, w29.drew = x := ⟨_, rfl⟩
  rw [hwd_] at F34 ⊢
  have wd36s : w29.heap.size ≤ wd36.heap.size := by rw [← hwd_]; exact Nat.le_refl _
  clear hwd_
  have hS35 := (F34.cl 2 1 rfl rfl)
  refine ru_t 0 [] ?_
  refine ru_t 1 [] ?_
  (try simp only [Act.put, List.setIfInBounds_toArray, List.set_cons_zero, List.set_cons_succ])
  clear hS35
  refine ru_one 2 rfl (by kernel_rfl) (fun K hK => ?_)
  go_simp
  refine (one_c 3 _).mono ?_
  rintro e w39 ⟨rfl, hg37⟩
  have hg37s := hg37.size
  (try simp at hg37s)
  have F40 := F34.gn hg37
  clear F34
  refine ru_back hK (by exact F40.cl 2 1 rfl rfl) (fun hHeld => ?_)
  clear hK K
  (try simp only [Act.put, List.setIfInBounds_toArray, List.set_cons_zero, List.set_cons_succ])
  refine ru_p 3 ?_
  (try simp only [Act.put, List.setIfInBounds_toArray, List.set_cons_zero, List.set_cons_succ])
  refine ru_one 4 rfl (by kernel_rfl) (fun K hK => ?_)
  go_simp
  have F41 := F40.new 43 #[.int .i64 1, .int .i64 2, .int .i64 3, .int .i64 3] (n := w39.heap.size) (by simp)
  clear F40
  refine ru_back hK (by exact F41.cl 3 1 rfl rfl) (fun hHeld => ?_)
  clear hK K
  (try simp only [Act.put, List.setIfInBounds_toArray, List.set_cons_zero, List.set_cons_succ])
  refine ru_one 5 rfl (by kernel_rfl) (fun K hK => ?_)
  refine step_app _ okMv rfl _ _ rfl w.heap.size (.slice (some ⟨gM14, 0, none⟩) 1 1) ([(⟨0, 1, ⟨390, 400⟩⟩ : Mv)]) [(⟨1, 2, ⟨3, 3⟩⟩ : Mv)] rfl (by exact (F41.at 1 rfl : Own mvEnc 43 4 w.heap.size _ (.slice (some ⟨gM14, 0, none⟩) 1 1) ([(⟨0, 1, ⟨390, 400⟩⟩ : Mv)]))) ⟨_, 0, none⟩ 1 1 rfl rfl (by decide) (news_of (F41.at 0 rfl : Bk _ w39.heap.size 43 #[.int .i64 1, .int .i64 2, .int .i64 3, .int .i64 3])) 2 (by rfl) (by omega) (by first | omega | (simp; omega)) _ rfl ?_
  intro g42 cap43 w44 hp45
  have hp45s := hp45.gb.size
  (try simp at hp45s)
  have F46 := (F41.front 1 rfl rfl).app hp45 (Nat.le_refl _)
  clear F41
  refine ru_back hK (by exact F46.cl 3 1 rfl rfl) (fun hHeld => ?_)
  clear hK K
  (try simp only [Act.put, List.setIfInBounds_toArray, List.set_cons_zero, List.set_cons_succ])
  refine ru_p 6 ?_
  (try simp only [Act.put, List.setIfInBounds_toArray, List.set_cons_zero, List.set_cons_succ])
  refine ru_one 7 rfl (by kernel_rfl) (fun K hK => ?_)
  have kb_ := F46.bx2 3 rfl
  go_simp
  clear kb_
  have F47 := ((F46.front 3 rfl rfl).set 1 (.slice (some ⟨g42, 0, none⟩) 2 cap43)).nf #[.slice (some ⟨gA14, 0, none⟩) 3 3, .slice (some ⟨g42, 0, none⟩) 2 cap43] rfl
  clear F46
  refine ru_back_late hK (by kernel_rfl) ?_
  clear hK K
  (try simp only [Act.put, List.setIfInBounds_toArray, List.set_cons_zero, List.set_cons_succ])
  refine ru_done (by kernel_rfl) ?_
  have Fn_ := (F47.drop 2 rfl)
  (try dsimp only [List.eraseIdx_cons_succ, List.eraseIdx_cons_zero] at Fn_)
  obtain ⟨w48, hx49, F51, hxs50⟩ := Fn_.name
  (try simp at hxs50)
  rw [hx49]
  clear hx49 F47 Fn_
  go_wp2_with fail
  refine (book_b _).mono ?_
  rintro e w52 ⟨gA28, gM28, rfl, hB53⟩
  have hB53s := hB53.gb.size
  (try simp at hB53s)
  have F54 := F51.joinN (L2 := [rbox gA28 41 #[.string ⟨#[114, 97, 99, 107]⟩, .int .i64 1, .int .i64 1000, .int .i64 1000, .int .i64 600, .int .i64 610, .string ⟨#[99, 97, 109, 112]⟩, .int .i64 1, .int .i64 100, .int .i64 110, .int .i64 480, .int .i64 490, .string ⟨#[103, 114, 111, 117, 110, 100]⟩, .int .i64 2, .int .i64 0, .int .i64 0, .int .i64 0, .int .i64 5], rbox gM28 43 #[.int .i64 0, .int .i64 1, .int .i64 390, .int .i64 400]]) hB53 rfl
  clear F51
  clear hB53
  (try dsimp only [List.cons_append, List.nil_append] at F54)
  go_wp2_with fail
  refine (ref_x (hasB_of (b := bookB) (F54.at 0 rfl : Bk _ gA28 41 #[.string ⟨#[114, 97, 99, 107]⟩, .int .i64 1, .int .i64 1000, .int .i64 1000, .int .i64 600, .int .i64 610, .string ⟨#[99, 97, 109, 112]⟩, .int .i64 1, .int .i64 100, .int .i64 110, .int .i64 480, .int .i64 490, .string ⟨#[103, 114, 111, 117, 110, 100]⟩, .int .i64 2, .int .i64 0, .int .i64 0, .int .i64 0, .int .i64 5]) (F54.at 1 rfl : Bk _ gM28 43 #[.int .i64 0, .int .i64 1, .int .i64 390, .int .i64 400]) rfl rfl rfl rfl (by decide) (by decide))).mono ?_
  rintro e w57 ⟨a1R, c1R, a2R, c2R, lR, hR, rfl, ⟨xR, yR⟩, zR, hg55⟩
  have hg55s := hg55.size
  (try simp at hg55s)
  have F58 := F54.add (rbook lR hR (.slice a1R 3 c1R) (.slice a2R 1 c2R) bookF) hg55 (zR) (fun g e => ⟨Nat.le_trans xR e.1, Nat.lt_of_lt_of_le e.2 yR⟩)
  clear F54
  clear hg55
  go_wp2_with fail
  have F59 := F58.new 38 #[.slice a1R 3 c1R, .slice a2R 1 c2R] (n := w57.heap.size) (by simp)
  clear F58
  refine (book_b _).mono ?_
  rintro e w60 ⟨gA33, gM33, rfl, hB61⟩
  have hB61s := hB61.gb.size
  (try simp at hB61s)
  have F62 := F59.joinN (L2 := [rbox gA33 41 #[.string ⟨#[114, 97, 99, 107]⟩, .int .i64 1, .int .i64 1000, .int .i64 1000, .int .i64 600, .int .i64 610, .string ⟨#[99, 97, 109, 112]⟩, .int .i64 1, .int .i64 100, .int .i64 110, .int .i64 480, .int .i64 490, .string ⟨#[103, 114, 111, 117, 110, 100]⟩, .int .i64 2, .int .i64 0, .int .i64 0, .int .i64 0, .int .i64 5], rbox gM33 43 #[.int .i64 0, .int .i64 1, .int .i64 390, .int .i64 400]]) hB61 rfl
  clear F59
  clear hB61
  (try dsimp only [List.cons_append, List.nil_append] at F62)
  go_wp2_with fail
  refine (one_c 3 _).mono ?_
  rintro e w65 ⟨rfl, hg63⟩
  have hg63s := hg63.size
  (try simp at hg63s)
  have F66 := F62.gn hg63
  clear F62
  clear hg63
  go_wp2_with fail
  refine (post_x (hasB_of (b := bookB) (F66.at 0 rfl : Bk _ gA33 41 #[.string ⟨#[114, 97, 99, 107]⟩, .int .i64 1, .int .i64 1000, .int .i64 1000, .int .i64 600, .int .i64 610, .string ⟨#[99, 97, 109, 112]⟩, .int .i64 1, .int .i64 100, .int .i64 110, .int .i64 480, .int .i64 490, .string ⟨#[103, 114, 111, 117, 110, 100]⟩, .int .i64 2, .int .i64 0, .int .i64 0, .int .i64 0, .int .i64 5]) (F66.at 1 rfl : Bk _ gM33 43 #[.int .i64 0, .int .i64 1, .int .i64 390, .int .i64 400]) rfl rfl rfl rfl (by decide) (by decide))).mono ?_
  rintro e w69 ⟨a1P, c1P, a2P, c2P, lP, hP, rfl, ⟨xP, yP⟩, zP, hg67⟩
  have hg67s := hg67.size
  (try simp at hg67s)
  have F70 := F66.add (rbook lP hP (.slice a1P 3 c1P) (.slice a2P 2 c2P) (addM bookB mv3)) hg67 (zP) (fun g e => ⟨Nat.le_trans xP e.1, Nat.lt_of_lt_of_le e.2 yP⟩)
  clear F66
  clear hg67
  go_wp2_with fail
  have F71 := F70.new 38 #[.slice a1P 3 c1P, .slice a2P 2 c2P] (n := w69.heap.size) (by simp)
  clear F70
  refine (book_b _).mono ?_
  rintro e w72 ⟨gA40, gM40, rfl, hB73⟩
  have hB73s := hB73.gb.size
  (try simp at hB73s)
  have F74 := F71.joinN (L2 := [rbox gA40 41 #[.string ⟨#[114, 97, 99, 107]⟩, .int .i64 1, .int .i64 1000, .int .i64 1000, .int .i64 600, .int .i64 610, .string ⟨#[99, 97, 109, 112]⟩, .int .i64 1, .int .i64 100, .int .i64 110, .int .i64 480, .int .i64 490, .string ⟨#[103, 114, 111, 117, 110, 100]⟩, .int .i64 2, .int .i64 0, .int .i64 0, .int .i64 0, .int .i64 5], rbox gM40 43 #[.int .i64 0, .int .i64 1, .int .i64 390, .int .i64 400]]) hB73 rfl
  clear F71
  clear hB73
  (try dsimp only [List.cons_append, List.nil_append] at F74)
  go_wp2_with fail
  refine (one_c 1 _).mono ?_
  rintro e w77 ⟨rfl, hg75⟩
  have hg75s := hg75.size
  (try simp at hg75s)
  have F78 := F74.gn hg75
  clear F74
  clear hg75
  go_wp2_with fail
  refine (post_y (hasB_of (b := bookB) (F78.at 0 rfl : Bk _ gA40 41 #[.string ⟨#[114, 97, 99, 107]⟩, .int .i64 1, .int .i64 1000, .int .i64 1000, .int .i64 600, .int .i64 610, .string ⟨#[99, 97, 109, 112]⟩, .int .i64 1, .int .i64 100, .int .i64 110, .int .i64 480, .int .i64 490, .string ⟨#[103, 114, 111, 117, 110, 100]⟩, .int .i64 2, .int .i64 0, .int .i64 0, .int .i64 0, .int .i64 5]) (F78.at 1 rfl : Bk _ gM40 43 #[.int .i64 0, .int .i64 1, .int .i64 390, .int .i64 400]) rfl rfl rfl rfl (by decide) (by decide))).mono ?_
  rintro e w81 ⟨rfl, hg79⟩
  have hg79s := hg79.size
  (try simp at hg79s)
  have F82 := F78.gn hg79
  clear F78
  clear hg79
  go_wp2_with fail
  have F83 := F82.new 38 #[.slice none 0 0, .slice none 0 0] (n := w81.heap.size) (by simp)
  clear F82
  refine (span_c 300 400 _).mono ?_
  rintro e w86 ⟨rfl, hg84⟩
  have hg84s := hg84.size
  (try simp at hg84s)
  have F87 := F83.gn hg84
  clear F83
  clear hg84
  go_wp2_with fail
  refine (span_c 100 110 _).mono ?_
  rintro e w90 ⟨rfl, hg88⟩
  have hg88s := hg88.size
  (try simp at hg88s)
  have F91 := F87.gn hg88
  clear F87
  clear hg88
  go_wp2_with fail
  refine (span_c 150 160 _).mono ?_
  rintro e w94 ⟨rfl, hg92⟩
  have hg92s := hg92.size
  (try simp at hg92s)
  have F95 := F91.gn hg92
  clear F91
  clear hg92
  go_wp2_with fail
  have F96 := F95.new 82 #[.int .i64 0, .int .i64 100, .int .i64 110, .int .i64 200, .int .i64 150, .int .i64 160] (n := w94.heap.size) (by simp)
  clear F95
  refine (one_c 150 _).mono ?_
  rintro e w99 ⟨rfl, hg97⟩
  have hg97s := hg97.size
  (try simp at hg97s)
  have F100 := F96.gn hg97
  clear F96
  clear hg97
  go_wp2_with fail
  refine (span_c 190 210 _).mono ?_
  rintro e w103 ⟨rfl, hg101⟩
  have hg101s := hg101.size
  (try simp at hg101s)
  have F104 := F100.gn hg101
  clear F100
  clear hg101
  go_wp2_with fail
  refine (one_c 300 _).mono ?_
  rintro e w107 ⟨rfl, hg105⟩
  have hg105s := hg105.size
  (try simp at hg105s)
  have F108 := F104.gn hg105
  clear F104
  clear hg105
  go_wp2_with fail
  have F109 := F108.new 23 #[.int .i64 150, .int .i64 150, .int .i64 190, .int .i64 210, .int .i64 300, .int .i64 300] (n := w107.heap.size) (by simp)
  clear F108
  refine (lasts_x (F109.at 1 rfl : Bk _ w94.heap.size 82 #[.int .i64 0, .int .i64 100, .int .i64 110, .int .i64 200, .int .i64 150, .int .i64 160]) (F109.at 0 rfl : Bk _ w107.heap.size 23 #[.int .i64 150, .int .i64 150, .int .i64 190, .int .i64 210, .int .i64 300, .int .i64 300])).mono ?_
  rintro e w112 ⟨rfl, hg110⟩
  have hg110s := hg110.size
  (try simp at hg110s)
  have F113 := F109.gn hg110
  clear F109
  clear hg110
  go_wp2_with fail
  have F114 := F113.new 23 #[.int .i64 2, .int .i64 3] (n := w112.heap.size) (by simp)
  clear F113
  refine (book_b _).mono ?_
  rintro e w115 ⟨gA61, gM61, rfl, hB116⟩
  have hB116s := hB116.gb.size
  (try simp at hB116s)
  have F117 := F114.joinN (L2 := [rbox gA61 41 #[.string ⟨#[114, 97, 99, 107]⟩, .int .i64 1, .int .i64 1000, .int .i64 1000, .int .i64 600, .int .i64 610, .string ⟨#[99, 97, 109, 112]⟩, .int .i64 1, .int .i64 100, .int .i64 110, .int .i64 480, .int .i64 490, .string ⟨#[103, 114, 111, 117, 110, 100]⟩, .int .i64 2, .int .i64 0, .int .i64 0, .int .i64 0, .int .i64 5], rbox gM61 43 #[.int .i64 0, .int .i64 1, .int .i64 390, .int .i64 400]]) hB116 rfl
  clear F114
  clear hB116
  (try dsimp only [List.cons_append, List.nil_append] at F117)
  go_wp2_with fail
  refine (write_x (hasB_of (b := bookB) (F117.at 0 rfl : Bk _ gA61 41 #[.string ⟨#[114, 97, 99, 107]⟩, .int .i64 1, .int .i64 1000, .int .i64 1000, .int .i64 600, .int .i64 610, .string ⟨#[99, 97, 109, 112]⟩, .int .i64 1, .int .i64 100, .int .i64 110, .int .i64 480, .int .i64 490, .string ⟨#[103, 114, 111, 117, 110, 100]⟩, .int .i64 2, .int .i64 0, .int .i64 0, .int .i64 0, .int .i64 5]) (F117.at 1 rfl : Bk _ gM61 43 #[.int .i64 0, .int .i64 1, .int .i64 390, .int .i64 400]) rfl rfl rfl rfl (by decide) (by decide)) (F117.at 22 rfl : _ ∧ Lib.TabIs Tryd.prog _ powName .u64 Lib.pow10Tab).2 (fun g_ e_ => Nat.lt_of_lt_of_le (hg g_ e_) F117.gb.size) (F117.at 23 rfl : Gv w.heap.size _ 0 kndC).now).mono ?_
  rintro e w120 ⟨rfl, hg118⟩
  have hg118s := hg118.size
  (try simp at hg118s)
  have F121 := F117.gn hg118
  clear F117
  clear hg118
  go_wp2_with fail
  have F122 := F121.drew
  clear F121
  refine ru_begin (fun W => W.cell? ⟨w57.heap.size, 0, none⟩ = some (.slice a1R 3 c1R) ∧ W.cell? ⟨w57.heap.size, 1, none⟩ = some (.slice a2R 1 c2R) ∧ W.cell? ⟨w7.heap.size, 0, none⟩ = some (.slice (some ⟨gA13, 0, none⟩) 3 3) ∧ W.cell? ⟨w7.heap.size, 1, none⟩ = some (.slice (some ⟨gM13, 0, none⟩) 1 1) ∧ W.cell? ⟨w69.heap.size, 0, none⟩ = some (.slice a1P 3 c1P) ∧ W.cell? ⟨w69.heap.size, 1, none⟩ = some (.slice a2P 2 c2P) ∧ W.cell? ⟨(w7.heap.size + 1), 0, none⟩ = some (.slice (some ⟨gA14, 0, none⟩) 3 3) ∧ W.cell? ⟨(w7.heap.size + 1), 1, none⟩ = some (.slice (some ⟨g42, 0, none⟩) 2 cap43) ∧ W.cell? ⟨w112.heap.size, 0, none⟩ = some (.int .i64 2) ∧ W.cell? ⟨w112.heap.size, 1, none⟩ = some (.int .i64 3)) 37 (by kernel_rfl) ?_ ?_
  · exact ⟨F122.cl 12 0 rfl rfl, F122.cl 12 1 rfl rfl, F122.cl 19 0 rfl rfl, F122.cl 19 1 rfl rfl, F122.cl 8 0 rfl rfl, F122.cl 8 1 rfl rfl, F122.cl 16 0 rfl rfl, F122.cl 16 1 rfl rfl, F122.cl 2 0 rfl rfl, F122.cl 2 1 rfl rfl⟩
  obtain ⟨wd124, hwd_⟩ : ∃ x : World, w120.drew = x := ⟨_, rfl⟩
  rw [hwd_] at F122 ⊢
  have wd124s : w120.heap.size ≤ wd124.heap.size := by rw [← hwd_]; exact Nat.le_refl _
  clear hwd_
  have hS123 := (And.intro (F122.cl 12 0 rfl rfl) (And.intro (F122.cl 12 1 rfl rfl) (And.intro (F122.cl 19 0 rfl rfl) (And.intro (F122.cl 19 1 rfl rfl) (And.intro (F122.cl 8 0 rfl rfl) (And.intro (F122.cl 8 1 rfl rfl) (And.intro (F122.cl 16 0 rfl rfl) (And.intro (F122.cl 16 1 rfl rfl) (And.intro (F122.cl 2 0 rfl rfl) (F122.cl 2 1 rfl rfl))))))))))
  refine ru_t 0 [] ?_
  refine ru_t 1 [] ?_
  refine ru_t 2 [] ?_
  refine ru_t 3 [] ?_
  refine ru_t 4 [] ?_
  refine ru_t 5 [] ?_
  refine ru_t 6 [] ?_
  refine ru_t 7 [] ?_
  refine ru_t 8 [] ?_
  refine ru_t 9 [] ?_
  refine ru_t 10 [] ?_
  refine ru_t 11 [] ?_
  refine ru_t 12 [] ?_
  refine ru_t 13 [] ?_
  refine ru_t 14 [] ?_
  refine ru_t 15 [] ?_
  refine ru_t 16 [] ?_
  refine ru_t 17 [] ?_
  refine ru_t 18 [] ?_
  refine ru_t 19 [] ?_
  refine ru_t 20 [] ?_
  (try simp only [Act.put, List.setIfInBounds_toArray, List.set_cons_zero, List.set_cons_succ])
  clear hS123
  refine ru_one 21 rfl (by kernel_rfl) (fun K hK => ?_)
  go_simp
  refine (sameBooks_c _ _ _ _ _ _ _ _ bookF _ (F122.at 13 rfl : HasB lR hR _ (.slice a1R 3 c1R) (.slice a2R 1 c2R) bookF) (hasB_of (b := bookF) (F122.at 18 rfl : Bk _ gA13 41 #[.string ⟨#[114, 97, 99, 107]⟩, .int .i64 1, .int .i64 1000, .int .i64 1000, .int .i64 600, .int .i64 610, .string ⟨#[99, 97, 109, 112]⟩, .int .i64 1, .int .i64 100, .int .i64 110, .int .i64 480, .int .i64 490, .string ⟨#[103, 114, 111, 117, 110, 100]⟩, .int .i64 2, .int .i64 0, .int .i64 0, .int .i64 0, .int .i64 0]) (F122.at 21 rfl : Bk _ gM13 43 #[.int .i64 0, .int .i64 1, .int .i64 390, .int .i64 400]) rfl rfl rfl rfl (by decide) (by decide))).mono ?_
  rintro e w127 ⟨rfl, hg125⟩
  have hg125s := hg125.size
  (try simp at hg125s)
  have F128 := F122.gn hg125
  clear F122
  refine ru_back hK (by exact ⟨F128.cl 12 0 rfl rfl, F128.cl 12 1 rfl rfl, F128.cl 19 0 rfl rfl, F128.cl 19 1 rfl rfl, F128.cl 8 0 rfl rfl, F128.cl 8 1 rfl rfl, F128.cl 16 0 rfl rfl, F128.cl 16 1 rfl rfl, F128.cl 2 0 rfl rfl, F128.cl 2 1 rfl rfl⟩) (fun hHeld => ?_)
  clear hK K
  (try simp only [Act.put, List.setIfInBounds_toArray, List.set_cons_zero, List.set_cons_succ])
  refine ru_p 22 ?_
  (try simp only [Act.put, List.setIfInBounds_toArray, List.set_cons_zero, List.set_cons_succ])
  refine ru_p 23 ?_
  (try simp only [Act.put, List.setIfInBounds_toArray, List.set_cons_zero, List.set_cons_succ])
  refine ru_t 24 [] ?_
  refine ru_t 25 [] ?_
  (try simp only [Act.put, List.setIfInBounds_toArray, List.set_cons_zero, List.set_cons_succ])
  refine ru_one 26 rfl (by kernel_rfl) (fun K hK => ?_)
  go_simp
  refine (sameBooks_c _ _ 0 _ _ _ _ _ (addM bookB mv3) _ (F128.at 9 rfl : HasB lP hP _ (.slice a1P 3 c1P) (.slice a2P 2 c2P) (addM bookB mv3)) (show HasB 0 _ _ _ _ (addM bookB mv3) from ⟨Sl.ofB bookB.accs (F128.at 20 rfl : Bk _ gA14 41 #[.string ⟨#[114, 97, 99, 107]⟩, .int .i64 1, .int .i64 1000, .int .i64 1000, .int .i64 600, .int .i64 610, .string ⟨#[99, 97, 109, 112]⟩, .int .i64 1, .int .i64 100, .int .i64 110, .int .i64 480, .int .i64 490, .string ⟨#[103, 114, 111, 117, 110, 100]⟩, .int .i64 2, .int .i64 0, .int .i64 0, .int .i64 0, .int .i64 5]) rfl (fun _ => rfl) rfl (by decide), (Own.sl (F128.at 17 rfl : Own mvEnc 43 4 w.heap.size _ (.slice (some ⟨g42, 0, none⟩) 2 cap43) ([(⟨0, 1, ⟨390, 400⟩⟩ : Mv)] ++ [(⟨1, 2, ⟨3, 3⟩⟩ : Mv)])) (fun _ => rfl)).wide (Nat.zero_le _) (Nat.le_refl _)⟩)).mono ?_
  rintro e w131 ⟨rfl, hg129⟩
  have hg129s := hg129.size
  (try simp at hg129s)
  have F132 := F128.gn hg129
  clear F128
  refine ru_back hK (by exact ⟨F132.cl 12 0 rfl rfl, F132.cl 12 1 rfl rfl, F132.cl 19 0 rfl rfl, F132.cl 19 1 rfl rfl, F132.cl 8 0 rfl rfl, F132.cl 8 1 rfl rfl, F132.cl 16 0 rfl rfl, F132.cl 16 1 rfl rfl, F132.cl 2 0 rfl rfl, F132.cl 2 1 rfl rfl⟩) (fun hHeld => ?_)
  clear hK K
  (try simp only [Act.put, List.setIfInBounds_toArray, List.set_cons_zero, List.set_cons_succ])
  refine ru_p 27 ?_
  (try simp only [Act.put, List.setIfInBounds_toArray, List.set_cons_zero, List.set_cons_succ])
  refine ru_p 28 ?_
  (try simp only [Act.put, List.setIfInBounds_toArray, List.set_cons_zero, List.set_cons_succ])
  refine ru_t 29 [] ?_
  (try simp only [Act.put, List.setIfInBounds_toArray, List.set_cons_zero, List.set_cons_succ])
  refine ru_one 30 rfl (by kernel_rfl) (fun K hK => ?_)
  go_simp
  refine (span_c 2 3 _).mono ?_
  rintro e w135 ⟨rfl, hg133⟩
  have hg133s := hg133.size
  (try simp at hg133s)
  have F136 := F132.gn hg133
  clear F132
  refine ru_back hK (by exact ⟨F136.cl 12 0 rfl rfl, F136.cl 12 1 rfl rfl, F136.cl 19 0 rfl rfl, F136.cl 19 1 rfl rfl, F136.cl 8 0 rfl rfl, F136.cl 8 1 rfl rfl, F136.cl 16 0 rfl rfl, F136.cl 16 1 rfl rfl, F136.cl 2 0 rfl rfl, F136.cl 2 1 rfl rfl⟩) (fun hHeld => ?_)
  clear hK K
  (try simp only [Act.put, List.setIfInBounds_toArray, List.set_cons_zero, List.set_cons_succ])
  refine ru_p 31 ?_
  (try simp only [Act.put, List.setIfInBounds_toArray, List.set_cons_zero, List.set_cons_succ])
  refine ru_p 32 ?_
  (try simp only [Act.put, List.setIfInBounds_toArray, List.set_cons_zero, List.set_cons_succ])
  refine ru_p 33 ?_
  (try simp only [Act.put, List.setIfInBounds_toArray, List.set_cons_zero, List.set_cons_succ])
  refine ru_p 34 ?_
  (try simp only [Act.put, List.setIfInBounds_toArray, List.set_cons_zero, List.set_cons_succ])
  refine ru_p 35 ?_
  (try simp only [Act.put, List.setIfInBounds_toArray, List.set_cons_zero, List.set_cons_succ])
  refine ru_p 36 ?_
  (try simp only [Act.put, List.setIfInBounds_toArray, List.set_cons_zero, List.set_cons_succ])
  refine ru_one 37 rfl (by kernel_rfl) (fun K hK => ?_)
  go_simp
  refine ru_back_late hK (by kernel_rfl) ?_
  clear hK K
  (try simp only [Act.put, List.setIfInBounds_toArray, List.set_cons_zero, List.set_cons_succ])
  refine ru_done (by kernel_rfl) ?_
  have Fn_ := (((((((((((((((((((F136.drop 0 rfl).drop 0 rfl).drop 0 rfl).drop 0 rfl).drop 0 rfl).drop 0 rfl).drop 0 rfl).drop 0 rfl).drop 0 rfl).drop 1 rfl).drop 1 rfl).drop 1 rfl).drop 2 rfl).drop 2 rfl).drop 2 rfl).drop 3 rfl).drop 3 rfl).drop 3 rfl).drop 3 rfl)
  (try dsimp only [List.eraseIdx_cons_succ, List.eraseIdx_cons_zero] at Fn_)
  obtain ⟨w137, hx138, F140, hxs139⟩ := Fn_.name
  (try simp at hxs139)
  rw [hx138]
  clear hx138 F136 Fn_
  go_wp2_with fail
  go_ret
  exact ⟨rfl, F140.gb⟩

end Go.Proofs.YtcndphefomigeaaDoor
