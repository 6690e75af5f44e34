/- fuel: Refine. -/
import Derived.Test.YtcndphefomigeaaDoorPKN
import Derived.Test.YtcndphefomigeaaDoorPKF
import Derived.Test.YtcndphefomigeaaDoorPG8
import Derived.Test.YtcndphefomigeaaDoorPG9
import Derived.Test.YtcndphefomigeaaDoorPPost
import Derived.Test.YtcndphefomigeaaDoorPK1
import Derived.Lib.SliceRun
set_option linter.unusedVariables false
set_option linter.unusedSimpArgs false
set_option linter.unnecessarySimpa false
namespace Go.Proofs.YtcndphefomigeaaDoor
open Go.RowKit Go.Shelf
set_option maxRecDepth 100000
attribute [local go_sem] run_store_func

theorem Own.at0 {α : Type} {enc : α → List Value} {e : TypeId} {sz base n c : Nat} {w : World} {a : Option Addr} {l : List α} (h : Own enc e sz base w (.slice a n c) l) : l.length = 0 ∨ ∃ g, a = some ⟨g, 0, none⟩ := by
  rcases Nat.eq_zero_or_pos l.length with h0 | h0
  · exact .inl h0
  · obtain ⟨g, cap, hv⟩ := Own.opn h h0
    injection hv with e1
    exact .inr ⟨g, e1⟩
theorem Own.cellAt {α : Type} {enc : α → List Value} {e : TypeId} {sz base n c x : Nat} {w : World} {l : List α} (h : Own enc e sz base w (.slice (some ⟨x, 0, none⟩) n c) l) (hsz : ∀ x, (enc x).length = sz) {i : Nat} {z : α} (hz : l[i]? = some z) (j : Nat) {u : Value} (hu : (enc z)[j]? = some u) {k : Nat} (hk : k = i * sz + j) : w.cell? ⟨x, k, none⟩ = some u := by
  subst hk
  have h1 := (h.sl hsz).cells hz j u hu
  simpa [Nat.zero_add] using h1
theorem Own.slB {α : Type} {enc : α → List Value} {e : TypeId} {sz base b0 n c : Nat} {w : World} {a : Option Addr} {l : List α} (h : Own enc e sz base w (.slice a n c) l) (hsz : ∀ x, (enc x).length = sz) (hb : ∀ g, (Value.slice a n c).ownBlock = some g → b0 ≤ g) : Sl enc sz b0 w.heap.size w (.slice a n c) l := by
  have h0 := h.lt
  have h1 := h.sl hsz
  rcases h.at0 with h2 | ⟨g, rfl⟩
  · obtain ⟨p1, a', c', p2, _⟩ := h1
    exact ⟨p1, a', c', p2, .inl (List.length_eq_zero_iff.1 h2)⟩
  · have h3 := hb g rfl
    have h4 := (h0 g rfl).2
    exact Sl.wide (Own.slG h hsz) h3 h4
theorem kind3 {i n m : Nat} (h : i < 2 * n + m) : (∃ k, k < n ∧ i = 2 * k) ∨ (∃ k, k < n ∧ i = 2 * k + 1) ∨ ∃ k, k < m ∧ i = 2 * n + k := by
  by_cases h1 : i < 2 * n
  · rcases Nat.mod_two_eq_zero_or_one i with h2 | h2
    · exact .inl ⟨i / 2, by omega, by omega⟩
    · exact .inr (.inl ⟨i / 2, by omega, by omega⟩)
  · exact .inr (.inr ⟨i - 2 * n, by omega, by omega⟩)
/-- A book of the call's own, each row in a block of its own, of which no flow is refined yet. -/
def BookNewR (b : Bok) (w : World) (e : Ending) (w' : World) : Prop := ∃ (a1 : Option Addr) (c1 : Nat) (a2 : Option Addr) (c2 : Nat), e = .returned (.agg #[.slice a1 b.accs.length c1, .slice a2 b.mvs.length c2]) ∧
  Bun w [rown accEnc 41 6 w.heap.size (.slice a1 b.accs.length c1) (refAL b 0), rown mvEnc 43 4 w.heap.size (.slice a2 b.mvs.length c2) (refML b 0)] w'
theorem fown_r (l1 h1 l2 h2 : Nat) (va vm : Value) (b : Bok) (w : World) (ha : Accs l1 h1 w va b.accs) (hm : Mvs l2 h2 w vm b.mvs) (b1 : h1 ≤ w.heap.size) (b2 : h2 ≤ w.heap.size) (hs1 : b.accs.length ≤ 100000000000) (hs2 : b.mvs.length ≤ 100000000000) :
    Calls Tryd.prog 56 #[.agg #[va, vm]] w (BookNewR b w) := by
  unfold BookNewR
  rw [refAL_zero, refML_zero]
  exact fown_b l1 h1 l2 h2 va vm b w ha hm b1 b2 hs1 hs2
section
variable (l1 h1 l2 h2 : Nat) (va vm : Value) (b : Bok) (r k xb lo3 hi3 c3 : Nat) (w : World) (ha : Accs l1 h1 w va b.accs) (hm : Mvs l2 h2 w vm b.mvs) (b1 : h1 ≤ w.heap.size) (b2 : h2 ≤ w.heap.size) (hok : BokOk b)
include ha hm b1 b2 hok
theorem nar0_r (hk : k < b.accs.length) (hx : Bk w xb 3 #[.int .i64 (k : Int)]) (hl : Sl accEnc 6 lo3 hi3 w (.slice (some ⟨r, 0, none⟩) b.accs.length c3) b.accs) (h3 : hi3 ≤ w.heap.size) :
    Calls Tryd.prog 58 #[.agg #[va, vm], .agg #[.pointer (some ⟨r, k * 6 + 2, none⟩), .func (.func 67) #[] #[.pointer (some ⟨xb, 0, none⟩)], .func (.func 68) #[] #[]]] w (Ret (.agg #[.int .i64 (narO b k).lo, .int .i64 (narO b k).hi]) w) := nar0_c l1 h1 l2 h2 va vm b r k xb lo3 hi3 c3 w ha hm b1 b2 hok hk hx hl h3
theorem nar1_r (hk : k < b.accs.length) (hx : Bk w xb 3 #[.int .i64 (k : Int)]) (hl : Sl accEnc 6 lo3 hi3 w (.slice (some ⟨r, 0, none⟩) b.accs.length c3) b.accs) (h3 : hi3 ≤ w.heap.size) :
    Calls Tryd.prog 58 #[.agg #[va, vm], .agg #[.pointer (some ⟨r, k * 6 + 4, none⟩), .func (.func 68) #[] #[], .func (.func 67) #[] #[.pointer (some ⟨xb, 0, none⟩)]]] w (Ret (.agg #[.int .i64 (narC b k).lo, .int .i64 (narC b k).hi]) w) := nar1_c l1 h1 l2 h2 va vm b r k xb lo3 hi3 c3 w ha hm b1 b2 hok hk hx hl h3
theorem nar2_r (hk : k < b.mvs.length) (hx : Bk w xb 135 #[.pointer (some ⟨r, k * 4, none⟩)]) (hl : Sl mvEnc 4 lo3 hi3 w (.slice (some ⟨r, 0, none⟩) b.mvs.length c3) b.mvs) (h3 : hi3 ≤ w.heap.size) :
    Calls Tryd.prog 58 #[.agg #[va, vm], .agg #[.pointer (some ⟨r, k * 4 + 2, none⟩), .func (.func 69) #[] #[.pointer (some ⟨xb, 0, none⟩)], .func (.func 70) #[] #[.pointer (some ⟨xb, 0, none⟩)]]] w (Ret (.agg #[.int .i64 (narL b k).lo, .int .i64 (narL b k).hi]) w) := nar2_c l1 h1 l2 h2 va vm b r k xb lo3 hi3 c3 w ha hm b1 b2 hok hk hx hl h3
end
/-- The refined book is handed back. -/
def RefP (b : Bok) (w : World) : Ending → World → Prop := fun e w' => ∃ (a1 : Option Addr) (c1 : Nat) (a2 : Option Addr) (c2 lo hi : Nat), e = .returned (.tuple #[.agg #[.slice a1 b.accs.length c1, .slice a2 b.mvs.length c2], .int .i64 0]) ∧ (w.heap.size ≤ lo ∧ hi ≤ w'.heap.size) ∧
  HasB lo hi w' (.slice a1 b.accs.length c1) (.slice a2 b.mvs.length c2) (refB b) ∧ w.grownBy w' none
/-- The refined book, each row in a block of the call's own. -/
def RefQ (b : Bok) (w : World) : Ending → World → Prop := fun e w' => ∃ (a1 : Option Addr) (c1 : Nat) (a2 : Option Addr) (c2 k1 : Nat), e = .returned (.tuple #[.agg #[.slice a1 b.accs.length c1, .slice a2 b.mvs.length c2], .int .i64 0]) ∧
  Bun w [rown accEnc 41 6 k1 (.slice a1 b.accs.length c1) (refB b).accs, rown mvEnc 43 4 k1 (.slice a2 b.mvs.length c2) (refB b).mvs] w'
theorem RefQ.p {b : Bok} {w w' : World} {e : Ending} (h : RefQ b w e w') : RefP b w e w' := by
  obtain ⟨a1, c1, a2, c2, k1, rfl, hB⟩ := h
  have h1 : Own accEnc 41 6 k1 w' (.slice a1 b.accs.length c1) (refB b).accs := hB.at 0 rfl
  have h2 : Own mvEnc 43 4 k1 w' (.slice a2 b.mvs.length c2) (refB b).mvs := hB.at 1 rfl
  have g1 := fun x hx => (hB.bd _ (.head _) x hx).2 rfl
  have g2 := fun x hx => (hB.bd _ (.tail _ (.head _)) x hx).2 rfl
  exact ⟨a1, c1, a2, c2, w.heap.size, _, rfl, ⟨Nat.le_refl _, Nat.le_refl _⟩, ⟨Own.slB h1 (fun _ => rfl) g1, Own.slB h2 (fun _ => rfl) g2⟩, hB.gb⟩
set_option maxHeartbeats 16000000 in
theorem fref_q (l1 h1 l2 h2 : Nat) (va vm : Value) (b : Bok) (w : World) (ha : Accs l1 h1 w va b.accs) (hm : Mvs l2 h2 w vm b.mvs) (b1 : h1 ≤ w.heap.size) (b2 : h2 ≤ w.heap.size) (hn : nameOk b.accs) (hck : checkE b = 0) :
    Calls Tryd.prog 32 #[.agg #[va, vm]] w (RefQ b w) := by
  have F1 : Bun w [] w := Bun.nil _
  have hm_ac := ha.len
  unfold maxLen at hm_ac
  obtain ⟨aa, ak, rfl⟩ := ha.any
  have F2 := F1.sl0 ha b1 rfl
  clear F1
  clear ha
  have hm_mv := hm.len
  unfold maxLen at hm_mv
  obtain ⟨ma, mk, rfl⟩ := hm.any
  have F3 := F2.sl0 hm b2 rfl
  clear F2
  clear hm
  have HN := Lib.hid hn
  have HC := Lib.hid hck
  have HOK := Lib.hid (checked_bok hck)
  have h1_ := HOK.out.n0
  have h8_ := HOK.out.n8
  have h30_ := HOK.out.m30
  clear hn hck
  go_enter Tryd.func32, Tryd.ntmps32
  go_wp2_with fail
  have F4 := F3.new 38 #[.slice aa b.accs.length ak, .slice ma b.mvs.length mk] (n := w.heap.size) (by simp)
  clear F3
  have F5 := F4.new 38 #[.slice none 0 0, .slice none 0 0] (n := (w.heap.size + 1)) (by simp)
  clear F4
  refine ((check_c _ _ _ _ _ _ b _ (F5.at 3 rfl : Sl accEnc 6 l1 h1 _ (.slice aa b.accs.length ak) b.accs) (F5.at 2 rfl : Sl mvEnc 4 l2 h2 _ (.slice ma b.mvs.length mk) b.mvs) HN.out (by first | omega | (simp; omega)) (by first | omega | (simp; omega))).mono (fun _ _ h_ => check_zero h_ HC.out)).mono ?_
  rintro e w8 ⟨rfl, hg6⟩
  have hg6s := hg6.size
  (try simp at hg6s)
  have F9 := F5.gn hg6
  clear F5
  clear hg6
  have b10 := F9.bx2 1 rfl
  go_wp2_with fail
  clear b10
  obtain ⟨w11, hx12, F14, hxs13⟩ := (show Bun w [rbox (w.heap.size + 1) 38 #[.slice none 0 0, .slice none 0 0], rbox w.heap.size 38 #[.slice aa b.accs.length ak, .slice ma b.mvs.length mk], rsl mvEnc 4 l2 h2 (.slice ma b.mvs.length mk) b.mvs, rsl accEnc 6 l1 h1 (.slice aa b.accs.length ak) b.accs] _ from F9).name
  (try simp at hxs13)
  rw [hx12]
  clear hx12 F9
  refine (fown_r _ _ _ _ _ _ b _ (F14.at 3 rfl : Sl accEnc 6 l1 h1 _ (.slice aa b.accs.length ak) b.accs) (F14.at 2 rfl : Sl mvEnc 4 l2 h2 _ (.slice ma b.mvs.length mk) b.mvs) (by first | omega | (simp; omega)) (by first | omega | (simp; omega)) (by omega) (by omega)).mono ?_
  rintro e w15 ⟨pA16, kA16, pM16, kM16, rfl, hB16⟩
  have hB16s := hB16.gb.size
  (try simp at hB16s)
  have F17 := F14.joinN (L2 := [rown accEnc 41 6 w11.heap.size (.slice pA16 b.accs.length kA16) (refAL b 0), rown mvEnc 43 4 w11.heap.size (.slice pM16 b.mvs.length kM16) (refML b 0)]) hB16 rfl
  clear F14
  clear hB16
  (try dsimp only [List.cons_append, List.nil_append] at F17)
  obtain ⟨rA16, e_⟩ := (Own.at0 (F17.at 0 rfl : Own accEnc 41 6 w11.heap.size _ (.slice pA16 b.accs.length kA16) (refAL b 0))).resolve_left (by rw [refAL_len]; omega)
  subst e_
  obtain ⟨rM16, HM16_⟩ : ∃ g, b.mvs.length = 0 ∨ pM16 = some ⟨g, 0, none⟩ := by
    rcases Own.at0 (F17.at 1 rfl : Own mvEnc 43 4 w11.heap.size _ (.slice pM16 b.mvs.length kM16) (refML b 0)) with h_ | ⟨g, h_⟩
    · exact ⟨0, .inl (by rwa [refML_len] at h_)⟩
    · exact ⟨g, .inr h_⟩
  have HAM16 := Lib.hid HM16_
  clear HM16_
  have b18 := F17.bx2 3 rfl
  go_wp2_with fail
  clear b18
  have F19 := F17.new 38 #[.slice (some ⟨rA16, 0, none⟩) b.accs.length kA16, .slice pM16 b.mvs.length kM16] (n := w15.heap.size) (by simp)
  clear F17
  obtain ⟨w20, hx21, F23, hxs22⟩ := (show Bun w [rbox w15.heap.size 38 #[.slice (some ⟨rA16, 0, none⟩) b.accs.length kA16, .slice pM16 b.mvs.length kM16], rown accEnc 41 6 w11.heap.size (.slice (some ⟨rA16, 0, none⟩) b.accs.length kA16) (refAL b 0), rown mvEnc 43 4 w11.heap.size (.slice pM16 b.mvs.length kM16) (refML b 0), rbox (w.heap.size + 1) 38 #[.slice none 0 0, .slice none 0 0], rbox w.heap.size 38 #[.slice aa b.accs.length ak, .slice ma b.mvs.length mk], rsl mvEnc 4 l2 h2 (.slice ma b.mvs.length mk) b.mvs, rsl accEnc 6 l1 h1 (.slice aa b.accs.length ak) b.accs] _ from F19).name
  (try simp at hxs22)
  rw [hx21]
  clear hx21 F19
  refine (fown_r _ _ _ _ _ _ b _ (F23.at 6 rfl : Sl accEnc 6 l1 h1 _ (.slice aa b.accs.length ak) b.accs) (F23.at 5 rfl : Sl mvEnc 4 l2 h2 _ (.slice ma b.mvs.length mk) b.mvs) (by first | omega | (simp; omega)) (by first | omega | (simp; omega)) (by omega) (by omega)).mono ?_
  rintro e w24 ⟨pA18, kA18, pM18, kM18, rfl, hB25⟩
  have hB25s := hB25.gb.size
  (try simp at hB25s)
  have F26 := F23.joinN (L2 := [rown accEnc 41 6 w20.heap.size (.slice pA18 b.accs.length kA18) (refAL b 0), rown mvEnc 43 4 w20.heap.size (.slice pM18 b.mvs.length kM18) (refML b 0)]) hB25 rfl
  clear F23
  clear hB25
  (try dsimp only [List.cons_append, List.nil_append] at F26)
  obtain ⟨rA18, e_⟩ := (Own.at0 (F26.at 0 rfl : Own accEnc 41 6 w20.heap.size _ (.slice pA18 b.accs.length kA18) (refAL b 0))).resolve_left (by rw [refAL_len]; omega)
  subst e_
  obtain ⟨rM18, HM18_⟩ : ∃ g, b.mvs.length = 0 ∨ pM18 = some ⟨g, 0, none⟩ := by
    rcases Own.at0 (F26.at 1 rfl : Own mvEnc 43 4 w20.heap.size _ (.slice pM18 b.mvs.length kM18) (refML b 0)) with h_ | ⟨g, h_⟩
    · exact ⟨0, .inl (by rwa [refML_len] at h_)⟩
    · exact ⟨g, .inr h_⟩
  have HAM18 := Lib.hid HM18_
  clear HM18_
  go_wp2_with fail
  obtain ⟨w27, hx28, F30, hxs29⟩ := (show Bun w [rown accEnc 41 6 w20.heap.size (.slice (some ⟨rA18, 0, none⟩) b.accs.length kA18) (refAL b 0), rown mvEnc 43 4 w20.heap.size (.slice pM18 b.mvs.length kM18) (refML b 0), rbox w15.heap.size 38 #[.slice (some ⟨rA16, 0, none⟩) b.accs.length kA16, .slice pM16 b.mvs.length kM16], rown accEnc 41 6 w11.heap.size (.slice (some ⟨rA16, 0, none⟩) b.accs.length kA16) (refAL b 0), rown mvEnc 43 4 w11.heap.size (.slice pM16 b.mvs.length kM16) (refML b 0), rbox (w.heap.size + 1) 38 #[.slice none 0 0, .slice none 0 0], rbox w.heap.size 38 #[.slice aa b.accs.length ak, .slice ma b.mvs.length mk], rsl mvEnc 4 l2 h2 (.slice ma b.mvs.length mk) b.mvs, rsl accEnc 6 l1 h1 (.slice aa b.accs.length ak) b.accs] _ from F26).name
  (try simp at hxs29)
  rw [hx28]
  clear hx28 F26
  refine (flows_c rA18 rM18 b.accs.length b.mvs.length kA18 kM18 pM18 _ (by omega) (by omega) HAM18.out).mono ?_
  rintro e w31 ⟨pF18, kF18, lF18, gx18, gy18, rfl, hf_, hB32⟩
  have hB32s := hB32.gb.size
  (try simp at hB32s)
  have F33 := F30.joinN (L2 := [rown fvEnc 121 3 w27.heap.size (.slice pF18 lF18.length kF18) lF18, rnums 3 b.accs.length gx18 (fun k => .int .i64 (k : Int)), rnums 135 b.mvs.length gy18 (fun k => .pointer (some ⟨rM18, k * 4, none⟩))]) hB32 rfl
  clear F30
  clear hB32
  (try dsimp only [List.cons_append, List.nil_append] at F33)
  have HF18 := Lib.hid hf_
  have hl18 : lF18.length ≤ 2 * b.accs.length + b.mvs.length ∧ 2 * b.accs.length + b.mvs.length ≤ lF18.length := by have := hf_.len; omega
  clear hf_
  obtain ⟨rF18, e_⟩ := (Own.at0 (F33.at 0 rfl : Own fvEnc 121 3 w27.heap.size _ (.slice pF18 lF18.length kF18) lF18)).resolve_left (by omega)
  subst e_
  have b34 := F33.bx2 5 rfl
  go_wp2_with fail
  clear b34
  obtain ⟨w35, hx36, F38, hxs37⟩ := (show Bun w [rown fvEnc 121 3 w27.heap.size (.slice (some ⟨rF18, 0, none⟩) lF18.length kF18) lF18, rnums 3 b.accs.length gx18 (fun k => .int .i64 (k : Int)), rnums 135 b.mvs.length gy18 (fun k => .pointer (some ⟨rM18, k * 4, none⟩)), rown accEnc 41 6 w20.heap.size (.slice (some ⟨rA18, 0, none⟩) b.accs.length kA18) (refAL b 0), rown mvEnc 43 4 w20.heap.size (.slice pM18 b.mvs.length kM18) (refML b 0), rbox w15.heap.size 38 #[.slice (some ⟨rA16, 0, none⟩) b.accs.length kA16, .slice pM16 b.mvs.length kM16], rown accEnc 41 6 w11.heap.size (.slice (some ⟨rA16, 0, none⟩) b.accs.length kA16) (refAL b 0), rown mvEnc 43 4 w11.heap.size (.slice pM16 b.mvs.length kM16) (refML b 0), rbox (w.heap.size + 1) 38 #[.slice none 0 0, .slice none 0 0], rbox w.heap.size 38 #[.slice aa b.accs.length ak, .slice ma b.mvs.length mk], rsl mvEnc 4 l2 h2 (.slice ma b.mvs.length mk) b.mvs, rsl accEnc 6 l1 h1 (.slice aa b.accs.length ak) b.accs] _ from F33).name
  (try simp at hxs37)
  rw [hx36]
  clear hx36 F33
  refine (flows_c rA16 rM16 b.accs.length b.mvs.length kA16 kM16 pM16 _ (by omega) (by omega) HAM16.out).mono ?_
  rintro e w39 ⟨pF16, kF16, lF16, gx16, gy16, rfl, hf_, hB40⟩
  have hB40s := hB40.gb.size
  (try simp at hB40s)
  have F41 := F38.joinN (L2 := [rown fvEnc 121 3 w35.heap.size (.slice pF16 lF16.length kF16) lF16, rnums 3 b.accs.length gx16 (fun k => .int .i64 (k : Int)), rnums 135 b.mvs.length gy16 (fun k => .pointer (some ⟨rM16, k * 4, none⟩))]) hB40 rfl
  clear F38
  clear hB40
  (try dsimp only [List.cons_append, List.nil_append] at F41)
  have HF16 := Lib.hid hf_
  have hl16 : lF16.length ≤ 2 * b.accs.length + b.mvs.length ∧ 2 * b.accs.length + b.mvs.length ≤ lF16.length := by have := hf_.len; omega
  clear hf_
  obtain ⟨rF16, e_⟩ := (Own.at0 (F41.at 0 rfl : Own fvEnc 121 3 w35.heap.size _ (.slice pF16 lF16.length kF16) lF16)).resolve_left (by omega)
  subst e_
  go_wp2_with fail
  obtain ⟨HI42_, HI420⟩ : ∃ I : (Nat → Value) → List Deferred → World → Prop, I = (fun t ds wr => ∃ (i : Nat), t 1 = .pointer (some ⟨w.heap.size, 0, none⟩) ∧ t 2 = .pointer (some ⟨w.heap.size + 1, 0, none⟩) ∧ t 5 = .pointer (some ⟨w15.heap.size, 0, none⟩) ∧ t 6 = .slice (some ⟨rF18, 0, none⟩) lF18.length kF18 ∧ t 21 = .slice (some ⟨rF16, 0, none⟩) lF16.length kF16 ∧ t 22 = .int .i64 (lF16.length : Int) ∧ t 23 = .int .i64 (i : Int) ∧ i ≤ 2 * b.accs.length + b.mvs.length ∧ ds = [] ∧ w39.heap.size ≤ wr.heap.size ∧ Bun w [rown fvEnc 121 3 w35.heap.size (.slice (some ⟨rF16, 0, none⟩) lF16.length kF16) lF16, rnums 3 b.accs.length gx16 (fun k => .int .i64 (k : Int)), rnums 135 b.mvs.length gy16 (fun k => .pointer (some ⟨rM16, k * 4, none⟩)), rown fvEnc 121 3 w27.heap.size (.slice (some ⟨rF18, 0, none⟩) lF18.length kF18) lF18, rnums 3 b.accs.length gx18 (fun k => .int .i64 (k : Int)), rnums 135 b.mvs.length gy18 (fun k => .pointer (some ⟨rM18, k * 4, none⟩)), rown accEnc 41 6 w20.heap.size (.slice (some ⟨rA18, 0, none⟩) b.accs.length kA18) (refAL b 0), rown mvEnc 43 4 w20.heap.size (.slice pM18 b.mvs.length kM18) (refML b 0), rbox w15.heap.size 38 #[.slice (some ⟨rA16, 0, none⟩) b.accs.length kA16, .slice pM16 b.mvs.length kM16], rown accEnc 41 6 w11.heap.size (.slice (some ⟨rA16, 0, none⟩) b.accs.length kA16) (refAL b i), rown mvEnc 43 4 w11.heap.size (.slice pM16 b.mvs.length kM16) (refML b i), rbox (w.heap.size + 1) 38 #[.slice none 0 0, .slice none 0 0], rbox w.heap.size 38 #[.slice aa b.accs.length ak, .slice ma b.mvs.length mk], rsl mvEnc 4 l2 h2 (.slice ma b.mvs.length mk) b.mvs, rsl accEnc 6 l1 h1 (.slice aa b.accs.length ak) b.accs] wr) := ⟨_, rfl⟩
  have HI42 := Lib.hid HI420
  clear HI420
  refine wp_loopS 39 rfl HI42_ (fun t wr => 2 * b.accs.length + b.mvs.length - (intOf (t 23)).toNat) ?atStart1 ?round1
  case round1 =>
    intro t ds wr hHid
    rw [HI42.out] at hHid
    obtain ⟨i, e1, e2, e5, e6, e21, e22, e23, hrel⟩ := hHid
    have e : ((List.range 39).map t).toArray = #[t 0, t 1, t 2, t 3, t 4, t 5, t 6, t 7, t 8, t 9, t 10, t 11, t 12, t 13, t 14, t 15, t 16, t 17, t 18, t 19, t 20, t 21, t 22, t 23, t 24, t 25, t 26, t 27, t 28, t 29, t 30, t 31, t 32, t 33, t 34, t 35, t 36, t 37, t 38] := rfl
    (try dsimp only at e)
    rw [e1, e2, e5, e6, e21, e22, e23] at e
    rw [e]
    simp only [e23]
    clear e e1 e2 e5 e6 e21 e22 e23
    obtain ⟨hi0, rfl, hs44, hF43⟩ := hrel
    clear F41
    obtain ⟨w45, rfl⟩ : ∃ x_ : World, x_ = wr := ⟨_, rfl⟩
    by_cases c46 : (i : Int) < (lF16.length : Int)
    · skip
      have c46H := Lib.hid c46
      rcases kind3 (i := i) (n := b.accs.length) (m := b.mvs.length) (by omega) with ⟨k, hk, hi_⟩ | ⟨k, hk, hi_⟩ | ⟨k, hk, hi_⟩
      · skip
        have HI := Lib.hid hi_
        have hib : i ≤ 2 * b.accs.length + b.mvs.length := by omega
        have hix16 : i < lF16.length := by omega
        have hix18 : i < lF18.length := by omega
        clear hi_
        have hz47 : Hid (lF16[i]? = some (⟨rA16, k * 6 + 2, 0, (gx16 k)⟩)) := Lib.hid (by rw [HI.out]; exact HF16.out.op k hk)
        have hz48 : Hid (lF18[i]? = some (⟨rA18, k * 6 + 2, 0, (gx18 k)⟩)) := Lib.hid (by rw [HI.out]; exact HF18.out.op k hk)
        have hz49 : Hid ((refAL b i)[k]? = some (refA b i k)) := Lib.hid (refAL_at hk)
        have ge50 : World.cell? _ ⟨rF16, i * 3, none⟩ = some (.pointer (some ⟨rA16, k * 6 + 2, none⟩)) := (Own.cellAt (hF43.at 0 rfl : Own fvEnc 121 3 w35.heap.size _ (.slice (some ⟨rF16, 0, none⟩) lF16.length kF16) lF16) (fun _ => rfl) hz47.out 0 (u := .pointer (some ⟨rA16, k * 6 + 2, none⟩)) rfl (k := i * 3) (by omega))
        have gl51 := cell_lt ge50
        have ge52 : World.cell? _ ⟨rF16, i * 3 + 1, none⟩ = some (.func (.func 67) #[] #[.pointer (some ⟨gx16 k, 0, none⟩)]) := (Own.cellAt (hF43.at 0 rfl : Own fvEnc 121 3 w35.heap.size _ (.slice (some ⟨rF16, 0, none⟩) lF16.length kF16) lF16) (fun _ => rfl) hz47.out 1 (u := .func (.func 67) #[] #[.pointer (some ⟨gx16 k, 0, none⟩)]) rfl (k := i * 3 + 1) (by omega))
        have ge53 : World.cell? _ ⟨rF16, i * 3 + 2, none⟩ = some (.func (.func 68) #[] #[]) := (Own.cellAt (hF43.at 0 rfl : Own fvEnc 121 3 w35.heap.size _ (.slice (some ⟨rF16, 0, none⟩) lF16.length kF16) lF16) (fun _ => rfl) hz47.out 2 (u := .func (.func 68) #[] #[]) rfl (k := i * 3 + 2) (by omega))
        go_wp2_with fail
        clear ge50 gl51 ge52 ge53
        have F54 := hF43.new 121 #[.pointer (some ⟨rA16, k * 6 + 2, none⟩), .func (.func 67) #[] #[.pointer (some ⟨gx16 k, 0, none⟩)], .func (.func 68) #[] #[]] (n := w45.heap.size) (by simp)
        clear hF43
        obtain ⟨w55, hx56, F58, hxs57⟩ := (show Bun w [rbox w45.heap.size 121 #[.pointer (some ⟨rA16, k * 6 + 2, none⟩), .func (.func 67) #[] #[.pointer (some ⟨gx16 k, 0, none⟩)], .func (.func 68) #[] #[]], rown fvEnc 121 3 w35.heap.size (.slice (some ⟨rF16, 0, none⟩) lF16.length kF16) lF16, rnums 3 b.accs.length gx16 (fun k => .int .i64 (k : Int)), rnums 135 b.mvs.length gy16 (fun k => .pointer (some ⟨rM16, k * 4, none⟩)), rown fvEnc 121 3 w27.heap.size (.slice (some ⟨rF18, 0, none⟩) lF18.length kF18) lF18, rnums 3 b.accs.length gx18 (fun k => .int .i64 (k : Int)), rnums 135 b.mvs.length gy18 (fun k => .pointer (some ⟨rM18, k * 4, none⟩)), rown accEnc 41 6 w20.heap.size (.slice (some ⟨rA18, 0, none⟩) b.accs.length kA18) (refAL b 0), rown mvEnc 43 4 w20.heap.size (.slice pM18 b.mvs.length kM18) (refML b 0), rbox w15.heap.size 38 #[.slice (some ⟨rA16, 0, none⟩) b.accs.length kA16, .slice pM16 b.mvs.length kM16], rown accEnc 41 6 w11.heap.size (.slice (some ⟨rA16, 0, none⟩) b.accs.length kA16) (refAL b i), rown mvEnc 43 4 w11.heap.size (.slice pM16 b.mvs.length kM16) (refML b i), rbox (w.heap.size + 1) 38 #[.slice none 0 0, .slice none 0 0], rbox w.heap.size 38 #[.slice aa b.accs.length ak, .slice ma b.mvs.length mk], rsl mvEnc 4 l2 h2 (.slice ma b.mvs.length mk) b.mvs, rsl accEnc 6 l1 h1 (.slice aa b.accs.length ak) b.accs] _ from F54).name
        (try simp at hxs57)
        rw [hx56]
        clear hx56 F54
        have F59 := F58.drew
        clear F58
        refine ru_begin (fun W => W.cell? ⟨w45.heap.size, 0, none⟩ = some (.pointer (some ⟨rA16, k * 6 + 2, none⟩)) ∧ W.cell? ⟨w.heap.size, 0, none⟩ = some (.slice aa b.accs.length ak) ∧ W.cell? ⟨w.heap.size, 1, none⟩ = some (.slice ma b.mvs.length mk) ∧ W.cell? ⟨rF18, i * 3, none⟩ = some (.pointer (some ⟨rA18, k * 6 + 2, none⟩)) ∧ W.cell? ⟨rF18, i * 3 + 1, none⟩ = some (.func (.func 67) #[] #[.pointer (some ⟨gx18 k, 0, none⟩)]) ∧ W.cell? ⟨rF18, i * 3 + 2, none⟩ = some (.func (.func 68) #[] #[])) 9 (by kernel_rfl) ?_ ?_
        · exact ⟨F59.cl 0 0 rfl rfl, F59.cl 13 0 rfl rfl, F59.cl 13 1 rfl rfl, (Own.cellAt (F59.at 4 rfl : Own fvEnc 121 3 w27.heap.size _ (.slice (some ⟨rF18, 0, none⟩) lF18.length kF18) lF18) (fun _ => rfl) hz48.out 0 (u := .pointer (some ⟨rA18, k * 6 + 2, none⟩)) rfl (k := i * 3) (by omega)), (Own.cellAt (F59.at 4 rfl : Own fvEnc 121 3 w27.heap.size _ (.slice (some ⟨rF18, 0, none⟩) lF18.length kF18) lF18) (fun _ => rfl) hz48.out 1 (u := .func (.func 67) #[] #[.pointer (some ⟨gx18 k, 0, none⟩)]) rfl (k := i * 3 + 1) (by omega)), (Own.cellAt (F59.at 4 rfl : Own fvEnc 121 3 w27.heap.size _ (.slice (some ⟨rF18, 0, none⟩) lF18.length kF18) lF18) (fun _ => rfl) hz48.out 2 (u := .func (.func 68) #[] #[]) rfl (k := i * 3 + 2) (by omega))⟩
        obtain ⟨wd61, hwd_⟩ : ∃ x : World, w55.drew = x := ⟨_, rfl⟩
        rw [hwd_] at F59 ⊢
        have wd61s : w55.heap.size ≤ wd61.heap.size := by rw [← hwd_]; exact Nat.le_refl _
        clear hwd_
        have hS60 := (And.intro (F59.cl 0 0 rfl rfl) (And.intro (F59.cl 13 0 rfl rfl) (And.intro (F59.cl 13 1 rfl rfl) (And.intro ((Own.cellAt (F59.at 4 rfl : Own fvEnc 121 3 w27.heap.size _ (.slice (some ⟨rF18, 0, none⟩) lF18.length kF18) lF18) (fun _ => rfl) hz48.out 0 (u := .pointer (some ⟨rA18, k * 6 + 2, none⟩)) rfl (k := i * 3) (by omega))) (And.intro ((Own.cellAt (F59.at 4 rfl : Own fvEnc 121 3 w27.heap.size _ (.slice (some ⟨rF18, 0, none⟩) lF18.length kF18) lF18) (fun _ => rfl) hz48.out 1 (u := .func (.func 67) #[] #[.pointer (some ⟨gx18 k, 0, none⟩)]) rfl (k := i * 3 + 1) (by omega))) ((Own.cellAt (F59.at 4 rfl : Own fvEnc 121 3 w27.heap.size _ (.slice (some ⟨rF18, 0, none⟩) lF18.length kF18) lF18) (fun _ => rfl) hz48.out 2 (u := .func (.func 68) #[] #[]) rfl (k := i * 3 + 2) (by omega))))))))
        refine ru_t 0 [] ?_
        refine ru_t 1 [] ?_
        refine ru_t 2 [] ?_
        refine ru_t 3 [] ?_
        refine ru_t 4 [] ?_
        refine ru_t 5 [] ?_
        refine ru_t 6 [] ?_
        (try simp only [Act.put, List.setIfInBounds_toArray, List.set_cons_zero, List.set_cons_succ])
        clear hS60
        refine ru_one 7 rfl (by kernel_rfl) (fun K hK => ?_)
        go_simp
        refine (nar0_r _ _ _ _ _ _ b rA18 k (gx18 k) _ _ _ _ (F59.at 15 rfl : Sl accEnc 6 l1 h1 _ (.slice aa b.accs.length ak) b.accs) (F59.at 14 rfl : Sl mvEnc 4 l2 h2 _ (.slice ma b.mvs.length mk) b.mvs) (by first | omega | (simp; omega)) (by first | omega | (simp; omega)) HOK.out hk ((F59.at 5 rfl : ∀ k, k < b.accs.length → Bk _ (gx18 k) 3 #[(fun k => .int .i64 (k : Int)) k]) k hk) (by have h_ := Own.sl (F59.at 7 rfl : Own accEnc 41 6 w20.heap.size _ (.slice (some ⟨rA18, 0, none⟩) b.accs.length kA18) (refAL b 0)) (fun _ => rfl); rw [refAL_zero] at h_; exact h_) (Nat.le_refl _)).mono ?_
        rintro e w64 ⟨rfl, hg62⟩
        have hg62s := hg62.size
        (try simp at hg62s)
        have F65 := F59.gn hg62
        clear F59
        refine ru_back hK (by exact ⟨F65.cl 0 0 rfl rfl, F65.cl 13 0 rfl rfl, F65.cl 13 1 rfl rfl, (Own.cellAt (F65.at 4 rfl : Own fvEnc 121 3 w27.heap.size _ (.slice (some ⟨rF18, 0, none⟩) lF18.length kF18) lF18) (fun _ => rfl) hz48.out 0 (u := .pointer (some ⟨rA18, k * 6 + 2, none⟩)) rfl (k := i * 3) (by omega)), (Own.cellAt (F65.at 4 rfl : Own fvEnc 121 3 w27.heap.size _ (.slice (some ⟨rF18, 0, none⟩) lF18.length kF18) lF18) (fun _ => rfl) hz48.out 1 (u := .func (.func 67) #[] #[.pointer (some ⟨gx18 k, 0, none⟩)]) rfl (k := i * 3 + 1) (by omega)), (Own.cellAt (F65.at 4 rfl : Own fvEnc 121 3 w27.heap.size _ (.slice (some ⟨rF18, 0, none⟩) lF18.length kF18) lF18) (fun _ => rfl) hz48.out 2 (u := .func (.func 68) #[] #[]) rfl (k := i * 3 + 2) (by omega))⟩) (fun hHeld => ?_)
        clear hK K
        (try simp only [Act.put, List.setIfInBounds_toArray, List.set_cons_zero, List.set_cons_succ])
        refine ru_p 8 ?_
        (try simp only [Act.put, List.setIfInBounds_toArray, List.set_cons_zero, List.set_cons_succ])
        refine ru_one 9 rfl (by kernel_rfl) (fun K hK => ?_)
        have kc0_ : World.cell? _ ⟨rA16, k * 6 + 2, none⟩ = some (.int .i64 (refA b i k).op.lo) := (by simpa using (Own.sl (F65.at 10 rfl : Own accEnc 41 6 w11.heap.size _ (.slice (some ⟨rA16, 0, none⟩) b.accs.length kA16) (refAL b i)) (fun _ => rfl)).cells hz49.out 2 _ rfl)
        have kf0_ : World.frozen? _ ⟨rA16, k * 6 + 2, none⟩ = false := Own.live (F65.at 10 rfl : Own accEnc 41 6 w11.heap.size _ (.slice (some ⟨rA16, 0, none⟩) b.accs.length kA16) (refAL b i)) _
        have kc1_ : World.cell? _ ⟨rA16, k * 6 + 2 + 1, none⟩ = some (.int .i64 (refA b i k).op.hi) := (by simpa using (Own.sl (F65.at 10 rfl : Own accEnc 41 6 w11.heap.size _ (.slice (some ⟨rA16, 0, none⟩) b.accs.length kA16) (refAL b i)) (fun _ => rfl)).cells hz49.out 3 _ rfl)
        have kf1_ : World.frozen? _ ⟨rA16, k * 6 + 2 + 1, none⟩ = false := Own.live (F65.at 10 rfl : Own accEnc 41 6 w11.heap.size _ (.slice (some ⟨rA16, 0, none⟩) b.accs.length kA16) (refAL b i)) _
        go_simp
        clear kc0_ kf0_ kc1_ kf1_
        have F66 := Bun.setOwn (sz := 6) (fun _ => rfl) (F65.front 10 rfl rfl) hz49.out (y := (⟨(refA b i k).name, (refA b i k).kind, ⟨(narO b k).lo, (refA b i k).op.hi⟩, ⟨(refA b i k).cl.lo, (refA b i k).cl.hi⟩⟩)) (j := 2) (u := (.int .i64 ((narO b k).lo))) (k := (k * 6 + 2)) (by decide) rfl (by omega)
        clear F65
        have hz67 : Hid (((refAL b i).set k (⟨(refA b i k).name, (refA b i k).kind, ⟨(narO b k).lo, (refA b i k).op.hi⟩, ⟨(refA b i k).cl.lo, (refA b i k).cl.hi⟩⟩))[k]? = some (⟨(refA b i k).name, (refA b i k).kind, ⟨(narO b k).lo, (refA b i k).op.hi⟩, ⟨(refA b i k).cl.lo, (refA b i k).cl.hi⟩⟩)) := Lib.hid (set_at (by rw [refAL_len]; exact hk))
        have F68 := Bun.setOwn (sz := 6) (fun _ => rfl) F66 hz67.out (y := (⟨(refA b i k).name, (refA b i k).kind, ⟨(narO b k).lo, (narO b k).hi⟩, ⟨(refA b i k).cl.lo, (refA b i k).cl.hi⟩⟩)) (j := 3) (u := (.int .i64 ((narO b k).hi))) (k := (k * 6 + 2 + 1)) (by decide) rfl (by omega)
        clear F66
        rw [List.set_set] at F68
        have hz69 : Hid (((refAL b i).set k (⟨(refA b i k).name, (refA b i k).kind, ⟨(narO b k).lo, (narO b k).hi⟩, ⟨(refA b i k).cl.lo, (refA b i k).cl.hi⟩⟩))[k]? = some (⟨(refA b i k).name, (refA b i k).kind, ⟨(narO b k).lo, (narO b k).hi⟩, ⟨(refA b i k).cl.lo, (refA b i k).cl.hi⟩⟩)) := Lib.hid (set_at (by rw [refAL_len]; exact hk))
        refine ru_back_late hK (by kernel_rfl) ?_
        clear hK K
        (try simp only [Act.put, List.setIfInBounds_toArray, List.set_cons_zero, List.set_cons_succ])
        refine ru_done (by kernel_rfl) ?_
        obtain ⟨w70, hx71, F73, hxs72⟩ := (show Bun w [rown accEnc 41 6 w11.heap.size (.slice (some ⟨rA16, 0, none⟩) b.accs.length kA16) ((refAL b i).set k (⟨(refA b i k).name, (refA b i k).kind, ⟨(narO b k).lo, (narO b k).hi⟩, ⟨(refA b i k).cl.lo, (refA b i k).cl.hi⟩⟩)), rown fvEnc 121 3 w35.heap.size (.slice (some ⟨rF16, 0, none⟩) lF16.length kF16) lF16, rnums 3 b.accs.length gx16 (fun k => .int .i64 (k : Int)), rnums 135 b.mvs.length gy16 (fun k => .pointer (some ⟨rM16, k * 4, none⟩)), rown fvEnc 121 3 w27.heap.size (.slice (some ⟨rF18, 0, none⟩) lF18.length kF18) lF18, rnums 3 b.accs.length gx18 (fun k => .int .i64 (k : Int)), rnums 135 b.mvs.length gy18 (fun k => .pointer (some ⟨rM18, k * 4, none⟩)), rown accEnc 41 6 w20.heap.size (.slice (some ⟨rA18, 0, none⟩) b.accs.length kA18) (refAL b 0), rown mvEnc 43 4 w20.heap.size (.slice pM18 b.mvs.length kM18) (refML b 0), rbox w15.heap.size 38 #[.slice (some ⟨rA16, 0, none⟩) b.accs.length kA16, .slice pM16 b.mvs.length kM16], rown mvEnc 43 4 w11.heap.size (.slice pM16 b.mvs.length kM16) (refML b i), rbox (w.heap.size + 1) 38 #[.slice none 0 0, .slice none 0 0], rbox w.heap.size 38 #[.slice aa b.accs.length ak, .slice ma b.mvs.length mk], rsl mvEnc 4 l2 h2 (.slice ma b.mvs.length mk) b.mvs, rsl accEnc 6 l1 h1 (.slice aa b.accs.length ak) b.accs] _ from (F68.drop 1 rfl)).name
        (try simp at hxs72)
        rw [hx71]
        clear hx71 F68
        go_wp2_with fail
        rw [refAL_op HI.out rfl] at F73
        rw [refML_acc (show i < 2 * b.accs.length by have := HI.out; omega)] at F73
        have F74 : Bun w [rown fvEnc 121 3 w35.heap.size (.slice (some ⟨rF16, 0, none⟩) lF16.length kF16) lF16, rnums 3 b.accs.length gx16 (fun k => .int .i64 (k : Int)), rnums 135 b.mvs.length gy16 (fun k => .pointer (some ⟨rM16, k * 4, none⟩)), rown fvEnc 121 3 w27.heap.size (.slice (some ⟨rF18, 0, none⟩) lF18.length kF18) lF18, rnums 3 b.accs.length gx18 (fun k => .int .i64 (k : Int)), rnums 135 b.mvs.length gy18 (fun k => .pointer (some ⟨rM18, k * 4, none⟩)), rown accEnc 41 6 w20.heap.size (.slice (some ⟨rA18, 0, none⟩) b.accs.length kA18) (refAL b 0), rown mvEnc 43 4 w20.heap.size (.slice pM18 b.mvs.length kM18) (refML b 0), rbox w15.heap.size 38 #[.slice (some ⟨rA16, 0, none⟩) b.accs.length kA16, .slice pM16 b.mvs.length kM16], rown accEnc 41 6 w11.heap.size (.slice (some ⟨rA16, 0, none⟩) b.accs.length kA16) (refAL b (i + 1)), rown mvEnc 43 4 w11.heap.size (.slice pM16 b.mvs.length kM16) (refML b (i + 1)), rbox (w.heap.size + 1) 38 #[.slice none 0 0, .slice none 0 0], rbox w.heap.size 38 #[.slice aa b.accs.length ak, .slice ma b.mvs.length mk], rsl mvEnc 4 l2 h2 (.slice ma b.mvs.length mk) b.mvs, rsl accEnc 6 l1 h1 (.slice aa b.accs.length ak) b.accs] _ := F73.pick [1, 2, 3, 4, 5, 6, 7, 8, 9, 0, 10, 11, 12, 13, 14] (by decide) rfl
        clear F73
        (first | refine ⟨rfl, ?_, ?_⟩ | refine ⟨?_, ?_⟩)
        · rw [HI42.out]; exact ⟨i + 1, rfl, rfl, rfl, rfl, rfl, rfl, (by show Value.int .i64 ((i : Int) + 1) = _; simp), (by omega), (by first | rfl | simp), (by first | omega | (simp; done) | (simp; omega)), F74⟩
        · simp [slot, intOf]; omega
      · skip
        have HI := Lib.hid hi_
        have hib : i ≤ 2 * b.accs.length + b.mvs.length := by omega
        have hix16 : i < lF16.length := by omega
        have hix18 : i < lF18.length := by omega
        clear hi_
        have hz75 : Hid (lF16[i]? = some (⟨rA16, k * 6 + 4, 1, (gx16 k)⟩)) := Lib.hid (by rw [HI.out]; exact HF16.out.cl k hk)
        have hz76 : Hid (lF18[i]? = some (⟨rA18, k * 6 + 4, 1, (gx18 k)⟩)) := Lib.hid (by rw [HI.out]; exact HF18.out.cl k hk)
        have hz77 : Hid ((refAL b i)[k]? = some (refA b i k)) := Lib.hid (refAL_at hk)
        have ge78 : World.cell? _ ⟨rF16, i * 3, none⟩ = some (.pointer (some ⟨rA16, k * 6 + 4, none⟩)) := (Own.cellAt (hF43.at 0 rfl : Own fvEnc 121 3 w35.heap.size _ (.slice (some ⟨rF16, 0, none⟩) lF16.length kF16) lF16) (fun _ => rfl) hz75.out 0 (u := .pointer (some ⟨rA16, k * 6 + 4, none⟩)) rfl (k := i * 3) (by omega))
        have gl79 := cell_lt ge78
        have ge80 : World.cell? _ ⟨rF16, i * 3 + 1, none⟩ = some (.func (.func 68) #[] #[]) := (Own.cellAt (hF43.at 0 rfl : Own fvEnc 121 3 w35.heap.size _ (.slice (some ⟨rF16, 0, none⟩) lF16.length kF16) lF16) (fun _ => rfl) hz75.out 1 (u := .func (.func 68) #[] #[]) rfl (k := i * 3 + 1) (by omega))
        have ge81 : World.cell? _ ⟨rF16, i * 3 + 2, none⟩ = some (.func (.func 67) #[] #[.pointer (some ⟨gx16 k, 0, none⟩)]) := (Own.cellAt (hF43.at 0 rfl : Own fvEnc 121 3 w35.heap.size _ (.slice (some ⟨rF16, 0, none⟩) lF16.length kF16) lF16) (fun _ => rfl) hz75.out 2 (u := .func (.func 67) #[] #[.pointer (some ⟨gx16 k, 0, none⟩)]) rfl (k := i * 3 + 2) (by omega))
        go_wp2_with fail
        clear ge78 gl79 ge80 ge81
        have F82 := hF43.new 121 #[.pointer (some ⟨rA16, k * 6 + 4, none⟩), .func (.func 68) #[] #[], .func (.func 67) #[] #[.pointer (some ⟨gx16 k, 0, none⟩)]] (n := w45.heap.size) (by simp)
        clear hF43
        obtain ⟨w83, hx84, F86, hxs85⟩ := (show Bun w [rbox w45.heap.size 121 #[.pointer (some ⟨rA16, k * 6 + 4, none⟩), .func (.func 68) #[] #[], .func (.func 67) #[] #[.pointer (some ⟨gx16 k, 0, none⟩)]], rown fvEnc 121 3 w35.heap.size (.slice (some ⟨rF16, 0, none⟩) lF16.length kF16) lF16, rnums 3 b.accs.length gx16 (fun k => .int .i64 (k : Int)), rnums 135 b.mvs.length gy16 (fun k => .pointer (some ⟨rM16, k * 4, none⟩)), rown fvEnc 121 3 w27.heap.size (.slice (some ⟨rF18, 0, none⟩) lF18.length kF18) lF18, rnums 3 b.accs.length gx18 (fun k => .int .i64 (k : Int)), rnums 135 b.mvs.length gy18 (fun k => .pointer (some ⟨rM18, k * 4, none⟩)), rown accEnc 41 6 w20.heap.size (.slice (some ⟨rA18, 0, none⟩) b.accs.length kA18) (refAL b 0), rown mvEnc 43 4 w20.heap.size (.slice pM18 b.mvs.length kM18) (refML b 0), rbox w15.heap.size 38 #[.slice (some ⟨rA16, 0, none⟩) b.accs.length kA16, .slice pM16 b.mvs.length kM16], rown accEnc 41 6 w11.heap.size (.slice (some ⟨rA16, 0, none⟩) b.accs.length kA16) (refAL b i), rown mvEnc 43 4 w11.heap.size (.slice pM16 b.mvs.length kM16) (refML b i), rbox (w.heap.size + 1) 38 #[.slice none 0 0, .slice none 0 0], rbox w.heap.size 38 #[.slice aa b.accs.length ak, .slice ma b.mvs.length mk], rsl mvEnc 4 l2 h2 (.slice ma b.mvs.length mk) b.mvs, rsl accEnc 6 l1 h1 (.slice aa b.accs.length ak) b.accs] _ from F82).name
        (try simp at hxs85)
        rw [hx84]
        clear hx84 F82
        have F87 := F86.drew
        clear F86
        refine ru_begin (fun W => W.cell? ⟨w45.heap.size, 0, none⟩ = some (.pointer (some ⟨rA16, k * 6 + 4, none⟩)) ∧ W.cell? ⟨w.heap.size, 0, none⟩ = some (.slice aa b.accs.length ak) ∧ W.cell? ⟨w.heap.size, 1, none⟩ = some (.slice ma b.mvs.length mk) ∧ W.cell? ⟨rF18, i * 3, none⟩ = some (.pointer (some ⟨rA18, k * 6 + 4, none⟩)) ∧ W.cell? ⟨rF18, i * 3 + 1, none⟩ = some (.func (.func 68) #[] #[]) ∧ W.cell? ⟨rF18, i * 3 + 2, none⟩ = some (.func (.func 67) #[] #[.pointer (some ⟨gx18 k, 0, none⟩)])) 9 (by kernel_rfl) ?_ ?_
        · exact ⟨F87.cl 0 0 rfl rfl, F87.cl 13 0 rfl rfl, F87.cl 13 1 rfl rfl, (Own.cellAt (F87.at 4 rfl : Own fvEnc 121 3 w27.heap.size _ (.slice (some ⟨rF18, 0, none⟩) lF18.length kF18) lF18) (fun _ => rfl) hz76.out 0 (u := .pointer (some ⟨rA18, k * 6 + 4, none⟩)) rfl (k := i * 3) (by omega)), (Own.cellAt (F87.at 4 rfl : Own fvEnc 121 3 w27.heap.size _ (.slice (some ⟨rF18, 0, none⟩) lF18.length kF18) lF18) (fun _ => rfl) hz76.out 1 (u := .func (.func 68) #[] #[]) rfl (k := i * 3 + 1) (by omega)), (Own.cellAt (F87.at 4 rfl : Own fvEnc 121 3 w27.heap.size _ (.slice (some ⟨rF18, 0, none⟩) lF18.length kF18) lF18) (fun _ => rfl) hz76.out 2 (u := .func (.func 67) #[] #[.pointer (some ⟨gx18 k, 0, none⟩)]) rfl (k := i * 3 + 2) (by omega))⟩
        obtain ⟨wd89, hwd_⟩ : ∃ x : World, w83.drew = x := ⟨_, rfl⟩
        rw [hwd_] at F87 ⊢
        have wd89s : w83.heap.size ≤ wd89.heap.size := by rw [← hwd_]; exact Nat.le_refl _
        clear hwd_
        have hS88 := (And.intro (F87.cl 0 0 rfl rfl) (And.intro (F87.cl 13 0 rfl rfl) (And.intro (F87.cl 13 1 rfl rfl) (And.intro ((Own.cellAt (F87.at 4 rfl : Own fvEnc 121 3 w27.heap.size _ (.slice (some ⟨rF18, 0, none⟩) lF18.length kF18) lF18) (fun _ => rfl) hz76.out 0 (u := .pointer (some ⟨rA18, k * 6 + 4, none⟩)) rfl (k := i * 3) (by omega))) (And.intro ((Own.cellAt (F87.at 4 rfl : Own fvEnc 121 3 w27.heap.size _ (.slice (some ⟨rF18, 0, none⟩) lF18.length kF18) lF18) (fun _ => rfl) hz76.out 1 (u := .func (.func 68) #[] #[]) rfl (k := i * 3 + 1) (by omega))) ((Own.cellAt (F87.at 4 rfl : Own fvEnc 121 3 w27.heap.size _ (.slice (some ⟨rF18, 0, none⟩) lF18.length kF18) lF18) (fun _ => rfl) hz76.out 2 (u := .func (.func 67) #[] #[.pointer (some ⟨gx18 k, 0, none⟩)]) rfl (k := i * 3 + 2) (by omega))))))))
        refine ru_t 0 [] ?_
        refine ru_t 1 [] ?_
        refine ru_t 2 [] ?_
        refine ru_t 3 [] ?_
        refine ru_t 4 [] ?_
        refine ru_t 5 [] ?_
        refine ru_t 6 [] ?_
        (try simp only [Act.put, List.setIfInBounds_toArray, List.set_cons_zero, List.set_cons_succ])
        clear hS88
        refine ru_one 7 rfl (by kernel_rfl) (fun K hK => ?_)
        go_simp
        refine (nar1_r _ _ _ _ _ _ b rA18 k (gx18 k) _ _ _ _ (F87.at 15 rfl : Sl accEnc 6 l1 h1 _ (.slice aa b.accs.length ak) b.accs) (F87.at 14 rfl : Sl mvEnc 4 l2 h2 _ (.slice ma b.mvs.length mk) b.mvs) (by first | omega | (simp; omega)) (by first | omega | (simp; omega)) HOK.out hk ((F87.at 5 rfl : ∀ k, k < b.accs.length → Bk _ (gx18 k) 3 #[(fun k => .int .i64 (k : Int)) k]) k hk) (by have h_ := Own.sl (F87.at 7 rfl : Own accEnc 41 6 w20.heap.size _ (.slice (some ⟨rA18, 0, none⟩) b.accs.length kA18) (refAL b 0)) (fun _ => rfl); rw [refAL_zero] at h_; exact h_) (Nat.le_refl _)).mono ?_
        rintro e w92 ⟨rfl, hg90⟩
        have hg90s := hg90.size
        (try simp at hg90s)
        have F93 := F87.gn hg90
        clear F87
        refine ru_back hK (by exact ⟨F93.cl 0 0 rfl rfl, F93.cl 13 0 rfl rfl, F93.cl 13 1 rfl rfl, (Own.cellAt (F93.at 4 rfl : Own fvEnc 121 3 w27.heap.size _ (.slice (some ⟨rF18, 0, none⟩) lF18.length kF18) lF18) (fun _ => rfl) hz76.out 0 (u := .pointer (some ⟨rA18, k * 6 + 4, none⟩)) rfl (k := i * 3) (by omega)), (Own.cellAt (F93.at 4 rfl : Own fvEnc 121 3 w27.heap.size _ (.slice (some ⟨rF18, 0, none⟩) lF18.length kF18) lF18) (fun _ => rfl) hz76.out 1 (u := .func (.func 68) #[] #[]) rfl (k := i * 3 + 1) (by omega)), (Own.cellAt (F93.at 4 rfl : Own fvEnc 121 3 w27.heap.size _ (.slice (some ⟨rF18, 0, none⟩) lF18.length kF18) lF18) (fun _ => rfl) hz76.out 2 (u := .func (.func 67) #[] #[.pointer (some ⟨gx18 k, 0, none⟩)]) rfl (k := i * 3 + 2) (by omega))⟩) (fun hHeld => ?_)
        clear hK K
        (try simp only [Act.put, List.setIfInBounds_toArray, List.set_cons_zero, List.set_cons_succ])
        refine ru_p 8 ?_
        (try simp only [Act.put, List.setIfInBounds_toArray, List.set_cons_zero, List.set_cons_succ])
        refine ru_one 9 rfl (by kernel_rfl) (fun K hK => ?_)
        have kc0_ : World.cell? _ ⟨rA16, k * 6 + 4, none⟩ = some (.int .i64 (refA b i k).cl.lo) := (by simpa using (Own.sl (F93.at 10 rfl : Own accEnc 41 6 w11.heap.size _ (.slice (some ⟨rA16, 0, none⟩) b.accs.length kA16) (refAL b i)) (fun _ => rfl)).cells hz77.out 4 _ rfl)
        have kf0_ : World.frozen? _ ⟨rA16, k * 6 + 4, none⟩ = false := Own.live (F93.at 10 rfl : Own accEnc 41 6 w11.heap.size _ (.slice (some ⟨rA16, 0, none⟩) b.accs.length kA16) (refAL b i)) _
        have kc1_ : World.cell? _ ⟨rA16, k * 6 + 4 + 1, none⟩ = some (.int .i64 (refA b i k).cl.hi) := (by simpa using (Own.sl (F93.at 10 rfl : Own accEnc 41 6 w11.heap.size _ (.slice (some ⟨rA16, 0, none⟩) b.accs.length kA16) (refAL b i)) (fun _ => rfl)).cells hz77.out 5 _ rfl)
        have kf1_ : World.frozen? _ ⟨rA16, k * 6 + 4 + 1, none⟩ = false := Own.live (F93.at 10 rfl : Own accEnc 41 6 w11.heap.size _ (.slice (some ⟨rA16, 0, none⟩) b.accs.length kA16) (refAL b i)) _
        go_simp
        clear kc0_ kf0_ kc1_ kf1_
        have F94 := Bun.setOwn (sz := 6) (fun _ => rfl) (F93.front 10 rfl rfl) hz77.out (y := (⟨(refA b i k).name, (refA b i k).kind, ⟨(refA b i k).op.lo, (refA b i k).op.hi⟩, ⟨(narC b k).lo, (refA b i k).cl.hi⟩⟩)) (j := 4) (u := (.int .i64 ((narC b k).lo))) (k := (k * 6 + 4)) (by decide) rfl (by omega)
        clear F93
        have hz95 : Hid (((refAL b i).set k (⟨(refA b i k).name, (refA b i k).kind, ⟨(refA b i k).op.lo, (refA b i k).op.hi⟩, ⟨(narC b k).lo, (refA b i k).cl.hi⟩⟩))[k]? = some (⟨(refA b i k).name, (refA b i k).kind, ⟨(refA b i k).op.lo, (refA b i k).op.hi⟩, ⟨(narC b k).lo, (refA b i k).cl.hi⟩⟩)) := Lib.hid (set_at (by rw [refAL_len]; exact hk))
        have F96 := Bun.setOwn (sz := 6) (fun _ => rfl) F94 hz95.out (y := (⟨(refA b i k).name, (refA b i k).kind, ⟨(refA b i k).op.lo, (refA b i k).op.hi⟩, ⟨(narC b k).lo, (narC b k).hi⟩⟩)) (j := 5) (u := (.int .i64 ((narC b k).hi))) (k := (k * 6 + 4 + 1)) (by decide) rfl (by omega)
        clear F94
        rw [List.set_set] at F96
        have hz97 : Hid (((refAL b i).set k (⟨(refA b i k).name, (refA b i k).kind, ⟨(refA b i k).op.lo, (refA b i k).op.hi⟩, ⟨(narC b k).lo, (narC b k).hi⟩⟩))[k]? = some (⟨(refA b i k).name, (refA b i k).kind, ⟨(refA b i k).op.lo, (refA b i k).op.hi⟩, ⟨(narC b k).lo, (narC b k).hi⟩⟩)) := Lib.hid (set_at (by rw [refAL_len]; exact hk))
        refine ru_back_late hK (by kernel_rfl) ?_
        clear hK K
        (try simp only [Act.put, List.setIfInBounds_toArray, List.set_cons_zero, List.set_cons_succ])
        refine ru_done (by kernel_rfl) ?_
        obtain ⟨w98, hx99, F101, hxs100⟩ := (show Bun w [rown accEnc 41 6 w11.heap.size (.slice (some ⟨rA16, 0, none⟩) b.accs.length kA16) ((refAL b i).set k (⟨(refA b i k).name, (refA b i k).kind, ⟨(refA b i k).op.lo, (refA b i k).op.hi⟩, ⟨(narC b k).lo, (narC b k).hi⟩⟩)), rown fvEnc 121 3 w35.heap.size (.slice (some ⟨rF16, 0, none⟩) lF16.length kF16) lF16, rnums 3 b.accs.length gx16 (fun k => .int .i64 (k : Int)), rnums 135 b.mvs.length gy16 (fun k => .pointer (some ⟨rM16, k * 4, none⟩)), rown fvEnc 121 3 w27.heap.size (.slice (some ⟨rF18, 0, none⟩) lF18.length kF18) lF18, rnums 3 b.accs.length gx18 (fun k => .int .i64 (k : Int)), rnums 135 b.mvs.length gy18 (fun k => .pointer (some ⟨rM18, k * 4, none⟩)), rown accEnc 41 6 w20.heap.size (.slice (some ⟨rA18, 0, none⟩) b.accs.length kA18) (refAL b 0), rown mvEnc 43 4 w20.heap.size (.slice pM18 b.mvs.length kM18) (refML b 0), rbox w15.heap.size 38 #[.slice (some ⟨rA16, 0, none⟩) b.accs.length kA16, .slice pM16 b.mvs.length kM16], rown mvEnc 43 4 w11.heap.size (.slice pM16 b.mvs.length kM16) (refML b i), rbox (w.heap.size + 1) 38 #[.slice none 0 0, .slice none 0 0], rbox w.heap.size 38 #[.slice aa b.accs.length ak, .slice ma b.mvs.length mk], rsl mvEnc 4 l2 h2 (.slice ma b.mvs.length mk) b.mvs, rsl accEnc 6 l1 h1 (.slice aa b.accs.length ak) b.accs] _ from (F96.drop 1 rfl)).name
        (try simp at hxs100)
        rw [hx99]
        clear hx99 F96
        go_wp2_with fail
        rw [refAL_cl HI.out rfl] at F101
        rw [refML_acc (show i < 2 * b.accs.length by have := HI.out; omega)] at F101
        have F102 : Bun w [rown fvEnc 121 3 w35.heap.size (.slice (some ⟨rF16, 0, none⟩) lF16.length kF16) lF16, rnums 3 b.accs.length gx16 (fun k => .int .i64 (k : Int)), rnums 135 b.mvs.length gy16 (fun k => .pointer (some ⟨rM16, k * 4, none⟩)), rown fvEnc 121 3 w27.heap.size (.slice (some ⟨rF18, 0, none⟩) lF18.length kF18) lF18, rnums 3 b.accs.length gx18 (fun k => .int .i64 (k : Int)), rnums 135 b.mvs.length gy18 (fun k => .pointer (some ⟨rM18, k * 4, none⟩)), rown accEnc 41 6 w20.heap.size (.slice (some ⟨rA18, 0, none⟩) b.accs.length kA18) (refAL b 0), rown mvEnc 43 4 w20.heap.size (.slice pM18 b.mvs.length kM18) (refML b 0), rbox w15.heap.size 38 #[.slice (some ⟨rA16, 0, none⟩) b.accs.length kA16, .slice pM16 b.mvs.length kM16], rown accEnc 41 6 w11.heap.size (.slice (some ⟨rA16, 0, none⟩) b.accs.length kA16) (refAL b (i + 1)), rown mvEnc 43 4 w11.heap.size (.slice pM16 b.mvs.length kM16) (refML b (i + 1)), rbox (w.heap.size + 1) 38 #[.slice none 0 0, .slice none 0 0], rbox w.heap.size 38 #[.slice aa b.accs.length ak, .slice ma b.mvs.length mk], rsl mvEnc 4 l2 h2 (.slice ma b.mvs.length mk) b.mvs, rsl accEnc 6 l1 h1 (.slice aa b.accs.length ak) b.accs] _ := F101.pick [1, 2, 3, 4, 5, 6, 7, 8, 9, 0, 10, 11, 12, 13, 14] (by decide) rfl
        clear F101
        (first | refine ⟨rfl, ?_, ?_⟩ | refine ⟨?_, ?_⟩)
        · rw [HI42.out]; exact ⟨i + 1, rfl, rfl, rfl, rfl, rfl, rfl, (by show Value.int .i64 ((i : Int) + 1) = _; simp), (by omega), (by first | rfl | simp), (by first | omega | (simp; done) | (simp; omega)), F102⟩
        · simp [slot, intOf]; omega
      · skip
        have HI := Lib.hid hi_
        have hib : i ≤ 2 * b.accs.length + b.mvs.length := by omega
        have hix16 : i < lF16.length := by omega
        have hix18 : i < lF18.length := by omega
        clear hi_
        obtain rfl : pM16 = some ⟨rM16, 0, none⟩ := HAM16.out.resolve_left (by omega)
        obtain rfl : pM18 = some ⟨rM18, 0, none⟩ := HAM18.out.resolve_left (by omega)
        have hz103 : Hid (lF16[i]? = some (⟨rM16, k * 4 + 2, 2, (gy16 k)⟩)) := Lib.hid (by rw [HI.out]; exact HF16.out.mv k hk)
        have hz104 : Hid (lF18[i]? = some (⟨rM18, k * 4 + 2, 2, (gy18 k)⟩)) := Lib.hid (by rw [HI.out]; exact HF18.out.mv k hk)
        have hz105 : Hid ((refML b i)[k]? = some (refM b i k)) := Lib.hid (refML_at hk)
        have ge106 : World.cell? _ ⟨rF16, i * 3, none⟩ = some (.pointer (some ⟨rM16, k * 4 + 2, none⟩)) := (Own.cellAt (hF43.at 0 rfl : Own fvEnc 121 3 w35.heap.size _ (.slice (some ⟨rF16, 0, none⟩) lF16.length kF16) lF16) (fun _ => rfl) hz103.out 0 (u := .pointer (some ⟨rM16, k * 4 + 2, none⟩)) rfl (k := i * 3) (by omega))
        have gl107 := cell_lt ge106
        have ge108 : World.cell? _ ⟨rF16, i * 3 + 1, none⟩ = some (.func (.func 69) #[] #[.pointer (some ⟨gy16 k, 0, none⟩)]) := (Own.cellAt (hF43.at 0 rfl : Own fvEnc 121 3 w35.heap.size _ (.slice (some ⟨rF16, 0, none⟩) lF16.length kF16) lF16) (fun _ => rfl) hz103.out 1 (u := .func (.func 69) #[] #[.pointer (some ⟨gy16 k, 0, none⟩)]) rfl (k := i * 3 + 1) (by omega))
        have ge109 : World.cell? _ ⟨rF16, i * 3 + 2, none⟩ = some (.func (.func 70) #[] #[.pointer (some ⟨gy16 k, 0, none⟩)]) := (Own.cellAt (hF43.at 0 rfl : Own fvEnc 121 3 w35.heap.size _ (.slice (some ⟨rF16, 0, none⟩) lF16.length kF16) lF16) (fun _ => rfl) hz103.out 2 (u := .func (.func 70) #[] #[.pointer (some ⟨gy16 k, 0, none⟩)]) rfl (k := i * 3 + 2) (by omega))
        go_wp2_with fail
        clear ge106 gl107 ge108 ge109
        have F110 := hF43.new 121 #[.pointer (some ⟨rM16, k * 4 + 2, none⟩), .func (.func 69) #[] #[.pointer (some ⟨gy16 k, 0, none⟩)], .func (.func 70) #[] #[.pointer (some ⟨gy16 k, 0, none⟩)]] (n := w45.heap.size) (by simp)
        clear hF43
        obtain ⟨w111, hx112, F114, hxs113⟩ := (show Bun w [rbox w45.heap.size 121 #[.pointer (some ⟨rM16, k * 4 + 2, none⟩), .func (.func 69) #[] #[.pointer (some ⟨gy16 k, 0, none⟩)], .func (.func 70) #[] #[.pointer (some ⟨gy16 k, 0, none⟩)]], rown fvEnc 121 3 w35.heap.size (.slice (some ⟨rF16, 0, none⟩) lF16.length kF16) lF16, rnums 3 b.accs.length gx16 (fun k => .int .i64 (k : Int)), rnums 135 b.mvs.length gy16 (fun k => .pointer (some ⟨rM16, k * 4, none⟩)), rown fvEnc 121 3 w27.heap.size (.slice (some ⟨rF18, 0, none⟩) lF18.length kF18) lF18, rnums 3 b.accs.length gx18 (fun k => .int .i64 (k : Int)), rnums 135 b.mvs.length gy18 (fun k => .pointer (some ⟨rM18, k * 4, none⟩)), rown accEnc 41 6 w20.heap.size (.slice (some ⟨rA18, 0, none⟩) b.accs.length kA18) (refAL b 0), rown mvEnc 43 4 w20.heap.size (.slice (some ⟨rM18, 0, none⟩) b.mvs.length kM18) (refML b 0), rbox w15.heap.size 38 #[.slice (some ⟨rA16, 0, none⟩) b.accs.length kA16, .slice (some ⟨rM16, 0, none⟩) b.mvs.length kM16], rown accEnc 41 6 w11.heap.size (.slice (some ⟨rA16, 0, none⟩) b.accs.length kA16) (refAL b i), rown mvEnc 43 4 w11.heap.size (.slice (some ⟨rM16, 0, none⟩) b.mvs.length kM16) (refML b i), rbox (w.heap.size + 1) 38 #[.slice none 0 0, .slice none 0 0], rbox w.heap.size 38 #[.slice aa b.accs.length ak, .slice ma b.mvs.length mk], rsl mvEnc 4 l2 h2 (.slice ma b.mvs.length mk) b.mvs, rsl accEnc 6 l1 h1 (.slice aa b.accs.length ak) b.accs] _ from F110).name
        (try simp at hxs113)
        rw [hx112]
        clear hx112 F110
        have F115 := F114.drew
        clear F114
        refine ru_begin (fun W => W.cell? ⟨w45.heap.size, 0, none⟩ = some (.pointer (some ⟨rM16, k * 4 + 2, none⟩)) ∧ W.cell? ⟨w.heap.size, 0, none⟩ = some (.slice aa b.accs.length ak) ∧ W.cell? ⟨w.heap.size, 1, none⟩ = some (.slice ma b.mvs.length mk) ∧ W.cell? ⟨rF18, i * 3, none⟩ = some (.pointer (some ⟨rM18, k * 4 + 2, none⟩)) ∧ W.cell? ⟨rF18, i * 3 + 1, none⟩ = some (.func (.func 69) #[] #[.pointer (some ⟨gy18 k, 0, none⟩)]) ∧ W.cell? ⟨rF18, i * 3 + 2, none⟩ = some (.func (.func 70) #[] #[.pointer (some ⟨gy18 k, 0, none⟩)])) 9 (by kernel_rfl) ?_ ?_
        · exact ⟨F115.cl 0 0 rfl rfl, F115.cl 13 0 rfl rfl, F115.cl 13 1 rfl rfl, (Own.cellAt (F115.at 4 rfl : Own fvEnc 121 3 w27.heap.size _ (.slice (some ⟨rF18, 0, none⟩) lF18.length kF18) lF18) (fun _ => rfl) hz104.out 0 (u := .pointer (some ⟨rM18, k * 4 + 2, none⟩)) rfl (k := i * 3) (by omega)), (Own.cellAt (F115.at 4 rfl : Own fvEnc 121 3 w27.heap.size _ (.slice (some ⟨rF18, 0, none⟩) lF18.length kF18) lF18) (fun _ => rfl) hz104.out 1 (u := .func (.func 69) #[] #[.pointer (some ⟨gy18 k, 0, none⟩)]) rfl (k := i * 3 + 1) (by omega)), (Own.cellAt (F115.at 4 rfl : Own fvEnc 121 3 w27.heap.size _ (.slice (some ⟨rF18, 0, none⟩) lF18.length kF18) lF18) (fun _ => rfl) hz104.out 2 (u := .func (.func 70) #[] #[.pointer (some ⟨gy18 k, 0, none⟩)]) rfl (k := i * 3 + 2) (by omega))⟩
        obtain ⟨wd117, hwd_⟩ : ∃ x : World, w111.drew = x := ⟨_, rfl⟩
        rw [hwd_] at F115 ⊢
        have wd117s : w111.heap.size ≤ wd117.heap.size := by rw [← hwd_]; exact Nat.le_refl _
        clear hwd_
        have hS116 := (And.intro (F115.cl 0 0 rfl rfl) (And.intro (F115.cl 13 0 rfl rfl) (And.intro (F115.cl 13 1 rfl rfl) (And.intro ((Own.cellAt (F115.at 4 rfl : Own fvEnc 121 3 w27.heap.size _ (.slice (some ⟨rF18, 0, none⟩) lF18.length kF18) lF18) (fun _ => rfl) hz104.out 0 (u := .pointer (some ⟨rM18, k * 4 + 2, none⟩)) rfl (k := i * 3) (by omega))) (And.intro ((Own.cellAt (F115.at 4 rfl : Own fvEnc 121 3 w27.heap.size _ (.slice (some ⟨rF18, 0, none⟩) lF18.length kF18) lF18) (fun _ => rfl) hz104.out 1 (u := .func (.func 69) #[] #[.pointer (some ⟨gy18 k, 0, none⟩)]) rfl (k := i * 3 + 1) (by omega))) ((Own.cellAt (F115.at 4 rfl : Own fvEnc 121 3 w27.heap.size _ (.slice (some ⟨rF18, 0, none⟩) lF18.length kF18) lF18) (fun _ => rfl) hz104.out 2 (u := .func (.func 70) #[] #[.pointer (some ⟨gy18 k, 0, none⟩)]) rfl (k := i * 3 + 2) (by omega))))))))
        refine ru_t 0 [] ?_
        refine ru_t 1 [] ?_
        refine ru_t 2 [] ?_
        refine ru_t 3 [] ?_
        refine ru_t 4 [] ?_
        refine ru_t 5 [] ?_
        refine ru_t 6 [] ?_
        (try simp only [Act.put, List.setIfInBounds_toArray, List.set_cons_zero, List.set_cons_succ])
        clear hS116
        refine ru_one 7 rfl (by kernel_rfl) (fun K hK => ?_)
        go_simp
        refine (nar2_r _ _ _ _ _ _ b rM18 k (gy18 k) _ _ _ _ (F115.at 15 rfl : Sl accEnc 6 l1 h1 _ (.slice aa b.accs.length ak) b.accs) (F115.at 14 rfl : Sl mvEnc 4 l2 h2 _ (.slice ma b.mvs.length mk) b.mvs) (by first | omega | (simp; omega)) (by first | omega | (simp; omega)) HOK.out hk ((F115.at 6 rfl : ∀ k, k < b.mvs.length → Bk _ (gy18 k) 135 #[(fun k => .pointer (some ⟨rM18, k * 4, none⟩)) k]) k hk) (by have h_ := Own.sl (F115.at 8 rfl : Own mvEnc 43 4 w20.heap.size _ (.slice (some ⟨rM18, 0, none⟩) b.mvs.length kM18) (refML b 0)) (fun _ => rfl); rw [refML_zero] at h_; exact h_) (Nat.le_refl _)).mono ?_
        rintro e w120 ⟨rfl, hg118⟩
        have hg118s := hg118.size
        (try simp at hg118s)
        have F121 := F115.gn hg118
        clear F115
        refine ru_back hK (by exact ⟨F121.cl 0 0 rfl rfl, F121.cl 13 0 rfl rfl, F121.cl 13 1 rfl rfl, (Own.cellAt (F121.at 4 rfl : Own fvEnc 121 3 w27.heap.size _ (.slice (some ⟨rF18, 0, none⟩) lF18.length kF18) lF18) (fun _ => rfl) hz104.out 0 (u := .pointer (some ⟨rM18, k * 4 + 2, none⟩)) rfl (k := i * 3) (by omega)), (Own.cellAt (F121.at 4 rfl : Own fvEnc 121 3 w27.heap.size _ (.slice (some ⟨rF18, 0, none⟩) lF18.length kF18) lF18) (fun _ => rfl) hz104.out 1 (u := .func (.func 69) #[] #[.pointer (some ⟨gy18 k, 0, none⟩)]) rfl (k := i * 3 + 1) (by omega)), (Own.cellAt (F121.at 4 rfl : Own fvEnc 121 3 w27.heap.size _ (.slice (some ⟨rF18, 0, none⟩) lF18.length kF18) lF18) (fun _ => rfl) hz104.out 2 (u := .func (.func 70) #[] #[.pointer (some ⟨gy18 k, 0, none⟩)]) rfl (k := i * 3 + 2) (by omega))⟩) (fun hHeld => ?_)
        clear hK K
        (try simp only [Act.put, List.setIfInBounds_toArray, List.set_cons_zero, List.set_cons_succ])
        refine ru_p 8 ?_
        (try simp only [Act.put, List.setIfInBounds_toArray, List.set_cons_zero, List.set_cons_succ])
        refine ru_one 9 rfl (by kernel_rfl) (fun K hK => ?_)
        have kc0_ : World.cell? _ ⟨rM16, k * 4 + 2, none⟩ = some (.int .i64 (refM b i k).li.lo) := (by simpa using (Own.sl (F121.at 11 rfl : Own mvEnc 43 4 w11.heap.size _ (.slice (some ⟨rM16, 0, none⟩) b.mvs.length kM16) (refML b i)) (fun _ => rfl)).cells hz105.out 2 _ rfl)
        have kf0_ : World.frozen? _ ⟨rM16, k * 4 + 2, none⟩ = false := Own.live (F121.at 11 rfl : Own mvEnc 43 4 w11.heap.size _ (.slice (some ⟨rM16, 0, none⟩) b.mvs.length kM16) (refML b i)) _
        have kc1_ : World.cell? _ ⟨rM16, k * 4 + 2 + 1, none⟩ = some (.int .i64 (refM b i k).li.hi) := (by simpa using (Own.sl (F121.at 11 rfl : Own mvEnc 43 4 w11.heap.size _ (.slice (some ⟨rM16, 0, none⟩) b.mvs.length kM16) (refML b i)) (fun _ => rfl)).cells hz105.out 3 _ rfl)
        have kf1_ : World.frozen? _ ⟨rM16, k * 4 + 2 + 1, none⟩ = false := Own.live (F121.at 11 rfl : Own mvEnc 43 4 w11.heap.size _ (.slice (some ⟨rM16, 0, none⟩) b.mvs.length kM16) (refML b i)) _
        go_simp
        clear kc0_ kf0_ kc1_ kf1_
        have F122 := Bun.setOwn (sz := 4) (fun _ => rfl) (F121.front 11 rfl rfl) hz105.out (y := (⟨(refM b i k).fr, (refM b i k).to, ⟨(narL b k).lo, (refM b i k).li.hi⟩⟩)) (j := 2) (u := (.int .i64 ((narL b k).lo))) (k := (k * 4 + 2)) (by decide) rfl (by omega)
        clear F121
        have hz123 : Hid (((refML b i).set k (⟨(refM b i k).fr, (refM b i k).to, ⟨(narL b k).lo, (refM b i k).li.hi⟩⟩))[k]? = some (⟨(refM b i k).fr, (refM b i k).to, ⟨(narL b k).lo, (refM b i k).li.hi⟩⟩)) := Lib.hid (set_at (by rw [refML_len]; exact hk))
        have F124 := Bun.setOwn (sz := 4) (fun _ => rfl) F122 hz123.out (y := (⟨(refM b i k).fr, (refM b i k).to, ⟨(narL b k).lo, (narL b k).hi⟩⟩)) (j := 3) (u := (.int .i64 ((narL b k).hi))) (k := (k * 4 + 2 + 1)) (by decide) rfl (by omega)
        clear F122
        rw [List.set_set] at F124
        have hz125 : Hid (((refML b i).set k (⟨(refM b i k).fr, (refM b i k).to, ⟨(narL b k).lo, (narL b k).hi⟩⟩))[k]? = some (⟨(refM b i k).fr, (refM b i k).to, ⟨(narL b k).lo, (narL b k).hi⟩⟩)) := Lib.hid (set_at (by rw [refML_len]; exact hk))
        refine ru_back_late hK (by kernel_rfl) ?_
        clear hK K
        (try simp only [Act.put, List.setIfInBounds_toArray, List.set_cons_zero, List.set_cons_succ])
        refine ru_done (by kernel_rfl) ?_
        obtain ⟨w126, hx127, F129, hxs128⟩ := (show Bun w [rown mvEnc 43 4 w11.heap.size (.slice (some ⟨rM16, 0, none⟩) b.mvs.length kM16) ((refML b i).set k (⟨(refM b i k).fr, (refM b i k).to, ⟨(narL b k).lo, (narL b k).hi⟩⟩)), rown fvEnc 121 3 w35.heap.size (.slice (some ⟨rF16, 0, none⟩) lF16.length kF16) lF16, rnums 3 b.accs.length gx16 (fun k => .int .i64 (k : Int)), rnums 135 b.mvs.length gy16 (fun k => .pointer (some ⟨rM16, k * 4, none⟩)), rown fvEnc 121 3 w27.heap.size (.slice (some ⟨rF18, 0, none⟩) lF18.length kF18) lF18, rnums 3 b.accs.length gx18 (fun k => .int .i64 (k : Int)), rnums 135 b.mvs.length gy18 (fun k => .pointer (some ⟨rM18, k * 4, none⟩)), rown accEnc 41 6 w20.heap.size (.slice (some ⟨rA18, 0, none⟩) b.accs.length kA18) (refAL b 0), rown mvEnc 43 4 w20.heap.size (.slice (some ⟨rM18, 0, none⟩) b.mvs.length kM18) (refML b 0), rbox w15.heap.size 38 #[.slice (some ⟨rA16, 0, none⟩) b.accs.length kA16, .slice (some ⟨rM16, 0, none⟩) b.mvs.length kM16], rown accEnc 41 6 w11.heap.size (.slice (some ⟨rA16, 0, none⟩) b.accs.length kA16) (refAL b i), rbox (w.heap.size + 1) 38 #[.slice none 0 0, .slice none 0 0], rbox w.heap.size 38 #[.slice aa b.accs.length ak, .slice ma b.mvs.length mk], rsl mvEnc 4 l2 h2 (.slice ma b.mvs.length mk) b.mvs, rsl accEnc 6 l1 h1 (.slice aa b.accs.length ak) b.accs] _ from (F124.drop 1 rfl)).name
        (try simp at hxs128)
        rw [hx127]
        clear hx127 F124
        go_wp2_with fail
        rw [refML_li HI.out rfl] at F129
        rw [refAL_mv (show 2 * b.accs.length ≤ i by have := HI.out; omega)] at F129
        have F130 : Bun w [rown fvEnc 121 3 w35.heap.size (.slice (some ⟨rF16, 0, none⟩) lF16.length kF16) lF16, rnums 3 b.accs.length gx16 (fun k => .int .i64 (k : Int)), rnums 135 b.mvs.length gy16 (fun k => .pointer (some ⟨rM16, k * 4, none⟩)), rown fvEnc 121 3 w27.heap.size (.slice (some ⟨rF18, 0, none⟩) lF18.length kF18) lF18, rnums 3 b.accs.length gx18 (fun k => .int .i64 (k : Int)), rnums 135 b.mvs.length gy18 (fun k => .pointer (some ⟨rM18, k * 4, none⟩)), rown accEnc 41 6 w20.heap.size (.slice (some ⟨rA18, 0, none⟩) b.accs.length kA18) (refAL b 0), rown mvEnc 43 4 w20.heap.size (.slice (some ⟨rM18, 0, none⟩) b.mvs.length kM18) (refML b 0), rbox w15.heap.size 38 #[.slice (some ⟨rA16, 0, none⟩) b.accs.length kA16, .slice (some ⟨rM16, 0, none⟩) b.mvs.length kM16], rown accEnc 41 6 w11.heap.size (.slice (some ⟨rA16, 0, none⟩) b.accs.length kA16) (refAL b (i + 1)), rown mvEnc 43 4 w11.heap.size (.slice (some ⟨rM16, 0, none⟩) b.mvs.length kM16) (refML b (i + 1)), rbox (w.heap.size + 1) 38 #[.slice none 0 0, .slice none 0 0], rbox w.heap.size 38 #[.slice aa b.accs.length ak, .slice ma b.mvs.length mk], rsl mvEnc 4 l2 h2 (.slice ma b.mvs.length mk) b.mvs, rsl accEnc 6 l1 h1 (.slice aa b.accs.length ak) b.accs] _ := F129.pick [1, 2, 3, 4, 5, 6, 7, 8, 9, 10, 0, 11, 12, 13, 14] (by decide) rfl
        clear F129
        (first | refine ⟨rfl, ?_, ?_⟩ | refine ⟨?_, ?_⟩)
        · rw [HI42.out]; exact ⟨i + 1, rfl, rfl, rfl, rfl, rfl, rfl, (by show Value.int .i64 ((i : Int) + 1) = _; simp), (by omega), (by first | rfl | simp), (by first | omega | (simp; done) | (simp; omega)), F130⟩
        · simp [slot, intOf]; omega
    · skip
      have c46H := Lib.hid c46
      have c46a : decide ((i : Int) < (lF16.length : Int)) = false := dec_f c46
      obtain rfl : i = 2 * b.accs.length + b.mvs.length := by omega
      have b131 := hF43.bx2 8 rfl
      have b132 := hF43.bx2 11 rfl
      go_wp2_with fail
      clear b131 b132
      have F133 := (hF43.front 11 rfl rfl).pt2 (.slice (some ⟨rA16, 0, none⟩) b.accs.length kA16) (.slice pM16 b.mvs.length kM16)
      clear hF43
      have kb134 := F133.bx2 0 rfl
      go_wp2_with fail
      exact bodyPost_ret (v := .tuple #[.agg #[.slice (some ⟨rA16, 0, none⟩) b.accs.length kA16, .slice pM16 b.mvs.length kM16], .int .i64 0]) (by simp [results, Tryd.results32, go_sem, kb134]) rfl (⟨_, _, _, _, _, rfl, F133.pick [10, 11] (by decide) rfl⟩)
  case atStart1 =>
    rw [HI42.out]
    exact ⟨0, rfl, rfl, rfl, rfl, rfl, rfl, rfl, Nat.zero_le _, rfl, (by first | exact Nat.le_refl _ | omega | (simp; done) | (simp; omega)), F41⟩

theorem fref_c (l1 h1 l2 h2 : Nat) (va vm : Value) (b : Bok) (w : World) (ha : Accs l1 h1 w va b.accs) (hm : Mvs l2 h2 w vm b.mvs) (b1 : h1 ≤ w.heap.size) (b2 : h2 ≤ w.heap.size) (hn : nameOk b.accs) (hck : checkE b = 0) :
    Calls Tryd.prog 32 #[.agg #[va, vm]] w (RefP b w) := (fref_q l1 h1 l2 h2 va vm b w ha hm b1 b2 hn hck).mono fun _ _ h => h.p
end Go.Proofs.YtcndphefomigeaaDoor
