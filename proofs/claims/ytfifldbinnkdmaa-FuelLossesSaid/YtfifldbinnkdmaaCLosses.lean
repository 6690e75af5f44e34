/- FuelLosses: what the program says that accounts lose, and where litres are missing, is the reference's, for every book as the statement goes through, every list of numbers; nothing is changed; no condition. -/
import Derived.Test.YtfifldbinnkdmaaBookOf
import Derived.Test.YtfifldbinnkdmaaRef10
import Derived.Test.YtfifldbinnkdmaaKitB2
import Derived.Test.YtfifldbinnkdmaaWake
import Derived.Test.YtfifldbinnkdmaaKit1
import Derived.Test.YtfifldbinnkdmaaKit2
import Derived.Deep.RegionHeld3
import Derived.Deep.QuietTactic
import Derived.BigQuiet
import Derived.Test.YtfifldbinnkdmaaOpen
import Derived.Test.YtfifldbinnkdmaaHasB
set_option linter.unusedVariables false
set_option linter.unusedSimpArgs false
set_option linter.unnecessarySimpa false
namespace Go.Proofs.Ytfifldbinnkdmaa
open Go.RowKit Go.Shelf
set_option maxRecDepth 100000
attribute [local go_sem] run_store_func

open Classical in
noncomputable def lx (b : Bok) : Sp := if checkE b = 0 then lossT b else ⟨0, 0⟩
open Classical in
noncomputable def ll (b : Bok) : List Sp := if checkE b = 0 then lossL b else []
open Classical in
noncomputable def vl (b : Bok) : List Int := if checkE b = 0 then verdL b else []
theorem lossesPost.uni {b : Bok} {w : World} {e : Ending} {w' : World} (h : lossesPost b w e w') : ∃ v, e = .returned (.tuple #[v, .agg #[.int .i64 (lx b).lo, .int .i64 (lx b).hi], .int .i64 (checkE b)]) ∧ Sps w.heap.size w'.heap.size w' v (ll b) ∧ w.grownBy w' none := by
  unfold lx ll
  rcases h with ⟨h1, h2, h3⟩ | ⟨h1, v, h2, h3, h4⟩
  · rw [if_neg h1, if_neg h1]; exact ⟨_, h2, Sl.of_nil _ _, h3⟩
  · rw [if_pos h1, if_pos h1, h1]; exact ⟨v, h2, h3.sl (fun _ => rfl), h4⟩
theorem missPost.uni {b : Bok} {w : World} {e : Ending} {w' : World} (h : missPost b w e w') : ∃ v, e = .returned (.tuple #[v, .int .i64 (checkE b)]) ∧ Ints w.heap.size w'.heap.size w' v (vl b) ∧ w.grownBy w' none := by
  unfold vl
  rcases h with ⟨h1, h2, h3⟩ | ⟨h1, v, h2, h3, h4⟩
  · rw [if_neg h1]; exact ⟨_, h2, Sl.of_nil _ _, h3⟩
  · rw [if_pos h1, h1]; exact ⟨v, h2, h3.sl (fun _ => rfl), h4⟩
theorem bt_names {accounts moves : Nat} {L W : Int} {b : Bok} {O C V : List Int} (h : BookTruth accounts moves L W b O C V) (h8 : accounts ≤ 8) : nameOk b.accs := by
  have key : ∀ k, k < 8 → (nmAt k).size ≤ maxLen := by decide +kernel
  intro a ha
  obtain ⟨i, hi, rfl⟩ := List.getElem_of_mem ha
  have h1 := (h.acc i hi).name
  rw [ga_get hi] at h1
  rw [h1]
  exact key i (by have := h.n8; omega)

set_option maxHeartbeats 4000000 in
theorem losses_walk (va vm vn : Value) (b : Bok) (zs : List Int) (w : World) (hb : HasB 0 w.heap.size w va vm b) (hn : nameOk b.accs) (hz : Ints 0 w.heap.size w vn zs) :
    Calls Try.prog 3 #[.agg #[va, vm], vn] w (Ret (.bool true) w) := by
  obtain ⟨a1, k1, a2, k2, rfl, rfl⟩ := hb.vals
  obtain ⟨an, kn, en⟩ := hz.any
  have HZ := Lib.hid (And.intro hb (And.intro hn hz))
  clear hb hn hz
  subst en
  have F1 : Bun w [rbook 0 w.heap.size (.slice a1 b.accs.length k1) (.slice a2 b.mvs.length k2) b] _ := Bun.book HZ.out.1 (Nat.le_refl _)
  go_enter Try.func3, Try.ntmps3
  have F2 : Bun w [rbox w.heap.size 25 #[.slice a1 b.accs.length k1, .slice a2 b.mvs.length k2], rbook 0 w.heap.size (.slice a1 b.accs.length k1) (.slice a2 b.mvs.length k2) b] _ := F1.new 25 #[.slice a1 b.accs.length k1, .slice a2 b.mvs.length k2] (n := w.heap.size) (by simp)
  clear F1
  have b3 : Bk _ w.heap.size 25 #[.slice a1 b.accs.length k1, .slice a2 b.mvs.length k2] := F2.at 0 rfl
  have l4 := b3.lt
  have q5 : World.cell? _ ⟨w.heap.size, 0, none⟩ = some (.slice a1 b.accs.length k1) := b3.cell 0
  have z6 := b3.frozen 0
  have q7 : World.cell? _ ⟨w.heap.size, 1, none⟩ = some (.slice a2 b.mvs.length k2) := b3.cell 1
  have z8 := b3.frozen 1
  go_wp2_with fail
  clear b3 l4 q5 z6 q7 z8
  refine (big_c 0 w.heap.size _ _ b _ (F2.at 1 rfl : HasB 0 w.heap.size _ (.slice a1 b.accs.length k1) (.slice a2 b.mvs.length k2) b) HZ.out.2.1).mono ?_
  rintro e w1 ⟨r, rfl, hr, hg1⟩
  have F9 : Bun w [rbox w.heap.size 25 #[.slice a1 b.accs.length k1, .slice a2 b.mvs.length k2], rbook 0 w.heap.size (.slice a1 b.accs.length k1) (.slice a2 b.mvs.length k2) b] w1 := F2.gn hg1
  clear F2
  have hg1s := hg1.size
  (try simp at hg1s)
  clear hg1
  cases r with
  | true =>
    go_wp2_with fail
    refine (awake_c _).mono ?_
    rintro e w2 ⟨rfl, hg2⟩
    have F10 : Bun w [rbox w.heap.size 25 #[.slice a1 b.accs.length k1, .slice a2 b.mvs.length k2], rbook 0 w.heap.size (.slice a1 b.accs.length k1) (.slice a2 b.mvs.length k2) b] w2 := F9.gn hg2
    clear F9
    go_wp2_with fail
    go_ret
    exact ⟨rfl, F10.gb⟩
  | false =>
    have hlen := hr rfl
    have hl1 := hlen.1
    have hl2 := hlen.2
    clear hr hlen
    go_wp2_with fail
    refine (newSeed_c 0 w.heap.size _ _ _ (HZ.out.2.2.gb F9.gb (fun _ e => by cases e))).mono ?_
    rintro e w2 ⟨sb, rfl, hsb, hs2, hg2⟩
    have F11 : Bun w [rseed sb, rbox w.heap.size 25 #[.slice a1 b.accs.length k1, .slice a2 b.mvs.length k2], rbook 0 w.heap.size (.slice a1 b.accs.length k1) (.slice a2 b.mvs.length k2) b] w2 := F9.newSeed hg2 hs2 hsb
    clear F9
    have hg2s := hg2.size
    (try simp at hg2s)
    have hsbl := hs2.lt
    clear hg2
    go_wp2_with fail
    have F12 : Bun w [rbox w2.heap.size 3 #[.int .i64 20, .int .i64 1000, .int .i64 1000000], rseed sb, rbox w.heap.size 25 #[.slice a1 b.accs.length k1, .slice a2 b.mvs.length k2], rbook 0 w.heap.size (.slice a1 b.accs.length k1) (.slice a2 b.mvs.length k2) b] _ := F11.new 3 #[.int .i64 20, .int .i64 1000, .int .i64 1000000] (n := w2.heap.size) (by simp)
    clear F11
    have F13 : Bun w [rseed sb, rbox w2.heap.size 3 #[.int .i64 20, .int .i64 1000, .int .i64 1000000], rbox w.heap.size 25 #[.slice a1 b.accs.length k1, .slice a2 b.mvs.length k2], rbook 0 w.heap.size (.slice a1 b.accs.length k1) (.slice a2 b.mvs.length k2) b] _ := F12.front 1 rfl rfl
    clear F12
    refine (of_c sb _ (F13.at 0 rfl) w2.heap.size 0 3 3 (fun i => [20, 1000, 1000000].getD i 0) (by decide) (by decide) (by omega) (fun i hi => by rcases i with _ | _ | _ | i <;> first | (simp [go_sem]; done) | omega)).mono ?_
    rintro e w14 ⟨li, rfl, hv_, hs_, hg_⟩
    have hg_s := hg_.size
    (try simp at hg_s)
    have hli : 0 ≤ li ∧ li ≤ 1000000 := by
      obtain ⟨i, hi, rfl⟩ := hv_
      rcases i with _ | _ | _ | i
      · show (0 : Int) ≤ 20 ∧ (20 : Int) ≤ 1000000; omega
      · show (0 : Int) ≤ 1000 ∧ (1000 : Int) ≤ 1000000; omega
      · show (0 : Int) ≤ 1000000 ∧ (1000000 : Int) ≤ 1000000; omega
      · omega
    clear hv_
    have F15 : Bun w [rseed sb, rbox w2.heap.size 3 #[.int .i64 20, .int .i64 1000, .int .i64 1000000], rbox w.heap.size 25 #[.slice a1 b.accs.length k1, .slice a2 b.mvs.length k2], rbook 0 w.heap.size (.slice a1 b.accs.length k1) (.slice a2 b.mvs.length k2) b] w14 := F13.seed hg_ hs_
    clear F13
    clear hg_
    have F16 : Bun w [rseed sb, rbox w.heap.size 25 #[.slice a1 b.accs.length k1, .slice a2 b.mvs.length k2], rbook 0 w.heap.size (.slice a1 b.accs.length k1) (.slice a2 b.mvs.length k2) b] _ := F15.drop 1 rfl
    clear F15
    go_wp2_with fail
    have F17 : Bun w [rbox w14.heap.size 3 #[.int .i64 0, .int .i64 3, .int .i64 50], rseed sb, rbox w.heap.size 25 #[.slice a1 b.accs.length k1, .slice a2 b.mvs.length k2], rbook 0 w.heap.size (.slice a1 b.accs.length k1) (.slice a2 b.mvs.length k2) b] _ := F16.new 3 #[.int .i64 0, .int .i64 3, .int .i64 50] (n := w14.heap.size) (by simp)
    clear F16
    have F18 : Bun w [rseed sb, rbox w14.heap.size 3 #[.int .i64 0, .int .i64 3, .int .i64 50], rbox w.heap.size 25 #[.slice a1 b.accs.length k1, .slice a2 b.mvs.length k2], rbook 0 w.heap.size (.slice a1 b.accs.length k1) (.slice a2 b.mvs.length k2) b] _ := F17.front 1 rfl rfl
    clear F17
    refine (of_c sb _ (F18.at 0 rfl) w14.heap.size 0 3 3 (fun i => [0, 3, 50].getD i 0) (by decide) (by decide) (by omega) (fun i hi => by rcases i with _ | _ | _ | i <;> first | (simp [go_sem]; done) | omega)).mono ?_
    rintro e w19 ⟨wi, rfl, hv_, hs_, hg_⟩
    have hg_s := hg_.size
    (try simp at hg_s)
    have hwi : 0 ≤ wi ∧ wi ≤ 50 := by
      obtain ⟨i, hi, rfl⟩ := hv_
      rcases i with _ | _ | _ | i
      · show (0 : Int) ≤ 0 ∧ (0 : Int) ≤ 50; omega
      · show (0 : Int) ≤ 3 ∧ (3 : Int) ≤ 50; omega
      · show (0 : Int) ≤ 50 ∧ (50 : Int) ≤ 50; omega
      · omega
    clear hv_
    have F20 : Bun w [rseed sb, rbox w14.heap.size 3 #[.int .i64 0, .int .i64 3, .int .i64 50], rbox w.heap.size 25 #[.slice a1 b.accs.length k1, .slice a2 b.mvs.length k2], rbook 0 w.heap.size (.slice a1 b.accs.length k1) (.slice a2 b.mvs.length k2) b] w19 := F18.seed hg_ hs_
    clear F18
    clear hg_
    have F21 : Bun w [rseed sb, rbox w.heap.size 25 #[.slice a1 b.accs.length k1, .slice a2 b.mvs.length k2], rbook 0 w.heap.size (.slice a1 b.accs.length k1) (.slice a2 b.mvs.length k2) b] _ := F20.drop 1 rfl
    clear F20
    go_wp2_with fail
    refine (bookOf_c sb 7 10 li wi _ (F21.at 0 rfl) (by omega) (by omega) (by omega) (by omega)).mono ?_
    rintro e w5 ⟨va, vm, bb, vo, vc, vv, O, C, V, rfl, hB, hO, hC, hV, hT, hs5, hg5⟩
    have hg5s := hg5.size
    (try simp at hg5s)
    have F22 : Bun w [rbook w19.heap.size w5.heap.size va vm bb, rseed sb, rbox w.heap.size 25 #[.slice a1 b.accs.length k1, .slice a2 b.mvs.length k2], rbook 0 w.heap.size (.slice a1 b.accs.length k1) (.slice a2 b.mvs.length k2) b] w5 := F21.seedAdd (rbook w19.heap.size w5.heap.size va vm bb) hg5 hs5 hB (fun g hx => hx)
    clear F21
    have hnm := Lib.hid (bt_names hT (by omega))
    have hb7 := hT.n8
    have hb10 := hT.m
    obtain ⟨a3, k3, a4, k4, rfl, rfl⟩ := hB.vals
    obtain ⟨a5, k5, e5⟩ := hO.any
    obtain ⟨a6, k6, e6⟩ := hC.any
    obtain ⟨a7, k7, e7⟩ := hV.any
    subst e5 e6 e7
    clear hg5 hB hO hC hV hT hs5
    have F23 : Bun w [rbook w19.heap.size w5.heap.size (.slice a3 bb.accs.length k3) (.slice a4 bb.mvs.length k4) bb, rbox w.heap.size 25 #[.slice a1 b.accs.length k1, .slice a2 b.mvs.length k2], rbook 0 w.heap.size (.slice a1 b.accs.length k1) (.slice a2 b.mvs.length k2) b] _ := F22.drop 1 rfl
    clear F22
    have b24 : Bk _ w.heap.size 25 #[.slice a1 b.accs.length k1, .slice a2 b.mvs.length k2] := F23.at 1 rfl
    have l25 := b24.lt
    have q26 : World.cell? _ ⟨w.heap.size, 0, none⟩ = some (.slice a1 b.accs.length k1) := b24.cell 0
    have z27 := b24.frozen 0
    have q28 : World.cell? _ ⟨w.heap.size, 1, none⟩ = some (.slice a2 b.mvs.length k2) := b24.cell 1
    have z29 := b24.frozen 1
    go_wp2_with fail
    clear b24 l25 q26 z27 q28 z29
    have F30 : Bun w [rbox w5.heap.size 25 #[.slice a3 bb.accs.length k3, .slice a4 bb.mvs.length k4], rbook w19.heap.size w5.heap.size (.slice a3 bb.accs.length k3) (.slice a4 bb.mvs.length k4) bb, rbox w.heap.size 25 #[.slice a1 b.accs.length k1, .slice a2 b.mvs.length k2], rbook 0 w.heap.size (.slice a1 b.accs.length k1) (.slice a2 b.mvs.length k2) b] _ := F23.new 25 #[.slice a3 bb.accs.length k3, .slice a4 bb.mvs.length k4] (n := w5.heap.size) (by simp)
    clear F23
    have F31 : Bun w [rbox (w5.heap.size + 1) 32 #[.slice a5 O.length k5, .slice a6 C.length k6, .slice a7 V.length k7], rbox w5.heap.size 25 #[.slice a3 bb.accs.length k3, .slice a4 bb.mvs.length k4], rbook w19.heap.size w5.heap.size (.slice a3 bb.accs.length k3) (.slice a4 bb.mvs.length k4) bb, rbox w.heap.size 25 #[.slice a1 b.accs.length k1, .slice a2 b.mvs.length k2], rbook 0 w.heap.size (.slice a1 b.accs.length k1) (.slice a2 b.mvs.length k2) b] _ := F30.new 32 #[.slice a5 O.length k5, .slice a6 C.length k6, .slice a7 V.length k7] (n := (w5.heap.size + 1)) (by simp)
    clear F30
    have F32 : Bun w [rbox (w5.heap.size + 2) 25 #[.slice a1 b.accs.length k1, .slice a2 b.mvs.length k2, .slice a3 bb.accs.length k3, .slice a4 bb.mvs.length k4], rbox (w5.heap.size + 1) 32 #[.slice a5 O.length k5, .slice a6 C.length k6, .slice a7 V.length k7], rbox w5.heap.size 25 #[.slice a3 bb.accs.length k3, .slice a4 bb.mvs.length k4], rbook w19.heap.size w5.heap.size (.slice a3 bb.accs.length k3) (.slice a4 bb.mvs.length k4) bb, rbox w.heap.size 25 #[.slice a1 b.accs.length k1, .slice a2 b.mvs.length k2], rbook 0 w.heap.size (.slice a1 b.accs.length k1) (.slice a2 b.mvs.length k2) b] _ := F31.new 25 #[.slice a1 b.accs.length k1, .slice a2 b.mvs.length k2, .slice a3 bb.accs.length k3, .slice a4 bb.mvs.length k4] (n := (w5.heap.size + 2)) (by simp)
    clear F31
    have F33 : Bun w [rbox (w5.heap.size + 2) 25 #[.slice a1 b.accs.length k1, .slice a2 b.mvs.length k2, .slice a3 bb.accs.length k3, .slice a4 bb.mvs.length k4], rbox (w5.heap.size + 1) 32 #[.slice a5 O.length k5, .slice a6 C.length k6, .slice a7 V.length k7], rbook w19.heap.size w5.heap.size (.slice a3 bb.accs.length k3) (.slice a4 bb.mvs.length k4) bb, rbox w.heap.size 25 #[.slice a1 b.accs.length k1, .slice a2 b.mvs.length k2], rbook 0 w.heap.size (.slice a1 b.accs.length k1) (.slice a2 b.mvs.length k2) b] _ := F32.drop 2 rfl
    clear F32
    have F34 : Bun w [rbox (w5.heap.size + 2) 25 #[.slice a1 b.accs.length k1, .slice a2 b.mvs.length k2, .slice a3 bb.accs.length k3, .slice a4 bb.mvs.length k4], rbook w19.heap.size w5.heap.size (.slice a3 bb.accs.length k3) (.slice a4 bb.mvs.length k4) bb, rbox w.heap.size 25 #[.slice a1 b.accs.length k1, .slice a2 b.mvs.length k2], rbook 0 w.heap.size (.slice a1 b.accs.length k1) (.slice a2 b.mvs.length k2) b] _ := F33.drop 1 rfl
    clear F33
    have F35 : Bun w [rbox (w5.heap.size + 2) 25 #[.slice a1 b.accs.length k1, .slice a2 b.mvs.length k2, .slice a3 bb.accs.length k3, .slice a4 bb.mvs.length k4], rbook w19.heap.size w5.heap.size (.slice a3 bb.accs.length k3) (.slice a4 bb.mvs.length k4) bb, rbook 0 w.heap.size (.slice a1 b.accs.length k1) (.slice a2 b.mvs.length k2) b] _ := F34.drop 2 rfl
    clear F34
    obtain ⟨HI36_, HI360⟩ : ∃ I : (Nat → Value) → List Deferred → World → Prop, I = (fun t ds wr => ∃ (i : Nat), t 8 = .slice (some ⟨(w5.heap.size + 2), 0, none⟩) 2 2 ∧ t 9 = .int .i64 i ∧ i ≤ 2 ∧ ds = [] ∧ w5.heap.size < wr.heap.size ∧ Bun w [rbox (w5.heap.size + 2) 25 #[.slice a1 b.accs.length k1, .slice a2 b.mvs.length k2, .slice a3 bb.accs.length k3, .slice a4 bb.mvs.length k4], rbook w19.heap.size w5.heap.size (.slice a3 bb.accs.length k3) (.slice a4 bb.mvs.length k4) bb, rbook 0 w.heap.size (.slice a1 b.accs.length k1) (.slice a2 b.mvs.length k2) b] wr) := ⟨_, rfl⟩
    have HI36 := Lib.hid HI360
    clear HI360
    refine wp_loopS 114 rfl HI36_ (fun t wr => 2 - (intOf (t 9)).toNat) ?atStart40 ?round40
    case round40 =>
      intro t ds wr hHid
      rw [HI36.out] at hHid
      obtain ⟨i, e8, e9, hrel⟩ := hHid
      have e : ((List.range 114).map t).toArray = #[t 0, t 1, t 2, t 3, t 4, t 5, t 6, t 7, t 8, t 9, t 10, t 11, t 12, t 13, t 14, t 15, t 16, t 17, t 18, t 19, t 20, t 21, t 22, t 23, t 24, t 25, t 26, t 27, t 28, t 29, t 30, t 31, t 32, t 33, t 34, t 35, t 36, t 37, t 38, t 39, t 40, t 41, t 42, t 43, t 44, t 45, t 46, t 47, t 48, t 49, t 50, t 51, t 52, t 53, t 54, t 55, t 56, t 57, t 58, t 59, t 60, t 61, t 62, t 63, t 64, t 65, t 66, t 67, t 68, t 69, t 70, t 71, t 72, t 73, t 74, t 75, t 76, t 77, t 78, t 79, t 80, t 81, t 82, t 83, t 84, t 85, t 86, t 87, t 88, t 89, t 90, t 91, t 92, t 93, t 94, t 95, t 96, t 97, t 98, t 99, t 100, t 101, t 102, t 103, t 104, t 105, t 106, t 107, t 108, t 109, t 110, t 111, t 112, t 113] := rfl
      (try dsimp only at e)
      rw [e8, e9] at e
      rw [e]
      simp only [e9]
      clear e e8 e9
      clear F35
      obtain ⟨hi, rfl, hws, hF⟩ := hrel
      by_cases hlt : i < 2
      · have hi01 : i = 0 ∨ i = 1 := by omega
        clear hlt hi
        rcases hi01 with rfl | rfl
        · skip
          have b37 : Bk _ (w5.heap.size + 2) 25 #[.slice a1 b.accs.length k1, .slice a2 b.mvs.length k2, .slice a3 bb.accs.length k3, .slice a4 bb.mvs.length k4] := hF.at 0 rfl
          have l38 := b37.lt
          have q39 : World.cell? _ ⟨(w5.heap.size + 2), 0, none⟩ = some (.slice a1 b.accs.length k1) := b37.cell 0
          have z40 := b37.frozen 0
          have q41 : World.cell? _ ⟨(w5.heap.size + 2), 1, none⟩ = some (.slice a2 b.mvs.length k2) := b37.cell 1
          have z42 := b37.frozen 1
          have q43 : World.cell? _ ⟨(w5.heap.size + 2), 2, none⟩ = some (.slice a3 bb.accs.length k3) := b37.cell 2
          have z44 := b37.frozen 2
          have q45 : World.cell? _ ⟨(w5.heap.size + 2), 3, none⟩ = some (.slice a4 bb.mvs.length k4) := b37.cell 3
          have z46 := b37.frozen 3
          go_wp2_with fail
          clear b37 l38 q39 z40 q41 z42 q43 z44 q45 z46
          refine (ownBook_c 0 w.heap.size _ _ b _ (hF.at 2 rfl : HasB 0 w.heap.size _ (.slice a1 b.accs.length k1) (.slice a2 b.mvs.length k2) b) (by first | omega | (simp; done) | (simp; omega)) (by omega) (by omega)).mono ?_
          rintro e w47 ⟨oa, om, rfl, hOB, hgO⟩
          have hgOs := hgO.size
          (try simp at hgOs)
          have F48 : Bun w [rbook wr.heap.size w47.heap.size oa om b, rbox (w5.heap.size + 2) 25 #[.slice a1 b.accs.length k1, .slice a2 b.mvs.length k2, .slice a3 bb.accs.length k3, .slice a4 bb.mvs.length k4], rbook w19.heap.size w5.heap.size (.slice a3 bb.accs.length k3) (.slice a4 bb.mvs.length k4) bb, rbook 0 w.heap.size (.slice a1 b.accs.length k1) (.slice a2 b.mvs.length k2) b] w47 := hF.add (rbook wr.heap.size w47.heap.size oa om b) hgO hOB (fun g hx => hx)
          clear hF
          obtain ⟨oa1, ok1, oa2, ok2, rfl, rfl⟩ := hOB.vals
          clear hgO hOB
          go_wp2_with fail
          have F49 : Bun w [rbox w47.heap.size 25 #[.slice oa1 b.accs.length ok1, .slice oa2 b.mvs.length ok2], rbook wr.heap.size w47.heap.size (.slice oa1 b.accs.length ok1) (.slice oa2 b.mvs.length ok2) b, rbox (w5.heap.size + 2) 25 #[.slice a1 b.accs.length k1, .slice a2 b.mvs.length k2, .slice a3 bb.accs.length k3, .slice a4 bb.mvs.length k4], rbook w19.heap.size w5.heap.size (.slice a3 bb.accs.length k3) (.slice a4 bb.mvs.length k4) bb, rbook 0 w.heap.size (.slice a1 b.accs.length k1) (.slice a2 b.mvs.length k2) b] _ := F48.new 25 #[.slice oa1 b.accs.length ok1, .slice oa2 b.mvs.length ok2] (n := w47.heap.size) (by simp)
          clear F48
          refine (fLosses_c wr.heap.size w47.heap.size wr.heap.size w47.heap.size _ _ b _ ((F49.at 1 rfl : HasB wr.heap.size w47.heap.size _ (.slice oa1 b.accs.length ok1) (.slice oa2 b.mvs.length ok2) b)).1 ((F49.at 1 rfl : HasB wr.heap.size w47.heap.size _ (.slice oa1 b.accs.length ok1) (.slice oa2 b.mvs.length ok2) b)).2 HZ.out.2.1 (by first | omega | (simp; done) | (simp; omega)) (by first | omega | (simp; done) | (simp; omega))).mono ?_
          intro e w50 hpost
          obtain ⟨v51, rfl, hs_, hg_⟩ := hpost.uni
          have hg_s := hg_.size
          (try simp at hg_s)
          clear hpost
          have F54 : Bun w [rsl spEnc 2 (w47.heap.size + 1) w50.heap.size v51 (ll b), rbox w47.heap.size 25 #[.slice oa1 b.accs.length ok1, .slice oa2 b.mvs.length ok2], rbook wr.heap.size w47.heap.size (.slice oa1 b.accs.length ok1) (.slice oa2 b.mvs.length ok2) b, rbox (w5.heap.size + 2) 25 #[.slice a1 b.accs.length k1, .slice a2 b.mvs.length k2, .slice a3 bb.accs.length k3, .slice a4 bb.mvs.length k4], rbook w19.heap.size w5.heap.size (.slice a3 bb.accs.length k3) (.slice a4 bb.mvs.length k4) bb, rbook 0 w.heap.size (.slice a1 b.accs.length k1) (.slice a2 b.mvs.length k2) b] w50 := F49.add (rsl spEnc 2 (w47.heap.size + 1) w50.heap.size v51 (ll b)) hg_ (hs_.wide (by simp) (Nat.le_refl _)) (rsl_in (by simp) (Nat.le_refl _))
          clear F49
          obtain ⟨pa52, pc53, e_⟩ := hs_.any
          subst e_
          clear hs_ hg_
          have b55 : Bk _ (w5.heap.size + 2) 25 #[.slice a1 b.accs.length k1, .slice a2 b.mvs.length k2, .slice a3 bb.accs.length k3, .slice a4 bb.mvs.length k4] := F54.at 3 rfl
          have l56 := b55.lt
          have q57 : World.cell? _ ⟨(w5.heap.size + 2), 0, none⟩ = some (.slice a1 b.accs.length k1) := b55.cell 0
          have z58 := b55.frozen 0
          have q59 : World.cell? _ ⟨(w5.heap.size + 2), 1, none⟩ = some (.slice a2 b.mvs.length k2) := b55.cell 1
          have z60 := b55.frozen 1
          have q61 : World.cell? _ ⟨(w5.heap.size + 2), 2, none⟩ = some (.slice a3 bb.accs.length k3) := b55.cell 2
          have z62 := b55.frozen 2
          have q63 : World.cell? _ ⟨(w5.heap.size + 2), 3, none⟩ = some (.slice a4 bb.mvs.length k4) := b55.cell 3
          have z64 := b55.frozen 3
          go_wp2_with fail
          clear b55 l56 q57 z58 q59 z60 q61 z62 q63 z64
          have F65 : Bun w [rbox w50.heap.size 40 #[.int .i64 (lx b).lo, .int .i64 (lx b).hi], rsl spEnc 2 (w47.heap.size + 1) w50.heap.size (.slice pa52 (ll b).length pc53) (ll b), rbox w47.heap.size 25 #[.slice oa1 b.accs.length ok1, .slice oa2 b.mvs.length ok2], rbook wr.heap.size w47.heap.size (.slice oa1 b.accs.length ok1) (.slice oa2 b.mvs.length ok2) b, rbox (w5.heap.size + 2) 25 #[.slice a1 b.accs.length k1, .slice a2 b.mvs.length k2, .slice a3 bb.accs.length k3, .slice a4 bb.mvs.length k4], rbook w19.heap.size w5.heap.size (.slice a3 bb.accs.length k3) (.slice a4 bb.mvs.length k4) bb, rbook 0 w.heap.size (.slice a1 b.accs.length k1) (.slice a2 b.mvs.length k2) b] _ := F54.new 40 #[.int .i64 (lx b).lo, .int .i64 (lx b).hi] (n := w50.heap.size) (by simp)
          clear F54
          refine (rLosses_c 0 w.heap.size _ _ b _ (F65.at 6 rfl : HasB 0 w.heap.size _ (.slice a1 b.accs.length k1) (.slice a2 b.mvs.length k2) b) HZ.out.2.1 (by first | omega | (simp; done) | (simp; omega))).mono ?_
          intro e w66 hpost
          obtain ⟨v67, rfl, hs_, hg_⟩ := hpost.uni
          have hg_s := hg_.size
          (try simp at hg_s)
          clear hpost
          have F70 : Bun w [rsl spEnc 2 (w50.heap.size + 1) w66.heap.size v67 (ll b), rbox w50.heap.size 40 #[.int .i64 (lx b).lo, .int .i64 (lx b).hi], rsl spEnc 2 (w47.heap.size + 1) w50.heap.size (.slice pa52 (ll b).length pc53) (ll b), rbox w47.heap.size 25 #[.slice oa1 b.accs.length ok1, .slice oa2 b.mvs.length ok2], rbook wr.heap.size w47.heap.size (.slice oa1 b.accs.length ok1) (.slice oa2 b.mvs.length ok2) b, rbox (w5.heap.size + 2) 25 #[.slice a1 b.accs.length k1, .slice a2 b.mvs.length k2, .slice a3 bb.accs.length k3, .slice a4 bb.mvs.length k4], rbook w19.heap.size w5.heap.size (.slice a3 bb.accs.length k3) (.slice a4 bb.mvs.length k4) bb, rbook 0 w.heap.size (.slice a1 b.accs.length k1) (.slice a2 b.mvs.length k2) b] w66 := F65.add (rsl spEnc 2 (w50.heap.size + 1) w66.heap.size v67 (ll b)) hg_ (hs_.wide (by simp) (Nat.le_refl _)) (rsl_in (by simp) (Nat.le_refl _))
          clear F65
          obtain ⟨pa68, pc69, e_⟩ := hs_.any
          subst e_
          clear hs_ hg_
          have b71 : Bk _ w47.heap.size 25 #[.slice oa1 b.accs.length ok1, .slice oa2 b.mvs.length ok2] := F70.at 3 rfl
          have l72 := b71.lt
          have q73 : World.cell? _ ⟨w47.heap.size, 0, none⟩ = some (.slice oa1 b.accs.length ok1) := b71.cell 0
          have z74 := b71.frozen 0
          have q75 : World.cell? _ ⟨w47.heap.size, 1, none⟩ = some (.slice oa2 b.mvs.length ok2) := b71.cell 1
          have z76 := b71.frozen 1
          go_wp2_with fail
          clear b71 l72 q73 z74 q75 z76
          have F77 : Bun w [rbox w66.heap.size 40 #[.int .i64 (lx b).lo, .int .i64 (lx b).hi], rsl spEnc 2 (w50.heap.size + 1) w66.heap.size (.slice pa68 (ll b).length pc69) (ll b), rbox w50.heap.size 40 #[.int .i64 (lx b).lo, .int .i64 (lx b).hi], rsl spEnc 2 (w47.heap.size + 1) w50.heap.size (.slice pa52 (ll b).length pc53) (ll b), rbox w47.heap.size 25 #[.slice oa1 b.accs.length ok1, .slice oa2 b.mvs.length ok2], rbook wr.heap.size w47.heap.size (.slice oa1 b.accs.length ok1) (.slice oa2 b.mvs.length ok2) b, rbox (w5.heap.size + 2) 25 #[.slice a1 b.accs.length k1, .slice a2 b.mvs.length k2, .slice a3 bb.accs.length k3, .slice a4 bb.mvs.length k4], rbook w19.heap.size w5.heap.size (.slice a3 bb.accs.length k3) (.slice a4 bb.mvs.length k4) bb, rbook 0 w.heap.size (.slice a1 b.accs.length k1) (.slice a2 b.mvs.length k2) b] _ := F70.new 40 #[.int .i64 (lx b).lo, .int .i64 (lx b).hi] (n := w66.heap.size) (by simp)
          clear F70
          refine (fMissing_c wr.heap.size w47.heap.size _ _ b _ (F77.at 5 rfl : HasB wr.heap.size w47.heap.size _ (.slice oa1 b.accs.length ok1) (.slice oa2 b.mvs.length ok2) b) HZ.out.2.1 (by first | omega | (simp; done) | (simp; omega))).mono ?_
          intro e w78 hpost
          obtain ⟨v79, rfl, hs_, hg_⟩ := hpost.uni
          have hg_s := hg_.size
          (try simp at hg_s)
          clear hpost
          have F82 : Bun w [rsl intEnc 1 (w66.heap.size + 1) w78.heap.size v79 (vl b), rbox w66.heap.size 40 #[.int .i64 (lx b).lo, .int .i64 (lx b).hi], rsl spEnc 2 (w50.heap.size + 1) w66.heap.size (.slice pa68 (ll b).length pc69) (ll b), rbox w50.heap.size 40 #[.int .i64 (lx b).lo, .int .i64 (lx b).hi], rsl spEnc 2 (w47.heap.size + 1) w50.heap.size (.slice pa52 (ll b).length pc53) (ll b), rbox w47.heap.size 25 #[.slice oa1 b.accs.length ok1, .slice oa2 b.mvs.length ok2], rbook wr.heap.size w47.heap.size (.slice oa1 b.accs.length ok1) (.slice oa2 b.mvs.length ok2) b, rbox (w5.heap.size + 2) 25 #[.slice a1 b.accs.length k1, .slice a2 b.mvs.length k2, .slice a3 bb.accs.length k3, .slice a4 bb.mvs.length k4], rbook w19.heap.size w5.heap.size (.slice a3 bb.accs.length k3) (.slice a4 bb.mvs.length k4) bb, rbook 0 w.heap.size (.slice a1 b.accs.length k1) (.slice a2 b.mvs.length k2) b] w78 := F77.add (rsl intEnc 1 (w66.heap.size + 1) w78.heap.size v79 (vl b)) hg_ (hs_.wide (by simp) (Nat.le_refl _)) (rsl_in (by simp) (Nat.le_refl _))
          clear F77
          obtain ⟨pa80, pc81, e_⟩ := hs_.any
          subst e_
          clear hs_ hg_
          have b83 : Bk _ (w5.heap.size + 2) 25 #[.slice a1 b.accs.length k1, .slice a2 b.mvs.length k2, .slice a3 bb.accs.length k3, .slice a4 bb.mvs.length k4] := F82.at 7 rfl
          have l84 := b83.lt
          have q85 : World.cell? _ ⟨(w5.heap.size + 2), 0, none⟩ = some (.slice a1 b.accs.length k1) := b83.cell 0
          have z86 := b83.frozen 0
          have q87 : World.cell? _ ⟨(w5.heap.size + 2), 1, none⟩ = some (.slice a2 b.mvs.length k2) := b83.cell 1
          have z88 := b83.frozen 1
          have q89 : World.cell? _ ⟨(w5.heap.size + 2), 2, none⟩ = some (.slice a3 bb.accs.length k3) := b83.cell 2
          have z90 := b83.frozen 2
          have q91 : World.cell? _ ⟨(w5.heap.size + 2), 3, none⟩ = some (.slice a4 bb.mvs.length k4) := b83.cell 3
          have z92 := b83.frozen 3
          go_wp2_with fail
          clear b83 l84 q85 z86 q87 z88 q89 z90 q91 z92
          refine (rMissing_c 0 w.heap.size _ _ b _ (F82.at 9 rfl : HasB 0 w.heap.size _ (.slice a1 b.accs.length k1) (.slice a2 b.mvs.length k2) b) HZ.out.2.1 (by first | omega | (simp; done) | (simp; omega))).mono ?_
          intro e w93 hpost
          obtain ⟨v94, rfl, hs_, hg_⟩ := hpost.uni
          have hg_s := hg_.size
          (try simp at hg_s)
          clear hpost
          have F97 : Bun w [rsl intEnc 1 w78.heap.size w93.heap.size v94 (vl b), rsl intEnc 1 (w66.heap.size + 1) w78.heap.size (.slice pa80 (vl b).length pc81) (vl b), rbox w66.heap.size 40 #[.int .i64 (lx b).lo, .int .i64 (lx b).hi], rsl spEnc 2 (w50.heap.size + 1) w66.heap.size (.slice pa68 (ll b).length pc69) (ll b), rbox w50.heap.size 40 #[.int .i64 (lx b).lo, .int .i64 (lx b).hi], rsl spEnc 2 (w47.heap.size + 1) w50.heap.size (.slice pa52 (ll b).length pc53) (ll b), rbox w47.heap.size 25 #[.slice oa1 b.accs.length ok1, .slice oa2 b.mvs.length ok2], rbook wr.heap.size w47.heap.size (.slice oa1 b.accs.length ok1) (.slice oa2 b.mvs.length ok2) b, rbox (w5.heap.size + 2) 25 #[.slice a1 b.accs.length k1, .slice a2 b.mvs.length k2, .slice a3 bb.accs.length k3, .slice a4 bb.mvs.length k4], rbook w19.heap.size w5.heap.size (.slice a3 bb.accs.length k3) (.slice a4 bb.mvs.length k4) bb, rbook 0 w.heap.size (.slice a1 b.accs.length k1) (.slice a2 b.mvs.length k2) b] w93 := F82.add (rsl intEnc 1 w78.heap.size w93.heap.size v94 (vl b)) hg_ (hs_.wide (by simp) (Nat.le_refl _)) (rsl_in (by simp) (Nat.le_refl _))
          clear F82
          obtain ⟨pa95, pc96, e_⟩ := hs_.any
          subst e_
          clear hs_ hg_
          go_wp2_with fail
          have F98 : Bun w [rsl intEnc 1 w78.heap.size w93.heap.size (.slice pa95 (vl b).length pc96) (vl b), rsl intEnc 1 (w66.heap.size + 1) w78.heap.size (.slice pa80 (vl b).length pc81) (vl b), rbox w66.heap.size 40 #[.int .i64 (lx b).lo, .int .i64 (lx b).hi], rsl spEnc 2 (w50.heap.size + 1) w66.heap.size (.slice pa68 (ll b).length pc69) (ll b), rbox w50.heap.size 40 #[.int .i64 (lx b).lo, .int .i64 (lx b).hi], rsl spEnc 2 (w47.heap.size + 1) w50.heap.size (.slice pa52 (ll b).length pc53) (ll b), rbox w47.heap.size 25 #[.slice oa1 b.accs.length ok1, .slice oa2 b.mvs.length ok2], rbook wr.heap.size w47.heap.size (.slice oa1 b.accs.length ok1) (.slice oa2 b.mvs.length ok2) b, rbox (w5.heap.size + 2) 25 #[.slice a1 b.accs.length k1, .slice a2 b.mvs.length k2, .slice a3 bb.accs.length k3, .slice a4 bb.mvs.length k4], rbook w19.heap.size w5.heap.size (.slice a3 bb.accs.length k3) (.slice a4 bb.mvs.length k4) bb, rbook 0 w.heap.size (.slice a1 b.accs.length k1) (.slice a2 b.mvs.length k2) b] _ := F97.drew
          clear F97
          have q0 : World.cell? _ ⟨w47.heap.size, 0, none⟩ = some (.slice oa1 b.accs.length ok1) := ((F98.at 6 rfl : Bk _ w47.heap.size 25 #[.slice oa1 b.accs.length ok1, .slice oa2 b.mvs.length ok2])).cell 0
          have ql0 := ((F98.at 6 rfl : Bk _ w47.heap.size 25 #[.slice oa1 b.accs.length ok1, .slice oa2 b.mvs.length ok2])).lt
          have q1 : World.cell? _ ⟨w47.heap.size, 1, none⟩ = some (.slice oa2 b.mvs.length ok2) := ((F98.at 6 rfl : Bk _ w47.heap.size 25 #[.slice oa1 b.accs.length ok1, .slice oa2 b.mvs.length ok2])).cell 1
          have ql1 := ((F98.at 6 rfl : Bk _ w47.heap.size 25 #[.slice oa1 b.accs.length ok1, .slice oa2 b.mvs.length ok2])).lt
          have q2 : World.cell? _ ⟨w50.heap.size, 0, none⟩ = some (.int .i64 (lx b).lo) := ((F98.at 4 rfl : Bk _ w50.heap.size 40 #[.int .i64 (lx b).lo, .int .i64 (lx b).hi])).cell 0
          have ql2 := ((F98.at 4 rfl : Bk _ w50.heap.size 40 #[.int .i64 (lx b).lo, .int .i64 (lx b).hi])).lt
          have q3 : World.cell? _ ⟨w50.heap.size, 1, none⟩ = some (.int .i64 (lx b).hi) := ((F98.at 4 rfl : Bk _ w50.heap.size 40 #[.int .i64 (lx b).lo, .int .i64 (lx b).hi])).cell 1
          have ql3 := ((F98.at 4 rfl : Bk _ w50.heap.size 40 #[.int .i64 (lx b).lo, .int .i64 (lx b).hi])).lt
          have q4 : World.cell? _ ⟨w66.heap.size, 0, none⟩ = some (.int .i64 (lx b).lo) := ((F98.at 2 rfl : Bk _ w66.heap.size 40 #[.int .i64 (lx b).lo, .int .i64 (lx b).hi])).cell 0
          have ql4 := ((F98.at 2 rfl : Bk _ w66.heap.size 40 #[.int .i64 (lx b).lo, .int .i64 (lx b).hi])).lt
          have q5 : World.cell? _ ⟨w66.heap.size, 1, none⟩ = some (.int .i64 (lx b).hi) := ((F98.at 2 rfl : Bk _ w66.heap.size 40 #[.int .i64 (lx b).lo, .int .i64 (lx b).hi])).cell 1
          have ql5 := ((F98.at 2 rfl : Bk _ w66.heap.size 40 #[.int .i64 (lx b).lo, .int .i64 (lx b).hi])).lt
          have q6 : World.cell? _ ⟨(w5.heap.size + 2), 0, none⟩ = some (.slice a1 b.accs.length k1) := ((F98.at 8 rfl : Bk _ (w5.heap.size + 2) 25 #[.slice a1 b.accs.length k1, .slice a2 b.mvs.length k2, .slice a3 bb.accs.length k3, .slice a4 bb.mvs.length k4])).cell 0
          have ql6 := ((F98.at 8 rfl : Bk _ (w5.heap.size + 2) 25 #[.slice a1 b.accs.length k1, .slice a2 b.mvs.length k2, .slice a3 bb.accs.length k3, .slice a4 bb.mvs.length k4])).lt
          have q7 : World.cell? _ ⟨(w5.heap.size + 2), 1, none⟩ = some (.slice a2 b.mvs.length k2) := ((F98.at 8 rfl : Bk _ (w5.heap.size + 2) 25 #[.slice a1 b.accs.length k1, .slice a2 b.mvs.length k2, .slice a3 bb.accs.length k3, .slice a4 bb.mvs.length k4])).cell 1
          have ql7 := ((F98.at 8 rfl : Bk _ (w5.heap.size + 2) 25 #[.slice a1 b.accs.length k1, .slice a2 b.mvs.length k2, .slice a3 bb.accs.length k3, .slice a4 bb.mvs.length k4])).lt
          go_region_held3 (fun W => W.cell? ⟨w47.heap.size, 0, none⟩ = some (.slice oa1 b.accs.length ok1) ∧ W.cell? ⟨w47.heap.size, 1, none⟩ = some (.slice oa2 b.mvs.length ok2) ∧ W.cell? ⟨w50.heap.size, 0, none⟩ = some (.int .i64 (lx b).lo) ∧ W.cell? ⟨w50.heap.size, 1, none⟩ = some (.int .i64 (lx b).hi) ∧ W.cell? ⟨w66.heap.size, 0, none⟩ = some (.int .i64 (lx b).lo) ∧ W.cell? ⟨w66.heap.size, 1, none⟩ = some (.int .i64 (lx b).hi) ∧ W.cell? ⟨(w5.heap.size + 2), 0, none⟩ = some (.slice a1 b.accs.length k1) ∧ W.cell? ⟨(w5.heap.size + 2), 1, none⟩ = some (.slice a2 b.mvs.length k2)) (go_keep)
            (first
            | (go_at_call 24; refine (sameSpans_c _ _ _ _ _ _ (ll b) (ll b) _ (F98.at 5 rfl : Sl spEnc 2 (w47.heap.size + 1) w50.heap.size _ (.slice pa52 (ll b).length pc53) (ll b)) (F98.at 3 rfl : Sl spEnc 2 (w50.heap.size + 1) w66.heap.size _ (.slice pa68 (ll b).length pc69) (ll b))).mono ?_; rintro e wA ⟨rfl, hg1_⟩; have hz1_ := hg1_.size; (try simp at hz1_); rw [sameS_self]; have r1_0 : World.cell? wA ⟨w47.heap.size, 0, none⟩ = some (.slice oa1 b.accs.length ok1) := gbc hg1_ (by simp) q0; have r1_1 : World.cell? wA ⟨w47.heap.size, 1, none⟩ = some (.slice oa2 b.mvs.length ok2) := gbc hg1_ (by simp) q1; have r1_2 : World.cell? wA ⟨w50.heap.size, 0, none⟩ = some (.int .i64 (lx b).lo) := gbc hg1_ (by simp) q2; have r1_3 : World.cell? wA ⟨w50.heap.size, 1, none⟩ = some (.int .i64 (lx b).hi) := gbc hg1_ (by simp) q3; have r1_4 : World.cell? wA ⟨w66.heap.size, 0, none⟩ = some (.int .i64 (lx b).lo) := gbc hg1_ (by simp) q4; have r1_5 : World.cell? wA ⟨w66.heap.size, 1, none⟩ = some (.int .i64 (lx b).hi) := gbc hg1_ (by simp) q5; have r1_6 : World.cell? wA ⟨(w5.heap.size + 2), 0, none⟩ = some (.slice a1 b.accs.length k1) := gbc hg1_ (by simp) q6; have r1_7 : World.cell? wA ⟨(w5.heap.size + 2), 1, none⟩ = some (.slice a2 b.mvs.length k2) := gbc hg1_ (by simp) q7; have G1 := F98.gn hg1_)
            | (go_at_call 25; refine (same_c _ _ _ _ _ _ (vl b) (vl b) _ (G1.at 1 rfl : Sl intEnc 1 (w66.heap.size + 1) w78.heap.size _ (.slice pa80 (vl b).length pc81) (vl b)) (G1.at 0 rfl : Sl intEnc 1 w78.heap.size w93.heap.size _ (.slice pa95 (vl b).length pc96) (vl b))).mono ?_; rintro e wB ⟨rfl, hg2_⟩; have hz2_ := hg2_.size; (try simp at hz2_); rw [sameB_self]; have r2_0 : World.cell? wB ⟨w47.heap.size, 0, none⟩ = some (.slice oa1 b.accs.length ok1) := gbc hg2_ (by simp) r1_0; have r2_1 : World.cell? wB ⟨w47.heap.size, 1, none⟩ = some (.slice oa2 b.mvs.length ok2) := gbc hg2_ (by simp) r1_1; have r2_2 : World.cell? wB ⟨w50.heap.size, 0, none⟩ = some (.int .i64 (lx b).lo) := gbc hg2_ (by simp) r1_2; have r2_3 : World.cell? wB ⟨w50.heap.size, 1, none⟩ = some (.int .i64 (lx b).hi) := gbc hg2_ (by simp) r1_3; have r2_4 : World.cell? wB ⟨w66.heap.size, 0, none⟩ = some (.int .i64 (lx b).lo) := gbc hg2_ (by simp) r1_4; have r2_5 : World.cell? wB ⟨w66.heap.size, 1, none⟩ = some (.int .i64 (lx b).hi) := gbc hg2_ (by simp) r1_5; have r2_6 : World.cell? wB ⟨(w5.heap.size + 2), 0, none⟩ = some (.slice a1 b.accs.length k1) := gbc hg2_ (by simp) r1_6; have r2_7 : World.cell? wB ⟨(w5.heap.size + 2), 1, none⟩ = some (.slice a2 b.mvs.length k2) := gbc hg2_ (by simp) r1_7; have G2 := G1.gn hg2_)
            | (go_at_call 26; refine (sameBooks_c _ _ _ _ _ _ _ _ b _ (G2.at 7 rfl : HasB wr.heap.size w47.heap.size _ (.slice oa1 b.accs.length ok1) (.slice oa2 b.mvs.length ok2) b) (G2.at 10 rfl : HasB 0 w.heap.size _ (.slice a1 b.accs.length k1) (.slice a2 b.mvs.length k2) b)).mono ?_; rintro e wC ⟨rfl, hg3_⟩; have hz3_ := hg3_.size; (try simp at hz3_); have r3_0 : World.cell? wC ⟨w47.heap.size, 0, none⟩ = some (.slice oa1 b.accs.length ok1) := gbc hg3_ (by simp) r2_0; have r3_1 : World.cell? wC ⟨w47.heap.size, 1, none⟩ = some (.slice oa2 b.mvs.length ok2) := gbc hg3_ (by simp) r2_1; have r3_2 : World.cell? wC ⟨w50.heap.size, 0, none⟩ = some (.int .i64 (lx b).lo) := gbc hg3_ (by simp) r2_2; have r3_3 : World.cell? wC ⟨w50.heap.size, 1, none⟩ = some (.int .i64 (lx b).hi) := gbc hg3_ (by simp) r2_3; have r3_4 : World.cell? wC ⟨w66.heap.size, 0, none⟩ = some (.int .i64 (lx b).lo) := gbc hg3_ (by simp) r2_4; have r3_5 : World.cell? wC ⟨w66.heap.size, 1, none⟩ = some (.int .i64 (lx b).hi) := gbc hg3_ (by simp) r2_5; have r3_6 : World.cell? wC ⟨(w5.heap.size + 2), 0, none⟩ = some (.slice a1 b.accs.length k1) := gbc hg3_ (by simp) r2_6; have r3_7 : World.cell? wC ⟨(w5.heap.size + 2), 1, none⟩ = some (.slice a2 b.mvs.length k2) := gbc hg3_ (by simp) r2_7; have G3 := G2.gn hg3_))
          have F99 : Bun w [rsl intEnc 1 (w66.heap.size + 1) w78.heap.size (.slice pa80 (vl b).length pc81) (vl b), rbox w66.heap.size 40 #[.int .i64 (lx b).lo, .int .i64 (lx b).hi], rsl spEnc 2 (w50.heap.size + 1) w66.heap.size (.slice pa68 (ll b).length pc69) (ll b), rbox w50.heap.size 40 #[.int .i64 (lx b).lo, .int .i64 (lx b).hi], rsl spEnc 2 (w47.heap.size + 1) w50.heap.size (.slice pa52 (ll b).length pc53) (ll b), rbox w47.heap.size 25 #[.slice oa1 b.accs.length ok1, .slice oa2 b.mvs.length ok2], rbook wr.heap.size w47.heap.size (.slice oa1 b.accs.length ok1) (.slice oa2 b.mvs.length ok2) b, rbox (w5.heap.size + 2) 25 #[.slice a1 b.accs.length k1, .slice a2 b.mvs.length k2, .slice a3 bb.accs.length k3, .slice a4 bb.mvs.length k4], rbook w19.heap.size w5.heap.size (.slice a3 bb.accs.length k3) (.slice a4 bb.mvs.length k4) bb, rbook 0 w.heap.size (.slice a1 b.accs.length k1) (.slice a2 b.mvs.length k2) b] _ := G3.drop 0 rfl
          clear G3
          have F100 : Bun w [rbox w66.heap.size 40 #[.int .i64 (lx b).lo, .int .i64 (lx b).hi], rsl spEnc 2 (w50.heap.size + 1) w66.heap.size (.slice pa68 (ll b).length pc69) (ll b), rbox w50.heap.size 40 #[.int .i64 (lx b).lo, .int .i64 (lx b).hi], rsl spEnc 2 (w47.heap.size + 1) w50.heap.size (.slice pa52 (ll b).length pc53) (ll b), rbox w47.heap.size 25 #[.slice oa1 b.accs.length ok1, .slice oa2 b.mvs.length ok2], rbook wr.heap.size w47.heap.size (.slice oa1 b.accs.length ok1) (.slice oa2 b.mvs.length ok2) b, rbox (w5.heap.size + 2) 25 #[.slice a1 b.accs.length k1, .slice a2 b.mvs.length k2, .slice a3 bb.accs.length k3, .slice a4 bb.mvs.length k4], rbook w19.heap.size w5.heap.size (.slice a3 bb.accs.length k3) (.slice a4 bb.mvs.length k4) bb, rbook 0 w.heap.size (.slice a1 b.accs.length k1) (.slice a2 b.mvs.length k2) b] _ := F99.drop 0 rfl
          clear F99
          have F101 : Bun w [rsl spEnc 2 (w50.heap.size + 1) w66.heap.size (.slice pa68 (ll b).length pc69) (ll b), rbox w50.heap.size 40 #[.int .i64 (lx b).lo, .int .i64 (lx b).hi], rsl spEnc 2 (w47.heap.size + 1) w50.heap.size (.slice pa52 (ll b).length pc53) (ll b), rbox w47.heap.size 25 #[.slice oa1 b.accs.length ok1, .slice oa2 b.mvs.length ok2], rbook wr.heap.size w47.heap.size (.slice oa1 b.accs.length ok1) (.slice oa2 b.mvs.length ok2) b, rbox (w5.heap.size + 2) 25 #[.slice a1 b.accs.length k1, .slice a2 b.mvs.length k2, .slice a3 bb.accs.length k3, .slice a4 bb.mvs.length k4], rbook w19.heap.size w5.heap.size (.slice a3 bb.accs.length k3) (.slice a4 bb.mvs.length k4) bb, rbook 0 w.heap.size (.slice a1 b.accs.length k1) (.slice a2 b.mvs.length k2) b] _ := F100.drop 0 rfl
          clear F100
          have F102 : Bun w [rbox w50.heap.size 40 #[.int .i64 (lx b).lo, .int .i64 (lx b).hi], rsl spEnc 2 (w47.heap.size + 1) w50.heap.size (.slice pa52 (ll b).length pc53) (ll b), rbox w47.heap.size 25 #[.slice oa1 b.accs.length ok1, .slice oa2 b.mvs.length ok2], rbook wr.heap.size w47.heap.size (.slice oa1 b.accs.length ok1) (.slice oa2 b.mvs.length ok2) b, rbox (w5.heap.size + 2) 25 #[.slice a1 b.accs.length k1, .slice a2 b.mvs.length k2, .slice a3 bb.accs.length k3, .slice a4 bb.mvs.length k4], rbook w19.heap.size w5.heap.size (.slice a3 bb.accs.length k3) (.slice a4 bb.mvs.length k4) bb, rbook 0 w.heap.size (.slice a1 b.accs.length k1) (.slice a2 b.mvs.length k2) b] _ := F101.drop 0 rfl
          clear F101
          have F103 : Bun w [rsl spEnc 2 (w47.heap.size + 1) w50.heap.size (.slice pa52 (ll b).length pc53) (ll b), rbox w47.heap.size 25 #[.slice oa1 b.accs.length ok1, .slice oa2 b.mvs.length ok2], rbook wr.heap.size w47.heap.size (.slice oa1 b.accs.length ok1) (.slice oa2 b.mvs.length ok2) b, rbox (w5.heap.size + 2) 25 #[.slice a1 b.accs.length k1, .slice a2 b.mvs.length k2, .slice a3 bb.accs.length k3, .slice a4 bb.mvs.length k4], rbook w19.heap.size w5.heap.size (.slice a3 bb.accs.length k3) (.slice a4 bb.mvs.length k4) bb, rbook 0 w.heap.size (.slice a1 b.accs.length k1) (.slice a2 b.mvs.length k2) b] _ := F102.drop 0 rfl
          clear F102
          have F104 : Bun w [rbox w47.heap.size 25 #[.slice oa1 b.accs.length ok1, .slice oa2 b.mvs.length ok2], rbook wr.heap.size w47.heap.size (.slice oa1 b.accs.length ok1) (.slice oa2 b.mvs.length ok2) b, rbox (w5.heap.size + 2) 25 #[.slice a1 b.accs.length k1, .slice a2 b.mvs.length k2, .slice a3 bb.accs.length k3, .slice a4 bb.mvs.length k4], rbook w19.heap.size w5.heap.size (.slice a3 bb.accs.length k3) (.slice a4 bb.mvs.length k4) bb, rbook 0 w.heap.size (.slice a1 b.accs.length k1) (.slice a2 b.mvs.length k2) b] _ := F103.drop 0 rfl
          clear F103
          have F105 : Bun w [rbook wr.heap.size w47.heap.size (.slice oa1 b.accs.length ok1) (.slice oa2 b.mvs.length ok2) b, rbox (w5.heap.size + 2) 25 #[.slice a1 b.accs.length k1, .slice a2 b.mvs.length k2, .slice a3 bb.accs.length k3, .slice a4 bb.mvs.length k4], rbook w19.heap.size w5.heap.size (.slice a3 bb.accs.length k3) (.slice a4 bb.mvs.length k4) bb, rbook 0 w.heap.size (.slice a1 b.accs.length k1) (.slice a2 b.mvs.length k2) b] _ := F104.drop 0 rfl
          clear F104
          have F106 : Bun w [rbox (w5.heap.size + 2) 25 #[.slice a1 b.accs.length k1, .slice a2 b.mvs.length k2, .slice a3 bb.accs.length k3, .slice a4 bb.mvs.length k4], rbook w19.heap.size w5.heap.size (.slice a3 bb.accs.length k3) (.slice a4 bb.mvs.length k4) bb, rbook 0 w.heap.size (.slice a1 b.accs.length k1) (.slice a2 b.mvs.length k2) b] _ := F105.drop 0 rfl
          clear F105
          have F107 : Bun w [rbook 0 w.heap.size (.slice a1 b.accs.length k1) (.slice a2 b.mvs.length k2) b, rbox (w5.heap.size + 2) 25 #[.slice a1 b.accs.length k1, .slice a2 b.mvs.length k2, .slice a3 bb.accs.length k3, .slice a4 bb.mvs.length k4], rbook w19.heap.size w5.heap.size (.slice a3 bb.accs.length k3) (.slice a4 bb.mvs.length k4) bb] _ := F106.front 2 rfl rfl
          clear F106
          have F108 : Bun w [rbook w19.heap.size w5.heap.size (.slice a3 bb.accs.length k3) (.slice a4 bb.mvs.length k4) bb, rbook 0 w.heap.size (.slice a1 b.accs.length k1) (.slice a2 b.mvs.length k2) b, rbox (w5.heap.size + 2) 25 #[.slice a1 b.accs.length k1, .slice a2 b.mvs.length k2, .slice a3 bb.accs.length k3, .slice a4 bb.mvs.length k4]] _ := F107.front 2 rfl rfl
          clear F107
          have F109 : Bun w [rbox (w5.heap.size + 2) 25 #[.slice a1 b.accs.length k1, .slice a2 b.mvs.length k2, .slice a3 bb.accs.length k3, .slice a4 bb.mvs.length k4], rbook w19.heap.size w5.heap.size (.slice a3 bb.accs.length k3) (.slice a4 bb.mvs.length k4) bb, rbook 0 w.heap.size (.slice a1 b.accs.length k1) (.slice a2 b.mvs.length k2) b] _ := F108.front 2 rfl rfl
          clear F108
          go_wp2_with fail
          (first | refine ⟨rfl, ?_, ?_⟩ | refine ⟨?_, ?_⟩)
          · rw [HI36.out]; exact ⟨1, rfl, rfl, by omega, (by simp), (by first | omega | (simp; done) | (simp; omega)), F109⟩
          · simp [slot, intOf]
        · skip
          have b110 : Bk _ (w5.heap.size + 2) 25 #[.slice a1 b.accs.length k1, .slice a2 b.mvs.length k2, .slice a3 bb.accs.length k3, .slice a4 bb.mvs.length k4] := hF.at 0 rfl
          have l111 := b110.lt
          have q112 : World.cell? _ ⟨(w5.heap.size + 2), 0, none⟩ = some (.slice a1 b.accs.length k1) := b110.cell 0
          have z113 := b110.frozen 0
          have q114 : World.cell? _ ⟨(w5.heap.size + 2), 1, none⟩ = some (.slice a2 b.mvs.length k2) := b110.cell 1
          have z115 := b110.frozen 1
          have q116 : World.cell? _ ⟨(w5.heap.size + 2), 2, none⟩ = some (.slice a3 bb.accs.length k3) := b110.cell 2
          have z117 := b110.frozen 2
          have q118 : World.cell? _ ⟨(w5.heap.size + 2), 3, none⟩ = some (.slice a4 bb.mvs.length k4) := b110.cell 3
          have z119 := b110.frozen 3
          go_wp2_with fail
          clear b110 l111 q112 z113 q114 z115 q116 z117 q118 z119
          refine (ownBook_c w19.heap.size w5.heap.size _ _ bb _ (hF.at 1 rfl : HasB w19.heap.size w5.heap.size _ (.slice a3 bb.accs.length k3) (.slice a4 bb.mvs.length k4) bb) (by first | omega | (simp; done) | (simp; omega)) (by omega) (by omega)).mono ?_
          rintro e w120 ⟨oa, om, rfl, hOB, hgO⟩
          have hgOs := hgO.size
          (try simp at hgOs)
          have F121 : Bun w [rbook wr.heap.size w120.heap.size oa om bb, rbox (w5.heap.size + 2) 25 #[.slice a1 b.accs.length k1, .slice a2 b.mvs.length k2, .slice a3 bb.accs.length k3, .slice a4 bb.mvs.length k4], rbook w19.heap.size w5.heap.size (.slice a3 bb.accs.length k3) (.slice a4 bb.mvs.length k4) bb, rbook 0 w.heap.size (.slice a1 b.accs.length k1) (.slice a2 b.mvs.length k2) b] w120 := hF.add (rbook wr.heap.size w120.heap.size oa om bb) hgO hOB (fun g hx => hx)
          clear hF
          obtain ⟨oa1, ok1, oa2, ok2, rfl, rfl⟩ := hOB.vals
          clear hgO hOB
          go_wp2_with fail
          have F122 : Bun w [rbox w120.heap.size 25 #[.slice oa1 bb.accs.length ok1, .slice oa2 bb.mvs.length ok2], rbook wr.heap.size w120.heap.size (.slice oa1 bb.accs.length ok1) (.slice oa2 bb.mvs.length ok2) bb, rbox (w5.heap.size + 2) 25 #[.slice a1 b.accs.length k1, .slice a2 b.mvs.length k2, .slice a3 bb.accs.length k3, .slice a4 bb.mvs.length k4], rbook w19.heap.size w5.heap.size (.slice a3 bb.accs.length k3) (.slice a4 bb.mvs.length k4) bb, rbook 0 w.heap.size (.slice a1 b.accs.length k1) (.slice a2 b.mvs.length k2) b] _ := F121.new 25 #[.slice oa1 bb.accs.length ok1, .slice oa2 bb.mvs.length ok2] (n := w120.heap.size) (by simp)
          clear F121
          refine (fLosses_c wr.heap.size w120.heap.size wr.heap.size w120.heap.size _ _ bb _ ((F122.at 1 rfl : HasB wr.heap.size w120.heap.size _ (.slice oa1 bb.accs.length ok1) (.slice oa2 bb.mvs.length ok2) bb)).1 ((F122.at 1 rfl : HasB wr.heap.size w120.heap.size _ (.slice oa1 bb.accs.length ok1) (.slice oa2 bb.mvs.length ok2) bb)).2 hnm.out (by first | omega | (simp; done) | (simp; omega)) (by first | omega | (simp; done) | (simp; omega))).mono ?_
          intro e w123 hpost
          obtain ⟨v124, rfl, hs_, hg_⟩ := hpost.uni
          have hg_s := hg_.size
          (try simp at hg_s)
          clear hpost
          have F127 : Bun w [rsl spEnc 2 (w120.heap.size + 1) w123.heap.size v124 (ll bb), rbox w120.heap.size 25 #[.slice oa1 bb.accs.length ok1, .slice oa2 bb.mvs.length ok2], rbook wr.heap.size w120.heap.size (.slice oa1 bb.accs.length ok1) (.slice oa2 bb.mvs.length ok2) bb, rbox (w5.heap.size + 2) 25 #[.slice a1 b.accs.length k1, .slice a2 b.mvs.length k2, .slice a3 bb.accs.length k3, .slice a4 bb.mvs.length k4], rbook w19.heap.size w5.heap.size (.slice a3 bb.accs.length k3) (.slice a4 bb.mvs.length k4) bb, rbook 0 w.heap.size (.slice a1 b.accs.length k1) (.slice a2 b.mvs.length k2) b] w123 := F122.add (rsl spEnc 2 (w120.heap.size + 1) w123.heap.size v124 (ll bb)) hg_ (hs_.wide (by simp) (Nat.le_refl _)) (rsl_in (by simp) (Nat.le_refl _))
          clear F122
          obtain ⟨pa125, pc126, e_⟩ := hs_.any
          subst e_
          clear hs_ hg_
          have b128 : Bk _ (w5.heap.size + 2) 25 #[.slice a1 b.accs.length k1, .slice a2 b.mvs.length k2, .slice a3 bb.accs.length k3, .slice a4 bb.mvs.length k4] := F127.at 3 rfl
          have l129 := b128.lt
          have q130 : World.cell? _ ⟨(w5.heap.size + 2), 0, none⟩ = some (.slice a1 b.accs.length k1) := b128.cell 0
          have z131 := b128.frozen 0
          have q132 : World.cell? _ ⟨(w5.heap.size + 2), 1, none⟩ = some (.slice a2 b.mvs.length k2) := b128.cell 1
          have z133 := b128.frozen 1
          have q134 : World.cell? _ ⟨(w5.heap.size + 2), 2, none⟩ = some (.slice a3 bb.accs.length k3) := b128.cell 2
          have z135 := b128.frozen 2
          have q136 : World.cell? _ ⟨(w5.heap.size + 2), 3, none⟩ = some (.slice a4 bb.mvs.length k4) := b128.cell 3
          have z137 := b128.frozen 3
          go_wp2_with fail
          clear b128 l129 q130 z131 q132 z133 q134 z135 q136 z137
          have F138 : Bun w [rbox w123.heap.size 40 #[.int .i64 (lx bb).lo, .int .i64 (lx bb).hi], rsl spEnc 2 (w120.heap.size + 1) w123.heap.size (.slice pa125 (ll bb).length pc126) (ll bb), rbox w120.heap.size 25 #[.slice oa1 bb.accs.length ok1, .slice oa2 bb.mvs.length ok2], rbook wr.heap.size w120.heap.size (.slice oa1 bb.accs.length ok1) (.slice oa2 bb.mvs.length ok2) bb, rbox (w5.heap.size + 2) 25 #[.slice a1 b.accs.length k1, .slice a2 b.mvs.length k2, .slice a3 bb.accs.length k3, .slice a4 bb.mvs.length k4], rbook w19.heap.size w5.heap.size (.slice a3 bb.accs.length k3) (.slice a4 bb.mvs.length k4) bb, rbook 0 w.heap.size (.slice a1 b.accs.length k1) (.slice a2 b.mvs.length k2) b] _ := F127.new 40 #[.int .i64 (lx bb).lo, .int .i64 (lx bb).hi] (n := w123.heap.size) (by simp)
          clear F127
          refine (rLosses_c w19.heap.size w5.heap.size _ _ bb _ (F138.at 5 rfl : HasB w19.heap.size w5.heap.size _ (.slice a3 bb.accs.length k3) (.slice a4 bb.mvs.length k4) bb) hnm.out (by first | omega | (simp; done) | (simp; omega))).mono ?_
          intro e w139 hpost
          obtain ⟨v140, rfl, hs_, hg_⟩ := hpost.uni
          have hg_s := hg_.size
          (try simp at hg_s)
          clear hpost
          have F143 : Bun w [rsl spEnc 2 (w123.heap.size + 1) w139.heap.size v140 (ll bb), rbox w123.heap.size 40 #[.int .i64 (lx bb).lo, .int .i64 (lx bb).hi], rsl spEnc 2 (w120.heap.size + 1) w123.heap.size (.slice pa125 (ll bb).length pc126) (ll bb), rbox w120.heap.size 25 #[.slice oa1 bb.accs.length ok1, .slice oa2 bb.mvs.length ok2], rbook wr.heap.size w120.heap.size (.slice oa1 bb.accs.length ok1) (.slice oa2 bb.mvs.length ok2) bb, rbox (w5.heap.size + 2) 25 #[.slice a1 b.accs.length k1, .slice a2 b.mvs.length k2, .slice a3 bb.accs.length k3, .slice a4 bb.mvs.length k4], rbook w19.heap.size w5.heap.size (.slice a3 bb.accs.length k3) (.slice a4 bb.mvs.length k4) bb, rbook 0 w.heap.size (.slice a1 b.accs.length k1) (.slice a2 b.mvs.length k2) b] w139 := F138.add (rsl spEnc 2 (w123.heap.size + 1) w139.heap.size v140 (ll bb)) hg_ (hs_.wide (by simp) (Nat.le_refl _)) (rsl_in (by simp) (Nat.le_refl _))
          clear F138
          obtain ⟨pa141, pc142, e_⟩ := hs_.any
          subst e_
          clear hs_ hg_
          have b144 : Bk _ w120.heap.size 25 #[.slice oa1 bb.accs.length ok1, .slice oa2 bb.mvs.length ok2] := F143.at 3 rfl
          have l145 := b144.lt
          have q146 : World.cell? _ ⟨w120.heap.size, 0, none⟩ = some (.slice oa1 bb.accs.length ok1) := b144.cell 0
          have z147 := b144.frozen 0
          have q148 : World.cell? _ ⟨w120.heap.size, 1, none⟩ = some (.slice oa2 bb.mvs.length ok2) := b144.cell 1
          have z149 := b144.frozen 1
          go_wp2_with fail
          clear b144 l145 q146 z147 q148 z149
          have F150 : Bun w [rbox w139.heap.size 40 #[.int .i64 (lx bb).lo, .int .i64 (lx bb).hi], rsl spEnc 2 (w123.heap.size + 1) w139.heap.size (.slice pa141 (ll bb).length pc142) (ll bb), rbox w123.heap.size 40 #[.int .i64 (lx bb).lo, .int .i64 (lx bb).hi], rsl spEnc 2 (w120.heap.size + 1) w123.heap.size (.slice pa125 (ll bb).length pc126) (ll bb), rbox w120.heap.size 25 #[.slice oa1 bb.accs.length ok1, .slice oa2 bb.mvs.length ok2], rbook wr.heap.size w120.heap.size (.slice oa1 bb.accs.length ok1) (.slice oa2 bb.mvs.length ok2) bb, rbox (w5.heap.size + 2) 25 #[.slice a1 b.accs.length k1, .slice a2 b.mvs.length k2, .slice a3 bb.accs.length k3, .slice a4 bb.mvs.length k4], rbook w19.heap.size w5.heap.size (.slice a3 bb.accs.length k3) (.slice a4 bb.mvs.length k4) bb, rbook 0 w.heap.size (.slice a1 b.accs.length k1) (.slice a2 b.mvs.length k2) b] _ := F143.new 40 #[.int .i64 (lx bb).lo, .int .i64 (lx bb).hi] (n := w139.heap.size) (by simp)
          clear F143
          refine (fMissing_c wr.heap.size w120.heap.size _ _ bb _ (F150.at 5 rfl : HasB wr.heap.size w120.heap.size _ (.slice oa1 bb.accs.length ok1) (.slice oa2 bb.mvs.length ok2) bb) hnm.out (by first | omega | (simp; done) | (simp; omega))).mono ?_
          intro e w151 hpost
          obtain ⟨v152, rfl, hs_, hg_⟩ := hpost.uni
          have hg_s := hg_.size
          (try simp at hg_s)
          clear hpost
          have F155 : Bun w [rsl intEnc 1 (w139.heap.size + 1) w151.heap.size v152 (vl bb), rbox w139.heap.size 40 #[.int .i64 (lx bb).lo, .int .i64 (lx bb).hi], rsl spEnc 2 (w123.heap.size + 1) w139.heap.size (.slice pa141 (ll bb).length pc142) (ll bb), rbox w123.heap.size 40 #[.int .i64 (lx bb).lo, .int .i64 (lx bb).hi], rsl spEnc 2 (w120.heap.size + 1) w123.heap.size (.slice pa125 (ll bb).length pc126) (ll bb), rbox w120.heap.size 25 #[.slice oa1 bb.accs.length ok1, .slice oa2 bb.mvs.length ok2], rbook wr.heap.size w120.heap.size (.slice oa1 bb.accs.length ok1) (.slice oa2 bb.mvs.length ok2) bb, rbox (w5.heap.size + 2) 25 #[.slice a1 b.accs.length k1, .slice a2 b.mvs.length k2, .slice a3 bb.accs.length k3, .slice a4 bb.mvs.length k4], rbook w19.heap.size w5.heap.size (.slice a3 bb.accs.length k3) (.slice a4 bb.mvs.length k4) bb, rbook 0 w.heap.size (.slice a1 b.accs.length k1) (.slice a2 b.mvs.length k2) b] w151 := F150.add (rsl intEnc 1 (w139.heap.size + 1) w151.heap.size v152 (vl bb)) hg_ (hs_.wide (by simp) (Nat.le_refl _)) (rsl_in (by simp) (Nat.le_refl _))
          clear F150
          obtain ⟨pa153, pc154, e_⟩ := hs_.any
          subst e_
          clear hs_ hg_
          have b156 : Bk _ (w5.heap.size + 2) 25 #[.slice a1 b.accs.length k1, .slice a2 b.mvs.length k2, .slice a3 bb.accs.length k3, .slice a4 bb.mvs.length k4] := F155.at 7 rfl
          have l157 := b156.lt
          have q158 : World.cell? _ ⟨(w5.heap.size + 2), 0, none⟩ = some (.slice a1 b.accs.length k1) := b156.cell 0
          have z159 := b156.frozen 0
          have q160 : World.cell? _ ⟨(w5.heap.size + 2), 1, none⟩ = some (.slice a2 b.mvs.length k2) := b156.cell 1
          have z161 := b156.frozen 1
          have q162 : World.cell? _ ⟨(w5.heap.size + 2), 2, none⟩ = some (.slice a3 bb.accs.length k3) := b156.cell 2
          have z163 := b156.frozen 2
          have q164 : World.cell? _ ⟨(w5.heap.size + 2), 3, none⟩ = some (.slice a4 bb.mvs.length k4) := b156.cell 3
          have z165 := b156.frozen 3
          go_wp2_with fail
          clear b156 l157 q158 z159 q160 z161 q162 z163 q164 z165
          refine (rMissing_c w19.heap.size w5.heap.size _ _ bb _ (F155.at 8 rfl : HasB w19.heap.size w5.heap.size _ (.slice a3 bb.accs.length k3) (.slice a4 bb.mvs.length k4) bb) hnm.out (by first | omega | (simp; done) | (simp; omega))).mono ?_
          intro e w166 hpost
          obtain ⟨v167, rfl, hs_, hg_⟩ := hpost.uni
          have hg_s := hg_.size
          (try simp at hg_s)
          clear hpost
          have F170 : Bun w [rsl intEnc 1 w151.heap.size w166.heap.size v167 (vl bb), rsl intEnc 1 (w139.heap.size + 1) w151.heap.size (.slice pa153 (vl bb).length pc154) (vl bb), rbox w139.heap.size 40 #[.int .i64 (lx bb).lo, .int .i64 (lx bb).hi], rsl spEnc 2 (w123.heap.size + 1) w139.heap.size (.slice pa141 (ll bb).length pc142) (ll bb), rbox w123.heap.size 40 #[.int .i64 (lx bb).lo, .int .i64 (lx bb).hi], rsl spEnc 2 (w120.heap.size + 1) w123.heap.size (.slice pa125 (ll bb).length pc126) (ll bb), rbox w120.heap.size 25 #[.slice oa1 bb.accs.length ok1, .slice oa2 bb.mvs.length ok2], rbook wr.heap.size w120.heap.size (.slice oa1 bb.accs.length ok1) (.slice oa2 bb.mvs.length ok2) bb, rbox (w5.heap.size + 2) 25 #[.slice a1 b.accs.length k1, .slice a2 b.mvs.length k2, .slice a3 bb.accs.length k3, .slice a4 bb.mvs.length k4], rbook w19.heap.size w5.heap.size (.slice a3 bb.accs.length k3) (.slice a4 bb.mvs.length k4) bb, rbook 0 w.heap.size (.slice a1 b.accs.length k1) (.slice a2 b.mvs.length k2) b] w166 := F155.add (rsl intEnc 1 w151.heap.size w166.heap.size v167 (vl bb)) hg_ (hs_.wide (by simp) (Nat.le_refl _)) (rsl_in (by simp) (Nat.le_refl _))
          clear F155
          obtain ⟨pa168, pc169, e_⟩ := hs_.any
          subst e_
          clear hs_ hg_
          go_wp2_with fail
          have F171 : Bun w [rsl intEnc 1 w151.heap.size w166.heap.size (.slice pa168 (vl bb).length pc169) (vl bb), rsl intEnc 1 (w139.heap.size + 1) w151.heap.size (.slice pa153 (vl bb).length pc154) (vl bb), rbox w139.heap.size 40 #[.int .i64 (lx bb).lo, .int .i64 (lx bb).hi], rsl spEnc 2 (w123.heap.size + 1) w139.heap.size (.slice pa141 (ll bb).length pc142) (ll bb), rbox w123.heap.size 40 #[.int .i64 (lx bb).lo, .int .i64 (lx bb).hi], rsl spEnc 2 (w120.heap.size + 1) w123.heap.size (.slice pa125 (ll bb).length pc126) (ll bb), rbox w120.heap.size 25 #[.slice oa1 bb.accs.length ok1, .slice oa2 bb.mvs.length ok2], rbook wr.heap.size w120.heap.size (.slice oa1 bb.accs.length ok1) (.slice oa2 bb.mvs.length ok2) bb, rbox (w5.heap.size + 2) 25 #[.slice a1 b.accs.length k1, .slice a2 b.mvs.length k2, .slice a3 bb.accs.length k3, .slice a4 bb.mvs.length k4], rbook w19.heap.size w5.heap.size (.slice a3 bb.accs.length k3) (.slice a4 bb.mvs.length k4) bb, rbook 0 w.heap.size (.slice a1 b.accs.length k1) (.slice a2 b.mvs.length k2) b] _ := F170.drew
          clear F170
          have q0 : World.cell? _ ⟨w120.heap.size, 0, none⟩ = some (.slice oa1 bb.accs.length ok1) := ((F171.at 6 rfl : Bk _ w120.heap.size 25 #[.slice oa1 bb.accs.length ok1, .slice oa2 bb.mvs.length ok2])).cell 0
          have ql0 := ((F171.at 6 rfl : Bk _ w120.heap.size 25 #[.slice oa1 bb.accs.length ok1, .slice oa2 bb.mvs.length ok2])).lt
          have q1 : World.cell? _ ⟨w120.heap.size, 1, none⟩ = some (.slice oa2 bb.mvs.length ok2) := ((F171.at 6 rfl : Bk _ w120.heap.size 25 #[.slice oa1 bb.accs.length ok1, .slice oa2 bb.mvs.length ok2])).cell 1
          have ql1 := ((F171.at 6 rfl : Bk _ w120.heap.size 25 #[.slice oa1 bb.accs.length ok1, .slice oa2 bb.mvs.length ok2])).lt
          have q2 : World.cell? _ ⟨w123.heap.size, 0, none⟩ = some (.int .i64 (lx bb).lo) := ((F171.at 4 rfl : Bk _ w123.heap.size 40 #[.int .i64 (lx bb).lo, .int .i64 (lx bb).hi])).cell 0
          have ql2 := ((F171.at 4 rfl : Bk _ w123.heap.size 40 #[.int .i64 (lx bb).lo, .int .i64 (lx bb).hi])).lt
          have q3 : World.cell? _ ⟨w123.heap.size, 1, none⟩ = some (.int .i64 (lx bb).hi) := ((F171.at 4 rfl : Bk _ w123.heap.size 40 #[.int .i64 (lx bb).lo, .int .i64 (lx bb).hi])).cell 1
          have ql3 := ((F171.at 4 rfl : Bk _ w123.heap.size 40 #[.int .i64 (lx bb).lo, .int .i64 (lx bb).hi])).lt
          have q4 : World.cell? _ ⟨w139.heap.size, 0, none⟩ = some (.int .i64 (lx bb).lo) := ((F171.at 2 rfl : Bk _ w139.heap.size 40 #[.int .i64 (lx bb).lo, .int .i64 (lx bb).hi])).cell 0
          have ql4 := ((F171.at 2 rfl : Bk _ w139.heap.size 40 #[.int .i64 (lx bb).lo, .int .i64 (lx bb).hi])).lt
          have q5 : World.cell? _ ⟨w139.heap.size, 1, none⟩ = some (.int .i64 (lx bb).hi) := ((F171.at 2 rfl : Bk _ w139.heap.size 40 #[.int .i64 (lx bb).lo, .int .i64 (lx bb).hi])).cell 1
          have ql5 := ((F171.at 2 rfl : Bk _ w139.heap.size 40 #[.int .i64 (lx bb).lo, .int .i64 (lx bb).hi])).lt
          have q6 : World.cell? _ ⟨(w5.heap.size + 2), 2, none⟩ = some (.slice a3 bb.accs.length k3) := ((F171.at 8 rfl : Bk _ (w5.heap.size + 2) 25 #[.slice a1 b.accs.length k1, .slice a2 b.mvs.length k2, .slice a3 bb.accs.length k3, .slice a4 bb.mvs.length k4])).cell 2
          have ql6 := ((F171.at 8 rfl : Bk _ (w5.heap.size + 2) 25 #[.slice a1 b.accs.length k1, .slice a2 b.mvs.length k2, .slice a3 bb.accs.length k3, .slice a4 bb.mvs.length k4])).lt
          have q7 : World.cell? _ ⟨(w5.heap.size + 2), 3, none⟩ = some (.slice a4 bb.mvs.length k4) := ((F171.at 8 rfl : Bk _ (w5.heap.size + 2) 25 #[.slice a1 b.accs.length k1, .slice a2 b.mvs.length k2, .slice a3 bb.accs.length k3, .slice a4 bb.mvs.length k4])).cell 3
          have ql7 := ((F171.at 8 rfl : Bk _ (w5.heap.size + 2) 25 #[.slice a1 b.accs.length k1, .slice a2 b.mvs.length k2, .slice a3 bb.accs.length k3, .slice a4 bb.mvs.length k4])).lt
          go_region_held3 (fun W => W.cell? ⟨w120.heap.size, 0, none⟩ = some (.slice oa1 bb.accs.length ok1) ∧ W.cell? ⟨w120.heap.size, 1, none⟩ = some (.slice oa2 bb.mvs.length ok2) ∧ W.cell? ⟨w123.heap.size, 0, none⟩ = some (.int .i64 (lx bb).lo) ∧ W.cell? ⟨w123.heap.size, 1, none⟩ = some (.int .i64 (lx bb).hi) ∧ W.cell? ⟨w139.heap.size, 0, none⟩ = some (.int .i64 (lx bb).lo) ∧ W.cell? ⟨w139.heap.size, 1, none⟩ = some (.int .i64 (lx bb).hi) ∧ W.cell? ⟨(w5.heap.size + 2), 2, none⟩ = some (.slice a3 bb.accs.length k3) ∧ W.cell? ⟨(w5.heap.size + 2), 3, none⟩ = some (.slice a4 bb.mvs.length k4)) (go_keep)
            (first
            | (go_at_call 24; refine (sameSpans_c _ _ _ _ _ _ (ll bb) (ll bb) _ (F171.at 5 rfl : Sl spEnc 2 (w120.heap.size + 1) w123.heap.size _ (.slice pa125 (ll bb).length pc126) (ll bb)) (F171.at 3 rfl : Sl spEnc 2 (w123.heap.size + 1) w139.heap.size _ (.slice pa141 (ll bb).length pc142) (ll bb))).mono ?_; rintro e wA ⟨rfl, hg1_⟩; have hz1_ := hg1_.size; (try simp at hz1_); rw [sameS_self]; have r1_0 : World.cell? wA ⟨w120.heap.size, 0, none⟩ = some (.slice oa1 bb.accs.length ok1) := gbc hg1_ (by simp) q0; have r1_1 : World.cell? wA ⟨w120.heap.size, 1, none⟩ = some (.slice oa2 bb.mvs.length ok2) := gbc hg1_ (by simp) q1; have r1_2 : World.cell? wA ⟨w123.heap.size, 0, none⟩ = some (.int .i64 (lx bb).lo) := gbc hg1_ (by simp) q2; have r1_3 : World.cell? wA ⟨w123.heap.size, 1, none⟩ = some (.int .i64 (lx bb).hi) := gbc hg1_ (by simp) q3; have r1_4 : World.cell? wA ⟨w139.heap.size, 0, none⟩ = some (.int .i64 (lx bb).lo) := gbc hg1_ (by simp) q4; have r1_5 : World.cell? wA ⟨w139.heap.size, 1, none⟩ = some (.int .i64 (lx bb).hi) := gbc hg1_ (by simp) q5; have r1_6 : World.cell? wA ⟨(w5.heap.size + 2), 2, none⟩ = some (.slice a3 bb.accs.length k3) := gbc hg1_ (by simp) q6; have r1_7 : World.cell? wA ⟨(w5.heap.size + 2), 3, none⟩ = some (.slice a4 bb.mvs.length k4) := gbc hg1_ (by simp) q7; have G1 := F171.gn hg1_)
            | (go_at_call 25; refine (same_c _ _ _ _ _ _ (vl bb) (vl bb) _ (G1.at 1 rfl : Sl intEnc 1 (w139.heap.size + 1) w151.heap.size _ (.slice pa153 (vl bb).length pc154) (vl bb)) (G1.at 0 rfl : Sl intEnc 1 w151.heap.size w166.heap.size _ (.slice pa168 (vl bb).length pc169) (vl bb))).mono ?_; rintro e wB ⟨rfl, hg2_⟩; have hz2_ := hg2_.size; (try simp at hz2_); rw [sameB_self]; have r2_0 : World.cell? wB ⟨w120.heap.size, 0, none⟩ = some (.slice oa1 bb.accs.length ok1) := gbc hg2_ (by simp) r1_0; have r2_1 : World.cell? wB ⟨w120.heap.size, 1, none⟩ = some (.slice oa2 bb.mvs.length ok2) := gbc hg2_ (by simp) r1_1; have r2_2 : World.cell? wB ⟨w123.heap.size, 0, none⟩ = some (.int .i64 (lx bb).lo) := gbc hg2_ (by simp) r1_2; have r2_3 : World.cell? wB ⟨w123.heap.size, 1, none⟩ = some (.int .i64 (lx bb).hi) := gbc hg2_ (by simp) r1_3; have r2_4 : World.cell? wB ⟨w139.heap.size, 0, none⟩ = some (.int .i64 (lx bb).lo) := gbc hg2_ (by simp) r1_4; have r2_5 : World.cell? wB ⟨w139.heap.size, 1, none⟩ = some (.int .i64 (lx bb).hi) := gbc hg2_ (by simp) r1_5; have r2_6 : World.cell? wB ⟨(w5.heap.size + 2), 2, none⟩ = some (.slice a3 bb.accs.length k3) := gbc hg2_ (by simp) r1_6; have r2_7 : World.cell? wB ⟨(w5.heap.size + 2), 3, none⟩ = some (.slice a4 bb.mvs.length k4) := gbc hg2_ (by simp) r1_7; have G2 := G1.gn hg2_)
            | (go_at_call 26; refine (sameBooks_c _ _ _ _ _ _ _ _ bb _ (G2.at 7 rfl : HasB wr.heap.size w120.heap.size _ (.slice oa1 bb.accs.length ok1) (.slice oa2 bb.mvs.length ok2) bb) (G2.at 9 rfl : HasB w19.heap.size w5.heap.size _ (.slice a3 bb.accs.length k3) (.slice a4 bb.mvs.length k4) bb)).mono ?_; rintro e wC ⟨rfl, hg3_⟩; have hz3_ := hg3_.size; (try simp at hz3_); have r3_0 : World.cell? wC ⟨w120.heap.size, 0, none⟩ = some (.slice oa1 bb.accs.length ok1) := gbc hg3_ (by simp) r2_0; have r3_1 : World.cell? wC ⟨w120.heap.size, 1, none⟩ = some (.slice oa2 bb.mvs.length ok2) := gbc hg3_ (by simp) r2_1; have r3_2 : World.cell? wC ⟨w123.heap.size, 0, none⟩ = some (.int .i64 (lx bb).lo) := gbc hg3_ (by simp) r2_2; have r3_3 : World.cell? wC ⟨w123.heap.size, 1, none⟩ = some (.int .i64 (lx bb).hi) := gbc hg3_ (by simp) r2_3; have r3_4 : World.cell? wC ⟨w139.heap.size, 0, none⟩ = some (.int .i64 (lx bb).lo) := gbc hg3_ (by simp) r2_4; have r3_5 : World.cell? wC ⟨w139.heap.size, 1, none⟩ = some (.int .i64 (lx bb).hi) := gbc hg3_ (by simp) r2_5; have r3_6 : World.cell? wC ⟨(w5.heap.size + 2), 2, none⟩ = some (.slice a3 bb.accs.length k3) := gbc hg3_ (by simp) r2_6; have r3_7 : World.cell? wC ⟨(w5.heap.size + 2), 3, none⟩ = some (.slice a4 bb.mvs.length k4) := gbc hg3_ (by simp) r2_7; have G3 := G2.gn hg3_))
          have F172 : Bun w [rsl intEnc 1 (w139.heap.size + 1) w151.heap.size (.slice pa153 (vl bb).length pc154) (vl bb), rbox w139.heap.size 40 #[.int .i64 (lx bb).lo, .int .i64 (lx bb).hi], rsl spEnc 2 (w123.heap.size + 1) w139.heap.size (.slice pa141 (ll bb).length pc142) (ll bb), rbox w123.heap.size 40 #[.int .i64 (lx bb).lo, .int .i64 (lx bb).hi], rsl spEnc 2 (w120.heap.size + 1) w123.heap.size (.slice pa125 (ll bb).length pc126) (ll bb), rbox w120.heap.size 25 #[.slice oa1 bb.accs.length ok1, .slice oa2 bb.mvs.length ok2], rbook wr.heap.size w120.heap.size (.slice oa1 bb.accs.length ok1) (.slice oa2 bb.mvs.length ok2) bb, rbox (w5.heap.size + 2) 25 #[.slice a1 b.accs.length k1, .slice a2 b.mvs.length k2, .slice a3 bb.accs.length k3, .slice a4 bb.mvs.length k4], rbook w19.heap.size w5.heap.size (.slice a3 bb.accs.length k3) (.slice a4 bb.mvs.length k4) bb, rbook 0 w.heap.size (.slice a1 b.accs.length k1) (.slice a2 b.mvs.length k2) b] _ := G3.drop 0 rfl
          clear G3
          have F173 : Bun w [rbox w139.heap.size 40 #[.int .i64 (lx bb).lo, .int .i64 (lx bb).hi], rsl spEnc 2 (w123.heap.size + 1) w139.heap.size (.slice pa141 (ll bb).length pc142) (ll bb), rbox w123.heap.size 40 #[.int .i64 (lx bb).lo, .int .i64 (lx bb).hi], rsl spEnc 2 (w120.heap.size + 1) w123.heap.size (.slice pa125 (ll bb).length pc126) (ll bb), rbox w120.heap.size 25 #[.slice oa1 bb.accs.length ok1, .slice oa2 bb.mvs.length ok2], rbook wr.heap.size w120.heap.size (.slice oa1 bb.accs.length ok1) (.slice oa2 bb.mvs.length ok2) bb, rbox (w5.heap.size + 2) 25 #[.slice a1 b.accs.length k1, .slice a2 b.mvs.length k2, .slice a3 bb.accs.length k3, .slice a4 bb.mvs.length k4], rbook w19.heap.size w5.heap.size (.slice a3 bb.accs.length k3) (.slice a4 bb.mvs.length k4) bb, rbook 0 w.heap.size (.slice a1 b.accs.length k1) (.slice a2 b.mvs.length k2) b] _ := F172.drop 0 rfl
          clear F172
          have F174 : Bun w [rsl spEnc 2 (w123.heap.size + 1) w139.heap.size (.slice pa141 (ll bb).length pc142) (ll bb), rbox w123.heap.size 40 #[.int .i64 (lx bb).lo, .int .i64 (lx bb).hi], rsl spEnc 2 (w120.heap.size + 1) w123.heap.size (.slice pa125 (ll bb).length pc126) (ll bb), rbox w120.heap.size 25 #[.slice oa1 bb.accs.length ok1, .slice oa2 bb.mvs.length ok2], rbook wr.heap.size w120.heap.size (.slice oa1 bb.accs.length ok1) (.slice oa2 bb.mvs.length ok2) bb, rbox (w5.heap.size + 2) 25 #[.slice a1 b.accs.length k1, .slice a2 b.mvs.length k2, .slice a3 bb.accs.length k3, .slice a4 bb.mvs.length k4], rbook w19.heap.size w5.heap.size (.slice a3 bb.accs.length k3) (.slice a4 bb.mvs.length k4) bb, rbook 0 w.heap.size (.slice a1 b.accs.length k1) (.slice a2 b.mvs.length k2) b] _ := F173.drop 0 rfl
          clear F173
          have F175 : Bun w [rbox w123.heap.size 40 #[.int .i64 (lx bb).lo, .int .i64 (lx bb).hi], rsl spEnc 2 (w120.heap.size + 1) w123.heap.size (.slice pa125 (ll bb).length pc126) (ll bb), rbox w120.heap.size 25 #[.slice oa1 bb.accs.length ok1, .slice oa2 bb.mvs.length ok2], rbook wr.heap.size w120.heap.size (.slice oa1 bb.accs.length ok1) (.slice oa2 bb.mvs.length ok2) bb, rbox (w5.heap.size + 2) 25 #[.slice a1 b.accs.length k1, .slice a2 b.mvs.length k2, .slice a3 bb.accs.length k3, .slice a4 bb.mvs.length k4], rbook w19.heap.size w5.heap.size (.slice a3 bb.accs.length k3) (.slice a4 bb.mvs.length k4) bb, rbook 0 w.heap.size (.slice a1 b.accs.length k1) (.slice a2 b.mvs.length k2) b] _ := F174.drop 0 rfl
          clear F174
          have F176 : Bun w [rsl spEnc 2 (w120.heap.size + 1) w123.heap.size (.slice pa125 (ll bb).length pc126) (ll bb), rbox w120.heap.size 25 #[.slice oa1 bb.accs.length ok1, .slice oa2 bb.mvs.length ok2], rbook wr.heap.size w120.heap.size (.slice oa1 bb.accs.length ok1) (.slice oa2 bb.mvs.length ok2) bb, rbox (w5.heap.size + 2) 25 #[.slice a1 b.accs.length k1, .slice a2 b.mvs.length k2, .slice a3 bb.accs.length k3, .slice a4 bb.mvs.length k4], rbook w19.heap.size w5.heap.size (.slice a3 bb.accs.length k3) (.slice a4 bb.mvs.length k4) bb, rbook 0 w.heap.size (.slice a1 b.accs.length k1) (.slice a2 b.mvs.length k2) b] _ := F175.drop 0 rfl
          clear F175
          have F177 : Bun w [rbox w120.heap.size 25 #[.slice oa1 bb.accs.length ok1, .slice oa2 bb.mvs.length ok2], rbook wr.heap.size w120.heap.size (.slice oa1 bb.accs.length ok1) (.slice oa2 bb.mvs.length ok2) bb, rbox (w5.heap.size + 2) 25 #[.slice a1 b.accs.length k1, .slice a2 b.mvs.length k2, .slice a3 bb.accs.length k3, .slice a4 bb.mvs.length k4], rbook w19.heap.size w5.heap.size (.slice a3 bb.accs.length k3) (.slice a4 bb.mvs.length k4) bb, rbook 0 w.heap.size (.slice a1 b.accs.length k1) (.slice a2 b.mvs.length k2) b] _ := F176.drop 0 rfl
          clear F176
          have F178 : Bun w [rbook wr.heap.size w120.heap.size (.slice oa1 bb.accs.length ok1) (.slice oa2 bb.mvs.length ok2) bb, rbox (w5.heap.size + 2) 25 #[.slice a1 b.accs.length k1, .slice a2 b.mvs.length k2, .slice a3 bb.accs.length k3, .slice a4 bb.mvs.length k4], rbook w19.heap.size w5.heap.size (.slice a3 bb.accs.length k3) (.slice a4 bb.mvs.length k4) bb, rbook 0 w.heap.size (.slice a1 b.accs.length k1) (.slice a2 b.mvs.length k2) b] _ := F177.drop 0 rfl
          clear F177
          have F179 : Bun w [rbox (w5.heap.size + 2) 25 #[.slice a1 b.accs.length k1, .slice a2 b.mvs.length k2, .slice a3 bb.accs.length k3, .slice a4 bb.mvs.length k4], rbook w19.heap.size w5.heap.size (.slice a3 bb.accs.length k3) (.slice a4 bb.mvs.length k4) bb, rbook 0 w.heap.size (.slice a1 b.accs.length k1) (.slice a2 b.mvs.length k2) b] _ := F178.drop 0 rfl
          clear F178
          have F180 : Bun w [rbook 0 w.heap.size (.slice a1 b.accs.length k1) (.slice a2 b.mvs.length k2) b, rbox (w5.heap.size + 2) 25 #[.slice a1 b.accs.length k1, .slice a2 b.mvs.length k2, .slice a3 bb.accs.length k3, .slice a4 bb.mvs.length k4], rbook w19.heap.size w5.heap.size (.slice a3 bb.accs.length k3) (.slice a4 bb.mvs.length k4) bb] _ := F179.front 2 rfl rfl
          clear F179
          have F181 : Bun w [rbook w19.heap.size w5.heap.size (.slice a3 bb.accs.length k3) (.slice a4 bb.mvs.length k4) bb, rbook 0 w.heap.size (.slice a1 b.accs.length k1) (.slice a2 b.mvs.length k2) b, rbox (w5.heap.size + 2) 25 #[.slice a1 b.accs.length k1, .slice a2 b.mvs.length k2, .slice a3 bb.accs.length k3, .slice a4 bb.mvs.length k4]] _ := F180.front 2 rfl rfl
          clear F180
          have F182 : Bun w [rbox (w5.heap.size + 2) 25 #[.slice a1 b.accs.length k1, .slice a2 b.mvs.length k2, .slice a3 bb.accs.length k3, .slice a4 bb.mvs.length k4], rbook w19.heap.size w5.heap.size (.slice a3 bb.accs.length k3) (.slice a4 bb.mvs.length k4) bb, rbook 0 w.heap.size (.slice a1 b.accs.length k1) (.slice a2 b.mvs.length k2) b] _ := F181.front 2 rfl rfl
          clear F181
          go_wp2_with fail
          (first | refine ⟨rfl, ?_, ?_⟩ | refine ⟨?_, ?_⟩)
          · rw [HI36.out]; exact ⟨2, rfl, rfl, by omega, (by simp), (by first | omega | (simp; done) | (simp; omega)), F182⟩
          · simp [slot, intOf]
      · obtain rfl : i = 2 := by omega
        go_wp2_with fail
        refine (awake_c _).mono ?_
        rintro e wZ ⟨rfl, hgZ⟩
        have F183 : Bun w [rbox (w5.heap.size + 2) 25 #[.slice a1 b.accs.length k1, .slice a2 b.mvs.length k2, .slice a3 bb.accs.length k3, .slice a4 bb.mvs.length k4], rbook w19.heap.size w5.heap.size (.slice a3 bb.accs.length k3) (.slice a4 bb.mvs.length k4) bb, rbook 0 w.heap.size (.slice a1 b.accs.length k1) (.slice a2 b.mvs.length k2) b] wZ := hF.gn hgZ
        clear hF
        go_wp2_with fail
        exact bodyPost_ret (v := .bool true) (by simp [results, Try.results3, go_sem]) rfl ⟨rfl, F183.gb⟩
    case atStart40 =>
      rw [HI36.out]
      exact ⟨0, rfl, rfl, by omega, rfl, (by simp; omega), F35⟩
end Go.Proofs.Ytfifldbinnkdmaa
namespace Go.Proofs.Ytfifldbinnkdmaa
open Go.ChangeShapes Go.WideShapes Go.ChangeAt Go.RowKit
set_option maxRecDepth 100000
theorem cells_str : Try.prog.cellsOf 9 = 1 := by kernel_rfl
theorem cells_acc : Try.prog.cellsOf 79 = 6 := by kernel_rfl
theorem cells_move : Try.prog.cellsOf 76 = 4 := by kernel_rfl
theorem reads_acc : Reads Try.prog 79 accEnc (fun a => a.name.size ≤ maxLen) := fun n cs y h => by
  obtain ⟨hl, m, hf⟩ := trod_fields Try.underlying79 h
  rw [cells_acc] at hl
  have f0 := hf 0
  have f1 := hf 1
  have f2 := hf 2
  have f3 := hf 3
  simp only [List.getElem?_toArray, List.getElem?_cons_zero, List.getElem?_cons_succ, Option.some.injEq, forall_eq'] at f0 f1 f2 f3
  obtain ⟨y0, h0⟩ := f0
  obtain ⟨y1, h1⟩ := f1
  obtain ⟨y2, h2⟩ := f2
  obtain ⟨y3, h3⟩ := f3
  rw [cells_str] at h0
  rw [cells_int] at h1
  rw [cells_span] at h2 h3
  obtain ⟨s, e0, _, hs⟩ := DataW.trod_string Try.underlying9 h0
  obtain ⟨k, e1, _⟩ := reads_int m _ _ h1
  obtain ⟨o, e2, _⟩ := reads_span m _ _ h2
  obtain ⟨c, e3, _⟩ := reads_span m _ _ h3
  match cs, hl with
  | [x0, x1, x2, x3, x4, x5], _ =>
    simp [intEnc, spEnc] at e0 e1 e2 e3
    obtain ⟨e2, e4⟩ := e2
    obtain ⟨e3, e5⟩ := e3
    subst e0 e1 e2 e3 e4 e5
    exact ⟨⟨s, k, o, c⟩, rfl, hs⟩
theorem reads_move : Reads Try.prog 76 mvEnc (fun _ => True) := fun n cs y h => by
  obtain ⟨hl, m, hf⟩ := trod_fields Try.underlying76 h
  rw [cells_move] at hl
  have f0 := hf 0
  have f1 := hf 1
  have f2 := hf 2
  simp only [List.getElem?_toArray, List.getElem?_cons_zero, List.getElem?_cons_succ, Option.some.injEq, forall_eq'] at f0 f1 f2
  obtain ⟨y0, h0⟩ := f0
  obtain ⟨y1, h1⟩ := f1
  obtain ⟨y2, h2⟩ := f2
  rw [cells_int] at h0 h1
  rw [cells_span] at h2
  obtain ⟨a, e0, _⟩ := reads_int m _ _ h0
  obtain ⟨b, e1, _⟩ := reads_int m _ _ h1
  obtain ⟨o, e2, _⟩ := reads_span m _ _ h2
  match cs, hl with
  | [x0, x1, x2, x3], _ =>
    simp [intEnc, spEnc] at e0 e1 e2
    obtain ⟨e2, e4⟩ := e2
    subst e0 e1 e2 e4
    exact ⟨⟨a, b, o⟩, rfl, trivial⟩
/-- A book that comes in. -/
theorem book_of_trod {H : Type} {enc : TypeId × Value → H} {w : World} {base : Nat} {spare : Nat → Bool} {held : Bool} {v : Value} {d : DataW H} {p : List MemPlace} {r : Reach} {b0 : Nat}
    (hv : Value.okWide Try.prog w r b0 25 v) (h : DataW.Trod enc Try.prog w base spare held 25 v d p) : ∃ va vm b, v = .agg #[va, vm] ∧ HasB 0 w.heap.size w va vm b ∧ nameOk b.accs := by
  obtain ⟨cs, rfl, hsz⟩ := okWide_struct Try.underlying25 hv
  obtain ⟨fuel, hf⟩ := h
  obtain ⟨hl, m, hf⟩ := trod_fields Try.underlying25 hf
  have hc : Try.prog.cellsOf 25 = 2 := by kernel_rfl
  have hc1 : Try.prog.cellsOf 22 = 1 := by kernel_rfl
  have hc2 : Try.prog.cellsOf 23 = 1 := by kernel_rfl
  have f0 := hf 0
  have f1 := hf 1
  simp only [List.getElem?_toArray, List.getElem?_cons_zero, List.getElem?_cons_succ, Option.some.injEq, forall_eq'] at f0 f1
  obtain ⟨y0, h0⟩ := f0
  obtain ⟨y1, h1⟩ := f1
  rw [hc1] at h0
  rw [hc2] at h1
  obtain ⟨v0, al, e0, i0, n0⟩ := sl_of_trod Try.underlying22 cells_acc (by omega) reads_acc h0
  obtain ⟨v1, ms, e1, i1, _⟩ := sl_of_trod Try.underlying23 cells_move (by omega) reads_move h1
  rw [hc] at hsz
  obtain ⟨cs⟩ := cs
  match cs, hsz with
  | [x, y], _ =>
    simp [Value.cells] at e0 e1
    subst e0 e1
    exact ⟨_, _, ⟨al, ms⟩, rfl, ⟨i0, i1⟩, n0⟩
end Go.Proofs.Ytfifldbinnkdmaa
namespace Go.Proofs.Ytfifldbinnkdmaa
open Go.ChangeShapes Go.WideShapes Go.ChangeAt Go.RowKit
set_option maxRecDepth 100000 in
theorem losses_lifted (os : Os) (started : os.Started) (H : Type) (enc : TypeId × Value → H) :
    ReturnsInHanded {} Try.checked os 3 .any (Rows.fuelLossesSpec.pre6 enc Try.prog Try.f3 Rows.fuelLossesRow.domain false) (Rows.fuelLossesSpec.post enc Try.prog Try.f3 false true false false) := by
  refine returnsInHanded_of_change (C := Try.checked) own_ started (by kernel_rfl) Try.func3
    (ChangeSpec.witness6 (enc := enc) (C := Try.checked) false ⟨#[], #[.agg #[.slice none 0 0, .slice none 0 0], .slice none 0 0], []⟩ 8 (by kernel_rfl) (by kernel_rfl) (by kernel_rfl) (by kernel_rfl)) ?_
  intro W base args ds gs before hval0 hW hcnd _
  have hval : ∀ (j : Nat) t v, Try.f3.params[j]? = some t → args[j]? = some v → Value.okWide Try.prog W .any base t v := hval0
  have hW' := hW
  obtain ⟨p, q, hA0, hV, rfl, hfz, hnd⟩ := hW
  have hA : DataW.TrodAll enc Try.prog W 0 (fun _ => true) true Try.f3.params.toList args.toList ds p := hA0
  rw [Try.params3] at hA hval
  obtain ⟨v0, vs0, d0, ds0, p0, q0, hargs, rfl, rfl, h0, r0⟩ := trodAll_cons hA
  obtain ⟨v1, vs1, d1, ds1, p1, q1, rfl, rfl, rfl, h1, r1⟩ := trodAll_cons r0
  obtain ⟨rfl, rfl, rfl⟩ := trodAll_nil r1
  obtain rfl : args = #[v0, v1] := by cases args; simp_all
  obtain ⟨rfl, rfl⟩ := trodVars_none hV
  have k0 := h0
  have lt0 : ∀ x ∈ p0, x.block < W.heap.size := by obtain ⟨m, hm⟩ := k0; exact DataW.trod_lt m _ _ _ hm
  have k1 := h1
  have lt1 : ∀ x ∈ p1, x.block < W.heap.size := by obtain ⟨m, hm⟩ := k1; exact DataW.trod_lt m _ _ _ hm
  obtain ⟨va, vm, b, rfl, hb, hn⟩ := book_of_trod (hval 0 _ v0 rfl rfl) h0
  obtain ⟨zs, i1⟩ := ints_of_trod (hval 1 _ v1 rfl rfl) h1
  clear hA0 hval0
  refine (losses_walk va vm v1 b zs W hb hn i1).mono fun e W' ⟨he, hg⟩ => ?_
  subst he
  have bel := below_of_gb hg
  exact ⟨_, rfl, _, _, _, [], _, [], hW', trodAll_mk1 (shut_bool Try.underlying4 _), (trodAll_cons_mk (Below.trod laidOut_ (by kernel_rfl) (of_decide_eq_true (by kernel_rfl)) k0 bel lt0) (trodAll_cons_mk (Below.trod laidOut_ (by kernel_rfl) (of_decide_eq_true (by kernel_rfl)) k1 bel lt1) trodAll_mk0)), rfl, bel.frame _, fun h => by cases h⟩
theorem losses_holds : Rows.FuelLossesSaid :=
  OpenClaim.holds_of_wide 3 Try.f3 rfl rfl rfl rfl rfl rfl rfl ⟨rfl, rfl, rfl, rfl, rfl⟩ rfl rfl rfl rfl rfl (by kernel_rfl) Try.func3 (by kernel_rfl)
    (of_decide_eq_true (by kernel_rfl)) (by unfold Func.isWrapper; first | (rw [if_pos (by decide +kernel)]; kernel_rfl) | (rw [if_neg (by decide +kernel)]; exact ⟨rfl, rfl⟩))
    (fun os started H enc _ => losses_lifted os started H enc)
end Go.Proofs.Ytfifldbinnkdmaa
