/- The statement FuelDays: the walk. -/
import Derived.Test.YtfifldbinnkdmaaWake
import Derived.Test.YtfifldbinnkdmaaPDays
import Derived.Test.YtfifldbinnkdmaaBun
import Derived.Test.YtfifldbinnkdmaaOpen2
import Derived.Deep.RegionHeld3
import Derived.Deep.QuietTactic
import Derived.BigQuiet
set_option linter.unusedVariables false
set_option linter.unusedSimpArgs false
set_option linter.unnecessarySimpa false
namespace Go.Proofs.Ytfifldbinnkdmaa
open Go.RowKit Go.Shelf
set_option maxRecDepth 100000

theorem has_yes (a b n : Int) (w : World) (h1 : a ≤ n) (h2 : n ≤ b) : Calls Try.prog 60 #[.agg #[.int .i64 a, .int .i64 b], .int .i64 n] w (Ret (.bool true) w) := by
  go_enter Try.func60, Try.ntmps60
  go_wp2_with fail
  go_ret
  exact ⟨rfl, gb_alloc (gb_refl _ _) _⟩
theorem Sps.cell' {lo hi : Nat} {w : World} {x ox n c : Nat} {l : List Sp} (h : Sps lo hi w (.slice (some ⟨x, ox, none⟩) n c) l) {i : Nat} (hi' : i < l.length) :
    w.cell? ⟨x, ox + i * 2, none⟩ = some (.int .i64 (sp l i).lo) ∧ w.cell? ⟨x, ox + i * 2 + 1, none⟩ = some (.int .i64 (sp l i).hi) := by
  obtain ⟨x', ox', c', ev, _, _, H⟩ := Sps.at h (by omega)
  injection ev with e1 _ e2
  injection e1 with e1
  injection e1 with e3 e4
  subst e3 e4
  exact H i hi'
set_option maxHeartbeats 1000000 in
theorem lburnt_c (sb l1 h1 : Nat) (v : Value) (l : List Bn) (c : Int) (w : World) (hh : Bns l1 h1 w v l) (hok : BnOk l) (hs : SeedAt w sb) :
    Calls Try.prog 59 #[.pointer (some ⟨sb, 0, none⟩), v, .int .i64 c] w (Gen .i64 (insideR (bn l (pl l c)).li.lo (bn l (pl l c)).li.hi) sb w) := by
  have hn := hok.n0
  have hn' := hok.n12
  obtain ⟨x, ox, cp, rfl, _, _, H1⟩ := Bns.at hh hn
  have HA := Lib.hid H1
  have hpl := pl_lt (l := l) c hn
  have HO := Lib.hid (hok.one (pl l c) hpl)
  clear H1 hh hok
  go_enter Try.func59, Try.ntmps59
  go_wp2_with fail
  go_loop [7, 8] (fun a i => ∃ k : Nat, 1 ≤ k ∧ k ≤ l.length ∧ i = .int .i64 k ∧ a = .int .i64 (plF l c k : Nat)) (fun _ i => l.length - (intOf i).toNat)
  case atStart => exact ⟨1, Nat.le_refl _, by omega, rfl, by simp [plF]⟩
  case round =>
    obtain ⟨k, hk1, hk, rfl, rfl⟩ := hrel
    by_cases hlt : k < l.length
    · have g1 := (HA.out k hlt).1
      have HS : Hid (plF l c (k + 1) = if (bn l k).cold ≤ c then k else plF l c k) := Lib.hid rfl
      by_cases he : (bn l k).cold ≤ c
      · go_wp2_with fail
        go_round
        case rel => exact ⟨k + 1, by omega, by omega, by go_num, by rw [HS.out, if_pos he]⟩
        case measure => simp [intOf]; omega
      · go_wp2_with fail
        go_round
        case rel => exact ⟨k + 1, by omega, by omega, by go_num, by rw [HS.out, if_neg he]⟩
        case measure => simp [intOf]; omega
    · obtain rfl : k = l.length := by omega
      obtain ⟨_, g2, g3⟩ := HA.out (pl l c) hpl
      have hpe : plF l c l.length = pl l c := rfl
      rw [hpe]
      generalize pl l c = q at *
      clear hpe
      have hq := HO.out
      go_wp2_with fail
      refine (inside_c sb _ _ _ hs (by omega) (by omega) (by omega) (by omega)).mono ?_
      rintro e w1 ⟨r, rfl, hr, hs1, hg1⟩
      go_wp2_with fail
      go_ret
      exact ⟨r, rfl, hr, hs1, hg1⟩

set_option maxHeartbeats 8000000 in
theorem days_walk (vn : Value) (zs : List Int) (w : World) (hz : Ints 0 w.heap.size w vn zs) :
    Calls Try.prog 11 #[vn] w (Ret (.bool true) w) := by
  obtain ⟨an, cn, en⟩ := hz.any
  have HZ := Lib.hid hz
  have hvn : ∃ a n c, vn = .slice a n c := ⟨_, _, _, en⟩
  clear hz en
  obtain ⟨an, nn, cn, rfl⟩ := hvn
  go_enter Try.func11, Try.ntmps11
  have F1 : Bun w [] w := Bun.nil _
  go_wp2_with fail
  refine (newSeed_c _ _ _ _ _ HZ.out).mono ?_
  rintro e w1 ⟨sb, rfl, hsb, hs3, hg2⟩
  have hg2s := hg2.size
  (try simp at hg2s)
  have F4 : Bun w [rseed sb] w1 := (Bun.nil w).newSeed hg2 hs3 hsb
  clear F1
  clear hg2
  go_wp2_with fail
  refine (burnOf_c sb true _ (F4.at 0 rfl)).mono ?_
  rintro e w2 ⟨vb, rfl, ⟨b, bc, hob, hbi, hbn, hbn4⟩, hs6, hg5⟩
  have hcap := cap_of_own hob
  have hg5s := hg5.size
  (try simp at hg5s)
  have F7 : Bun w [rsl bnEnc 3 w1.heap.size w2.heap.size vb b, rseed sb] w2 := F4.seedAdd (rsl bnEnc 3 w1.heap.size w2.heap.size vb b) hg5 hs6 (hob.sl (fun _ => rfl)) (rsl_in (Nat.le_refl _) (Nat.le_refl _))
  clear F4
  clear hg5
  go_wp2_with fail
  have F8 : Bun w [rseed sb, rsl bnEnc 3 w1.heap.size w2.heap.size vb b] _ := F7.front 1 rfl rfl
  clear F7
  refine (coldsOf_c sb 12 _ (F8.at 0 rfl) (by omega) (by omega)).mono ?_
  rintro e w3 ⟨vc, rfl, ⟨c, hoc, hcn, hcb⟩, hs10, hg9⟩
  have hg9s := hg9.size
  (try simp at hg9s)
  have F11 : Bun w [rsl spEnc 2 w2.heap.size w3.heap.size vc c, rseed sb, rsl bnEnc 3 w1.heap.size w2.heap.size vb b] w3 := F8.seedAdd (rsl spEnc 2 w2.heap.size w3.heap.size vc c) hg9 hs10 (hoc.sl (fun _ => rfl)) (rsl_in (Nat.le_refl _) (Nat.le_refl _))
  clear F8
  clear hg9
  have hbok := hbi.ok hbn hbn4
  have HBI := Lib.hid (And.intro hbi (And.intro hbok (And.intro hcap (And.intro hcb hbi.one))))
  clear hob hoc hbi hbok hcap hcb
  go_wp2_with fail
  have F12 : Bun w [rseed sb, rsl spEnc 2 w2.heap.size w3.heap.size vc c, rsl bnEnc 3 w1.heap.size w2.heap.size vb b] _ := F11.front 1 rfl rfl
  clear F11
  refine (spanOf_c sb 0 400 _ (F12.at 0 rfl) (by omega) (by omega) (by omega)).mono ?_
  rintro e w4 ⟨v, rfl, ⟨d1, d2, rfl, hd1, hd2, hd3⟩, hs14, hg13⟩
  have hg13s := hg13.size
  (try simp at hg13s)
  have F15 : Bun w [rseed sb, rsl spEnc 2 w2.heap.size w3.heap.size vc c, rsl bnEnc 3 w1.heap.size w2.heap.size vb b] w4 := F12.seed hg13 hs14
  clear F12
  clear hg13
  obtain ⟨a1, k1, e1⟩ := ((F15.at 2 rfl : Sl bnEnc 3 w1.heap.size w2.heap.size _ vb b)).any
  obtain ⟨a2, k2, e2⟩ := ((F15.at 1 rfl : Sl spEnc 2 w2.heap.size w3.heap.size _ vc c)).any
  subst e1 e2
  have F16 : Bun w [rbox w4.heap.size 40 #[.int .i64 d1, .int .i64 d2], rseed sb, rsl spEnc 2 w2.heap.size w3.heap.size (.slice a2 c.length k2) c, rsl bnEnc 3 w1.heap.size w2.heap.size (.slice a1 b.length k1) b] _ := F15.new 40 #[.int .i64 d1, .int .i64 d2] (n := w4.heap.size) (by simp)
  clear F15
  have HV1 := Lib.hid (lastsV_ok (s := ⟨d1, d2⟩) (b := b) (c := c) (lastsE_zero ⟨hd1, hd2, by show d2 ≤ _; omega⟩ HBI.out.2.1 (by omega) (fun i hi => by have := HBI.out.2.2.2.1 i hi; omega)))
  obtain ⟨p1, hp1⟩ : ∃ z, (dayO ⟨d1, d2⟩ b c c.length).lo = z := ⟨_, rfl⟩
  obtain ⟨p2, hp2⟩ : ∃ z, (dayO ⟨d1, d2⟩ b c c.length).hi = z := ⟨_, rfl⟩
  rw [hp1, hp2] at HV1
  have HP := Lib.hid (And.intro hp1 hp2)
  clear hp1 hp2
  have hz4 : w3.heap.size ≤ w4.heap.size ∧ w2.heap.size ≤ w3.heap.size := by omega
  have b17 : Bk _ w4.heap.size 40 #[.int .i64 d1, .int .i64 d2] := F16.at 0 rfl
  have l18 := b17.lt
  have q19 : World.cell? _ ⟨w4.heap.size, 0, none⟩ = some (.int .i64 d1) := b17.cell 0
  have z20 := b17.frozen 0
  have q21 : World.cell? _ ⟨w4.heap.size, 1, none⟩ = some (.int .i64 d2) := b17.cell 1
  have z22 := b17.frozen 1
  go_wp2_with fail
  refine (lasts_c w1.heap.size w2.heap.size w2.heap.size w3.heap.size _ _ ⟨d1, d2⟩ b c _ ((F16.at 3 rfl : Sl bnEnc 3 w1.heap.size w2.heap.size _ (.slice a1 b.length k1) b)) ((F16.at 2 rfl : Sl spEnc 2 w2.heap.size w3.heap.size _ (.slice a2 c.length k2) c)) HBI.out.2.2.1 (by first | omega | (simp; omega)) (by first | omega | (simp; omega))).mono ?_
  rintro e w5 ⟨rfl, hg23⟩
  have hg23s := hg23.size
  (try simp at hg23s)
  clear b17 l18 q19 z20 q21 z22
  have F25 : Bun w [rbox w4.heap.size 40 #[.int .i64 d1, .int .i64 d2], rseed sb, rsl spEnc 2 w2.heap.size w3.heap.size (.slice a2 c.length k2) c, rsl bnEnc 3 w1.heap.size w2.heap.size (.slice a1 b.length k1) b] w5 := F16.gn hg23
  clear F16
  clear hg23
  rw [HV1.out]
  have F26 : Bun w [rbox w5.heap.size 40 #[.int .i64 p1, .int .i64 p2], rbox w4.heap.size 40 #[.int .i64 d1, .int .i64 d2], rseed sb, rsl spEnc 2 w2.heap.size w3.heap.size (.slice a2 c.length k2) c, rsl bnEnc 3 w1.heap.size w2.heap.size (.slice a1 b.length k1) b] _ := F25.new 40 #[.int .i64 p1, .int .i64 p2] (n := w5.heap.size) (by simp)
  clear F25
  have b27 : Bk _ w4.heap.size 40 #[.int .i64 d1, .int .i64 d2] := F26.at 1 rfl
  have l28 := b27.lt
  have q29 : World.cell? _ ⟨w4.heap.size, 0, none⟩ = some (.int .i64 d1) := b27.cell 0
  have z30 := b27.frozen 0
  have q31 : World.cell? _ ⟨w4.heap.size, 1, none⟩ = some (.int .i64 d2) := b27.cell 1
  have z32 := b27.frozen 1
  go_wp2_with fail
  have F33 : Bun w [rseed sb, rbox w5.heap.size 40 #[.int .i64 p1, .int .i64 p2], rbox w4.heap.size 40 #[.int .i64 d1, .int .i64 d2], rsl spEnc 2 w2.heap.size w3.heap.size (.slice a2 c.length k2) c, rsl bnEnc 3 w1.heap.size w2.heap.size (.slice a1 b.length k1) b] _ := F26.front 2 rfl rfl
  clear F26
  refine (inside_c sb d1 d2 _ (F33.at 0 rfl) (by omega) (by omega) (by omega) (by omega)).mono ?_
  rintro e w6 ⟨lf, rfl, hlf, hs35, hg34⟩
  have hlf1 : d1 ≤ lf ∧ lf ≤ d2 := by
    unfold insideR fromR at hlf
    omega
  clear hlf
  have hg34s := hg34.size
  (try simp at hg34s)
  clear b27 l28 q29 z30 q31 z32
  have F36 : Bun w [rseed sb, rbox w5.heap.size 40 #[.int .i64 p1, .int .i64 p2], rbox w4.heap.size 40 #[.int .i64 d1, .int .i64 d2], rsl spEnc 2 w2.heap.size w3.heap.size (.slice a2 c.length k2) c, rsl bnEnc 3 w1.heap.size w2.heap.size (.slice a1 b.length k1) b] w6 := F33.seed hg34 hs35
  clear F33
  clear hg34
  go_wp2_with fail
  have hn12 : c.length ≤ 12 := by omega
  refine wp_loopS 155 rfl (fun t ds wr => ∃ (i : Nat) (z d : Int), t 3 = .pointer (some ⟨sb, 0, none⟩) ∧ t 4 = .slice a1 b.length k1 ∧ t 5 = .slice a2 c.length k2 ∧ t 6 = .pointer (some ⟨w4.heap.size, 0, none⟩) ∧ t 7 = .pointer (some ⟨w5.heap.size, 0, none⟩) ∧ t 8 = .int .i64 0 ∧ t 9 = .int .i64 z ∧ t 10 = .int .i64 d ∧ t 11 = .int .i64 i ∧ i ≤ c.length ∧ ds = [] ∧ w6.heap.size ≤ wr.heap.size ∧ DayI ⟨d1, d2⟩ b c lf i z d ∧ Bun w [rseed sb, rbox w5.heap.size 40 #[.int .i64 p1, .int .i64 p2], rbox w4.heap.size 40 #[.int .i64 d1, .int .i64 d2], rsl spEnc 2 w2.heap.size w3.heap.size (.slice a2 c.length k2) c, rsl bnEnc 3 w1.heap.size w2.heap.size (.slice a1 b.length k1) b] wr) (fun t wr => c.length - (intOf (t 11)).toNat) ?atStart1 ?round1
  case round1 =>
    rintro t ds wr ⟨i, z, d, e3, e4, e5, e6, e7, e8, e9, e10, e11, hrel⟩
    have e : ((List.range 155).map t).toArray = #[t 0, t 1, t 2, t 3, t 4, t 5, t 6, t 7, t 8, t 9, t 10, t 11, t 12, t 13, t 14, t 15, t 16, t 17, t 18, t 19, t 20, t 21, t 22, t 23, t 24, t 25, t 26, t 27, t 28, t 29, t 30, t 31, t 32, t 33, t 34, t 35, t 36, t 37, t 38, t 39, t 40, t 41, t 42, t 43, t 44, t 45, t 46, t 47, t 48, t 49, t 50, t 51, t 52, t 53, t 54, t 55, t 56, t 57, t 58, t 59, t 60, t 61, t 62, t 63, t 64, t 65, t 66, t 67, t 68, t 69, t 70, t 71, t 72, t 73, t 74, t 75, t 76, t 77, t 78, t 79, t 80, t 81, t 82, t 83, t 84, t 85, t 86, t 87, t 88, t 89, t 90, t 91, t 92, t 93, t 94, t 95, t 96, t 97, t 98, t 99, t 100, t 101, t 102, t 103, t 104, t 105, t 106, t 107, t 108, t 109, t 110, t 111, t 112, t 113, t 114, t 115, t 116, t 117, t 118, t 119, t 120, t 121, t 122, t 123, t 124, t 125, t 126, t 127, t 128, t 129, t 130, t 131, t 132, t 133, t 134, t 135, t 136, t 137, t 138, t 139, t 140, t 141, t 142, t 143, t 144, t 145, t 146, t 147, t 148, t 149, t 150, t 151, t 152, t 153, t 154] := rfl
    (try dsimp only at e)
    rw [e3, e4, e5, e6, e7, e8, e9, e10, e11] at e
    rw [e]
    simp only [e11]
    clear e e3 e4 e5 e6 e7 e8 e9 e10 e11
    obtain ⟨hi, rfl, hwr, hI, hF⟩ := hrel
    clear F36
    by_cases hlt : i < c.length
    · obtain ⟨y, oy, c4, hy, hy1, hy2, hyc⟩ := Sps.at (hF.at 3 rfl : Sl spEnc 2 w2.heap.size w3.heap.size _ (.slice a2 c.length k2) c) (by omega)
      injection hy with hy _ hyk
      subst hy hyk
      obtain ⟨g1, g2⟩ := hyc i hlt
      have hci := HBI.out.2.2.2.1 i hlt
      have hib := hI.bd
      have HI := Lib.hid hI
      obtain ⟨ci, hci'⟩ : ∃ x, sp c i = x := ⟨_, rfl⟩
      rw [hci'] at g1 g2 hci
      have HCI := Lib.hid hci'
      clear hyc hI hci'
      go_wp2_with fail
      refine (inside_c sb ci.lo ci.hi _ (hF.at 0 rfl) (by omega) (by omega) (by omega) (by omega)).mono ?_
      rintro e w7 ⟨x, rfl, hx, hs38, hg37⟩
      have hx1 : ci.lo ≤ x ∧ x ≤ ci.hi := by
        unfold insideR fromR at hx
        omega
      clear hx g1 g2
      have hg37s := hg37.size
      (try simp at hg37s)
      have F39 : Bun w [rseed sb, rbox w5.heap.size 40 #[.int .i64 p1, .int .i64 p2], rbox w4.heap.size 40 #[.int .i64 d1, .int .i64 d2], rsl spEnc 2 w2.heap.size w3.heap.size (.slice (some ⟨y, oy, none⟩) c.length k2) c, rsl bnEnc 3 w1.heap.size w2.heap.size (.slice a1 b.length k1) b] w7 := hF.seed hg37 hs38
      clear hF
      clear hg37
      go_wp2_with fail
      refine (lburnt_c sb w1.heap.size w2.heap.size _ b x _ ((F39.at 4 rfl : Sl bnEnc 3 w1.heap.size w2.heap.size _ (.slice a1 b.length k1) b)) HBI.out.2.1 (F39.at 0 rfl)).mono ?_
      rintro e w8 ⟨r, rfl, hr, hs41, hg40⟩
      have hg40s := hg40.size
      (try simp at hg40s)
      have F42 : Bun w [rseed sb, rbox w5.heap.size 40 #[.int .i64 p1, .int .i64 p2], rbox w4.heap.size 40 #[.int .i64 d1, .int .i64 d2], rsl spEnc 2 w2.heap.size w3.heap.size (.slice (some ⟨y, oy, none⟩) c.length k2) c, rsl bnEnc 3 w1.heap.size w2.heap.size (.slice a1 b.length k1) b] w8 := F39.seed hg40 hs41
      clear F39
      clear hg40
      have hpl := pl_lt (l := b) x HBI.out.2.1.n0
      have hone := (HBI.out.2.2.2.2 (pl b x) hpl).2
      have hbr := brn_has (l := b) hx1.1 hx1.2
      have hr1 : ((brn b ci).lo ≤ r ∧ r ≤ (brn b ci).hi) ∧ 0 ≤ r ∧ r ≤ 60 := by
        unfold insideR fromR at hr
        omega
      clear hr hone hbr hpl
      have hzr : IntKind.i64.wrap (z - r) = z - r := IntWalk.i64_in _ (by omega)
      have HR := Lib.hid hr1
      have hrb := hr1.2
      clear hr1
      by_cases h0 : 0 ≤ z - r
      · go_wp2_with fail
        exact ⟨rfl, ⟨i + 1, z - r, (i + 1 : Nat), rfl, rfl, rfl, rfl, rfl, rfl, rfl, (by show Value.int .i64 ((i : Int) + 1) = _; simp), (by show Value.int .i64 ((i : Int) + 1) = _; simp), by omega, (by simp), by omega, by have h := HI.out.yes (r := r) hlf1.1 hlf1.2 (by rw [HCI.out]; exact HR.out.1) HR.out.2 (by omega); exact h, by simpa using F42⟩, by simp [slot, intOf]; omega⟩
      · go_wp2_with fail
        exact ⟨rfl, ⟨i + 1, z - r, d, rfl, rfl, rfl, rfl, rfl, rfl, rfl, rfl, (by show Value.int .i64 ((i : Int) + 1) = _; simp), by omega, (by simp), by omega, by have h := HI.out.no (r := r) hlf1.1 hlf1.2 (by rw [HCI.out]; exact HR.out.1) HR.out.2 (by omega); exact h, by simpa using F42⟩, by simp [slot, intOf]; omega⟩
    · obtain rfl : i = c.length := by omega
      have HI := Lib.hid (And.intro hI.dl (And.intro hI.dh hlt))
      clear hI
      go_wp2_with fail
      obtain ⟨w9, rfl⟩ : ∃ w9 : World, w9 = wr := ⟨_, rfl⟩
      have hnil : Bun w [rown spEnc 40 2 w9.heap.size (.slice none 0 0) [], rseed sb, rbox w5.heap.size 40 #[.int .i64 p1, .int .i64 p2], rbox w4.heap.size 40 #[.int .i64 d1, .int .i64 d2], rsl spEnc 2 w2.heap.size w3.heap.size (.slice a2 c.length k2) c, rsl bnEnc 3 w1.heap.size w2.heap.size (.slice a1 b.length k1) b] w9 := hF.add (rown spEnc 40 2 w9.heap.size (.slice none 0 0) []) (gb_refl _ _) (Own.nil _ _ _ _ _) (fun g e => by simp [rown, Value.ownBlock] at e)
      clear hF
      refine wp_loopS 155 rfl (fun t ds wr => ∃ (j : Nat) (v : Value) (l : List Sp), t 3 = .pointer (some ⟨sb, 0, none⟩) ∧ t 4 = .slice a1 b.length k1 ∧ t 5 = .slice a2 c.length k2 ∧ t 6 = .pointer (some ⟨w4.heap.size, 0, none⟩) ∧ t 7 = .pointer (some ⟨w5.heap.size, 0, none⟩) ∧ t 8 = .int .i64 0 ∧ t 10 = .int .i64 d ∧ t 12 = v ∧ t 13 = .int .i64 j ∧ j ≤ c.length ∧ ds = [] ∧ w9.heap.size ≤ wr.heap.size ∧ l.length = j ∧ (∀ i, i < j → ∃ n : Int, 0 ≤ n ∧ n < 100 ∧ sp l i = ⟨(sp c i).lo - n, (sp c i).hi - n⟩) ∧ Bun w [rown spEnc 40 2 w9.heap.size v l, rseed sb, rbox w5.heap.size 40 #[.int .i64 p1, .int .i64 p2], rbox w4.heap.size 40 #[.int .i64 d1, .int .i64 d2], rsl spEnc 2 w2.heap.size w3.heap.size (.slice a2 c.length k2) c, rsl bnEnc 3 w1.heap.size w2.heap.size (.slice a1 b.length k1) b] wr) (fun t wr => c.length - (intOf (t 13)).toNat) ?atStart2 ?round2
      case round2 =>
        rintro t ds wr ⟨j, v, l, e3, e4, e5, e6, e7, e8, e10, e12, e13, hrel⟩
        have e : ((List.range 155).map t).toArray = #[t 0, t 1, t 2, t 3, t 4, t 5, t 6, t 7, t 8, t 9, t 10, t 11, t 12, t 13, t 14, t 15, t 16, t 17, t 18, t 19, t 20, t 21, t 22, t 23, t 24, t 25, t 26, t 27, t 28, t 29, t 30, t 31, t 32, t 33, t 34, t 35, t 36, t 37, t 38, t 39, t 40, t 41, t 42, t 43, t 44, t 45, t 46, t 47, t 48, t 49, t 50, t 51, t 52, t 53, t 54, t 55, t 56, t 57, t 58, t 59, t 60, t 61, t 62, t 63, t 64, t 65, t 66, t 67, t 68, t 69, t 70, t 71, t 72, t 73, t 74, t 75, t 76, t 77, t 78, t 79, t 80, t 81, t 82, t 83, t 84, t 85, t 86, t 87, t 88, t 89, t 90, t 91, t 92, t 93, t 94, t 95, t 96, t 97, t 98, t 99, t 100, t 101, t 102, t 103, t 104, t 105, t 106, t 107, t 108, t 109, t 110, t 111, t 112, t 113, t 114, t 115, t 116, t 117, t 118, t 119, t 120, t 121, t 122, t 123, t 124, t 125, t 126, t 127, t 128, t 129, t 130, t 131, t 132, t 133, t 134, t 135, t 136, t 137, t 138, t 139, t 140, t 141, t 142, t 143, t 144, t 145, t 146, t 147, t 148, t 149, t 150, t 151, t 152, t 153, t 154] := rfl
        (try dsimp only at e)
        rw [e3, e4, e5, e6, e7, e8, e10, e12, e13] at e
        rw [e]
        simp only [e13]
        clear e e3 e4 e5 e6 e7 e8 e10 e12 e13
        clear hnil
        obtain ⟨hj, rfl, hwr2, hlj, hln, hF⟩ := hrel
        by_cases hlt2 : j < c.length
        · obtain ⟨y, oy, c4, hy, hy1, hy2, hyc⟩ := Sps.at (hF.at 4 rfl : Sl spEnc 2 w2.heap.size w3.heap.size _ (.slice a2 c.length k2) c) (by omega)
          injection hy with hy _ hyk
          subst hy hyk
          have hci := HBI.out.2.2.2.1 j hlt2
          obtain ⟨g1, g2⟩ := hyc j hlt2
          have HL := Lib.hid hln
          have HJ := Lib.hid hlj
          obtain ⟨ci, hci'⟩ : ∃ x, sp c j = x := ⟨_, rfl⟩
          rw [hci'] at g1 g2 hci
          have HCI := Lib.hid hci'
          clear hyc hln hci' hlj g1 g2
          have hvl := Own.lt (hF.at 0 rfl : Own spEnc 40 2 w9.heap.size _ v l)
          have F43 : Bun w [rseed sb, rown spEnc 40 2 w9.heap.size v l, rbox w5.heap.size 40 #[.int .i64 p1, .int .i64 p2], rbox w4.heap.size 40 #[.int .i64 d1, .int .i64 d2], rsl spEnc 2 w2.heap.size w3.heap.size (.slice (some ⟨y, oy, none⟩) c.length k2) c, rsl bnEnc 3 w1.heap.size w2.heap.size (.slice a1 b.length k1) b] _ := hF.front 1 rfl rfl
          clear hF
          go_wp2_with fail
          refine (below_c sb 100 _ (F43.at 0 rfl) (by omega) (by omega)).mono ?_
          rintro e w10 ⟨n, rfl, ⟨hn1, hn2⟩, hs45, hg44⟩
          have hg44s := hg44.size
          (try simp at hg44s)
          have F46 : Bun w [rseed sb, rown spEnc 40 2 w9.heap.size v l, rbox w5.heap.size 40 #[.int .i64 p1, .int .i64 p2], rbox w4.heap.size 40 #[.int .i64 d1, .int .i64 d2], rsl spEnc 2 w2.heap.size w3.heap.size (.slice (some ⟨y, oy, none⟩) c.length k2) c, rsl bnEnc 3 w1.heap.size w2.heap.size (.slice a1 b.length k1) b] w10 := F43.seed hg44 hs45
          clear F43
          clear hg44
          obtain ⟨g1, g2⟩ := Sps.cell' ((F46.at 4 rfl : Sl spEnc 2 w2.heap.size w3.heap.size _ (.slice (some ⟨y, oy, none⟩) c.length k2) c)) hlt2
          rw [HCI.out] at g1 g2
          have e1 : IntKind.i64.wrap (ci.lo - n) = ci.lo - n := IntWalk.i64_in _ (by omega)
          have e2 : IntKind.i64.wrap (ci.hi - n) = ci.hi - n := IntWalk.i64_in _ (by omega)
          go_wp2_with fail
          have FD := F46.drew
          go_region_held3 (fun W => W.cell? ⟨y, oy + j * 2, none⟩ = some (.int .i64 ci.lo) ∧ W.cell? ⟨y, oy + j * 2 + 1, none⟩ = some (.int .i64 ci.hi)) (go_keep)
            (first
            | (go_at_call 37; refine (span_c _ _ _).mono ?_; rintro e w11 ⟨rfl, hg11⟩; have r0 : w11.cell? ⟨y, oy + j * 2, none⟩ = some (.int .i64 ci.lo) := gbc hg11 (by simp) g1; have r1 : w11.cell? ⟨y, oy + j * 2 + 1, none⟩ = some (.int .i64 ci.hi) := gbc hg11 (by simp) g2; have G1 := FD.gn hg11; have z1 := hg11.size; (try simp at z1))
            | (refine step_app _ okSp rfl _ _ rfl w9.heap.size v l [(⟨ci.lo - n, ci.hi - n⟩ : Sp)] rfl (by exact ((G1.at 1 rfl : Own spEnc 40 2 w9.heap.size _ v l)).alloc _) ⟨_, 0, none⟩ 1 1 rfl rfl (by decide) (news_of (Bk.newAt w11 _ #[.int .i64 (ci.lo - n), .int .i64 (ci.hi - n)] (n := w11.heap.size) rfl)) (j + 1) (by have := HJ.out; simp; omega) (by omega) (by simp; omega) _ rfl ?_; intro g cap w12 hp; have r0' : w12.cell? ⟨y, oy + j * 2, none⟩ = some (.int .i64 ci.lo) := gbc hp.gb (by have := hvl y; simp; intro e; have := this e.symm; omega) (alc _ r0); have r1' : w12.cell? ⟨y, oy + j * 2 + 1, none⟩ = some (.int .i64 ci.hi) := gbc hp.gb (by have := hvl y; simp; intro e; have := this e.symm; omega) (alc _ r1); have z2 := hp.gb.size; (try simp at z2); have G2 := ((G1.alloc (.cells #[.int .i64 (ci.lo - n), .int .i64 (ci.hi - n)] 40)).front 1 rfl rfl).app hp (by simp)))
          go_wp2_with fail
          have G3 := (G2.front 0 rfl rfl)
          exact ⟨rfl, ⟨j + 1, _, l ++ [⟨ci.lo - n, ci.hi - n⟩], rfl, rfl, rfl, rfl, rfl, rfl, rfl, rfl, (by show Value.int .i64 ((j : Int) + 1) = _; simp), by omega, (by simp), by omega, by simpa using HJ.out, (fun i hi => by
            rw [sp_app (by have := HJ.out; omega)]
            split
            · rename_i h; exact HL.out i (by have := HJ.out; omega)
            · have : i = j := by have := HJ.out; omega
              subst this
              rw [HCI.out]
              exact ⟨n, hn1, by omega, rfl⟩), by exact G2⟩, by simp [slot, intOf]; omega⟩
        · obtain rfl : j = c.length := by omega
          have hss := ((hF.at 0 rfl : Own spEnc 40 2 w9.heap.size _ v l)).sl (fun _ => rfl)
          have hnl : l.length = c.length := hlj
          have hle : ∀ i, i < c.length → ((sp c i).lo ≤ (sp c i).hi ∧ (sp l i).lo ≤ (sp l i).hi) ∧ (sp l i).lo ≤ (sp c i).lo ∧ (sp l i).hi ≤ (sp c i).hi := fun i hi => by
            have h1 := HBI.out.2.2.2.1 i hi
            obtain ⟨n, h2, h3, h4⟩ := hln i hi
            rw [h4]
            simp only
            omega
          have hlb : ∀ i, i < l.length → -1000 ≤ (sp l i).lo ∧ (sp l i).lo ≤ (sp l i).hi ∧ (sp l i).hi ≤ 1000 := fun i hi => by
            have h1 := HBI.out.2.2.2.1 i (by omega)
            obtain ⟨n, h2, h3, h4⟩ := hln i (by omega)
            rw [h4]
            simp only
            omega
          have HS := Lib.hid (dayS_less HBI.out.1 HBI.out.2.1.n0 (c := c) (c' := l))
          have HLE := Lib.hid hle
          have HLB := Lib.hid hlb
          have HNL := Lib.hid hnl
          have hl12 : l.length ≤ 12 := by omega
          clear hln hle hlb hnl hlj hss hj hlt2
          have F47 : Bun w [rseed sb, rown spEnc 40 2 w9.heap.size v l, rbox w5.heap.size 40 #[.int .i64 p1, .int .i64 p2], rbox w4.heap.size 40 #[.int .i64 d1, .int .i64 d2], rsl spEnc 2 w2.heap.size w3.heap.size (.slice a2 c.length k2) c, rsl bnEnc 3 w1.heap.size w2.heap.size (.slice a1 b.length k1) b] _ := hF.front 1 rfl rfl
          clear hF
          go_wp2_with fail
          refine (below_c sb 50 _ (F47.at 0 rfl) (by omega) (by omega)).mono ?_
          rintro e w13 ⟨y, rfl, ⟨hy1, hy2⟩, hs49, hg48⟩
          have hg48s := hg48.size
          (try simp at hg48s)
          have F50 : Bun w [rseed sb, rown spEnc 40 2 w9.heap.size v l, rbox w5.heap.size 40 #[.int .i64 p1, .int .i64 p2], rbox w4.heap.size 40 #[.int .i64 d1, .int .i64 d2], rsl spEnc 2 w2.heap.size w3.heap.size (.slice a2 c.length k2) c, rsl bnEnc 3 w1.heap.size w2.heap.size (.slice a1 b.length k1) b] w13 := F47.seed hg48 hs49
          clear F47
          clear hg48
          have b51 : Bk _ w4.heap.size 40 #[.int .i64 d1, .int .i64 d2] := F50.at 3 rfl
          have l52 := b51.lt
          have q53 : World.cell? _ ⟨w4.heap.size, 0, none⟩ = some (.int .i64 d1) := b51.cell 0
          have z54 := b51.frozen 0
          have q55 : World.cell? _ ⟨w4.heap.size, 1, none⟩ = some (.int .i64 d2) := b51.cell 1
          have z56 := b51.frozen 1
          go_wp2_with fail
          refine (span_c _ _ _).mono ?_
          rintro e w14 ⟨rfl, hg57⟩
          have hg57s := hg57.size
          (try simp at hg57s)
          clear b51 l52 q53 z54 q55 z56
          have F59 : Bun w [rseed sb, rown spEnc 40 2 w9.heap.size v l, rbox w5.heap.size 40 #[.int .i64 p1, .int .i64 p2], rbox w4.heap.size 40 #[.int .i64 d1, .int .i64 d2], rsl spEnc 2 w2.heap.size w3.heap.size (.slice a2 c.length k2) c, rsl bnEnc 3 w1.heap.size w2.heap.size (.slice a1 b.length k1) b] w14 := F50.gn hg57
          clear F50
          clear hg57
          have HV2 := Lib.hid (lastsV_ok (s := ⟨d1 + y, d2 + y⟩) (b := b) (c := c) (lastsE_zero ⟨by show 0 ≤ d1 + y; omega, by show d1 + y ≤ d2 + y; omega, by show d2 + y ≤ _; omega⟩ HBI.out.2.1 (by omega) (fun i hi => by have := HBI.out.2.2.2.1 i hi; omega)))
          have hm2 := dayO_mono (s := ⟨d1, d2⟩) (s' := ⟨d1 + y, d2 + y⟩) (b := b) (c := c) (c' := c) (by show d1 ≤ d1 + y; omega) (by show d2 ≤ d2 + y; omega) c.length (fun k _ => ⟨Int.le_refl _, Int.le_refl _⟩)
          obtain ⟨q1, hq1⟩ : ∃ z, (dayO ⟨d1 + y, d2 + y⟩ b c c.length).lo = z := ⟨_, rfl⟩
          obtain ⟨q2, hq2⟩ : ∃ z, (dayO ⟨d1 + y, d2 + y⟩ b c c.length).hi = z := ⟨_, rfl⟩
          rw [hq1, hq2] at HV2
          rw [hq1, hq2, HP.out.1, HP.out.2] at hm2
          have hm21 : p1 ≤ q1 := hm2.1
          have hm22 : p2 ≤ q2 := hm2.2
          clear hq1 hq2 hm2
          go_wp2_with fail
          refine (lasts_c w1.heap.size w2.heap.size w2.heap.size w3.heap.size _ _ ⟨d1 + y, d2 + y⟩ b c _ ((F59.at 5 rfl : Sl bnEnc 3 w1.heap.size w2.heap.size _ (.slice a1 b.length k1) b)) ((F59.at 4 rfl : Sl spEnc 2 w2.heap.size w3.heap.size _ (.slice a2 c.length k2) c)) HBI.out.2.2.1 (by first | omega | (simp; omega)) (by first | omega | (simp; omega))).mono ?_
          rintro e w15 ⟨rfl, hg60⟩
          have hg60s := hg60.size
          (try simp at hg60s)
          have F62 : Bun w [rseed sb, rown spEnc 40 2 w9.heap.size v l, rbox w5.heap.size 40 #[.int .i64 p1, .int .i64 p2], rbox w4.heap.size 40 #[.int .i64 d1, .int .i64 d2], rsl spEnc 2 w2.heap.size w3.heap.size (.slice a2 c.length k2) c, rsl bnEnc 3 w1.heap.size w2.heap.size (.slice a1 b.length k1) b] w15 := F59.gn hg60
          clear F59
          clear hg60
          rw [HV2.out]
          have F63 : Bun w [rbox w15.heap.size 40 #[.int .i64 q1, .int .i64 q2], rseed sb, rown spEnc 40 2 w9.heap.size v l, rbox w5.heap.size 40 #[.int .i64 p1, .int .i64 p2], rbox w4.heap.size 40 #[.int .i64 d1, .int .i64 d2], rsl spEnc 2 w2.heap.size w3.heap.size (.slice a2 c.length k2) c, rsl bnEnc 3 w1.heap.size w2.heap.size (.slice a1 b.length k1) b] _ := F62.new 40 #[.int .i64 q1, .int .i64 q2] (n := w15.heap.size) (by simp)
          clear F62
          have b64 : Bk _ w4.heap.size 40 #[.int .i64 d1, .int .i64 d2] := F63.at 4 rfl
          have l65 := b64.lt
          have q66 : World.cell? _ ⟨w4.heap.size, 0, none⟩ = some (.int .i64 d1) := b64.cell 0
          have z67 := b64.frozen 0
          have q68 : World.cell? _ ⟨w4.heap.size, 1, none⟩ = some (.int .i64 d2) := b64.cell 1
          have z69 := b64.frozen 1
          have HV3 := Lib.hid (lastsV_ok (s := ⟨d1, d2⟩) (b := b) (c := l) (lastsE_zero ⟨hd1, hd2, by show d2 ≤ _; omega⟩ HBI.out.2.1 (by omega) HLB.out))
          have hm3 := dayO_mono (s := ⟨d1, d2⟩) (s' := ⟨d1, d2⟩) (b := b) (c := c) (c' := l) (Int.le_refl _) (Int.le_refl _) c.length (fun k hk => HS.out k (fun i hi => HLE.out i (by omega)))
          have hnn := HNL.out
          rw [hnn] at HV3
          obtain ⟨s1, hs1⟩ : ∃ z, (dayO ⟨d1, d2⟩ b l c.length).lo = z := ⟨_, rfl⟩
          obtain ⟨s2, hs2⟩ : ∃ z, (dayO ⟨d1, d2⟩ b l c.length).hi = z := ⟨_, rfl⟩
          rw [hs1, hs2] at HV3
          rw [hs1, hs2, HP.out.1, HP.out.2] at hm3
          have hm31 : p1 ≤ s1 := hm3.1
          have hm32 : p2 ≤ s2 := hm3.2
          clear hs1 hs2 hm3 hnn
          go_wp2_with fail
          refine (lasts_c w1.heap.size w2.heap.size w9.heap.size _ _ _ ⟨d1, d2⟩ b l _ ((F63.at 6 rfl : Sl bnEnc 3 w1.heap.size w2.heap.size _ (.slice a1 b.length k1) b)) ((F63.at 2 rfl : Own spEnc 40 2 w9.heap.size _ v l).sl (fun _ => rfl)) HBI.out.2.2.1 (by first | omega | (simp; omega)) (Nat.le_refl _)).mono ?_
          rintro e w16 ⟨rfl, hg70⟩
          have hg70s := hg70.size
          (try simp at hg70s)
          clear b64 l65 q66 z67 q68 z69
          have F72 : Bun w [rbox w15.heap.size 40 #[.int .i64 q1, .int .i64 q2], rseed sb, rown spEnc 40 2 w9.heap.size v l, rbox w5.heap.size 40 #[.int .i64 p1, .int .i64 p2], rbox w4.heap.size 40 #[.int .i64 d1, .int .i64 d2], rsl spEnc 2 w2.heap.size w3.heap.size (.slice a2 c.length k2) c, rsl bnEnc 3 w1.heap.size w2.heap.size (.slice a1 b.length k1) b] w16 := F63.gn hg70
          clear F63
          clear hg70
          rw [HV3.out]
          have F73 : Bun w [rbox w16.heap.size 40 #[.int .i64 s1, .int .i64 s2], rbox w15.heap.size 40 #[.int .i64 q1, .int .i64 q2], rseed sb, rown spEnc 40 2 w9.heap.size v l, rbox w5.heap.size 40 #[.int .i64 p1, .int .i64 p2], rbox w4.heap.size 40 #[.int .i64 d1, .int .i64 d2], rsl spEnc 2 w2.heap.size w3.heap.size (.slice a2 c.length k2) c, rsl bnEnc 3 w1.heap.size w2.heap.size (.slice a1 b.length k1) b] _ := F72.new 40 #[.int .i64 s1, .int .i64 s2] (n := w16.heap.size) (by simp)
          clear F72
          have hi1 : p1 ≤ d := by rw [← HP.out.1]; exact HI.out.1
          have hi2 : d ≤ p2 := by rw [← HP.out.2]; exact HI.out.2.1
          have b74 : Bk _ w5.heap.size 40 #[.int .i64 p1, .int .i64 p2] := F73.at 4 rfl
          have l75 := b74.lt
          have q76 : World.cell? _ ⟨w5.heap.size, 0, none⟩ = some (.int .i64 p1) := b74.cell 0
          have z77 := b74.frozen 0
          have q78 : World.cell? _ ⟨w5.heap.size, 1, none⟩ = some (.int .i64 p2) := b74.cell 1
          have z79 := b74.frozen 1
          have b80 : Bk _ w15.heap.size 40 #[.int .i64 q1, .int .i64 q2] := F73.at 1 rfl
          have l81 := b80.lt
          have q82 : World.cell? _ ⟨w15.heap.size, 0, none⟩ = some (.int .i64 q1) := b80.cell 0
          have z83 := b80.frozen 0
          have q84 : World.cell? _ ⟨w15.heap.size, 1, none⟩ = some (.int .i64 q2) := b80.cell 1
          have z85 := b80.frozen 1
          have b86 : Bk _ w16.heap.size 40 #[.int .i64 s1, .int .i64 s2] := F73.at 0 rfl
          have l87 := b86.lt
          have q88 : World.cell? _ ⟨w16.heap.size, 0, none⟩ = some (.int .i64 s1) := b86.cell 0
          have z89 := b86.frozen 0
          have q90 : World.cell? _ ⟨w16.heap.size, 1, none⟩ = some (.int .i64 s2) := b86.cell 1
          have z91 := b86.frozen 1
          go_wp2_with fail
          refine (has_yes p1 p2 d _ hi1 hi2).mono ?_
          rintro e w17 ⟨rfl, hg92⟩
          have hg92s := hg92.size
          (try simp at hg92s)
          clear b74 l75 q76 z77 q78 z79 b80 l81 q82 z83 q84 z85 b86 l87 q88 z89 q90 z91
          have F94 : Bun w [rbox w16.heap.size 40 #[.int .i64 s1, .int .i64 s2], rbox w15.heap.size 40 #[.int .i64 q1, .int .i64 q2], rseed sb, rown spEnc 40 2 w9.heap.size v l, rbox w5.heap.size 40 #[.int .i64 p1, .int .i64 p2], rbox w4.heap.size 40 #[.int .i64 d1, .int .i64 d2], rsl spEnc 2 w2.heap.size w3.heap.size (.slice a2 c.length k2) c, rsl bnEnc 3 w1.heap.size w2.heap.size (.slice a1 b.length k1) b] w17 := F73.gn hg92
          clear F73
          clear hg92
          have b95 : Bk _ w5.heap.size 40 #[.int .i64 p1, .int .i64 p2] := F94.at 4 rfl
          have l96 := b95.lt
          have q97 : World.cell? _ ⟨w5.heap.size, 0, none⟩ = some (.int .i64 p1) := b95.cell 0
          have z98 := b95.frozen 0
          have q99 : World.cell? _ ⟨w5.heap.size, 1, none⟩ = some (.int .i64 p2) := b95.cell 1
          have z100 := b95.frozen 1
          have b101 : Bk _ w15.heap.size 40 #[.int .i64 q1, .int .i64 q2] := F94.at 1 rfl
          have l102 := b101.lt
          have q103 : World.cell? _ ⟨w15.heap.size, 0, none⟩ = some (.int .i64 q1) := b101.cell 0
          have z104 := b101.frozen 0
          have q105 : World.cell? _ ⟨w15.heap.size, 1, none⟩ = some (.int .i64 q2) := b101.cell 1
          have z106 := b101.frozen 1
          have b107 : Bk _ w16.heap.size 40 #[.int .i64 s1, .int .i64 s2] := F94.at 0 rfl
          have l108 := b107.lt
          have q109 : World.cell? _ ⟨w16.heap.size, 0, none⟩ = some (.int .i64 s1) := b107.cell 0
          have z110 := b107.frozen 0
          have q111 : World.cell? _ ⟨w16.heap.size, 1, none⟩ = some (.int .i64 s2) := b107.cell 1
          have z112 := b107.frozen 1
          go_wp2_with fail
          refine (awake_c _).mono ?_
          rintro e w18 ⟨rfl, hg113⟩
          have hg113s := hg113.size
          (try simp at hg113s)
          clear b95 l96 q97 z98 q99 z100 b101 l102 q103 z104 q105 z106 b107 l108 q109 z110 q111 z112
          have F115 : Bun w [rbox w16.heap.size 40 #[.int .i64 s1, .int .i64 s2], rbox w15.heap.size 40 #[.int .i64 q1, .int .i64 q2], rseed sb, rown spEnc 40 2 w9.heap.size v l, rbox w5.heap.size 40 #[.int .i64 p1, .int .i64 p2], rbox w4.heap.size 40 #[.int .i64 d1, .int .i64 d2], rsl spEnc 2 w2.heap.size w3.heap.size (.slice a2 c.length k2) c, rsl bnEnc 3 w1.heap.size w2.heap.size (.slice a1 b.length k1) b] w18 := F94.gn hg113
          clear F94
          clear hg113
          go_wp2_with fail
          exact bodyPost_ret (v := .bool true) (by simp [results, Try.results11, go_sem]) rfl (⟨rfl, F115.gb⟩)
      case atStart2 =>
        exact ⟨0, _, _, rfl, rfl, rfl, rfl, rfl, rfl, rfl, rfl, rfl, Nat.zero_le _, rfl, Nat.le_refl _, rfl, (fun i h => by omega), hnil⟩
  case atStart1 =>
    exact ⟨0, _, _, rfl, rfl, rfl, rfl, rfl, rfl, rfl, rfl, rfl, Nat.zero_le _, rfl, Nat.le_refl _, DayI.start _ _ _ _, F36⟩
end Go.Proofs.Ytfifldbinnkdmaa
