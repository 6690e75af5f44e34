/- The statement FuelDips: the walk. -/
import Derived.Test.YtfifldbinnkdmaaWake
import Derived.Test.YtfifldbinnkdmaaPDips
import Derived.Test.YtfifldbinnkdmaaSeed3
import Derived.Test.YtfifldbinnkdmaaFrame
import Derived.Test.YtfifldbinnkdmaaOpen
import Derived.Deep.RegionHeld3
import Derived.Deep.QuietTactic
import Derived.BigQuiet
namespace Go.Proofs.Ytfifldbinnkdmaa
open Go.RowKit Go.Shelf
set_option maxRecDepth 100000
attribute [local go_sem] run_store_func

theorem in_yes (a b c d : Int) (w : World) (h1 : c ≤ a) (h2 : b ≤ d) : Calls Try.prog 38 #[.agg #[.int .i64 a, .int .i64 b], .agg #[.int .i64 c, .int .i64 d]] w (Ret (.bool true) w) := by
  go_enter Try.func38, Try.ntmps38
  go_wp2_with fail
  go_ret
  exact ⟨rfl, gb_alloc (gb_alloc (gb_refl _ _) _) _⟩
theorem stdV_ok {a b c d e f : Int} (h : stdErr a b c d e f = 0) : stdV a b c d e f = .tuple #[.agg #[.int .i64 (stdLo a c d e f), .int .i64 (stdHi b c d e f)], .int .i64 0] := by rw [stdV, if_pos h]
theorem spanErr_zero {a b lo hi : Int} (h1 : lo ≤ a) (h2 : a ≤ b) (h3 : b ≤ hi) : spanErr a b lo hi = 0 := by
  unfold spanErr
  rw [inB_mk h1 (by omega), inB_mk (by omega) h3]
  simp
  omega
theorem volErr_zero {hs ls : List Int} (ok : tankErr hs ls = 0) {a b : Int} (h1 : gi hs 0 ≤ a) (h2 : a ≤ b) (h3 : b ≤ gi hs (hs.length - 1)) : volErr hs ls a b = 0 := by
  rw [volErr, if_pos ok]; exact spanErr_zero h1 h2 h3
theorem stdErr_zero {a b c d e f : Int} (h : 0 ≤ a ∧ a ≤ b ∧ b ≤ 1000000000) (h' : 0 ≤ c ∧ c ≤ d ∧ d ≤ 200) (h'' : -1000 ≤ e ∧ e ≤ f ∧ f ≤ 1000) : stdErr a b c d e f = 0 := by
  rw [stdErr, if_pos (spanErr_zero h.1 h.2.1 h.2.2), if_pos (spanErr_zero h'.1 h'.2.1 h'.2.2)]
  exact spanErr_zero h''.1 h''.2.1 h''.2.2
/-- What the statement has in hand: the tank's rows. -/
def dipsE (lo hi : Nat) (vh vl : Value) (hs ls : List Int) (W : World) : Prop := Ints lo hi W vh hs ∧ Ints lo hi W vl ls ∧ hi ≤ W.heap.size
theorem dipsE_mono {lo hi : Nat} {vh vl : Value} {hs ls : List Int} (A B : World) (r : Option Nat) (hg : A.grownBy B r) (hr : ∀ g, r = some g → ¬ (lo ≤ g ∧ g < hi)) (h : dipsE lo hi vh vl hs ls A) : dipsE lo hi vh vl hs ls B :=
  ⟨Sl.mono' A B r hg hr h.1, Sl.mono' A B r hg hr h.2.1, Nat.le_trans h.2.2 hg.size⟩

set_option maxHeartbeats 8000000 in
theorem dips_walk (vn : Value) (zs : List Int) (w : World) (hz : Ints 0 w.heap.size w vn zs) :
    Calls Try.prog 5 #[vn] w (Ret (.bool true) w) := by
  obtain ⟨an, cn, en⟩ := hz.any
  have HZ := Lib.hid hz
  have hvn : ∃ a n c, vn = .slice a n c := ⟨_, _, _, en⟩
  clear hz en
  obtain ⟨an, nn, cn, rfl⟩ := hvn
  go_enter Try.func5, Try.ntmps5
  go_wp2_with fail
  refine (newSeed_c _ _ _ _ _ HZ.out).mono ?_
  rintro e w1 ⟨sb, rfl, hsb, hsd, hg1⟩
  have hsl := hsd.lt
  go_wp2_with fail
  refine (tankOf_c sb _ hsd).mono ?_
  rintro e w2 ⟨v2, rfl, ⟨vh, vl, hs, ls, n, rfl, hh, hl, hT, hn2⟩, hsd2, hg2⟩
  have hT1 := hT.1
  have hT2 := hT.2.1
  have hT6 := hT.2.2.2.1
  have hTb := hT.2.2.2.2.1
  have hTs := hT.2.2.2.2.2
  have ok := hT.err hn2
  have hz2 := hg2.size
  have F0 : SF w (some sb) (fun g => w1.heap.size ≤ g ∧ g < w2.heap.size) (dipsE w1.heap.size w2.heap.size vh vl hs ls) [] w2 :=
    ⟨fun s e => by cases e; exact ⟨hsd2, hsb, by omega⟩, fun b hb => (by cases hb), List.nodup_nil, ⟨hh, hl, Nat.le_refl _⟩, dipsE_mono, fun g hx => hx.2, gb_trans' hg1 hg2 (fun g e => by cases e; exact .inr hsb)⟩
  obtain ⟨x, ox, c3, rfl, hx1, hx2, hxc⟩ := hh.at (by omega)
  obtain ⟨y, oy, c4, rfl, hy1, hy2, hyc⟩ := hl.at (by omega)
  have HXC := Lib.hid (And.intro hxc hyc)
  have x0 : w2.cell? ⟨x, ox, none⟩ = some (.int .i64 (gi hs 0)) := by have := hxc 0 (by omega); simpa using this
  have xn := hxc (hs.length - 1) (by omega)
  have OK := Lib.hid ok
  have HTB := Lib.hid hTb
  have hlast := hTb (n - 1) (by omega)
  have hfirst := hTb 0 (by omega)
  have hmono : gi hs 0 ≤ gi hs (n - 1) := by
    have := inc_of_step (l := hs) (fun i h1 h2 => Int.le_of_lt (hTs i h1 (by omega)).1) 0 (n - 1) (by omega) (by omega)
    exact this
  rw [← hT1] at hlast hmono
  have p9 : hs.length ≤ 6 := by omega
  have p1 : (0 : Int) ≤ (hs.length : Int) - 1 := by omega
  have p2 : (hs.length : Int) - 1 < (hs.length : Int) := by omega
  have p3 : ((hs.length : Int) - 1).toNat = hs.length - 1 := by omega
  have p4 : IntKind.i64.wrap ((hs.length : Int) - 1) = (hs.length : Int) - 1 := IntWalk.i64_in _ (by omega)
  have p5 : (1 : Int) ≤ (hs.length : Int) := by omega
  have p6 : 1 ≤ hs.length := by omega
  have p7 : (0 : Int) < (hs.length : Int) := by omega
  have p8 : 0 < hs.length := by omega
  have HTL := Lib.hid (And.intro hT1 hT2)
  clear hsd hsd2 hg1 hg2 hh hl hxc hyc hTs hTb ok hT1 hT2
  have F1 := F0.newAt 51 #[.slice (some ⟨x, ox, none⟩) hs.length c3, .slice (some ⟨y, oy, none⟩) ls.length c4] (n := w2.heap.size) (by simp)
  clear F0
  have q2 := (F1.get (.head _)).c2
  have l3 := (F1.get (.head _)).lt
  go_wp2_with fail
  go_quiet (fail)
  have F2 := F1.drewN nq
  clear F1
  clear q2 l3
  have q6 := (F2.get (.head _)).c2
  have l7 := (F2.get (.head _)).lt
  clear x0 xn p1 p2 p3 p4 p5 p6 p7 p8
  go_wp2_with fail
  refine (spanOf_c sb (gi hs 0) (gi hs (hs.length - 1)) _ (F2.sd) (by omega) (by omega) (by omega)).mono ?_
  rintro e w10 ⟨v, rfl, ⟨d1, d2, rfl, hd1, hd2, hd3⟩, hs9, hg8⟩
  clear q6 l7
  have F11 := F2.go hg8 hs9
  clear hg8
  clear F2
  have F12 := F11.newAt 40 #[.int .i64 d1, .int .i64 d2] (n := w10.heap.size) (by simp)
  clear F11
  have q13 := (F12.get (.head _)).c2
  have l14 := (F12.get (.head _)).lt
  go_wp2_with fail
  refine (inside_c sb d1 d2 _ (F12.sd) (by omega) (by omega) (by omega) (by omega)).mono ?_
  rintro e w17 ⟨tr, rfl, htr, hs16, hg15⟩
  have htr1 : d1 ≤ tr ∧ tr ≤ d2 := by
    unfold insideR fromR at htr
    omega
  clear htr
  clear q13 l14
  have F18 := F12.go hg15 hs16
  clear hg15
  clear F12
  have q19 := (F18.get (.tail _ (.head _))).c2
  have l20 := (F18.get (.tail _ (.head _))).lt
  have q21 := (F18.get (.head _)).c2
  have l22 := (F18.get (.head _)).lt
  have HV1 := Lib.hid (volV_ok (volErr_zero OK.out hd1 hd2 hd3))
  go_wp2_with fail
  refine (volume_c w1.heap.size w2.heap.size w1.heap.size w2.heap.size _ _ hs ls d1 d2 _ (F18.ext.1) (F18.ext.2.1) (F18.ext.2.2) (F18.ext.2.2)).mono ?_
  rintro e w25 ⟨rfl, hg23⟩
  clear q19 l20 q21 l22
  have F26 := F18.gn hg23
  clear hg23
  clear F18
  rw [HV1.out]
  have F27 := F26.newAt 40 #[.int .i64 (volLo hs ls d1), .int .i64 (volHi hs ls d2)] (n := w25.heap.size) (by simp)
  clear F26
  have q28 := (F27.get (.tail _ (.tail _ (.head _)))).c2
  have l29 := (F27.get (.tail _ (.tail _ (.head _)))).lt
  have q30 := (F27.get (.tail _ (.head _))).c2
  have l31 := (F27.get (.tail _ (.head _))).lt
  go_wp2_with fail
  clear q28 l29 q30 l31
  generalize (w25.alloc (.cells #[.int .i64 (volLo hs ls d1), .int .i64 (volHi hs ls d2)] 40)) = wT32 at F27 ⊢
  refine wp_cutK 262 (fun t wr => ∃ (g33 : Nat) (p1 p2 : Int), t 3 = .pointer (some ⟨sb, 0, none⟩) ∧ t 4 = .pointer (some ⟨w2.heap.size, 0, none⟩) ∧ t 5 = .int .i64 (gi hs 0) ∧ t 6 = .int .i64 (gi hs (hs.length - 1)) ∧ t 7 = .pointer (some ⟨w10.heap.size, 0, none⟩) ∧ t 8 = .int .i64 tr ∧ t 9 = .pointer (some ⟨w25.heap.size, 0, none⟩) ∧ t 10 = .int .i64 0 ∧ t 11 = .pointer (some ⟨g33, 0, none⟩) ∧ t 12 = .int .i64 0 ∧ (d1 ≤ p1 ∧ p1 ≤ p2 ∧ p2 ≤ d2) ∧ SF w (some sb) (fun g => w1.heap.size ≤ g ∧ g < w2.heap.size) (dipsE w1.heap.size w2.heap.size (.slice (some ⟨x, ox, none⟩) hs.length c3) (.slice (some ⟨y, oy, none⟩) ls.length c4) hs ls) [(g33, 40, #[.int .i64 (volLo hs ls p1), .int .i64 (volHi hs ls p2)]), (w25.heap.size, 40, #[.int .i64 (volLo hs ls d1), .int .i64 (volHi hs ls d2)]), (w10.heap.size, 40, #[.int .i64 d1, .int .i64 d2]), (w2.heap.size, 51, #[.slice (some ⟨x, ox, none⟩) hs.length c3, .slice (some ⟨y, oy, none⟩) ls.length c4])] wr) ?first1 ?rest1
  case rest1 =>
    rintro t wr ⟨g33, p1, p2, e3, e4, e5, e6, e7, e8, e9, e10, e11, e12, hrel⟩
    have e : ((List.range 262).map t).toArray = #[t 0, t 1, t 2, t 3, t 4, t 5, t 6, t 7, t 8, t 9, t 10, t 11, t 12, t 13, t 14, t 15, t 16, t 17, t 18, t 19, t 20, t 21, t 22, t 23, t 24, t 25, t 26, t 27, t 28, t 29, t 30, t 31, t 32, t 33, t 34, t 35, t 36, t 37, t 38, t 39, t 40, t 41, t 42, t 43, t 44, t 45, t 46, t 47, t 48, t 49, t 50, t 51, t 52, t 53, t 54, t 55, t 56, t 57, t 58, t 59, t 60, t 61, t 62, t 63, t 64, t 65, t 66, t 67, t 68, t 69, t 70, t 71, t 72, t 73, t 74, t 75, t 76, t 77, t 78, t 79, t 80, t 81, t 82, t 83, t 84, t 85, t 86, t 87, t 88, t 89, t 90, t 91, t 92, t 93, t 94, t 95, t 96, t 97, t 98, t 99, t 100, t 101, t 102, t 103, t 104, t 105, t 106, t 107, t 108, t 109, t 110, t 111, t 112, t 113, t 114, t 115, t 116, t 117, t 118, t 119, t 120, t 121, t 122, t 123, t 124, t 125, t 126, t 127, t 128, t 129, t 130, t 131, t 132, t 133, t 134, t 135, t 136, t 137, t 138, t 139, t 140, t 141, t 142, t 143, t 144, t 145, t 146, t 147, t 148, t 149, t 150, t 151, t 152, t 153, t 154, t 155, t 156, t 157, t 158, t 159, t 160, t 161, t 162, t 163, t 164, t 165, t 166, t 167, t 168, t 169, t 170, t 171, t 172, t 173, t 174, t 175, t 176, t 177, t 178, t 179, t 180, t 181, t 182, t 183, t 184, t 185, t 186, t 187, t 188, t 189, t 190, t 191, t 192, t 193, t 194, t 195, t 196, t 197, t 198, t 199, t 200, t 201, t 202, t 203, t 204, t 205, t 206, t 207, t 208, t 209, t 210, t 211, t 212, t 213, t 214, t 215, t 216, t 217, t 218, t 219, t 220, t 221, t 222, t 223, t 224, t 225, t 226, t 227, t 228, t 229, t 230, t 231, t 232, t 233, t 234, t 235, t 236, t 237, t 238, t 239, t 240, t 241, t 242, t 243, t 244, t 245, t 246, t 247, t 248, t 249, t 250, t 251, t 252, t 253, t 254, t 255, t 256, t 257, t 258, t 259, t 260, t 261] := rfl
    (try dsimp only at e)
    rw [e3, e4, e5, e6, e7, e8, e9, e10, e11, e12] at e
    rw [e]
    clear e e3 e4 e5 e6 e7 e8 e9 e10 e11 e12
    obtain ⟨⟨hp1, hp2, hp3⟩, F34⟩ := hrel
    have q35 := (F34.get (.tail _ (.tail _ (.tail _ (.head _))))).c2
    have l36 := (F34.get (.tail _ (.tail _ (.tail _ (.head _))))).lt
    go_wp2_with fail
    clear q35 l36
    obtain ⟨wT37, rfl⟩ : ∃ wT37 : World, wT37 = wr := ⟨_, rfl⟩
    refine wp_cutK 262 (fun t wr => ∃ (g38 : Nat), t 3 = .pointer (some ⟨sb, 0, none⟩) ∧ t 4 = .pointer (some ⟨w2.heap.size, 0, none⟩) ∧ t 5 = .int .i64 (gi hs 0) ∧ t 6 = .int .i64 (gi hs (hs.length - 1)) ∧ t 7 = .pointer (some ⟨w10.heap.size, 0, none⟩) ∧ t 8 = .int .i64 tr ∧ t 9 = .pointer (some ⟨w25.heap.size, 0, none⟩) ∧ t 10 = .int .i64 0 ∧ t 11 = .pointer (some ⟨g33, 0, none⟩) ∧ t 12 = .int .i64 0 ∧ t 13 = .pointer (some ⟨g38, 0, none⟩) ∧ t 14 = .int .i64 0 ∧ SF w (some sb) (fun g => w1.heap.size ≤ g ∧ g < w2.heap.size) (dipsE w1.heap.size w2.heap.size (.slice (some ⟨x, ox, none⟩) hs.length c3) (.slice (some ⟨y, oy, none⟩) ls.length c4) hs ls) [(g38, 40, #[.int .i64 (volLo hs ls tr), .int .i64 (volHi hs ls tr)]), (g33, 40, #[.int .i64 (volLo hs ls p1), .int .i64 (volHi hs ls p2)]), (w25.heap.size, 40, #[.int .i64 (volLo hs ls d1), .int .i64 (volHi hs ls d2)]), (w10.heap.size, 40, #[.int .i64 d1, .int .i64 d2]), (w2.heap.size, 51, #[.slice (some ⟨x, ox, none⟩) hs.length c3, .slice (some ⟨y, oy, none⟩) ls.length c4])] wr) ?first2 ?rest2
    case rest2 =>
      rintro t wr ⟨g38, e3, e4, e5, e6, e7, e8, e9, e10, e11, e12, e13, e14, hrel⟩
      have e : ((List.range 262).map t).toArray = #[t 0, t 1, t 2, t 3, t 4, t 5, t 6, t 7, t 8, t 9, t 10, t 11, t 12, t 13, t 14, t 15, t 16, t 17, t 18, t 19, t 20, t 21, t 22, t 23, t 24, t 25, t 26, t 27, t 28, t 29, t 30, t 31, t 32, t 33, t 34, t 35, t 36, t 37, t 38, t 39, t 40, t 41, t 42, t 43, t 44, t 45, t 46, t 47, t 48, t 49, t 50, t 51, t 52, t 53, t 54, t 55, t 56, t 57, t 58, t 59, t 60, t 61, t 62, t 63, t 64, t 65, t 66, t 67, t 68, t 69, t 70, t 71, t 72, t 73, t 74, t 75, t 76, t 77, t 78, t 79, t 80, t 81, t 82, t 83, t 84, t 85, t 86, t 87, t 88, t 89, t 90, t 91, t 92, t 93, t 94, t 95, t 96, t 97, t 98, t 99, t 100, t 101, t 102, t 103, t 104, t 105, t 106, t 107, t 108, t 109, t 110, t 111, t 112, t 113, t 114, t 115, t 116, t 117, t 118, t 119, t 120, t 121, t 122, t 123, t 124, t 125, t 126, t 127, t 128, t 129, t 130, t 131, t 132, t 133, t 134, t 135, t 136, t 137, t 138, t 139, t 140, t 141, t 142, t 143, t 144, t 145, t 146, t 147, t 148, t 149, t 150, t 151, t 152, t 153, t 154, t 155, t 156, t 157, t 158, t 159, t 160, t 161, t 162, t 163, t 164, t 165, t 166, t 167, t 168, t 169, t 170, t 171, t 172, t 173, t 174, t 175, t 176, t 177, t 178, t 179, t 180, t 181, t 182, t 183, t 184, t 185, t 186, t 187, t 188, t 189, t 190, t 191, t 192, t 193, t 194, t 195, t 196, t 197, t 198, t 199, t 200, t 201, t 202, t 203, t 204, t 205, t 206, t 207, t 208, t 209, t 210, t 211, t 212, t 213, t 214, t 215, t 216, t 217, t 218, t 219, t 220, t 221, t 222, t 223, t 224, t 225, t 226, t 227, t 228, t 229, t 230, t 231, t 232, t 233, t 234, t 235, t 236, t 237, t 238, t 239, t 240, t 241, t 242, t 243, t 244, t 245, t 246, t 247, t 248, t 249, t 250, t 251, t 252, t 253, t 254, t 255, t 256, t 257, t 258, t 259, t 260, t 261] := rfl
      (try dsimp only at e)
      rw [e3, e4, e5, e6, e7, e8, e9, e10, e11, e12, e13, e14] at e
      rw [e]
      clear e e3 e4 e5 e6 e7 e8 e9 e10 e11 e12 e13 e14
      have F39 := hrel
      clear hrel
      have q40 := (F39.get (.tail _ (.tail _ (.tail _ (.tail _ (.head _)))))).c2
      have l41 := (F39.get (.tail _ (.tail _ (.tail _ (.tail _ (.head _)))))).lt
      have q42 := (F39.get (.tail _ (.tail _ (.tail _ (.head _))))).c2
      have l43 := (F39.get (.tail _ (.tail _ (.tail _ (.head _))))).lt
      go_wp2_with fail
      clear q40 l41 q42 l43
      obtain ⟨wT44, rfl⟩ : ∃ wT44 : World, wT44 = wr := ⟨_, rfl⟩
      refine wp_cutK 262 (fun t wr => ∃ (g45 : Nat), t 3 = .pointer (some ⟨sb, 0, none⟩) ∧ t 4 = .pointer (some ⟨w2.heap.size, 0, none⟩) ∧ t 5 = .int .i64 (gi hs 0) ∧ t 6 = .int .i64 (gi hs (hs.length - 1)) ∧ t 7 = .pointer (some ⟨w10.heap.size, 0, none⟩) ∧ t 8 = .int .i64 tr ∧ t 9 = .pointer (some ⟨w25.heap.size, 0, none⟩) ∧ t 10 = .int .i64 0 ∧ t 11 = .pointer (some ⟨g33, 0, none⟩) ∧ t 12 = .int .i64 0 ∧ t 13 = .pointer (some ⟨g38, 0, none⟩) ∧ t 14 = .int .i64 0 ∧ t 15 = .pointer (some ⟨g45, 0, none⟩) ∧ t 16 = .int .i64 0 ∧ SF w (some sb) (fun g => w1.heap.size ≤ g ∧ g < w2.heap.size) (dipsE w1.heap.size w2.heap.size (.slice (some ⟨x, ox, none⟩) hs.length c3) (.slice (some ⟨y, oy, none⟩) ls.length c4) hs ls) [(g45, 40, #[.int .i64 (volLo hs ls d1), .int .i64 (volHi hs ls (gi hs (hs.length - 1)))]), (g38, 40, #[.int .i64 (volLo hs ls tr), .int .i64 (volHi hs ls tr)]), (g33, 40, #[.int .i64 (volLo hs ls p1), .int .i64 (volHi hs ls p2)]), (w25.heap.size, 40, #[.int .i64 (volLo hs ls d1), .int .i64 (volHi hs ls d2)]), (w10.heap.size, 40, #[.int .i64 d1, .int .i64 d2]), (w2.heap.size, 51, #[.slice (some ⟨x, ox, none⟩) hs.length c3, .slice (some ⟨y, oy, none⟩) ls.length c4])] wr) ?first3 ?rest3
      case rest3 =>
        rintro t wr ⟨g45, e3, e4, e5, e6, e7, e8, e9, e10, e11, e12, e13, e14, e15, e16, hrel⟩
        have e : ((List.range 262).map t).toArray = #[t 0, t 1, t 2, t 3, t 4, t 5, t 6, t 7, t 8, t 9, t 10, t 11, t 12, t 13, t 14, t 15, t 16, t 17, t 18, t 19, t 20, t 21, t 22, t 23, t 24, t 25, t 26, t 27, t 28, t 29, t 30, t 31, t 32, t 33, t 34, t 35, t 36, t 37, t 38, t 39, t 40, t 41, t 42, t 43, t 44, t 45, t 46, t 47, t 48, t 49, t 50, t 51, t 52, t 53, t 54, t 55, t 56, t 57, t 58, t 59, t 60, t 61, t 62, t 63, t 64, t 65, t 66, t 67, t 68, t 69, t 70, t 71, t 72, t 73, t 74, t 75, t 76, t 77, t 78, t 79, t 80, t 81, t 82, t 83, t 84, t 85, t 86, t 87, t 88, t 89, t 90, t 91, t 92, t 93, t 94, t 95, t 96, t 97, t 98, t 99, t 100, t 101, t 102, t 103, t 104, t 105, t 106, t 107, t 108, t 109, t 110, t 111, t 112, t 113, t 114, t 115, t 116, t 117, t 118, t 119, t 120, t 121, t 122, t 123, t 124, t 125, t 126, t 127, t 128, t 129, t 130, t 131, t 132, t 133, t 134, t 135, t 136, t 137, t 138, t 139, t 140, t 141, t 142, t 143, t 144, t 145, t 146, t 147, t 148, t 149, t 150, t 151, t 152, t 153, t 154, t 155, t 156, t 157, t 158, t 159, t 160, t 161, t 162, t 163, t 164, t 165, t 166, t 167, t 168, t 169, t 170, t 171, t 172, t 173, t 174, t 175, t 176, t 177, t 178, t 179, t 180, t 181, t 182, t 183, t 184, t 185, t 186, t 187, t 188, t 189, t 190, t 191, t 192, t 193, t 194, t 195, t 196, t 197, t 198, t 199, t 200, t 201, t 202, t 203, t 204, t 205, t 206, t 207, t 208, t 209, t 210, t 211, t 212, t 213, t 214, t 215, t 216, t 217, t 218, t 219, t 220, t 221, t 222, t 223, t 224, t 225, t 226, t 227, t 228, t 229, t 230, t 231, t 232, t 233, t 234, t 235, t 236, t 237, t 238, t 239, t 240, t 241, t 242, t 243, t 244, t 245, t 246, t 247, t 248, t 249, t 250, t 251, t 252, t 253, t 254, t 255, t 256, t 257, t 258, t 259, t 260, t 261] := rfl
        (try dsimp only at e)
        rw [e3, e4, e5, e6, e7, e8, e9, e10, e11, e12, e13, e14, e15, e16] at e
        rw [e]
        clear e e3 e4 e5 e6 e7 e8 e9 e10 e11 e12 e13 e14 e15 e16
        have F46 := hrel
        clear hrel
        have hlo1 := vol_seg OK.out (h := d1) hd1 (by omega)
        have hlo2 := vol_seg OK.out (h := d2) (by omega) hd3
        have hlo3 := vol_seg OK.out (h := p1) (by omega) (by omega)
        have hlo4 := vol_seg OK.out (h := p2) (by omega) (by omega)
        have hlo5 := vol_seg OK.out (h := tr) (by omega) (by omega)
        have hlo6 := vol_seg OK.out (h := gi hs (hs.length - 1)) (by omega) (Int.le_refl _)
        have m1 := vol_mono OK.out (h := d1) (h' := p1) hd1 hp1 (by omega)
        have m2 := vol_mono OK.out (h := p1) (h' := p2) (by omega) hp2 (by omega)
        have m3 := vol_mono OK.out (h := p2) (h' := d2) (by omega) hp3 hd3
        have m4 := vol_mono OK.out (h := d1) (h' := tr) hd1 htr1.1 (by omega)
        have m5 := vol_mono OK.out (h := tr) (h' := d2) (by omega) htr1.2 hd3
        have m6 := vol_mono OK.out (h := d2) (h' := gi hs (hs.length - 1)) (by omega) hd3 (Int.le_refl _)
        obtain ⟨k0, k1, k2, k3⟩ := seg_in OK.out (h := tr) (by omega) (by omega)
        have vt := vol_true OK.out (h := tr) (by omega) (by omega)
        have bnd : ∀ h, gi hs 0 ≤ h → h ≤ gi hs (hs.length - 1) → (0 ≤ volLo hs ls h ∧ volLo hs ls h ≤ 1000000) ∧ 0 ≤ volHi hs ls h ∧ volHi hs ls h ≤ 1000000 := fun h h0 h1 => by
          have v := vol_seg OK.out h0 h1
          obtain ⟨s1, _, _, _⟩ := seg_in OK.out h0 h1
          have b1 := (HTB.out (seg hs h) (by have := HTL.out; omega)).2
          have b2 := (HTB.out (seg hs h + 1) (by have := HTL.out; omega)).2
          omega
        have b1 := bnd d1 hd1 (by omega)
        have b2 := bnd d2 (by omega) hd3
        have b3 := bnd p1 (by omega) (by omega)
        have b4 := bnd p2 (by omega) (by omega)
        have b5 := bnd tr (by omega) (by omega)
        have b6 := bnd (gi hs (hs.length - 1)) (by omega) (Int.le_refl _)
        have ab : volLo hs ls d1 ≤ volHi hs ls d2 := by omega
        have bb : volLo hs ls p1 ≤ volHi hs ls p2 := by omega
        clear bnd hlo1 hlo2 hlo3 hlo4 hlo6
        generalize seg hs tr = k at k0 k1 k2 k3 vt hlo5
        have t1 : ¬ (volHi hs ls (gi hs (hs.length - 1)) < volHi hs ls d2) := by omega
        have t2 : ¬ (1 < volHi hs ls tr - volLo hs ls tr) := by omega
        clear hlo5
        have q47 := (F46.get (.tail _ (.tail _ (.tail _ (.head _))))).c2
        have l48 := (F46.get (.tail _ (.tail _ (.tail _ (.head _))))).lt
        have q49 := (F46.get (.tail _ (.tail _ (.head _)))).c2
        have l50 := (F46.get (.tail _ (.tail _ (.head _)))).lt
        have q51 := (F46.get (.tail _ (.head _))).c2
        have l52 := (F46.get (.tail _ (.head _))).lt
        have q53 := (F46.get (.head _)).c2
        have l54 := (F46.get (.head _)).lt
        have q55 := (F46.get (.tail _ (.tail _ (.tail _ (.tail _ (.tail _ (.head _))))))).c2
        have l56 := (F46.get (.tail _ (.tail _ (.tail _ (.tail _ (.tail _ (.head _))))))).lt
        go_wp2_with fail
        refine (in_yes _ _ _ _ _ m1.1 m3.2).mono ?_
        rintro e w59 ⟨rfl, hg57⟩
        clear q47 l48 q49 l50 q51 l52 q53 l54 q55 l56
        have F60 := F46.gn hg57
        clear hg57
        clear F46
        have q61 := (F60.get (.tail _ (.tail _ (.tail _ (.head _))))).c2
        have l62 := (F60.get (.tail _ (.tail _ (.tail _ (.head _))))).lt
        have q63 := (F60.get (.tail _ (.tail _ (.head _)))).c2
        have l64 := (F60.get (.tail _ (.tail _ (.head _)))).lt
        have q65 := (F60.get (.tail _ (.head _))).c2
        have l66 := (F60.get (.tail _ (.head _))).lt
        have q67 := (F60.get (.head _)).c2
        have l68 := (F60.get (.head _)).lt
        have q69 := (F60.get (.tail _ (.tail _ (.tail _ (.tail _ (.tail _ (.head _))))))).c2
        have l70 := (F60.get (.tail _ (.tail _ (.tail _ (.tail _ (.tail _ (.head _))))))).lt
        go_wp2_with fail
        refine (in_yes _ _ _ _ _ m4.1 m5.2).mono ?_
        rintro e w73 ⟨rfl, hg71⟩
        clear q61 l62 q63 l64 q65 l66 q67 l68 q69 l70
        have F74 := F60.gn hg71
        clear hg71
        clear F60
        have q75 := (F74.get (.tail _ (.tail _ (.tail _ (.head _))))).c2
        have l76 := (F74.get (.tail _ (.tail _ (.tail _ (.head _))))).lt
        have q77 := (F74.get (.tail _ (.tail _ (.head _)))).c2
        have l78 := (F74.get (.tail _ (.tail _ (.head _)))).lt
        have q79 := (F74.get (.tail _ (.head _))).c2
        have l80 := (F74.get (.tail _ (.head _))).lt
        have q81 := (F74.get (.head _)).c2
        have l82 := (F74.get (.head _)).lt
        have q83 := (F74.get (.tail _ (.tail _ (.tail _ (.tail _ (.tail _ (.head _))))))).c2
        have l84 := (F74.get (.tail _ (.tail _ (.tail _ (.tail _ (.tail _ (.head _))))))).lt
        go_wp2_with fail
        clear q75 l76 q77 l78 q79 l80 q81 l82 q83 l84
        refine wp_loopS 262 rfl (fun t ds wr => ∃ (i : Nat), t 3 = .pointer (some ⟨sb, 0, none⟩) ∧ t 4 = .pointer (some ⟨w2.heap.size, 0, none⟩) ∧ t 8 = .int .i64 tr ∧ t 9 = .pointer (some ⟨w25.heap.size, 0, none⟩) ∧ t 11 = .pointer (some ⟨g33, 0, none⟩) ∧ t 13 = .pointer (some ⟨g38, 0, none⟩) ∧ t 17 = .int .i64 i ∧ 1 ≤ i ∧ i ≤ k + 1 ∧ ds = [] ∧ wr = w73) (fun t wr => k + 1 - (intOf (t 17)).toNat) ?atStart ?round
        case round =>
          rintro t ds wr ⟨i, e3, e4, e8, e9, e11, e13, e17, hrel⟩
          have e : ((List.range 262).map t).toArray = #[t 0, t 1, t 2, t 3, t 4, t 5, t 6, t 7, t 8, t 9, t 10, t 11, t 12, t 13, t 14, t 15, t 16, t 17, t 18, t 19, t 20, t 21, t 22, t 23, t 24, t 25, t 26, t 27, t 28, t 29, t 30, t 31, t 32, t 33, t 34, t 35, t 36, t 37, t 38, t 39, t 40, t 41, t 42, t 43, t 44, t 45, t 46, t 47, t 48, t 49, t 50, t 51, t 52, t 53, t 54, t 55, t 56, t 57, t 58, t 59, t 60, t 61, t 62, t 63, t 64, t 65, t 66, t 67, t 68, t 69, t 70, t 71, t 72, t 73, t 74, t 75, t 76, t 77, t 78, t 79, t 80, t 81, t 82, t 83, t 84, t 85, t 86, t 87, t 88, t 89, t 90, t 91, t 92, t 93, t 94, t 95, t 96, t 97, t 98, t 99, t 100, t 101, t 102, t 103, t 104, t 105, t 106, t 107, t 108, t 109, t 110, t 111, t 112, t 113, t 114, t 115, t 116, t 117, t 118, t 119, t 120, t 121, t 122, t 123, t 124, t 125, t 126, t 127, t 128, t 129, t 130, t 131, t 132, t 133, t 134, t 135, t 136, t 137, t 138, t 139, t 140, t 141, t 142, t 143, t 144, t 145, t 146, t 147, t 148, t 149, t 150, t 151, t 152, t 153, t 154, t 155, t 156, t 157, t 158, t 159, t 160, t 161, t 162, t 163, t 164, t 165, t 166, t 167, t 168, t 169, t 170, t 171, t 172, t 173, t 174, t 175, t 176, t 177, t 178, t 179, t 180, t 181, t 182, t 183, t 184, t 185, t 186, t 187, t 188, t 189, t 190, t 191, t 192, t 193, t 194, t 195, t 196, t 197, t 198, t 199, t 200, t 201, t 202, t 203, t 204, t 205, t 206, t 207, t 208, t 209, t 210, t 211, t 212, t 213, t 214, t 215, t 216, t 217, t 218, t 219, t 220, t 221, t 222, t 223, t 224, t 225, t 226, t 227, t 228, t 229, t 230, t 231, t 232, t 233, t 234, t 235, t 236, t 237, t 238, t 239, t 240, t 241, t 242, t 243, t 244, t 245, t 246, t 247, t 248, t 249, t 250, t 251, t 252, t 253, t 254, t 255, t 256, t 257, t 258, t 259, t 260, t 261] := rfl
          (try dsimp only at e)
          rw [e3, e4, e8, e9, e11, e13, e17] at e
          rw [e]
          simp only [e17]
          clear e e3 e4 e8 e9 e11 e13 e17
          obtain ⟨hi1, hi2, rfl, rfl⟩ := hrel
          have q85 := (F74.get (.tail _ (.tail _ (.tail _ (.tail _ (.tail _ (.head _))))))).c2
          have l86 := (F74.get (.tail _ (.tail _ (.tail _ (.tail _ (.tail _ (.head _))))))).lt
          have hil : i < hs.length := by omega
          have hcx := Ints.cell (F74.ext.1) hil
          by_cases hlt : i < k + 1
          · have ht : gi hs i < tr := by
              have := k3 (i - 1) (by omega)
              rw [show i - 1 + 1 = i by omega] at this
              exact this
            go_wp2_with fail
            exact ⟨rfl, ⟨i + 1, rfl, rfl, rfl, rfl, rfl, rfl, by show Value.int .i64 ((i : Int) + 1) = _; simp, by omega, by omega, (by simp), (by simp)⟩, by simp [slot, intOf]; omega⟩
          · obtain rfl : i = k + 1 := by omega
            have ht : ¬ (gi hs (k + 1) < tr) := by omega
            have hok := tank_ok OK.out
            have hd0 := (hok.2.2.2.2 (k + 1) (by omega) k0).1
            have hd1' := (hok.2.2.2.2 (k + 1) (by omega) k0).2
            simp only [Nat.add_sub_cancel] at hd0 hd1'
            have u1 := HTB.out k (by have := HTL.out; omega)
            have u2 := HTB.out (k + 1) (by have := HTL.out; omega)
            have c1 := Ints.cell (F74.ext.1) (i := k + 1) k0
            have c2 := Ints.cell (F74.ext.1) (i := k) (by omega)
            have c3' := Ints.cell (F74.ext.2.1) (i := k + 1) (by have := HTL.out; omega)
            have c4' := Ints.cell (F74.ext.2.1) (i := k) (by have := HTL.out; omega)
            have mA := mul_bd' (x := gi ls k) (y := gi hs (k + 1) - gi hs k) (a := 30000) (b := 300) (by omega) (by omega) (by omega) (by omega)
            have mB := mul_bd' (x := gi ls (k + 1) - gi ls k) (y := tr - gi hs k) (a := 30000) (b := 300) (by omega) (by omega) (by omega) (by omega)
            have mC := mul_bd' (x := volLo hs ls tr) (y := gi hs (k + 1) - gi hs k) (a := 1000000) (b := 300) (by omega) (by omega) (by omega) (by omega)
            have mD := mul_bd' (x := volHi hs ls tr) (y := gi hs (k + 1) - gi hs k) (a := 1000000) (b := 300) (by omega) (by omega) (by omega) (by omega)
            clear hok hd1' hcx ht
            have i1 : (0 : Int) ≤ (k : Int) + 1 := by omega
            have i2 : (k : Int) + 1 < (hs.length : Int) := by omega
            have i3 : ((k : Int) + 1).toNat = k + 1 := by omega
            have i4 : IntKind.i64.wrap ((k : Int) + 1 - 1) = (k : Int) := by rw [show (k : Int) + 1 - 1 = k by omega]; exact IntWalk.i64_in _ (by omega)
            have i5 : (k : Int) < (hs.length : Int) := by omega
            have i6 : (k : Int) + 1 < (ls.length : Int) := by have := HTL.out; omega
            have i7 : (k : Int) < (ls.length : Int) := by have := HTL.out; omega
            have i8 : (0 : Int) ≤ (k : Int) := by omega
            have i9 : k + 1 < ls.length := by have := HTL.out; omega
            have ia : k < ls.length := by have := HTL.out; omega
            have ib : k < hs.length := by omega
            have e1 : IntKind.i64.wrap (gi hs (k + 1) - gi hs k) = gi hs (k + 1) - gi hs k := IntWalk.i64_in _ (by omega)
            have e2 : IntKind.i64.wrap (gi ls k * (gi hs (k + 1) - gi hs k)) = gi ls k * (gi hs (k + 1) - gi hs k) := IntWalk.i64_in _ (by omega)
            have e3 : IntKind.i64.wrap (gi ls (k + 1) - gi ls k) = gi ls (k + 1) - gi ls k := IntWalk.i64_in _ (by omega)
            have e4 : IntKind.i64.wrap (tr - gi hs k) = tr - gi hs k := IntWalk.i64_in _ (by omega)
            have e5 : IntKind.i64.wrap ((gi ls (k + 1) - gi ls k) * (tr - gi hs k)) = (gi ls (k + 1) - gi ls k) * (tr - gi hs k) := IntWalk.i64_in _ (by omega)
            have e6 : IntKind.i64.wrap (gi ls k * (gi hs (k + 1) - gi hs k) + (gi ls (k + 1) - gi ls k) * (tr - gi hs k)) = gi ls k * (gi hs (k + 1) - gi hs k) + (gi ls (k + 1) - gi ls k) * (tr - gi hs k) := IntWalk.i64_in _ (by omega)
            have f1 : wrap64 (volLo hs ls tr * (gi hs (k + 1) - gi hs k)) = volLo hs ls tr * (gi hs (k + 1) - gi hs k) := by unfold wrap64; omega
            have f2 : wrap64 (volHi hs ls tr * (gi hs (k + 1) - gi hs k)) = volHi hs ls tr * (gi hs (k + 1) - gi hs k) := by unfold wrap64; omega
            have t3 : ¬ (gi ls k * (gi hs (k + 1) - gi hs k) + (gi ls (k + 1) - gi ls k) * (tr - gi hs k) < volLo hs ls tr * (gi hs (k + 1) - gi hs k)) := by omega
            have t4 : ¬ (volHi hs ls tr * (gi hs (k + 1) - gi hs k) < gi ls k * (gi hs (k + 1) - gi hs k) + (gi ls (k + 1) - gi ls k) * (tr - gi hs k)) := by omega
            clear q85 l86
            have q87 := (F74.get (.tail _ (.tail _ (.tail _ (.tail _ (.tail _ (.head _))))))).c2
            have l88 := (F74.get (.tail _ (.tail _ (.tail _ (.tail _ (.tail _ (.head _))))))).lt
            have q89 := (F74.get (.tail _ (.head _))).c2
            have l90 := (F74.get (.tail _ (.head _))).lt
            go_wp2_with fail
            go_quiet (fail)
            go_wp2_with fail
            go_quiet (fail)
            clear c1 c2 c3' c4' e1 e2 e3 e4 e5 e6 i1 i2 i3 i4 i5 i6 i7 i8 i9 ia ib
            go_wp2_with fail
            refine (spanOf_c sb 0 200 _ ((F74.drewN _).sd) (by omega) (by omega) (by omega)).mono ?_
            rintro e w93 ⟨v, rfl, ⟨r1, r2, rfl, hr1, hr2, hr3⟩, hs92, hg91⟩
            clear q87 l88 q89 l90
            have F94 := (F74.drewN _).go hg91 hs92
            clear hg91
            clear F74
            clear f1 f2 t3 t4 mA mB mC mD
            go_wp2_with fail
            refine (spanOf_c sb (-400) 400 _ (F94.sd) (by omega) (by omega) (by omega)).mono ?_
            rintro e w97 ⟨v, rfl, ⟨s1, s2, rfl, hs1, hs2, hs3⟩, hs96, hg95⟩
            have F98 := F94.go hg95 hs96
            clear hg95
            clear F94
            have F99 := (F98.newAt 40 #[.int .i64 r1, .int .i64 r2] (n := w97.heap.size) (by simp)).newAt 40 #[.int .i64 s1, .int .i64 s2] (n := w97.heap.size + 1) (by simp)
            clear F98
            have q100 := (F99.get (.tail _ (.tail _ (.tail _ (.tail _ (.tail _ (.head _))))))).c2
            have l101 := (F99.get (.tail _ (.tail _ (.tail _ (.tail _ (.tail _ (.head _))))))).lt
            have q102 := (F99.get (.tail _ (.head _))).c2
            have l103 := (F99.get (.tail _ (.head _))).lt
            have q104 := (F99.get (.head _)).c2
            have l105 := (F99.get (.head _)).lt
            have HS1 := Lib.hid (stdV_ok (a := volLo hs ls d1) (b := volHi hs ls d2) (c := r1) (d := r2) (e := s1) (f := s2) (stdErr_zero (by omega) (by omega) (by omega)))
            go_wp2_with fail
            refine (standard_c _ _ _ _ _ _ _).mono ?_
            rintro e w108 ⟨rfl, hg106⟩
            clear q100 l101 q102 l103 q104 l105
            have F109 := F99.gn hg106
            clear hg106
            clear F99
            rw [HS1.out]
            have F110 := F109.newAt 40 #[.int .i64 (stdLo (volLo hs ls d1) r1 r2 s1 s2), .int .i64 (stdHi (volHi hs ls d2) r1 r2 s1 s2)] (n := w108.heap.size) (by simp)
            clear F109
            have q111 := (F110.get (.tail _ (.tail _ (.tail _ (.tail _ (.tail _ (.head _))))))).c2
            have l112 := (F110.get (.tail _ (.tail _ (.tail _ (.tail _ (.tail _ (.head _))))))).lt
            have q113 := (F110.get (.tail _ (.tail _ (.head _)))).c2
            have l114 := (F110.get (.tail _ (.tail _ (.head _)))).lt
            have q115 := (F110.get (.tail _ (.head _))).c2
            have l116 := (F110.get (.tail _ (.head _))).lt
            go_wp2_with fail
            clear q111 l112 q113 l114 q115 l116
            generalize (w108.alloc (.cells #[.int .i64 (stdLo (volLo hs ls d1) r1 r2 s1 s2), .int .i64 (stdHi (volHi hs ls d2) r1 r2 s1 s2)] 40)) = wT117 at F110 ⊢
            refine wp_cutK 262 (fun t wr => ∃ (g118 : Nat) (r3 r4 s3 s4 : Int), t 3 = .pointer (some ⟨sb, 0, none⟩) ∧ t 4 = .pointer (some ⟨w2.heap.size, 0, none⟩) ∧ t 8 = .int .i64 tr ∧ t 9 = .pointer (some ⟨w25.heap.size, 0, none⟩) ∧ t 11 = .pointer (some ⟨g33, 0, none⟩) ∧ t 13 = .pointer (some ⟨g38, 0, none⟩) ∧ t 20 = .pointer (some ⟨w97.heap.size, 0, none⟩) ∧ t 21 = .pointer (some ⟨w97.heap.size + 1, 0, none⟩) ∧ t 22 = .pointer (some ⟨w108.heap.size, 0, none⟩) ∧ t 23 = .int .i64 0 ∧ t 24 = .pointer (some ⟨g118, 0, none⟩) ∧ t 25 = .int .i64 0 ∧ ((r1 ≤ r3 ∧ r3 ≤ r4 ∧ r4 ≤ r2) ∧ s1 ≤ s3 ∧ s3 ≤ s4 ∧ s4 ≤ s2) ∧ SF w (some sb) (fun g => w1.heap.size ≤ g ∧ g < w2.heap.size) (dipsE w1.heap.size w2.heap.size (.slice (some ⟨x, ox, none⟩) hs.length c3) (.slice (some ⟨y, oy, none⟩) ls.length c4) hs ls) [(g118, 40, #[.int .i64 (stdLo (volLo hs ls p1) r3 r4 s3 s4), .int .i64 (stdHi (volHi hs ls p2) r3 r4 s3 s4)]), (w108.heap.size, 40, #[.int .i64 (stdLo (volLo hs ls d1) r1 r2 s1 s2), .int .i64 (stdHi (volHi hs ls d2) r1 r2 s1 s2)]), (w97.heap.size + 1, 40, #[.int .i64 s1, .int .i64 s2]), (w97.heap.size, 40, #[.int .i64 r1, .int .i64 r2]), (g45, 40, #[.int .i64 (volLo hs ls d1), .int .i64 (volHi hs ls (gi hs (hs.length - 1)))]), (g38, 40, #[.int .i64 (volLo hs ls tr), .int .i64 (volHi hs ls tr)]), (g33, 40, #[.int .i64 (volLo hs ls p1), .int .i64 (volHi hs ls p2)]), (w25.heap.size, 40, #[.int .i64 (volLo hs ls d1), .int .i64 (volHi hs ls d2)]), (w10.heap.size, 40, #[.int .i64 d1, .int .i64 d2]), (w2.heap.size, 51, #[.slice (some ⟨x, ox, none⟩) hs.length c3, .slice (some ⟨y, oy, none⟩) ls.length c4])] wr) ?first4 ?rest4
            case rest4 =>
              rintro t wr ⟨g118, r3, r4, s3, s4, e3, e4, e8, e9, e11, e13, e20, e21, e22, e23, e24, e25, hrel⟩
              have e : ((List.range 262).map t).toArray = #[t 0, t 1, t 2, t 3, t 4, t 5, t 6, t 7, t 8, t 9, t 10, t 11, t 12, t 13, t 14, t 15, t 16, t 17, t 18, t 19, t 20, t 21, t 22, t 23, t 24, t 25, t 26, t 27, t 28, t 29, t 30, t 31, t 32, t 33, t 34, t 35, t 36, t 37, t 38, t 39, t 40, t 41, t 42, t 43, t 44, t 45, t 46, t 47, t 48, t 49, t 50, t 51, t 52, t 53, t 54, t 55, t 56, t 57, t 58, t 59, t 60, t 61, t 62, t 63, t 64, t 65, t 66, t 67, t 68, t 69, t 70, t 71, t 72, t 73, t 74, t 75, t 76, t 77, t 78, t 79, t 80, t 81, t 82, t 83, t 84, t 85, t 86, t 87, t 88, t 89, t 90, t 91, t 92, t 93, t 94, t 95, t 96, t 97, t 98, t 99, t 100, t 101, t 102, t 103, t 104, t 105, t 106, t 107, t 108, t 109, t 110, t 111, t 112, t 113, t 114, t 115, t 116, t 117, t 118, t 119, t 120, t 121, t 122, t 123, t 124, t 125, t 126, t 127, t 128, t 129, t 130, t 131, t 132, t 133, t 134, t 135, t 136, t 137, t 138, t 139, t 140, t 141, t 142, t 143, t 144, t 145, t 146, t 147, t 148, t 149, t 150, t 151, t 152, t 153, t 154, t 155, t 156, t 157, t 158, t 159, t 160, t 161, t 162, t 163, t 164, t 165, t 166, t 167, t 168, t 169, t 170, t 171, t 172, t 173, t 174, t 175, t 176, t 177, t 178, t 179, t 180, t 181, t 182, t 183, t 184, t 185, t 186, t 187, t 188, t 189, t 190, t 191, t 192, t 193, t 194, t 195, t 196, t 197, t 198, t 199, t 200, t 201, t 202, t 203, t 204, t 205, t 206, t 207, t 208, t 209, t 210, t 211, t 212, t 213, t 214, t 215, t 216, t 217, t 218, t 219, t 220, t 221, t 222, t 223, t 224, t 225, t 226, t 227, t 228, t 229, t 230, t 231, t 232, t 233, t 234, t 235, t 236, t 237, t 238, t 239, t 240, t 241, t 242, t 243, t 244, t 245, t 246, t 247, t 248, t 249, t 250, t 251, t 252, t 253, t 254, t 255, t 256, t 257, t 258, t 259, t 260, t 261] := rfl
              (try dsimp only at e)
              rw [e3, e4, e8, e9, e11, e13, e20, e21, e22, e23, e24, e25] at e
              rw [e]
              clear e e3 e4 e8 e9 e11 e13 e20 e21 e22 e23 e24 e25
              obtain ⟨⟨⟨ha1, ha2, ha3⟩, hb1, hb2, hb3⟩, F119⟩ := hrel
              have q120 := (F119.get (.tail _ (.tail _ (.tail _ (.tail _ (.tail _ (.tail _ (.tail _ (.head _))))))))).c2
              have l121 := (F119.get (.tail _ (.tail _ (.tail _ (.tail _ (.tail _ (.tail _ (.tail _ (.head _))))))))).lt
              have q122 := (F119.get (.tail _ (.tail _ (.tail _ (.head _))))).c2
              have l123 := (F119.get (.tail _ (.tail _ (.tail _ (.head _))))).lt
              have q124 := (F119.get (.tail _ (.tail _ (.head _)))).c2
              have l125 := (F119.get (.tail _ (.tail _ (.head _)))).lt
              go_wp2_with fail
              clear q120 l121 q122 l123 q124 l125
              obtain ⟨wT126, rfl⟩ : ∃ wT126 : World, wT126 = wr := ⟨_, rfl⟩
              refine wp_cutK 262 (fun t wr => ∃ (vv vq vp : Int), t 3 = .pointer (some ⟨sb, 0, none⟩) ∧ t 4 = .pointer (some ⟨w2.heap.size, 0, none⟩) ∧ t 8 = .int .i64 tr ∧ t 9 = .pointer (some ⟨w25.heap.size, 0, none⟩) ∧ t 11 = .pointer (some ⟨g33, 0, none⟩) ∧ t 13 = .pointer (some ⟨g38, 0, none⟩) ∧ t 20 = .pointer (some ⟨w97.heap.size, 0, none⟩) ∧ t 21 = .pointer (some ⟨w97.heap.size + 1, 0, none⟩) ∧ t 22 = .pointer (some ⟨w108.heap.size, 0, none⟩) ∧ t 23 = .int .i64 0 ∧ t 24 = .pointer (some ⟨g118, 0, none⟩) ∧ t 25 = .int .i64 0 ∧ t 26 = .int .i64 vv ∧ t 27 = .int .i64 vq ∧ t 28 = .int .i64 vp ∧ ((volLo hs ls d1 ≤ vv ∧ vv ≤ volHi hs ls d2) ∧ (r1 ≤ vq ∧ vq ≤ r2) ∧ s1 ≤ vp ∧ vp ≤ s2) ∧ SF w (some sb) (fun g => w1.heap.size ≤ g ∧ g < w2.heap.size) (dipsE w1.heap.size w2.heap.size (.slice (some ⟨x, ox, none⟩) hs.length c3) (.slice (some ⟨y, oy, none⟩) ls.length c4) hs ls) [(g118, 40, #[.int .i64 (stdLo (volLo hs ls p1) r3 r4 s3 s4), .int .i64 (stdHi (volHi hs ls p2) r3 r4 s3 s4)]), (w108.heap.size, 40, #[.int .i64 (stdLo (volLo hs ls d1) r1 r2 s1 s2), .int .i64 (stdHi (volHi hs ls d2) r1 r2 s1 s2)]), (w97.heap.size + 1, 40, #[.int .i64 s1, .int .i64 s2]), (w97.heap.size, 40, #[.int .i64 r1, .int .i64 r2]), (g45, 40, #[.int .i64 (volLo hs ls d1), .int .i64 (volHi hs ls (gi hs (hs.length - 1)))]), (g38, 40, #[.int .i64 (volLo hs ls tr), .int .i64 (volHi hs ls tr)]), (g33, 40, #[.int .i64 (volLo hs ls p1), .int .i64 (volHi hs ls p2)]), (w25.heap.size, 40, #[.int .i64 (volLo hs ls d1), .int .i64 (volHi hs ls d2)]), (w10.heap.size, 40, #[.int .i64 d1, .int .i64 d2]), (w2.heap.size, 51, #[.slice (some ⟨x, ox, none⟩) hs.length c3, .slice (some ⟨y, oy, none⟩) ls.length c4])] wr) ?first5 ?rest5
              case rest5 =>
                rintro t wr ⟨vv, vq, vp, e3, e4, e8, e9, e11, e13, e20, e21, e22, e23, e24, e25, e26, e27, e28, hrel⟩
                have e : ((List.range 262).map t).toArray = #[t 0, t 1, t 2, t 3, t 4, t 5, t 6, t 7, t 8, t 9, t 10, t 11, t 12, t 13, t 14, t 15, t 16, t 17, t 18, t 19, t 20, t 21, t 22, t 23, t 24, t 25, t 26, t 27, t 28, t 29, t 30, t 31, t 32, t 33, t 34, t 35, t 36, t 37, t 38, t 39, t 40, t 41, t 42, t 43, t 44, t 45, t 46, t 47, t 48, t 49, t 50, t 51, t 52, t 53, t 54, t 55, t 56, t 57, t 58, t 59, t 60, t 61, t 62, t 63, t 64, t 65, t 66, t 67, t 68, t 69, t 70, t 71, t 72, t 73, t 74, t 75, t 76, t 77, t 78, t 79, t 80, t 81, t 82, t 83, t 84, t 85, t 86, t 87, t 88, t 89, t 90, t 91, t 92, t 93, t 94, t 95, t 96, t 97, t 98, t 99, t 100, t 101, t 102, t 103, t 104, t 105, t 106, t 107, t 108, t 109, t 110, t 111, t 112, t 113, t 114, t 115, t 116, t 117, t 118, t 119, t 120, t 121, t 122, t 123, t 124, t 125, t 126, t 127, t 128, t 129, t 130, t 131, t 132, t 133, t 134, t 135, t 136, t 137, t 138, t 139, t 140, t 141, t 142, t 143, t 144, t 145, t 146, t 147, t 148, t 149, t 150, t 151, t 152, t 153, t 154, t 155, t 156, t 157, t 158, t 159, t 160, t 161, t 162, t 163, t 164, t 165, t 166, t 167, t 168, t 169, t 170, t 171, t 172, t 173, t 174, t 175, t 176, t 177, t 178, t 179, t 180, t 181, t 182, t 183, t 184, t 185, t 186, t 187, t 188, t 189, t 190, t 191, t 192, t 193, t 194, t 195, t 196, t 197, t 198, t 199, t 200, t 201, t 202, t 203, t 204, t 205, t 206, t 207, t 208, t 209, t 210, t 211, t 212, t 213, t 214, t 215, t 216, t 217, t 218, t 219, t 220, t 221, t 222, t 223, t 224, t 225, t 226, t 227, t 228, t 229, t 230, t 231, t 232, t 233, t 234, t 235, t 236, t 237, t 238, t 239, t 240, t 241, t 242, t 243, t 244, t 245, t 246, t 247, t 248, t 249, t 250, t 251, t 252, t 253, t 254, t 255, t 256, t 257, t 258, t 259, t 260, t 261] := rfl
                (try dsimp only at e)
                rw [e3, e4, e8, e9, e11, e13, e20, e21, e22, e23, e24, e25, e26, e27, e28] at e
                rw [e]
                clear e e3 e4 e8 e9 e11 e13 e20 e21 e22 e23 e24 e25 e26 e27 e28
                obtain ⟨⟨hqvv, hqvq, hqvp⟩, F127⟩ := hrel
                have pq := prod_bd (c := vq) (e := vp) (by omega) (by omega) (by omega) (by omega)
                have mZ := mul_bd' (x := vv) (y := 1000000 - vq * (vp - 150)) (a := 1000000) (b := 1230000) (by omega) (by omega) (by omega) (by omega)
                have sb1 := std_bd (a := volLo hs ls d1) (b := volHi hs ls d2) (c := r1) (d := r2) (e := s1) (f := s2) (by omega) (by omega) (by omega) (by omega) (by omega) (by omega) (by omega) (by omega) (by omega)
                have si := std_in (a := volLo hs ls d1) (b := volHi hs ls d2) (c := r1) (d := r2) (e := s1) (f := s2) (a' := volLo hs ls p1) (b' := volHi hs ls p2) (c' := r3) (d' := r4) (e' := s3) (f' := s4) (by omega) m1.1 m3.2 bb ha1 ha2 ha3 hb1 hb2 hb3 (by omega) (by omega) (by omega) (by omega)
                have st := std_true (a := volLo hs ls d1) (b := volHi hs ls d2) (c := r1) (d := r2) (e := s1) (f := s2) (v := vv) (q := vq) (p := vp) (by omega) hqvv.1 hqvv.2 hqvq.1 hqvq.2 hqvp.1 hqvp.2 (by omega) (by omega) (by omega) (by omega)
                have g1 : wrap64 (vq * (vp - 150)) = vq * (vp - 150) := by unfold wrap64; omega
                have g2 : wrap64 (vv * (1000000 - vq * (vp - 150))) = vv * (1000000 - vq * (vp - 150)) := by unfold wrap64; omega
                have st1 := st.1
                have st2 := st.2
                have q128 := (F127.get (.tail _ (.head _))).c2
                have l129 := (F127.get (.tail _ (.head _))).lt
                have q130 := (F127.get (.head _)).c2
                have l131 := (F127.get (.head _)).lt
                go_wp2_with fail
                refine (in_yes _ _ _ _ _ si.1 si.2).mono ?_
                rintro e w134 ⟨rfl, hg132⟩
                clear q128 l129 q130 l131
                have F135 := F127.gn hg132
                clear hg132
                clear F127
                have q136 := (F135.get (.tail _ (.head _))).c2
                have l137 := (F135.get (.tail _ (.head _))).lt
                have q138 := (F135.get (.head _)).c2
                have l139 := (F135.get (.head _)).lt
                go_wp2_with fail
                refine (awake_c _).mono ?_
                rintro e w142 ⟨rfl, hg140⟩
                clear q136 l137 q138 l139
                have F143 := F135.gn hg140
                clear hg140
                clear F135
                go_wp2_with fail
                exact bodyPost_ret (v := .bool true) (by simp [results, Try.results5, go_sem]) rfl ⟨rfl, F143.gb⟩
              case first5 =>
                have F119d := F119.drew
                have qq0 := (F119.get (.tail _ (.tail _ (.tail _ (.tail _ (.tail _ (.tail _ (.tail _ (.head _))))))))).c2
                have ll0 := (F119.get (.tail _ (.tail _ (.tail _ (.tail _ (.tail _ (.tail _ (.tail _ (.head _))))))))).lt
                have qq1 := (F119.get (.tail _ (.tail _ (.tail _ (.head _))))).c2
                have ll1 := (F119.get (.tail _ (.tail _ (.tail _ (.head _))))).lt
                have qq2 := (F119.get (.tail _ (.tail _ (.head _)))).c2
                have ll2 := (F119.get (.tail _ (.tail _ (.head _)))).lt
                have tok0 : Hid (1 = 1) := Lib.hid rfl
                have tok1 : Hid (1 = 1) := Lib.hid rfl
                have tok2 : Hid (1 = 1) := Lib.hid rfl
                go_region_held3 (fun W => W.cell? ⟨w25.heap.size, 0, none⟩ = some (.int .i64 (volLo hs ls d1)) ∧ W.cell? ⟨w25.heap.size, 1, none⟩ = some (.int .i64 (volHi hs ls d2)) ∧ W.cell? ⟨w97.heap.size, 0, none⟩ = some (.int .i64 r1) ∧ W.cell? ⟨w97.heap.size, 1, none⟩ = some (.int .i64 r2) ∧ W.cell? ⟨w97.heap.size + 1, 0, none⟩ = some (.int .i64 s1) ∧ W.cell? ⟨w97.heap.size + 1, 1, none⟩ = some (.int .i64 s2)) (go_keep)
                  (first
                  | (go_at_call 34; have _t := tok0; refine (inside_c sb (volLo hs ls d1) (volHi hs ls d2) _ (by first | exact F119d.sd | exact (F119d.alloc _).sd) (by omega) (by omega) (by omega) (by omega)).mono ?_; rintro e wT126_1 ⟨vv, rfl, hxvv, hs_1, hg_1⟩; clear tok0 _t; (have hqvv : volLo hs ls d1 ≤ vv ∧ vv ≤ volHi hs ls d2 := by (unfold insideR fromR at hxvv; omega)); have F119d1 := F119d.go hg_1 hs_1; have rr0 : wT126_1.cell? ⟨w25.heap.size, 0, none⟩ = some (.int .i64 (volLo hs ls d1)) := (by first | exact (F119d1.get (.tail _ (.tail _ (.tail _ (.tail _ (.tail _ (.tail _ (.tail _ (.head _))))))))).cell 0 | exact (F119d1.get (.tail _ (.tail _ (.tail _ (.tail _ (.tail _ (.tail _ (.tail _ (.tail _ (.head _)))))))))).cell 0); have rr1 : wT126_1.cell? ⟨w25.heap.size, 1, none⟩ = some (.int .i64 (volHi hs ls d2)) := (by first | exact (F119d1.get (.tail _ (.tail _ (.tail _ (.tail _ (.tail _ (.tail _ (.tail _ (.head _))))))))).cell 1 | exact (F119d1.get (.tail _ (.tail _ (.tail _ (.tail _ (.tail _ (.tail _ (.tail _ (.tail _ (.head _)))))))))).cell 1); have rr2 : wT126_1.cell? ⟨w97.heap.size, 0, none⟩ = some (.int .i64 r1) := (by first | exact (F119d1.get (.tail _ (.tail _ (.tail _ (.head _))))).cell 0 | exact (F119d1.get (.tail _ (.tail _ (.tail _ (.tail _ (.head _)))))).cell 0); have rr3 : wT126_1.cell? ⟨w97.heap.size, 1, none⟩ = some (.int .i64 r2) := (by first | exact (F119d1.get (.tail _ (.tail _ (.tail _ (.head _))))).cell 1 | exact (F119d1.get (.tail _ (.tail _ (.tail _ (.tail _ (.head _)))))).cell 1); have rr4 : wT126_1.cell? ⟨w97.heap.size + 1, 0, none⟩ = some (.int .i64 s1) := (by first | exact (F119d1.get (.tail _ (.tail _ (.head _)))).cell 0 | exact (F119d1.get (.tail _ (.tail _ (.tail _ (.head _))))).cell 0); have rr5 : wT126_1.cell? ⟨w97.heap.size + 1, 1, none⟩ = some (.int .i64 s2) := (by first | exact (F119d1.get (.tail _ (.tail _ (.head _)))).cell 1 | exact (F119d1.get (.tail _ (.tail _ (.tail _ (.head _))))).cell 1); have zz1 := hg_1.size; (try simp at zz1))
                  | (go_at_call 34; have _t := tok1; refine (inside_c sb r1 r2 _ (by first | exact F119d1.sd | exact (F119d1.alloc _).sd) (by omega) (by omega) (by omega) (by omega)).mono ?_; rintro e wT126_2 ⟨vq, rfl, hxvq, hs_2, hg_2⟩; clear tok1 _t; (have hqvq : r1 ≤ vq ∧ vq ≤ r2 := by (unfold insideR fromR at hxvq; omega)); have F119d2 := F119d1.go hg_2 hs_2; (try clear rr0 rr1 rr2 rr3 rr4 rr5); have rr0 : wT126_2.cell? ⟨w25.heap.size, 0, none⟩ = some (.int .i64 (volLo hs ls d1)) := (by first | exact (F119d2.get (.tail _ (.tail _ (.tail _ (.tail _ (.tail _ (.tail _ (.tail _ (.head _))))))))).cell 0 | exact (F119d2.get (.tail _ (.tail _ (.tail _ (.tail _ (.tail _ (.tail _ (.tail _ (.tail _ (.head _)))))))))).cell 0); have rr1 : wT126_2.cell? ⟨w25.heap.size, 1, none⟩ = some (.int .i64 (volHi hs ls d2)) := (by first | exact (F119d2.get (.tail _ (.tail _ (.tail _ (.tail _ (.tail _ (.tail _ (.tail _ (.head _))))))))).cell 1 | exact (F119d2.get (.tail _ (.tail _ (.tail _ (.tail _ (.tail _ (.tail _ (.tail _ (.tail _ (.head _)))))))))).cell 1); have rr2 : wT126_2.cell? ⟨w97.heap.size, 0, none⟩ = some (.int .i64 r1) := (by first | exact (F119d2.get (.tail _ (.tail _ (.tail _ (.head _))))).cell 0 | exact (F119d2.get (.tail _ (.tail _ (.tail _ (.tail _ (.head _)))))).cell 0); have rr3 : wT126_2.cell? ⟨w97.heap.size, 1, none⟩ = some (.int .i64 r2) := (by first | exact (F119d2.get (.tail _ (.tail _ (.tail _ (.head _))))).cell 1 | exact (F119d2.get (.tail _ (.tail _ (.tail _ (.tail _ (.head _)))))).cell 1); have rr4 : wT126_2.cell? ⟨w97.heap.size + 1, 0, none⟩ = some (.int .i64 s1) := (by first | exact (F119d2.get (.tail _ (.tail _ (.head _)))).cell 0 | exact (F119d2.get (.tail _ (.tail _ (.tail _ (.head _))))).cell 0); have rr5 : wT126_2.cell? ⟨w97.heap.size + 1, 1, none⟩ = some (.int .i64 s2) := (by first | exact (F119d2.get (.tail _ (.tail _ (.head _)))).cell 1 | exact (F119d2.get (.tail _ (.tail _ (.tail _ (.head _))))).cell 1); have zz2 := hg_2.size; (try simp at zz2))
                  | (go_at_call 34; have _t := tok2; refine (inside_c sb s1 s2 _ (by first | exact F119d2.sd | exact (F119d2.alloc _).sd) (by omega) (by omega) (by omega) (by omega)).mono ?_; rintro e wT126_3 ⟨vp, rfl, hxvp, hs_3, hg_3⟩; clear tok2 _t; (have hqvp : s1 ≤ vp ∧ vp ≤ s2 := by (unfold insideR fromR at hxvp; omega)); have F119d3 := F119d2.go hg_3 hs_3; (try clear rr0 rr1 rr2 rr3 rr4 rr5); have rr0 : wT126_3.cell? ⟨w25.heap.size, 0, none⟩ = some (.int .i64 (volLo hs ls d1)) := (by first | exact (F119d3.get (.tail _ (.tail _ (.tail _ (.tail _ (.tail _ (.tail _ (.tail _ (.head _))))))))).cell 0 | exact (F119d3.get (.tail _ (.tail _ (.tail _ (.tail _ (.tail _ (.tail _ (.tail _ (.tail _ (.head _)))))))))).cell 0); have rr1 : wT126_3.cell? ⟨w25.heap.size, 1, none⟩ = some (.int .i64 (volHi hs ls d2)) := (by first | exact (F119d3.get (.tail _ (.tail _ (.tail _ (.tail _ (.tail _ (.tail _ (.tail _ (.head _))))))))).cell 1 | exact (F119d3.get (.tail _ (.tail _ (.tail _ (.tail _ (.tail _ (.tail _ (.tail _ (.tail _ (.head _)))))))))).cell 1); have rr2 : wT126_3.cell? ⟨w97.heap.size, 0, none⟩ = some (.int .i64 r1) := (by first | exact (F119d3.get (.tail _ (.tail _ (.tail _ (.head _))))).cell 0 | exact (F119d3.get (.tail _ (.tail _ (.tail _ (.tail _ (.head _)))))).cell 0); have rr3 : wT126_3.cell? ⟨w97.heap.size, 1, none⟩ = some (.int .i64 r2) := (by first | exact (F119d3.get (.tail _ (.tail _ (.tail _ (.head _))))).cell 1 | exact (F119d3.get (.tail _ (.tail _ (.tail _ (.tail _ (.head _)))))).cell 1); have rr4 : wT126_3.cell? ⟨w97.heap.size + 1, 0, none⟩ = some (.int .i64 s1) := (by first | exact (F119d3.get (.tail _ (.tail _ (.head _)))).cell 0 | exact (F119d3.get (.tail _ (.tail _ (.tail _ (.head _))))).cell 0); have rr5 : wT126_3.cell? ⟨w97.heap.size + 1, 1, none⟩ = some (.int .i64 s2) := (by first | exact (F119d3.get (.tail _ (.tail _ (.head _)))).cell 1 | exact (F119d3.get (.tail _ (.tail _ (.tail _ (.head _))))).cell 1); have zz3 := hg_3.size; (try simp at zz3)))
                exact ⟨rfl, rfl, vv, vq, vp, rfl, rfl, rfl, rfl, rfl, rfl, rfl, rfl, rfl, rfl, rfl, rfl, rfl, rfl, rfl, ⟨hqvv, hqvq, hqvp⟩, F119d3⟩
            case first4 =>
              have F110d := F110.drew
              have qq0 := (F110.get (.tail _ (.tail _ (.tail _ (.tail _ (.tail _ (.head _))))))).c2
              have ll0 := (F110.get (.tail _ (.tail _ (.tail _ (.tail _ (.tail _ (.head _))))))).lt
              have qq1 := (F110.get (.tail _ (.tail _ (.head _)))).c2
              have ll1 := (F110.get (.tail _ (.tail _ (.head _)))).lt
              have qq2 := (F110.get (.tail _ (.head _))).c2
              have ll2 := (F110.get (.tail _ (.head _))).lt
              have tok0 : Hid (1 = 1) := Lib.hid rfl
              have tok1 : Hid (1 = 1) := Lib.hid rfl
              go_region_held3 (fun W => W.cell? ⟨g33, 0, none⟩ = some (.int .i64 (volLo hs ls p1)) ∧ W.cell? ⟨g33, 1, none⟩ = some (.int .i64 (volHi hs ls p2)) ∧ W.cell? ⟨w97.heap.size, 0, none⟩ = some (.int .i64 r1) ∧ W.cell? ⟨w97.heap.size, 1, none⟩ = some (.int .i64 r2) ∧ W.cell? ⟨w97.heap.size + 1, 0, none⟩ = some (.int .i64 s1) ∧ W.cell? ⟨w97.heap.size + 1, 1, none⟩ = some (.int .i64 s2)) (first | go_keep | exact ⟨far_cell (far_cell rr0 (by simp <;> omega) _) (by simp <;> omega) _, far_cell (far_cell rr1 (by simp <;> omega) _) (by simp <;> omega) _, far_cell (far_cell rr2 (by simp <;> omega) _) (by simp <;> omega) _, far_cell (far_cell rr3 (by simp <;> omega) _) (by simp <;> omega) _, far_cell (far_cell rr4 (by simp <;> omega) _) (by simp <;> omega) _, far_cell (far_cell rr5 (by simp <;> omega) _) (by simp <;> omega) _⟩)
                (first
                | (go_at_call 35; have _t := tok0; refine (part_c sb r1 r2 _ (by first | exact F110d.sd | exact (F110d.alloc _).sd) (by omega) (by omega) (by omega)).mono ?_; rintro e wT117_1 ⟨v, rfl, ⟨r3, r4, rfl, ha1, ha2, ha3⟩, hs_1, hg_1⟩; clear tok0 _t; (first | have F110d1 := F110d.go hg_1 hs_1 | have F110d1 := (F110d.newAt 40 #[.int .i64 0, .int .i64 0] (n := wT117.heap.size) rfl).go hg_1 hs_1); have rr0 : wT117_1.cell? ⟨g33, 0, none⟩ = some (.int .i64 (volLo hs ls p1)) := (by first | exact (F110d1.get (.tail _ (.tail _ (.tail _ (.tail _ (.tail _ (.head _))))))).cell 0 | exact (F110d1.get (.tail _ (.tail _ (.tail _ (.tail _ (.tail _ (.tail _ (.head _)))))))).cell 0); have rr1 : wT117_1.cell? ⟨g33, 1, none⟩ = some (.int .i64 (volHi hs ls p2)) := (by first | exact (F110d1.get (.tail _ (.tail _ (.tail _ (.tail _ (.tail _ (.head _))))))).cell 1 | exact (F110d1.get (.tail _ (.tail _ (.tail _ (.tail _ (.tail _ (.tail _ (.head _)))))))).cell 1); have rr2 : wT117_1.cell? ⟨w97.heap.size, 0, none⟩ = some (.int .i64 r1) := (by first | exact (F110d1.get (.tail _ (.tail _ (.head _)))).cell 0 | exact (F110d1.get (.tail _ (.tail _ (.tail _ (.head _))))).cell 0); have rr3 : wT117_1.cell? ⟨w97.heap.size, 1, none⟩ = some (.int .i64 r2) := (by first | exact (F110d1.get (.tail _ (.tail _ (.head _)))).cell 1 | exact (F110d1.get (.tail _ (.tail _ (.tail _ (.head _))))).cell 1); have rr4 : wT117_1.cell? ⟨w97.heap.size + 1, 0, none⟩ = some (.int .i64 s1) := (by first | exact (F110d1.get (.tail _ (.head _))).cell 0 | exact (F110d1.get (.tail _ (.tail _ (.head _)))).cell 0); have rr5 : wT117_1.cell? ⟨w97.heap.size + 1, 1, none⟩ = some (.int .i64 s2) := (by first | exact (F110d1.get (.tail _ (.head _))).cell 1 | exact (F110d1.get (.tail _ (.tail _ (.head _)))).cell 1); have zz1 := hg_1.size; (try simp at zz1); (try have qx1 := (F110d1.get (.head _)).c2))
                | (go_at_call 35; have _t := tok1; refine (part_c sb s1 s2 _ (by first | exact F110d1.sd | exact (F110d1.alloc _).sd) (by omega) (by omega) (by omega)).mono ?_; rintro e wT117_2 ⟨v, rfl, ⟨s3, s4, rfl, hb1, hb2, hb3⟩, hs_2, hg_2⟩; clear tok1 _t; (first | have F110d2 := F110d1.go hg_2 hs_2 | have F110d2 := (F110d1.newAt 40 #[.int .i64 0, .int .i64 0] (n := wT117_1.heap.size) rfl).go hg_2 hs_2); (try clear rr0 rr1 rr2 rr3 rr4 rr5); have rr0 : wT117_2.cell? ⟨g33, 0, none⟩ = some (.int .i64 (volLo hs ls p1)) := (by first | exact (F110d2.get (.tail _ (.tail _ (.tail _ (.tail _ (.tail _ (.head _))))))).cell 0 | exact (F110d2.get (.tail _ (.tail _ (.tail _ (.tail _ (.tail _ (.tail _ (.head _)))))))).cell 0); have rr1 : wT117_2.cell? ⟨g33, 1, none⟩ = some (.int .i64 (volHi hs ls p2)) := (by first | exact (F110d2.get (.tail _ (.tail _ (.tail _ (.tail _ (.tail _ (.head _))))))).cell 1 | exact (F110d2.get (.tail _ (.tail _ (.tail _ (.tail _ (.tail _ (.tail _ (.head _)))))))).cell 1); have rr2 : wT117_2.cell? ⟨w97.heap.size, 0, none⟩ = some (.int .i64 r1) := (by first | exact (F110d2.get (.tail _ (.tail _ (.head _)))).cell 0 | exact (F110d2.get (.tail _ (.tail _ (.tail _ (.head _))))).cell 0); have rr3 : wT117_2.cell? ⟨w97.heap.size, 1, none⟩ = some (.int .i64 r2) := (by first | exact (F110d2.get (.tail _ (.tail _ (.head _)))).cell 1 | exact (F110d2.get (.tail _ (.tail _ (.tail _ (.head _))))).cell 1); have rr4 : wT117_2.cell? ⟨w97.heap.size + 1, 0, none⟩ = some (.int .i64 s1) := (by first | exact (F110d2.get (.tail _ (.head _))).cell 0 | exact (F110d2.get (.tail _ (.tail _ (.head _)))).cell 0); have rr5 : wT117_2.cell? ⟨w97.heap.size + 1, 1, none⟩ = some (.int .i64 s2) := (by first | exact (F110d2.get (.tail _ (.head _))).cell 1 | exact (F110d2.get (.tail _ (.tail _ (.head _)))).cell 1); have zz2 := hg_2.size; (try simp at zz2); (try have qx2 := (F110d2.get (.head _)).c2))
                | (go_at_call 32; refine (standard_c (volLo hs ls p1) (volHi hs ls p2) r3 r4 s3 s4 _).mono ?_; rintro e wT117_3 ⟨rfl, hg_3⟩; rw [stdV_ok (stdErr_zero (a := volLo hs ls p1) (b := volHi hs ls p2) (c := r3) (d := r4) (e := s3) (f := s4) (by omega) (by omega) (by omega))]; (first | have F110d3 := F110d2.gn hg_3 | have F110d3 := (F110d2.newAt 40 #[.int .i64 0, .int .i64 0] (n := wT117_2.heap.size) rfl).gn hg_3); (try clear rr0 rr1 rr2 rr3 rr4 rr5); have rr0 : wT117_3.cell? ⟨g33, 0, none⟩ = some (.int .i64 (volLo hs ls p1)) := (by first | exact (F110d3.get (.tail _ (.tail _ (.tail _ (.tail _ (.tail _ (.head _))))))).cell 0 | exact (F110d3.get (.tail _ (.tail _ (.tail _ (.tail _ (.tail _ (.tail _ (.head _)))))))).cell 0); have rr1 : wT117_3.cell? ⟨g33, 1, none⟩ = some (.int .i64 (volHi hs ls p2)) := (by first | exact (F110d3.get (.tail _ (.tail _ (.tail _ (.tail _ (.tail _ (.head _))))))).cell 1 | exact (F110d3.get (.tail _ (.tail _ (.tail _ (.tail _ (.tail _ (.tail _ (.head _)))))))).cell 1); have rr2 : wT117_3.cell? ⟨w97.heap.size, 0, none⟩ = some (.int .i64 r1) := (by first | exact (F110d3.get (.tail _ (.tail _ (.head _)))).cell 0 | exact (F110d3.get (.tail _ (.tail _ (.tail _ (.head _))))).cell 0); have rr3 : wT117_3.cell? ⟨w97.heap.size, 1, none⟩ = some (.int .i64 r2) := (by first | exact (F110d3.get (.tail _ (.tail _ (.head _)))).cell 1 | exact (F110d3.get (.tail _ (.tail _ (.tail _ (.head _))))).cell 1); have rr4 : wT117_3.cell? ⟨w97.heap.size + 1, 0, none⟩ = some (.int .i64 s1) := (by first | exact (F110d3.get (.tail _ (.head _))).cell 0 | exact (F110d3.get (.tail _ (.tail _ (.head _)))).cell 0); have rr5 : wT117_3.cell? ⟨w97.heap.size + 1, 1, none⟩ = some (.int .i64 s2) := (by first | exact (F110d3.get (.tail _ (.head _))).cell 1 | exact (F110d3.get (.tail _ (.tail _ (.head _)))).cell 1); have zz3 := hg_3.size; (try simp at zz3); (try have qx3 := (F110d3.get (.head _)).c2)))
              · exact ⟨rfl, rfl, wT117_3.heap.size, r3, r4, s3, s4, rfl, rfl, rfl, rfl, rfl, rfl, rfl, rfl, rfl, rfl, rfl, rfl, ⟨⟨ha1, ha2, ha3⟩, hb1, hb2, hb3⟩, F110d3.newAt 40 #[.int .i64 (stdLo (volLo hs ls p1) r3 r4 s3 s4), .int .i64 (stdHi (volHi hs ls p2) r3 r4 s3 s4)] (n := wT117_3.heap.size) rfl⟩
              · exact ⟨rfl, rfl, wT117_2.heap.size, r3, r4, s3, s4, rfl, rfl, rfl, rfl, rfl, rfl, rfl, rfl, rfl, rfl, rfl, rfl, ⟨⟨ha1, ha2, ha3⟩, hb1, hb2, hb3⟩, ((F110d3.set 0 (.int .i64 (stdLo (volLo hs ls p1) r3 r4 s3 s4))).set 1 (.int .i64 (stdHi (volHi hs ls p2) r3 r4 s3 s4)))⟩
              · exact ⟨rfl, rfl, wT117_1.heap.size, r3, r4, s3, s4, rfl, rfl, rfl, rfl, rfl, rfl, rfl, rfl, rfl, rfl, rfl, rfl, ⟨⟨ha1, ha2, ha3⟩, hb1, hb2, hb3⟩, ((F110d3.set 0 (.int .i64 (stdLo (volLo hs ls p1) r3 r4 s3 s4))).set 1 (.int .i64 (stdHi (volHi hs ls p2) r3 r4 s3 s4)))⟩
              · exact ⟨rfl, rfl, wT117.heap.size, r3, r4, s3, s4, rfl, rfl, rfl, rfl, rfl, rfl, rfl, rfl, rfl, rfl, rfl, rfl, ⟨⟨ha1, ha2, ha3⟩, hb1, hb2, hb3⟩, ((F110d3.set 0 (.int .i64 (stdLo (volLo hs ls p1) r3 r4 s3 s4))).set 1 (.int .i64 (stdHi (volHi hs ls p2) r3 r4 s3 s4)))⟩
        case atStart =>
          exact ⟨1, rfl, rfl, rfl, rfl, rfl, rfl, rfl, by omega, by omega, rfl, rfl⟩
      case first3 =>
        have F39d := F39.drew
        have qq0 := (F39.get (.tail _ (.tail _ (.tail _ (.tail _ (.head _)))))).c2
        have ll0 := (F39.get (.tail _ (.tail _ (.tail _ (.tail _ (.head _)))))).lt
        have qq1 := (F39.get (.tail _ (.tail _ (.tail _ (.head _))))).c2
        have ll1 := (F39.get (.tail _ (.tail _ (.tail _ (.head _))))).lt
        go_region_held3 (fun W => W.cell? ⟨w2.heap.size, 0, none⟩ = some (.slice (some ⟨x, ox, none⟩) hs.length c3) ∧ W.cell? ⟨w2.heap.size, 1, none⟩ = some (.slice (some ⟨y, oy, none⟩) ls.length c4) ∧ W.cell? ⟨w10.heap.size, 0, none⟩ = some (.int .i64 d1) ∧ W.cell? ⟨w10.heap.size, 1, none⟩ = some (.int .i64 d2)) (first | go_keep | exact ⟨far_cell (far_cell rr0 (by simp <;> omega) _) (by simp <;> omega) _, far_cell (far_cell rr1 (by simp <;> omega) _) (by simp <;> omega) _, far_cell (far_cell rr2 (by simp <;> omega) _) (by simp <;> omega) _, far_cell (far_cell rr3 (by simp <;> omega) _) (by simp <;> omega) _⟩)
          (first
          | (go_at_call 37; refine (span_c d1 (gi hs (hs.length - 1)) _).mono ?_; rintro e wT44_1 ⟨rfl, hg_1⟩; (first | have F39d1 := F39d.gn hg_1 | have F39d1 := (F39d.newAt 40 #[.int .i64 0, .int .i64 0] (n := wT44.heap.size) rfl).gn hg_1); have rr0 : wT44_1.cell? ⟨w2.heap.size, 0, none⟩ = some (.slice (some ⟨x, ox, none⟩) hs.length c3) := (by first | exact (F39d1.get (.tail _ (.tail _ (.tail _ (.tail _ (.head _)))))).cell 0 | exact (F39d1.get (.tail _ (.tail _ (.tail _ (.tail _ (.tail _ (.head _))))))).cell 0); have rr1 : wT44_1.cell? ⟨w2.heap.size, 1, none⟩ = some (.slice (some ⟨y, oy, none⟩) ls.length c4) := (by first | exact (F39d1.get (.tail _ (.tail _ (.tail _ (.tail _ (.head _)))))).cell 1 | exact (F39d1.get (.tail _ (.tail _ (.tail _ (.tail _ (.tail _ (.head _))))))).cell 1); have rr2 : wT44_1.cell? ⟨w10.heap.size, 0, none⟩ = some (.int .i64 d1) := (by first | exact (F39d1.get (.tail _ (.tail _ (.tail _ (.head _))))).cell 0 | exact (F39d1.get (.tail _ (.tail _ (.tail _ (.tail _ (.head _)))))).cell 0); have rr3 : wT44_1.cell? ⟨w10.heap.size, 1, none⟩ = some (.int .i64 d2) := (by first | exact (F39d1.get (.tail _ (.tail _ (.tail _ (.head _))))).cell 1 | exact (F39d1.get (.tail _ (.tail _ (.tail _ (.tail _ (.head _)))))).cell 1); have zz1 := hg_1.size; (try simp at zz1); (try have qx1 := (F39d1.get (.head _)).c2))
          | (go_at_call 30; refine (volume_c w1.heap.size w2.heap.size w1.heap.size w2.heap.size _ _ hs ls d1 (gi hs (hs.length - 1)) _ (by first | exact F39d1.ext.1 | exact (F39d1.alloc _).ext.1) (by first | exact F39d1.ext.2.1 | exact (F39d1.alloc _).ext.2.1) (by first | exact F39d1.ext.2.2 | exact (F39d1.alloc _).ext.2.2) (by first | exact F39d1.ext.2.2 | exact (F39d1.alloc _).ext.2.2)).mono ?_; rintro e wT44_2 ⟨rfl, hg_2⟩; rw [volV_ok (volErr_zero OK.out (a := d1) (b := gi hs (hs.length - 1)) hd1 (by omega) (Int.le_refl _))]; (first | have F39d2 := F39d1.gn hg_2 | have F39d2 := (F39d1.newAt 40 #[.int .i64 0, .int .i64 0] (n := wT44_1.heap.size) rfl).gn hg_2); (try clear rr0 rr1 rr2 rr3); have rr0 : wT44_2.cell? ⟨w2.heap.size, 0, none⟩ = some (.slice (some ⟨x, ox, none⟩) hs.length c3) := (by first | exact (F39d2.get (.tail _ (.tail _ (.tail _ (.tail _ (.head _)))))).cell 0 | exact (F39d2.get (.tail _ (.tail _ (.tail _ (.tail _ (.tail _ (.head _))))))).cell 0); have rr1 : wT44_2.cell? ⟨w2.heap.size, 1, none⟩ = some (.slice (some ⟨y, oy, none⟩) ls.length c4) := (by first | exact (F39d2.get (.tail _ (.tail _ (.tail _ (.tail _ (.head _)))))).cell 1 | exact (F39d2.get (.tail _ (.tail _ (.tail _ (.tail _ (.tail _ (.head _))))))).cell 1); have rr2 : wT44_2.cell? ⟨w10.heap.size, 0, none⟩ = some (.int .i64 d1) := (by first | exact (F39d2.get (.tail _ (.tail _ (.tail _ (.head _))))).cell 0 | exact (F39d2.get (.tail _ (.tail _ (.tail _ (.tail _ (.head _)))))).cell 0); have rr3 : wT44_2.cell? ⟨w10.heap.size, 1, none⟩ = some (.int .i64 d2) := (by first | exact (F39d2.get (.tail _ (.tail _ (.tail _ (.head _))))).cell 1 | exact (F39d2.get (.tail _ (.tail _ (.tail _ (.tail _ (.head _)))))).cell 1); have zz2 := hg_2.size; (try simp at zz2); (try have qx2 := (F39d2.get (.head _)).c2)))
        · exact ⟨rfl, rfl, wT44_2.heap.size, rfl, rfl, rfl, rfl, rfl, rfl, rfl, rfl, rfl, rfl, rfl, rfl, rfl, rfl, F39d2.newAt 40 #[.int .i64 (volLo hs ls d1), .int .i64 (volHi hs ls (gi hs (hs.length - 1)))] (n := wT44_2.heap.size) rfl⟩
        · exact ⟨rfl, rfl, wT44_1.heap.size, rfl, rfl, rfl, rfl, rfl, rfl, rfl, rfl, rfl, rfl, rfl, rfl, rfl, rfl, ((F39d2.set 0 (.int .i64 (volLo hs ls d1))).set 1 (.int .i64 (volHi hs ls (gi hs (hs.length - 1)))))⟩
        · exact ⟨rfl, rfl, wT44.heap.size, rfl, rfl, rfl, rfl, rfl, rfl, rfl, rfl, rfl, rfl, rfl, rfl, rfl, rfl, ((F39d2.set 0 (.int .i64 (volLo hs ls d1))).set 1 (.int .i64 (volHi hs ls (gi hs (hs.length - 1)))))⟩
    case first2 =>
      have F34d := F34.drew
      have qq0 := (F34.get (.tail _ (.tail _ (.tail _ (.head _))))).c2
      have ll0 := (F34.get (.tail _ (.tail _ (.tail _ (.head _))))).lt
      go_region_held3 (fun W => W.cell? ⟨w2.heap.size, 0, none⟩ = some (.slice (some ⟨x, ox, none⟩) hs.length c3) ∧ W.cell? ⟨w2.heap.size, 1, none⟩ = some (.slice (some ⟨y, oy, none⟩) ls.length c4)) (first | go_keep | exact ⟨far_cell (far_cell rr0 (by simp <;> omega) _) (by simp <;> omega) _, far_cell (far_cell rr1 (by simp <;> omega) _) (by simp <;> omega) _⟩)
        (first
        | (go_at_call 36; refine (one_c tr _).mono ?_; rintro e wT37_1 ⟨rfl, hg_1⟩; (first | have F34d1 := F34d.gn hg_1 | have F34d1 := (F34d.newAt 40 #[.int .i64 0, .int .i64 0] (n := wT37.heap.size) rfl).gn hg_1); have rr0 : wT37_1.cell? ⟨w2.heap.size, 0, none⟩ = some (.slice (some ⟨x, ox, none⟩) hs.length c3) := (by first | exact (F34d1.get (.tail _ (.tail _ (.tail _ (.head _))))).cell 0 | exact (F34d1.get (.tail _ (.tail _ (.tail _ (.tail _ (.head _)))))).cell 0); have rr1 : wT37_1.cell? ⟨w2.heap.size, 1, none⟩ = some (.slice (some ⟨y, oy, none⟩) ls.length c4) := (by first | exact (F34d1.get (.tail _ (.tail _ (.tail _ (.head _))))).cell 1 | exact (F34d1.get (.tail _ (.tail _ (.tail _ (.tail _ (.head _)))))).cell 1); have zz1 := hg_1.size; (try simp at zz1); (try have qx1 := (F34d1.get (.head _)).c2))
        | (go_at_call 30; refine (volume_c w1.heap.size w2.heap.size w1.heap.size w2.heap.size _ _ hs ls tr tr _ (by first | exact F34d1.ext.1 | exact (F34d1.alloc _).ext.1) (by first | exact F34d1.ext.2.1 | exact (F34d1.alloc _).ext.2.1) (by first | exact F34d1.ext.2.2 | exact (F34d1.alloc _).ext.2.2) (by first | exact F34d1.ext.2.2 | exact (F34d1.alloc _).ext.2.2)).mono ?_; rintro e wT37_2 ⟨rfl, hg_2⟩; rw [volV_ok (volErr_zero OK.out (a := tr) (b := tr) (by omega) (Int.le_refl _) (by omega))]; (first | have F34d2 := F34d1.gn hg_2 | have F34d2 := (F34d1.newAt 40 #[.int .i64 0, .int .i64 0] (n := wT37_1.heap.size) rfl).gn hg_2); (try clear rr0 rr1); have rr0 : wT37_2.cell? ⟨w2.heap.size, 0, none⟩ = some (.slice (some ⟨x, ox, none⟩) hs.length c3) := (by first | exact (F34d2.get (.tail _ (.tail _ (.tail _ (.head _))))).cell 0 | exact (F34d2.get (.tail _ (.tail _ (.tail _ (.tail _ (.head _)))))).cell 0); have rr1 : wT37_2.cell? ⟨w2.heap.size, 1, none⟩ = some (.slice (some ⟨y, oy, none⟩) ls.length c4) := (by first | exact (F34d2.get (.tail _ (.tail _ (.tail _ (.head _))))).cell 1 | exact (F34d2.get (.tail _ (.tail _ (.tail _ (.tail _ (.head _)))))).cell 1); have zz2 := hg_2.size; (try simp at zz2); (try have qx2 := (F34d2.get (.head _)).c2)))
      · exact ⟨rfl, rfl, wT37_2.heap.size, rfl, rfl, rfl, rfl, rfl, rfl, rfl, rfl, rfl, rfl, rfl, rfl, F34d2.newAt 40 #[.int .i64 (volLo hs ls tr), .int .i64 (volHi hs ls tr)] (n := wT37_2.heap.size) rfl⟩
      · exact ⟨rfl, rfl, wT37_1.heap.size, rfl, rfl, rfl, rfl, rfl, rfl, rfl, rfl, rfl, rfl, rfl, rfl, ((F34d2.set 0 (.int .i64 (volLo hs ls tr))).set 1 (.int .i64 (volHi hs ls tr)))⟩
      · exact ⟨rfl, rfl, wT37.heap.size, rfl, rfl, rfl, rfl, rfl, rfl, rfl, rfl, rfl, rfl, rfl, rfl, ((F34d2.set 0 (.int .i64 (volLo hs ls tr))).set 1 (.int .i64 (volHi hs ls tr)))⟩
  case first1 =>
    have F27d := F27.drew
    have qq0 := (F27.get (.tail _ (.tail _ (.head _)))).c2
    have ll0 := (F27.get (.tail _ (.tail _ (.head _)))).lt
    have qq1 := (F27.get (.tail _ (.head _))).c2
    have ll1 := (F27.get (.tail _ (.head _))).lt
    go_region_held3 (fun W => W.cell? ⟨w2.heap.size, 0, none⟩ = some (.slice (some ⟨x, ox, none⟩) hs.length c3) ∧ W.cell? ⟨w2.heap.size, 1, none⟩ = some (.slice (some ⟨y, oy, none⟩) ls.length c4) ∧ W.cell? ⟨w10.heap.size, 0, none⟩ = some (.int .i64 d1) ∧ W.cell? ⟨w10.heap.size, 1, none⟩ = some (.int .i64 d2)) (first | go_keep | exact ⟨far_cell (far_cell rr0 (by simp <;> omega) _) (by simp <;> omega) _, far_cell (far_cell rr1 (by simp <;> omega) _) (by simp <;> omega) _, far_cell (far_cell rr2 (by simp <;> omega) _) (by simp <;> omega) _, far_cell (far_cell rr3 (by simp <;> omega) _) (by simp <;> omega) _⟩)
      (first
      | (go_at_call 35; refine (part_c sb d1 d2 _ (by first | exact F27d.sd | exact (F27d.alloc _).sd) (by omega) (by omega) (by omega)).mono ?_; rintro e wT32_1 ⟨v, rfl, ⟨p1, p2, rfl, hp1, hp2, hp3⟩, hs_1, hg_1⟩; (first | have F27d1 := F27d.go hg_1 hs_1 | have F27d1 := (F27d.newAt 40 #[.int .i64 0, .int .i64 0] (n := wT32.heap.size) rfl).go hg_1 hs_1); have rr0 : wT32_1.cell? ⟨w2.heap.size, 0, none⟩ = some (.slice (some ⟨x, ox, none⟩) hs.length c3) := (by first | exact (F27d1.get (.tail _ (.tail _ (.head _)))).cell 0 | exact (F27d1.get (.tail _ (.tail _ (.tail _ (.head _))))).cell 0); have rr1 : wT32_1.cell? ⟨w2.heap.size, 1, none⟩ = some (.slice (some ⟨y, oy, none⟩) ls.length c4) := (by first | exact (F27d1.get (.tail _ (.tail _ (.head _)))).cell 1 | exact (F27d1.get (.tail _ (.tail _ (.tail _ (.head _))))).cell 1); have rr2 : wT32_1.cell? ⟨w10.heap.size, 0, none⟩ = some (.int .i64 d1) := (by first | exact (F27d1.get (.tail _ (.head _))).cell 0 | exact (F27d1.get (.tail _ (.tail _ (.head _)))).cell 0); have rr3 : wT32_1.cell? ⟨w10.heap.size, 1, none⟩ = some (.int .i64 d2) := (by first | exact (F27d1.get (.tail _ (.head _))).cell 1 | exact (F27d1.get (.tail _ (.tail _ (.head _)))).cell 1); have zz1 := hg_1.size; (try simp at zz1); (try have qx1 := (F27d1.get (.head _)).c2))
      | (go_at_call 30; refine (volume_c w1.heap.size w2.heap.size w1.heap.size w2.heap.size _ _ hs ls p1 p2 _ (by first | exact F27d1.ext.1 | exact (F27d1.alloc _).ext.1) (by first | exact F27d1.ext.2.1 | exact (F27d1.alloc _).ext.2.1) (by first | exact F27d1.ext.2.2 | exact (F27d1.alloc _).ext.2.2) (by first | exact F27d1.ext.2.2 | exact (F27d1.alloc _).ext.2.2)).mono ?_; rintro e wT32_2 ⟨rfl, hg_2⟩; rw [volV_ok (volErr_zero OK.out (a := p1) (b := p2) (by omega) hp2 (by omega))]; (first | have F27d2 := F27d1.gn hg_2 | have F27d2 := (F27d1.newAt 40 #[.int .i64 0, .int .i64 0] (n := wT32_1.heap.size) rfl).gn hg_2); (try clear rr0 rr1 rr2 rr3); have rr0 : wT32_2.cell? ⟨w2.heap.size, 0, none⟩ = some (.slice (some ⟨x, ox, none⟩) hs.length c3) := (by first | exact (F27d2.get (.tail _ (.tail _ (.head _)))).cell 0 | exact (F27d2.get (.tail _ (.tail _ (.tail _ (.head _))))).cell 0); have rr1 : wT32_2.cell? ⟨w2.heap.size, 1, none⟩ = some (.slice (some ⟨y, oy, none⟩) ls.length c4) := (by first | exact (F27d2.get (.tail _ (.tail _ (.head _)))).cell 1 | exact (F27d2.get (.tail _ (.tail _ (.tail _ (.head _))))).cell 1); have rr2 : wT32_2.cell? ⟨w10.heap.size, 0, none⟩ = some (.int .i64 d1) := (by first | exact (F27d2.get (.tail _ (.head _))).cell 0 | exact (F27d2.get (.tail _ (.tail _ (.head _)))).cell 0); have rr3 : wT32_2.cell? ⟨w10.heap.size, 1, none⟩ = some (.int .i64 d2) := (by first | exact (F27d2.get (.tail _ (.head _))).cell 1 | exact (F27d2.get (.tail _ (.tail _ (.head _)))).cell 1); have zz2 := hg_2.size; (try simp at zz2); (try have qx2 := (F27d2.get (.head _)).c2)))
    · exact ⟨rfl, rfl, wT32_2.heap.size, p1, p2, rfl, rfl, rfl, rfl, rfl, rfl, rfl, rfl, rfl, rfl, ⟨hp1, hp2, hp3⟩, F27d2.newAt 40 #[.int .i64 (volLo hs ls p1), .int .i64 (volHi hs ls p2)] (n := wT32_2.heap.size) rfl⟩
    · exact ⟨rfl, rfl, wT32_1.heap.size, p1, p2, rfl, rfl, rfl, rfl, rfl, rfl, rfl, rfl, rfl, rfl, ⟨hp1, hp2, hp3⟩, ((F27d2.set 0 (.int .i64 (volLo hs ls p1))).set 1 (.int .i64 (volHi hs ls p2)))⟩
    · exact ⟨rfl, rfl, wT32.heap.size, p1, p2, rfl, rfl, rfl, rfl, rfl, rfl, rfl, rfl, rfl, rfl, ⟨hp1, hp2, hp3⟩, ((F27d2.set 0 (.int .i64 (volLo hs ls p1))).set 1 (.int .i64 (volHi hs ls p2)))⟩
end Go.Proofs.Ytfifldbinnkdmaa
