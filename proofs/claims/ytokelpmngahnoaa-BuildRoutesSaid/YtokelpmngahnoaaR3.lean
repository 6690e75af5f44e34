/- build: the lengths of shortest paths, walked. -/
import Derived.Test.YtokelpmngahnoaaR2
import Derived.Test.YtokelpmngahnoaaMeet
import Derived.Test.YtokelpmngahnoaaGraph
import Derived.Test.YtokelpmngahnoaaHs
import Derived.Test.YtokelpmngahnoaaK1
set_option linter.unusedVariables false
set_option linter.unusedSimpArgs false
set_option linter.unnecessarySimpa false
namespace Go.Proofs.Ytokelpmngahnoaa
open Go.RowKit
set_option maxRecDepth 100000
attribute [local go_sem] Oper.semAt_some
theorem stepM_yes {M : MatI} {m i k : Nat} {x y z : Int} (hx : mget M i m = x) (hy : mget M m k = y) (hz : mget M i k = z) (h : 0 ≤ x ∧ 0 ≤ y ∧ (z < 0 ∨ x + y < z)) : stepM M m i k = mset M i k (x + y) := by
  subst hx hy hz
  rw [stepM, if_pos h]
theorem stepM_no {M : MatI} {m i k : Nat} {x y z : Int} (hx : mget M i m = x) (hy : mget M m k = y) (hz : mget M i k = z) (h : ¬ (0 ≤ x ∧ 0 ≤ y ∧ (z < 0 ∨ x + y < z))) : stepM M m i k = M := by
  subst hx hy hz
  rw [stepM, if_neg h]
theorem fwK_yes {X : MatI} {m i k : Nat} {x y z : Int} (hx : mget (fwK X m i k) i m = x) (hy : mget (fwK X m i k) m k = y) (hz : mget (fwK X m i k) i k = z) (h : 0 ≤ x ∧ 0 ≤ y ∧ (z < 0 ∨ x + y < z)) : fwK X m i (k + 1) = mset (fwK X m i k) i k (x + y) := stepM_yes hx hy hz h
theorem fwK_no {X : MatI} {m i k : Nat} {x y z : Int} (hx : mget (fwK X m i k) i m = x) (hy : mget (fwK X m i k) m k = y) (hz : mget (fwK X m i k) i k = z) (h : ¬ (0 ≤ x ∧ 0 ≤ y ∧ (z < 0 ∨ x + y < z))) : fwK X m i (k + 1) = fwK X m i k := stepM_no hx hy hz h
theorem legM_no {u : Lg → Bool} {M : MatI} {l : Lg} {x : Int} (hx : mget M l.a.toNat l.b.toNat = x) (h : u l = false ∨ ¬ (x < 0 ∨ l.long < x)) : legM u M l = M := by
  subst hx
  rw [legM, if_neg (by rintro ⟨h1, h2⟩; rcases h with h | h; rw [h] at h1; cases h1; exact h h2)]
theorem legM_yes {u : Lg → Bool} {M : MatI} {l : Lg} {x : Int} (hx : mget M l.a.toNat l.b.toNat = x) (hu : u l = true) (h : x < 0 ∨ l.long < x) : legM u M l = mset (mset M l.a.toNat l.b.toNat l.long) l.b.toNat l.a.toNat l.long := by
  subst hx
  rw [legM, if_pos ⟨hu, h⟩]
def LensR (u : Lg → Bool) (ls : List Lg) (n : Nat) (w : World) : Ending → World → Prop := fun e w' => ∃ (b : Nat) (gs : List Nat), e = .returned (.slice (some ⟨b, 0, none⟩) n n) ∧ Bun w [rmat w.heap.size b n gs (lenM ls u n)] w'

set_option maxHeartbeats 32000000 in
theorem lengthst_c (lo hi : Nat) (v : Value) (ls : List Lg) (n : Nat) (w : World) (hl : Sl lgEnc 5 lo hi w v ls) (h2 : hi ≤ w.heap.size) (hls : ∀ l ∈ ls, LgOk n l) (hn20 : n ≤ 20) :
    Calls Try.prog 35 #[.agg #[.int .i64 (n : Int), v], .bool true] w (LensR useS ls n w) := by
  have F1 : Bun w [] w := Bun.nil _
  have hm_ls := hl.len
  unfold maxLen at hm_ls
  obtain ⟨aL, cL, rfl⟩ := hl.any
  have F2 := F1.sl0 hl h2 rfl
  clear F1
  clear hl
  have HLS := Lib.hid hls
  clear hls
  go_enter Try.func35, Try.ntmps35
  have F3 := F2.new 67 #[.int .i64 (n : Int), .slice aL ls.length cL] (n := w.heap.size) (by simp)
  clear F2
  go_wp2_with (at_make; refine wpList_mkRows rfl _ _ rfl n rfl rfl F3 (by omega) (w.heap.size + 1) (by first | rfl | simp) ?_; intro w4 hB5 hs6; refine Hid.out ?_)
  refine Lib.hid ?_
  (try simp at hs6)
  have F7 := hB5
  clear F3
  go_wp2_with fail
  have F8 := F7.mat0
  clear F7
  (skip)
  obtain ⟨HI9_, HI90⟩ : ∃ I : (Nat → Value) → List Deferred → World → Prop, I = (fun t ds wr => ∃ (i : Nat) (gs : List Nat), t 1 = .bool true ∧ t 2 = .pointer (some ⟨w.heap.size, 0, none⟩) ∧ t 5 = .slice (some ⟨w.heap.size + 1, 0, none⟩) n n ∧ t 6 = .int .i64 (i : Int) ∧ i ≤ n ∧ Hid (gs.length = i) ∧ ds = [] ∧ w4.heap.size ≤ wr.heap.size ∧ Bun w [rmat w.heap.size (w.heap.size + 1) n gs (mat0 n i), rbox w.heap.size 67 #[.int .i64 (n : Int), .slice aL ls.length cL], rsl lgEnc 5 lo hi (.slice aL ls.length cL) ls] wr) := ⟨_, rfl⟩
  have HI9 := Lib.hid HI90
  clear HI90
  refine wp_loopS 186 rfl HI9_ (fun t wr => n - (intOf (t 6)).toNat) ?atStart1 ?round1
  case round1 =>
    intro t ds wr hHid
    rw [HI9.out] at hHid
    obtain ⟨i, gs, e1, e2, e5, e6, hrel⟩ := hHid
    have e : ((List.range 186).map t).toArray = #[t 0, t 1, t 2, t 3, t 4, t 5, t 6, t 7, t 8, t 9, t 10, t 11, t 12, t 13, t 14, t 15, t 16, t 17, t 18, t 19, t 20, t 21, t 22, t 23, t 24, t 25, t 26, t 27, t 28, t 29, t 30, t 31, t 32, t 33, t 34, t 35, t 36, t 37, t 38, t 39, t 40, t 41, t 42, t 43, t 44, t 45, t 46, t 47, t 48, t 49, t 50, t 51, t 52, t 53, t 54, t 55, t 56, t 57, t 58, t 59, t 60, t 61, t 62, t 63, t 64, t 65, t 66, t 67, t 68, t 69, t 70, t 71, t 72, t 73, t 74, t 75, t 76, t 77, t 78, t 79, t 80, t 81, t 82, t 83, t 84, t 85, t 86, t 87, t 88, t 89, t 90, t 91, t 92, t 93, t 94, t 95, t 96, t 97, t 98, t 99, t 100, t 101, t 102, t 103, t 104, t 105, t 106, t 107, t 108, t 109, t 110, t 111, t 112, t 113, t 114, t 115, t 116, t 117, t 118, t 119, t 120, t 121, t 122, t 123, t 124, t 125, t 126, t 127, t 128, t 129, t 130, t 131, t 132, t 133, t 134, t 135, t 136, t 137, t 138, t 139, t 140, t 141, t 142, t 143, t 144, t 145, t 146, t 147, t 148, t 149, t 150, t 151, t 152, t 153, t 154, t 155, t 156, t 157, t 158, t 159, t 160, t 161, t 162, t 163, t 164, t 165, t 166, t 167, t 168, t 169, t 170, t 171, t 172, t 173, t 174, t 175, t 176, t 177, t 178, t 179, t 180, t 181, t 182, t 183, t 184, t 185] := rfl
    (try dsimp only at e)
    rw [e1, e2, e5, e6] at e
    rw [e]
    simp only [e6]
    clear e e1 e2 e5 e6
    obtain ⟨hi_, HGL, rfl, hs11, hF10⟩ := hrel
    clear F8
    obtain ⟨w12, rfl⟩ : ∃ x_ : World, x_ = wr := ⟨_, rfl⟩
    by_cases c13 : (i : Int) < (n : Int)
    · skip
      have c13H := Lib.hid c13
      have b14 := hF10.bx2 1 rfl
      go_wp2_with (at_make; refine wpList_mkInt rfl _ _ rfl n rfl rfl hF10 (by omega) w12.heap.size (by first | rfl | simp) ?_; intro w15 hB16 hs17; refine Hid.out ?_)
      refine Lib.hid ?_
      (try simp at hs17)
      clear b14
      have F18 := hB16
      clear hF10
      have ge19 : World.cell? _ ⟨w.heap.size + 1, i, none⟩ = some (.slice none 0 0) := (MatP.oz (F18.at 1 rfl : MatP w.heap.size (w.heap.size + 1) n gs (mat0 n i) _) (by have h_ := HGL.out; omega) HGL.out)
      have gl20 := cell_lt ge19
      have ge21 : World.frozen? _ ⟨w.heap.size + 1, i, none⟩ = false := (MatP.fo (F18.at 1 rfl : MatP w.heap.size (w.heap.size + 1) n gs (mat0 n i) _) _)
      go_wp2_with fail
      clear ge19 gl20 ge21
      have F22 := F18.matRow (by have h_ := HGL.out; omega) HGL.out
      clear F18
      have hgl2_ : (gs ++ [w12.heap.size]).length = i + 1 := by rw [List.length_append, HGL.out]; rfl
      have hgi_ : (gs ++ [w12.heap.size])[i]? = some w12.heap.size := by rw [List.getElem?_append_right (by rw [HGL.out]; exact Nat.le_refl _), HGL.out, Nat.sub_self]; rfl
      obtain ⟨gs2, hgs2_⟩ : ∃ x_, gs ++ [w12.heap.size] = x_ := ⟨_, rfl⟩
      rw [hgs2_] at hgl2_ hgi_ F22
      have HG2 := Lib.hid hgl2_
      have HGI := Lib.hid hgi_
      clear hgl2_ hgi_ hgs2_
      rw [← fillR_zero] at F22
      obtain ⟨HI23_, HI230⟩ : ∃ I : (Nat → Value) → List Deferred → World → Prop, I = (fun t ds wr => ∃ (k : Nat), t 1 = .bool true ∧ t 2 = .pointer (some ⟨w.heap.size, 0, none⟩) ∧ t 5 = .slice (some ⟨w.heap.size + 1, 0, none⟩) n n ∧ t 6 = .int .i64 (i : Int) ∧ t 7 = .int .i64 (k : Int) ∧ k ≤ n ∧ ds = [] ∧ w15.heap.size ≤ wr.heap.size ∧ Bun w [rmat w.heap.size (w.heap.size + 1) n gs2 (mat0 n i ++ [fillR n k]), rbox w.heap.size 67 #[.int .i64 (n : Int), .slice aL ls.length cL], rsl lgEnc 5 lo hi (.slice aL ls.length cL) ls] wr) := ⟨_, rfl⟩
      have HI23 := Lib.hid HI230
      clear HI230
      refine wp_loopS 186 rfl HI23_ (fun t wr => n - (intOf (t 7)).toNat) ?atStart2 ?round2
      case round2 =>
        intro t ds wr hHid
        rw [HI23.out] at hHid
        obtain ⟨k, e1, e2, e5, e6, e7, hrel⟩ := hHid
        have e : ((List.range 186).map t).toArray = #[t 0, t 1, t 2, t 3, t 4, t 5, t 6, t 7, t 8, t 9, t 10, t 11, t 12, t 13, t 14, t 15, t 16, t 17, t 18, t 19, t 20, t 21, t 22, t 23, t 24, t 25, t 26, t 27, t 28, t 29, t 30, t 31, t 32, t 33, t 34, t 35, t 36, t 37, t 38, t 39, t 40, t 41, t 42, t 43, t 44, t 45, t 46, t 47, t 48, t 49, t 50, t 51, t 52, t 53, t 54, t 55, t 56, t 57, t 58, t 59, t 60, t 61, t 62, t 63, t 64, t 65, t 66, t 67, t 68, t 69, t 70, t 71, t 72, t 73, t 74, t 75, t 76, t 77, t 78, t 79, t 80, t 81, t 82, t 83, t 84, t 85, t 86, t 87, t 88, t 89, t 90, t 91, t 92, t 93, t 94, t 95, t 96, t 97, t 98, t 99, t 100, t 101, t 102, t 103, t 104, t 105, t 106, t 107, t 108, t 109, t 110, t 111, t 112, t 113, t 114, t 115, t 116, t 117, t 118, t 119, t 120, t 121, t 122, t 123, t 124, t 125, t 126, t 127, t 128, t 129, t 130, t 131, t 132, t 133, t 134, t 135, t 136, t 137, t 138, t 139, t 140, t 141, t 142, t 143, t 144, t 145, t 146, t 147, t 148, t 149, t 150, t 151, t 152, t 153, t 154, t 155, t 156, t 157, t 158, t 159, t 160, t 161, t 162, t 163, t 164, t 165, t 166, t 167, t 168, t 169, t 170, t 171, t 172, t 173, t 174, t 175, t 176, t 177, t 178, t 179, t 180, t 181, t 182, t 183, t 184, t 185] := rfl
        (try dsimp only at e)
        rw [e1, e2, e5, e6, e7] at e
        rw [e]
        simp only [e7]
        clear e e1 e2 e5 e6 e7
        obtain ⟨hk_, rfl, hs25, hF24⟩ := hrel
        clear F22
        obtain ⟨w26, rfl⟩ : ∃ x_ : World, x_ = wr := ⟨_, rfl⟩
        by_cases c27 : (k : Int) < (n : Int)
        · skip
          have c27H := Lib.hid c27
          have b28 := hF24.bx2 1 rfl
          have ge29 : World.cell? _ ⟨w.heap.size + 1, i, none⟩ = some (.slice (some ⟨w12.heap.size, 0, none⟩) n n) := (MatP.o (hF24.at 0 rfl : MatP w.heap.size (w.heap.size + 1) n gs2 (mat0 n i ++ [fillR n k]) _) HGI.out)
          have gl30 := cell_lt ge29
          have ge31 : World.cell? _ ⟨w12.heap.size, k, none⟩ = some (.int .i64 0) := (MatP.c (hF24.at 0 rfl : MatP w.heap.size (w.heap.size + 1) n gs2 (mat0 n i ++ [fillR n k]) _) HGI.out (mat_at _) (fillR_at (n := n) (k := k) (by omega)))
          have gl32 := cell_lt ge31
          have ge33 : World.frozen? _ ⟨w12.heap.size, k, none⟩ = false := (MatP.fc (hF24.at 0 rfl : MatP w.heap.size (w.heap.size + 1) n gs2 (mat0 n i ++ [fillR n k]) _) (List.mem_of_getElem? HGI.out) _)
          go_wp2_with fail
          clear b28 ge29 gl30 ge31 gl32 ge33
          have F34 := hF24.matSet HGI.out (mat_at _) (fillR_at (n := n) (k := k) (by omega)) (-1)
          clear hF24
          rw [mat_fill (n := n) (k := k) (by omega)] at F34
          (first | refine ⟨by kernel_rfl, ?_, ?_⟩ | refine ⟨rfl, ?_, ?_⟩ | refine ⟨?_, ?_⟩)
          · rw [HI23.out]; exact ⟨k + 1, (by first | kernel_rfl | rfl), (by first | kernel_rfl | rfl), (by first | kernel_rfl | rfl), (by first | kernel_rfl | rfl), (by show Value.int .i64 ((k : Int) + 1) = _; simp), (by omega), (by first | rfl | simp), (by first | omega | (simp; done) | (simp; omega)), F34⟩
          · simp [slot, intOf]; omega
        · skip
          have c27H := Lib.hid c27
          have c27a : decide ((k : Int) < (n : Int)) = false := dec_f c27
          have hkn_ : k = n := by omega
          rw [hkn_] at hF24
          clear hkn_
          have b35 := hF24.bx2 1 rfl
          have ge36 : World.cell? _ ⟨w.heap.size + 1, i, none⟩ = some (.slice (some ⟨w12.heap.size, 0, none⟩) n n) := (MatP.o (hF24.at 0 rfl : MatP w.heap.size (w.heap.size + 1) n gs2 (mat0 n i ++ [fillR n n]) _) HGI.out)
          have gl37 := cell_lt ge36
          have ge38 : World.cell? _ ⟨w12.heap.size, i, none⟩ = some (.int .i64 (-1)) := (MatP.c (hF24.at 0 rfl : MatP w.heap.size (w.heap.size + 1) n gs2 (mat0 n i ++ [fillR n n]) _) HGI.out (mat_at _) (fillN_at (n := n) (i := i) (by omega)))
          have gl39 := cell_lt ge38
          have ge40 : World.frozen? _ ⟨w12.heap.size, i, none⟩ = false := (MatP.fc (hF24.at 0 rfl : MatP w.heap.size (w.heap.size + 1) n gs2 (mat0 n i ++ [fillR n n]) _) (List.mem_of_getElem? HGI.out) _)
          go_wp2_with fail
          clear b35 ge36 gl37 ge38 gl39 ge40
          have F41 := hF24.matSet HGI.out (mat_at _) (fillN_at (n := n) (i := i) (by omega)) 0
          clear hF24
          rw [mat_last] at F41
          (first | refine ⟨by kernel_rfl, ?_, ?_⟩ | refine ⟨rfl, ?_, ?_⟩ | refine ⟨?_, ?_⟩)
          · rw [HI9.out]; exact ⟨i + 1, gs2, (by first | kernel_rfl | rfl), (by first | kernel_rfl | rfl), (by first | kernel_rfl | rfl), (by show Value.int .i64 ((i : Int) + 1) = _; simp), (by omega), HG2, (by first | rfl | simp), (by first | omega | (simp; done) | (simp; omega)), F41⟩
          · simp [slot, intOf]; omega
      case atStart2 =>
        rw [HI23.out]
        exact ⟨0, (by first | kernel_rfl | rfl), (by first | kernel_rfl | rfl), (by first | kernel_rfl | rfl), (by first | kernel_rfl | rfl), rfl, Nat.zero_le _, rfl, (by first | exact Nat.le_refl _ | omega | (simp; done) | (simp; omega)), F22⟩
    · skip
      have c13H := Lib.hid c13
      have c13a : decide ((i : Int) < (n : Int)) = false := dec_f c13
      have hin_ : i = n := by omega
      rw [hin_] at hF10
      have HGN : Hid (gs.length = n) := Lib.hid (by rw [HGL.out, hin_])
      rw [← legK_zero (u := useS) (ls := ls)] at hF10
      clear hin_
      have b42 := hF10.bx2 1 rfl
      go_wp2_with fail
      clear b42
      obtain ⟨HI43_, HI430⟩ : ∃ I : (Nat → Value) → List Deferred → World → Prop, I = (fun t ds wr => ∃ (q : Nat), t 1 = .bool true ∧ t 2 = .pointer (some ⟨w.heap.size, 0, none⟩) ∧ t 5 = .slice (some ⟨w.heap.size + 1, 0, none⟩) n n ∧ t 8 = .int .i64 (q : Int) ∧ q ≤ ls.length ∧ ds = [] ∧ w12.heap.size ≤ wr.heap.size ∧ Bun w [rmat w.heap.size (w.heap.size + 1) n gs (legK useS ls n q), rbox w.heap.size 67 #[.int .i64 (n : Int), .slice aL ls.length cL], rsl lgEnc 5 lo hi (.slice aL ls.length cL) ls] wr) := ⟨_, rfl⟩
      have HI43 := Lib.hid HI430
      clear HI430
      refine wp_loopS 186 rfl HI43_ (fun t wr => ls.length - (intOf (t 8)).toNat) ?atStart3 ?round3
      case round3 =>
        intro t ds wr hHid
        rw [HI43.out] at hHid
        obtain ⟨q, e1, e2, e5, e8, hrel⟩ := hHid
        have e : ((List.range 186).map t).toArray = #[t 0, t 1, t 2, t 3, t 4, t 5, t 6, t 7, t 8, t 9, t 10, t 11, t 12, t 13, t 14, t 15, t 16, t 17, t 18, t 19, t 20, t 21, t 22, t 23, t 24, t 25, t 26, t 27, t 28, t 29, t 30, t 31, t 32, t 33, t 34, t 35, t 36, t 37, t 38, t 39, t 40, t 41, t 42, t 43, t 44, t 45, t 46, t 47, t 48, t 49, t 50, t 51, t 52, t 53, t 54, t 55, t 56, t 57, t 58, t 59, t 60, t 61, t 62, t 63, t 64, t 65, t 66, t 67, t 68, t 69, t 70, t 71, t 72, t 73, t 74, t 75, t 76, t 77, t 78, t 79, t 80, t 81, t 82, t 83, t 84, t 85, t 86, t 87, t 88, t 89, t 90, t 91, t 92, t 93, t 94, t 95, t 96, t 97, t 98, t 99, t 100, t 101, t 102, t 103, t 104, t 105, t 106, t 107, t 108, t 109, t 110, t 111, t 112, t 113, t 114, t 115, t 116, t 117, t 118, t 119, t 120, t 121, t 122, t 123, t 124, t 125, t 126, t 127, t 128, t 129, t 130, t 131, t 132, t 133, t 134, t 135, t 136, t 137, t 138, t 139, t 140, t 141, t 142, t 143, t 144, t 145, t 146, t 147, t 148, t 149, t 150, t 151, t 152, t 153, t 154, t 155, t 156, t 157, t 158, t 159, t 160, t 161, t 162, t 163, t 164, t 165, t 166, t 167, t 168, t 169, t 170, t 171, t 172, t 173, t 174, t 175, t 176, t 177, t 178, t 179, t 180, t 181, t 182, t 183, t 184, t 185] := rfl
        (try dsimp only at e)
        rw [e1, e2, e5, e8] at e
        rw [e]
        simp only [e8]
        clear e e1 e2 e5 e8
        obtain ⟨hq_, rfl, hs45, hF44⟩ := hrel
        clear hF10
        obtain ⟨w46, rfl⟩ : ∃ x_ : World, x_ = wr := ⟨_, rfl⟩
        by_cases c47 : (q : Int) < (ls.length : Int)
        · skip
          have c47H := Lib.hid c47
          obtain ⟨x48, o49, e_⟩ := Sl.addr (hF44.at 2 rfl : Sl lgEnc 5 lo hi _ (.slice aL ls.length cL) ls) (by omega)
          subst e_
          obtain ⟨z, hz50_⟩ : ∃ z_, ls[q]? = some z_ := ⟨_, List.getElem?_eq_getElem (by omega)⟩
          have hz50 := Lib.hid hz50_
          clear hz50_
          have HZ := Lib.hid (HLS.out z (List.mem_of_getElem? hz50.out))
          have hza := HZ.out.a
          have hzb := HZ.out.b
          have hzl := HZ.out.long
          have hzo := HZ.out.op
          have hzn := HZ.out.ne
          have HSH := Lib.hid (legK_I (u := useS) HLS.out q).shp
          obtain ⟨x, hx_⟩ : ∃ x_, mget (legK useS ls n q) z.a.toNat z.b.toNat = x_ := ⟨_, rfl⟩
          have HX := Lib.hid hx_
          have hxb : -1 ≤ x ∧ x ≤ 1000000 := by rw [← hx_]; exact legK_bd HLS.out q (by omega) _ _ (by omega) (by omega)
          clear hx_
          obtain ⟨ga, h_⟩ : ∃ g_, gs[z.a.toNat]? = some g_ := ⟨_, List.getElem?_eq_getElem (by have h_ := HGN.out; omega)⟩
          have Hga := Lib.hid h_
          clear h_
          obtain ⟨gb, h_⟩ : ∃ g_, gs[z.b.toNat]? = some g_ := ⟨_, List.getElem?_eq_getElem (by have h_ := HGN.out; omega)⟩
          have Hgb := Lib.hid h_
          clear h_
          by_cases c51 : z.op = 2
          · skip
            have c51a : (z.op == 2) = true := beq_t c51
            have c51b : (z.op != 2) = false := bne_f c51
            have c51H := Lib.hid c51
            clear c51
            have b52 := hF44.bx2 1 rfl
            have ge53 : World.cell? _ ⟨x48, o49 + q * 5, none⟩ = some (.int .i64 z.a) := (((hF44.at 2 rfl : Sl lgEnc 5 lo hi _ (.slice (some ⟨x48, o49, none⟩) ls.length cL) ls)).cells hz50.out 0 _ rfl)
            have gl54 := cell_lt ge53
            have ge55 : World.cell? _ ⟨x48, o49 + q * 5 + 1, none⟩ = some (.int .i64 z.b) := (((hF44.at 2 rfl : Sl lgEnc 5 lo hi _ (.slice (some ⟨x48, o49, none⟩) ls.length cL) ls)).cells hz50.out 1 _ rfl)
            have ge56 : World.cell? _ ⟨x48, o49 + q * 5 + 2, none⟩ = some (.int .i64 z.long) := (((hF44.at 2 rfl : Sl lgEnc 5 lo hi _ (.slice (some ⟨x48, o49, none⟩) ls.length cL) ls)).cells hz50.out 2 _ rfl)
            have ge57 : World.cell? _ ⟨x48, o49 + q * 5 + 3, none⟩ = some (.int .i64 z.op) := (((hF44.at 2 rfl : Sl lgEnc 5 lo hi _ (.slice (some ⟨x48, o49, none⟩) ls.length cL) ls)).cells hz50.out 3 _ rfl)
            have ge58 : World.cell? _ ⟨x48, o49 + q * 5 + 4, none⟩ = some (.int .i64 z.cost) := (((hF44.at 2 rfl : Sl lgEnc 5 lo hi _ (.slice (some ⟨x48, o49, none⟩) ls.length cL) ls)).cells hz50.out 4 _ rfl)
            go_wp2_with fail
            clear b52 ge53 gl54 ge55 ge56 ge57 ge58
            have F59 := hF44.new 75 #[.int .i64 z.a, .int .i64 z.b, .int .i64 z.long, .int .i64 z.op, .int .i64 z.cost] (n := w46.heap.size) (by simp)
            clear hF44
            have F60 : Bun w [rmat w.heap.size (w.heap.size + 1) n gs (legK useS ls n q), rbox w.heap.size 67 #[.int .i64 (n : Int), .slice (some ⟨x48, o49, none⟩) ls.length cL], rsl lgEnc 5 lo hi (.slice (some ⟨x48, o49, none⟩) ls.length cL) ls] _ := F59.pick [1, 2, 3] (by decide) rfl
            clear F59
            (first | refine ⟨by kernel_rfl, ?_, ?_⟩ | refine ⟨rfl, ?_, ?_⟩ | refine ⟨?_, ?_⟩)
            · rw [HI43.out]; exact ⟨q + 1, (by first | kernel_rfl | rfl), (by first | kernel_rfl | rfl), (by first | kernel_rfl | rfl), (by show Value.int .i64 ((q : Int) + 1) = _; simp), (by omega), (by first | rfl | simp), (by first | omega | (simp; done) | (simp; omega)), (by rw [legK_next hz50.out, legM_no HX.out (.inl (by unfold useS; simp; have h_ := c51H.out; omega))]; exact F60)⟩
            · simp [slot, intOf]; omega
          · skip
            have c51a : (z.op == 2) = false := beq_f c51
            have c51b : (z.op != 2) = true := bne_t c51
            have c51H := Lib.hid c51
            clear c51
            by_cases c61 : z.op = 1
            · skip
              have c61a : (z.op == 1) = true := beq_t c61
              have c61b : (z.op != 1) = false := bne_f c61
              have c61H := Lib.hid c61
              clear c61
              by_cases c62 : x < 0
              · skip
                have c62H := Lib.hid c62
                have b63 := hF44.bx2 1 rfl
                have ge64 : World.cell? _ ⟨x48, o49 + q * 5, none⟩ = some (.int .i64 z.a) := (((hF44.at 2 rfl : Sl lgEnc 5 lo hi _ (.slice (some ⟨x48, o49, none⟩) ls.length cL) ls)).cells hz50.out 0 _ rfl)
                have gl65 := cell_lt ge64
                have ge66 : World.cell? _ ⟨x48, o49 + q * 5 + 1, none⟩ = some (.int .i64 z.b) := (((hF44.at 2 rfl : Sl lgEnc 5 lo hi _ (.slice (some ⟨x48, o49, none⟩) ls.length cL) ls)).cells hz50.out 1 _ rfl)
                have ge67 : World.cell? _ ⟨x48, o49 + q * 5 + 2, none⟩ = some (.int .i64 z.long) := (((hF44.at 2 rfl : Sl lgEnc 5 lo hi _ (.slice (some ⟨x48, o49, none⟩) ls.length cL) ls)).cells hz50.out 2 _ rfl)
                have ge68 : World.cell? _ ⟨x48, o49 + q * 5 + 3, none⟩ = some (.int .i64 z.op) := (((hF44.at 2 rfl : Sl lgEnc 5 lo hi _ (.slice (some ⟨x48, o49, none⟩) ls.length cL) ls)).cells hz50.out 3 _ rfl)
                have ge69 : World.cell? _ ⟨x48, o49 + q * 5 + 4, none⟩ = some (.int .i64 z.cost) := (((hF44.at 2 rfl : Sl lgEnc 5 lo hi _ (.slice (some ⟨x48, o49, none⟩) ls.length cL) ls)).cells hz50.out 4 _ rfl)
                go_wp2_with fail
                clear b63 ge64 gl65 ge66 ge67 ge68 ge69
                have F70 := hF44.new 75 #[.int .i64 z.a, .int .i64 z.b, .int .i64 z.long, .int .i64 z.op, .int .i64 z.cost] (n := w46.heap.size) (by simp)
                clear hF44
                obtain ⟨w71, hx72, F74, hxs73⟩ := (show Bun w [rbox w46.heap.size 75 #[.int .i64 z.a, .int .i64 z.b, .int .i64 z.long, .int .i64 z.op, .int .i64 z.cost], rmat w.heap.size (w.heap.size + 1) n gs (legK useS ls n q), rbox w.heap.size 67 #[.int .i64 (n : Int), .slice (some ⟨x48, o49, none⟩) ls.length cL], rsl lgEnc 5 lo hi (.slice (some ⟨x48, o49, none⟩) ls.length cL) ls] _ from F70).name
                (try simp at hxs73)
                rw [hx72]
                clear hx72 F70
                have F75 := F74.drew
                clear F74
                refine ru_begin (fun W => W.cell? ⟨w46.heap.size, 0, none⟩ = some (.int .i64 z.a) ∧ W.cell? ⟨w.heap.size + 1, z.a.toNat, none⟩ = some (.slice (some ⟨ga, 0, none⟩) n n) ∧ W.cell? ⟨w46.heap.size, 1, none⟩ = some (.int .i64 z.b) ∧ W.cell? ⟨ga, z.b.toNat, none⟩ = some (.int .i64 x)) 23 (by kernel_rfl) ?_ ?_
                · exact ⟨F75.cl 0 0 rfl rfl, (MatP.o (F75.at 1 rfl : MatP w.heap.size (w.heap.size + 1) n gs (legK useS ls n q) _) Hga.out), F75.cl 0 1 rfl rfl, (MatP.c (F75.at 1 rfl : MatP w.heap.size (w.heap.size + 1) n gs (legK useS ls n q) _) Hga.out (Shp.at (i := z.a.toNat) HSH.out (by omega)) ((Shp.cell (i := z.a.toNat) (j := z.b.toNat) HSH.out (by omega) (by omega)).trans (by rw [HX.out])))⟩
                obtain ⟨wd77, hwd_⟩ : ∃ x : World, w71.drew = x := ⟨_, rfl⟩
                rw [hwd_] at F75 ⊢
                have wd77s : w71.heap.size ≤ wd77.heap.size := by rw [← hwd_]; exact Nat.le_refl _
                clear hwd_
                have hS76 := (And.intro (F75.cl 0 0 rfl rfl) (And.intro ((MatP.o (F75.at 1 rfl : MatP w.heap.size (w.heap.size + 1) n gs (legK useS ls n q) _) Hga.out)) (And.intro (F75.cl 0 1 rfl rfl) ((MatP.c (F75.at 1 rfl : MatP w.heap.size (w.heap.size + 1) n gs (legK useS ls n q) _) Hga.out (Shp.at (i := z.a.toNat) HSH.out (by omega)) ((Shp.cell (i := z.a.toNat) (j := z.b.toNat) HSH.out (by omega) (by omega)).trans (by rw [HX.out])))))))
                refine ru_t 0 [10, 9, 8, 7, 4, 3] ?_
                refine ru_t 1 [10, 9, 8, 7, 4, 3, 2] ?_
                refine ru_t 2 [10, 9, 8, 7, 4, 3] ?_
                refine ru_t 3 [10, 9, 8, 7, 4] ?_
                refine ru_t 4 [10, 9, 8, 7] ?_
                refine ru_t 5 [10, 9, 8, 7, 6] ?_
                refine ru_t 6 [10, 9, 8, 7] ?_
                refine ru_t 7 [10, 9, 8] ?_
                refine ru_t 8 [10, 9] ?_
                refine ru_t 9 [10] ?_
                refine ru_t 10 [] ?_
                refine ru_ts 11 [22, 19, 18, 15, 14] ?_
                refine ru_ts 12 [22, 19, 18, 15, 14, 13] ?_
                refine ru_ts 13 [22, 19, 18, 15, 14] ?_
                refine ru_ts 14 [22, 19, 18, 15] ?_
                refine ru_ts 15 [22, 19, 18] ?_
                refine ru_ts 16 [22, 19, 18, 17] ?_
                refine ru_ts 17 [22, 19, 18] ?_
                refine ru_ts 18 [22, 19] ?_
                refine ru_ts 19 [22] ?_
                refine ru_ts 20 [22, 21] ?_
                refine ru_ts 21 [22] ?_
                refine ru_ts 22 [] ?_
                (try simp only [Act.put, List.setIfInBounds_toArray, List.set_cons_zero, List.set_cons_succ])
                clear hS76
                refine ru_one 23 rfl (by kernel_rfl) (fun K hK => ?_)
                go_simp
                refine ru_back_late hK (by kernel_rfl) ?_
                clear hK K
                (try simp only [Act.put, List.setIfInBounds_toArray, List.set_cons_zero, List.set_cons_succ])
                refine ru_done (by kernel_rfl) ?_
                obtain ⟨w78, hx79, F81, hxs80⟩ := (show Bun w [rbox w46.heap.size 75 #[.int .i64 z.a, .int .i64 z.b, .int .i64 z.long, .int .i64 z.op, .int .i64 z.cost], rmat w.heap.size (w.heap.size + 1) n gs (legK useS ls n q), rbox w.heap.size 67 #[.int .i64 (n : Int), .slice (some ⟨x48, o49, none⟩) ls.length cL], rsl lgEnc 5 lo hi (.slice (some ⟨x48, o49, none⟩) ls.length cL) ls] _ from F75).name
                (try simp at hxs80)
                rw [hx79]
                clear hx79 F75
                go_wp2_with fail
                have F82 := F81.drew
                clear F81
                refine ru_begin (fun W => W.cell? ⟨w46.heap.size, 0, none⟩ = some (.int .i64 z.a) ∧ W.cell? ⟨w.heap.size + 1, z.a.toNat, none⟩ = some (.slice (some ⟨ga, 0, none⟩) n n) ∧ W.cell? ⟨w46.heap.size, 1, none⟩ = some (.int .i64 z.b) ∧ W.cell? ⟨w.heap.size + 1, z.b.toNat, none⟩ = some (.slice (some ⟨gb, 0, none⟩) n n) ∧ W.cell? ⟨w46.heap.size, 2, none⟩ = some (.int .i64 z.long)) 19 (by kernel_rfl) ?_ ?_
                · exact ⟨F82.cl 0 0 rfl rfl, (MatP.o (F82.at 1 rfl : MatP w.heap.size (w.heap.size + 1) n gs (legK useS ls n q) _) Hga.out), F82.cl 0 1 rfl rfl, (MatP.o (F82.at 1 rfl : MatP w.heap.size (w.heap.size + 1) n gs (legK useS ls n q) _) Hgb.out), F82.cl 0 2 rfl rfl⟩
                obtain ⟨wd84, hwd_⟩ : ∃ x : World, w78.drew = x := ⟨_, rfl⟩
                rw [hwd_] at F82 ⊢
                have wd84s : w78.heap.size ≤ wd84.heap.size := by rw [← hwd_]; exact Nat.le_refl _
                clear hwd_
                have hS83 := (And.intro (F82.cl 0 0 rfl rfl) (And.intro ((MatP.o (F82.at 1 rfl : MatP w.heap.size (w.heap.size + 1) n gs (legK useS ls n q) _) Hga.out)) (And.intro (F82.cl 0 1 rfl rfl) (And.intro ((MatP.o (F82.at 1 rfl : MatP w.heap.size (w.heap.size + 1) n gs (legK useS ls n q) _) Hgb.out)) (F82.cl 0 2 rfl rfl)))))
                refine ru_t 0 [] ?_
                refine ru_t 1 [] ?_
                refine ru_t 2 [] ?_
                refine ru_t 3 [] ?_
                refine ru_t 4 [] ?_
                refine ru_t 5 [] ?_
                refine ru_t 6 [] ?_
                refine ru_t 7 [11, 10] ?_
                refine ru_t 8 [11, 10, 9] ?_
                refine ru_t 9 [11, 10] ?_
                refine ru_t 10 [11] ?_
                refine ru_t 11 [] ?_
                refine ru_t 14 [] ?_
                refine ru_t 15 [] ?_
                refine ru_t 18 [] ?_
                (try simp only [Act.put, List.setIfInBounds_toArray, List.set_cons_zero, List.set_cons_succ])
                refine ru_p 12 ?_
                refine ru_p 16 ?_
                (try simp only [Act.put, List.setIfInBounds_toArray, List.set_cons_zero, List.set_cons_succ])
                clear hS83
                refine ru_three 13 17 19 rfl rfl rfl (by kernel_rfl) ?_ ?_ ?_
                · intro K hK
                  have kq0_ := F82.cl 0 0 rfl rfl
                  go_simp
                  clear kq0_
                  refine ru_back hK (by exact ⟨F82.cl 0 0 rfl rfl, (MatP.o (F82.at 1 rfl : MatP w.heap.size (w.heap.size + 1) n gs (legK useS ls n q) _) Hga.out), F82.cl 0 1 rfl rfl, (MatP.o (F82.at 1 rfl : MatP w.heap.size (w.heap.size + 1) n gs (legK useS ls n q) _) Hgb.out), F82.cl 0 2 rfl rfl⟩) (fun hHeld => ?_)
                  clear hK K
                  (try simp only [Act.put, List.setIfInBounds_toArray, List.set_cons_zero, List.set_cons_succ])
                  refine ru_two 17 19 rfl rfl (by kernel_rfl) ?_ ?_
                  · intro K hK
                    have kq0_ := F82.cl 0 2 rfl rfl
                    go_simp
                    clear kq0_
                    refine ru_back hK (by exact ⟨F82.cl 0 0 rfl rfl, (MatP.o (F82.at 1 rfl : MatP w.heap.size (w.heap.size + 1) n gs (legK useS ls n q) _) Hga.out), F82.cl 0 1 rfl rfl, (MatP.o (F82.at 1 rfl : MatP w.heap.size (w.heap.size + 1) n gs (legK useS ls n q) _) Hgb.out), F82.cl 0 2 rfl rfl⟩) (fun hHeld => ?_)
                    clear hK K
                    (try simp only [Act.put, List.setIfInBounds_toArray, List.set_cons_zero, List.set_cons_succ])
                    refine ru_one 19 rfl (by kernel_rfl) (fun K hK => ?_)
                    have kc_ : World.cell? _ ⟨ga, z.b.toNat, none⟩ = some (.int .i64 x) := (MatP.c (F82.at 1 rfl : MatP w.heap.size (w.heap.size + 1) n gs (legK useS ls n q) _) Hga.out (Shp.at (i := z.a.toNat) HSH.out (by omega)) ((Shp.cell (i := z.a.toNat) (j := z.b.toNat) HSH.out (by omega) (by omega)).trans (by rw [HX.out])))
                    have kf_ : World.frozen? _ ⟨ga, z.b.toNat, none⟩ = false := (MatP.fc (F82.at 1 rfl : MatP w.heap.size (w.heap.size + 1) n gs (legK useS ls n q) _) (List.mem_of_getElem? Hga.out) _)
                    go_simp
                    clear kc_ kf_
                    have F85 := (F82.front 1 rfl rfl).matSet Hga.out (Shp.at (i := z.a.toNat) HSH.out (by omega)) (Shp.cell (i := z.a.toNat) (j := z.b.toNat) HSH.out (by omega) (by omega)) z.long
                    clear F82
                    have HS1 : Hid (Shp n (mset (legK useS ls n q) z.a.toNat z.b.toNat z.long)) := Lib.hid (HSH.out.set (by omega) _)
                    refine ru_back_late hK (by kernel_rfl) ?_
                    clear hK K
                    (try simp only [Act.put, List.setIfInBounds_toArray, List.set_cons_zero, List.set_cons_succ])
                    refine ru_one 20 rfl (by kernel_rfl) (fun K hK => ?_)
                    go_simp
                    refine ru_back_late hK (by kernel_rfl) ?_
                    clear hK K
                    (try simp only [Act.put, List.setIfInBounds_toArray, List.set_cons_zero, List.set_cons_succ])
                    refine ru_one 21 rfl (by kernel_rfl) (fun K hK => ?_)
                    have kc_ : World.cell? _ ⟨gb, z.a.toNat, none⟩ = some (.int .i64 (mget (mset (legK useS ls n q) z.a.toNat z.b.toNat z.long) z.b.toNat z.a.toNat)) := (MatP.c (F85.at 0 rfl : MatP w.heap.size (w.heap.size + 1) n gs (mset (legK useS ls n q) z.a.toNat z.b.toNat z.long) _) Hgb.out (Shp.at (i := z.b.toNat) HS1.out (by omega)) (Shp.cell (i := z.b.toNat) (j := z.a.toNat) HS1.out (by omega) (by omega)))
                    have kf_ : World.frozen? _ ⟨gb, z.a.toNat, none⟩ = false := (MatP.fc (F85.at 0 rfl : MatP w.heap.size (w.heap.size + 1) n gs (mset (legK useS ls n q) z.a.toNat z.b.toNat z.long) _) (List.mem_of_getElem? Hgb.out) _)
                    go_simp
                    clear kc_ kf_
                    have F86 := F85.matSet Hgb.out (Shp.at (i := z.b.toNat) HS1.out (by omega)) (Shp.cell (i := z.b.toNat) (j := z.a.toNat) HS1.out (by omega) (by omega)) z.long
                    clear F85
                    refine ru_back_late hK (by kernel_rfl) ?_
                    clear hK K
                    (try simp only [Act.put, List.setIfInBounds_toArray, List.set_cons_zero, List.set_cons_succ])
                    refine ru_done (by kernel_rfl) ?_
                    obtain ⟨w87, hx88, F90, hxs89⟩ := (show Bun w [rmat w.heap.size (w.heap.size + 1) n gs (mset (mset (legK useS ls n q) z.a.toNat z.b.toNat z.long) z.b.toNat z.a.toNat z.long), rbox w.heap.size 67 #[.int .i64 (n : Int), .slice (some ⟨x48, o49, none⟩) ls.length cL], rsl lgEnc 5 lo hi (.slice (some ⟨x48, o49, none⟩) ls.length cL) ls] _ from (F86.drop 1 rfl)).name
                    (try simp at hxs89)
                    rw [hx88]
                    clear hx88 F86
                    go_wp2_with fail
                    (first | refine ⟨by kernel_rfl, ?_, ?_⟩ | refine ⟨rfl, ?_, ?_⟩ | refine ⟨?_, ?_⟩)
                    · rw [HI43.out]; exact ⟨q + 1, (by first | kernel_rfl | rfl), (by first | kernel_rfl | rfl), (by first | kernel_rfl | rfl), (by show Value.int .i64 ((q : Int) + 1) = _; simp), (by omega), (by first | rfl | simp), (by first | omega | (simp; done) | (simp; omega)), (by rw [legK_next hz50.out, legM_yes HX.out (by unfold useS; simp; have h_ := c61H.out; omega) (by omega)]; exact F90)⟩
                    · simp [slot, intOf]; omega
                  · intro K hK
                    have kc_ : World.cell? _ ⟨ga, z.b.toNat, none⟩ = some (.int .i64 x) := (MatP.c (F82.at 1 rfl : MatP w.heap.size (w.heap.size + 1) n gs (legK useS ls n q) _) Hga.out (Shp.at (i := z.a.toNat) HSH.out (by omega)) ((Shp.cell (i := z.a.toNat) (j := z.b.toNat) HSH.out (by omega) (by omega)).trans (by rw [HX.out])))
                    have kf_ : World.frozen? _ ⟨ga, z.b.toNat, none⟩ = false := (MatP.fc (F82.at 1 rfl : MatP w.heap.size (w.heap.size + 1) n gs (legK useS ls n q) _) (List.mem_of_getElem? Hga.out) _)
                    go_simp
                    clear kc_ kf_
                    have F91 := (F82.front 1 rfl rfl).matSet Hga.out (Shp.at (i := z.a.toNat) HSH.out (by omega)) (Shp.cell (i := z.a.toNat) (j := z.b.toNat) HSH.out (by omega) (by omega)) z.long
                    clear F82
                    have HS1 : Hid (Shp n (mset (legK useS ls n q) z.a.toNat z.b.toNat z.long)) := Lib.hid (HSH.out.set (by omega) _)
                    refine ru_back_late hK (by kernel_rfl) ?_
                    clear hK K
                    (try simp only [Act.put, List.setIfInBounds_toArray, List.set_cons_zero, List.set_cons_succ])
                    refine ru_one 17 rfl (by kernel_rfl) (fun K hK => ?_)
                    have kq0_ := F91.cl 1 2 rfl rfl
                    go_simp
                    clear kq0_
                    refine ru_back_late hK (by kernel_rfl) ?_
                    clear hK K
                    (try simp only [Act.put, List.setIfInBounds_toArray, List.set_cons_zero, List.set_cons_succ])
                    refine ru_one 20 rfl (by kernel_rfl) (fun K hK => ?_)
                    go_simp
                    refine ru_back_late hK (by kernel_rfl) ?_
                    clear hK K
                    (try simp only [Act.put, List.setIfInBounds_toArray, List.set_cons_zero, List.set_cons_succ])
                    refine ru_one 21 rfl (by kernel_rfl) (fun K hK => ?_)
                    have kc_ : World.cell? _ ⟨gb, z.a.toNat, none⟩ = some (.int .i64 (mget (mset (legK useS ls n q) z.a.toNat z.b.toNat z.long) z.b.toNat z.a.toNat)) := (MatP.c (F91.at 0 rfl : MatP w.heap.size (w.heap.size + 1) n gs (mset (legK useS ls n q) z.a.toNat z.b.toNat z.long) _) Hgb.out (Shp.at (i := z.b.toNat) HS1.out (by omega)) (Shp.cell (i := z.b.toNat) (j := z.a.toNat) HS1.out (by omega) (by omega)))
                    have kf_ : World.frozen? _ ⟨gb, z.a.toNat, none⟩ = false := (MatP.fc (F91.at 0 rfl : MatP w.heap.size (w.heap.size + 1) n gs (mset (legK useS ls n q) z.a.toNat z.b.toNat z.long) _) (List.mem_of_getElem? Hgb.out) _)
                    go_simp
                    clear kc_ kf_
                    have F92 := F91.matSet Hgb.out (Shp.at (i := z.b.toNat) HS1.out (by omega)) (Shp.cell (i := z.b.toNat) (j := z.a.toNat) HS1.out (by omega) (by omega)) z.long
                    clear F91
                    refine ru_back_late hK (by kernel_rfl) ?_
                    clear hK K
                    (try simp only [Act.put, List.setIfInBounds_toArray, List.set_cons_zero, List.set_cons_succ])
                    refine ru_done (by kernel_rfl) ?_
                    obtain ⟨w93, hx94, F96, hxs95⟩ := (show Bun w [rmat w.heap.size (w.heap.size + 1) n gs (mset (mset (legK useS ls n q) z.a.toNat z.b.toNat z.long) z.b.toNat z.a.toNat z.long), rbox w.heap.size 67 #[.int .i64 (n : Int), .slice (some ⟨x48, o49, none⟩) ls.length cL], rsl lgEnc 5 lo hi (.slice (some ⟨x48, o49, none⟩) ls.length cL) ls] _ from (F92.drop 1 rfl)).name
                    (try simp at hxs95)
                    rw [hx94]
                    clear hx94 F92
                    go_wp2_with fail
                    (first | refine ⟨by kernel_rfl, ?_, ?_⟩ | refine ⟨rfl, ?_, ?_⟩ | refine ⟨?_, ?_⟩)
                    · rw [HI43.out]; exact ⟨q + 1, (by first | kernel_rfl | rfl), (by first | kernel_rfl | rfl), (by first | kernel_rfl | rfl), (by show Value.int .i64 ((q : Int) + 1) = _; simp), (by omega), (by first | rfl | simp), (by first | omega | (simp; done) | (simp; omega)), (by rw [legK_next hz50.out, legM_yes HX.out (by unfold useS; simp; have h_ := c61H.out; omega) (by omega)]; exact F96)⟩
                    · simp [slot, intOf]; omega
                · intro K hK
                  have kq0_ := F82.cl 0 2 rfl rfl
                  go_simp
                  clear kq0_
                  refine ru_back hK (by exact ⟨F82.cl 0 0 rfl rfl, (MatP.o (F82.at 1 rfl : MatP w.heap.size (w.heap.size + 1) n gs (legK useS ls n q) _) Hga.out), F82.cl 0 1 rfl rfl, (MatP.o (F82.at 1 rfl : MatP w.heap.size (w.heap.size + 1) n gs (legK useS ls n q) _) Hgb.out), F82.cl 0 2 rfl rfl⟩) (fun hHeld => ?_)
                  clear hK K
                  (try simp only [Act.put, List.setIfInBounds_toArray, List.set_cons_zero, List.set_cons_succ])
                  refine ru_two 13 19 rfl rfl (by kernel_rfl) ?_ ?_
                  · intro K hK
                    have kq0_ := F82.cl 0 0 rfl rfl
                    go_simp
                    clear kq0_
                    refine ru_back hK (by exact ⟨F82.cl 0 0 rfl rfl, (MatP.o (F82.at 1 rfl : MatP w.heap.size (w.heap.size + 1) n gs (legK useS ls n q) _) Hga.out), F82.cl 0 1 rfl rfl, (MatP.o (F82.at 1 rfl : MatP w.heap.size (w.heap.size + 1) n gs (legK useS ls n q) _) Hgb.out), F82.cl 0 2 rfl rfl⟩) (fun hHeld => ?_)
                    clear hK K
                    (try simp only [Act.put, List.setIfInBounds_toArray, List.set_cons_zero, List.set_cons_succ])
                    refine ru_one 19 rfl (by kernel_rfl) (fun K hK => ?_)
                    have kc_ : World.cell? _ ⟨ga, z.b.toNat, none⟩ = some (.int .i64 x) := (MatP.c (F82.at 1 rfl : MatP w.heap.size (w.heap.size + 1) n gs (legK useS ls n q) _) Hga.out (Shp.at (i := z.a.toNat) HSH.out (by omega)) ((Shp.cell (i := z.a.toNat) (j := z.b.toNat) HSH.out (by omega) (by omega)).trans (by rw [HX.out])))
                    have kf_ : World.frozen? _ ⟨ga, z.b.toNat, none⟩ = false := (MatP.fc (F82.at 1 rfl : MatP w.heap.size (w.heap.size + 1) n gs (legK useS ls n q) _) (List.mem_of_getElem? Hga.out) _)
                    go_simp
                    clear kc_ kf_
                    have F97 := (F82.front 1 rfl rfl).matSet Hga.out (Shp.at (i := z.a.toNat) HSH.out (by omega)) (Shp.cell (i := z.a.toNat) (j := z.b.toNat) HSH.out (by omega) (by omega)) z.long
                    clear F82
                    have HS1 : Hid (Shp n (mset (legK useS ls n q) z.a.toNat z.b.toNat z.long)) := Lib.hid (HSH.out.set (by omega) _)
                    refine ru_back_late hK (by kernel_rfl) ?_
                    clear hK K
                    (try simp only [Act.put, List.setIfInBounds_toArray, List.set_cons_zero, List.set_cons_succ])
                    refine ru_one 20 rfl (by kernel_rfl) (fun K hK => ?_)
                    go_simp
                    refine ru_back_late hK (by kernel_rfl) ?_
                    clear hK K
                    (try simp only [Act.put, List.setIfInBounds_toArray, List.set_cons_zero, List.set_cons_succ])
                    refine ru_one 21 rfl (by kernel_rfl) (fun K hK => ?_)
                    have kc_ : World.cell? _ ⟨gb, z.a.toNat, none⟩ = some (.int .i64 (mget (mset (legK useS ls n q) z.a.toNat z.b.toNat z.long) z.b.toNat z.a.toNat)) := (MatP.c (F97.at 0 rfl : MatP w.heap.size (w.heap.size + 1) n gs (mset (legK useS ls n q) z.a.toNat z.b.toNat z.long) _) Hgb.out (Shp.at (i := z.b.toNat) HS1.out (by omega)) (Shp.cell (i := z.b.toNat) (j := z.a.toNat) HS1.out (by omega) (by omega)))
                    have kf_ : World.frozen? _ ⟨gb, z.a.toNat, none⟩ = false := (MatP.fc (F97.at 0 rfl : MatP w.heap.size (w.heap.size + 1) n gs (mset (legK useS ls n q) z.a.toNat z.b.toNat z.long) _) (List.mem_of_getElem? Hgb.out) _)
                    go_simp
                    clear kc_ kf_
                    have F98 := F97.matSet Hgb.out (Shp.at (i := z.b.toNat) HS1.out (by omega)) (Shp.cell (i := z.b.toNat) (j := z.a.toNat) HS1.out (by omega) (by omega)) z.long
                    clear F97
                    refine ru_back_late hK (by kernel_rfl) ?_
                    clear hK K
                    (try simp only [Act.put, List.setIfInBounds_toArray, List.set_cons_zero, List.set_cons_succ])
                    refine ru_done (by kernel_rfl) ?_
                    obtain ⟨w99, hx100, F102, hxs101⟩ := (show Bun w [rmat w.heap.size (w.heap.size + 1) n gs (mset (mset (legK useS ls n q) z.a.toNat z.b.toNat z.long) z.b.toNat z.a.toNat z.long), rbox w.heap.size 67 #[.int .i64 (n : Int), .slice (some ⟨x48, o49, none⟩) ls.length cL], rsl lgEnc 5 lo hi (.slice (some ⟨x48, o49, none⟩) ls.length cL) ls] _ from (F98.drop 1 rfl)).name
                    (try simp at hxs101)
                    rw [hx100]
                    clear hx100 F98
                    go_wp2_with fail
                    (first | refine ⟨by kernel_rfl, ?_, ?_⟩ | refine ⟨rfl, ?_, ?_⟩ | refine ⟨?_, ?_⟩)
                    · rw [HI43.out]; exact ⟨q + 1, (by first | kernel_rfl | rfl), (by first | kernel_rfl | rfl), (by first | kernel_rfl | rfl), (by show Value.int .i64 ((q : Int) + 1) = _; simp), (by omega), (by first | rfl | simp), (by first | omega | (simp; done) | (simp; omega)), (by rw [legK_next hz50.out, legM_yes HX.out (by unfold useS; simp; have h_ := c61H.out; omega) (by omega)]; exact F102)⟩
                    · simp [slot, intOf]; omega
                  · intro K hK
                    have kc_ : World.cell? _ ⟨ga, z.b.toNat, none⟩ = some (.int .i64 x) := (MatP.c (F82.at 1 rfl : MatP w.heap.size (w.heap.size + 1) n gs (legK useS ls n q) _) Hga.out (Shp.at (i := z.a.toNat) HSH.out (by omega)) ((Shp.cell (i := z.a.toNat) (j := z.b.toNat) HSH.out (by omega) (by omega)).trans (by rw [HX.out])))
                    have kf_ : World.frozen? _ ⟨ga, z.b.toNat, none⟩ = false := (MatP.fc (F82.at 1 rfl : MatP w.heap.size (w.heap.size + 1) n gs (legK useS ls n q) _) (List.mem_of_getElem? Hga.out) _)
                    go_simp
                    clear kc_ kf_
                    have F103 := (F82.front 1 rfl rfl).matSet Hga.out (Shp.at (i := z.a.toNat) HSH.out (by omega)) (Shp.cell (i := z.a.toNat) (j := z.b.toNat) HSH.out (by omega) (by omega)) z.long
                    clear F82
                    have HS1 : Hid (Shp n (mset (legK useS ls n q) z.a.toNat z.b.toNat z.long)) := Lib.hid (HSH.out.set (by omega) _)
                    refine ru_back_late hK (by kernel_rfl) ?_
                    clear hK K
                    (try simp only [Act.put, List.setIfInBounds_toArray, List.set_cons_zero, List.set_cons_succ])
                    refine ru_one 13 rfl (by kernel_rfl) (fun K hK => ?_)
                    have kq0_ := F103.cl 1 0 rfl rfl
                    go_simp
                    clear kq0_
                    refine ru_back_late hK (by kernel_rfl) ?_
                    clear hK K
                    (try simp only [Act.put, List.setIfInBounds_toArray, List.set_cons_zero, List.set_cons_succ])
                    refine ru_one 20 rfl (by kernel_rfl) (fun K hK => ?_)
                    go_simp
                    refine ru_back_late hK (by kernel_rfl) ?_
                    clear hK K
                    (try simp only [Act.put, List.setIfInBounds_toArray, List.set_cons_zero, List.set_cons_succ])
                    refine ru_one 21 rfl (by kernel_rfl) (fun K hK => ?_)
                    have kc_ : World.cell? _ ⟨gb, z.a.toNat, none⟩ = some (.int .i64 (mget (mset (legK useS ls n q) z.a.toNat z.b.toNat z.long) z.b.toNat z.a.toNat)) := (MatP.c (F103.at 0 rfl : MatP w.heap.size (w.heap.size + 1) n gs (mset (legK useS ls n q) z.a.toNat z.b.toNat z.long) _) Hgb.out (Shp.at (i := z.b.toNat) HS1.out (by omega)) (Shp.cell (i := z.b.toNat) (j := z.a.toNat) HS1.out (by omega) (by omega)))
                    have kf_ : World.frozen? _ ⟨gb, z.a.toNat, none⟩ = false := (MatP.fc (F103.at 0 rfl : MatP w.heap.size (w.heap.size + 1) n gs (mset (legK useS ls n q) z.a.toNat z.b.toNat z.long) _) (List.mem_of_getElem? Hgb.out) _)
                    go_simp
                    clear kc_ kf_
                    have F104 := F103.matSet Hgb.out (Shp.at (i := z.b.toNat) HS1.out (by omega)) (Shp.cell (i := z.b.toNat) (j := z.a.toNat) HS1.out (by omega) (by omega)) z.long
                    clear F103
                    refine ru_back_late hK (by kernel_rfl) ?_
                    clear hK K
                    (try simp only [Act.put, List.setIfInBounds_toArray, List.set_cons_zero, List.set_cons_succ])
                    refine ru_done (by kernel_rfl) ?_
                    obtain ⟨w105, hx106, F108, hxs107⟩ := (show Bun w [rmat w.heap.size (w.heap.size + 1) n gs (mset (mset (legK useS ls n q) z.a.toNat z.b.toNat z.long) z.b.toNat z.a.toNat z.long), rbox w.heap.size 67 #[.int .i64 (n : Int), .slice (some ⟨x48, o49, none⟩) ls.length cL], rsl lgEnc 5 lo hi (.slice (some ⟨x48, o49, none⟩) ls.length cL) ls] _ from (F104.drop 1 rfl)).name
                    (try simp at hxs107)
                    rw [hx106]
                    clear hx106 F104
                    go_wp2_with fail
                    (first | refine ⟨by kernel_rfl, ?_, ?_⟩ | refine ⟨rfl, ?_, ?_⟩ | refine ⟨?_, ?_⟩)
                    · rw [HI43.out]; exact ⟨q + 1, (by first | kernel_rfl | rfl), (by first | kernel_rfl | rfl), (by first | kernel_rfl | rfl), (by show Value.int .i64 ((q : Int) + 1) = _; simp), (by omega), (by first | rfl | simp), (by first | omega | (simp; done) | (simp; omega)), (by rw [legK_next hz50.out, legM_yes HX.out (by unfold useS; simp; have h_ := c61H.out; omega) (by omega)]; exact F108)⟩
                    · simp [slot, intOf]; omega
                · intro K hK
                  have kc_ : World.cell? _ ⟨ga, z.b.toNat, none⟩ = some (.int .i64 x) := (MatP.c (F82.at 1 rfl : MatP w.heap.size (w.heap.size + 1) n gs (legK useS ls n q) _) Hga.out (Shp.at (i := z.a.toNat) HSH.out (by omega)) ((Shp.cell (i := z.a.toNat) (j := z.b.toNat) HSH.out (by omega) (by omega)).trans (by rw [HX.out])))
                  have kf_ : World.frozen? _ ⟨ga, z.b.toNat, none⟩ = false := (MatP.fc (F82.at 1 rfl : MatP w.heap.size (w.heap.size + 1) n gs (legK useS ls n q) _) (List.mem_of_getElem? Hga.out) _)
                  go_simp
                  clear kc_ kf_
                  have F109 := (F82.front 1 rfl rfl).matSet Hga.out (Shp.at (i := z.a.toNat) HSH.out (by omega)) (Shp.cell (i := z.a.toNat) (j := z.b.toNat) HSH.out (by omega) (by omega)) z.long
                  clear F82
                  have HS1 : Hid (Shp n (mset (legK useS ls n q) z.a.toNat z.b.toNat z.long)) := Lib.hid (HSH.out.set (by omega) _)
                  refine ru_back_late hK (by kernel_rfl) ?_
                  clear hK K
                  (try simp only [Act.put, List.setIfInBounds_toArray, List.set_cons_zero, List.set_cons_succ])
                  refine ru_two 13 17 rfl rfl (by kernel_rfl) ?_ ?_
                  · intro K hK
                    have kq0_ := F109.cl 1 0 rfl rfl
                    go_simp
                    clear kq0_
                    refine ru_back_late hK (by kernel_rfl) ?_
                    clear hK K
                    (try simp only [Act.put, List.setIfInBounds_toArray, List.set_cons_zero, List.set_cons_succ])
                    refine ru_one 17 rfl (by kernel_rfl) (fun K hK => ?_)
                    have kq0_ := F109.cl 1 2 rfl rfl
                    go_simp
                    clear kq0_
                    refine ru_back_late hK (by kernel_rfl) ?_
                    clear hK K
                    (try simp only [Act.put, List.setIfInBounds_toArray, List.set_cons_zero, List.set_cons_succ])
                    refine ru_one 20 rfl (by kernel_rfl) (fun K hK => ?_)
                    go_simp
                    refine ru_back_late hK (by kernel_rfl) ?_
                    clear hK K
                    (try simp only [Act.put, List.setIfInBounds_toArray, List.set_cons_zero, List.set_cons_succ])
                    refine ru_one 21 rfl (by kernel_rfl) (fun K hK => ?_)
                    have kc_ : World.cell? _ ⟨gb, z.a.toNat, none⟩ = some (.int .i64 (mget (mset (legK useS ls n q) z.a.toNat z.b.toNat z.long) z.b.toNat z.a.toNat)) := (MatP.c (F109.at 0 rfl : MatP w.heap.size (w.heap.size + 1) n gs (mset (legK useS ls n q) z.a.toNat z.b.toNat z.long) _) Hgb.out (Shp.at (i := z.b.toNat) HS1.out (by omega)) (Shp.cell (i := z.b.toNat) (j := z.a.toNat) HS1.out (by omega) (by omega)))
                    have kf_ : World.frozen? _ ⟨gb, z.a.toNat, none⟩ = false := (MatP.fc (F109.at 0 rfl : MatP w.heap.size (w.heap.size + 1) n gs (mset (legK useS ls n q) z.a.toNat z.b.toNat z.long) _) (List.mem_of_getElem? Hgb.out) _)
                    go_simp
                    clear kc_ kf_
                    have F110 := F109.matSet Hgb.out (Shp.at (i := z.b.toNat) HS1.out (by omega)) (Shp.cell (i := z.b.toNat) (j := z.a.toNat) HS1.out (by omega) (by omega)) z.long
                    clear F109
                    refine ru_back_late hK (by kernel_rfl) ?_
                    clear hK K
                    (try simp only [Act.put, List.setIfInBounds_toArray, List.set_cons_zero, List.set_cons_succ])
                    refine ru_done (by kernel_rfl) ?_
                    obtain ⟨w111, hx112, F114, hxs113⟩ := (show Bun w [rmat w.heap.size (w.heap.size + 1) n gs (mset (mset (legK useS ls n q) z.a.toNat z.b.toNat z.long) z.b.toNat z.a.toNat z.long), rbox w.heap.size 67 #[.int .i64 (n : Int), .slice (some ⟨x48, o49, none⟩) ls.length cL], rsl lgEnc 5 lo hi (.slice (some ⟨x48, o49, none⟩) ls.length cL) ls] _ from (F110.drop 1 rfl)).name
                    (try simp at hxs113)
                    rw [hx112]
                    clear hx112 F110
                    go_wp2_with fail
                    (first | refine ⟨by kernel_rfl, ?_, ?_⟩ | refine ⟨rfl, ?_, ?_⟩ | refine ⟨?_, ?_⟩)
                    · rw [HI43.out]; exact ⟨q + 1, (by first | kernel_rfl | rfl), (by first | kernel_rfl | rfl), (by first | kernel_rfl | rfl), (by show Value.int .i64 ((q : Int) + 1) = _; simp), (by omega), (by first | rfl | simp), (by first | omega | (simp; done) | (simp; omega)), (by rw [legK_next hz50.out, legM_yes HX.out (by unfold useS; simp; have h_ := c61H.out; omega) (by omega)]; exact F114)⟩
                    · simp [slot, intOf]; omega
                  · intro K hK
                    have kq0_ := F109.cl 1 2 rfl rfl
                    go_simp
                    clear kq0_
                    refine ru_back_late hK (by kernel_rfl) ?_
                    clear hK K
                    (try simp only [Act.put, List.setIfInBounds_toArray, List.set_cons_zero, List.set_cons_succ])
                    refine ru_one 13 rfl (by kernel_rfl) (fun K hK => ?_)
                    have kq0_ := F109.cl 1 0 rfl rfl
                    go_simp
                    clear kq0_
                    refine ru_back_late hK (by kernel_rfl) ?_
                    clear hK K
                    (try simp only [Act.put, List.setIfInBounds_toArray, List.set_cons_zero, List.set_cons_succ])
                    refine ru_one 20 rfl (by kernel_rfl) (fun K hK => ?_)
                    go_simp
                    refine ru_back_late hK (by kernel_rfl) ?_
                    clear hK K
                    (try simp only [Act.put, List.setIfInBounds_toArray, List.set_cons_zero, List.set_cons_succ])
                    refine ru_one 21 rfl (by kernel_rfl) (fun K hK => ?_)
                    have kc_ : World.cell? _ ⟨gb, z.a.toNat, none⟩ = some (.int .i64 (mget (mset (legK useS ls n q) z.a.toNat z.b.toNat z.long) z.b.toNat z.a.toNat)) := (MatP.c (F109.at 0 rfl : MatP w.heap.size (w.heap.size + 1) n gs (mset (legK useS ls n q) z.a.toNat z.b.toNat z.long) _) Hgb.out (Shp.at (i := z.b.toNat) HS1.out (by omega)) (Shp.cell (i := z.b.toNat) (j := z.a.toNat) HS1.out (by omega) (by omega)))
                    have kf_ : World.frozen? _ ⟨gb, z.a.toNat, none⟩ = false := (MatP.fc (F109.at 0 rfl : MatP w.heap.size (w.heap.size + 1) n gs (mset (legK useS ls n q) z.a.toNat z.b.toNat z.long) _) (List.mem_of_getElem? Hgb.out) _)
                    go_simp
                    clear kc_ kf_
                    have F115 := F109.matSet Hgb.out (Shp.at (i := z.b.toNat) HS1.out (by omega)) (Shp.cell (i := z.b.toNat) (j := z.a.toNat) HS1.out (by omega) (by omega)) z.long
                    clear F109
                    refine ru_back_late hK (by kernel_rfl) ?_
                    clear hK K
                    (try simp only [Act.put, List.setIfInBounds_toArray, List.set_cons_zero, List.set_cons_succ])
                    refine ru_done (by kernel_rfl) ?_
                    obtain ⟨w116, hx117, F119, hxs118⟩ := (show Bun w [rmat w.heap.size (w.heap.size + 1) n gs (mset (mset (legK useS ls n q) z.a.toNat z.b.toNat z.long) z.b.toNat z.a.toNat z.long), rbox w.heap.size 67 #[.int .i64 (n : Int), .slice (some ⟨x48, o49, none⟩) ls.length cL], rsl lgEnc 5 lo hi (.slice (some ⟨x48, o49, none⟩) ls.length cL) ls] _ from (F115.drop 1 rfl)).name
                    (try simp at hxs118)
                    rw [hx117]
                    clear hx117 F115
                    go_wp2_with fail
                    (first | refine ⟨by kernel_rfl, ?_, ?_⟩ | refine ⟨rfl, ?_, ?_⟩ | refine ⟨?_, ?_⟩)
                    · rw [HI43.out]; exact ⟨q + 1, (by first | kernel_rfl | rfl), (by first | kernel_rfl | rfl), (by first | kernel_rfl | rfl), (by show Value.int .i64 ((q : Int) + 1) = _; simp), (by omega), (by first | rfl | simp), (by first | omega | (simp; done) | (simp; omega)), (by rw [legK_next hz50.out, legM_yes HX.out (by unfold useS; simp; have h_ := c61H.out; omega) (by omega)]; exact F119)⟩
                    · simp [slot, intOf]; omega
              · skip
                have c62H := Lib.hid c62
                have c62a : decide (x < 0) = false := dec_f c62
                have b120 := hF44.bx2 1 rfl
                have ge121 : World.cell? _ ⟨x48, o49 + q * 5, none⟩ = some (.int .i64 z.a) := (((hF44.at 2 rfl : Sl lgEnc 5 lo hi _ (.slice (some ⟨x48, o49, none⟩) ls.length cL) ls)).cells hz50.out 0 _ rfl)
                have gl122 := cell_lt ge121
                have ge123 : World.cell? _ ⟨x48, o49 + q * 5 + 1, none⟩ = some (.int .i64 z.b) := (((hF44.at 2 rfl : Sl lgEnc 5 lo hi _ (.slice (some ⟨x48, o49, none⟩) ls.length cL) ls)).cells hz50.out 1 _ rfl)
                have ge124 : World.cell? _ ⟨x48, o49 + q * 5 + 2, none⟩ = some (.int .i64 z.long) := (((hF44.at 2 rfl : Sl lgEnc 5 lo hi _ (.slice (some ⟨x48, o49, none⟩) ls.length cL) ls)).cells hz50.out 2 _ rfl)
                have ge125 : World.cell? _ ⟨x48, o49 + q * 5 + 3, none⟩ = some (.int .i64 z.op) := (((hF44.at 2 rfl : Sl lgEnc 5 lo hi _ (.slice (some ⟨x48, o49, none⟩) ls.length cL) ls)).cells hz50.out 3 _ rfl)
                have ge126 : World.cell? _ ⟨x48, o49 + q * 5 + 4, none⟩ = some (.int .i64 z.cost) := (((hF44.at 2 rfl : Sl lgEnc 5 lo hi _ (.slice (some ⟨x48, o49, none⟩) ls.length cL) ls)).cells hz50.out 4 _ rfl)
                go_wp2_with fail
                clear b120 ge121 gl122 ge123 ge124 ge125 ge126
                have F127 := hF44.new 75 #[.int .i64 z.a, .int .i64 z.b, .int .i64 z.long, .int .i64 z.op, .int .i64 z.cost] (n := w46.heap.size) (by simp)
                clear hF44
                obtain ⟨w128, hx129, F131, hxs130⟩ := (show Bun w [rbox w46.heap.size 75 #[.int .i64 z.a, .int .i64 z.b, .int .i64 z.long, .int .i64 z.op, .int .i64 z.cost], rmat w.heap.size (w.heap.size + 1) n gs (legK useS ls n q), rbox w.heap.size 67 #[.int .i64 (n : Int), .slice (some ⟨x48, o49, none⟩) ls.length cL], rsl lgEnc 5 lo hi (.slice (some ⟨x48, o49, none⟩) ls.length cL) ls] _ from F127).name
                (try simp at hxs130)
                rw [hx129]
                clear hx129 F127
                have F132 := F131.drew
                clear F131
                refine ru_begin (fun W => W.cell? ⟨w46.heap.size, 0, none⟩ = some (.int .i64 z.a) ∧ W.cell? ⟨w.heap.size + 1, z.a.toNat, none⟩ = some (.slice (some ⟨ga, 0, none⟩) n n) ∧ W.cell? ⟨w46.heap.size, 1, none⟩ = some (.int .i64 z.b) ∧ W.cell? ⟨ga, z.b.toNat, none⟩ = some (.int .i64 x) ∧ W.cell? ⟨w46.heap.size, 2, none⟩ = some (.int .i64 z.long)) 23 (by kernel_rfl) ?_ ?_
                · exact ⟨F132.cl 0 0 rfl rfl, (MatP.o (F132.at 1 rfl : MatP w.heap.size (w.heap.size + 1) n gs (legK useS ls n q) _) Hga.out), F132.cl 0 1 rfl rfl, (MatP.c (F132.at 1 rfl : MatP w.heap.size (w.heap.size + 1) n gs (legK useS ls n q) _) Hga.out (Shp.at (i := z.a.toNat) HSH.out (by omega)) ((Shp.cell (i := z.a.toNat) (j := z.b.toNat) HSH.out (by omega) (by omega)).trans (by rw [HX.out]))), F132.cl 0 2 rfl rfl⟩
                obtain ⟨wd134, hwd_⟩ : ∃ x : World, w128.drew = x := ⟨_, rfl⟩
                rw [hwd_] at F132 ⊢
                have wd134s : w128.heap.size ≤ wd134.heap.size := by rw [← hwd_]; exact Nat.le_refl _
                clear hwd_
                have hS133 := (And.intro (F132.cl 0 0 rfl rfl) (And.intro ((MatP.o (F132.at 1 rfl : MatP w.heap.size (w.heap.size + 1) n gs (legK useS ls n q) _) Hga.out)) (And.intro (F132.cl 0 1 rfl rfl) (And.intro ((MatP.c (F132.at 1 rfl : MatP w.heap.size (w.heap.size + 1) n gs (legK useS ls n q) _) Hga.out (Shp.at (i := z.a.toNat) HSH.out (by omega)) ((Shp.cell (i := z.a.toNat) (j := z.b.toNat) HSH.out (by omega) (by omega)).trans (by rw [HX.out])))) (F132.cl 0 2 rfl rfl)))))
                refine ru_t 0 [10, 9, 8, 7, 4, 3] ?_
                refine ru_t 1 [10, 9, 8, 7, 4, 3, 2] ?_
                refine ru_t 2 [10, 9, 8, 7, 4, 3] ?_
                refine ru_t 3 [10, 9, 8, 7, 4] ?_
                refine ru_t 4 [10, 9, 8, 7] ?_
                refine ru_t 5 [10, 9, 8, 7, 6] ?_
                refine ru_t 6 [10, 9, 8, 7] ?_
                refine ru_t 7 [10, 9, 8] ?_
                refine ru_t 8 [10, 9] ?_
                refine ru_t 9 [10] ?_
                refine ru_t 10 [] ?_
                refine ru_t 11 [22, 19, 18, 15, 14] ?_
                refine ru_t 12 [22, 19, 18, 15, 14, 13] ?_
                refine ru_t 13 [22, 19, 18, 15, 14] ?_
                refine ru_t 14 [22, 19, 18, 15] ?_
                refine ru_t 15 [22, 19, 18] ?_
                refine ru_t 16 [22, 19, 18, 17] ?_
                refine ru_t 17 [22, 19, 18] ?_
                refine ru_t 18 [22, 19] ?_
                refine ru_t 19 [22] ?_
                refine ru_t 20 [22, 21] ?_
                refine ru_t 21 [22] ?_
                refine ru_t 22 [] ?_
                (try simp only [Act.put, List.setIfInBounds_toArray, List.set_cons_zero, List.set_cons_succ])
                clear hS133
                refine ru_one 23 rfl (by kernel_rfl) (fun K hK => ?_)
                go_simp
                refine ru_back_late hK (by kernel_rfl) ?_
                clear hK K
                (try simp only [Act.put, List.setIfInBounds_toArray, List.set_cons_zero, List.set_cons_succ])
                refine ru_done (by kernel_rfl) ?_
                obtain ⟨w135, hx136, F138, hxs137⟩ := (show Bun w [rbox w46.heap.size 75 #[.int .i64 z.a, .int .i64 z.b, .int .i64 z.long, .int .i64 z.op, .int .i64 z.cost], rmat w.heap.size (w.heap.size + 1) n gs (legK useS ls n q), rbox w.heap.size 67 #[.int .i64 (n : Int), .slice (some ⟨x48, o49, none⟩) ls.length cL], rsl lgEnc 5 lo hi (.slice (some ⟨x48, o49, none⟩) ls.length cL) ls] _ from F132).name
                (try simp at hxs137)
                rw [hx136]
                clear hx136 F132
                by_cases c139 : z.long < x
                · skip
                  have c139H := Lib.hid c139
                  go_wp2_with fail
                  have F140 := F138.drew
                  clear F138
                  refine ru_begin (fun W => W.cell? ⟨w46.heap.size, 0, none⟩ = some (.int .i64 z.a) ∧ W.cell? ⟨w.heap.size + 1, z.a.toNat, none⟩ = some (.slice (some ⟨ga, 0, none⟩) n n) ∧ W.cell? ⟨w46.heap.size, 1, none⟩ = some (.int .i64 z.b) ∧ W.cell? ⟨w.heap.size + 1, z.b.toNat, none⟩ = some (.slice (some ⟨gb, 0, none⟩) n n) ∧ W.cell? ⟨w46.heap.size, 2, none⟩ = some (.int .i64 z.long)) 19 (by kernel_rfl) ?_ ?_
                  · exact ⟨F140.cl 0 0 rfl rfl, (MatP.o (F140.at 1 rfl : MatP w.heap.size (w.heap.size + 1) n gs (legK useS ls n q) _) Hga.out), F140.cl 0 1 rfl rfl, (MatP.o (F140.at 1 rfl : MatP w.heap.size (w.heap.size + 1) n gs (legK useS ls n q) _) Hgb.out), F140.cl 0 2 rfl rfl⟩
                  obtain ⟨wd142, hwd_⟩ : ∃ x : World, w135.drew = x := ⟨_, rfl⟩
                  rw [hwd_] at F140 ⊢
                  have wd142s : w135.heap.size ≤ wd142.heap.size := by rw [← hwd_]; exact Nat.le_refl _
                  clear hwd_
                  have hS141 := (And.intro (F140.cl 0 0 rfl rfl) (And.intro ((MatP.o (F140.at 1 rfl : MatP w.heap.size (w.heap.size + 1) n gs (legK useS ls n q) _) Hga.out)) (And.intro (F140.cl 0 1 rfl rfl) (And.intro ((MatP.o (F140.at 1 rfl : MatP w.heap.size (w.heap.size + 1) n gs (legK useS ls n q) _) Hgb.out)) (F140.cl 0 2 rfl rfl)))))
                  refine ru_t 0 [] ?_
                  refine ru_t 1 [] ?_
                  refine ru_t 2 [] ?_
                  refine ru_t 3 [] ?_
                  refine ru_t 4 [] ?_
                  refine ru_t 5 [] ?_
                  refine ru_t 6 [] ?_
                  refine ru_t 7 [11, 10] ?_
                  refine ru_t 8 [11, 10, 9] ?_
                  refine ru_t 9 [11, 10] ?_
                  refine ru_t 10 [11] ?_
                  refine ru_t 11 [] ?_
                  refine ru_t 14 [] ?_
                  refine ru_t 15 [] ?_
                  refine ru_t 18 [] ?_
                  (try simp only [Act.put, List.setIfInBounds_toArray, List.set_cons_zero, List.set_cons_succ])
                  refine ru_p 12 ?_
                  refine ru_p 16 ?_
                  (try simp only [Act.put, List.setIfInBounds_toArray, List.set_cons_zero, List.set_cons_succ])
                  clear hS141
                  refine ru_three 13 17 19 rfl rfl rfl (by kernel_rfl) ?_ ?_ ?_
                  · intro K hK
                    have kq0_ := F140.cl 0 0 rfl rfl
                    go_simp
                    clear kq0_
                    refine ru_back hK (by exact ⟨F140.cl 0 0 rfl rfl, (MatP.o (F140.at 1 rfl : MatP w.heap.size (w.heap.size + 1) n gs (legK useS ls n q) _) Hga.out), F140.cl 0 1 rfl rfl, (MatP.o (F140.at 1 rfl : MatP w.heap.size (w.heap.size + 1) n gs (legK useS ls n q) _) Hgb.out), F140.cl 0 2 rfl rfl⟩) (fun hHeld => ?_)
                    clear hK K
                    (try simp only [Act.put, List.setIfInBounds_toArray, List.set_cons_zero, List.set_cons_succ])
                    refine ru_two 17 19 rfl rfl (by kernel_rfl) ?_ ?_
                    · intro K hK
                      have kq0_ := F140.cl 0 2 rfl rfl
                      go_simp
                      clear kq0_
                      refine ru_back hK (by exact ⟨F140.cl 0 0 rfl rfl, (MatP.o (F140.at 1 rfl : MatP w.heap.size (w.heap.size + 1) n gs (legK useS ls n q) _) Hga.out), F140.cl 0 1 rfl rfl, (MatP.o (F140.at 1 rfl : MatP w.heap.size (w.heap.size + 1) n gs (legK useS ls n q) _) Hgb.out), F140.cl 0 2 rfl rfl⟩) (fun hHeld => ?_)
                      clear hK K
                      (try simp only [Act.put, List.setIfInBounds_toArray, List.set_cons_zero, List.set_cons_succ])
                      refine ru_one 19 rfl (by kernel_rfl) (fun K hK => ?_)
                      have kc_ : World.cell? _ ⟨ga, z.b.toNat, none⟩ = some (.int .i64 x) := (MatP.c (F140.at 1 rfl : MatP w.heap.size (w.heap.size + 1) n gs (legK useS ls n q) _) Hga.out (Shp.at (i := z.a.toNat) HSH.out (by omega)) ((Shp.cell (i := z.a.toNat) (j := z.b.toNat) HSH.out (by omega) (by omega)).trans (by rw [HX.out])))
                      have kf_ : World.frozen? _ ⟨ga, z.b.toNat, none⟩ = false := (MatP.fc (F140.at 1 rfl : MatP w.heap.size (w.heap.size + 1) n gs (legK useS ls n q) _) (List.mem_of_getElem? Hga.out) _)
                      go_simp
                      clear kc_ kf_
                      have F143 := (F140.front 1 rfl rfl).matSet Hga.out (Shp.at (i := z.a.toNat) HSH.out (by omega)) (Shp.cell (i := z.a.toNat) (j := z.b.toNat) HSH.out (by omega) (by omega)) z.long
                      clear F140
                      have HS1 : Hid (Shp n (mset (legK useS ls n q) z.a.toNat z.b.toNat z.long)) := Lib.hid (HSH.out.set (by omega) _)
                      refine ru_back_late hK (by kernel_rfl) ?_
                      clear hK K
                      (try simp only [Act.put, List.setIfInBounds_toArray, List.set_cons_zero, List.set_cons_succ])
                      refine ru_one 20 rfl (by kernel_rfl) (fun K hK => ?_)
                      go_simp
                      refine ru_back_late hK (by kernel_rfl) ?_
                      clear hK K
                      (try simp only [Act.put, List.setIfInBounds_toArray, List.set_cons_zero, List.set_cons_succ])
                      refine ru_one 21 rfl (by kernel_rfl) (fun K hK => ?_)
                      have kc_ : World.cell? _ ⟨gb, z.a.toNat, none⟩ = some (.int .i64 (mget (mset (legK useS ls n q) z.a.toNat z.b.toNat z.long) z.b.toNat z.a.toNat)) := (MatP.c (F143.at 0 rfl : MatP w.heap.size (w.heap.size + 1) n gs (mset (legK useS ls n q) z.a.toNat z.b.toNat z.long) _) Hgb.out (Shp.at (i := z.b.toNat) HS1.out (by omega)) (Shp.cell (i := z.b.toNat) (j := z.a.toNat) HS1.out (by omega) (by omega)))
                      have kf_ : World.frozen? _ ⟨gb, z.a.toNat, none⟩ = false := (MatP.fc (F143.at 0 rfl : MatP w.heap.size (w.heap.size + 1) n gs (mset (legK useS ls n q) z.a.toNat z.b.toNat z.long) _) (List.mem_of_getElem? Hgb.out) _)
                      go_simp
                      clear kc_ kf_
                      have F144 := F143.matSet Hgb.out (Shp.at (i := z.b.toNat) HS1.out (by omega)) (Shp.cell (i := z.b.toNat) (j := z.a.toNat) HS1.out (by omega) (by omega)) z.long
                      clear F143
                      refine ru_back_late hK (by kernel_rfl) ?_
                      clear hK K
                      (try simp only [Act.put, List.setIfInBounds_toArray, List.set_cons_zero, List.set_cons_succ])
                      refine ru_done (by kernel_rfl) ?_
                      obtain ⟨w145, hx146, F148, hxs147⟩ := (show Bun w [rmat w.heap.size (w.heap.size + 1) n gs (mset (mset (legK useS ls n q) z.a.toNat z.b.toNat z.long) z.b.toNat z.a.toNat z.long), rbox w.heap.size 67 #[.int .i64 (n : Int), .slice (some ⟨x48, o49, none⟩) ls.length cL], rsl lgEnc 5 lo hi (.slice (some ⟨x48, o49, none⟩) ls.length cL) ls] _ from (F144.drop 1 rfl)).name
                      (try simp at hxs147)
                      rw [hx146]
                      clear hx146 F144
                      go_wp2_with fail
                      (first | refine ⟨by kernel_rfl, ?_, ?_⟩ | refine ⟨rfl, ?_, ?_⟩ | refine ⟨?_, ?_⟩)
                      · rw [HI43.out]; exact ⟨q + 1, (by first | kernel_rfl | rfl), (by first | kernel_rfl | rfl), (by first | kernel_rfl | rfl), (by show Value.int .i64 ((q : Int) + 1) = _; simp), (by omega), (by first | rfl | simp), (by first | omega | (simp; done) | (simp; omega)), (by rw [legK_next hz50.out, legM_yes HX.out (by unfold useS; simp; have h_ := c61H.out; omega) (by omega)]; exact F148)⟩
                      · simp [slot, intOf]; omega
                    · intro K hK
                      have kc_ : World.cell? _ ⟨ga, z.b.toNat, none⟩ = some (.int .i64 x) := (MatP.c (F140.at 1 rfl : MatP w.heap.size (w.heap.size + 1) n gs (legK useS ls n q) _) Hga.out (Shp.at (i := z.a.toNat) HSH.out (by omega)) ((Shp.cell (i := z.a.toNat) (j := z.b.toNat) HSH.out (by omega) (by omega)).trans (by rw [HX.out])))
                      have kf_ : World.frozen? _ ⟨ga, z.b.toNat, none⟩ = false := (MatP.fc (F140.at 1 rfl : MatP w.heap.size (w.heap.size + 1) n gs (legK useS ls n q) _) (List.mem_of_getElem? Hga.out) _)
                      go_simp
                      clear kc_ kf_
                      have F149 := (F140.front 1 rfl rfl).matSet Hga.out (Shp.at (i := z.a.toNat) HSH.out (by omega)) (Shp.cell (i := z.a.toNat) (j := z.b.toNat) HSH.out (by omega) (by omega)) z.long
                      clear F140
                      have HS1 : Hid (Shp n (mset (legK useS ls n q) z.a.toNat z.b.toNat z.long)) := Lib.hid (HSH.out.set (by omega) _)
                      refine ru_back_late hK (by kernel_rfl) ?_
                      clear hK K
                      (try simp only [Act.put, List.setIfInBounds_toArray, List.set_cons_zero, List.set_cons_succ])
                      refine ru_one 17 rfl (by kernel_rfl) (fun K hK => ?_)
                      have kq0_ := F149.cl 1 2 rfl rfl
                      go_simp
                      clear kq0_
                      refine ru_back_late hK (by kernel_rfl) ?_
                      clear hK K
                      (try simp only [Act.put, List.setIfInBounds_toArray, List.set_cons_zero, List.set_cons_succ])
                      refine ru_one 20 rfl (by kernel_rfl) (fun K hK => ?_)
                      go_simp
                      refine ru_back_late hK (by kernel_rfl) ?_
                      clear hK K
                      (try simp only [Act.put, List.setIfInBounds_toArray, List.set_cons_zero, List.set_cons_succ])
                      refine ru_one 21 rfl (by kernel_rfl) (fun K hK => ?_)
                      have kc_ : World.cell? _ ⟨gb, z.a.toNat, none⟩ = some (.int .i64 (mget (mset (legK useS ls n q) z.a.toNat z.b.toNat z.long) z.b.toNat z.a.toNat)) := (MatP.c (F149.at 0 rfl : MatP w.heap.size (w.heap.size + 1) n gs (mset (legK useS ls n q) z.a.toNat z.b.toNat z.long) _) Hgb.out (Shp.at (i := z.b.toNat) HS1.out (by omega)) (Shp.cell (i := z.b.toNat) (j := z.a.toNat) HS1.out (by omega) (by omega)))
                      have kf_ : World.frozen? _ ⟨gb, z.a.toNat, none⟩ = false := (MatP.fc (F149.at 0 rfl : MatP w.heap.size (w.heap.size + 1) n gs (mset (legK useS ls n q) z.a.toNat z.b.toNat z.long) _) (List.mem_of_getElem? Hgb.out) _)
                      go_simp
                      clear kc_ kf_
                      have F150 := F149.matSet Hgb.out (Shp.at (i := z.b.toNat) HS1.out (by omega)) (Shp.cell (i := z.b.toNat) (j := z.a.toNat) HS1.out (by omega) (by omega)) z.long
                      clear F149
                      refine ru_back_late hK (by kernel_rfl) ?_
                      clear hK K
                      (try simp only [Act.put, List.setIfInBounds_toArray, List.set_cons_zero, List.set_cons_succ])
                      refine ru_done (by kernel_rfl) ?_
                      obtain ⟨w151, hx152, F154, hxs153⟩ := (show Bun w [rmat w.heap.size (w.heap.size + 1) n gs (mset (mset (legK useS ls n q) z.a.toNat z.b.toNat z.long) z.b.toNat z.a.toNat z.long), rbox w.heap.size 67 #[.int .i64 (n : Int), .slice (some ⟨x48, o49, none⟩) ls.length cL], rsl lgEnc 5 lo hi (.slice (some ⟨x48, o49, none⟩) ls.length cL) ls] _ from (F150.drop 1 rfl)).name
                      (try simp at hxs153)
                      rw [hx152]
                      clear hx152 F150
                      go_wp2_with fail
                      (first | refine ⟨by kernel_rfl, ?_, ?_⟩ | refine ⟨rfl, ?_, ?_⟩ | refine ⟨?_, ?_⟩)
                      · rw [HI43.out]; exact ⟨q + 1, (by first | kernel_rfl | rfl), (by first | kernel_rfl | rfl), (by first | kernel_rfl | rfl), (by show Value.int .i64 ((q : Int) + 1) = _; simp), (by omega), (by first | rfl | simp), (by first | omega | (simp; done) | (simp; omega)), (by rw [legK_next hz50.out, legM_yes HX.out (by unfold useS; simp; have h_ := c61H.out; omega) (by omega)]; exact F154)⟩
                      · simp [slot, intOf]; omega
                  · intro K hK
                    have kq0_ := F140.cl 0 2 rfl rfl
                    go_simp
                    clear kq0_
                    refine ru_back hK (by exact ⟨F140.cl 0 0 rfl rfl, (MatP.o (F140.at 1 rfl : MatP w.heap.size (w.heap.size + 1) n gs (legK useS ls n q) _) Hga.out), F140.cl 0 1 rfl rfl, (MatP.o (F140.at 1 rfl : MatP w.heap.size (w.heap.size + 1) n gs (legK useS ls n q) _) Hgb.out), F140.cl 0 2 rfl rfl⟩) (fun hHeld => ?_)
                    clear hK K
                    (try simp only [Act.put, List.setIfInBounds_toArray, List.set_cons_zero, List.set_cons_succ])
                    refine ru_two 13 19 rfl rfl (by kernel_rfl) ?_ ?_
                    · intro K hK
                      have kq0_ := F140.cl 0 0 rfl rfl
                      go_simp
                      clear kq0_
                      refine ru_back hK (by exact ⟨F140.cl 0 0 rfl rfl, (MatP.o (F140.at 1 rfl : MatP w.heap.size (w.heap.size + 1) n gs (legK useS ls n q) _) Hga.out), F140.cl 0 1 rfl rfl, (MatP.o (F140.at 1 rfl : MatP w.heap.size (w.heap.size + 1) n gs (legK useS ls n q) _) Hgb.out), F140.cl 0 2 rfl rfl⟩) (fun hHeld => ?_)
                      clear hK K
                      (try simp only [Act.put, List.setIfInBounds_toArray, List.set_cons_zero, List.set_cons_succ])
                      refine ru_one 19 rfl (by kernel_rfl) (fun K hK => ?_)
                      have kc_ : World.cell? _ ⟨ga, z.b.toNat, none⟩ = some (.int .i64 x) := (MatP.c (F140.at 1 rfl : MatP w.heap.size (w.heap.size + 1) n gs (legK useS ls n q) _) Hga.out (Shp.at (i := z.a.toNat) HSH.out (by omega)) ((Shp.cell (i := z.a.toNat) (j := z.b.toNat) HSH.out (by omega) (by omega)).trans (by rw [HX.out])))
                      have kf_ : World.frozen? _ ⟨ga, z.b.toNat, none⟩ = false := (MatP.fc (F140.at 1 rfl : MatP w.heap.size (w.heap.size + 1) n gs (legK useS ls n q) _) (List.mem_of_getElem? Hga.out) _)
                      go_simp
                      clear kc_ kf_
                      have F155 := (F140.front 1 rfl rfl).matSet Hga.out (Shp.at (i := z.a.toNat) HSH.out (by omega)) (Shp.cell (i := z.a.toNat) (j := z.b.toNat) HSH.out (by omega) (by omega)) z.long
                      clear F140
                      have HS1 : Hid (Shp n (mset (legK useS ls n q) z.a.toNat z.b.toNat z.long)) := Lib.hid (HSH.out.set (by omega) _)
                      refine ru_back_late hK (by kernel_rfl) ?_
                      clear hK K
                      (try simp only [Act.put, List.setIfInBounds_toArray, List.set_cons_zero, List.set_cons_succ])
                      refine ru_one 20 rfl (by kernel_rfl) (fun K hK => ?_)
                      go_simp
                      refine ru_back_late hK (by kernel_rfl) ?_
                      clear hK K
                      (try simp only [Act.put, List.setIfInBounds_toArray, List.set_cons_zero, List.set_cons_succ])
                      refine ru_one 21 rfl (by kernel_rfl) (fun K hK => ?_)
                      have kc_ : World.cell? _ ⟨gb, z.a.toNat, none⟩ = some (.int .i64 (mget (mset (legK useS ls n q) z.a.toNat z.b.toNat z.long) z.b.toNat z.a.toNat)) := (MatP.c (F155.at 0 rfl : MatP w.heap.size (w.heap.size + 1) n gs (mset (legK useS ls n q) z.a.toNat z.b.toNat z.long) _) Hgb.out (Shp.at (i := z.b.toNat) HS1.out (by omega)) (Shp.cell (i := z.b.toNat) (j := z.a.toNat) HS1.out (by omega) (by omega)))
                      have kf_ : World.frozen? _ ⟨gb, z.a.toNat, none⟩ = false := (MatP.fc (F155.at 0 rfl : MatP w.heap.size (w.heap.size + 1) n gs (mset (legK useS ls n q) z.a.toNat z.b.toNat z.long) _) (List.mem_of_getElem? Hgb.out) _)
                      go_simp
                      clear kc_ kf_
                      have F156 := F155.matSet Hgb.out (Shp.at (i := z.b.toNat) HS1.out (by omega)) (Shp.cell (i := z.b.toNat) (j := z.a.toNat) HS1.out (by omega) (by omega)) z.long
                      clear F155
                      refine ru_back_late hK (by kernel_rfl) ?_
                      clear hK K
                      (try simp only [Act.put, List.setIfInBounds_toArray, List.set_cons_zero, List.set_cons_succ])
                      refine ru_done (by kernel_rfl) ?_
                      obtain ⟨w157, hx158, F160, hxs159⟩ := (show Bun w [rmat w.heap.size (w.heap.size + 1) n gs (mset (mset (legK useS ls n q) z.a.toNat z.b.toNat z.long) z.b.toNat z.a.toNat z.long), rbox w.heap.size 67 #[.int .i64 (n : Int), .slice (some ⟨x48, o49, none⟩) ls.length cL], rsl lgEnc 5 lo hi (.slice (some ⟨x48, o49, none⟩) ls.length cL) ls] _ from (F156.drop 1 rfl)).name
                      (try simp at hxs159)
                      rw [hx158]
                      clear hx158 F156
                      go_wp2_with fail
                      (first | refine ⟨by kernel_rfl, ?_, ?_⟩ | refine ⟨rfl, ?_, ?_⟩ | refine ⟨?_, ?_⟩)
                      · rw [HI43.out]; exact ⟨q + 1, (by first | kernel_rfl | rfl), (by first | kernel_rfl | rfl), (by first | kernel_rfl | rfl), (by show Value.int .i64 ((q : Int) + 1) = _; simp), (by omega), (by first | rfl | simp), (by first | omega | (simp; done) | (simp; omega)), (by rw [legK_next hz50.out, legM_yes HX.out (by unfold useS; simp; have h_ := c61H.out; omega) (by omega)]; exact F160)⟩
                      · simp [slot, intOf]; omega
                    · intro K hK
                      have kc_ : World.cell? _ ⟨ga, z.b.toNat, none⟩ = some (.int .i64 x) := (MatP.c (F140.at 1 rfl : MatP w.heap.size (w.heap.size + 1) n gs (legK useS ls n q) _) Hga.out (Shp.at (i := z.a.toNat) HSH.out (by omega)) ((Shp.cell (i := z.a.toNat) (j := z.b.toNat) HSH.out (by omega) (by omega)).trans (by rw [HX.out])))
                      have kf_ : World.frozen? _ ⟨ga, z.b.toNat, none⟩ = false := (MatP.fc (F140.at 1 rfl : MatP w.heap.size (w.heap.size + 1) n gs (legK useS ls n q) _) (List.mem_of_getElem? Hga.out) _)
                      go_simp
                      clear kc_ kf_
                      have F161 := (F140.front 1 rfl rfl).matSet Hga.out (Shp.at (i := z.a.toNat) HSH.out (by omega)) (Shp.cell (i := z.a.toNat) (j := z.b.toNat) HSH.out (by omega) (by omega)) z.long
                      clear F140
                      have HS1 : Hid (Shp n (mset (legK useS ls n q) z.a.toNat z.b.toNat z.long)) := Lib.hid (HSH.out.set (by omega) _)
                      refine ru_back_late hK (by kernel_rfl) ?_
                      clear hK K
                      (try simp only [Act.put, List.setIfInBounds_toArray, List.set_cons_zero, List.set_cons_succ])
                      refine ru_one 13 rfl (by kernel_rfl) (fun K hK => ?_)
                      have kq0_ := F161.cl 1 0 rfl rfl
                      go_simp
                      clear kq0_
                      refine ru_back_late hK (by kernel_rfl) ?_
                      clear hK K
                      (try simp only [Act.put, List.setIfInBounds_toArray, List.set_cons_zero, List.set_cons_succ])
                      refine ru_one 20 rfl (by kernel_rfl) (fun K hK => ?_)
                      go_simp
                      refine ru_back_late hK (by kernel_rfl) ?_
                      clear hK K
                      (try simp only [Act.put, List.setIfInBounds_toArray, List.set_cons_zero, List.set_cons_succ])
                      refine ru_one 21 rfl (by kernel_rfl) (fun K hK => ?_)
                      have kc_ : World.cell? _ ⟨gb, z.a.toNat, none⟩ = some (.int .i64 (mget (mset (legK useS ls n q) z.a.toNat z.b.toNat z.long) z.b.toNat z.a.toNat)) := (MatP.c (F161.at 0 rfl : MatP w.heap.size (w.heap.size + 1) n gs (mset (legK useS ls n q) z.a.toNat z.b.toNat z.long) _) Hgb.out (Shp.at (i := z.b.toNat) HS1.out (by omega)) (Shp.cell (i := z.b.toNat) (j := z.a.toNat) HS1.out (by omega) (by omega)))
                      have kf_ : World.frozen? _ ⟨gb, z.a.toNat, none⟩ = false := (MatP.fc (F161.at 0 rfl : MatP w.heap.size (w.heap.size + 1) n gs (mset (legK useS ls n q) z.a.toNat z.b.toNat z.long) _) (List.mem_of_getElem? Hgb.out) _)
                      go_simp
                      clear kc_ kf_
                      have F162 := F161.matSet Hgb.out (Shp.at (i := z.b.toNat) HS1.out (by omega)) (Shp.cell (i := z.b.toNat) (j := z.a.toNat) HS1.out (by omega) (by omega)) z.long
                      clear F161
                      refine ru_back_late hK (by kernel_rfl) ?_
                      clear hK K
                      (try simp only [Act.put, List.setIfInBounds_toArray, List.set_cons_zero, List.set_cons_succ])
                      refine ru_done (by kernel_rfl) ?_
                      obtain ⟨w163, hx164, F166, hxs165⟩ := (show Bun w [rmat w.heap.size (w.heap.size + 1) n gs (mset (mset (legK useS ls n q) z.a.toNat z.b.toNat z.long) z.b.toNat z.a.toNat z.long), rbox w.heap.size 67 #[.int .i64 (n : Int), .slice (some ⟨x48, o49, none⟩) ls.length cL], rsl lgEnc 5 lo hi (.slice (some ⟨x48, o49, none⟩) ls.length cL) ls] _ from (F162.drop 1 rfl)).name
                      (try simp at hxs165)
                      rw [hx164]
                      clear hx164 F162
                      go_wp2_with fail
                      (first | refine ⟨by kernel_rfl, ?_, ?_⟩ | refine ⟨rfl, ?_, ?_⟩ | refine ⟨?_, ?_⟩)
                      · rw [HI43.out]; exact ⟨q + 1, (by first | kernel_rfl | rfl), (by first | kernel_rfl | rfl), (by first | kernel_rfl | rfl), (by show Value.int .i64 ((q : Int) + 1) = _; simp), (by omega), (by first | rfl | simp), (by first | omega | (simp; done) | (simp; omega)), (by rw [legK_next hz50.out, legM_yes HX.out (by unfold useS; simp; have h_ := c61H.out; omega) (by omega)]; exact F166)⟩
                      · simp [slot, intOf]; omega
                  · intro K hK
                    have kc_ : World.cell? _ ⟨ga, z.b.toNat, none⟩ = some (.int .i64 x) := (MatP.c (F140.at 1 rfl : MatP w.heap.size (w.heap.size + 1) n gs (legK useS ls n q) _) Hga.out (Shp.at (i := z.a.toNat) HSH.out (by omega)) ((Shp.cell (i := z.a.toNat) (j := z.b.toNat) HSH.out (by omega) (by omega)).trans (by rw [HX.out])))
                    have kf_ : World.frozen? _ ⟨ga, z.b.toNat, none⟩ = false := (MatP.fc (F140.at 1 rfl : MatP w.heap.size (w.heap.size + 1) n gs (legK useS ls n q) _) (List.mem_of_getElem? Hga.out) _)
                    go_simp
                    clear kc_ kf_
                    have F167 := (F140.front 1 rfl rfl).matSet Hga.out (Shp.at (i := z.a.toNat) HSH.out (by omega)) (Shp.cell (i := z.a.toNat) (j := z.b.toNat) HSH.out (by omega) (by omega)) z.long
                    clear F140
                    have HS1 : Hid (Shp n (mset (legK useS ls n q) z.a.toNat z.b.toNat z.long)) := Lib.hid (HSH.out.set (by omega) _)
                    refine ru_back_late hK (by kernel_rfl) ?_
                    clear hK K
                    (try simp only [Act.put, List.setIfInBounds_toArray, List.set_cons_zero, List.set_cons_succ])
                    refine ru_two 13 17 rfl rfl (by kernel_rfl) ?_ ?_
                    · intro K hK
                      have kq0_ := F167.cl 1 0 rfl rfl
                      go_simp
                      clear kq0_
                      refine ru_back_late hK (by kernel_rfl) ?_
                      clear hK K
                      (try simp only [Act.put, List.setIfInBounds_toArray, List.set_cons_zero, List.set_cons_succ])
                      refine ru_one 17 rfl (by kernel_rfl) (fun K hK => ?_)
                      have kq0_ := F167.cl 1 2 rfl rfl
                      go_simp
                      clear kq0_
                      refine ru_back_late hK (by kernel_rfl) ?_
                      clear hK K
                      (try simp only [Act.put, List.setIfInBounds_toArray, List.set_cons_zero, List.set_cons_succ])
                      refine ru_one 20 rfl (by kernel_rfl) (fun K hK => ?_)
                      go_simp
                      refine ru_back_late hK (by kernel_rfl) ?_
                      clear hK K
                      (try simp only [Act.put, List.setIfInBounds_toArray, List.set_cons_zero, List.set_cons_succ])
                      refine ru_one 21 rfl (by kernel_rfl) (fun K hK => ?_)
                      have kc_ : World.cell? _ ⟨gb, z.a.toNat, none⟩ = some (.int .i64 (mget (mset (legK useS ls n q) z.a.toNat z.b.toNat z.long) z.b.toNat z.a.toNat)) := (MatP.c (F167.at 0 rfl : MatP w.heap.size (w.heap.size + 1) n gs (mset (legK useS ls n q) z.a.toNat z.b.toNat z.long) _) Hgb.out (Shp.at (i := z.b.toNat) HS1.out (by omega)) (Shp.cell (i := z.b.toNat) (j := z.a.toNat) HS1.out (by omega) (by omega)))
                      have kf_ : World.frozen? _ ⟨gb, z.a.toNat, none⟩ = false := (MatP.fc (F167.at 0 rfl : MatP w.heap.size (w.heap.size + 1) n gs (mset (legK useS ls n q) z.a.toNat z.b.toNat z.long) _) (List.mem_of_getElem? Hgb.out) _)
                      go_simp
                      clear kc_ kf_
                      have F168 := F167.matSet Hgb.out (Shp.at (i := z.b.toNat) HS1.out (by omega)) (Shp.cell (i := z.b.toNat) (j := z.a.toNat) HS1.out (by omega) (by omega)) z.long
                      clear F167
                      refine ru_back_late hK (by kernel_rfl) ?_
                      clear hK K
                      (try simp only [Act.put, List.setIfInBounds_toArray, List.set_cons_zero, List.set_cons_succ])
                      refine ru_done (by kernel_rfl) ?_
                      obtain ⟨w169, hx170, F172, hxs171⟩ := (show Bun w [rmat w.heap.size (w.heap.size + 1) n gs (mset (mset (legK useS ls n q) z.a.toNat z.b.toNat z.long) z.b.toNat z.a.toNat z.long), rbox w.heap.size 67 #[.int .i64 (n : Int), .slice (some ⟨x48, o49, none⟩) ls.length cL], rsl lgEnc 5 lo hi (.slice (some ⟨x48, o49, none⟩) ls.length cL) ls] _ from (F168.drop 1 rfl)).name
                      (try simp at hxs171)
                      rw [hx170]
                      clear hx170 F168
                      go_wp2_with fail
                      (first | refine ⟨by kernel_rfl, ?_, ?_⟩ | refine ⟨rfl, ?_, ?_⟩ | refine ⟨?_, ?_⟩)
                      · rw [HI43.out]; exact ⟨q + 1, (by first | kernel_rfl | rfl), (by first | kernel_rfl | rfl), (by first | kernel_rfl | rfl), (by show Value.int .i64 ((q : Int) + 1) = _; simp), (by omega), (by first | rfl | simp), (by first | omega | (simp; done) | (simp; omega)), (by rw [legK_next hz50.out, legM_yes HX.out (by unfold useS; simp; have h_ := c61H.out; omega) (by omega)]; exact F172)⟩
                      · simp [slot, intOf]; omega
                    · intro K hK
                      have kq0_ := F167.cl 1 2 rfl rfl
                      go_simp
                      clear kq0_
                      refine ru_back_late hK (by kernel_rfl) ?_
                      clear hK K
                      (try simp only [Act.put, List.setIfInBounds_toArray, List.set_cons_zero, List.set_cons_succ])
                      refine ru_one 13 rfl (by kernel_rfl) (fun K hK => ?_)
                      have kq0_ := F167.cl 1 0 rfl rfl
                      go_simp
                      clear kq0_
                      refine ru_back_late hK (by kernel_rfl) ?_
                      clear hK K
                      (try simp only [Act.put, List.setIfInBounds_toArray, List.set_cons_zero, List.set_cons_succ])
                      refine ru_one 20 rfl (by kernel_rfl) (fun K hK => ?_)
                      go_simp
                      refine ru_back_late hK (by kernel_rfl) ?_
                      clear hK K
                      (try simp only [Act.put, List.setIfInBounds_toArray, List.set_cons_zero, List.set_cons_succ])
                      refine ru_one 21 rfl (by kernel_rfl) (fun K hK => ?_)
                      have kc_ : World.cell? _ ⟨gb, z.a.toNat, none⟩ = some (.int .i64 (mget (mset (legK useS ls n q) z.a.toNat z.b.toNat z.long) z.b.toNat z.a.toNat)) := (MatP.c (F167.at 0 rfl : MatP w.heap.size (w.heap.size + 1) n gs (mset (legK useS ls n q) z.a.toNat z.b.toNat z.long) _) Hgb.out (Shp.at (i := z.b.toNat) HS1.out (by omega)) (Shp.cell (i := z.b.toNat) (j := z.a.toNat) HS1.out (by omega) (by omega)))
                      have kf_ : World.frozen? _ ⟨gb, z.a.toNat, none⟩ = false := (MatP.fc (F167.at 0 rfl : MatP w.heap.size (w.heap.size + 1) n gs (mset (legK useS ls n q) z.a.toNat z.b.toNat z.long) _) (List.mem_of_getElem? Hgb.out) _)
                      go_simp
                      clear kc_ kf_
                      have F173 := F167.matSet Hgb.out (Shp.at (i := z.b.toNat) HS1.out (by omega)) (Shp.cell (i := z.b.toNat) (j := z.a.toNat) HS1.out (by omega) (by omega)) z.long
                      clear F167
                      refine ru_back_late hK (by kernel_rfl) ?_
                      clear hK K
                      (try simp only [Act.put, List.setIfInBounds_toArray, List.set_cons_zero, List.set_cons_succ])
                      refine ru_done (by kernel_rfl) ?_
                      obtain ⟨w174, hx175, F177, hxs176⟩ := (show Bun w [rmat w.heap.size (w.heap.size + 1) n gs (mset (mset (legK useS ls n q) z.a.toNat z.b.toNat z.long) z.b.toNat z.a.toNat z.long), rbox w.heap.size 67 #[.int .i64 (n : Int), .slice (some ⟨x48, o49, none⟩) ls.length cL], rsl lgEnc 5 lo hi (.slice (some ⟨x48, o49, none⟩) ls.length cL) ls] _ from (F173.drop 1 rfl)).name
                      (try simp at hxs176)
                      rw [hx175]
                      clear hx175 F173
                      go_wp2_with fail
                      (first | refine ⟨by kernel_rfl, ?_, ?_⟩ | refine ⟨rfl, ?_, ?_⟩ | refine ⟨?_, ?_⟩)
                      · rw [HI43.out]; exact ⟨q + 1, (by first | kernel_rfl | rfl), (by first | kernel_rfl | rfl), (by first | kernel_rfl | rfl), (by show Value.int .i64 ((q : Int) + 1) = _; simp), (by omega), (by first | rfl | simp), (by first | omega | (simp; done) | (simp; omega)), (by rw [legK_next hz50.out, legM_yes HX.out (by unfold useS; simp; have h_ := c61H.out; omega) (by omega)]; exact F177)⟩
                      · simp [slot, intOf]; omega
                · skip
                  have c139H := Lib.hid c139
                  have c139a : decide (z.long < x) = false := dec_f c139
                  go_wp2_with fail
                  have F178 : Bun w [rmat w.heap.size (w.heap.size + 1) n gs (legK useS ls n q), rbox w.heap.size 67 #[.int .i64 (n : Int), .slice (some ⟨x48, o49, none⟩) ls.length cL], rsl lgEnc 5 lo hi (.slice (some ⟨x48, o49, none⟩) ls.length cL) ls] _ := F138.pick [1, 2, 3] (by decide) rfl
                  clear F138
                  (first | refine ⟨by kernel_rfl, ?_, ?_⟩ | refine ⟨rfl, ?_, ?_⟩ | refine ⟨?_, ?_⟩)
                  · rw [HI43.out]; exact ⟨q + 1, (by first | kernel_rfl | rfl), (by first | kernel_rfl | rfl), (by first | kernel_rfl | rfl), (by show Value.int .i64 ((q : Int) + 1) = _; simp), (by omega), (by first | rfl | simp), (by first | omega | (simp; done) | (simp; omega)), (by rw [legK_next hz50.out, legM_no HX.out (.inr (by omega))]; exact F178)⟩
                  · simp [slot, intOf]; omega
            · skip
              have c61a : (z.op == 1) = false := beq_f c61
              have c61b : (z.op != 1) = true := bne_t c61
              have c61H := Lib.hid c61
              clear c61
              have b179 := hF44.bx2 1 rfl
              have ge180 : World.cell? _ ⟨x48, o49 + q * 5, none⟩ = some (.int .i64 z.a) := (((hF44.at 2 rfl : Sl lgEnc 5 lo hi _ (.slice (some ⟨x48, o49, none⟩) ls.length cL) ls)).cells hz50.out 0 _ rfl)
              have gl181 := cell_lt ge180
              have ge182 : World.cell? _ ⟨x48, o49 + q * 5 + 1, none⟩ = some (.int .i64 z.b) := (((hF44.at 2 rfl : Sl lgEnc 5 lo hi _ (.slice (some ⟨x48, o49, none⟩) ls.length cL) ls)).cells hz50.out 1 _ rfl)
              have ge183 : World.cell? _ ⟨x48, o49 + q * 5 + 2, none⟩ = some (.int .i64 z.long) := (((hF44.at 2 rfl : Sl lgEnc 5 lo hi _ (.slice (some ⟨x48, o49, none⟩) ls.length cL) ls)).cells hz50.out 2 _ rfl)
              have ge184 : World.cell? _ ⟨x48, o49 + q * 5 + 3, none⟩ = some (.int .i64 z.op) := (((hF44.at 2 rfl : Sl lgEnc 5 lo hi _ (.slice (some ⟨x48, o49, none⟩) ls.length cL) ls)).cells hz50.out 3 _ rfl)
              have ge185 : World.cell? _ ⟨x48, o49 + q * 5 + 4, none⟩ = some (.int .i64 z.cost) := (((hF44.at 2 rfl : Sl lgEnc 5 lo hi _ (.slice (some ⟨x48, o49, none⟩) ls.length cL) ls)).cells hz50.out 4 _ rfl)
              go_wp2_with fail
              clear b179 ge180 gl181 ge182 ge183 ge184 ge185
              have F186 := hF44.new 75 #[.int .i64 z.a, .int .i64 z.b, .int .i64 z.long, .int .i64 z.op, .int .i64 z.cost] (n := w46.heap.size) (by simp)
              clear hF44
              have F187 : Bun w [rmat w.heap.size (w.heap.size + 1) n gs (legK useS ls n q), rbox w.heap.size 67 #[.int .i64 (n : Int), .slice (some ⟨x48, o49, none⟩) ls.length cL], rsl lgEnc 5 lo hi (.slice (some ⟨x48, o49, none⟩) ls.length cL) ls] _ := F186.pick [1, 2, 3] (by decide) rfl
              clear F186
              (first | refine ⟨by kernel_rfl, ?_, ?_⟩ | refine ⟨rfl, ?_, ?_⟩ | refine ⟨?_, ?_⟩)
              · rw [HI43.out]; exact ⟨q + 1, (by first | kernel_rfl | rfl), (by first | kernel_rfl | rfl), (by first | kernel_rfl | rfl), (by show Value.int .i64 ((q : Int) + 1) = _; simp), (by omega), (by first | rfl | simp), (by first | omega | (simp; done) | (simp; omega)), (by rw [legK_next hz50.out, legM_no HX.out (.inl (by unfold useS; simp; have h_ := c61H.out; omega))]; exact F187)⟩
              · simp [slot, intOf]; omega
        · skip
          have c47H := Lib.hid c47
          have c47a : decide ((q : Int) < (ls.length : Int)) = false := dec_f c47
          have hqn_ : q = ls.length := by omega
          rw [hqn_] at hF44
          clear hqn_
          obtain ⟨M1, hM1_⟩ : ∃ M_, legK useS ls n ls.length = M_ := ⟨_, rfl⟩
          have HM1 := Lib.hid hM1_
          have HZB := Lib.hid (legK_zb (u := useS) HLS.out)
          rw [hM1_] at HZB hF44
          clear hM1_
          have F188 : Bun w [rmat w.heap.size (w.heap.size + 1) n gs (fwM n M1 0), rbox w.heap.size 67 #[.int .i64 (n : Int), .slice aL ls.length cL], rsl lgEnc 5 lo hi (.slice aL ls.length cL) ls] _ := hF44
          clear hF44
          have b189 := F188.bx2 1 rfl
          go_wp2_with fail
          clear b189
          obtain ⟨HI190_, HI1900⟩ : ∃ I : (Nat → Value) → List Deferred → World → Prop, I = (fun t ds wr => ∃ (m : Nat), t 2 = .pointer (some ⟨w.heap.size, 0, none⟩) ∧ t 5 = .slice (some ⟨w.heap.size + 1, 0, none⟩) n n ∧ t 10 = .int .i64 (m : Int) ∧ m ≤ n ∧ ds = [] ∧ w46.heap.size ≤ wr.heap.size ∧ Bun w [rmat w.heap.size (w.heap.size + 1) n gs (fwM n M1 m), rbox w.heap.size 67 #[.int .i64 (n : Int), .slice aL ls.length cL], rsl lgEnc 5 lo hi (.slice aL ls.length cL) ls] wr) := ⟨_, rfl⟩
          have HI190 := Lib.hid HI1900
          clear HI1900
          refine wp_loopS 186 rfl HI190_ (fun t wr => n - (intOf (t 10)).toNat) ?atStart4 ?round4
          case round4 =>
            intro t ds wr hHid
            rw [HI190.out] at hHid
            obtain ⟨m, e2, e5, e10, hrel⟩ := hHid
            have e : ((List.range 186).map t).toArray = #[t 0, t 1, t 2, t 3, t 4, t 5, t 6, t 7, t 8, t 9, t 10, t 11, t 12, t 13, t 14, t 15, t 16, t 17, t 18, t 19, t 20, t 21, t 22, t 23, t 24, t 25, t 26, t 27, t 28, t 29, t 30, t 31, t 32, t 33, t 34, t 35, t 36, t 37, t 38, t 39, t 40, t 41, t 42, t 43, t 44, t 45, t 46, t 47, t 48, t 49, t 50, t 51, t 52, t 53, t 54, t 55, t 56, t 57, t 58, t 59, t 60, t 61, t 62, t 63, t 64, t 65, t 66, t 67, t 68, t 69, t 70, t 71, t 72, t 73, t 74, t 75, t 76, t 77, t 78, t 79, t 80, t 81, t 82, t 83, t 84, t 85, t 86, t 87, t 88, t 89, t 90, t 91, t 92, t 93, t 94, t 95, t 96, t 97, t 98, t 99, t 100, t 101, t 102, t 103, t 104, t 105, t 106, t 107, t 108, t 109, t 110, t 111, t 112, t 113, t 114, t 115, t 116, t 117, t 118, t 119, t 120, t 121, t 122, t 123, t 124, t 125, t 126, t 127, t 128, t 129, t 130, t 131, t 132, t 133, t 134, t 135, t 136, t 137, t 138, t 139, t 140, t 141, t 142, t 143, t 144, t 145, t 146, t 147, t 148, t 149, t 150, t 151, t 152, t 153, t 154, t 155, t 156, t 157, t 158, t 159, t 160, t 161, t 162, t 163, t 164, t 165, t 166, t 167, t 168, t 169, t 170, t 171, t 172, t 173, t 174, t 175, t 176, t 177, t 178, t 179, t 180, t 181, t 182, t 183, t 184, t 185] := rfl
            (try dsimp only at e)
            rw [e2, e5, e10] at e
            rw [e]
            simp only [e10]
            clear e e2 e5 e10
            obtain ⟨hm_, rfl, hs192, hF191⟩ := hrel
            clear F188
            obtain ⟨w193, rfl⟩ : ∃ x_ : World, x_ = wr := ⟨_, rfl⟩
            by_cases c194 : (m : Int) < (n : Int)
            · skip
              have c194H := Lib.hid c194
              have b195 := hF191.bx2 1 rfl
              go_wp2_with fail
              clear b195
              obtain ⟨HI196_, HI1960⟩ : ∃ I : (Nat → Value) → List Deferred → World → Prop, I = (fun t ds wr => ∃ (i : Nat), t 2 = .pointer (some ⟨w.heap.size, 0, none⟩) ∧ t 5 = .slice (some ⟨w.heap.size + 1, 0, none⟩) n n ∧ t 10 = .int .i64 (m : Int) ∧ t 11 = .int .i64 (i : Int) ∧ i ≤ n ∧ ds = [] ∧ w193.heap.size ≤ wr.heap.size ∧ Bun w [rmat w.heap.size (w.heap.size + 1) n gs (fwI n (fwM n M1 m) m i), rbox w.heap.size 67 #[.int .i64 (n : Int), .slice aL ls.length cL], rsl lgEnc 5 lo hi (.slice aL ls.length cL) ls] wr) := ⟨_, rfl⟩
              have HI196 := Lib.hid HI1960
              clear HI1960
              refine wp_loopS 186 rfl HI196_ (fun t wr => n - (intOf (t 11)).toNat) ?atStart5 ?round5
              case round5 =>
                intro t ds wr hHid
                rw [HI196.out] at hHid
                obtain ⟨i, e2, e5, e10, e11, hrel⟩ := hHid
                have e : ((List.range 186).map t).toArray = #[t 0, t 1, t 2, t 3, t 4, t 5, t 6, t 7, t 8, t 9, t 10, t 11, t 12, t 13, t 14, t 15, t 16, t 17, t 18, t 19, t 20, t 21, t 22, t 23, t 24, t 25, t 26, t 27, t 28, t 29, t 30, t 31, t 32, t 33, t 34, t 35, t 36, t 37, t 38, t 39, t 40, t 41, t 42, t 43, t 44, t 45, t 46, t 47, t 48, t 49, t 50, t 51, t 52, t 53, t 54, t 55, t 56, t 57, t 58, t 59, t 60, t 61, t 62, t 63, t 64, t 65, t 66, t 67, t 68, t 69, t 70, t 71, t 72, t 73, t 74, t 75, t 76, t 77, t 78, t 79, t 80, t 81, t 82, t 83, t 84, t 85, t 86, t 87, t 88, t 89, t 90, t 91, t 92, t 93, t 94, t 95, t 96, t 97, t 98, t 99, t 100, t 101, t 102, t 103, t 104, t 105, t 106, t 107, t 108, t 109, t 110, t 111, t 112, t 113, t 114, t 115, t 116, t 117, t 118, t 119, t 120, t 121, t 122, t 123, t 124, t 125, t 126, t 127, t 128, t 129, t 130, t 131, t 132, t 133, t 134, t 135, t 136, t 137, t 138, t 139, t 140, t 141, t 142, t 143, t 144, t 145, t 146, t 147, t 148, t 149, t 150, t 151, t 152, t 153, t 154, t 155, t 156, t 157, t 158, t 159, t 160, t 161, t 162, t 163, t 164, t 165, t 166, t 167, t 168, t 169, t 170, t 171, t 172, t 173, t 174, t 175, t 176, t 177, t 178, t 179, t 180, t 181, t 182, t 183, t 184, t 185] := rfl
                (try dsimp only at e)
                rw [e2, e5, e10, e11] at e
                rw [e]
                simp only [e11]
                clear e e2 e5 e10 e11
                obtain ⟨hi_, rfl, hs198, hF197⟩ := hrel
                clear hF191
                obtain ⟨w199, rfl⟩ : ∃ x_ : World, x_ = wr := ⟨_, rfl⟩
                by_cases c200 : (i : Int) < (n : Int)
                · skip
                  have c200H := Lib.hid c200
                  have b201 := hF197.bx2 1 rfl
                  go_wp2_with fail
                  clear b201
                  obtain ⟨HI202_, HI2020⟩ : ∃ I : (Nat → Value) → List Deferred → World → Prop, I = (fun t ds wr => ∃ (k : Nat), t 2 = .pointer (some ⟨w.heap.size, 0, none⟩) ∧ t 5 = .slice (some ⟨w.heap.size + 1, 0, none⟩) n n ∧ t 10 = .int .i64 (m : Int) ∧ t 11 = .int .i64 (i : Int) ∧ t 12 = .int .i64 (k : Int) ∧ k ≤ n ∧ ds = [] ∧ w199.heap.size ≤ wr.heap.size ∧ Bun w [rmat w.heap.size (w.heap.size + 1) n gs (fwK (fwI n (fwM n M1 m) m i) m i k), rbox w.heap.size 67 #[.int .i64 (n : Int), .slice aL ls.length cL], rsl lgEnc 5 lo hi (.slice aL ls.length cL) ls] wr) := ⟨_, rfl⟩
                  have HI202 := Lib.hid HI2020
                  clear HI2020
                  refine wp_loopS 186 rfl HI202_ (fun t wr => n - (intOf (t 12)).toNat) ?atStart6 ?round6
                  case round6 =>
                    intro t ds wr hHid
                    rw [HI202.out] at hHid
                    obtain ⟨k, e2, e5, e10, e11, e12, hrel⟩ := hHid
                    have e : ((List.range 186).map t).toArray = #[t 0, t 1, t 2, t 3, t 4, t 5, t 6, t 7, t 8, t 9, t 10, t 11, t 12, t 13, t 14, t 15, t 16, t 17, t 18, t 19, t 20, t 21, t 22, t 23, t 24, t 25, t 26, t 27, t 28, t 29, t 30, t 31, t 32, t 33, t 34, t 35, t 36, t 37, t 38, t 39, t 40, t 41, t 42, t 43, t 44, t 45, t 46, t 47, t 48, t 49, t 50, t 51, t 52, t 53, t 54, t 55, t 56, t 57, t 58, t 59, t 60, t 61, t 62, t 63, t 64, t 65, t 66, t 67, t 68, t 69, t 70, t 71, t 72, t 73, t 74, t 75, t 76, t 77, t 78, t 79, t 80, t 81, t 82, t 83, t 84, t 85, t 86, t 87, t 88, t 89, t 90, t 91, t 92, t 93, t 94, t 95, t 96, t 97, t 98, t 99, t 100, t 101, t 102, t 103, t 104, t 105, t 106, t 107, t 108, t 109, t 110, t 111, t 112, t 113, t 114, t 115, t 116, t 117, t 118, t 119, t 120, t 121, t 122, t 123, t 124, t 125, t 126, t 127, t 128, t 129, t 130, t 131, t 132, t 133, t 134, t 135, t 136, t 137, t 138, t 139, t 140, t 141, t 142, t 143, t 144, t 145, t 146, t 147, t 148, t 149, t 150, t 151, t 152, t 153, t 154, t 155, t 156, t 157, t 158, t 159, t 160, t 161, t 162, t 163, t 164, t 165, t 166, t 167, t 168, t 169, t 170, t 171, t 172, t 173, t 174, t 175, t 176, t 177, t 178, t 179, t 180, t 181, t 182, t 183, t 184, t 185] := rfl
                    (try dsimp only at e)
                    rw [e2, e5, e10, e11, e12] at e
                    rw [e]
                    simp only [e12]
                    clear e e2 e5 e10 e11 e12
                    obtain ⟨hk_, rfl, hs204, hF203⟩ := hrel
                    clear hF197
                    obtain ⟨w205, rfl⟩ : ∃ x_ : World, x_ = wr := ⟨_, rfl⟩
                    by_cases c206 : (k : Int) < (n : Int)
                    · skip
                      have c206H := Lib.hid c206
                      have HFB := Lib.hid (fw_bd HZB.out hn20 (m := m) (i := i) (k := k) (by omega) (by omega) (by omega))
                      have HSH := Lib.hid HFB.out.1
                      obtain ⟨x, h_⟩ : ∃ x_, mget (fwK (fwI n (fwM n M1 m) m i) m i k) i m = x_ := ⟨_, rfl⟩
                      have HX := Lib.hid h_
                      have hxb : -1 ≤ x ∧ x ≤ 2097152000000 := by rw [← h_]; exact HFB.out.2 _ _ (by omega) (by omega)
                      clear h_
                      obtain ⟨y, h_⟩ : ∃ x_, mget (fwK (fwI n (fwM n M1 m) m i) m i k) m k = x_ := ⟨_, rfl⟩
                      have HY := Lib.hid h_
                      have hyb : -1 ≤ y ∧ y ≤ 2097152000000 := by rw [← h_]; exact HFB.out.2 _ _ (by omega) (by omega)
                      clear h_
                      obtain ⟨z, h_⟩ : ∃ x_, mget (fwK (fwI n (fwM n M1 m) m i) m i k) i k = x_ := ⟨_, rfl⟩
                      have HZ := Lib.hid h_
                      have hzb : -1 ≤ z ∧ z ≤ 2097152000000 := by rw [← h_]; exact HFB.out.2 _ _ (by omega) (by omega)
                      clear h_
                      obtain ⟨gi, h_⟩ : ∃ g_, gs[i]? = some g_ := ⟨_, List.getElem?_eq_getElem (by have h_ := HGN.out; omega)⟩
                      have Hgi := Lib.hid h_
                      clear h_
                      obtain ⟨gm, h_⟩ : ∃ g_, gs[m]? = some g_ := ⟨_, List.getElem?_eq_getElem (by have h_ := HGN.out; omega)⟩
                      have Hgm := Lib.hid h_
                      clear h_
                      have b207 := hF203.bx2 1 rfl
                      go_wp2_with fail
                      clear b207
                      have ge208 : World.cell? _ ⟨w.heap.size + 1, i, none⟩ = some (.slice (some ⟨gi, 0, none⟩) n n) := (MatP.o (hF203.at 0 rfl : MatP w.heap.size (w.heap.size + 1) n gs (fwK (fwI n (fwM n M1 m) m i) m i k) _) Hgi.out)
                      have ge209 : World.cell? _ ⟨gi, m, none⟩ = some (.int .i64 x) := (MatP.c (hF203.at 0 rfl : MatP w.heap.size (w.heap.size + 1) n gs (fwK (fwI n (fwM n M1 m) m i) m i k) _) Hgi.out (Shp.at (i := i) HSH.out (by omega)) ((Shp.cell (i := i) (j := m) HSH.out (by omega) (by omega)).trans (by rw [HX.out])))
                      have ge210 : World.cell? _ ⟨w.heap.size + 1, m, none⟩ = some (.slice (some ⟨gm, 0, none⟩) n n) := (MatP.o (hF203.at 0 rfl : MatP w.heap.size (w.heap.size + 1) n gs (fwK (fwI n (fwM n M1 m) m i) m i k) _) Hgm.out)
                      have ge211 : World.cell? _ ⟨gm, k, none⟩ = some (.int .i64 y) := (MatP.c (hF203.at 0 rfl : MatP w.heap.size (w.heap.size + 1) n gs (fwK (fwI n (fwM n M1 m) m i) m i k) _) Hgm.out (Shp.at (i := m) HSH.out (by omega)) ((Shp.cell (i := m) (j := k) HSH.out (by omega) (by omega)).trans (by rw [HY.out])))
                      go_quiet (fail)
                      clear ge208 ge209 ge210 ge211
                      have F212 := hF203.drewN nq
                      clear hF203
                      obtain ⟨w213, hx214, F216, hxs215⟩ := (show Bun w [rmat w.heap.size (w.heap.size + 1) n gs (fwK (fwI n (fwM n M1 m) m i) m i k), rbox w.heap.size 67 #[.int .i64 (n : Int), .slice aL ls.length cL], rsl lgEnc 5 lo hi (.slice aL ls.length cL) ls] _ from F212).name
                      (try simp at hxs215)
                      rw [hx214]
                      clear hx214 F212
                      by_cases c217 : 0 ≤ x
                      · skip
                        have c217H := Lib.hid c217
                        by_cases c218 : 0 ≤ y
                        · skip
                          have c218H := Lib.hid c218
                          by_cases c219 : z < 0
                          · skip
                            have c219H := Lib.hid c219
                            have ge220 : World.cell? _ ⟨w.heap.size + 1, i, none⟩ = some (.slice (some ⟨gi, 0, none⟩) n n) := (MatP.o (F216.at 0 rfl : MatP w.heap.size (w.heap.size + 1) n gs (fwK (fwI n (fwM n M1 m) m i) m i k) _) Hgi.out)
                            have gl221 := cell_lt ge220
                            have ge222 : World.cell? _ ⟨gi, k, none⟩ = some (.int .i64 z) := (MatP.c (F216.at 0 rfl : MatP w.heap.size (w.heap.size + 1) n gs (fwK (fwI n (fwM n M1 m) m i) m i k) _) Hgi.out (Shp.at (i := i) HSH.out (by omega)) ((Shp.cell (i := i) (j := k) HSH.out (by omega) (by omega)).trans (by rw [HZ.out])))
                            have gl223 := cell_lt ge222
                            have ge224 : World.cell? _ ⟨gi, k, none⟩ = some (.int .i64 z) := (MatP.c (F216.at 0 rfl : MatP w.heap.size (w.heap.size + 1) n gs (fwK (fwI n (fwM n M1 m) m i) m i k) _) Hgi.out (Shp.at (i := i) HSH.out (by omega)) ((Shp.cell (i := i) (j := k) HSH.out (by omega) (by omega)).trans (by rw [HZ.out])))
                            have gl225 := cell_lt ge224
                            have ge226 : World.frozen? _ ⟨gi, k, none⟩ = false := (MatP.fc (F216.at 0 rfl : MatP w.heap.size (w.heap.size + 1) n gs (fwK (fwI n (fwM n M1 m) m i) m i k) _) (List.mem_of_getElem? Hgi.out) _)
                            go_wp2_with fail
                            clear ge220 gl221 ge222 gl223 ge224 gl225 ge226
                            have F227 := F216.matSet Hgi.out (Shp.at (i := i) HSH.out (by omega)) (Shp.cell (i := i) (j := k) HSH.out (by omega) (by omega)) (x + y)
                            clear F216
                            (first | refine ⟨by kernel_rfl, ?_, ?_⟩ | refine ⟨rfl, ?_, ?_⟩ | refine ⟨?_, ?_⟩)
                            · rw [HI202.out]; exact ⟨k + 1, (by first | kernel_rfl | rfl), (by first | kernel_rfl | rfl), (by first | kernel_rfl | rfl), (by first | kernel_rfl | rfl), (by show Value.int .i64 ((k : Int) + 1) = _; simp), (by omega), (by first | rfl | simp), (by first | omega | (simp; done) | (simp; omega)), (by rw [fwK_yes HX.out HY.out HZ.out (by omega)]; exact F227)⟩
                            · simp [slot, intOf]; omega
                          · skip
                            have c219H := Lib.hid c219
                            have c219a : decide (z < 0) = false := dec_f c219
                            by_cases c228 : x + y < z
                            · skip
                              have c228H := Lib.hid c228
                              have ge229 : World.cell? _ ⟨w.heap.size + 1, i, none⟩ = some (.slice (some ⟨gi, 0, none⟩) n n) := (MatP.o (F216.at 0 rfl : MatP w.heap.size (w.heap.size + 1) n gs (fwK (fwI n (fwM n M1 m) m i) m i k) _) Hgi.out)
                              have gl230 := cell_lt ge229
                              have ge231 : World.cell? _ ⟨gi, k, none⟩ = some (.int .i64 z) := (MatP.c (F216.at 0 rfl : MatP w.heap.size (w.heap.size + 1) n gs (fwK (fwI n (fwM n M1 m) m i) m i k) _) Hgi.out (Shp.at (i := i) HSH.out (by omega)) ((Shp.cell (i := i) (j := k) HSH.out (by omega) (by omega)).trans (by rw [HZ.out])))
                              have gl232 := cell_lt ge231
                              have ge233 : World.cell? _ ⟨gi, k, none⟩ = some (.int .i64 z) := (MatP.c (F216.at 0 rfl : MatP w.heap.size (w.heap.size + 1) n gs (fwK (fwI n (fwM n M1 m) m i) m i k) _) Hgi.out (Shp.at (i := i) HSH.out (by omega)) ((Shp.cell (i := i) (j := k) HSH.out (by omega) (by omega)).trans (by rw [HZ.out])))
                              have gl234 := cell_lt ge233
                              have ge235 : World.frozen? _ ⟨gi, k, none⟩ = false := (MatP.fc (F216.at 0 rfl : MatP w.heap.size (w.heap.size + 1) n gs (fwK (fwI n (fwM n M1 m) m i) m i k) _) (List.mem_of_getElem? Hgi.out) _)
                              go_wp2_with fail
                              clear ge229 gl230 ge231 gl232 ge233 gl234 ge235
                              have F236 := F216.matSet Hgi.out (Shp.at (i := i) HSH.out (by omega)) (Shp.cell (i := i) (j := k) HSH.out (by omega) (by omega)) (x + y)
                              clear F216
                              (first | refine ⟨by kernel_rfl, ?_, ?_⟩ | refine ⟨rfl, ?_, ?_⟩ | refine ⟨?_, ?_⟩)
                              · rw [HI202.out]; exact ⟨k + 1, (by first | kernel_rfl | rfl), (by first | kernel_rfl | rfl), (by first | kernel_rfl | rfl), (by first | kernel_rfl | rfl), (by show Value.int .i64 ((k : Int) + 1) = _; simp), (by omega), (by first | rfl | simp), (by first | omega | (simp; done) | (simp; omega)), (by rw [fwK_yes HX.out HY.out HZ.out (by omega)]; exact F236)⟩
                              · simp [slot, intOf]; omega
                            · skip
                              have c228H := Lib.hid c228
                              have c228a : decide (x + y < z) = false := dec_f c228
                              have ge237 : World.cell? _ ⟨w.heap.size + 1, i, none⟩ = some (.slice (some ⟨gi, 0, none⟩) n n) := (MatP.o (F216.at 0 rfl : MatP w.heap.size (w.heap.size + 1) n gs (fwK (fwI n (fwM n M1 m) m i) m i k) _) Hgi.out)
                              have gl238 := cell_lt ge237
                              have ge239 : World.cell? _ ⟨gi, k, none⟩ = some (.int .i64 z) := (MatP.c (F216.at 0 rfl : MatP w.heap.size (w.heap.size + 1) n gs (fwK (fwI n (fwM n M1 m) m i) m i k) _) Hgi.out (Shp.at (i := i) HSH.out (by omega)) ((Shp.cell (i := i) (j := k) HSH.out (by omega) (by omega)).trans (by rw [HZ.out])))
                              have gl240 := cell_lt ge239
                              go_wp2_with fail
                              clear ge237 gl238 ge239 gl240
                              (first | refine ⟨by kernel_rfl, ?_, ?_⟩ | refine ⟨rfl, ?_, ?_⟩ | refine ⟨?_, ?_⟩)
                              · rw [HI202.out]; exact ⟨k + 1, (by first | kernel_rfl | rfl), (by first | kernel_rfl | rfl), (by first | kernel_rfl | rfl), (by first | kernel_rfl | rfl), (by show Value.int .i64 ((k : Int) + 1) = _; simp), (by omega), (by first | rfl | simp), (by first | omega | (simp; done) | (simp; omega)), (by rw [fwK_no HX.out HY.out HZ.out (by omega)]; exact F216)⟩
                              · simp [slot, intOf]; omega
                        · skip
                          have c218H := Lib.hid c218
                          have c218a : decide (0 ≤ y) = false := dec_f c218
                          go_wp2_with fail
                          (first | refine ⟨by kernel_rfl, ?_, ?_⟩ | refine ⟨rfl, ?_, ?_⟩ | refine ⟨?_, ?_⟩)
                          · rw [HI202.out]; exact ⟨k + 1, (by first | kernel_rfl | rfl), (by first | kernel_rfl | rfl), (by first | kernel_rfl | rfl), (by first | kernel_rfl | rfl), (by show Value.int .i64 ((k : Int) + 1) = _; simp), (by omega), (by first | rfl | simp), (by first | omega | (simp; done) | (simp; omega)), (by rw [fwK_no HX.out HY.out HZ.out (by omega)]; exact F216)⟩
                          · simp [slot, intOf]; omega
                      · skip
                        have c217H := Lib.hid c217
                        have c217a : decide (0 ≤ x) = false := dec_f c217
                        go_wp2_with fail
                        (first | refine ⟨by kernel_rfl, ?_, ?_⟩ | refine ⟨rfl, ?_, ?_⟩ | refine ⟨?_, ?_⟩)
                        · rw [HI202.out]; exact ⟨k + 1, (by first | kernel_rfl | rfl), (by first | kernel_rfl | rfl), (by first | kernel_rfl | rfl), (by first | kernel_rfl | rfl), (by show Value.int .i64 ((k : Int) + 1) = _; simp), (by omega), (by first | rfl | simp), (by first | omega | (simp; done) | (simp; omega)), (by rw [fwK_no HX.out HY.out HZ.out (by omega)]; exact F216)⟩
                        · simp [slot, intOf]; omega
                    · skip
                      have c206H := Lib.hid c206
                      have c206a : decide ((k : Int) < (n : Int)) = false := dec_f c206
                      have hkn_ : k = n := by omega
                      rw [hkn_] at hF203
                      clear hkn_
                      have F241 : Bun w [rmat w.heap.size (w.heap.size + 1) n gs (fwI n (fwM n M1 m) m (i + 1)), rbox w.heap.size 67 #[.int .i64 (n : Int), .slice aL ls.length cL], rsl lgEnc 5 lo hi (.slice aL ls.length cL) ls] _ := hF203
                      clear hF203
                      have b242 := F241.bx2 1 rfl
                      go_wp2_with fail
                      clear b242
                      (first | refine ⟨by kernel_rfl, ?_, ?_⟩ | refine ⟨rfl, ?_, ?_⟩ | refine ⟨?_, ?_⟩)
                      · rw [HI196.out]; exact ⟨i + 1, (by first | kernel_rfl | rfl), (by first | kernel_rfl | rfl), (by first | kernel_rfl | rfl), (by show Value.int .i64 ((i : Int) + 1) = _; simp), (by omega), (by first | rfl | simp), (by first | omega | (simp; done) | (simp; omega)), F241⟩
                      · simp [slot, intOf]; omega
                  case atStart6 =>
                    rw [HI202.out]
                    exact ⟨0, (by first | kernel_rfl | rfl), (by first | kernel_rfl | rfl), (by first | kernel_rfl | rfl), (by first | kernel_rfl | rfl), rfl, Nat.zero_le _, rfl, (by first | exact Nat.le_refl _ | omega | (simp; done) | (simp; omega)), hF197⟩
                · skip
                  have c200H := Lib.hid c200
                  have c200a : decide ((i : Int) < (n : Int)) = false := dec_f c200
                  have hin_ : i = n := by omega
                  rw [hin_] at hF197
                  clear hin_
                  have F243 : Bun w [rmat w.heap.size (w.heap.size + 1) n gs (fwM n M1 (m + 1)), rbox w.heap.size 67 #[.int .i64 (n : Int), .slice aL ls.length cL], rsl lgEnc 5 lo hi (.slice aL ls.length cL) ls] _ := hF197
                  clear hF197
                  have b244 := F243.bx2 1 rfl
                  go_wp2_with fail
                  clear b244
                  (first | refine ⟨by kernel_rfl, ?_, ?_⟩ | refine ⟨rfl, ?_, ?_⟩ | refine ⟨?_, ?_⟩)
                  · rw [HI190.out]; exact ⟨m + 1, (by first | kernel_rfl | rfl), (by first | kernel_rfl | rfl), (by show Value.int .i64 ((m : Int) + 1) = _; simp), (by omega), (by first | rfl | simp), (by first | omega | (simp; done) | (simp; omega)), F243⟩
                  · simp [slot, intOf]; omega
              case atStart5 =>
                rw [HI196.out]
                exact ⟨0, (by first | kernel_rfl | rfl), (by first | kernel_rfl | rfl), (by first | kernel_rfl | rfl), rfl, Nat.zero_le _, rfl, (by first | exact Nat.le_refl _ | omega | (simp; done) | (simp; omega)), hF191⟩
            · skip
              have c194H := Lib.hid c194
              have c194a : decide ((m : Int) < (n : Int)) = false := dec_f c194
              have hmn_ : m = n := by omega
              rw [hmn_] at hF191
              clear hmn_
              have b245 := hF191.bx2 1 rfl
              go_wp2_with fail
              clear b245
              have F246 : Bun w [rmat w.heap.size (w.heap.size + 1) n gs (fwM n M1 n)] _ := hF191.pick [0] (by decide) rfl
              clear hF191
              exact bodyPost_ret (v := .slice (some ⟨w.heap.size + 1, 0, none⟩) n n) (by simp [results, Try.results35, go_sem]) rfl (⟨_, gs, rfl, (by rw [legK_len, HM1.out]; exact F246)⟩)
          case atStart4 =>
            rw [HI190.out]
            exact ⟨0, (by first | kernel_rfl | rfl), (by first | kernel_rfl | rfl), rfl, Nat.zero_le _, rfl, (by first | exact Nat.le_refl _ | omega | (simp; done) | (simp; omega)), F188⟩
      case atStart3 =>
        rw [HI43.out]
        exact ⟨0, (by first | kernel_rfl | rfl), (by first | kernel_rfl | rfl), (by first | kernel_rfl | rfl), rfl, Nat.zero_le _, rfl, (by first | exact Nat.le_refl _ | omega | (simp; done) | (simp; omega)), hF10⟩
  case atStart1 =>
    rw [HI9.out]
    exact ⟨0, [], (by first | kernel_rfl | rfl), (by first | kernel_rfl | rfl), (by first | kernel_rfl | rfl), rfl, Nat.zero_le _, (Lib.hid rfl), rfl, (by first | exact Nat.le_refl _ | omega | (simp; done) | (simp; omega)), F8⟩

set_option maxHeartbeats 32000000 in
theorem lengthsf_c (lo hi : Nat) (v : Value) (ls : List Lg) (n : Nat) (w : World) (hl : Sl lgEnc 5 lo hi w v ls) (h2 : hi ≤ w.heap.size) (hls : ∀ l ∈ ls, LgOk n l) (hn20 : n ≤ 20) :
    Calls Try.prog 35 #[.agg #[.int .i64 (n : Int), v], .bool false] w (LensR useP ls n w) := by
  have F1 : Bun w [] w := Bun.nil _
  have hm_ls := hl.len
  unfold maxLen at hm_ls
  obtain ⟨aL, cL, rfl⟩ := hl.any
  have F2 := F1.sl0 hl h2 rfl
  clear F1
  clear hl
  have HLS := Lib.hid hls
  clear hls
  go_enter Try.func35, Try.ntmps35
  have F3 := F2.new 67 #[.int .i64 (n : Int), .slice aL ls.length cL] (n := w.heap.size) (by simp)
  clear F2
  go_wp2_with (at_make; refine wpList_mkRows rfl _ _ rfl n rfl rfl F3 (by omega) (w.heap.size + 1) (by first | rfl | simp) ?_; intro w4 hB5 hs6; refine Hid.out ?_)
  refine Lib.hid ?_
  (try simp at hs6)
  have F7 := hB5
  clear F3
  go_wp2_with fail
  have F8 := F7.mat0
  clear F7
  (skip)
  obtain ⟨HI9_, HI90⟩ : ∃ I : (Nat → Value) → List Deferred → World → Prop, I = (fun t ds wr => ∃ (i : Nat) (gs : List Nat), t 1 = .bool false ∧ t 2 = .pointer (some ⟨w.heap.size, 0, none⟩) ∧ t 5 = .slice (some ⟨w.heap.size + 1, 0, none⟩) n n ∧ t 6 = .int .i64 (i : Int) ∧ i ≤ n ∧ Hid (gs.length = i) ∧ ds = [] ∧ w4.heap.size ≤ wr.heap.size ∧ Bun w [rmat w.heap.size (w.heap.size + 1) n gs (mat0 n i), rbox w.heap.size 67 #[.int .i64 (n : Int), .slice aL ls.length cL], rsl lgEnc 5 lo hi (.slice aL ls.length cL) ls] wr) := ⟨_, rfl⟩
  have HI9 := Lib.hid HI90
  clear HI90
  refine wp_loopS 186 rfl HI9_ (fun t wr => n - (intOf (t 6)).toNat) ?atStart7 ?round7
  case round7 =>
    intro t ds wr hHid
    rw [HI9.out] at hHid
    obtain ⟨i, gs, e1, e2, e5, e6, hrel⟩ := hHid
    have e : ((List.range 186).map t).toArray = #[t 0, t 1, t 2, t 3, t 4, t 5, t 6, t 7, t 8, t 9, t 10, t 11, t 12, t 13, t 14, t 15, t 16, t 17, t 18, t 19, t 20, t 21, t 22, t 23, t 24, t 25, t 26, t 27, t 28, t 29, t 30, t 31, t 32, t 33, t 34, t 35, t 36, t 37, t 38, t 39, t 40, t 41, t 42, t 43, t 44, t 45, t 46, t 47, t 48, t 49, t 50, t 51, t 52, t 53, t 54, t 55, t 56, t 57, t 58, t 59, t 60, t 61, t 62, t 63, t 64, t 65, t 66, t 67, t 68, t 69, t 70, t 71, t 72, t 73, t 74, t 75, t 76, t 77, t 78, t 79, t 80, t 81, t 82, t 83, t 84, t 85, t 86, t 87, t 88, t 89, t 90, t 91, t 92, t 93, t 94, t 95, t 96, t 97, t 98, t 99, t 100, t 101, t 102, t 103, t 104, t 105, t 106, t 107, t 108, t 109, t 110, t 111, t 112, t 113, t 114, t 115, t 116, t 117, t 118, t 119, t 120, t 121, t 122, t 123, t 124, t 125, t 126, t 127, t 128, t 129, t 130, t 131, t 132, t 133, t 134, t 135, t 136, t 137, t 138, t 139, t 140, t 141, t 142, t 143, t 144, t 145, t 146, t 147, t 148, t 149, t 150, t 151, t 152, t 153, t 154, t 155, t 156, t 157, t 158, t 159, t 160, t 161, t 162, t 163, t 164, t 165, t 166, t 167, t 168, t 169, t 170, t 171, t 172, t 173, t 174, t 175, t 176, t 177, t 178, t 179, t 180, t 181, t 182, t 183, t 184, t 185] := rfl
    (try dsimp only at e)
    rw [e1, e2, e5, e6] at e
    rw [e]
    simp only [e6]
    clear e e1 e2 e5 e6
    obtain ⟨hi_, HGL, rfl, hs11, hF10⟩ := hrel
    clear F8
    obtain ⟨w12, rfl⟩ : ∃ x_ : World, x_ = wr := ⟨_, rfl⟩
    by_cases c13 : (i : Int) < (n : Int)
    · skip
      have c13H := Lib.hid c13
      have b14 := hF10.bx2 1 rfl
      go_wp2_with (at_make; refine wpList_mkInt rfl _ _ rfl n rfl rfl hF10 (by omega) w12.heap.size (by first | rfl | simp) ?_; intro w15 hB16 hs17; refine Hid.out ?_)
      refine Lib.hid ?_
      (try simp at hs17)
      clear b14
      have F18 := hB16
      clear hF10
      have ge19 : World.cell? _ ⟨w.heap.size + 1, i, none⟩ = some (.slice none 0 0) := (MatP.oz (F18.at 1 rfl : MatP w.heap.size (w.heap.size + 1) n gs (mat0 n i) _) (by have h_ := HGL.out; omega) HGL.out)
      have gl20 := cell_lt ge19
      have ge21 : World.frozen? _ ⟨w.heap.size + 1, i, none⟩ = false := (MatP.fo (F18.at 1 rfl : MatP w.heap.size (w.heap.size + 1) n gs (mat0 n i) _) _)
      go_wp2_with fail
      clear ge19 gl20 ge21
      have F22 := F18.matRow (by have h_ := HGL.out; omega) HGL.out
      clear F18
      have hgl2_ : (gs ++ [w12.heap.size]).length = i + 1 := by rw [List.length_append, HGL.out]; rfl
      have hgi_ : (gs ++ [w12.heap.size])[i]? = some w12.heap.size := by rw [List.getElem?_append_right (by rw [HGL.out]; exact Nat.le_refl _), HGL.out, Nat.sub_self]; rfl
      obtain ⟨gs2, hgs2_⟩ : ∃ x_, gs ++ [w12.heap.size] = x_ := ⟨_, rfl⟩
      rw [hgs2_] at hgl2_ hgi_ F22
      have HG2 := Lib.hid hgl2_
      have HGI := Lib.hid hgi_
      clear hgl2_ hgi_ hgs2_
      rw [← fillR_zero] at F22
      obtain ⟨HI23_, HI230⟩ : ∃ I : (Nat → Value) → List Deferred → World → Prop, I = (fun t ds wr => ∃ (k : Nat), t 1 = .bool false ∧ t 2 = .pointer (some ⟨w.heap.size, 0, none⟩) ∧ t 5 = .slice (some ⟨w.heap.size + 1, 0, none⟩) n n ∧ t 6 = .int .i64 (i : Int) ∧ t 7 = .int .i64 (k : Int) ∧ k ≤ n ∧ ds = [] ∧ w15.heap.size ≤ wr.heap.size ∧ Bun w [rmat w.heap.size (w.heap.size + 1) n gs2 (mat0 n i ++ [fillR n k]), rbox w.heap.size 67 #[.int .i64 (n : Int), .slice aL ls.length cL], rsl lgEnc 5 lo hi (.slice aL ls.length cL) ls] wr) := ⟨_, rfl⟩
      have HI23 := Lib.hid HI230
      clear HI230
      refine wp_loopS 186 rfl HI23_ (fun t wr => n - (intOf (t 7)).toNat) ?atStart8 ?round8
      case round8 =>
        intro t ds wr hHid
        rw [HI23.out] at hHid
        obtain ⟨k, e1, e2, e5, e6, e7, hrel⟩ := hHid
        have e : ((List.range 186).map t).toArray = #[t 0, t 1, t 2, t 3, t 4, t 5, t 6, t 7, t 8, t 9, t 10, t 11, t 12, t 13, t 14, t 15, t 16, t 17, t 18, t 19, t 20, t 21, t 22, t 23, t 24, t 25, t 26, t 27, t 28, t 29, t 30, t 31, t 32, t 33, t 34, t 35, t 36, t 37, t 38, t 39, t 40, t 41, t 42, t 43, t 44, t 45, t 46, t 47, t 48, t 49, t 50, t 51, t 52, t 53, t 54, t 55, t 56, t 57, t 58, t 59, t 60, t 61, t 62, t 63, t 64, t 65, t 66, t 67, t 68, t 69, t 70, t 71, t 72, t 73, t 74, t 75, t 76, t 77, t 78, t 79, t 80, t 81, t 82, t 83, t 84, t 85, t 86, t 87, t 88, t 89, t 90, t 91, t 92, t 93, t 94, t 95, t 96, t 97, t 98, t 99, t 100, t 101, t 102, t 103, t 104, t 105, t 106, t 107, t 108, t 109, t 110, t 111, t 112, t 113, t 114, t 115, t 116, t 117, t 118, t 119, t 120, t 121, t 122, t 123, t 124, t 125, t 126, t 127, t 128, t 129, t 130, t 131, t 132, t 133, t 134, t 135, t 136, t 137, t 138, t 139, t 140, t 141, t 142, t 143, t 144, t 145, t 146, t 147, t 148, t 149, t 150, t 151, t 152, t 153, t 154, t 155, t 156, t 157, t 158, t 159, t 160, t 161, t 162, t 163, t 164, t 165, t 166, t 167, t 168, t 169, t 170, t 171, t 172, t 173, t 174, t 175, t 176, t 177, t 178, t 179, t 180, t 181, t 182, t 183, t 184, t 185] := rfl
        (try dsimp only at e)
        rw [e1, e2, e5, e6, e7] at e
        rw [e]
        simp only [e7]
        clear e e1 e2 e5 e6 e7
        obtain ⟨hk_, rfl, hs25, hF24⟩ := hrel
        clear F22
        obtain ⟨w26, rfl⟩ : ∃ x_ : World, x_ = wr := ⟨_, rfl⟩
        by_cases c27 : (k : Int) < (n : Int)
        · skip
          have c27H := Lib.hid c27
          have b28 := hF24.bx2 1 rfl
          have ge29 : World.cell? _ ⟨w.heap.size + 1, i, none⟩ = some (.slice (some ⟨w12.heap.size, 0, none⟩) n n) := (MatP.o (hF24.at 0 rfl : MatP w.heap.size (w.heap.size + 1) n gs2 (mat0 n i ++ [fillR n k]) _) HGI.out)
          have gl30 := cell_lt ge29
          have ge31 : World.cell? _ ⟨w12.heap.size, k, none⟩ = some (.int .i64 0) := (MatP.c (hF24.at 0 rfl : MatP w.heap.size (w.heap.size + 1) n gs2 (mat0 n i ++ [fillR n k]) _) HGI.out (mat_at _) (fillR_at (n := n) (k := k) (by omega)))
          have gl32 := cell_lt ge31
          have ge33 : World.frozen? _ ⟨w12.heap.size, k, none⟩ = false := (MatP.fc (hF24.at 0 rfl : MatP w.heap.size (w.heap.size + 1) n gs2 (mat0 n i ++ [fillR n k]) _) (List.mem_of_getElem? HGI.out) _)
          go_wp2_with fail
          clear b28 ge29 gl30 ge31 gl32 ge33
          have F34 := hF24.matSet HGI.out (mat_at _) (fillR_at (n := n) (k := k) (by omega)) (-1)
          clear hF24
          rw [mat_fill (n := n) (k := k) (by omega)] at F34
          (first | refine ⟨by kernel_rfl, ?_, ?_⟩ | refine ⟨rfl, ?_, ?_⟩ | refine ⟨?_, ?_⟩)
          · rw [HI23.out]; exact ⟨k + 1, (by first | kernel_rfl | rfl), (by first | kernel_rfl | rfl), (by first | kernel_rfl | rfl), (by first | kernel_rfl | rfl), (by show Value.int .i64 ((k : Int) + 1) = _; simp), (by omega), (by first | rfl | simp), (by first | omega | (simp; done) | (simp; omega)), F34⟩
          · simp [slot, intOf]; omega
        · skip
          have c27H := Lib.hid c27
          have c27a : decide ((k : Int) < (n : Int)) = false := dec_f c27
          have hkn_ : k = n := by omega
          rw [hkn_] at hF24
          clear hkn_
          have b35 := hF24.bx2 1 rfl
          have ge36 : World.cell? _ ⟨w.heap.size + 1, i, none⟩ = some (.slice (some ⟨w12.heap.size, 0, none⟩) n n) := (MatP.o (hF24.at 0 rfl : MatP w.heap.size (w.heap.size + 1) n gs2 (mat0 n i ++ [fillR n n]) _) HGI.out)
          have gl37 := cell_lt ge36
          have ge38 : World.cell? _ ⟨w12.heap.size, i, none⟩ = some (.int .i64 (-1)) := (MatP.c (hF24.at 0 rfl : MatP w.heap.size (w.heap.size + 1) n gs2 (mat0 n i ++ [fillR n n]) _) HGI.out (mat_at _) (fillN_at (n := n) (i := i) (by omega)))
          have gl39 := cell_lt ge38
          have ge40 : World.frozen? _ ⟨w12.heap.size, i, none⟩ = false := (MatP.fc (hF24.at 0 rfl : MatP w.heap.size (w.heap.size + 1) n gs2 (mat0 n i ++ [fillR n n]) _) (List.mem_of_getElem? HGI.out) _)
          go_wp2_with fail
          clear b35 ge36 gl37 ge38 gl39 ge40
          have F41 := hF24.matSet HGI.out (mat_at _) (fillN_at (n := n) (i := i) (by omega)) 0
          clear hF24
          rw [mat_last] at F41
          (first | refine ⟨by kernel_rfl, ?_, ?_⟩ | refine ⟨rfl, ?_, ?_⟩ | refine ⟨?_, ?_⟩)
          · rw [HI9.out]; exact ⟨i + 1, gs2, (by first | kernel_rfl | rfl), (by first | kernel_rfl | rfl), (by first | kernel_rfl | rfl), (by show Value.int .i64 ((i : Int) + 1) = _; simp), (by omega), HG2, (by first | rfl | simp), (by first | omega | (simp; done) | (simp; omega)), F41⟩
          · simp [slot, intOf]; omega
      case atStart8 =>
        rw [HI23.out]
        exact ⟨0, (by first | kernel_rfl | rfl), (by first | kernel_rfl | rfl), (by first | kernel_rfl | rfl), (by first | kernel_rfl | rfl), rfl, Nat.zero_le _, rfl, (by first | exact Nat.le_refl _ | omega | (simp; done) | (simp; omega)), F22⟩
    · skip
      have c13H := Lib.hid c13
      have c13a : decide ((i : Int) < (n : Int)) = false := dec_f c13
      have hin_ : i = n := by omega
      rw [hin_] at hF10
      have HGN : Hid (gs.length = n) := Lib.hid (by rw [HGL.out, hin_])
      rw [← legK_zero (u := useP) (ls := ls)] at hF10
      clear hin_
      have b42 := hF10.bx2 1 rfl
      go_wp2_with fail
      clear b42
      obtain ⟨HI43_, HI430⟩ : ∃ I : (Nat → Value) → List Deferred → World → Prop, I = (fun t ds wr => ∃ (q : Nat), t 1 = .bool false ∧ t 2 = .pointer (some ⟨w.heap.size, 0, none⟩) ∧ t 5 = .slice (some ⟨w.heap.size + 1, 0, none⟩) n n ∧ t 8 = .int .i64 (q : Int) ∧ q ≤ ls.length ∧ ds = [] ∧ w12.heap.size ≤ wr.heap.size ∧ Bun w [rmat w.heap.size (w.heap.size + 1) n gs (legK useP ls n q), rbox w.heap.size 67 #[.int .i64 (n : Int), .slice aL ls.length cL], rsl lgEnc 5 lo hi (.slice aL ls.length cL) ls] wr) := ⟨_, rfl⟩
      have HI43 := Lib.hid HI430
      clear HI430
      refine wp_loopS 186 rfl HI43_ (fun t wr => ls.length - (intOf (t 8)).toNat) ?atStart9 ?round9
      case round9 =>
        intro t ds wr hHid
        rw [HI43.out] at hHid
        obtain ⟨q, e1, e2, e5, e8, hrel⟩ := hHid
        have e : ((List.range 186).map t).toArray = #[t 0, t 1, t 2, t 3, t 4, t 5, t 6, t 7, t 8, t 9, t 10, t 11, t 12, t 13, t 14, t 15, t 16, t 17, t 18, t 19, t 20, t 21, t 22, t 23, t 24, t 25, t 26, t 27, t 28, t 29, t 30, t 31, t 32, t 33, t 34, t 35, t 36, t 37, t 38, t 39, t 40, t 41, t 42, t 43, t 44, t 45, t 46, t 47, t 48, t 49, t 50, t 51, t 52, t 53, t 54, t 55, t 56, t 57, t 58, t 59, t 60, t 61, t 62, t 63, t 64, t 65, t 66, t 67, t 68, t 69, t 70, t 71, t 72, t 73, t 74, t 75, t 76, t 77, t 78, t 79, t 80, t 81, t 82, t 83, t 84, t 85, t 86, t 87, t 88, t 89, t 90, t 91, t 92, t 93, t 94, t 95, t 96, t 97, t 98, t 99, t 100, t 101, t 102, t 103, t 104, t 105, t 106, t 107, t 108, t 109, t 110, t 111, t 112, t 113, t 114, t 115, t 116, t 117, t 118, t 119, t 120, t 121, t 122, t 123, t 124, t 125, t 126, t 127, t 128, t 129, t 130, t 131, t 132, t 133, t 134, t 135, t 136, t 137, t 138, t 139, t 140, t 141, t 142, t 143, t 144, t 145, t 146, t 147, t 148, t 149, t 150, t 151, t 152, t 153, t 154, t 155, t 156, t 157, t 158, t 159, t 160, t 161, t 162, t 163, t 164, t 165, t 166, t 167, t 168, t 169, t 170, t 171, t 172, t 173, t 174, t 175, t 176, t 177, t 178, t 179, t 180, t 181, t 182, t 183, t 184, t 185] := rfl
        (try dsimp only at e)
        rw [e1, e2, e5, e8] at e
        rw [e]
        simp only [e8]
        clear e e1 e2 e5 e8
        obtain ⟨hq_, rfl, hs45, hF44⟩ := hrel
        clear hF10
        obtain ⟨w46, rfl⟩ : ∃ x_ : World, x_ = wr := ⟨_, rfl⟩
        by_cases c47 : (q : Int) < (ls.length : Int)
        · skip
          have c47H := Lib.hid c47
          obtain ⟨x48, o49, e_⟩ := Sl.addr (hF44.at 2 rfl : Sl lgEnc 5 lo hi _ (.slice aL ls.length cL) ls) (by omega)
          subst e_
          obtain ⟨z, hz50_⟩ : ∃ z_, ls[q]? = some z_ := ⟨_, List.getElem?_eq_getElem (by omega)⟩
          have hz50 := Lib.hid hz50_
          clear hz50_
          have HZ := Lib.hid (HLS.out z (List.mem_of_getElem? hz50.out))
          have hza := HZ.out.a
          have hzb := HZ.out.b
          have hzl := HZ.out.long
          have hzo := HZ.out.op
          have hzn := HZ.out.ne
          have HSH := Lib.hid (legK_I (u := useP) HLS.out q).shp
          obtain ⟨x, hx_⟩ : ∃ x_, mget (legK useP ls n q) z.a.toNat z.b.toNat = x_ := ⟨_, rfl⟩
          have HX := Lib.hid hx_
          have hxb : -1 ≤ x ∧ x ≤ 1000000 := by rw [← hx_]; exact legK_bd HLS.out q (by omega) _ _ (by omega) (by omega)
          clear hx_
          obtain ⟨ga, h_⟩ : ∃ g_, gs[z.a.toNat]? = some g_ := ⟨_, List.getElem?_eq_getElem (by have h_ := HGN.out; omega)⟩
          have Hga := Lib.hid h_
          clear h_
          obtain ⟨gb, h_⟩ : ∃ g_, gs[z.b.toNat]? = some g_ := ⟨_, List.getElem?_eq_getElem (by have h_ := HGN.out; omega)⟩
          have Hgb := Lib.hid h_
          clear h_
          by_cases c51 : z.op = 2
          · skip
            have c51a : (z.op == 2) = true := beq_t c51
            have c51b : (z.op != 2) = false := bne_f c51
            have c51H := Lib.hid c51
            clear c51
            have b52 := hF44.bx2 1 rfl
            have ge53 : World.cell? _ ⟨x48, o49 + q * 5, none⟩ = some (.int .i64 z.a) := (((hF44.at 2 rfl : Sl lgEnc 5 lo hi _ (.slice (some ⟨x48, o49, none⟩) ls.length cL) ls)).cells hz50.out 0 _ rfl)
            have gl54 := cell_lt ge53
            have ge55 : World.cell? _ ⟨x48, o49 + q * 5 + 1, none⟩ = some (.int .i64 z.b) := (((hF44.at 2 rfl : Sl lgEnc 5 lo hi _ (.slice (some ⟨x48, o49, none⟩) ls.length cL) ls)).cells hz50.out 1 _ rfl)
            have ge56 : World.cell? _ ⟨x48, o49 + q * 5 + 2, none⟩ = some (.int .i64 z.long) := (((hF44.at 2 rfl : Sl lgEnc 5 lo hi _ (.slice (some ⟨x48, o49, none⟩) ls.length cL) ls)).cells hz50.out 2 _ rfl)
            have ge57 : World.cell? _ ⟨x48, o49 + q * 5 + 3, none⟩ = some (.int .i64 z.op) := (((hF44.at 2 rfl : Sl lgEnc 5 lo hi _ (.slice (some ⟨x48, o49, none⟩) ls.length cL) ls)).cells hz50.out 3 _ rfl)
            have ge58 : World.cell? _ ⟨x48, o49 + q * 5 + 4, none⟩ = some (.int .i64 z.cost) := (((hF44.at 2 rfl : Sl lgEnc 5 lo hi _ (.slice (some ⟨x48, o49, none⟩) ls.length cL) ls)).cells hz50.out 4 _ rfl)
            go_wp2_with fail
            clear b52 ge53 gl54 ge55 ge56 ge57 ge58
            have F59 := hF44.new 75 #[.int .i64 z.a, .int .i64 z.b, .int .i64 z.long, .int .i64 z.op, .int .i64 z.cost] (n := w46.heap.size) (by simp)
            clear hF44
            have F60 : Bun w [rmat w.heap.size (w.heap.size + 1) n gs (legK useP ls n q), rbox w.heap.size 67 #[.int .i64 (n : Int), .slice (some ⟨x48, o49, none⟩) ls.length cL], rsl lgEnc 5 lo hi (.slice (some ⟨x48, o49, none⟩) ls.length cL) ls] _ := F59.pick [1, 2, 3] (by decide) rfl
            clear F59
            (first | refine ⟨by kernel_rfl, ?_, ?_⟩ | refine ⟨rfl, ?_, ?_⟩ | refine ⟨?_, ?_⟩)
            · rw [HI43.out]; exact ⟨q + 1, (by first | kernel_rfl | rfl), (by first | kernel_rfl | rfl), (by first | kernel_rfl | rfl), (by show Value.int .i64 ((q : Int) + 1) = _; simp), (by omega), (by first | rfl | simp), (by first | omega | (simp; done) | (simp; omega)), (by rw [legK_next hz50.out, legM_no HX.out (.inl (by unfold useP; simp; have h_ := c51H.out; omega))]; exact F60)⟩
            · simp [slot, intOf]; omega
          · skip
            have c51a : (z.op == 2) = false := beq_f c51
            have c51b : (z.op != 2) = true := bne_t c51
            have c51H := Lib.hid c51
            clear c51
            by_cases c61 : x < 0
            · skip
              have c61H := Lib.hid c61
              have b62 := hF44.bx2 1 rfl
              have ge63 : World.cell? _ ⟨x48, o49 + q * 5, none⟩ = some (.int .i64 z.a) := (((hF44.at 2 rfl : Sl lgEnc 5 lo hi _ (.slice (some ⟨x48, o49, none⟩) ls.length cL) ls)).cells hz50.out 0 _ rfl)
              have gl64 := cell_lt ge63
              have ge65 : World.cell? _ ⟨x48, o49 + q * 5 + 1, none⟩ = some (.int .i64 z.b) := (((hF44.at 2 rfl : Sl lgEnc 5 lo hi _ (.slice (some ⟨x48, o49, none⟩) ls.length cL) ls)).cells hz50.out 1 _ rfl)
              have ge66 : World.cell? _ ⟨x48, o49 + q * 5 + 2, none⟩ = some (.int .i64 z.long) := (((hF44.at 2 rfl : Sl lgEnc 5 lo hi _ (.slice (some ⟨x48, o49, none⟩) ls.length cL) ls)).cells hz50.out 2 _ rfl)
              have ge67 : World.cell? _ ⟨x48, o49 + q * 5 + 3, none⟩ = some (.int .i64 z.op) := (((hF44.at 2 rfl : Sl lgEnc 5 lo hi _ (.slice (some ⟨x48, o49, none⟩) ls.length cL) ls)).cells hz50.out 3 _ rfl)
              have ge68 : World.cell? _ ⟨x48, o49 + q * 5 + 4, none⟩ = some (.int .i64 z.cost) := (((hF44.at 2 rfl : Sl lgEnc 5 lo hi _ (.slice (some ⟨x48, o49, none⟩) ls.length cL) ls)).cells hz50.out 4 _ rfl)
              go_wp2_with fail
              clear b62 ge63 gl64 ge65 ge66 ge67 ge68
              have F69 := hF44.new 75 #[.int .i64 z.a, .int .i64 z.b, .int .i64 z.long, .int .i64 z.op, .int .i64 z.cost] (n := w46.heap.size) (by simp)
              clear hF44
              obtain ⟨w70, hx71, F73, hxs72⟩ := (show Bun w [rbox w46.heap.size 75 #[.int .i64 z.a, .int .i64 z.b, .int .i64 z.long, .int .i64 z.op, .int .i64 z.cost], rmat w.heap.size (w.heap.size + 1) n gs (legK useP ls n q), rbox w.heap.size 67 #[.int .i64 (n : Int), .slice (some ⟨x48, o49, none⟩) ls.length cL], rsl lgEnc 5 lo hi (.slice (some ⟨x48, o49, none⟩) ls.length cL) ls] _ from F69).name
              (try simp at hxs72)
              rw [hx71]
              clear hx71 F69
              have F74 := F73.drew
              clear F73
              refine ru_begin (fun W => W.cell? ⟨w46.heap.size, 0, none⟩ = some (.int .i64 z.a) ∧ W.cell? ⟨w.heap.size + 1, z.a.toNat, none⟩ = some (.slice (some ⟨ga, 0, none⟩) n n) ∧ W.cell? ⟨w46.heap.size, 1, none⟩ = some (.int .i64 z.b) ∧ W.cell? ⟨ga, z.b.toNat, none⟩ = some (.int .i64 x)) 23 (by kernel_rfl) ?_ ?_
              · exact ⟨F74.cl 0 0 rfl rfl, (MatP.o (F74.at 1 rfl : MatP w.heap.size (w.heap.size + 1) n gs (legK useP ls n q) _) Hga.out), F74.cl 0 1 rfl rfl, (MatP.c (F74.at 1 rfl : MatP w.heap.size (w.heap.size + 1) n gs (legK useP ls n q) _) Hga.out (Shp.at (i := z.a.toNat) HSH.out (by omega)) ((Shp.cell (i := z.a.toNat) (j := z.b.toNat) HSH.out (by omega) (by omega)).trans (by rw [HX.out])))⟩
              obtain ⟨wd76, hwd_⟩ : ∃ x : World, w70.drew = x := ⟨_, rfl⟩
              rw [hwd_] at F74 ⊢
              have wd76s : w70.heap.size ≤ wd76.heap.size := by rw [← hwd_]; exact Nat.le_refl _
              clear hwd_
              have hS75 := (And.intro (F74.cl 0 0 rfl rfl) (And.intro ((MatP.o (F74.at 1 rfl : MatP w.heap.size (w.heap.size + 1) n gs (legK useP ls n q) _) Hga.out)) (And.intro (F74.cl 0 1 rfl rfl) ((MatP.c (F74.at 1 rfl : MatP w.heap.size (w.heap.size + 1) n gs (legK useP ls n q) _) Hga.out (Shp.at (i := z.a.toNat) HSH.out (by omega)) ((Shp.cell (i := z.a.toNat) (j := z.b.toNat) HSH.out (by omega) (by omega)).trans (by rw [HX.out])))))))
              refine ru_t 0 [10, 9, 8, 7, 4, 3] ?_
              refine ru_t 1 [10, 9, 8, 7, 4, 3, 2] ?_
              refine ru_t 2 [10, 9, 8, 7, 4, 3] ?_
              refine ru_t 3 [10, 9, 8, 7, 4] ?_
              refine ru_t 4 [10, 9, 8, 7] ?_
              refine ru_t 5 [10, 9, 8, 7, 6] ?_
              refine ru_t 6 [10, 9, 8, 7] ?_
              refine ru_t 7 [10, 9, 8] ?_
              refine ru_t 8 [10, 9] ?_
              refine ru_t 9 [10] ?_
              refine ru_t 10 [] ?_
              refine ru_ts 11 [22, 19, 18, 15, 14] ?_
              refine ru_ts 12 [22, 19, 18, 15, 14, 13] ?_
              refine ru_ts 13 [22, 19, 18, 15, 14] ?_
              refine ru_ts 14 [22, 19, 18, 15] ?_
              refine ru_ts 15 [22, 19, 18] ?_
              refine ru_ts 16 [22, 19, 18, 17] ?_
              refine ru_ts 17 [22, 19, 18] ?_
              refine ru_ts 18 [22, 19] ?_
              refine ru_ts 19 [22] ?_
              refine ru_ts 20 [22, 21] ?_
              refine ru_ts 21 [22] ?_
              refine ru_ts 22 [] ?_
              (try simp only [Act.put, List.setIfInBounds_toArray, List.set_cons_zero, List.set_cons_succ])
              clear hS75
              refine ru_one 23 rfl (by kernel_rfl) (fun K hK => ?_)
              go_simp
              refine ru_back_late hK (by kernel_rfl) ?_
              clear hK K
              (try simp only [Act.put, List.setIfInBounds_toArray, List.set_cons_zero, List.set_cons_succ])
              refine ru_done (by kernel_rfl) ?_
              obtain ⟨w77, hx78, F80, hxs79⟩ := (show Bun w [rbox w46.heap.size 75 #[.int .i64 z.a, .int .i64 z.b, .int .i64 z.long, .int .i64 z.op, .int .i64 z.cost], rmat w.heap.size (w.heap.size + 1) n gs (legK useP ls n q), rbox w.heap.size 67 #[.int .i64 (n : Int), .slice (some ⟨x48, o49, none⟩) ls.length cL], rsl lgEnc 5 lo hi (.slice (some ⟨x48, o49, none⟩) ls.length cL) ls] _ from F74).name
              (try simp at hxs79)
              rw [hx78]
              clear hx78 F74
              go_wp2_with fail
              have F81 := F80.drew
              clear F80
              refine ru_begin (fun W => W.cell? ⟨w46.heap.size, 0, none⟩ = some (.int .i64 z.a) ∧ W.cell? ⟨w.heap.size + 1, z.a.toNat, none⟩ = some (.slice (some ⟨ga, 0, none⟩) n n) ∧ W.cell? ⟨w46.heap.size, 1, none⟩ = some (.int .i64 z.b) ∧ W.cell? ⟨w.heap.size + 1, z.b.toNat, none⟩ = some (.slice (some ⟨gb, 0, none⟩) n n) ∧ W.cell? ⟨w46.heap.size, 2, none⟩ = some (.int .i64 z.long)) 19 (by kernel_rfl) ?_ ?_
              · exact ⟨F81.cl 0 0 rfl rfl, (MatP.o (F81.at 1 rfl : MatP w.heap.size (w.heap.size + 1) n gs (legK useP ls n q) _) Hga.out), F81.cl 0 1 rfl rfl, (MatP.o (F81.at 1 rfl : MatP w.heap.size (w.heap.size + 1) n gs (legK useP ls n q) _) Hgb.out), F81.cl 0 2 rfl rfl⟩
              obtain ⟨wd83, hwd_⟩ : ∃ x : World, w77.drew = x := ⟨_, rfl⟩
              rw [hwd_] at F81 ⊢
              have wd83s : w77.heap.size ≤ wd83.heap.size := by rw [← hwd_]; exact Nat.le_refl _
              clear hwd_
              have hS82 := (And.intro (F81.cl 0 0 rfl rfl) (And.intro ((MatP.o (F81.at 1 rfl : MatP w.heap.size (w.heap.size + 1) n gs (legK useP ls n q) _) Hga.out)) (And.intro (F81.cl 0 1 rfl rfl) (And.intro ((MatP.o (F81.at 1 rfl : MatP w.heap.size (w.heap.size + 1) n gs (legK useP ls n q) _) Hgb.out)) (F81.cl 0 2 rfl rfl)))))
              refine ru_t 0 [] ?_
              refine ru_t 1 [] ?_
              refine ru_t 2 [] ?_
              refine ru_t 3 [] ?_
              refine ru_t 4 [] ?_
              refine ru_t 5 [] ?_
              refine ru_t 6 [] ?_
              refine ru_t 7 [11, 10] ?_
              refine ru_t 8 [11, 10, 9] ?_
              refine ru_t 9 [11, 10] ?_
              refine ru_t 10 [11] ?_
              refine ru_t 11 [] ?_
              refine ru_t 14 [] ?_
              refine ru_t 15 [] ?_
              refine ru_t 18 [] ?_
              (try simp only [Act.put, List.setIfInBounds_toArray, List.set_cons_zero, List.set_cons_succ])
              refine ru_p 12 ?_
              refine ru_p 16 ?_
              (try simp only [Act.put, List.setIfInBounds_toArray, List.set_cons_zero, List.set_cons_succ])
              clear hS82
              refine ru_three 13 17 19 rfl rfl rfl (by kernel_rfl) ?_ ?_ ?_
              · intro K hK
                have kq0_ := F81.cl 0 0 rfl rfl
                go_simp
                clear kq0_
                refine ru_back hK (by exact ⟨F81.cl 0 0 rfl rfl, (MatP.o (F81.at 1 rfl : MatP w.heap.size (w.heap.size + 1) n gs (legK useP ls n q) _) Hga.out), F81.cl 0 1 rfl rfl, (MatP.o (F81.at 1 rfl : MatP w.heap.size (w.heap.size + 1) n gs (legK useP ls n q) _) Hgb.out), F81.cl 0 2 rfl rfl⟩) (fun hHeld => ?_)
                clear hK K
                (try simp only [Act.put, List.setIfInBounds_toArray, List.set_cons_zero, List.set_cons_succ])
                refine ru_two 17 19 rfl rfl (by kernel_rfl) ?_ ?_
                · intro K hK
                  have kq0_ := F81.cl 0 2 rfl rfl
                  go_simp
                  clear kq0_
                  refine ru_back hK (by exact ⟨F81.cl 0 0 rfl rfl, (MatP.o (F81.at 1 rfl : MatP w.heap.size (w.heap.size + 1) n gs (legK useP ls n q) _) Hga.out), F81.cl 0 1 rfl rfl, (MatP.o (F81.at 1 rfl : MatP w.heap.size (w.heap.size + 1) n gs (legK useP ls n q) _) Hgb.out), F81.cl 0 2 rfl rfl⟩) (fun hHeld => ?_)
                  clear hK K
                  (try simp only [Act.put, List.setIfInBounds_toArray, List.set_cons_zero, List.set_cons_succ])
                  refine ru_one 19 rfl (by kernel_rfl) (fun K hK => ?_)
                  have kc_ : World.cell? _ ⟨ga, z.b.toNat, none⟩ = some (.int .i64 x) := (MatP.c (F81.at 1 rfl : MatP w.heap.size (w.heap.size + 1) n gs (legK useP ls n q) _) Hga.out (Shp.at (i := z.a.toNat) HSH.out (by omega)) ((Shp.cell (i := z.a.toNat) (j := z.b.toNat) HSH.out (by omega) (by omega)).trans (by rw [HX.out])))
                  have kf_ : World.frozen? _ ⟨ga, z.b.toNat, none⟩ = false := (MatP.fc (F81.at 1 rfl : MatP w.heap.size (w.heap.size + 1) n gs (legK useP ls n q) _) (List.mem_of_getElem? Hga.out) _)
                  go_simp
                  clear kc_ kf_
                  have F84 := (F81.front 1 rfl rfl).matSet Hga.out (Shp.at (i := z.a.toNat) HSH.out (by omega)) (Shp.cell (i := z.a.toNat) (j := z.b.toNat) HSH.out (by omega) (by omega)) z.long
                  clear F81
                  have HS1 : Hid (Shp n (mset (legK useP ls n q) z.a.toNat z.b.toNat z.long)) := Lib.hid (HSH.out.set (by omega) _)
                  refine ru_back_late hK (by kernel_rfl) ?_
                  clear hK K
                  (try simp only [Act.put, List.setIfInBounds_toArray, List.set_cons_zero, List.set_cons_succ])
                  refine ru_one 20 rfl (by kernel_rfl) (fun K hK => ?_)
                  go_simp
                  refine ru_back_late hK (by kernel_rfl) ?_
                  clear hK K
                  (try simp only [Act.put, List.setIfInBounds_toArray, List.set_cons_zero, List.set_cons_succ])
                  refine ru_one 21 rfl (by kernel_rfl) (fun K hK => ?_)
                  have kc_ : World.cell? _ ⟨gb, z.a.toNat, none⟩ = some (.int .i64 (mget (mset (legK useP ls n q) z.a.toNat z.b.toNat z.long) z.b.toNat z.a.toNat)) := (MatP.c (F84.at 0 rfl : MatP w.heap.size (w.heap.size + 1) n gs (mset (legK useP ls n q) z.a.toNat z.b.toNat z.long) _) Hgb.out (Shp.at (i := z.b.toNat) HS1.out (by omega)) (Shp.cell (i := z.b.toNat) (j := z.a.toNat) HS1.out (by omega) (by omega)))
                  have kf_ : World.frozen? _ ⟨gb, z.a.toNat, none⟩ = false := (MatP.fc (F84.at 0 rfl : MatP w.heap.size (w.heap.size + 1) n gs (mset (legK useP ls n q) z.a.toNat z.b.toNat z.long) _) (List.mem_of_getElem? Hgb.out) _)
                  go_simp
                  clear kc_ kf_
                  have F85 := F84.matSet Hgb.out (Shp.at (i := z.b.toNat) HS1.out (by omega)) (Shp.cell (i := z.b.toNat) (j := z.a.toNat) HS1.out (by omega) (by omega)) z.long
                  clear F84
                  refine ru_back_late hK (by kernel_rfl) ?_
                  clear hK K
                  (try simp only [Act.put, List.setIfInBounds_toArray, List.set_cons_zero, List.set_cons_succ])
                  refine ru_done (by kernel_rfl) ?_
                  obtain ⟨w86, hx87, F89, hxs88⟩ := (show Bun w [rmat w.heap.size (w.heap.size + 1) n gs (mset (mset (legK useP ls n q) z.a.toNat z.b.toNat z.long) z.b.toNat z.a.toNat z.long), rbox w.heap.size 67 #[.int .i64 (n : Int), .slice (some ⟨x48, o49, none⟩) ls.length cL], rsl lgEnc 5 lo hi (.slice (some ⟨x48, o49, none⟩) ls.length cL) ls] _ from (F85.drop 1 rfl)).name
                  (try simp at hxs88)
                  rw [hx87]
                  clear hx87 F85
                  go_wp2_with fail
                  (first | refine ⟨by kernel_rfl, ?_, ?_⟩ | refine ⟨rfl, ?_, ?_⟩ | refine ⟨?_, ?_⟩)
                  · rw [HI43.out]; exact ⟨q + 1, (by first | kernel_rfl | rfl), (by first | kernel_rfl | rfl), (by first | kernel_rfl | rfl), (by show Value.int .i64 ((q : Int) + 1) = _; simp), (by omega), (by first | rfl | simp), (by first | omega | (simp; done) | (simp; omega)), (by rw [legK_next hz50.out, legM_yes HX.out (by unfold useP; simp; have h_ := c51H.out; omega) (by omega)]; exact F89)⟩
                  · simp [slot, intOf]; omega
                · intro K hK
                  have kc_ : World.cell? _ ⟨ga, z.b.toNat, none⟩ = some (.int .i64 x) := (MatP.c (F81.at 1 rfl : MatP w.heap.size (w.heap.size + 1) n gs (legK useP ls n q) _) Hga.out (Shp.at (i := z.a.toNat) HSH.out (by omega)) ((Shp.cell (i := z.a.toNat) (j := z.b.toNat) HSH.out (by omega) (by omega)).trans (by rw [HX.out])))
                  have kf_ : World.frozen? _ ⟨ga, z.b.toNat, none⟩ = false := (MatP.fc (F81.at 1 rfl : MatP w.heap.size (w.heap.size + 1) n gs (legK useP ls n q) _) (List.mem_of_getElem? Hga.out) _)
                  go_simp
                  clear kc_ kf_
                  have F90 := (F81.front 1 rfl rfl).matSet Hga.out (Shp.at (i := z.a.toNat) HSH.out (by omega)) (Shp.cell (i := z.a.toNat) (j := z.b.toNat) HSH.out (by omega) (by omega)) z.long
                  clear F81
                  have HS1 : Hid (Shp n (mset (legK useP ls n q) z.a.toNat z.b.toNat z.long)) := Lib.hid (HSH.out.set (by omega) _)
                  refine ru_back_late hK (by kernel_rfl) ?_
                  clear hK K
                  (try simp only [Act.put, List.setIfInBounds_toArray, List.set_cons_zero, List.set_cons_succ])
                  refine ru_one 17 rfl (by kernel_rfl) (fun K hK => ?_)
                  have kq0_ := F90.cl 1 2 rfl rfl
                  go_simp
                  clear kq0_
                  refine ru_back_late hK (by kernel_rfl) ?_
                  clear hK K
                  (try simp only [Act.put, List.setIfInBounds_toArray, List.set_cons_zero, List.set_cons_succ])
                  refine ru_one 20 rfl (by kernel_rfl) (fun K hK => ?_)
                  go_simp
                  refine ru_back_late hK (by kernel_rfl) ?_
                  clear hK K
                  (try simp only [Act.put, List.setIfInBounds_toArray, List.set_cons_zero, List.set_cons_succ])
                  refine ru_one 21 rfl (by kernel_rfl) (fun K hK => ?_)
                  have kc_ : World.cell? _ ⟨gb, z.a.toNat, none⟩ = some (.int .i64 (mget (mset (legK useP ls n q) z.a.toNat z.b.toNat z.long) z.b.toNat z.a.toNat)) := (MatP.c (F90.at 0 rfl : MatP w.heap.size (w.heap.size + 1) n gs (mset (legK useP ls n q) z.a.toNat z.b.toNat z.long) _) Hgb.out (Shp.at (i := z.b.toNat) HS1.out (by omega)) (Shp.cell (i := z.b.toNat) (j := z.a.toNat) HS1.out (by omega) (by omega)))
                  have kf_ : World.frozen? _ ⟨gb, z.a.toNat, none⟩ = false := (MatP.fc (F90.at 0 rfl : MatP w.heap.size (w.heap.size + 1) n gs (mset (legK useP ls n q) z.a.toNat z.b.toNat z.long) _) (List.mem_of_getElem? Hgb.out) _)
                  go_simp
                  clear kc_ kf_
                  have F91 := F90.matSet Hgb.out (Shp.at (i := z.b.toNat) HS1.out (by omega)) (Shp.cell (i := z.b.toNat) (j := z.a.toNat) HS1.out (by omega) (by omega)) z.long
                  clear F90
                  refine ru_back_late hK (by kernel_rfl) ?_
                  clear hK K
                  (try simp only [Act.put, List.setIfInBounds_toArray, List.set_cons_zero, List.set_cons_succ])
                  refine ru_done (by kernel_rfl) ?_
                  obtain ⟨w92, hx93, F95, hxs94⟩ := (show Bun w [rmat w.heap.size (w.heap.size + 1) n gs (mset (mset (legK useP ls n q) z.a.toNat z.b.toNat z.long) z.b.toNat z.a.toNat z.long), rbox w.heap.size 67 #[.int .i64 (n : Int), .slice (some ⟨x48, o49, none⟩) ls.length cL], rsl lgEnc 5 lo hi (.slice (some ⟨x48, o49, none⟩) ls.length cL) ls] _ from (F91.drop 1 rfl)).name
                  (try simp at hxs94)
                  rw [hx93]
                  clear hx93 F91
                  go_wp2_with fail
                  (first | refine ⟨by kernel_rfl, ?_, ?_⟩ | refine ⟨rfl, ?_, ?_⟩ | refine ⟨?_, ?_⟩)
                  · rw [HI43.out]; exact ⟨q + 1, (by first | kernel_rfl | rfl), (by first | kernel_rfl | rfl), (by first | kernel_rfl | rfl), (by show Value.int .i64 ((q : Int) + 1) = _; simp), (by omega), (by first | rfl | simp), (by first | omega | (simp; done) | (simp; omega)), (by rw [legK_next hz50.out, legM_yes HX.out (by unfold useP; simp; have h_ := c51H.out; omega) (by omega)]; exact F95)⟩
                  · simp [slot, intOf]; omega
              · intro K hK
                have kq0_ := F81.cl 0 2 rfl rfl
                go_simp
                clear kq0_
                refine ru_back hK (by exact ⟨F81.cl 0 0 rfl rfl, (MatP.o (F81.at 1 rfl : MatP w.heap.size (w.heap.size + 1) n gs (legK useP ls n q) _) Hga.out), F81.cl 0 1 rfl rfl, (MatP.o (F81.at 1 rfl : MatP w.heap.size (w.heap.size + 1) n gs (legK useP ls n q) _) Hgb.out), F81.cl 0 2 rfl rfl⟩) (fun hHeld => ?_)
                clear hK K
                (try simp only [Act.put, List.setIfInBounds_toArray, List.set_cons_zero, List.set_cons_succ])
                refine ru_two 13 19 rfl rfl (by kernel_rfl) ?_ ?_
                · intro K hK
                  have kq0_ := F81.cl 0 0 rfl rfl
                  go_simp
                  clear kq0_
                  refine ru_back hK (by exact ⟨F81.cl 0 0 rfl rfl, (MatP.o (F81.at 1 rfl : MatP w.heap.size (w.heap.size + 1) n gs (legK useP ls n q) _) Hga.out), F81.cl 0 1 rfl rfl, (MatP.o (F81.at 1 rfl : MatP w.heap.size (w.heap.size + 1) n gs (legK useP ls n q) _) Hgb.out), F81.cl 0 2 rfl rfl⟩) (fun hHeld => ?_)
                  clear hK K
                  (try simp only [Act.put, List.setIfInBounds_toArray, List.set_cons_zero, List.set_cons_succ])
                  refine ru_one 19 rfl (by kernel_rfl) (fun K hK => ?_)
                  have kc_ : World.cell? _ ⟨ga, z.b.toNat, none⟩ = some (.int .i64 x) := (MatP.c (F81.at 1 rfl : MatP w.heap.size (w.heap.size + 1) n gs (legK useP ls n q) _) Hga.out (Shp.at (i := z.a.toNat) HSH.out (by omega)) ((Shp.cell (i := z.a.toNat) (j := z.b.toNat) HSH.out (by omega) (by omega)).trans (by rw [HX.out])))
                  have kf_ : World.frozen? _ ⟨ga, z.b.toNat, none⟩ = false := (MatP.fc (F81.at 1 rfl : MatP w.heap.size (w.heap.size + 1) n gs (legK useP ls n q) _) (List.mem_of_getElem? Hga.out) _)
                  go_simp
                  clear kc_ kf_
                  have F96 := (F81.front 1 rfl rfl).matSet Hga.out (Shp.at (i := z.a.toNat) HSH.out (by omega)) (Shp.cell (i := z.a.toNat) (j := z.b.toNat) HSH.out (by omega) (by omega)) z.long
                  clear F81
                  have HS1 : Hid (Shp n (mset (legK useP ls n q) z.a.toNat z.b.toNat z.long)) := Lib.hid (HSH.out.set (by omega) _)
                  refine ru_back_late hK (by kernel_rfl) ?_
                  clear hK K
                  (try simp only [Act.put, List.setIfInBounds_toArray, List.set_cons_zero, List.set_cons_succ])
                  refine ru_one 20 rfl (by kernel_rfl) (fun K hK => ?_)
                  go_simp
                  refine ru_back_late hK (by kernel_rfl) ?_
                  clear hK K
                  (try simp only [Act.put, List.setIfInBounds_toArray, List.set_cons_zero, List.set_cons_succ])
                  refine ru_one 21 rfl (by kernel_rfl) (fun K hK => ?_)
                  have kc_ : World.cell? _ ⟨gb, z.a.toNat, none⟩ = some (.int .i64 (mget (mset (legK useP ls n q) z.a.toNat z.b.toNat z.long) z.b.toNat z.a.toNat)) := (MatP.c (F96.at 0 rfl : MatP w.heap.size (w.heap.size + 1) n gs (mset (legK useP ls n q) z.a.toNat z.b.toNat z.long) _) Hgb.out (Shp.at (i := z.b.toNat) HS1.out (by omega)) (Shp.cell (i := z.b.toNat) (j := z.a.toNat) HS1.out (by omega) (by omega)))
                  have kf_ : World.frozen? _ ⟨gb, z.a.toNat, none⟩ = false := (MatP.fc (F96.at 0 rfl : MatP w.heap.size (w.heap.size + 1) n gs (mset (legK useP ls n q) z.a.toNat z.b.toNat z.long) _) (List.mem_of_getElem? Hgb.out) _)
                  go_simp
                  clear kc_ kf_
                  have F97 := F96.matSet Hgb.out (Shp.at (i := z.b.toNat) HS1.out (by omega)) (Shp.cell (i := z.b.toNat) (j := z.a.toNat) HS1.out (by omega) (by omega)) z.long
                  clear F96
                  refine ru_back_late hK (by kernel_rfl) ?_
                  clear hK K
                  (try simp only [Act.put, List.setIfInBounds_toArray, List.set_cons_zero, List.set_cons_succ])
                  refine ru_done (by kernel_rfl) ?_
                  obtain ⟨w98, hx99, F101, hxs100⟩ := (show Bun w [rmat w.heap.size (w.heap.size + 1) n gs (mset (mset (legK useP ls n q) z.a.toNat z.b.toNat z.long) z.b.toNat z.a.toNat z.long), rbox w.heap.size 67 #[.int .i64 (n : Int), .slice (some ⟨x48, o49, none⟩) ls.length cL], rsl lgEnc 5 lo hi (.slice (some ⟨x48, o49, none⟩) ls.length cL) ls] _ from (F97.drop 1 rfl)).name
                  (try simp at hxs100)
                  rw [hx99]
                  clear hx99 F97
                  go_wp2_with fail
                  (first | refine ⟨by kernel_rfl, ?_, ?_⟩ | refine ⟨rfl, ?_, ?_⟩ | refine ⟨?_, ?_⟩)
                  · rw [HI43.out]; exact ⟨q + 1, (by first | kernel_rfl | rfl), (by first | kernel_rfl | rfl), (by first | kernel_rfl | rfl), (by show Value.int .i64 ((q : Int) + 1) = _; simp), (by omega), (by first | rfl | simp), (by first | omega | (simp; done) | (simp; omega)), (by rw [legK_next hz50.out, legM_yes HX.out (by unfold useP; simp; have h_ := c51H.out; omega) (by omega)]; exact F101)⟩
                  · simp [slot, intOf]; omega
                · intro K hK
                  have kc_ : World.cell? _ ⟨ga, z.b.toNat, none⟩ = some (.int .i64 x) := (MatP.c (F81.at 1 rfl : MatP w.heap.size (w.heap.size + 1) n gs (legK useP ls n q) _) Hga.out (Shp.at (i := z.a.toNat) HSH.out (by omega)) ((Shp.cell (i := z.a.toNat) (j := z.b.toNat) HSH.out (by omega) (by omega)).trans (by rw [HX.out])))
                  have kf_ : World.frozen? _ ⟨ga, z.b.toNat, none⟩ = false := (MatP.fc (F81.at 1 rfl : MatP w.heap.size (w.heap.size + 1) n gs (legK useP ls n q) _) (List.mem_of_getElem? Hga.out) _)
                  go_simp
                  clear kc_ kf_
                  have F102 := (F81.front 1 rfl rfl).matSet Hga.out (Shp.at (i := z.a.toNat) HSH.out (by omega)) (Shp.cell (i := z.a.toNat) (j := z.b.toNat) HSH.out (by omega) (by omega)) z.long
                  clear F81
                  have HS1 : Hid (Shp n (mset (legK useP ls n q) z.a.toNat z.b.toNat z.long)) := Lib.hid (HSH.out.set (by omega) _)
                  refine ru_back_late hK (by kernel_rfl) ?_
                  clear hK K
                  (try simp only [Act.put, List.setIfInBounds_toArray, List.set_cons_zero, List.set_cons_succ])
                  refine ru_one 13 rfl (by kernel_rfl) (fun K hK => ?_)
                  have kq0_ := F102.cl 1 0 rfl rfl
                  go_simp
                  clear kq0_
                  refine ru_back_late hK (by kernel_rfl) ?_
                  clear hK K
                  (try simp only [Act.put, List.setIfInBounds_toArray, List.set_cons_zero, List.set_cons_succ])
                  refine ru_one 20 rfl (by kernel_rfl) (fun K hK => ?_)
                  go_simp
                  refine ru_back_late hK (by kernel_rfl) ?_
                  clear hK K
                  (try simp only [Act.put, List.setIfInBounds_toArray, List.set_cons_zero, List.set_cons_succ])
                  refine ru_one 21 rfl (by kernel_rfl) (fun K hK => ?_)
                  have kc_ : World.cell? _ ⟨gb, z.a.toNat, none⟩ = some (.int .i64 (mget (mset (legK useP ls n q) z.a.toNat z.b.toNat z.long) z.b.toNat z.a.toNat)) := (MatP.c (F102.at 0 rfl : MatP w.heap.size (w.heap.size + 1) n gs (mset (legK useP ls n q) z.a.toNat z.b.toNat z.long) _) Hgb.out (Shp.at (i := z.b.toNat) HS1.out (by omega)) (Shp.cell (i := z.b.toNat) (j := z.a.toNat) HS1.out (by omega) (by omega)))
                  have kf_ : World.frozen? _ ⟨gb, z.a.toNat, none⟩ = false := (MatP.fc (F102.at 0 rfl : MatP w.heap.size (w.heap.size + 1) n gs (mset (legK useP ls n q) z.a.toNat z.b.toNat z.long) _) (List.mem_of_getElem? Hgb.out) _)
                  go_simp
                  clear kc_ kf_
                  have F103 := F102.matSet Hgb.out (Shp.at (i := z.b.toNat) HS1.out (by omega)) (Shp.cell (i := z.b.toNat) (j := z.a.toNat) HS1.out (by omega) (by omega)) z.long
                  clear F102
                  refine ru_back_late hK (by kernel_rfl) ?_
                  clear hK K
                  (try simp only [Act.put, List.setIfInBounds_toArray, List.set_cons_zero, List.set_cons_succ])
                  refine ru_done (by kernel_rfl) ?_
                  obtain ⟨w104, hx105, F107, hxs106⟩ := (show Bun w [rmat w.heap.size (w.heap.size + 1) n gs (mset (mset (legK useP ls n q) z.a.toNat z.b.toNat z.long) z.b.toNat z.a.toNat z.long), rbox w.heap.size 67 #[.int .i64 (n : Int), .slice (some ⟨x48, o49, none⟩) ls.length cL], rsl lgEnc 5 lo hi (.slice (some ⟨x48, o49, none⟩) ls.length cL) ls] _ from (F103.drop 1 rfl)).name
                  (try simp at hxs106)
                  rw [hx105]
                  clear hx105 F103
                  go_wp2_with fail
                  (first | refine ⟨by kernel_rfl, ?_, ?_⟩ | refine ⟨rfl, ?_, ?_⟩ | refine ⟨?_, ?_⟩)
                  · rw [HI43.out]; exact ⟨q + 1, (by first | kernel_rfl | rfl), (by first | kernel_rfl | rfl), (by first | kernel_rfl | rfl), (by show Value.int .i64 ((q : Int) + 1) = _; simp), (by omega), (by first | rfl | simp), (by first | omega | (simp; done) | (simp; omega)), (by rw [legK_next hz50.out, legM_yes HX.out (by unfold useP; simp; have h_ := c51H.out; omega) (by omega)]; exact F107)⟩
                  · simp [slot, intOf]; omega
              · intro K hK
                have kc_ : World.cell? _ ⟨ga, z.b.toNat, none⟩ = some (.int .i64 x) := (MatP.c (F81.at 1 rfl : MatP w.heap.size (w.heap.size + 1) n gs (legK useP ls n q) _) Hga.out (Shp.at (i := z.a.toNat) HSH.out (by omega)) ((Shp.cell (i := z.a.toNat) (j := z.b.toNat) HSH.out (by omega) (by omega)).trans (by rw [HX.out])))
                have kf_ : World.frozen? _ ⟨ga, z.b.toNat, none⟩ = false := (MatP.fc (F81.at 1 rfl : MatP w.heap.size (w.heap.size + 1) n gs (legK useP ls n q) _) (List.mem_of_getElem? Hga.out) _)
                go_simp
                clear kc_ kf_
                have F108 := (F81.front 1 rfl rfl).matSet Hga.out (Shp.at (i := z.a.toNat) HSH.out (by omega)) (Shp.cell (i := z.a.toNat) (j := z.b.toNat) HSH.out (by omega) (by omega)) z.long
                clear F81
                have HS1 : Hid (Shp n (mset (legK useP ls n q) z.a.toNat z.b.toNat z.long)) := Lib.hid (HSH.out.set (by omega) _)
                refine ru_back_late hK (by kernel_rfl) ?_
                clear hK K
                (try simp only [Act.put, List.setIfInBounds_toArray, List.set_cons_zero, List.set_cons_succ])
                refine ru_two 13 17 rfl rfl (by kernel_rfl) ?_ ?_
                · intro K hK
                  have kq0_ := F108.cl 1 0 rfl rfl
                  go_simp
                  clear kq0_
                  refine ru_back_late hK (by kernel_rfl) ?_
                  clear hK K
                  (try simp only [Act.put, List.setIfInBounds_toArray, List.set_cons_zero, List.set_cons_succ])
                  refine ru_one 17 rfl (by kernel_rfl) (fun K hK => ?_)
                  have kq0_ := F108.cl 1 2 rfl rfl
                  go_simp
                  clear kq0_
                  refine ru_back_late hK (by kernel_rfl) ?_
                  clear hK K
                  (try simp only [Act.put, List.setIfInBounds_toArray, List.set_cons_zero, List.set_cons_succ])
                  refine ru_one 20 rfl (by kernel_rfl) (fun K hK => ?_)
                  go_simp
                  refine ru_back_late hK (by kernel_rfl) ?_
                  clear hK K
                  (try simp only [Act.put, List.setIfInBounds_toArray, List.set_cons_zero, List.set_cons_succ])
                  refine ru_one 21 rfl (by kernel_rfl) (fun K hK => ?_)
                  have kc_ : World.cell? _ ⟨gb, z.a.toNat, none⟩ = some (.int .i64 (mget (mset (legK useP ls n q) z.a.toNat z.b.toNat z.long) z.b.toNat z.a.toNat)) := (MatP.c (F108.at 0 rfl : MatP w.heap.size (w.heap.size + 1) n gs (mset (legK useP ls n q) z.a.toNat z.b.toNat z.long) _) Hgb.out (Shp.at (i := z.b.toNat) HS1.out (by omega)) (Shp.cell (i := z.b.toNat) (j := z.a.toNat) HS1.out (by omega) (by omega)))
                  have kf_ : World.frozen? _ ⟨gb, z.a.toNat, none⟩ = false := (MatP.fc (F108.at 0 rfl : MatP w.heap.size (w.heap.size + 1) n gs (mset (legK useP ls n q) z.a.toNat z.b.toNat z.long) _) (List.mem_of_getElem? Hgb.out) _)
                  go_simp
                  clear kc_ kf_
                  have F109 := F108.matSet Hgb.out (Shp.at (i := z.b.toNat) HS1.out (by omega)) (Shp.cell (i := z.b.toNat) (j := z.a.toNat) HS1.out (by omega) (by omega)) z.long
                  clear F108
                  refine ru_back_late hK (by kernel_rfl) ?_
                  clear hK K
                  (try simp only [Act.put, List.setIfInBounds_toArray, List.set_cons_zero, List.set_cons_succ])
                  refine ru_done (by kernel_rfl) ?_
                  obtain ⟨w110, hx111, F113, hxs112⟩ := (show Bun w [rmat w.heap.size (w.heap.size + 1) n gs (mset (mset (legK useP ls n q) z.a.toNat z.b.toNat z.long) z.b.toNat z.a.toNat z.long), rbox w.heap.size 67 #[.int .i64 (n : Int), .slice (some ⟨x48, o49, none⟩) ls.length cL], rsl lgEnc 5 lo hi (.slice (some ⟨x48, o49, none⟩) ls.length cL) ls] _ from (F109.drop 1 rfl)).name
                  (try simp at hxs112)
                  rw [hx111]
                  clear hx111 F109
                  go_wp2_with fail
                  (first | refine ⟨by kernel_rfl, ?_, ?_⟩ | refine ⟨rfl, ?_, ?_⟩ | refine ⟨?_, ?_⟩)
                  · rw [HI43.out]; exact ⟨q + 1, (by first | kernel_rfl | rfl), (by first | kernel_rfl | rfl), (by first | kernel_rfl | rfl), (by show Value.int .i64 ((q : Int) + 1) = _; simp), (by omega), (by first | rfl | simp), (by first | omega | (simp; done) | (simp; omega)), (by rw [legK_next hz50.out, legM_yes HX.out (by unfold useP; simp; have h_ := c51H.out; omega) (by omega)]; exact F113)⟩
                  · simp [slot, intOf]; omega
                · intro K hK
                  have kq0_ := F108.cl 1 2 rfl rfl
                  go_simp
                  clear kq0_
                  refine ru_back_late hK (by kernel_rfl) ?_
                  clear hK K
                  (try simp only [Act.put, List.setIfInBounds_toArray, List.set_cons_zero, List.set_cons_succ])
                  refine ru_one 13 rfl (by kernel_rfl) (fun K hK => ?_)
                  have kq0_ := F108.cl 1 0 rfl rfl
                  go_simp
                  clear kq0_
                  refine ru_back_late hK (by kernel_rfl) ?_
                  clear hK K
                  (try simp only [Act.put, List.setIfInBounds_toArray, List.set_cons_zero, List.set_cons_succ])
                  refine ru_one 20 rfl (by kernel_rfl) (fun K hK => ?_)
                  go_simp
                  refine ru_back_late hK (by kernel_rfl) ?_
                  clear hK K
                  (try simp only [Act.put, List.setIfInBounds_toArray, List.set_cons_zero, List.set_cons_succ])
                  refine ru_one 21 rfl (by kernel_rfl) (fun K hK => ?_)
                  have kc_ : World.cell? _ ⟨gb, z.a.toNat, none⟩ = some (.int .i64 (mget (mset (legK useP ls n q) z.a.toNat z.b.toNat z.long) z.b.toNat z.a.toNat)) := (MatP.c (F108.at 0 rfl : MatP w.heap.size (w.heap.size + 1) n gs (mset (legK useP ls n q) z.a.toNat z.b.toNat z.long) _) Hgb.out (Shp.at (i := z.b.toNat) HS1.out (by omega)) (Shp.cell (i := z.b.toNat) (j := z.a.toNat) HS1.out (by omega) (by omega)))
                  have kf_ : World.frozen? _ ⟨gb, z.a.toNat, none⟩ = false := (MatP.fc (F108.at 0 rfl : MatP w.heap.size (w.heap.size + 1) n gs (mset (legK useP ls n q) z.a.toNat z.b.toNat z.long) _) (List.mem_of_getElem? Hgb.out) _)
                  go_simp
                  clear kc_ kf_
                  have F114 := F108.matSet Hgb.out (Shp.at (i := z.b.toNat) HS1.out (by omega)) (Shp.cell (i := z.b.toNat) (j := z.a.toNat) HS1.out (by omega) (by omega)) z.long
                  clear F108
                  refine ru_back_late hK (by kernel_rfl) ?_
                  clear hK K
                  (try simp only [Act.put, List.setIfInBounds_toArray, List.set_cons_zero, List.set_cons_succ])
                  refine ru_done (by kernel_rfl) ?_
                  obtain ⟨w115, hx116, F118, hxs117⟩ := (show Bun w [rmat w.heap.size (w.heap.size + 1) n gs (mset (mset (legK useP ls n q) z.a.toNat z.b.toNat z.long) z.b.toNat z.a.toNat z.long), rbox w.heap.size 67 #[.int .i64 (n : Int), .slice (some ⟨x48, o49, none⟩) ls.length cL], rsl lgEnc 5 lo hi (.slice (some ⟨x48, o49, none⟩) ls.length cL) ls] _ from (F114.drop 1 rfl)).name
                  (try simp at hxs117)
                  rw [hx116]
                  clear hx116 F114
                  go_wp2_with fail
                  (first | refine ⟨by kernel_rfl, ?_, ?_⟩ | refine ⟨rfl, ?_, ?_⟩ | refine ⟨?_, ?_⟩)
                  · rw [HI43.out]; exact ⟨q + 1, (by first | kernel_rfl | rfl), (by first | kernel_rfl | rfl), (by first | kernel_rfl | rfl), (by show Value.int .i64 ((q : Int) + 1) = _; simp), (by omega), (by first | rfl | simp), (by first | omega | (simp; done) | (simp; omega)), (by rw [legK_next hz50.out, legM_yes HX.out (by unfold useP; simp; have h_ := c51H.out; omega) (by omega)]; exact F118)⟩
                  · simp [slot, intOf]; omega
            · skip
              have c61H := Lib.hid c61
              have c61a : decide (x < 0) = false := dec_f c61
              have b119 := hF44.bx2 1 rfl
              have ge120 : World.cell? _ ⟨x48, o49 + q * 5, none⟩ = some (.int .i64 z.a) := (((hF44.at 2 rfl : Sl lgEnc 5 lo hi _ (.slice (some ⟨x48, o49, none⟩) ls.length cL) ls)).cells hz50.out 0 _ rfl)
              have gl121 := cell_lt ge120
              have ge122 : World.cell? _ ⟨x48, o49 + q * 5 + 1, none⟩ = some (.int .i64 z.b) := (((hF44.at 2 rfl : Sl lgEnc 5 lo hi _ (.slice (some ⟨x48, o49, none⟩) ls.length cL) ls)).cells hz50.out 1 _ rfl)
              have ge123 : World.cell? _ ⟨x48, o49 + q * 5 + 2, none⟩ = some (.int .i64 z.long) := (((hF44.at 2 rfl : Sl lgEnc 5 lo hi _ (.slice (some ⟨x48, o49, none⟩) ls.length cL) ls)).cells hz50.out 2 _ rfl)
              have ge124 : World.cell? _ ⟨x48, o49 + q * 5 + 3, none⟩ = some (.int .i64 z.op) := (((hF44.at 2 rfl : Sl lgEnc 5 lo hi _ (.slice (some ⟨x48, o49, none⟩) ls.length cL) ls)).cells hz50.out 3 _ rfl)
              have ge125 : World.cell? _ ⟨x48, o49 + q * 5 + 4, none⟩ = some (.int .i64 z.cost) := (((hF44.at 2 rfl : Sl lgEnc 5 lo hi _ (.slice (some ⟨x48, o49, none⟩) ls.length cL) ls)).cells hz50.out 4 _ rfl)
              go_wp2_with fail
              clear b119 ge120 gl121 ge122 ge123 ge124 ge125
              have F126 := hF44.new 75 #[.int .i64 z.a, .int .i64 z.b, .int .i64 z.long, .int .i64 z.op, .int .i64 z.cost] (n := w46.heap.size) (by simp)
              clear hF44
              obtain ⟨w127, hx128, F130, hxs129⟩ := (show Bun w [rbox w46.heap.size 75 #[.int .i64 z.a, .int .i64 z.b, .int .i64 z.long, .int .i64 z.op, .int .i64 z.cost], rmat w.heap.size (w.heap.size + 1) n gs (legK useP ls n q), rbox w.heap.size 67 #[.int .i64 (n : Int), .slice (some ⟨x48, o49, none⟩) ls.length cL], rsl lgEnc 5 lo hi (.slice (some ⟨x48, o49, none⟩) ls.length cL) ls] _ from F126).name
              (try simp at hxs129)
              rw [hx128]
              clear hx128 F126
              have F131 := F130.drew
              clear F130
              refine ru_begin (fun W => W.cell? ⟨w46.heap.size, 0, none⟩ = some (.int .i64 z.a) ∧ W.cell? ⟨w.heap.size + 1, z.a.toNat, none⟩ = some (.slice (some ⟨ga, 0, none⟩) n n) ∧ W.cell? ⟨w46.heap.size, 1, none⟩ = some (.int .i64 z.b) ∧ W.cell? ⟨ga, z.b.toNat, none⟩ = some (.int .i64 x) ∧ W.cell? ⟨w46.heap.size, 2, none⟩ = some (.int .i64 z.long)) 23 (by kernel_rfl) ?_ ?_
              · exact ⟨F131.cl 0 0 rfl rfl, (MatP.o (F131.at 1 rfl : MatP w.heap.size (w.heap.size + 1) n gs (legK useP ls n q) _) Hga.out), F131.cl 0 1 rfl rfl, (MatP.c (F131.at 1 rfl : MatP w.heap.size (w.heap.size + 1) n gs (legK useP ls n q) _) Hga.out (Shp.at (i := z.a.toNat) HSH.out (by omega)) ((Shp.cell (i := z.a.toNat) (j := z.b.toNat) HSH.out (by omega) (by omega)).trans (by rw [HX.out]))), F131.cl 0 2 rfl rfl⟩
              obtain ⟨wd133, hwd_⟩ : ∃ x : World, w127.drew = x := ⟨_, rfl⟩
              rw [hwd_] at F131 ⊢
              have wd133s : w127.heap.size ≤ wd133.heap.size := by rw [← hwd_]; exact Nat.le_refl _
              clear hwd_
              have hS132 := (And.intro (F131.cl 0 0 rfl rfl) (And.intro ((MatP.o (F131.at 1 rfl : MatP w.heap.size (w.heap.size + 1) n gs (legK useP ls n q) _) Hga.out)) (And.intro (F131.cl 0 1 rfl rfl) (And.intro ((MatP.c (F131.at 1 rfl : MatP w.heap.size (w.heap.size + 1) n gs (legK useP ls n q) _) Hga.out (Shp.at (i := z.a.toNat) HSH.out (by omega)) ((Shp.cell (i := z.a.toNat) (j := z.b.toNat) HSH.out (by omega) (by omega)).trans (by rw [HX.out])))) (F131.cl 0 2 rfl rfl)))))
              refine ru_t 0 [10, 9, 8, 7, 4, 3] ?_
              refine ru_t 1 [10, 9, 8, 7, 4, 3, 2] ?_
              refine ru_t 2 [10, 9, 8, 7, 4, 3] ?_
              refine ru_t 3 [10, 9, 8, 7, 4] ?_
              refine ru_t 4 [10, 9, 8, 7] ?_
              refine ru_t 5 [10, 9, 8, 7, 6] ?_
              refine ru_t 6 [10, 9, 8, 7] ?_
              refine ru_t 7 [10, 9, 8] ?_
              refine ru_t 8 [10, 9] ?_
              refine ru_t 9 [10] ?_
              refine ru_t 10 [] ?_
              refine ru_t 11 [22, 19, 18, 15, 14] ?_
              refine ru_t 12 [22, 19, 18, 15, 14, 13] ?_
              refine ru_t 13 [22, 19, 18, 15, 14] ?_
              refine ru_t 14 [22, 19, 18, 15] ?_
              refine ru_t 15 [22, 19, 18] ?_
              refine ru_t 16 [22, 19, 18, 17] ?_
              refine ru_t 17 [22, 19, 18] ?_
              refine ru_t 18 [22, 19] ?_
              refine ru_t 19 [22] ?_
              refine ru_t 20 [22, 21] ?_
              refine ru_t 21 [22] ?_
              refine ru_t 22 [] ?_
              (try simp only [Act.put, List.setIfInBounds_toArray, List.set_cons_zero, List.set_cons_succ])
              clear hS132
              refine ru_one 23 rfl (by kernel_rfl) (fun K hK => ?_)
              go_simp
              refine ru_back_late hK (by kernel_rfl) ?_
              clear hK K
              (try simp only [Act.put, List.setIfInBounds_toArray, List.set_cons_zero, List.set_cons_succ])
              refine ru_done (by kernel_rfl) ?_
              obtain ⟨w134, hx135, F137, hxs136⟩ := (show Bun w [rbox w46.heap.size 75 #[.int .i64 z.a, .int .i64 z.b, .int .i64 z.long, .int .i64 z.op, .int .i64 z.cost], rmat w.heap.size (w.heap.size + 1) n gs (legK useP ls n q), rbox w.heap.size 67 #[.int .i64 (n : Int), .slice (some ⟨x48, o49, none⟩) ls.length cL], rsl lgEnc 5 lo hi (.slice (some ⟨x48, o49, none⟩) ls.length cL) ls] _ from F131).name
              (try simp at hxs136)
              rw [hx135]
              clear hx135 F131
              by_cases c138 : z.long < x
              · skip
                have c138H := Lib.hid c138
                go_wp2_with fail
                have F139 := F137.drew
                clear F137
                refine ru_begin (fun W => W.cell? ⟨w46.heap.size, 0, none⟩ = some (.int .i64 z.a) ∧ W.cell? ⟨w.heap.size + 1, z.a.toNat, none⟩ = some (.slice (some ⟨ga, 0, none⟩) n n) ∧ W.cell? ⟨w46.heap.size, 1, none⟩ = some (.int .i64 z.b) ∧ W.cell? ⟨w.heap.size + 1, z.b.toNat, none⟩ = some (.slice (some ⟨gb, 0, none⟩) n n) ∧ W.cell? ⟨w46.heap.size, 2, none⟩ = some (.int .i64 z.long)) 19 (by kernel_rfl) ?_ ?_
                · exact ⟨F139.cl 0 0 rfl rfl, (MatP.o (F139.at 1 rfl : MatP w.heap.size (w.heap.size + 1) n gs (legK useP ls n q) _) Hga.out), F139.cl 0 1 rfl rfl, (MatP.o (F139.at 1 rfl : MatP w.heap.size (w.heap.size + 1) n gs (legK useP ls n q) _) Hgb.out), F139.cl 0 2 rfl rfl⟩
                obtain ⟨wd141, hwd_⟩ : ∃ x : World, w134.drew = x := ⟨_, rfl⟩
                rw [hwd_] at F139 ⊢
                have wd141s : w134.heap.size ≤ wd141.heap.size := by rw [← hwd_]; exact Nat.le_refl _
                clear hwd_
                have hS140 := (And.intro (F139.cl 0 0 rfl rfl) (And.intro ((MatP.o (F139.at 1 rfl : MatP w.heap.size (w.heap.size + 1) n gs (legK useP ls n q) _) Hga.out)) (And.intro (F139.cl 0 1 rfl rfl) (And.intro ((MatP.o (F139.at 1 rfl : MatP w.heap.size (w.heap.size + 1) n gs (legK useP ls n q) _) Hgb.out)) (F139.cl 0 2 rfl rfl)))))
                refine ru_t 0 [] ?_
                refine ru_t 1 [] ?_
                refine ru_t 2 [] ?_
                refine ru_t 3 [] ?_
                refine ru_t 4 [] ?_
                refine ru_t 5 [] ?_
                refine ru_t 6 [] ?_
                refine ru_t 7 [11, 10] ?_
                refine ru_t 8 [11, 10, 9] ?_
                refine ru_t 9 [11, 10] ?_
                refine ru_t 10 [11] ?_
                refine ru_t 11 [] ?_
                refine ru_t 14 [] ?_
                refine ru_t 15 [] ?_
                refine ru_t 18 [] ?_
                (try simp only [Act.put, List.setIfInBounds_toArray, List.set_cons_zero, List.set_cons_succ])
                refine ru_p 12 ?_
                refine ru_p 16 ?_
                (try simp only [Act.put, List.setIfInBounds_toArray, List.set_cons_zero, List.set_cons_succ])
                clear hS140
                refine ru_three 13 17 19 rfl rfl rfl (by kernel_rfl) ?_ ?_ ?_
                · intro K hK
                  have kq0_ := F139.cl 0 0 rfl rfl
                  go_simp
                  clear kq0_
                  refine ru_back hK (by exact ⟨F139.cl 0 0 rfl rfl, (MatP.o (F139.at 1 rfl : MatP w.heap.size (w.heap.size + 1) n gs (legK useP ls n q) _) Hga.out), F139.cl 0 1 rfl rfl, (MatP.o (F139.at 1 rfl : MatP w.heap.size (w.heap.size + 1) n gs (legK useP ls n q) _) Hgb.out), F139.cl 0 2 rfl rfl⟩) (fun hHeld => ?_)
                  clear hK K
                  (try simp only [Act.put, List.setIfInBounds_toArray, List.set_cons_zero, List.set_cons_succ])
                  refine ru_two 17 19 rfl rfl (by kernel_rfl) ?_ ?_
                  · intro K hK
                    have kq0_ := F139.cl 0 2 rfl rfl
                    go_simp
                    clear kq0_
                    refine ru_back hK (by exact ⟨F139.cl 0 0 rfl rfl, (MatP.o (F139.at 1 rfl : MatP w.heap.size (w.heap.size + 1) n gs (legK useP ls n q) _) Hga.out), F139.cl 0 1 rfl rfl, (MatP.o (F139.at 1 rfl : MatP w.heap.size (w.heap.size + 1) n gs (legK useP ls n q) _) Hgb.out), F139.cl 0 2 rfl rfl⟩) (fun hHeld => ?_)
                    clear hK K
                    (try simp only [Act.put, List.setIfInBounds_toArray, List.set_cons_zero, List.set_cons_succ])
                    refine ru_one 19 rfl (by kernel_rfl) (fun K hK => ?_)
                    have kc_ : World.cell? _ ⟨ga, z.b.toNat, none⟩ = some (.int .i64 x) := (MatP.c (F139.at 1 rfl : MatP w.heap.size (w.heap.size + 1) n gs (legK useP ls n q) _) Hga.out (Shp.at (i := z.a.toNat) HSH.out (by omega)) ((Shp.cell (i := z.a.toNat) (j := z.b.toNat) HSH.out (by omega) (by omega)).trans (by rw [HX.out])))
                    have kf_ : World.frozen? _ ⟨ga, z.b.toNat, none⟩ = false := (MatP.fc (F139.at 1 rfl : MatP w.heap.size (w.heap.size + 1) n gs (legK useP ls n q) _) (List.mem_of_getElem? Hga.out) _)
                    go_simp
                    clear kc_ kf_
                    have F142 := (F139.front 1 rfl rfl).matSet Hga.out (Shp.at (i := z.a.toNat) HSH.out (by omega)) (Shp.cell (i := z.a.toNat) (j := z.b.toNat) HSH.out (by omega) (by omega)) z.long
                    clear F139
                    have HS1 : Hid (Shp n (mset (legK useP ls n q) z.a.toNat z.b.toNat z.long)) := Lib.hid (HSH.out.set (by omega) _)
                    refine ru_back_late hK (by kernel_rfl) ?_
                    clear hK K
                    (try simp only [Act.put, List.setIfInBounds_toArray, List.set_cons_zero, List.set_cons_succ])
                    refine ru_one 20 rfl (by kernel_rfl) (fun K hK => ?_)
                    go_simp
                    refine ru_back_late hK (by kernel_rfl) ?_
                    clear hK K
                    (try simp only [Act.put, List.setIfInBounds_toArray, List.set_cons_zero, List.set_cons_succ])
                    refine ru_one 21 rfl (by kernel_rfl) (fun K hK => ?_)
                    have kc_ : World.cell? _ ⟨gb, z.a.toNat, none⟩ = some (.int .i64 (mget (mset (legK useP ls n q) z.a.toNat z.b.toNat z.long) z.b.toNat z.a.toNat)) := (MatP.c (F142.at 0 rfl : MatP w.heap.size (w.heap.size + 1) n gs (mset (legK useP ls n q) z.a.toNat z.b.toNat z.long) _) Hgb.out (Shp.at (i := z.b.toNat) HS1.out (by omega)) (Shp.cell (i := z.b.toNat) (j := z.a.toNat) HS1.out (by omega) (by omega)))
                    have kf_ : World.frozen? _ ⟨gb, z.a.toNat, none⟩ = false := (MatP.fc (F142.at 0 rfl : MatP w.heap.size (w.heap.size + 1) n gs (mset (legK useP ls n q) z.a.toNat z.b.toNat z.long) _) (List.mem_of_getElem? Hgb.out) _)
                    go_simp
                    clear kc_ kf_
                    have F143 := F142.matSet Hgb.out (Shp.at (i := z.b.toNat) HS1.out (by omega)) (Shp.cell (i := z.b.toNat) (j := z.a.toNat) HS1.out (by omega) (by omega)) z.long
                    clear F142
                    refine ru_back_late hK (by kernel_rfl) ?_
                    clear hK K
                    (try simp only [Act.put, List.setIfInBounds_toArray, List.set_cons_zero, List.set_cons_succ])
                    refine ru_done (by kernel_rfl) ?_
                    obtain ⟨w144, hx145, F147, hxs146⟩ := (show Bun w [rmat w.heap.size (w.heap.size + 1) n gs (mset (mset (legK useP ls n q) z.a.toNat z.b.toNat z.long) z.b.toNat z.a.toNat z.long), rbox w.heap.size 67 #[.int .i64 (n : Int), .slice (some ⟨x48, o49, none⟩) ls.length cL], rsl lgEnc 5 lo hi (.slice (some ⟨x48, o49, none⟩) ls.length cL) ls] _ from (F143.drop 1 rfl)).name
                    (try simp at hxs146)
                    rw [hx145]
                    clear hx145 F143
                    go_wp2_with fail
                    (first | refine ⟨by kernel_rfl, ?_, ?_⟩ | refine ⟨rfl, ?_, ?_⟩ | refine ⟨?_, ?_⟩)
                    · rw [HI43.out]; exact ⟨q + 1, (by first | kernel_rfl | rfl), (by first | kernel_rfl | rfl), (by first | kernel_rfl | rfl), (by show Value.int .i64 ((q : Int) + 1) = _; simp), (by omega), (by first | rfl | simp), (by first | omega | (simp; done) | (simp; omega)), (by rw [legK_next hz50.out, legM_yes HX.out (by unfold useP; simp; have h_ := c51H.out; omega) (by omega)]; exact F147)⟩
                    · simp [slot, intOf]; omega
                  · intro K hK
                    have kc_ : World.cell? _ ⟨ga, z.b.toNat, none⟩ = some (.int .i64 x) := (MatP.c (F139.at 1 rfl : MatP w.heap.size (w.heap.size + 1) n gs (legK useP ls n q) _) Hga.out (Shp.at (i := z.a.toNat) HSH.out (by omega)) ((Shp.cell (i := z.a.toNat) (j := z.b.toNat) HSH.out (by omega) (by omega)).trans (by rw [HX.out])))
                    have kf_ : World.frozen? _ ⟨ga, z.b.toNat, none⟩ = false := (MatP.fc (F139.at 1 rfl : MatP w.heap.size (w.heap.size + 1) n gs (legK useP ls n q) _) (List.mem_of_getElem? Hga.out) _)
                    go_simp
                    clear kc_ kf_
                    have F148 := (F139.front 1 rfl rfl).matSet Hga.out (Shp.at (i := z.a.toNat) HSH.out (by omega)) (Shp.cell (i := z.a.toNat) (j := z.b.toNat) HSH.out (by omega) (by omega)) z.long
                    clear F139
                    have HS1 : Hid (Shp n (mset (legK useP ls n q) z.a.toNat z.b.toNat z.long)) := Lib.hid (HSH.out.set (by omega) _)
                    refine ru_back_late hK (by kernel_rfl) ?_
                    clear hK K
                    (try simp only [Act.put, List.setIfInBounds_toArray, List.set_cons_zero, List.set_cons_succ])
                    refine ru_one 17 rfl (by kernel_rfl) (fun K hK => ?_)
                    have kq0_ := F148.cl 1 2 rfl rfl
                    go_simp
                    clear kq0_
                    refine ru_back_late hK (by kernel_rfl) ?_
                    clear hK K
                    (try simp only [Act.put, List.setIfInBounds_toArray, List.set_cons_zero, List.set_cons_succ])
                    refine ru_one 20 rfl (by kernel_rfl) (fun K hK => ?_)
                    go_simp
                    refine ru_back_late hK (by kernel_rfl) ?_
                    clear hK K
                    (try simp only [Act.put, List.setIfInBounds_toArray, List.set_cons_zero, List.set_cons_succ])
                    refine ru_one 21 rfl (by kernel_rfl) (fun K hK => ?_)
                    have kc_ : World.cell? _ ⟨gb, z.a.toNat, none⟩ = some (.int .i64 (mget (mset (legK useP ls n q) z.a.toNat z.b.toNat z.long) z.b.toNat z.a.toNat)) := (MatP.c (F148.at 0 rfl : MatP w.heap.size (w.heap.size + 1) n gs (mset (legK useP ls n q) z.a.toNat z.b.toNat z.long) _) Hgb.out (Shp.at (i := z.b.toNat) HS1.out (by omega)) (Shp.cell (i := z.b.toNat) (j := z.a.toNat) HS1.out (by omega) (by omega)))
                    have kf_ : World.frozen? _ ⟨gb, z.a.toNat, none⟩ = false := (MatP.fc (F148.at 0 rfl : MatP w.heap.size (w.heap.size + 1) n gs (mset (legK useP ls n q) z.a.toNat z.b.toNat z.long) _) (List.mem_of_getElem? Hgb.out) _)
                    go_simp
                    clear kc_ kf_
                    have F149 := F148.matSet Hgb.out (Shp.at (i := z.b.toNat) HS1.out (by omega)) (Shp.cell (i := z.b.toNat) (j := z.a.toNat) HS1.out (by omega) (by omega)) z.long
                    clear F148
                    refine ru_back_late hK (by kernel_rfl) ?_
                    clear hK K
                    (try simp only [Act.put, List.setIfInBounds_toArray, List.set_cons_zero, List.set_cons_succ])
                    refine ru_done (by kernel_rfl) ?_
                    obtain ⟨w150, hx151, F153, hxs152⟩ := (show Bun w [rmat w.heap.size (w.heap.size + 1) n gs (mset (mset (legK useP ls n q) z.a.toNat z.b.toNat z.long) z.b.toNat z.a.toNat z.long), rbox w.heap.size 67 #[.int .i64 (n : Int), .slice (some ⟨x48, o49, none⟩) ls.length cL], rsl lgEnc 5 lo hi (.slice (some ⟨x48, o49, none⟩) ls.length cL) ls] _ from (F149.drop 1 rfl)).name
                    (try simp at hxs152)
                    rw [hx151]
                    clear hx151 F149
                    go_wp2_with fail
                    (first | refine ⟨by kernel_rfl, ?_, ?_⟩ | refine ⟨rfl, ?_, ?_⟩ | refine ⟨?_, ?_⟩)
                    · rw [HI43.out]; exact ⟨q + 1, (by first | kernel_rfl | rfl), (by first | kernel_rfl | rfl), (by first | kernel_rfl | rfl), (by show Value.int .i64 ((q : Int) + 1) = _; simp), (by omega), (by first | rfl | simp), (by first | omega | (simp; done) | (simp; omega)), (by rw [legK_next hz50.out, legM_yes HX.out (by unfold useP; simp; have h_ := c51H.out; omega) (by omega)]; exact F153)⟩
                    · simp [slot, intOf]; omega
                · intro K hK
                  have kq0_ := F139.cl 0 2 rfl rfl
                  go_simp
                  clear kq0_
                  refine ru_back hK (by exact ⟨F139.cl 0 0 rfl rfl, (MatP.o (F139.at 1 rfl : MatP w.heap.size (w.heap.size + 1) n gs (legK useP ls n q) _) Hga.out), F139.cl 0 1 rfl rfl, (MatP.o (F139.at 1 rfl : MatP w.heap.size (w.heap.size + 1) n gs (legK useP ls n q) _) Hgb.out), F139.cl 0 2 rfl rfl⟩) (fun hHeld => ?_)
                  clear hK K
                  (try simp only [Act.put, List.setIfInBounds_toArray, List.set_cons_zero, List.set_cons_succ])
                  refine ru_two 13 19 rfl rfl (by kernel_rfl) ?_ ?_
                  · intro K hK
                    have kq0_ := F139.cl 0 0 rfl rfl
                    go_simp
                    clear kq0_
                    refine ru_back hK (by exact ⟨F139.cl 0 0 rfl rfl, (MatP.o (F139.at 1 rfl : MatP w.heap.size (w.heap.size + 1) n gs (legK useP ls n q) _) Hga.out), F139.cl 0 1 rfl rfl, (MatP.o (F139.at 1 rfl : MatP w.heap.size (w.heap.size + 1) n gs (legK useP ls n q) _) Hgb.out), F139.cl 0 2 rfl rfl⟩) (fun hHeld => ?_)
                    clear hK K
                    (try simp only [Act.put, List.setIfInBounds_toArray, List.set_cons_zero, List.set_cons_succ])
                    refine ru_one 19 rfl (by kernel_rfl) (fun K hK => ?_)
                    have kc_ : World.cell? _ ⟨ga, z.b.toNat, none⟩ = some (.int .i64 x) := (MatP.c (F139.at 1 rfl : MatP w.heap.size (w.heap.size + 1) n gs (legK useP ls n q) _) Hga.out (Shp.at (i := z.a.toNat) HSH.out (by omega)) ((Shp.cell (i := z.a.toNat) (j := z.b.toNat) HSH.out (by omega) (by omega)).trans (by rw [HX.out])))
                    have kf_ : World.frozen? _ ⟨ga, z.b.toNat, none⟩ = false := (MatP.fc (F139.at 1 rfl : MatP w.heap.size (w.heap.size + 1) n gs (legK useP ls n q) _) (List.mem_of_getElem? Hga.out) _)
                    go_simp
                    clear kc_ kf_
                    have F154 := (F139.front 1 rfl rfl).matSet Hga.out (Shp.at (i := z.a.toNat) HSH.out (by omega)) (Shp.cell (i := z.a.toNat) (j := z.b.toNat) HSH.out (by omega) (by omega)) z.long
                    clear F139
                    have HS1 : Hid (Shp n (mset (legK useP ls n q) z.a.toNat z.b.toNat z.long)) := Lib.hid (HSH.out.set (by omega) _)
                    refine ru_back_late hK (by kernel_rfl) ?_
                    clear hK K
                    (try simp only [Act.put, List.setIfInBounds_toArray, List.set_cons_zero, List.set_cons_succ])
                    refine ru_one 20 rfl (by kernel_rfl) (fun K hK => ?_)
                    go_simp
                    refine ru_back_late hK (by kernel_rfl) ?_
                    clear hK K
                    (try simp only [Act.put, List.setIfInBounds_toArray, List.set_cons_zero, List.set_cons_succ])
                    refine ru_one 21 rfl (by kernel_rfl) (fun K hK => ?_)
                    have kc_ : World.cell? _ ⟨gb, z.a.toNat, none⟩ = some (.int .i64 (mget (mset (legK useP ls n q) z.a.toNat z.b.toNat z.long) z.b.toNat z.a.toNat)) := (MatP.c (F154.at 0 rfl : MatP w.heap.size (w.heap.size + 1) n gs (mset (legK useP ls n q) z.a.toNat z.b.toNat z.long) _) Hgb.out (Shp.at (i := z.b.toNat) HS1.out (by omega)) (Shp.cell (i := z.b.toNat) (j := z.a.toNat) HS1.out (by omega) (by omega)))
                    have kf_ : World.frozen? _ ⟨gb, z.a.toNat, none⟩ = false := (MatP.fc (F154.at 0 rfl : MatP w.heap.size (w.heap.size + 1) n gs (mset (legK useP ls n q) z.a.toNat z.b.toNat z.long) _) (List.mem_of_getElem? Hgb.out) _)
                    go_simp
                    clear kc_ kf_
                    have F155 := F154.matSet Hgb.out (Shp.at (i := z.b.toNat) HS1.out (by omega)) (Shp.cell (i := z.b.toNat) (j := z.a.toNat) HS1.out (by omega) (by omega)) z.long
                    clear F154
                    refine ru_back_late hK (by kernel_rfl) ?_
                    clear hK K
                    (try simp only [Act.put, List.setIfInBounds_toArray, List.set_cons_zero, List.set_cons_succ])
                    refine ru_done (by kernel_rfl) ?_
                    obtain ⟨w156, hx157, F159, hxs158⟩ := (show Bun w [rmat w.heap.size (w.heap.size + 1) n gs (mset (mset (legK useP ls n q) z.a.toNat z.b.toNat z.long) z.b.toNat z.a.toNat z.long), rbox w.heap.size 67 #[.int .i64 (n : Int), .slice (some ⟨x48, o49, none⟩) ls.length cL], rsl lgEnc 5 lo hi (.slice (some ⟨x48, o49, none⟩) ls.length cL) ls] _ from (F155.drop 1 rfl)).name
                    (try simp at hxs158)
                    rw [hx157]
                    clear hx157 F155
                    go_wp2_with fail
                    (first | refine ⟨by kernel_rfl, ?_, ?_⟩ | refine ⟨rfl, ?_, ?_⟩ | refine ⟨?_, ?_⟩)
                    · rw [HI43.out]; exact ⟨q + 1, (by first | kernel_rfl | rfl), (by first | kernel_rfl | rfl), (by first | kernel_rfl | rfl), (by show Value.int .i64 ((q : Int) + 1) = _; simp), (by omega), (by first | rfl | simp), (by first | omega | (simp; done) | (simp; omega)), (by rw [legK_next hz50.out, legM_yes HX.out (by unfold useP; simp; have h_ := c51H.out; omega) (by omega)]; exact F159)⟩
                    · simp [slot, intOf]; omega
                  · intro K hK
                    have kc_ : World.cell? _ ⟨ga, z.b.toNat, none⟩ = some (.int .i64 x) := (MatP.c (F139.at 1 rfl : MatP w.heap.size (w.heap.size + 1) n gs (legK useP ls n q) _) Hga.out (Shp.at (i := z.a.toNat) HSH.out (by omega)) ((Shp.cell (i := z.a.toNat) (j := z.b.toNat) HSH.out (by omega) (by omega)).trans (by rw [HX.out])))
                    have kf_ : World.frozen? _ ⟨ga, z.b.toNat, none⟩ = false := (MatP.fc (F139.at 1 rfl : MatP w.heap.size (w.heap.size + 1) n gs (legK useP ls n q) _) (List.mem_of_getElem? Hga.out) _)
                    go_simp
                    clear kc_ kf_
                    have F160 := (F139.front 1 rfl rfl).matSet Hga.out (Shp.at (i := z.a.toNat) HSH.out (by omega)) (Shp.cell (i := z.a.toNat) (j := z.b.toNat) HSH.out (by omega) (by omega)) z.long
                    clear F139
                    have HS1 : Hid (Shp n (mset (legK useP ls n q) z.a.toNat z.b.toNat z.long)) := Lib.hid (HSH.out.set (by omega) _)
                    refine ru_back_late hK (by kernel_rfl) ?_
                    clear hK K
                    (try simp only [Act.put, List.setIfInBounds_toArray, List.set_cons_zero, List.set_cons_succ])
                    refine ru_one 13 rfl (by kernel_rfl) (fun K hK => ?_)
                    have kq0_ := F160.cl 1 0 rfl rfl
                    go_simp
                    clear kq0_
                    refine ru_back_late hK (by kernel_rfl) ?_
                    clear hK K
                    (try simp only [Act.put, List.setIfInBounds_toArray, List.set_cons_zero, List.set_cons_succ])
                    refine ru_one 20 rfl (by kernel_rfl) (fun K hK => ?_)
                    go_simp
                    refine ru_back_late hK (by kernel_rfl) ?_
                    clear hK K
                    (try simp only [Act.put, List.setIfInBounds_toArray, List.set_cons_zero, List.set_cons_succ])
                    refine ru_one 21 rfl (by kernel_rfl) (fun K hK => ?_)
                    have kc_ : World.cell? _ ⟨gb, z.a.toNat, none⟩ = some (.int .i64 (mget (mset (legK useP ls n q) z.a.toNat z.b.toNat z.long) z.b.toNat z.a.toNat)) := (MatP.c (F160.at 0 rfl : MatP w.heap.size (w.heap.size + 1) n gs (mset (legK useP ls n q) z.a.toNat z.b.toNat z.long) _) Hgb.out (Shp.at (i := z.b.toNat) HS1.out (by omega)) (Shp.cell (i := z.b.toNat) (j := z.a.toNat) HS1.out (by omega) (by omega)))
                    have kf_ : World.frozen? _ ⟨gb, z.a.toNat, none⟩ = false := (MatP.fc (F160.at 0 rfl : MatP w.heap.size (w.heap.size + 1) n gs (mset (legK useP ls n q) z.a.toNat z.b.toNat z.long) _) (List.mem_of_getElem? Hgb.out) _)
                    go_simp
                    clear kc_ kf_
                    have F161 := F160.matSet Hgb.out (Shp.at (i := z.b.toNat) HS1.out (by omega)) (Shp.cell (i := z.b.toNat) (j := z.a.toNat) HS1.out (by omega) (by omega)) z.long
                    clear F160
                    refine ru_back_late hK (by kernel_rfl) ?_
                    clear hK K
                    (try simp only [Act.put, List.setIfInBounds_toArray, List.set_cons_zero, List.set_cons_succ])
                    refine ru_done (by kernel_rfl) ?_
                    obtain ⟨w162, hx163, F165, hxs164⟩ := (show Bun w [rmat w.heap.size (w.heap.size + 1) n gs (mset (mset (legK useP ls n q) z.a.toNat z.b.toNat z.long) z.b.toNat z.a.toNat z.long), rbox w.heap.size 67 #[.int .i64 (n : Int), .slice (some ⟨x48, o49, none⟩) ls.length cL], rsl lgEnc 5 lo hi (.slice (some ⟨x48, o49, none⟩) ls.length cL) ls] _ from (F161.drop 1 rfl)).name
                    (try simp at hxs164)
                    rw [hx163]
                    clear hx163 F161
                    go_wp2_with fail
                    (first | refine ⟨by kernel_rfl, ?_, ?_⟩ | refine ⟨rfl, ?_, ?_⟩ | refine ⟨?_, ?_⟩)
                    · rw [HI43.out]; exact ⟨q + 1, (by first | kernel_rfl | rfl), (by first | kernel_rfl | rfl), (by first | kernel_rfl | rfl), (by show Value.int .i64 ((q : Int) + 1) = _; simp), (by omega), (by first | rfl | simp), (by first | omega | (simp; done) | (simp; omega)), (by rw [legK_next hz50.out, legM_yes HX.out (by unfold useP; simp; have h_ := c51H.out; omega) (by omega)]; exact F165)⟩
                    · simp [slot, intOf]; omega
                · intro K hK
                  have kc_ : World.cell? _ ⟨ga, z.b.toNat, none⟩ = some (.int .i64 x) := (MatP.c (F139.at 1 rfl : MatP w.heap.size (w.heap.size + 1) n gs (legK useP ls n q) _) Hga.out (Shp.at (i := z.a.toNat) HSH.out (by omega)) ((Shp.cell (i := z.a.toNat) (j := z.b.toNat) HSH.out (by omega) (by omega)).trans (by rw [HX.out])))
                  have kf_ : World.frozen? _ ⟨ga, z.b.toNat, none⟩ = false := (MatP.fc (F139.at 1 rfl : MatP w.heap.size (w.heap.size + 1) n gs (legK useP ls n q) _) (List.mem_of_getElem? Hga.out) _)
                  go_simp
                  clear kc_ kf_
                  have F166 := (F139.front 1 rfl rfl).matSet Hga.out (Shp.at (i := z.a.toNat) HSH.out (by omega)) (Shp.cell (i := z.a.toNat) (j := z.b.toNat) HSH.out (by omega) (by omega)) z.long
                  clear F139
                  have HS1 : Hid (Shp n (mset (legK useP ls n q) z.a.toNat z.b.toNat z.long)) := Lib.hid (HSH.out.set (by omega) _)
                  refine ru_back_late hK (by kernel_rfl) ?_
                  clear hK K
                  (try simp only [Act.put, List.setIfInBounds_toArray, List.set_cons_zero, List.set_cons_succ])
                  refine ru_two 13 17 rfl rfl (by kernel_rfl) ?_ ?_
                  · intro K hK
                    have kq0_ := F166.cl 1 0 rfl rfl
                    go_simp
                    clear kq0_
                    refine ru_back_late hK (by kernel_rfl) ?_
                    clear hK K
                    (try simp only [Act.put, List.setIfInBounds_toArray, List.set_cons_zero, List.set_cons_succ])
                    refine ru_one 17 rfl (by kernel_rfl) (fun K hK => ?_)
                    have kq0_ := F166.cl 1 2 rfl rfl
                    go_simp
                    clear kq0_
                    refine ru_back_late hK (by kernel_rfl) ?_
                    clear hK K
                    (try simp only [Act.put, List.setIfInBounds_toArray, List.set_cons_zero, List.set_cons_succ])
                    refine ru_one 20 rfl (by kernel_rfl) (fun K hK => ?_)
                    go_simp
                    refine ru_back_late hK (by kernel_rfl) ?_
                    clear hK K
                    (try simp only [Act.put, List.setIfInBounds_toArray, List.set_cons_zero, List.set_cons_succ])
                    refine ru_one 21 rfl (by kernel_rfl) (fun K hK => ?_)
                    have kc_ : World.cell? _ ⟨gb, z.a.toNat, none⟩ = some (.int .i64 (mget (mset (legK useP ls n q) z.a.toNat z.b.toNat z.long) z.b.toNat z.a.toNat)) := (MatP.c (F166.at 0 rfl : MatP w.heap.size (w.heap.size + 1) n gs (mset (legK useP ls n q) z.a.toNat z.b.toNat z.long) _) Hgb.out (Shp.at (i := z.b.toNat) HS1.out (by omega)) (Shp.cell (i := z.b.toNat) (j := z.a.toNat) HS1.out (by omega) (by omega)))
                    have kf_ : World.frozen? _ ⟨gb, z.a.toNat, none⟩ = false := (MatP.fc (F166.at 0 rfl : MatP w.heap.size (w.heap.size + 1) n gs (mset (legK useP ls n q) z.a.toNat z.b.toNat z.long) _) (List.mem_of_getElem? Hgb.out) _)
                    go_simp
                    clear kc_ kf_
                    have F167 := F166.matSet Hgb.out (Shp.at (i := z.b.toNat) HS1.out (by omega)) (Shp.cell (i := z.b.toNat) (j := z.a.toNat) HS1.out (by omega) (by omega)) z.long
                    clear F166
                    refine ru_back_late hK (by kernel_rfl) ?_
                    clear hK K
                    (try simp only [Act.put, List.setIfInBounds_toArray, List.set_cons_zero, List.set_cons_succ])
                    refine ru_done (by kernel_rfl) ?_
                    obtain ⟨w168, hx169, F171, hxs170⟩ := (show Bun w [rmat w.heap.size (w.heap.size + 1) n gs (mset (mset (legK useP ls n q) z.a.toNat z.b.toNat z.long) z.b.toNat z.a.toNat z.long), rbox w.heap.size 67 #[.int .i64 (n : Int), .slice (some ⟨x48, o49, none⟩) ls.length cL], rsl lgEnc 5 lo hi (.slice (some ⟨x48, o49, none⟩) ls.length cL) ls] _ from (F167.drop 1 rfl)).name
                    (try simp at hxs170)
                    rw [hx169]
                    clear hx169 F167
                    go_wp2_with fail
                    (first | refine ⟨by kernel_rfl, ?_, ?_⟩ | refine ⟨rfl, ?_, ?_⟩ | refine ⟨?_, ?_⟩)
                    · rw [HI43.out]; exact ⟨q + 1, (by first | kernel_rfl | rfl), (by first | kernel_rfl | rfl), (by first | kernel_rfl | rfl), (by show Value.int .i64 ((q : Int) + 1) = _; simp), (by omega), (by first | rfl | simp), (by first | omega | (simp; done) | (simp; omega)), (by rw [legK_next hz50.out, legM_yes HX.out (by unfold useP; simp; have h_ := c51H.out; omega) (by omega)]; exact F171)⟩
                    · simp [slot, intOf]; omega
                  · intro K hK
                    have kq0_ := F166.cl 1 2 rfl rfl
                    go_simp
                    clear kq0_
                    refine ru_back_late hK (by kernel_rfl) ?_
                    clear hK K
                    (try simp only [Act.put, List.setIfInBounds_toArray, List.set_cons_zero, List.set_cons_succ])
                    refine ru_one 13 rfl (by kernel_rfl) (fun K hK => ?_)
                    have kq0_ := F166.cl 1 0 rfl rfl
                    go_simp
                    clear kq0_
                    refine ru_back_late hK (by kernel_rfl) ?_
                    clear hK K
                    (try simp only [Act.put, List.setIfInBounds_toArray, List.set_cons_zero, List.set_cons_succ])
                    refine ru_one 20 rfl (by kernel_rfl) (fun K hK => ?_)
                    go_simp
                    refine ru_back_late hK (by kernel_rfl) ?_
                    clear hK K
                    (try simp only [Act.put, List.setIfInBounds_toArray, List.set_cons_zero, List.set_cons_succ])
                    refine ru_one 21 rfl (by kernel_rfl) (fun K hK => ?_)
                    have kc_ : World.cell? _ ⟨gb, z.a.toNat, none⟩ = some (.int .i64 (mget (mset (legK useP ls n q) z.a.toNat z.b.toNat z.long) z.b.toNat z.a.toNat)) := (MatP.c (F166.at 0 rfl : MatP w.heap.size (w.heap.size + 1) n gs (mset (legK useP ls n q) z.a.toNat z.b.toNat z.long) _) Hgb.out (Shp.at (i := z.b.toNat) HS1.out (by omega)) (Shp.cell (i := z.b.toNat) (j := z.a.toNat) HS1.out (by omega) (by omega)))
                    have kf_ : World.frozen? _ ⟨gb, z.a.toNat, none⟩ = false := (MatP.fc (F166.at 0 rfl : MatP w.heap.size (w.heap.size + 1) n gs (mset (legK useP ls n q) z.a.toNat z.b.toNat z.long) _) (List.mem_of_getElem? Hgb.out) _)
                    go_simp
                    clear kc_ kf_
                    have F172 := F166.matSet Hgb.out (Shp.at (i := z.b.toNat) HS1.out (by omega)) (Shp.cell (i := z.b.toNat) (j := z.a.toNat) HS1.out (by omega) (by omega)) z.long
                    clear F166
                    refine ru_back_late hK (by kernel_rfl) ?_
                    clear hK K
                    (try simp only [Act.put, List.setIfInBounds_toArray, List.set_cons_zero, List.set_cons_succ])
                    refine ru_done (by kernel_rfl) ?_
                    obtain ⟨w173, hx174, F176, hxs175⟩ := (show Bun w [rmat w.heap.size (w.heap.size + 1) n gs (mset (mset (legK useP ls n q) z.a.toNat z.b.toNat z.long) z.b.toNat z.a.toNat z.long), rbox w.heap.size 67 #[.int .i64 (n : Int), .slice (some ⟨x48, o49, none⟩) ls.length cL], rsl lgEnc 5 lo hi (.slice (some ⟨x48, o49, none⟩) ls.length cL) ls] _ from (F172.drop 1 rfl)).name
                    (try simp at hxs175)
                    rw [hx174]
                    clear hx174 F172
                    go_wp2_with fail
                    (first | refine ⟨by kernel_rfl, ?_, ?_⟩ | refine ⟨rfl, ?_, ?_⟩ | refine ⟨?_, ?_⟩)
                    · rw [HI43.out]; exact ⟨q + 1, (by first | kernel_rfl | rfl), (by first | kernel_rfl | rfl), (by first | kernel_rfl | rfl), (by show Value.int .i64 ((q : Int) + 1) = _; simp), (by omega), (by first | rfl | simp), (by first | omega | (simp; done) | (simp; omega)), (by rw [legK_next hz50.out, legM_yes HX.out (by unfold useP; simp; have h_ := c51H.out; omega) (by omega)]; exact F176)⟩
                    · simp [slot, intOf]; omega
              · skip
                have c138H := Lib.hid c138
                have c138a : decide (z.long < x) = false := dec_f c138
                go_wp2_with fail
                have F177 : Bun w [rmat w.heap.size (w.heap.size + 1) n gs (legK useP ls n q), rbox w.heap.size 67 #[.int .i64 (n : Int), .slice (some ⟨x48, o49, none⟩) ls.length cL], rsl lgEnc 5 lo hi (.slice (some ⟨x48, o49, none⟩) ls.length cL) ls] _ := F137.pick [1, 2, 3] (by decide) rfl
                clear F137
                (first | refine ⟨by kernel_rfl, ?_, ?_⟩ | refine ⟨rfl, ?_, ?_⟩ | refine ⟨?_, ?_⟩)
                · rw [HI43.out]; exact ⟨q + 1, (by first | kernel_rfl | rfl), (by first | kernel_rfl | rfl), (by first | kernel_rfl | rfl), (by show Value.int .i64 ((q : Int) + 1) = _; simp), (by omega), (by first | rfl | simp), (by first | omega | (simp; done) | (simp; omega)), (by rw [legK_next hz50.out, legM_no HX.out (.inr (by omega))]; exact F177)⟩
                · simp [slot, intOf]; omega
        · skip
          have c47H := Lib.hid c47
          have c47a : decide ((q : Int) < (ls.length : Int)) = false := dec_f c47
          have hqn_ : q = ls.length := by omega
          rw [hqn_] at hF44
          clear hqn_
          obtain ⟨M1, hM1_⟩ : ∃ M_, legK useP ls n ls.length = M_ := ⟨_, rfl⟩
          have HM1 := Lib.hid hM1_
          have HZB := Lib.hid (legK_zb (u := useP) HLS.out)
          rw [hM1_] at HZB hF44
          clear hM1_
          have F178 : Bun w [rmat w.heap.size (w.heap.size + 1) n gs (fwM n M1 0), rbox w.heap.size 67 #[.int .i64 (n : Int), .slice aL ls.length cL], rsl lgEnc 5 lo hi (.slice aL ls.length cL) ls] _ := hF44
          clear hF44
          have b179 := F178.bx2 1 rfl
          go_wp2_with fail
          clear b179
          obtain ⟨HI180_, HI1800⟩ : ∃ I : (Nat → Value) → List Deferred → World → Prop, I = (fun t ds wr => ∃ (m : Nat), t 2 = .pointer (some ⟨w.heap.size, 0, none⟩) ∧ t 5 = .slice (some ⟨w.heap.size + 1, 0, none⟩) n n ∧ t 10 = .int .i64 (m : Int) ∧ m ≤ n ∧ ds = [] ∧ w46.heap.size ≤ wr.heap.size ∧ Bun w [rmat w.heap.size (w.heap.size + 1) n gs (fwM n M1 m), rbox w.heap.size 67 #[.int .i64 (n : Int), .slice aL ls.length cL], rsl lgEnc 5 lo hi (.slice aL ls.length cL) ls] wr) := ⟨_, rfl⟩
          have HI180 := Lib.hid HI1800
          clear HI1800
          refine wp_loopS 186 rfl HI180_ (fun t wr => n - (intOf (t 10)).toNat) ?atStart10 ?round10
          case round10 =>
            intro t ds wr hHid
            rw [HI180.out] at hHid
            obtain ⟨m, e2, e5, e10, hrel⟩ := hHid
            have e : ((List.range 186).map t).toArray = #[t 0, t 1, t 2, t 3, t 4, t 5, t 6, t 7, t 8, t 9, t 10, t 11, t 12, t 13, t 14, t 15, t 16, t 17, t 18, t 19, t 20, t 21, t 22, t 23, t 24, t 25, t 26, t 27, t 28, t 29, t 30, t 31, t 32, t 33, t 34, t 35, t 36, t 37, t 38, t 39, t 40, t 41, t 42, t 43, t 44, t 45, t 46, t 47, t 48, t 49, t 50, t 51, t 52, t 53, t 54, t 55, t 56, t 57, t 58, t 59, t 60, t 61, t 62, t 63, t 64, t 65, t 66, t 67, t 68, t 69, t 70, t 71, t 72, t 73, t 74, t 75, t 76, t 77, t 78, t 79, t 80, t 81, t 82, t 83, t 84, t 85, t 86, t 87, t 88, t 89, t 90, t 91, t 92, t 93, t 94, t 95, t 96, t 97, t 98, t 99, t 100, t 101, t 102, t 103, t 104, t 105, t 106, t 107, t 108, t 109, t 110, t 111, t 112, t 113, t 114, t 115, t 116, t 117, t 118, t 119, t 120, t 121, t 122, t 123, t 124, t 125, t 126, t 127, t 128, t 129, t 130, t 131, t 132, t 133, t 134, t 135, t 136, t 137, t 138, t 139, t 140, t 141, t 142, t 143, t 144, t 145, t 146, t 147, t 148, t 149, t 150, t 151, t 152, t 153, t 154, t 155, t 156, t 157, t 158, t 159, t 160, t 161, t 162, t 163, t 164, t 165, t 166, t 167, t 168, t 169, t 170, t 171, t 172, t 173, t 174, t 175, t 176, t 177, t 178, t 179, t 180, t 181, t 182, t 183, t 184, t 185] := rfl
            (try dsimp only at e)
            rw [e2, e5, e10] at e
            rw [e]
            simp only [e10]
            clear e e2 e5 e10
            obtain ⟨hm_, rfl, hs182, hF181⟩ := hrel
            clear F178
            obtain ⟨w183, rfl⟩ : ∃ x_ : World, x_ = wr := ⟨_, rfl⟩
            by_cases c184 : (m : Int) < (n : Int)
            · skip
              have c184H := Lib.hid c184
              have b185 := hF181.bx2 1 rfl
              go_wp2_with fail
              clear b185
              obtain ⟨HI186_, HI1860⟩ : ∃ I : (Nat → Value) → List Deferred → World → Prop, I = (fun t ds wr => ∃ (i : Nat), t 2 = .pointer (some ⟨w.heap.size, 0, none⟩) ∧ t 5 = .slice (some ⟨w.heap.size + 1, 0, none⟩) n n ∧ t 10 = .int .i64 (m : Int) ∧ t 11 = .int .i64 (i : Int) ∧ i ≤ n ∧ ds = [] ∧ w183.heap.size ≤ wr.heap.size ∧ Bun w [rmat w.heap.size (w.heap.size + 1) n gs (fwI n (fwM n M1 m) m i), rbox w.heap.size 67 #[.int .i64 (n : Int), .slice aL ls.length cL], rsl lgEnc 5 lo hi (.slice aL ls.length cL) ls] wr) := ⟨_, rfl⟩
              have HI186 := Lib.hid HI1860
              clear HI1860
              refine wp_loopS 186 rfl HI186_ (fun t wr => n - (intOf (t 11)).toNat) ?atStart11 ?round11
              case round11 =>
                intro t ds wr hHid
                rw [HI186.out] at hHid
                obtain ⟨i, e2, e5, e10, e11, hrel⟩ := hHid
                have e : ((List.range 186).map t).toArray = #[t 0, t 1, t 2, t 3, t 4, t 5, t 6, t 7, t 8, t 9, t 10, t 11, t 12, t 13, t 14, t 15, t 16, t 17, t 18, t 19, t 20, t 21, t 22, t 23, t 24, t 25, t 26, t 27, t 28, t 29, t 30, t 31, t 32, t 33, t 34, t 35, t 36, t 37, t 38, t 39, t 40, t 41, t 42, t 43, t 44, t 45, t 46, t 47, t 48, t 49, t 50, t 51, t 52, t 53, t 54, t 55, t 56, t 57, t 58, t 59, t 60, t 61, t 62, t 63, t 64, t 65, t 66, t 67, t 68, t 69, t 70, t 71, t 72, t 73, t 74, t 75, t 76, t 77, t 78, t 79, t 80, t 81, t 82, t 83, t 84, t 85, t 86, t 87, t 88, t 89, t 90, t 91, t 92, t 93, t 94, t 95, t 96, t 97, t 98, t 99, t 100, t 101, t 102, t 103, t 104, t 105, t 106, t 107, t 108, t 109, t 110, t 111, t 112, t 113, t 114, t 115, t 116, t 117, t 118, t 119, t 120, t 121, t 122, t 123, t 124, t 125, t 126, t 127, t 128, t 129, t 130, t 131, t 132, t 133, t 134, t 135, t 136, t 137, t 138, t 139, t 140, t 141, t 142, t 143, t 144, t 145, t 146, t 147, t 148, t 149, t 150, t 151, t 152, t 153, t 154, t 155, t 156, t 157, t 158, t 159, t 160, t 161, t 162, t 163, t 164, t 165, t 166, t 167, t 168, t 169, t 170, t 171, t 172, t 173, t 174, t 175, t 176, t 177, t 178, t 179, t 180, t 181, t 182, t 183, t 184, t 185] := rfl
                (try dsimp only at e)
                rw [e2, e5, e10, e11] at e
                rw [e]
                simp only [e11]
                clear e e2 e5 e10 e11
                obtain ⟨hi_, rfl, hs188, hF187⟩ := hrel
                clear hF181
                obtain ⟨w189, rfl⟩ : ∃ x_ : World, x_ = wr := ⟨_, rfl⟩
                by_cases c190 : (i : Int) < (n : Int)
                · skip
                  have c190H := Lib.hid c190
                  have b191 := hF187.bx2 1 rfl
                  go_wp2_with fail
                  clear b191
                  obtain ⟨HI192_, HI1920⟩ : ∃ I : (Nat → Value) → List Deferred → World → Prop, I = (fun t ds wr => ∃ (k : Nat), t 2 = .pointer (some ⟨w.heap.size, 0, none⟩) ∧ t 5 = .slice (some ⟨w.heap.size + 1, 0, none⟩) n n ∧ t 10 = .int .i64 (m : Int) ∧ t 11 = .int .i64 (i : Int) ∧ t 12 = .int .i64 (k : Int) ∧ k ≤ n ∧ ds = [] ∧ w189.heap.size ≤ wr.heap.size ∧ Bun w [rmat w.heap.size (w.heap.size + 1) n gs (fwK (fwI n (fwM n M1 m) m i) m i k), rbox w.heap.size 67 #[.int .i64 (n : Int), .slice aL ls.length cL], rsl lgEnc 5 lo hi (.slice aL ls.length cL) ls] wr) := ⟨_, rfl⟩
                  have HI192 := Lib.hid HI1920
                  clear HI1920
                  refine wp_loopS 186 rfl HI192_ (fun t wr => n - (intOf (t 12)).toNat) ?atStart12 ?round12
                  case round12 =>
                    intro t ds wr hHid
                    rw [HI192.out] at hHid
                    obtain ⟨k, e2, e5, e10, e11, e12, hrel⟩ := hHid
                    have e : ((List.range 186).map t).toArray = #[t 0, t 1, t 2, t 3, t 4, t 5, t 6, t 7, t 8, t 9, t 10, t 11, t 12, t 13, t 14, t 15, t 16, t 17, t 18, t 19, t 20, t 21, t 22, t 23, t 24, t 25, t 26, t 27, t 28, t 29, t 30, t 31, t 32, t 33, t 34, t 35, t 36, t 37, t 38, t 39, t 40, t 41, t 42, t 43, t 44, t 45, t 46, t 47, t 48, t 49, t 50, t 51, t 52, t 53, t 54, t 55, t 56, t 57, t 58, t 59, t 60, t 61, t 62, t 63, t 64, t 65, t 66, t 67, t 68, t 69, t 70, t 71, t 72, t 73, t 74, t 75, t 76, t 77, t 78, t 79, t 80, t 81, t 82, t 83, t 84, t 85, t 86, t 87, t 88, t 89, t 90, t 91, t 92, t 93, t 94, t 95, t 96, t 97, t 98, t 99, t 100, t 101, t 102, t 103, t 104, t 105, t 106, t 107, t 108, t 109, t 110, t 111, t 112, t 113, t 114, t 115, t 116, t 117, t 118, t 119, t 120, t 121, t 122, t 123, t 124, t 125, t 126, t 127, t 128, t 129, t 130, t 131, t 132, t 133, t 134, t 135, t 136, t 137, t 138, t 139, t 140, t 141, t 142, t 143, t 144, t 145, t 146, t 147, t 148, t 149, t 150, t 151, t 152, t 153, t 154, t 155, t 156, t 157, t 158, t 159, t 160, t 161, t 162, t 163, t 164, t 165, t 166, t 167, t 168, t 169, t 170, t 171, t 172, t 173, t 174, t 175, t 176, t 177, t 178, t 179, t 180, t 181, t 182, t 183, t 184, t 185] := rfl
                    (try dsimp only at e)
                    rw [e2, e5, e10, e11, e12] at e
                    rw [e]
                    simp only [e12]
                    clear e e2 e5 e10 e11 e12
                    obtain ⟨hk_, rfl, hs194, hF193⟩ := hrel
                    clear hF187
                    obtain ⟨w195, rfl⟩ : ∃ x_ : World, x_ = wr := ⟨_, rfl⟩
                    by_cases c196 : (k : Int) < (n : Int)
                    · skip
                      have c196H := Lib.hid c196
                      have HFB := Lib.hid (fw_bd HZB.out hn20 (m := m) (i := i) (k := k) (by omega) (by omega) (by omega))
                      have HSH := Lib.hid HFB.out.1
                      obtain ⟨x, h_⟩ : ∃ x_, mget (fwK (fwI n (fwM n M1 m) m i) m i k) i m = x_ := ⟨_, rfl⟩
                      have HX := Lib.hid h_
                      have hxb : -1 ≤ x ∧ x ≤ 2097152000000 := by rw [← h_]; exact HFB.out.2 _ _ (by omega) (by omega)
                      clear h_
                      obtain ⟨y, h_⟩ : ∃ x_, mget (fwK (fwI n (fwM n M1 m) m i) m i k) m k = x_ := ⟨_, rfl⟩
                      have HY := Lib.hid h_
                      have hyb : -1 ≤ y ∧ y ≤ 2097152000000 := by rw [← h_]; exact HFB.out.2 _ _ (by omega) (by omega)
                      clear h_
                      obtain ⟨z, h_⟩ : ∃ x_, mget (fwK (fwI n (fwM n M1 m) m i) m i k) i k = x_ := ⟨_, rfl⟩
                      have HZ := Lib.hid h_
                      have hzb : -1 ≤ z ∧ z ≤ 2097152000000 := by rw [← h_]; exact HFB.out.2 _ _ (by omega) (by omega)
                      clear h_
                      obtain ⟨gi, h_⟩ : ∃ g_, gs[i]? = some g_ := ⟨_, List.getElem?_eq_getElem (by have h_ := HGN.out; omega)⟩
                      have Hgi := Lib.hid h_
                      clear h_
                      obtain ⟨gm, h_⟩ : ∃ g_, gs[m]? = some g_ := ⟨_, List.getElem?_eq_getElem (by have h_ := HGN.out; omega)⟩
                      have Hgm := Lib.hid h_
                      clear h_
                      have b197 := hF193.bx2 1 rfl
                      go_wp2_with fail
                      clear b197
                      have ge198 : World.cell? _ ⟨w.heap.size + 1, i, none⟩ = some (.slice (some ⟨gi, 0, none⟩) n n) := (MatP.o (hF193.at 0 rfl : MatP w.heap.size (w.heap.size + 1) n gs (fwK (fwI n (fwM n M1 m) m i) m i k) _) Hgi.out)
                      have ge199 : World.cell? _ ⟨gi, m, none⟩ = some (.int .i64 x) := (MatP.c (hF193.at 0 rfl : MatP w.heap.size (w.heap.size + 1) n gs (fwK (fwI n (fwM n M1 m) m i) m i k) _) Hgi.out (Shp.at (i := i) HSH.out (by omega)) ((Shp.cell (i := i) (j := m) HSH.out (by omega) (by omega)).trans (by rw [HX.out])))
                      have ge200 : World.cell? _ ⟨w.heap.size + 1, m, none⟩ = some (.slice (some ⟨gm, 0, none⟩) n n) := (MatP.o (hF193.at 0 rfl : MatP w.heap.size (w.heap.size + 1) n gs (fwK (fwI n (fwM n M1 m) m i) m i k) _) Hgm.out)
                      have ge201 : World.cell? _ ⟨gm, k, none⟩ = some (.int .i64 y) := (MatP.c (hF193.at 0 rfl : MatP w.heap.size (w.heap.size + 1) n gs (fwK (fwI n (fwM n M1 m) m i) m i k) _) Hgm.out (Shp.at (i := m) HSH.out (by omega)) ((Shp.cell (i := m) (j := k) HSH.out (by omega) (by omega)).trans (by rw [HY.out])))
                      go_quiet (fail)
                      clear ge198 ge199 ge200 ge201
                      have F202 := hF193.drewN nq
                      clear hF193
                      obtain ⟨w203, hx204, F206, hxs205⟩ := (show Bun w [rmat w.heap.size (w.heap.size + 1) n gs (fwK (fwI n (fwM n M1 m) m i) m i k), rbox w.heap.size 67 #[.int .i64 (n : Int), .slice aL ls.length cL], rsl lgEnc 5 lo hi (.slice aL ls.length cL) ls] _ from F202).name
                      (try simp at hxs205)
                      rw [hx204]
                      clear hx204 F202
                      by_cases c207 : 0 ≤ x
                      · skip
                        have c207H := Lib.hid c207
                        by_cases c208 : 0 ≤ y
                        · skip
                          have c208H := Lib.hid c208
                          by_cases c209 : z < 0
                          · skip
                            have c209H := Lib.hid c209
                            have ge210 : World.cell? _ ⟨w.heap.size + 1, i, none⟩ = some (.slice (some ⟨gi, 0, none⟩) n n) := (MatP.o (F206.at 0 rfl : MatP w.heap.size (w.heap.size + 1) n gs (fwK (fwI n (fwM n M1 m) m i) m i k) _) Hgi.out)
                            have gl211 := cell_lt ge210
                            have ge212 : World.cell? _ ⟨gi, k, none⟩ = some (.int .i64 z) := (MatP.c (F206.at 0 rfl : MatP w.heap.size (w.heap.size + 1) n gs (fwK (fwI n (fwM n M1 m) m i) m i k) _) Hgi.out (Shp.at (i := i) HSH.out (by omega)) ((Shp.cell (i := i) (j := k) HSH.out (by omega) (by omega)).trans (by rw [HZ.out])))
                            have gl213 := cell_lt ge212
                            have ge214 : World.cell? _ ⟨gi, k, none⟩ = some (.int .i64 z) := (MatP.c (F206.at 0 rfl : MatP w.heap.size (w.heap.size + 1) n gs (fwK (fwI n (fwM n M1 m) m i) m i k) _) Hgi.out (Shp.at (i := i) HSH.out (by omega)) ((Shp.cell (i := i) (j := k) HSH.out (by omega) (by omega)).trans (by rw [HZ.out])))
                            have gl215 := cell_lt ge214
                            have ge216 : World.frozen? _ ⟨gi, k, none⟩ = false := (MatP.fc (F206.at 0 rfl : MatP w.heap.size (w.heap.size + 1) n gs (fwK (fwI n (fwM n M1 m) m i) m i k) _) (List.mem_of_getElem? Hgi.out) _)
                            go_wp2_with fail
                            clear ge210 gl211 ge212 gl213 ge214 gl215 ge216
                            have F217 := F206.matSet Hgi.out (Shp.at (i := i) HSH.out (by omega)) (Shp.cell (i := i) (j := k) HSH.out (by omega) (by omega)) (x + y)
                            clear F206
                            (first | refine ⟨by kernel_rfl, ?_, ?_⟩ | refine ⟨rfl, ?_, ?_⟩ | refine ⟨?_, ?_⟩)
                            · rw [HI192.out]; exact ⟨k + 1, (by first | kernel_rfl | rfl), (by first | kernel_rfl | rfl), (by first | kernel_rfl | rfl), (by first | kernel_rfl | rfl), (by show Value.int .i64 ((k : Int) + 1) = _; simp), (by omega), (by first | rfl | simp), (by first | omega | (simp; done) | (simp; omega)), (by rw [fwK_yes HX.out HY.out HZ.out (by omega)]; exact F217)⟩
                            · simp [slot, intOf]; omega
                          · skip
                            have c209H := Lib.hid c209
                            have c209a : decide (z < 0) = false := dec_f c209
                            by_cases c218 : x + y < z
                            · skip
                              have c218H := Lib.hid c218
                              have ge219 : World.cell? _ ⟨w.heap.size + 1, i, none⟩ = some (.slice (some ⟨gi, 0, none⟩) n n) := (MatP.o (F206.at 0 rfl : MatP w.heap.size (w.heap.size + 1) n gs (fwK (fwI n (fwM n M1 m) m i) m i k) _) Hgi.out)
                              have gl220 := cell_lt ge219
                              have ge221 : World.cell? _ ⟨gi, k, none⟩ = some (.int .i64 z) := (MatP.c (F206.at 0 rfl : MatP w.heap.size (w.heap.size + 1) n gs (fwK (fwI n (fwM n M1 m) m i) m i k) _) Hgi.out (Shp.at (i := i) HSH.out (by omega)) ((Shp.cell (i := i) (j := k) HSH.out (by omega) (by omega)).trans (by rw [HZ.out])))
                              have gl222 := cell_lt ge221
                              have ge223 : World.cell? _ ⟨gi, k, none⟩ = some (.int .i64 z) := (MatP.c (F206.at 0 rfl : MatP w.heap.size (w.heap.size + 1) n gs (fwK (fwI n (fwM n M1 m) m i) m i k) _) Hgi.out (Shp.at (i := i) HSH.out (by omega)) ((Shp.cell (i := i) (j := k) HSH.out (by omega) (by omega)).trans (by rw [HZ.out])))
                              have gl224 := cell_lt ge223
                              have ge225 : World.frozen? _ ⟨gi, k, none⟩ = false := (MatP.fc (F206.at 0 rfl : MatP w.heap.size (w.heap.size + 1) n gs (fwK (fwI n (fwM n M1 m) m i) m i k) _) (List.mem_of_getElem? Hgi.out) _)
                              go_wp2_with fail
                              clear ge219 gl220 ge221 gl222 ge223 gl224 ge225
                              have F226 := F206.matSet Hgi.out (Shp.at (i := i) HSH.out (by omega)) (Shp.cell (i := i) (j := k) HSH.out (by omega) (by omega)) (x + y)
                              clear F206
                              (first | refine ⟨by kernel_rfl, ?_, ?_⟩ | refine ⟨rfl, ?_, ?_⟩ | refine ⟨?_, ?_⟩)
                              · rw [HI192.out]; exact ⟨k + 1, (by first | kernel_rfl | rfl), (by first | kernel_rfl | rfl), (by first | kernel_rfl | rfl), (by first | kernel_rfl | rfl), (by show Value.int .i64 ((k : Int) + 1) = _; simp), (by omega), (by first | rfl | simp), (by first | omega | (simp; done) | (simp; omega)), (by rw [fwK_yes HX.out HY.out HZ.out (by omega)]; exact F226)⟩
                              · simp [slot, intOf]; omega
                            · skip
                              have c218H := Lib.hid c218
                              have c218a : decide (x + y < z) = false := dec_f c218
                              have ge227 : World.cell? _ ⟨w.heap.size + 1, i, none⟩ = some (.slice (some ⟨gi, 0, none⟩) n n) := (MatP.o (F206.at 0 rfl : MatP w.heap.size (w.heap.size + 1) n gs (fwK (fwI n (fwM n M1 m) m i) m i k) _) Hgi.out)
                              have gl228 := cell_lt ge227
                              have ge229 : World.cell? _ ⟨gi, k, none⟩ = some (.int .i64 z) := (MatP.c (F206.at 0 rfl : MatP w.heap.size (w.heap.size + 1) n gs (fwK (fwI n (fwM n M1 m) m i) m i k) _) Hgi.out (Shp.at (i := i) HSH.out (by omega)) ((Shp.cell (i := i) (j := k) HSH.out (by omega) (by omega)).trans (by rw [HZ.out])))
                              have gl230 := cell_lt ge229
                              go_wp2_with fail
                              clear ge227 gl228 ge229 gl230
                              (first | refine ⟨by kernel_rfl, ?_, ?_⟩ | refine ⟨rfl, ?_, ?_⟩ | refine ⟨?_, ?_⟩)
                              · rw [HI192.out]; exact ⟨k + 1, (by first | kernel_rfl | rfl), (by first | kernel_rfl | rfl), (by first | kernel_rfl | rfl), (by first | kernel_rfl | rfl), (by show Value.int .i64 ((k : Int) + 1) = _; simp), (by omega), (by first | rfl | simp), (by first | omega | (simp; done) | (simp; omega)), (by rw [fwK_no HX.out HY.out HZ.out (by omega)]; exact F206)⟩
                              · simp [slot, intOf]; omega
                        · skip
                          have c208H := Lib.hid c208
                          have c208a : decide (0 ≤ y) = false := dec_f c208
                          go_wp2_with fail
                          (first | refine ⟨by kernel_rfl, ?_, ?_⟩ | refine ⟨rfl, ?_, ?_⟩ | refine ⟨?_, ?_⟩)
                          · rw [HI192.out]; exact ⟨k + 1, (by first | kernel_rfl | rfl), (by first | kernel_rfl | rfl), (by first | kernel_rfl | rfl), (by first | kernel_rfl | rfl), (by show Value.int .i64 ((k : Int) + 1) = _; simp), (by omega), (by first | rfl | simp), (by first | omega | (simp; done) | (simp; omega)), (by rw [fwK_no HX.out HY.out HZ.out (by omega)]; exact F206)⟩
                          · simp [slot, intOf]; omega
                      · skip
                        have c207H := Lib.hid c207
                        have c207a : decide (0 ≤ x) = false := dec_f c207
                        go_wp2_with fail
                        (first | refine ⟨by kernel_rfl, ?_, ?_⟩ | refine ⟨rfl, ?_, ?_⟩ | refine ⟨?_, ?_⟩)
                        · rw [HI192.out]; exact ⟨k + 1, (by first | kernel_rfl | rfl), (by first | kernel_rfl | rfl), (by first | kernel_rfl | rfl), (by first | kernel_rfl | rfl), (by show Value.int .i64 ((k : Int) + 1) = _; simp), (by omega), (by first | rfl | simp), (by first | omega | (simp; done) | (simp; omega)), (by rw [fwK_no HX.out HY.out HZ.out (by omega)]; exact F206)⟩
                        · simp [slot, intOf]; omega
                    · skip
                      have c196H := Lib.hid c196
                      have c196a : decide ((k : Int) < (n : Int)) = false := dec_f c196
                      have hkn_ : k = n := by omega
                      rw [hkn_] at hF193
                      clear hkn_
                      have F231 : Bun w [rmat w.heap.size (w.heap.size + 1) n gs (fwI n (fwM n M1 m) m (i + 1)), rbox w.heap.size 67 #[.int .i64 (n : Int), .slice aL ls.length cL], rsl lgEnc 5 lo hi (.slice aL ls.length cL) ls] _ := hF193
                      clear hF193
                      have b232 := F231.bx2 1 rfl
                      go_wp2_with fail
                      clear b232
                      (first | refine ⟨by kernel_rfl, ?_, ?_⟩ | refine ⟨rfl, ?_, ?_⟩ | refine ⟨?_, ?_⟩)
                      · rw [HI186.out]; exact ⟨i + 1, (by first | kernel_rfl | rfl), (by first | kernel_rfl | rfl), (by first | kernel_rfl | rfl), (by show Value.int .i64 ((i : Int) + 1) = _; simp), (by omega), (by first | rfl | simp), (by first | omega | (simp; done) | (simp; omega)), F231⟩
                      · simp [slot, intOf]; omega
                  case atStart12 =>
                    rw [HI192.out]
                    exact ⟨0, (by first | kernel_rfl | rfl), (by first | kernel_rfl | rfl), (by first | kernel_rfl | rfl), (by first | kernel_rfl | rfl), rfl, Nat.zero_le _, rfl, (by first | exact Nat.le_refl _ | omega | (simp; done) | (simp; omega)), hF187⟩
                · skip
                  have c190H := Lib.hid c190
                  have c190a : decide ((i : Int) < (n : Int)) = false := dec_f c190
                  have hin_ : i = n := by omega
                  rw [hin_] at hF187
                  clear hin_
                  have F233 : Bun w [rmat w.heap.size (w.heap.size + 1) n gs (fwM n M1 (m + 1)), rbox w.heap.size 67 #[.int .i64 (n : Int), .slice aL ls.length cL], rsl lgEnc 5 lo hi (.slice aL ls.length cL) ls] _ := hF187
                  clear hF187
                  have b234 := F233.bx2 1 rfl
                  go_wp2_with fail
                  clear b234
                  (first | refine ⟨by kernel_rfl, ?_, ?_⟩ | refine ⟨rfl, ?_, ?_⟩ | refine ⟨?_, ?_⟩)
                  · rw [HI180.out]; exact ⟨m + 1, (by first | kernel_rfl | rfl), (by first | kernel_rfl | rfl), (by show Value.int .i64 ((m : Int) + 1) = _; simp), (by omega), (by first | rfl | simp), (by first | omega | (simp; done) | (simp; omega)), F233⟩
                  · simp [slot, intOf]; omega
              case atStart11 =>
                rw [HI186.out]
                exact ⟨0, (by first | kernel_rfl | rfl), (by first | kernel_rfl | rfl), (by first | kernel_rfl | rfl), rfl, Nat.zero_le _, rfl, (by first | exact Nat.le_refl _ | omega | (simp; done) | (simp; omega)), hF181⟩
            · skip
              have c184H := Lib.hid c184
              have c184a : decide ((m : Int) < (n : Int)) = false := dec_f c184
              have hmn_ : m = n := by omega
              rw [hmn_] at hF181
              clear hmn_
              have b235 := hF181.bx2 1 rfl
              go_wp2_with fail
              clear b235
              have F236 : Bun w [rmat w.heap.size (w.heap.size + 1) n gs (fwM n M1 n)] _ := hF181.pick [0] (by decide) rfl
              clear hF181
              exact bodyPost_ret (v := .slice (some ⟨w.heap.size + 1, 0, none⟩) n n) (by simp [results, Try.results35, go_sem]) rfl (⟨_, gs, rfl, (by rw [legK_len, HM1.out]; exact F236)⟩)
          case atStart10 =>
            rw [HI180.out]
            exact ⟨0, (by first | kernel_rfl | rfl), (by first | kernel_rfl | rfl), rfl, Nat.zero_le _, rfl, (by first | exact Nat.le_refl _ | omega | (simp; done) | (simp; omega)), F178⟩
      case atStart9 =>
        rw [HI43.out]
        exact ⟨0, (by first | kernel_rfl | rfl), (by first | kernel_rfl | rfl), (by first | kernel_rfl | rfl), rfl, Nat.zero_le _, rfl, (by first | exact Nat.le_refl _ | omega | (simp; done) | (simp; omega)), hF10⟩
  case atStart7 =>
    rw [HI9.out]
    exact ⟨0, [], (by first | kernel_rfl | rfl), (by first | kernel_rfl | rfl), (by first | kernel_rfl | rfl), rfl, Nat.zero_le _, (Lib.hid rfl), rfl, (by first | exact Nat.le_refl _ | omega | (simp; done) | (simp; omega)), F8⟩

end Go.Proofs.Ytokelpmngahnoaa
