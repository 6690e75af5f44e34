/- fuel: how many choices of numbers a book has; copies of spans. -/
import Derived.Test.YtfifldbinnkdmaaKE
import Derived.Test.YtfifldbinnkdmaaHasB
import Derived.Test.YtfifldbinnkdmaaBal
import Derived.Test.YtfifldbinnkdmaaKitB
import Derived.Test.YtfifldbinnkdmaaK1
import Derived.Lib.SliceRun
set_option linter.unusedVariables false
set_option linter.unusedSimpArgs false
set_option linter.unnecessarySimpa false
namespace Go.Proofs.Ytfifldbinnkdmaa
open Go.RowKit Go.Shelf
set_option maxRecDepth 100000

theorem mulC_bd {c s : Int} (h : 1 ≤ c ∧ c ≤ 1000000) (hs : 1 ≤ s ∧ s ≤ 1000000001) : 0 ≤ c * s ∧ c * s ≤ 1000000001000000 := by
  have h1 := Int.mul_nonneg (show 0 ≤ c by omega) (show 0 ≤ s by omega)
  have h2 : c * s ≤ 1000000 * 1000000001 := Int.mul_le_mul h.2 hs.2 (by omega) (by omega)
  exact ⟨h1, by omega⟩
theorem chA_mid {b : Bok} (hok : BokOk b) {i : Nat} (hi : i < b.accs.length) : 1 ≤ min 1000000 ((chA b i) * ((ga b.accs i).op.hi - (ga b.accs i).op.lo + 1)) ∧ min 1000000 ((chA b i) * ((ga b.accs i).op.hi - (ga b.accs i).op.lo + 1)) ≤ 1000000 := by
  have h1 := chA_size hok i (by omega)
  have ho := (hok.acc i hi).op
  exact (clamp (s := (ga b.accs i).op.hi - (ga b.accs i).op.lo + 1) h1.1.1 h1.2 (by omega) rfl).1
set_option maxHeartbeats 8000000 in
theorem choices_c (lo hi : Nat) (va vm : Value) (b : Bok) (w : World) (hb : HasB lo hi w va vm b) (hh : hi ≤ w.heap.size) (hok : BokOk b) :
    Calls Try.prog 49 #[.agg #[va, vm]] w (Ret (.int .i64 (chM b b.mvs.length)) w) := by
  have F1 : Bun w [] w := Bun.nil _
  obtain ⟨hba, hbm⟩ := id hb
  clear hb
  have hm_ac := hba.len
  unfold maxLen at hm_ac
  obtain ⟨aa, ak, rfl⟩ := hba.any
  have F2 := F1.sl0 hba hh rfl
  clear F1
  clear hba
  have hm_mv := hbm.len
  unfold maxLen at hm_mv
  obtain ⟨ma, mk, rfl⟩ := hbm.any
  have F3 := F2.sl0 hbm hh rfl
  clear F2
  clear hbm
  have HOK := Lib.hid hok
  have h8_ := hok.n8
  have h30_ := hok.m30
  clear hok
  go_enter Try.func49, Try.ntmps49
  go_wp2_with fail
  have F4 := F3.new 25 #[.slice aa b.accs.length ak, .slice ma b.mvs.length mk] (n := w.heap.size) (by simp)
  clear F3
  obtain ⟨HI5_, HI50⟩ : ∃ I : (Nat → Value) → List Deferred → World → Prop, I = (fun t ds wr => ∃ (i : Nat), t 1 = .pointer (some ⟨w.heap.size, 0, none⟩) ∧ t 3 = .int .i64 (chA b i) ∧ t 4 = .int .i64 (i : Int) ∧ i ≤ b.accs.length ∧ ds = [] ∧ w.heap.size ≤ wr.heap.size ∧ Bun w [rbox w.heap.size 25 #[.slice aa b.accs.length ak, .slice ma b.mvs.length mk], rsl mvEnc 4 lo hi (.slice ma b.mvs.length mk) b.mvs, rsl accEnc 6 lo hi (.slice aa b.accs.length ak) b.accs] wr) := ⟨_, rfl⟩
  have HI5 := Lib.hid HI50
  clear HI50
  refine wp_loopS 78 rfl HI5_ (fun t wr => b.accs.length - (intOf (t 4)).toNat) ?atStart1 ?round1
  case round1 =>
    intro t ds wr hHid
    rw [HI5.out] at hHid
    obtain ⟨i, e1, e3, e4, hrel⟩ := hHid
    have e : ((List.range 78).map t).toArray = #[t 0, t 1, t 2, t 3, t 4, t 5, t 6, t 7, t 8, t 9, t 10, t 11, t 12, t 13, t 14, t 15, t 16, t 17, t 18, t 19, t 20, t 21, t 22, t 23, t 24, t 25, t 26, t 27, t 28, t 29, t 30, t 31, t 32, t 33, t 34, t 35, t 36, t 37, t 38, t 39, t 40, t 41, t 42, t 43, t 44, t 45, t 46, t 47, t 48, t 49, t 50, t 51, t 52, t 53, t 54, t 55, t 56, t 57, t 58, t 59, t 60, t 61, t 62, t 63, t 64, t 65, t 66, t 67, t 68, t 69, t 70, t 71, t 72, t 73, t 74, t 75, t 76, t 77] := rfl
    (try dsimp only at e)
    rw [e1, e3, e4] at e
    rw [e]
    simp only [e4]
    clear e e1 e3 e4
    obtain ⟨hi0, rfl, hs7, hF6⟩ := hrel
    clear F4
    obtain ⟨w8, rfl⟩ : ∃ x_ : World, x_ = wr := ⟨_, rfl⟩
    by_cases c9 : (i : Int) < (b.accs.length : Int)
    · skip
      have c9H := Lib.hid c9
      obtain ⟨x10, o11, e_⟩ := Sl.addr (hF6.at 2 rfl : Sl accEnc 6 lo hi _ (.slice aa b.accs.length ak) b.accs) (by omega)
      subst e_
      have hz12 : Hid (b.accs[i]? = some (ga b.accs i)) := Lib.hid (ga_at (by omega))
      have hib : i < b.accs.length := by omega
      have haop := (HOK.out.acc i hib).op
      have hacl := (HOK.out.acc i hib).cl
      have hch := (chA_size HOK.out i (by omega)).1
      have hcm := chA_mid HOK.out hib
      have hm1 := mulC_bd hch (s := (ga b.accs i).op.hi - (ga b.accs i).op.lo + 1) (by omega)
      have hm2 := mulC_bd hcm (s := (ga b.accs i).cl.hi - (ga b.accs i).cl.lo + 1) (by omega)
      have b16 := hF6.bx2 0 rfl
      go_wp2_with fail
      clear b16
      have b20 := hF6.bx2 0 rfl
      have ge21 : World.cell? _ ⟨x10, o11 + i * 6 + 2 + 1, none⟩ = some (.int .i64 (ga b.accs i).op.hi) := (((hF6.at 2 rfl : Sl accEnc 6 lo hi _ (.slice (some ⟨x10, o11, none⟩) b.accs.length ak) b.accs)).cells hz12.out 3 _ rfl)
      have ge22 : World.cell? _ ⟨x10, o11 + i * 6 + 2, none⟩ = some (.int .i64 (ga b.accs i).op.lo) := (((hF6.at 2 rfl : Sl accEnc 6 lo hi _ (.slice (some ⟨x10, o11, none⟩) b.accs.length ak) b.accs)).cells hz12.out 2 _ rfl)
      have hw17 : IntKind.i64.wrap ((ga b.accs i).op.hi - ((ga b.accs i).op.lo)) = (ga b.accs i).op.hi - ((ga b.accs i).op.lo) := IntWalk.i64_in _ (by omega)
      have hw18 : IntKind.i64.wrap ((ga b.accs i).op.hi - ((ga b.accs i).op.lo) + 1) = (ga b.accs i).op.hi - ((ga b.accs i).op.lo) + 1 := IntWalk.i64_in _ (by omega)
      have hw19 : IntKind.i64.wrap ((chA b i) * ((ga b.accs i).op.hi - ((ga b.accs i).op.lo) + 1)) = (chA b i) * ((ga b.accs i).op.hi - ((ga b.accs i).op.lo) + 1) := IntWalk.i64_in _ (by omega)
      go_quiet (fail)
      clear b20 ge21 ge22 hw17 hw18 hw19
      have F23 := hF6.drewN nq
      clear hF6
      obtain ⟨w24, hx25, F27, hxs26⟩ := (show Bun w [rbox w.heap.size 25 #[.slice (some ⟨x10, o11, none⟩) b.accs.length ak, .slice ma b.mvs.length mk], rsl mvEnc 4 lo hi (.slice ma b.mvs.length mk) b.mvs, rsl accEnc 6 lo hi (.slice (some ⟨x10, o11, none⟩) b.accs.length ak) b.accs] _ from F23).name
      (try simp at hxs26)
      rw [hx25]
      clear hx25 F23
      go_wp2_with fail
      have b34 := F27.bx2 0 rfl
      have ge35 : World.cell? _ ⟨x10, o11 + i * 6 + 4 + 1, none⟩ = some (.int .i64 (ga b.accs i).cl.hi) := (((F27.at 2 rfl : Sl accEnc 6 lo hi _ (.slice (some ⟨x10, o11, none⟩) b.accs.length ak) b.accs)).cells hz12.out 5 _ rfl)
      have ge36 : World.cell? _ ⟨x10, o11 + i * 6 + 4, none⟩ = some (.int .i64 (ga b.accs i).cl.lo) := (((F27.at 2 rfl : Sl accEnc 6 lo hi _ (.slice (some ⟨x10, o11, none⟩) b.accs.length ak) b.accs)).cells hz12.out 4 _ rfl)
      have hw31 : IntKind.i64.wrap ((ga b.accs i).cl.hi - ((ga b.accs i).cl.lo)) = (ga b.accs i).cl.hi - ((ga b.accs i).cl.lo) := IntWalk.i64_in _ (by omega)
      have hw32 : IntKind.i64.wrap ((ga b.accs i).cl.hi - ((ga b.accs i).cl.lo) + 1) = (ga b.accs i).cl.hi - ((ga b.accs i).cl.lo) + 1 := IntWalk.i64_in _ (by omega)
      have hw33 : IntKind.i64.wrap ((min 1000000 ((chA b i) * ((ga b.accs i).op.hi - ((ga b.accs i).op.lo) + 1))) * ((ga b.accs i).cl.hi - ((ga b.accs i).cl.lo) + 1)) = (min 1000000 ((chA b i) * ((ga b.accs i).op.hi - ((ga b.accs i).op.lo) + 1))) * ((ga b.accs i).cl.hi - ((ga b.accs i).cl.lo) + 1) := IntWalk.i64_in _ (by omega)
      go_quiet (fail)
      clear b34 ge35 ge36 hw31 hw32 hw33
      have F37 := F27.drewN nq
      clear F27
      obtain ⟨w38, hx39, F41, hxs40⟩ := (show Bun w [rbox w.heap.size 25 #[.slice (some ⟨x10, o11, none⟩) b.accs.length ak, .slice ma b.mvs.length mk], rsl mvEnc 4 lo hi (.slice ma b.mvs.length mk) b.mvs, rsl accEnc 6 lo hi (.slice (some ⟨x10, o11, none⟩) b.accs.length ak) b.accs] _ from F37).name
      (try simp at hxs40)
      rw [hx39]
      clear hx39 F37
      go_wp2_with fail
      (first | refine ⟨by kernel_rfl, ?_, ?_⟩ | refine ⟨rfl, ?_, ?_⟩ | refine ⟨?_, ?_⟩)
      · rw [HI5.out]; exact ⟨i + 1, (by first | kernel_rfl | rfl), (by first | kernel_rfl | rfl), (by show Value.int .i64 ((i : Int) + 1) = _; simp), (by omega), (by first | rfl | simp), (by first | omega | (simp; done) | (simp; omega)), F41⟩
      · simp [slot, intOf]; omega
    · skip
      have c9H := Lib.hid c9
      have c9a : decide ((i : Int) < (b.accs.length : Int)) = false := dec_f c9
      have b42 := hF6.bx2 0 rfl
      go_wp2_with fail
      clear b42
      have hie : i = b.accs.length := by omega
      subst hie
      (skip)
      obtain ⟨HI43_, HI430⟩ : ∃ I : (Nat → Value) → List Deferred → World → Prop, I = (fun t ds wr => ∃ (k : Nat), t 1 = .pointer (some ⟨w.heap.size, 0, none⟩) ∧ t 3 = .int .i64 (chM b k) ∧ t 5 = .int .i64 (k : Int) ∧ k ≤ b.mvs.length ∧ ds = [] ∧ w8.heap.size ≤ wr.heap.size ∧ Bun w [rbox w.heap.size 25 #[.slice aa b.accs.length ak, .slice ma b.mvs.length mk], rsl mvEnc 4 lo hi (.slice ma b.mvs.length mk) b.mvs, rsl accEnc 6 lo hi (.slice aa b.accs.length ak) b.accs] wr) := ⟨_, rfl⟩
      have HI43 := Lib.hid HI430
      clear HI430
      refine wp_loopS 78 rfl HI43_ (fun t wr => b.mvs.length - (intOf (t 5)).toNat) ?atStart2 ?round2
      case round2 =>
        intro t ds wr hHid
        rw [HI43.out] at hHid
        obtain ⟨k, e1, e3, e5, hrel⟩ := hHid
        have e : ((List.range 78).map t).toArray = #[t 0, t 1, t 2, t 3, t 4, t 5, t 6, t 7, t 8, t 9, t 10, t 11, t 12, t 13, t 14, t 15, t 16, t 17, t 18, t 19, t 20, t 21, t 22, t 23, t 24, t 25, t 26, t 27, t 28, t 29, t 30, t 31, t 32, t 33, t 34, t 35, t 36, t 37, t 38, t 39, t 40, t 41, t 42, t 43, t 44, t 45, t 46, t 47, t 48, t 49, t 50, t 51, t 52, t 53, t 54, t 55, t 56, t 57, t 58, t 59, t 60, t 61, t 62, t 63, t 64, t 65, t 66, t 67, t 68, t 69, t 70, t 71, t 72, t 73, t 74, t 75, t 76, t 77] := rfl
        (try dsimp only at e)
        rw [e1, e3, e5] at e
        rw [e]
        simp only [e5]
        clear e e1 e3 e5
        obtain ⟨hk0, rfl, hs45, hF44⟩ := hrel
        clear hF6
        obtain ⟨w46, rfl⟩ : ∃ x_ : World, x_ = wr := ⟨_, rfl⟩
        by_cases c47 : (k : Int) < (b.mvs.length : Int)
        · skip
          have c47H := Lib.hid c47
          obtain ⟨x48, o49, e_⟩ := Sl.addr (hF44.at 1 rfl : Sl mvEnc 4 lo hi _ (.slice ma b.mvs.length mk) b.mvs) (by omega)
          subst e_
          have hz50 : Hid (b.mvs[k]? = some (gm b.mvs k)) := Lib.hid (gm_at (by omega))
          have hkb : k < b.mvs.length := by omega
          have hli := (HOK.out.mv k hkb).li
          have hch := (chM_size HOK.out k (by omega)).1
          have hm1 := mulC_bd hch (s := (gm b.mvs k).li.hi - (gm b.mvs k).li.lo + 1) (by omega)
          have b54 := hF44.bx2 0 rfl
          go_wp2_with fail
          clear b54
          have b58 := hF44.bx2 0 rfl
          have ge59 : World.cell? _ ⟨x48, o49 + k * 4 + 2 + 1, none⟩ = some (.int .i64 (gm b.mvs k).li.hi) := (((hF44.at 1 rfl : Sl mvEnc 4 lo hi _ (.slice (some ⟨x48, o49, none⟩) b.mvs.length mk) b.mvs)).cells hz50.out 3 _ rfl)
          have ge60 : World.cell? _ ⟨x48, o49 + k * 4 + 2, none⟩ = some (.int .i64 (gm b.mvs k).li.lo) := (((hF44.at 1 rfl : Sl mvEnc 4 lo hi _ (.slice (some ⟨x48, o49, none⟩) b.mvs.length mk) b.mvs)).cells hz50.out 2 _ rfl)
          have hw55 : IntKind.i64.wrap ((gm b.mvs k).li.hi - ((gm b.mvs k).li.lo)) = (gm b.mvs k).li.hi - ((gm b.mvs k).li.lo) := IntWalk.i64_in _ (by omega)
          have hw56 : IntKind.i64.wrap ((gm b.mvs k).li.hi - ((gm b.mvs k).li.lo) + 1) = (gm b.mvs k).li.hi - ((gm b.mvs k).li.lo) + 1 := IntWalk.i64_in _ (by omega)
          have hw57 : IntKind.i64.wrap ((chM b k) * ((gm b.mvs k).li.hi - ((gm b.mvs k).li.lo) + 1)) = (chM b k) * ((gm b.mvs k).li.hi - ((gm b.mvs k).li.lo) + 1) := IntWalk.i64_in _ (by omega)
          go_quiet (fail)
          clear b58 ge59 ge60 hw55 hw56 hw57
          have F61 := hF44.drewN nq
          clear hF44
          obtain ⟨w62, hx63, F65, hxs64⟩ := (show Bun w [rbox w.heap.size 25 #[.slice aa b.accs.length ak, .slice (some ⟨x48, o49, none⟩) b.mvs.length mk], rsl mvEnc 4 lo hi (.slice (some ⟨x48, o49, none⟩) b.mvs.length mk) b.mvs, rsl accEnc 6 lo hi (.slice aa b.accs.length ak) b.accs] _ from F61).name
          (try simp at hxs64)
          rw [hx63]
          clear hx63 F61
          go_wp2_with fail
          (first | refine ⟨by kernel_rfl, ?_, ?_⟩ | refine ⟨rfl, ?_, ?_⟩ | refine ⟨?_, ?_⟩)
          · rw [HI43.out]; exact ⟨k + 1, (by first | kernel_rfl | rfl), (by first | kernel_rfl | rfl), (by show Value.int .i64 ((k : Int) + 1) = _; simp), (by omega), (by first | rfl | simp), (by first | omega | (simp; done) | (simp; omega)), F65⟩
          · simp [slot, intOf]; omega
        · skip
          have c47H := Lib.hid c47
          have c47a : decide ((k : Int) < (b.mvs.length : Int)) = false := dec_f c47
          have Hx66 := Lib.hid (show ((chM b b.mvs.length : Int)) = chM b k by rw [show k = b.mvs.length by omega])
          have b67 := hF44.bx2 0 rfl
          go_wp2_with fail
          clear b67
          go_ret
          exact ⟨by rw [Hx66.out] <;> rfl, hF44.gb⟩
      case atStart2 =>
        rw [HI43.out]
        exact ⟨0, (by first | kernel_rfl | rfl), rfl, rfl, Nat.zero_le _, rfl, (by first | exact Nat.le_refl _ | omega | (simp; done) | (simp; omega)), hF6⟩
  case atStart1 =>
    rw [HI5.out]
    exact ⟨0, (by first | kernel_rfl | rfl), rfl, rfl, Nat.zero_le _, rfl, (by first | exact Nat.le_refl _ | omega | (simp; done) | (simp; omega)), F4⟩

set_option maxHeartbeats 8000000 in
theorem ownSpans_b (lo hi : Nat) (v : Value) (l : List Sp) (w : World) (hl : Sps lo hi w v l) (h2 : hi ≤ w.heap.size) (hs : l.length ≤ 100000) :
    Calls Try.prog 54 #[v] w (fun e w' => ∃ (a : Option Addr) (c k1 : Nat), e = .returned (.slice a l.length c) ∧ Bun w [rown spEnc 40 2 k1 (.slice a l.length c) l] w') := by
  have F1 : Bun w [] w := Bun.nil _
  have hm_s := hl.len
  unfold maxLen at hm_s
  obtain ⟨a, c, rfl⟩ := hl.any
  have F2 := F1.sl0 hl h2 rfl
  clear F1
  clear hl
  go_enter Try.func54, Try.ntmps54
  go_wp2_with (at_builtin; refine wpList_copyB okSp rfl _ _ rfl w.heap.size w.heap.size rfl (F2.new 40 #[] (n := w.heap.size) (by simp)) (by first | omega | (simp; omega)) lo hi (.slice a l.length c) l rfl ((F2.new 40 #[] (n := w.heap.size) (by simp)).at 1 rfl) (by omega) ?_; intro vc3 w4 hB5 hs6; refine Hid.out ?_)
  refine Lib.hid ?_
  (try simp at hs6)
  have F7 := hB5
  clear F2
  obtain ⟨ca8, cap9, e_⟩ := (Own.sl (F7.at 0 rfl : Own spEnc 40 2 w.heap.size _ vc3 l) (fun _ => rfl)).any
  subst e_
  go_wp2_with fail
  exact bodyPost_ret (v := .slice ca8 l.length cap9) (by simp [results, Try.results54, go_sem]) rfl (⟨_, _, _, rfl, F7.pick [0] (by decide) rfl⟩)

end Go.Proofs.Ytfifldbinnkdmaa
