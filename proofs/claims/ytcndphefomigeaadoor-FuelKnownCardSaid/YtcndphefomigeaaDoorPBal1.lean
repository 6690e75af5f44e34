/- fuel: what accounts lose in a truth. -/
import Derived.Test.YtcndphefomigeaaDoorPG8
import Derived.Test.YtcndphefomigeaaDoorPG7
import Derived.Test.YtcndphefomigeaaDoorPK1
set_option linter.unusedVariables false
set_option linter.unusedSimpArgs false
set_option linter.unnecessarySimpa false
namespace Go.Proofs.YtcndphefomigeaaDoor
open Go.RowKit Go.Shelf
set_option maxRecDepth 100000

set_option maxHeartbeats 16000000 in
theorem balance_c (lo hi : Nat) (va vm : Value) (b : Bok) (l1 h1 l2 h2 l3 h3 : Nat) (vo vc vv : Value) (O C V : List Int) (w : World) (hb : HasB lo hi w va vm b) (hn : nameOk b.accs) (hh : hi ≤ w.heap.size) (ho : Ints l1 h1 w vo O) (q1 : h1 ≤ w.heap.size) (hc : Ints l2 h2 w vc C) (q2 : h2 ≤ w.heap.size) (hv : Ints l3 h3 w vv V) (q3 : h3 ≤ w.heap.size) :
    Calls Tryd.prog 29 #[.agg #[va, vm], .agg #[vo, vc, vv]] w (BalPost b O C V w) := by
  have F1 : Bun w [] w := Bun.nil _
  obtain ⟨hba, hbm⟩ := id hb
  clear hb
  have hm_ac := hba.len
  unfold maxLen at hm_ac
  obtain ⟨aa, ak, rfl⟩ := hba.any
  have F2 := F1.sl0 hba hh rfl
  clear F1
  clear hba
  have hm_mv := hbm.len
  unfold maxLen at hm_mv
  obtain ⟨ma, mk, rfl⟩ := hbm.any
  have F3 := F2.sl0 hbm hh rfl
  clear F2
  clear hbm
  have HN := Lib.hid hn
  clear hn
  have hm_to := ho.len
  unfold maxLen at hm_to
  obtain ⟨toa, tok, rfl⟩ := ho.any
  have F4 := F3.sl0 ho q1 rfl
  clear F3
  clear ho
  have hm_tc := hc.len
  unfold maxLen at hm_tc
  obtain ⟨tca, tck, rfl⟩ := hc.any
  have F5 := F4.sl0 hc q2 rfl
  clear F4
  clear hc
  have hm_tv := hv.len
  unfold maxLen at hm_tv
  obtain ⟨tva, tvk, rfl⟩ := hv.any
  have F6 := F5.sl0 hv q3 rfl
  clear F5
  clear hv
  go_enter Tryd.func29, Tryd.ntmps29
  go_wp2_with fail
  have F7 := F6.new 38 #[.slice aa b.accs.length ak, .slice ma b.mvs.length mk] (n := w.heap.size) (by simp)
  clear F6
  have F8 := F7.new 46 #[.slice toa O.length tok, .slice tca C.length tck, .slice tva V.length tvk] (n := (w.heap.size + 1)) (by simp)
  clear F7
  refine (check_c _ _ _ _ _ _ b _ (F8.at 6 rfl : Sl accEnc 6 lo hi _ (.slice aa b.accs.length ak) b.accs) (F8.at 5 rfl : Sl mvEnc 4 lo hi _ (.slice ma b.mvs.length mk) b.mvs) HN.out (by first | omega | (simp; omega)) (by first | omega | (simp; omega))).mono ?_
  rintro e w11 ⟨rfl, hg9⟩
  have hg9s := hg9.size
  (try simp at hg9s)
  have F12 := F8.gn hg9
  clear F8
  clear hg9
  by_cases c13 : checkE b = 0
  · skip
    have c13a : ((checkE b) == 0) = true := beq_t c13
    have c13b : ((checkE b) != 0) = false := bne_f c13
    have c13H := Lib.hid c13
    clear c13
    by_cases c14 : (O.length : Int) = (b.accs.length : Int)
    · skip
      have c14a : ((O.length : Int) == (b.accs.length : Int)) = true := beq_t c14
      have c14b : ((O.length : Int) != (b.accs.length : Int)) = false := bne_f c14
      have c14H := Lib.hid c14
      clear c14
      by_cases c15 : (C.length : Int) = (b.accs.length : Int)
      · skip
        have c15a : ((C.length : Int) == (b.accs.length : Int)) = true := beq_t c15
        have c15b : ((C.length : Int) != (b.accs.length : Int)) = false := bne_f c15
        have c15H := Lib.hid c15
        clear c15
        by_cases c16 : (V.length : Int) = (b.mvs.length : Int)
        · skip
          have c16a : ((V.length : Int) == (b.mvs.length : Int)) = true := beq_t c16
          have c16b : ((V.length : Int) != (b.mvs.length : Int)) = false := bne_f c16
          have c16H := Lib.hid c16
          clear c16
          have HCK : Hid (checkE b = 0) := Lib.hid c13H.out
          have hlo : O.length = b.accs.length := by have := c14H.out; omega
          have hlc : C.length = b.accs.length := by have := c15H.out; omega
          have hlv : V.length = b.mvs.length := by have := c16H.out; omega
          have HOK := Lib.hid (checked_bok HCK.out)
          have hn0 := HOK.out.n0
          have hn8 := HOK.out.n8
          have hm31 := HOK.out.m30
          have HLN : Hid (O.length = b.accs.length ∧ C.length = b.accs.length ∧ V.length = b.mvs.length) := Lib.hid ⟨hlo, hlc, hlv⟩
          have hll : ((O.length ≤ b.accs.length ∧ b.accs.length ≤ O.length) ∧ C.length ≤ b.accs.length ∧ b.accs.length ≤ C.length) ∧ V.length ≤ b.mvs.length ∧ b.mvs.length ≤ V.length := by omega
          clear hlo hlc hlv
          have b17 := F12.bx3 0 rfl
          have b18 := F12.bx2 1 rfl
          go_wp2_with (at_make; refine wpList_mkInt rfl _ _ rfl b.accs.length rfl rfl F12 (by omega) w11.heap.size (by first | rfl | simp) ?_; intro w19 hB20 hs21; refine Hid.out ?_)
          refine Lib.hid ?_
          (try simp at hs21)
          clear b17 b18
          have F22 := hB20
          clear F12
          have b23 := F22.bx2 2 rfl
          go_wp2_with fail
          clear b23
          rw [← lsA_zero O C] at F22
          (skip)
          obtain ⟨HI24_, HI240⟩ : ∃ I : (Nat → Value) → List Deferred → World → Prop, I = (fun t ds wr => ∃ (i : Nat), t 2 = .pointer (some ⟨w.heap.size, 0, none⟩) ∧ t 3 = .pointer (some ⟨w.heap.size + 1, 0, none⟩) ∧ t 7 = .slice (some ⟨w11.heap.size, 0, none⟩) b.accs.length b.accs.length ∧ t 49 = .slice aa b.accs.length ak ∧ t 50 = .int .i64 (b.accs.length : Int) ∧ t 51 = .int .i64 (i : Int) ∧ i ≤ b.accs.length ∧ (∀ q, q < i → truA b O C q) ∧ ds = [] ∧ w19.heap.size ≤ wr.heap.size ∧ Bun w [rown intEnc 3 1 w.heap.size (.slice (some ⟨w11.heap.size, 0, none⟩) b.accs.length b.accs.length) (lsA O C b.accs.length i), rbox (w.heap.size + 1) 46 #[.slice toa O.length tok, .slice tca C.length tck, .slice tva V.length tvk], rbox w.heap.size 38 #[.slice aa b.accs.length ak, .slice ma b.mvs.length mk], rsl intEnc 1 l3 h3 (.slice tva V.length tvk) V, rsl intEnc 1 l2 h2 (.slice tca C.length tck) C, rsl intEnc 1 l1 h1 (.slice toa O.length tok) O, rsl mvEnc 4 lo hi (.slice ma b.mvs.length mk) b.mvs, rsl accEnc 6 lo hi (.slice aa b.accs.length ak) b.accs] wr) := ⟨_, rfl⟩
          have HI24 := Lib.hid HI240
          clear HI240
          refine wp_loopS 169 rfl HI24_ (fun t wr => b.accs.length - (intOf (t 51)).toNat) ?atStart1 ?round1
          case round1 =>
            intro t ds wr hHid
            rw [HI24.out] at hHid
            obtain ⟨i, e2, e3, e7, e49, e50, e51, hrel⟩ := hHid
            have e : ((List.range 169).map t).toArray = #[t 0, t 1, t 2, t 3, t 4, t 5, t 6, t 7, t 8, t 9, t 10, t 11, t 12, t 13, t 14, t 15, t 16, t 17, t 18, t 19, t 20, t 21, t 22, t 23, t 24, t 25, t 26, t 27, t 28, t 29, t 30, t 31, t 32, t 33, t 34, t 35, t 36, t 37, t 38, t 39, t 40, t 41, t 42, t 43, t 44, t 45, t 46, t 47, t 48, t 49, t 50, t 51, t 52, t 53, t 54, t 55, t 56, t 57, t 58, t 59, t 60, t 61, t 62, t 63, t 64, t 65, t 66, t 67, t 68, t 69, t 70, t 71, t 72, t 73, t 74, t 75, t 76, t 77, t 78, t 79, t 80, t 81, t 82, t 83, t 84, t 85, t 86, t 87, t 88, t 89, t 90, t 91, t 92, t 93, t 94, t 95, t 96, t 97, t 98, t 99, t 100, t 101, t 102, t 103, t 104, t 105, t 106, t 107, t 108, t 109, t 110, t 111, t 112, t 113, t 114, t 115, t 116, t 117, t 118, t 119, t 120, t 121, t 122, t 123, t 124, t 125, t 126, t 127, t 128, t 129, t 130, t 131, t 132, t 133, t 134, t 135, t 136, t 137, t 138, t 139, t 140, t 141, t 142, t 143, t 144, t 145, t 146, t 147, t 148, t 149, t 150, t 151, t 152, t 153, t 154, t 155, t 156, t 157, t 158, t 159, t 160, t 161, t 162, t 163, t 164, t 165, t 166, t 167, t 168] := rfl
            (try dsimp only at e)
            rw [e2, e3, e7, e49, e50, e51] at e
            rw [e]
            simp only [e51]
            clear e e2 e3 e7 e49 e50 e51
            obtain ⟨hi0, hta, rfl, hs26, hF25⟩ := hrel
            clear F22
            obtain ⟨w27, rfl⟩ : ∃ x_ : World, x_ = wr := ⟨_, rfl⟩
            have HTA := Lib.hid hta
            clear hta
            by_cases c28 : (i : Int) < (b.accs.length : Int)
            · skip
              have c28H := Lib.hid c28
              obtain ⟨x29, o30, e_⟩ := Sl.addr (hF25.at 7 rfl : Sl accEnc 6 lo hi _ (.slice aa b.accs.length ak) b.accs) (by omega)
              subst e_
              obtain ⟨x31, o32, e_⟩ := Sl.addr (hF25.at 5 rfl : Sl intEnc 1 l1 h1 _ (.slice toa O.length tok) O) (by omega)
              subst e_
              obtain ⟨x33, o34, e_⟩ := Sl.addr (hF25.at 4 rfl : Sl intEnc 1 l2 h2 _ (.slice tca C.length tck) C) (by omega)
              subst e_
              have hz35 : Hid (b.accs[i]? = some (ga b.accs i)) := Lib.hid (ga_at (by omega))
              have hz36 : Hid (O[i]? = some (gi O i)) := Lib.hid (gi_at (by omega))
              have hz37 : Hid (C[i]? = some (gi C i)) := Lib.hid (gi_at (by omega))
              have hz38 : Hid ((lsA O C b.accs.length i)[i]? = some (gi (lsA O C b.accs.length i) i)) := Lib.hid (gi_at (by rw [lsA_len]; omega))
              have hio : i < O.length := by omega
              have hic : i < C.length := by omega
              have haop := (HOK.out.acc i (by omega)).op
              have hacl := (HOK.out.acc i (by omega)).cl
              cases c39 : inB (gi O i) ((ga b.accs i).op.lo) ((ga b.accs i).op.hi)
              · skip
                have c39o := inB_not c39
                have c39H := Lib.hid c39o
                have ge40 : World.cell? _ ⟨x29, o30 + i * 6, none⟩ = some (.string (ga b.accs i).name) := (((hF25.at 7 rfl : Sl accEnc 6 lo hi _ (.slice (some ⟨x29, o30, none⟩) b.accs.length ak) b.accs)).cells hz35.out 0 _ rfl)
                have gl41 := cell_lt ge40
                have ge42 : World.cell? _ ⟨x29, o30 + i * 6 + 1, none⟩ = some (.int .i64 (ga b.accs i).kind) := (((hF25.at 7 rfl : Sl accEnc 6 lo hi _ (.slice (some ⟨x29, o30, none⟩) b.accs.length ak) b.accs)).cells hz35.out 1 _ rfl)
                have ge43 : World.cell? _ ⟨x29, o30 + i * 6 + 2, none⟩ = some (.int .i64 (ga b.accs i).op.lo) := (((hF25.at 7 rfl : Sl accEnc 6 lo hi _ (.slice (some ⟨x29, o30, none⟩) b.accs.length ak) b.accs)).cells hz35.out 2 _ rfl)
                have ge44 : World.cell? _ ⟨x29, o30 + i * 6 + 3, none⟩ = some (.int .i64 (ga b.accs i).op.hi) := (((hF25.at 7 rfl : Sl accEnc 6 lo hi _ (.slice (some ⟨x29, o30, none⟩) b.accs.length ak) b.accs)).cells hz35.out 3 _ rfl)
                have ge45 : World.cell? _ ⟨x29, o30 + i * 6 + 4, none⟩ = some (.int .i64 (ga b.accs i).cl.lo) := (((hF25.at 7 rfl : Sl accEnc 6 lo hi _ (.slice (some ⟨x29, o30, none⟩) b.accs.length ak) b.accs)).cells hz35.out 4 _ rfl)
                have ge46 : World.cell? _ ⟨x29, o30 + i * 6 + 5, none⟩ = some (.int .i64 (ga b.accs i).cl.hi) := (((hF25.at 7 rfl : Sl accEnc 6 lo hi _ (.slice (some ⟨x29, o30, none⟩) b.accs.length ak) b.accs)).cells hz35.out 5 _ rfl)
                go_wp2_with fail
                clear ge40 gl41 ge42 ge43 ge44 ge45 ge46
                have F47 := hF25.new 41 #[.string (ga b.accs i).name, .int .i64 ((ga b.accs i).kind), .int .i64 ((ga b.accs i).op.lo), .int .i64 ((ga b.accs i).op.hi), .int .i64 ((ga b.accs i).cl.lo), .int .i64 ((ga b.accs i).cl.hi)] (n := w27.heap.size) (by simp)
                clear hF25
                have b48 := F47.bx6 0 rfl
                have b49 := F47.bx3 2 rfl
                have ge50 : World.cell? _ ⟨x31, o32 + i, none⟩ = some (.int .i64 (gi O i)) := (by have h_ := ((F47.at 6 rfl : Sl intEnc 1 l1 h1 _ (.slice (some ⟨x31, o32, none⟩) O.length tok) O)).cells hz36.out 0 _ rfl; simpa using h_)
                go_quiet (((go_at_call 49; exact Calls.quiet_of_same ((in_c _ _ _ _).mono (fun _ _ h => ⟨h.1, h.2.symm⟩)))))
                clear b48 b49 ge50
                have F51 := F47.drewN nq
                clear F47
                obtain ⟨w52, hx53, F55, hxs54⟩ := (show Bun w [rown intEnc 3 1 w.heap.size (.slice (some ⟨w11.heap.size, 0, none⟩) b.accs.length b.accs.length) (lsA O C b.accs.length i), rbox (w.heap.size + 1) 46 #[.slice (some ⟨x31, o32, none⟩) O.length tok, .slice (some ⟨x33, o34, none⟩) C.length tck, .slice tva V.length tvk], rbox w.heap.size 38 #[.slice (some ⟨x29, o30, none⟩) b.accs.length ak, .slice ma b.mvs.length mk], rsl intEnc 1 l3 h3 (.slice tva V.length tvk) V, rsl intEnc 1 l2 h2 (.slice (some ⟨x33, o34, none⟩) C.length tck) C, rsl intEnc 1 l1 h1 (.slice (some ⟨x31, o32, none⟩) O.length tok) O, rsl mvEnc 4 lo hi (.slice ma b.mvs.length mk) b.mvs, rsl accEnc 6 lo hi (.slice (some ⟨x29, o30, none⟩) b.accs.length ak) b.accs] _ from (F51.drop 0 rfl)).name
                (try simp at hxs54)
                rw [hx53]
                clear hx53 F51
                go_wp2_with fail
                exact bodyPost_ret (v := .tuple #[.slice none 0 0, .int .i64 2]) (by simp [results, Tryd.results29, go_sem]) rfl (BalPost.no (balE_rngA HCK.out HLN.out (i := i) (by omega) (fun h_ => absurd h_.1 c39o)) (by decide) F55.gb)
              · skip
                have c39o := inB_yes c39
                have c39H := Lib.hid c39o
                have ge56 : World.cell? _ ⟨x29, o30 + i * 6, none⟩ = some (.string (ga b.accs i).name) := (((hF25.at 7 rfl : Sl accEnc 6 lo hi _ (.slice (some ⟨x29, o30, none⟩) b.accs.length ak) b.accs)).cells hz35.out 0 _ rfl)
                have gl57 := cell_lt ge56
                have ge58 : World.cell? _ ⟨x29, o30 + i * 6 + 1, none⟩ = some (.int .i64 (ga b.accs i).kind) := (((hF25.at 7 rfl : Sl accEnc 6 lo hi _ (.slice (some ⟨x29, o30, none⟩) b.accs.length ak) b.accs)).cells hz35.out 1 _ rfl)
                have ge59 : World.cell? _ ⟨x29, o30 + i * 6 + 2, none⟩ = some (.int .i64 (ga b.accs i).op.lo) := (((hF25.at 7 rfl : Sl accEnc 6 lo hi _ (.slice (some ⟨x29, o30, none⟩) b.accs.length ak) b.accs)).cells hz35.out 2 _ rfl)
                have ge60 : World.cell? _ ⟨x29, o30 + i * 6 + 3, none⟩ = some (.int .i64 (ga b.accs i).op.hi) := (((hF25.at 7 rfl : Sl accEnc 6 lo hi _ (.slice (some ⟨x29, o30, none⟩) b.accs.length ak) b.accs)).cells hz35.out 3 _ rfl)
                have ge61 : World.cell? _ ⟨x29, o30 + i * 6 + 4, none⟩ = some (.int .i64 (ga b.accs i).cl.lo) := (((hF25.at 7 rfl : Sl accEnc 6 lo hi _ (.slice (some ⟨x29, o30, none⟩) b.accs.length ak) b.accs)).cells hz35.out 4 _ rfl)
                have ge62 : World.cell? _ ⟨x29, o30 + i * 6 + 5, none⟩ = some (.int .i64 (ga b.accs i).cl.hi) := (((hF25.at 7 rfl : Sl accEnc 6 lo hi _ (.slice (some ⟨x29, o30, none⟩) b.accs.length ak) b.accs)).cells hz35.out 5 _ rfl)
                go_wp2_with fail
                clear ge56 gl57 ge58 ge59 ge60 ge61 ge62
                have F63 := hF25.new 41 #[.string (ga b.accs i).name, .int .i64 ((ga b.accs i).kind), .int .i64 ((ga b.accs i).op.lo), .int .i64 ((ga b.accs i).op.hi), .int .i64 ((ga b.accs i).cl.lo), .int .i64 ((ga b.accs i).cl.hi)] (n := w27.heap.size) (by simp)
                clear hF25
                have b64 := F63.bx6 0 rfl
                have b65 := F63.bx3 2 rfl
                have ge66 : World.cell? _ ⟨x31, o32 + i, none⟩ = some (.int .i64 (gi O i)) := (by have h_ := ((F63.at 6 rfl : Sl intEnc 1 l1 h1 _ (.slice (some ⟨x31, o32, none⟩) O.length tok) O)).cells hz36.out 0 _ rfl; simpa using h_)
                have ge67 : World.cell? _ ⟨x33, o34 + i, none⟩ = some (.int .i64 (gi C i)) := (by have h_ := ((F63.at 5 rfl : Sl intEnc 1 l2 h2 _ (.slice (some ⟨x33, o34, none⟩) C.length tck) C)).cells hz37.out 0 _ rfl; simpa using h_)
                go_quiet (((go_at_call 49; exact Calls.quiet_of_same ((in_c _ _ _ _).mono (fun _ _ h => ⟨h.1, h.2.symm⟩)))))
                clear b64 b65 ge66 ge67
                have F68 := F63.drewN nq
                clear F63
                obtain ⟨w69, hx70, F72, hxs71⟩ := (show Bun w [rown intEnc 3 1 w.heap.size (.slice (some ⟨w11.heap.size, 0, none⟩) b.accs.length b.accs.length) (lsA O C b.accs.length i), rbox (w.heap.size + 1) 46 #[.slice (some ⟨x31, o32, none⟩) O.length tok, .slice (some ⟨x33, o34, none⟩) C.length tck, .slice tva V.length tvk], rbox w.heap.size 38 #[.slice (some ⟨x29, o30, none⟩) b.accs.length ak, .slice ma b.mvs.length mk], rsl intEnc 1 l3 h3 (.slice tva V.length tvk) V, rsl intEnc 1 l2 h2 (.slice (some ⟨x33, o34, none⟩) C.length tck) C, rsl intEnc 1 l1 h1 (.slice (some ⟨x31, o32, none⟩) O.length tok) O, rsl mvEnc 4 lo hi (.slice ma b.mvs.length mk) b.mvs, rsl accEnc 6 lo hi (.slice (some ⟨x29, o30, none⟩) b.accs.length ak) b.accs] _ from (F68.drop 0 rfl)).name
                (try simp at hxs71)
                rw [hx70]
                clear hx70 F68
                cases c73 : inB (gi C i) ((ga b.accs i).cl.lo) ((ga b.accs i).cl.hi)
                · skip
                  have c73o := inB_not c73
                  have c73H := Lib.hid c73o
                  go_wp2_with fail
                  exact bodyPost_ret (v := .tuple #[.slice none 0 0, .int .i64 2]) (by simp [results, Tryd.results29, go_sem]) rfl (BalPost.no (balE_rngA HCK.out HLN.out (i := i) (by omega) (fun h_ => absurd h_.2 c73o)) (by decide) F72.gb)
                · skip
                  have c73o := inB_yes c73
                  have c73H := Lib.hid c73o
                  go_wp2_with fail
                  have hw74 : IntKind.i64.wrap (gi O i - (gi C i)) = gi O i - (gi C i) := IntWalk.i64_in _ (by omega)
                  have F75 := F72.drew
                  clear F72
                  refine ru_begin (fun W => W.cell? ⟨(w.heap.size + 1), 0, none⟩ = some (.slice (some ⟨x31, o32, none⟩) O.length tok) ∧ W.cell? ⟨x31, o32 + i, none⟩ = some (.int .i64 (gi O i)) ∧ W.cell? ⟨(w.heap.size + 1), 1, none⟩ = some (.slice (some ⟨x33, o34, none⟩) C.length tck) ∧ W.cell? ⟨x33, o34 + i, none⟩ = some (.int .i64 (gi C i))) 14 (by kernel_rfl) ?_ ?_
                  · exact ⟨F75.cl 1 0 rfl rfl, (by have h_ := ((F75.at 5 rfl : Sl intEnc 1 l1 h1 _ (.slice (some ⟨x31, o32, none⟩) O.length tok) O)).cells hz36.out 0 _ rfl; simpa using h_), F75.cl 1 1 rfl rfl, (by have h_ := ((F75.at 4 rfl : Sl intEnc 1 l2 h2 _ (.slice (some ⟨x33, o34, none⟩) C.length tck) C)).cells hz37.out 0 _ rfl; simpa using h_)⟩
                  obtain ⟨wd77, hwd_⟩ : ∃ x : World, w69.drew = x := ⟨_, rfl⟩
                  rw [hwd_] at F75 ⊢
                  have wd77s : w69.heap.size ≤ wd77.heap.size := by rw [← hwd_]; exact Nat.le_refl _
                  clear hwd_
                  have hS76 := (And.intro (F75.cl 1 0 rfl rfl) (And.intro ((by have h_ := ((F75.at 5 rfl : Sl intEnc 1 l1 h1 _ (.slice (some ⟨x31, o32, none⟩) O.length tok) O)).cells hz36.out 0 _ rfl; simpa using h_)) (And.intro (F75.cl 1 1 rfl rfl) ((by have h_ := ((F75.at 4 rfl : Sl intEnc 1 l2 h2 _ (.slice (some ⟨x33, o34, none⟩) C.length tck) C)).cells hz37.out 0 _ rfl; simpa using h_)))))
                  refine ru_t 0 [] ?_
                  refine ru_t 1 [] ?_
                  refine ru_t 2 [] ?_
                  refine ru_t 3 [] ?_
                  refine ru_t 4 [] ?_
                  refine ru_t 5 [] ?_
                  refine ru_t 6 [] ?_
                  refine ru_t 7 [] ?_
                  refine ru_t 8 [] ?_
                  refine ru_t 9 [] ?_
                  refine ru_t 10 [] ?_
                  refine ru_t 11 [] ?_
                  refine ru_t 12 [] ?_
                  refine ru_t 13 [] ?_
                  (try simp only [Act.put, List.setIfInBounds_toArray, List.set_cons_zero, List.set_cons_succ])
                  clear hS76
                  refine ru_one 14 rfl (by kernel_rfl) (fun K hK => ?_)
                  have kc_ : World.cell? _ ⟨w11.heap.size, i, none⟩ = some (.int .i64 (gi (lsA O C b.accs.length i) i)) := (by simpa using (Own.sl (F75.at 0 rfl : Own intEnc 3 1 w.heap.size _ (.slice (some ⟨w11.heap.size, 0, none⟩) b.accs.length b.accs.length) (lsA O C b.accs.length i)) (fun _ => rfl)).cells hz38.out 0 _ rfl)
                  have kf_ : World.frozen? _ ⟨w11.heap.size, i, none⟩ = false := Own.live (F75.at 0 rfl : Own intEnc 3 1 w.heap.size _ (.slice (some ⟨w11.heap.size, 0, none⟩) b.accs.length b.accs.length) (lsA O C b.accs.length i)) _
                  go_simp
                  clear kc_ kf_
                  have F78 := Bun.setOwn (sz := 1) (fun _ => rfl) F75 hz38.out (y := (gi O i - (gi C i))) (j := 0) (u := (.int .i64 (gi O i - (gi C i)))) (k := i) (by decide) rfl (by omega)
                  clear F75
                  rw [lsA_set (by omega)] at F78
                  refine ru_back_late hK (by kernel_rfl) ?_
                  clear hK K
                  (try simp only [Act.put, List.setIfInBounds_toArray, List.set_cons_zero, List.set_cons_succ])
                  refine ru_done (by kernel_rfl) ?_
                  (try clear hw74)
                  obtain ⟨w79, hx80, F82, hxs81⟩ := (show Bun w [rown intEnc 3 1 w.heap.size (.slice (some ⟨w11.heap.size, 0, none⟩) b.accs.length b.accs.length) (lsA O C b.accs.length (i + 1)), rbox (w.heap.size + 1) 46 #[.slice (some ⟨x31, o32, none⟩) O.length tok, .slice (some ⟨x33, o34, none⟩) C.length tck, .slice tva V.length tvk], rbox w.heap.size 38 #[.slice (some ⟨x29, o30, none⟩) b.accs.length ak, .slice ma b.mvs.length mk], rsl intEnc 1 l3 h3 (.slice tva V.length tvk) V, rsl intEnc 1 l2 h2 (.slice (some ⟨x33, o34, none⟩) C.length tck) C, rsl intEnc 1 l1 h1 (.slice (some ⟨x31, o32, none⟩) O.length tok) O, rsl mvEnc 4 lo hi (.slice ma b.mvs.length mk) b.mvs, rsl accEnc 6 lo hi (.slice (some ⟨x29, o30, none⟩) b.accs.length ak) b.accs] _ from F78).name
                  (try simp at hxs81)
                  rw [hx80]
                  clear hx80 F78
                  go_wp2_with fail
                  (first | refine ⟨by kernel_rfl, ?_, ?_⟩ | refine ⟨rfl, ?_, ?_⟩ | refine ⟨?_, ?_⟩)
                  · rw [HI24.out]; exact ⟨i + 1, (by first | kernel_rfl | rfl), (by first | kernel_rfl | rfl), (by first | kernel_rfl | rfl), (by first | kernel_rfl | rfl), (by first | kernel_rfl | rfl), (by show Value.int .i64 ((i : Int) + 1) = _; simp), (by omega), (fun q hq => by rcases Nat.lt_or_ge q i with h_ | h_; exact HTA.out q h_; obtain rfl : q = i := (by omega); exact ⟨c39o, c73o⟩), (by first | rfl | simp), (by first | omega | (simp; done) | (simp; omega)), F82⟩
                  · simp [slot, intOf]; omega
            · skip
              have c28H := Lib.hid c28
              have c28a : decide ((i : Int) < (b.accs.length : Int)) = false := dec_f c28
              have b83 := hF25.bx2 2 rfl
              go_wp2_with fail
              clear b83
              have hie : i = b.accs.length := by omega
              subst hie
              have HO0 : Hid (lsA O C b.accs.length b.accs.length = lsM b O C V 0) := Lib.hid rfl
              rw [HO0.out] at hF25
              (skip)
              obtain ⟨HI84_, HI840⟩ : ∃ I : (Nat → Value) → List Deferred → World → Prop, I = (fun t ds wr => ∃ (k : Nat), t 2 = .pointer (some ⟨w.heap.size, 0, none⟩) ∧ t 3 = .pointer (some ⟨w.heap.size + 1, 0, none⟩) ∧ t 7 = .slice (some ⟨w11.heap.size, 0, none⟩) b.accs.length b.accs.length ∧ t 100 = .slice ma b.mvs.length mk ∧ t 101 = .int .i64 (b.mvs.length : Int) ∧ t 102 = .int .i64 (k : Int) ∧ k ≤ b.mvs.length ∧ (∀ q, q < k → truM b V q) ∧ ds = [] ∧ w27.heap.size ≤ wr.heap.size ∧ Bun w [rown intEnc 3 1 w.heap.size (.slice (some ⟨w11.heap.size, 0, none⟩) b.accs.length b.accs.length) (lsM b O C V k), rbox (w.heap.size + 1) 46 #[.slice toa O.length tok, .slice tca C.length tck, .slice tva V.length tvk], rbox w.heap.size 38 #[.slice aa b.accs.length ak, .slice ma b.mvs.length mk], rsl intEnc 1 l3 h3 (.slice tva V.length tvk) V, rsl intEnc 1 l2 h2 (.slice tca C.length tck) C, rsl intEnc 1 l1 h1 (.slice toa O.length tok) O, rsl mvEnc 4 lo hi (.slice ma b.mvs.length mk) b.mvs, rsl accEnc 6 lo hi (.slice aa b.accs.length ak) b.accs] wr) := ⟨_, rfl⟩
              have HI84 := Lib.hid HI840
              clear HI840
              refine wp_loopS 169 rfl HI84_ (fun t wr => b.mvs.length - (intOf (t 102)).toNat) ?atStart2 ?round2
              case round2 =>
                intro t ds wr hHid
                rw [HI84.out] at hHid
                obtain ⟨k, e2, e3, e7, e100, e101, e102, hrel⟩ := hHid
                have e : ((List.range 169).map t).toArray = #[t 0, t 1, t 2, t 3, t 4, t 5, t 6, t 7, t 8, t 9, t 10, t 11, t 12, t 13, t 14, t 15, t 16, t 17, t 18, t 19, t 20, t 21, t 22, t 23, t 24, t 25, t 26, t 27, t 28, t 29, t 30, t 31, t 32, t 33, t 34, t 35, t 36, t 37, t 38, t 39, t 40, t 41, t 42, t 43, t 44, t 45, t 46, t 47, t 48, t 49, t 50, t 51, t 52, t 53, t 54, t 55, t 56, t 57, t 58, t 59, t 60, t 61, t 62, t 63, t 64, t 65, t 66, t 67, t 68, t 69, t 70, t 71, t 72, t 73, t 74, t 75, t 76, t 77, t 78, t 79, t 80, t 81, t 82, t 83, t 84, t 85, t 86, t 87, t 88, t 89, t 90, t 91, t 92, t 93, t 94, t 95, t 96, t 97, t 98, t 99, t 100, t 101, t 102, t 103, t 104, t 105, t 106, t 107, t 108, t 109, t 110, t 111, t 112, t 113, t 114, t 115, t 116, t 117, t 118, t 119, t 120, t 121, t 122, t 123, t 124, t 125, t 126, t 127, t 128, t 129, t 130, t 131, t 132, t 133, t 134, t 135, t 136, t 137, t 138, t 139, t 140, t 141, t 142, t 143, t 144, t 145, t 146, t 147, t 148, t 149, t 150, t 151, t 152, t 153, t 154, t 155, t 156, t 157, t 158, t 159, t 160, t 161, t 162, t 163, t 164, t 165, t 166, t 167, t 168] := rfl
                (try dsimp only at e)
                rw [e2, e3, e7, e100, e101, e102] at e
                rw [e]
                simp only [e102]
                clear e e2 e3 e7 e100 e101 e102
                obtain ⟨hk0, hma, rfl, hs86, hF85⟩ := hrel
                clear hF25
                obtain ⟨w87, rfl⟩ : ∃ x_ : World, x_ = wr := ⟨_, rfl⟩
                have HMA := Lib.hid hma
                clear hma
                by_cases c88 : (k : Int) < (b.mvs.length : Int)
                · skip
                  have c88H := Lib.hid c88
                  obtain ⟨x89, o90, e_⟩ := Sl.addr (hF85.at 6 rfl : Sl mvEnc 4 lo hi _ (.slice ma b.mvs.length mk) b.mvs) (by omega)
                  subst e_
                  obtain ⟨x91, o92, e_⟩ := Sl.addr (hF85.at 3 rfl : Sl intEnc 1 l3 h3 _ (.slice tva V.length tvk) V) (by omega)
                  subst e_
                  have hz93 : Hid (b.mvs[k]? = some (gm b.mvs k)) := Lib.hid (gm_at (by omega))
                  have hz94 : Hid (V[k]? = some (gi V k)) := Lib.hid (gi_at (by omega))
                  have hkv : k < V.length := by omega
                  have hmok := HOK.out.mv k (by omega)
                  have hmf := hmok.fr
                  have hmt := hmok.to
                  have hmne := hmok.ne
                  have hli := hmok.li
                  clear hmok
                  have ge95 : World.cell? _ ⟨x89, o90 + k * 4, none⟩ = some (.int .i64 (gm b.mvs k).fr) := (((hF85.at 6 rfl : Sl mvEnc 4 lo hi _ (.slice (some ⟨x89, o90, none⟩) b.mvs.length mk) b.mvs)).cells hz93.out 0 _ rfl)
                  have gl96 := cell_lt ge95
                  have ge97 : World.cell? _ ⟨x89, o90 + k * 4 + 1, none⟩ = some (.int .i64 (gm b.mvs k).to) := (((hF85.at 6 rfl : Sl mvEnc 4 lo hi _ (.slice (some ⟨x89, o90, none⟩) b.mvs.length mk) b.mvs)).cells hz93.out 1 _ rfl)
                  have ge98 : World.cell? _ ⟨x89, o90 + k * 4 + 2, none⟩ = some (.int .i64 (gm b.mvs k).li.lo) := (((hF85.at 6 rfl : Sl mvEnc 4 lo hi _ (.slice (some ⟨x89, o90, none⟩) b.mvs.length mk) b.mvs)).cells hz93.out 2 _ rfl)
                  have ge99 : World.cell? _ ⟨x89, o90 + k * 4 + 3, none⟩ = some (.int .i64 (gm b.mvs k).li.hi) := (((hF85.at 6 rfl : Sl mvEnc 4 lo hi _ (.slice (some ⟨x89, o90, none⟩) b.mvs.length mk) b.mvs)).cells hz93.out 3 _ rfl)
                  go_wp2_with fail
                  clear ge95 gl96 ge97 ge98 ge99
                  have F100 := hF85.new 43 #[.int .i64 ((gm b.mvs k).fr), .int .i64 ((gm b.mvs k).to), .int .i64 ((gm b.mvs k).li.lo), .int .i64 ((gm b.mvs k).li.hi)] (n := w87.heap.size) (by simp)
                  clear hF85
                  have b101 := F100.bx4 0 rfl
                  have b102 := F100.bx3 2 rfl
                  have ge103 : World.cell? _ ⟨x91, o92 + k, none⟩ = some (.int .i64 (gi V k)) := (by have h_ := ((F100.at 4 rfl : Sl intEnc 1 l3 h3 _ (.slice (some ⟨x91, o92, none⟩) V.length tvk) V)).cells hz94.out 0 _ rfl; simpa using h_)
                  go_quiet (((go_at_call 49; exact Calls.quiet_of_same ((in_c _ _ _ _).mono (fun _ _ h => ⟨h.1, h.2.symm⟩)))))
                  clear b101 b102 ge103
                  have F104 := F100.drewN nq
                  clear F100
                  obtain ⟨w105, hx106, F108, hxs107⟩ := (show Bun w [rbox w87.heap.size 43 #[.int .i64 ((gm b.mvs k).fr), .int .i64 ((gm b.mvs k).to), .int .i64 ((gm b.mvs k).li.lo), .int .i64 ((gm b.mvs k).li.hi)], rown intEnc 3 1 w.heap.size (.slice (some ⟨w11.heap.size, 0, none⟩) b.accs.length b.accs.length) (lsM b O C V k), rbox (w.heap.size + 1) 46 #[.slice toa O.length tok, .slice tca C.length tck, .slice (some ⟨x91, o92, none⟩) V.length tvk], rbox w.heap.size 38 #[.slice aa b.accs.length ak, .slice (some ⟨x89, o90, none⟩) b.mvs.length mk], rsl intEnc 1 l3 h3 (.slice (some ⟨x91, o92, none⟩) V.length tvk) V, rsl intEnc 1 l2 h2 (.slice tca C.length tck) C, rsl intEnc 1 l1 h1 (.slice toa O.length tok) O, rsl mvEnc 4 lo hi (.slice (some ⟨x89, o90, none⟩) b.mvs.length mk) b.mvs, rsl accEnc 6 lo hi (.slice aa b.accs.length ak) b.accs] _ from F104).name
                  (try simp at hxs107)
                  rw [hx106]
                  clear hx106 F104
                  cases c109 : inB (gi V k) ((gm b.mvs k).li.lo) ((gm b.mvs k).li.hi)
                  · skip
                    have c109o := inB_not c109
                    have c109H := Lib.hid c109o
                    go_wp2_with fail
                    exact bodyPost_ret (v := .tuple #[.slice none 0 0, .int .i64 2]) (by simp [results, Tryd.results29, go_sem]) rfl (BalPost.no (balE_rngM HCK.out HLN.out (i := k) (by omega) (fun h_ => absurd h_ c109o)) (by decide) F108.gb)
                  · skip
                    have c109o := inB_yes c109
                    have c109H := Lib.hid c109o
                    have HMk : Hid (truM b V k) := Lib.hid c109o
                    have HM1 : Hid (∀ q, q < k + 1 → truM b V q) := Lib.hid fun q hq => by rcases Nat.lt_or_ge q k with h_ | h_; exact HMA.out q h_; obtain rfl : q = k := (by omega); exact HMk.out
                    have hvk : 0 ≤ gi V k ∧ gi V k ≤ 1000000000 := by have h_ := HM1.out k (by omega); unfold truM at h_; omega
                    have hb1 := lsM_bdk HOK.out HTA.out HM1.out (k := k) (by omega) (j := (gm b.mvs k).fr.toNat) (by omega)
                    have hb2 := mid_bdk HOK.out HTA.out HM1.out (k := k) (by omega) (j := (gm b.mvs k).to.toNat) (by omega)
                    have hz110 : Hid ((lsM b O C V k)[(gm b.mvs k).fr.toNat]? = some (gi (lsM b O C V k) (gm b.mvs k).fr.toNat)) := Lib.hid (gi_at (by rw [lsM_len]; omega))
                    go_wp2_with fail
                    have hw111 : IntKind.i64.wrap (gi (lsM b O C V k) ((gm b.mvs k).fr.toNat) - (gi V k)) = gi (lsM b O C V k) ((gm b.mvs k).fr.toNat) - (gi V k) := IntWalk.i64_in _ (by omega)
                    have F112 := F108.drew
                    clear F108
                    refine ru_begin (fun W => W.cell? ⟨w87.heap.size, 0, none⟩ = some (.int .i64 ((gm b.mvs k).fr)) ∧ W.cell? ⟨w11.heap.size, (gm b.mvs k).fr.toNat, none⟩ = some (.int .i64 (gi (lsM b O C V k) ((gm b.mvs k).fr.toNat))) ∧ W.cell? ⟨(w.heap.size + 1), 2, none⟩ = some (.slice (some ⟨x91, o92, none⟩) V.length tvk) ∧ W.cell? ⟨x91, o92 + k, none⟩ = some (.int .i64 (gi V k))) 12 (by kernel_rfl) ?_ ?_
                    · exact ⟨F112.cl 0 0 rfl rfl, (by simpa using (Own.sl (F112.at 1 rfl : Own intEnc 3 1 w.heap.size _ (.slice (some ⟨w11.heap.size, 0, none⟩) b.accs.length b.accs.length) (lsM b O C V k)) (fun _ => rfl)).cells hz110.out 0 _ rfl), F112.cl 2 2 rfl rfl, (by have h_ := ((F112.at 4 rfl : Sl intEnc 1 l3 h3 _ (.slice (some ⟨x91, o92, none⟩) V.length tvk) V)).cells hz94.out 0 _ rfl; simpa using h_)⟩
                    obtain ⟨wd114, hwd_⟩ : ∃ x : World, w105.drew = x := ⟨_, rfl⟩
                    rw [hwd_] at F112 ⊢
                    have wd114s : w105.heap.size ≤ wd114.heap.size := by rw [← hwd_]; exact Nat.le_refl _
                    clear hwd_
                    have hS113 := (And.intro (F112.cl 0 0 rfl rfl) (And.intro ((by simpa using (Own.sl (F112.at 1 rfl : Own intEnc 3 1 w.heap.size _ (.slice (some ⟨w11.heap.size, 0, none⟩) b.accs.length b.accs.length) (lsM b O C V k)) (fun _ => rfl)).cells hz110.out 0 _ rfl)) (And.intro (F112.cl 2 2 rfl rfl) ((by have h_ := ((F112.at 4 rfl : Sl intEnc 1 l3 h3 _ (.slice (some ⟨x91, o92, none⟩) V.length tvk) V)).cells hz94.out 0 _ rfl; simpa using h_)))))
                    refine ru_t 0 [] ?_
                    refine ru_t 1 [] ?_
                    refine ru_t 2 [] ?_
                    refine ru_t 3 [] ?_
                    refine ru_t 4 [] ?_
                    refine ru_t 5 [] ?_
                    refine ru_t 6 [] ?_
                    refine ru_t 7 [] ?_
                    refine ru_t 8 [] ?_
                    refine ru_t 9 [] ?_
                    refine ru_t 10 [] ?_
                    refine ru_t 11 [] ?_
                    (try simp only [Act.put, List.setIfInBounds_toArray, List.set_cons_zero, List.set_cons_succ])
                    clear hS113
                    refine ru_one 12 rfl (by kernel_rfl) (fun K hK => ?_)
                    have kc_ : World.cell? _ ⟨w11.heap.size, (gm b.mvs k).fr.toNat, none⟩ = some (.int .i64 (gi (lsM b O C V k) ((gm b.mvs k).fr.toNat))) := (by simpa using (Own.sl (F112.at 1 rfl : Own intEnc 3 1 w.heap.size _ (.slice (some ⟨w11.heap.size, 0, none⟩) b.accs.length b.accs.length) (lsM b O C V k)) (fun _ => rfl)).cells hz110.out 0 _ rfl)
                    have kf_ : World.frozen? _ ⟨w11.heap.size, (gm b.mvs k).fr.toNat, none⟩ = false := Own.live (F112.at 1 rfl : Own intEnc 3 1 w.heap.size _ (.slice (some ⟨w11.heap.size, 0, none⟩) b.accs.length b.accs.length) (lsM b O C V k)) _
                    go_simp
                    clear kc_ kf_
                    have F115 := Bun.setOwn (sz := 1) (fun _ => rfl) (F112.front 1 rfl rfl) hz110.out (y := (gi (lsM b O C V k) ((gm b.mvs k).fr.toNat) - (gi V k))) (j := 0) (u := (.int .i64 (gi (lsM b O C V k) ((gm b.mvs k).fr.toNat) - (gi V k)))) (k := ((gm b.mvs k).fr.toNat)) (by decide) rfl (by omega)
                    clear F112
                    have F116 : Bun w [rown intEnc 3 1 w.heap.size (.slice (some ⟨w11.heap.size, 0, none⟩) b.accs.length b.accs.length) (addAt (lsM b O C V k) (gm b.mvs k).fr.toNat (-(gi V k))), rbox w87.heap.size 43 #[.int .i64 ((gm b.mvs k).fr), .int .i64 ((gm b.mvs k).to), .int .i64 ((gm b.mvs k).li.lo), .int .i64 ((gm b.mvs k).li.hi)], rbox (w.heap.size + 1) 46 #[.slice toa O.length tok, .slice tca C.length tck, .slice (some ⟨x91, o92, none⟩) V.length tvk], rbox w.heap.size 38 #[.slice aa b.accs.length ak, .slice (some ⟨x89, o90, none⟩) b.mvs.length mk], rsl intEnc 1 l3 h3 (.slice (some ⟨x91, o92, none⟩) V.length tvk) V, rsl intEnc 1 l2 h2 (.slice tca C.length tck) C, rsl intEnc 1 l1 h1 (.slice toa O.length tok) O, rsl mvEnc 4 lo hi (.slice (some ⟨x89, o90, none⟩) b.mvs.length mk) b.mvs, rsl accEnc 6 lo hi (.slice aa b.accs.length ak) b.accs] _ := F115
                    clear F115
                    refine ru_back_late hK (by kernel_rfl) ?_
                    clear hK K
                    (try simp only [Act.put, List.setIfInBounds_toArray, List.set_cons_zero, List.set_cons_succ])
                    refine ru_done (by kernel_rfl) ?_
                    (try clear hw111)
                    obtain ⟨w117, hx118, F120, hxs119⟩ := F116.name
                    (try simp at hxs119)
                    rw [hx118]
                    clear hx118 F116
                    have hz121 : Hid ((addAt (lsM b O C V k) (gm b.mvs k).fr.toNat (-(gi V k)))[(gm b.mvs k).to.toNat]? = some (gi (addAt (lsM b O C V k) (gm b.mvs k).fr.toNat (-(gi V k))) (gm b.mvs k).to.toNat)) := Lib.hid (gi_at (by rw [addAt_len, lsM_len]; omega))
                    go_wp2_with fail
                    have hw122 : IntKind.i64.wrap (gi (addAt (lsM b O C V k) (gm b.mvs k).fr.toNat (-(gi V k))) ((gm b.mvs k).to.toNat) + (gi V k)) = gi (addAt (lsM b O C V k) (gm b.mvs k).fr.toNat (-(gi V k))) ((gm b.mvs k).to.toNat) + (gi V k) := IntWalk.i64_in _ (by omega)
                    have F123 := F120.drew
                    clear F120
                    refine ru_begin (fun W => W.cell? ⟨w87.heap.size, 1, none⟩ = some (.int .i64 ((gm b.mvs k).to)) ∧ W.cell? ⟨w11.heap.size, (gm b.mvs k).to.toNat, none⟩ = some (.int .i64 (gi (addAt (lsM b O C V k) (gm b.mvs k).fr.toNat (-(gi V k))) ((gm b.mvs k).to.toNat))) ∧ W.cell? ⟨(w.heap.size + 1), 2, none⟩ = some (.slice (some ⟨x91, o92, none⟩) V.length tvk) ∧ W.cell? ⟨x91, o92 + k, none⟩ = some (.int .i64 (gi V k))) 12 (by kernel_rfl) ?_ ?_
                    · exact ⟨F123.cl 1 1 rfl rfl, (by simpa using (Own.sl (F123.at 0 rfl : Own intEnc 3 1 w.heap.size _ (.slice (some ⟨w11.heap.size, 0, none⟩) b.accs.length b.accs.length) (addAt (lsM b O C V k) (gm b.mvs k).fr.toNat (-(gi V k)))) (fun _ => rfl)).cells hz121.out 0 _ rfl), F123.cl 2 2 rfl rfl, (by have h_ := ((F123.at 4 rfl : Sl intEnc 1 l3 h3 _ (.slice (some ⟨x91, o92, none⟩) V.length tvk) V)).cells hz94.out 0 _ rfl; simpa using h_)⟩
                    obtain ⟨wd125, hwd_⟩ : ∃ x : World, w117.drew = x := ⟨_, rfl⟩
                    rw [hwd_] at F123 ⊢
                    have wd125s : w117.heap.size ≤ wd125.heap.size := by rw [← hwd_]; exact Nat.le_refl _
                    clear hwd_
                    have hS124 := (And.intro (F123.cl 1 1 rfl rfl) (And.intro ((by simpa using (Own.sl (F123.at 0 rfl : Own intEnc 3 1 w.heap.size _ (.slice (some ⟨w11.heap.size, 0, none⟩) b.accs.length b.accs.length) (addAt (lsM b O C V k) (gm b.mvs k).fr.toNat (-(gi V k)))) (fun _ => rfl)).cells hz121.out 0 _ rfl)) (And.intro (F123.cl 2 2 rfl rfl) ((by have h_ := ((F123.at 4 rfl : Sl intEnc 1 l3 h3 _ (.slice (some ⟨x91, o92, none⟩) V.length tvk) V)).cells hz94.out 0 _ rfl; simpa using h_)))))
                    refine ru_t 0 [] ?_
                    refine ru_t 1 [] ?_
                    refine ru_t 2 [] ?_
                    refine ru_t 3 [] ?_
                    refine ru_t 4 [] ?_
                    refine ru_t 5 [] ?_
                    refine ru_t 6 [] ?_
                    refine ru_t 7 [] ?_
                    refine ru_t 8 [] ?_
                    refine ru_t 9 [] ?_
                    refine ru_t 10 [] ?_
                    refine ru_t 11 [] ?_
                    (try simp only [Act.put, List.setIfInBounds_toArray, List.set_cons_zero, List.set_cons_succ])
                    clear hS124
                    refine ru_one 12 rfl (by kernel_rfl) (fun K hK => ?_)
                    have kc_ : World.cell? _ ⟨w11.heap.size, (gm b.mvs k).to.toNat, none⟩ = some (.int .i64 (gi (addAt (lsM b O C V k) (gm b.mvs k).fr.toNat (-(gi V k))) ((gm b.mvs k).to.toNat))) := (by simpa using (Own.sl (F123.at 0 rfl : Own intEnc 3 1 w.heap.size _ (.slice (some ⟨w11.heap.size, 0, none⟩) b.accs.length b.accs.length) (addAt (lsM b O C V k) (gm b.mvs k).fr.toNat (-(gi V k)))) (fun _ => rfl)).cells hz121.out 0 _ rfl)
                    have kf_ : World.frozen? _ ⟨w11.heap.size, (gm b.mvs k).to.toNat, none⟩ = false := Own.live (F123.at 0 rfl : Own intEnc 3 1 w.heap.size _ (.slice (some ⟨w11.heap.size, 0, none⟩) b.accs.length b.accs.length) (addAt (lsM b O C V k) (gm b.mvs k).fr.toNat (-(gi V k)))) _
                    go_simp
                    clear kc_ kf_
                    have F126 := Bun.setOwn (sz := 1) (fun _ => rfl) F123 hz121.out (y := (gi (addAt (lsM b O C V k) (gm b.mvs k).fr.toNat (-(gi V k))) ((gm b.mvs k).to.toNat) + (gi V k))) (j := 0) (u := (.int .i64 (gi (addAt (lsM b O C V k) (gm b.mvs k).fr.toNat (-(gi V k))) ((gm b.mvs k).to.toNat) + (gi V k)))) (k := ((gm b.mvs k).to.toNat)) (by decide) rfl (by omega)
                    clear F123
                    have F127 : Bun w [rown intEnc 3 1 w.heap.size (.slice (some ⟨w11.heap.size, 0, none⟩) b.accs.length b.accs.length) (lsM b O C V (k + 1)), rbox w87.heap.size 43 #[.int .i64 ((gm b.mvs k).fr), .int .i64 ((gm b.mvs k).to), .int .i64 ((gm b.mvs k).li.lo), .int .i64 ((gm b.mvs k).li.hi)], rbox (w.heap.size + 1) 46 #[.slice toa O.length tok, .slice tca C.length tck, .slice (some ⟨x91, o92, none⟩) V.length tvk], rbox w.heap.size 38 #[.slice aa b.accs.length ak, .slice (some ⟨x89, o90, none⟩) b.mvs.length mk], rsl intEnc 1 l3 h3 (.slice (some ⟨x91, o92, none⟩) V.length tvk) V, rsl intEnc 1 l2 h2 (.slice tca C.length tck) C, rsl intEnc 1 l1 h1 (.slice toa O.length tok) O, rsl mvEnc 4 lo hi (.slice (some ⟨x89, o90, none⟩) b.mvs.length mk) b.mvs, rsl accEnc 6 lo hi (.slice aa b.accs.length ak) b.accs] _ := F126
                    clear F126
                    refine ru_back_late hK (by kernel_rfl) ?_
                    clear hK K
                    (try simp only [Act.put, List.setIfInBounds_toArray, List.set_cons_zero, List.set_cons_succ])
                    refine ru_done (by kernel_rfl) ?_
                    (try clear hw122)
                    obtain ⟨w128, hx129, F131, hxs130⟩ := (show Bun w [rown intEnc 3 1 w.heap.size (.slice (some ⟨w11.heap.size, 0, none⟩) b.accs.length b.accs.length) (lsM b O C V (k + 1)), rbox (w.heap.size + 1) 46 #[.slice toa O.length tok, .slice tca C.length tck, .slice (some ⟨x91, o92, none⟩) V.length tvk], rbox w.heap.size 38 #[.slice aa b.accs.length ak, .slice (some ⟨x89, o90, none⟩) b.mvs.length mk], rsl intEnc 1 l3 h3 (.slice (some ⟨x91, o92, none⟩) V.length tvk) V, rsl intEnc 1 l2 h2 (.slice tca C.length tck) C, rsl intEnc 1 l1 h1 (.slice toa O.length tok) O, rsl mvEnc 4 lo hi (.slice (some ⟨x89, o90, none⟩) b.mvs.length mk) b.mvs, rsl accEnc 6 lo hi (.slice aa b.accs.length ak) b.accs] _ from (F127.drop 1 rfl)).name
                    (try simp at hxs130)
                    rw [hx129]
                    clear hx129 F127
                    go_wp2_with fail
                    (first | refine ⟨by kernel_rfl, ?_, ?_⟩ | refine ⟨rfl, ?_, ?_⟩ | refine ⟨?_, ?_⟩)
                    · rw [HI84.out]; exact ⟨k + 1, (by first | kernel_rfl | rfl), (by first | kernel_rfl | rfl), (by first | kernel_rfl | rfl), (by first | kernel_rfl | rfl), (by first | kernel_rfl | rfl), (by show Value.int .i64 ((k : Int) + 1) = _; simp), (by omega), HM1.out, (by first | rfl | simp), (by first | omega | (simp; done) | (simp; omega)), F131⟩
                    · simp [slot, intOf]; omega
                · skip
                  have c88H := Lib.hid c88
                  have c88a : decide ((k : Int) < (b.mvs.length : Int)) = false := dec_f c88
                  go_wp2_with fail
                  have hke : k = b.mvs.length := by omega
                  subst hke
                  (skip)
                  obtain ⟨HI132_, HI1320⟩ : ∃ I : (Nat → Value) → List Deferred → World → Prop, I = (fun t ds wr => ∃ (j : Nat), t 2 = .pointer (some ⟨w.heap.size, 0, none⟩) ∧ t 7 = .slice (some ⟨w11.heap.size, 0, none⟩) b.accs.length b.accs.length ∧ t 145 = .slice (some ⟨w11.heap.size, 0, none⟩) b.accs.length b.accs.length ∧ t 146 = .int .i64 (b.accs.length : Int) ∧ t 147 = .int .i64 (j : Int) ∧ j ≤ b.accs.length ∧ (∀ q, q < j → ¬ badA b (lsM b O C V b.mvs.length) q) ∧ ds = [] ∧ w87.heap.size ≤ wr.heap.size ∧ Bun w [rown intEnc 3 1 w.heap.size (.slice (some ⟨w11.heap.size, 0, none⟩) b.accs.length b.accs.length) (lsM b O C V b.mvs.length), rbox w.heap.size 38 #[.slice aa b.accs.length ak, .slice ma b.mvs.length mk], rsl intEnc 1 l3 h3 (.slice tva V.length tvk) V, rsl intEnc 1 l2 h2 (.slice tca C.length tck) C, rsl intEnc 1 l1 h1 (.slice toa O.length tok) O, rsl mvEnc 4 lo hi (.slice ma b.mvs.length mk) b.mvs, rsl accEnc 6 lo hi (.slice aa b.accs.length ak) b.accs] wr) := ⟨_, rfl⟩
                  have HI132 := Lib.hid HI1320
                  clear HI1320
                  refine wp_loopS 169 rfl HI132_ (fun t wr => b.accs.length - (intOf (t 147)).toNat) ?atStart3 ?round3
                  case round3 =>
                    intro t ds wr hHid
                    rw [HI132.out] at hHid
                    obtain ⟨j, e2, e7, e145, e146, e147, hrel⟩ := hHid
                    have e : ((List.range 169).map t).toArray = #[t 0, t 1, t 2, t 3, t 4, t 5, t 6, t 7, t 8, t 9, t 10, t 11, t 12, t 13, t 14, t 15, t 16, t 17, t 18, t 19, t 20, t 21, t 22, t 23, t 24, t 25, t 26, t 27, t 28, t 29, t 30, t 31, t 32, t 33, t 34, t 35, t 36, t 37, t 38, t 39, t 40, t 41, t 42, t 43, t 44, t 45, t 46, t 47, t 48, t 49, t 50, t 51, t 52, t 53, t 54, t 55, t 56, t 57, t 58, t 59, t 60, t 61, t 62, t 63, t 64, t 65, t 66, t 67, t 68, t 69, t 70, t 71, t 72, t 73, t 74, t 75, t 76, t 77, t 78, t 79, t 80, t 81, t 82, t 83, t 84, t 85, t 86, t 87, t 88, t 89, t 90, t 91, t 92, t 93, t 94, t 95, t 96, t 97, t 98, t 99, t 100, t 101, t 102, t 103, t 104, t 105, t 106, t 107, t 108, t 109, t 110, t 111, t 112, t 113, t 114, t 115, t 116, t 117, t 118, t 119, t 120, t 121, t 122, t 123, t 124, t 125, t 126, t 127, t 128, t 129, t 130, t 131, t 132, t 133, t 134, t 135, t 136, t 137, t 138, t 139, t 140, t 141, t 142, t 143, t 144, t 145, t 146, t 147, t 148, t 149, t 150, t 151, t 152, t 153, t 154, t 155, t 156, t 157, t 158, t 159, t 160, t 161, t 162, t 163, t 164, t 165, t 166, t 167, t 168] := rfl
                    (try dsimp only at e)
                    rw [e2, e7, e145, e146, e147] at e
                    rw [e]
                    simp only [e147]
                    clear e e2 e7 e145 e146 e147
                    obtain ⟨hj0, hba, rfl, hs134, hF133⟩ := hrel
                    clear hF85
                    obtain ⟨w135, rfl⟩ : ∃ x_ : World, x_ = wr := ⟨_, rfl⟩
                    have HBA := Lib.hid hba
                    clear hba
                    by_cases c136 : (j : Int) < (b.accs.length : Int)
                    · skip
                      have c136H := Lib.hid c136
                      have hz137 : Hid ((lsM b O C V b.mvs.length)[j]? = some (gi (lsM b O C V b.mvs.length) j)) := Lib.hid (gi_at (by rw [lsM_len]; omega))
                      obtain ⟨x138, o139, e_⟩ := Sl.addr (hF133.at 6 rfl : Sl accEnc 6 lo hi _ (.slice aa b.accs.length ak) b.accs) (by omega)
                      subst e_
                      have hz140 : Hid (b.accs[j]? = some (ga b.accs j)) := Lib.hid (ga_at (by omega))
                      by_cases c141 : gi (lsM b O C V b.mvs.length) j < 0
                      · skip
                        have c141H := Lib.hid c141
                        have ge142 : World.cell? _ ⟨w11.heap.size, j, none⟩ = some (.int .i64 (gi (lsM b O C V b.mvs.length) j)) := (by simpa using (Own.sl (hF133.at 0 rfl : Own intEnc 3 1 w.heap.size _ (.slice (some ⟨w11.heap.size, 0, none⟩) b.accs.length b.accs.length) (lsM b O C V b.mvs.length)) (fun _ => rfl)).cells hz137.out 0 _ rfl)
                        have gl143 := cell_lt ge142
                        go_wp2_with fail
                        clear ge142 gl143
                        exact bodyPost_ret (v := .tuple #[.slice none 0 0, .int .i64 12]) (by simp [results, Tryd.results29, go_sem]) rfl (BalPost.no (balE_bad HCK.out HLN.out HTA.out HMA.out (i := j) (by omega) (by unfold badA; omega)) (by decide) hF133.gb)
                      · skip
                        have c141H := Lib.hid c141
                        have c141a : decide (gi (lsM b O C V b.mvs.length) j < 0) = false := dec_f c141
                        by_cases c144 : 0 < gi (lsM b O C V b.mvs.length) j
                        · skip
                          have c144H := Lib.hid c144
                          by_cases c145 : (ga b.accs j).kind = 2
                          · skip
                            have c145a : (((ga b.accs j).kind) == 2) = true := beq_t c145
                            have c145b : (((ga b.accs j).kind) != 2) = false := bne_f c145
                            have c145H := Lib.hid c145
                            clear c145
                            have b146 := hF133.bx2 1 rfl
                            have ge147 : World.cell? _ ⟨w11.heap.size, j, none⟩ = some (.int .i64 (gi (lsM b O C V b.mvs.length) j)) := (by simpa using (Own.sl (hF133.at 0 rfl : Own intEnc 3 1 w.heap.size _ (.slice (some ⟨w11.heap.size, 0, none⟩) b.accs.length b.accs.length) (lsM b O C V b.mvs.length)) (fun _ => rfl)).cells hz137.out 0 _ rfl)
                            have gl148 := cell_lt ge147
                            have ge149 : World.cell? _ ⟨x138, o139 + j * 6 + 1, none⟩ = some (.int .i64 (ga b.accs j).kind) := (((hF133.at 6 rfl : Sl accEnc 6 lo hi _ (.slice (some ⟨x138, o139, none⟩) b.accs.length ak) b.accs)).cells hz140.out 1 _ rfl)
                            go_wp2_with fail
                            clear b146 ge147 gl148 ge149
                            exact bodyPost_ret (v := .tuple #[.slice none 0 0, .int .i64 12]) (by simp [results, Tryd.results29, go_sem]) rfl (BalPost.no (balE_bad HCK.out HLN.out HTA.out HMA.out (i := j) (by omega) (by unfold badA; have := c145H.out; omega)) (by decide) hF133.gb)
                          · skip
                            have c145a : (((ga b.accs j).kind) == 2) = false := beq_f c145
                            have c145b : (((ga b.accs j).kind) != 2) = true := bne_t c145
                            have c145H := Lib.hid c145
                            clear c145
                            have b150 := hF133.bx2 1 rfl
                            have ge151 : World.cell? _ ⟨w11.heap.size, j, none⟩ = some (.int .i64 (gi (lsM b O C V b.mvs.length) j)) := (by simpa using (Own.sl (hF133.at 0 rfl : Own intEnc 3 1 w.heap.size _ (.slice (some ⟨w11.heap.size, 0, none⟩) b.accs.length b.accs.length) (lsM b O C V b.mvs.length)) (fun _ => rfl)).cells hz137.out 0 _ rfl)
                            have gl152 := cell_lt ge151
                            have ge153 : World.cell? _ ⟨x138, o139 + j * 6 + 1, none⟩ = some (.int .i64 (ga b.accs j).kind) := (((hF133.at 6 rfl : Sl accEnc 6 lo hi _ (.slice (some ⟨x138, o139, none⟩) b.accs.length ak) b.accs)).cells hz140.out 1 _ rfl)
                            go_wp2_with fail
                            clear b150 ge151 gl152 ge153
                            (first | refine ⟨by kernel_rfl, ?_, ?_⟩ | refine ⟨rfl, ?_, ?_⟩ | refine ⟨?_, ?_⟩)
                            · rw [HI132.out]; exact ⟨j + 1, (by first | kernel_rfl | rfl), (by first | kernel_rfl | rfl), (by first | kernel_rfl | rfl), (by first | kernel_rfl | rfl), (by show Value.int .i64 ((j : Int) + 1) = _; simp), (by omega), (fun q hq => by rcases Nat.lt_or_ge q j with h_ | h_; exact HBA.out q h_; obtain rfl : q = j := (by omega); exact fun h_ => by unfold badA at h_; have := c145H.out; omega), (by first | rfl | simp), (by first | omega | (simp; done) | (simp; omega)), hF133⟩
                            · simp [slot, intOf]; omega
                        · skip
                          have c144H := Lib.hid c144
                          have c144a : decide (0 < gi (lsM b O C V b.mvs.length) j) = false := dec_f c144
                          have ge154 : World.cell? _ ⟨w11.heap.size, j, none⟩ = some (.int .i64 (gi (lsM b O C V b.mvs.length) j)) := (by simpa using (Own.sl (hF133.at 0 rfl : Own intEnc 3 1 w.heap.size _ (.slice (some ⟨w11.heap.size, 0, none⟩) b.accs.length b.accs.length) (lsM b O C V b.mvs.length)) (fun _ => rfl)).cells hz137.out 0 _ rfl)
                          have gl155 := cell_lt ge154
                          go_wp2_with fail
                          clear ge154 gl155
                          (first | refine ⟨by kernel_rfl, ?_, ?_⟩ | refine ⟨rfl, ?_, ?_⟩ | refine ⟨?_, ?_⟩)
                          · rw [HI132.out]; exact ⟨j + 1, (by first | kernel_rfl | rfl), (by first | kernel_rfl | rfl), (by first | kernel_rfl | rfl), (by first | kernel_rfl | rfl), (by show Value.int .i64 ((j : Int) + 1) = _; simp), (by omega), (fun q hq => by rcases Nat.lt_or_ge q j with h_ | h_; exact HBA.out q h_; obtain rfl : q = j := (by omega); exact fun h_ => by unfold badA at h_; omega), (by first | rfl | simp), (by first | omega | (simp; done) | (simp; omega)), hF133⟩
                          · simp [slot, intOf]; omega
                    · skip
                      have c136H := Lib.hid c136
                      have c136a : decide ((j : Int) < (b.accs.length : Int)) = false := dec_f c136
                      go_wp2_with fail
                      exact bodyPost_ret (v := .tuple #[.slice (some ⟨w11.heap.size, 0, none⟩) b.accs.length b.accs.length, .int .i64 0]) (by simp [results, Tryd.results29, go_sem]) rfl (BalPost.yes (balE_ok HCK.out HLN.out HTA.out HMA.out (fun q hq => HBA.out q (by omega))) (hF133.at 0 rfl : Own intEnc 3 1 w.heap.size _ (.slice (some ⟨w11.heap.size, 0, none⟩) b.accs.length b.accs.length) (lsM b O C V b.mvs.length)) hF133.gb)
                  case atStart3 =>
                    rw [HI132.out]
                    exact ⟨0, (by first | kernel_rfl | rfl), (by first | kernel_rfl | rfl), (by first | kernel_rfl | rfl), (by first | kernel_rfl | rfl), rfl, Nat.zero_le _, (fun q hq => by omega), rfl, (by first | exact Nat.le_refl _ | omega | (simp; done) | (simp; omega)), (hF85.drop 1 rfl)⟩
              case atStart2 =>
                rw [HI84.out]
                exact ⟨0, (by first | kernel_rfl | rfl), (by first | kernel_rfl | rfl), (by first | kernel_rfl | rfl), (by first | kernel_rfl | rfl), (by first | kernel_rfl | rfl), rfl, Nat.zero_le _, (fun q hq => by omega), rfl, (by first | exact Nat.le_refl _ | omega | (simp; done) | (simp; omega)), hF25⟩
          case atStart1 =>
            rw [HI24.out]
            exact ⟨0, (by first | kernel_rfl | rfl), (by first | kernel_rfl | rfl), (by first | kernel_rfl | rfl), (by first | kernel_rfl | rfl), (by first | kernel_rfl | rfl), rfl, Nat.zero_le _, (fun q hq => by omega), rfl, (by first | exact Nat.le_refl _ | omega | (simp; done) | (simp; omega)), F22⟩
        · skip
          have c16a : ((V.length : Int) == (b.mvs.length : Int)) = false := beq_f c16
          have c16b : ((V.length : Int) != (b.mvs.length : Int)) = true := bne_t c16
          have c16H := Lib.hid c16
          clear c16
          have b156 := F12.bx3 0 rfl
          have b157 := F12.bx2 1 rfl
          go_wp2_with fail
          clear b156 b157
          exact bodyPost_ret (v := .tuple #[.slice none 0 0, .int .i64 3]) (by simp [results, Tryd.results29, go_sem]) rfl (BalPost.no (balE_len c13H.out (fun h_ => absurd c16H.out (by omega))) (by decide) F12.gb)
      · skip
        have c15a : ((C.length : Int) == (b.accs.length : Int)) = false := beq_f c15
        have c15b : ((C.length : Int) != (b.accs.length : Int)) = true := bne_t c15
        have c15H := Lib.hid c15
        clear c15
        have b158 := F12.bx3 0 rfl
        have b159 := F12.bx2 1 rfl
        go_wp2_with fail
        clear b158 b159
        exact bodyPost_ret (v := .tuple #[.slice none 0 0, .int .i64 3]) (by simp [results, Tryd.results29, go_sem]) rfl (BalPost.no (balE_len c13H.out (fun h_ => absurd c15H.out (by omega))) (by decide) F12.gb)
    · skip
      have c14a : ((O.length : Int) == (b.accs.length : Int)) = false := beq_f c14
      have c14b : ((O.length : Int) != (b.accs.length : Int)) = true := bne_t c14
      have c14H := Lib.hid c14
      clear c14
      have b160 := F12.bx3 0 rfl
      have b161 := F12.bx2 1 rfl
      go_wp2_with fail
      clear b160 b161
      exact bodyPost_ret (v := .tuple #[.slice none 0 0, .int .i64 3]) (by simp [results, Tryd.results29, go_sem]) rfl (BalPost.no (balE_len c13H.out (fun h_ => absurd c14H.out (by omega))) (by decide) F12.gb)
  · skip
    have c13a : ((checkE b) == 0) = false := beq_f c13
    have c13b : ((checkE b) != 0) = true := bne_t c13
    have c13H := Lib.hid c13
    clear c13
    go_wp2_with fail
    exact bodyPost_ret (v := .tuple #[.slice none 0 0, .int .i64 (checkE b)]) (by simp [results, Tryd.results29, go_sem]) rfl (BalPost.no (balE_check c13H.out) c13H.out F12.gb)

end Go.Proofs.YtcndphefomigeaaDoor
