/- fuel: what accounts lose in a truth, the reference. -/
import Derived.Test.YtfifldbinnkdmaaBal
import Derived.Test.YtfifldbinnkdmaaRef9
import Derived.Test.YtfifldbinnkdmaaAppS
import Derived.Test.YtfifldbinnkdmaaK1
import Derived.Test.YtfifldbinnkdmaaHasB
set_option linter.unusedVariables false
set_option linter.unusedSimpArgs false
set_option linter.unnecessarySimpa false
namespace Go.Proofs.Ytfifldbinnkdmaa
open Go.RowKit Go.Shelf
set_option maxRecDepth 100000

set_option maxHeartbeats 16000000 in
theorem rbalance_c (lo hi : Nat) (va vm : Value) (b : Bok) (l1 h1 l2 h2 l3 h3 : Nat) (vo vc vv : Value) (O C V : List Int) (w : World) (hb : HasB lo hi w va vm b) (hn : nameOk b.accs) (hh : hi ≤ w.heap.size) (ho : Ints l1 h1 w vo O) (q1 : h1 ≤ w.heap.size) (hc : Ints l2 h2 w vc C) (q2 : h2 ≤ w.heap.size) (hv : Ints l3 h3 w vv V) (q3 : h3 ≤ w.heap.size) :
    Calls Try.prog 43 #[.agg #[va, vm], .agg #[vo, vc, vv]] w (BalPost b O C V w) := by
  have F1 : Bun w [] w := Bun.nil _
  obtain ⟨hba, hbm⟩ := id hb
  clear hb
  have hm_ac := hba.len
  unfold maxLen at hm_ac
  obtain ⟨aa, ak, rfl⟩ := hba.any
  have F2 := F1.sl0 hba hh rfl
  clear F1
  clear hba
  have hm_mv := hbm.len
  unfold maxLen at hm_mv
  obtain ⟨ma, mk, rfl⟩ := hbm.any
  have F3 := F2.sl0 hbm hh rfl
  clear F2
  clear hbm
  have HN := Lib.hid hn
  clear hn
  have hm_to := ho.len
  unfold maxLen at hm_to
  obtain ⟨toa, tok, rfl⟩ := ho.any
  have F4 := F3.sl0 ho q1 rfl
  clear F3
  clear ho
  have hm_tc := hc.len
  unfold maxLen at hm_tc
  obtain ⟨tca, tck, rfl⟩ := hc.any
  have F5 := F4.sl0 hc q2 rfl
  clear F4
  clear hc
  have hm_tv := hv.len
  unfold maxLen at hm_tv
  obtain ⟨tva, tvk, rfl⟩ := hv.any
  have F6 := F5.sl0 hv q3 rfl
  clear F5
  clear hv
  go_enter Try.func43, Try.ntmps43
  go_wp2_with fail
  have F7 := F6.new 25 #[.slice aa b.accs.length ak, .slice ma b.mvs.length mk] (n := w.heap.size) (by simp)
  clear F6
  have F8 := F7.new 32 #[.slice toa O.length tok, .slice tca C.length tck, .slice tva V.length tvk] (n := (w.heap.size + 1)) (by simp)
  clear F7
  refine (rCheck_c _ _ _ _ b _ ⟨(F8.at 6 rfl : Sl accEnc 6 lo hi _ (.slice aa b.accs.length ak) b.accs), (F8.at 5 rfl : Sl mvEnc 4 lo hi _ (.slice ma b.mvs.length mk) b.mvs)⟩ HN.out (by first | omega | (simp; omega))).mono ?_
  rintro e w11 ⟨rfl, hg9⟩
  have hg9s := hg9.size
  (try simp at hg9s)
  have F12 := F8.gn hg9
  clear F8
  clear hg9
  by_cases c13 : checkE b = 0
  · skip
    have c13a : ((checkE b) == 0) = true := beq_t c13
    have c13b : ((checkE b) != 0) = false := bne_f c13
    have c13H := Lib.hid c13
    clear c13
    by_cases c14 : (O.length : Int) = (b.accs.length : Int)
    · skip
      have c14a : ((O.length : Int) == (b.accs.length : Int)) = true := beq_t c14
      have c14b : ((O.length : Int) != (b.accs.length : Int)) = false := bne_f c14
      have c14H := Lib.hid c14
      clear c14
      by_cases c15 : (C.length : Int) = (b.accs.length : Int)
      · skip
        have c15a : ((C.length : Int) == (b.accs.length : Int)) = true := beq_t c15
        have c15b : ((C.length : Int) != (b.accs.length : Int)) = false := bne_f c15
        have c15H := Lib.hid c15
        clear c15
        by_cases c16 : (V.length : Int) = (b.mvs.length : Int)
        · skip
          have c16a : ((V.length : Int) == (b.mvs.length : Int)) = true := beq_t c16
          have c16b : ((V.length : Int) != (b.mvs.length : Int)) = false := bne_f c16
          have c16H := Lib.hid c16
          clear c16
          have HCK : Hid (checkE b = 0) := Lib.hid c13H.out
          have hlo : O.length = b.accs.length := by have := c14H.out; omega
          have hlc : C.length = b.accs.length := by have := c15H.out; omega
          have hlv : V.length = b.mvs.length := by have := c16H.out; omega
          have HOK := Lib.hid (checked_bok HCK.out)
          have hn0 := HOK.out.n0
          have hn8 := HOK.out.n8
          have hm31 := HOK.out.m30
          have HLN : Hid (O.length = b.accs.length ∧ C.length = b.accs.length ∧ V.length = b.mvs.length) := Lib.hid ⟨hlo, hlc, hlv⟩
          have hll : ((O.length ≤ b.accs.length ∧ b.accs.length ≤ O.length) ∧ C.length ≤ b.accs.length ∧ b.accs.length ≤ C.length) ∧ V.length ≤ b.mvs.length ∧ b.mvs.length ≤ V.length := by omega
          clear hlo hlc hlv
          have b17 := F12.bx3 0 rfl
          have b18 := F12.bx2 1 rfl
          go_wp2_with fail
          clear b17 b18
          refine (rspans_s _ _ _ _ b _ ⟨(F12.at 6 rfl : Sl accEnc 6 lo hi _ (.slice aa b.accs.length ak) b.accs), (F12.at 5 rfl : Sl mvEnc 4 lo hi _ (.slice ma b.mvs.length mk) b.mvs)⟩ HOK.out (by first | omega | (simp; omega))).mono ?_
          rintro e w21 ⟨sa, sc, lo_s, hi_s, rfl, ⟨rxs, rys⟩, rws, hg19⟩
          have hg19s := hg19.size
          (try simp at hg19s)
          have F22 := F12.add (rsl spEnc 2 lo_s hi_s (.slice sa (spansL b).length sc) (spansL b)) hg19 (rws) (fun g e => ⟨Nat.le_trans rxs e.1, Nat.lt_of_lt_of_le e.2 rys⟩)
          clear F12
          clear hg19
          go_wp2_with fail
          have F23 := F22.drew
          clear F22
          refine ru_begin (fun W => W.cell? ⟨(w.heap.size + 1), 0, none⟩ = some (.slice toa O.length tok) ∧ W.cell? ⟨(w.heap.size + 1), 1, none⟩ = some (.slice tca C.length tck) ∧ W.cell? ⟨(w.heap.size + 1), 2, none⟩ = some (.slice tva V.length tvk)) 10 (by kernel_rfl) ?_ ?_
          · exact ⟨F23.cl 1 0 rfl rfl, F23.cl 1 1 rfl rfl, F23.cl 1 2 rfl rfl⟩
          obtain ⟨wd25, hwd_⟩ : ∃ x : World, w21.drew = x := ⟨_, rfl⟩
          rw [hwd_] at F23 ⊢
          have wd25s : w21.heap.size ≤ wd25.heap.size := by rw [← hwd_]; exact Nat.le_refl _
          clear hwd_
          have hS24 := (And.intro (F23.cl 1 0 rfl rfl) (And.intro (F23.cl 1 1 rfl rfl) (F23.cl 1 2 rfl rfl)))
          refine ru_t 1 [] ?_
          refine ru_t 2 [] ?_
          refine ru_t 4 [] ?_
          refine ru_t 5 [] ?_
          refine ru_t 7 [] ?_
          refine ru_t 8 [] ?_
          (try simp only [Act.put, List.setIfInBounds_toArray, List.set_cons_zero, List.set_cons_succ])
          clear hS24
          refine ru_one 0 rfl (by kernel_rfl) (fun K hK => ?_)
          go_simp
          have F26 := F23.new 3 #[] (n := wd25.heap.size) (by simp)
          clear F23
          refine ru_back hK (by exact ⟨F26.cl 2 0 rfl rfl, F26.cl 2 1 rfl rfl, F26.cl 2 2 rfl rfl⟩) (fun hHeld => ?_)
          clear hK K
          (try simp only [Act.put, List.setIfInBounds_toArray, List.set_cons_zero, List.set_cons_succ])
          refine ru_one 3 rfl (by kernel_rfl) (fun K hK => ?_)
          refine step_copyB okInt rfl _ _ rfl w.heap.size wd25.heap.size rfl (F26) (by first | omega | (simp; omega)) l1 h1 (.slice toa O.length tok) O rfl (F26.at 6 rfl) (by omega) ?_
          intro vc28 w29 hB30 hs31
          (try simp at hs31)
          have F32 := hB30
          clear F26
          obtain ⟨ca33, cap34, e_⟩ := (Own.sl (F32.at 0 rfl : Own intEnc 3 1 w.heap.size _ vc28 O) (fun _ => rfl)).any
          subst e_
          refine ru_back hK (by exact ⟨F32.cl 2 0 rfl rfl, F32.cl 2 1 rfl rfl, F32.cl 2 2 rfl rfl⟩) (fun hHeld => ?_)
          clear hK K
          (try simp only [Act.put, List.setIfInBounds_toArray, List.set_cons_zero, List.set_cons_succ])
          refine ru_one 6 rfl (by kernel_rfl) (fun K hK => ?_)
          refine step_appS okInt rfl _ _ rfl w.heap.size (.slice ca33 O.length cap34) O rfl (F32) l2 h2 (.slice tca C.length tck) C rfl (F32.at 5 rfl) (by first | omega | (simp; omega)) (by first | omega | (simp; omega)) ?_
          intro vc36 w37 hB38 hs39
          (try simp at hs39)
          have F40 := hB38
          clear F32
          obtain ⟨NL41, hNL41_⟩ : ∃ z_, O ++ C = z_ := ⟨_, rfl⟩
          rw [hNL41_] at F40
          have hNL411 := congrArg List.length hNL41_
          rw [List.length_append] at hNL411
          have hNL412 : NL41.length ≤ O.length + C.length ∧ O.length + C.length ≤ NL41.length := by omega
          have HNL41 := Lib.hid hNL41_
          clear hNL41_ hNL411
          obtain ⟨ca42, cap43, e_⟩ := (Own.sl (F40.at 0 rfl : Own intEnc 3 1 w.heap.size _ vc36 NL41) (fun _ => rfl)).any
          subst e_
          refine ru_back hK (by exact ⟨F40.cl 2 0 rfl rfl, F40.cl 2 1 rfl rfl, F40.cl 2 2 rfl rfl⟩) (fun hHeld => ?_)
          clear hK K
          (try simp only [Act.put, List.setIfInBounds_toArray, List.set_cons_zero, List.set_cons_succ])
          refine ru_one 9 rfl (by kernel_rfl) (fun K hK => ?_)
          refine step_appS okInt rfl _ _ rfl w.heap.size (.slice ca42 NL41.length cap43) NL41 rfl (F40) l3 h3 (.slice tva V.length tvk) V rfl (F40.at 4 rfl) (by first | omega | (simp; omega)) (by first | omega | (simp; omega)) ?_
          intro vc45 w46 hB47 hs48
          (try simp at hs48)
          have F49 := hB47
          clear F40
          obtain ⟨NL50, hNL50_⟩ : ∃ z_, NL41 ++ V = z_ := ⟨_, rfl⟩
          rw [hNL50_] at F49
          have hNL501 := congrArg List.length hNL50_
          rw [List.length_append] at hNL501
          have hNL502 : NL50.length ≤ NL41.length + V.length ∧ NL41.length + V.length ≤ NL50.length := by omega
          have HNL50 := Lib.hid hNL50_
          clear hNL50_ hNL501
          obtain ⟨ca51, cap52, e_⟩ := (Own.sl (F49.at 0 rfl : Own intEnc 3 1 w.heap.size _ vc45 NL50) (fun _ => rfl)).any
          subst e_
          refine ru_back hK (by exact ⟨F49.cl 2 0 rfl rfl, F49.cl 2 1 rfl rfl, F49.cl 2 2 rfl rfl⟩) (fun hHeld => ?_)
          clear hK K
          (try simp only [Act.put, List.setIfInBounds_toArray, List.set_cons_zero, List.set_cons_succ])
          refine ru_one 10 rfl (by kernel_rfl) (fun K hK => ?_)
          go_simp
          refine ru_back_late hK (by kernel_rfl) ?_
          clear hK K
          (try simp only [Act.put, List.setIfInBounds_toArray, List.set_cons_zero, List.set_cons_succ])
          refine ru_done (by kernel_rfl) ?_
          obtain ⟨w53, hx54, F56, hxs55⟩ := (show Bun w [rown intEnc 3 1 w.heap.size (.slice ca51 NL50.length cap52) NL50, rsl spEnc 2 lo_s hi_s (.slice sa (spansL b).length sc) (spansL b), rbox (w.heap.size + 1) 32 #[.slice toa O.length tok, .slice tca C.length tck, .slice tva V.length tvk], rbox w.heap.size 25 #[.slice aa b.accs.length ak, .slice ma b.mvs.length mk], rsl intEnc 1 l3 h3 (.slice tva V.length tvk) V, rsl intEnc 1 l2 h2 (.slice tca C.length tck) C, rsl intEnc 1 l1 h1 (.slice toa O.length tok) O, rsl mvEnc 4 lo hi (.slice ma b.mvs.length mk) b.mvs, rsl accEnc 6 lo hi (.slice aa b.accs.length ak) b.accs] _ from F49).name
          (try simp at hxs55)
          rw [hx54]
          clear hx54 F49
          obtain ⟨gN57, cN58, e_⟩ := Own.opn (F56.at 0 rfl : Own intEnc 3 1 w.heap.size _ (.slice ca51 NL50.length cap52) NL50) (by omega)
          injection e_ with e1_ _ e2_
          subst e1_ e2_
          have HNL : Hid (O ++ C ++ V = NL50) := Lib.hid (by rw [HNL41.out, HNL50.out])
          have hsl := spansL_len' b
          have hsl2 : (spansL b).length ≤ b.accs.length + b.accs.length + b.mvs.length ∧ b.accs.length + b.accs.length + b.mvs.length ≤ (spansL b).length := by omega
          clear hsl
          have gN57l := (F56.ltAt 0 rfl _ rfl).1
          go_wp2_with fail
          obtain ⟨HI59_, HI590⟩ : ∃ I : (Nat → Value) → List Deferred → World → Prop, I = (fun t ds wr => ∃ (u : Nat), t 2 = .pointer (some ⟨w.heap.size, 0, none⟩) ∧ t 3 = .pointer (some ⟨w.heap.size + 1, 0, none⟩) ∧ t 7 = .int .i64 (b.accs.length : Int) ∧ t 8 = .slice sa ((spansL b).length) sc ∧ t 9 = .slice (some ⟨gN57, 0, none⟩) NL50.length cap52 ∧ t 10 = .int .i64 (u : Int) ∧ u ≤ (spansL b).length ∧ (∀ q, q < u → allIn b NL50 q) ∧ ds = [] ∧ w53.heap.size ≤ wr.heap.size ∧ Bun w [rown intEnc 3 1 w.heap.size (.slice (some ⟨gN57, 0, none⟩) NL50.length cap52) NL50, rsl spEnc 2 lo_s hi_s (.slice sa (spansL b).length sc) (spansL b), rbox (w.heap.size + 1) 32 #[.slice toa O.length tok, .slice tca C.length tck, .slice tva V.length tvk], rbox w.heap.size 25 #[.slice aa b.accs.length ak, .slice ma b.mvs.length mk], rsl intEnc 1 l3 h3 (.slice tva V.length tvk) V, rsl intEnc 1 l2 h2 (.slice tca C.length tck) C, rsl intEnc 1 l1 h1 (.slice toa O.length tok) O, rsl mvEnc 4 lo hi (.slice ma b.mvs.length mk) b.mvs, rsl accEnc 6 lo hi (.slice aa b.accs.length ak) b.accs] wr) := ⟨_, rfl⟩
          have HI59 := Lib.hid HI590
          clear HI590
          refine wp_loopS 179 rfl HI59_ (fun t wr => (spansL b).length - (intOf (t 10)).toNat) ?atStart1 ?round1
          case round1 =>
            intro t ds wr hHid
            rw [HI59.out] at hHid
            obtain ⟨u, e2, e3, e7, e8, e9, e10, hrel⟩ := hHid
            have e : ((List.range 179).map t).toArray = #[t 0, t 1, t 2, t 3, t 4, t 5, t 6, t 7, t 8, t 9, t 10, t 11, t 12, t 13, t 14, t 15, t 16, t 17, t 18, t 19, t 20, t 21, t 22, t 23, t 24, t 25, t 26, t 27, t 28, t 29, t 30, t 31, t 32, t 33, t 34, t 35, t 36, t 37, t 38, t 39, t 40, t 41, t 42, t 43, t 44, t 45, t 46, t 47, t 48, t 49, t 50, t 51, t 52, t 53, t 54, t 55, t 56, t 57, t 58, t 59, t 60, t 61, t 62, t 63, t 64, t 65, t 66, t 67, t 68, t 69, t 70, t 71, t 72, t 73, t 74, t 75, t 76, t 77, t 78, t 79, t 80, t 81, t 82, t 83, t 84, t 85, t 86, t 87, t 88, t 89, t 90, t 91, t 92, t 93, t 94, t 95, t 96, t 97, t 98, t 99, t 100, t 101, t 102, t 103, t 104, t 105, t 106, t 107, t 108, t 109, t 110, t 111, t 112, t 113, t 114, t 115, t 116, t 117, t 118, t 119, t 120, t 121, t 122, t 123, t 124, t 125, t 126, t 127, t 128, t 129, t 130, t 131, t 132, t 133, t 134, t 135, t 136, t 137, t 138, t 139, t 140, t 141, t 142, t 143, t 144, t 145, t 146, t 147, t 148, t 149, t 150, t 151, t 152, t 153, t 154, t 155, t 156, t 157, t 158, t 159, t 160, t 161, t 162, t 163, t 164, t 165, t 166, t 167, t 168, t 169, t 170, t 171, t 172, t 173, t 174, t 175, t 176, t 177, t 178] := rfl
            (try dsimp only at e)
            rw [e2, e3, e7, e8, e9, e10] at e
            rw [e]
            simp only [e10]
            clear e e2 e3 e7 e8 e9 e10
            obtain ⟨hu0, hai, rfl, hs61, hF60⟩ := hrel
            clear F56
            obtain ⟨w62, rfl⟩ : ∃ x_ : World, x_ = wr := ⟨_, rfl⟩
            have HAI := Lib.hid hai
            clear hai
            by_cases c63 : (u : Int) < ((spansL b).length : Int)
            · skip
              have c63H := Lib.hid c63
              obtain ⟨x64, o65, e_⟩ := Sl.addr (hF60.at 1 rfl : Sl spEnc 2 lo_s hi_s _ (.slice sa (spansL b).length sc) (spansL b)) (by omega)
              subst e_
              have hz66 : Hid ((spansL b)[u]? = some (gs (spansL b) u)) := Lib.hid (gs_at (by omega))
              have hz67 : Hid (NL50[u]? = some (gi NL50 u)) := Lib.hid (gi_at (by omega))
              have hun : u < NL50.length := by omega
              go_wp2_with fail
              have ge68 : World.cell? _ ⟨gN57, u, none⟩ = some (.int .i64 (gi NL50 u)) := (by simpa using (Own.sl (hF60.at 0 rfl : Own intEnc 3 1 w.heap.size _ (.slice (some ⟨gN57, 0, none⟩) NL50.length cap52) NL50) (fun _ => rfl)).cells hz67.out 0 _ rfl)
              have ge69 : World.cell? _ ⟨x64, o65 + u * 2, none⟩ = some (.int .i64 (gs (spansL b) u).lo) := (((hF60.at 1 rfl : Sl spEnc 2 lo_s hi_s _ (.slice (some ⟨x64, o65, none⟩) (spansL b).length sc) (spansL b))).cells hz66.out 0 _ rfl)
              have ge70 : World.cell? _ ⟨x64, o65 + u * 2 + 1, none⟩ = some (.int .i64 (gs (spansL b) u).hi) := (((hF60.at 1 rfl : Sl spEnc 2 lo_s hi_s _ (.slice (some ⟨x64, o65, none⟩) (spansL b).length sc) (spansL b))).cells hz66.out 1 _ rfl)
              go_quiet (((go_at_call 85; exact Calls.quiet_of_same ((within_c _ _ _ _).mono (fun _ _ h => ⟨h.1, h.2.symm⟩)))))
              clear ge68 ge69 ge70
              have F71 := hF60.drewN nq
              clear hF60
              obtain ⟨w72, hx73, F75, hxs74⟩ := (show Bun w [rown intEnc 3 1 w.heap.size (.slice (some ⟨gN57, 0, none⟩) NL50.length cap52) NL50, rsl spEnc 2 lo_s hi_s (.slice (some ⟨x64, o65, none⟩) (spansL b).length sc) (spansL b), rbox (w.heap.size + 1) 32 #[.slice toa O.length tok, .slice tca C.length tck, .slice tva V.length tvk], rbox w.heap.size 25 #[.slice aa b.accs.length ak, .slice ma b.mvs.length mk], rsl intEnc 1 l3 h3 (.slice tva V.length tvk) V, rsl intEnc 1 l2 h2 (.slice tca C.length tck) C, rsl intEnc 1 l1 h1 (.slice toa O.length tok) O, rsl mvEnc 4 lo hi (.slice ma b.mvs.length mk) b.mvs, rsl accEnc 6 lo hi (.slice aa b.accs.length ak) b.accs] _ from F71).name
              (try simp at hxs74)
              rw [hx73]
              clear hx73 F71
              cases c76 : inB (gi NL50 u) ((gs (spansL b) u).lo) ((gs (spansL b) u).hi)
              · skip
                have c76o := inB_not c76
                have c76H := Lib.hid c76o
                go_wp2_with fail
                exact bodyPost_ret (v := .tuple #[.slice none 0 0, .int .i64 2]) (by simp [results, Try.results43, go_sem]) rfl (BalPost.no (balE_rng HCK.out HLN.out HNL.out (q := u) (by omega) (fun h_ => absurd h_ c76o)) (by decide) F75.gb)
              · skip
                have c76o := inB_yes c76
                have c76H := Lib.hid c76o
                go_wp2_with fail
                (first | refine ⟨by kernel_rfl, ?_, ?_⟩ | refine ⟨rfl, ?_, ?_⟩ | refine ⟨?_, ?_⟩)
                · rw [HI59.out]; exact ⟨u + 1, (by first | kernel_rfl | rfl), (by first | kernel_rfl | rfl), (by first | kernel_rfl | rfl), (by first | kernel_rfl | rfl), (by first | kernel_rfl | rfl), (by show Value.int .i64 ((u : Int) + 1) = _; simp), (by omega), (fun q hq => by rcases Nat.lt_or_ge q u with h_ | h_; exact HAI.out q h_; obtain rfl : q = u := (by omega); exact c76o), (by first | rfl | simp), (by first | omega | (simp; done) | (simp; omega)), F75⟩
                · simp [slot, intOf]; omega
            · skip
              have c63H := Lib.hid c63
              have c63a : decide ((u : Int) < ((spansL b).length : Int)) = false := dec_f c63
              go_wp2_with (at_make; refine wpList_mkInt rfl _ _ rfl b.accs.length rfl rfl hF60 (by omega) w62.heap.size (by first | rfl | simp) ?_; intro w77 hB78 hs79; refine Hid.out ?_)
              refine Lib.hid ?_
              (try simp at hs79)
              have F80 := hB78
              clear hF60
              go_wp2_with fail
              have hal := all_tru HNL.out HLN.out (fun q hq => HAI.out q (by omega))
              have HTA := Lib.hid hal.1
              have HTM := Lib.hid hal.2
              clear hal
              rw [← lsA_zero O C] at F80
              (skip)
              obtain ⟨HI81_, HI810⟩ : ∃ I : (Nat → Value) → List Deferred → World → Prop, I = (fun t ds wr => ∃ (i : Nat), t 2 = .pointer (some ⟨w.heap.size, 0, none⟩) ∧ t 3 = .pointer (some ⟨w.heap.size + 1, 0, none⟩) ∧ t 7 = .int .i64 (b.accs.length : Int) ∧ t 11 = .slice (some ⟨w62.heap.size, 0, none⟩) b.accs.length b.accs.length ∧ t 12 = .int .i64 (i : Int) ∧ i ≤ b.accs.length ∧ ds = [] ∧ w77.heap.size ≤ wr.heap.size ∧ Bun w [rown intEnc 3 1 w.heap.size (.slice (some ⟨w62.heap.size, 0, none⟩) b.accs.length b.accs.length) (lsA O C b.accs.length i), rown intEnc 3 1 w.heap.size (.slice (some ⟨gN57, 0, none⟩) NL50.length cap52) NL50, rsl spEnc 2 lo_s hi_s (.slice sa (spansL b).length sc) (spansL b), rbox (w.heap.size + 1) 32 #[.slice toa O.length tok, .slice tca C.length tck, .slice tva V.length tvk], rbox w.heap.size 25 #[.slice aa b.accs.length ak, .slice ma b.mvs.length mk], rsl intEnc 1 l3 h3 (.slice tva V.length tvk) V, rsl intEnc 1 l2 h2 (.slice tca C.length tck) C, rsl intEnc 1 l1 h1 (.slice toa O.length tok) O, rsl mvEnc 4 lo hi (.slice ma b.mvs.length mk) b.mvs, rsl accEnc 6 lo hi (.slice aa b.accs.length ak) b.accs] wr) := ⟨_, rfl⟩
              have HI81 := Lib.hid HI810
              clear HI810
              refine wp_loopS 179 rfl HI81_ (fun t wr => b.accs.length - (intOf (t 12)).toNat) ?atStart2 ?round2
              case round2 =>
                intro t ds wr hHid
                rw [HI81.out] at hHid
                obtain ⟨i, e2, e3, e7, e11, e12, hrel⟩ := hHid
                have e : ((List.range 179).map t).toArray = #[t 0, t 1, t 2, t 3, t 4, t 5, t 6, t 7, t 8, t 9, t 10, t 11, t 12, t 13, t 14, t 15, t 16, t 17, t 18, t 19, t 20, t 21, t 22, t 23, t 24, t 25, t 26, t 27, t 28, t 29, t 30, t 31, t 32, t 33, t 34, t 35, t 36, t 37, t 38, t 39, t 40, t 41, t 42, t 43, t 44, t 45, t 46, t 47, t 48, t 49, t 50, t 51, t 52, t 53, t 54, t 55, t 56, t 57, t 58, t 59, t 60, t 61, t 62, t 63, t 64, t 65, t 66, t 67, t 68, t 69, t 70, t 71, t 72, t 73, t 74, t 75, t 76, t 77, t 78, t 79, t 80, t 81, t 82, t 83, t 84, t 85, t 86, t 87, t 88, t 89, t 90, t 91, t 92, t 93, t 94, t 95, t 96, t 97, t 98, t 99, t 100, t 101, t 102, t 103, t 104, t 105, t 106, t 107, t 108, t 109, t 110, t 111, t 112, t 113, t 114, t 115, t 116, t 117, t 118, t 119, t 120, t 121, t 122, t 123, t 124, t 125, t 126, t 127, t 128, t 129, t 130, t 131, t 132, t 133, t 134, t 135, t 136, t 137, t 138, t 139, t 140, t 141, t 142, t 143, t 144, t 145, t 146, t 147, t 148, t 149, t 150, t 151, t 152, t 153, t 154, t 155, t 156, t 157, t 158, t 159, t 160, t 161, t 162, t 163, t 164, t 165, t 166, t 167, t 168, t 169, t 170, t 171, t 172, t 173, t 174, t 175, t 176, t 177, t 178] := rfl
                (try dsimp only at e)
                rw [e2, e3, e7, e11, e12] at e
                rw [e]
                simp only [e12]
                clear e e2 e3 e7 e11 e12
                obtain ⟨hi0, rfl, hs83, hF82⟩ := hrel
                clear F80
                obtain ⟨w84, rfl⟩ : ∃ x_ : World, x_ = wr := ⟨_, rfl⟩
                (skip)
                by_cases c85 : (i : Int) < (b.accs.length : Int)
                · skip
                  have c85H := Lib.hid c85
                  obtain ⟨x86, o87, e_⟩ := Sl.addr (hF82.at 9 rfl : Sl accEnc 6 lo hi _ (.slice aa b.accs.length ak) b.accs) (by omega)
                  subst e_
                  obtain ⟨x88, o89, e_⟩ := Sl.addr (hF82.at 7 rfl : Sl intEnc 1 l1 h1 _ (.slice toa O.length tok) O) (by omega)
                  subst e_
                  obtain ⟨x90, o91, e_⟩ := Sl.addr (hF82.at 6 rfl : Sl intEnc 1 l2 h2 _ (.slice tca C.length tck) C) (by omega)
                  subst e_
                  have hz92 : Hid (b.accs[i]? = some (ga b.accs i)) := Lib.hid (ga_at (by omega))
                  have hz93 : Hid (O[i]? = some (gi O i)) := Lib.hid (gi_at (by omega))
                  have hz94 : Hid (C[i]? = some (gi C i)) := Lib.hid (gi_at (by omega))
                  have hz95 : Hid ((lsA O C b.accs.length i)[i]? = some (gi (lsA O C b.accs.length i) i)) := Lib.hid (gi_at (by rw [lsA_len]; omega))
                  have htai := HTA.out i (by omega)
                  unfold truA at htai
                  have hio : i < O.length := by omega
                  have hic : i < C.length := by omega
                  have haop := (HOK.out.acc i (by omega)).op
                  have hacl := (HOK.out.acc i (by omega)).cl
                  go_wp2_with fail
                  have hw96 : IntKind.i64.wrap (gi O i - (gi C i)) = gi O i - (gi C i) := IntWalk.i64_in _ (by omega)
                  have F97 := hF82.drew
                  clear hF82
                  refine ru_begin (fun W => W.cell? ⟨(w.heap.size + 1), 0, none⟩ = some (.slice (some ⟨x88, o89, none⟩) O.length tok) ∧ W.cell? ⟨x88, o89 + i, none⟩ = some (.int .i64 (gi O i)) ∧ W.cell? ⟨(w.heap.size + 1), 1, none⟩ = some (.slice (some ⟨x90, o91, none⟩) C.length tck) ∧ W.cell? ⟨x90, o91 + i, none⟩ = some (.int .i64 (gi C i))) 14 (by kernel_rfl) ?_ ?_
                  · exact ⟨F97.cl 3 0 rfl rfl, (by have h_ := ((F97.at 7 rfl : Sl intEnc 1 l1 h1 _ (.slice (some ⟨x88, o89, none⟩) O.length tok) O)).cells hz93.out 0 _ rfl; simpa using h_), F97.cl 3 1 rfl rfl, (by have h_ := ((F97.at 6 rfl : Sl intEnc 1 l2 h2 _ (.slice (some ⟨x90, o91, none⟩) C.length tck) C)).cells hz94.out 0 _ rfl; simpa using h_)⟩
                  obtain ⟨wd99, hwd_⟩ : ∃ x : World, w84.drew = x := ⟨_, rfl⟩
                  rw [hwd_] at F97 ⊢
                  have wd99s : w84.heap.size ≤ wd99.heap.size := by rw [← hwd_]; exact Nat.le_refl _
                  clear hwd_
                  have hS98 := (And.intro (F97.cl 3 0 rfl rfl) (And.intro ((by have h_ := ((F97.at 7 rfl : Sl intEnc 1 l1 h1 _ (.slice (some ⟨x88, o89, none⟩) O.length tok) O)).cells hz93.out 0 _ rfl; simpa using h_)) (And.intro (F97.cl 3 1 rfl rfl) ((by have h_ := ((F97.at 6 rfl : Sl intEnc 1 l2 h2 _ (.slice (some ⟨x90, o91, none⟩) C.length tck) C)).cells hz94.out 0 _ rfl; simpa using h_)))))
                  refine ru_t 0 [] ?_
                  refine ru_t 1 [] ?_
                  refine ru_t 2 [] ?_
                  refine ru_t 3 [] ?_
                  refine ru_t 4 [] ?_
                  refine ru_t 5 [] ?_
                  refine ru_t 6 [] ?_
                  refine ru_t 7 [] ?_
                  refine ru_t 8 [] ?_
                  refine ru_t 9 [] ?_
                  refine ru_t 10 [] ?_
                  refine ru_t 11 [] ?_
                  refine ru_t 12 [] ?_
                  refine ru_t 13 [] ?_
                  (try simp only [Act.put, List.setIfInBounds_toArray, List.set_cons_zero, List.set_cons_succ])
                  clear hS98
                  refine ru_one 14 rfl (by kernel_rfl) (fun K hK => ?_)
                  have kc_ : World.cell? _ ⟨w62.heap.size, i, none⟩ = some (.int .i64 (gi (lsA O C b.accs.length i) i)) := (by simpa using (Own.sl (F97.at 0 rfl : Own intEnc 3 1 w.heap.size _ (.slice (some ⟨w62.heap.size, 0, none⟩) b.accs.length b.accs.length) (lsA O C b.accs.length i)) (fun _ => rfl)).cells hz95.out 0 _ rfl)
                  have kf_ : World.frozen? _ ⟨w62.heap.size, i, none⟩ = false := Own.live (F97.at 0 rfl : Own intEnc 3 1 w.heap.size _ (.slice (some ⟨w62.heap.size, 0, none⟩) b.accs.length b.accs.length) (lsA O C b.accs.length i)) _
                  go_simp
                  clear kc_ kf_
                  have F100 := Bun.setOwn (sz := 1) (fun _ => rfl) F97 hz95.out (y := (gi O i - (gi C i))) (j := 0) (u := (.int .i64 (gi O i - (gi C i)))) (k := i) (by decide) rfl (by omega)
                  clear F97
                  rw [lsA_set (by omega)] at F100
                  refine ru_back_late hK (by kernel_rfl) ?_
                  clear hK K
                  (try simp only [Act.put, List.setIfInBounds_toArray, List.set_cons_zero, List.set_cons_succ])
                  refine ru_done (by kernel_rfl) ?_
                  (try clear hw96)
                  obtain ⟨w101, hx102, F104, hxs103⟩ := (show Bun w [rown intEnc 3 1 w.heap.size (.slice (some ⟨w62.heap.size, 0, none⟩) b.accs.length b.accs.length) (lsA O C b.accs.length (i + 1)), rown intEnc 3 1 w.heap.size (.slice (some ⟨gN57, 0, none⟩) NL50.length cap52) NL50, rsl spEnc 2 lo_s hi_s (.slice sa (spansL b).length sc) (spansL b), rbox (w.heap.size + 1) 32 #[.slice (some ⟨x88, o89, none⟩) O.length tok, .slice (some ⟨x90, o91, none⟩) C.length tck, .slice tva V.length tvk], rbox w.heap.size 25 #[.slice (some ⟨x86, o87, none⟩) b.accs.length ak, .slice ma b.mvs.length mk], rsl intEnc 1 l3 h3 (.slice tva V.length tvk) V, rsl intEnc 1 l2 h2 (.slice (some ⟨x90, o91, none⟩) C.length tck) C, rsl intEnc 1 l1 h1 (.slice (some ⟨x88, o89, none⟩) O.length tok) O, rsl mvEnc 4 lo hi (.slice ma b.mvs.length mk) b.mvs, rsl accEnc 6 lo hi (.slice (some ⟨x86, o87, none⟩) b.accs.length ak) b.accs] _ from F100).name
                  (try simp at hxs103)
                  rw [hx102]
                  clear hx102 F100
                  go_wp2_with fail
                  (first | refine ⟨by kernel_rfl, ?_, ?_⟩ | refine ⟨rfl, ?_, ?_⟩ | refine ⟨?_, ?_⟩)
                  · rw [HI81.out]; exact ⟨i + 1, (by first | kernel_rfl | rfl), (by first | kernel_rfl | rfl), (by first | kernel_rfl | rfl), (by first | kernel_rfl | rfl), (by show Value.int .i64 ((i : Int) + 1) = _; simp), (by omega), (by first | rfl | simp), (by first | omega | (simp; done) | (simp; omega)), F104⟩
                  · simp [slot, intOf]; omega
                · skip
                  have c85H := Lib.hid c85
                  have c85a : decide ((i : Int) < (b.accs.length : Int)) = false := dec_f c85
                  go_wp2_with fail
                  have hie : i = b.accs.length := by omega
                  subst hie
                  have HO0 : Hid (lsA O C b.accs.length b.accs.length = lsM b O C V 0) := Lib.hid rfl
                  rw [HO0.out] at hF82
                  (skip)
                  obtain ⟨HI105_, HI1050⟩ : ∃ I : (Nat → Value) → List Deferred → World → Prop, I = (fun t ds wr => ∃ (k : Nat), t 2 = .pointer (some ⟨w.heap.size, 0, none⟩) ∧ t 3 = .pointer (some ⟨w.heap.size + 1, 0, none⟩) ∧ t 7 = .int .i64 (b.accs.length : Int) ∧ t 11 = .slice (some ⟨w62.heap.size, 0, none⟩) b.accs.length b.accs.length ∧ t 13 = .int .i64 (k : Int) ∧ k ≤ b.mvs.length ∧ ds = [] ∧ w84.heap.size ≤ wr.heap.size ∧ Bun w [rown intEnc 3 1 w.heap.size (.slice (some ⟨w62.heap.size, 0, none⟩) b.accs.length b.accs.length) (lsM b O C V k), rown intEnc 3 1 w.heap.size (.slice (some ⟨gN57, 0, none⟩) NL50.length cap52) NL50, rsl spEnc 2 lo_s hi_s (.slice sa (spansL b).length sc) (spansL b), rbox (w.heap.size + 1) 32 #[.slice toa O.length tok, .slice tca C.length tck, .slice tva V.length tvk], rbox w.heap.size 25 #[.slice aa b.accs.length ak, .slice ma b.mvs.length mk], rsl intEnc 1 l3 h3 (.slice tva V.length tvk) V, rsl intEnc 1 l2 h2 (.slice tca C.length tck) C, rsl intEnc 1 l1 h1 (.slice toa O.length tok) O, rsl mvEnc 4 lo hi (.slice ma b.mvs.length mk) b.mvs, rsl accEnc 6 lo hi (.slice aa b.accs.length ak) b.accs] wr) := ⟨_, rfl⟩
                  have HI105 := Lib.hid HI1050
                  clear HI1050
                  refine wp_loopS 179 rfl HI105_ (fun t wr => b.mvs.length - (intOf (t 13)).toNat) ?atStart3 ?round3
                  case round3 =>
                    intro t ds wr hHid
                    rw [HI105.out] at hHid
                    obtain ⟨k, e2, e3, e7, e11, e13, hrel⟩ := hHid
                    have e : ((List.range 179).map t).toArray = #[t 0, t 1, t 2, t 3, t 4, t 5, t 6, t 7, t 8, t 9, t 10, t 11, t 12, t 13, t 14, t 15, t 16, t 17, t 18, t 19, t 20, t 21, t 22, t 23, t 24, t 25, t 26, t 27, t 28, t 29, t 30, t 31, t 32, t 33, t 34, t 35, t 36, t 37, t 38, t 39, t 40, t 41, t 42, t 43, t 44, t 45, t 46, t 47, t 48, t 49, t 50, t 51, t 52, t 53, t 54, t 55, t 56, t 57, t 58, t 59, t 60, t 61, t 62, t 63, t 64, t 65, t 66, t 67, t 68, t 69, t 70, t 71, t 72, t 73, t 74, t 75, t 76, t 77, t 78, t 79, t 80, t 81, t 82, t 83, t 84, t 85, t 86, t 87, t 88, t 89, t 90, t 91, t 92, t 93, t 94, t 95, t 96, t 97, t 98, t 99, t 100, t 101, t 102, t 103, t 104, t 105, t 106, t 107, t 108, t 109, t 110, t 111, t 112, t 113, t 114, t 115, t 116, t 117, t 118, t 119, t 120, t 121, t 122, t 123, t 124, t 125, t 126, t 127, t 128, t 129, t 130, t 131, t 132, t 133, t 134, t 135, t 136, t 137, t 138, t 139, t 140, t 141, t 142, t 143, t 144, t 145, t 146, t 147, t 148, t 149, t 150, t 151, t 152, t 153, t 154, t 155, t 156, t 157, t 158, t 159, t 160, t 161, t 162, t 163, t 164, t 165, t 166, t 167, t 168, t 169, t 170, t 171, t 172, t 173, t 174, t 175, t 176, t 177, t 178] := rfl
                    (try dsimp only at e)
                    rw [e2, e3, e7, e11, e13] at e
                    rw [e]
                    simp only [e13]
                    clear e e2 e3 e7 e11 e13
                    obtain ⟨hk0, rfl, hs107, hF106⟩ := hrel
                    clear hF82
                    obtain ⟨w108, rfl⟩ : ∃ x_ : World, x_ = wr := ⟨_, rfl⟩
                    (skip)
                    by_cases c109 : (k : Int) < (b.mvs.length : Int)
                    · skip
                      have c109H := Lib.hid c109
                      obtain ⟨x110, o111, e_⟩ := Sl.addr (hF106.at 8 rfl : Sl mvEnc 4 lo hi _ (.slice ma b.mvs.length mk) b.mvs) (by omega)
                      subst e_
                      obtain ⟨x112, o113, e_⟩ := Sl.addr (hF106.at 5 rfl : Sl intEnc 1 l3 h3 _ (.slice tva V.length tvk) V) (by omega)
                      subst e_
                      have hz114 : Hid (b.mvs[k]? = some (gm b.mvs k)) := Lib.hid (gm_at (by omega))
                      have hz115 : Hid (V[k]? = some (gi V k)) := Lib.hid (gi_at (by omega))
                      have hkv : k < V.length := by omega
                      have hmok := HOK.out.mv k (by omega)
                      have hmf := hmok.fr
                      have hmt := hmok.to
                      have hmne := hmok.ne
                      have hli := hmok.li
                      clear hmok
                      have HM1 : Hid (∀ q, q < k + 1 → truM b V q) := Lib.hid (fun q hq => HTM.out q (by omega))
                      have hvk : 0 ≤ gi V k ∧ gi V k ≤ 1000000000 := by have h_ := HM1.out k (by omega); unfold truM at h_; omega
                      have hb1 := lsM_bdk HOK.out HTA.out HM1.out (k := k) (by omega) (j := (gm b.mvs k).fr.toNat) (by omega)
                      have hb2 := mid_bdk HOK.out HTA.out HM1.out (k := k) (by omega) (j := (gm b.mvs k).to.toNat) (by omega)
                      have hz116 : Hid ((lsM b O C V k)[(gm b.mvs k).fr.toNat]? = some (gi (lsM b O C V k) (gm b.mvs k).fr.toNat)) := Lib.hid (gi_at (by rw [lsM_len]; omega))
                      have b118 := hF106.bx2 4 rfl
                      go_wp2_with fail
                      clear b118
                      have hw117 : IntKind.i64.wrap (gi (lsM b O C V k) ((gm b.mvs k).fr.toNat) - (gi V k)) = gi (lsM b O C V k) ((gm b.mvs k).fr.toNat) - (gi V k) := IntWalk.i64_in _ (by omega)
                      have F119 := hF106.drew
                      clear hF106
                      refine ru_begin (fun W => W.cell? ⟨w.heap.size, 1, none⟩ = some (.slice (some ⟨x110, o111, none⟩) b.mvs.length mk) ∧ W.cell? ⟨x110, o111 + k * 4, none⟩ = some (.int .i64 (gm b.mvs k).fr) ∧ W.cell? ⟨w62.heap.size, (gm b.mvs k).fr.toNat, none⟩ = some (.int .i64 (gi (lsM b O C V k) ((gm b.mvs k).fr.toNat))) ∧ W.cell? ⟨(w.heap.size + 1), 2, none⟩ = some (.slice (some ⟨x112, o113, none⟩) V.length tvk) ∧ W.cell? ⟨x112, o113 + k, none⟩ = some (.int .i64 (gi V k))) 23 (by kernel_rfl) ?_ ?_
                      · exact ⟨F119.cl 4 1 rfl rfl, (((F119.at 8 rfl : Sl mvEnc 4 lo hi _ (.slice (some ⟨x110, o111, none⟩) b.mvs.length mk) b.mvs)).cells hz114.out 0 _ rfl), (by simpa using (Own.sl (F119.at 0 rfl : Own intEnc 3 1 w.heap.size _ (.slice (some ⟨w62.heap.size, 0, none⟩) b.accs.length b.accs.length) (lsM b O C V k)) (fun _ => rfl)).cells hz116.out 0 _ rfl), F119.cl 3 2 rfl rfl, (by have h_ := ((F119.at 5 rfl : Sl intEnc 1 l3 h3 _ (.slice (some ⟨x112, o113, none⟩) V.length tvk) V)).cells hz115.out 0 _ rfl; simpa using h_)⟩
                      obtain ⟨wd121, hwd_⟩ : ∃ x : World, w108.drew = x := ⟨_, rfl⟩
                      rw [hwd_] at F119 ⊢
                      have wd121s : w108.heap.size ≤ wd121.heap.size := by rw [← hwd_]; exact Nat.le_refl _
                      clear hwd_
                      have hS120 := (And.intro (F119.cl 4 1 rfl rfl) (And.intro ((((F119.at 8 rfl : Sl mvEnc 4 lo hi _ (.slice (some ⟨x110, o111, none⟩) b.mvs.length mk) b.mvs)).cells hz114.out 0 _ rfl)) (And.intro ((by simpa using (Own.sl (F119.at 0 rfl : Own intEnc 3 1 w.heap.size _ (.slice (some ⟨w62.heap.size, 0, none⟩) b.accs.length b.accs.length) (lsM b O C V k)) (fun _ => rfl)).cells hz116.out 0 _ rfl)) (And.intro (F119.cl 3 2 rfl rfl) ((by have h_ := ((F119.at 5 rfl : Sl intEnc 1 l3 h3 _ (.slice (some ⟨x112, o113, none⟩) V.length tvk) V)).cells hz115.out 0 _ rfl; simpa using h_))))))
                      refine ru_t 0 [] ?_
                      refine ru_t 1 [] ?_
                      refine ru_t 2 [] ?_
                      refine ru_t 3 [] ?_
                      refine ru_t 4 [] ?_
                      refine ru_t 5 [] ?_
                      refine ru_t 6 [] ?_
                      refine ru_t 7 [] ?_
                      refine ru_t 8 [] ?_
                      refine ru_t 9 [] ?_
                      refine ru_t 10 [] ?_
                      refine ru_t 11 [] ?_
                      refine ru_t 12 [] ?_
                      refine ru_t 13 [] ?_
                      refine ru_t 14 [] ?_
                      refine ru_t 15 [] ?_
                      refine ru_t 16 [] ?_
                      refine ru_t 17 [] ?_
                      refine ru_t 18 [] ?_
                      refine ru_t 19 [] ?_
                      refine ru_t 20 [] ?_
                      refine ru_t 21 [] ?_
                      refine ru_t 22 [] ?_
                      (try simp only [Act.put, List.setIfInBounds_toArray, List.set_cons_zero, List.set_cons_succ])
                      clear hS120
                      refine ru_one 23 rfl (by kernel_rfl) (fun K hK => ?_)
                      have kc_ : World.cell? _ ⟨w62.heap.size, (gm b.mvs k).fr.toNat, none⟩ = some (.int .i64 (gi (lsM b O C V k) ((gm b.mvs k).fr.toNat))) := (by simpa using (Own.sl (F119.at 0 rfl : Own intEnc 3 1 w.heap.size _ (.slice (some ⟨w62.heap.size, 0, none⟩) b.accs.length b.accs.length) (lsM b O C V k)) (fun _ => rfl)).cells hz116.out 0 _ rfl)
                      have kf_ : World.frozen? _ ⟨w62.heap.size, (gm b.mvs k).fr.toNat, none⟩ = false := Own.live (F119.at 0 rfl : Own intEnc 3 1 w.heap.size _ (.slice (some ⟨w62.heap.size, 0, none⟩) b.accs.length b.accs.length) (lsM b O C V k)) _
                      go_simp
                      clear kc_ kf_
                      have F122 := Bun.setOwn (sz := 1) (fun _ => rfl) F119 hz116.out (y := (gi (lsM b O C V k) ((gm b.mvs k).fr.toNat) - (gi V k))) (j := 0) (u := (.int .i64 (gi (lsM b O C V k) ((gm b.mvs k).fr.toNat) - (gi V k)))) (k := ((gm b.mvs k).fr.toNat)) (by decide) rfl (by omega)
                      clear F119
                      have F123 : Bun w [rown intEnc 3 1 w.heap.size (.slice (some ⟨w62.heap.size, 0, none⟩) b.accs.length b.accs.length) (addAt (lsM b O C V k) (gm b.mvs k).fr.toNat (-(gi V k))), rown intEnc 3 1 w.heap.size (.slice (some ⟨gN57, 0, none⟩) NL50.length cap52) NL50, rsl spEnc 2 lo_s hi_s (.slice sa (spansL b).length sc) (spansL b), rbox (w.heap.size + 1) 32 #[.slice toa O.length tok, .slice tca C.length tck, .slice (some ⟨x112, o113, none⟩) V.length tvk], rbox w.heap.size 25 #[.slice aa b.accs.length ak, .slice (some ⟨x110, o111, none⟩) b.mvs.length mk], rsl intEnc 1 l3 h3 (.slice (some ⟨x112, o113, none⟩) V.length tvk) V, rsl intEnc 1 l2 h2 (.slice tca C.length tck) C, rsl intEnc 1 l1 h1 (.slice toa O.length tok) O, rsl mvEnc 4 lo hi (.slice (some ⟨x110, o111, none⟩) b.mvs.length mk) b.mvs, rsl accEnc 6 lo hi (.slice aa b.accs.length ak) b.accs] _ := F122
                      clear F122
                      refine ru_back_late hK (by kernel_rfl) ?_
                      clear hK K
                      (try simp only [Act.put, List.setIfInBounds_toArray, List.set_cons_zero, List.set_cons_succ])
                      refine ru_done (by kernel_rfl) ?_
                      (try clear hw117)
                      obtain ⟨w124, hx125, F127, hxs126⟩ := F123.name
                      (try simp at hxs126)
                      rw [hx125]
                      clear hx125 F123
                      have hz128 : Hid ((addAt (lsM b O C V k) (gm b.mvs k).fr.toNat (-(gi V k)))[(gm b.mvs k).to.toNat]? = some (gi (addAt (lsM b O C V k) (gm b.mvs k).fr.toNat (-(gi V k))) (gm b.mvs k).to.toNat)) := Lib.hid (gi_at (by rw [addAt_len, lsM_len]; omega))
                      go_wp2_with fail
                      have hw129 : IntKind.i64.wrap (gi (addAt (lsM b O C V k) (gm b.mvs k).fr.toNat (-(gi V k))) ((gm b.mvs k).to.toNat) + (gi V k)) = gi (addAt (lsM b O C V k) (gm b.mvs k).fr.toNat (-(gi V k))) ((gm b.mvs k).to.toNat) + (gi V k) := IntWalk.i64_in _ (by omega)
                      have F130 := F127.drew
                      clear F127
                      refine ru_begin (fun W => W.cell? ⟨w.heap.size, 1, none⟩ = some (.slice (some ⟨x110, o111, none⟩) b.mvs.length mk) ∧ W.cell? ⟨x110, o111 + k * 4 + 1, none⟩ = some (.int .i64 (gm b.mvs k).to) ∧ W.cell? ⟨w62.heap.size, (gm b.mvs k).to.toNat, none⟩ = some (.int .i64 (gi (addAt (lsM b O C V k) (gm b.mvs k).fr.toNat (-(gi V k))) ((gm b.mvs k).to.toNat))) ∧ W.cell? ⟨(w.heap.size + 1), 2, none⟩ = some (.slice (some ⟨x112, o113, none⟩) V.length tvk) ∧ W.cell? ⟨x112, o113 + k, none⟩ = some (.int .i64 (gi V k))) 23 (by kernel_rfl) ?_ ?_
                      · exact ⟨F130.cl 4 1 rfl rfl, (((F130.at 8 rfl : Sl mvEnc 4 lo hi _ (.slice (some ⟨x110, o111, none⟩) b.mvs.length mk) b.mvs)).cells hz114.out 1 _ rfl), (by simpa using (Own.sl (F130.at 0 rfl : Own intEnc 3 1 w.heap.size _ (.slice (some ⟨w62.heap.size, 0, none⟩) b.accs.length b.accs.length) (addAt (lsM b O C V k) (gm b.mvs k).fr.toNat (-(gi V k)))) (fun _ => rfl)).cells hz128.out 0 _ rfl), F130.cl 3 2 rfl rfl, (by have h_ := ((F130.at 5 rfl : Sl intEnc 1 l3 h3 _ (.slice (some ⟨x112, o113, none⟩) V.length tvk) V)).cells hz115.out 0 _ rfl; simpa using h_)⟩
                      obtain ⟨wd132, hwd_⟩ : ∃ x : World, w124.drew = x := ⟨_, rfl⟩
                      rw [hwd_] at F130 ⊢
                      have wd132s : w124.heap.size ≤ wd132.heap.size := by rw [← hwd_]; exact Nat.le_refl _
                      clear hwd_
                      have hS131 := (And.intro (F130.cl 4 1 rfl rfl) (And.intro ((((F130.at 8 rfl : Sl mvEnc 4 lo hi _ (.slice (some ⟨x110, o111, none⟩) b.mvs.length mk) b.mvs)).cells hz114.out 1 _ rfl)) (And.intro ((by simpa using (Own.sl (F130.at 0 rfl : Own intEnc 3 1 w.heap.size _ (.slice (some ⟨w62.heap.size, 0, none⟩) b.accs.length b.accs.length) (addAt (lsM b O C V k) (gm b.mvs k).fr.toNat (-(gi V k)))) (fun _ => rfl)).cells hz128.out 0 _ rfl)) (And.intro (F130.cl 3 2 rfl rfl) ((by have h_ := ((F130.at 5 rfl : Sl intEnc 1 l3 h3 _ (.slice (some ⟨x112, o113, none⟩) V.length tvk) V)).cells hz115.out 0 _ rfl; simpa using h_))))))
                      refine ru_t 0 [] ?_
                      refine ru_t 1 [] ?_
                      refine ru_t 2 [] ?_
                      refine ru_t 3 [] ?_
                      refine ru_t 4 [] ?_
                      refine ru_t 5 [] ?_
                      refine ru_t 6 [] ?_
                      refine ru_t 7 [] ?_
                      refine ru_t 8 [] ?_
                      refine ru_t 9 [] ?_
                      refine ru_t 10 [] ?_
                      refine ru_t 11 [] ?_
                      refine ru_t 12 [] ?_
                      refine ru_t 13 [] ?_
                      refine ru_t 14 [] ?_
                      refine ru_t 15 [] ?_
                      refine ru_t 16 [] ?_
                      refine ru_t 17 [] ?_
                      refine ru_t 18 [] ?_
                      refine ru_t 19 [] ?_
                      refine ru_t 20 [] ?_
                      refine ru_t 21 [] ?_
                      refine ru_t 22 [] ?_
                      (try simp only [Act.put, List.setIfInBounds_toArray, List.set_cons_zero, List.set_cons_succ])
                      clear hS131
                      refine ru_one 23 rfl (by kernel_rfl) (fun K hK => ?_)
                      have kc_ : World.cell? _ ⟨w62.heap.size, (gm b.mvs k).to.toNat, none⟩ = some (.int .i64 (gi (addAt (lsM b O C V k) (gm b.mvs k).fr.toNat (-(gi V k))) ((gm b.mvs k).to.toNat))) := (by simpa using (Own.sl (F130.at 0 rfl : Own intEnc 3 1 w.heap.size _ (.slice (some ⟨w62.heap.size, 0, none⟩) b.accs.length b.accs.length) (addAt (lsM b O C V k) (gm b.mvs k).fr.toNat (-(gi V k)))) (fun _ => rfl)).cells hz128.out 0 _ rfl)
                      have kf_ : World.frozen? _ ⟨w62.heap.size, (gm b.mvs k).to.toNat, none⟩ = false := Own.live (F130.at 0 rfl : Own intEnc 3 1 w.heap.size _ (.slice (some ⟨w62.heap.size, 0, none⟩) b.accs.length b.accs.length) (addAt (lsM b O C V k) (gm b.mvs k).fr.toNat (-(gi V k)))) _
                      go_simp
                      clear kc_ kf_
                      have F133 := Bun.setOwn (sz := 1) (fun _ => rfl) F130 hz128.out (y := (gi (addAt (lsM b O C V k) (gm b.mvs k).fr.toNat (-(gi V k))) ((gm b.mvs k).to.toNat) + (gi V k))) (j := 0) (u := (.int .i64 (gi (addAt (lsM b O C V k) (gm b.mvs k).fr.toNat (-(gi V k))) ((gm b.mvs k).to.toNat) + (gi V k)))) (k := ((gm b.mvs k).to.toNat)) (by decide) rfl (by omega)
                      clear F130
                      have F134 : Bun w [rown intEnc 3 1 w.heap.size (.slice (some ⟨w62.heap.size, 0, none⟩) b.accs.length b.accs.length) (lsM b O C V (k + 1)), rown intEnc 3 1 w.heap.size (.slice (some ⟨gN57, 0, none⟩) NL50.length cap52) NL50, rsl spEnc 2 lo_s hi_s (.slice sa (spansL b).length sc) (spansL b), rbox (w.heap.size + 1) 32 #[.slice toa O.length tok, .slice tca C.length tck, .slice (some ⟨x112, o113, none⟩) V.length tvk], rbox w.heap.size 25 #[.slice aa b.accs.length ak, .slice (some ⟨x110, o111, none⟩) b.mvs.length mk], rsl intEnc 1 l3 h3 (.slice (some ⟨x112, o113, none⟩) V.length tvk) V, rsl intEnc 1 l2 h2 (.slice tca C.length tck) C, rsl intEnc 1 l1 h1 (.slice toa O.length tok) O, rsl mvEnc 4 lo hi (.slice (some ⟨x110, o111, none⟩) b.mvs.length mk) b.mvs, rsl accEnc 6 lo hi (.slice aa b.accs.length ak) b.accs] _ := F133
                      clear F133
                      refine ru_back_late hK (by kernel_rfl) ?_
                      clear hK K
                      (try simp only [Act.put, List.setIfInBounds_toArray, List.set_cons_zero, List.set_cons_succ])
                      refine ru_done (by kernel_rfl) ?_
                      (try clear hw129)
                      obtain ⟨w135, hx136, F138, hxs137⟩ := F134.name
                      (try simp at hxs137)
                      rw [hx136]
                      clear hx136 F134
                      go_wp2_with fail
                      (first | refine ⟨by kernel_rfl, ?_, ?_⟩ | refine ⟨rfl, ?_, ?_⟩ | refine ⟨?_, ?_⟩)
                      · rw [HI105.out]; exact ⟨k + 1, (by first | kernel_rfl | rfl), (by first | kernel_rfl | rfl), (by first | kernel_rfl | rfl), (by first | kernel_rfl | rfl), (by show Value.int .i64 ((k : Int) + 1) = _; simp), (by omega), (by first | rfl | simp), (by first | omega | (simp; done) | (simp; omega)), F138⟩
                      · simp [slot, intOf]; omega
                    · skip
                      have c109H := Lib.hid c109
                      have c109a : decide ((k : Int) < (b.mvs.length : Int)) = false := dec_f c109
                      have b139 := hF106.bx2 4 rfl
                      go_wp2_with fail
                      clear b139
                      have hke : k = b.mvs.length := by omega
                      subst hke
                      (skip)
                      obtain ⟨HI140_, HI1400⟩ : ∃ I : (Nat → Value) → List Deferred → World → Prop, I = (fun t ds wr => ∃ (j : Nat), t 2 = .pointer (some ⟨w.heap.size, 0, none⟩) ∧ t 7 = .int .i64 (b.accs.length : Int) ∧ t 11 = .slice (some ⟨w62.heap.size, 0, none⟩) b.accs.length b.accs.length ∧ t 14 = .int .i64 (j : Int) ∧ j ≤ b.accs.length ∧ (∀ q, q < j → ¬ badA b (lsM b O C V b.mvs.length) q) ∧ ds = [] ∧ w108.heap.size ≤ wr.heap.size ∧ Bun w [rown intEnc 3 1 w.heap.size (.slice (some ⟨w62.heap.size, 0, none⟩) b.accs.length b.accs.length) (lsM b O C V b.mvs.length), rown intEnc 3 1 w.heap.size (.slice (some ⟨gN57, 0, none⟩) NL50.length cap52) NL50, rsl spEnc 2 lo_s hi_s (.slice sa (spansL b).length sc) (spansL b), rbox w.heap.size 25 #[.slice aa b.accs.length ak, .slice ma b.mvs.length mk], rsl intEnc 1 l3 h3 (.slice tva V.length tvk) V, rsl intEnc 1 l2 h2 (.slice tca C.length tck) C, rsl intEnc 1 l1 h1 (.slice toa O.length tok) O, rsl mvEnc 4 lo hi (.slice ma b.mvs.length mk) b.mvs, rsl accEnc 6 lo hi (.slice aa b.accs.length ak) b.accs] wr) := ⟨_, rfl⟩
                      have HI140 := Lib.hid HI1400
                      clear HI1400
                      refine wp_loopS 179 rfl HI140_ (fun t wr => b.accs.length - (intOf (t 14)).toNat) ?atStart4 ?round4
                      case round4 =>
                        intro t ds wr hHid
                        rw [HI140.out] at hHid
                        obtain ⟨j, e2, e7, e11, e14, hrel⟩ := hHid
                        have e : ((List.range 179).map t).toArray = #[t 0, t 1, t 2, t 3, t 4, t 5, t 6, t 7, t 8, t 9, t 10, t 11, t 12, t 13, t 14, t 15, t 16, t 17, t 18, t 19, t 20, t 21, t 22, t 23, t 24, t 25, t 26, t 27, t 28, t 29, t 30, t 31, t 32, t 33, t 34, t 35, t 36, t 37, t 38, t 39, t 40, t 41, t 42, t 43, t 44, t 45, t 46, t 47, t 48, t 49, t 50, t 51, t 52, t 53, t 54, t 55, t 56, t 57, t 58, t 59, t 60, t 61, t 62, t 63, t 64, t 65, t 66, t 67, t 68, t 69, t 70, t 71, t 72, t 73, t 74, t 75, t 76, t 77, t 78, t 79, t 80, t 81, t 82, t 83, t 84, t 85, t 86, t 87, t 88, t 89, t 90, t 91, t 92, t 93, t 94, t 95, t 96, t 97, t 98, t 99, t 100, t 101, t 102, t 103, t 104, t 105, t 106, t 107, t 108, t 109, t 110, t 111, t 112, t 113, t 114, t 115, t 116, t 117, t 118, t 119, t 120, t 121, t 122, t 123, t 124, t 125, t 126, t 127, t 128, t 129, t 130, t 131, t 132, t 133, t 134, t 135, t 136, t 137, t 138, t 139, t 140, t 141, t 142, t 143, t 144, t 145, t 146, t 147, t 148, t 149, t 150, t 151, t 152, t 153, t 154, t 155, t 156, t 157, t 158, t 159, t 160, t 161, t 162, t 163, t 164, t 165, t 166, t 167, t 168, t 169, t 170, t 171, t 172, t 173, t 174, t 175, t 176, t 177, t 178] := rfl
                        (try dsimp only at e)
                        rw [e2, e7, e11, e14] at e
                        rw [e]
                        simp only [e14]
                        clear e e2 e7 e11 e14
                        obtain ⟨hj0, hba, rfl, hs142, hF141⟩ := hrel
                        clear hF106
                        obtain ⟨w143, rfl⟩ : ∃ x_ : World, x_ = wr := ⟨_, rfl⟩
                        have HBA := Lib.hid hba
                        clear hba
                        by_cases c144 : (j : Int) < (b.accs.length : Int)
                        · skip
                          have c144H := Lib.hid c144
                          have hz145 : Hid ((lsM b O C V b.mvs.length)[j]? = some (gi (lsM b O C V b.mvs.length) j)) := Lib.hid (gi_at (by rw [lsM_len]; omega))
                          obtain ⟨x146, o147, e_⟩ := Sl.addr (hF141.at 8 rfl : Sl accEnc 6 lo hi _ (.slice aa b.accs.length ak) b.accs) (by omega)
                          subst e_
                          have hz148 : Hid (b.accs[j]? = some (ga b.accs j)) := Lib.hid (ga_at (by omega))
                          by_cases c149 : gi (lsM b O C V b.mvs.length) j < 0
                          · skip
                            have c149H := Lib.hid c149
                            have ge150 : World.cell? _ ⟨w62.heap.size, j, none⟩ = some (.int .i64 (gi (lsM b O C V b.mvs.length) j)) := (by simpa using (Own.sl (hF141.at 0 rfl : Own intEnc 3 1 w.heap.size _ (.slice (some ⟨w62.heap.size, 0, none⟩) b.accs.length b.accs.length) (lsM b O C V b.mvs.length)) (fun _ => rfl)).cells hz145.out 0 _ rfl)
                            have gl151 := cell_lt ge150
                            go_wp2_with fail
                            clear ge150 gl151
                            exact bodyPost_ret (v := .tuple #[.slice none 0 0, .int .i64 12]) (by simp [results, Try.results43, go_sem]) rfl (BalPost.no (balE_bad HCK.out HLN.out HTA.out HTM.out (i := j) (by omega) (by unfold badA; omega)) (by decide) hF141.gb)
                          · skip
                            have c149H := Lib.hid c149
                            have c149a : decide (gi (lsM b O C V b.mvs.length) j < 0) = false := dec_f c149
                            by_cases c152 : (ga b.accs j).kind = 2
                            · skip
                              have c152a : (((ga b.accs j).kind) == 2) = true := beq_t c152
                              have c152b : (((ga b.accs j).kind) != 2) = false := bne_f c152
                              have c152H := Lib.hid c152
                              clear c152
                              by_cases c153 : 0 < gi (lsM b O C V b.mvs.length) j
                              · skip
                                have c153H := Lib.hid c153
                                have b154 := hF141.bx2 3 rfl
                                have ge155 : World.cell? _ ⟨w62.heap.size, j, none⟩ = some (.int .i64 (gi (lsM b O C V b.mvs.length) j)) := (by simpa using (Own.sl (hF141.at 0 rfl : Own intEnc 3 1 w.heap.size _ (.slice (some ⟨w62.heap.size, 0, none⟩) b.accs.length b.accs.length) (lsM b O C V b.mvs.length)) (fun _ => rfl)).cells hz145.out 0 _ rfl)
                                have gl156 := cell_lt ge155
                                have ge157 : World.cell? _ ⟨x146, o147 + j * 6 + 1, none⟩ = some (.int .i64 (ga b.accs j).kind) := (((hF141.at 8 rfl : Sl accEnc 6 lo hi _ (.slice (some ⟨x146, o147, none⟩) b.accs.length ak) b.accs)).cells hz148.out 1 _ rfl)
                                go_wp2_with fail
                                clear b154 ge155 gl156 ge157
                                exact bodyPost_ret (v := .tuple #[.slice none 0 0, .int .i64 12]) (by simp [results, Try.results43, go_sem]) rfl (BalPost.no (balE_bad HCK.out HLN.out HTA.out HTM.out (i := j) (by omega) (by unfold badA; have := c152H.out; omega)) (by decide) hF141.gb)
                              · skip
                                have c153H := Lib.hid c153
                                have c153a : decide (0 < gi (lsM b O C V b.mvs.length) j) = false := dec_f c153
                                have b158 := hF141.bx2 3 rfl
                                have ge159 : World.cell? _ ⟨w62.heap.size, j, none⟩ = some (.int .i64 (gi (lsM b O C V b.mvs.length) j)) := (by simpa using (Own.sl (hF141.at 0 rfl : Own intEnc 3 1 w.heap.size _ (.slice (some ⟨w62.heap.size, 0, none⟩) b.accs.length b.accs.length) (lsM b O C V b.mvs.length)) (fun _ => rfl)).cells hz145.out 0 _ rfl)
                                have gl160 := cell_lt ge159
                                have ge161 : World.cell? _ ⟨x146, o147 + j * 6 + 1, none⟩ = some (.int .i64 (ga b.accs j).kind) := (((hF141.at 8 rfl : Sl accEnc 6 lo hi _ (.slice (some ⟨x146, o147, none⟩) b.accs.length ak) b.accs)).cells hz148.out 1 _ rfl)
                                go_wp2_with fail
                                clear b158 ge159 gl160 ge161
                                (first | refine ⟨by kernel_rfl, ?_, ?_⟩ | refine ⟨rfl, ?_, ?_⟩ | refine ⟨?_, ?_⟩)
                                · rw [HI140.out]; exact ⟨j + 1, (by first | kernel_rfl | rfl), (by first | kernel_rfl | rfl), (by first | kernel_rfl | rfl), (by show Value.int .i64 ((j : Int) + 1) = _; simp), (by omega), (fun q hq => by rcases Nat.lt_or_ge q j with h_ | h_; exact HBA.out q h_; obtain rfl : q = j := (by omega); exact fun h_ => by unfold badA at h_; have := c152H.out; omega), (by first | rfl | simp), (by first | omega | (simp; done) | (simp; omega)), hF141⟩
                                · simp [slot, intOf]; omega
                            · skip
                              have c152a : (((ga b.accs j).kind) == 2) = false := beq_f c152
                              have c152b : (((ga b.accs j).kind) != 2) = true := bne_t c152
                              have c152H := Lib.hid c152
                              clear c152
                              have b162 := hF141.bx2 3 rfl
                              have ge163 : World.cell? _ ⟨w62.heap.size, j, none⟩ = some (.int .i64 (gi (lsM b O C V b.mvs.length) j)) := (by simpa using (Own.sl (hF141.at 0 rfl : Own intEnc 3 1 w.heap.size _ (.slice (some ⟨w62.heap.size, 0, none⟩) b.accs.length b.accs.length) (lsM b O C V b.mvs.length)) (fun _ => rfl)).cells hz145.out 0 _ rfl)
                              have gl164 := cell_lt ge163
                              have ge165 : World.cell? _ ⟨x146, o147 + j * 6 + 1, none⟩ = some (.int .i64 (ga b.accs j).kind) := (((hF141.at 8 rfl : Sl accEnc 6 lo hi _ (.slice (some ⟨x146, o147, none⟩) b.accs.length ak) b.accs)).cells hz148.out 1 _ rfl)
                              go_wp2_with fail
                              clear b162 ge163 gl164 ge165
                              (first | refine ⟨by kernel_rfl, ?_, ?_⟩ | refine ⟨rfl, ?_, ?_⟩ | refine ⟨?_, ?_⟩)
                              · rw [HI140.out]; exact ⟨j + 1, (by first | kernel_rfl | rfl), (by first | kernel_rfl | rfl), (by first | kernel_rfl | rfl), (by show Value.int .i64 ((j : Int) + 1) = _; simp), (by omega), (fun q hq => by rcases Nat.lt_or_ge q j with h_ | h_; exact HBA.out q h_; obtain rfl : q = j := (by omega); exact fun h_ => by unfold badA at h_; have := c152H.out; omega), (by first | rfl | simp), (by first | omega | (simp; done) | (simp; omega)), hF141⟩
                              · simp [slot, intOf]; omega
                        · skip
                          have c144H := Lib.hid c144
                          have c144a : decide ((j : Int) < (b.accs.length : Int)) = false := dec_f c144
                          go_wp2_with fail
                          exact bodyPost_ret (v := .tuple #[.slice (some ⟨w62.heap.size, 0, none⟩) b.accs.length b.accs.length, .int .i64 0]) (by simp [results, Try.results43, go_sem]) rfl (BalPost.yes (balE_ok HCK.out HLN.out HTA.out HTM.out (fun q hq => HBA.out q (by omega))) (hF141.at 0 rfl : Own intEnc 3 1 w.heap.size _ (.slice (some ⟨w62.heap.size, 0, none⟩) b.accs.length b.accs.length) (lsM b O C V b.mvs.length)) hF141.gb)
                      case atStart4 =>
                        rw [HI140.out]
                        exact ⟨0, (by first | kernel_rfl | rfl), (by first | kernel_rfl | rfl), (by first | kernel_rfl | rfl), rfl, Nat.zero_le _, (fun q hq => by omega), rfl, (by first | exact Nat.le_refl _ | omega | (simp; done) | (simp; omega)), (hF106.drop 3 rfl)⟩
                  case atStart3 =>
                    rw [HI105.out]
                    exact ⟨0, (by first | kernel_rfl | rfl), (by first | kernel_rfl | rfl), (by first | kernel_rfl | rfl), (by first | kernel_rfl | rfl), rfl, Nat.zero_le _, rfl, (by first | exact Nat.le_refl _ | omega | (simp; done) | (simp; omega)), hF82⟩
              case atStart2 =>
                rw [HI81.out]
                exact ⟨0, (by first | kernel_rfl | rfl), (by first | kernel_rfl | rfl), (by first | kernel_rfl | rfl), (by first | kernel_rfl | rfl), rfl, Nat.zero_le _, rfl, (by first | exact Nat.le_refl _ | omega | (simp; done) | (simp; omega)), F80⟩
          case atStart1 =>
            rw [HI59.out]
            exact ⟨0, (by first | kernel_rfl | rfl), (by first | kernel_rfl | rfl), (by first | kernel_rfl | rfl), (by first | kernel_rfl | rfl), (by first | kernel_rfl | rfl), rfl, Nat.zero_le _, (fun q hq => by omega), rfl, (by first | exact Nat.le_refl _ | omega | (simp; done) | (simp; omega)), F56⟩
        · skip
          have c16a : ((V.length : Int) == (b.mvs.length : Int)) = false := beq_f c16
          have c16b : ((V.length : Int) != (b.mvs.length : Int)) = true := bne_t c16
          have c16H := Lib.hid c16
          clear c16
          have b166 := F12.bx3 0 rfl
          have b167 := F12.bx2 1 rfl
          go_wp2_with fail
          clear b166 b167
          exact bodyPost_ret (v := .tuple #[.slice none 0 0, .int .i64 3]) (by simp [results, Try.results43, go_sem]) rfl (BalPost.no (balE_len c13H.out (fun h_ => absurd c16H.out (by omega))) (by decide) F12.gb)
      · skip
        have c15a : ((C.length : Int) == (b.accs.length : Int)) = false := beq_f c15
        have c15b : ((C.length : Int) != (b.accs.length : Int)) = true := bne_t c15
        have c15H := Lib.hid c15
        clear c15
        have b168 := F12.bx3 0 rfl
        have b169 := F12.bx2 1 rfl
        go_wp2_with fail
        clear b168 b169
        exact bodyPost_ret (v := .tuple #[.slice none 0 0, .int .i64 3]) (by simp [results, Try.results43, go_sem]) rfl (BalPost.no (balE_len c13H.out (fun h_ => absurd c15H.out (by omega))) (by decide) F12.gb)
    · skip
      have c14a : ((O.length : Int) == (b.accs.length : Int)) = false := beq_f c14
      have c14b : ((O.length : Int) != (b.accs.length : Int)) = true := bne_t c14
      have c14H := Lib.hid c14
      clear c14
      have b170 := F12.bx3 0 rfl
      have b171 := F12.bx2 1 rfl
      go_wp2_with fail
      clear b170 b171
      exact bodyPost_ret (v := .tuple #[.slice none 0 0, .int .i64 3]) (by simp [results, Try.results43, go_sem]) rfl (BalPost.no (balE_len c13H.out (fun h_ => absurd c14H.out (by omega))) (by decide) F12.gb)
  · skip
    have c13a : ((checkE b) == 0) = false := beq_f c13
    have c13b : ((checkE b) != 0) = true := bne_t c13
    have c13H := Lib.hid c13
    clear c13
    go_wp2_with fail
    exact bodyPost_ret (v := .tuple #[.slice none 0 0, .int .i64 (checkE b)]) (by simp [results, Try.results43, go_sem]) rfl (BalPost.no (balE_check c13H.out) c13H.out F12.gb)

end Go.Proofs.Ytfifldbinnkdmaa
