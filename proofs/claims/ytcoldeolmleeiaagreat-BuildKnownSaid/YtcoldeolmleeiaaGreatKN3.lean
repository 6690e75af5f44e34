/- build and its reference: how far nodes are. -/
import Derived.Test.YtcoldeolmleeiaaGreatKKN
import Derived.Test.YtcoldeolmleeiaaGreatKN2
import Derived.Test.YtcoldeolmleeiaaGreatKGG1
set_option linter.unusedVariables false
set_option linter.unusedSimpArgs false
set_option linter.unnecessarySimpa false
namespace Go.Proofs.YtcoldeolmleeiaaGreat
open Go.RowKit
set_option maxRecDepth 100000
attribute [local go_sem] Oper.semAt_some
theorem rgN382 (t : Nat -> Value) : ((List.range 82).map t).toArray = #[t 0, t 1, t 2, t 3, t 4, t 5, t 6, t 7, t 8, t 9, t 10, t 11, t 12, t 13, t 14, t 15, t 16, t 17, t 18, t 19, t 20, t 21, t 22, t 23, t 24, t 25, t 26, t 27, t 28, t 29, t 30, t 31, t 32, t 33, t 34, t 35, t 36, t 37, t 38, t 39, t 40, t 41, t 42, t 43, t 44, t 45, t 46, t 47, t 48, t 49, t 50, t 51, t 52, t 53, t 54, t 55, t 56, t 57, t 58, t 59, t 60, t 61, t 62, t 63, t 64, t 65, t 66, t 67, t 68, t 69, t 70, t 71, t 72, t 73, t 74, t 75, t 76, t 77, t 78, t 79, t 80, t 81] := rfl
def farB (k : Nat) (n : Nat) (m : FM) : Prop := m.length = n /\ ∀ x p q, fget m x = some (p, q) -> (0 <= p /\ p <= 1000000 * (k : Int)) /\ 0 <= q /\ q <= k
theorem farB.mono {k k' n : Nat} {m : FM} (h : farB k n m) (hk : k <= k') : farB k' n m := ⟨h.1, fun x p q e => by have := h.2 x p q e; omega⟩
theorem farB.put {k n : Nat} {m : FM} {x y p q : Int} (h : farB k n m) (hx : 0 <= x /\ x < n) (hy : fget m y = some (p, q)) {d : Int} (hd : 0 <= d /\ d <= 1000000) : farB (k + 1) n (fset m x (p + d, q + 1)) := by
 refine ⟨by unfold fset; rw [List.length_set]; exact h.1, fun z p' q' e => ?_⟩
 rw [fget_set (by rw [h.1]; exact hx)] at e
 have h1 := h.2 y p q hy
 split at e
 ·
  injection e with e
  injection e with e1 e2
  push_cast
  omega
 have := h.2 z p' q' e
 push_cast
 omega
theorem farB_0 {n : Nat} {x : Int} (hx : 0 <= x /\ x < n) : farB 1 n (far0 n x) := by
 have hl : (List.replicate n (none : Option (Int × Int))).length = n := List.length_replicate
 refine ⟨by unfold far0 fset; rw [List.length_set, hl], fun z p q e => ?_⟩
 unfold far0 at e
 rw [fget_set (by rw [hl]; exact hx)] at e
 split at e
 ·
  injection e with e
  injection e with e1 e2
  omega
 have e' : fget (List.replicate n none) z = none := by
  unfold fget
  split
  ·
   rw [List.getD_eq_getElem?_getD, List.getElem?_replicate]
   split <;> rfl
  · rfl
 rw [e'] at e
 cases e
def hlf (l : Lg) (j : Nat) : Int := if j = 0 then l.a else l.b
def hal (l : Lg) (s : FM × Bool) : Nat -> FM × Bool
 | 0 => s
 | 1 => relx l l.a s
 | _ => relx l l.b (relx l l.a s)
theorem hal_next {l : Lg} {s : FM × Bool} {j : Nat} (h : j < 2) : hal l s (j + 1) = relx l (hlf l j) (hal l s j) := by
 obtain rfl | rfl : j = 0 ∨ j = 1 := by omega
 · rfl
 · rfl
theorem hlf_bd {n : Int} {l : Lg} (h : LgOk n l) (j : Nat) : 0 <= hlf l j /\ hlf l j < n := by
 have := h.a; have := h.b
 unfold hlf
 split <;> omega
theorem oth_bd {n : Int} {l : Lg} (h : LgOk n l) (x : Int) : -1 <= oth l x /\ oth l x < n := by
 have := h.a; have := h.b
 unfold oth
 split
 · omega
 · split <;> omega
theorem lgx_yes {u : Lg -> Bool} {l : Lg} {s : FM × Bool} (h : u l = true) : lgx u s l = hal l s 2 := by rw [lgx, if_pos h]; rfl
theorem lgx_no {u : Lg -> Bool} {l : Lg} {s : FM × Bool} (h : u l = false) : lgx u s l = s := by rw [lgx, if_neg (by rw [h]; decide)]
theorem foldl_snoc' {α β : Type} (f : β -> α -> β) (b : β) {l : List α} {k : Nat} {z : α} (h : l[k]? = some z) : (l.take (k + 1)).foldl f b = f ((l.take k).foldl f b) z := by
 rw [← take_snoc h, List.foldl_append]
 rfl
def dstS (ls : List Lg) (u : Lg -> Bool) (mf : FM) (K : Nat) (mo : Bool) (m : FM) : Prop := if mo = true then dst ls u K m = some mf else m = mf
theorem dstS.next {ls : List Lg} {u : Lg -> Bool} {mf : FM} {K : Nat} {m m' : FM} {mo : Bool} (h : dstS ls u mf K true m) (hr : rndF ls u m = (m', mo)) : ∃ K', K = K' + 1 /\ dstS ls u mf K' mo m' := by
 unfold dstS at h ⊢
 rw [if_pos rfl] at h
 cases K with
 | zero => cases h
 | succ K =>
  refine ⟨K, rfl, ?_⟩
  rw [dst, hr] at h
  cases mo with
  | true => rw [if_pos rfl] at h ⊢; exact h
  | false => rw [if_neg (show ¬ ((m', false) : FM × Bool).2 = true from Bool.false_ne_true)] at h; rw [if_neg Bool.false_ne_true]; exact Option.some.inj h
theorem relx_no {l : Lg} {x : Int} {m : FM} {o : Bool} (h : fget m (oth l x) = none) : relx l x (m, o) = (m, o) := by unfold relx; rw [h]
theorem relx_new {l : Lg} {x p q : Int} {m : FM} {o : Bool} (h : fget m (oth l x) = some (p, q)) (h2 : fget m x = none) : relx l x (m, o) = (fset m x (p + l.long, q + 1), true) := by unfold relx; simp only [h, h2]
theorem relx_less {l : Lg} {x p q p2 q2 : Int} {m : FM} {o : Bool} (h : fget m (oth l x) = some (p, q)) (h2 : fget m x = some (p2, q2)) (h3 : fstE [cmpI (p + l.long) p2, cmpI (q + 1) q2] < 0) : relx l x (m, o) = (fset m x (p + l.long, q + 1), true) := by
 unfold relx
 simp only [h, h2]
 rw [if_pos (by unfold lessF; exact decide_eq_true h3)]
theorem relx_more {l : Lg} {x p q p2 q2 : Int} {m : FM} {o : Bool} (h : fget m (oth l x) = some (p, q)) (h2 : fget m x = some (p2, q2)) (h3 : ¬ fstE [cmpI (p + l.long) p2, cmpI (q + 1) q2] < 0) : relx l x (m, o) = (m, o) := by
 unfold relx
 simp only [h, h2]
 rw [if_neg (by unfold lessF; rw [decide_eq_false h3]; decide)]
set_option maxHeartbeats 16000000 in
theorem distP_c (lo hi : Nat) (v : Value) (ls : List Lg) (n : Nat) (to : Int) (K0 : Nat) (mf : FM) (w : World) (hl : Sl lgEnc 5 lo hi w v ls) (h2 : hi <= w.heap.size) (hls : ∀ l ∈ ls, LgOk n l) (hnl : n <= 40) (hln : ls.length <= 200) (hto : 0 <= to /\ to < n) (hK0 : K0 <= 1000) (hd : dstS ls useP mf K0 true (far0 n to)) :
  Calls Tryz.prog 30 #[.agg #[.int .i64 (n : Int), v], .int .i64 to, .func (.func 31) #[] #[]] w (fun e w' => ∃ b k, e = .returned (.map (some b)) /\ w.heap.size <= b /\ FarMap w' b k mf /\ (k <= 400001 /\ farB k n mf) /\ w.grownBy w' none) := by
 have hmm := @run_makeMap Tryz.prog
 have F1 : Bun w [] w := Bun.nil _
 have hm_ls := hl.len
 unfold maxLen at hm_ls
 obtain ⟨aL, cL, rfl⟩ := hl.any
 replace F1 := F1.sl0 hl h2 rfl
 clear hl
 have HLS := lhd hls
 have HD := lhd hd
 clear hls hd
 go_enter Tryz.func30, Tryz.ntmps30
 replace F1 := F1.new 54 #[.int .i64 (n : Int), .slice aL ls.length cL] (n := w.heap.size) (by simp)
 replace F1 := F1.farNew n (g := (w.heap.size + 1)) (by simp)
 obtain ⟨w5, hr6, F7, hs8⟩ := F1.farPut (by omega) (x := to) (p := 0) (q := 0) (by rw [List.length_replicate]; omega) (by rw [List.length_replicate]; omega)
 (try simp at hr6 hs8)
 clear F1
 go_wp2_with fail
 clear hr6
 have HFB := lhd (farB_0 (n := n) (x := to) hto)
 go_wp2_with fail
 go_wp2_with fail
 obtain ⟨HI9_, HI90⟩ : ∃ I : Nat -> RelT, I = (fun K t ds wr => ∃ (mo : Bool) (m : FM) (cn : Nat), t 2 = .func (.func 31) #[] #[] /\ t 3 = .pointer (some ⟨w.heap.size, 0, none⟩) /\ t 7 = .map (some (w.heap.size + 1)) /\ t 8 = .bool mo /\ Hid (dstS ls useP mf K mo m) /\ (cn + 400 * K <= 400 * 1000 + 1) /\ Hid (farB cn n m) /\ ds = [] /\ w5.heap.size <= wr.heap.size /\ Bun w [rfar (w.heap.size + 1) cn m, rbox w.heap.size 54 #[.int .i64 (n : Int), .slice aL ls.length cL], rsl lgEnc 5 lo hi (.slice aL ls.length cL) ls] wr) := ⟨_, rfl⟩
 have HI9 := lhd HI90
 clear HI90
 refine wp_loopG 82 rfl HI9_ K0 ?atG10 ?roG10
 case roG10 =>
  intro K t ds wr hHid
  rw [HI9.out] at hHid
  obtain ⟨mo, m, cn, e2, e3, e7, e8, HDS, hcn, HFB, rfl, hs12, hF11⟩ := hHid
  clear F7
  have e := rgN382 t
  (try dsimp only at e)
  rw [e2, e3, e7, e8] at e
  rw [e]
  clear e e2 e3 e7 e8
  obtain ⟨w13, rfl⟩ : ∃ x_ : World, x_ = wr := ⟨_, rfl⟩
  cases c14 : mo
  ·
   have c14H := lhd c14
   have HME : Hid (m = mf) := lhd (by have h_ := HDS.out; rw [c14] at h_; exact h_)
   go_wp2_with fail
   exact bodyPost_ret (v := .map (some (w.heap.size + 1))) (by simp [results, Tryz.results30, go_sem]) rfl ((⟨(w.heap.size + 1), _, rfl, (by first | omega | (simp; omega)), (by have h_ := (hF11.at 0 rfl : FarMap _ (w.heap.size + 1) cn m); rw [HME.out] at h_; exact h_), ⟨(by omega), (by have h_ := HFB.out; rw [HME.out] at h_; exact h_)⟩, hF11.gb⟩))
  have c14H := lhd c14
  have HDT : Hid (dstS ls useP mf K true m) := lhd (by have h_ := HDS.out; rwa [c14] at h_)
  have b15 := hF11.bx2 1 rfl
  go_wp2_with fail
  clear b15
  obtain ⟨HI16_, HI160⟩ : ∃ I : RelT, I = (fun t ds wr => ∃ (i : Nat) (sm : FM) (so : Bool) (ci : Nat), t 2 = .func (.func 31) #[] #[] /\ t 3 = .pointer (some ⟨w.heap.size, 0, none⟩) /\ t 7 = .map (some (w.heap.size + 1)) /\ t 8 = .bool so /\ t 24 = .slice aL ls.length cL /\ t 25 = .int .i64 (ls.length : Int) /\ t 26 = .int .i64 (i : Int) /\ i <= ls.length /\ Hid ((ls.take i).foldl (lgx useP) (m, false) = (sm, so)) /\ ci <= cn + 2 * i /\ Hid (farB ci n sm) /\ ds = [] /\ w13.heap.size <= wr.heap.size /\ Bun w [rfar (w.heap.size + 1) ci sm, rbox w.heap.size 54 #[.int .i64 (n : Int), .slice aL ls.length cL], rsl lgEnc 5 lo hi (.slice aL ls.length cL) ls] wr) := ⟨_, rfl⟩
  have HI16 := lhd HI160
  clear HI160
  refine wp_loopS 82 rfl HI16_ (fun t wr => ls.length - (intOf (t 26)).toNat) ?atStart1 ?round1
  case round1 =>
   intro t ds wr hHid
   rw [HI16.out] at hHid
   obtain ⟨i, sm, so, ci, e2, e3, e7, e8, e24, e25, e26, hrel⟩ := hHid
   have e := rgN382 t
   (try dsimp only at e)
   rw [e2, e3, e7, e8, e24, e25, e26] at e
   rw [e]
   simp only [e26]
   clear e e2 e3 e7 e8 e24 e25 e26
   obtain ⟨hi_, hst, hci, HFB2, rfl, hs18, hF17⟩ := hrel
   clear hF11
   obtain ⟨w19, rfl⟩ : ∃ x_ : World, x_ = wr := ⟨_, rfl⟩
   have HFB := HFB2
   by_cases c20 : (i : Int) < (ls.length : Int)
   ·
    have c20H := lhd c20
    obtain ⟨x21, o22, e_⟩ := Sl.addr (hF17.s 2 rfl) (by omega)
    subst e_
    obtain ⟨z, hz23_⟩ : ∃ z_, ls[i]? = some z_ := ⟨_, List.getElem?_eq_getElem (by omega)⟩
    have hz23 := lhd hz23_
    clear hz23_
    have HZK := lhd (HLS.out z (List.mem_of_getElem? hz23.out))
    have hzl := HZK.out.long
    have HFS := lhd (foldl_snoc' (lgx useP) (m, false) hz23.out)
    have ge24 : World.cell? _ ⟨x21, o22 + i * 5, none⟩ = some (.int .i64 z.a) := (Sl.cells (hF17.at 2 rfl) hz23.out 0 _ rfl)
    have gl25 := cell_lt ge24
    have ge26 : World.cell? _ ⟨x21, o22 + i * 5 + 1, none⟩ = some (.int .i64 z.b) := (Sl.cells (hF17.at 2 rfl) hz23.out 1 _ rfl)
    have ge27 : World.cell? _ ⟨x21, o22 + i * 5 + 2, none⟩ = some (.int .i64 z.long) := (Sl.cells (hF17.at 2 rfl) hz23.out 2 _ rfl)
    have ge28 : World.cell? _ ⟨x21, o22 + i * 5 + 3, none⟩ = some (.int .i64 z.op) := (Sl.cells (hF17.at 2 rfl) hz23.out 3 _ rfl)
    have ge29 : World.cell? _ ⟨x21, o22 + i * 5 + 4, none⟩ = some (.int .i64 z.cost) := (Sl.cells (hF17.at 2 rfl) hz23.out 4 _ rfl)
    go_wp2_with fail
    clear ge24 gl25 ge26 ge27 ge28 ge29
    have F30 := hF17.new 94 #[.int .i64 z.a, .int .i64 z.b, .int .i64 z.long, .int .i64 z.op, .int .i64 z.cost] (n := w19.heap.size) (by simp)
    clear hF17
    refine (useP_c z _).mono ?_
    rintro e w33 ⟨rfl, hg31⟩
    have hg31s := hg31.size
    (try simp at hg31s)
    replace F30 := F30.gn hg31
    clear hg31
    cases c35 : useP z
    ·
     have c35H := lhd c35
     have HU := lhd c35
     go_wp2_with fail
     have F36 : Bun w [rfar (w.heap.size + 1) ci sm, rbox w.heap.size 54 #[.int .i64 (n : Int), .slice (some ⟨x21, o22, none⟩) ls.length cL], rsl lgEnc 5 lo hi (.slice (some ⟨x21, o22, none⟩) ls.length cL) ls] _ := F30.pick [1, 2, 3] (by decide) rfl
     clear F30
     (first | refine ⟨by kernel_rfl, ?_, ?_⟩ | refine ⟨rfl, ?_, ?_⟩ | refine ⟨?_, ?_⟩)
     · rw [HI16.out]; exact ⟨i + 1, _, _, _, by (iterate 6 refine ⟨by kernel_rfl, ?_⟩); exact ⟨(by show Value.int .i64 ((i : Int) + 1) = _; simp), (by omega), (lhd (by rw [HFS.out, hst.out, lgx_no HU.out])), (by omega), HFB, (by first | rfl | simp), (by first | omega | (simp; done) | (simp; omega)), F36⟩⟩
     · simp [slot, intOf]; omega
    have c35H := lhd c35
    have HU := lhd c35
    have b37 := F30.bx5 0 rfl
    go_wp2_with fail
    clear b37
    obtain ⟨HI38_, HI380⟩ : ∃ I : RelT, I = (fun t ds wr => ∃ (j : Nat) (qm : FM) (qo : Bool) (cq : Nat), t 2 = .func (.func 31) #[] #[] /\ t 3 = .pointer (some ⟨w.heap.size, 0, none⟩) /\ t 7 = .map (some (w.heap.size + 1)) /\ t 8 = .bool qo /\ t 10 = .pointer (some ⟨w19.heap.size, 0, none⟩) /\ t 24 = .slice (some ⟨x21, o22, none⟩) ls.length cL /\ t 25 = .int .i64 (ls.length : Int) /\ t 26 = .int .i64 (i : Int) /\ t 38 = .agg #[.int .i64 z.a, .int .i64 z.b] /\ t 39 = .int .i64 (j : Int) /\ j <= 2 /\ Hid (hal z (sm, so) j = (qm, qo)) /\ cq <= ci + j /\ Hid (farB cq n qm) /\ ds = [] /\ w33.heap.size <= wr.heap.size /\ Bun w [rbox w19.heap.size 94 #[.int .i64 z.a, .int .i64 z.b, .int .i64 z.long, .int .i64 z.op, .int .i64 z.cost], rfar (w.heap.size + 1) cq qm, rbox w.heap.size 54 #[.int .i64 (n : Int), .slice (some ⟨x21, o22, none⟩) ls.length cL], rsl lgEnc 5 lo hi (.slice (some ⟨x21, o22, none⟩) ls.length cL) ls] wr) := ⟨_, rfl⟩
    have HI38 := lhd HI380
    clear HI380
    refine wp_loopS 82 rfl HI38_ (fun t wr => 2 - (intOf (t 39)).toNat) ?atStart2 ?round2
    case round2 =>
     intro t ds wr hHid
     rw [HI38.out] at hHid
     obtain ⟨j, qm, qo, cq, e2, e3, e7, e8, e10, e24, e25, e26, e38, e39, hrel⟩ := hHid
     have e := rgN382 t
     (try dsimp only at e)
     rw [e2, e3, e7, e8, e10, e24, e25, e26, e38, e39] at e
     rw [e]
     simp only [e39]
     clear e e2 e3 e7 e8 e10 e24 e25 e26 e38 e39
     obtain ⟨hj, hha, hcq, HFB2q, rfl, hs40, hF39⟩ := hrel
     clear F30
     obtain ⟨w41, rfl⟩ : ∃ x_ : World, x_ = wr := ⟨_, rfl⟩
     have HFB := HFB2q
     by_cases c42 : (j : Int) < 2
     ·
      have c42H := lhd c42
      have hxb := hlf_bd HZK.out j
      have hob := oth_bd HZK.out (hlf z j)
      have HHN := lhd (hal_next (l := z) (s := (sm, so)) (j := j) (by omega))
      have b44 := hF39.bx5 0 rfl
      have ge45 : ∀ w, (Instr.index 126 (.agg #[.int .i64 z.a, .int .i64 z.b]) (.int .i64 (j : Int))).run Tryz.prog w = .ok (.int .i64 (hlf z j)) w := (by rcases (show j = 0 ∨ j = 1 by omega) with rfl | rfl <;> exact fun _ => by kernel_rfl)
      go_wp2_with fail
      clear b44 ge45
      refine (other_c z (hlf z j) _).mono ?_
      rintro e w48 ⟨rfl, hg46⟩
      have hg46s := hg46.size
      (try simp at hg46s)
      have F49 := hF39.gn hg46
      clear hF39
      clear hg46
      rcases hm50 : fget qm (oth z (hlf z j)) with _ | ⟨fp51, fq52⟩
      ·
       have HM53 := lhd hm50
       clear hm50
       have ge54 : _ := FarMap.lookNo (F49.at 1 rfl : FarMap _ (w.heap.size + 1) cq qm) (by omega) HM53.out
       go_wp2_with fail
       clear ge54
       replace F49 := F49.new 89 #[.int .i64 0, .int .i64 0] (n := w48.heap.size) (by simp)
       have F56 : Bun w [rbox w19.heap.size 94 #[.int .i64 z.a, .int .i64 z.b, .int .i64 z.long, .int .i64 z.op, .int .i64 z.cost], rfar (w.heap.size + 1) cq qm, rbox w.heap.size 54 #[.int .i64 (n : Int), .slice (some ⟨x21, o22, none⟩) ls.length cL], rsl lgEnc 5 lo hi (.slice (some ⟨x21, o22, none⟩) ls.length cL) ls] _ := F49.pick [1, 2, 3, 4] (by decide) rfl
       clear F49
       (first | refine ⟨by kernel_rfl, ?_, ?_⟩ | refine ⟨rfl, ?_, ?_⟩ | refine ⟨?_, ?_⟩)
       · rw [HI38.out]; exact ⟨j + 1, _, _, _, by (iterate 9 refine ⟨by kernel_rfl, ?_⟩); exact ⟨(by show Value.int .i64 ((j : Int) + 1) = _; simp), (by omega), (lhd (by rw [HHN.out, hha.out, relx_no HM53.out])), (by omega), HFB, (by first | rfl | simp), (by first | omega | (simp; done) | (simp; omega)), F56⟩⟩
       · simp [slot, intOf]; omega
      have HM57 := lhd hm50
      clear hm50
      have HM57b := HFB.out.2 _ _ _ HM57.out
      have b58 := F49.bx5 0 rfl
      have ge59 : _ := FarMap.look (F49.at 1 rfl : FarMap _ (w.heap.size + 1) cq qm) (by omega) HM57.out
      replace F49 := F49.new 89 #[.int .i64 (fp51 + z.long), .int .i64 (fq52 + 1)] (n := w48.heap.size) (by simp)
      rcases hm61 : fget qm (hlf z j) with _ | ⟨fp62, fq63⟩
      ·
       have HM64 := lhd hm61
       clear hm61
       have b65 := F49.bx2 0 rfl
       have ge66 : _ := FarMap.lookNo (F49.at 2 rfl : FarMap _ (w.heap.size + 1) cq qm) (by omega) HM64.out
       replace F49 := F49.new 89 #[.int .i64 0, .int .i64 0] (n := (w48.heap.size + 1)) (by simp)
       obtain ⟨w68, hr69, F70, hs71⟩ := (F49.front 3 rfl rfl).farPut (by omega) (x := (hlf z j)) (p := fp51 + z.long) (q := fq52 + 1) (by rw [HFB.out.1]; omega) (by rw [HFB.out.1]; omega)
       (try simp at hr69 hs71)
       clear F49
       go_wp2_with fail
       clear hr69
       clear b58 ge59 b65 ge66
       go_wp2_with fail
       have F72 : Bun w [rbox w19.heap.size 94 #[.int .i64 z.a, .int .i64 z.b, .int .i64 z.long, .int .i64 z.op, .int .i64 z.cost], rfar (w.heap.size + 1) (cq + 1) (fset qm (hlf z j) (fp51 + z.long, fq52 + 1)), rbox w.heap.size 54 #[.int .i64 (n : Int), .slice (some ⟨x21, o22, none⟩) ls.length cL], rsl lgEnc 5 lo hi (.slice (some ⟨x21, o22, none⟩) ls.length cL) ls] _ := F70.pick [3, 0, 4, 5] (by decide) rfl
       clear F70
       (first | refine ⟨by kernel_rfl, ?_, ?_⟩ | refine ⟨rfl, ?_, ?_⟩ | refine ⟨?_, ?_⟩)
       · rw [HI38.out]; exact ⟨j + 1, _, _, _, by (iterate 9 refine ⟨by kernel_rfl, ?_⟩); exact ⟨(by show Value.int .i64 ((j : Int) + 1) = _; simp), (by omega), (lhd (by rw [HHN.out, hha.out, relx_new HM57.out HM64.out])), (by omega), (lhd (HFB.out.put (by omega) HM57.out (by omega))), (by first | rfl | simp), (by first | omega | (simp; done) | (simp; omega)), F72⟩⟩
       · simp [slot, intOf]; omega
      have HM73 := lhd hm61
      clear hm61
      have HM73b := HFB.out.2 _ _ _ HM73.out
      have b74 := F49.bx2 0 rfl
      have ge75 : _ := FarMap.look (F49.at 2 rfl : FarMap _ (w.heap.size + 1) cq qm) (by omega) HM73.out
      go_wp2_with fail
      clear b74 ge75
      clear b58 ge59
      replace F49 := F49.new 89 #[.int .i64 fp62, .int .i64 fq63] (n := (w48.heap.size + 1)) (by simp)
      refine (compare_c (fp51 + z.long) (fq52 + 1) fp62 fq63 _).mono ?_
      rintro e w79 ⟨rfl, hg77⟩
      have hg77s := hg77.size
      (try simp at hg77s)
      replace F49 := F49.gn hg77
      clear hg77
      by_cases c81 : fstE [cmpI (fp51 + z.long) fp62, cmpI (fq52 + 1) fq63] < 0
      ·
       have c81H := lhd c81
       have b82 := F49.bx2 1 rfl
       obtain ⟨w83, hr84, F85, hs86⟩ := (F49.front 3 rfl rfl).farPut (by omega) (x := (hlf z j)) (p := fp51 + z.long) (q := fq52 + 1) (by rw [HFB.out.1]; omega) (by rw [HFB.out.1]; omega)
       (try simp at hr84 hs86)
       clear F49
       go_wp2_with fail
       clear hr84
       clear b82
       go_wp2_with fail
       have F87 : Bun w [rbox w19.heap.size 94 #[.int .i64 z.a, .int .i64 z.b, .int .i64 z.long, .int .i64 z.op, .int .i64 z.cost], rfar (w.heap.size + 1) (cq + 1) (fset qm (hlf z j) (fp51 + z.long, fq52 + 1)), rbox w.heap.size 54 #[.int .i64 (n : Int), .slice (some ⟨x21, o22, none⟩) ls.length cL], rsl lgEnc 5 lo hi (.slice (some ⟨x21, o22, none⟩) ls.length cL) ls] _ := F85.pick [3, 0, 4, 5] (by decide) rfl
       clear F85
       (first | refine ⟨by kernel_rfl, ?_, ?_⟩ | refine ⟨rfl, ?_, ?_⟩ | refine ⟨?_, ?_⟩)
       · rw [HI38.out]; exact ⟨j + 1, _, _, _, by (iterate 9 refine ⟨by kernel_rfl, ?_⟩); exact ⟨(by show Value.int .i64 ((j : Int) + 1) = _; simp), (by omega), (lhd (by rw [HHN.out, hha.out, relx_less HM57.out HM73.out (by have h_ := c81H.out; omega)])), (by omega), (lhd (HFB.out.put (by omega) HM57.out (by omega))), (by first | rfl | simp), (by first | omega | (simp; done) | (simp; omega)), F87⟩⟩
       · simp [slot, intOf]; omega
      have c81H := lhd c81
      have c81a := dec_f c81
      go_wp2_with fail
      have F88 : Bun w [rbox w19.heap.size 94 #[.int .i64 z.a, .int .i64 z.b, .int .i64 z.long, .int .i64 z.op, .int .i64 z.cost], rfar (w.heap.size + 1) cq qm, rbox w.heap.size 54 #[.int .i64 (n : Int), .slice (some ⟨x21, o22, none⟩) ls.length cL], rsl lgEnc 5 lo hi (.slice (some ⟨x21, o22, none⟩) ls.length cL) ls] _ := F49.pick [2, 3, 4, 5] (by decide) rfl
      clear F49
      (first | refine ⟨by kernel_rfl, ?_, ?_⟩ | refine ⟨rfl, ?_, ?_⟩ | refine ⟨?_, ?_⟩)
      · rw [HI38.out]; exact ⟨j + 1, _, _, _, by (iterate 9 refine ⟨by kernel_rfl, ?_⟩); exact ⟨(by show Value.int .i64 ((j : Int) + 1) = _; simp), (by omega), (lhd (by rw [HHN.out, hha.out, relx_more HM57.out HM73.out (by have h_ := c81H.out; omega)])), (by omega), HFB, (by first | rfl | simp), (by first | omega | (simp; done) | (simp; omega)), F88⟩⟩
      · simp [slot, intOf]; omega
     have c42H := lhd c42
     have c42a := dec_f c42
     go_wp2_with fail
     have F89 : Bun w [rfar (w.heap.size + 1) cq qm, rbox w.heap.size 54 #[.int .i64 (n : Int), .slice (some ⟨x21, o22, none⟩) ls.length cL], rsl lgEnc 5 lo hi (.slice (some ⟨x21, o22, none⟩) ls.length cL) ls] _ := hF39.pick [1, 2, 3] (by decide) rfl
     clear hF39
     (first | refine ⟨by kernel_rfl, ?_, ?_⟩ | refine ⟨rfl, ?_, ?_⟩ | refine ⟨?_, ?_⟩)
     · rw [HI16.out]; exact ⟨i + 1, _, _, _, by (iterate 6 refine ⟨by kernel_rfl, ?_⟩); exact ⟨(by show Value.int .i64 ((i : Int) + 1) = _; simp), (by omega), (lhd (by rw [HFS.out, hst.out, lgx_yes HU.out, show 2 = j by omega]; exact hha.out)), (by omega), HFB, (by first | rfl | simp), (by first | omega | (simp; done) | (simp; omega)), F89⟩⟩
     · simp [slot, intOf]; omega
    case atStart2 =>
     rw [HI38.out]
     exact ⟨0, _, _, _, (by kernel_rfl), (by kernel_rfl), (by kernel_rfl), rfl, by (iterate 5 refine ⟨by kernel_rfl, ?_⟩); exact ⟨rfl, Nat.zero_le _, (lhd rfl), (by omega), HFB, rfl, (by first | exact Nat.le_refl _ | omega | (simp; done) | (simp; omega)), F30⟩⟩
   have c20H := lhd c20
   have c20a := dec_f c20
   obtain ⟨K2, hK2_, HDS2_⟩ := HDT.out.next (m' := sm) (mo := so) (by rw [rndF, ← List.take_of_length_le (l := ls) (i := i) (by omega)]; exact hst.out)
   have HDS2 := lhd HDS2_
   have hK2 : K2 + 1 <= K /\ K <= K2 + 1 := by omega
   clear hK2_ HDS2_
   have HFB3 := HFB2
   go_wp2_with fail
   go_wp2_with fail
   have F90 : Bun w [rfar (w.heap.size + 1) ci sm, rbox w.heap.size 54 #[.int .i64 (n : Int), .slice aL ls.length cL], rsl lgEnc 5 lo hi (.slice aL ls.length cL) ls] _ := hF17.pick [0, 1, 2] (by decide) rfl
   clear hF17
   (first | refine ⟨by kernel_rfl, K2, ?_, ?_⟩ | refine ⟨rfl, K2, ?_, ?_⟩ | refine ⟨K2, ?_, ?_⟩)
   · rw [HI9.out]; exact ⟨_, _, _, (by kernel_rfl), (by kernel_rfl), (by kernel_rfl), (by kernel_rfl), HDS2, (by omega), HFB3, rfl, (by first | omega | (simp; omega)), F90⟩
   · omega
  case atStart1 =>
   rw [HI16.out]
   exact ⟨0, _, _, _, (by kernel_rfl), (by kernel_rfl), (by kernel_rfl), rfl, (by kernel_rfl), (by kernel_rfl), rfl, Nat.zero_le _, (lhd rfl), (by omega), HFB, rfl, (by first | exact Nat.le_refl _ | omega | (simp; done) | (simp; omega)), hF11⟩
 case atG10 =>
  rw [HI9.out]
  exact ⟨true, _, _, (by kernel_rfl), (by kernel_rfl), (by kernel_rfl), (by kernel_rfl), HD, (by omega), HFB, rfl, Nat.le_refl _, F7⟩
set_option maxHeartbeats 16000000 in
theorem distS_c (lo hi : Nat) (v : Value) (ls : List Lg) (n : Nat) (to : Int) (K0 : Nat) (mf : FM) (w : World) (hl : Sl lgEnc 5 lo hi w v ls) (h2 : hi <= w.heap.size) (hls : ∀ l ∈ ls, LgOk n l) (hnl : n <= 40) (hln : ls.length <= 200) (hto : 0 <= to /\ to < n) (hK0 : K0 <= 1000) (hd : dstS ls useS mf K0 true (far0 n to)) :
  Calls Tryz.prog 30 #[.agg #[.int .i64 (n : Int), v], .int .i64 to, .func (.func 32) #[] #[]] w (fun e w' => ∃ b k, e = .returned (.map (some b)) /\ w.heap.size <= b /\ FarMap w' b k mf /\ (k <= 400001 /\ farB k n mf) /\ w.grownBy w' none) := by
 have hmm := @run_makeMap Tryz.prog
 have F1 : Bun w [] w := Bun.nil _
 have hm_ls := hl.len
 unfold maxLen at hm_ls
 obtain ⟨aL, cL, rfl⟩ := hl.any
 replace F1 := F1.sl0 hl h2 rfl
 clear hl
 have HLS := lhd hls
 have HD := lhd hd
 clear hls hd
 go_enter Tryz.func30, Tryz.ntmps30
 replace F1 := F1.new 54 #[.int .i64 (n : Int), .slice aL ls.length cL] (n := w.heap.size) (by simp)
 replace F1 := F1.farNew n (g := (w.heap.size + 1)) (by simp)
 obtain ⟨w5, hr6, F7, hs8⟩ := F1.farPut (by omega) (x := to) (p := 0) (q := 0) (by rw [List.length_replicate]; omega) (by rw [List.length_replicate]; omega)
 (try simp at hr6 hs8)
 clear F1
 go_wp2_with fail
 clear hr6
 have HFB := lhd (farB_0 (n := n) (x := to) hto)
 go_wp2_with fail
 go_wp2_with fail
 obtain ⟨HI9_, HI90⟩ : ∃ I : Nat -> RelT, I = (fun K t ds wr => ∃ (mo : Bool) (m : FM) (cn : Nat), t 2 = .func (.func 32) #[] #[] /\ t 3 = .pointer (some ⟨w.heap.size, 0, none⟩) /\ t 7 = .map (some (w.heap.size + 1)) /\ t 8 = .bool mo /\ Hid (dstS ls useS mf K mo m) /\ (cn + 400 * K <= 400 * 1000 + 1) /\ Hid (farB cn n m) /\ ds = [] /\ w5.heap.size <= wr.heap.size /\ Bun w [rfar (w.heap.size + 1) cn m, rbox w.heap.size 54 #[.int .i64 (n : Int), .slice aL ls.length cL], rsl lgEnc 5 lo hi (.slice aL ls.length cL) ls] wr) := ⟨_, rfl⟩
 have HI9 := lhd HI90
 clear HI90
 refine wp_loopG 82 rfl HI9_ K0 ?atG10 ?roG10
 case roG10 =>
  intro K t ds wr hHid
  rw [HI9.out] at hHid
  obtain ⟨mo, m, cn, e2, e3, e7, e8, HDS, hcn, HFB, rfl, hs12, hF11⟩ := hHid
  clear F7
  have e := rgN382 t
  (try dsimp only at e)
  rw [e2, e3, e7, e8] at e
  rw [e]
  clear e e2 e3 e7 e8
  obtain ⟨w13, rfl⟩ : ∃ x_ : World, x_ = wr := ⟨_, rfl⟩
  cases c14 : mo
  ·
   have c14H := lhd c14
   have HME : Hid (m = mf) := lhd (by have h_ := HDS.out; rw [c14] at h_; exact h_)
   go_wp2_with fail
   exact bodyPost_ret (v := .map (some (w.heap.size + 1))) (by simp [results, Tryz.results30, go_sem]) rfl ((⟨(w.heap.size + 1), _, rfl, (by first | omega | (simp; omega)), (by have h_ := (hF11.at 0 rfl : FarMap _ (w.heap.size + 1) cn m); rw [HME.out] at h_; exact h_), ⟨(by omega), (by have h_ := HFB.out; rw [HME.out] at h_; exact h_)⟩, hF11.gb⟩))
  have c14H := lhd c14
  have HDT : Hid (dstS ls useS mf K true m) := lhd (by have h_ := HDS.out; rwa [c14] at h_)
  have b15 := hF11.bx2 1 rfl
  go_wp2_with fail
  clear b15
  obtain ⟨HI16_, HI160⟩ : ∃ I : RelT, I = (fun t ds wr => ∃ (i : Nat) (sm : FM) (so : Bool) (ci : Nat), t 2 = .func (.func 32) #[] #[] /\ t 3 = .pointer (some ⟨w.heap.size, 0, none⟩) /\ t 7 = .map (some (w.heap.size + 1)) /\ t 8 = .bool so /\ t 24 = .slice aL ls.length cL /\ t 25 = .int .i64 (ls.length : Int) /\ t 26 = .int .i64 (i : Int) /\ i <= ls.length /\ Hid ((ls.take i).foldl (lgx useS) (m, false) = (sm, so)) /\ ci <= cn + 2 * i /\ Hid (farB ci n sm) /\ ds = [] /\ w13.heap.size <= wr.heap.size /\ Bun w [rfar (w.heap.size + 1) ci sm, rbox w.heap.size 54 #[.int .i64 (n : Int), .slice aL ls.length cL], rsl lgEnc 5 lo hi (.slice aL ls.length cL) ls] wr) := ⟨_, rfl⟩
  have HI16 := lhd HI160
  clear HI160
  refine wp_loopS 82 rfl HI16_ (fun t wr => ls.length - (intOf (t 26)).toNat) ?atStart3 ?round3
  case round3 =>
   intro t ds wr hHid
   rw [HI16.out] at hHid
   obtain ⟨i, sm, so, ci, e2, e3, e7, e8, e24, e25, e26, hrel⟩ := hHid
   have e := rgN382 t
   (try dsimp only at e)
   rw [e2, e3, e7, e8, e24, e25, e26] at e
   rw [e]
   simp only [e26]
   clear e e2 e3 e7 e8 e24 e25 e26
   obtain ⟨hi_, hst, hci, HFB2, rfl, hs18, hF17⟩ := hrel
   clear hF11
   obtain ⟨w19, rfl⟩ : ∃ x_ : World, x_ = wr := ⟨_, rfl⟩
   have HFB := HFB2
   by_cases c20 : (i : Int) < (ls.length : Int)
   ·
    have c20H := lhd c20
    obtain ⟨x21, o22, e_⟩ := Sl.addr (hF17.s 2 rfl) (by omega)
    subst e_
    obtain ⟨z, hz23_⟩ : ∃ z_, ls[i]? = some z_ := ⟨_, List.getElem?_eq_getElem (by omega)⟩
    have hz23 := lhd hz23_
    clear hz23_
    have HZK := lhd (HLS.out z (List.mem_of_getElem? hz23.out))
    have hzl := HZK.out.long
    have HFS := lhd (foldl_snoc' (lgx useS) (m, false) hz23.out)
    have ge24 : World.cell? _ ⟨x21, o22 + i * 5, none⟩ = some (.int .i64 z.a) := (Sl.cells (hF17.at 2 rfl) hz23.out 0 _ rfl)
    have gl25 := cell_lt ge24
    have ge26 : World.cell? _ ⟨x21, o22 + i * 5 + 1, none⟩ = some (.int .i64 z.b) := (Sl.cells (hF17.at 2 rfl) hz23.out 1 _ rfl)
    have ge27 : World.cell? _ ⟨x21, o22 + i * 5 + 2, none⟩ = some (.int .i64 z.long) := (Sl.cells (hF17.at 2 rfl) hz23.out 2 _ rfl)
    have ge28 : World.cell? _ ⟨x21, o22 + i * 5 + 3, none⟩ = some (.int .i64 z.op) := (Sl.cells (hF17.at 2 rfl) hz23.out 3 _ rfl)
    have ge29 : World.cell? _ ⟨x21, o22 + i * 5 + 4, none⟩ = some (.int .i64 z.cost) := (Sl.cells (hF17.at 2 rfl) hz23.out 4 _ rfl)
    go_wp2_with fail
    clear ge24 gl25 ge26 ge27 ge28 ge29
    have F30 := hF17.new 94 #[.int .i64 z.a, .int .i64 z.b, .int .i64 z.long, .int .i64 z.op, .int .i64 z.cost] (n := w19.heap.size) (by simp)
    clear hF17
    refine (useS_c z _).mono ?_
    rintro e w33 ⟨rfl, hg31⟩
    have hg31s := hg31.size
    (try simp at hg31s)
    replace F30 := F30.gn hg31
    clear hg31
    cases c35 : useS z
    ·
     have c35H := lhd c35
     have HU := lhd c35
     go_wp2_with fail
     have F36 : Bun w [rfar (w.heap.size + 1) ci sm, rbox w.heap.size 54 #[.int .i64 (n : Int), .slice (some ⟨x21, o22, none⟩) ls.length cL], rsl lgEnc 5 lo hi (.slice (some ⟨x21, o22, none⟩) ls.length cL) ls] _ := F30.pick [1, 2, 3] (by decide) rfl
     clear F30
     (first | refine ⟨by kernel_rfl, ?_, ?_⟩ | refine ⟨rfl, ?_, ?_⟩ | refine ⟨?_, ?_⟩)
     · rw [HI16.out]; exact ⟨i + 1, _, _, _, by (iterate 6 refine ⟨by kernel_rfl, ?_⟩); exact ⟨(by show Value.int .i64 ((i : Int) + 1) = _; simp), (by omega), (lhd (by rw [HFS.out, hst.out, lgx_no HU.out])), (by omega), HFB, (by first | rfl | simp), (by first | omega | (simp; done) | (simp; omega)), F36⟩⟩
     · simp [slot, intOf]; omega
    have c35H := lhd c35
    have HU := lhd c35
    have b37 := F30.bx5 0 rfl
    go_wp2_with fail
    clear b37
    obtain ⟨HI38_, HI380⟩ : ∃ I : RelT, I = (fun t ds wr => ∃ (j : Nat) (qm : FM) (qo : Bool) (cq : Nat), t 2 = .func (.func 32) #[] #[] /\ t 3 = .pointer (some ⟨w.heap.size, 0, none⟩) /\ t 7 = .map (some (w.heap.size + 1)) /\ t 8 = .bool qo /\ t 10 = .pointer (some ⟨w19.heap.size, 0, none⟩) /\ t 24 = .slice (some ⟨x21, o22, none⟩) ls.length cL /\ t 25 = .int .i64 (ls.length : Int) /\ t 26 = .int .i64 (i : Int) /\ t 38 = .agg #[.int .i64 z.a, .int .i64 z.b] /\ t 39 = .int .i64 (j : Int) /\ j <= 2 /\ Hid (hal z (sm, so) j = (qm, qo)) /\ cq <= ci + j /\ Hid (farB cq n qm) /\ ds = [] /\ w33.heap.size <= wr.heap.size /\ Bun w [rbox w19.heap.size 94 #[.int .i64 z.a, .int .i64 z.b, .int .i64 z.long, .int .i64 z.op, .int .i64 z.cost], rfar (w.heap.size + 1) cq qm, rbox w.heap.size 54 #[.int .i64 (n : Int), .slice (some ⟨x21, o22, none⟩) ls.length cL], rsl lgEnc 5 lo hi (.slice (some ⟨x21, o22, none⟩) ls.length cL) ls] wr) := ⟨_, rfl⟩
    have HI38 := lhd HI380
    clear HI380
    refine wp_loopS 82 rfl HI38_ (fun t wr => 2 - (intOf (t 39)).toNat) ?atStart4 ?round4
    case round4 =>
     intro t ds wr hHid
     rw [HI38.out] at hHid
     obtain ⟨j, qm, qo, cq, e2, e3, e7, e8, e10, e24, e25, e26, e38, e39, hrel⟩ := hHid
     have e := rgN382 t
     (try dsimp only at e)
     rw [e2, e3, e7, e8, e10, e24, e25, e26, e38, e39] at e
     rw [e]
     simp only [e39]
     clear e e2 e3 e7 e8 e10 e24 e25 e26 e38 e39
     obtain ⟨hj, hha, hcq, HFB2q, rfl, hs40, hF39⟩ := hrel
     clear F30
     obtain ⟨w41, rfl⟩ : ∃ x_ : World, x_ = wr := ⟨_, rfl⟩
     have HFB := HFB2q
     by_cases c42 : (j : Int) < 2
     ·
      have c42H := lhd c42
      have hxb := hlf_bd HZK.out j
      have hob := oth_bd HZK.out (hlf z j)
      have HHN := lhd (hal_next (l := z) (s := (sm, so)) (j := j) (by omega))
      have b44 := hF39.bx5 0 rfl
      have ge45 : ∀ w, (Instr.index 126 (.agg #[.int .i64 z.a, .int .i64 z.b]) (.int .i64 (j : Int))).run Tryz.prog w = .ok (.int .i64 (hlf z j)) w := (by rcases (show j = 0 ∨ j = 1 by omega) with rfl | rfl <;> exact fun _ => by kernel_rfl)
      go_wp2_with fail
      clear b44 ge45
      refine (other_c z (hlf z j) _).mono ?_
      rintro e w48 ⟨rfl, hg46⟩
      have hg46s := hg46.size
      (try simp at hg46s)
      have F49 := hF39.gn hg46
      clear hF39
      clear hg46
      rcases hm50 : fget qm (oth z (hlf z j)) with _ | ⟨fp51, fq52⟩
      ·
       have HM53 := lhd hm50
       clear hm50
       have ge54 : _ := FarMap.lookNo (F49.at 1 rfl : FarMap _ (w.heap.size + 1) cq qm) (by omega) HM53.out
       go_wp2_with fail
       clear ge54
       replace F49 := F49.new 89 #[.int .i64 0, .int .i64 0] (n := w48.heap.size) (by simp)
       have F56 : Bun w [rbox w19.heap.size 94 #[.int .i64 z.a, .int .i64 z.b, .int .i64 z.long, .int .i64 z.op, .int .i64 z.cost], rfar (w.heap.size + 1) cq qm, rbox w.heap.size 54 #[.int .i64 (n : Int), .slice (some ⟨x21, o22, none⟩) ls.length cL], rsl lgEnc 5 lo hi (.slice (some ⟨x21, o22, none⟩) ls.length cL) ls] _ := F49.pick [1, 2, 3, 4] (by decide) rfl
       clear F49
       (first | refine ⟨by kernel_rfl, ?_, ?_⟩ | refine ⟨rfl, ?_, ?_⟩ | refine ⟨?_, ?_⟩)
       · rw [HI38.out]; exact ⟨j + 1, _, _, _, by (iterate 9 refine ⟨by kernel_rfl, ?_⟩); exact ⟨(by show Value.int .i64 ((j : Int) + 1) = _; simp), (by omega), (lhd (by rw [HHN.out, hha.out, relx_no HM53.out])), (by omega), HFB, (by first | rfl | simp), (by first | omega | (simp; done) | (simp; omega)), F56⟩⟩
       · simp [slot, intOf]; omega
      have HM57 := lhd hm50
      clear hm50
      have HM57b := HFB.out.2 _ _ _ HM57.out
      have b58 := F49.bx5 0 rfl
      have ge59 : _ := FarMap.look (F49.at 1 rfl : FarMap _ (w.heap.size + 1) cq qm) (by omega) HM57.out
      replace F49 := F49.new 89 #[.int .i64 (fp51 + z.long), .int .i64 (fq52 + 1)] (n := w48.heap.size) (by simp)
      rcases hm61 : fget qm (hlf z j) with _ | ⟨fp62, fq63⟩
      ·
       have HM64 := lhd hm61
       clear hm61
       have b65 := F49.bx2 0 rfl
       have ge66 : _ := FarMap.lookNo (F49.at 2 rfl : FarMap _ (w.heap.size + 1) cq qm) (by omega) HM64.out
       replace F49 := F49.new 89 #[.int .i64 0, .int .i64 0] (n := (w48.heap.size + 1)) (by simp)
       obtain ⟨w68, hr69, F70, hs71⟩ := (F49.front 3 rfl rfl).farPut (by omega) (x := (hlf z j)) (p := fp51 + z.long) (q := fq52 + 1) (by rw [HFB.out.1]; omega) (by rw [HFB.out.1]; omega)
       (try simp at hr69 hs71)
       clear F49
       go_wp2_with fail
       clear hr69
       clear b58 ge59 b65 ge66
       go_wp2_with fail
       have F72 : Bun w [rbox w19.heap.size 94 #[.int .i64 z.a, .int .i64 z.b, .int .i64 z.long, .int .i64 z.op, .int .i64 z.cost], rfar (w.heap.size + 1) (cq + 1) (fset qm (hlf z j) (fp51 + z.long, fq52 + 1)), rbox w.heap.size 54 #[.int .i64 (n : Int), .slice (some ⟨x21, o22, none⟩) ls.length cL], rsl lgEnc 5 lo hi (.slice (some ⟨x21, o22, none⟩) ls.length cL) ls] _ := F70.pick [3, 0, 4, 5] (by decide) rfl
       clear F70
       (first | refine ⟨by kernel_rfl, ?_, ?_⟩ | refine ⟨rfl, ?_, ?_⟩ | refine ⟨?_, ?_⟩)
       · rw [HI38.out]; exact ⟨j + 1, _, _, _, by (iterate 9 refine ⟨by kernel_rfl, ?_⟩); exact ⟨(by show Value.int .i64 ((j : Int) + 1) = _; simp), (by omega), (lhd (by rw [HHN.out, hha.out, relx_new HM57.out HM64.out])), (by omega), (lhd (HFB.out.put (by omega) HM57.out (by omega))), (by first | rfl | simp), (by first | omega | (simp; done) | (simp; omega)), F72⟩⟩
       · simp [slot, intOf]; omega
      have HM73 := lhd hm61
      clear hm61
      have HM73b := HFB.out.2 _ _ _ HM73.out
      have b74 := F49.bx2 0 rfl
      have ge75 : _ := FarMap.look (F49.at 2 rfl : FarMap _ (w.heap.size + 1) cq qm) (by omega) HM73.out
      go_wp2_with fail
      clear b74 ge75
      clear b58 ge59
      replace F49 := F49.new 89 #[.int .i64 fp62, .int .i64 fq63] (n := (w48.heap.size + 1)) (by simp)
      refine (compare_c (fp51 + z.long) (fq52 + 1) fp62 fq63 _).mono ?_
      rintro e w79 ⟨rfl, hg77⟩
      have hg77s := hg77.size
      (try simp at hg77s)
      replace F49 := F49.gn hg77
      clear hg77
      by_cases c81 : fstE [cmpI (fp51 + z.long) fp62, cmpI (fq52 + 1) fq63] < 0
      ·
       have c81H := lhd c81
       have b82 := F49.bx2 1 rfl
       obtain ⟨w83, hr84, F85, hs86⟩ := (F49.front 3 rfl rfl).farPut (by omega) (x := (hlf z j)) (p := fp51 + z.long) (q := fq52 + 1) (by rw [HFB.out.1]; omega) (by rw [HFB.out.1]; omega)
       (try simp at hr84 hs86)
       clear F49
       go_wp2_with fail
       clear hr84
       clear b82
       go_wp2_with fail
       have F87 : Bun w [rbox w19.heap.size 94 #[.int .i64 z.a, .int .i64 z.b, .int .i64 z.long, .int .i64 z.op, .int .i64 z.cost], rfar (w.heap.size + 1) (cq + 1) (fset qm (hlf z j) (fp51 + z.long, fq52 + 1)), rbox w.heap.size 54 #[.int .i64 (n : Int), .slice (some ⟨x21, o22, none⟩) ls.length cL], rsl lgEnc 5 lo hi (.slice (some ⟨x21, o22, none⟩) ls.length cL) ls] _ := F85.pick [3, 0, 4, 5] (by decide) rfl
       clear F85
       (first | refine ⟨by kernel_rfl, ?_, ?_⟩ | refine ⟨rfl, ?_, ?_⟩ | refine ⟨?_, ?_⟩)
       · rw [HI38.out]; exact ⟨j + 1, _, _, _, by (iterate 9 refine ⟨by kernel_rfl, ?_⟩); exact ⟨(by show Value.int .i64 ((j : Int) + 1) = _; simp), (by omega), (lhd (by rw [HHN.out, hha.out, relx_less HM57.out HM73.out (by have h_ := c81H.out; omega)])), (by omega), (lhd (HFB.out.put (by omega) HM57.out (by omega))), (by first | rfl | simp), (by first | omega | (simp; done) | (simp; omega)), F87⟩⟩
       · simp [slot, intOf]; omega
      have c81H := lhd c81
      have c81a := dec_f c81
      go_wp2_with fail
      have F88 : Bun w [rbox w19.heap.size 94 #[.int .i64 z.a, .int .i64 z.b, .int .i64 z.long, .int .i64 z.op, .int .i64 z.cost], rfar (w.heap.size + 1) cq qm, rbox w.heap.size 54 #[.int .i64 (n : Int), .slice (some ⟨x21, o22, none⟩) ls.length cL], rsl lgEnc 5 lo hi (.slice (some ⟨x21, o22, none⟩) ls.length cL) ls] _ := F49.pick [2, 3, 4, 5] (by decide) rfl
      clear F49
      (first | refine ⟨by kernel_rfl, ?_, ?_⟩ | refine ⟨rfl, ?_, ?_⟩ | refine ⟨?_, ?_⟩)
      · rw [HI38.out]; exact ⟨j + 1, _, _, _, by (iterate 9 refine ⟨by kernel_rfl, ?_⟩); exact ⟨(by show Value.int .i64 ((j : Int) + 1) = _; simp), (by omega), (lhd (by rw [HHN.out, hha.out, relx_more HM57.out HM73.out (by have h_ := c81H.out; omega)])), (by omega), HFB, (by first | rfl | simp), (by first | omega | (simp; done) | (simp; omega)), F88⟩⟩
      · simp [slot, intOf]; omega
     have c42H := lhd c42
     have c42a := dec_f c42
     go_wp2_with fail
     have F89 : Bun w [rfar (w.heap.size + 1) cq qm, rbox w.heap.size 54 #[.int .i64 (n : Int), .slice (some ⟨x21, o22, none⟩) ls.length cL], rsl lgEnc 5 lo hi (.slice (some ⟨x21, o22, none⟩) ls.length cL) ls] _ := hF39.pick [1, 2, 3] (by decide) rfl
     clear hF39
     (first | refine ⟨by kernel_rfl, ?_, ?_⟩ | refine ⟨rfl, ?_, ?_⟩ | refine ⟨?_, ?_⟩)
     · rw [HI16.out]; exact ⟨i + 1, _, _, _, by (iterate 6 refine ⟨by kernel_rfl, ?_⟩); exact ⟨(by show Value.int .i64 ((i : Int) + 1) = _; simp), (by omega), (lhd (by rw [HFS.out, hst.out, lgx_yes HU.out, show 2 = j by omega]; exact hha.out)), (by omega), HFB, (by first | rfl | simp), (by first | omega | (simp; done) | (simp; omega)), F89⟩⟩
     · simp [slot, intOf]; omega
    case atStart4 =>
     rw [HI38.out]
     exact ⟨0, _, _, _, (by kernel_rfl), (by kernel_rfl), (by kernel_rfl), rfl, by (iterate 5 refine ⟨by kernel_rfl, ?_⟩); exact ⟨rfl, Nat.zero_le _, (lhd rfl), (by omega), HFB, rfl, (by first | exact Nat.le_refl _ | omega | (simp; done) | (simp; omega)), F30⟩⟩
   have c20H := lhd c20
   have c20a := dec_f c20
   obtain ⟨K2, hK2_, HDS2_⟩ := HDT.out.next (m' := sm) (mo := so) (by rw [rndF, ← List.take_of_length_le (l := ls) (i := i) (by omega)]; exact hst.out)
   have HDS2 := lhd HDS2_
   have hK2 : K2 + 1 <= K /\ K <= K2 + 1 := by omega
   clear hK2_ HDS2_
   have HFB3 := HFB2
   go_wp2_with fail
   go_wp2_with fail
   have F90 : Bun w [rfar (w.heap.size + 1) ci sm, rbox w.heap.size 54 #[.int .i64 (n : Int), .slice aL ls.length cL], rsl lgEnc 5 lo hi (.slice aL ls.length cL) ls] _ := hF17.pick [0, 1, 2] (by decide) rfl
   clear hF17
   (first | refine ⟨by kernel_rfl, K2, ?_, ?_⟩ | refine ⟨rfl, K2, ?_, ?_⟩ | refine ⟨K2, ?_, ?_⟩)
   · rw [HI9.out]; exact ⟨_, _, _, (by kernel_rfl), (by kernel_rfl), (by kernel_rfl), (by kernel_rfl), HDS2, (by omega), HFB3, rfl, (by first | omega | (simp; omega)), F90⟩
   · omega
  case atStart3 =>
   rw [HI16.out]
   exact ⟨0, _, _, _, (by kernel_rfl), (by kernel_rfl), (by kernel_rfl), rfl, (by kernel_rfl), (by kernel_rfl), rfl, Nat.zero_le _, (lhd rfl), (by omega), HFB, rfl, (by first | exact Nat.le_refl _ | omega | (simp; done) | (simp; omega)), hF11⟩
 case atG10 =>
  rw [HI9.out]
  exact ⟨true, _, _, (by kernel_rfl), (by kernel_rfl), (by kernel_rfl), (by kernel_rfl), HD, (by omega), HFB, rfl, Nat.le_refl _, F7⟩
end Go.Proofs.YtcoldeolmleeiaaGreat
