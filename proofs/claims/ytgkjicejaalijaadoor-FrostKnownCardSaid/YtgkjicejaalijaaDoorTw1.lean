/- frost: logs of days as texts. -/
import Derived.Test.YtgkjicejaalijaaDoorF17
import Derived.Test.YtgkjicejaalijaaDoorBld3
set_option linter.unusedVariables false
set_option linter.unusedSimpArgs false
set_option linter.unnecessarySimpa false
namespace Go.Proofs.YtgkjicejaalijaaDoor
open Go.RowKit Go.Shelf
set_option maxRecDepth 100000

/-- The text of a day, and of a log. -/
def numT (n : Int) : List UInt8 := 32 :: Lib.itoa n
def dayT (d : Wea) : List UInt8 := [100, 97, 121] ++ numT d.cold.lo ++ numT d.cold.hi ++ numT d.fall.lo ++ numT d.fall.hi ++ numT d.water ++ (if d.clear then [32, 99, 108, 101, 97, 114, 10] else [32, 115, 110, 111, 119, 10])
def logT : List Wea → List UInt8
  | [] => []
  | d :: l => dayT d ++ logT l
theorem numT_len {n : Int} (h : -1000000 ≤ n ∧ n ≤ 1000000) : (numT n).length ≤ 22 := by
  have := itoa_len n (by omega)
  simp only [numT, List.length_cons]
  omega
theorem dayT_len {d : Wea} (h : WeaOk d) : (dayT d).length ≤ 200 := by
  have h1 := h.cold
  have h2 := h.fall
  have h3 := h.water
  have a1 := numT_len (n := d.cold.lo) (by omega)
  have a2 := numT_len (n := d.cold.hi) (by omega)
  have a3 := numT_len (n := d.fall.lo) (by omega)
  have a4 := numT_len (n := d.fall.hi) (by omega)
  have a5 := numT_len (n := d.water) (by omega)
  unfold dayT
  simp only [List.length_append, List.length_cons, List.length_nil]
  split <;> simp only [List.length_cons, List.length_nil] <;> omega
theorem logT_app : ∀ (l : List Wea) (d : Wea), logT (l ++ [d]) = logT l ++ dayT d
  | [], d => by simp [logT]
  | a :: l, d => by simp [logT, logT_app l d]
theorem logT_len : ∀ {l : List Wea}, (∀ d ∈ l, WeaOk d) → (logT l).length ≤ 200 * l.length
  | [], _ => by simp [logT]
  | d :: l, h => by
    have h1 := dayT_len (h d (.head _))
    have h2 := logT_len fun x hx => h x (.tail _ hx)
    simp only [logT, List.length_append, List.length_cons]
    omega
theorem logT_take {l : List Wea} {i : Nat} {d : Wea} (h : l[i]? = some d) : logT (l.take (i + 1)) = logT (l.take i) ++ dayT d := by
  rw [List.take_add_one, h]
  exact logT_app _ _
theorem logT_bd {l : List Wea} (h : l.length ≤ 400 ∧ ∀ d ∈ l, WeaOk d) (i : Nat) : (logT (l.take i)).length ≤ 80000 := by
  have h1 := logT_len (l := l.take i) fun d hd => h.2 d (List.mem_of_mem_take hd)
  have h2 : (l.take i).length ≤ l.length := by rw [List.length_take]; omega
  have h3 := h.1
  omega
def wrS (l : List Wea) : ByteArray := if daysE l = 0 then ⟨(logT l).toArray⟩ else ⟨#[]⟩
theorem num_str (n : Int) : (ByteArray.mk #[32] ++ ⟨(Lib.itoa n).toArray⟩).data.toList = numT n := by simp [numT]
theorem dayT_c {d : Wea} (x : List UInt8) (h : d.clear = true) : x ++ [100, 97, 121] ++ numT d.cold.lo ++ numT d.cold.hi ++ numT d.fall.lo ++ numT d.fall.hi ++ numT d.water ++ [32, 99, 108, 101, 97, 114, 10] = x ++ dayT d := by simp [dayT, h]
theorem dayT_s {d : Wea} (x : List UInt8) (h : d.clear = false) : x ++ [100, 97, 121] ++ numT d.cold.lo ++ numT d.cold.hi ++ numT d.fall.lo ++ numT d.fall.hi ++ numT d.water ++ [32, 115, 110, 111, 119, 10] = x ++ dayT d := by simp [dayT, h]
set_option maxHeartbeats 16000000 in
theorem fwrite_c (lo hi : Nat) (v : Value) (l : List Wea) (w : World) (hl : Sl weaEnc 6 lo hi w v l) (h2 : hi ≤ w.heap.size) (ht : Lib.TabIs Tryd.prog w powName .u64 Lib.pow10Tab) (hg : ∀ g, Tryd.prog.globalNamed powName = some g → g < w.heap.size) :
    Calls Tryd.prog 42 #[v] w (Ret (.tuple #[.string (wrS l), .int .i64 (daysE l)]) w) := by
  have F1 : Bun w [] w := Bun.nil _
  have hm_ds := hl.len
  unfold maxLen at hm_ds
  obtain ⟨da, dc, rfl⟩ := hl.any
  have F2 := F1.sl0 hl h2 rfl
  clear F1
  clear hl
  have HTB := Lib.hid ht
  clear ht
  have F3 := Bun.tab0 F2 HTB.out hg
  clear F2
  go_enter Tryd.func42, Tryd.ntmps42
  go_wp2_with fail
  refine (checkDays_c lo hi _ l _ (F3.at 1 rfl : Sl weaEnc 6 lo hi _ (.slice da l.length dc) l) (Nat.le_trans h2 F3.gb.size)).mono ?_
  rintro e w6 ⟨rfl, hg4⟩
  have hg4s := hg4.size
  (try simp at hg4s)
  have F7 := F3.gn hg4
  clear F3
  clear hg4
  by_cases c8 : daysE l = 0
  · skip
    have c8a : ((daysE l) == 0) = true := beq_t c8
    have c8b : ((daysE l) != 0) = false := bne_f c8
    have c8H := Lib.hid c8
    clear c8
    have HOK := Lib.hid (daysOk c8H.out)
    have hn4 := HOK.out.1
    go_wp2_with fail
    have F9 := F7.new 130 #[.pointer none, .slice none 0 0] (n := w6.heap.size) (by simp)
    clear F7
    obtain ⟨w10, hx11, F13, hxs12⟩ := (show Bun w [rbox w6.heap.size 130 #[.pointer none, .slice none 0 0], rtab Tryd.prog w.heap.size powName .u64 Lib.pow10Tab, rsl weaEnc 6 lo hi (.slice da l.length dc) l] _ from F9).name
    (try simp at hxs12)
    rw [hx11]
    clear hx11 F9
    have F14 : Bun w [rbld 130 5 w.heap.size w6.heap.size (.pointer none) (.slice none 0 0) (Lib.byteCells []), rtab Tryd.prog w.heap.size powName .u64 Lib.pow10Tab, rsl weaEnc 6 lo hi (.slice da l.length dc) l] _ := Bun.bld0 (e := 5) F13
    clear F13
    go_wp2_with fail
    obtain ⟨HI15_, HI150⟩ : ∃ I : (Nat → Value) → List Deferred → World → Prop, I = (fun t ds wr => ∃ (k : Nat) (pb vb : Value), t 5 = .pointer (some ⟨w6.heap.size, 0, none⟩) ∧ t 15 = .slice da l.length dc ∧ t 16 = .int .i64 (l.length : Int) ∧ t 17 = .int .i64 (k : Int) ∧ k ≤ l.length ∧ Hid (pb = .pointer none ∨ pb = .pointer (some ⟨w6.heap.size, 0, none⟩)) ∧ ds = [] ∧ w10.heap.size ≤ wr.heap.size ∧ Bun w [rbld 130 5 w.heap.size w6.heap.size pb vb (Lib.byteCells (logT (l.take k))), rtab Tryd.prog w.heap.size powName .u64 Lib.pow10Tab, rsl weaEnc 6 lo hi (.slice da l.length dc) l] wr) := ⟨_, rfl⟩
    have HI15 := Lib.hid HI150
    clear HI150
    refine wp_loopS 51 rfl HI15_ (fun t wr => l.length - (intOf (t 17)).toNat) ?atStart1 ?round1
    case round1 =>
      intro t ds wr hHid
      rw [HI15.out] at hHid
      obtain ⟨k, pb, vb, e5, e15, e16, e17, hrel⟩ := hHid
      have e : ((List.range 51).map t).toArray = #[t 0, t 1, t 2, t 3, t 4, t 5, t 6, t 7, t 8, t 9, t 10, t 11, t 12, t 13, t 14, t 15, t 16, t 17, t 18, t 19, t 20, t 21, t 22, t 23, t 24, t 25, t 26, t 27, t 28, t 29, t 30, t 31, t 32, t 33, t 34, t 35, t 36, t 37, t 38, t 39, t 40, t 41, t 42, t 43, t 44, t 45, t 46, t 47, t 48, t 49, t 50] := rfl
      (try dsimp only at e)
      rw [e5, e15, e16, e17] at e
      rw [e]
      simp only [e17]
      clear e e5 e15 e16 e17
      obtain ⟨hk, hpb, rfl, hs17, hF16⟩ := hrel
      clear F14
      obtain ⟨w18, rfl⟩ : ∃ x_ : World, x_ = wr := ⟨_, rfl⟩
      have HPB := hpb
      by_cases c19 : (k : Int) < (l.length : Int)
      · skip
        have c19H := Lib.hid c19
        obtain ⟨x20, o21, e_⟩ := Sl.addr (hF16.at 2 rfl : Sl weaEnc 6 lo hi _ (.slice da l.length dc) l) (by omega)
        subst e_
        obtain ⟨z, hz22_⟩ : ∃ z_, l[k]? = some z_ := ⟨_, List.getElem?_eq_getElem (by omega)⟩
        have hz22 := Lib.hid hz22_
        clear hz22_
        have HLT := Lib.hid (logT_take hz22.out)
        have hzo := HOK.out.2 z (List.mem_of_getElem? hz22.out)
        have hzc := hzo.cold
        have hzf := hzo.fall
        have hzw := hzo.water
        have hlb := logT_bd HOK.out k
        have hb1 := numT_len (n := z.cold.lo) (by omega)
        have hb2 := numT_len (n := z.cold.hi) (by omega)
        have hb3 := numT_len (n := z.fall.lo) (by omega)
        have hb4 := numT_len (n := z.fall.hi) (by omega)
        have hb5 := numT_len (n := z.water) (by omega)
        clear hzo
        have ge23 : World.cell? _ ⟨x20, o21 + k * 6, none⟩ = some (.int .i64 z.cold.lo) := (((hF16.at 2 rfl : Sl weaEnc 6 lo hi _ (.slice (some ⟨x20, o21, none⟩) l.length dc) l)).cells hz22.out 0 _ rfl)
        have gl24 := cell_lt ge23
        have ge25 : World.cell? _ ⟨x20, o21 + k * 6 + 1, none⟩ = some (.int .i64 z.cold.hi) := (((hF16.at 2 rfl : Sl weaEnc 6 lo hi _ (.slice (some ⟨x20, o21, none⟩) l.length dc) l)).cells hz22.out 1 _ rfl)
        have ge26 : World.cell? _ ⟨x20, o21 + k * 6 + 2, none⟩ = some (.int .i64 z.fall.lo) := (((hF16.at 2 rfl : Sl weaEnc 6 lo hi _ (.slice (some ⟨x20, o21, none⟩) l.length dc) l)).cells hz22.out 2 _ rfl)
        have ge27 : World.cell? _ ⟨x20, o21 + k * 6 + 3, none⟩ = some (.int .i64 z.fall.hi) := (((hF16.at 2 rfl : Sl weaEnc 6 lo hi _ (.slice (some ⟨x20, o21, none⟩) l.length dc) l)).cells hz22.out 3 _ rfl)
        have ge28 : World.cell? _ ⟨x20, o21 + k * 6 + 4, none⟩ = some (.int .i64 z.water) := (((hF16.at 2 rfl : Sl weaEnc 6 lo hi _ (.slice (some ⟨x20, o21, none⟩) l.length dc) l)).cells hz22.out 4 _ rfl)
        have ge29 : World.cell? _ ⟨x20, o21 + k * 6 + 5, none⟩ = some (.bool z.clear) := (((hF16.at 2 rfl : Sl weaEnc 6 lo hi _ (.slice (some ⟨x20, o21, none⟩) l.length dc) l)).cells hz22.out 5 _ rfl)
        go_wp2_with fail
        clear ge23 gl24 ge25 ge26 ge27 ge28 ge29
        have F30 := hF16.new 42 (weaC z z.clear) (n := w18.heap.size) (by simp)
        clear hF16
        obtain ⟨w31, hx32, F34, hxs33⟩ := (show Bun w [rbox w18.heap.size 42 (weaC z z.clear), rbld 130 5 w.heap.size w6.heap.size pb vb (Lib.byteCells (logT (l.take k))), rtab Tryd.prog w.heap.size powName .u64 Lib.pow10Tab, rsl weaEnc 6 lo hi (.slice (some ⟨x20, o21, none⟩) l.length dc) l] _ from F30).name
        (try simp at hxs33)
        rw [hx32]
        clear hx32 F30
        refine (bun_strL (F34.front 1 rfl rfl) HPB.out _ ([100, 97, 121]) (rfl) (by simp only [List.length_append, List.length_cons, List.length_nil]; omega) (List.forall_mem_cons.2 ⟨other_box (by decide), List.forall_mem_cons.2 ⟨other_tab (Nat.le_refl _), List.forall_mem_cons.2 ⟨other_sl (by omega), fun _ h_ => by cases h_⟩⟩⟩)).mono ?_
        rintro e w35 ⟨rfl, vb36, F38, hs37⟩
        clear F34
        have b39 := F38.bx6 1 rfl
        go_wp2_with fail
        clear b39
        refine wp_loop_rounds 6 ?_
        rw [rounds_succ]
        have ge40 : ∀ w, (Instr.index 153 (.agg #[.int .i64 z.cold.lo, .int .i64 z.cold.hi, .int .i64 z.fall.lo, .int .i64 z.fall.hi, .int .i64 z.water]) (.int .i64 0)).run Tryd.prog w = .ok (.int .i64 z.cold.lo) w := fun _ => by kernel_rfl
        go_wp2_with fail
        clear ge40
        refine (itoa_c z.cold.lo _ (by omega) (F38.at 2 rfl : _ ∧ Lib.TabIs Tryd.prog _ powName .u64 Lib.pow10Tab).2).mono ?_
        rintro e w43 ⟨rfl, hg41⟩
        have hg41s := hg41.size
        (try simp at hg41s)
        have F44 := F38.gn hg41
        clear F38
        clear hg41
        have hst45 : ¬ (9223372036854775807 < 1 + (Lib.itoa z.cold.lo).length) := by have := itoa_len z.cold.lo (by omega); omega
        go_wp2_with fail
        refine (bun_strL F44 (.inr rfl) _ (numT z.cold.lo) (num_str _) (by simp only [List.length_append, List.length_cons, List.length_nil]; omega) (List.forall_mem_cons.2 ⟨other_box (by decide), List.forall_mem_cons.2 ⟨other_tab (Nat.le_refl _), List.forall_mem_cons.2 ⟨other_sl (by omega), fun _ h_ => by cases h_⟩⟩⟩)).mono ?_
        rintro e w46 ⟨rfl, vb47, F49, hs48⟩
        clear F44
        go_wp2_with fail
        rw [rounds_succ]
        have ge50 : ∀ w, (Instr.index 153 (.agg #[.int .i64 z.cold.lo, .int .i64 z.cold.hi, .int .i64 z.fall.lo, .int .i64 z.fall.hi, .int .i64 z.water]) (.int .i64 1)).run Tryd.prog w = .ok (.int .i64 z.cold.hi) w := fun _ => by kernel_rfl
        go_wp2_with fail
        clear ge50
        refine (itoa_c z.cold.hi _ (by omega) (F49.at 2 rfl : _ ∧ Lib.TabIs Tryd.prog _ powName .u64 Lib.pow10Tab).2).mono ?_
        rintro e w53 ⟨rfl, hg51⟩
        have hg51s := hg51.size
        (try simp at hg51s)
        have F54 := F49.gn hg51
        clear F49
        clear hg51
        have hst55 : ¬ (9223372036854775807 < 1 + (Lib.itoa z.cold.hi).length) := by have := itoa_len z.cold.hi (by omega); omega
        go_wp2_with fail
        refine (bun_strL F54 (.inr rfl) _ (numT z.cold.hi) (num_str _) (by simp only [List.length_append, List.length_cons, List.length_nil]; omega) (List.forall_mem_cons.2 ⟨other_box (by decide), List.forall_mem_cons.2 ⟨other_tab (Nat.le_refl _), List.forall_mem_cons.2 ⟨other_sl (by omega), fun _ h_ => by cases h_⟩⟩⟩)).mono ?_
        rintro e w56 ⟨rfl, vb57, F59, hs58⟩
        clear F54
        go_wp2_with fail
        rw [rounds_succ]
        have ge60 : ∀ w, (Instr.index 153 (.agg #[.int .i64 z.cold.lo, .int .i64 z.cold.hi, .int .i64 z.fall.lo, .int .i64 z.fall.hi, .int .i64 z.water]) (.int .i64 2)).run Tryd.prog w = .ok (.int .i64 z.fall.lo) w := fun _ => by kernel_rfl
        go_wp2_with fail
        clear ge60
        refine (itoa_c z.fall.lo _ (by omega) (F59.at 2 rfl : _ ∧ Lib.TabIs Tryd.prog _ powName .u64 Lib.pow10Tab).2).mono ?_
        rintro e w63 ⟨rfl, hg61⟩
        have hg61s := hg61.size
        (try simp at hg61s)
        have F64 := F59.gn hg61
        clear F59
        clear hg61
        have hst65 : ¬ (9223372036854775807 < 1 + (Lib.itoa z.fall.lo).length) := by have := itoa_len z.fall.lo (by omega); omega
        go_wp2_with fail
        refine (bun_strL F64 (.inr rfl) _ (numT z.fall.lo) (num_str _) (by simp only [List.length_append, List.length_cons, List.length_nil]; omega) (List.forall_mem_cons.2 ⟨other_box (by decide), List.forall_mem_cons.2 ⟨other_tab (Nat.le_refl _), List.forall_mem_cons.2 ⟨other_sl (by omega), fun _ h_ => by cases h_⟩⟩⟩)).mono ?_
        rintro e w66 ⟨rfl, vb67, F69, hs68⟩
        clear F64
        go_wp2_with fail
        rw [rounds_succ]
        have ge70 : ∀ w, (Instr.index 153 (.agg #[.int .i64 z.cold.lo, .int .i64 z.cold.hi, .int .i64 z.fall.lo, .int .i64 z.fall.hi, .int .i64 z.water]) (.int .i64 3)).run Tryd.prog w = .ok (.int .i64 z.fall.hi) w := fun _ => by kernel_rfl
        go_wp2_with fail
        clear ge70
        refine (itoa_c z.fall.hi _ (by omega) (F69.at 2 rfl : _ ∧ Lib.TabIs Tryd.prog _ powName .u64 Lib.pow10Tab).2).mono ?_
        rintro e w73 ⟨rfl, hg71⟩
        have hg71s := hg71.size
        (try simp at hg71s)
        have F74 := F69.gn hg71
        clear F69
        clear hg71
        have hst75 : ¬ (9223372036854775807 < 1 + (Lib.itoa z.fall.hi).length) := by have := itoa_len z.fall.hi (by omega); omega
        go_wp2_with fail
        refine (bun_strL F74 (.inr rfl) _ (numT z.fall.hi) (num_str _) (by simp only [List.length_append, List.length_cons, List.length_nil]; omega) (List.forall_mem_cons.2 ⟨other_box (by decide), List.forall_mem_cons.2 ⟨other_tab (Nat.le_refl _), List.forall_mem_cons.2 ⟨other_sl (by omega), fun _ h_ => by cases h_⟩⟩⟩)).mono ?_
        rintro e w76 ⟨rfl, vb77, F79, hs78⟩
        clear F74
        go_wp2_with fail
        rw [rounds_succ]
        have ge80 : ∀ w, (Instr.index 153 (.agg #[.int .i64 z.cold.lo, .int .i64 z.cold.hi, .int .i64 z.fall.lo, .int .i64 z.fall.hi, .int .i64 z.water]) (.int .i64 4)).run Tryd.prog w = .ok (.int .i64 z.water) w := fun _ => by kernel_rfl
        go_wp2_with fail
        clear ge80
        refine (itoa_c z.water _ (by omega) (F79.at 2 rfl : _ ∧ Lib.TabIs Tryd.prog _ powName .u64 Lib.pow10Tab).2).mono ?_
        rintro e w83 ⟨rfl, hg81⟩
        have hg81s := hg81.size
        (try simp at hg81s)
        have F84 := F79.gn hg81
        clear F79
        clear hg81
        have hst85 : ¬ (9223372036854775807 < 1 + (Lib.itoa z.water).length) := by have := itoa_len z.water (by omega); omega
        go_wp2_with fail
        refine (bun_strL F84 (.inr rfl) _ (numT z.water) (num_str _) (by simp only [List.length_append, List.length_cons, List.length_nil]; omega) (List.forall_mem_cons.2 ⟨other_box (by decide), List.forall_mem_cons.2 ⟨other_tab (Nat.le_refl _), List.forall_mem_cons.2 ⟨other_sl (by omega), fun _ h_ => by cases h_⟩⟩⟩)).mono ?_
        rintro e w86 ⟨rfl, vb87, F89, hs88⟩
        clear F84
        go_wp2_with fail
        rw [rounds_succ]
        cases c90 : z.clear
        · skip
          (try rw [c90] at F89)
          have c90H := Lib.hid c90
          have b91 := F89.bx6 1 rfl
          go_wp2_with fail
          clear b91
          refine (bun_strL F89 (.inr rfl) _ ([32, 115, 110, 111, 119, 10]) (rfl) (by simp only [List.length_append, List.length_cons, List.length_nil]; omega) (List.forall_mem_cons.2 ⟨other_box (by decide), List.forall_mem_cons.2 ⟨other_tab (Nat.le_refl _), List.forall_mem_cons.2 ⟨other_sl (by omega), fun _ h_ => by cases h_⟩⟩⟩)).mono ?_
          rintro e w92 ⟨rfl, vb93, F95, hs94⟩
          clear F89
          go_wp2_with fail
          rw [dayT_s (logT (l.take k)) c90, ← HLT.out] at F95
          have F96 : Bun w [rbld 130 5 w.heap.size w6.heap.size (.pointer (some ⟨w6.heap.size, 0, none⟩)) vb93 (Lib.byteCells (logT (l.take (k + 1)))), rtab Tryd.prog w.heap.size powName .u64 Lib.pow10Tab, rsl weaEnc 6 lo hi (.slice (some ⟨x20, o21, none⟩) l.length dc) l] _ := F95.pick [0, 2, 3] (by decide) rfl
          clear F95
          (first | refine ⟨by kernel_rfl, ?_, ?_⟩ | refine ⟨rfl, ?_, ?_⟩ | refine ⟨?_, ?_⟩)
          · rw [HI15.out]; exact ⟨k + 1, (.pointer (some ⟨w6.heap.size, 0, none⟩)), vb93, (by first | kernel_rfl | rfl), (by first | kernel_rfl | rfl), (by first | kernel_rfl | rfl), (by show Value.int .i64 ((k : Int) + 1) = _; simp), (by omega), (Lib.hid (.inr rfl)), (by first | rfl | simp), (by first | omega | (simp; done) | (simp; omega)), F96⟩
          · simp [slot, intOf]; omega
        · skip
          (try rw [c90] at F89)
          have c90H := Lib.hid c90
          have b97 := F89.bx6 1 rfl
          go_wp2_with fail
          clear b97
          refine (bun_strL F89 (.inr rfl) _ ([32, 99, 108, 101, 97, 114, 10]) (rfl) (by simp only [List.length_append, List.length_cons, List.length_nil]; omega) (List.forall_mem_cons.2 ⟨other_box (by decide), List.forall_mem_cons.2 ⟨other_tab (Nat.le_refl _), List.forall_mem_cons.2 ⟨other_sl (by omega), fun _ h_ => by cases h_⟩⟩⟩)).mono ?_
          rintro e w98 ⟨rfl, vb99, F101, hs100⟩
          clear F89
          go_wp2_with fail
          rw [dayT_c (logT (l.take k)) c90, ← HLT.out] at F101
          have F102 : Bun w [rbld 130 5 w.heap.size w6.heap.size (.pointer (some ⟨w6.heap.size, 0, none⟩)) vb99 (Lib.byteCells (logT (l.take (k + 1)))), rtab Tryd.prog w.heap.size powName .u64 Lib.pow10Tab, rsl weaEnc 6 lo hi (.slice (some ⟨x20, o21, none⟩) l.length dc) l] _ := F101.pick [0, 2, 3] (by decide) rfl
          clear F101
          (first | refine ⟨by kernel_rfl, ?_, ?_⟩ | refine ⟨rfl, ?_, ?_⟩ | refine ⟨?_, ?_⟩)
          · rw [HI15.out]; exact ⟨k + 1, (.pointer (some ⟨w6.heap.size, 0, none⟩)), vb99, (by first | kernel_rfl | rfl), (by first | kernel_rfl | rfl), (by first | kernel_rfl | rfl), (by show Value.int .i64 ((k : Int) + 1) = _; simp), (by omega), (Lib.hid (.inr rfl)), (by first | rfl | simp), (by first | omega | (simp; done) | (simp; omega)), F102⟩
          · simp [slot, intOf]; omega
      · skip
        have c19H := Lib.hid c19
        have c19a : decide ((k : Int) < (l.length : Int)) = false := dec_f c19
        go_wp2_with fail
        refine (bun_string hF16 HPB.out).mono ?_
        rintro e w103 ⟨rfl, F106, hs105⟩
        clear hF16
        go_wp2_with fail
        exact bodyPost_ret (v := .tuple #[.string ⟨((logT (l.take k))).toArray⟩, .int .i64 0]) (by simp [results, Tryd.results42, go_sem]) rfl (⟨by rw [wrS, if_pos c8H.out, c8H.out, List.take_of_length_le (by omega)], F106.gb⟩)
    case atStart1 =>
      rw [HI15.out]
      exact ⟨0, .pointer none, .slice none 0 0, (by first | kernel_rfl | rfl), (by first | kernel_rfl | rfl), (by first | kernel_rfl | rfl), rfl, Nat.zero_le _, (Lib.hid (.inl rfl)), rfl, (by first | exact Nat.le_refl _ | omega | (simp; done) | (simp; omega)), F14⟩
  · skip
    have c8a : ((daysE l) == 0) = false := beq_f c8
    have c8b : ((daysE l) != 0) = true := bne_t c8
    have c8H := Lib.hid c8
    clear c8
    go_wp2_with fail
    exact bodyPost_ret (v := .tuple #[.string ⟨#[]⟩, .int .i64 (daysE l)]) (by simp [results, Tryd.results42, go_sem]) rfl (⟨by rw [wrS, if_neg c8H.out], F7.gb⟩)

end Go.Proofs.YtgkjicejaalijaaDoor
