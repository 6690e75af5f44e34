/- the kit of frost: days made of numbers. -/
import Derived.Test.YtdgplekokdeafaaQKF1
import Derived.Test.YtdgplekokdeafaaQKF2
import Derived.Test.YtdgplekokdeafaaQK1
set_option linter.unusedVariables false
set_option linter.unusedSimpArgs false
set_option linter.unnecessarySimpa false
namespace Go.Proofs.Ytdgplekokdeafaa
open Go.RowKit
set_option maxRecDepth 100000
theorem infoWea : (Try.prog.info? 49).map (fun i => (i.zero, i.size, i.bytes)) = some (some (.agg #[.int .i64 0, .int .i64 0, .int .i64 0, .int .i64 0, .int .i64 0, .bool false]), 6, 48) := by kernel_rfl
theorem okWea : ElemOk Try.prog 34 49 6 48 weaEnc where
 under := Try.underlying34
 info := info5 infoWea rfl
 pos := by omega
 small := by omega
 len := fun _ => rfl
 one := fun x u hu => by
  simp [weaEnc] at hu
  rcases hu with rfl | rfl | rfl | rfl | rfl | rfl <;> rfl
theorem Bus.nilrow {α : Type} (enc : α -> List Value) (e : TypeId) (sz : Nat) {w0 A : World} {sd : Nat} {L : List Res} (h : Bus w0 sd L A) : Bus w0 sd (rown enc e sz w0.heap.size (.slice none 0 0) [] :: L) A :=
 h.add (rown enc e sz w0.heap.size (.slice none 0 0) []) (gb_refl _ _) (Own.nil _ _ _ _ _) fun g e => by cases e
def DaysPost (sb : Nat) (most : Int) (frost : Bool) (w : World) : Ending -> World -> Prop := fun e w' => ∃ vo l, e = .returned vo /\ Own weaEnc 49 6 w.heap.size w' vo l /\ (l.length : Int) <= most /\ (∀ d ∈ l, weaErr d = 0 /\ (frost = true -> 0 <= d.cold.lo)) /\ SeedAt w' sb /\ w.grownBy w' (some sb)
set_option maxHeartbeats 16000000 in
theorem daysOf_c (sb : Nat) (most : Int) (frost : Bool) (w : World) (hs : SeedAt w sb) (hm : 0 <= most /\ most <= 100) :
  Calls Try.prog 7 #[.pointer (some ⟨sb, 0, none⟩), .int .i64 most, .bool frost] w (DaysPost sb most frost w) := by
 have F1 : Bus w sb [rseed sb] w := Bus.ofSeed hs
 have hsl := hs.lt
 clear hs
 go_enter Try.func7, Try.ntmps7
 go_wp2_with fail
 refine (below_c sb (most + 1) _ (F1.e 0 rfl) (by omega) (by omega)).mono ?_
 rintro e w6 ⟨r2, rfl, hr3, hs5, hg4⟩
 unfold belowR at hr3
 have hg4s := hg4.size
 (try simp at hg4s)
 replace F1 := F1.seedAt 0 rfl hg4 hs5
 clear hg4
 go_wp2_with fail
 replace F1 := F1.nilrow weaEnc 49 6
 (skip)
 obtain ⟨HI9_, HI90⟩ : ∃ I : RelT, I = (fun t ds wr => ∃ (c : Nat) (vo : Value) (lo_ : List Wea), t 0 = .pointer (some ⟨sb, 0, none⟩) /\ t 2 = .bool frost /\ t 7 = vo /\ t 8 = .int .i64 (c : Int) /\ (lo_.length : Int) + c <= most /\ (∀ d ∈ lo_, weaErr d = 0 /\ (frost = true -> 0 <= d.cold.lo)) /\ ds = [] /\ w6.heap.size <= wr.heap.size /\ Bus w sb [rown weaEnc 49 6 w.heap.size vo lo_, rseed sb] wr) := ⟨_, rfl⟩
 have HI9 := lhd HI90
 clear HI90
 refine wp_loopS 57 rfl HI9_ (fun t wr => (intOf (t 8)).toNat) ?atStart1 ?round1
 case round1 =>
  intro t ds wr hHid
  rw [HI9.out] at hHid
  obtain ⟨c, vo, lo_, e0, e2, e7, e8, hrel⟩ := hHid
  have e : ((List.range 57).map t).toArray = #[t 0, t 1, t 2, t 3, t 4, t 5, t 6, t 7, t 8, t 9, t 10, t 11, t 12, t 13, t 14, t 15, t 16, t 17, t 18, t 19, t 20, t 21, t 22, t 23, t 24, t 25, t 26, t 27, t 28, t 29, t 30, t 31, t 32, t 33, t 34, t 35, t 36, t 37, t 38, t 39, t 40, t 41, t 42, t 43, t 44, t 45, t 46, t 47, t 48, t 49, t 50, t 51, t 52, t 53, t 54, t 55, t 56] := rfl
  (try dsimp only at e)
  rw [e0, e2, e7, e8] at e
  rw [e]
  simp only [e8]
  clear e e0 e2 e7 e8
  obtain ⟨hlen, hall, rfl, hs11, hF10⟩ := hrel
  clear F1
  obtain ⟨w12, rfl⟩ : ∃ x_ : World, x_ = wr := ⟨_, rfl⟩
  have HALL := lhd hall
  clear hall
  by_cases c13 : 0 < (c : Int)
  ·
   have c13H := lhd c13
   go_wp2_with fail
   have F16 := hF10.new 3 #[.int .i64 (-60), .int .i64 0, .int .i64 100] (n := w12.heap.size) (by simp)
   clear hF10
   refine (of3_c sb _ w12.heap.size 3 (-60) 0 100 (F16.e 2 rfl) (by omega) (F16.q 0 0) (F16.q 0 1) (F16.q 0 2)).mono ?_
   rintro e w19 ⟨r14, rfl, hr15, hs18, hg17⟩
   have hg17s := hg17.size
   (try simp at hg17s)
   replace F16 := F16.seedAt 2 rfl hg17 hs18
   clear hg17
   go_wp2_with fail
   replace F16 := F16.new 3 #[.int .i64 100, .int .i64 300] (n := w19.heap.size) (by simp)
   refine (of2_c sb _ w19.heap.size 2 100 300 (F16.e 3 rfl) (by omega) (F16.q 0 0) (F16.q 0 1)).mono ?_
   rintro e w26 ⟨r21, rfl, hr22, hs25, hg24⟩
   have hg24s := hg24.size
   (try simp at hg24s)
   replace F16 := F16.seedAt 3 rfl hg24 hs25
   clear hg24
   go_wp2_with fail
   refine (spanOf_c sb r14 r21 _ (F16.e 3 rfl) (by omega) (by omega) (by omega)).mono ?_
   rintro e w33 ⟨_, rfl, ⟨lo28, hi29, rfl, hr30a, hr30b, hr30c⟩, hs32, hg31⟩
   have hg31s := hg31.size
   (try simp at hg31s)
   replace F16 := F16.seedAt 3 rfl hg31 hs32
   clear hg31
   go_wp2_with fail
   refine (yes_c sb 4 _ (F16.e 3 rfl) (by omega) (by omega)).mono ?_
   rintro e w38 ⟨yb35, rfl, hs37, hg36⟩
   have hg36s := hg36.size
   (try simp at hg36s)
   replace F16 := F16.seedAt 3 rfl hg36 hs37
   clear hg36
   cases c40 : frost
   ·
    have c40H := lhd c40
    go_wp2_with fail
    replace F16 := F16.new 49 #[.int .i64 lo28, .int .i64 hi29, .int .i64 0, .int .i64 0, .int .i64 0, .bool yb35] (n := w38.heap.size) (by simp)
    refine (yes_c sb 3 _ (F16.e 4 rfl) (by omega) (by omega)).mono ?_
    rintro e w45 ⟨yb41, rfl, hs44, hg43⟩
    have hg43s := hg43.size
    (try simp at hg43s)
    replace F16 := F16.seedAt 4 rfl hg43 hs44
    clear hg43
    cases c47 : yb41
    ·
     have c47H := lhd c47
     go_wp2_with fail
     refine (yes_c sb 4 _ (F16.e 4 rfl) (by omega) (by omega)).mono ?_
     rintro e w51 ⟨yb48, rfl, hs50, hg49⟩
     have hg49s := hg49.size
     (try simp at hg49s)
     replace F16 := F16.seedAt 4 rfl hg49 hs50
     clear hg49
     cases c53 : yb48
     ·
      have c53H := lhd c53
      have b54 := F16.bx6 0 rfl
      go_wp2_with (at_builtin; refine wpList_app _ okWea rfl _ _ rfl w.heap.size vo lo_ [(⟨⟨lo28, hi29⟩, ⟨0, 0⟩, 0, yb35⟩ : Wea)] rfl (by exact ((F16.o 3 rfl)).alloc _) ⟨_, 0, none⟩ 1 1 rfl rfl (by decide) (news_of (Bk.newAt _ _ _ (by simp))) (lo_.length + 1) (by simp) (by omega) (by first | omega | (simp; omega)) _ rfl ?_; intro g55 cap56 w57 hp58; refine Hid.out ?_)
      refine lhd ?_
      have hp58s := hp58.gb.size
      (try simp at hp58s)
      clear b54
      have F59 := ((F16.alloc (.cells #[.int .i64 lo28, .int .i64 hi29, .int .i64 0, .int .i64 0, .int .i64 0, .bool yb35] 49)).front 3 rfl rfl).app hp58 (by simp)
      clear F16
      go_wp2_with fail
      have F60 : Bus w sb [rown weaEnc 49 6 w.heap.size (.slice (some ⟨g55, 0, none⟩) (lo_.length + 1) cap56) (lo_ ++ [(⟨⟨lo28, hi29⟩, ⟨0, 0⟩, 0, yb35⟩ : Wea)]), rseed sb] _ := F59.pick [0, 4] (by decide) rfl
      clear F59
      (first | refine ⟨by kernel_rfl, ?_, ?_⟩ | refine ⟨rfl, ?_, ?_⟩ | refine ⟨?_, ?_⟩)
      · rw [HI9.out]; exact ⟨c - 1, _, _, (by kernel_rfl), (by rw [c40H.out]; first | kernel_rfl | rfl), (by kernel_rfl), (by show Value.int .i64 ((c : Int) - 1) = _; rw [show ((c : Int) - 1) = ((c - 1 : Nat) : Int) by omega]), (by simp; omega), (by intro d_ hd_; rcases List.mem_append.1 hd_ with h_ | h_; exact HALL.out d_ h_; obtain rfl := List.mem_singleton.1 h_; exact ⟨by unfold weaErr spanErr; simp only; (repeat' split) <;> first | rfl | (exfalso; omega) | omega, by simp only; intro hf_; first | omega | (exfalso; revert hf_; simp [c40H.out])⟩), (by first | rfl | simp), (by first | omega | (simp; done) | (simp; omega)), F60⟩
      · simp [slot, intOf]; omega
     have c53H := lhd c53
     go_wp2_with fail
     refine (from_c sb 1 30 _ (F16.e 4 rfl) (by omega) (by omega) (by omega) (by omega)).mono ?_
     rintro e w65 ⟨r61, rfl, hr62, hs64, hg63⟩
     unfold fromR at hr62; have hr62b : 1 <= r61 /\ r61 <= 30 := (by omega); clear hr62
     have hg63s := hg63.size
     (try simp at hg63s)
     replace F16 := F16.seedAt 4 rfl hg63 hs64
     clear hg63
     have b67 := F16.bx6 0 rfl
     have F68 := (F16.set 4 (.int .i64 r61)).nf #[.int .i64 lo28, .int .i64 hi29, .int .i64 0, .int .i64 0, .int .i64 r61, .bool yb35] rfl
     clear F16
     go_wp2_with (at_builtin; refine wpList_app _ okWea rfl _ _ rfl w.heap.size vo lo_ [(⟨⟨lo28, hi29⟩, ⟨0, 0⟩, r61, yb35⟩ : Wea)] rfl (by exact ((F68.o 3 rfl)).alloc _) ⟨_, 0, none⟩ 1 1 rfl rfl (by decide) (news_of (Bk.newAt _ _ _ (by simp))) (lo_.length + 1) (by simp) (by omega) (by first | omega | (simp; omega)) _ rfl ?_; intro g69 cap70 w71 hp72; refine Hid.out ?_)
     refine lhd ?_
     have hp72s := hp72.gb.size
     (try simp at hp72s)
     clear b67
     have F73 := ((F68.alloc (.cells #[.int .i64 lo28, .int .i64 hi29, .int .i64 0, .int .i64 0, .int .i64 r61, .bool yb35] 49)).front 3 rfl rfl).app hp72 (by simp)
     clear F68
     go_wp2_with fail
     have F74 : Bus w sb [rown weaEnc 49 6 w.heap.size (.slice (some ⟨g69, 0, none⟩) (lo_.length + 1) cap70) (lo_ ++ [(⟨⟨lo28, hi29⟩, ⟨0, 0⟩, r61, yb35⟩ : Wea)]), rseed sb] _ := F73.pick [0, 4] (by decide) rfl
     clear F73
     (first | refine ⟨by kernel_rfl, ?_, ?_⟩ | refine ⟨rfl, ?_, ?_⟩ | refine ⟨?_, ?_⟩)
     · rw [HI9.out]; exact ⟨c - 1, _, _, (by kernel_rfl), (by rw [c40H.out]; first | kernel_rfl | rfl), (by kernel_rfl), (by show Value.int .i64 ((c : Int) - 1) = _; rw [show ((c : Int) - 1) = ((c - 1 : Nat) : Int) by omega]), (by simp; omega), (by intro d_ hd_; rcases List.mem_append.1 hd_ with h_ | h_; exact HALL.out d_ h_; obtain rfl := List.mem_singleton.1 h_; exact ⟨by unfold weaErr spanErr; simp only; (repeat' split) <;> first | rfl | (exfalso; omega) | omega, by simp only; intro hf_; first | omega | (exfalso; revert hf_; simp [c40H.out])⟩), (by first | rfl | simp), (by first | omega | (simp; done) | (simp; omega)), F74⟩
     · simp [slot, intOf]; omega
    have c47H := lhd c47
    go_wp2_with fail
    refine (spanOf_c sb 0 90 _ (F16.e 4 rfl) (by omega) (by omega) (by omega)).mono ?_
    rintro e w80 ⟨_, rfl, ⟨lo75, hi76, rfl, hr77a, hr77b, hr77c⟩, hs79, hg78⟩
    have hg78s := hg78.size
    (try simp at hg78s)
    replace F16 := F16.seedAt 4 rfl hg78 hs79
    clear hg78
    have b83 := F16.bx6 0 rfl
    go_wp2_with fail
    clear b83
    have F84 := (F16.set 2 (.int .i64 lo75)).nf #[.int .i64 lo28, .int .i64 hi29, .int .i64 lo75, .int .i64 0, .int .i64 0, .bool yb35] rfl
    clear F16
    have F85 := (F84.set 3 (.int .i64 hi76)).nf #[.int .i64 lo28, .int .i64 hi29, .int .i64 lo75, .int .i64 hi76, .int .i64 0, .bool yb35] rfl
    clear F84
    refine (yes_c sb 4 _ (F85.e 4 rfl) (by omega) (by omega)).mono ?_
    rintro e w88 ⟨yb82, rfl, hs87, hg86⟩
    have hg86s := hg86.size
    (try simp at hg86s)
    replace F85 := F85.seedAt 4 rfl hg86 hs87
    clear hg86
    cases c90 : yb82
    ·
     have c90H := lhd c90
     have b91 := F85.bx6 0 rfl
     go_wp2_with (at_builtin; refine wpList_app _ okWea rfl _ _ rfl w.heap.size vo lo_ [(⟨⟨lo28, hi29⟩, ⟨lo75, hi76⟩, 0, yb35⟩ : Wea)] rfl (by exact ((F85.o 3 rfl)).alloc _) ⟨_, 0, none⟩ 1 1 rfl rfl (by decide) (news_of (Bk.newAt _ _ _ (by simp))) (lo_.length + 1) (by simp) (by omega) (by first | omega | (simp; omega)) _ rfl ?_; intro g92 cap93 w94 hp95; refine Hid.out ?_)
     refine lhd ?_
     have hp95s := hp95.gb.size
     (try simp at hp95s)
     clear b91
     have F96 := ((F85.alloc (.cells #[.int .i64 lo28, .int .i64 hi29, .int .i64 lo75, .int .i64 hi76, .int .i64 0, .bool yb35] 49)).front 3 rfl rfl).app hp95 (by simp)
     clear F85
     go_wp2_with fail
     have F97 : Bus w sb [rown weaEnc 49 6 w.heap.size (.slice (some ⟨g92, 0, none⟩) (lo_.length + 1) cap93) (lo_ ++ [(⟨⟨lo28, hi29⟩, ⟨lo75, hi76⟩, 0, yb35⟩ : Wea)]), rseed sb] _ := F96.pick [0, 4] (by decide) rfl
     clear F96
     (first | refine ⟨by kernel_rfl, ?_, ?_⟩ | refine ⟨rfl, ?_, ?_⟩ | refine ⟨?_, ?_⟩)
     · rw [HI9.out]; exact ⟨c - 1, _, _, (by kernel_rfl), (by rw [c40H.out]; first | kernel_rfl | rfl), (by kernel_rfl), (by show Value.int .i64 ((c : Int) - 1) = _; rw [show ((c : Int) - 1) = ((c - 1 : Nat) : Int) by omega]), (by simp; omega), (by intro d_ hd_; rcases List.mem_append.1 hd_ with h_ | h_; exact HALL.out d_ h_; obtain rfl := List.mem_singleton.1 h_; exact ⟨by unfold weaErr spanErr; simp only; (repeat' split) <;> first | rfl | (exfalso; omega) | omega, by simp only; intro hf_; first | omega | (exfalso; revert hf_; simp [c40H.out])⟩), (by first | rfl | simp), (by first | omega | (simp; done) | (simp; omega)), F97⟩
     · simp [slot, intOf]; omega
    have c90H := lhd c90
    go_wp2_with fail
    refine (from_c sb 1 30 _ (F85.e 4 rfl) (by omega) (by omega) (by omega) (by omega)).mono ?_
    rintro e w102 ⟨r98, rfl, hr99, hs101, hg100⟩
    unfold fromR at hr99; have hr99b : 1 <= r98 /\ r98 <= 30 := (by omega); clear hr99
    have hg100s := hg100.size
    (try simp at hg100s)
    replace F85 := F85.seedAt 4 rfl hg100 hs101
    clear hg100
    have b104 := F85.bx6 0 rfl
    have F105 := (F85.set 4 (.int .i64 r98)).nf #[.int .i64 lo28, .int .i64 hi29, .int .i64 lo75, .int .i64 hi76, .int .i64 r98, .bool yb35] rfl
    clear F85
    go_wp2_with (at_builtin; refine wpList_app _ okWea rfl _ _ rfl w.heap.size vo lo_ [(⟨⟨lo28, hi29⟩, ⟨lo75, hi76⟩, r98, yb35⟩ : Wea)] rfl (by exact ((F105.o 3 rfl)).alloc _) ⟨_, 0, none⟩ 1 1 rfl rfl (by decide) (news_of (Bk.newAt _ _ _ (by simp))) (lo_.length + 1) (by simp) (by omega) (by first | omega | (simp; omega)) _ rfl ?_; intro g106 cap107 w108 hp109; refine Hid.out ?_)
    refine lhd ?_
    have hp109s := hp109.gb.size
    (try simp at hp109s)
    clear b104
    have F110 := ((F105.alloc (.cells #[.int .i64 lo28, .int .i64 hi29, .int .i64 lo75, .int .i64 hi76, .int .i64 r98, .bool yb35] 49)).front 3 rfl rfl).app hp109 (by simp)
    clear F105
    go_wp2_with fail
    have F111 : Bus w sb [rown weaEnc 49 6 w.heap.size (.slice (some ⟨g106, 0, none⟩) (lo_.length + 1) cap107) (lo_ ++ [(⟨⟨lo28, hi29⟩, ⟨lo75, hi76⟩, r98, yb35⟩ : Wea)]), rseed sb] _ := F110.pick [0, 4] (by decide) rfl
    clear F110
    (first | refine ⟨by kernel_rfl, ?_, ?_⟩ | refine ⟨rfl, ?_, ?_⟩ | refine ⟨?_, ?_⟩)
    · rw [HI9.out]; exact ⟨c - 1, _, _, (by kernel_rfl), (by rw [c40H.out]; first | kernel_rfl | rfl), (by kernel_rfl), (by show Value.int .i64 ((c : Int) - 1) = _; rw [show ((c : Int) - 1) = ((c - 1 : Nat) : Int) by omega]), (by simp; omega), (by intro d_ hd_; rcases List.mem_append.1 hd_ with h_ | h_; exact HALL.out d_ h_; obtain rfl := List.mem_singleton.1 h_; exact ⟨by unfold weaErr spanErr; simp only; (repeat' split) <;> first | rfl | (exfalso; omega) | omega, by simp only; intro hf_; first | omega | (exfalso; revert hf_; simp [c40H.out])⟩), (by first | rfl | simp), (by first | omega | (simp; done) | (simp; omega)), F111⟩
    · simp [slot, intOf]; omega
   have c40H := lhd c40
   by_cases c112 : lo28 < 0
   ·
    have c112H := lhd c112
    go_wp2_with fail
    replace F16 := F16.new 49 #[.int .i64 0, .int .i64 (max 0 hi29), .int .i64 0, .int .i64 0, .int .i64 0, .bool yb35] (n := w38.heap.size) (by simp)
    refine (yes_c sb 3 _ (F16.e 4 rfl) (by omega) (by omega)).mono ?_
    rintro e w117 ⟨yb113, rfl, hs116, hg115⟩
    have hg115s := hg115.size
    (try simp at hg115s)
    replace F16 := F16.seedAt 4 rfl hg115 hs116
    clear hg115
    cases c119 : yb113
    ·
     have c119H := lhd c119
     go_wp2_with fail
     refine (yes_c sb 4 _ (F16.e 4 rfl) (by omega) (by omega)).mono ?_
     rintro e w123 ⟨yb120, rfl, hs122, hg121⟩
     have hg121s := hg121.size
     (try simp at hg121s)
     replace F16 := F16.seedAt 4 rfl hg121 hs122
     clear hg121
     cases c125 : yb120
     ·
      have c125H := lhd c125
      have b126 := F16.bx6 0 rfl
      go_wp2_with (at_builtin; refine wpList_app _ okWea rfl _ _ rfl w.heap.size vo lo_ [(⟨⟨0, max 0 hi29⟩, ⟨0, 0⟩, 0, yb35⟩ : Wea)] rfl (by exact ((F16.o 3 rfl)).alloc _) ⟨_, 0, none⟩ 1 1 rfl rfl (by decide) (news_of (Bk.newAt _ _ _ (by simp))) (lo_.length + 1) (by simp) (by omega) (by first | omega | (simp; omega)) _ rfl ?_; intro g127 cap128 w129 hp130; refine Hid.out ?_)
      refine lhd ?_
      have hp130s := hp130.gb.size
      (try simp at hp130s)
      clear b126
      have F131 := ((F16.alloc (.cells #[.int .i64 0, .int .i64 (max 0 hi29), .int .i64 0, .int .i64 0, .int .i64 0, .bool yb35] 49)).front 3 rfl rfl).app hp130 (by simp)
      clear F16
      go_wp2_with fail
      have F132 : Bus w sb [rown weaEnc 49 6 w.heap.size (.slice (some ⟨g127, 0, none⟩) (lo_.length + 1) cap128) (lo_ ++ [(⟨⟨0, max 0 hi29⟩, ⟨0, 0⟩, 0, yb35⟩ : Wea)]), rseed sb] _ := F131.pick [0, 4] (by decide) rfl
      clear F131
      (first | refine ⟨by kernel_rfl, ?_, ?_⟩ | refine ⟨rfl, ?_, ?_⟩ | refine ⟨?_, ?_⟩)
      · rw [HI9.out]; exact ⟨c - 1, _, _, (by kernel_rfl), (by rw [c40H.out]; first | kernel_rfl | rfl), (by kernel_rfl), (by show Value.int .i64 ((c : Int) - 1) = _; rw [show ((c : Int) - 1) = ((c - 1 : Nat) : Int) by omega]), (by simp; omega), (by intro d_ hd_; rcases List.mem_append.1 hd_ with h_ | h_; exact HALL.out d_ h_; obtain rfl := List.mem_singleton.1 h_; exact ⟨by unfold weaErr spanErr; simp only; (repeat' split) <;> first | rfl | (exfalso; omega) | omega, by simp only; intro hf_; first | omega | (exfalso; revert hf_; simp [c40H.out])⟩), (by first | rfl | simp), (by first | omega | (simp; done) | (simp; omega)), F132⟩
      · simp [slot, intOf]; omega
     have c125H := lhd c125
     go_wp2_with fail
     refine (from_c sb 1 30 _ (F16.e 4 rfl) (by omega) (by omega) (by omega) (by omega)).mono ?_
     rintro e w137 ⟨r133, rfl, hr134, hs136, hg135⟩
     unfold fromR at hr134; have hr134b : 1 <= r133 /\ r133 <= 30 := (by omega); clear hr134
     have hg135s := hg135.size
     (try simp at hg135s)
     replace F16 := F16.seedAt 4 rfl hg135 hs136
     clear hg135
     have b139 := F16.bx6 0 rfl
     have F140 := (F16.set 4 (.int .i64 r133)).nf #[.int .i64 0, .int .i64 (max 0 hi29), .int .i64 0, .int .i64 0, .int .i64 r133, .bool yb35] rfl
     clear F16
     go_wp2_with (at_builtin; refine wpList_app _ okWea rfl _ _ rfl w.heap.size vo lo_ [(⟨⟨0, max 0 hi29⟩, ⟨0, 0⟩, r133, yb35⟩ : Wea)] rfl (by exact ((F140.o 3 rfl)).alloc _) ⟨_, 0, none⟩ 1 1 rfl rfl (by decide) (news_of (Bk.newAt _ _ _ (by simp))) (lo_.length + 1) (by simp) (by omega) (by first | omega | (simp; omega)) _ rfl ?_; intro g141 cap142 w143 hp144; refine Hid.out ?_)
     refine lhd ?_
     have hp144s := hp144.gb.size
     (try simp at hp144s)
     clear b139
     have F145 := ((F140.alloc (.cells #[.int .i64 0, .int .i64 (max 0 hi29), .int .i64 0, .int .i64 0, .int .i64 r133, .bool yb35] 49)).front 3 rfl rfl).app hp144 (by simp)
     clear F140
     go_wp2_with fail
     have F146 : Bus w sb [rown weaEnc 49 6 w.heap.size (.slice (some ⟨g141, 0, none⟩) (lo_.length + 1) cap142) (lo_ ++ [(⟨⟨0, max 0 hi29⟩, ⟨0, 0⟩, r133, yb35⟩ : Wea)]), rseed sb] _ := F145.pick [0, 4] (by decide) rfl
     clear F145
     (first | refine ⟨by kernel_rfl, ?_, ?_⟩ | refine ⟨rfl, ?_, ?_⟩ | refine ⟨?_, ?_⟩)
     · rw [HI9.out]; exact ⟨c - 1, _, _, (by kernel_rfl), (by rw [c40H.out]; first | kernel_rfl | rfl), (by kernel_rfl), (by show Value.int .i64 ((c : Int) - 1) = _; rw [show ((c : Int) - 1) = ((c - 1 : Nat) : Int) by omega]), (by simp; omega), (by intro d_ hd_; rcases List.mem_append.1 hd_ with h_ | h_; exact HALL.out d_ h_; obtain rfl := List.mem_singleton.1 h_; exact ⟨by unfold weaErr spanErr; simp only; (repeat' split) <;> first | rfl | (exfalso; omega) | omega, by simp only; intro hf_; first | omega | (exfalso; revert hf_; simp [c40H.out])⟩), (by first | rfl | simp), (by first | omega | (simp; done) | (simp; omega)), F146⟩
     · simp [slot, intOf]; omega
    have c119H := lhd c119
    go_wp2_with fail
    refine (spanOf_c sb 0 90 _ (F16.e 4 rfl) (by omega) (by omega) (by omega)).mono ?_
    rintro e w152 ⟨_, rfl, ⟨lo147, hi148, rfl, hr149a, hr149b, hr149c⟩, hs151, hg150⟩
    have hg150s := hg150.size
    (try simp at hg150s)
    replace F16 := F16.seedAt 4 rfl hg150 hs151
    clear hg150
    have b155 := F16.bx6 0 rfl
    go_wp2_with fail
    clear b155
    have F156 := (F16.set 2 (.int .i64 lo147)).nf #[.int .i64 0, .int .i64 (max 0 hi29), .int .i64 lo147, .int .i64 0, .int .i64 0, .bool yb35] rfl
    clear F16
    have F157 := (F156.set 3 (.int .i64 hi148)).nf #[.int .i64 0, .int .i64 (max 0 hi29), .int .i64 lo147, .int .i64 hi148, .int .i64 0, .bool yb35] rfl
    clear F156
    refine (yes_c sb 4 _ (F157.e 4 rfl) (by omega) (by omega)).mono ?_
    rintro e w160 ⟨yb154, rfl, hs159, hg158⟩
    have hg158s := hg158.size
    (try simp at hg158s)
    replace F157 := F157.seedAt 4 rfl hg158 hs159
    clear hg158
    cases c162 : yb154
    ·
     have c162H := lhd c162
     have b163 := F157.bx6 0 rfl
     go_wp2_with (at_builtin; refine wpList_app _ okWea rfl _ _ rfl w.heap.size vo lo_ [(⟨⟨0, max 0 hi29⟩, ⟨lo147, hi148⟩, 0, yb35⟩ : Wea)] rfl (by exact ((F157.o 3 rfl)).alloc _) ⟨_, 0, none⟩ 1 1 rfl rfl (by decide) (news_of (Bk.newAt _ _ _ (by simp))) (lo_.length + 1) (by simp) (by omega) (by first | omega | (simp; omega)) _ rfl ?_; intro g164 cap165 w166 hp167; refine Hid.out ?_)
     refine lhd ?_
     have hp167s := hp167.gb.size
     (try simp at hp167s)
     clear b163
     have F168 := ((F157.alloc (.cells #[.int .i64 0, .int .i64 (max 0 hi29), .int .i64 lo147, .int .i64 hi148, .int .i64 0, .bool yb35] 49)).front 3 rfl rfl).app hp167 (by simp)
     clear F157
     go_wp2_with fail
     have F169 : Bus w sb [rown weaEnc 49 6 w.heap.size (.slice (some ⟨g164, 0, none⟩) (lo_.length + 1) cap165) (lo_ ++ [(⟨⟨0, max 0 hi29⟩, ⟨lo147, hi148⟩, 0, yb35⟩ : Wea)]), rseed sb] _ := F168.pick [0, 4] (by decide) rfl
     clear F168
     (first | refine ⟨by kernel_rfl, ?_, ?_⟩ | refine ⟨rfl, ?_, ?_⟩ | refine ⟨?_, ?_⟩)
     · rw [HI9.out]; exact ⟨c - 1, _, _, (by kernel_rfl), (by rw [c40H.out]; first | kernel_rfl | rfl), (by kernel_rfl), (by show Value.int .i64 ((c : Int) - 1) = _; rw [show ((c : Int) - 1) = ((c - 1 : Nat) : Int) by omega]), (by simp; omega), (by intro d_ hd_; rcases List.mem_append.1 hd_ with h_ | h_; exact HALL.out d_ h_; obtain rfl := List.mem_singleton.1 h_; exact ⟨by unfold weaErr spanErr; simp only; (repeat' split) <;> first | rfl | (exfalso; omega) | omega, by simp only; intro hf_; first | omega | (exfalso; revert hf_; simp [c40H.out])⟩), (by first | rfl | simp), (by first | omega | (simp; done) | (simp; omega)), F169⟩
     · simp [slot, intOf]; omega
    have c162H := lhd c162
    go_wp2_with fail
    refine (from_c sb 1 30 _ (F157.e 4 rfl) (by omega) (by omega) (by omega) (by omega)).mono ?_
    rintro e w174 ⟨r170, rfl, hr171, hs173, hg172⟩
    unfold fromR at hr171; have hr171b : 1 <= r170 /\ r170 <= 30 := (by omega); clear hr171
    have hg172s := hg172.size
    (try simp at hg172s)
    replace F157 := F157.seedAt 4 rfl hg172 hs173
    clear hg172
    have b176 := F157.bx6 0 rfl
    have F177 := (F157.set 4 (.int .i64 r170)).nf #[.int .i64 0, .int .i64 (max 0 hi29), .int .i64 lo147, .int .i64 hi148, .int .i64 r170, .bool yb35] rfl
    clear F157
    go_wp2_with (at_builtin; refine wpList_app _ okWea rfl _ _ rfl w.heap.size vo lo_ [(⟨⟨0, max 0 hi29⟩, ⟨lo147, hi148⟩, r170, yb35⟩ : Wea)] rfl (by exact ((F177.o 3 rfl)).alloc _) ⟨_, 0, none⟩ 1 1 rfl rfl (by decide) (news_of (Bk.newAt _ _ _ (by simp))) (lo_.length + 1) (by simp) (by omega) (by first | omega | (simp; omega)) _ rfl ?_; intro g178 cap179 w180 hp181; refine Hid.out ?_)
    refine lhd ?_
    have hp181s := hp181.gb.size
    (try simp at hp181s)
    clear b176
    have F182 := ((F177.alloc (.cells #[.int .i64 0, .int .i64 (max 0 hi29), .int .i64 lo147, .int .i64 hi148, .int .i64 r170, .bool yb35] 49)).front 3 rfl rfl).app hp181 (by simp)
    clear F177
    go_wp2_with fail
    have F183 : Bus w sb [rown weaEnc 49 6 w.heap.size (.slice (some ⟨g178, 0, none⟩) (lo_.length + 1) cap179) (lo_ ++ [(⟨⟨0, max 0 hi29⟩, ⟨lo147, hi148⟩, r170, yb35⟩ : Wea)]), rseed sb] _ := F182.pick [0, 4] (by decide) rfl
    clear F182
    (first | refine ⟨by kernel_rfl, ?_, ?_⟩ | refine ⟨rfl, ?_, ?_⟩ | refine ⟨?_, ?_⟩)
    · rw [HI9.out]; exact ⟨c - 1, _, _, (by kernel_rfl), (by rw [c40H.out]; first | kernel_rfl | rfl), (by kernel_rfl), (by show Value.int .i64 ((c : Int) - 1) = _; rw [show ((c : Int) - 1) = ((c - 1 : Nat) : Int) by omega]), (by simp; omega), (by intro d_ hd_; rcases List.mem_append.1 hd_ with h_ | h_; exact HALL.out d_ h_; obtain rfl := List.mem_singleton.1 h_; exact ⟨by unfold weaErr spanErr; simp only; (repeat' split) <;> first | rfl | (exfalso; omega) | omega, by simp only; intro hf_; first | omega | (exfalso; revert hf_; simp [c40H.out])⟩), (by first | rfl | simp), (by first | omega | (simp; done) | (simp; omega)), F183⟩
    · simp [slot, intOf]; omega
   have c112H := lhd c112
   have c112a := dec_f c112
   go_wp2_with fail
   replace F16 := F16.new 49 #[.int .i64 lo28, .int .i64 hi29, .int .i64 0, .int .i64 0, .int .i64 0, .bool yb35] (n := w38.heap.size) (by simp)
   refine (yes_c sb 3 _ (F16.e 4 rfl) (by omega) (by omega)).mono ?_
   rintro e w188 ⟨yb184, rfl, hs187, hg186⟩
   have hg186s := hg186.size
   (try simp at hg186s)
   replace F16 := F16.seedAt 4 rfl hg186 hs187
   clear hg186
   cases c190 : yb184
   ·
    have c190H := lhd c190
    go_wp2_with fail
    refine (yes_c sb 4 _ (F16.e 4 rfl) (by omega) (by omega)).mono ?_
    rintro e w194 ⟨yb191, rfl, hs193, hg192⟩
    have hg192s := hg192.size
    (try simp at hg192s)
    replace F16 := F16.seedAt 4 rfl hg192 hs193
    clear hg192
    cases c196 : yb191
    ·
     have c196H := lhd c196
     have b197 := F16.bx6 0 rfl
     go_wp2_with (at_builtin; refine wpList_app _ okWea rfl _ _ rfl w.heap.size vo lo_ [(⟨⟨lo28, hi29⟩, ⟨0, 0⟩, 0, yb35⟩ : Wea)] rfl (by exact ((F16.o 3 rfl)).alloc _) ⟨_, 0, none⟩ 1 1 rfl rfl (by decide) (news_of (Bk.newAt _ _ _ (by simp))) (lo_.length + 1) (by simp) (by omega) (by first | omega | (simp; omega)) _ rfl ?_; intro g198 cap199 w200 hp201; refine Hid.out ?_)
     refine lhd ?_
     have hp201s := hp201.gb.size
     (try simp at hp201s)
     clear b197
     have F202 := ((F16.alloc (.cells #[.int .i64 lo28, .int .i64 hi29, .int .i64 0, .int .i64 0, .int .i64 0, .bool yb35] 49)).front 3 rfl rfl).app hp201 (by simp)
     clear F16
     go_wp2_with fail
     have F203 : Bus w sb [rown weaEnc 49 6 w.heap.size (.slice (some ⟨g198, 0, none⟩) (lo_.length + 1) cap199) (lo_ ++ [(⟨⟨lo28, hi29⟩, ⟨0, 0⟩, 0, yb35⟩ : Wea)]), rseed sb] _ := F202.pick [0, 4] (by decide) rfl
     clear F202
     (first | refine ⟨by kernel_rfl, ?_, ?_⟩ | refine ⟨rfl, ?_, ?_⟩ | refine ⟨?_, ?_⟩)
     · rw [HI9.out]; exact ⟨c - 1, _, _, (by kernel_rfl), (by rw [c40H.out]; first | kernel_rfl | rfl), (by kernel_rfl), (by show Value.int .i64 ((c : Int) - 1) = _; rw [show ((c : Int) - 1) = ((c - 1 : Nat) : Int) by omega]), (by simp; omega), (by intro d_ hd_; rcases List.mem_append.1 hd_ with h_ | h_; exact HALL.out d_ h_; obtain rfl := List.mem_singleton.1 h_; exact ⟨by unfold weaErr spanErr; simp only; (repeat' split) <;> first | rfl | (exfalso; omega) | omega, by simp only; intro hf_; first | omega | (exfalso; revert hf_; simp [c40H.out])⟩), (by first | rfl | simp), (by first | omega | (simp; done) | (simp; omega)), F203⟩
     · simp [slot, intOf]; omega
    have c196H := lhd c196
    go_wp2_with fail
    refine (from_c sb 1 30 _ (F16.e 4 rfl) (by omega) (by omega) (by omega) (by omega)).mono ?_
    rintro e w208 ⟨r204, rfl, hr205, hs207, hg206⟩
    unfold fromR at hr205; have hr205b : 1 <= r204 /\ r204 <= 30 := (by omega); clear hr205
    have hg206s := hg206.size
    (try simp at hg206s)
    replace F16 := F16.seedAt 4 rfl hg206 hs207
    clear hg206
    have b210 := F16.bx6 0 rfl
    have F211 := (F16.set 4 (.int .i64 r204)).nf #[.int .i64 lo28, .int .i64 hi29, .int .i64 0, .int .i64 0, .int .i64 r204, .bool yb35] rfl
    clear F16
    go_wp2_with (at_builtin; refine wpList_app _ okWea rfl _ _ rfl w.heap.size vo lo_ [(⟨⟨lo28, hi29⟩, ⟨0, 0⟩, r204, yb35⟩ : Wea)] rfl (by exact ((F211.o 3 rfl)).alloc _) ⟨_, 0, none⟩ 1 1 rfl rfl (by decide) (news_of (Bk.newAt _ _ _ (by simp))) (lo_.length + 1) (by simp) (by omega) (by first | omega | (simp; omega)) _ rfl ?_; intro g212 cap213 w214 hp215; refine Hid.out ?_)
    refine lhd ?_
    have hp215s := hp215.gb.size
    (try simp at hp215s)
    clear b210
    have F216 := ((F211.alloc (.cells #[.int .i64 lo28, .int .i64 hi29, .int .i64 0, .int .i64 0, .int .i64 r204, .bool yb35] 49)).front 3 rfl rfl).app hp215 (by simp)
    clear F211
    go_wp2_with fail
    have F217 : Bus w sb [rown weaEnc 49 6 w.heap.size (.slice (some ⟨g212, 0, none⟩) (lo_.length + 1) cap213) (lo_ ++ [(⟨⟨lo28, hi29⟩, ⟨0, 0⟩, r204, yb35⟩ : Wea)]), rseed sb] _ := F216.pick [0, 4] (by decide) rfl
    clear F216
    (first | refine ⟨by kernel_rfl, ?_, ?_⟩ | refine ⟨rfl, ?_, ?_⟩ | refine ⟨?_, ?_⟩)
    · rw [HI9.out]; exact ⟨c - 1, _, _, (by kernel_rfl), (by rw [c40H.out]; first | kernel_rfl | rfl), (by kernel_rfl), (by show Value.int .i64 ((c : Int) - 1) = _; rw [show ((c : Int) - 1) = ((c - 1 : Nat) : Int) by omega]), (by simp; omega), (by intro d_ hd_; rcases List.mem_append.1 hd_ with h_ | h_; exact HALL.out d_ h_; obtain rfl := List.mem_singleton.1 h_; exact ⟨by unfold weaErr spanErr; simp only; (repeat' split) <;> first | rfl | (exfalso; omega) | omega, by simp only; intro hf_; first | omega | (exfalso; revert hf_; simp [c40H.out])⟩), (by first | rfl | simp), (by first | omega | (simp; done) | (simp; omega)), F217⟩
    · simp [slot, intOf]; omega
   have c190H := lhd c190
   go_wp2_with fail
   refine (spanOf_c sb 0 90 _ (F16.e 4 rfl) (by omega) (by omega) (by omega)).mono ?_
   rintro e w223 ⟨_, rfl, ⟨lo218, hi219, rfl, hr220a, hr220b, hr220c⟩, hs222, hg221⟩
   have hg221s := hg221.size
   (try simp at hg221s)
   replace F16 := F16.seedAt 4 rfl hg221 hs222
   clear hg221
   have b226 := F16.bx6 0 rfl
   go_wp2_with fail
   clear b226
   have F227 := (F16.set 2 (.int .i64 lo218)).nf #[.int .i64 lo28, .int .i64 hi29, .int .i64 lo218, .int .i64 0, .int .i64 0, .bool yb35] rfl
   clear F16
   have F228 := (F227.set 3 (.int .i64 hi219)).nf #[.int .i64 lo28, .int .i64 hi29, .int .i64 lo218, .int .i64 hi219, .int .i64 0, .bool yb35] rfl
   clear F227
   refine (yes_c sb 4 _ (F228.e 4 rfl) (by omega) (by omega)).mono ?_
   rintro e w231 ⟨yb225, rfl, hs230, hg229⟩
   have hg229s := hg229.size
   (try simp at hg229s)
   replace F228 := F228.seedAt 4 rfl hg229 hs230
   clear hg229
   cases c233 : yb225
   ·
    have c233H := lhd c233
    have b234 := F228.bx6 0 rfl
    go_wp2_with (at_builtin; refine wpList_app _ okWea rfl _ _ rfl w.heap.size vo lo_ [(⟨⟨lo28, hi29⟩, ⟨lo218, hi219⟩, 0, yb35⟩ : Wea)] rfl (by exact ((F228.o 3 rfl)).alloc _) ⟨_, 0, none⟩ 1 1 rfl rfl (by decide) (news_of (Bk.newAt _ _ _ (by simp))) (lo_.length + 1) (by simp) (by omega) (by first | omega | (simp; omega)) _ rfl ?_; intro g235 cap236 w237 hp238; refine Hid.out ?_)
    refine lhd ?_
    have hp238s := hp238.gb.size
    (try simp at hp238s)
    clear b234
    have F239 := ((F228.alloc (.cells #[.int .i64 lo28, .int .i64 hi29, .int .i64 lo218, .int .i64 hi219, .int .i64 0, .bool yb35] 49)).front 3 rfl rfl).app hp238 (by simp)
    clear F228
    go_wp2_with fail
    have F240 : Bus w sb [rown weaEnc 49 6 w.heap.size (.slice (some ⟨g235, 0, none⟩) (lo_.length + 1) cap236) (lo_ ++ [(⟨⟨lo28, hi29⟩, ⟨lo218, hi219⟩, 0, yb35⟩ : Wea)]), rseed sb] _ := F239.pick [0, 4] (by decide) rfl
    clear F239
    (first | refine ⟨by kernel_rfl, ?_, ?_⟩ | refine ⟨rfl, ?_, ?_⟩ | refine ⟨?_, ?_⟩)
    · rw [HI9.out]; exact ⟨c - 1, _, _, (by kernel_rfl), (by rw [c40H.out]; first | kernel_rfl | rfl), (by kernel_rfl), (by show Value.int .i64 ((c : Int) - 1) = _; rw [show ((c : Int) - 1) = ((c - 1 : Nat) : Int) by omega]), (by simp; omega), (by intro d_ hd_; rcases List.mem_append.1 hd_ with h_ | h_; exact HALL.out d_ h_; obtain rfl := List.mem_singleton.1 h_; exact ⟨by unfold weaErr spanErr; simp only; (repeat' split) <;> first | rfl | (exfalso; omega) | omega, by simp only; intro hf_; first | omega | (exfalso; revert hf_; simp [c40H.out])⟩), (by first | rfl | simp), (by first | omega | (simp; done) | (simp; omega)), F240⟩
    · simp [slot, intOf]; omega
   have c233H := lhd c233
   go_wp2_with fail
   refine (from_c sb 1 30 _ (F228.e 4 rfl) (by omega) (by omega) (by omega) (by omega)).mono ?_
   rintro e w245 ⟨r241, rfl, hr242, hs244, hg243⟩
   unfold fromR at hr242; have hr242b : 1 <= r241 /\ r241 <= 30 := (by omega); clear hr242
   have hg243s := hg243.size
   (try simp at hg243s)
   replace F228 := F228.seedAt 4 rfl hg243 hs244
   clear hg243
   have b247 := F228.bx6 0 rfl
   have F248 := (F228.set 4 (.int .i64 r241)).nf #[.int .i64 lo28, .int .i64 hi29, .int .i64 lo218, .int .i64 hi219, .int .i64 r241, .bool yb35] rfl
   clear F228
   go_wp2_with (at_builtin; refine wpList_app _ okWea rfl _ _ rfl w.heap.size vo lo_ [(⟨⟨lo28, hi29⟩, ⟨lo218, hi219⟩, r241, yb35⟩ : Wea)] rfl (by exact ((F248.o 3 rfl)).alloc _) ⟨_, 0, none⟩ 1 1 rfl rfl (by decide) (news_of (Bk.newAt _ _ _ (by simp))) (lo_.length + 1) (by simp) (by omega) (by first | omega | (simp; omega)) _ rfl ?_; intro g249 cap250 w251 hp252; refine Hid.out ?_)
   refine lhd ?_
   have hp252s := hp252.gb.size
   (try simp at hp252s)
   clear b247
   have F253 := ((F248.alloc (.cells #[.int .i64 lo28, .int .i64 hi29, .int .i64 lo218, .int .i64 hi219, .int .i64 r241, .bool yb35] 49)).front 3 rfl rfl).app hp252 (by simp)
   clear F248
   go_wp2_with fail
   have F254 : Bus w sb [rown weaEnc 49 6 w.heap.size (.slice (some ⟨g249, 0, none⟩) (lo_.length + 1) cap250) (lo_ ++ [(⟨⟨lo28, hi29⟩, ⟨lo218, hi219⟩, r241, yb35⟩ : Wea)]), rseed sb] _ := F253.pick [0, 4] (by decide) rfl
   clear F253
   (first | refine ⟨by kernel_rfl, ?_, ?_⟩ | refine ⟨rfl, ?_, ?_⟩ | refine ⟨?_, ?_⟩)
   · rw [HI9.out]; exact ⟨c - 1, _, _, (by kernel_rfl), (by rw [c40H.out]; first | kernel_rfl | rfl), (by kernel_rfl), (by show Value.int .i64 ((c : Int) - 1) = _; rw [show ((c : Int) - 1) = ((c - 1 : Nat) : Int) by omega]), (by simp; omega), (by intro d_ hd_; rcases List.mem_append.1 hd_ with h_ | h_; exact HALL.out d_ h_; obtain rfl := List.mem_singleton.1 h_; exact ⟨by unfold weaErr spanErr; simp only; (repeat' split) <;> first | rfl | (exfalso; omega) | omega, by simp only; intro hf_; first | omega | (exfalso; revert hf_; simp [c40H.out])⟩), (by first | rfl | simp), (by first | omega | (simp; done) | (simp; omega)), F254⟩
   · simp [slot, intOf]; omega
  have c13H := lhd c13
  have c13a := dec_f c13
  go_wp2_with fail
  exact bodyPost_ret (v := vo) (by simp [results, Try.results7, go_sem]) rfl ((Exists.intro vo (Exists.intro lo_ ⟨rfl, (hF10.o 0 rfl), by omega, HALL.out, (hF10.e 1 rfl), hF10.gb⟩)))
 case atStart1 =>
  rw [HI9.out]
  exact ⟨r2.toNat, _, _, (by kernel_rfl), (by kernel_rfl), rfl, (by rw [Int.toNat_of_nonneg (by omega)]; first | kernel_rfl | rfl), (by simp; omega), (fun _ h => by cases h), rfl, (by first | exact Nat.le_refl _ | omega | (simp; done) | (simp; omega)), F1⟩
end Go.Proofs.Ytdgplekokdeafaa
