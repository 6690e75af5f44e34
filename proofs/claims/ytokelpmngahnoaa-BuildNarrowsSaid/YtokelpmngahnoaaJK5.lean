/- the kit of build: days within days. -/
import Derived.Test.YtokelpmngahnoaaJK
import Derived.Test.YtokelpmngahnoaaP1
import Derived.Test.YtokelpmngahnoaaK1
set_option linter.unusedVariables false
set_option linter.unusedSimpArgs false
set_option linter.unnecessarySimpa false
namespace Go.Proofs.Ytokelpmngahnoaa
open Go.RowKit
set_option maxRecDepth 100000
theorem subDs_snoc {l' l : List Wea} {k : Nat} {z x : Wea} (h : subDs l' (l.take k)) (hk : k ≤ l.length) (hz : l[k]? = some z) (hx : subS x.cold z.cold) : subDs (l' ++ [x]) (l.take (k + 1)) := by
  obtain ⟨h1, h2⟩ := h
  have hk' := (List.getElem?_eq_some_iff.1 hz).1
  rw [List.length_take, Nat.min_eq_left hk] at h1
  refine ⟨by rw [List.length_append, List.length_take]; simp; omega, fun i a b ha hb => ?_⟩
  rcases Nat.lt_or_ge i k with hi | hi
  · rw [List.getElem?_append_left (by omega)] at ha
    rw [List.getElem?_take, if_pos (by omega)] at hb
    exact h2 i a b ha (by rw [List.getElem?_take, if_pos hi]; exact hb)
  · rw [List.getElem?_take] at hb
    split at hb
    · obtain rfl : i = k := by omega
      rw [hz] at hb
      injection hb with hb
      subst hb
      rw [List.getElem?_append_right (by omega), h1, Nat.sub_self] at ha
      simp at ha
      subst ha
      exact hx
    · cases hb
def InnerDP (sb : Nat) (l : List Wea) (w : World) : Ending → World → Prop := fun e w' => ∃ (l' : List Wea) (a : Option Addr) (c lo hi : Nat), e = .returned (.slice a l'.length c) ∧ (w.heap.size ≤ lo ∧ hi ≤ w'.heap.size) ∧ Sl weaEnc 6 lo hi w' (.slice a l'.length c) l' ∧ (subDs l' l ∧ ∀ d ∈ l', weaErr d = 0) ∧ SeedAt w' sb ∧ w.grownBy w' (some sb)

set_option maxHeartbeats 16000000 in
theorem innerDays_b (sb lo hi : Nat) (v : Value) (l : List Wea) (w : World) (hs : SeedAt w sb) (hl : Sl weaEnc 6 lo hi w v l) (h2 : hi ≤ w.heap.size) (hx : ¬ (lo ≤ sb ∧ sb < hi)) (hd : ∀ d ∈ l, weaErr d = 0) (hn : l.length ≤ 1000) :
    Calls Try.prog 30 #[.pointer (some ⟨sb, 0, none⟩), v] w (InnerDP sb l w) := by
  have F1 : Bus w sb [rseed sb] w := Bus.ofSeed hs
  have hsl := hs.lt
  clear hs
  have hm_ds := hl.len
  unfold maxLen at hm_ds
  obtain ⟨da, dc, rfl⟩ := hl.any
  have F2 := F1.sl0 hl h2 hx (onlyS_seed _)
  clear F1
  clear hl
  have HD := Lib.hid hd
  clear hd
  go_enter Try.func30, Try.ntmps30
  go_wp2_with fail
  have F3 := F2.nilrow weaEnc 108 6
  clear F2
  (skip)
  obtain ⟨HI4_, HI40⟩ : ∃ I : (Nat → Value) → List Deferred → World → Prop, I = (fun t ds wr => ∃ (k : Nat) (vo : Value) (lo_ : List Wea), t 0 = .pointer (some ⟨sb, 0, none⟩) ∧ t 1 = .slice da l.length dc ∧ t 5 = vo ∧ t 6 = .int .i64 (k : Int) ∧ k ≤ l.length ∧ (lo_.length ≤ k ∧ k ≤ lo_.length) ∧ subDs lo_ (l.take k) ∧ (∀ d ∈ lo_, weaErr d = 0) ∧ ds = [] ∧ w.heap.size ≤ wr.heap.size ∧ Bus w sb [rown weaEnc 108 6 w.heap.size vo lo_, rsl weaEnc 6 lo hi (.slice da l.length dc) l, rseed sb] wr) := ⟨_, rfl⟩
  have HI4 := Lib.hid HI40
  clear HI40
  refine wp_loopS 33 rfl HI4_ (fun t wr => l.length - (intOf (t 6)).toNat) ?atStart1 ?round1
  case round1 =>
    intro t ds wr hHid
    rw [HI4.out] at hHid
    obtain ⟨k, vo, lo_, e0, e1, e5, e6, hrel⟩ := hHid
    have e : ((List.range 33).map t).toArray = #[t 0, t 1, t 2, t 3, t 4, t 5, t 6, t 7, t 8, t 9, t 10, t 11, t 12, t 13, t 14, t 15, t 16, t 17, t 18, t 19, t 20, t 21, t 22, t 23, t 24, t 25, t 26, t 27, t 28, t 29, t 30, t 31, t 32] := rfl
    (try dsimp only at e)
    rw [e0, e1, e5, e6] at e
    rw [e]
    simp only [e6]
    clear e e0 e1 e5 e6
    obtain ⟨hk, hlen, hsd, hall, rfl, hs6, hF5⟩ := hrel
    clear F3
    obtain ⟨w7, rfl⟩ : ∃ x_ : World, x_ = wr := ⟨_, rfl⟩
    have HALL := Lib.hid hall
    have HSD := Lib.hid hsd
    clear hall hsd
    by_cases c8 : (k : Int) < (l.length : Int)
    · skip
      have c8H := Lib.hid c8
      obtain ⟨x9, o10, e_⟩ := Sl.addr (hF5.at 1 rfl : Sl weaEnc 6 lo hi _ (.slice da l.length dc) l) (by omega)
      subst e_
      obtain ⟨z, hz11_⟩ : ∃ z_, l[k]? = some z_ := ⟨_, List.getElem?_eq_getElem (by omega)⟩
      have hz11 := Lib.hid hz11_
      clear hz11_
      have hzd := HD.out z (List.mem_of_getElem? hz11.out)
      have hzw := weaOk hzd
      have hzc := hzw.cold
      have hzf := hzw.fall
      have hzq := hzw.water
      clear hzw
      have ge18 : World.cell? _ ⟨x9, o10 + k * 6, none⟩ = some (.int .i64 z.cold.lo) := (((hF5.at 1 rfl : Sl weaEnc 6 lo hi _ (.slice (some ⟨x9, o10, none⟩) l.length dc) l)).cells hz11.out 0 _ rfl)
      have gl19 := cell_lt ge18
      have ge20 : World.cell? _ ⟨x9, o10 + k * 6 + 1, none⟩ = some (.int .i64 z.cold.hi) := (((hF5.at 1 rfl : Sl weaEnc 6 lo hi _ (.slice (some ⟨x9, o10, none⟩) l.length dc) l)).cells hz11.out 1 _ rfl)
      have ge21 : World.cell? _ ⟨x9, o10 + k * 6 + 2, none⟩ = some (.int .i64 z.fall.lo) := (((hF5.at 1 rfl : Sl weaEnc 6 lo hi _ (.slice (some ⟨x9, o10, none⟩) l.length dc) l)).cells hz11.out 2 _ rfl)
      have ge22 : World.cell? _ ⟨x9, o10 + k * 6 + 3, none⟩ = some (.int .i64 z.fall.hi) := (((hF5.at 1 rfl : Sl weaEnc 6 lo hi _ (.slice (some ⟨x9, o10, none⟩) l.length dc) l)).cells hz11.out 3 _ rfl)
      have ge23 : World.cell? _ ⟨x9, o10 + k * 6 + 4, none⟩ = some (.int .i64 z.water) := (((hF5.at 1 rfl : Sl weaEnc 6 lo hi _ (.slice (some ⟨x9, o10, none⟩) l.length dc) l)).cells hz11.out 4 _ rfl)
      have ge24 : World.cell? _ ⟨x9, o10 + k * 6 + 5, none⟩ = some (.bool z.clear) := (((hF5.at 1 rfl : Sl weaEnc 6 lo hi _ (.slice (some ⟨x9, o10, none⟩) l.length dc) l)).cells hz11.out 5 _ rfl)
      go_wp2_with fail
      clear ge18 gl19 ge20 ge21 ge22 ge23 ge24
      have F25 := hF5.new 108 #[.int .i64 z.cold.lo, .int .i64 z.cold.hi, .int .i64 z.fall.lo, .int .i64 z.fall.hi, .int .i64 z.water, .bool z.clear] (n := w7.heap.size) (by simp)
      clear hF5
      obtain ⟨w26, hx27, F29, hxs28⟩ := (show Bus w sb [rbox w7.heap.size 108 #[.int .i64 z.cold.lo, .int .i64 z.cold.hi, .int .i64 z.fall.lo, .int .i64 z.fall.hi, .int .i64 z.water, .bool z.clear], rown weaEnc 108 6 w.heap.size vo lo_, rsl weaEnc 6 lo hi (.slice (some ⟨x9, o10, none⟩) l.length dc) l, rseed sb] _ from F25).name
      (try simp at hxs28)
      rw [hx27]
      clear hx27 F25
      have F30 := F29.drew
      clear F29
      refine ru_begin (fun W => W.cell? ⟨w7.heap.size, 2, none⟩ = some (.int .i64 z.fall.lo) ∧ W.cell? ⟨w7.heap.size, 3, none⟩ = some (.int .i64 z.fall.hi)) 11 (by kernel_rfl) ?_ ?_
      · exact ⟨F30.cl 0 2 rfl rfl, F30.cl 0 3 rfl rfl⟩
      obtain ⟨wd32, hwd_⟩ : ∃ x : World, w26.drew = x := ⟨_, rfl⟩
      rw [hwd_] at F30 ⊢
      have wd32s : w26.heap.size ≤ wd32.heap.size := by rw [← hwd_]; exact Nat.le_refl _
      clear hwd_
      have hS31 := (And.intro (F30.cl 0 2 rfl rfl) (F30.cl 0 3 rfl rfl))
      refine ru_t 0 [] ?_
      refine ru_t 1 [] ?_
      refine ru_t 4 [] ?_
      refine ru_t 5 [] ?_
      refine ru_t 6 [] ?_
      (try simp only [Act.put, List.setIfInBounds_toArray, List.set_cons_zero, List.set_cons_succ])
      clear hS31
      refine ru_one 2 rfl (by kernel_rfl) (fun K hK => ?_)
      have kq0_ := F30.cl 0 0 rfl rfl
      have kq1_ := F30.cl 0 1 rfl rfl
      go_simp
      clear kq0_ kq1_
      refine ru_back hK (by exact ⟨F30.cl 0 2 rfl rfl, F30.cl 0 3 rfl rfl⟩) (fun hHeld => ?_)
      clear hK K
      (try simp only [Act.put, List.setIfInBounds_toArray, List.set_cons_zero, List.set_cons_succ])
      refine ru_one 3 rfl (by kernel_rfl) (fun K hK => ?_)
      go_simp
      refine (part_c sb z.cold.lo z.cold.hi _ (F30.at 3 rfl : SeedAt _ sb) (by omega) (by omega) (by omega)).mono ?_
      rintro e w38 ⟨_, rfl, ⟨lo33, hi34, rfl, hr35a, hr35b, hr35c⟩, hs37, hg36⟩
      have hg36s := hg36.size
      (try simp at hg36s)
      have F39 := F30.seedAt 3 rfl hg36 hs37
      clear F30
      refine ru_back hK (by exact ⟨F39.cl 0 2 rfl rfl, F39.cl 0 3 rfl rfl⟩) (fun hHeld => ?_)
      clear hK K
      (try simp only [Act.put, List.setIfInBounds_toArray, List.set_cons_zero, List.set_cons_succ])
      refine ru_p 8 ?_
      (try simp only [Act.put, List.setIfInBounds_toArray, List.set_cons_zero, List.set_cons_succ])
      refine ru_one 7 rfl (by kernel_rfl) (fun K hK => ?_)
      go_simp
      refine (part_c sb z.fall.lo z.fall.hi _ (F39.at 3 rfl : SeedAt _ sb) (by omega) (by omega) (by omega)).mono ?_
      rintro e w45 ⟨_, rfl, ⟨lo40, hi41, rfl, hr42a, hr42b, hr42c⟩, hs44, hg43⟩
      have hg43s := hg43.size
      (try simp at hg43s)
      have F46 := F39.seedAt 3 rfl hg43 hs44
      clear F39
      refine ru_back hK (by exact ⟨F46.cl 0 2 rfl rfl, F46.cl 0 3 rfl rfl⟩) (fun hHeld => ?_)
      clear hK K
      (try simp only [Act.put, List.setIfInBounds_toArray, List.set_cons_zero, List.set_cons_succ])
      refine ru_one 9 rfl (by kernel_rfl) (fun K hK => ?_)
      have kb_ := F46.bx6 0 rfl
      go_simp
      clear kb_
      have F47 := (F46.set 0 (.int .i64 lo33)).nf #[.int .i64 lo33, .int .i64 z.cold.hi, .int .i64 z.fall.lo, .int .i64 z.fall.hi, .int .i64 z.water, .bool z.clear] rfl
      clear F46
      have F48 := (F47.set 1 (.int .i64 hi34)).nf #[.int .i64 lo33, .int .i64 hi34, .int .i64 z.fall.lo, .int .i64 z.fall.hi, .int .i64 z.water, .bool z.clear] rfl
      clear F47
      refine ru_back hK (by exact ⟨F48.cl 0 2 rfl rfl, F48.cl 0 3 rfl rfl⟩) (fun hHeld => ?_)
      clear hK K
      (try simp only [Act.put, List.setIfInBounds_toArray, List.set_cons_zero, List.set_cons_succ])
      refine ru_p 10 ?_
      (try simp only [Act.put, List.setIfInBounds_toArray, List.set_cons_zero, List.set_cons_succ])
      refine ru_one 11 rfl (by kernel_rfl) (fun K hK => ?_)
      have kb_ := F48.bx6 0 rfl
      go_simp
      clear kb_
      have F49 := (F48.set 2 (.int .i64 lo40)).nf #[.int .i64 lo33, .int .i64 hi34, .int .i64 lo40, .int .i64 z.fall.hi, .int .i64 z.water, .bool z.clear] rfl
      clear F48
      have F50 := (F49.set 3 (.int .i64 hi41)).nf #[.int .i64 lo33, .int .i64 hi34, .int .i64 lo40, .int .i64 hi41, .int .i64 z.water, .bool z.clear] rfl
      clear F49
      refine ru_back_late hK (by kernel_rfl) ?_
      clear hK K
      (try simp only [Act.put, List.setIfInBounds_toArray, List.set_cons_zero, List.set_cons_succ])
      refine ru_done (by kernel_rfl) ?_
      obtain ⟨w51, hx52, F54, hxs53⟩ := (show Bus w sb [rbox w7.heap.size 108 #[.int .i64 lo33, .int .i64 hi34, .int .i64 lo40, .int .i64 hi41, .int .i64 z.water, .bool z.clear], rown weaEnc 108 6 w.heap.size vo lo_, rsl weaEnc 6 lo hi (.slice (some ⟨x9, o10, none⟩) l.length dc) l, rseed sb] _ from F50).name
      (try simp at hxs53)
      rw [hx52]
      clear hx52 F50
      have b55 := F54.bx6 0 rfl
      go_wp2_with (at_builtin; refine wpList_app _ okWea rfl _ _ rfl w.heap.size vo lo_ [(⟨⟨lo33, hi34⟩, ⟨lo40, hi41⟩, z.water, z.clear⟩ : Wea)] rfl (by exact ((F54.at 1 rfl : Own weaEnc 108 6 w.heap.size _ vo lo_)).alloc _) ⟨_, 0, none⟩ 1 1 rfl rfl (by decide) (news_of (Bk.newAt _ _ _ (by simp))) (k + 1) (by simp; omega) (by omega) (by first | omega | (simp; omega)) _ rfl ?_; intro g56 cap57 w58 hp59; refine Hid.out ?_)
      refine Lib.hid ?_
      have hp59s := hp59.gb.size
      (try simp at hp59s)
      clear b55
      have F60 := ((F54.alloc (.cells #[.int .i64 lo33, .int .i64 hi34, .int .i64 lo40, .int .i64 hi41, .int .i64 z.water, .bool z.clear] 108)).front 1 rfl rfl).app hp59 (by simp)
      clear F54
      go_wp2_with fail
      have F61 : Bus w sb [rown weaEnc 108 6 w.heap.size (.slice (some ⟨g56, 0, none⟩) (k + 1) cap57) (lo_ ++ [(⟨⟨lo33, hi34⟩, ⟨lo40, hi41⟩, z.water, z.clear⟩ : Wea)]), rsl weaEnc 6 lo hi (.slice (some ⟨x9, o10, none⟩) l.length dc) l, rseed sb] _ := F60.pick [0, 2, 3] (by decide) rfl
      clear F60
      (first | refine ⟨rfl, ?_, ?_⟩ | refine ⟨?_, ?_⟩)
      · rw [HI4.out]; exact ⟨k + 1, _, _, rfl, rfl, rfl, (by show Value.int .i64 ((k : Int) + 1) = _; simp), (by omega), (by simp; omega), (subDs_snoc HSD.out (by omega) hz11.out ⟨by simp only; omega, by simp only; omega, by simp only; omega⟩), (by intro d_ hd_; rcases List.mem_append.1 hd_ with h_ | h_; exact HALL.out d_ h_; obtain rfl := List.mem_singleton.1 h_; unfold weaErr spanErr; simp only; (repeat' split) <;> first | rfl | (exfalso; omega) | omega), (by first | rfl | simp), (by first | omega | (simp; done) | (simp; omega)), F61⟩
      · simp [slot, intOf]; omega
    · skip
      have c8H := Lib.hid c8
      have c8a : decide ((k : Int) < (l.length : Int)) = false := dec_f c8
      obtain ⟨oa, oc, eo_⟩ := (Own.sl (hF5.at 0 rfl : Own weaEnc 108 6 w.heap.size _ vo lo_) (fun _ => rfl)).any
      subst eo_
      go_wp2_with fail
      exact bodyPost_ret (v := (.slice oa lo_.length oc)) (by simp [results, Try.results30, go_sem]) rfl (⟨lo_, _, _, w.heap.size, _, rfl, ⟨Nat.le_refl _, Nat.le_refl _⟩, (Own.sl (hF5.at 0 rfl : Own weaEnc 108 6 w.heap.size _ (.slice oa lo_.length oc) lo_) (fun _ => rfl)), ⟨(by have h_ := HSD.out; rwa [List.take_of_length_le (by omega)] at h_), HALL.out⟩, (hF5.at 2 rfl : SeedAt _ sb), hF5.gb⟩)
  case atStart1 =>
    rw [HI4.out]
    exact ⟨0, _, [], rfl, rfl, rfl, rfl, Nat.zero_le _, ⟨Nat.le_refl _, Nat.le_refl _⟩, ⟨rfl, fun i x y h => by cases h⟩, (fun _ h => by cases h), rfl, (by first | exact Nat.le_refl _ | omega | (simp; done) | (simp; omega)), F3⟩

end Go.Proofs.Ytokelpmngahnoaa
