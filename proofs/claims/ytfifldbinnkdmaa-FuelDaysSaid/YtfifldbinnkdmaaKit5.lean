/- The kit's burns. -/
import Derived.Test.YtfifldbinnkdmaaKit4
import Derived.RegionTactic
set_option linter.unusedVariables false
set_option linter.unusedSimpArgs false
set_option linter.unnecessarySimpa false
namespace Go.Proofs.Ytfifldbinnkdmaa
open Go.RowKit
set_option maxRecDepth 100000
theorem infoBn : (Try.prog.info? 136).map (fun i => (i.zero, i.size, i.bytes)) = some (some (.agg #[.int .i64 0, .int .i64 0, .int .i64 0]), 3, 24) := by kernel_rfl
theorem okBn : ElemOk Try.prog 85 136 3 24 bnEnc where
  under := Try.underlying85
  info := info5 infoBn rfl
  pos := by omega
  small := by omega
  len := fun _ => rfl
  one := fun x u hu => by
    simp [bnEnc] at hu
    rcases hu with rfl | rfl | rfl <;> rfl
structure BnInv (rising : Bool) (l : List Bn) (c : Int) : Prop where
  one : ∀ i, i < l.length → (-100 ≤ (bn l i).cold ∧ (bn l i).cold ≤ 100 + 80 * i) ∧ 0 ≤ (bn l i).li.lo ∧ (bn l i).li.lo ≤ (bn l i).li.hi ∧ (bn l i).li.hi ≤ 60
  inc : ∀ i, 0 < i → i < l.length → (bn l (i - 1)).cold < (bn l i).cold
  last : 0 < l.length → (bn l (l.length - 1)).cold < c
  rise : rising = true → ∀ i, 0 < i → i < l.length → (bn l (i - 1)).li.lo ≤ (bn l i).li.lo ∧ (bn l (i - 1)).li.hi ≤ (bn l i).li.hi
  cold : -100 ≤ c ∧ c ≤ 100 + 80 * l.length
theorem bn_app {l : List Bn} {x : Bn} {i : Nat} (h : i < l.length + 1) : bn (l ++ [x]) i = if i < l.length then bn l i else x := by
  unfold bn
  by_cases h1 : i < l.length
  · rw [if_pos h1]; simp [h1, List.getElem?_append_left]
  · rw [if_neg h1, show i = l.length by omega]; simp
theorem BnInv.step {rising : Bool} {l : List Bn} {c d : Int} {s : Sp} (h : BnInv rising l c) (hs : 0 ≤ s.lo ∧ s.lo ≤ s.hi ∧ s.hi ≤ 60) (hd : 1 ≤ d ∧ d ≤ 80)
    (hr : rising = true → 0 < l.length → (bn l (l.length - 1)).li.lo ≤ s.lo ∧ (bn l (l.length - 1)).li.hi ≤ s.hi) : BnInv rising (l ++ [⟨c, s⟩]) (c + d) := by
  have hc := h.cold
  refine ⟨fun i hi => ?_, fun i h0 hi => ?_, fun _ => ?_, fun hR i h0 hi => ?_, ?_⟩
  · rw [bn_app (by simpa using hi)]
    split
    · rename_i h1; exact h.one i h1
    · have : i = l.length := by simp at hi; omega
      subst this
      exact ⟨hc, hs⟩
  · rw [bn_app (by simp at hi; omega), bn_app (by simpa using hi), if_pos (by simp at hi; omega)]
    split
    · rename_i h1; exact h.inc i h0 h1
    · have : i = l.length := by simp at hi; omega
      subst this
      exact h.last h0
  · rw [bn_app (by simp), if_neg (by simp)]
    show c < c + d
    omega
  · rw [bn_app (by simp at hi; omega), bn_app (by simpa using hi), if_pos (by simp at hi; omega)]
    split
    · rename_i h1; exact h.rise hR i h0 h1
    · have : i = l.length := by simp at hi; omega
      subst this
      exact hr hR h0
  · simp; omega
def burnR (lo : Nat) (rising : Bool) (v : Value) (w : World) : Prop := ∃ (l : List Bn) (c : Int), Own bnEnc 136 3 lo w v l ∧ BnInv rising l c ∧ 0 < l.length ∧ l.length ≤ 4
theorem BnInv.ok {rising : Bool} {l : List Bn} {c : Int} (h : BnInv rising l c) (h0 : 0 < l.length) (h4 : l.length ≤ 4) : BnOk l :=
  ⟨h0, by omega, fun i hi => by have := h.one i hi; omega, h.inc⟩

set_option maxHeartbeats 2000000 in
theorem burnOf_c (sb : Nat) (rising : Bool) (w : World) (hs : SeedAt w sb) :
    Calls Try.prog 55 #[.pointer (some ⟨sb, 0, none⟩), .bool rising] w (GenV (burnR w.heap.size rising) sb w) := by
  have hsl := hs.lt
  go_enter Try.func55, Try.ntmps55
  go_wp2_with fail
  refine (from_c sb (-100) 100 _ hs (by omega) (by omega) (by omega) (by omega)).mono ?_
  rintro e w1 ⟨c0, rfl, hc0, hs1, hg1⟩
  have hc0' : -100 ≤ c0 ∧ c0 ≤ 100 := by unfold fromR at hc0; omega
  clear hc0
  go_wp2_with fail
  refine (from_c sb 1 4 _ hs1 (by omega) (by omega) (by omega) (by omega)).mono ?_
  rintro e w2 ⟨r, rfl, hr, hs2, hg2⟩
  have hr' : 1 ≤ r ∧ r ≤ 4 := by unfold fromR at hr; omega
  have hG0 := gb_trans hg1 hg2
  clear hr hg1 hg2 hs1
  go_wp2_with fail
  go_loopw [5, 6, 7] (fun v cc i wr => ∃ (k : Nat) (l : List Bn) (c : Int), i = .int .i64 k ∧ cc = .int .i64 c ∧ (1 ≤ l.length + k ∧ l.length + k ≤ 4) ∧ Own bnEnc 136 3 w.heap.size wr v l ∧ BnInv rising l c ∧ SeedAt wr sb ∧ w.grownBy wr (some sb)) (fun _ _ i _ => (intOf i).toNat)
  case atStart => exact ⟨r.toNat, [], c0, by rw [Int.toNat_of_nonneg (by omega)], rfl, by simp; omega, Own.nil _ _ _ _ _, ⟨fun i h => by simp at h, fun i _ h => by simp at h, fun h => by simp at h, fun _ i _ h => by simp at h, by simpa using hc0'⟩, hs2, hG0⟩
  case round =>
    clear hs2 hG0 hr'
    obtain ⟨k, l, c, rfl, rfl, hk, hown, hI, hsd, hg⟩ := hrel
    have hgs := hg.size
    by_cases hk0 : 0 < k
    · have hob : ∀ m, u5.ownBlock = some m → w.heap.size ≤ m := fun m e => (hown.lt m e).1
      have HO := Lib.hid (And.intro hown (And.intro hI hg))
      have hcb := hI.cold
      clear hown hI hg
      go_wp2_with fail
      refine (spanOf_c sb 0 60 _ hsd (by omega) (by omega) (by omega)).mono ?_
      rintro e w2 ⟨v2, rfl, ⟨a, bb, rfl, ha1, ha2, ha3⟩, hs2, hg2⟩
      have hO2 := HO.out.1.gb hg2 (fun m e e' => by cases e; have := hob _ e'; omega)
      have hg2s := hg2.size
      have hG2 := gb_trans HO.out.2.2 hg2
      have hx := Bk.new w2 136 #[.int .i64 c, .int .i64 a, .int .i64 bb]
      have qx := hx.c3
      have hv : ∃ n0 a0 c0, u5 = .slice a0 n0 c0 ∧ n0 = l.length := by
        obtain ⟨a0, c0, e⟩ := (hO2.sl (fun _ => rfl)).any
        exact ⟨_, _, _, e, rfl⟩
      have HW := Lib.hid (And.intro hO2 (And.intro hs2 (And.intro hG2 hx)))
      by_cases hcase : rising = true ∧ 0 < l.length
      · obtain ⟨hR, hl0⟩ := hcase
        obtain ⟨g0, cap0, hvf, hgb0, hgl0⟩ := hO2.form hl0
        have hcell := Bns.cell (hvf ▸ hO2.sl (fun _ => rfl)) (i := l.length - 1) (by omega)
        simp only [Nat.zero_add] at hcell
        obtain ⟨y1, y2, y3⟩ := hcell
        have HP := Lib.hid (HO.out.2.1.one (l.length - 1) (by omega)).2
        subst hR
        clear hv
        generalize hpp : bn l (l.length - 1) = pr at *
        have HPP := Lib.hid hpp
        clear hpp
        have i1 : (0 : Int) ≤ (l.length : Int) - 1 := by omega
        have i2 : (l.length : Int) - 1 < (l.length : Int) := by omega
        have i3 : ((l.length : Int) - 1).toNat = l.length - 1 := by omega
        have i4 : IntKind.i64.wrap ((l.length : Int) - 1) = (l.length : Int) - 1 := IntWalk.i64_in _ (by omega)
        have i5 : l.length - 1 < l.length := by omega
        subst hvf
        go_wp2_with fail
        go_region
        obtain ⟨mh, hmh⟩ : ∃ z : Int, (if (if a < bb then bb else a) < pr.li.hi then pr.li.hi else if a < bb then bb else a) = z := ⟨_, rfl⟩
        rw [hmh]
        have hmb : bb ≤ mh ∧ pr.li.hi ≤ mh ∧ mh ≤ 60 := by
          have := HP.out
          rw [← hmh]
          (repeat' split) <;> omega
        clear hmh qx hx y1 y2 y3 i1 i2 i3 i4 i5
        go_wp2_with (at_builtin; refine wpList_app _ okBn rfl _ _ rfl w.heap.size _ l [(⟨c, ⟨max a pr.li.lo, mh⟩⟩ : Bn)] rfl (by exact ((hO2.alloc (.cells #[.int .i64 c, .int .i64 (max a pr.li.lo), .int .i64 mh] 136)).alloc _).drew) ⟨_, 0, none⟩ 1 1 rfl rfl (by decide) (news_of (Bk.newAt _ _ _ (by simp))) (l.length + 1) (by simp) (by omega) (by simp; omega) _ rfl ?_; intro g cap w5 hp)
        have hs5 := (((hs2.alloc (.cells #[.int .i64 c, .int .i64 (max a pr.li.lo), .int .i64 mh] 136)).alloc (.cells #[.int .i64 c, .int .i64 (max a pr.li.lo), .int .i64 mh] 136)).drew).gb hp.gb (fun e => by have := hob sb e.symm; omega)
        have hg5 := gb_trans' (gb_drew (gb_alloc (gb_alloc hG2 (.cells #[.int .i64 c, .int .i64 (max a pr.li.lo), .int .i64 mh] 136)) (.cells #[.int .i64 c, .int .i64 (max a pr.li.lo), .int .i64 mh] 136))) hp.gb (fun m e => .inr (hob m e))
        have hg5s := hp.gb.size
        go_wp2_with fail
        refine (from_c sb 1 80 _ hs5 (by omega) (by omega) (by omega) (by omega)).mono ?_
        rintro e w6 ⟨d, rfl, hd, hs6, hg6⟩
        have hd' : 1 ≤ d ∧ d ≤ 80 := by unfold fromR at hd; omega
        clear hd
        go_wp2_with fail
        have hfin := gb_trans hg5 hg6
        have hO6 := hp.own.gb hg6 (fun m e e' => by cases e; simp [Value.ownBlock] at e'; have := (hp.own.lt g rfl).1; omega)
        go_roundw
        case rel =>
          exact ⟨k - 1, l ++ [⟨c, ⟨max a pr.li.lo, mh⟩⟩], c + d, by rw [show ((k : Int) - 1) = ((k - 1 : Nat) : Int) by omega], rfl, by simp; omega, (by first | simpa using hO6 | simpa [hz] using hO6), HO.out.2.1.step (s := ⟨max a pr.li.lo, mh⟩) ⟨by simp only; omega, by simp only; have := HP.out; omega, hmb.2.2⟩ hd' (fun _ _ => by rw [HPP.out]; simp only; omega), hs6, hfin⟩
        case measure => simp [intOf]; omega
      · have hcn : rising = false ∨ (rising = true ∧ l.length = 0) := by
          cases rising
          · exact .inl rfl
          · exact .inr ⟨rfl, Nat.eq_zero_of_not_pos (fun h => hcase ⟨rfl, h⟩)⟩
        obtain ⟨n0, a0, c0', hv, hn0⟩ := hv
        subst hv
        rcases hcn with rfl | ⟨rfl, hz⟩
        · subst hn0

          go_wp2_with (at_builtin; refine wpList_app _ okBn rfl _ _ rfl w.heap.size _ l [(⟨c, ⟨a, bb⟩⟩ : Bn)] rfl (by exact (hO2.alloc (.cells #[.int .i64 c, .int .i64 a, .int .i64 bb] 136)).alloc _) ⟨_, 0, none⟩ 1 1 rfl rfl (by decide) (news_of (Bk.newAt _ _ _ (by simp))) (l.length + 1) (by simp) (by omega) (by simp; omega) _ rfl ?_; intro g cap w5 hp)
          have hs5 := ((hs2.alloc (.cells #[.int .i64 c, .int .i64 a, .int .i64 bb] 136)).alloc (.cells #[.int .i64 c, .int .i64 a, .int .i64 bb] 136)).gb hp.gb (fun e => by have := hob sb e.symm; omega)
          have hg5 := gb_trans' (gb_alloc (gb_alloc hG2 (.cells #[.int .i64 c, .int .i64 a, .int .i64 bb] 136)) (.cells #[.int .i64 c, .int .i64 a, .int .i64 bb] 136)) hp.gb (fun m e => .inr (hob m e))
          have hg5s := hp.gb.size
          go_wp2_with fail
          refine (from_c sb 1 80 _ hs5 (by omega) (by omega) (by omega) (by omega)).mono ?_
          rintro e w6 ⟨d, rfl, hd, hs6, hg6⟩
          have hd' : 1 ≤ d ∧ d ≤ 80 := by unfold fromR at hd; omega
          clear hd
          go_wp2_with fail
          have hfin := gb_trans hg5 hg6
          have hO6 := hp.own.gb hg6 (fun m e e' => by cases e; simp [Value.ownBlock] at e'; have := (hp.own.lt g rfl).1; omega)
          go_roundw
          case rel =>
            exact ⟨k - 1, l ++ [⟨c, ⟨a, bb⟩⟩], c + d, by rw [show ((k : Int) - 1) = ((k - 1 : Nat) : Int) by omega], rfl, by simp; omega, (by first | simpa using hO6 | simpa [hz] using hO6), HO.out.2.1.step (s := ⟨a, bb⟩) ⟨ha1, ha2, ha3⟩ hd' (fun h => by cases h), hs6, hfin⟩
          case measure => simp [intOf]; omega
        · rw [hz] at hn0
          subst hn0

          go_wp2_with (at_builtin; refine wpList_app _ okBn rfl _ _ rfl w.heap.size _ l [(⟨c, ⟨a, bb⟩⟩ : Bn)] rfl (by exact (hO2.alloc (.cells #[.int .i64 c, .int .i64 a, .int .i64 bb] 136)).alloc _) ⟨_, 0, none⟩ 1 1 rfl rfl (by decide) (news_of (Bk.newAt _ _ _ (by simp))) (l.length + 1) (by simp) (by omega) (by simp; omega) _ rfl ?_; intro g cap w5 hp)
          have hs5 := ((hs2.alloc (.cells #[.int .i64 c, .int .i64 a, .int .i64 bb] 136)).alloc (.cells #[.int .i64 c, .int .i64 a, .int .i64 bb] 136)).gb hp.gb (fun e => by have := hob sb e.symm; omega)
          have hg5 := gb_trans' (gb_alloc (gb_alloc hG2 (.cells #[.int .i64 c, .int .i64 a, .int .i64 bb] 136)) (.cells #[.int .i64 c, .int .i64 a, .int .i64 bb] 136)) hp.gb (fun m e => .inr (hob m e))
          have hg5s := hp.gb.size
          go_wp2_with fail
          refine (from_c sb 1 80 _ hs5 (by omega) (by omega) (by omega) (by omega)).mono ?_
          rintro e w6 ⟨d, rfl, hd, hs6, hg6⟩
          have hd' : 1 ≤ d ∧ d ≤ 80 := by unfold fromR at hd; omega
          clear hd
          go_wp2_with fail
          have hfin := gb_trans hg5 hg6
          have hO6 := hp.own.gb hg6 (fun m e e' => by cases e; simp [Value.ownBlock] at e'; have := (hp.own.lt g rfl).1; omega)
          go_roundw
          case rel =>
            exact ⟨k - 1, l ++ [⟨c, ⟨a, bb⟩⟩], c + d, by rw [show ((k : Int) - 1) = ((k - 1 : Nat) : Int) by omega], rfl, by simp; omega, (by first | simpa using hO6 | simpa [hz] using hO6), HO.out.2.1.step (s := ⟨a, bb⟩) ⟨ha1, ha2, ha3⟩ hd' (fun _ h => by omega), hs6, hfin⟩
          case measure => simp [intOf]; omega
    · obtain rfl : k = 0 := by omega
      go_wp2_with fail
      go_ret
      exact ⟨_, rfl, ⟨l, c, hown, hI, by omega, by omega⟩, hsd, hg⟩
end Go.Proofs.Ytfifldbinnkdmaa
