/- build and its reference: detours. -/
import Derived.Test.YtcoldeolmleeiaaGreatKN4
import Derived.Test.YtcoldeolmleeiaaGreatKKC
import Derived.Test.YtcoldeolmleeiaaGreatKK1
set_option linter.unusedVariables false
set_option linter.unusedSimpArgs false
set_option linter.unnecessarySimpa false
namespace Go.Proofs.YtcoldeolmleeiaaGreat
open Go.RowKit
set_option maxRecDepth 100000
attribute [local go_sem] Oper.semAt_some
attribute [local go_sem] run_store_fn
theorem fstL_bd (f : Lg -> Bool) : ∀ (ls : List Lg) (k : Int), fstL f ls k = -1 ∨ (k <= fstL f ls k /\ fstL f ls k < k + ls.length)
 | [], k => .inl rfl
 | l :: ls, k => by
  rw [fstL]
  split
  · right; simp; omega
  rcases fstL_bd f ls (k + 1) with h | h
  · left; exact h
  · right; rw [List.length_cons]; push_cast; omega
theorem fstL_is (f : Lg -> Bool) : ∀ (ls : List Lg) (k : Int) (i : Nat), 0 <= k -> fstL f ls k = k + i -> ∃ l, ls[i]? = some l /\ f l = true
 | [], k, i, hk, h => by rw [fstL] at h; omega
 | l :: ls, k, i, hk, h => by
  rw [fstL] at h
  split at h
  ·
   rename_i hf
   obtain rfl : i = 0 := by omega
   exact ⟨l, rfl, hf⟩
  rcases fstL_bd f ls (k + 1) with h1 | h1
  · omega
  obtain ⟨j, rfl⟩ : ∃ j, i = j + 1 := ⟨i - 1, by omega⟩
  obtain ⟨l', h2, h3⟩ := fstL_is f ls (k + 1) j (by omega) (by rw [h]; push_cast; omega)
  exact ⟨l', by simpa using h2, h3⟩
def pth (ls : List Lg) (m : FM) (to : Int) : Nat -> Int -> Option (List Int)
 | 0, x => if x = to then some [] else none
 | K + 1, x => if x = to then some [] else
  match fget m x with
  | none => none
  | some p => match ls[(fstL (hitF m x p.1 p.2) ls 0).toNat]? with
   | none => none
   | some l => if fstL (hitF m x p.1 p.2) ls 0 < 0 then none else (pth ls m to K (oth l x)).map (fstL (hitF m x p.1 p.2) ls 0 :: ·)
theorem pth_next {ls : List Lg} {m : FM} {to : Int} {K : Nat} {x p q : Int} {r : List Int} (h : pth ls m to K x = some r) (hx : ¬ x = to) (hm : fget m x = some (p, q)) :
  ∃ (K' i : Nat) (l : Lg) (r' : List Int), K = K' + 1 /\ fstL (hitF m x p q) ls 0 = (i : Int) /\ ls[i]? = some l /\ pth ls m to K' (oth l x) = some r' /\ r = (i : Int) :: r' := by
 cases K with
 | zero => rw [pth, if_neg hx] at h; cases h
 | succ K =>
  rw [pth, if_neg hx, hm] at h
  simp only at h
  split at h
  · cases h
  rename_i l hl
  split at h
  · cases h
  rename_i h1
  rcases hr : pth ls m to K (oth l x) with _ | r'
  · rw [hr] at h; cases h
  rw [hr] at h
  simp only [Option.map_some, Option.some.injEq] at h
  refine ⟨K, (fstL (hitF m x p q) ls 0).toNat, l, r', rfl, by omega, hl, hr, ?_⟩
  rw [← h, Int.toNat_of_nonneg (by omega)]
theorem pth_end {ls : List Lg} {m : FM} {to : Int} {K : Nat} {r : List Int} (h : pth ls m to K to = some r) : r = [] := by
 cases K <;> · rw [pth, if_pos rfl] at h; exact (Option.some.inj h).symm
theorem hit_get {m : FM} {x p q : Int} {l : Lg} (h : hitF m x p q l = true) : ∃ a b, fget m (oth l x) = some (a, b) := by
 unfold hitF at h
 split at h
 · cases h
 rename_i y hy
 exact ⟨y.1, y.2, hy⟩
theorem fget_bd {m : FM} {n : Nat} {x : Int} {v : Int × Int} (h : fget m x = some v) (hl : m.length = n) : 0 <= x /\ x < n := by
 unfold fget at h
 split at h
 ·
  rw [List.getD_eq_getElem?_getD] at h
  rcases Nat.lt_or_ge x.toNat m.length with h1 | h1
  · omega
  · rw [List.getElem?_eq_none h1] at h; cases h
 · cases h
def perF (m : FM) (x : Int) : Int := match fget m x with | none => -1 | some p => p.1
def DetR (path : List Int) (sure per err : Int) (w : World) : Ending -> World -> Prop := fun e w' => ∃ (a : Option Addr) (c lo hi : Nat), e = .returned (.tuple #[.slice a path.length c, .int .i64 sure, .int .i64 per, .int .i64 err]) /\ (w.heap.size <= lo /\ hi <= w'.heap.size) /\ Sl intEnc 1 lo hi w' (.slice a path.length c) path /\ w.grownBy w' none
theorem perF_no {m : FM} {x : Int} (h : fget m x = none) : perF m x = -1 := by unfold perF; rw [h]
theorem perF_yes {m : FM} {x p q : Int} (h : fget m x = some (p, q)) : perF m x = p := by unfold perF; rw [h]
theorem DetR.nil {w w' : World} {e : Ending} {s p er s' p' er' : Int} (he : e = .returned (.tuple #[.slice none 0 0, .int .i64 s', .int .i64 p', .int .i64 er'])) (hs : s = s') (hp : p = p') (her : er = er') (hg : w.grownBy w' none) : DetR [] s p er w e w' :=
 ⟨none, 0, w.heap.size, w.heap.size, by rw [he, hs, hp, her]; rfl, ⟨Nat.le_refl _, hg.size⟩, Sl.of_nil _ _, hg⟩
theorem DetR.own {w w' : World} {e : Ending} {v : Value} {l path : List Int} {s p er s' p' er' : Int} (he : e = .returned (.tuple #[v, .int .i64 s', .int .i64 p', .int .i64 er'])) (ho : Own intEnc 3 1 w.heap.size w' v l) (hl : path = l) (hs : s = s') (hp : p = p') (her : er = er') (hg : w.grownBy w' none) : DetR path s p er w e w' := by
 subst hl hs hp her
 have h1 := Own.sl ho (fun _ => rfl)
 obtain ⟨a, c, rfl⟩ := h1.any
 exact ⟨a, c, _, _, he, ⟨Nat.le_refl _, Nat.le_refl _⟩, h1, hg⟩
set_option maxHeartbeats 8000000 in
theorem idxf_c (lo hi : Nat) (v : Value) (ls : List Lg) (b k nn : Nat) (m : FM) (x p q : Int) (pn pa pu px : Nat) (w : World) (hl : Sl lgEnc 5 lo hi w v ls) (h2 : hi <= w.heap.size) (hls : ∀ l ∈ ls, LgOk nn l) (hm : FarMap w b k m) (hfb : farB k nn m) (hk : k <= 1000000) (hnn : nn <= 40) (hx0 : 0 <= x /\ x <= 1000) (hpq : (0 <= p /\ p <= 1000000000000) /\ 0 <= q /\ q <= 1000000) (hn : Bk w pn 91 #[.map (some b)]) (ha : Bk w pa 3 #[.int .i64 x]) (hu : Bk w pu 95 #[.func (.func 32) #[] #[]]) (hx : Bk w px 89 #[.int .i64 p, .int .i64 q]) :
  Calls Tryz.prog 33 #[v, .func (.func 34) #[] #[.pointer (some ⟨pn, 0, none⟩), .pointer (some ⟨pa, 0, none⟩), .pointer (some ⟨pu, 0, none⟩), .pointer (some ⟨px, 0, none⟩)]] w (Ret (.int .i64 (fstL (hitF m x p q) ls 0)) w) := by
 have F1 : Bun w [] w := Bun.nil _
 have hm_ls := hl.len
 unfold maxLen at hm_ls
 obtain ⟨aL, cL, rfl⟩ := hl.any
 replace F1 := F1.sl0 hl h2 rfl
 clear hl
 replace F1 := F1.fix0 hn rfl
 replace F1 := F1.fix0 ha rfl
 replace F1 := F1.fix0 hu rfl
 replace F1 := F1.fix0 hx rfl
 replace F1 := F1.farRead hm rfl
 have HFB := lhd hfb
 have HLS := lhd hls
 clear hfb hls hm hn ha hu hx
 go_enter Tryz.func33, Tryz.ntmps33
 go_wp2_with fail
 obtain ⟨HI8_, HI80⟩ : ∃ I : RelT, I = (fun t ds wr => ∃ (i : Nat), t 0 = .slice aL ls.length cL /\ t 1 = .func (.func 34) #[] #[.pointer (some ⟨pn, 0, none⟩), .pointer (some ⟨pa, 0, none⟩), .pointer (some ⟨pu, 0, none⟩), .pointer (some ⟨px, 0, none⟩)] /\ t 7 = .int .i64 (ls.length : Int) /\ t 8 = .int .i64 (i : Int) /\ i <= ls.length /\ Hid (fstL (hitF m x p q) ls 0 = fstL (hitF m x p q) (ls.drop i) i) /\ ds = [] /\ w.heap.size <= wr.heap.size /\ Bun w [rfarR b k m, rfix px 89 #[.int .i64 p, .int .i64 q], rfix pu 95 #[.func (.func 32) #[] #[]], rfix pa 3 #[.int .i64 x], rfix pn 91 #[.map (some b)], rsl lgEnc 5 lo hi (.slice aL ls.length cL) ls] wr) := ⟨_, rfl⟩
 have HI8 := lhd HI80
 clear HI80
 refine wp_loopS 19 rfl HI8_ (fun t wr => ls.length - (intOf (t 8)).toNat) ?atStart1 ?round1
 case round1 =>
  intro t ds wr hHid
  rw [HI8.out] at hHid
  obtain ⟨i, e0, e1, e7, e8, hrel⟩ := hHid
  have e : ((List.range 19).map t).toArray = #[t 0, t 1, t 2, t 3, t 4, t 5, t 6, t 7, t 8, t 9, t 10, t 11, t 12, t 13, t 14, t 15, t 16, t 17, t 18] := rfl
  (try dsimp only at e)
  rw [e0, e1, e7, e8] at e
  rw [e]
  simp only [e8]
  clear e e0 e1 e7 e8
  obtain ⟨hi_, HR, rfl, hs10, hF9⟩ := hrel
  clear F1
  obtain ⟨w11, rfl⟩ : ∃ x_ : World, x_ = wr := ⟨_, rfl⟩
  by_cases c12 : (i : Int) < (ls.length : Int)
  ·
   have c12H := lhd c12
   obtain ⟨x13, o14, e_⟩ := Sl.addr (hF9.s 5 rfl) (by omega)
   subst e_
   obtain ⟨z, hz15_⟩ : ∃ z_, ls[i]? = some z_ := ⟨_, List.getElem?_eq_getElem (by omega)⟩
   have hz15 := lhd hz15_
   clear hz15_
   have HZ : Hid (fstL (hitF m x p q) ls 0 = if hitF m x p q z = true then (i : Int) else fstL (hitF m x p q) (ls.drop (i + 1)) ((i : Int) + 1)) := lhd (by rw [HR.out, drop_cons hz15.out, fstL])
   have ge16 : World.cell? _ ⟨x13, o14 + i * 5, none⟩ = some (.int .i64 z.a) := (Sl.cells (hF9.at 5 rfl) hz15.out 0 _ rfl)
   have gl17 := cell_lt ge16
   have ge18 : World.cell? _ ⟨x13, o14 + i * 5 + 1, none⟩ = some (.int .i64 z.b) := (Sl.cells (hF9.at 5 rfl) hz15.out 1 _ rfl)
   have ge19 : World.cell? _ ⟨x13, o14 + i * 5 + 2, none⟩ = some (.int .i64 z.long) := (Sl.cells (hF9.at 5 rfl) hz15.out 2 _ rfl)
   have ge20 : World.cell? _ ⟨x13, o14 + i * 5 + 3, none⟩ = some (.int .i64 z.op) := (Sl.cells (hF9.at 5 rfl) hz15.out 3 _ rfl)
   have ge21 : World.cell? _ ⟨x13, o14 + i * 5 + 4, none⟩ = some (.int .i64 z.cost) := (Sl.cells (hF9.at 5 rfl) hz15.out 4 _ rfl)
   go_wp2_with fail
   clear ge16 gl17 ge18 ge19 ge20 ge21
   refine (hit_c b k nn m x p q z pn pa pu px _ (hF9.at 0 rfl : FarMap _ b k m) HFB.out hk (HLS.out z (List.mem_of_getElem? hz15.out)) hnn hx0 hpq (hF9.b 4 rfl) (hF9.b 3 rfl) (hF9.b 2 rfl) (hF9.b 1 rfl)).mono ?_
   rintro e w24 ⟨rfl, hg22⟩
   have hg22s := hg22.size
   (try simp at hg22s)
   have F25 := hF9.gn hg22
   clear hF9
   clear hg22
   cases c26 : hitF m x p q z
   ·
    have c26H := lhd c26
    go_wp2_with fail
    (first | refine ⟨rfl, ?_, ?_⟩ | refine ⟨?_, ?_⟩)
    · rw [HI8.out]; exact ⟨i + 1, rfl, rfl, rfl, (by show Value.int .i64 ((i : Int) + 1) = _; simp), (by omega), (lhd (by rw [HZ.out, if_neg (by rw [c26]; decide)]; push_cast; rfl)), (by first | rfl | simp), (by first | omega | (simp; done) | (simp; omega)), F25⟩
    · simp [slot, intOf]; omega
   have c26H := lhd c26
   have Hx27 := lhd (show (fstL (hitF m x p q) ls 0) = (i : Int) by rw [HZ.out, if_pos c26])
   go_wp2_with fail
   go_ret
   exact ⟨by rw [Hx27.out] <;> rfl, F25.gb⟩
  have c12H := lhd c12
  have c12a := dec_f c12
  have HE : Hid (fstL (hitF m x p q) ls 0 = -1) := lhd (by rw [HR.out, List.drop_eq_nil_of_le (by omega)]; rfl)
  have Hx28 := lhd (show (fstL (hitF m x p q) ls 0) = -1 by exact HE.out)
  go_wp2_with fail
  go_ret
  exact ⟨by rw [Hx28.out] <;> rfl, hF9.gb⟩
 case atStart1 =>
  rw [HI8.out]
  exact ⟨0, rfl, rfl, rfl, rfl, Nat.zero_le _, (lhd rfl), rfl, (by first | exact Nat.le_refl _ | omega | (simp; done) | (simp; omega)), F1⟩
theorem within_yes {x lo hi : Int} (h : lo <= x /\ x <= hi) (w : World) : Calls Tryz.prog 29 #[.int .i64 x, .int .i64 lo, .int .i64 hi] w (fun e w' => e = .returned (.bool true) /\ w = w') := by
 have h1 := within_c x lo hi w
 rw [show wth x lo hi = true by unfold wth; exact decide_eq_true h] at h1
 exact h1
theorem checkNet_ok (lo hi : Nat) (v : Value) (n : Int) (ls : List Lg) (w : World) (hl : Sl lgEnc 5 lo hi w v ls) (h2 : hi <= w.heap.size) (hn : -1000 <= n /\ n <= 1000) (h : netErr n ls = 0) : Calls Tryz.prog 28 #[.agg #[.int .i64 n, v]] w (Ret (.int .i64 0) w) := by
 have h1 := checkNet_c lo hi v n ls w hl h2 hn
 rw [h] at h1
 exact h1
theorem idxf_i (lo hi : Nat) (v : Value) (ls : List Lg) (b k nn : Nat) (m : FM) (x p q : Int) (pn pa pu px : Nat) (i : Int) (w : World) (hl : Sl lgEnc 5 lo hi w v ls) (h2 : hi <= w.heap.size) (hls : ∀ l ∈ ls, LgOk nn l) (hm : FarMap w b k m) (hfb : farB k nn m) (hk : k <= 1000000) (hnn : nn <= 40) (hx0 : 0 <= x /\ x <= 1000) (hpq : (0 <= p /\ p <= 1000000000000) /\ 0 <= q /\ q <= 1000000) (hn : Bk w pn 91 #[.map (some b)]) (ha : Bk w pa 3 #[.int .i64 x]) (hu : Bk w pu 95 #[.func (.func 32) #[] #[]]) (hx : Bk w px 89 #[.int .i64 p, .int .i64 q]) (hi_ : fstL (hitF m x p q) ls 0 = i) :
  Calls Tryz.prog 33 #[v, .func (.func 34) #[] #[.pointer (some ⟨pn, 0, none⟩), .pointer (some ⟨pa, 0, none⟩), .pointer (some ⟨pu, 0, none⟩), .pointer (some ⟨px, 0, none⟩)]] w (Ret (.int .i64 i) w) := by
 have h1 := idxf_c lo hi v ls b k nn m x p q pn pa pu px w hl h2 hls hm hfb hk hnn hx0 hpq hn ha hu hx
 rw [hi_] at h1
 exact h1
end Go.Proofs.YtcoldeolmleeiaaGreat
