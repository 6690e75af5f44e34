/- frost: a day. -/
import Derived.Test.YtcoldeolmleeiaaGreatKJ3
import Derived.Test.YtcoldeolmleeiaaGreatKKB
set_option linter.unusedVariables false
set_option linter.unusedSimpArgs false
set_option linter.unnecessarySimpa false
namespace Go.Proofs.YtcoldeolmleeiaaGreat
open Go.RowKit
set_option maxRecDepth 100000
def thrF (s : Int) : Sp -> List Cov -> Sp
 | p, [] => p
 | p, c :: cs => thrF s (if c.dp <= s then c.pt else p) cs
def hdP (cs : List Cov) : Sp := match cs with | [] => ⟨0, 0⟩ | c :: _ => c.pt
def thr (cs : List Cov) (s : Int) : Sp := thrF s (hdP cs) cs
def partOk (p : Sp) : Prop := 0 <= p.lo /\ p.lo <= p.hi /\ p.hi <= 1000000
theorem thrF_ok (s : Int) : ∀ (cs : List Cov) (p : Sp), partOk p -> (∀ c ∈ cs, partOk c.pt) -> partOk (thrF s p cs)
 | [], p, h, _ => h
 | c :: cs, p, h, hc => by
  unfold thrF
  refine thrF_ok s cs _ ?_ fun c' h' => hc c' (.tail _ h')
  split
  · exact hc c (.head _)
  · exact h
abbrev froC (l : Fro) (v : Value) : Array Value := #[.int .i64 l.gr, .int .i64 l.la, v, .int .i64 l.melt.lo, .int .i64 l.melt.hi, .int .i64 l.soak, .int .i64 l.white.lo, .int .i64 l.white.hi]
abbrev iceC (x : Ice) : Array Value := #[.int .i64 x.bl.lo, .int .i64 x.bl.hi, .int .i64 x.wh.lo, .int .i64 x.wh.hi, .int .i64 x.we.lo, .int .i64 x.we.hi, .int .i64 x.sn.lo, .int .i64 x.sn.hi]
abbrev weaC (d : Wea) (b : Bool) : Array Value := #[.int .i64 d.cold.lo, .int .i64 d.cold.hi, .int .i64 d.fall.lo, .int .i64 d.fall.hi, .int .i64 d.water, .bool b]
abbrev z8 : Array Value := #[.int .i64 0, .int .i64 0, .int .i64 0, .int .i64 0, .int .i64 0, .int .i64 0, .int .i64 0, .int .i64 0]
structure LawOk (l : Fro) : Prop where
 gr : 0 <= l.gr /\ l.gr <= 10000
 la : 1 <= l.la /\ l.la <= 1000
 n : 0 < l.cov.length /\ l.cov.length <= 12
 pt : ∀ c ∈ l.cov, partOk c.pt
 melt : 0 <= l.melt.lo /\ l.melt.lo <= l.melt.hi /\ l.melt.hi <= 10000000
 soak : 0 <= l.soak /\ l.soak <= 1000000
 white : 0 <= l.white.lo /\ l.white.lo <= l.white.hi /\ l.white.hi <= 1000000
theorem thr_ok {l : Fro} (h : LawOk l) (s : Int) : 0 <= (thr l.cov s).lo /\ (thr l.cov s).lo <= (thr l.cov s).hi /\ (thr l.cov s).hi <= 1000000 := by
 refine thrF_ok s l.cov _ ?_ h.pt
 have h1 := h.n.1
 have h2 := h.pt
 generalize l.cov = cs at *
 cases cs with
 | nil => simp at h1
 | cons c cs => exact h2 c (.head _)
theorem covErr_pt : ∀ (cs : List Cov) (p : Option Cov), covErr p cs = 0 -> ∀ c ∈ cs, partOk c.pt
 | [], _, _ => fun c h => by cases h
 | c :: cs, p, h => by
  unfold covErr at h
  split at h
  · cases h
  split at h
  · cases h
  split at h
  · contradiction
  rename_i h3
  split at h
  · cases h
  intro c' h'
  rcases List.mem_cons.1 h' with rfl | h'
  · have := spanErr_ok (Classical.not_not.1 h3); exact this
  · exact covErr_pt cs _ h c' h'
theorem lawOk {l : Fro} (h : froErr l = 0) : LawOk l := by
 unfold froErr at h
 split at h
 · cases h
 rename_i h1
 split at h
 · contradiction
 rename_i h2
 split at h
 · contradiction
 rename_i h3
 split at h
 · cases h
 have h2' := Classical.not_not.1 h2
 unfold covsE at h2'
 split at h2'
 · cases h2'
 split at h2'
 · cases h2'
 · exact ⟨by omega, by omega, by omega, covErr_pt _ _ h2', spanErr_ok (Classical.not_not.1 h3), by omega, spanErr_ok h⟩
structure IceK (x : Ice) (k m : Int) : Prop where
 bl : (0 <= x.bl.lo /\ x.bl.lo <= 5000 + 4000 * k) /\ 0 <= x.bl.hi /\ x.bl.hi <= 5000 + 4000 * k
 wh : (0 <= x.wh.lo /\ x.wh.lo <= 5000 + 500000 * k) /\ 0 <= x.wh.hi /\ x.wh.hi <= 5000 + 500000 * k
 we : 0 <= x.we.lo /\ 0 <= x.we.hi
 sn : 0 <= x.sn.lo /\ 0 <= x.sn.hi
 sum : x.we.lo + x.sn.lo <= 10000 + 1200 * m /\ x.we.hi + x.sn.hi <= 10000 + 1200 * m
theorem iceK {x : Ice} (h : iceErr x = 0) : IceK x 0 0 := by
 unfold iceErr at h
 split at h
 · contradiction
 rename_i h1
 split at h
 · contradiction
 rename_i h2
 split at h
 · contradiction
 rename_i h3
 have a := spanErr_ok (Classical.not_not.1 h1)
 have b := spanErr_ok (Classical.not_not.1 h2)
 have c := spanErr_ok (Classical.not_not.1 h3)
 have d := spanErr_ok h
 exact ⟨by omega, by omega, by omega, by omega, by omega⟩
theorem dn_bd {n p : Int} (h1 : 0 <= n) (h2 : 0 <= p) (h3 : p <= 1000000) : 0 <= dn n p /\ dn n p <= n := by
 unfold dn
 have h := Int.mul_nonneg h1 h2
 refine ⟨Int.ediv_nonneg h (by omega), ?_⟩
 have h4 : n * p <= n * 1000000 := Int.mul_le_mul_of_nonneg_left h3 h1
 omega
theorem up_bd {n p : Int} (h1 : 0 <= n) (h2 : 0 <= p) (h3 : p <= 1000000) : 0 <= upp n p /\ upp n p <= n := by
 unfold upp
 have h := Int.mul_nonneg h1 h2
 have h4 : n * p <= n * 1000000 := Int.mul_le_mul_of_nonneg_left h3 h1
 omega
theorem dn_bd7 {n p : Int} (h1 : 0 <= n) (h2 : 0 <= p) (h3 : p <= 10000000) : 0 <= dn n p /\ dn n p <= n * 10 := by
 unfold dn
 have h := Int.mul_nonneg h1 h2
 have h4 : n * p <= n * 10000000 := Int.mul_le_mul_of_nonneg_left h3 h1
 omega
theorem up_bd7 {n p : Int} (h1 : 0 <= n) (h2 : 0 <= p) (h3 : p <= 10000000) : 0 <= upp n p /\ upp n p <= n * 10 := by
 unfold upp
 have h := Int.mul_nonneg h1 h2
 have h4 : n * p <= n * 10000000 := Int.mul_le_mul_of_nonneg_left h3 h1
 omega
def cvd (l : Fro) (x : Ice) (d : Wea) : Ice :=
 if 0 < d.water then ⟨x.bl, x.wh, ⟨x.we.lo + d.water + dn ((if d.clear = true then 0 else x.sn.lo) + d.fall.lo) l.soak, x.we.hi + d.water + dn ((if d.clear = true then 0 else x.sn.hi) + d.fall.hi) l.soak⟩, ⟨0, 0⟩⟩
 else ⟨x.bl, x.wh, x.we, ⟨(if d.clear = true then 0 else x.sn.lo) + d.fall.lo, (if d.clear = true then 0 else x.sn.hi) + d.fall.hi⟩⟩
def grw (l : Fro) (b w q c : Int) (r : Int -> Int) : Int := r ((b + (w + q)) * (b + (w + q)) + l.gr * (c - q * l.la)) - (w + q)
def fewC (l : Fro) (x : Ice) (c : Sp) : Int := dn c.lo (thr l.cov x.sn.hi).lo
def manyC (l : Fro) (x : Ice) (c : Sp) : Int := upp c.hi (thr l.cov x.sn.lo).hi
noncomputable def frz (l : Fro) (x : Ice) (c : Sp) : Ice :=
 ⟨⟨if x.we.hi <= fewC l x c / l.la then grw l x.bl.lo x.wh.hi x.we.hi (fewC l x c) root else x.bl.lo, if x.we.lo <= manyC l x c / l.la then grw l x.bl.hi x.wh.lo x.we.lo (manyC l x c) roof else x.bl.hi⟩,
  ⟨x.wh.lo + min x.we.lo (fewC l x c / l.la), x.wh.hi + min x.we.hi (manyC l x c / l.la)⟩, ⟨max 0 (x.we.lo - manyC l x c / l.la), max 0 (x.we.hi - fewC l x c / l.la)⟩, x.sn⟩
def mlt1 (x : Ice) (a b : Int) : Ice :=
 ⟨⟨max 0 (x.bl.lo - max 0 (max 0 (b - x.sn.lo) - x.wh.lo)), max 0 (x.bl.hi - max 0 (max 0 (a - x.sn.hi) - x.wh.hi))⟩, ⟨max 0 (x.wh.lo - max 0 (b - x.sn.lo)), max 0 (x.wh.hi - max 0 (a - x.sn.hi))⟩, x.we, ⟨max 0 (x.sn.lo - b), max 0 (x.sn.hi - a)⟩⟩
def mlt (l : Fro) (x : Ice) (c : Sp) : Ice := mlt1 x (dn (-c.hi) l.melt.lo) (upp (-c.lo) l.melt.hi)
def jnd (a b : Ice) : Ice := ⟨⟨min a.bl.lo b.bl.lo, max a.bl.hi b.bl.hi⟩, ⟨min a.wh.lo b.wh.lo, max a.wh.hi b.wh.hi⟩, ⟨min a.we.lo b.we.lo, max a.we.hi b.we.hi⟩, ⟨min a.sn.lo b.sn.lo, max a.sn.hi b.sn.hi⟩⟩
noncomputable def aft (l : Fro) (x : Ice) (d : Wea) : Ice :=
 if 0 <= d.cold.lo then frz l (cvd l x d) d.cold else if d.cold.hi < 0 then mlt l (cvd l x d) d.cold else jnd (frz l (cvd l x d) ⟨0, d.cold.hi⟩) (mlt l (cvd l x d) ⟨d.cold.lo, -1⟩)
set_option maxHeartbeats 4000000 in
theorem through_c (lo hi : Nat) (v : Value) (l : Fro) (s : Int) (w : World) (h0 : 0 < l.cov.length) (hl : Sl covEnc 3 lo hi w v l.cov) (h2 : hi <= w.heap.size) :
  Calls Tryz.prog 115 #[.agg #[.int .i64 l.gr, .int .i64 l.la, v, .int .i64 l.melt.lo, .int .i64 l.melt.hi, .int .i64 l.soak, .int .i64 l.white.lo, .int .i64 l.white.hi], .int .i64 s] w (Ret (.agg #[.int .i64 ((thr l.cov s).lo), .int .i64 ((thr l.cov s).hi)]) w) := by
 have F1 : Bun w [] w := Bun.nil _
 have hm_cs := hl.len
 unfold maxLen at hm_cs
 obtain ⟨a, c, rfl⟩ := hl.any
 replace F1 := F1.sl0 hl h2 rfl
 clear hl
 obtain ⟨x3, o4, e_⟩ := Sl.addr (F1.s 0 rfl) h0
 subst e_
 obtain ⟨c0, hz5_⟩ : ∃ z_, l.cov[0]? = some z_ := ⟨_, List.getElem?_eq_getElem h0⟩
 have hz5 := lhd hz5_
 clear hz5_
 go_enter Tryz.func115, Tryz.ntmps115
 have ge6 : World.cell? _ ⟨x3, o4 + 1, none⟩ = some (.int .i64 c0.pt.lo) := (by have h_ := Sl.cells (F1.at 0 rfl) hz5.out 1 _ rfl; simpa [Nat.add_assoc] using h_)
 have gl7 := cell_lt ge6
 have ge8 : World.cell? _ ⟨x3, o4 + 1 + 1, none⟩ = some (.int .i64 c0.pt.hi) := (by have h_ := Sl.cells (F1.at 0 rfl) hz5.out 2 _ rfl; simpa [Nat.add_assoc] using h_)
 go_wp2_with fail
 clear ge6 gl7 ge8
 replace F1 := F1.new 139 #[.int .i64 l.gr, .int .i64 l.la, .slice (some ⟨x3, o4, none⟩) l.cov.length c, .int .i64 l.melt.lo, .int .i64 l.melt.hi, .int .i64 l.soak, .int .i64 l.white.lo, .int .i64 l.white.hi] (n := w.heap.size) (by simp)
 replace F1 := F1.new 32 #[.int .i64 0, .int .i64 0] (n := (w.heap.size + 1)) (by simp)
 replace F1 := F1.new 32 #[.int .i64 c0.pt.lo, .int .i64 c0.pt.hi] (n := (w.heap.size + 2)) (by simp)
 have H0 : Hid (thr l.cov s = thrF s c0.pt l.cov) := lhd (by have hq := hz5.out; unfold thr hdP; cases hc : l.cov with | nil => rw [hc] at hq; cases hq | cons c cs => (rw [hc] at hq; simp at hq; rw [hq]))
 obtain ⟨HI12_, HI120⟩ : ∃ I : RelT, I = (fun t ds wr => ∃ (k : Nat) (p : Sp), t 1 = .int .i64 s /\ t 4 = .pointer (some ⟨w.heap.size + 1, 0, none⟩) /\ t 5 = .pointer (some ⟨w.heap.size + 2, 0, none⟩) /\ t 16 = .slice (some ⟨x3, o4, none⟩) l.cov.length c /\ t 17 = .int .i64 (l.cov.length : Int) /\ t 18 = .int .i64 (k : Int) /\ k <= l.cov.length /\ thr l.cov s = thrF s p (l.cov.drop k) /\ ds = [] /\ w.heap.size <= wr.heap.size /\ Bun w [rbox (w.heap.size + 2) 32 #[.int .i64 p.lo, .int .i64 p.hi], rbox (w.heap.size + 1) 32 #[.int .i64 0, .int .i64 0], rsl covEnc 3 lo hi (.slice (some ⟨x3, o4, none⟩) l.cov.length c) l.cov] wr) := ⟨_, rfl⟩
 have HI12 := lhd HI120
 clear HI120
 refine wp_loopS 30 rfl HI12_ (fun t wr => l.cov.length - (intOf (t 18)).toNat) ?atStart1 ?round1
 case round1 =>
  intro t ds wr hHid
  rw [HI12.out] at hHid
  obtain ⟨k, p, e1, e4, e5, e16, e17, e18, hrel⟩ := hHid
  have e : ((List.range 30).map t).toArray = #[t 0, t 1, t 2, t 3, t 4, t 5, t 6, t 7, t 8, t 9, t 10, t 11, t 12, t 13, t 14, t 15, t 16, t 17, t 18, t 19, t 20, t 21, t 22, t 23, t 24, t 25, t 26, t 27, t 28, t 29] := rfl
  (try dsimp only at e)
  rw [e1, e4, e5, e16, e17, e18] at e
  rw [e]
  simp only [e18]
  clear e e1 e4 e5 e16 e17 e18
  obtain ⟨hk, hR, rfl, hs14, hF13⟩ := hrel
  clear F1
  obtain ⟨w15, rfl⟩ : ∃ x_ : World, x_ = wr := ⟨_, rfl⟩
  have HR := lhd hR
  clear hR
  by_cases c16 : (k : Int) < (l.cov.length : Int)
  ·
   have c16H := lhd c16
   obtain ⟨z, hz17_⟩ : ∃ z_, l.cov[k]? = some z_ := ⟨_, List.getElem?_eq_getElem (by omega)⟩
   have hz17 := lhd hz17_
   clear hz17_
   have HZ : Hid (thr l.cov s = thrF s p (z :: l.cov.drop (k + 1))) := lhd (by rw [HR.out, drop_cons hz17.out])
   by_cases c18 : z.dp <= s
   ·
    have c18H := lhd c18
    have b19 := hF13.bx2 0 rfl
    have ge20 : World.cell? _ ⟨x3, o4 + k * 3, none⟩ = some (.int .i64 z.dp) := (Sl.cells (hF13.at 2 rfl) hz17.out 0 _ rfl)
    have gl21 := cell_lt ge20
    have ge22 : World.cell? _ ⟨x3, o4 + k * 3 + 1, none⟩ = some (.int .i64 z.pt.lo) := (Sl.cells (hF13.at 2 rfl) hz17.out 1 _ rfl)
    have ge23 : World.cell? _ ⟨x3, o4 + k * 3 + 2, none⟩ = some (.int .i64 z.pt.hi) := (Sl.cells (hF13.at 2 rfl) hz17.out 2 _ rfl)
    go_wp2_with fail
    clear b19 ge20 gl21 ge22 ge23
    have F24 := hF13.pt2 (.int .i64 z.pt.lo) (.int .i64 z.pt.hi)
    clear hF13
    replace F24 := F24.new 75 #[.int .i64 z.dp, .int .i64 z.pt.lo, .int .i64 z.pt.hi] (n := w15.heap.size) (by simp)
    have F26 : Bun w [rbox (w.heap.size + 2) 32 #[.int .i64 z.pt.lo, .int .i64 z.pt.hi], rbox (w.heap.size + 1) 32 #[.int .i64 0, .int .i64 0], rsl covEnc 3 lo hi (.slice (some ⟨x3, o4, none⟩) l.cov.length c) l.cov] _ := F24.pick [1, 2, 3] (by decide) rfl
    clear F24
    (first | refine ⟨rfl, ?_, ?_⟩ | refine ⟨?_, ?_⟩)
    · rw [HI12.out]; exact ⟨k + 1, z.pt, rfl, rfl, rfl, rfl, rfl, (by show Value.int .i64 ((k : Int) + 1) = _; simp), (by omega), (by rw [HZ.out, thrF, if_pos c18H.out]), (by first | rfl | simp), (by first | omega | (simp; done) | (simp; omega)), F26⟩
    · simp [slot, intOf]; omega
   have c18H := lhd c18
   have c18a := dec_f c18
   have ge27 : World.cell? _ ⟨x3, o4 + k * 3, none⟩ = some (.int .i64 z.dp) := (Sl.cells (hF13.at 2 rfl) hz17.out 0 _ rfl)
   have gl28 := cell_lt ge27
   have ge29 : World.cell? _ ⟨x3, o4 + k * 3 + 1, none⟩ = some (.int .i64 z.pt.lo) := (Sl.cells (hF13.at 2 rfl) hz17.out 1 _ rfl)
   have ge30 : World.cell? _ ⟨x3, o4 + k * 3 + 2, none⟩ = some (.int .i64 z.pt.hi) := (Sl.cells (hF13.at 2 rfl) hz17.out 2 _ rfl)
   go_wp2_with fail
   clear ge27 gl28 ge29 ge30
   have F31 := hF13.new 75 #[.int .i64 z.dp, .int .i64 z.pt.lo, .int .i64 z.pt.hi] (n := w15.heap.size) (by simp)
   clear hF13
   have F32 : Bun w [rbox (w.heap.size + 2) 32 #[.int .i64 p.lo, .int .i64 p.hi], rbox (w.heap.size + 1) 32 #[.int .i64 0, .int .i64 0], rsl covEnc 3 lo hi (.slice (some ⟨x3, o4, none⟩) l.cov.length c) l.cov] _ := F31.pick [1, 2, 3] (by decide) rfl
   clear F31
   (first | refine ⟨rfl, ?_, ?_⟩ | refine ⟨?_, ?_⟩)
   · rw [HI12.out]; exact ⟨k + 1, p, rfl, rfl, rfl, rfl, rfl, (by show Value.int .i64 ((k : Int) + 1) = _; simp), (by omega), (by rw [HZ.out, thrF, if_neg (by omega)]), (by first | rfl | simp), (by first | omega | (simp; done) | (simp; omega)), F32⟩
   · simp [slot, intOf]; omega
  have c16H := lhd c16
  have c16a := dec_f c16
  have HE : Hid (thr l.cov s = p) := lhd (by rw [HR.out, List.drop_eq_nil_of_le (by omega)]; rfl)
  have Hx33 := lhd (show ((thr l.cov s).lo) = p.lo by rw [HE.out])
  have Hx34 := lhd (show ((thr l.cov s).hi) = p.hi by rw [HE.out])
  have b35 := hF13.bx2 0 rfl
  have b36 := hF13.bx2 1 rfl
  go_wp2_with fail
  clear b35 b36
  have F37 := (hF13.front 1 rfl rfl).pt2 (.int .i64 p.lo) (.int .i64 p.hi)
  clear hF13
  have kb38 := F37.bx2 0 rfl
  go_wp2_with fail
  exact bodyPost_ret (v := .agg #[.int .i64 p.lo, .int .i64 p.hi]) (by simp [results, Tryz.results115, go_sem, kb38]) rfl (⟨by rw [Hx33.out, Hx34.out] <;> rfl, F37.gb⟩)
 case atStart1 =>
  rw [HI12.out]
  exact ⟨0, c0.pt, rfl, rfl, rfl, rfl, rfl, rfl, Nat.zero_le _, H0.out, rfl, (by first | exact Nat.le_refl _ | omega | (simp; done) | (simp; omega)), (F1.drop 2 rfl)⟩
end Go.Proofs.YtcoldeolmleeiaaGreat
