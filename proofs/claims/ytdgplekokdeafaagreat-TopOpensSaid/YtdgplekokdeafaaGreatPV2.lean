/- top: the ice bears, the road opens: what is used. -/
import Derived.Test.YtdgplekokdeafaaGreatPG7
import Derived.Test.YtdgplekokdeafaaGreatPG8
import Derived.Test.YtdgplekokdeafaaGreatPS7
import Derived.Test.YtdgplekokdeafaaGreatPJK
import Derived.Test.YtdgplekokdeafaaGreatPG9
import Derived.Test.YtdgplekokdeafaaGreatPK1
set_option linter.unusedVariables false
set_option linter.unusedSimpArgs false
set_option linter.unnecessarySimpa false
namespace Go.Proofs.YtdgplekokdeafaaGreat
open Go.RowKit
set_option maxRecDepth 100000
attribute [local go_sem] Oper.semAt_some
theorem rgV288 (t : Nat -> Value) : ((List.range 88).map t).toArray = #[t 0, t 1, t 2, t 3, t 4, t 5, t 6, t 7, t 8, t 9, t 10, t 11, t 12, t 13, t 14, t 15, t 16, t 17, t 18, t 19, t 20, t 21, t 22, t 23, t 24, t 25, t 26, t 27, t 28, t 29, t 30, t 31, t 32, t 33, t 34, t 35, t 36, t 37, t 38, t 39, t 40, t 41, t 42, t 43, t 44, t 45, t 46, t 47, t 48, t 49, t 50, t 51, t 52, t 53, t 54, t 55, t 56, t 57, t 58, t 59, t 60, t 61, t 62, t 63, t 64, t 65, t 66, t 67, t 68, t 69, t 70, t 71, t 72, t 73, t 74, t 75, t 76, t 77, t 78, t 79, t 80, t 81, t 82, t 83, t 84, t 85, t 86, t 87] := rfl
def JobQ (sb : Nat) (nt : Int) (w : World) : Ending -> World -> Prop := fun e w' => ∃ (v1 v2 : Value) (lm : List Mch) (lt : List Tsk), e = .returned (.agg #[v1, v2]) /\ (jobErr lm lt = 0 /\ 1 <= lm.length /\ lm.length <= 3 /\ (lt.length : Int) <= nt /\ ∀ t_ ∈ lt, sliceB t_.av = true) ∧
 Bus w sb [rseed sb, rown mchEnc 94 3 w.heap.size v1 lm, rown tskEncS 54 8 w.heap.size v2 lt, rafo w.heap.size lt] w'
def frtT (t : Tsk) (s : Sp) : Tsk := ⟨t.m, t.ho, t.wa, s, t.af, t.av⟩
theorem tskErr_fr {nm i : Int} {t : Tsk} {s : Sp} (h : tskErr nm i t = 0) (hs : 0 <= s.lo /\ s.lo <= s.hi /\ s.hi <= 2000) : tskErr nm i (frtT t s) = 0 := by
 unfold tskErr at h ⊢
 unfold frtT
 simp only
 split at h
 · cases h
 split at h
 · contradiction
 split at h
 · contradiction
 split at h
 · contradiction
 rename_i a1 a2 a3 a4
 have e : spanErr s.lo s.hi 0 2000 = 0 := by
  unfold spanErr
  rw [if_neg (by omega), if_neg (by omega)]
 rw [if_neg a1, if_neg a2, if_neg a3, e, if_neg (by simp)]
 exact h
theorem fr_err {ms : List Mch} {ts : List Tsk} {dl : List Wea} {k : Nat} {z : Tsk} {s : Sp} (h : bothErr ms ts dl = 0) (hz : ts[k]? = some z) (hs : 0 <= s.lo /\ s.lo <= s.hi /\ s.hi <= 2000) : bothErr ms (ts.set k (frtT z s)) dl = 0 := by
 unfold bothErr at h ⊢
 split at h
 · contradiction
 rename_i h1
 have h2 := Classical.not_not.1 h1
 have e : jobErr ms (ts.set k (frtT z s)) = 0 := by
  unfold jobErr at h2 ⊢
  rw [List.length_set]
  split at h2
  · cases h2
  split at h2
  · contradiction
  split at h2
  · cases h2
  rename_i a1 a2 a3
  rw [if_neg a1, if_neg a2, if_neg a3]
  refine tsksErr_all (fun q t hq => ?_)
  rw [List.getElem?_set] at hq
  split at hq
  ·
   rename_i e
   subst e
   split at hq
   ·
    obtain rfl := Option.some.inj hq
    exact tskErr_fr (tsksErr_each h2 k z hz) hs
   · cases hq
  · exact tsksErr_each h2 q t hq
 rw [if_neg (not_not_intro e)]
 exact h
theorem mem_fr {ts : List Tsk} {k : Nat} {z t : Tsk} {s : Sp} (hz : ts[k]? = some z) (h : t ∈ ts.set k (frtT z s)) : ∃ t' ∈ ts, t.av = t'.av /\ t.af = t'.af := by
 rcases List.mem_or_eq_of_mem_set h with h | rfl
 · exact ⟨t, h, rfl, rfl⟩
 · exact ⟨z, List.mem_of_getElem? hz, rfl, rfl⟩
theorem jobAt_fr {base k : Nat} {w : World} {v1 v2 : Value} {lm : List Mch} {lt ts : List Tsk} {z : Tsk} {s : Sp} (hm : Own mchEnc 94 3 base w v1 lm) (ht : Own tskEncS 54 8 base w v2 ts) (e : ts = lt.set k (frtT z s)) (ha : ∀ t ∈ lt, Own intEnc 3 1 base w t.av t.af) (hs : ∀ t ∈ lt, sliceB t.av = true) (hz : lt[k]? = some z) : JobAt base w.heap.size w v1 v2 lm ts := by
 subst e
 refine ⟨Own.sl hm (fun _ => rfl), slS (Own.sl ht (fun _ => rfl)) (fun t h => ?_), fun t h => ?_⟩
 ·
  obtain ⟨t', h1, h2, _⟩ := mem_fr hz h
  rw [h2]
  exact hs t' h1
 obtain ⟨t', h1, h2, h3⟩ := mem_fr hz h
 rw [h2, h3]
 exact ⟨Own.sl (ha t' h1) (fun _ => rfl), own_cap (ha t' h1)⟩
theorem tk_fr {lt ts : List Tsk} {k : Nat} {z : Tsk} {s : Sp} (e : ts = lt.set k (frtT z s)) (hz : lt[k]? = some z) : (tk ts k).fr = s := by
 have hk : k < lt.length := (List.getElem?_eq_some_iff.1 hz).1
 have h2 : ts[k]? = some (frtT z s) := by rw [e, List.getElem?_set, if_pos rfl, if_pos hk]
 rw [tk_get h2]
 rfl
theorem Bun.job {w0 A : World} {sb b lo2 hi2 : Nat} {vd : Value} {dl : List Wea} {vm vt : Value} {lm : List Mch} {lt ts : List Tsk} {l : List Res} (h : Bun w0 (rseed sb :: rsl weaEnc 6 lo2 hi2 vd dl :: rown mchEnc 94 3 b vm lm :: rown tskEncS 54 8 b vt ts :: rafo b lt :: l) A) (hb : sb < b) (hj : JobAt b A.heap.size A vm vt lm ts) :
  Bun w0 ([rseed sb, rsl weaEnc 6 lo2 hi2 vd dl, rsl mchEnc 3 b A.heap.size vm lm, rsl tskEnc 8 b A.heap.size vt ts, rafs b A.heap.size ts] ++ [rall (rown mchEnc 94 3 b vm lm :: rown tskEncS 54 8 b vt ts :: rafo b lt :: l)]) A := by
 have h1 := Bun.hide (K := [rseed sb, rsl weaEnc 6 lo2 hi2 vd dl]) (l := rown mchEnc 94 3 b vm lm :: rown tskEncS 54 8 b vt ts :: rafo b lt :: l) h
 have hd := h1.dis
 simp only [List.cons_append, List.nil_append, List.pairwise_cons] at hd
 obtain ⟨d1, d2, d3, _⟩ := hd
 have hX : ∀ r ∈ [rsl mchEnc 3 b A.heap.size vm lm, rsl tskEnc 8 b A.heap.size vt ts, rafs b A.heap.size ts], r.mine = false /\ r.P A /\ ∀ g, r.X g -> b <= g /\ g < A.heap.size := by
  intro r hr
  simp only [List.mem_cons, List.not_mem_nil, or_false] at hr
  rcases hr with rfl | rfl | rfl
  · exact ⟨rfl, hj.m, fun g hg => hg⟩
  · exact ⟨rfl, hj.t, fun g hg => hg⟩
  · exact ⟨rfl, hj.af, fun g hg => hg⟩
 have key : ∀ N : List Res, (∀ r ∈ N, r.mine = false /\ r.P A /\ ∀ g, r.X g -> b <= g /\ g < A.heap.size) -> Bun w0 ([rseed sb, rsl weaEnc 6 lo2 hi2 vd dl] ++ N ++ [rall (rown mchEnc 94 3 b vm lm :: rown tskEncS 54 8 b vt ts :: rafo b lt :: l)]) A := by
  intro N hN
  refine ⟨fun r hr => ?_, fun r hr g hx => ?_, ?_, h.gb⟩
  ·
   rcases List.mem_append.1 hr with hr | hr
   ·
    rcases List.mem_append.1 hr with hr | hr
    · exact h1.all r (List.mem_append_left _ hr)
    · exact (hN r hr).2.1
   · exact h1.all r (List.mem_append_right _ hr)
  ·
   rcases List.mem_append.1 hr with hr | hr
   ·
    rcases List.mem_append.1 hr with hr | hr
    · exact h1.bd r (List.mem_append_left _ hr) g hx
    · exact ⟨((hN r hr).2.2 g hx).2, fun hm => by rw [(hN r hr).1] at hm; cases hm⟩
   · exact h1.bd r (List.mem_append_right _ hr) g hx
  rw [List.pairwise_append, List.pairwise_append]
  refine ⟨⟨?_, ?_, ?_⟩, List.pairwise_singleton _ _, ?_⟩
  ·
   rw [List.pairwise_cons]
   refine ⟨fun r hr => d1 r ?_, List.pairwise_singleton _ _⟩
   obtain rfl := List.mem_singleton.1 hr
   exact .head _
  ·
   refine List.Pairwise.imp_of_mem (R := fun _ _ => True) (fun {a c} ha hc _ hm => ?_) (List.pairwise_of_forall fun _ _ => trivial)
   rw [(hN a ha).1, (hN c hc).1] at hm
   rcases hm with hm | hm <;> cases hm
  ·
   intro a ha c hc hm g hx hy
   have h3 := (hN c hc).2.2 g hy
   simp only [List.mem_cons, List.not_mem_nil, or_false] at ha
   rcases ha with rfl | rfl
   ·
    have hx' : g = sb := hx
    omega
   rw [(hN c hc).1] at hm
   rcases hm with hm | hm <;> cases hm
  intro a ha c hc hm g hx hy
  obtain rfl := List.mem_singleton.1 hc
  rcases List.mem_append.1 ha with ha | ha
  ·
   simp only [List.mem_cons, List.not_mem_nil, or_false] at ha
   rcases ha with rfl | rfl
   · exact d1 _ (.tail _ (.head _)) hm g hx hy
   · exact d2 _ (.head _) hm g hx hy
  rw [(hN a ha).1] at hm
  rcases hm with hm | hm <;> cases hm
 exact key _ hX
def KCaseQ (w0 : World) (sb : Nat) (ms : List Mch) (ts : List Tsk) (dl : List Wea) (L : List Res) : Ending -> World -> Prop := fun e w' => ∃ (v1 v2 v3 v4 : Value) (lh lw lf : List Int) (rows : List (Value × List Bool)) (c : Cs), e = .returned (.agg #[v1, v2, v3, v4]) /\ (KCase c ms ts dl lh lw lf (rows.map (·.2)) /\ ∀ r ∈ rows, sliceB r.1 = true) /\ Bun w0 ([rown intEnc 3 1 w0.heap.size v1 lh, rown intEnc 3 1 w0.heap.size v2 lw, rown intEnc 3 1 w0.heap.size v3 lf, rown vEncS 118 1 w0.heap.size v4 (rows.map (·.1)), rrws w0.heap.size rows] ++ L) w'
theorem kcaseQ_c (w0 : World) (sb b lo2 hi2 : Nat) (ms : List Mch) (lt ts : List Tsk) (dl : List Wea) (aM aT ad : Option Addr) (n cM cT cd : Nat) (l : List Res) (w : World) (hB : Bun w0 (rseed sb :: rsl weaEnc 6 lo2 hi2 (.slice ad dl.length cd) dl :: rown mchEnc 94 3 b (.slice aM ms.length cM) ms :: rown tskEncS 54 8 b (.slice aT n cT) ts :: rafo b lt :: l) w) (hb : sb < b) (hj : JobAt b w.heap.size w (.slice aM ms.length cM) (.slice aT n cT) ms ts) (h3 : hi2 <= w.heap.size) (hn : ts.length = n) (hbe : bothErr ms ts dl = 0) :
  Calls Tryz.prog 16 #[.pointer (some ⟨sb, 0, none⟩), .agg #[.slice aM ms.length cM, .slice aT n cT], .slice ad dl.length cd] w (KCaseQ w0 sb ms ts dl (rseed sb :: rsl weaEnc 6 lo2 hi2 (.slice ad dl.length cd) dl :: rown mchEnc 94 3 b (.slice aM ms.length cM) ms :: rown tskEncS 54 8 b (.slice aT n cT) ts :: rafo b lt :: l)) := by
 subst hn
 refine (kcaseOf_c w0 sb b w.heap.size lo2 hi2 ms ts dl aM aT ad cM cT cd _ w (hB.job hb hj) (Nat.le_refl _) h3 hbe).mono ?_
 rintro e w2 ⟨v1, v2, v3, v4, lh, lw, lf, rows, c, rfl, hk, Fr⟩
 refine ⟨v1, v2, v3, v4, lh, lw, lf, rows, c, rfl, hk, ?_⟩
 have Fd := ((Fr.drop 7 rfl).drop 7 rfl).drop 7 rfl
 exact Bun.show (K := [rseed sb, rsl weaEnc 6 lo2 hi2 (.slice ad dl.length cd) dl]) (l := rown mchEnc 94 3 b (.slice aM ms.length cM) ms :: rown tskEncS 54 8 b (.slice aT ts.length cT) ts :: rafo b lt :: l) (N := [rown intEnc 3 1 w0.heap.size v1 lh, rown intEnc 3 1 w0.heap.size v2 lw, rown intEnc 3 1 w0.heap.size v3 lf, rown vEncS 118 1 w0.heap.size v4 (rows.map (fun (x_ : Value × List Bool) => x_.1)), rrws w0.heap.size rows]) hB Fd rfl
theorem ready_bd {l : Fro} {x : Ice} {dl : List Wea} {need : Int} (hL : LawOk l) (hF : Falls l.cov) (hx : iceErr x = 0) (hd : ∀ d ∈ dl, WeaOk d) (hn : dl.length <= 400) : (0 <= fstP (fun j => sureB l need (stI l x dl (j + 1))) dl.length /\ fstP (fun j => sureB l need (stI l x dl (j + 1))) dl.length <= dl.length) /\ (0 <= fstP (fun j => perhB l need (stI l x dl (j + 1))) dl.length /\ fstP (fun j => perhB l need (stI l x dl (j + 1))) dl.length <= dl.length) /\ (fstP (fun j => sureB l need (stI l x dl (j + 1))) dl.length = 0 ∨ (1 <= fstP (fun j => perhB l need (stI l x dl (j + 1))) dl.length /\ fstP (fun j => perhB l need (stI l x dl (j + 1))) dl.length <= fstP (fun j => sureB l need (stI l x dl (j + 1))) dl.length)) := by
 refine ⟨fstP_bd _ _, fstP_bd _ _, ?_⟩
 have ho := stI_ok hL hF (iceK hx) hd hn (okI_of hx)
 have hk := stI_K hL (iceK hx) hd hn
 rcases fstP_imp (p := fun j => sureB l need (stI l x dl (j + 1))) (q := fun j => perhB l need (stI l x dl (j + 1))) dl.length (fun j hj h => by
  have o1 := ho (j + 1) (by omega)
  have k1 := hk (j + 1) (by omega)
  have hwl := hL.white
  have h1 := dn_mono (n := (stI l x dl (j + 1)).wh.lo) (n' := (stI l x dl (j + 1)).wh.hi) (p := l.white.lo) (p' := l.white.lo) (by have := k1.wh; omega) (by have := o1.1.2; omega) (by omega) (Int.le_refl _)
  have h2 := dn_le_upq (n := (stI l x dl (j + 1)).wh.hi) (p := l.white.lo) (q := l.white.hi) (by have := k1.wh; omega) (by omega) (by omega)
  refine sure_perh hL k1 ⟨?_, o1.2.1⟩ h
  have := o1.1.1
  unfold brs
  simp only
  omega) with h | ⟨h1, h2⟩
 · exact .inl h
 · exact .inr ⟨by omega, h2⟩
theorem ready_n (lo hi : Nat) (v : Value) (l : Fro) (x : Ice) (lo2 hi2 : Nat) (vd : Value) (dl : List Wea) (need : Int) (w : World) (hl : Sl covEnc 3 lo hi w v l.cov) (h2 : hi <= w.heap.size) (hl2 : Sl weaEnc 6 lo2 hi2 w vd dl) (h22 : hi2 <= w.heap.size) (hf : froErr l = 0) (hx : iceErr x = 0) (hd : ∀ d ∈ dl, weaErr d = 0) (hnn : dl.length <= 400) (hn : 0 <= need /\ need <= 5000) :
  Calls Tryz.prog 9 #[.agg (froC l v), .agg (iceC x), vd, .int .i64 need] w (fun e w' => ∃ s p : Int, e = .returned (.tuple #[.int .i64 s, .int .i64 p, .int .i64 0]) /\ ((0 <= s /\ s <= (dl.length : Int)) /\ (0 <= p /\ p <= (dl.length : Int)) /\ (s = 0 ∨ (1 <= p /\ p <= s))) /\ (fstP (fun j => sureB l need (stI l x dl (j + 1))) dl.length = s /\ fstP (fun j => perhB l need (stI l x dl (j + 1))) dl.length = p) /\ w.grownBy w' none) := by
 have h0 : allE l x dl = 0 := allE_of hf hx hd hnn
 refine (ready_ok lo hi v l x lo2 hi2 vd dl need w hl h2 hl2 h22 h0 hn).mono ?_
 rintro e w' ⟨he, hg⟩
 have hb := ready_bd (need := need) (lawOk hf) (lawFalls hf) hx (fun d h => weaOk (hd d h)) hnn
 rw [readyS, readyP, if_pos (readyE_ok h0 hn), if_pos (readyE_ok h0 hn)] at he
 exact ⟨_, _, he, hb, ⟨rfl, rfl⟩, hg⟩
set_option maxHeartbeats 16000000 in
theorem jobOf_p (sb : Nat) (nt : Int) (w : World) (hs : SeedAt w sb) (hnt : 0 <= nt /\ nt <= 20) :
  Calls Tryz.prog 10 #[.pointer (some ⟨sb, 0, none⟩), .int .i64 nt] w (JobQ sb nt w) := by
 have F1 : Bus w sb [rseed sb] w := Bus.ofSeed hs
 have hsl := hs.lt
 clear hs
 go_enter Tryz.func10, Tryz.ntmps10
 go_wp2_with fail
 replace F1 := F1.new 43 #[.slice none 0 0, .slice none 0 0] (n := w.heap.size) (by simp)
 replace F1 := F1.new 43 #[.slice none 0 0, .slice none 0 0] (n := (w.heap.size + 1)) (by simp)
 refine (from_c sb 1 3 _ (F1.e 2 rfl) (by omega) (by omega) (by omega) (by omega)).mono ?_
 rintro e w8 ⟨r2, rfl, hr3, hs7, hg6⟩
 unfold fromR at hr3; have hr3b : 1 <= r2 /\ r2 <= 3 := (by omega); clear hr3
 have hg6s := hg6.size
 (try simp at hg6s)
 replace F1 := F1.seedAt 2 rfl hg6 hs7
 clear hg6
 go_wp2_with fail
 replace F1 := F1.nilrow mchEnc 94 3
 (skip)
 obtain ⟨HI11_, HI110⟩ : ∃ I : RelT, I = (fun t ds wr => ∃ (c : Nat) (mv : Value) (lm : List Mch), t 0 = .pointer (some ⟨sb, 0, none⟩) /\ t 1 = .int .i64 nt /\ t 4 = .pointer (some ⟨w.heap.size, 0, none⟩) /\ t 5 = .pointer (some ⟨w.heap.size + 1, 0, none⟩) /\ t 6 = .int .i64 (c : Int) /\ (lm.length + c <= 3 /\ 1 <= lm.length + c) /\ mchsErr lm = 0 /\ ds = [] /\ w8.heap.size <= wr.heap.size /\ Bus w sb [rown mchEnc 94 3 w.heap.size mv lm, rbox (w.heap.size + 1) 43 #[mv, .slice none 0 0], rbox w.heap.size 43 #[.slice none 0 0, .slice none 0 0], rseed sb] wr) := ⟨_, rfl⟩
 have HI11 := lhd HI110
 clear HI110
 refine wp_loopS 88 rfl HI11_ (fun t wr => (intOf (t 6)).toNat) ?atStart1 ?round1
 case round1 =>
  intro t ds wr hHid
  rw [HI11.out] at hHid
  obtain ⟨c, mv, lm, e0, e1, e4, e5, e6, hrel⟩ := hHid
  have e := rgV288 t
  (try dsimp only at e)
  rw [e0, e1, e4, e5, e6] at e
  rw [e]
  simp only [e6]
  clear e e0 e1 e4 e5 e6
  obtain ⟨hlen, hme, rfl, hs13, hF12⟩ := hrel
  clear F1
  obtain ⟨w14, rfl⟩ : ∃ x_ : World, x_ = wr := ⟨_, rfl⟩
  have HME := lhd hme
  clear hme
  by_cases c15 : 0 < (c : Int)
  ·
   have c15H := lhd c15
   go_wp2_with fail
   refine (from_c sb (-50) 100 _ (hF12.e 3 rfl) (by omega) (by omega) (by omega) (by omega)).mono ?_
   rintro e w20 ⟨r16, rfl, hr17, hs19, hg18⟩
   unfold fromR at hr17; have hr17b : (-50) <= r16 /\ r16 <= 100 := (by omega); clear hr17
   have hg18s := hg18.size
   (try simp at hg18s)
   have F21 := hF12.seedAt 3 rfl hg18 hs19
   clear hF12
   clear hg18
   go_wp2_with fail
   refine (from_c sb 1 24 _ (F21.e 3 rfl) (by omega) (by omega) (by omega) (by omega)).mono ?_
   rintro e w26 ⟨r22, rfl, hr23, hs25, hg24⟩
   unfold fromR at hr23; have hr23b : 1 <= r22 /\ r22 <= 24 := (by omega); clear hr23
   have hg24s := hg24.size
   (try simp at hg24s)
   replace F21 := F21.seedAt 3 rfl hg24 hs25
   clear hg24
   go_wp2_with fail
   replace F21 := F21.new 3 #[.int .i64 24, .int .i64 r22] (n := w26.heap.size) (by simp)
   refine (of2_c sb _ w26.heap.size 2 24 r22 (F21.e 4 rfl) (by omega) (F21.q 0 0) (F21.q 0 1)).mono ?_
   rintro e w33 ⟨r28, rfl, hr29, hs32, hg31⟩
   have hg31s := hg31.size
   (try simp at hg31s)
   replace F21 := F21.seedAt 4 rfl hg31 hs32
   clear hg31
   go_wp2_with fail
   replace F21 := F21.new 94 #[.int .i64 r16, .int .i64 0, .int .i64 r28] (n := w33.heap.size) (by simp)
   have Fn_ := (F21.drop 1 rfl)
   (try dsimp only [lpF, lpG] at Fn_)
   obtain ⟨w38, hx39, F41, hxs40⟩ := Fn_.name
   (try simp at hxs40)
   rw [hx39]
   clear hx39 F21 Fn_
   replace F41 := F41.drew
   refine ru_begin (fun W => W.cell? ⟨w33.heap.size, 0, none⟩ = some (.int .i64 r16)) 6 (by kernel_rfl) ?_ ?_
   · exact F41.q 0 0
   obtain ⟨wd44, hwd_⟩ : ∃ x : World, w38.drew = x := ⟨_, rfl⟩
   rw [hwd_] at F41 ⊢
   have wd44s : w38.heap.size <= wd44.heap.size := by rw [← hwd_]; exact Nat.le_refl _
   clear hwd_
   have hS43 := (F41.q 0 0)
   refine ru_t 0 [] ?_
   refine ru_t 1 [] ?_
   refine ru_t 2 [] ?_
   (try simp only [lpX])
   clear hS43
   refine ru_o 3 fun K hK => ?_
   go_simp
   refine (from_c sb 0 300 _ (F41.e 4 rfl) (by omega) (by omega) (by omega) (by omega)).mono ?_
   rintro e w49 ⟨r45, rfl, hr46, hs48, hg47⟩
   unfold fromR at hr46; have hr46b : 0 <= r45 /\ r45 <= 300 := (by omega); clear hr46
   have hg47s := hg47.size
   (try simp at hg47s)
   replace F41 := F41.seedAt 4 rfl hg47 hs48
   refine ru_back hK (by exact F41.q 0 0) (fun _ => ?_)
   clear hK K
   (try simp only [lpX])
   have hw51 : IntKind.i64.wrap (r16 + r45) = r16 + r45 := IntWalk.i64_in _ (by omega)
   refine ru_p 4 ?_
   (try simp only [lpX])
   refine ru_p 5 ?_
   (try simp only [lpX])
   refine ru_o 6 fun K hK => ?_
   have kb_ := F41.bx3 0 rfl
   go_simp
   clear kb_
   have F52 := (F41.set 1 (.int .i64 (r16 + r45))).nf #[.int .i64 r16, .int .i64 (r16 + r45), .int .i64 r28] rfl
   clear F41
   refine ru_back_late hK (by kernel_rfl) ?_
   clear hK K
   (try simp only [lpX])
   refine ru_done (by kernel_rfl) ?_
   (try clear hw51)
   have Fn_ := F52
   (try dsimp only [lpF, lpG] at Fn_)
   obtain ⟨w53, hx54, F56, hxs55⟩ := Fn_.name
   (try simp at hxs55)
   rw [hx54]
   clear hx54 F52 Fn_
   have b57 := F56.bx3 0 rfl
   have b58 := F56.bx2 2 rfl
   go_wp2_with (at_builtin; refine wpList_app _ okMch rfl _ _ rfl w.heap.size mv lm [(⟨r16, r16 + r45, r28⟩ : Mch)] rfl (by exact ((F56.o 1 rfl)).alloc _) ⟨_, 0, none⟩ 1 1 rfl rfl (by decide) (news_of (Bk.newAt _ _ _ (by simp))) (lm.length + 1) (by simp) (by omega) (by first | omega | (simp; omega)) _ rfl ?_; intro g59 cap60 w61 hp62; refine Hid.out ?_)
   refine lhd ?_
   have hp62s := hp62.gb.size
   (try simp at hp62s)
   clear b57 b58
   have F63 := ((F56.alloc (.cells #[.int .i64 r16, .int .i64 (r16 + r45), .int .i64 r28] 94)).front 1 rfl rfl).app hp62 (by simp)
   clear F56
   have b64 := F63.bx2 2 rfl
   go_wp2_with fail
   clear b64
   have F65 := ((F63.front 2 rfl rfl).set 0 (.slice (some ⟨g59, 0, none⟩) (lm.length + 1) cap60)).nf #[.slice (some ⟨g59, 0, none⟩) (lm.length + 1) cap60, .slice none 0 0] rfl
   clear F63
   have F66 : Bus w sb [rown mchEnc 94 3 w.heap.size (.slice (some ⟨g59, 0, none⟩) (lm.length + 1) cap60) (lm ++ [(⟨r16, r16 + r45, r28⟩ : Mch)]), rbox (w.heap.size + 1) 43 #[.slice (some ⟨g59, 0, none⟩) (lm.length + 1) cap60, .slice none 0 0], rbox w.heap.size 43 #[.slice none 0 0, .slice none 0 0], rseed sb] _ := F65.pick [1, 0, 3, 4] (by decide) rfl
   clear F65
   (first | refine ⟨by kernel_rfl, ?_, ?_⟩ | refine ⟨rfl, ?_, ?_⟩ | refine ⟨?_, ?_⟩)
   · rw [HI11.out]; exact ⟨c - 1, _, _, (by kernel_rfl), (by kernel_rfl), (by kernel_rfl), (by kernel_rfl), (by show Value.int .i64 ((c : Int) - 1) = _; rw [show ((c : Int) - 1) = ((c - 1 : Nat) : Int) by omega]), (by simp; omega), (mchsErr_snoc HME.out (mchErr_of (x := ⟨r16, r16 + r45, r28⟩) (by simp only; omega) (by simp only; omega))), (by first | rfl | simp), (by first | omega | (simp; done) | (simp; omega)), F66⟩
   · simp [slot, intOf]; omega
  have c15H := lhd c15
  have c15a := dec_f c15
  go_wp2_with fail
  have F67 := hF12.nilrow tskEncS 54 8
  clear hF12
  replace F67 := F67.afo0 w.heap.size
  obtain ⟨am69, cm70, e_⟩ := (Own.sl (F67.o 2 rfl) (fun _ => rfl)).any
  subst e_
  have hlm : 1 <= lm.length /\ lm.length <= 3 := by omega
  (skip)
  obtain ⟨HI71_, HI710⟩ : ∃ I : RelT, I = (fun t ds wr => ∃ (k : Nat) (tv : Value) (lt : List Tsk), t 0 = .pointer (some ⟨sb, 0, none⟩) /\ t 1 = .int .i64 nt /\ t 4 = .pointer (some ⟨w.heap.size, 0, none⟩) /\ t 5 = .pointer (some ⟨w.heap.size + 1, 0, none⟩) /\ t 8 = .int .i64 (k : Int) /\ lt.length = k /\ (k : Int) <= nt /\ tsksErr lm.length 0 lt = 0 /\ (∀ t_ ∈ lt, sliceB t_.av = true) /\ ds = [] /\ w14.heap.size <= wr.heap.size /\ Bus w sb [rafo w.heap.size lt, rown tskEncS 54 8 w.heap.size tv lt, rown mchEnc 94 3 w.heap.size (.slice am69 lm.length cm70) lm, rbox (w.heap.size + 1) 43 #[.slice am69 lm.length cm70, tv], rbox w.heap.size 43 #[.slice none 0 0, .slice none 0 0], rseed sb] wr) := ⟨_, rfl⟩
  have HI71 := lhd HI710
  clear HI710
  refine wp_loopS 88 rfl HI71_ (fun t wr => nt.toNat - (intOf (t 8)).toNat) ?atStart2 ?round2
  case round2 =>
   intro t ds wr hHid
   rw [HI71.out] at hHid
   obtain ⟨k, tv, lt, e0, e1, e4, e5, e8, hrel⟩ := hHid
   have e := rgV288 t
   (try dsimp only at e)
   rw [e0, e1, e4, e5, e8] at e
   rw [e]
   simp only [e8]
   clear e e0 e1 e4 e5 e8
   obtain ⟨hlk0, hkn, hte, hsb, rfl, hs73, hF72⟩ := hrel
   clear F67
   obtain ⟨w74, rfl⟩ : ∃ x_ : World, x_ = wr := ⟨_, rfl⟩
   have HTE := lhd hte
   have HSB := lhd hsb
   have hlk : lt.length <= k /\ k <= lt.length := ⟨Nat.le_of_eq hlk0, Nat.le_of_eq hlk0.symm⟩
   clear hte hsb hlk0
   by_cases c75 : (k : Int) < nt
   ·
    have c75H := lhd c75
    go_wp2_with fail
    refine (yes_c sb 6 _ (hF72.e 5 rfl) (by omega) (by omega)).mono ?_
    rintro e w79 ⟨yb76, rfl, hs78, hg77⟩
    have hg77s := hg77.size
    (try simp at hg77s)
    have F80 := hF72.seedAt 5 rfl hg77 hs78
    clear hF72
    clear hg77
    cases c81 : yb76
    ·
     have c81H := lhd c81
     have b84 := F80.bx2 3 rfl
     go_wp2_with fail
     clear b84
     refine (below_c sb (lm.length : Int) _ (F80.e 5 rfl) (by omega) (by omega)).mono ?_
     rintro e w87 ⟨r82, rfl, hr83, hs86, hg85⟩
     unfold belowR at hr83
     have hg85s := hg85.size
     (try simp at hg85s)
     replace F80 := F80.seedAt 5 rfl hg85 hs86
     clear hg85
     go_wp2_with fail
     replace F80 := F80.new 3 #[.int .i64 5, .int .i64 30] (n := w87.heap.size) (by simp)
     refine (of2_c sb _ w87.heap.size 2 5 30 (F80.e 6 rfl) (by omega) (F80.q 0 0) (F80.q 0 1)).mono ?_
     rintro e w94 ⟨r89, rfl, hr90, hs93, hg92⟩
     have hg92s := hg92.size
     (try simp at hg92s)
     replace F80 := F80.seedAt 6 rfl hg92 hs93
     clear hg92
     go_wp2_with fail
     refine (spanOf_c sb 0 r89 _ (F80.e 6 rfl) (by omega) (by omega) (by omega)).mono ?_
     rintro e w101 ⟨_, rfl, ⟨lo96, hi97, rfl, hr98a, hr98b, hr98c⟩, hs100, hg99⟩
     have hg99s := hg99.size
     (try simp at hg99s)
     replace F80 := F80.seedAt 6 rfl hg99 hs100
     clear hg99
     go_wp2_with fail
     replace F80 := F80.new 3 #[.int .i64 0, .int .i64 20] (n := w101.heap.size) (by simp)
     refine (of2_c sb _ w101.heap.size 2 0 20 (F80.e 7 rfl) (by omega) (F80.q 0 0) (F80.q 0 1)).mono ?_
     rintro e w108 ⟨r103, rfl, hr104, hs107, hg106⟩
     have hg106s := hg106.size
     (try simp at hg106s)
     replace F80 := F80.seedAt 7 rfl hg106 hs107
     clear hg106
     go_wp2_with fail
     refine (spanOf_c sb 0 r103 _ (F80.e 7 rfl) (by omega) (by omega) (by omega)).mono ?_
     rintro e w115 ⟨_, rfl, ⟨lo110, hi111, rfl, hr112a, hr112b, hr112c⟩, hs114, hg113⟩
     have hg113s := hg113.size
     (try simp at hg113s)
     replace F80 := F80.seedAt 7 rfl hg113 hs114
     clear hg113
     go_wp2_with fail
     replace F80 := F80.new 3 #[.int .i64 0, .int .i64 60] (n := w115.heap.size) (by simp)
     refine (of2_c sb _ w115.heap.size 2 0 60 (F80.e 8 rfl) (by omega) (F80.q 0 0) (F80.q 0 1)).mono ?_
     rintro e w122 ⟨r117, rfl, hr118, hs121, hg120⟩
     have hg120s := hg120.size
     (try simp at hg120s)
     replace F80 := F80.seedAt 8 rfl hg120 hs121
     clear hg120
     go_wp2_with fail
     refine (spanOf_c sb 0 r117 _ (F80.e 8 rfl) (by omega) (by omega) (by omega)).mono ?_
     rintro e w129 ⟨_, rfl, ⟨lo124, hi125, rfl, hr126a, hr126b, hr126c⟩, hs128, hg127⟩
     have hg127s := hg127.size
     (try simp at hg127s)
     replace F80 := F80.seedAt 8 rfl hg127 hs128
     clear hg127
     go_wp2_with fail
     replace F80 := F80.new 54 #[.int .i64 r82, .int .i64 lo96, .int .i64 hi97, .int .i64 lo110, .int .i64 hi111, .int .i64 lo124, .int .i64 hi125, .slice none 0 0] (n := w129.heap.size) (by simp)
     replace F80 := F80.nilrow intEnc 3 1
     (skip)
     obtain ⟨HI133_, HI1330⟩ : ∃ I : RelT, I = (fun t ds wr => ∃ (j : Nat) (av : Value) (la : List Int), t 0 = .pointer (some ⟨sb, 0, none⟩) /\ t 1 = .int .i64 nt /\ t 4 = .pointer (some ⟨w.heap.size, 0, none⟩) /\ t 5 = .pointer (some ⟨w.heap.size + 1, 0, none⟩) /\ t 8 = .int .i64 (k : Int) /\ t 9 = .pointer (some ⟨w129.heap.size, 0, none⟩) /\ t 10 = .int .i64 (j : Int) /\ j <= k /\ la.length <= j /\ afS j la /\ ds = [] /\ w129.heap.size <= wr.heap.size /\ Bus w sb [rown intEnc 3 1 w.heap.size av la, rbox w129.heap.size 54 #[.int .i64 r82, .int .i64 lo96, .int .i64 hi97, .int .i64 lo110, .int .i64 hi111, .int .i64 lo124, .int .i64 hi125, av], rafo w.heap.size lt, rown tskEncS 54 8 w.heap.size tv lt, rown mchEnc 94 3 w.heap.size (.slice am69 lm.length cm70) lm, rbox (w.heap.size + 1) 43 #[.slice am69 lm.length cm70, tv], rbox w.heap.size 43 #[.slice none 0 0, .slice none 0 0], rseed sb] wr) := ⟨_, rfl⟩
     have HI133 := lhd HI1330
     clear HI1330
     refine wp_loopS 88 rfl HI133_ (fun t wr => k - (intOf (t 10)).toNat) ?atStart3 ?round3
     case round3 =>
      intro t ds wr hHid
      rw [HI133.out] at hHid
      obtain ⟨j, av, la, e0, e1, e4, e5, e8, e9, e10, hrel⟩ := hHid
      have e := rgV288 t
      (try dsimp only at e)
      rw [e0, e1, e4, e5, e8, e9, e10] at e
      rw [e]
      simp only [e10]
      clear e e0 e1 e4 e5 e8 e9 e10
      obtain ⟨hj, hlaj, has, rfl, hs135, hF134⟩ := hrel
      clear F80
      obtain ⟨w136, rfl⟩ : ∃ x_ : World, x_ = wr := ⟨_, rfl⟩
      have HAS := lhd has
      clear has
      by_cases c137 : (j : Int) < (k : Int)
      ·
       have c137H := lhd c137
       go_wp2_with fail
       refine (yes_c sb 3 _ (hF134.e 7 rfl) (by omega) (by omega)).mono ?_
       rintro e w141 ⟨yb138, rfl, hs140, hg139⟩
       have hg139s := hg139.size
       (try simp at hg139s)
       have F142 := hF134.seedAt 7 rfl hg139 hs140
       clear hF134
       clear hg139
       cases c143 : yb138
       ·
        have c143H := lhd c143
        go_wp2_with fail
        (first | refine ⟨by kernel_rfl, ?_, ?_⟩ | refine ⟨rfl, ?_, ?_⟩ | refine ⟨?_, ?_⟩)
        · rw [HI133.out]; exact ⟨j + 1, _, _, by (iterate 6 refine ⟨by kernel_rfl, ?_⟩); exact ⟨(by show Value.int .i64 ((j : Int) + 1) = _; simp), (by omega), (by first | omega | (simp; omega)), (by push_cast; exact HAS.out.next), (by first | rfl | simp), (by first | omega | (simp; done) | (simp; omega)), F142⟩⟩
        · simp [slot, intOf]; omega
       have c143H := lhd c143
       have b144 := F142.bx8 1 rfl
       go_wp2_with (at_builtin; refine wpList_app _ okInt rfl _ _ rfl w.heap.size av la [(j : Int)] rfl (by exact ((F142.o 0 rfl)).alloc _) ⟨_, 0, none⟩ 1 1 rfl rfl (by decide) (news_of (Bk.newAt _ _ _ (by simp))) (la.length + 1) (by simp) (by omega) (by first | omega | (simp; omega)) _ rfl ?_; intro g145 cap146 w147 hp148; refine Hid.out ?_)
       refine lhd ?_
       have hp148s := hp148.gb.size
       (try simp at hp148s)
       clear b144
       have F149 := ((F142.alloc (.cells #[.int .i64 (j : Int)] 3)).front 0 rfl rfl).app hp148 (by simp)
       clear F142
       have b150 := F149.bx8 1 rfl
       go_wp2_with fail
       clear b150
       have F151 := ((F149.front 1 rfl rfl).set 7 (.slice (some ⟨g145, 0, none⟩) (la.length + 1) cap146)).nf #[.int .i64 r82, .int .i64 lo96, .int .i64 hi97, .int .i64 lo110, .int .i64 hi111, .int .i64 lo124, .int .i64 hi125, .slice (some ⟨g145, 0, none⟩) (la.length + 1) cap146] rfl
       clear F149
       have F152 : Bus w sb [rown intEnc 3 1 w.heap.size (.slice (some ⟨g145, 0, none⟩) (la.length + 1) cap146) (la ++ [(j : Int)]), rbox w129.heap.size 54 #[.int .i64 r82, .int .i64 lo96, .int .i64 hi97, .int .i64 lo110, .int .i64 hi111, .int .i64 lo124, .int .i64 hi125, .slice (some ⟨g145, 0, none⟩) (la.length + 1) cap146], rafo w.heap.size lt, rown tskEncS 54 8 w.heap.size tv lt, rown mchEnc 94 3 w.heap.size (.slice am69 lm.length cm70) lm, rbox (w.heap.size + 1) 43 #[.slice am69 lm.length cm70, tv], rbox w.heap.size 43 #[.slice none 0 0, .slice none 0 0], rseed sb] _ := F151.pick [1, 0, 2, 3, 4, 5, 6, 7] (by decide) rfl
       clear F151
       (first | refine ⟨by kernel_rfl, ?_, ?_⟩ | refine ⟨rfl, ?_, ?_⟩ | refine ⟨?_, ?_⟩)
       · rw [HI133.out]; exact ⟨j + 1, _, _, by (iterate 6 refine ⟨by kernel_rfl, ?_⟩); exact ⟨(by show Value.int .i64 ((j : Int) + 1) = _; simp), (by omega), (by first | omega | (simp; omega)), (by push_cast; exact HAS.out.snoc (by omega)), (by first | rfl | simp), (by first | omega | (simp; done) | (simp; omega)), F152⟩⟩
       · simp [slot, intOf]; omega
      have c137H := lhd c137
      have c137a := dec_f c137
      have HAS2 := HAS
      obtain ⟨aa153, ac154, e_⟩ := (Own.sl (hF134.o 0 rfl) (fun _ => rfl)).any
      subst e_
      have b155 := hF134.bx8 1 rfl
      have b156 := hF134.bx2 5 rfl
      go_wp2_with (at_builtin; refine wpList_app _ okTskS rfl _ _ rfl w.heap.size tv lt [(⟨r82, ⟨lo96, hi97⟩, ⟨lo110, hi111⟩, ⟨lo124, hi125⟩, la, .slice aa153 la.length ac154⟩ : Tsk)] rfl (by exact ((hF134.o 3 rfl)).alloc _) ⟨_, 0, none⟩ 1 1 rfl rfl (by decide) (news_of (Bk.newAt _ _ _ (by simp))) (lt.length + 1) (by simp) (by omega) (by first | omega | (simp; omega)) _ rfl ?_; intro g157 cap158 w159 hp160; refine Hid.out ?_)
      refine lhd ?_
      have hp160s := hp160.gb.size
      (try simp at hp160s)
      clear b155 b156
      have F161 := ((hF134.alloc (.cells #[.int .i64 r82, .int .i64 lo96, .int .i64 hi97, .int .i64 lo110, .int .i64 hi111, .int .i64 lo124, .int .i64 hi125, .slice aa153 la.length ac154] 54)).front 3 rfl rfl).app hp160 (by simp)
      clear hF134
      have b162 := F161.bx2 5 rfl
      go_wp2_with fail
      clear b162
      have F163 := ((F161.front 5 rfl rfl).set 1 (.slice (some ⟨g157, 0, none⟩) (lt.length + 1) cap158)).nf #[.slice am69 lm.length cm70, .slice (some ⟨g157, 0, none⟩) (lt.length + 1) cap158] rfl
      clear F161
      have F164 : Bus w sb [rown intEnc 3 1 w.heap.size (.slice aa153 la.length ac154) la, rafo w.heap.size lt, rbox (w.heap.size + 1) 43 #[.slice am69 lm.length cm70, .slice (some ⟨g157, 0, none⟩) (lt.length + 1) cap158], rown tskEncS 54 8 w.heap.size (.slice (some ⟨g157, 0, none⟩) (lt.length + 1) cap158) (lt ++ [(⟨r82, ⟨lo96, hi97⟩, ⟨lo110, hi111⟩, ⟨lo124, hi125⟩, la, .slice aa153 la.length ac154⟩ : Tsk)]), rbox w129.heap.size 54 #[.int .i64 r82, .int .i64 lo96, .int .i64 hi97, .int .i64 lo110, .int .i64 hi111, .int .i64 lo124, .int .i64 hi125, .slice aa153 la.length ac154], rown mchEnc 94 3 w.heap.size (.slice am69 lm.length cm70) lm, rbox w.heap.size 43 #[.slice none 0 0, .slice none 0 0], rseed sb] _ := F163.pick [2, 4, 0, 1, 3, 5, 6, 7] (by decide) rfl
      clear F163
      replace F164 := F164.afo (⟨r82, ⟨lo96, hi97⟩, ⟨lo110, hi111⟩, ⟨lo124, hi125⟩, la, .slice aa153 la.length ac154⟩ : Tsk) rfl rfl
      go_wp2_with fail
      have F166 : Bus w sb [rafo w.heap.size (lt ++ [(⟨r82, ⟨lo96, hi97⟩, ⟨lo110, hi111⟩, ⟨lo124, hi125⟩, la, .slice aa153 la.length ac154⟩ : Tsk)]), rown tskEncS 54 8 w.heap.size (.slice (some ⟨g157, 0, none⟩) (lt.length + 1) cap158) (lt ++ [(⟨r82, ⟨lo96, hi97⟩, ⟨lo110, hi111⟩, ⟨lo124, hi125⟩, la, .slice aa153 la.length ac154⟩ : Tsk)]), rown mchEnc 94 3 w.heap.size (.slice am69 lm.length cm70) lm, rbox (w.heap.size + 1) 43 #[.slice am69 lm.length cm70, .slice (some ⟨g157, 0, none⟩) (lt.length + 1) cap158], rbox w.heap.size 43 #[.slice none 0 0, .slice none 0 0], rseed sb] _ := F164.pick [0, 2, 4, 1, 5, 6] (by decide) rfl
      clear F164
      (first | refine ⟨by kernel_rfl, ?_, ?_⟩ | refine ⟨rfl, ?_, ?_⟩ | refine ⟨?_, ?_⟩)
      · rw [HI71.out]; exact ⟨k + 1, _, _, (by kernel_rfl), (by kernel_rfl), (by kernel_rfl), (by kernel_rfl), (by show Value.int .i64 ((k : Int) + 1) = _; simp), (by simp; omega), (by omega), (tsksErr_snoc HTE.out (tskErr_of (t := ⟨r82, ⟨lo96, hi97⟩, ⟨lo110, hi111⟩, ⟨lo124, hi125⟩, la, .slice aa153 la.length ac154⟩) (by simp only; omega) (by simp only; omega) (by simp only; omega) (by simp only; omega) (HAS.out.err (by simp; omega)))), (fun t_ h_ => by rcases List.mem_append.1 h_ with h_ | h_; exact HSB.out t_ h_; obtain rfl := List.mem_singleton.1 h_; rfl), (by first | rfl | simp), (by first | omega | (simp; done) | (simp; omega)), F166⟩
      · simp [slot, intOf]; omega
     case atStart3 =>
      rw [HI133.out]
      exact ⟨0, _, [], by (iterate 6 refine ⟨by kernel_rfl, ?_⟩); exact ⟨rfl, Nat.zero_le _, Nat.zero_le _, ⟨(fun _ h_ => by cases h_), List.nodup_nil⟩, rfl, (by first | exact Nat.le_refl _ | omega | (simp; done) | (simp; omega)), (((F80.drop 2 rfl).drop 2 rfl).drop 2 rfl)⟩⟩
    have c81H := lhd c81
    obtain ⟨av167, vc168, e_⟩ := (Own.sl (F80.o 1 rfl) (fun _ => rfl)).any
    subst e_
    have b169 := F80.bx2 3 rfl
    have b170 := F80.bx2 4 rfl
    go_wp2_with fail
    clear b169 b170
    have F171 := (F80.front 4 rfl rfl).pt2 (.slice am69 lm.length cm70) (.slice av167 lt.length vc168)
    clear F80
    have kb172 := F171.bx2 0 rfl
    go_wp2_with fail
    have F173 : Bus w sb [rseed sb, rown mchEnc 94 3 w.heap.size (.slice am69 lm.length cm70) lm, rown tskEncS 54 8 w.heap.size (.slice av167 lt.length vc168) lt, rafo w.heap.size lt] _ := F171.pick [5, 3, 2, 1] (by decide) rfl
    clear F171
    exact bodyPost_ret (v := .agg #[.slice am69 lm.length cm70, .slice av167 lt.length vc168]) (by simp [results, Tryz.results10, go_sem, kb172]) rfl (⟨_, _, lm, lt, rfl, ⟨jobErr_of (by omega) HME.out (by omega) HTE.out, by omega, by omega, by omega, HSB.out⟩, F173⟩)
   have c75H := lhd c75
   have c75a := dec_f c75
   obtain ⟨av174, vc175, e_⟩ := (Own.sl (hF72.o 1 rfl) (fun _ => rfl)).any
   subst e_
   have b176 := hF72.bx2 3 rfl
   have b177 := hF72.bx2 4 rfl
   go_wp2_with fail
   clear b176 b177
   have F178 := (hF72.front 4 rfl rfl).pt2 (.slice am69 lm.length cm70) (.slice av174 lt.length vc175)
   clear hF72
   have kb179 := F178.bx2 0 rfl
   go_wp2_with fail
   have F180 : Bus w sb [rseed sb, rown mchEnc 94 3 w.heap.size (.slice am69 lm.length cm70) lm, rown tskEncS 54 8 w.heap.size (.slice av174 lt.length vc175) lt, rafo w.heap.size lt] _ := F178.pick [5, 3, 2, 1] (by decide) rfl
   clear F178
   exact bodyPost_ret (v := .agg #[.slice am69 lm.length cm70, .slice av174 lt.length vc175]) (by simp [results, Tryz.results10, go_sem, kb179]) rfl (⟨_, _, lm, lt, rfl, ⟨jobErr_of (by omega) HME.out (by omega) HTE.out, by omega, by omega, by omega, HSB.out⟩, F180⟩)
  case atStart2 =>
   rw [HI71.out]
   exact ⟨0, _, [], (by kernel_rfl), (by kernel_rfl), (by kernel_rfl), (by kernel_rfl), rfl, rfl, hnt.1, rfl, (fun _ h_ => by cases h_), rfl, (by first | exact Nat.le_refl _ | omega | (simp; done) | (simp; omega)), F67⟩
 case atStart1 =>
  rw [HI11.out]
  exact ⟨r2.toNat, _, [], (by kernel_rfl), (by kernel_rfl), (by kernel_rfl), (by kernel_rfl), (by rw [Int.toNat_of_nonneg (by omega)]; first | kernel_rfl | rfl), (by simp; omega), rfl, rfl, (by first | exact Nat.le_refl _ | omega | (simp; done) | (simp; omega)), F1⟩
end Go.Proofs.YtdgplekokdeafaaGreat
