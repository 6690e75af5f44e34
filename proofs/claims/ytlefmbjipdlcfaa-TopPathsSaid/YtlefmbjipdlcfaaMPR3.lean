/- build: the path that is read off leads where it should, with its length; what the law on routes asks. Plain maths. -/
import Derived.Test.YtlefmbjipdlcfaaMPR2
set_option linter.unusedVariables false
set_option linter.unusedSimpArgs false
set_option linter.unnecessarySimpa false
namespace Go.Proofs.Ytlefmbjipdlcfaa
set_option maxRecDepth 100000
structure PthOk (ls : List Lg) (n : Nat) (d x p : Int) (path : List Int) (f g : Nat -> Int) : Prop where
 f0 : f 0 = x
 g0 : g 0 = 0
 fe : f path.length = d
 ge : g path.length = p
 fb : ∀ k, 0 <= f k /\ f k <= 1000
 gb : ∀ k, 0 <= g k /\ g k <= 1000000000000
 leg : ∀ k i, path[k]? = some i -> ∃ l, 0 <= i /\ ls[i.toNat]? = some l /\ l.op = 1 /\ (f k = l.a ∨ f k = l.b) /\ f (k + 1) = l.a + l.b - f k /\ g (k + 1) = g k + l.long
section
variable {ls : List Lg} {d : Int} {n : Nat}
theorem fstL_of (f : Lg -> Bool) : ∀ (ls : List Lg) (k : Int), (∃ l ∈ ls, f l = true) -> ∃ i : Nat, fstL f ls k = k + i /\ ∃ l, ls[i]? = some l /\ f l = true
 | [], k, ⟨l, hl, _⟩ => by cases hl
 | x :: ls, k, ⟨l, hl, hf⟩ => by
  rw [fstL]
  by_cases hx : f x = true
  ·
   rw [if_pos hx]
   exact ⟨0, by simp, x, rfl, hx⟩
  rw [if_neg hx]
  have hl' : l ∈ ls := by
   rcases List.mem_cons.1 hl with rfl | h
   · exact absurd hf hx
   · exact h
  obtain ⟨i, e, l', h1, h2⟩ := fstL_of f ls (k + 1) ⟨l, hl', hf⟩
  exact ⟨i + 1, by rw [e]; push_cast; omega, l', by simpa using h1, h2⟩
theorem Least.pth (hls : ∀ l ∈ ls, LgOk n l) (hn : n <= 1000) (hd : 0 <= d /\ d < n) {m : FM} (h : Least ls useS d n m) : ∀ (K : Nat) (x : Int) (v : Int × Int), fget m x = some v -> v.2 <= K -> v.1 <= 1000000 * (K : Int) -> K <= 100000 →
  ∃ path f g, pth ls m d K x = some path /\ PthOk ls n d x v.1 path f g /\ ∀ k, g k <= 1000000 * (K : Int)
 | K, x, v, hv, hq, hp, hK => by
  by_cases hx : x = d
  ·
   subst hx
   have e := h.zero hls hv
   subst e
   refine ⟨[], fun _ => x, fun _ => 0, by cases K <;> rw [Go.Proofs.Ytlefmbjipdlcfaa.pth, if_pos rfl], ⟨rfl, rfl, rfl, rfl, fun _ => by omega, fun _ => by omega, fun k i hk => by simp at hk⟩, fun _ => by omega⟩
  obtain ⟨l0, hl0, hh0, _⟩ := h.hit hls hx hv
  obtain ⟨i, hi, l, hl, hh⟩ := fstL_of (hitF m x v.1 v.2) ls 0 ⟨l0, hl0, hh0⟩
  rw [Int.zero_add] at hi
  have hlm := List.mem_of_getElem? hl
  obtain ⟨a, b, hy⟩ := hit_get hh
  rw [hit_yes hy] at hh
  simp only [Bool.and_eq_true, decide_eq_true_eq, useS] at hh
  obtain ⟨hop, ha, hb⟩ := hh
  have hend : x = l.a ∨ x = l.b := by
   unfold oth at hy
   by_cases c1 : x = l.a
   · exact .inl c1
   by_cases c2 : x = l.b
   · exact .inr c2
   rw [if_neg c1, if_neg c2] at hy
   unfold fget at hy
   simp at hy
  have hedg := (oth_ok (hls l hlm) hend).1
  have hlo := (hls l hlm).long
  have hwy := (h.snd _ _ hy)
  have hnn := hwy.nonneg hls
  simp only at hnn
  obtain ⟨K, rfl⟩ : ∃ K', K = K' + 1 := ⟨K - 1, by omega⟩
  have hq1 : b <= K := by push_cast at hq; omega
  -- the length so far is bounded by legs
  have hpb : a <= 1000000 * (K : Int) := by
   have := hwy
   have hw : ∀ {x p q : Int}, Wy ls useS d x p q -> p <= 1000000 * q := fun hw => by
    induction hw with
    | nil => omega
    | cons h1 _ _ _ ih => have := (hls _ h1).long; omega
   have := hw hwy
   simp only at this
   omega
  obtain ⟨path, f, g, e, ok, hg⟩ := Least.pth hls hn hd h K (oth l x) (a, b) hy hq1 hpb (by omega)
  refine ⟨(i : Int) :: path, fun k => if k = 0 then x else f (k - 1), fun k => if k = 0 then 0 else l.long + g (k - 1), ?_, ?_, fun k => ?_⟩
  ·
   rw [Go.Proofs.Ytlefmbjipdlcfaa.pth, if_neg hx, hv]
   simp only
   rw [hi, Int.toNat_natCast, hl]
   simp only
   rw [if_neg (by omega), e]
   rfl
  ·
   have hxr := (h.snd x v hv).inR hls hd
   refine ⟨rfl, rfl, by simpa using ok.fe, by simp; rw [ok.ge]; simp only; omega, fun k => ?_, fun k => ?_, fun k j hk => ?_⟩
   ·
    show 0 <= (if k = 0 then x else f (k - 1)) /\ (if k = 0 then x else f (k - 1)) <= 1000
    split
    · omega
    · exact ok.fb _
   ·
    show 0 <= (if k = 0 then 0 else l.long + g (k - 1)) /\ (if k = 0 then 0 else l.long + g (k - 1)) <= 1000000000000
    split
    · omega
    have h1 := ok.gb (k - 1)
    have h2 := hg (k - 1)
    omega
   cases k with
   | zero =>
    simp only [List.getElem?_cons_zero, Option.some.injEq] at hk
    subst hk
    refine ⟨l, by omega, by rw [Int.toNat_natCast]; exact hl, hop, hend, ?_, ?_⟩
    ·
     simp only [if_true, Nat.zero_add, Nat.one_ne_zero, if_false, Nat.sub_self]
     rw [ok.f0]
     omega
    · simp [ok.g0]
   | succ k =>
    simp only [List.getElem?_cons_succ] at hk
    obtain ⟨l', a1, a2, a3, a4, a5, a6⟩ := ok.leg k j hk
    refine ⟨l', a1, a2, a3, ?_, ?_, ?_⟩
    · simpa using a4
    · simpa using a5
    · simp [a6]; omega
  show (if k = 0 then 0 else l.long + g (k - 1)) <= _
  split
  · omega
  have := hg (k - 1)
  push_cast
  omega
structure RtOk (ls : List Lg) (n : Nat) (x d : Int) (mp ms : FM) (path : List Int) (f g : Nat -> Int) : Prop where
 dp : dstS ls useP mp (n + 1) true (far0 n d)
 ds : dstS ls useS ms (n + 1) true (far0 n d)
 pt : (∃ v, fget ms x = some v) -> pth ls ms d (n + 1) x = some path
 pn : fget ms x = none -> path = []
 es : perF ms x = mget (lenM ls useS n) x.toNat d.toNat
 ep : perF mp x = mget (lenM ls useP n) x.toNat d.toNat
 le : 0 <= perF ms x -> 0 <= perF mp x /\ perF mp x <= perF ms x
 no : perF ms x < 0 -> path = []
 ok : 0 <= perF ms x -> PthOk ls n d x (perF ms x) path f g
theorem Wy.weak {x p q : Int} (h : Wy ls useS d x p q) : Wy ls useP d x p q := by
 induction h with
 | nil => exact .nil
 | cons h1 h2 h3 _ ih =>
  refine .cons h1 ?_ h3 ih
  unfold useS at h2
  unfold useP
  rw [decide_eq_true_eq] at h2
  simp; omega
theorem rtOk_of (hls : ∀ l ∈ ls, LgOk n l) (hn : n <= 40) (hd : 0 <= d /\ d < n) {x : Int} (hx : 0 <= x /\ x < n) : ∃ mp ms path f g, RtOk ls n x d mp ms path f g := by
 obtain ⟨mp, ep, hp⟩ := dst_far0 (u := useP) hls hd
 obtain ⟨ms, es, hs⟩ := dst_far0 (u := useS) hls hd
 have e1 := len_far hls hd hx hs
 have e2 := len_far hls hd hx hp
 have dpp : dstS ls useP mp (n + 1) true (far0 n d) := by unfold dstS; rw [if_pos rfl]; exact ep
 have dss : dstS ls useS ms (n + 1) true (far0 n d) := by unfold dstS; rw [if_pos rfl]; exact es
 rcases hm : fget ms x with _ | ⟨p, q⟩
 ·
  refine ⟨mp, ms, [], fun _ => 0, fun _ => 0, dpp, dss, (fun ⟨v, e⟩ => by rw [hm] at e; cases e), fun _ => rfl, e1, e2, fun h => ?_, fun _ => rfl, fun h => ?_⟩
  · rw [perF_no hm] at h; omega
  · rw [perF_no hm] at h; omega
 have hw := hs.snd x _ hm
 simp only at hw
 obtain ⟨p', q', hw', h1, h2, h3⟩ := hw.short hls hd
 obtain ⟨v, e, hl⟩ := hs.all _ _ _ hw'
 rw [hm] at e
 obtain rfl := Option.some.inj e
 have hb : ∀ {x p q : Int}, Wy ls useS d x p q -> p <= 1000000 * q := fun hw => by
  induction hw with
  | nil => omega
  | cons h1 _ _ _ ih => have := (hls _ h1).long; omega
 have h4 := hb hw
 unfold leF at hl
 simp only at hl
 obtain ⟨path, f, g, e3, ok, _⟩ := hs.pth hls (by omega) hd (n + 1) x (p, q) hm (by simp only; push_cast; omega) (by simp only; push_cast; omega) (by omega)
 refine ⟨mp, ms, path, f, g, dpp, dss, fun _ => e3, (fun e => by rw [hm] at e; cases e), e1, e2, fun _ => ?_, fun h => ?_, fun _ => ?_⟩
 ·
  obtain ⟨v, e, hl2⟩ := hp.all _ _ _ hw.weak
  obtain ⟨a, b⟩ := v
  have h5 := (hp.snd x _ e).nonneg hls
  rw [perF_yes e, perF_yes hm]
  unfold leF at hl2
  simp only at hl2 h5
  omega
 ·
  have h5 := hw.nonneg hls
  rw [perF_yes hm] at h; omega
 · rw [perF_yes hm]; exact ok
end
end Go.Proofs.Ytlefmbjipdlcfaa
