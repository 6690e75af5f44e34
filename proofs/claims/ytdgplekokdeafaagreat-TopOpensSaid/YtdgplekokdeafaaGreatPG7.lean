/- the road opens when the ice bears: what is first lies within what is known (plain). -/
import Derived.Test.YtdgplekokdeafaaGreatPS6
import Derived.Test.YtdgplekokdeafaaGreatPG5
import Derived.Test.YtdgplekokdeafaaGreatPG6
import Derived.Test.YtdgplekokdeafaaGreatPKB
set_option linter.unusedVariables false
set_option linter.unusedSimpArgs false
set_option linter.unnecessarySimpa false
namespace Go.Proofs.YtdgplekokdeafaaGreat
open Go.RowKit
set_option maxRecDepth 100000
theorem fstP_le {p : Nat -> Bool} {j : Nat} (hp : p j = true) : ∀ n : Nat, j < n -> 0 < fstP p n /\ fstP p n <= (j : Int) + 1
 | 0, h => by omega
 | n + 1, h => by
  rw [fstP]
  by_cases e : j = n
  ·
   subst e
   have hb := fstP_bd p j
   rw [if_pos hp]
   split <;> omega
  have ih := fstP_le hp n (by omega)
  rw [if_neg (by omega)]
  exact ih
theorem fstP_ge {p : Nat -> Bool} {m : Nat} (h : ∀ j, j < m -> p j = false) : ∀ n : Nat, fstP p n = 0 ∨ (m : Int) + 1 <= fstP p n
 | 0 => .inl rfl
 | n + 1 => by
  rw [fstP]
  rcases fstP_ge h n with ih | ih
  ·
   rw [if_pos ih]
   by_cases hp : p n = true
   ·
    rw [if_pos hp]
    have : ¬ n < m := fun hn => by rw [h n hn] at hp; cases hp
    exact .inr (by omega)
   · rw [if_neg hp]; exact .inl rfl
  · rw [if_neg (by omega)]; exact .inr ih
theorem bear_inK {l : Fro} {x : Ice} {u : Tr} {k m : Int} (hL : LawOk l) (hx : IceK x k m) (h : inI u x) : (brs l x).lo <= u.bl + dn u.wh l.white.lo /\ u.bl + upp u.wh l.white.hi <= (brs l x).hi := by
 obtain ⟨⟨⟨a1, a2⟩, b1, b2⟩, ⟨c1, c2⟩, s1, s2⟩ := h
 have hw := hL.white
 have h1 := dn_mono (n := x.wh.lo) (n' := u.wh) (p := l.white.lo) (p' := l.white.lo) (by have := hx.wh; omega) b1 (by omega) (Int.le_refl _)
 have h2 := upp_mono (n := u.wh) (n' := x.wh.hi) (p := l.white.hi) (p' := l.white.hi) (by have := hx.wh; omega) b2 (by omega) (Int.le_refl _)
 unfold brs
 simp only
 omega
theorem perh_of {l : Fro} {x : Ice} {u : Tr} {k m need th : Int} (hL : LawOk l) (hx : IceK x k m) (h : inI u x) (hw : u.we = 0) (ht : th <= u.bl + upp u.wh l.white.hi) (hn : need <= th) : perhB l need x = true := by
 have h1 := (bear_inK hL hx h).2
 obtain ⟨_, ⟨c1, c2⟩, _⟩ := h
 have h3 := hx.we
 unfold perhB
 rw [decide_eq_true (by omega), decide_eq_true (by omega)]
 rfl
theorem sure_no {l : Fro} {x : Ice} {u : Tr} {k m need th : Int} (hL : LawOk l) (hx : IceK x k m) (h : inI u x) (hu : 0 <= u.we) (ht : u.bl + dn u.wh l.white.lo <= th) (hn : ¬ (u.we = 0 /\ need <= th)) : sureB l need x = false := by
 have h1 := (bear_inK hL hx h).1
 obtain ⟨_, ⟨c1, c2⟩, _⟩ := h
 unfold sureB
 by_cases e : x.we.hi = 0
 ·
  by_cases e2 : need <= (brs l x).lo
  · exact absurd ⟨by omega, by omega⟩ hn
  · rw [decide_eq_false e2, Bool.and_false]
 · rw [decide_eq_false e, Bool.false_and]
structure FstI (l : Fro) (x : Ice) (dl : List Wea) (need : Int) (k f : Nat) : Prop where
 le : f <= k
 no : ∀ j, j < (if f = 0 then k else f - 1) -> sureB l need (stI l x dl (j + 1)) = false
 yes : f ≠ 0 -> perhB l need (stI l x dl f) = true
theorem FstI.zero (l : Fro) (x : Ice) (dl : List Wea) (need : Int) : FstI l x dl need 0 0 := ⟨Nat.le_refl _, fun j h => absurd h (Nat.not_lt_zero _), fun h => absurd rfl h⟩
theorem FstI.stay {l : Fro} {x : Ice} {dl : List Wea} {need : Int} {k : Nat} (h : FstI l x dl need k 0) (hs : sureB l need (stI l x dl (k + 1)) = false) : FstI l x dl need (k + 1) 0 :=
 ⟨Nat.zero_le _, fun j hj => by
  rw [if_pos rfl] at hj
  by_cases e : j = k
  · rw [e]; exact hs
  · exact h.no j (by rw [if_pos rfl]; omega), fun h => absurd rfl h⟩
theorem FstI.hit {l : Fro} {x : Ice} {dl : List Wea} {need : Int} {k : Nat} (h : FstI l x dl need k 0) (hp : perhB l need (stI l x dl (k + 1)) = true) : FstI l x dl need (k + 1) (k + 1) :=
 ⟨Nat.le_refl _, fun j hj => by
  rw [if_neg (by omega)] at hj
  exact h.no j (by rw [if_pos rfl]; omega), fun _ => hp⟩
theorem FstI.fin {l : Fro} {x : Ice} {dl : List Wea} {need p s : Int} {k f : Nat} (h : FstI l x dl need k f) (hk : k <= dl.length) (hend : f ≠ 0 ∨ k = dl.length) (hp : fstP (fun j => perhB l need (stI l x dl (j + 1))) dl.length = p) (hs : fstP (fun j => sureB l need (stI l x dl (j + 1))) dl.length = s) (h0 : 0 < s) : 1 <= f /\ p <= f /\ (f : Int) <= s := by
 have hle := h.le
 by_cases e : f = 0
 ·
  subst e
  have hk2 : k = dl.length := by
   rcases hend with h1 | h1
   · exact absurd rfl h1
   · exact h1
  have h3 := fstP_no (p := fun j => sureB l need (stI l x dl (j + 1))) dl.length fun j hj => h.no j (by rw [if_pos rfl]; omega)
  omega
 have h1 := fstP_le (p := fun j => perhB l need (stI l x dl (j + 1))) (j := f - 1) (by show perhB l need (stI l x dl (f - 1 + 1)) = true; rw [show f - 1 + 1 = f by omega]; exact h.yes e) dl.length (by omega)
 have h2 := fstP_ge (p := fun j => sureB l need (stI l x dl (j + 1))) (m := f - 1) (fun j hj => h.no j (by rw [if_neg e]; exact hj)) dl.length
 omega
theorem sure_perh {l : Fro} {x : Ice} {need : Int} (hL : LawOk l) {k m : Int} (hx : IceK x k m) (ho : (brs l x).lo <= (brs l x).hi /\ x.we.lo <= x.we.hi) (h : sureB l need x = true) : perhB l need x = true := by
 unfold sureB at h
 unfold perhB
 rw [Bool.and_eq_true, decide_eq_true_eq, decide_eq_true_eq] at h
 have h3 := hx.we
 rw [decide_eq_true (by omega), decide_eq_true (by omega)]
 rfl
theorem KCase.fr0 {c : Cs} {ms : List Mch} {ts : List Tsk} {dl : List Wea} {lh lw lf : List Int} {rows : List (List Bool)} {x : Int} (h : KCase c ms ts dl lh lw lf rows) (hok : JobOk ms ts) (hx : (tk ts 0).fr.lo <= x /\ x <= (tk ts 0).fr.hi) : KCase { c with fr := fun i => if i = 0 then x else c.fr i } ms ts dl lh lw (lf.set 0 x) rows := by
 have ht := tk_ok hok 0
 have e1 : num false (tk ts 0).fr <= x /\ x <= num true (tk ts 0).fr /\ 0 <= num false (tk ts 0).fr := by
  have a1 : num false (tk ts 0).fr = (tk ts 0).fr.lo := rfl
  have a2 : num true (tk ts 0).fr = (tk ts 0).fr.hi := rfl
  rw [a1, a2]
  omega
 refine ⟨⟨h.is.ho, h.is.wa, ?_, h.is.m, h.is.af, h.is.sh, h.is.rn, h.is.rl⟩, ⟨h.lo.nd, h.lo.ho, h.lo.wa, fun i => ?_, h.lo.m, h.lo.af, h.lo.aok, h.lo.sh, h.lo.wk⟩, ⟨h.hi.nd, h.hi.ho, h.hi.wa, fun i => ?_, h.hi.m, h.hi.af, h.hi.aok, h.hi.sh, h.hi.wk⟩, ⟨h.ok.ho, h.ok.wa, fun i => ?_, h.ok.nd⟩⟩
 ·
  rw [h.is.fr]
  refine List.ext_getElem? fun i => ?_
  by_cases e : i = 0
  ·
   subst e
   by_cases h0 : 0 < ts.length
   ·
    rw [List.getElem?_set_self (by simpa using h0)]
    simp [h0]
   have h9 : ts.length = 0 := by omega
   rw [h9]; rfl
  rw [List.getElem?_set_ne (fun h => e h.symm)]
  by_cases hi : i < ts.length
  · simp [hi, e]
  have hl : (List.range ts.length).length <= i := by simpa using hi
  rw [List.getElem?_map, List.getElem?_map, List.getElem?_eq_none hl]; rfl
 ·
  show 0 <= num false (tk ts i).fr /\ num false (tk ts i).fr <= if i = 0 then x else c.fr i
  by_cases e : i = 0
  · rw [if_pos e, e]; omega
  · rw [if_neg e]; exact h.lo.fr i
 ·
  show 0 <= (if i = 0 then x else c.fr i) /\ (if i = 0 then x else c.fr i) <= num true (tk ts i).fr
  by_cases e : i = 0
  · rw [if_pos e, e]; omega
  · rw [if_neg e]; exact h.hi.fr i
 show 0 <= (if i = 0 then x else c.fr i) /\ (if i = 0 then x else c.fr i) <= 4000
 by_cases e : i = 0
 · rw [if_pos e]; omega
 · rw [if_neg e]; exact h.ok.fr i
structure Sha where
 fr : Int
 pt : Int
def shaEnc (x : Sha) : List Value := [.int .i64 x.fr, .int .i64 x.pt]
structure Pla where
 st : Sp
 sh : List Sha
 cr : List Sha
 near : Int
 edge : Int
 grav : Int
 low : Int
 high : Int
 shore : Int
 wider : Int
def lstV (l : List Sha) (n : Int) (f : Sha) : Sha := l.foldl (fun f x => if x.fr <= n then x else f) f
def prtV (l : List Sha) (n : Int) : Int := (lstV l n (l.headD ⟨0, 0⟩)).pt
structure TabOk (l : List Sha) : Prop where
 n : 0 < l.length /\ l.length <= 20
 z : ∀ q, l[0]? = some q -> q.fr = 0 /\ q.pt = 1000000
 up : ∀ i a b, l[i]? = some a -> l[i + 1]? = some b -> a.fr < b.fr
 dw : ∀ i a b, l[i]? = some a -> l[i + 1]? = some b -> b.pt <= a.pt
 pt : ∀ q ∈ l, 0 <= q.pt /\ q.pt <= 1000000
 far : ∀ q ∈ l, 0 <= q.fr /\ q.fr <= 10000
theorem lstV_mem (n : Int) : ∀ (l : List Sha) (f : Sha), lstV l n f = f ∨ lstV l n f ∈ l
 | [], f => .inl rfl
 | x :: l, f => by
  have e : lstV (x :: l) n f = lstV l n (if x.fr <= n then x else f) := rfl
  rw [e]
  rcases lstV_mem n l (if x.fr <= n then x else f) with h | h
  ·
   rw [h]
   split
   · exact .inr (.head _)
   · exact .inl rfl
  · exact .inr (.tail _ h)
theorem prt_bd {l : List Sha} (h : TabOk l) (n : Int) : 0 <= prtV l n /\ prtV l n <= 1000000 := by
 have h0 := h.n.1
 rcases l with _ | ⟨q, r⟩
 · cases h0
 have hm : lstV (q :: r) n q ∈ q :: r := by
  rcases lstV_mem n (q :: r) q with e | e
  · rw [e]; exact .head _
  · exact e
 exact h.pt _ hm
def alnV (p : Pla) (h m : Int) : Int := p.st.lo * h * h * prtV p.cr m / 1000000000000
structure PlaOk (p : Pla) : Prop where
 st : 1 <= p.st.lo /\ p.st.lo <= p.st.hi /\ p.st.hi <= 100000
 sh : TabOk p.sh
 cr : TabOk p.cr
 near : 0 <= p.near /\ p.near <= 10000
 edge : 0 <= p.edge /\ p.edge <= 1000000
 grav : 1 <= p.grav /\ p.grav <= 1000
 low : 1 <= p.low /\ p.low <= p.high /\ p.high <= 4000000
 shore : 0 <= p.shore /\ p.shore <= 10000
 wider : 0 <= p.wider /\ p.wider <= 1000000
theorem aln_bd {p : Pla} (hp : PlaOk p) {h m : Int} (h1 : 0 <= h /\ h <= 5000) : (0 <= p.st.lo * h /\ p.st.lo * h <= 500000000) /\ (0 <= p.st.lo * h * h /\ p.st.lo * h * h <= 2500000000000) /\ (0 <= p.st.lo * h * h * prtV p.cr m /\ p.st.lo * h * h * prtV p.cr m <= 2500000000000000000) := by
 have hc := prt_bd hp.cr m
 have hs := hp.st
 have a1 : 0 <= p.st.lo * h := Int.mul_nonneg (by omega) h1.1
 have a2 : p.st.lo * h <= 100000 * 5000 := Int.mul_le_mul (by omega) h1.2 h1.1 (by decide)
 have b1 : 0 <= p.st.lo * h * h := Int.mul_nonneg a1 h1.1
 have b2 : p.st.lo * h * h <= (100000 * 5000) * 5000 := Int.mul_le_mul a2 h1.2 h1.1 (by decide)
 have c1 : 0 <= p.st.lo * h * h * prtV p.cr m := Int.mul_nonneg b1 hc.1
 have c2 : p.st.lo * h * h * prtV p.cr m <= ((100000 * 5000) * 5000) * 1000000 := Int.mul_le_mul b2 hc.2 hc.1 (by decide)
 exact ⟨⟨a1, by omega⟩, ⟨b1, by omega⟩, c1, by omega⟩
end Go.Proofs.YtdgplekokdeafaaGreat
