/- bear: plates, tables, what ice bears alone (plain). -/
import Derived.Test.YtlefmbjipdlcfaaMKB
set_option linter.unusedVariables false
set_option linter.unusedSimpArgs false
set_option linter.unnecessarySimpa false
namespace Go.Proofs.Ytlefmbjipdlcfaa
open Go.RowKit
set_option maxRecDepth 100000
structure Sha where
 fr : Int
 pt : Int
def shaEnc (x : Sha) : List Value := [.int .i64 x.fr, .int .i64 x.pt]
structure Pla where
 st : Sp
 sh : List Sha
 cr : List Sha
 near : Int
 edge : Int
 grav : Int
 low : Int
 high : Int
 shore : Int
 wider : Int
def lstV (l : List Sha) (n : Int) (f : Sha) : Sha := l.foldl (fun f x => if x.fr <= n then x else f) f
def prtV (l : List Sha) (n : Int) : Int := (lstV l n (l.headD ⟨0, 0⟩)).pt
structure TabOk (l : List Sha) : Prop where
 n : 0 < l.length /\ l.length <= 20
 z : ∀ q, l[0]? = some q -> q.fr = 0 /\ q.pt = 1000000
 up : ∀ i a b, l[i]? = some a -> l[i + 1]? = some b -> a.fr < b.fr
 dw : ∀ i a b, l[i]? = some a -> l[i + 1]? = some b -> b.pt <= a.pt
 pt : ∀ q ∈ l, 0 <= q.pt /\ q.pt <= 1000000
 far : ∀ q ∈ l, 0 <= q.fr /\ q.fr <= 10000
theorem lstV_mem (n : Int) : ∀ (l : List Sha) (f : Sha), lstV l n f = f ∨ lstV l n f ∈ l
 | [], f => .inl rfl
 | x :: l, f => by
  have e : lstV (x :: l) n f = lstV l n (if x.fr <= n then x else f) := rfl
  rw [e]
  rcases lstV_mem n l (if x.fr <= n then x else f) with h | h
  ·
   rw [h]
   split
   · exact .inr (.head _)
   · exact .inl rfl
  · exact .inr (.tail _ h)
theorem prt_bd {l : List Sha} (h : TabOk l) (n : Int) : 0 <= prtV l n /\ prtV l n <= 1000000 := by
 have h0 := h.n.1
 rcases l with _ | ⟨q, r⟩
 · cases h0
 have hm : lstV (q :: r) n q ∈ q :: r := by
  rcases lstV_mem n (q :: r) q with e | e
  · rw [e]; exact .head _
  · exact e
 exact h.pt _ hm
def alnV (p : Pla) (h m : Int) : Int := p.st.lo * h * h * prtV p.cr m / 1000000000000
structure PlaOk (p : Pla) : Prop where
 st : 1 <= p.st.lo /\ p.st.lo <= p.st.hi /\ p.st.hi <= 100000
 sh : TabOk p.sh
 cr : TabOk p.cr
 near : 0 <= p.near /\ p.near <= 10000
 edge : 0 <= p.edge /\ p.edge <= 1000000
 grav : 1 <= p.grav /\ p.grav <= 1000
 low : 1 <= p.low /\ p.low <= p.high /\ p.high <= 4000000
 shore : 0 <= p.shore /\ p.shore <= 10000
 wider : 0 <= p.wider /\ p.wider <= 1000000
theorem aln_bd {p : Pla} (hp : PlaOk p) {h m : Int} (h1 : 0 <= h /\ h <= 5000) : (0 <= p.st.lo * h /\ p.st.lo * h <= 500000000) /\ (0 <= p.st.lo * h * h /\ p.st.lo * h * h <= 2500000000000) /\ (0 <= p.st.lo * h * h * prtV p.cr m /\ p.st.lo * h * h * prtV p.cr m <= 2500000000000000000) := by
 have hc := prt_bd hp.cr m
 have hs := hp.st
 have a1 : 0 <= p.st.lo * h := Int.mul_nonneg (by omega) h1.1
 have a2 : p.st.lo * h <= 100000 * 5000 := Int.mul_le_mul (by omega) h1.2 h1.1 (by decide)
 have b1 : 0 <= p.st.lo * h * h := Int.mul_nonneg a1 h1.1
 have b2 : p.st.lo * h * h <= (100000 * 5000) * 5000 := Int.mul_le_mul a2 h1.2 h1.1 (by decide)
 have c1 : 0 <= p.st.lo * h * h * prtV p.cr m := Int.mul_nonneg b1 hc.1
 have c2 : p.st.lo * h * h * prtV p.cr m <= ((100000 * 5000) * 5000) * 1000000 := Int.mul_le_mul b2 hc.2 hc.1 (by decide)
 exact ⟨⟨a1, by omega⟩, ⟨b1, by omega⟩, c1, by omega⟩
end Go.Proofs.Ytlefmbjipdlcfaa
