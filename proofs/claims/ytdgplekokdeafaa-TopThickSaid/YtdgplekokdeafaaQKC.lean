/- Operations of a drawn region that are passed over, as their guard says. -/
import Derived.Test.YtdgplekokdeafaaQK1
set_option linter.unusedVariables false
set_option linter.unusedSimpArgs false
set_option linter.unnecessarySimpa false
namespace Go.Proofs.Ytdgplekokdeafaa
open Go.RowKit
section
variable {P : Program} {ops : Array Oper} {Q : Exit -> Act -> World -> Prop} {md : Region.Mode} {S : World -> Prop} {d : Nat}
theorem ru_ps (i : Nat) {oi : Oper} {fuel : Nat} {listed : Array Bool} {a : Act} {w : World}
  (h : wpAnyU P md ops Q S d fuel (listed.setIfInBounds i true) (a.put oi.dst undef) w) (hi : ops[i]? = some oi := by rfl)
  (hc : (Region.noSelect ops && Region.free md ops listed i && (Region.ready md ops listed).contains i && decide (i ≠ d) && closedB md ops listed) = true := by kernel_rfl)
  (hQ : ∀ c a w, Q (.panic c) (a.put oi.dst undef) w -> Q (.panic c) a w := by exact fun _ _ _ h => h) (hS : listed.getD d true = false -> S w := by exact fun hd_ => by first | assumption | (exact absurd hd_ (by decide)))
  (hw : Region.wanted oi (yielded ops a.tmps) = false := by first | kernel_rfl | rfl) : wpAnyU P md ops Q S d (fuel + 1) listed a w :=
 ru_pure i hi hc hQ hS (.inr ⟨hw, rfl⟩) h
end
section
variable {α : Type} {P : Program} {t e : TypeId} {sz bytes : Nat} {enc : α -> List Value}
theorem wpList_copyB (ok : ElemOk P t e sz bytes enc) {ops : Array Oper} {rest : List Oper} {o : Oper} {a : Act} {Q : Exit -> Act -> World -> Prop} {w0 w : World} {L : List Res} (hgd : o.guard = none) (s x : Operand)
  (ho : o.op = .call { callee := .builtin .append, args := #[s, x], argTypes := #[t, t] }) (base g : Nat) (hs : a.eval s = .slice (some ⟨g, 0, none⟩) 0 0) (hB : Bun w0 (rbox g e #[] :: L) w) (hb : base <= g)
  (lo hi : Nat) (v : Value) (l : List α) (hx : a.eval x = v) (hl : Sl enc sz lo hi w v l) (hbig : l.length <= 100000000000)
  (h : ∀ v' w', Bun w0 (rown enc e sz base v' l :: L) w' -> w.heap.size <= w'.heap.size -> wpList P ops Q rest (a.put o.dst v') w') : wpList P ops Q (o :: rest) a w := by
 have hg : Bk w g e #[] := hB.at 0 rfl
 refine wpList_plain hgd fun K hK => ?_
 obtain ⟨v', w', hr, h2, h3⟩ := run_copy w ok o.type base g hg lo hi v l hl hbig hb
 have hk := copy_block (base := base) ok o.type hg lo hi v hl hbig hb hr
 unfold Oper.wp execOp
 simp only [ho, resolve, invoke, builtin, Sem.run_bind, Sem.run_pure, Result.andThen_ok, List.map_toArray, List.map_cons, List.map_nil, hs, hx, hr]
 refine hK _ _ (h v' w' (hB.wr rfl h3 (fun k e => by injection e with e; exact e.symm) h2 fun k e => ⟨?_, (h2.lt k e).2⟩) h3.size)
 rcases hk k e with h4 | h4
 · exact .inl h4
 · exact .inr h4
theorem Own.opn {base : Nat} {w : World} {v : Value} {l : List α} (h : Own enc e sz base w v l) (h0 : 0 < l.length) : ∃ g cap, v = .slice (some ⟨g, 0, none⟩) l.length cap := by
 obtain ⟨h1, h2⟩ := h
 rcases h2 with ⟨rfl, hn⟩ | ⟨g, cap, cur, rfl, _⟩
 · omega
 · exact ⟨g, cap, rfl⟩
theorem Own.slG {base : Nat} {w : World} {g n cap : Nat} {l : List α} (h : Own enc e sz base w (.slice (some ⟨g, 0, none⟩) n cap) l) (hsz : ∀ x, (enc x).length = sz) : Sl enc sz g (g + 1) w (.slice (some ⟨g, 0, none⟩) n cap) l := by
 obtain ⟨h1, a, c, h2, h3⟩ := h.sl hsz
 refine ⟨h1, a, c, h2, ?_⟩
 rcases h3 with h3 | ⟨b, off, h4, h5, h6, h7⟩
 · exact .inl h3
 refine .inr ⟨b, off, h4, ?_, ?_, h7⟩
 · rw [h4] at h2; injection h2 with h2; injection h2 with h2; injection h2 with h2; omega
 · rw [h4] at h2; injection h2 with h2; injection h2 with h2; injection h2 with h2; omega
end
section
variable {P : Program} {ops : Array Oper} {Q : Exit -> Act -> World -> Prop} {md : Region.Mode} {S : World -> Prop} {d : Nat}
end
section
variable {P : Program} {ops : Array Oper} {Q : Exit -> Act -> World -> Prop} {md : Region.Mode} {S : World -> Prop} {d : Nat}
end
end Go.Proofs.Ytdgplekokdeafaa
