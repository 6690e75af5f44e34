/- Operations of a drawn region that are passed over, as their guard says. -/
import Derived.Test.YtcoldeolmleeiaaGreatKK1
set_option linter.unusedVariables false
set_option linter.unusedSimpArgs false
set_option linter.unnecessarySimpa false
namespace Go.Proofs.YtcoldeolmleeiaaGreat
open Go.RowKit
section
variable {P : Program} {ops : Array Oper} {Q : Exit -> Act -> World -> Prop} {md : Region.Mode} {S : World -> Prop} {d : Nat}
theorem ru_ts (i : Nat) (path : List Nat) {oi : Oper} {fuel : Nat} {listed : Array Bool} {a : Act} {w : World}
  (h : wpAnyU P md ops Q S d fuel (listed.setIfInBounds i true) (a.put oi.dst undef) w) (hi : ops[i]? = some oi := by rfl)
  (hc : (Region.noSelect ops && Region.free md ops listed i && (Region.ready md ops listed).contains i && pathB md ops d path i && decide (i ≠ d) && !listed.getD d true && closedB md ops listed) = true := by kernel_rfl)
  (hQ : ∀ c a w, Q (.panic c) (a.put oi.dst undef) w -> Q (.panic c) a w := by exact fun _ _ _ h => h) (hS : S w := by assumption)
  (hw : Region.wanted oi (yielded ops a.tmps) = false := by first | kernel_rfl | rfl) : wpAnyU P md ops Q S d (fuel + 1) listed a w :=
 ru_take i path hi hc hQ hS (.inr ⟨hw, rfl⟩) h
theorem ru_ps (i : Nat) {oi : Oper} {fuel : Nat} {listed : Array Bool} {a : Act} {w : World}
  (h : wpAnyU P md ops Q S d fuel (listed.setIfInBounds i true) (a.put oi.dst undef) w) (hi : ops[i]? = some oi := by rfl)
  (hc : (Region.noSelect ops && Region.free md ops listed i && (Region.ready md ops listed).contains i && decide (i ≠ d) && closedB md ops listed) = true := by kernel_rfl)
  (hQ : ∀ c a w, Q (.panic c) (a.put oi.dst undef) w -> Q (.panic c) a w := by exact fun _ _ _ h => h) (hS : listed.getD d true = false -> S w := by exact fun hd_ => by first | assumption | (exact absurd hd_ (by decide)))
  (hw : Region.wanted oi (yielded ops a.tmps) = false := by first | kernel_rfl | rfl) : wpAnyU P md ops Q S d (fuel + 1) listed a w :=
 ru_pure i hi hc hQ hS (.inr ⟨hw, rfl⟩) h
end
section
variable {α : Type} {P : Program} {t e : TypeId} {sz bytes : Nat} {enc : α -> List Value}
theorem wpList_copyB (ok : ElemOk P t e sz bytes enc) {ops : Array Oper} {rest : List Oper} {o : Oper} {a : Act} {Q : Exit -> Act -> World -> Prop} {w0 w : World} {L : List Res} (hgd : o.guard = none) (s x : Operand)
  (ho : o.op = .call { callee := .builtin .append, args := #[s, x], argTypes := #[t, t] }) (base g : Nat) (hs : a.eval s = .slice (some ⟨g, 0, none⟩) 0 0) (hB : Bun w0 (rbox g e #[] :: L) w) (hb : base <= g)
  (lo hi : Nat) (v : Value) (l : List α) (hx : a.eval x = v) (hl : Sl enc sz lo hi w v l) (hbig : l.length <= 100000000000)
  (h : ∀ v' w', Bun w0 (rown enc e sz base v' l :: L) w' -> w.heap.size <= w'.heap.size -> wpList P ops Q rest (a.put o.dst v') w') : wpList P ops Q (o :: rest) a w := by
 have hg : Bk w g e #[] := hB.at 0 rfl
 refine wpList_plain hgd fun K hK => ?_
 obtain ⟨v', w', hr, h2, h3⟩ := run_copy w ok o.type base g hg lo hi v l hl hbig hb
 have hk := copy_block (base := base) ok o.type hg lo hi v hl hbig hb hr
 unfold Oper.wp execOp
 simp only [ho, resolve, invoke, builtin, Sem.run_bind, Sem.run_pure, Result.andThen_ok, List.map_toArray, List.map_cons, List.map_nil, hs, hx, hr]
 refine hK _ _ (h v' w' (hB.wr rfl h3 (fun k e => by injection e with e; exact e.symm) h2 fun k e => ⟨?_, (h2.lt k e).2⟩) h3.size)
 rcases hk k e with h4 | h4
 · exact .inl h4
 · exact .inr h4
theorem Own.opn {base : Nat} {w : World} {v : Value} {l : List α} (h : Own enc e sz base w v l) (h0 : 0 < l.length) : ∃ g cap, v = .slice (some ⟨g, 0, none⟩) l.length cap := by
 obtain ⟨h1, h2⟩ := h
 rcases h2 with ⟨rfl, hn⟩ | ⟨g, cap, cur, rfl, _⟩
 · omega
 · exact ⟨g, cap, rfl⟩
theorem Own.slG {base : Nat} {w : World} {g n cap : Nat} {l : List α} (h : Own enc e sz base w (.slice (some ⟨g, 0, none⟩) n cap) l) (hsz : ∀ x, (enc x).length = sz) : Sl enc sz g (g + 1) w (.slice (some ⟨g, 0, none⟩) n cap) l := by
 obtain ⟨h1, a, c, h2, h3⟩ := h.sl hsz
 refine ⟨h1, a, c, h2, ?_⟩
 rcases h3 with h3 | ⟨b, off, h4, h5, h6, h7⟩
 · exact .inl h3
 refine .inr ⟨b, off, h4, ?_, ?_, h7⟩
 · rw [h4] at h2; injection h2 with h2; injection h2 with h2; injection h2 with h2; omega
 · rw [h4] at h2; injection h2 with h2; injection h2 with h2; injection h2 with h2; omega
end
def sameB (xs ys : List Int) : Bool := decide (xs = ys)
theorem sameB_no {xs ys : List Int} (h : xs ≠ ys) : sameB xs ys = false := by simp [sameB, h]
theorem sameB_self (xs : List Int) : sameB xs xs = true := by simp [sameB]
theorem eq_of_getElem {α : Type} {xs ys : List α} (hl : xs.length = ys.length) (h : ∀ i (h1 : i < xs.length), xs[i] = ys[i]'(hl ▸ h1)) : xs = ys :=
 List.ext_getElem hl fun i h1 _ => h i h1
set_option maxHeartbeats 400000 in
theorem same_c (lo hi lo' hi' : Nat) (v v' : Value) (xs ys : List Int) (w : World) (hx : Ints lo hi w v xs) (hy : Ints lo' hi' w v' ys) :
  Calls Tryz.prog 11 #[v, v'] w fun e w' => e = .returned (.bool (sameB xs ys)) /\ w.grownBy w' none := by
 have hm := hx.len
 have hm' := hy.len
 unfold maxLen at hm hm'
 by_cases hl : xs.length = ys.length
 ·
  rcases Nat.eq_zero_or_pos xs.length with h0 | h0
  ·
   obtain ⟨a, c, rfl, rfl⟩ := hx.nil_ h0
   obtain ⟨a', c', rfl, rfl⟩ := hy.nil_ (by omega)
   clear hl h0
   go_enter Tryz.func11, Tryz.ntmps11
   go_wp2
   refine wp_loop_rounds 1 ?_
   rw [rounds_succ]
   go_wp2
   go_ret
   exact ⟨rfl, gb_refl _ _⟩
  obtain ⟨b, off, c, rfl, _, _, h3⟩ := Ints.form' hx h0
  obtain ⟨b', off', c', rfl, _, _, h3'⟩ := Ints.form' hy (by omega)
  have H3 := lhd h3
  have H3' := lhd h3'
  have Hl := lhd hl
  have hle : xs.length <= ys.length /\ ys.length <= xs.length := by omega
  have hne : ((xs.length : Int) != (ys.length : Int)) = false := by simp [hl]
  clear h3 h3' hx hy hl
  go_enter Tryz.func11, Tryz.ntmps11
  go_wp2
  go_loopw [5] (fun i wr => ∃ k : Nat, k <= xs.length /\ i = .int .i64 k /\ (∀ j (h1 : j < k) (h2 : j < xs.length) (h3 : j < ys.length), xs[j] = ys[j]) /\ w.grownBy wr none) (fun i _ => xs.length - (intOf i).toNat)
  case atStart => exact ⟨0, Nat.zero_le _, rfl, fun j h1 => absurd h1 (by omega), gb_refl _ _⟩
  case round =>
   obtain ⟨k, hk, rfl, hj, hg⟩ := hrel
   have HJ := lhd hj
   clear hj
   by_cases hlt : k < xs.length
   ·
    have hlt' : k < ys.length := by omega
    have hc1 : wr.cell? ⟨b, off + k, none⟩ = some (.int .i64 xs[k]) := gbc hg (by simp) (H3.out k hlt)
    have hc2 : wr.cell? ⟨b', off' + k, none⟩ = some (.int .i64 ys[k]) := gbc hg (by simp) (H3'.out k hlt')
    by_cases he : xs[k] = ys[k]
    ·
     have hb : (xs[k] != ys[k]) = false := by simp [he]
     have He := lhd he
     clear he
     go_wp2_with fail
     go_quiet (fail)
     clear hb hc1 hc2
     go_wp2_with fail
     go_roundw
     case rel =>
      have hrel' : ∃ k' : Nat, k' <= xs.length /\ Value.int .i64 ((k : Int) + 1) = .int .i64 k' /\ (∀ j (h1 : j < k') (h2 : j < xs.length) (h3 : j < ys.length), xs[j] = ys[j]) /\ w.grownBy (wr.drewN nq) none :=
       ⟨k + 1, by omega, by go_num, fun j h1 h2 h3 => by
        rcases Nat.lt_succ_iff_lt_or_eq.1 h1 with h | rfl
        · exact HJ.out j h h2 h3
        · exact He.out, gb_drewN hg _⟩
      first | exact hrel' | ((repeat apply Exists.intro); exact ⟨hrel', rfl⟩)
     case measure => simp [intOf]; omega
    have hb : (xs[k] != ys[k]) = true := by simp [he]
    have hxy : xs ≠ ys := fun e => he (by simp [e])
    have hxf : sameB xs ys = false := sameB_no hxy
    have Hx := lhd hxf
    clear he hxy hxf
    go_wp2_with fail
    go_quiet (fail)
    go_wp2_with fail
    go_ret
    exact ⟨by rw [Hx.out]; rfl, gb_drewN hg _⟩
   have hxy : xs = ys := eq_of_getElem Hl.out fun j h1 => HJ.out j (by omega) h1 (by omega)
   have Hx := lhd hxy
   clear hxy
   go_wp2_with fail
   go_ret
   exact ⟨by rw [Hx.out, sameB_self]; rfl, hg⟩
 obtain ⟨a, c, rfl⟩ := hx.any
 obtain ⟨a', c', rfl⟩ := hy.any
 have hxf : sameB xs ys = false := sameB_no (fun e => hl (by rw [e]))
 have Hne := lhd hxf
 clear hxf
 have hb : ((xs.length : Int) != (ys.length : Int)) = true := by simp; omega
 go_enter Tryz.func11, Tryz.ntmps11
 go_wp2
 go_ret
 exact ⟨by rw [Hne.out]; rfl, gb_refl _ _⟩
section
variable {P : Program} {ops : Array Oper} {Q : Exit -> Act -> World -> Prop} {md : Region.Mode} {S : World -> Prop} {d : Nat}
end
section
variable {P : Program} {ops : Array Oper} {Q : Exit -> Act -> World -> Prop} {md : Region.Mode} {S : World -> Prop} {d : Nat}
theorem ru_state (n : Nat) (I : (Nat -> Value) -> World -> Prop) (listed' : Array Bool) (fuel' : Nat) {fuel : Nat} {listed : Array Bool} {a : Act} {w : World}
  (h : ∀ t w', I t w' -> wpAnyU P md ops Q S d fuel' listed' { tmps := ((List.range n).map t).toArray, defers := [] } w')
  (k : Hid (∀ (l : Array Bool) (a' : Act) (w' : World), l = listed' -> a'.tmps.size = n -> a'.defers = [] -> I (slot a'.tmps) w' -> wpAnyU P md ops Q S d fuel' l a' w') -> wpAnyU P md ops Q S d fuel listed a w) : wpAnyU P md ops Q S d fuel listed a w :=
 k (lhd fun l a' w' h0 h1 h2 h3 => by
  subst h0
  obtain ⟨T, ds⟩ := a'
  simp only at h1 h2
  subst h2
  have e : T = ((List.range n).map (slot T)).toArray := by
   refine Array.ext (by simp [h1]) fun i h1 h2 => ?_
   simp [slot, h1]
  have hr := h (slot T) w' h3
  rw [← e] at hr
  exact hr)
end
end Go.Proofs.YtcoldeolmleeiaaGreat
