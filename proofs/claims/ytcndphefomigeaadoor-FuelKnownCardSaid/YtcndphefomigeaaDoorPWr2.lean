/- fuel: books as texts. -/
import Derived.Test.YtcndphefomigeaaDoorPG7
import Derived.Test.YtcndphefomigeaaDoorPAwake
import Derived.Test.YtcndphefomigeaaDoorPCheck
set_option linter.unusedVariables false
set_option linter.unusedSimpArgs false
set_option linter.unnecessarySimpa false
namespace Go.Proofs.YtcndphefomigeaaDoor
open Go.RowKit Go.Shelf
set_option maxRecDepth 100000
attribute [local go_sem] Oper.semAt_some

theorem stopAt {P : Program} {ops : Array Oper} {o : Oper} {rest : List Oper} {Q : Exit → Act → World → Prop} {a : Act} {w : World} (d : Nat) (_ : o.dst = some d) (x : Hid (wpList P ops Q (o :: rest) a w)) : wpList P ops Q (o :: rest) a w := x.out
/-- A package's variable that start-up code has laid, and that nobody writes. -/
def Gv (hi : Nat) (w : World) (g : Nat) (cs : Array Value) : Prop := (g < hi ∧ hi ≤ w.heap.size) ∧ ∃ t fz, w.heap[g]? = some (.cells cs t fz)
theorem Gv.cell {hi g : Nat} {w : World} {cs : Array Value} {v : Value} (h : Gv hi w g cs) (k : Nat) (hv : cs[k]? = some v := by rfl) : w.cell? ⟨g, k, none⟩ = some v := by
  obtain ⟨_, t, fz, hh⟩ := h
  rw [Lib.cell_of_heap hh]
  exact hv
def rgv (hi g : Nat) (cs : Array Value) : Res := ⟨false, fun x => x < hi, fun w => Gv hi w g cs, fun A C r hg hr h => by
  obtain ⟨⟨h1, h2⟩, t, fz, hh⟩ := h
  exact ⟨⟨h1, Nat.le_trans h2 hg.size⟩, t, fz, (hg.block g (by omega) fun e => hr g e.symm h1).trans hh⟩⟩
theorem other_gv {e : TypeId} {B hi g : Nat} {cs : Array Value} (h : hi ≤ B) : Other e B (rgv hi g cs) where
  keep A C b hb _ _ hp := by
    obtain ⟨⟨h1, h2⟩, t, fz, hh⟩ := hp
    exact ⟨⟨h1, Nat.le_trans h2 hb.size⟩, t, fz, (hb.block g (by omega)).trans hh⟩
  apart _ g _ hx := .inl (by have : g < hi := hx; omega)
theorem Bun.gv0 {w0 : World} {L : List Res} {g : Nat} {cs : Array Value} (h : Bun w0 L w0) (hv : Gv w0.heap.size w0 g cs) (hm : L.all (fun r => !r.mine) = true) : Bun w0 (rgv w0.heap.size g cs :: L) w0 :=
  h.non0 (rgv w0.heap.size g cs) hv (fun _ h_ => h_) rfl hm
def kndL (k : Int) : List UInt8 := if k = 1 then [116, 97, 110, 107] else [103, 114, 111, 117, 110, 100]
def headT (a : Acc) : List UInt8 := [97, 99, 99, 111, 117, 110, 116, 32] ++ a.name.data.toList ++ [32] ++ kndL a.kind
def accT (a : Acc) : List UInt8 := headT a ++ numT a.op.lo ++ numT a.op.hi ++ numT a.cl.lo ++ numT a.cl.hi ++ [10]
def mvT (m : Mv) : List UInt8 := [109, 111, 118, 101] ++ numT m.fr ++ numT m.to ++ numT m.li.lo ++ numT m.li.hi ++ [10]
def accsT (l : List Acc) : List UInt8 := l.flatMap accT
def mvsT (l : List Mv) : List UInt8 := l.flatMap mvT
theorem name_len {a : Acc} (h : AccOk a) : a.name.data.toList.length ≤ 8 ∧ a.name.size ≤ 8 := by
  have h1 := h.named
  unfold namedB inB at h1
  rw [Bool.and_eq_true, decide_eq_true_eq] at h1
  have e : a.name.data.toList.length = a.name.size := by rw [Array.length_toList]; rfl
  omega
theorem head1 {a : Acc} (h : a.kind = 1) : (ByteArray.mk #[97, 99, 99, 111, 117, 110, 116, 32] ++ a.name ++ ⟨#[32]⟩ ++ ⟨#[116, 97, 110, 107]⟩).data.toList = headT a := by simp [headT, kndL, h]
theorem head2 {a : Acc} (h : a.kind = 2) : (ByteArray.mk #[97, 99, 99, 111, 117, 110, 116, 32] ++ a.name ++ ⟨#[32]⟩ ++ ⟨#[103, 114, 111, 117, 110, 100]⟩).data.toList = headT a := by simp [headT, kndL, h]
theorem headT_len {a : Acc} (h : AccOk a) : (headT a).length ≤ 30 := by
  have h1 := name_len h
  unfold headT kndL
  simp only [List.length_append, List.length_cons, List.length_nil]
  split <;> simp only [List.length_cons, List.length_nil] <;> omega
theorem accT_len {a : Acc} (h : AccOk a) : (accT a).length ≤ 200 := by
  have h1 := headT_len h
  have h2 := h.op
  have h3 := h.cl
  have a1 := numT_len (n := a.op.lo) (by omega)
  have a2 := numT_len (n := a.op.hi) (by omega)
  have a3 := numT_len (n := a.cl.lo) (by omega)
  have a4 := numT_len (n := a.cl.hi) (by omega)
  unfold accT
  simp only [List.length_append, List.length_cons, List.length_nil]
  omega
theorem mvT_len {n : Nat} {m : Mv} (h : MvOk n m) (hn : n ≤ 8) : (mvT m).length ≤ 200 := by
  have h1 := h.fr
  have h2 := h.to
  have h3 := h.li
  have a1 := numT_len (n := m.fr) (by omega)
  have a2 := numT_len (n := m.to) (by omega)
  have a3 := numT_len (n := m.li.lo) (by omega)
  have a4 := numT_len (n := m.li.hi) (by omega)
  unfold mvT
  simp only [List.length_append, List.length_cons, List.length_nil]
  omega
theorem flatB_len {α : Type} {f : α → List UInt8} : ∀ {l : List α}, (∀ x ∈ l, (f x).length ≤ 200) → (l.flatMap f).length ≤ 200 * l.length
  | [], _ => by simp
  | x :: l, h => by
    have h1 := h x (.head _)
    have h2 := flatB_len fun y hy => h y (.tail _ hy)
    simp only [List.flatMap_cons, List.length_append, List.length_cons]
    omega
theorem flat_take {α : Type} {f : α → List UInt8} {l : List α} {i : Nat} {x : α} (h : l[i]? = some x) : (l.take (i + 1)).flatMap f = (l.take i).flatMap f ++ f x := by
  rw [List.take_add_one, h]
  simp
structure TxtOk (b : Bok) : Prop where
  ok : BokOk b
  acc : ∀ a ∈ b.accs, AccOk a
  mv : ∀ m ∈ b.mvs, MvOk b.accs.length m
  la : ∀ i, (accsT (b.accs.take i)).length ≤ 1600
  lm : ∀ i, (mvsT (b.mvs.take i)).length ≤ 6200
theorem txtOk {b : Bok} (h : BokOk b) : TxtOk b := by
  have ha : ∀ a ∈ b.accs, AccOk a := fun a hm => by
    obtain ⟨i, hi, e⟩ := List.getElem_of_mem hm
    have h1 := h.acc i hi
    unfold ga at h1
    rw [List.getD_eq_getElem?_getD, List.getElem?_eq_getElem hi] at h1
    rw [← e]
    exact h1
  have hm : ∀ m ∈ b.mvs, MvOk b.accs.length m := fun m hm => by
    obtain ⟨i, hi, e⟩ := List.getElem_of_mem hm
    have h1 := h.mv i hi
    unfold gm at h1
    rw [List.getD_eq_getElem?_getD, List.getElem?_eq_getElem hi] at h1
    rw [← e]
    exact h1
  have h8 := h.n8
  have h30 := h.m30
  refine ⟨h, ha, hm, fun i => ?_, fun i => ?_⟩
  · have h1 := flatB_len (f := accT) (l := b.accs.take i) fun x hx => accT_len (ha x (List.mem_of_mem_take hx))
    have h2 : (b.accs.take i).length ≤ b.accs.length := by rw [List.length_take]; omega
    unfold accsT
    omega
  · have h1 := flatB_len (f := mvT) (l := b.mvs.take i) fun x hx => mvT_len (hm x (List.mem_of_mem_take hx)) h8
    have h2 : (b.mvs.take i).length ≤ b.mvs.length := by rw [List.length_take]; omega
    unfold mvsT
    omega
noncomputable def wrB (b : Bok) : ByteArray := if checkE b = 0 then ⟨(accsT b.accs ++ mvsT b.mvs).toArray⟩ else ⟨#[]⟩
/-- The words of kinds. -/
def kndC : Array Value := #[.string ⟨#[]⟩, .string ⟨#[116, 97, 110, 107]⟩, .string ⟨#[103, 114, 111, 117, 110, 100]⟩]
set_option maxHeartbeats 16000000 in
theorem fwrite_c (lo hi : Nat) (va vm : Value) (b : Bok) (w : World) (hb : HasB lo hi w va vm b) (hn : nameOk b.accs) (h2 : hi ≤ w.heap.size) (ht : Lib.TabIs Tryd.prog w powName .u64 Lib.pow10Tab) (hg : ∀ g, Tryd.prog.globalNamed powName = some g → g < w.heap.size) (hk : Gv w.heap.size w 0 kndC) :
    Calls Tryd.prog 17 #[.agg #[va, vm]] w (Ret (.tuple #[.string (wrB b), .int .i64 (checkE b)]) w) := by
  have F1 : Bun w [] w := Bun.nil _
  have HTB := Lib.hid ht
  have HKN := Lib.hid hk
  have HN := Lib.hid hn
  clear ht hk hn
  obtain ⟨hba, hbm⟩ := hb
  obtain ⟨aA, cA, rfl⟩ := hba.any
  obtain ⟨aM, cM, rfl⟩ := hbm.any
  have hm_ac := hba.len
  have hm_mv := hbm.len
  unfold maxLen at hm_ac hm_mv
  have F2 := F1.sl0 hbm h2 rfl
  clear F1
  clear hbm
  have F3 := F2.sl0 hba h2 rfl
  clear F2
  clear hba
  have F4 := F3.gv0 HKN.out rfl
  clear F3
  have F5 := Bun.tab0 F4 HTB.out hg
  clear F4
  go_enter Tryd.func17, Tryd.ntmps17
  go_wp2_with fail
  have F6 := F5.new 38 #[.slice aA b.accs.length cA, .slice aM b.mvs.length cM] (n := w.heap.size) (by simp)
  clear F5
  refine (check_c lo hi lo hi _ _ b _ (F6.at 3 rfl : Sl accEnc 6 lo hi _ (.slice aA b.accs.length cA) b.accs) (F6.at 4 rfl : Sl mvEnc 4 lo hi _ (.slice aM b.mvs.length cM) b.mvs) HN.out (Nat.le_trans h2 F6.gb.size) (Nat.le_trans h2 F6.gb.size)).mono ?_
  rintro e w9 ⟨rfl, hg7⟩
  have hg7s := hg7.size
  (try simp at hg7s)
  have F10 := F6.gn hg7
  clear F6
  clear hg7
  by_cases c11 : checkE b = 0
  · skip
    have c11a : ((checkE b) == 0) = true := beq_t c11
    have c11b : ((checkE b) != 0) = false := bne_f c11
    have c11H := Lib.hid c11
    clear c11
    have HOK := Lib.hid (txtOk (check_bok c11H.out))
    have hn8 := HOK.out.ok.n8
    have hn30 := HOK.out.ok.m30
    go_wp2_with (with_reducible refine stopAt 16 rfl ?_)
    have F12 := F10.new 95 #[.pointer none, .slice none 0 0] (n := w9.heap.size) (by simp)
    clear F10
    refine Lib.hid ?_
    obtain ⟨w13, hx14, F16, hxs15⟩ := (show Bun w [rbox w9.heap.size 95 #[.pointer none, .slice none 0 0], rbox w.heap.size 38 #[.slice aA b.accs.length cA, .slice aM b.mvs.length cM], rtab Tryd.prog w.heap.size powName .u64 Lib.pow10Tab, rgv w.heap.size 0 kndC, rsl accEnc 6 lo hi (.slice aA b.accs.length cA) b.accs, rsl mvEnc 4 lo hi (.slice aM b.mvs.length cM) b.mvs] _ from F12).name
    (try simp at hxs15)
    rw [hx14]
    clear hx14 F12
    have F17 : Bun w [rbld 95 5 w.heap.size w9.heap.size (.pointer none) (.slice none 0 0) (Lib.byteCells []), rbox w.heap.size 38 #[.slice aA b.accs.length cA, .slice aM b.mvs.length cM], rtab Tryd.prog w.heap.size powName .u64 Lib.pow10Tab, rgv w.heap.size 0 kndC, rsl accEnc 6 lo hi (.slice aA b.accs.length cA) b.accs, rsl mvEnc 4 lo hi (.slice aM b.mvs.length cM) b.mvs] _ := Bun.bld0 (e := 5) F16
    clear F16
    have b18 := F17.bx2 1 rfl
    go_wp2_with fail
    clear b18
    obtain ⟨HI19_, HI190⟩ : ∃ I : (Nat → Value) → List Deferred → World → Prop, I = (fun t ds wr => ∃ (k : Nat) (pb vb : Value), t 1 = .pointer (some ⟨w.heap.size, 0, none⟩) ∧ t 5 = .pointer (some ⟨w9.heap.size, 0, none⟩) ∧ t 6 = .func (.func 42) #[] #[.pointer (some ⟨w9.heap.size, 0, none⟩)] ∧ t 18 = .slice aA b.accs.length cA ∧ t 19 = .int .i64 (b.accs.length : Int) ∧ t 20 = .int .i64 (k : Int) ∧ k ≤ b.accs.length ∧ Hid (pb = .pointer none ∨ pb = .pointer (some ⟨w9.heap.size, 0, none⟩)) ∧ ds = [] ∧ w13.heap.size ≤ wr.heap.size ∧ Bun w [rbld 95 5 w.heap.size w9.heap.size pb vb (Lib.byteCells ((b.accs.take k).flatMap accT)), rbox w.heap.size 38 #[.slice aA b.accs.length cA, .slice aM b.mvs.length cM], rtab Tryd.prog w.heap.size powName .u64 Lib.pow10Tab, rgv w.heap.size 0 kndC, rsl accEnc 6 lo hi (.slice aA b.accs.length cA) b.accs, rsl mvEnc 4 lo hi (.slice aM b.mvs.length cM) b.mvs] wr) := ⟨_, rfl⟩
    have HI19 := Lib.hid HI190
    clear HI190
    refine wp_loopS 71 rfl HI19_ (fun t wr => b.accs.length - (intOf (t 20)).toNat) ?atStart1 ?round1
    case round1 =>
      intro t ds wr hHid
      rw [HI19.out] at hHid
      obtain ⟨k, pb, vb, e1, e5, e6, e18, e19, e20, hrel⟩ := hHid
      have e : ((List.range 71).map t).toArray = #[t 0, t 1, t 2, t 3, t 4, t 5, t 6, t 7, t 8, t 9, t 10, t 11, t 12, t 13, t 14, t 15, t 16, t 17, t 18, t 19, t 20, t 21, t 22, t 23, t 24, t 25, t 26, t 27, t 28, t 29, t 30, t 31, t 32, t 33, t 34, t 35, t 36, t 37, t 38, t 39, t 40, t 41, t 42, t 43, t 44, t 45, t 46, t 47, t 48, t 49, t 50, t 51, t 52, t 53, t 54, t 55, t 56, t 57, t 58, t 59, t 60, t 61, t 62, t 63, t 64, t 65, t 66, t 67, t 68, t 69, t 70] := rfl
      (try dsimp only at e)
      rw [e1, e5, e6, e18, e19, e20] at e
      rw [e]
      simp only [e20]
      clear e e1 e5 e6 e18 e19 e20
      obtain ⟨hk, hpb, rfl, hs21, hF20⟩ := hrel
      clear F17
      obtain ⟨w22, rfl⟩ : ∃ x_ : World, x_ = wr := ⟨_, rfl⟩
      have HPB := hpb
      by_cases c23 : (k : Int) < (b.accs.length : Int)
      · skip
        have c23H := Lib.hid c23
        obtain ⟨x24, o25, e_⟩ := Sl.addr (hF20.at 4 rfl : Sl accEnc 6 lo hi _ (.slice aA b.accs.length cA) b.accs) (by omega)
        subst e_
        obtain ⟨z, hz26_⟩ : ∃ z_, b.accs[k]? = some z_ := ⟨_, List.getElem?_eq_getElem (by omega)⟩
        have hz26 := Lib.hid hz26_
        clear hz26_
        have HLT := Lib.hid (flat_take (f := accT) hz26.out)
        have HZ := Lib.hid (HOK.out.acc z (List.mem_of_getElem? hz26.out))
        have hnl_ := name_len HZ.out
        have hop_ := HZ.out.op
        have hcl_ := HZ.out.cl
        have hhl_ := headT_len HZ.out
        have hal_ := HOK.out.la k
        unfold accsT at hal_
        have hkd_ : 0 ≤ z.kind ∧ z.kind < 3 := by rcases HZ.out.kind with h_ | h_ <;> omega
        rcases HZ.out.kind with hk1_ | hk1_
        · skip
          have HKD := Lib.hid hk1_
          clear hk1_
          have ge33 : World.cell? _ ⟨x24, o25 + k * 6, none⟩ = some (.string z.name) := (((hF20.at 4 rfl : Sl accEnc 6 lo hi _ (.slice (some ⟨x24, o25, none⟩) b.accs.length cA) b.accs)).cells hz26.out 0 _ rfl)
          have gl34 := cell_lt ge33
          have ge35 : World.cell? _ ⟨x24, o25 + k * 6 + 1, none⟩ = some (.int .i64 1) := (by have h_ := ((hF20.at 4 rfl : Sl accEnc 6 lo hi _ (.slice (some ⟨x24, o25, none⟩) b.accs.length cA) b.accs)).cells hz26.out 1 _ rfl; rw [HKD.out] at h_; exact h_)
          have ge36 : World.cell? _ ⟨x24, o25 + k * 6 + 2, none⟩ = some (.int .i64 z.op.lo) := (((hF20.at 4 rfl : Sl accEnc 6 lo hi _ (.slice (some ⟨x24, o25, none⟩) b.accs.length cA) b.accs)).cells hz26.out 2 _ rfl)
          have ge37 : World.cell? _ ⟨x24, o25 + k * 6 + 3, none⟩ = some (.int .i64 z.op.hi) := (((hF20.at 4 rfl : Sl accEnc 6 lo hi _ (.slice (some ⟨x24, o25, none⟩) b.accs.length cA) b.accs)).cells hz26.out 3 _ rfl)
          have ge38 : World.cell? _ ⟨x24, o25 + k * 6 + 4, none⟩ = some (.int .i64 z.cl.lo) := (((hF20.at 4 rfl : Sl accEnc 6 lo hi _ (.slice (some ⟨x24, o25, none⟩) b.accs.length cA) b.accs)).cells hz26.out 4 _ rfl)
          have ge39 : World.cell? _ ⟨x24, o25 + k * 6 + 5, none⟩ = some (.int .i64 z.cl.hi) := (((hF20.at 4 rfl : Sl accEnc 6 lo hi _ (.slice (some ⟨x24, o25, none⟩) b.accs.length cA) b.accs)).cells hz26.out 5 _ rfl)
          go_wp2_with fail
          clear ge33 gl34 ge35 ge36 ge37 ge38 ge39
          have F40 := hF20.new 41 #[.string z.name, .int .i64 1, .int .i64 z.op.lo, .int .i64 z.op.hi, .int .i64 z.cl.lo, .int .i64 z.cl.hi] (n := w22.heap.size) (by simp)
          clear hF20
          obtain ⟨w41, hx42, F44, hxs43⟩ := (show Bun w [rbox w22.heap.size 41 #[.string z.name, .int .i64 1, .int .i64 z.op.lo, .int .i64 z.op.hi, .int .i64 z.cl.lo, .int .i64 z.cl.hi], rbld 95 5 w.heap.size w9.heap.size pb vb (Lib.byteCells ((b.accs.take k).flatMap accT)), rbox w.heap.size 38 #[.slice (some ⟨x24, o25, none⟩) b.accs.length cA, .slice aM b.mvs.length cM], rtab Tryd.prog w.heap.size powName .u64 Lib.pow10Tab, rgv w.heap.size 0 kndC, rsl accEnc 6 lo hi (.slice (some ⟨x24, o25, none⟩) b.accs.length cA) b.accs, rsl mvEnc 4 lo hi (.slice aM b.mvs.length cM) b.mvs] _ from F40).name
          (try simp at hxs43)
          rw [hx42]
          clear hx42 F40
          have hst30 : ¬ (9223372036854775807 < 8 + z.name.size) := by omega
          have hst31 : ¬ (9223372036854775807 < 8 + z.name.size + 1) := by omega
          have hst32 : ¬ (9223372036854775807 < 8 + z.name.size + 1 + 4) := by omega
          have F45 := F44.drew
          clear F44
          refine ru_begin (fun W => W.cell? ⟨w22.heap.size, 0, none⟩ = some (.string z.name) ∧ W.cell? ⟨w22.heap.size, 1, none⟩ = some (.int .i64 1) ∧ W.cell? ⟨0, 1, none⟩ = some (.string ⟨#[116, 97, 110, 107]⟩) ∧ W.cell? ⟨w22.heap.size, 2, none⟩ = some (.int .i64 z.op.lo) ∧ W.cell? ⟨w22.heap.size, 3, none⟩ = some (.int .i64 z.op.hi) ∧ W.cell? ⟨w22.heap.size, 4, none⟩ = some (.int .i64 z.cl.lo) ∧ W.cell? ⟨w22.heap.size, 5, none⟩ = some (.int .i64 z.cl.hi)) 23 (by kernel_rfl) ?_ ?_
          · exact ⟨F45.cl 0 0 rfl rfl, F45.cl 0 1 rfl rfl, ((F45.at 4 rfl : Gv w.heap.size _ 0 kndC)).cell 1, F45.cl 0 2 rfl rfl, F45.cl 0 3 rfl rfl, F45.cl 0 4 rfl rfl, F45.cl 0 5 rfl rfl⟩
          obtain ⟨wd47, hwd_⟩ : ∃ x : World, w41.drew = x := ⟨_, rfl⟩
          rw [hwd_] at F45 ⊢
          have wd47s : w41.heap.size ≤ wd47.heap.size := by rw [← hwd_]; exact Nat.le_refl _
          clear hwd_
          have hS46 := (And.intro (F45.cl 0 0 rfl rfl) (And.intro (F45.cl 0 1 rfl rfl) (And.intro (((F45.at 4 rfl : Gv w.heap.size _ 0 kndC)).cell 1) (And.intro (F45.cl 0 2 rfl rfl) (And.intro (F45.cl 0 3 rfl rfl) (And.intro (F45.cl 0 4 rfl rfl) (F45.cl 0 5 rfl rfl)))))))
          refine ru_t 0 [] ?_
          refine ru_t 1 [9, 4, 3, 2] ?_
          refine ru_t 2 [9, 4, 3] ?_
          refine ru_t 3 [9, 4] ?_
          refine ru_t 4 [9] ?_
          refine ru_t 5 [9, 8, 7, 6] ?_
          refine ru_t 6 [9, 8, 7] ?_
          refine ru_t 7 [9, 8] ?_
          refine ru_t 8 [9] ?_
          refine ru_t 9 [] ?_
          refine ru_t 10 [22, 12, 11] ?_
          refine ru_t 11 [22, 12] ?_
          refine ru_t 12 [22] ?_
          refine ru_t 13 [22, 15, 14] ?_
          refine ru_t 14 [22, 15] ?_
          refine ru_t 15 [22] ?_
          refine ru_t 16 [22, 18, 17] ?_
          refine ru_t 17 [22, 18] ?_
          refine ru_t 18 [22] ?_
          refine ru_t 19 [22, 21, 20] ?_
          refine ru_t 20 [22, 21] ?_
          refine ru_t 21 [22] ?_
          (try simp only [Act.put, List.setIfInBounds_toArray, List.set_cons_zero, List.set_cons_succ])
          clear hS46
          refine ru_one 22 rfl (by kernel_rfl) (fun K hK => ?_)
          go_simp
          have F48 := F45.new 3 #[.int .i64 z.op.lo, .int .i64 z.op.hi, .int .i64 z.cl.lo, .int .i64 z.cl.hi] (n := wd47.heap.size) (by simp)
          clear F45
          refine ru_back hK (by exact ⟨F48.cl 1 0 rfl rfl, F48.cl 1 1 rfl rfl, ((F48.at 5 rfl : Gv w.heap.size _ 0 kndC)).cell 1, F48.cl 1 2 rfl rfl, F48.cl 1 3 rfl rfl, F48.cl 1 4 rfl rfl, F48.cl 1 5 rfl rfl⟩) (fun hHeld => ?_)
          clear hK K
          (try simp only [Act.put, List.setIfInBounds_toArray, List.set_cons_zero, List.set_cons_succ])
          refine ru_one 23 rfl (by kernel_rfl) (fun K hK => ?_)
          obtain ⟨w49, hx50, F52, hxs51⟩ := (show Bun w [rbox wd47.heap.size 3 #[.int .i64 z.op.lo, .int .i64 z.op.hi, .int .i64 z.cl.lo, .int .i64 z.cl.hi], rbox w22.heap.size 41 #[.string z.name, .int .i64 1, .int .i64 z.op.lo, .int .i64 z.op.hi, .int .i64 z.cl.lo, .int .i64 z.cl.hi], rbld 95 5 w.heap.size w9.heap.size pb vb (Lib.byteCells ((b.accs.take k).flatMap accT)), rbox w.heap.size 38 #[.slice (some ⟨x24, o25, none⟩) b.accs.length cA, .slice aM b.mvs.length cM], rtab Tryd.prog w.heap.size powName .u64 Lib.pow10Tab, rgv w.heap.size 0 kndC, rsl accEnc 6 lo hi (.slice (some ⟨x24, o25, none⟩) b.accs.length cA) b.accs, rsl mvEnc 4 lo hi (.slice aM b.mvs.length cM) b.mvs] _ from F48).name
          (try simp at hxs51)
          rw [hx50]
          clear hx50 F48
          go_simp
          have F53 : Bun w [rbld 95 5 w.heap.size w9.heap.size pb vb (Lib.byteCells ((b.accs.take k).flatMap accT)), rbox wd47.heap.size 3 #[.int .i64 z.op.lo, .int .i64 z.op.hi, .int .i64 z.cl.lo, .int .i64 z.cl.hi], rtab Tryd.prog w.heap.size powName .u64 Lib.pow10Tab, rbox w22.heap.size 41 #[.string z.name, .int .i64 1, .int .i64 z.op.lo, .int .i64 z.op.hi, .int .i64 z.cl.lo, .int .i64 z.cl.hi], rbox w.heap.size 38 #[.slice (some ⟨x24, o25, none⟩) b.accs.length cA, .slice aM b.mvs.length cM], rgv w.heap.size 0 kndC, rsl accEnc 6 lo hi (.slice (some ⟨x24, o25, none⟩) b.accs.length cA) b.accs, rsl mvEnc 4 lo hi (.slice aM b.mvs.length cM) b.mvs] _ := F52.pick [2, 0, 4, 1, 3, 5, 6, 7] (by decide) rfl
          clear F52
          have Fh_ := Bun.hide (K := [rbld 95 5 w.heap.size w9.heap.size pb vb (Lib.byteCells ((b.accs.take k).flatMap accT)), rbox wd47.heap.size 3 #[.int .i64 z.op.lo, .int .i64 z.op.hi, .int .i64 z.cl.lo, .int .i64 z.cl.hi], rtab Tryd.prog w.heap.size powName .u64 Lib.pow10Tab]) (l := [rbox w22.heap.size 41 #[.string z.name, .int .i64 1, .int .i64 z.op.lo, .int .i64 z.op.hi, .int .i64 z.cl.lo, .int .i64 z.cl.hi], rbox w.heap.size 38 #[.slice (some ⟨x24, o25, none⟩) b.accs.length cA, .slice aM b.mvs.length cM], rgv w.heap.size 0 kndC, rsl accEnc 6 lo hi (.slice (some ⟨x24, o25, none⟩) b.accs.length cA) b.accs, rsl mvEnc 4 lo hi (.slice aM b.mvs.length cM) b.mvs]) F53
          refine (row_c w w9.heap.size wd47.heap.size _ _ ((b.accs.take k).flatMap accT) (headT z) _ z.op.lo z.op.hi z.cl.lo z.cl.hi _ _ Fh_ HPB.out (List.forall_mem_cons.2 ⟨other_box (by decide), List.forall_mem_cons.2 ⟨other_box (by decide), List.forall_mem_cons.2 ⟨other_gv (Nat.le_refl _), List.forall_mem_cons.2 ⟨other_sl (by omega), List.forall_mem_cons.2 ⟨other_sl (by omega), fun _ h_ => by cases h_⟩⟩⟩⟩⟩) (by (try simp only [List.length_append, List.length_cons, List.length_nil]); omega) (head1 HKD.out) (by (try simp only [List.length_cons, List.length_nil]); omega) (by omega)).mono ?_
          rintro e w54 ⟨rfl, vb56, Fr_, hzF55⟩
          (try simp at hzF55)
          have F55 : Bun w [rbld 95 5 w.heap.size w9.heap.size (.pointer (some ⟨w9.heap.size, 0, none⟩)) vb56 (Lib.byteCells (((b.accs.take k).flatMap accT) ++ (headT z) ++ numT z.op.lo ++ numT z.op.hi ++ numT z.cl.lo ++ numT z.cl.hi ++ [10])), rbox wd47.heap.size 3 #[.int .i64 z.op.lo, .int .i64 z.op.hi, .int .i64 z.cl.lo, .int .i64 z.cl.hi], rtab Tryd.prog w.heap.size powName .u64 Lib.pow10Tab, rbox w22.heap.size 41 #[.string z.name, .int .i64 1, .int .i64 z.op.lo, .int .i64 z.op.hi, .int .i64 z.cl.lo, .int .i64 z.cl.hi], rbox w.heap.size 38 #[.slice (some ⟨x24, o25, none⟩) b.accs.length cA, .slice aM b.mvs.length cM], rgv w.heap.size 0 kndC, rsl accEnc 6 lo hi (.slice (some ⟨x24, o25, none⟩) b.accs.length cA) b.accs, rsl mvEnc 4 lo hi (.slice aM b.mvs.length cM) b.mvs] w54 := Bun.show1 (K := [rbox wd47.heap.size 3 #[.int .i64 z.op.lo, .int .i64 z.op.hi, .int .i64 z.cl.lo, .int .i64 z.cl.hi], rtab Tryd.prog w.heap.size powName .u64 Lib.pow10Tab]) (l := [rbox w22.heap.size 41 #[.string z.name, .int .i64 1, .int .i64 z.op.lo, .int .i64 z.op.hi, .int .i64 z.cl.lo, .int .i64 z.cl.hi], rbox w.heap.size 38 #[.slice (some ⟨x24, o25, none⟩) b.accs.length cA, .slice aM b.mvs.length cM], rgv w.heap.size 0 kndC, rsl accEnc 6 lo hi (.slice (some ⟨x24, o25, none⟩) b.accs.length cA) b.accs, rsl mvEnc 4 lo hi (.slice aM b.mvs.length cM) b.mvs]) F53 Fr_ rfl
          have hwsF55 := F55.gb.size
          clear Fr_ Fh_ F53
          refine ru_back_late hK (by kernel_rfl) ?_
          clear hK K
          (try simp only [Act.put, List.setIfInBounds_toArray, List.set_cons_zero, List.set_cons_succ])
          refine ru_done (by kernel_rfl) ?_
          (try clear hst30 hst31 hst32)
          obtain ⟨w57, hx58, F60, hxs59⟩ := (show Bun w [rbld 95 5 w.heap.size w9.heap.size (.pointer (some ⟨w9.heap.size, 0, none⟩)) vb56 (Lib.byteCells (((b.accs.take k).flatMap accT) ++ (headT z) ++ numT z.op.lo ++ numT z.op.hi ++ numT z.cl.lo ++ numT z.cl.hi ++ [10])), rtab Tryd.prog w.heap.size powName .u64 Lib.pow10Tab, rbox w.heap.size 38 #[.slice (some ⟨x24, o25, none⟩) b.accs.length cA, .slice aM b.mvs.length cM], rgv w.heap.size 0 kndC, rsl accEnc 6 lo hi (.slice (some ⟨x24, o25, none⟩) b.accs.length cA) b.accs, rsl mvEnc 4 lo hi (.slice aM b.mvs.length cM) b.mvs] _ from ((F55.drop 1 rfl).drop 2 rfl)).name
          (try simp at hxs59)
          rw [hx58]
          clear hx58 F55
          go_wp2_with fail
          go_wp2_with fail
          have e_ : (((b.accs.take k).flatMap accT) ++ (headT z) ++ numT z.op.lo ++ numT z.op.hi ++ numT z.cl.lo ++ numT z.cl.hi ++ [10]) = ((b.accs.take (k + 1)).flatMap accT) := by rw [HLT.out]; simp only [accT, List.append_assoc]
          rw [e_] at F60
          clear e_
          (skip)
          have F62 : Bun w [rbld 95 5 w.heap.size w9.heap.size (.pointer (some ⟨w9.heap.size, 0, none⟩)) vb56 (Lib.byteCells ((b.accs.take (k + 1)).flatMap accT)), rbox w.heap.size 38 #[.slice (some ⟨x24, o25, none⟩) b.accs.length cA, .slice aM b.mvs.length cM], rtab Tryd.prog w.heap.size powName .u64 Lib.pow10Tab, rgv w.heap.size 0 kndC, rsl accEnc 6 lo hi (.slice (some ⟨x24, o25, none⟩) b.accs.length cA) b.accs, rsl mvEnc 4 lo hi (.slice aM b.mvs.length cM) b.mvs] _ := F60.pick [0, 2, 1, 3, 4, 5] (by decide) rfl
          clear F60
          (first | refine ⟨by kernel_rfl, ?_, ?_⟩ | refine ⟨rfl, ?_, ?_⟩ | refine ⟨?_, ?_⟩)
          · rw [HI19.out]; exact ⟨k + 1, (.pointer (some ⟨w9.heap.size, 0, none⟩)), vb56, (by first | kernel_rfl | rfl), (by first | kernel_rfl | rfl), (by first | kernel_rfl | rfl), (by first | kernel_rfl | rfl), (by first | kernel_rfl | rfl), (by show Value.int .i64 ((k : Int) + 1) = _; simp), (by omega), (Lib.hid (.inr rfl)), (by first | rfl | simp), (by first | omega | (simp; done) | (simp; omega)), F62⟩
          · simp [slot, intOf]; omega
        · skip
          have HKD := Lib.hid hk1_
          clear hk1_
          have ge69 : World.cell? _ ⟨x24, o25 + k * 6, none⟩ = some (.string z.name) := (((hF20.at 4 rfl : Sl accEnc 6 lo hi _ (.slice (some ⟨x24, o25, none⟩) b.accs.length cA) b.accs)).cells hz26.out 0 _ rfl)
          have gl70 := cell_lt ge69
          have ge71 : World.cell? _ ⟨x24, o25 + k * 6 + 1, none⟩ = some (.int .i64 2) := (by have h_ := ((hF20.at 4 rfl : Sl accEnc 6 lo hi _ (.slice (some ⟨x24, o25, none⟩) b.accs.length cA) b.accs)).cells hz26.out 1 _ rfl; rw [HKD.out] at h_; exact h_)
          have ge72 : World.cell? _ ⟨x24, o25 + k * 6 + 2, none⟩ = some (.int .i64 z.op.lo) := (((hF20.at 4 rfl : Sl accEnc 6 lo hi _ (.slice (some ⟨x24, o25, none⟩) b.accs.length cA) b.accs)).cells hz26.out 2 _ rfl)
          have ge73 : World.cell? _ ⟨x24, o25 + k * 6 + 3, none⟩ = some (.int .i64 z.op.hi) := (((hF20.at 4 rfl : Sl accEnc 6 lo hi _ (.slice (some ⟨x24, o25, none⟩) b.accs.length cA) b.accs)).cells hz26.out 3 _ rfl)
          have ge74 : World.cell? _ ⟨x24, o25 + k * 6 + 4, none⟩ = some (.int .i64 z.cl.lo) := (((hF20.at 4 rfl : Sl accEnc 6 lo hi _ (.slice (some ⟨x24, o25, none⟩) b.accs.length cA) b.accs)).cells hz26.out 4 _ rfl)
          have ge75 : World.cell? _ ⟨x24, o25 + k * 6 + 5, none⟩ = some (.int .i64 z.cl.hi) := (((hF20.at 4 rfl : Sl accEnc 6 lo hi _ (.slice (some ⟨x24, o25, none⟩) b.accs.length cA) b.accs)).cells hz26.out 5 _ rfl)
          go_wp2_with fail
          clear ge69 gl70 ge71 ge72 ge73 ge74 ge75
          have F76 := hF20.new 41 #[.string z.name, .int .i64 2, .int .i64 z.op.lo, .int .i64 z.op.hi, .int .i64 z.cl.lo, .int .i64 z.cl.hi] (n := w22.heap.size) (by simp)
          clear hF20
          obtain ⟨w77, hx78, F80, hxs79⟩ := (show Bun w [rbox w22.heap.size 41 #[.string z.name, .int .i64 2, .int .i64 z.op.lo, .int .i64 z.op.hi, .int .i64 z.cl.lo, .int .i64 z.cl.hi], rbld 95 5 w.heap.size w9.heap.size pb vb (Lib.byteCells ((b.accs.take k).flatMap accT)), rbox w.heap.size 38 #[.slice (some ⟨x24, o25, none⟩) b.accs.length cA, .slice aM b.mvs.length cM], rtab Tryd.prog w.heap.size powName .u64 Lib.pow10Tab, rgv w.heap.size 0 kndC, rsl accEnc 6 lo hi (.slice (some ⟨x24, o25, none⟩) b.accs.length cA) b.accs, rsl mvEnc 4 lo hi (.slice aM b.mvs.length cM) b.mvs] _ from F76).name
          (try simp at hxs79)
          rw [hx78]
          clear hx78 F76
          have hst66 : ¬ (9223372036854775807 < 8 + z.name.size) := by omega
          have hst67 : ¬ (9223372036854775807 < 8 + z.name.size + 1) := by omega
          have hst68 : ¬ (9223372036854775807 < 8 + z.name.size + 1 + 6) := by omega
          have F81 := F80.drew
          clear F80
          refine ru_begin (fun W => W.cell? ⟨w22.heap.size, 0, none⟩ = some (.string z.name) ∧ W.cell? ⟨w22.heap.size, 1, none⟩ = some (.int .i64 2) ∧ W.cell? ⟨0, 2, none⟩ = some (.string ⟨#[103, 114, 111, 117, 110, 100]⟩) ∧ W.cell? ⟨w22.heap.size, 2, none⟩ = some (.int .i64 z.op.lo) ∧ W.cell? ⟨w22.heap.size, 3, none⟩ = some (.int .i64 z.op.hi) ∧ W.cell? ⟨w22.heap.size, 4, none⟩ = some (.int .i64 z.cl.lo) ∧ W.cell? ⟨w22.heap.size, 5, none⟩ = some (.int .i64 z.cl.hi)) 23 (by kernel_rfl) ?_ ?_
          · exact ⟨F81.cl 0 0 rfl rfl, F81.cl 0 1 rfl rfl, ((F81.at 4 rfl : Gv w.heap.size _ 0 kndC)).cell 2, F81.cl 0 2 rfl rfl, F81.cl 0 3 rfl rfl, F81.cl 0 4 rfl rfl, F81.cl 0 5 rfl rfl⟩
          obtain ⟨wd83, hwd_⟩ : ∃ x : World, w77.drew = x := ⟨_, rfl⟩
          rw [hwd_] at F81 ⊢
          have wd83s : w77.heap.size ≤ wd83.heap.size := by rw [← hwd_]; exact Nat.le_refl _
          clear hwd_
          have hS82 := (And.intro (F81.cl 0 0 rfl rfl) (And.intro (F81.cl 0 1 rfl rfl) (And.intro (((F81.at 4 rfl : Gv w.heap.size _ 0 kndC)).cell 2) (And.intro (F81.cl 0 2 rfl rfl) (And.intro (F81.cl 0 3 rfl rfl) (And.intro (F81.cl 0 4 rfl rfl) (F81.cl 0 5 rfl rfl)))))))
          refine ru_t 0 [] ?_
          refine ru_t 1 [9, 4, 3, 2] ?_
          refine ru_t 2 [9, 4, 3] ?_
          refine ru_t 3 [9, 4] ?_
          refine ru_t 4 [9] ?_
          refine ru_t 5 [9, 8, 7, 6] ?_
          refine ru_t 6 [9, 8, 7] ?_
          refine ru_t 7 [9, 8] ?_
          refine ru_t 8 [9] ?_
          refine ru_t 9 [] ?_
          refine ru_t 10 [22, 12, 11] ?_
          refine ru_t 11 [22, 12] ?_
          refine ru_t 12 [22] ?_
          refine ru_t 13 [22, 15, 14] ?_
          refine ru_t 14 [22, 15] ?_
          refine ru_t 15 [22] ?_
          refine ru_t 16 [22, 18, 17] ?_
          refine ru_t 17 [22, 18] ?_
          refine ru_t 18 [22] ?_
          refine ru_t 19 [22, 21, 20] ?_
          refine ru_t 20 [22, 21] ?_
          refine ru_t 21 [22] ?_
          (try simp only [Act.put, List.setIfInBounds_toArray, List.set_cons_zero, List.set_cons_succ])
          clear hS82
          refine ru_one 22 rfl (by kernel_rfl) (fun K hK => ?_)
          go_simp
          have F84 := F81.new 3 #[.int .i64 z.op.lo, .int .i64 z.op.hi, .int .i64 z.cl.lo, .int .i64 z.cl.hi] (n := wd83.heap.size) (by simp)
          clear F81
          refine ru_back hK (by exact ⟨F84.cl 1 0 rfl rfl, F84.cl 1 1 rfl rfl, ((F84.at 5 rfl : Gv w.heap.size _ 0 kndC)).cell 2, F84.cl 1 2 rfl rfl, F84.cl 1 3 rfl rfl, F84.cl 1 4 rfl rfl, F84.cl 1 5 rfl rfl⟩) (fun hHeld => ?_)
          clear hK K
          (try simp only [Act.put, List.setIfInBounds_toArray, List.set_cons_zero, List.set_cons_succ])
          refine ru_one 23 rfl (by kernel_rfl) (fun K hK => ?_)
          obtain ⟨w85, hx86, F88, hxs87⟩ := (show Bun w [rbox wd83.heap.size 3 #[.int .i64 z.op.lo, .int .i64 z.op.hi, .int .i64 z.cl.lo, .int .i64 z.cl.hi], rbox w22.heap.size 41 #[.string z.name, .int .i64 2, .int .i64 z.op.lo, .int .i64 z.op.hi, .int .i64 z.cl.lo, .int .i64 z.cl.hi], rbld 95 5 w.heap.size w9.heap.size pb vb (Lib.byteCells ((b.accs.take k).flatMap accT)), rbox w.heap.size 38 #[.slice (some ⟨x24, o25, none⟩) b.accs.length cA, .slice aM b.mvs.length cM], rtab Tryd.prog w.heap.size powName .u64 Lib.pow10Tab, rgv w.heap.size 0 kndC, rsl accEnc 6 lo hi (.slice (some ⟨x24, o25, none⟩) b.accs.length cA) b.accs, rsl mvEnc 4 lo hi (.slice aM b.mvs.length cM) b.mvs] _ from F84).name
          (try simp at hxs87)
          rw [hx86]
          clear hx86 F84
          go_simp
          have F89 : Bun w [rbld 95 5 w.heap.size w9.heap.size pb vb (Lib.byteCells ((b.accs.take k).flatMap accT)), rbox wd83.heap.size 3 #[.int .i64 z.op.lo, .int .i64 z.op.hi, .int .i64 z.cl.lo, .int .i64 z.cl.hi], rtab Tryd.prog w.heap.size powName .u64 Lib.pow10Tab, rbox w22.heap.size 41 #[.string z.name, .int .i64 2, .int .i64 z.op.lo, .int .i64 z.op.hi, .int .i64 z.cl.lo, .int .i64 z.cl.hi], rbox w.heap.size 38 #[.slice (some ⟨x24, o25, none⟩) b.accs.length cA, .slice aM b.mvs.length cM], rgv w.heap.size 0 kndC, rsl accEnc 6 lo hi (.slice (some ⟨x24, o25, none⟩) b.accs.length cA) b.accs, rsl mvEnc 4 lo hi (.slice aM b.mvs.length cM) b.mvs] _ := F88.pick [2, 0, 4, 1, 3, 5, 6, 7] (by decide) rfl
          clear F88
          have Fh_ := Bun.hide (K := [rbld 95 5 w.heap.size w9.heap.size pb vb (Lib.byteCells ((b.accs.take k).flatMap accT)), rbox wd83.heap.size 3 #[.int .i64 z.op.lo, .int .i64 z.op.hi, .int .i64 z.cl.lo, .int .i64 z.cl.hi], rtab Tryd.prog w.heap.size powName .u64 Lib.pow10Tab]) (l := [rbox w22.heap.size 41 #[.string z.name, .int .i64 2, .int .i64 z.op.lo, .int .i64 z.op.hi, .int .i64 z.cl.lo, .int .i64 z.cl.hi], rbox w.heap.size 38 #[.slice (some ⟨x24, o25, none⟩) b.accs.length cA, .slice aM b.mvs.length cM], rgv w.heap.size 0 kndC, rsl accEnc 6 lo hi (.slice (some ⟨x24, o25, none⟩) b.accs.length cA) b.accs, rsl mvEnc 4 lo hi (.slice aM b.mvs.length cM) b.mvs]) F89
          refine (row_c w w9.heap.size wd83.heap.size _ _ ((b.accs.take k).flatMap accT) (headT z) _ z.op.lo z.op.hi z.cl.lo z.cl.hi _ _ Fh_ HPB.out (List.forall_mem_cons.2 ⟨other_box (by decide), List.forall_mem_cons.2 ⟨other_box (by decide), List.forall_mem_cons.2 ⟨other_gv (Nat.le_refl _), List.forall_mem_cons.2 ⟨other_sl (by omega), List.forall_mem_cons.2 ⟨other_sl (by omega), fun _ h_ => by cases h_⟩⟩⟩⟩⟩) (by (try simp only [List.length_append, List.length_cons, List.length_nil]); omega) (head2 HKD.out) (by (try simp only [List.length_cons, List.length_nil]); omega) (by omega)).mono ?_
          rintro e w90 ⟨rfl, vb92, Fr_, hzF91⟩
          (try simp at hzF91)
          have F91 : Bun w [rbld 95 5 w.heap.size w9.heap.size (.pointer (some ⟨w9.heap.size, 0, none⟩)) vb92 (Lib.byteCells (((b.accs.take k).flatMap accT) ++ (headT z) ++ numT z.op.lo ++ numT z.op.hi ++ numT z.cl.lo ++ numT z.cl.hi ++ [10])), rbox wd83.heap.size 3 #[.int .i64 z.op.lo, .int .i64 z.op.hi, .int .i64 z.cl.lo, .int .i64 z.cl.hi], rtab Tryd.prog w.heap.size powName .u64 Lib.pow10Tab, rbox w22.heap.size 41 #[.string z.name, .int .i64 2, .int .i64 z.op.lo, .int .i64 z.op.hi, .int .i64 z.cl.lo, .int .i64 z.cl.hi], rbox w.heap.size 38 #[.slice (some ⟨x24, o25, none⟩) b.accs.length cA, .slice aM b.mvs.length cM], rgv w.heap.size 0 kndC, rsl accEnc 6 lo hi (.slice (some ⟨x24, o25, none⟩) b.accs.length cA) b.accs, rsl mvEnc 4 lo hi (.slice aM b.mvs.length cM) b.mvs] w90 := Bun.show1 (K := [rbox wd83.heap.size 3 #[.int .i64 z.op.lo, .int .i64 z.op.hi, .int .i64 z.cl.lo, .int .i64 z.cl.hi], rtab Tryd.prog w.heap.size powName .u64 Lib.pow10Tab]) (l := [rbox w22.heap.size 41 #[.string z.name, .int .i64 2, .int .i64 z.op.lo, .int .i64 z.op.hi, .int .i64 z.cl.lo, .int .i64 z.cl.hi], rbox w.heap.size 38 #[.slice (some ⟨x24, o25, none⟩) b.accs.length cA, .slice aM b.mvs.length cM], rgv w.heap.size 0 kndC, rsl accEnc 6 lo hi (.slice (some ⟨x24, o25, none⟩) b.accs.length cA) b.accs, rsl mvEnc 4 lo hi (.slice aM b.mvs.length cM) b.mvs]) F89 Fr_ rfl
          have hwsF91 := F91.gb.size
          clear Fr_ Fh_ F89
          refine ru_back_late hK (by kernel_rfl) ?_
          clear hK K
          (try simp only [Act.put, List.setIfInBounds_toArray, List.set_cons_zero, List.set_cons_succ])
          refine ru_done (by kernel_rfl) ?_
          (try clear hst66 hst67 hst68)
          obtain ⟨w93, hx94, F96, hxs95⟩ := (show Bun w [rbld 95 5 w.heap.size w9.heap.size (.pointer (some ⟨w9.heap.size, 0, none⟩)) vb92 (Lib.byteCells (((b.accs.take k).flatMap accT) ++ (headT z) ++ numT z.op.lo ++ numT z.op.hi ++ numT z.cl.lo ++ numT z.cl.hi ++ [10])), rtab Tryd.prog w.heap.size powName .u64 Lib.pow10Tab, rbox w.heap.size 38 #[.slice (some ⟨x24, o25, none⟩) b.accs.length cA, .slice aM b.mvs.length cM], rgv w.heap.size 0 kndC, rsl accEnc 6 lo hi (.slice (some ⟨x24, o25, none⟩) b.accs.length cA) b.accs, rsl mvEnc 4 lo hi (.slice aM b.mvs.length cM) b.mvs] _ from ((F91.drop 1 rfl).drop 2 rfl)).name
          (try simp at hxs95)
          rw [hx94]
          clear hx94 F91
          go_wp2_with fail
          go_wp2_with fail
          have e_ : (((b.accs.take k).flatMap accT) ++ (headT z) ++ numT z.op.lo ++ numT z.op.hi ++ numT z.cl.lo ++ numT z.cl.hi ++ [10]) = ((b.accs.take (k + 1)).flatMap accT) := by rw [HLT.out]; simp only [accT, List.append_assoc]
          rw [e_] at F96
          clear e_
          (skip)
          have F98 : Bun w [rbld 95 5 w.heap.size w9.heap.size (.pointer (some ⟨w9.heap.size, 0, none⟩)) vb92 (Lib.byteCells ((b.accs.take (k + 1)).flatMap accT)), rbox w.heap.size 38 #[.slice (some ⟨x24, o25, none⟩) b.accs.length cA, .slice aM b.mvs.length cM], rtab Tryd.prog w.heap.size powName .u64 Lib.pow10Tab, rgv w.heap.size 0 kndC, rsl accEnc 6 lo hi (.slice (some ⟨x24, o25, none⟩) b.accs.length cA) b.accs, rsl mvEnc 4 lo hi (.slice aM b.mvs.length cM) b.mvs] _ := F96.pick [0, 2, 1, 3, 4, 5] (by decide) rfl
          clear F96
          (first | refine ⟨by kernel_rfl, ?_, ?_⟩ | refine ⟨rfl, ?_, ?_⟩ | refine ⟨?_, ?_⟩)
          · rw [HI19.out]; exact ⟨k + 1, (.pointer (some ⟨w9.heap.size, 0, none⟩)), vb92, (by first | kernel_rfl | rfl), (by first | kernel_rfl | rfl), (by first | kernel_rfl | rfl), (by first | kernel_rfl | rfl), (by first | kernel_rfl | rfl), (by show Value.int .i64 ((k : Int) + 1) = _; simp), (by omega), (Lib.hid (.inr rfl)), (by first | rfl | simp), (by first | omega | (simp; done) | (simp; omega)), F98⟩
          · simp [slot, intOf]; omega
      · skip
        have c23H := Lib.hid c23
        have c23a : decide ((k : Int) < (b.accs.length : Int)) = false := dec_f c23
        have b99 := hF20.bx2 1 rfl
        go_wp2_with fail
        clear b99
        have e_ : (b.accs.take k).flatMap accT = accsT b.accs ++ (b.mvs.take 0).flatMap mvT := by rw [List.take_of_length_le (by omega)]; simp [accsT]
        rw [e_] at hF20
        clear e_
        obtain ⟨HI100_, HI1000⟩ : ∃ I : (Nat → Value) → List Deferred → World → Prop, I = (fun t ds wr => ∃ (k : Nat) (pb vb : Value), t 5 = .pointer (some ⟨w9.heap.size, 0, none⟩) ∧ t 6 = .func (.func 42) #[] #[.pointer (some ⟨w9.heap.size, 0, none⟩)] ∧ t 50 = .slice aM b.mvs.length cM ∧ t 51 = .int .i64 (b.mvs.length : Int) ∧ t 52 = .int .i64 (k : Int) ∧ k ≤ b.mvs.length ∧ Hid (pb = .pointer none ∨ pb = .pointer (some ⟨w9.heap.size, 0, none⟩)) ∧ ds = [] ∧ w22.heap.size ≤ wr.heap.size ∧ Bun w [rbld 95 5 w.heap.size w9.heap.size pb vb (Lib.byteCells (accsT b.accs ++ (b.mvs.take k).flatMap mvT)), rtab Tryd.prog w.heap.size powName .u64 Lib.pow10Tab, rgv w.heap.size 0 kndC, rsl accEnc 6 lo hi (.slice aA b.accs.length cA) b.accs, rsl mvEnc 4 lo hi (.slice aM b.mvs.length cM) b.mvs] wr) := ⟨_, rfl⟩
        have HI100 := Lib.hid HI1000
        clear HI1000
        refine wp_loopS 71 rfl HI100_ (fun t wr => b.mvs.length - (intOf (t 52)).toNat) ?atStart2 ?round2
        case round2 =>
          intro t ds wr hHid
          rw [HI100.out] at hHid
          obtain ⟨k, pb, vb, e5, e6, e50, e51, e52, hrel⟩ := hHid
          have e : ((List.range 71).map t).toArray = #[t 0, t 1, t 2, t 3, t 4, t 5, t 6, t 7, t 8, t 9, t 10, t 11, t 12, t 13, t 14, t 15, t 16, t 17, t 18, t 19, t 20, t 21, t 22, t 23, t 24, t 25, t 26, t 27, t 28, t 29, t 30, t 31, t 32, t 33, t 34, t 35, t 36, t 37, t 38, t 39, t 40, t 41, t 42, t 43, t 44, t 45, t 46, t 47, t 48, t 49, t 50, t 51, t 52, t 53, t 54, t 55, t 56, t 57, t 58, t 59, t 60, t 61, t 62, t 63, t 64, t 65, t 66, t 67, t 68, t 69, t 70] := rfl
          (try dsimp only at e)
          rw [e5, e6, e50, e51, e52] at e
          rw [e]
          simp only [e52]
          clear e e5 e6 e50 e51 e52
          obtain ⟨hk, hpb, rfl, hs102, hF101⟩ := hrel
          clear hF20
          obtain ⟨w103, rfl⟩ : ∃ x_ : World, x_ = wr := ⟨_, rfl⟩
          have HPB := hpb
          by_cases c104 : (k : Int) < (b.mvs.length : Int)
          · skip
            have c104H := Lib.hid c104
            obtain ⟨x105, o106, e_⟩ := Sl.addr (hF101.at 4 rfl : Sl mvEnc 4 lo hi _ (.slice aM b.mvs.length cM) b.mvs) (by omega)
            subst e_
            obtain ⟨z, hz107_⟩ : ∃ z_, b.mvs[k]? = some z_ := ⟨_, List.getElem?_eq_getElem (by omega)⟩
            have hz107 := Lib.hid hz107_
            clear hz107_
            have HLT := Lib.hid (flat_take (f := mvT) hz107.out)
            have HZ := Lib.hid (HOK.out.mv z (List.mem_of_getElem? hz107.out))
            have hfr_ := HZ.out.fr
            have hto_ := HZ.out.to
            have hli_ := HZ.out.li
            have hal_ := HOK.out.lm k
            have haa_ := HOK.out.la b.accs.length
            rw [List.take_length] at haa_
            unfold mvsT at hal_
            have ge108 : World.cell? _ ⟨x105, o106 + k * 4, none⟩ = some (.int .i64 z.fr) := (((hF101.at 4 rfl : Sl mvEnc 4 lo hi _ (.slice (some ⟨x105, o106, none⟩) b.mvs.length cM) b.mvs)).cells hz107.out 0 _ rfl)
            have gl109 := cell_lt ge108
            have ge110 : World.cell? _ ⟨x105, o106 + k * 4 + 1, none⟩ = some (.int .i64 z.to) := (((hF101.at 4 rfl : Sl mvEnc 4 lo hi _ (.slice (some ⟨x105, o106, none⟩) b.mvs.length cM) b.mvs)).cells hz107.out 1 _ rfl)
            have ge111 : World.cell? _ ⟨x105, o106 + k * 4 + 2, none⟩ = some (.int .i64 z.li.lo) := (((hF101.at 4 rfl : Sl mvEnc 4 lo hi _ (.slice (some ⟨x105, o106, none⟩) b.mvs.length cM) b.mvs)).cells hz107.out 2 _ rfl)
            have ge112 : World.cell? _ ⟨x105, o106 + k * 4 + 3, none⟩ = some (.int .i64 z.li.hi) := (((hF101.at 4 rfl : Sl mvEnc 4 lo hi _ (.slice (some ⟨x105, o106, none⟩) b.mvs.length cM) b.mvs)).cells hz107.out 3 _ rfl)
            go_wp2_with fail
            clear ge108 gl109 ge110 ge111 ge112
            have F113 := hF101.new 43 #[.int .i64 z.fr, .int .i64 z.to, .int .i64 z.li.lo, .int .i64 z.li.hi] (n := w103.heap.size) (by simp)
            clear hF101
            have F114 := F113.new 3 #[.int .i64 z.fr, .int .i64 z.to, .int .i64 z.li.lo, .int .i64 z.li.hi] (n := (w103.heap.size + 1)) (by simp)
            clear F113
            obtain ⟨w115, hx116, F118, hxs117⟩ := (show Bun w [rbox (w103.heap.size + 1) 3 #[.int .i64 z.fr, .int .i64 z.to, .int .i64 z.li.lo, .int .i64 z.li.hi], rbox w103.heap.size 43 #[.int .i64 z.fr, .int .i64 z.to, .int .i64 z.li.lo, .int .i64 z.li.hi], rbld 95 5 w.heap.size w9.heap.size pb vb (Lib.byteCells (accsT b.accs ++ (b.mvs.take k).flatMap mvT)), rtab Tryd.prog w.heap.size powName .u64 Lib.pow10Tab, rgv w.heap.size 0 kndC, rsl accEnc 6 lo hi (.slice aA b.accs.length cA) b.accs, rsl mvEnc 4 lo hi (.slice (some ⟨x105, o106, none⟩) b.mvs.length cM) b.mvs] _ from F114).name
            (try simp at hxs117)
            rw [hx116]
            clear hx116 F114
            have F119 : Bun w [rbld 95 5 w.heap.size w9.heap.size pb vb (Lib.byteCells (accsT b.accs ++ (b.mvs.take k).flatMap mvT)), rbox (w103.heap.size + 1) 3 #[.int .i64 z.fr, .int .i64 z.to, .int .i64 z.li.lo, .int .i64 z.li.hi], rtab Tryd.prog w.heap.size powName .u64 Lib.pow10Tab, rbox w103.heap.size 43 #[.int .i64 z.fr, .int .i64 z.to, .int .i64 z.li.lo, .int .i64 z.li.hi], rgv w.heap.size 0 kndC, rsl accEnc 6 lo hi (.slice aA b.accs.length cA) b.accs, rsl mvEnc 4 lo hi (.slice (some ⟨x105, o106, none⟩) b.mvs.length cM) b.mvs] _ := F118.pick [2, 0, 3, 1, 4, 5, 6] (by decide) rfl
            clear F118
            have Fh_ := Bun.hide (K := [rbld 95 5 w.heap.size w9.heap.size pb vb (Lib.byteCells (accsT b.accs ++ (b.mvs.take k).flatMap mvT)), rbox (w103.heap.size + 1) 3 #[.int .i64 z.fr, .int .i64 z.to, .int .i64 z.li.lo, .int .i64 z.li.hi], rtab Tryd.prog w.heap.size powName .u64 Lib.pow10Tab]) (l := [rbox w103.heap.size 43 #[.int .i64 z.fr, .int .i64 z.to, .int .i64 z.li.lo, .int .i64 z.li.hi], rgv w.heap.size 0 kndC, rsl accEnc 6 lo hi (.slice aA b.accs.length cA) b.accs, rsl mvEnc 4 lo hi (.slice (some ⟨x105, o106, none⟩) b.mvs.length cM) b.mvs]) F119
            refine (row_c w w9.heap.size (w103.heap.size + 1) _ _ (accsT b.accs ++ (b.mvs.take k).flatMap mvT) [109, 111, 118, 101] _ z.fr z.to z.li.lo z.li.hi _ _ Fh_ HPB.out (List.forall_mem_cons.2 ⟨other_box (by decide), List.forall_mem_cons.2 ⟨other_gv (Nat.le_refl _), List.forall_mem_cons.2 ⟨other_sl (by omega), List.forall_mem_cons.2 ⟨other_sl (by omega), fun _ h_ => by cases h_⟩⟩⟩⟩) (by (try simp only [List.length_append, List.length_cons, List.length_nil]); omega) rfl (by (try simp only [List.length_cons, List.length_nil]); omega) (by omega)).mono ?_
            rintro e w120 ⟨rfl, vb122, Fr_, hzF121⟩
            (try simp at hzF121)
            have F121 : Bun w [rbld 95 5 w.heap.size w9.heap.size (.pointer (some ⟨w9.heap.size, 0, none⟩)) vb122 (Lib.byteCells ((accsT b.accs ++ (b.mvs.take k).flatMap mvT) ++ [109, 111, 118, 101] ++ numT z.fr ++ numT z.to ++ numT z.li.lo ++ numT z.li.hi ++ [10])), rbox (w103.heap.size + 1) 3 #[.int .i64 z.fr, .int .i64 z.to, .int .i64 z.li.lo, .int .i64 z.li.hi], rtab Tryd.prog w.heap.size powName .u64 Lib.pow10Tab, rbox w103.heap.size 43 #[.int .i64 z.fr, .int .i64 z.to, .int .i64 z.li.lo, .int .i64 z.li.hi], rgv w.heap.size 0 kndC, rsl accEnc 6 lo hi (.slice aA b.accs.length cA) b.accs, rsl mvEnc 4 lo hi (.slice (some ⟨x105, o106, none⟩) b.mvs.length cM) b.mvs] w120 := Bun.show1 (K := [rbox (w103.heap.size + 1) 3 #[.int .i64 z.fr, .int .i64 z.to, .int .i64 z.li.lo, .int .i64 z.li.hi], rtab Tryd.prog w.heap.size powName .u64 Lib.pow10Tab]) (l := [rbox w103.heap.size 43 #[.int .i64 z.fr, .int .i64 z.to, .int .i64 z.li.lo, .int .i64 z.li.hi], rgv w.heap.size 0 kndC, rsl accEnc 6 lo hi (.slice aA b.accs.length cA) b.accs, rsl mvEnc 4 lo hi (.slice (some ⟨x105, o106, none⟩) b.mvs.length cM) b.mvs]) F119 Fr_ rfl
            have hwsF121 := F121.gb.size
            clear Fr_ Fh_ F119
            go_wp2_with fail
            go_wp2_with fail
            have e_ : ((accsT b.accs ++ (b.mvs.take k).flatMap mvT) ++ [109, 111, 118, 101] ++ numT z.fr ++ numT z.to ++ numT z.li.lo ++ numT z.li.hi ++ [10]) = (accsT b.accs ++ (b.mvs.take (k + 1)).flatMap mvT) := by rw [HLT.out]; simp only [mvT, List.append_assoc]
            rw [e_] at F121
            clear e_
            (skip)
            have F124 : Bun w [rbld 95 5 w.heap.size w9.heap.size (.pointer (some ⟨w9.heap.size, 0, none⟩)) vb122 (Lib.byteCells (accsT b.accs ++ (b.mvs.take (k + 1)).flatMap mvT)), rtab Tryd.prog w.heap.size powName .u64 Lib.pow10Tab, rgv w.heap.size 0 kndC, rsl accEnc 6 lo hi (.slice aA b.accs.length cA) b.accs, rsl mvEnc 4 lo hi (.slice (some ⟨x105, o106, none⟩) b.mvs.length cM) b.mvs] _ := F121.pick [0, 2, 4, 5, 6] (by decide) rfl
            clear F121
            (first | refine ⟨by kernel_rfl, ?_, ?_⟩ | refine ⟨rfl, ?_, ?_⟩ | refine ⟨?_, ?_⟩)
            · rw [HI100.out]; exact ⟨k + 1, (.pointer (some ⟨w9.heap.size, 0, none⟩)), vb122, (by first | kernel_rfl | rfl), (by first | kernel_rfl | rfl), (by first | kernel_rfl | rfl), (by first | kernel_rfl | rfl), (by show Value.int .i64 ((k : Int) + 1) = _; simp), (by omega), (Lib.hid (.inr rfl)), (by first | rfl | simp), (by first | omega | (simp; done) | (simp; omega)), F124⟩
            · simp [slot, intOf]; omega
          · skip
            have c104H := Lib.hid c104
            have c104a : decide ((k : Int) < (b.mvs.length : Int)) = false := dec_f c104
            go_wp2_with fail
            refine (bun_string hF101 HPB.out).mono ?_
            rintro e w125 ⟨rfl, F128, hs127⟩
            clear hF101
            go_wp2_with fail
            exact bodyPost_ret (v := .tuple #[.string ⟨((accsT b.accs ++ (b.mvs.take k).flatMap mvT)).toArray⟩, .int .i64 0]) (by simp [results, Tryd.results17, go_sem]) rfl (⟨by rw [wrB, if_pos c11H.out, c11H.out, List.take_of_length_le (by omega)]; rfl, F128.gb⟩)
        case atStart2 =>
          rw [HI100.out]
          exact ⟨0, pb, vb, (by first | kernel_rfl | rfl), (by first | kernel_rfl | rfl), (by first | kernel_rfl | rfl), (by first | kernel_rfl | rfl), rfl, Nat.zero_le _, HPB, rfl, (by first | exact Nat.le_refl _ | omega | (simp; done) | (simp; omega)), (hF20.drop 1 rfl)⟩
    case atStart1 =>
      rw [HI19.out]
      exact ⟨0, .pointer none, .slice none 0 0, (by first | kernel_rfl | rfl), (by first | kernel_rfl | rfl), (by first | kernel_rfl | rfl), (by first | kernel_rfl | rfl), (by first | kernel_rfl | rfl), rfl, Nat.zero_le _, (Lib.hid (.inl rfl)), rfl, (by first | exact Nat.le_refl _ | omega | (simp; done) | (simp; omega)), F17⟩
  · skip
    have c11a : ((checkE b) == 0) = false := beq_f c11
    have c11b : ((checkE b) != 0) = true := bne_t c11
    have c11H := Lib.hid c11
    clear c11
    go_wp2_with fail
    exact bodyPost_ret (v := .tuple #[.string ⟨#[]⟩, .int .i64 (checkE b)]) (by simp [results, Tryd.results17, go_sem]) rfl (⟨by rw [wrB, if_neg c11H.out], F10.gb⟩)

end Go.Proofs.YtcndphefomigeaaDoor
