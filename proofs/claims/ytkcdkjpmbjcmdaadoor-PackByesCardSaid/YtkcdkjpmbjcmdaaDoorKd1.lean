/-
  Words for the laws of the kinds.
-/
import Derived.Test.YtkcdkjpmbjcmdaaDoorCa5
namespace Go.Proofs.YtkcdkjpmbjcmdaaDoor
open Go.RowKit

/-- a block's kind. -/
def TypB (w : World) (g T : Nat) : Prop := ∃ l fr, w.heap[g]? = some (.cells l T fr)
theorem TypB.set {w : World} {g T : Nat} (h : TypB w g T) (a : Addr) (v : Value) : TypB (w.setCell a v) g T := by
  obtain ⟨l, fr, h⟩ := h
  unfold World.setCell TypB
  simp only [Array.getElem?_modify, h]
  split
  · exact ⟨_, _, rfl⟩
  · exact ⟨_, _, rfl⟩
theorem TypB.sets {g T : Nat} (g' : Nat) : ∀ (vs : List Value) (o : Nat) {w : World}, TypB w g T → TypB (w.setCells g' o vs) g T
  | [], _, _, h => h
  | v :: vs, o, _, h => TypB.sets g' vs (o + 1) (h.set ⟨g', o, none⟩ v)
theorem TypB.grown {w w' : World} {g T : Nat} {r : Option Nat} (h : TypB w g T) (hg : w.grownBy w' r) (hne : some g ≠ r) : TypB w' g T := by
  obtain ⟨l, fr, h⟩ := h
  exact ⟨l, fr, (hg.block g (Array.getElem?_eq_some_iff.1 h).1 hne).trans h⟩
theorem TypB.below {w w' : World} {g T : Nat} (h : TypB w g T) (hb : Below w.heap.size w w') : TypB w' g T := h.grown (below_grown hb none) (by simp)
theorem TypB.far {w : World} {g T b e s n : Nat} {v : Value} {xs : List Value} (h : TypB w g T) (hO : w.ownsRow b e s v n xs) (he : Nat.beq e T = false) : some g ≠ v.ownBlock := by
  obtain ⟨l, fr, h⟩ := h
  rcases hO.2 with ⟨rfl, _⟩ | ⟨g1, c1, cur1, rfl, _, hg1, _⟩
  · intro h; cases h
  · intro h2
    have h2 : g = g1 := by injection h2
    subst h2
    rw [h] at hg1
    injection hg1 with hg1
    injection hg1 with _ hg1 _
    subst hg1
    rw [Nat.beq_refl] at he
    cases he
/-- 'x := ..' of a struct: a new box, what it is, of what kind. -/
theorem Has.nk {ops : Array Oper} {rest rest' : List Oper} {o1 o2 : Oper} {a : Act} {w W : World} {B : Nat} {bs : List (Nat × List Value)} {Q : Exit → Act → World → Prop} {n : Nat} {l l' : List (Nat × Value)} (H : Has a n l) (O : Own W B bs w) (k : Nat) {d T m : Nat} {y : Operand} {L L0 : List Value} (h1 : L.all (·.oneCell') = true)
    (hz : ∀ w, (zeroValue T).run Tryd.prog w = .ok (.agg L0.toArray) w) (hm : (Tryd.prog.info? T).map (·.size) = some m) (h : ∀ a' w', Below w.heap.size w w' → Own W B ((w.heap.size, L) :: bs) w' → TypB w' w.heap.size T → Has a' n l' → wpList Tryd.prog ops Q rest' a' w') (ho : o1.op = .alloc T := by rfl) (hd : o1.dst = some d := by rfl) (hn : Nat.blt d n = true := by rfl)
    (hg : o1.guard = none := by rfl) (ho2 : o2.op = .store T (.tmp d) y := by rfl) (hd2 : o2.dst = none := by rfl) (hg2 : o2.guard = none := by rfl) (hy : evL ((d, .pointer (some ⟨w.heap.size, 0, none⟩)) :: l) y = some (.agg L.toArray) := by rfl) (hl : L.length = m := by rfl) (hl0 : L0.length = m := by rfl)
    (hr : runM n k rest ((d, .pointer (some ⟨w.heap.size, 0, none⟩)) :: l) = some (rest', l') := by rfl) : wpList Tryd.prog ops Q (o1 :: o2 :: rest) a w := by
  have hb := balloc w (.cells L0.toArray T)
  have hC : Cells (w.alloc (.cells L0.toArray T)) w.heap.size L0 := Cells.of_heap (heap_alloc_new w _)
  have O1 := O.alloc hb (by simp) hC
  have hT1 : TypB (w.alloc (.cells L0.toArray T)) w.heap.size T := ⟨_, _, heap_alloc_new w _⟩
  refine H.go (w' := w.alloc (.cells L0.toArray T)) (gz hg) hd hn (.pointer (some ⟨w.heap.size, 0, none⟩)) ?_ fun a1 H1 => ?_
  · unfold execOp
    simp only [ho]
    simp [Instr.alloc, hz, Sem.run_bind, Result.andThen, newVar, newRow, Value.cells, newObj]
    rfl
  have ht : (w.alloc (.cells L0.toArray T)).there w.heap.size 0 L.toArray.size := by
    have := hC.there
    rw [hl0, ← hl] at this
    simpa using this
  have hr2 := run_storeAt_mid (P := Tryd.prog) (w.alloc (.cells L0.toArray T)) w.heap.size 0 T L.toArray ht (by rw [hm, ← hl]; simp) (all_oneCell_toArray fun v hv => List.all_eq_true.1 h1 v hv)
  have hgr := (setCells_only w.heap.size L 0 (w.alloc (.cells L0.toArray T))).2
  refine H1.run0 (gz hg2) hd2 (run_store ho2 (H1.ev (by show (bif Nat.beq d d then _ else _) = _; rw [Nat.beq_refl, cond_true])) (H1.ev hy) hr2) fun a2 H2 => runM_ok k H2 hr fun a3 H3 => h a3 _ (hb.grown hgr hb.size (fun k hk => by injection hk with hk; rw [← hk]; exact Nat.le_refl _)) (O1.store 0 rfl hgr (setCells_only w.heap.size L 0 _).1.size ?_) (hT1.sets _ L 0) H3
  intro j v hv
  have hj := (List.getElem?_eq_some_iff.1 hv).1
  have a := World.rangeAt_setCells_same _ w.heap.size 0 L (by simpa using ht) j v hv
  have b := (World.there_setCells (by simpa using ht) w.heap.size 0 L j hj).2
  rw [Nat.zero_add] at a b
  exact ⟨a, b⟩
theorem zero_ask (w : World) : (zeroValue 33).run Tryd.prog w = .ok (.agg (mqCells (mq0 0) nilV nilV nilV ++ [nilV]).toArray) w := by kernel_rfl
theorem add_w (u v : Int) (x y : Operand) (w : World) : (do eqGuard .add 3 x y (.int .i64 u) (.int .i64 v); binOp .add 3 (.int .i64 u) (.int .i64 v) : Sem Value).run Tryd.prog w = .ok (.int .i64 (IntKind.i64.wrap (u + v))) w := by
  simp [go_sem]
theorem add_s (u v : ByteArray) (h : u.size + v.size ≤ 2000000) (x y : Operand) (w : World) : (do eqGuard .add 9 x y (.string u) (.string v); binOp .add 9 (.string u) (.string v) : Sem Value).run Tryd.prog w = .ok (.string (u ++ v)) w := by
  simp [go_sem]
  omega
theorem neq_b (u v : Bool) (x y : Operand) (w : World) : (do eqGuard .neq 4 x y (.bool u) (.bool v); binOp .neq 4 (.bool u) (.bool v) : Sem Value).run Tryd.prog w = .ok (.bool (u != v)) w := by
  cases u <;> cases v <;> kernel_rfl
theorem u8_xor_nat (a b : Nat) (ha : a < 256) (hb : b < 256) : bits .xor .u8 (a : Int) (b : Int) = ((a ^^^ b : Nat) : Int) := by
  have hx : a ^^^ b < 2 ^ 8 := Nat.xor_lt_two_pow (by omega) (by omega)
  show IntKind.u8.wrap ((BitVec.ofInt 8 (a : Int) ^^^ BitVec.ofInt 8 (b : Int)).toNat : Int) = _
  rw [BitVec.toNat_xor, ofInt_u8r a ha, ofInt_u8r b hb]
  have h0 : a ^^^ b < 256 := hx
  show ((a ^^^ b : Nat) : Int) % 256 = _
  omega
theorem xor_uI (u v : Int) (x y : Operand) (w : World) : (do eqGuard .xor 5 x y (.int .u8 u) (.int .u8 v); binOp .xor 5 (.int .u8 u) (.int .u8 v) : Sem Value).run Tryd.prog w = .ok (.int .u8 (bits .xor .u8 u v)) w := by kernel_rfl
theorem xor_u (a b : UInt8) (x y : Operand) (w : World) : (do eqGuard .xor 5 x y (bv a) (bv b); binOp .xor 5 (bv a) (bv b) : Sem Value).run Tryd.prog w = .ok (bv (a ^^^ b)) w := by
  have h : bits .xor .u8 (a.toNat : Int) (b.toNat : Int) = ((a ^^^ b).toNat : Int) := by rw [u8_xor_nat _ _ a.toNat_lt b.toNat_lt, UInt8.toNat_xor]
  unfold bv
  rw [← h]
  exact xor_uI _ _ _ _ _
theorem store1_5 (g o : Nat) (v : UInt8) (u : Value) (w : World) (h : w.cell? ⟨g, o, none⟩ = some u) (hf : w.frozen? ⟨g, o, none⟩ = false) : (Instr.storeAt 5 (.pointer (some ⟨g, o, none⟩)) (bv v)).run Tryd.prog w = .ok () (w.setCell ⟨g, o, none⟩ (bv v)) := by
  simp [go_sem, h, hf]
theorem refBytesC (m : Mq) (vc vw vf : Value) (w : World) (hm : mayB m) (hL : MqL w w.heap.size m vc vw vf) :
    Calls Tryd.prog 29 #[.agg (mqCells m vc vw vf).toArray] w fun e w' => ∃ v, e = .returned v ∧ BytesAre (layB m) v w' ∧ Below w.heap.size w w' := by
  refine (refBytes m vc vw vf w hm hL).mono ?_
  rintro e w' ⟨v, rfl, hR, hb⟩
  exact ⟨v, rfl, hR.read, hb⟩
theorem Has.app {ops : Array Oper} {rest : List Oper} {o : Oper} {a : Act} {w : World} {Q : Exit → Act → World → Prop} {n : Nat} {l : List (Nat × Value)} (H : Has a n l) {s x : Operand} {t e : TypeId} {d base size bytes k m c : Nat} {z u : Value} {A : Option Addr} {xs ys : List Value} (hown : w.ownsRow base e size u k xs) (hi : (Tryd.prog.info? e).map (fun i => (i.zero, i.size, i.bytes)) = some (some z, size, bytes))
    (hr : Reads w w.heap.size size A m ys) (h1 : ∀ u ∈ ys, u.oneCell' = true) (hn : k + m ≤ maxLen) (hb : (k + m) * bytes ≤ 140737488355328) (hbase : base ≤ w.heap.size) (h : ∀ a' A' c' w', w'.ownsRow base e size (.slice A' (k + m) c') (k + m) (xs ++ ys) → w.grownBy w' u.ownBlock → Has a' n ((d, .slice A' (k + m) c') :: l) → wpList Tryd.prog ops Q rest a' w')
    (ho : o.op = .call { callee := .builtin .append, args := #[s, x], argTypes := #[t, t] } := by rfl) (hd : o.dst = some d := by rfl) (hnn : Nat.blt d n = true := by rfl) (hg : o.guard = none := by rfl) (ht : Tryd.prog.underlying t = some (.slice e) := by kernel_rfl) (hzs : z.cells.size = size := by rfl) (hsz : 0 < size := by decide)
    (hs : evL l s = some u := by rfl) (hx : evL l x = some (.slice A m c) := by rfl) : wpList Tryd.prog ops Q (o :: rest) a w := by
  obtain ⟨A', c', w', hrun, hO, hgr⟩ := run_app (a := a) ho ht hi hzs hsz (H.ev hs) hown (H.ev hx) hr h1 hn hb hbase
  exact H.go (gz hg) hd hnn _ hrun fun a' H' => h a' A' c' w' hO hgr H'
/-- a row grows, or is put elsewhere: the boxes stay. -/
theorem Own.row {W w w' : World} {B : Nat} {bs : List (Nat × List Value)} {b e s n : Nat} {v : Value} {xs : List Value} (O : Own W B bs w) (hO : w.ownsRow b e s v n xs) (hB : B ≤ b) (hg : w.grownBy w' v.ownBlock) (hall : ∀ p ∈ bs, some p.1 ≠ v.ownBlock) : Own W B bs w' :=
  ⟨O.bel.grown hg O.le fun k hk => Nat.le_trans hB (hO.lt k hk).1, Nat.le_trans O.le hg.size, O.nd, fun p hp => ⟨(O.mem p hp).1, Nat.lt_of_lt_of_le (O.mem p hp).2.1 hg.size, (O.mem p hp).2.2.kept hg (O.mem p hp).2.1 (hall p hp)⟩⟩
/-- rows behind a store into a box of another kind. -/
theorem Own3.set {w : World} {b g : Nat} {m : Mq} {vc vw vf : Value} (h : Own3 w b m vc vw vf) (hT : TypB w g 30) (j : Nat) (v : Value) : Own3 (w.setCell ⟨g, j, none⟩ v) b m vc vw vf :=
  have k := grown_setCell w g j v
  ⟨h.1.kept k (.inr (Ne.symm (hT.far h.1 rfl))), h.2.1.kept k (.inr (Ne.symm (hT.far h.2.1 rfl))), h.2.2.kept k (.inr (Ne.symm (hT.far h.2.2 rfl)))⟩
/-- what one of the kinds' turns leaves. -/
structure Turned (W : World) (g base : Nat) (m : Mq) (vc vw vf : Value) (w : World) : Prop where
  own : Own W W.heap.size [(g, mqCells m vc vw vf)] w
  typ : TypB w g 30
  rows : Own3 w base m vc vw vf
  short : Short m 1000001
  fit : MqFit m
  hb : W.heap.size ≤ base
  hbw : base ≤ w.heap.size
theorem Turned.call {W w w' : World} {g base : Nat} {m : Mq} {vc vw vf : Value} (h : Turned W g base m vc vw vf w) (hb : Below w.heap.size w w') : Turned W g base m vc vw vf w' :=
  ⟨h.own.call hb, h.typ.below hb, ⟨own_below h.rows.1 hb, own_below h.rows.2.1 hb, own_below h.rows.2.2 hb⟩, h.short, h.fit, h.hb, Nat.le_trans h.hbw hb.size⟩
theorem Turned.lists {W w : World} {g base : Nat} {m : Mq} {vc vw vf : Value} (h : Turned W g base m vc vw vf w) : MqL w w.heap.size m vc vw vf := h.rows.lists h.short (by decide)
/-- a cell that is no list's. -/
theorem Turned.cell {W w : World} {g base : Nat} {m m' : Mq} {vc vw vf : Value} (h : Turned W g base m vc vw vf w) (j : Nat) (v : Value) (hj : Nat.blt j 24 = true) (he : (mqCells m vc vw vf).set j v = mqCells m' vc vw vf) (h1 : m'.codes = m.codes) (h2 : m'.wishes = m.wishes) (h3 : m'.filters = m.filters) (hf : MqFit m') : Turned W g base m' vc vw vf (w.setCell ⟨g, j, none⟩ v) := by
  have hr := h.rows.set h.typ j v
  have hj' : j < 24 := by simpa [Nat.blt_eq] using hj
  refine ⟨?_, h.typ.set _ v, ?_, ?_, hf, h.hb, by rw [size_setCell']; exact h.hbw⟩
  · rw [← he]
    exact h.own.store 0 rfl (grown_setCell w g j v) (size_setCell' _ _ _) ((h.own.get 0 rfl).set j v hj')
  · unfold Own3
    rw [h1, h2, h3]
    exact hr
  · unfold Short
    rw [h1, h2, h3]
    exact h.short
end Go.Proofs.YtkcdkjpmbjcmdaaDoor

/-
  The laws of the kinds: packets of one kind, there and back.
-/
namespace Go.Proofs.YtkcdkjpmbjcmdaaDoor
open Go.RowKit

set_option maxRecDepth 100000 in
set_option maxHeartbeats 6400000 in
theorem kind_walk (kd : Int) (A : Option Addr) (len cap : Nat) (w : World) (ha : AskMq w A len) (hT : Wd w) :
    Calls Tryd.prog 36 #[.slice A len cap, .int .i64 kd] w fun e w' => e = .returned (.bool true) ∧ Below w.heap.size w w' := by
  go_enter Tryd.func36, Tryd.ntmps36
  refine Has.start 202 [(0, .slice A len cap), (1, .int .i64 kd)] rfl rfl ⟨rfl, rfl, trivial⟩ ?_
  intro a0 H0
  have O0 := Own.start w
  refine H0.rg 1 fun a1 H1 => nt ?_
  refine wp_seq_join (fun a w' => Has a 202 [(0, .slice A len cap), (1, .int .i64 kd)] ∧ Own w w.heap.size [] w') ?_ ?_
  · refine H1.rg 1 fun a2 H2 => nt ?_
    refine wp_block ?_
    refine wp_loop_up len (fun k a w' => Has a 202 [(0, .slice A len cap), (1, .int .i64 kd), (5, .int .i64 ((k : Nat) : Int))] ∧ Own w w.heap.size [] w') ⟨H2.keep ⟨rfl, rfl, rfl, trivial⟩, O0⟩ ?_
    rintro k a3 w1 hkn ⟨H3, O1⟩
    obtain ⟨b1, e1⟩ : ∃ b, decide ((k : Int) < (len : Int)) = b := ⟨_, rfl⟩
    obtain ⟨b2, e2⟩ : ∃ b, decide ((k : Int) < 10) = b := ⟨_, rfl⟩
    refine H3.tb (Own w w.heap.size []) (fun _ _ h hb => h.call hb) O1 [ec 0 23 (.int .i64 ((k : Nat) : Int)), ec 1 24 (.slice A len cap), ec 2 25 (.int .i64 ((len : Nat) : Int)), ec 3 26 (.bool b1), ec 4 27 (.bool b1), ec 5 28 (gv b1 (.int .i64 ((k : Nat) : Int))), ec 6 29 (gv b1 (.bool b2)), ec 7 30 (.bool (b1 && b2))] rfl ⟨jm, jm, jn Tryd.underlying22, jb fun _ => lss_i _ _ b1 e1 _ _ _, jm, (by cases b1; exact jo; exact jm), (by cases b1; exact jo; exact jb fun _ => lss_i _ _ b2 e2 _ _ _), (by (cases b1 <;> exact jp)), trivial⟩ ?_
    clear H3 O1 H1 H2
    intro a4 w1 H4 O1
    refine then_normal (H4.cond (t := b1 && b2) rfl ?_)
    cases hb : b1 && b2 with
    | false =>
      refine wp_exit ?_
      repeat (with_reducible refine then_exit ?_)
      exact block_leave (then_normal ⟨H4.keep ⟨rfl, rfl, trivial⟩, O1⟩)
    | true =>
    simp only [Bool.and_eq_true] at hb
    rw [hb.1] at e1
    rw [hb.2] at e2
    have hlt : k < len := by simpa using e1
    have h10 : k < 10 := by have : (k : Int) < 10 := of_decide_eq_true e2; omega
    clear e1 e2 hb
    refine skip_wp (then_normal ?_)
    refine wp_seq_join (fun a w' => Has a 202 [(0, .slice A len cap), (1, .int .i64 kd), (5, .int .i64 ((k : Nat) : Int))] ∧ Own w w.heap.size [] w') ?_ ?_
    rotate_left
    · rintro a5 w2 ⟨H5, O2⟩
      refine H5.rg 1 fun a6 H6 => ?_
      refine H6.bb 1 rfl rfl rfl rfl rfl rfl (succ_i k (by omega) _ _ _) rfl fun a7 H7 => nt ?_
      exact ⟨hlt, H7.keep ⟨rfl, rfl, rfl, trivial⟩, O2⟩
    refine wp_block ?_
    obtain ⟨b, o, m, vc, vw, vf, xs, AX, cX, hA, hblt, hrg, hL, hF, hx1, hx2, hx3⟩ := ha k hlt
    have hix : ∀ w', (Instr.indexAt 22 (.slice A len cap) (.int .i64 ((k : Nat) : Int))).run Tryd.prog w' = .ok (.pointer (some ⟨b, o + k * 25, none⟩)) w' := fun w' => by rw [hA]; exact index_m 22 Tryd.underlying22 25 (fun _ => by kernel_rfl) _ _ _ _ _ hlt _
    refine H4.rg 2 fun a5 H5 => ?_
    refine H5.index gz rfl rfl rfl rfl rfl (hix _) fun a6 H6 => ?_
    refine H6.ld 0 (load_ask (rangeB hrg O1.bel hblt)) fun a7 H7 => ?_
    have hones : (mqCells m vc vw vf ++ [Value.slice AX xs.length cX]).all (·.oneCell') = true := by rw [List.all_append, hL.ones]; rfl
    refine H7.nk O1 0 hones zero_ask size_ask fun a8 w2 _ O2 _ H8 => nt ?_
    obtain ⟨g6, hg6⟩ : ∃ g, w1.heap.size = g := ⟨_, rfl⟩
    rw [hg6] at H8 O2
    clear O1 H4 H5 H6 H7
    refine rl ?_
    refine H8.go gz rfl rfl _ (run_load rfl (H8.ev rfl) (load_ask (O2.get 0 rfl).range)) fun a9 H9 => ?_
    refine H9.cl (heavy18 m vc vw vf xs AX cX _ (hL.next O2.bel) hF) ?_
    rintro a10 _ w3 ⟨bh, rfl, hsm, hb⟩ H10
    have O3 := O2.call hb
    clear hb H8 H9
    refine nt (H10.cond (t := bh) rfl ?_)
    cases bh with
    | true =>
      refine H10.rg 1 fun a9 H9 => nt (wp_ret ?_)
      repeat (first | (with_reducible refine block_ret ?_) | (with_reducible refine then_ret ?_))
      exact bodyPost_ret (results_tmp rfl _ _ _) H9.df ⟨congrArg Ending.returned (H9.at_ 4 _ rfl), O3.bel⟩
    | false =>
    obtain ⟨hS0, hxl⟩ := hsm rfl
    have hS := short_of hS0
    refine skip_wp (then_normal ?_)
    refine rl ?_
    refine H10.go gz rfl rfl _ (run_field rfl (H10.ev rfl) (fun g w => fieldAo_0 0 g w)) fun a11 H11 => ?_
    refine H11.ms 1 fun a12 H12 => ?_
    obtain ⟨bk, hbk⟩ : ∃ b, (m.kind != kd) = b := ⟨_, rfl⟩
    refine H12.ld 1 (O3.li 0 0) fun a13 H13 => ?_
    refine H13.bb 0 rfl rfl rfl rfl rfl rfl (neq_3 _ _ _ hbk _ _ _) rfl fun a14 H14 => nt (H14.cond (t := bk) rfl ?_)
    cases bk with
    | true =>
      refine wp_exit ?_
      repeat (with_reducible refine then_exit ?_)
      exact block_leave (then_normal ⟨H14.keep ⟨rfl, rfl, rfl, trivial⟩, Own.bare O3.bel O3.le⟩)
    | false =>
    have hkk : m.kind = kd := by simpa using hbk
    refine skip_wp (then_normal ?_)
    replace H14 := H14.keep (l' := [(0, .slice A len cap), (1, .int .i64 kd), (5, .int .i64 ((k : Nat) : Int)), (6, .pointer (some ⟨g6, 0, none⟩))]) ⟨rfl, rfl, rfl, rfl, trivial⟩
    clear H10 H11 H12 H13 O2
    have hM6 := fun (w' : World) (h : Below w.heap.size w w') => MqL.next hL h
    have hld : ∀ {w'}, Own w w.heap.size [(g6, mqCells m vc vw vf ++ [Value.slice AX xs.length cX])] w' → (Instr.loadAt 30 (.pointer (some ⟨g6, 0, none⟩))).run Tryd.prog w' = .ok (.agg (mqCells m vc vw vf).toArray) w' := fun h => load_mq (rangeF (h.get 0 rfl).range)
    obtain ⟨bm, hbm⟩ : ∃ b, mayBb m = b := ⟨_, rfl⟩
    refine rl ?_
    refine H14.go gz rfl rfl _ (run_field rfl (H14.ev rfl) (fun g w => fieldAo_0 0 g w)) fun a15 H15 => ?_
    refine H15.ld 0 (hld O3) fun a16 H16 => ?_
    cases bm with
    | false =>
      refine H16.cl (bytesNo m _ _ _ _ (mayB_not hbm) (hM6 _ O3.bel) hF (hT.below O3.bel)) ?_
      rintro a17 _ w4 ⟨rfl, hb⟩ H17
      have O4 := O3.call hb
      refine H17.ms 1 fun a18 H18 => ?_
      refine H18.ex (r := .slice none 0 0) 0 fun a19 H19 => ?_
      refine H19.ex (r := .int .i64 1) 2 fun a20 H20 => nt ?_
      refine rl ?_
      refine H20.go gz rfl rfl _ (run_field rfl (H20.ev rfl) (fun g w => fieldAo_0 0 g w)) fun a21 H21 => ?_
      refine H21.ld 0 (hld O4) fun a22 H22 => ?_
      refine H22.cl (belowC (mayC m _ _ _ false hbm _ (hM6 _ O4.bel) hF (hT.below O4.bel))) ?_
      rintro a23 _ w5 ⟨rfl, hb⟩ H23
      have O5 := O4.call hb
      refine H23.ms 1 fun a24 H24 => nt ?_
      refine H24.rg 2 fun a25 H25 => ?_
      refine H25.cq 0 (num18 1 _) fun a26 H26 => ?_
      refine H26.bn 0 (eql_iB _ _ false rfl _ _ _) fun a27 H27 => ?_
      refine H27.bn 1 (neq_b _ _ _ _ _) fun a28 H28 => ?_
      refine H28.move (H28.wt rfl rfl rfl) (.inl rfl) rfl rfl rfl fun a29 H29 => ?_
      refine H29.move (H29.wt rfl rfl rfl) (.inl rfl) rfl rfl rfl fun a30 H30 => ?_
      refine H30.offs 6 rfl fun a31 H31 => ?_
      refine H31.pick (H31.wt rfl rfl rfl) rfl rfl rfl rfl rfl fun a32 H32 => ?_
      refine H32.pick gz rfl rfl rfl rfl rfl fun a33 H33 => nt ?_
      refine H33.condF rfl (skip_wp (then_normal ?_))
      refine H33.rg 1 fun a34 H34 => ?_
      refine H34.uo 0 (hq := run_not false _) fun a35 H35 => nt (H35.condT rfl ?_)
      refine wp_exit ?_
      repeat (with_reducible refine then_exit ?_)
      exact block_leave (then_normal ⟨H35.keep ⟨rfl, rfl, rfl, trivial⟩, Own.bare O5.bel O5.le⟩)
    | true =>
    have hm := mayB_of hbm
    refine H16.cl (bytesYes m _ _ _ _ hm (hM6 _ O3.bel) hF (hT.below O3.bel)) ?_
    rintro a17 _ w4 ⟨vr, rfl, hR, hb⟩ H17
    have O4 := O3.call hb
    refine H17.ms 1 fun a18 H18 => ?_
    refine H18.ex (r := vr) 0 fun a19 H19 => ?_
    refine H19.ex (r := .int .i64 0) 2 fun a20 H20 => nt ?_
    refine rl ?_
    refine H20.go gz rfl rfl _ (run_field rfl (H20.ev rfl) (fun g w => fieldAo_0 0 g w)) fun a21 H21 => ?_
    refine H21.ld 0 (hld O4) fun a22 H22 => ?_
    refine H22.cl (belowC (mayC m _ _ _ true hbm _ (hM6 _ O4.bel) hF (hT.below O4.bel))) ?_
    rintro a23 _ w5 ⟨rfl, hb⟩ H23
    have O5 := O4.call hb
    replace hR := hR.below hb
    refine H23.ms 1 fun a24 H24 => nt ?_
    refine H24.rg 2 fun a25 H25 => ?_
    refine H25.cq 0 (num18 0 _) fun a26 H26 => ?_
    refine H26.bn 0 (eql_iB _ _ true rfl _ _ _) fun a27 H27 => ?_
    refine H27.bn 1 (neq_b _ _ _ _ _) fun a28 H28 => ?_
    clear hb H14 H15 H16 H17 H18 H19 H20 H21 H22 H23 H24 H25 H26 H27 O3 O4
    refine H28.move (H28.wt rfl rfl rfl) (.inl rfl) rfl rfl rfl fun a29 H29 => ?_
    refine H29.move (H29.wt rfl rfl rfl) (.inl rfl) rfl rfl rfl fun a30 H30 => ?_
    refine H30.move (H30.wt rfl rfl rfl) (.inl rfl) rfl rfl rfl fun a31 H31 => ?_
    refine H31.go (H31.wt rfl rfl rfl) rfl rfl _ (run_field rfl (H31.ev rfl) (fun g w => fieldAo_0 0 g w)) fun a32 H32 => ?_
    refine H32.load (H32.wt rfl rfl rfl) rfl rfl rfl rfl (hld O5) fun a33 H33 => ?_
    refine H33.call (H33.wt rfl rfl rfl) rfl rfl rfl rfl (fun _ _ => by kernel_rfl) (refBytesC m vc vw vf _ hm (hM6 _ O5.bel)) ?_
    rintro a34 v2 w6 ⟨hR2, hb⟩ H34
    have O6 := O5.call hb
    replace hR := hR.below hb
    refine H34.call (H34.wt rfl rfl rfl) rfl rfl rfl rfl (fun _ _ => by kernel_rfl) (belowC (eqBy (layB m) vr v2 _ hR.read hR2 (lay_maxLen hm))) ?_
    rintro a35 _ w7 ⟨rfl, hb⟩ H35
    have O7 := O6.call hb
    replace hR := hR.below hb
    refine H35.un (H35.wt rfl rfl rfl) rfl rfl rfl rfl (run_not true _) fun a36 H36 => ?_
    refine H36.pick (H36.wt rfl rfl rfl) rfl rfl rfl rfl rfl fun a37 H37 => ?_
    refine H37.pick gz rfl rfl rfl rfl rfl fun a38 H38 => nt ?_
    refine H38.condF rfl (skip_wp (then_normal ?_))
    refine H38.rg 1 fun a39 H39 => ?_
    refine H39.uo 0 (hq := run_not true _) fun a40 H40 => nt (H40.condF rfl (skip_wp (then_normal ?_)))
    obtain ⟨Ar, cr, rfl, hown⟩ := id hR
    obtain ⟨_, _, hve, hcr, _⟩ := own_shape hown
    injection hve with _ _ hce
    subst hce
    have hrd : RB w7 w7.heap.size Ar (layB m) := by obtain ⟨_, _, h, hr⟩ := hR.read; injection h with h1 _ _; subst h1; exact hr
    have hll := lay_le hm
    have hl0 : 2 ≤ (layB m).length := by rw [lay_length]; have : 1 ≤ (vlen (bodyBy m).length).length := by unfold vlen; split <;> simp
                                         omega
    replace H40 := H40.keep (l' := [(0, .slice A len cap), (1, .int .i64 kd), (5, .int .i64 ((k : Nat) : Int)), (6, .pointer (some ⟨g6, 0, none⟩)), (7, .slice Ar (layB m).length cr)]) ⟨rfl, rfl, rfl, rfl, rfl, trivial⟩
    clear H28 H29 H30 H31 H32 H33 H34 H35 H36 H37 H38 H39 O5 O6 hb hR2
    refine H40.rg 1 fun a15 H15 => ?_
    refine H15.cl (parseC (layB m) Ar cr hcr _ hrd (by omega) (hT.below O7.bel)) ?_
    rintro a16 _ w8 ⟨m1, n1, er1, vc1, vw1, vf1, rfl, hP1, ⟨hR1, hln⟩, hsm, hb⟩ H16
    have hP2 := parsed_lay hm []
    rw [List.append_nil] at hP2
    obtain ⟨rfl, rfl, rfl⟩ := parsed_one hP2 hP1
    have O8 := O7.call hb
    replace hR := hR.below hb
    have hM1 := MqL.of_rows hR1 hln (by decide)
    refine H16.ms 1 fun a17 H17 => ?_
    refine H17.ex (r := .agg (mqCells m vc1 vw1 vf1).toArray) 0 fun a18 H18 => ?_
    refine H18.ex (r := .int .i64 ((layB m).length : Int)) 0 fun a19 H19 => ?_
    refine H19.ex (r := .int .i64 0) 0 fun a20 H20 => ?_
    refine H20.nw O8 2 hM1.ones fun a21 w9 hb9 O9 H21 => nt ?_
    replace hR := hR.below hb9
    replace hM1 := hM1.next hb9
    obtain ⟨g10, hg10⟩ : ∃ g, w8.heap.size = g := ⟨_, rfl⟩
    rw [hg10] at H21 O9
    clear hb hb9 H40 H15 H16 H17 H18 H19 H20 O7 O8 hrd hP1 hP2 hown
    have hrd : RB w9 w9.heap.size Ar (layB m) := by obtain ⟨_, _, h, hr⟩ := hR.read; injection h with h1 _ _; subst h1; exact hr
    obtain ⟨gb, go, x0, rfl, hgb, hx0, hcell⟩ := RB.get hrd (k := 0) (by omega)
    rw [Nat.add_zero] at hcell
    have hl2 := hl0
    replace hl0 : 0 < (layB m).length := by omega
    have hx16 : x0.toNat / 16 = m.kind.toNat ∧ 1 ≤ m.kind ∧ m.kind ≤ 14 := by
      have k1 := may_kind hm.1
      have h0 : x0 = UInt8.ofNat (16 * m.kind.toNat + flagsBy m) := by
        have : (layB m)[0]? = some (UInt8.ofNat (16 * m.kind.toNat + flagsBy m)) := rfl
        rw [this] at hx0
        injection hx0 with hx0
        exact hx0.symm
      rw [h0]
      exact ⟨(first_parts m.kind.toNat (flagsBy m) (by omega) (flagsBy_le hm.1)).1, k1⟩
    have hconv : ((x0.toNat : Int) / ((2 ^ 4 : Nat) : Int)) = kd := by
      have : ((2 ^ 4 : Nat) : Int) = 16 := rfl
      rw [this]
      omega
    have hcv : ∀ w', (convert 5 3 (.int .u8 ((x0.toNat : Int) / ((2 ^ 4 : Nat) : Int)))).run Tryd.prog w' = .ok (.int .i64 kd) w' := fun w' => by rw [hconv]; exact conv_53 kd (by omega) (by omega) w'
    replace H21 := H21.keep (l' := [(0, .slice A len cap), (1, .int .i64 kd), (5, .int .i64 ((k : Nat) : Int)), (6, .pointer (some ⟨g6, 0, none⟩)), (7, (.slice (some ⟨gb, go, none⟩) (layB m).length cr)), (10, .pointer (some ⟨g10, 0, none⟩)), (11, .int .i64 ((layB m).length : Int)), (12, .int .i64 0)]) ⟨rfl, rfl, rfl, rfl, rfl, rfl, rfl, rfl, trivial⟩
    refine H21.tb (fun w' => Own w w.heap.size [(g10, mqCells m vc1 vw1 vf1), (g6, mqCells m vc vw vf ++ [Value.slice AX xs.length cX])] w' ∧ Below w9.heap.size w9 w') (fun _ _ h hb => ⟨h.1.call hb, h.2.trans (hb.mono h.2.size)⟩) ⟨O9, Below.refl _ _⟩ [ec 0 77 (.int .i64 0), ec 1 78 (.int .i64 0), ec 2 79 (.bool false), ec 3 80 (.bool false), ec 4 81 (.int .i64 ((layB m).length : Int)), ec 5 82 ((.slice (some ⟨gb, go, none⟩) (layB m).length cr)), ec 6 83 (.int .i64 ((layB m).length : Int)), ec 7 84 (.bool false), ec 8 85 (.bool false), ec 9 86 (.bool false), ec 10 87 ((.agg (mqCells m vc1 vw1 vf1).toArray)), ec 11 88 (.pointer (some ⟨g6, 0, none⟩)), ec 12 89 ((.agg (mqCells m vc vw vf).toArray)), eh 13 90 (.bool true), ec 14 91 (.bool false), ec 15 92 (.bool false), ec 16 93 (.bool false), ec 17 94 ((.slice (some ⟨gb, go, none⟩) (layB m).length cr)), ec 18 95 (.int .i64 ((layB m).length : Int)), ec 19 96 (.bool false), ec 20 97 (.bool false), ec 21 98 (.bool false), ec 22 99 ((.slice (some ⟨gb, go, none⟩) (layB m).length cr)), ec 23 100 (.pointer (some ⟨gb, go, none⟩)), ec 24 101 (.int .u8 (x0.toNat : Int)), ec 25 102 (.int .u8 ((x0.toNat : Int) / ((2 ^ 4 : Nat) : Int))), ec 26 103 (.int .i64 kd), ec 27 104 (.int .i64 kd), ec 28 105 (.bool false), ec 29 106 (.bool false)] rfl ⟨jm, jq fun w' _ => num18 _ w', jb fun _ => neq_3 0 0 false rfl _ _ _, jm, jm, jm, jn Tryd.underlying31, jb fun _ => neq_3 ((layB m).length : Int) ((layB m).length : Int) false (by simp) _ _ _, jp, jm, jl fun _ h => loadS_run (h.1.get 0 rfl), jf (fun g w => fieldAo_0 0 g w), jl fun _ h => load_mq (rangeF (h.1.get 1 rfl).range), kb fun w' h => eqMqS m _ _ _ _ _ _ w' (hM1.next h.2) (hM6 _ h.1.bel), ju (hq := run_not true), jp, jm, jm, jn Tryd.underlying31, jb fun _ => lss_i ((layB m).length : Int) 2 false (decide_eq_false (by omega)) _ _ _, jp, jm, jm, jI rfl rfl rfl rfl rfl rfl fun w => index_0 _ _ _ _ hl0 w, jl fun _ h => load1_u _ _ _ _ ((cellB h.2 hgb).trans hcell), jb fun _ => shr_u _ 4 _ _ _ (.inr (.inr rfl)), jc hcv, jm, jb fun _ => neq_3 kd kd false (by simp) _ _ _, jp, trivial⟩ ?_
    intro a22 wX H22 ⟨OX, hbX⟩
    refine then_normal (H22.condF rfl (skip_wp (then_normal ?_)))
    replace hR := hR.below hbX
    replace hM1 := hM1.next hbX
    have hTX := hT.below OX.bel
    have hC10 := OX.get 0 rfl
    have hl10 := OX.lt 0 rfl
    replace H22 := H22.keep (l' := [(0, .slice A len cap), (1, .int .i64 kd), (5, .int .i64 ((k : Nat) : Int)), (7, .slice (some ⟨gb, go, none⟩) (layB m).length cr), (10, .pointer (some ⟨g10, 0, none⟩))]) ⟨rfl, rfl, rfl, rfl, rfl, trivial⟩
    have hrd : RB wX wX.heap.size (some ⟨gb, go, none⟩) (layB m) := by obtain ⟨_, _, h, hr⟩ := hR.read; injection h with h1 _ _; subst h1; exact hr
    have hSm : Short m 1000000 := hS
    have hx00 := hx0
    clear H21 hcell hgb hx0 hx16 hconv O9 hbX hld
    have hFm : ∀ m', m'.client = m.client → m'.wt = m.wt → m'.wp = m.wp → m'.user = m.user → m'.payload = m.payload → m'.topic.size ≤ 1000001 → m'.pass.size ≤ 1000001 → (∀ s ∈ m'.wishes, Fits s.1) → (∀ s ∈ m'.filters, Fits s) → MqFit m' := fun m' h1 h2 h3 h4 h5 h6 h7 h8 h9 =>
      ⟨h1 ▸ hF.client, h2 ▸ hF.wt, h3 ▸ hF.wp, h4 ▸ hF.user, by unfold Fits; omega, by unfold Fits; omega, h5 ▸ hF.payload, h8, h9⟩
    have hts := hsm.topic
    have hps := hsm.pass
    obtain ⟨hS1, hS2, hS3⟩ := id hSm
    refine wp_seq_join (fun a w' => Has a 202 [(0, .slice A len cap), (1, .int .i64 kd), (5, .int .i64 ((k : Nat) : Int)), (7, .slice (some ⟨gb, go, none⟩) (layB m).length cr)] ∧ Own wX wX.heap.size [] w') ?_ ?_
    · refine H22.rg 1 fun a1 H1 => nt ?_
      refine wp_block ?_
      refine wp_loop_up 8 (fun j a w' => Has a 202 ((13, .int .i64 (j : Int)) :: [(0, .slice A len cap), (1, .int .i64 kd), (5, .int .i64 ((k : Nat) : Int)), (7, .slice (some ⟨gb, go, none⟩) (layB m).length cr), (10, .pointer (some ⟨g10, 0, none⟩))]) ∧ Own wX wX.heap.size [] w') ⟨H1.keep ⟨rfl, rfl, rfl, rfl, rfl, rfl, trivial⟩, Own.start wX⟩ ?_
      rintro j a2 y1 hj8 ⟨H2, Q1⟩
      refine H2.rg 1 fun a3 H3 => ?_
      refine H3.bb 0 rfl rfl rfl rfl rfl rfl (lss_i _ _ _ rfl _ _ _) rfl fun a4 H4 => nt (H4.cond (t := decide ((j : Int) < 8)) rfl ?_)
      by_cases hj : j < 8
      rotate_left
      · rw [decide_eq_false (by omega)]
        refine wp_exit ?_
        repeat (with_reducible refine then_exit ?_)
        exact block_leave (then_normal ⟨H4.keep ⟨rfl, rfl, rfl, rfl, trivial⟩, Q1⟩)
      rw [decide_eq_true (by omega)]
      refine skip_wp (then_normal ?_)
      refine wp_seq_join (fun a w' => Has a 202 ((13, .int .i64 (j : Int)) :: [(0, .slice A len cap), (1, .int .i64 kd), (5, .int .i64 ((k : Nat) : Int)), (7, .slice (some ⟨gb, go, none⟩) (layB m).length cr), (10, .pointer (some ⟨g10, 0, none⟩))]) ∧ Own wX wX.heap.size [] w') ?_ ?_
      rotate_left
      · rintro a5 y2 ⟨H5, Q2⟩
        refine H5.rg 1 fun a6 H6 => ?_
        refine H6.bb 1 rfl rfl rfl rfl rfl rfl (succ_i j (by omega) _ _ _) rfl fun a7 H7 => nt ?_
        exact ⟨hj, H7.keep ⟨rfl, rfl, rfl, rfl, rfl, rfl, trivial⟩, Q2⟩
      refine wp_block ?_
      replace H4 := H4.keep (l' := (13, .int .i64 (j : Int)) :: [(0, .slice A len cap), (1, .int .i64 kd), (5, .int .i64 ((k : Nat) : Int)), (7, .slice (some ⟨gb, go, none⟩) (layB m).length cr), (10, .pointer (some ⟨g10, 0, none⟩))]) ⟨rfl, rfl, rfl, rfl, rfl, rfl, trivial⟩
      refine rl ?_
      refine H4.ld 0 (loadS_run (hC10.below Q1.bel hl10)) fun a5 H5 => ?_
      refine H5.cl (refCopyMq m _ _ _ _ (hM1.next Q1.bel) hSm) ?_
      rintro a6 _ y2 ⟨vc', vw', vf', rfl, h3, hb⟩ H6
      have Q2 := Q1.call hb
      have hM := h3.lists hSm (by decide)
      refine H6.nk Q2 0 hM.ones zero_mq size_mq fun a7 y3 hb3 Q3 hTy H7 => nt ?_
      obtain ⟨g14, hg14⟩ : ∃ g, y2.heap.size = g := ⟨_, rfl⟩
      rw [hg14] at H7 Q3 hTy
      have T3 : Turned wX g14 y1.heap.size m vc' vw' vf' y3 := ⟨Q3, hTy, ⟨own_below h3.1 hb3, own_below h3.2.1 hb3, own_below h3.2.2 hb3⟩, ⟨by omega, by omega, by omega⟩, hF, Q1.bel.size, Nat.le_trans hb.size hb3.size⟩
      clear H1 H2 H3 H4 H5 H6 Q2 Q3 hb hb3 hM h3 hTy
      refine wp_seq_join (fun a w' => ∃ m' vc' vw' vf', Has a 202 ((13, .int .i64 (j : Int)) :: (14, .pointer (some ⟨g14, 0, none⟩)) :: [(0, .slice A len cap), (1, .int .i64 kd), (5, .int .i64 ((k : Nat) : Int)), (7, .slice (some ⟨gb, go, none⟩) (layB m).length cr), (10, .pointer (some ⟨g10, 0, none⟩))]) ∧ Turned wX g14 y1.heap.size m' vc' vw' vf' w') ?_ ?_
      · refine H7.rg 1 fun a1 H1 => nt (wp_block ?_)
        refine H1.rg 0 fun a2 H2 => ?_
        refine H2.bn 1 (eql_i _ _ _ _ _) fun a3 H3 => nt (H3.cond (t := ((j : Nat) : Int) == 0) rfl ?_)
        cases t0 : ((j : Nat) : Int) == 0 with
        | true =>
          refine H3.rg 1 fun b1 K1 => ?_
          refine K1.ld 0 (T3.own.li 0 20) fun b2 K2 => ?_
          refine K2.bn 1 (add_w _ _ _ _ _) fun b3 K3 => ?_
          refine K3.store gz rfl rfl rfl rfl (store1_i _ _ _ _ _ ((T3.own.get 0 rfl).get 20 _ rfl) ((T3.own.get 0 rfl).fr 20 rfl)) fun k4 K4 => ?_
          refine wpList_nil ?_
          repeat (first | (with_reducible refine block_normal ?_) | (with_reducible refine then_normal ?_))
          exact ⟨{ m with id := IntKind.i64.wrap (m.id + 1) }, vc', vw', vf', K4.keep ⟨rfl, rfl, rfl, rfl, rfl, rfl, rfl, trivial⟩, T3.cell (m' := { m with id := IntKind.i64.wrap (m.id + 1) }) 20 (.int .i64 (IntKind.i64.wrap (m.id + 1))) rfl rfl rfl rfl rfl (hFm _ rfl rfl rfl rfl rfl (by show m.topic.size ≤ _; omega) (by show m.pass.size ≤ _; omega) hF.wishes hF.filters)⟩
        | false =>
        replace H1 := H3
        clear H2 H3
        refine H1.rg 0 fun a2 H2 => ?_
        refine H2.bn 1 (eql_i _ _ _ _ _) fun a3 H3 => nt (H3.cond (t := ((j : Nat) : Int) == 1) rfl ?_)
        cases t1 : ((j : Nat) : Int) == 1 with
        | true =>
          refine H3.rg 1 fun b1 K1 => ?_
          refine K1.ld 0 (T3.own.ls 0 19) fun b2 K2 => ?_
          refine K2.bn 1 (add_s m.topic { data := #[35] } (by show m.topic.size + 1 ≤ _; omega) _ _ _) fun b3 K3 => ?_
          refine K3.store gz rfl rfl rfl rfl (store1_s _ _ _ _ _ ((T3.own.get 0 rfl).get 19 _ rfl) ((T3.own.get 0 rfl).fr 19 rfl)) fun k4 K4 => ?_
          refine wpList_nil ?_
          repeat (first | (with_reducible refine block_normal ?_) | (with_reducible refine then_normal ?_))
          exact ⟨{ m with topic := m.topic ++ { data := #[35] } }, vc', vw', vf', K4.keep ⟨rfl, rfl, rfl, rfl, rfl, rfl, rfl, trivial⟩, T3.cell (m' := { m with topic := m.topic ++ { data := #[35] } }) 19 (.string (m.topic ++ { data := #[35] })) rfl rfl rfl rfl rfl (hFm _ rfl rfl rfl rfl rfl (by show (m.topic ++ _).size ≤ _; rw [ByteArray.size_append]; show m.topic.size + 1 ≤ _; omega) (by show m.pass.size ≤ _; omega) hF.wishes hF.filters)⟩
        | false =>
        replace H1 := H3
        clear H2 H3
        refine H1.rg 0 fun a2 H2 => ?_
        refine H2.bn 1 (eql_i _ _ _ _ _) fun a3 H3 => nt (H3.cond (t := ((j : Nat) : Int) == 2) rfl ?_)
        cases t2 : ((j : Nat) : Int) == 2 with
        | true =>
          obtain ⟨Ac, cc, rfl, _, _⟩ := own_shape T3.rows.1
          refine H3.rg 1 fun b1 K1 => ?_
          refine K1.ld 0 (T3.own.l6 0 15) fun b2 K2 => ?_
          refine K2.go (w' := y3.alloc (.cells ([iv 3]).toArray 3)) gz rfl rfl (.slice (some ⟨y3.heap.size, 0, none⟩) 1 1) (run_any K2 (by intro cs b h; cases h) (by kernel_rfl) (by kernel_rfl)) fun b3 K3 => ?_
          have T4 := T3.call (balloc y3 (.cells ([iv 3]).toArray 3))
          refine K3.app T4.rows.1 info_int (Reads.lit y3 3 ([iv 3]) (0, 0) 1 1 rfl) (one_iv _) (by unfold maxLen; omega) (by omega) T4.hbw fun b4 A' c' y5 hO hg K4 => ?_
          refine K4.ms 1 fun b5 K5 => ?_
          have Q5 := T4.own.row T4.rows.1 T4.hb hg (fun p hp => by simp only [List.mem_singleton] at hp; rw [hp]; exact T4.typ.far T4.rows.1 rfl)
          have hTy := T4.typ.grown hg (T4.typ.far T4.rows.1 rfl)
          refine K5.store gz rfl rfl rfl rfl (store1_26 _ _ _ _ _ _ _ ((Q5.get 0 rfl).get 15 _ rfl) ((Q5.get 0 rfl).fr 15 rfl)) fun b6 K6 => ?_
          refine wpList_nil ?_
          repeat (first | (with_reducible refine block_normal ?_) | (with_reducible refine then_normal ?_))
          refine ⟨{ m with codes := m.codes ++ [3] }, .slice A' (m.codes.length + 1) c', vw', vf', K6.keep ⟨rfl, rfl, rfl, rfl, rfl, rfl, rfl, trivial⟩, ?_⟩
          have hr : Own3 y5 y1.heap.size { m with codes := m.codes ++ [3] } (.slice A' (m.codes.length + 1) c') vw' vf' := ⟨by show World.ownsRow _ _ _ _ _ (m.codes ++ [3]).length ((m.codes ++ [3]).map iv); rw [map_iv_snoc, List.length_append]; exact hO, T4.rows.2.1.kept hg (own_apart T4.rows.2.1 T4.rows.1 rfl), T4.rows.2.2.kept hg (own_apart T4.rows.2.2 T4.rows.1 rfl)⟩
          refine ⟨Q5.store 0 rfl (grown_setCell _ _ _ _) (size_setCell' _ _ _) ((Q5.get 0 rfl).set 15 _ (by show 15 < 24; decide)), hTy.set _ _, hr.set hTy _ _, ?_, ?_, T4.hb, by rw [size_setCell']; exact Nat.le_trans T4.hbw hg.size⟩
          · exact ⟨by show (m.codes ++ _).length ≤ _; simp; omega, by show m.wishes.length ≤ _; omega, by show m.filters.length ≤ _; omega⟩
          · exact hFm _ rfl rfl rfl rfl rfl (by show m.topic.size ≤ _; omega) (by show m.pass.size ≤ _; omega) hF.wishes hF.filters
        | false =>
        replace H1 := H3
        clear H2 H3
        refine H1.rg 0 fun a2 H2 => ?_
        refine H2.bn 1 (eql_i _ _ _ _ _) fun a3 H3 => nt (H3.cond (t := ((j : Nat) : Int) == 3) rfl ?_)
        cases t3 : ((j : Nat) : Int) == 3 with
        | true =>
          obtain ⟨Ac, cc, rfl, _, _⟩ := own_shape T3.rows.2.1
          refine H3.rg 1 fun b1 K1 => ?_
          refine K1.ld 0 (T3.own.l7 0 22) fun b2 K2 => ?_
          refine K2.any (w' := y3) gz rfl rfl (.agg #[.string nos, .int .i64 0]) (by intro cs b h; cases h) (by kernel_rfl) (by kernel_rfl) fun b2 K2 => ?_
          refine K2.go (w' := y3.alloc (.cells (wv [(nos, 0)]).toArray 95)) gz rfl rfl (.slice (some ⟨y3.heap.size, 0, none⟩) 1 1) (run_any K2 (by intro cs b h; cases h) (by kernel_rfl) (by kernel_rfl)) fun b3 K3 => ?_
          have T4 := T3.call (balloc y3 (.cells (wv [(nos, 0)]).toArray 95))
          refine K3.app T4.rows.2.1 info_wish (Reads.lit y3 95 (wv [(nos, 0)]) (0, 0) 2 1 rfl) (one_wv _) (by unfold maxLen; omega) (by omega) T4.hbw fun b4 A' c' y5 hO hg K4 => ?_
          refine K4.ms 1 fun b5 K5 => ?_
          have Q5 := T4.own.row T4.rows.2.1 T4.hb hg (fun p hp => by simp only [List.mem_singleton] at hp; rw [hp]; exact T4.typ.far T4.rows.2.1 rfl)
          have hTy := T4.typ.grown hg (T4.typ.far T4.rows.2.1 rfl)
          refine K5.store gz rfl rfl rfl rfl (store1_27 _ _ _ _ _ _ _ ((Q5.get 0 rfl).get 22 _ rfl) ((Q5.get 0 rfl).fr 22 rfl)) fun b6 K6 => ?_
          refine wpList_nil ?_
          repeat (first | (with_reducible refine block_normal ?_) | (with_reducible refine then_normal ?_))
          refine ⟨{ m with wishes := m.wishes ++ [(nos, 0)] }, vc', .slice A' (m.wishes.length + 1) c', vf', K6.keep ⟨rfl, rfl, rfl, rfl, rfl, rfl, rfl, trivial⟩, ?_⟩
          have hr : Own3 y5 y1.heap.size { m with wishes := m.wishes ++ [(nos, 0)] } vc' (.slice A' (m.wishes.length + 1) c') vf' := ⟨T4.rows.1.kept hg (own_apart T4.rows.1 T4.rows.2.1 rfl), by show World.ownsRow _ _ _ _ _ (m.wishes ++ [(nos, 0)]).length (wv (m.wishes ++ [(nos, 0)])); rw [wv_append, List.length_append]; exact hO, T4.rows.2.2.kept hg (own_apart T4.rows.2.2 T4.rows.2.1 rfl)⟩
          refine ⟨Q5.store 0 rfl (grown_setCell _ _ _ _) (size_setCell' _ _ _) ((Q5.get 0 rfl).set 22 _ (by show 22 < 24; decide)), hTy.set _ _, hr.set hTy _ _, ?_, ?_, T4.hb, by rw [size_setCell']; exact Nat.le_trans T4.hbw hg.size⟩
          · exact ⟨by show m.codes.length ≤ _; omega, by show (m.wishes ++ _).length ≤ _; simp; omega, by show m.filters.length ≤ _; omega⟩
          · exact hFm _ rfl rfl rfl rfl rfl (by show m.topic.size ≤ _; omega) (by show m.pass.size ≤ _; omega) (fun s hs => by rcases List.mem_append.1 hs with h | h; exact hF.wishes s h; rw [List.mem_singleton.1 h]; unfold Fits; decide) hF.filters
        | false =>
        replace H1 := H3
        clear H2 H3
        refine H1.rg 0 fun a2 H2 => ?_
        refine H2.bn 1 (eql_i _ _ _ _ _) fun a3 H3 => nt (H3.cond (t := ((j : Nat) : Int) == 4) rfl ?_)
        cases t4 : ((j : Nat) : Int) == 4 with
        | true =>
          obtain ⟨Ac, cc, rfl, _, _⟩ := own_shape T3.rows.2.2
          refine H3.rg 1 fun b1 K1 => ?_
          refine K1.ld 0 (T3.own.l8 0 23) fun b2 K2 => ?_
          refine K2.go (w' := y3.alloc (.cells ([sv ⟨#[0]⟩]).toArray 9)) gz rfl rfl (.slice (some ⟨y3.heap.size, 0, none⟩) 1 1) (run_any K2 (by intro cs b h; cases h) (by kernel_rfl) (by kernel_rfl)) fun b3 K3 => ?_
          have T4 := T3.call (balloc y3 (.cells ([sv ⟨#[0]⟩]).toArray 9))
          refine K3.app T4.rows.2.2 info_string (Reads.lit y3 9 ([sv ⟨#[0]⟩]) (0, 0) 1 1 rfl) (one_sv _) (by unfold maxLen; omega) (by omega) T4.hbw fun b4 A' c' y5 hO hg K4 => ?_
          refine K4.ms 1 fun b5 K5 => ?_
          have Q5 := T4.own.row T4.rows.2.2 T4.hb hg (fun p hp => by simp only [List.mem_singleton] at hp; rw [hp]; exact T4.typ.far T4.rows.2.2 rfl)
          have hTy := T4.typ.grown hg (T4.typ.far T4.rows.2.2 rfl)
          refine K5.store gz rfl rfl rfl rfl (store1_28 _ _ _ _ _ _ _ ((Q5.get 0 rfl).get 23 _ rfl) ((Q5.get 0 rfl).fr 23 rfl)) fun b6 K6 => ?_
          refine wpList_nil ?_
          repeat (first | (with_reducible refine block_normal ?_) | (with_reducible refine then_normal ?_))
          refine ⟨{ m with filters := m.filters ++ [⟨#[0]⟩] }, vc', vw', .slice A' (m.filters.length + 1) c', K6.keep ⟨rfl, rfl, rfl, rfl, rfl, rfl, rfl, trivial⟩, ?_⟩
          have hr : Own3 y5 y1.heap.size { m with filters := m.filters ++ [⟨#[0]⟩] } vc' vw' (.slice A' (m.filters.length + 1) c') := ⟨T4.rows.1.kept hg (own_apart T4.rows.1 T4.rows.2.2 rfl), T4.rows.2.1.kept hg (own_apart T4.rows.2.1 T4.rows.2.2 rfl), by show World.ownsRow _ _ _ _ _ (m.filters ++ [(⟨#[0]⟩ : ByteArray)]).length ((m.filters ++ [(⟨#[0]⟩ : ByteArray)]).map sv); rw [map_sv_snoc, List.length_append]; exact hO⟩
          refine ⟨Q5.store 0 rfl (grown_setCell _ _ _ _) (size_setCell' _ _ _) ((Q5.get 0 rfl).set 23 _ (by show 23 < 24; decide)), hTy.set _ _, hr.set hTy _ _, ?_, ?_, T4.hb, by rw [size_setCell']; exact Nat.le_trans T4.hbw hg.size⟩
          · exact ⟨by show m.codes.length ≤ _; omega, by show m.wishes.length ≤ _; omega, by show (m.filters ++ _).length ≤ _; simp; omega⟩
          · exact hFm _ rfl rfl rfl rfl rfl (by show m.topic.size ≤ _; omega) (by show m.pass.size ≤ _; omega) hF.wishes (fun s hs => by rcases List.mem_append.1 hs with h | h; exact hF.filters s h; rw [List.mem_singleton.1 h]; unfold Fits; decide)
        | false =>
        replace H1 := H3
        clear H2 H3
        refine H1.rg 0 fun a2 H2 => ?_
        refine H2.bn 1 (eql_i _ _ _ _ _) fun a3 H3 => nt (H3.cond (t := ((j : Nat) : Int) == 5) rfl ?_)
        cases t5 : ((j : Nat) : Int) == 5 with
        | true =>
          refine rl ?_
          refine H3.ms 2 fun b1 K1 => ?_
          refine K1.store gz rfl rfl rfl rfl (store1_i _ _ _ _ _ ((T3.own.get 0 rfl).get 7 _ rfl) ((T3.own.get 0 rfl).fr 7 rfl)) fun k4 K4 => ?_
          refine wpList_nil ?_
          repeat (first | (with_reducible refine block_normal ?_) | (with_reducible refine then_normal ?_))
          exact ⟨{ m with wq := 3 }, vc', vw', vf', K4.keep ⟨rfl, rfl, rfl, rfl, rfl, rfl, rfl, trivial⟩, T3.cell (m' := { m with wq := 3 }) 7 (.int .i64 3) rfl rfl rfl rfl rfl (hFm _ rfl rfl rfl rfl rfl (by show m.topic.size ≤ _; omega) (by show m.pass.size ≤ _; omega) hF.wishes hF.filters)⟩
        | false =>
        replace H1 := H3
        clear H2 H3
        refine H1.rg 0 fun a2 H2 => ?_
        refine H2.bn 1 (eql_i _ _ _ _ _) fun a3 H3 => nt (H3.cond (t := ((j : Nat) : Int) == 6) rfl ?_)
        cases t6 : ((j : Nat) : Int) == 6 with
        | true =>
          refine H3.rg 1 fun b1 K1 => ?_
          refine K1.ld 0 (T3.own.ls 0 11) fun b2 K2 => ?_
          refine K2.bn 1 (add_s m.pass { data := #[120] } (by show m.pass.size + 1 ≤ _; omega) _ _ _) fun b3 K3 => ?_
          refine K3.store gz rfl rfl rfl rfl (store1_s _ _ _ _ _ ((T3.own.get 0 rfl).get 11 _ rfl) ((T3.own.get 0 rfl).fr 11 rfl)) fun k4 K4 => ?_
          refine wpList_nil ?_
          repeat (first | (with_reducible refine block_normal ?_) | (with_reducible refine then_normal ?_))
          exact ⟨{ m with pass := m.pass ++ { data := #[120] } }, vc', vw', vf', K4.keep ⟨rfl, rfl, rfl, rfl, rfl, rfl, rfl, trivial⟩, T3.cell (m' := { m with pass := m.pass ++ { data := #[120] } }) 11 (.string (m.pass ++ { data := #[120] })) rfl rfl rfl rfl rfl (hFm _ rfl rfl rfl rfl rfl (by show m.topic.size ≤ _; omega) (by show (m.pass ++ _).size ≤ _; rw [ByteArray.size_append]; show m.pass.size + 1 ≤ _; omega) hF.wishes hF.filters)⟩
        | false =>
        replace H1 := H3
        clear H2 H3
        refine H1.rg 0 fun a2 H2 => ?_
        refine H2.bn 1 (eql_i _ _ _ _ _) fun a3 H3 => nt (H3.cond (t := ((j : Nat) : Int) == 7) rfl ?_)
        cases t7 : ((j : Nat) : Int) == 7 with
        | true =>
          refine H3.rg 1 fun b1 K1 => ?_
          refine K1.ld 0 (T3.own.lb 0 13) fun b2 K2 => ?_
          refine K2.uo 1 (hq := run_not _ _) fun b3 K3 => ?_
          refine K3.store gz rfl rfl rfl rfl (store1_b _ _ _ _ _ ((T3.own.get 0 rfl).get 13 _ rfl) ((T3.own.get 0 rfl).fr 13 rfl)) fun k4 K4 => ?_
          refine wpList_nil ?_
          repeat (first | (with_reducible refine block_normal ?_) | (with_reducible refine then_normal ?_))
          exact ⟨{ m with present := !m.present }, vc', vw', vf', K4.keep ⟨rfl, rfl, rfl, rfl, rfl, rfl, rfl, trivial⟩, T3.cell (m' := { m with present := !m.present }) 13 (.bool !m.present) rfl rfl rfl rfl rfl (hFm _ rfl rfl rfl rfl rfl (by show m.topic.size ≤ _; omega) (by show m.pass.size ≤ _; omega) hF.wishes hF.filters)⟩
        | false =>
        replace H1 := H3
        clear H2 H3
        refine skip_wp ?_
        repeat (first | (with_reducible refine block_normal ?_) | (with_reducible refine then_normal ?_))
        exact ⟨m, vc', vw', vf', H1.keep ⟨rfl, rfl, rfl, rfl, rfl, rfl, rfl, trivial⟩, T3⟩
      rintro a8 y4 ⟨m', vc2, vw2, vf2, H8, T4⟩
      obtain ⟨b', hb'⟩ : ∃ b, mayBb m' = b := ⟨_, rfl⟩
      refine H8.dq (Turned wX g14 y1.heap.size m' vc2 vw2 vf2) (fun _ _ h hb => h.call hb) T4 [13, 0, 1, 5, 7, 10, 14] rfl [ec 0 164 (.agg (mqCells m' vc2 vw2 vf2).toArray), eh 1 165 (.int .i64 (if b' then 0 else 1)), ec 2 166 (.int .i64 (if b' then 0 else 1)), ec 3 167 (.bool b'), ec 4 168 (.agg (mqCells m' vc2 vw2 vf2).toArray), eh 5 169 (.bool b'), ec 6 170 (.bool false)] rfl
        ⟨jl fun _ h => loadS_run (h.own.get 0 rfl), jq fun w' _ => num18 _ w', jb fun _ => eql_iB (if b' then 0 else 1) 0 b' (by cases b' <;> rfl) _ _ _, jl fun _ h => loadS_run (h.own.get 0 rfl), (by cases b' <;> exact jb fun _ => neq_b _ _ _ _ _), trivial⟩
        ⟨kb fun w' h => checkC m' _ _ _ _ (by rw [hb']) w' h.lists h.fit (hTX.below h.own.bel), kb fun w' h => mayC m' _ _ _ b' hb' w' h.lists h.fit (hTX.below h.own.bel), trivial⟩ ?_
      intro a9 y5 H9 _ T5
      refine then_normal (H9.condF rfl (skip_wp ?_))
      repeat (first | (with_reducible refine block_normal ?_) | (with_reducible refine then_normal ?_))
      exact ⟨H9.keep ⟨rfl, rfl, rfl, rfl, rfl, rfl, trivial⟩, Own.bare T5.own.bel T5.own.le⟩
    rintro a1 y1 ⟨H1, Q1⟩
    refine H1.rg 1 fun a2 H2 => nt ?_
    refine wp_block ?_
    refine wp_loop_up 15 (fun j a w' => Has a 202 ((15, .int .i64 ((j + 1 : Nat) : Int)) :: [(0, .slice A len cap), (1, .int .i64 kd), (5, .int .i64 ((k : Nat) : Int)), (7, .slice (some ⟨gb, go, none⟩) (layB m).length cr)]) ∧ Own wX wX.heap.size [] w') ⟨H2.keep ⟨rfl, rfl, rfl, rfl, rfl, trivial⟩, Q1⟩ ?_
    clear H1 H2 Q1 H22
    rintro j a2 y1 hj8 ⟨H2, Q1⟩
    refine H2.rg 1 fun a3 H3 => ?_
    refine H3.bb 0 rfl rfl rfl rfl rfl rfl (lss_i _ _ _ rfl _ _ _) rfl fun a4 H4 => nt (H4.cond (t := decide (((j + 1 : Nat) : Int) < 16)) rfl ?_)
    by_cases hj : j < 15
    rotate_left
    · rw [decide_eq_false (by omega)]
      refine wp_exit ?_
      repeat (with_reducible refine then_exit ?_)
      refine block_leave ?_
      repeat (first | (with_reducible refine block_normal ?_) | (with_reducible refine then_normal ?_))
      exact ⟨H4.keep ⟨rfl, rfl, rfl, trivial⟩, Own.bare (OX.bel.trans (Q1.bel.mono OX.le)) (Nat.le_trans OX.le Q1.le)⟩
    rw [decide_eq_true (by omega)]
    refine skip_wp (then_normal ?_)
    refine wp_seq_join (fun a w' => Has a 202 ((15, .int .i64 ((j + 1 : Nat) : Int)) :: [(0, .slice A len cap), (1, .int .i64 kd), (5, .int .i64 ((k : Nat) : Int)), (7, .slice (some ⟨gb, go, none⟩) (layB m).length cr)]) ∧ Own wX wX.heap.size [] w') ?_ ?_
    rotate_left
    · rintro a5 y2 ⟨H5, Q2⟩
      refine H5.rg 1 fun a6 H6 => ?_
      refine H6.bb 1 rfl rfl rfl rfl rfl rfl (succ_i (j + 1) (by omega) _ _ _) rfl fun a7 H7 => nt ?_
      exact ⟨hj, H7.keep ⟨rfl, rfl, rfl, rfl, rfl, trivial⟩, Q2⟩
    refine wp_block ?_
    replace H4 := H4.keep (l' := (15, .int .i64 ((j + 1 : Nat) : Int)) :: [(0, .slice A len cap), (1, .int .i64 kd), (5, .int .i64 ((k : Nat) : Int)), (7, .slice (some ⟨gb, go, none⟩) (layB m).length cr)]) ⟨rfl, rfl, rfl, rfl, rfl, trivial⟩
    refine H4.rg 1 fun a5 H5 => ?_
    refine H5.cl (copyC (layB m) _ cr _ (hrd.next Q1.bel) (by omega)) ?_
    rintro a6 _ y2 ⟨⟨Ai, ci, rfl, hown⟩, hb⟩ H6
    have Q2 := Q1.call hb
    refine H6.ms 1 fun a7 H7 => nt ?_
    obtain ⟨gi, ci', hve, hgi, _⟩ := hown.form hl0
    injection hve with h1 _ h2
    subst h1 h2
    have hc0 : y2.cell? ⟨gi, 0, none⟩ = some (bv x0) := (hown.cellAt 0 (by omega)).trans (by rw [List.getElem?_map, hx00]; rfl)
    have hf0 := hown.frozenAt 0
    obtain ⟨z, hz⟩ : ∃ z, x0 ^^^ UInt8.ofNat (j + 1) = z := ⟨_, rfl⟩
    refine H7.rg 2 fun a8 H8 => ?_
    refine H8.index gz rfl rfl rfl rfl rfl (index_0 _ _ _ _ hl0 _) fun a9 H9 => ?_
    refine H9.ld 1 (load1_u _ _ _ _ hc0) fun b1 K1 => ?_
    refine K1.cv 0 (conv_u8 _ _) fun b2 K2 => ?_
    rw [byte_of_int _ (Int.natCast_nonneg _), Int.toNat_natCast] at K2
    refine K2.bb 0 rfl rfl rfl rfl rfl rfl (xor_u x0 _ _ _ _) rfl fun b3 K3 => ?_
    rw [hz] at K3
    refine K3.index gz rfl rfl rfl rfl rfl (index_0 _ _ _ _ hl0 _) fun b4 K4 => ?_
    obtain ⟨ho3, hg3⟩ := hown.stored 0 (bv z)
    refine K4.store gz rfl rfl rfl rfl (store1_5 _ _ _ _ _ hc0 hf0) fun b5 K5 => nt ?_
    have Q3 := Q2.row hown Q1.bel.size hg3 (fun p hp => by cases hp)
    obtain ⟨ys, hys⟩ : ∃ ys, (layB m).set 0 z = ys := ⟨_, rfl⟩
    have hyl : ys.length = (layB m).length := by rw [← hys]; simp
    rw [← List.map_set, hys, ← hyl] at ho3
    obtain ⟨_, _, hve, hci, _⟩ := own_shape ho3
    injection hve with _ _ hce
    rw [← hce] at hci
    have hri : RowIs y1.heap.size ys (.slice (some ⟨gi, 0, none⟩) ys.length ci) (y2.setCell ⟨gi, 0, none⟩ (bv z)) := ⟨_, _, rfl, ho3⟩
    rw [← hyl] at K5
    generalize y2.setCell ⟨gi, 0, none⟩ (bv z) = y3 at K5 Q3 hri
    replace K5 := K5.keep (l' := (16, .slice (some ⟨gi, 0, none⟩) ys.length ci) :: (15, .int .i64 ((j + 1 : Nat) : Int)) :: [(0, .slice A len cap), (1, .int .i64 kd), (5, .int .i64 ((k : Nat) : Int)), (7, .slice (some ⟨gb, go, none⟩) ys.length cr)]) ⟨rfl, rfl, rfl, rfl, rfl, rfl, trivial⟩
    clear H2 H3 H4 H5 H6 H7 H8 H9 K1 K2 K3 K4 ho3 hg3 hown hc0 hf0 Q2 hb
    have hr3 : RB y3 y3.heap.size (some ⟨gi, 0, none⟩) ys := by obtain ⟨_, _, h, hr⟩ := hri.read; injection h with h1 _ _; subst h1; exact hr
    refine K5.rg 1 fun a15 H15 => ?_
    refine H15.cl (parseC ys _ ci hci _ hr3 (by omega) (hTX.below Q3.bel)) ?_
    rintro a16 _ y4 ⟨m1, n1, er1, vc2, vw2, vf2, rfl, hP1, ⟨hR1, hln1⟩, _, hb⟩ H16
    have Q4 := Q3.call hb
    have hM1 := MqL.of_rows hR1 hln1 (by decide)
    refine H16.ms 1 fun a17 H17 => ?_
    refine H17.ex (r := .agg (mqCells m1 vc2 vw2 vf2).toArray) 0 fun a18 H18 => ?_
    refine H18.ex (r := .int .i64 ((n1 : Nat) : Int)) 0 fun a19 H19 => ?_
    refine H19.ex (r := .int .i64 er1) 0 fun a20 H20 => ?_
    refine H20.nw Q4 2 hM1.ones fun a21 y5 hb5 Q5 H21 => nt ?_
    have hr5 := (hr3.next hb).next hb5
    refine H21.rg 1 fun c1 G1 => ?_
    refine G1.cl (refParseC ys _ ci hci _ hr5 (by omega) (hTX.below Q5.bel)) ?_
    rintro c2 _ y6 ⟨m2, n2, er2, vc3, vw3, vf3, rfl, hP2, hM2, _, hb⟩ G2
    obtain ⟨rfl, rfl, rfl⟩ := parsed_one hP1 hP2
    have Q6 := Q5.call hb
    refine G2.ms 1 fun a17 H17 => ?_
    refine H17.ex (r := .agg (mqCells m1 vc3 vw3 vf3).toArray) 0 fun a18 H18 => ?_
    refine H18.ex (r := .int .i64 ((n1 : Nat) : Int)) 0 fun a19 H19 => ?_
    refine H19.ex (r := .int .i64 er1) 0 fun a20 H20 => ?_
    refine H20.nw Q6 2 hM2.ones fun a22 y7 hb7 Q7 H22 => nt ?_
    refine H22.rg 1 fun c3 G3 => ?_
    refine G3.cq 1 (num18 _ _) fun c4 G4 => ?_
    refine G4.bb 0 rfl rfl rfl rfl rfl rfl (neq_3 er1 er1 false (by simp) _ _ _) rfl fun c5 G5 => nt (G5.condF rfl (skip_wp ?_))
    repeat (first | (with_reducible refine block_normal ?_) | (with_reducible refine then_normal ?_))
    rw [hyl] at G5
    exact ⟨G5.keep ⟨rfl, rfl, rfl, rfl, rfl, trivial⟩, Own.bare Q7.bel Q7.le⟩
  rintro a0 w1 ⟨H0, O1⟩
  refine H0.rg 0 fun a1 H1 => ?_
  refine H1.cl (belowC (wakes18 _ (hT.below O1.bel))) ?_
  rintro a2 _ w2 ⟨rfl, hb⟩ H2
  refine H2.ms 1 fun a3 H3 => nt (wp_ret ?_)
  repeat (first | (with_reducible refine block_ret ?_) | (with_reducible refine then_ret ?_))
  exact bodyPost_ret (results_tmp rfl _ _ _) H3.df ⟨congrArg Ending.returned (H3.at_ 4 _ rfl), (O1.call hb).bel⟩
end Go.Proofs.YtkcdkjpmbjcmdaaDoor
