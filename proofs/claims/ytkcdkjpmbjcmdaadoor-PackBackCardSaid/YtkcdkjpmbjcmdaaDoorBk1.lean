/-
  Words for the laws of the kinds.
-/
import Derived.Test.YtkcdkjpmbjcmdaaDoorDa5
namespace Go.Proofs.YtkcdkjpmbjcmdaaDoor
open Go.RowKit

/-- a block's kind. -/
def TypB (w : World) (g T : Nat) : Prop := ∃ l fr, w.heap[g]? = some (.cells l T fr)
theorem TypB.set {w : World} {g T : Nat} (h : TypB w g T) (a : Addr) (v : Value) : TypB (w.setCell a v) g T := by
  obtain ⟨l, fr, h⟩ := h
  unfold World.setCell TypB
  simp only [Array.getElem?_modify, h]
  split
  · exact ⟨_, _, rfl⟩
  · exact ⟨_, _, rfl⟩
theorem TypB.sets {g T : Nat} (g' : Nat) : ∀ (vs : List Value) (o : Nat) {w : World}, TypB w g T → TypB (w.setCells g' o vs) g T
  | [], _, _, h => h
  | v :: vs, o, _, h => TypB.sets g' vs (o + 1) (h.set ⟨g', o, none⟩ v)
theorem TypB.grown {w w' : World} {g T : Nat} {r : Option Nat} (h : TypB w g T) (hg : w.grownBy w' r) (hne : some g ≠ r) : TypB w' g T := by
  obtain ⟨l, fr, h⟩ := h
  exact ⟨l, fr, (hg.block g (Array.getElem?_eq_some_iff.1 h).1 hne).trans h⟩
theorem TypB.below {w w' : World} {g T : Nat} (h : TypB w g T) (hb : Below w.heap.size w w') : TypB w' g T := h.grown (below_grown hb none) (by simp)
theorem TypB.far {w : World} {g T b e s n : Nat} {v : Value} {xs : List Value} (h : TypB w g T) (hO : w.ownsRow b e s v n xs) (he : Nat.beq e T = false) : some g ≠ v.ownBlock := by
  obtain ⟨l, fr, h⟩ := h
  rcases hO.2 with ⟨rfl, _⟩ | ⟨g1, c1, cur1, rfl, _, hg1, _⟩
  · intro h; cases h
  · intro h2
    have h2 : g = g1 := by injection h2
    subst h2
    rw [h] at hg1
    injection hg1 with hg1
    injection hg1 with _ hg1 _
    subst hg1
    rw [Nat.beq_refl] at he
    cases he
/-- 'x := ..' of a struct: a new box, what it is, of what kind. -/
theorem Has.nk {ops : Array Oper} {rest rest' : List Oper} {o1 o2 : Oper} {a : Act} {w W : World} {B : Nat} {bs : List (Nat × List Value)} {Q : Exit → Act → World → Prop} {n : Nat} {l l' : List (Nat × Value)} (H : Has a n l) (O : Own W B bs w) (k : Nat) {d T m : Nat} {y : Operand} {L L0 : List Value} (h1 : L.all (·.oneCell') = true)
    (hz : ∀ w, (zeroValue T).run Tryd.prog w = .ok (.agg L0.toArray) w) (hm : (Tryd.prog.info? T).map (·.size) = some m) (h : ∀ a' w', Below w.heap.size w w' → Own W B ((w.heap.size, L) :: bs) w' → TypB w' w.heap.size T → Has a' n l' → wpList Tryd.prog ops Q rest' a' w') (ho : o1.op = .alloc T := by rfl) (hd : o1.dst = some d := by rfl) (hn : Nat.blt d n = true := by rfl)
    (hg : o1.guard = none := by rfl) (ho2 : o2.op = .store T (.tmp d) y := by rfl) (hd2 : o2.dst = none := by rfl) (hg2 : o2.guard = none := by rfl) (hy : evL ((d, .pointer (some ⟨w.heap.size, 0, none⟩)) :: l) y = some (.agg L.toArray) := by rfl) (hl : L.length = m := by rfl) (hl0 : L0.length = m := by rfl)
    (hr : runM n k rest ((d, .pointer (some ⟨w.heap.size, 0, none⟩)) :: l) = some (rest', l') := by rfl) : wpList Tryd.prog ops Q (o1 :: o2 :: rest) a w := by
  have hb := balloc w (.cells L0.toArray T)
  have hC : Cells (w.alloc (.cells L0.toArray T)) w.heap.size L0 := Cells.of_heap (heap_alloc_new w _)
  have O1 := O.alloc hb (by simp) hC
  have hT1 : TypB (w.alloc (.cells L0.toArray T)) w.heap.size T := ⟨_, _, heap_alloc_new w _⟩
  refine H.go (w' := w.alloc (.cells L0.toArray T)) (gz hg) hd hn (.pointer (some ⟨w.heap.size, 0, none⟩)) ?_ fun a1 H1 => ?_
  · unfold execOp
    simp only [ho]
    simp [Instr.alloc, hz, Sem.run_bind, Result.andThen, newVar, newRow, Value.cells, newObj]
    rfl
  have ht : (w.alloc (.cells L0.toArray T)).there w.heap.size 0 L.toArray.size := by
    have := hC.there
    rw [hl0, ← hl] at this
    simpa using this
  have hr2 := run_storeAt_mid (P := Tryd.prog) (w.alloc (.cells L0.toArray T)) w.heap.size 0 T L.toArray ht (by rw [hm, ← hl]; simp) (all_oneCell_toArray fun v hv => List.all_eq_true.1 h1 v hv)
  have hgr := (setCells_only w.heap.size L 0 (w.alloc (.cells L0.toArray T))).2
  refine H1.run0 (gz hg2) hd2 (run_store ho2 (H1.ev (by show (bif Nat.beq d d then _ else _) = _; rw [Nat.beq_refl, cond_true])) (H1.ev hy) hr2) fun a2 H2 => runM_ok k H2 hr fun a3 H3 => h a3 _ (hb.grown hgr hb.size (fun k hk => by injection hk with hk; rw [← hk]; exact Nat.le_refl _)) (O1.store 0 rfl hgr (setCells_only w.heap.size L 0 _).1.size ?_) (hT1.sets _ L 0) H3
  intro j v hv
  have hj := (List.getElem?_eq_some_iff.1 hv).1
  have a := World.rangeAt_setCells_same _ w.heap.size 0 L (by simpa using ht) j v hv
  have b := (World.there_setCells (by simpa using ht) w.heap.size 0 L j hj).2
  rw [Nat.zero_add] at a b
  exact ⟨a, b⟩
theorem zero_ask (w : World) : (zeroValue 33).run Tryd.prog w = .ok (.agg (mqCells (mq0 0) nilV nilV nilV ++ [nilV]).toArray) w := by kernel_rfl
theorem add_w (u v : Int) (x y : Operand) (w : World) : (do eqGuard .add 3 x y (.int .i64 u) (.int .i64 v); binOp .add 3 (.int .i64 u) (.int .i64 v) : Sem Value).run Tryd.prog w = .ok (.int .i64 (IntKind.i64.wrap (u + v))) w := by
  simp [go_sem]
theorem add_s (u v : ByteArray) (h : u.size + v.size ≤ 2000000) (x y : Operand) (w : World) : (do eqGuard .add 9 x y (.string u) (.string v); binOp .add 9 (.string u) (.string v) : Sem Value).run Tryd.prog w = .ok (.string (u ++ v)) w := by
  simp [go_sem]
  omega
theorem neq_b (u v : Bool) (x y : Operand) (w : World) : (do eqGuard .neq 4 x y (.bool u) (.bool v); binOp .neq 4 (.bool u) (.bool v) : Sem Value).run Tryd.prog w = .ok (.bool (u != v)) w := by
  cases u <;> cases v <;> kernel_rfl
theorem u8_xor_nat (a b : Nat) (ha : a < 256) (hb : b < 256) : bits .xor .u8 (a : Int) (b : Int) = ((a ^^^ b : Nat) : Int) := by
  have hx : a ^^^ b < 2 ^ 8 := Nat.xor_lt_two_pow (by omega) (by omega)
  show IntKind.u8.wrap ((BitVec.ofInt 8 (a : Int) ^^^ BitVec.ofInt 8 (b : Int)).toNat : Int) = _
  rw [BitVec.toNat_xor, ofInt_u8r a ha, ofInt_u8r b hb]
  have h0 : a ^^^ b < 256 := hx
  show ((a ^^^ b : Nat) : Int) % 256 = _
  omega
theorem xor_uI (u v : Int) (x y : Operand) (w : World) : (do eqGuard .xor 5 x y (.int .u8 u) (.int .u8 v); binOp .xor 5 (.int .u8 u) (.int .u8 v) : Sem Value).run Tryd.prog w = .ok (.int .u8 (bits .xor .u8 u v)) w := by kernel_rfl
theorem xor_u (a b : UInt8) (x y : Operand) (w : World) : (do eqGuard .xor 5 x y (bv a) (bv b); binOp .xor 5 (bv a) (bv b) : Sem Value).run Tryd.prog w = .ok (bv (a ^^^ b)) w := by
  have h : bits .xor .u8 (a.toNat : Int) (b.toNat : Int) = ((a ^^^ b).toNat : Int) := by rw [u8_xor_nat _ _ a.toNat_lt b.toNat_lt, UInt8.toNat_xor]
  unfold bv
  rw [← h]
  exact xor_uI _ _ _ _ _
theorem store1_5 (g o : Nat) (v : UInt8) (u : Value) (w : World) (h : w.cell? ⟨g, o, none⟩ = some u) (hf : w.frozen? ⟨g, o, none⟩ = false) : (Instr.storeAt 5 (.pointer (some ⟨g, o, none⟩)) (bv v)).run Tryd.prog w = .ok () (w.setCell ⟨g, o, none⟩ (bv v)) := by
  simp [go_sem, h, hf]
theorem refBytesC (m : Mq) (vc vw vf : Value) (w : World) (hm : mayB m) (hL : MqL w w.heap.size m vc vw vf) :
    Calls Tryd.prog 29 #[.agg (mqCells m vc vw vf).toArray] w fun e w' => ∃ v, e = .returned v ∧ BytesAre (layB m) v w' ∧ Below w.heap.size w w' := by
  refine (refBytes m vc vw vf w hm hL).mono ?_
  rintro e w' ⟨v, rfl, hR, hb⟩
  exact ⟨v, rfl, hR.read, hb⟩
theorem Has.app {ops : Array Oper} {rest : List Oper} {o : Oper} {a : Act} {w : World} {Q : Exit → Act → World → Prop} {n : Nat} {l : List (Nat × Value)} (H : Has a n l) {s x : Operand} {t e : TypeId} {d base size bytes k m c : Nat} {z u : Value} {A : Option Addr} {xs ys : List Value} (hown : w.ownsRow base e size u k xs) (hi : (Tryd.prog.info? e).map (fun i => (i.zero, i.size, i.bytes)) = some (some z, size, bytes))
    (hr : Reads w w.heap.size size A m ys) (h1 : ∀ u ∈ ys, u.oneCell' = true) (hn : k + m ≤ maxLen) (hb : (k + m) * bytes ≤ 140737488355328) (hbase : base ≤ w.heap.size) (h : ∀ a' A' c' w', w'.ownsRow base e size (.slice A' (k + m) c') (k + m) (xs ++ ys) → w.grownBy w' u.ownBlock → Has a' n ((d, .slice A' (k + m) c') :: l) → wpList Tryd.prog ops Q rest a' w')
    (ho : o.op = .call { callee := .builtin .append, args := #[s, x], argTypes := #[t, t] } := by rfl) (hd : o.dst = some d := by rfl) (hnn : Nat.blt d n = true := by rfl) (hg : o.guard = none := by rfl) (ht : Tryd.prog.underlying t = some (.slice e) := by kernel_rfl) (hzs : z.cells.size = size := by rfl) (hsz : 0 < size := by decide)
    (hs : evL l s = some u := by rfl) (hx : evL l x = some (.slice A m c) := by rfl) : wpList Tryd.prog ops Q (o :: rest) a w := by
  obtain ⟨A', c', w', hrun, hO, hgr⟩ := run_app (a := a) ho ht hi hzs hsz (H.ev hs) hown (H.ev hx) hr h1 hn hb hbase
  exact H.go (gz hg) hd hnn _ hrun fun a' H' => h a' A' c' w' hO hgr H'
/-- a row grows, or is put elsewhere: the boxes stay. -/
theorem Own.row {W w w' : World} {B : Nat} {bs : List (Nat × List Value)} {b e s n : Nat} {v : Value} {xs : List Value} (O : Own W B bs w) (hO : w.ownsRow b e s v n xs) (hB : B ≤ b) (hg : w.grownBy w' v.ownBlock) (hall : ∀ p ∈ bs, some p.1 ≠ v.ownBlock) : Own W B bs w' :=
  ⟨O.bel.grown hg O.le fun k hk => Nat.le_trans hB (hO.lt k hk).1, Nat.le_trans O.le hg.size, O.nd, fun p hp => ⟨(O.mem p hp).1, Nat.lt_of_lt_of_le (O.mem p hp).2.1 hg.size, (O.mem p hp).2.2.kept hg (O.mem p hp).2.1 (hall p hp)⟩⟩
/-- rows behind a store into a box of another kind. -/
theorem Own3.set {w : World} {b g : Nat} {m : Mq} {vc vw vf : Value} (h : Own3 w b m vc vw vf) (hT : TypB w g 30) (j : Nat) (v : Value) : Own3 (w.setCell ⟨g, j, none⟩ v) b m vc vw vf :=
  have k := grown_setCell w g j v
  ⟨h.1.kept k (.inr (Ne.symm (hT.far h.1 rfl))), h.2.1.kept k (.inr (Ne.symm (hT.far h.2.1 rfl))), h.2.2.kept k (.inr (Ne.symm (hT.far h.2.2 rfl)))⟩
/-- what one of the kinds' turns leaves. -/
structure Turned (W : World) (g base : Nat) (m : Mq) (vc vw vf : Value) (w : World) : Prop where
  own : Own W W.heap.size [(g, mqCells m vc vw vf)] w
  typ : TypB w g 30
  rows : Own3 w base m vc vw vf
  short : Short m 1000001
  fit : MqFit m
  hb : W.heap.size ≤ base
  hbw : base ≤ w.heap.size
theorem Turned.call {W w w' : World} {g base : Nat} {m : Mq} {vc vw vf : Value} (h : Turned W g base m vc vw vf w) (hb : Below w.heap.size w w') : Turned W g base m vc vw vf w' :=
  ⟨h.own.call hb, h.typ.below hb, ⟨own_below h.rows.1 hb, own_below h.rows.2.1 hb, own_below h.rows.2.2 hb⟩, h.short, h.fit, h.hb, Nat.le_trans h.hbw hb.size⟩
theorem Turned.lists {W w : World} {g base : Nat} {m : Mq} {vc vw vf : Value} (h : Turned W g base m vc vw vf w) : MqL w w.heap.size m vc vw vf := h.rows.lists h.short (by decide)
/-- a cell that is no list's. -/
theorem Turned.cell {W w : World} {g base : Nat} {m m' : Mq} {vc vw vf : Value} (h : Turned W g base m vc vw vf w) (j : Nat) (v : Value) (hj : Nat.blt j 24 = true) (he : (mqCells m vc vw vf).set j v = mqCells m' vc vw vf) (h1 : m'.codes = m.codes) (h2 : m'.wishes = m.wishes) (h3 : m'.filters = m.filters) (hf : MqFit m') : Turned W g base m' vc vw vf (w.setCell ⟨g, j, none⟩ v) := by
  have hr := h.rows.set h.typ j v
  have hj' : j < 24 := by simpa [Nat.blt_eq] using hj
  refine ⟨?_, h.typ.set _ v, ?_, ?_, hf, h.hb, by rw [size_setCell']; exact h.hbw⟩
  · rw [← he]
    exact h.own.store 0 rfl (grown_setCell w g j v) (size_setCell' _ _ _) ((h.own.get 0 rfl).set j v hj')
  · unfold Own3
    rw [h1, h2, h3]
    exact hr
  · unfold Short
    rw [h1, h2, h3]
    exact h.short
end Go.Proofs.YtkcdkjpmbjcmdaaDoor

/-
  Words for the law that packets are read back.
-/
namespace Go.Proofs.YtkcdkjpmbjcmdaaDoor
open Go.RowKit

theorem parseCn (xs : List UInt8) (n : Nat) (hn : xs.length = n) (A : Option Addr) (c : Nat) (hc : n ≤ c) (w : World) (hr : RB w w.heap.size A xs) (hl : n ≤ 140737488351232) (hT : Wd w) :
    Calls Tryd.prog 33 #[.slice A n c] w fun e w' => ∃ v, e = .returned v ∧ ∃ m n er vc vw vf, v = .tuple #[.agg (mqCells m vc vw vf).toArray, .int .i64 ((n : Nat) : Int), .int .i64 er] ∧ Parsed xs m n er ∧ (Rows3 w' w.heap.size m vc vw vf ∧ Lens m 1000001) ∧ Small m ∧ Below w.heap.size w w' := by
  subst hn
  exact parseC xs A c hc w hr hl hT
theorem bytesL (m : Mq) (vc vw vf : Value) (w : World) (bm : Bool) (hb : mayBb m = bm) (hL : MqL w w.heap.size m vc vw vf) (hF : MqFit m) (hW : Wd w) :
    Calls Tryd.prog 24 #[.agg (mqCells m vc vw vf).toArray] w fun e w' => ∃ v, e = .returned v ∧ (∃ vr, v = .tuple #[vr, .int .i64 (if bm then 0 else 1)] ∧ (bm = true → RowIs w.heap.size (layB m) vr w') ∧ Below w.heap.size w w') := by
  cases bm with
  | true => exact (bytesYes m vc vw vf w (mayB_of hb) hL hF hW).mono fun _ _ ⟨v, h1, vr, h2, h3, h4⟩ => ⟨v, h1, vr, h2, fun _ => h3, h4⟩
  | false => exact (bytesNo m vc vw vf w (mayB_not hb) hL hF hW).mono fun _ _ ⟨v, h1, h2, h4⟩ => ⟨v, h1, _, h2, (fun h => by cases h), h4⟩
theorem parsed_yes {b : List UInt8} {m : Mq} {n : Nat} (h : Parsed b m n 0) : mayB m ∧ layB m = b.take n ∧ n ≤ b.length := by
  unfold Parsed at h
  cases hs : sizeD b with
  | error er =>
    rw [hs] at h
    have := sizeD_err hs
    rw [← h.1] at this
    cases this
  | ok p =>
    rw [hs] at h
    rcases h with ⟨h1, h2, h3, _⟩ | ⟨_, _, _, h4⟩
    · subst h3
      exact ⟨h1, h2, (sizeD_ge hs).2.2.1⟩
    · cases h4
theorem rb_of_own {w : World} {b n : Nat} {xs : List UInt8} {A : Option Addr} {c : Nat} (hn : xs.length = n) (h : w.ownsRow b 5 1 (.slice A n c) n (xs.map bv)) (_hb : b ≤ w.heap.size) : RB w w.heap.size A xs := by
  subst hn
  obtain ⟨_, _, e, hr⟩ := (RowIs.read (b := b) ⟨A, c, rfl, h⟩ : BytesAre xs (.slice A xs.length c) w)
  injection e with h1 _ _
  subst h1
  exact hr
theorem own_cap {w : World} {b e s n c : Nat} {A : Option Addr} {xs : List Value} (h : w.ownsRow b e s (.slice A n c) n xs) : n ≤ c := by
  obtain ⟨_, _, hve, hcr, _⟩ := own_shape h
  injection hve with _ _ hce
  rw [hce]
  exact hcr
/-- a box of one's own, of a kind. -/
def BoxQ (base T : Nat) (L : List Value) (v : Value) (w : World) : Prop := ∃ g, v = .pointer (some ⟨g, 0, none⟩) ∧ base ≤ g ∧ g < w.heap.size ∧ Cells w g L ∧ TypB w g T
theorem BoxQ.below {base T : Nat} {L : List Value} {v : Value} {w w' : World} (hb : Below w.heap.size w w') (h : BoxQ base T L v w) : BoxQ base T L v w' := by
  obtain ⟨g, h1, h2, h3, h4, h5⟩ := h
  exact ⟨g, h1, h2, Nat.lt_of_lt_of_le h3 hb.size, h4.below hb h3, h5.below hb⟩
theorem BoxQ.row {base T b e s n : Nat} {L : List Value} {u v : Value} {xs : List Value} {w w' : World} (hO : w.ownsRow b e s u n xs) (he : Nat.beq e T = false) (hg : w.grownBy w' u.ownBlock) (h : BoxQ base T L v w) : BoxQ base T L v w' := by
  obtain ⟨g, h1, h2, h3, h4, h5⟩ := h
  exact ⟨g, h1, h2, Nat.lt_of_lt_of_le h3 hg.size, h4.kept hg h3 (h5.far hO he), h5.grown hg (h5.far hO he)⟩
section
variable {ops : Array Oper} {Q : Exit → Act → World → Prop} {n : Nat} {l fixed : List (Nat × Value)} {F : World → Prop} {es : List EntC} {i s : Nat} {o : Oper}
/-- a box is made, whenever. -/
theorem ka {T base : Nat} {L : List Value} (hz : ∀ w, (zeroValue T).run Tryd.prog w = .ok (.agg L.toArray) w) (hb : ∀ w, F w → base ≤ w.heap.size) (ho : ops[i]? = some o := by rfl) (hp : o.op = .alloc T := by rfl) (hd : o.dst = some s := by rfl) (hg : okG ops (fixed ++ knownE (afts ops i) es) o = true := by rfl) : HeavyE ops Q n fixed F es (er i s [] (BoxQ base T L)) :=
  kx (t := er i s [] (BoxQ base T L)) (fun a w _ _ hF => ⟨.pointer (some ⟨w.heap.size, 0, none⟩), w.alloc (.cells L.toArray T), by
    unfold execOp
    simp only [hp]
    simp [Instr.alloc, hz, Sem.run_bind, Result.andThen, newVar, newRow, Value.cells, newObj]
    rfl, ⟨w.heap.size, rfl, hb w hF, lt_alloc _ _, Cells.of_heap (heap_alloc_new w _), ⟨_, _, heap_alloc_new w _⟩⟩, balloc _ _⟩) ho hd hg
theorem jh {Wp : World → Prop} {T : Nat} {x hi : Operand} {u y r : Value} (hq : ∀ w, (Instr.sliceAt T u none (some y) none).run Tryd.prog w = .ok r w) (ho : ops[i]? = some o := by rfl) (hp : o.op = .slice T x none (some hi) none := by rfl) (hd : o.dst = some s := by rfl) (hg : okG ops l o = true := by rfl) (hx : evL l x = some u := by rfl) (hy : evL l hi = some y := by rfl) : PureE ops Q n l Wp i s r :=
  fun _ _ w H _ hK => wpOp_go ho (okG_w H hg) s hd r w (run_slice_h hp (H.ev hx) (H.ev hy) (hq w)) hK
end
theorem Cells.sto {w : World} {g T m : Nat} {L0 L : List Value} (hC : Cells w g L0) (hm : (Tryd.prog.info? T).map (·.size) = some m) (h0 : L0.length = m) (h1 : L.length = m) (hc : L.all (·.oneCell') = true) :
    ∃ w', (Instr.storeAt T (.pointer (some ⟨g, 0, none⟩)) (.agg L.toArray)).run Tryd.prog w = .ok () w' ∧ w.grownBy w' (some g) ∧ w'.heap.size = w.heap.size ∧ Cells w' g L := by
  have ht : w.there g 0 L.toArray.size := by
    have := hC.there
    rw [h0, ← h1] at this
    simpa using this
  refine ⟨_, run_storeAt_mid w g 0 T L.toArray ht (by rw [hm, ← h1]; simp) (all_oneCell_toArray fun v hv => List.all_eq_true.1 hc v hv), (setCells_only g _ 0 w).2, (setCells_only g _ 0 w).1.size, ?_⟩
  intro j v hv
  have hj := (List.getElem?_eq_some_iff.1 hv).1
  have a := World.rangeAt_setCells_same w g 0 L (by simpa using ht) j v hv
  have b := (World.there_setCells (by simpa using ht) g 0 L j hj).2
  rw [Nat.zero_add] at a b
  exact ⟨a, b⟩
theorem Rows3.typ {w w' : World} {b g : Nat} {m : Mq} {vc vw vf : Value} (h : Rows3 w b m vc vw vf) (hT : TypB w g 30) (hg : w.grownBy w' (some g)) : Rows3 w' b m vc vw vf :=
  ⟨h.1.kept hg (.inr (Ne.symm (hT.far h.1 rfl))), h.2.1.kept hg (.inr (Ne.symm (hT.far h.2.1 rfl))), h.2.2.kept hg (.inr (Ne.symm (hT.far h.2.2 rfl)))⟩
theorem quo40 (n : Nat) (h : n < 16384) (x y : Operand) (w : World) : (do eqGuard .quo 3 x y (.int .i64 (n : Int)) (.int .i64 40); binOp .quo 3 (.int .i64 (n : Int)) (.int .i64 40) : Sem Value).run Tryd.prog w = .ok (.int .i64 ((n / 40 : Nat) : Int)) w := by
  simp [go_sem]
  exact IntWalk.i64_in _ (by omega)
theorem add_nn (a b : Nat) (h : a + b < 1000000) (x y : Operand) (w : World) : (do eqGuard .add 3 x y (.int .i64 (a : Int)) (.int .i64 (b : Int)); binOp .add 3 (.int .i64 (a : Int)) (.int .i64 (b : Int)) : Sem Value).run Tryd.prog w = .ok (.int .i64 ((a + b : Nat) : Int)) w := by
  have : IntKind.i64.wrap ((a : Int) + (b : Int)) = ((a + b : Nat) : Int) := by rw [← Int.natCast_add]; exact IntWalk.i64_in _ (by omega)
  simp [go_sem]
  exact this
end Go.Proofs.YtkcdkjpmbjcmdaaDoor

/-
  That packets are read back: the walk.
-/
namespace Go.Proofs.YtkcdkjpmbjcmdaaDoor
open Go.RowKit

set_option maxRecDepth 100000 in
set_option maxHeartbeats 6400000 in
theorem packBack_walk (A : Option Addr) (len cap : Nat) (w : World) (ha : AskMq w A len) (hT : Wd w) :
    Calls Tryd.prog 5 #[.slice A len cap] w fun e w' => e = .returned (.bool true) ∧ Below w.heap.size w w' := by
  go_enter Tryd.func5, Tryd.ntmps5
  refine Has.start 151 [(0, .slice A len cap)] rfl rfl ⟨rfl, trivial⟩ ?_
  intro a0 H0
  have O0 := Own.start w
  refine H0.rg 1 fun a1 H1 => nt ?_
  refine wp_seq_join (fun a w' => Has a 151 [(0, .slice A len cap)] ∧ Own w w.heap.size [] w') ?_ ?_
  · refine H1.rg 1 fun a2 H2 => nt ?_
    refine wp_block ?_
    refine wp_loop_up len (fun k a w' => Has a 151 [(0, .slice A len cap), (3, .int .i64 ((k : Nat) : Int))] ∧ Own w w.heap.size [] w') ⟨H2.keep ⟨rfl, rfl, trivial⟩, O0⟩ ?_
    rintro k a3 w1 hkn ⟨H3, O1⟩
    obtain ⟨b1, e1⟩ : ∃ b, decide ((k : Int) < (len : Int)) = b := ⟨_, rfl⟩
    obtain ⟨b2, e2⟩ : ∃ b, decide ((k : Int) < 10) = b := ⟨_, rfl⟩
    refine H3.tb (Own w w.heap.size []) (fun _ _ h hb => h.call hb) O1 [ec 0 18 (.int .i64 ((k : Nat) : Int)), ec 1 19 (.slice A len cap), ec 2 20 (.int .i64 ((len : Nat) : Int)), ec 3 21 (.bool b1), ec 4 22 (.bool b1), ec 5 23 (gv b1 (.int .i64 ((k : Nat) : Int))), ec 6 24 (gv b1 (.bool b2)), ec 7 25 (.bool (b1 && b2))] rfl ⟨jm, jm, jn Tryd.underlying22, jb fun _ => lss_i _ _ b1 e1 _ _ _, jm, (by cases b1; exact jo; exact jm), (by cases b1; exact jo; exact jb fun _ => lss_i _ _ b2 e2 _ _ _), (by (cases b1 <;> exact jp)), trivial⟩ ?_
    clear H3 O1 H1 H2
    intro a4 w1 H4 O1
    refine then_normal (H4.cond (t := b1 && b2) rfl ?_)
    cases hb : b1 && b2 with
    | false =>
      refine wp_exit ?_
      repeat (with_reducible refine then_exit ?_)
      exact block_leave (then_normal ⟨H4.keep ⟨rfl, trivial⟩, O1⟩)
    | true =>
    simp only [Bool.and_eq_true] at hb
    rw [hb.1] at e1
    rw [hb.2] at e2
    have hlt : k < len := by simpa using e1
    have h10 : k < 10 := by have : (k : Int) < 10 := of_decide_eq_true e2; omega
    clear e1 e2 hb
    refine skip_wp (then_normal ?_)
    refine wp_seq_join (fun a w' => Has a 151 [(0, .slice A len cap), (3, .int .i64 ((k : Nat) : Int))] ∧ Own w w.heap.size [] w') ?_ ?_
    rotate_left
    · rintro a5 w2 ⟨H5, O2⟩
      refine H5.rg 1 fun a6 H6 => ?_
      refine H6.bb 1 rfl rfl rfl rfl rfl rfl (succ_i k (by omega) _ _ _) rfl fun a7 H7 => nt ?_
      exact ⟨hlt, H7.keep ⟨rfl, rfl, trivial⟩, O2⟩
    refine wp_block ?_
    obtain ⟨b, o, m, vc, vw, vf, xs, AX, cX, hA, hblt, hrg, hL, hF, hx1, hx2, hx3⟩ := ha k hlt
    have hix : ∀ w', (Instr.indexAt 22 (.slice A len cap) (.int .i64 ((k : Nat) : Int))).run Tryd.prog w' = .ok (.pointer (some ⟨b, o + k * 25, none⟩)) w' := fun w' => by rw [hA]; exact index_m 22 Tryd.underlying22 25 (fun _ => by kernel_rfl) _ _ _ _ _ hlt _
    refine H4.rg 2 fun a5 H5 => ?_
    refine H5.index gz rfl rfl rfl rfl rfl (hix _) fun a6 H6 => ?_
    refine H6.ld 0 (load_ask (rangeB hrg O1.bel hblt)) fun a7 H7 => ?_
    refine H7.cl (heavy18 m vc vw vf xs AX cX _ (hL.next O1.bel) hF) ?_
    rintro a8 _ w2 ⟨bh, rfl, hsm, hb⟩ H8
    have O2 := O1.call hb
    clear hb O1 H4 H5 H6 H7
    refine nt (H8.cond (t := bh) rfl ?_)
    cases bh with
    | true =>
      refine H8.rg 1 fun a9 H9 => nt (wp_ret ?_)
      repeat (first | (with_reducible refine block_ret ?_) | (with_reducible refine then_ret ?_))
      exact bodyPost_ret (results_tmp rfl _ _ _) H9.df ⟨congrArg Ending.returned (H9.at_ 2 _ rfl), O2.bel⟩
    | false =>
    obtain ⟨hS0, hxl⟩ := hsm rfl
    have hS := short_of hS0
    refine skip_wp (then_normal ?_)
    replace H8 := H8.keep (l' := [(0, .slice A len cap), (3, .int .i64 ((k : Nat) : Int))]) ⟨rfl, rfl, trivial⟩
    obtain ⟨bm, hbm⟩ : ∃ b, mayBb m = b := ⟨_, rfl⟩
    refine H8.rg 2 fun a9 H9 => ?_
    refine H9.index gz rfl rfl rfl rfl rfl (hix _) fun a10 H10 => ?_
    refine H10.go gz rfl rfl _ (run_field rfl (H10.ev rfl) (fun g w => fieldAo_0 (o + k * 25) g w)) fun a11 H11 => ?_
    refine H11.ld 0 (load_mq (rangeF (rangeB hrg O2.bel hblt))) fun a12 H12 => ?_
    refine H12.cl (bytesL m _ _ _ _ bm hbm (hL.next O2.bel) hF (hT.below O2.bel)) ?_
    rintro a13 _ w3 ⟨vr, rfl, hR, hb⟩ H13
    have O3 := O2.call hb
    refine H13.ms 1 fun a14 H14 => ?_
    refine H14.ex (r := vr) 0 fun a15 H15 => ?_
    refine H15.ex (r := .int .i64 (if bm then 0 else 1)) 2 fun a16 H16 => nt ?_
    replace H16 := H16.keep (l' := [(0, .slice A len cap), (3, .int .i64 ((k : Nat) : Int)), (4, vr), (5, .int .i64 (if bm then 0 else 1))]) ⟨rfl, rfl, rfl, rfl, trivial⟩
    clear hb H8 H9 H10 H11 H12 H13 H14 H15 O2
    refine wp_seq_join (fun a w' => Has a 151 [(0, .slice A len cap), (3, .int .i64 ((k : Nat) : Int))] ∧ Own w w.heap.size [] w') ?_ ?_
    · refine H16.rg 1 fun a9 H9 => ?_
      refine H9.cq 0 (num18 _ _) fun a10 H10 => ?_
      refine H10.bn 0 (eql_iB (if bm then 0 else 1) 0 bm (by cases bm <;> rfl) _ _ _) fun a11 H11 => nt (H11.cond (t := bm) rfl ?_)
      cases bm with
      | false => exact skip_wp (then_normal ⟨H11.keep ⟨rfl, rfl, trivial⟩, O3⟩)
      | true =>
      have hm := mayB_of hbm
      have hll := lay_le hm
      obtain ⟨Ar, cr, rfl, hown⟩ := hR rfl
      obtain ⟨_, _, hve, hcr, _⟩ := own_shape hown
      injection hve with _ _ hce
      rw [← hce] at hcr
      have hrd : RB w3 w3.heap.size Ar (layB m) := by obtain ⟨_, _, h, hr⟩ := (hR rfl).read; injection h with h1 _ _; subst h1; exact hr
      clear hR hown H16 H9 H10
      have hyl : (layB m ++ xs).length = (layB m).length + xs.length := List.length_append
      refine H11.sg (fun w' => (Own w w.heap.size [] w' ∧ Below w3.heap.size w3 w')) ⟨O3.drew, Below.drew (Below.refl _ _)⟩ [0, 3, 4] [ec 0 46 (.slice Ar (layB m).length cr), ec 2 48 (.slice A len cap), ec 3 49 (.int .i64 ((k : Nat) : Int)), ec 4 50 (.pointer (some ⟨b, o + k * 25, none⟩)), ec 5 51 (.pointer (some ⟨b, o + k * 25 + 24, none⟩)), ec 6 52 (.slice AX xs.length cX), er 13 6 [] (BoxQ w3.heap.size 30 (mqCells (mq0 0) nilV nilV nilV))] rfl ?_
      refine St.call 1 ⟨jm, jm, jm, jI rfl rfl rfl rfl rfl rfl hix, jf (fieldAo_1 (o + k * 25)), jl fun _ h => load1_31 _ _ _ _ _ _ (cell24 hrg h.1.bel hblt), ka zero_mq fun _ h => h.2.size, trivial⟩ (fun wy h => copyC (layB m) Ar cr wy (hrd.next h.2) (by omega)) ?_ (hF := .inr fun _ _ h hb => ⟨h.1.call hb, h.2.trans (hb.mono h.2.size)⟩) (hst := ⟨fun _ _ _ hb h => h.below hb, trivial⟩)
      rintro wy _ wz hh ⟨⟨Ai, ci, rfl, hrow⟩, hb⟩
      have hbb : w3.heap.size ≤ wy.heap.size := hh.2.size
      have hbz := hb.size
      generalize hbd : wy.heap.size = bb at hrow hbb hbz
      refine nx (fun w' => (Own w w.heap.size [] w' ∧ Below w3.heap.size w3 w') ∧ bb ≤ w'.heap.size ∧ w'.ownsRow bb 5 1 (.slice Ai (layB m).length ci) (layB m).length ((layB m).map bv)) [] [] ⟨⟨hh.1.call hb, hh.2.trans (hb.mono hh.2.size)⟩, hbz, hrow⟩ ?_ (hk := StabAll.keeps hb ⟨fun _ _ _ hb h => h.below hb, trivial⟩)
      refine St.app 7 info_u8 ⟨jm, jm, jI rfl rfl rfl rfl rfl rfl hix, jf (fieldAo_1 (o + k * 25)), jl fun _ h => load1_31 _ _ _ _ _ _ (cell24 hrg h.1.1.bel hblt), ka zero_mq fun _ h => h.1.2.size, trivial⟩ (fun w' h => ⟨h.2.2, hx3.next h.1.1.bel, h.2.1⟩) (bv_one xs) (by unfold maxLen; omega) ?_ (hF := .inr fun _ _ h hb => ⟨⟨h.1.1.call hb, h.1.2.trans (hb.mono h.1.2.size)⟩, Nat.le_trans h.2.1 hb.size, own_below h.2.2 hb⟩) (hst := ⟨fun _ _ _ hb h => h.below hb, trivial⟩)
      intro wu A' c' wv h hO hg
      rw [← List.map_append] at hO
      refine nx (fun w' => (Own w w.heap.size [] w' ∧ Below w3.heap.size w3 w') ∧ bb ≤ w'.heap.size ∧ w'.ownsRow bb 5 1 (.slice A' ((layB m).length + xs.length) c') ((layB m).length + xs.length) ((layB m ++ xs).map bv)) [] [] ⟨⟨h.1.1.row h.2.2 (Nat.le_trans O3.le hbb) hg (fun p hp => by cases hp), h.1.2.grown hg h.1.2.size fun k hk => Nat.le_trans hbb (h.2.2.lt k hk).1⟩, Nat.le_trans h.2.1 hg.size, hO⟩ ?_ (hk := ⟨fun u hu => hu.row h.2.2 rfl hg, trivial⟩)
      refine St.call 8 ⟨ka zero_mq fun _ h => h.1.2.size, trivial⟩ (fun wy h => parseCn (layB m ++ xs) _ hyl A' c' (own_cap h.2.2) wy (rb_of_own hyl h.2.2 h.2.1) (by omega) (hT.below h.1.1.bel)) ?_ (hF := .inr fun _ _ h hb => ⟨⟨h.1.1.call hb, h.1.2.trans (hb.mono h.1.2.size)⟩, Nat.le_trans h.2.1 hb.size, own_below h.2.2 hb⟩) (hst := ⟨fun _ _ _ hb h => h.below hb, trivial⟩)
      rintro wx _ wz hh ⟨m1, n1, er1, vc1, vw1, vf1, rfl, hP1, ⟨hR1, hln⟩, hsm, hb⟩
      obtain ⟨rfl, rfl, rfl⟩ := parsed_one (parsed_lay hm xs) hP1
      refine nx (fun w' => (Own w w.heap.size [] w' ∧ Below w3.heap.size w3 w') ∧ Rows3 w' wx.heap.size m vc1 vw1 vf1) [ec 9 45 (.tuple #[.agg (mqCells m vc1 vw1 vf1).toArray, .int .i64 ((layB m).length : Int), .int .i64 0]), ec 10 55 (.agg (mqCells m vc1 vw1 vf1).toArray), ec 11 56 (.int .i64 ((layB m).length : Int)), ec 12 57 (.int .i64 0)] [] ⟨⟨hh.1.1.call hb, hh.1.2.trans (hb.mono hh.1.2.size)⟩, hR1⟩ ?_ (hk := StabAll.keeps hb ⟨fun _ _ _ hb h => h.below hb, trivial⟩)
      refine St.sto 14 ⟨jm, jx, jx, jx, ka zero_mq fun _ h => h.1.2.size, trivial⟩ ?_ (hF := .inr fun _ _ h hb => ⟨⟨h.1.1.call hb, h.1.2.trans (hb.mono h.1.2.size)⟩, h.2.belowR hb⟩) (hst := ⟨fun _ _ _ hb h => h.below hb, trivial⟩)
      rintro a wu H ⟨⟨g, e6, hg1, hg2, hC, hTy⟩, _⟩ h
      have hM1 := MqL.of_rows h.2 hln (by decide)
      obtain ⟨w', hr, hg, hs, hC'⟩ := hC.sto (L := mqCells m vc1 vw1 vf1) size_mq rfl rfl hM1.ones
      have hg' : ∀ {k : Nat}, some g = some k → w3.heap.size ≤ k := fun h => by injection h with h; rw [← h]; exact hg1
      have hO' : Own w w.heap.size [(g, mqCells m vc1 vw1 vf1)] w' := ⟨h.1.1.bel.grown hg h.1.1.le fun k hk => Nat.le_trans O3.le (hg' hk), Nat.le_trans h.1.1.le hg.size, by simp, fun p hp => by simp only [List.mem_singleton] at hp; subst hp; exact ⟨Nat.le_trans O3.le hg1, by show g < _; omega, hC'⟩⟩
      refine ⟨w', run_store rfl e6 (H.ev rfl) hr, nxp (fun w' => Own w w.heap.size [(g, mqCells m vc1 vw1 vf1)] w' ∧ MqL w' w'.heap.size m vc1 vw1 vf1 ∧ Below w3.heap.size w3 w') [ec 13 6 (.pointer (some ⟨g, 0, none⟩))] [ec 15 7 (.int .i64 ((layB m).length : Int)), ec 16 8 (.int .i64 0)] [13] ⟨hO', MqL.of_rows (h.2.typ hTy hg) hln (by decide), h.1.2.grown hg h.1.2.size fun k hk => hg' hk⟩ ⟨⟨rfl, rfl, _, rfl, e6⟩, trivial⟩ ?_⟩
      refine St.fin ⟨jm, jm, jx, jx, trivial⟩ ?_ (hF := .inl rfl)
      rintro a wq H9 _ ⟨O9, hM9, hb9⟩
      replace H9 := H9.keep (l' := [(0, .slice A len cap), (3, .int .i64 ((k : Nat) : Int)), (4, (.slice Ar (layB m).length cr)), (6, .pointer (some ⟨g, 0, none⟩)), (7, .int .i64 ((layB m).length : Int)), (8, .int .i64 0)]) ⟨rfl, rfl, rfl, rfl, rfl, rfl, trivial⟩
      refine then_normal ?_
      refine H9.dq (fun w' => Own w w.heap.size [(g, mqCells m vc1 vw1 vf1)] w' ∧ MqL w' w'.heap.size m vc1 vw1 vf1 ∧ Below w3.heap.size w3 w') (fun _ _ h hb => ⟨h.1.call hb, h.2.1.next hb, h.2.2.trans (hb.mono h.2.2.size)⟩) ⟨O9, hM9, hb9⟩ [0, 3, 4, 6, 7, 8] rfl [ec 0 58 (.int .i64 0), ec 1 59 (.int .i64 0), ec 2 60 (.bool false), ec 3 61 (.bool false), ec 4 62 (.int .i64 ((layB m).length : Int)), ec 5 63 ((.slice Ar (layB m).length cr)), ec 6 64 (.int .i64 ((layB m).length : Int)), ec 7 65 (.bool false), ec 8 66 (.bool false), ec 9 67 (.bool false), ec 10 68 ((.agg (mqCells m vc1 vw1 vf1).toArray)), ec 11 69 (.slice A len cap), ec 12 70 (.int .i64 ((k : Nat) : Int)), ec 13 71 ((.pointer (some ⟨b, o + k * 25, none⟩))), ec 14 72 ((.pointer (some ⟨b, o + k * 25, none⟩))), ec 15 73 ((.agg (mqCells m vc vw vf).toArray)), eh 16 74 (.bool true), ec 17 75 (.bool false), ec 18 76 (.bool false), ec 19 77 (.bool false), ec 20 78 ((.slice Ar (layB m).length cr)), ec 21 79 (.int .i64 ((layB m).length : Int)), ec 22 80 (.bool false), ec 23 81 (.bool false)] rfl ⟨jm, jq fun w' _ => num18 _ w', jb fun _ => neq_3 0 0 false rfl _ _ _, jm, jm, jm, jn Tryd.underlying31, jb fun _ => neq_3 ((layB m).length : Int) ((layB m).length : Int) false (by simp) _ _ _, jp, jm, jl fun _ h => loadS_run (h.1.get 0 rfl), jm, jm, jI rfl rfl rfl rfl rfl rfl hix, jf (fun g w => fieldAo_0 (o + k * 25) g w), jl fun _ h => load_mq (rangeF (rangeB hrg h.1.bel hblt)), ju (hq := run_not true), jp, jm, jm, jn Tryd.underlying31, jb fun _ => gtr_i ((layB m).length : Int) 1024 false (decide_eq_false (by omega)) _ _ _, jp, trivial⟩ ⟨kb fun w' h => eqMqS m _ _ _ _ _ _ w' h.2.1 (hL.next h.1.bel), trivial⟩ ?_
      intro a wq H10 _ ⟨O10, _, hb10⟩
      refine then_normal (H10.condF rfl (skip_wp (then_normal ?_)))
      have hrq := hrd.next hb10
      replace H10 := H10.keep (l' := [(0, .slice A len cap), (3, .int .i64 ((k : Nat) : Int)), (4, .slice Ar (layB m).length cr)]) ⟨rfl, rfl, rfl, trivial⟩
      have O10 := Own.bare O10.bel O10.le
      obtain ⟨s, hs⟩ : ∃ s, 1 + (layB m).length / 40 = s := ⟨_, rfl⟩
      refine H10.rg 1 fun a1 H1 => nt (wp_block ?_)
      refine wp_loop_up (layB m).length (fun r a w' => Has a 151 [(0, .slice A len cap), (3, .int .i64 ((k : Nat) : Int)), (4, .slice Ar (layB m).length cr), (9, .int .i64 ((r * s : Nat) : Int))] ∧ Own w w.heap.size [] w' ∧ Below wq.heap.size wq w') ⟨H1.keep ⟨rfl, rfl, rfl, by rw [Nat.zero_mul]; rfl, trivial⟩, O10, Below.refl _ _⟩ ?_
      clear H9 H10 H1 O9 hM9 hb9 O10
      rintro r a2 y1 hr8 ⟨H2, Q1, hq1⟩
      refine H2.rg 2 fun a3 H3 => ?_
      refine H3.len gz rfl rfl rfl rfl Tryd.underlying31 fun a4 H4 => ?_
      refine H4.bb 0 rfl rfl rfl rfl rfl rfl (lss_i _ _ _ rfl _ _ _) rfl fun a5 H5 => nt (H5.cond (t := decide (((r * s : Nat) : Int) < ((layB m).length : Int))) rfl ?_)
      by_cases hj : r * s < (layB m).length
      rotate_left
      · rw [decide_eq_false (by omega)]
        refine wp_exit ?_
        repeat (with_reducible refine then_exit ?_)
        refine block_leave ?_
        repeat (first | (with_reducible refine block_normal ?_) | (with_reducible refine then_normal ?_))
        exact ⟨H5.keep ⟨rfl, rfl, trivial⟩, Q1⟩
      rw [decide_eq_true (by omega)]
      have hs1 : 0 < s := by omega
      have hrs : r < (layB m).length := Nat.lt_of_le_of_lt (Nat.le_mul_of_pos_right r hs1) hj
      refine skip_wp (then_normal ?_)
      refine wp_seq_join (fun a w' => Has a 151 [(0, .slice A len cap), (3, .int .i64 ((k : Nat) : Int)), (4, .slice Ar (layB m).length cr), (9, .int .i64 ((r * s : Nat) : Int))] ∧ Own w w.heap.size [] w' ∧ Below wq.heap.size wq w') ?_ ?_
      rotate_left
      · rintro a6 y2 ⟨H6, Q2, hq2⟩
        refine H6.rg 1 fun a7 H7 => ?_
        refine H7.bn 1 (add_nn (r * s) 1 (by omega) _ _ _) fun a8 H8 => ?_
        refine H8.len gz rfl rfl rfl rfl Tryd.underlying31 fun a9 H9 => ?_
        refine H9.bn 0 (quo40 (layB m).length (by omega) _ _ _) fun b1 K1 => ?_
        refine K1.bn 1 (add_nn (r * s + 1) ((layB m).length / 40) (by omega) _ _ _) fun b2 K2 => nt ?_
        have e : r * s + 1 + (layB m).length / 40 = (r + 1) * s := by rw [Nat.add_mul, Nat.one_mul]; omega
        rw [e] at K2
        exact ⟨hrs, K2.keep ⟨rfl, rfl, rfl, rfl, trivial⟩, Q2, hq2⟩
      refine wp_block ?_
      refine H5.rg 2 fun a7 H7 => ?_
      refine H7.go gz rfl rfl _ (run_slice_h rfl (H7.ev rfl) (H7.ev rfl) (slice_h Ar _ cr (r * s) (by omega) hcr _)) fun a8 H8 => ?_
      refine H8.cl (parseCn ((layB m).take (r * s)) (r * s) (by rw [List.length_take]; omega) Ar cr (by omega) _ ((hrq.next hq1).take _) (by omega) (hT.below Q1.bel)) ?_
      rintro a9 _ y2 ⟨m1, n1, er1, vc2, vw2, vf2, rfl, hP1, ⟨hR1, hln1⟩, _, hb⟩ H9
      obtain ⟨rfl, rfl, rfl⟩ := parsed_one (parsed_cut hm _ hj) hP1
      have Q2 := Q1.call hb
      have hM1 := MqL.of_rows hR1 hln1 (by decide)
      refine H9.ms 1 fun a17 H17 => ?_
      refine H17.ex (r := .agg (mqCells (mq0 0) vc2 vw2 vf2).toArray) 0 fun a18 H18 => ?_
      refine H18.ex (r := .int .i64 ((0 : Nat) : Int)) 0 fun a19 H19 => ?_
      refine H19.ex (r := .int .i64 7) 0 fun a20 H20 => ?_
      refine H20.nw Q2 2 hM1.ones fun a21 y3 hb3 Q3 H21 => nt ?_
      have hq2 := hq1.trans (hb.mono hq1.size)
      have hq3 := hq2.trans (hb3.mono hq2.size)
      replace H21 := H21.keep (l' := [(0, .slice A len cap), (3, .int .i64 ((k : Nat) : Int)), (4, (.slice Ar (layB m).length cr)), (9, .int .i64 ((r * s : Nat) : Int)), (11, .int .i64 ((0 : Nat) : Int)), (12, .int .i64 7)]) ⟨rfl, rfl, rfl, rfl, rfl, rfl, trivial⟩
      refine H21.tb (fun w' => Own w w.heap.size [(y2.heap.size, mqCells (mq0 0) vc2 vw2 vf2)] w' ∧ Below wq.heap.size wq w') (fun _ _ h hb => ⟨h.1.call hb, h.2.trans (hb.mono h.2.size)⟩) ⟨Q3, hq3⟩ [ec 0 100 (.int .i64 7), ec 1 101 (.int .i64 7), ec 2 102 (.bool false), ec 3 103 (.bool false), ec 4 104 (.int .i64 ((0 : Nat) : Int)), ec 5 105 (.bool false), ec 6 106 (.bool false)] rfl ⟨jm, jq fun w' _ => num18 _ w', jb fun _ => neq_3 7 7 false rfl _ _ _, jm, jm, jb fun _ => neq_3 ((0 : Nat) : Int) 0 false rfl _ _ _, jp, trivial⟩ ?_
      intro a22 y4 H22 ⟨Q4, hq4⟩
      refine then_normal (H22.condF rfl (skip_wp ?_))
      repeat (first | (with_reducible refine block_normal ?_) | (with_reducible refine then_normal ?_))
      exact ⟨H22.keep ⟨rfl, rfl, rfl, rfl, trivial⟩, Own.bare Q4.bel Q4.le, hq4⟩
    rintro a9 w3 ⟨H9, O3⟩
    refine H9.rg 2 fun a10 H10 => ?_
    refine H10.index gz rfl rfl rfl rfl rfl (hix _) fun a11 H11 => ?_
    refine H11.go gz rfl rfl _ (run_field rfl (H11.ev rfl) (fieldAo_1 (o + k * 25))) fun a12 H12 => ?_
    refine H12.ld 0 (load1_31 _ _ _ _ _ _ (cell24 hrg O3.bel hblt)) fun a13 H13 => ?_
    refine H13.cl (parseC xs AX cX hx1 _ (hx3.next O3.bel) (by omega) (hT.below O3.bel)) ?_
    rintro a14 _ w4 ⟨m2, n2, er2, vc2, vw2, vf2, rfl, hP2, ⟨hR2, hln2⟩, hsm2, hb⟩ H14
    have O4 := O3.call hb
    have hM2 := MqL.of_rows hR2 hln2 (by decide)
    refine H14.ms 1 fun a17 H17 => ?_
    refine H17.ex (r := .agg (mqCells m2 vc2 vw2 vf2).toArray) 0 fun a18 H18 => ?_
    refine H18.ex (r := .int .i64 ((n2 : Nat) : Int)) 0 fun a19 H19 => ?_
    refine H19.ex (r := .int .i64 er2) 0 fun a20 H20 => ?_
    refine H20.nw O4 2 hM2.ones fun a21 w5 hb5 O5 H21 => nt ?_
    have hM3 := hM2.next hb5
    obtain ⟨z, hz⟩ : ∃ z, (er2 == 0) = z := ⟨_, rfl⟩
    refine H21.rg 1 fun b1 K1 => ?_
    refine K1.cq 0 (num18 _ _) fun b2 K2 => ?_
    refine K2.bb 0 rfl rfl rfl rfl rfl rfl (eql_iB _ _ z hz _ _ _) rfl fun b3 K3 => nt (K3.cond (t := z) rfl ?_)
    cases z with
    | false =>
      refine skip_wp ?_
      repeat (first | (with_reducible refine block_normal ?_) | (with_reducible refine then_normal ?_))
      exact ⟨K3.keep ⟨rfl, rfl, trivial⟩, Own.bare O5.bel O5.le⟩
    | true =>
    have he : er2 = 0 := by simpa using hz
    subst he
    obtain ⟨hm2, hl2, hn2⟩ := parsed_yes hP2
    refine rl ?_
    refine K3.lm O5 0 0 fun b4 K4 => ?_
    refine K4.cl (bytesYes m2 _ _ _ _ hm2 hM3 hsm2.fit (hT.below O5.bel)) ?_
    rintro b5 _ w6 ⟨vb, rfl, hvr, hb6⟩ K5
    have O6 := O5.call hb6
    have hvb := hvr.read
    refine K5.ms 1 fun b6 K6 => ?_
    refine K6.ex (r := vb) 0 fun b7 K7 => ?_
    refine K7.ex (r := .int .i64 0) 2 fun b8 K8 => nt ?_
    replace K8 := K8.keep (l' := [(0, .slice A len cap), (3, .int .i64 ((k : Nat) : Int)), (14, .int .i64 ((n2 : Nat) : Int)), (16, vb), (17, .int .i64 0)]) ⟨rfl, rfl, rfl, rfl, rfl, trivial⟩
    refine K8.tb (fun w' => Own w w.heap.size [(w4.heap.size, mqCells m2 vc2 vw2 vf2)] w' ∧ Below w6.heap.size w6 w') (fun _ _ h hb => ⟨h.1.call hb, h.2.trans (hb.mono h.2.size)⟩) ⟨O6, Below.refl _ _⟩ [ec 0 125 (.int .i64 0), ec 1 126 (.int .i64 0), ec 2 127 (.bool false), ec 3 128 (.bool false), ec 4 129 (.int .i64 ((n2 : Nat) : Int)), ec 5 130 (.slice A len cap), ec 6 131 (.int .i64 ((k : Nat) : Int)), ec 7 132 ((.pointer (some ⟨b, o + k * 25, none⟩))), ec 8 133 ((.pointer (some ⟨b, o + k * 25 + 24, none⟩))), ec 9 134 ((.slice AX xs.length cX)), ec 10 135 (.int .i64 (xs.length : Int)), ec 11 136 (.bool false), ec 12 137 (.bool false), ec 13 138 (.bool false), ec 14 139 vb, ec 15 140 (.slice A len cap), ec 16 141 (.int .i64 ((k : Nat) : Int)), ec 17 142 ((.pointer (some ⟨b, o + k * 25, none⟩))), ec 18 143 ((.pointer (some ⟨b, o + k * 25 + 24, none⟩))), ec 19 144 ((.slice AX xs.length cX)), ec 20 145 (.int .i64 ((n2 : Nat) : Int)), ec 21 146 ((.slice AX n2 cX)), eh 22 147 (.bool true), ec 23 148 (.bool false), ec 24 149 (.bool false)] rfl ⟨jm, jq fun w' _ => num18 _ w', jb fun _ => neq_3 0 0 false rfl _ _ _, jm, jm, jm, jm, jI rfl rfl rfl rfl rfl rfl hix, jf (fieldAo_1 (o + k * 25)), jl fun _ h => load1_31 _ _ _ _ _ _ (cell24 hrg h.1.bel hblt), jn Tryd.underlying31, jb fun _ => gtr_i ((n2 : Nat) : Int) (xs.length : Int) false (decide_eq_false (by omega)) _ _ _, jp, jm, jm, jm, jm, jI rfl rfl rfl rfl rfl rfl hix, jf (fieldAo_1 (o + k * 25)), jl fun _ h => load1_31 _ _ _ _ _ _ (cell24 hrg h.1.bel hblt), jm, jh fun w => slice_h AX xs.length cX n2 hn2 hx1 w, kb fun w' h => eqBy (layB m2) vb _ w' (hvb.below h.2) ⟨AX, cX, by rw [hl2, List.length_take, Nat.min_eq_left hn2], hl2 ▸ (hx3.next h.1.bel).take n2⟩ (lay_maxLen hm2), ju (hq := run_not true), jp, trivial⟩ ?_
    intro b9 w7 K9 ⟨O7, _⟩
    refine then_normal (K9.condF rfl (skip_wp ?_))
    repeat (first | (with_reducible refine block_normal ?_) | (with_reducible refine then_normal ?_))
    exact ⟨K9.keep ⟨rfl, rfl, trivial⟩, Own.bare O7.bel O7.le⟩
  rintro a0 w1 ⟨H0, O1⟩
  refine H0.rg 0 fun a1 H1 => ?_
  refine H1.cl (belowC (wakes18 _ (hT.below O1.bel))) ?_
  rintro a2 _ w2 ⟨rfl, hb⟩ H2
  refine H2.ms 1 fun a3 H3 => nt (wp_ret ?_)
  repeat (first | (with_reducible refine block_ret ?_) | (with_reducible refine then_ret ?_))
  exact bodyPost_ret (results_tmp rfl _ _ _) H3.df ⟨congrArg Ending.returned (H3.at_ 2 _ rfl), (O1.call hb).bel⟩
end Go.Proofs.YtkcdkjpmbjcmdaaDoor
