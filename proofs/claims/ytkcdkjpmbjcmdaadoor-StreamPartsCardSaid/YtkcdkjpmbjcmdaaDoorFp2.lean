/-
  What the links of Same and EqMq do: fields' places, loads, equalities.
-/
import Derived.Test.YtkcdkjpmbjcmdaaDoorFp1
namespace Go.Proofs.YtkcdkjpmbjcmdaaDoor
open Go.RowKit

theorem load1_i (g o : Nat) (v : Int) (w : World) (h : w.cell? ⟨g, o, none⟩ = some (.int .i64 v)) : (Instr.loadAt 3 (.pointer (some ⟨g, o, none⟩))).run Tryd.prog w = .ok (.int .i64 v) w := by
  simp [go_sem, h]
theorem load1_b (g o : Nat) (v : Bool) (w : World) (h : w.cell? ⟨g, o, none⟩ = some (.bool v)) : (Instr.loadAt 4 (.pointer (some ⟨g, o, none⟩))).run Tryd.prog w = .ok (.bool v) w := by
  simp [go_sem, h]
theorem load1_s (g o : Nat) (v : ByteArray) (w : World) (h : w.cell? ⟨g, o, none⟩ = some (.string v)) : (Instr.loadAt 9 (.pointer (some ⟨g, o, none⟩))).run Tryd.prog w = .ok (.string v) w := by
  simp [go_sem, h]
theorem field_0 (g : Nat) (w : World) : (Instr.fieldAt 30 (.pointer (some ⟨g, 0, none⟩)) 0).run Tryd.prog w = .ok (.pointer (some ⟨g, 0, none⟩)) w := by kernel_rfl
theorem field_1 (g : Nat) (w : World) : (Instr.fieldAt 30 (.pointer (some ⟨g, 0, none⟩)) 1).run Tryd.prog w = .ok (.pointer (some ⟨g, 1, none⟩)) w := by kernel_rfl
theorem field_2 (g : Nat) (w : World) : (Instr.fieldAt 30 (.pointer (some ⟨g, 0, none⟩)) 2).run Tryd.prog w = .ok (.pointer (some ⟨g, 2, none⟩)) w := by kernel_rfl
theorem field_3 (g : Nat) (w : World) : (Instr.fieldAt 30 (.pointer (some ⟨g, 0, none⟩)) 3).run Tryd.prog w = .ok (.pointer (some ⟨g, 3, none⟩)) w := by kernel_rfl
theorem field_4 (g : Nat) (w : World) : (Instr.fieldAt 30 (.pointer (some ⟨g, 0, none⟩)) 4).run Tryd.prog w = .ok (.pointer (some ⟨g, 4, none⟩)) w := by kernel_rfl
theorem field_5 (g : Nat) (w : World) : (Instr.fieldAt 30 (.pointer (some ⟨g, 0, none⟩)) 5).run Tryd.prog w = .ok (.pointer (some ⟨g, 9, none⟩)) w := by kernel_rfl
theorem field_6 (g : Nat) (w : World) : (Instr.fieldAt 30 (.pointer (some ⟨g, 0, none⟩)) 6).run Tryd.prog w = .ok (.pointer (some ⟨g, 10, none⟩)) w := by kernel_rfl
theorem field_7 (g : Nat) (w : World) : (Instr.fieldAt 30 (.pointer (some ⟨g, 0, none⟩)) 7).run Tryd.prog w = .ok (.pointer (some ⟨g, 11, none⟩)) w := by kernel_rfl
theorem field_8 (g : Nat) (w : World) : (Instr.fieldAt 30 (.pointer (some ⟨g, 0, none⟩)) 8).run Tryd.prog w = .ok (.pointer (some ⟨g, 12, none⟩)) w := by kernel_rfl
theorem field_9 (g : Nat) (w : World) : (Instr.fieldAt 30 (.pointer (some ⟨g, 0, none⟩)) 9).run Tryd.prog w = .ok (.pointer (some ⟨g, 13, none⟩)) w := by kernel_rfl
theorem field_10 (g : Nat) (w : World) : (Instr.fieldAt 30 (.pointer (some ⟨g, 0, none⟩)) 10).run Tryd.prog w = .ok (.pointer (some ⟨g, 14, none⟩)) w := by kernel_rfl
theorem field_11 (g : Nat) (w : World) : (Instr.fieldAt 30 (.pointer (some ⟨g, 0, none⟩)) 11).run Tryd.prog w = .ok (.pointer (some ⟨g, 15, none⟩)) w := by kernel_rfl
theorem field_12 (g : Nat) (w : World) : (Instr.fieldAt 30 (.pointer (some ⟨g, 0, none⟩)) 12).run Tryd.prog w = .ok (.pointer (some ⟨g, 16, none⟩)) w := by kernel_rfl
theorem field_13 (g : Nat) (w : World) : (Instr.fieldAt 30 (.pointer (some ⟨g, 0, none⟩)) 13).run Tryd.prog w = .ok (.pointer (some ⟨g, 17, none⟩)) w := by kernel_rfl
theorem field_14 (g : Nat) (w : World) : (Instr.fieldAt 30 (.pointer (some ⟨g, 0, none⟩)) 14).run Tryd.prog w = .ok (.pointer (some ⟨g, 18, none⟩)) w := by kernel_rfl
theorem field_15 (g : Nat) (w : World) : (Instr.fieldAt 30 (.pointer (some ⟨g, 0, none⟩)) 15).run Tryd.prog w = .ok (.pointer (some ⟨g, 19, none⟩)) w := by kernel_rfl
theorem field_16 (g : Nat) (w : World) : (Instr.fieldAt 30 (.pointer (some ⟨g, 0, none⟩)) 16).run Tryd.prog w = .ok (.pointer (some ⟨g, 20, none⟩)) w := by kernel_rfl
theorem field_17 (g : Nat) (w : World) : (Instr.fieldAt 30 (.pointer (some ⟨g, 0, none⟩)) 17).run Tryd.prog w = .ok (.pointer (some ⟨g, 21, none⟩)) w := by kernel_rfl
theorem field_18 (g : Nat) (w : World) : (Instr.fieldAt 30 (.pointer (some ⟨g, 0, none⟩)) 18).run Tryd.prog w = .ok (.pointer (some ⟨g, 22, none⟩)) w := by kernel_rfl
theorem field_19 (g : Nat) (w : World) : (Instr.fieldAt 30 (.pointer (some ⟨g, 0, none⟩)) 19).run Tryd.prog w = .ok (.pointer (some ⟨g, 23, none⟩)) w := by kernel_rfl
theorem eql_i (u v : Int) (x y : Operand) (w : World) : (do eqGuard .eql 3 x y (.int .i64 u) (.int .i64 v); binOp .eql 3 (.int .i64 u) (.int .i64 v) : Sem Value).run Tryd.prog w = .ok (.bool (u == v)) w := by
  simp [go_sem]
theorem eql_b (u v : Bool) (x y : Operand) (w : World) : (do eqGuard .eql 4 x y (.bool u) (.bool v); binOp .eql 4 (.bool u) (.bool v) : Sem Value).run Tryd.prog w = .ok (.bool (u == v)) w := by
  simp [go_sem]
theorem eql_s (u v : ByteArray) (x y : Operand) (w : World) : (do eqGuard .eql 9 x y (.string u) (.string v); binOp .eql 9 (.string u) (.string v) : Sem Value).run Tryd.prog w = .ok (.bool (u.toList == v.toList)) w := by
  simp [go_sem]
theorem load1_26 (g o n c : Nat) (A : Option Addr) (w : World) (h : w.cell? ⟨g, o, none⟩ = some (.slice A n c)) : (Instr.loadAt 26 (.pointer (some ⟨g, o, none⟩))).run Tryd.prog w = .ok (.slice A n c) w := by
  simp [go_sem, h]
theorem load1_27 (g o n c : Nat) (A : Option Addr) (w : World) (h : w.cell? ⟨g, o, none⟩ = some (.slice A n c)) : (Instr.loadAt 27 (.pointer (some ⟨g, o, none⟩))).run Tryd.prog w = .ok (.slice A n c) w := by
  simp [go_sem, h]
theorem load1_28 (g o n c : Nat) (A : Option Addr) (w : World) (h : w.cell? ⟨g, o, none⟩ = some (.slice A n c)) : (Instr.loadAt 28 (.pointer (some ⟨g, o, none⟩))).run Tryd.prog w = .ok (.slice A n c) w := by
  simp [go_sem, h]
theorem load_will (g : Nat) (l : List Value) (a : Bool) (b c : ByteArray) (d : Int) (e : Bool) (w : World) (hC : Cells w g l) (h4 : l[4]? = some (.bool a)) (h5 : l[5]? = some (.string b)) (h6 : l[6]? = some (.string c)) (h7 : l[7]? = some (.int .i64 d)) (h8 : l[8]? = some (.bool e)) :
    (Instr.loadAt 25 (.pointer (some ⟨g, 4, none⟩))).run Tryd.prog w = .ok (.agg #[.bool a, .string b, .string c, .int .i64 d, .bool e]) w := by
  have c4 := hC.get 4 _ h4
  have c5 := hC.get 5 _ h5
  have c6 := hC.get 6 _ h6
  have c7 := hC.get 7 _ h7
  have c8 := hC.get 8 _ h8
  simp [go_sem, c4, c5, c6, c7, c8]
theorem eql_w (a a' : Bool) (b b' c c' : ByteArray) (d d' : Int) (e e' : Bool) (x y : Operand) (w : World) : (do eqGuard .eql 25 x y (.agg #[.bool a, .string b, .string c, .int .i64 d, .bool e]) (.agg #[.bool a', .string b', .string c', .int .i64 d', .bool e']); binOp .eql 25 (.agg #[.bool a, .string b, .string c, .int .i64 d, .bool e]) (.agg #[.bool a', .string b', .string c', .int .i64 d', .bool e']) : Sem Value).run Tryd.prog w =
    .ok (.bool (a == a' && (b.toList == b'.toList && (c.toList == c'.toList && (d == d' && e == e'))))) w := by
  simp [go_sem]
  by_cases h1 : a = a'
  · by_cases h2 : b.toList = b'.toList
    · by_cases h3 : c.toList = c'.toList
      · by_cases h4 : d = d'
        · by_cases h5 : e = e' <;> simp [h1, h2, h3, h4, h5]
        · simp [h1, h2, h3, h4]
      · simp [h1, h2, h3]
    · simp [h1, h2]
  · simp [h1]
theorem ent_slInts (args : Array Value) (w : World) : (callFunc 94 args).run Tryd.prog w = .ok (.enter 94 args) w := by kernel_rfl
theorem ent_eqInts (args : Array Value) (w : World) : (callFunc 58 args).run Tryd.prog w = .ok (.enter 58 args) w := by kernel_rfl
theorem ent_slWishes (args : Array Value) (w : World) : (callFunc 95 args).run Tryd.prog w = .ok (.enter 95 args) w := by kernel_rfl
theorem ent_eqWishes (args : Array Value) (w : World) : (callFunc 59 args).run Tryd.prog w = .ok (.enter 59 args) w := by kernel_rfl
theorem ent_slStrs (args : Array Value) (w : World) : (callFunc 96 args).run Tryd.prog w = .ok (.enter 96 args) w := by kernel_rfl
theorem ent_eqStrs (args : Array Value) (w : World) : (callFunc 60 args).run Tryd.prog w = .ok (.enter 60 args) w := by kernel_rfl
end Go.Proofs.YtkcdkjpmbjcmdaaDoor

/-
  A walk in few words: plain operations at the beginning of a list are run all at once.
-/
namespace Go.Proofs.YtkcdkjpmbjcmdaaDoor
open Go.RowKit

theorem load1_u (g o : Nat) (v : Int) (w : World) (h : w.cell? ⟨g, o, none⟩ = some (.int .u8 v)) : (Instr.loadAt 5 (.pointer (some ⟨g, o, none⟩))).run Tryd.prog w = .ok (.int .u8 v) w := by
  simp [go_sem, h]
theorem load1_31 (g o n c : Nat) (A : Option Addr) (w : World) (h : w.cell? ⟨g, o, none⟩ = some (.slice A n c)) : (Instr.loadAt 31 (.pointer (some ⟨g, o, none⟩))).run Tryd.prog w = .ok (.slice A n c) w := by
  simp [go_sem, h]
/-- the region at which a code begins, and what comes behind it. -/
def peel (P : Program) : Code → (Exit → Act → World → Prop) → Code × (Exit → Act → World → Prop)
  | .seq x y, Q => peel P x (Exit.then (fun a w => y.wp P Q a w) Q)
  | c, Q => (c, Q)
theorem peel_wp {P : Program} : ∀ (c : Code) (Q : Exit → Act → World → Prop) {a : Act} {w : World}, (peel P c Q).1.wp P (peel P c Q).2 a w → c.wp P Q a w
  | .seq x _, _, _, _, h => wp_seq (peel_wp x _ h)
  | c, _, _, _, h => by cases c <;> first | exact h | exact wp_seq (peel_wp _ _ h)
/-- a struct's field: the struct, where it begins, the field, where that lies. -/
def FT : List (Nat × Nat × Nat × Nat) :=
  [(30, 0, 0, 0), (30, 0, 1, 1), (30, 0, 2, 2), (30, 0, 3, 3), (30, 0, 4, 4), (30, 0, 5, 9), (30, 0, 6, 10), (30, 0, 7, 11), (30, 0, 8, 12), (30, 0, 9, 13), (30, 0, 10, 14), (30, 0, 11, 15), (30, 0, 12, 16), (30, 0, 13, 17), (30, 0, 14, 18), (30, 0, 15, 19), (30, 0, 16, 20), (30, 0, 17, 21), (30, 0, 18, 22), (30, 0, 19, 23),
   (25, 4, 0, 4), (25, 4, 1, 5), (25, 4, 2, 6), (25, 4, 3, 7), (25, 4, 4, 8), (25, 0, 0, 0), (25, 0, 1, 1), (25, 0, 2, 2), (25, 0, 3, 3), (25, 0, 4, 4), (95, 0, 0, 0), (95, 0, 1, 1)]
def FieldsOk : List (Nat × Nat × Nat × Nat) → Prop
  | [] => True
  | (s, b, f, r) :: l => (∀ (g : Nat) (w : World), (Instr.fieldAt s (.pointer (some ⟨g, b, none⟩)) f).run Tryd.prog w = .ok (.pointer (some ⟨g, r, none⟩)) w) ∧ FieldsOk l
theorem ft_ok : FieldsOk FT :=
  ⟨field_0, field_1, field_2, field_3, field_4, field_5, field_6, field_7, field_8, field_9, field_10, field_11, field_12, field_13, field_14, field_15, field_16, field_17, field_18, field_19,
   fun _ _ => by kernel_rfl, fun _ _ => by kernel_rfl, fun _ _ => by kernel_rfl, fun _ _ => by kernel_rfl, fun _ _ => by kernel_rfl, fun _ _ => by kernel_rfl, fun _ _ => by kernel_rfl, fun _ _ => by kernel_rfl, fun _ _ => by kernel_rfl, fun _ _ => by kernel_rfl, fun _ _ => by kernel_rfl, fun _ _ => by kernel_rfl, trivial⟩
def lookF : List (Nat × Nat × Nat × Nat) → Nat → Nat → Nat → Option Nat
  | [], _, _, _ => none
  | (s, b, f, r) :: l, s', b', f' => bif Nat.beq f f' && (Nat.beq s s' && Nat.beq b b') then some r else lookF l s' b' f'
theorem lookF_ok : ∀ {l : List (Nat × Nat × Nat × Nat)} {s b f r : Nat}, FieldsOk l → lookF l s b f = some r → ∀ (g : Nat) (w : World), (Instr.fieldAt s (.pointer (some ⟨g, b, none⟩)) f).run Tryd.prog w = .ok (.pointer (some ⟨g, r, none⟩)) w
  | [], _, _, _, _, _, h => by cases h
  | (s, b, f, r) :: l, s', b', f', r', hl, h => by
    unfold lookF at h
    cases hb : Nat.beq f f' && (Nat.beq s s' && Nat.beq b b') with
    | true =>
      rw [hb, cond_true] at h
      injection h with h
      simp only [Bool.and_eq_true] at hb
      have h1 := Nat.eq_of_beq_eq_true hb.1
      have h2 := Nat.eq_of_beq_eq_true hb.2.1
      have h3 := Nat.eq_of_beq_eq_true hb.2.2
      subst h h1 h2 h3
      exact hl.1
    | false =>
      rw [hb, cond_false] at h
      exact lookF_ok hl.2 h
/-- what a plain operation puts where. -/
def stepM (n : Nat) (o : Oper) (l : List (Nat × Value)) : Option (Nat × Value) :=
  match o.guard, o.dst, o.op with
  | none, some d, .move x => match Nat.blt d n, evL l x with
    | true, some v => some (d, v)
    | _, _ => none
  | none, some d, .assign x => match Nat.blt d n, evL l x with
    | true, some v => some (d, v)
    | _, _ => none
  | none, some d, .fieldAddr s x f => match Nat.blt d n, evL l x with
    | true, some (.pointer (some ⟨g, b, none⟩)) => match lookF FT s b f with
      | some r => some (d, .pointer (some ⟨g, r, none⟩))
      | none => none
    | _, _ => none
  | none, some d, .nilCheck x => match Nat.blt d n, evL l x with
    | true, some (.pointer (some p)) => some (d, .pointer (some p))
    | _, _ => none
  | _, _, _ => none
def runM (n : Nat) : Nat → List Oper → List (Nat × Value) → Option (List Oper × List (Nat × Value))
  | 0, L, l => some (L, l)
  | _ + 1, [], _ => none
  | k + 1, o :: L, l => match stepM n o l with
    | some p => runM n k L (p :: l)
    | none => none
section
variable {ops : Array Oper} {rest rest' : List Oper} {o : Oper} {a : Act} {w : World} {Q : Exit → Act → World → Prop} {n : Nat} {l l' : List (Nat × Value)}
theorem stepM_ok {p : Nat × Value} (H : Has a n l) (h : stepM n o l = some p) (hk : ∀ a', Has a' n (p :: l) → wpList Tryd.prog ops Q rest a' w) : wpList Tryd.prog ops Q (o :: rest) a w := by
  unfold stepM at h
  split at h
  · next d x hg hd ho =>
    split at h
    · next v hn hx =>
      injection h with h
      subst h
      exact H.move (gz hg) (.inl ho) hd hn hx hk
    · cases h
  · next d x hg hd ho =>
    split at h
    · next v hn hx =>
      injection h with h
      subst h
      exact H.move (gz hg) (.inr ho) hd hn hx hk
    · cases h
  · next d s x f hg hd ho =>
    split at h
    · next g b hn hx =>
      split at h
      · next r hr =>
        injection h with h
        subst h
        refine H.go (gz hg) hd hn _ ?_ hk
        unfold execOp
        simp only [ho, H.ev hx, Sem.run_bind, lookF_ok ft_ok hr, Result.andThen_ok, Sem.run_pure]
      · cases h
    · cases h
  · next d x hg hd ho =>
    split at h
    · next p hn hx =>
      injection h with h
      subst h
      refine H.go (gz hg) hd hn _ ?_ hk
      unfold execOp
      simp only [ho, H.ev hx]
      rfl
    · cases h
  · cases h
theorem runM_ok : ∀ (k : Nat) {L : List Oper} {l : List (Nat × Value)} {a : Act}, Has a n l → runM n k L l = some (rest, l') → (∀ a', Has a' n l' → wpList Tryd.prog ops Q rest a' w) → wpList Tryd.prog ops Q L a w
  | 0, L, l, a, H, h, hk => by
    simp only [runM, Option.some.injEq, Prod.mk.injEq] at h
    obtain ⟨rfl, rfl⟩ := h
    exact hk a H
  | k + 1, [], l, a, H, h, hk => by cases h
  | k + 1, o :: L, l, a, H, h, hk => by
    simp only [runM] at h
    split at h
    · next p hp => exact stepM_ok H hp fun a' H' => runM_ok k H' h hk
    · cases h
theorem Has.ms (H : Has a n l) (k : Nat) {L : List Oper} (h : ∀ a', Has a' n l' → wpList Tryd.prog ops Q rest a' w) (hr : runM n k L l = some (rest, l') := by rfl) : wpList Tryd.prog ops Q L a w := runM_ok k H hr h
theorem rl {c : Code} {Q Q' : Exit → Act → World → Prop} {id : Nat} {ops : Array Oper} {a : Act} {w : World} (h : wpList Tryd.prog ops Q' ops.toList a w) (hc : peel Tryd.prog c Q = (.region id ops false, Q') := by rfl) : c.wp Tryd.prog Q a w := by
  refine peel_wp c Q ?_
  rw [hc]
  exact wp_region_list h
/-- a plain region begins. -/
theorem Has.rg (H : Has a n l) (k : Nat) {c : Code} {Q' : Exit → Act → World → Prop} {id : Nat} {ops : Array Oper} (h : ∀ a', Has a' n l' → wpList Tryd.prog ops Q' rest a' w) (hc : peel Tryd.prog c Q = (.region id ops false, Q') := by rfl) (hr : runM n k ops.toList l = some (rest, l') := by rfl) : c.wp Tryd.prog Q a w := by
  refine peel_wp c Q ?_
  rw [hc]
  exact wp_region_list (runM_ok k H hr h)
theorem Has.gm (H : Has a n l) (k : Nat) {d : Nat} (hd : o.dst = some d) (hn : Nat.blt d n = true) (hg : o.guard = none) (v : Value) {w' : World} (hrun : (execOp a.eval o).run Tryd.prog w = .ok (.value v) w') (h : ∀ a', Has a' n l' → wpList Tryd.prog ops Q rest' a' w')
    (hr : runM n k rest ((d, v) :: l) = some (rest', l')) : wpList Tryd.prog ops Q (o :: rest) a w :=
  H.go (gz hg) hd hn v hrun fun _ H' => runM_ok k H' hr h
theorem Has.ld (H : Has a n l) (k : Nat) {T d : Nat} {x : Operand} {p v : Value} (hl : (Instr.loadAt T p).run Tryd.prog w = .ok v w) (h : ∀ a', Has a' n l' → wpList Tryd.prog ops Q rest' a' w) (ho : o.op = .load T x := by rfl) (hd : o.dst = some d := by rfl) (hn : Nat.blt d n = true := by rfl) (hg : o.guard = none := by rfl)
    (hx : evL l x = some p := by rfl) (hr : runM n k rest ((d, v) :: l) = some (rest', l') := by rfl) : wpList Tryd.prog ops Q (o :: rest) a w :=
  H.load (gz hg) ho hd hn hx hl fun _ H' => runM_ok k H' hr h
theorem Has.bn (H : Has a n l) (k : Nat) {d : Nat} {b : BinOp} {T T' : TypeId} {x y : Operand} {u v r : Value} (hq : (do eqGuard b T x y u v; binOp b T u v : Sem Value).run Tryd.prog w = .ok r w) (h : ∀ a', Has a' n l' → wpList Tryd.prog ops Q rest' a' w)
    (ho : o.op = .binOp b T x y T' := by rfl) (hd : o.dst = some d := by rfl) (hn : Nat.blt d n = true := by rfl) (hg : o.guard = none := by rfl) (hx : evL l x = some u := by rfl) (hy : evL l y = some v := by rfl) (hr : runM n k rest ((d, r) :: l) = some (rest', l') := by rfl) : wpList Tryd.prog ops Q (o :: rest) a w :=
  H.bin (gz hg) ho hd hn hx hy hq fun _ H' => runM_ok k H' hr h
theorem Has.bb (H : Has a n l) (k : Nat) {d : Nat} {b : BinOp} {T T' : TypeId} {x y : Operand} {u v r : Value} (ho : o.op = .binOp b T x y T') (hd : o.dst = some d) (hn : Nat.blt d n = true) (hg : o.guard = none) (hx : evL l x = some u) (hy : evL l y = some v)
    (hq : (do eqGuard b T x y u v; binOp b T u v : Sem Value).run Tryd.prog w = .ok r w) (hr : runM n k rest ((d, r) :: l) = some (rest', l')) (h : ∀ a', Has a' n l' → wpList Tryd.prog ops Q rest' a' w) : wpList Tryd.prog ops Q (o :: rest) a w :=
  H.bin (gz hg) ho hd hn hx hy hq fun _ H' => runM_ok k H' hr h
theorem Has.lo (H : Has a n l) (k : Nat) {T d : Nat} {x : Operand} {p v : Value} (ho : o.op = .load T x) (hd : o.dst = some d) (hn : Nat.blt d n = true) (hg : o.guard = none) (hx : evL l x = some p) (hl : (Instr.loadAt T p).run Tryd.prog w = .ok v w) (hr : runM n k rest ((d, v) :: l) = some (rest', l'))
    (h : ∀ a', Has a' n l' → wpList Tryd.prog ops Q rest' a' w) : wpList Tryd.prog ops Q (o :: rest) a w :=
  H.load (gz hg) ho hd hn hx hl fun _ H' => runM_ok k H' hr h
theorem Has.uo (H : Has a n l) (k : Nat) {d : Nat} {b : UnOp} {T : TypeId} {x : Operand} {u r : Value} (h : ∀ a', Has a' n l' → wpList Tryd.prog ops Q rest' a' w)
    (ho : o.op = .unOp b T x := by rfl) (hd : o.dst = some d := by rfl) (hn : Nat.blt d n = true := by rfl) (hg : o.guard = none := by rfl) (hx : evL l x = some u := by rfl) (hq : (Op.unary b u).run Tryd.prog w = .ok r w := by rfl) (hr : runM n k rest ((d, r) :: l) = some (rest', l') := by rfl) : wpList Tryd.prog ops Q (o :: rest) a w :=
  H.un (gz hg) ho hd hn hx hq fun _ H' => runM_ok k H' hr h
theorem Has.cv (H : Has a n l) (k : Nat) {d : Nat} {T T' : TypeId} {x : Operand} {u r : Value} (hq : (convert T T' u).run Tryd.prog w = .ok r w) (h : ∀ a', Has a' n l' → wpList Tryd.prog ops Q rest' a' w)
    (ho : o.op = .convert T T' x := by rfl) (hd : o.dst = some d := by rfl) (hn : Nat.blt d n = true := by rfl) (hg : o.guard = none := by rfl) (hx : evL l x = some u := by rfl) (hr : runM n k rest ((d, r) :: l) = some (rest', l') := by rfl) : wpList Tryd.prog ops Q (o :: rest) a w :=
  H.conv (gz hg) ho hd hn hx hq fun _ H' => runM_ok k H' hr h
theorem Has.ex (H : Has a n l) (k : Nat) {d i : Nat} {x : Operand} {u r : Value} (h : ∀ a', Has a' n l' → wpList Tryd.prog ops Q rest' a' w)
    (ho : o.op = .extract x i := by rfl) (hd : o.dst = some d := by rfl) (hn : Nat.blt d n = true := by rfl) (hg : o.guard = none := by rfl) (hx : evL l x = some u := by rfl) (hq : (Instr.extract u i).run Tryd.prog w = .ok r w := by rfl) (hr : runM n k rest ((d, r) :: l) = some (rest', l') := by rfl) : wpList Tryd.prog ops Q (o :: rest) a w :=
  H.extract (gz hg) ho hd hn hx hq fun _ H' => runM_ok k H' hr h
/-- a call that leaves the world alone. -/
theorem Has.cq (H : Has a n l) (k : Nat) {d : Nat} {f : FuncId} {xs : Array Operand} {ats : Array TypeId} {vs : List Value} {v : Value} (hc : Calls Tryd.prog f vs.toArray w fun e w' => e = .returned v ∧ w = w') (h : ∀ a', Has a' n l' → wpList Tryd.prog ops Q rest' a' w)
    (ho : o.op = .call { callee := .value (.func f), args := xs, argTypes := ats } := by rfl) (hd : o.dst = some d := by rfl) (hn : Nat.blt d n = true := by rfl) (hg : o.guard = none := by rfl) (hx : evLs l xs.toList = some vs := by rfl)
    (hen : ∀ (args : Array Value) (w : World), (callFunc f args).run Tryd.prog w = .ok (.enter f args) w := by exact fun _ _ => by kernel_rfl) (hr : runM n k rest ((d, v) :: l) = some (rest', l') := by rfl) : wpList Tryd.prog ops Q (o :: rest) a w :=
  H.call (gz hg) ho hd hn hx hen (quietC hc) (by rintro _ _ _ ⟨rfl, rfl⟩ H'; exact runM_ok k H' hr h)
theorem Has.cl (H : Has a n l) {d : Nat} {f : FuncId} {xs : Array Operand} {ats : Array TypeId} {vs : List Value} {R : Value → World → Prop} (hc : Calls Tryd.prog f vs.toArray w fun e w' => ∃ v, e = .returned v ∧ R v w') (h : ∀ a' v w', R v w' → Has a' n ((d, v) :: l) → wpList Tryd.prog ops Q rest a' w')
    (ho : o.op = .call { callee := .value (.func f), args := xs, argTypes := ats } := by rfl) (hd : o.dst = some d := by rfl) (hn : Nat.blt d n = true := by rfl) (hg : o.guard = none := by rfl) (hx : evLs l xs.toList = some vs := by rfl)
    (hen : ∀ (args : Array Value) (w : World), (callFunc f args).run Tryd.prog w = .ok (.enter f args) w := by exact fun _ _ => by kernel_rfl) : wpList Tryd.prog ops Q (o :: rest) a w :=
  H.call (gz hg) ho hd hn hx hen hc h
section
variable {W : World} {B : Nat} {bs : List (Nat × List Value)}
theorem Has.bx (H : Has a n l) (O : Own W B bs w) (k : Nat) {T d : Nat} {x : Operand} {L : List Value} (h : ∀ a' w', Own W B ((w.heap.size, L) :: bs) w' → Has a' n l' → wpList Tryd.prog ops Q rest' a' w')
    (ho : o.op = .box T x := by rfl) (hd : o.dst = some d := by rfl) (hn : Nat.blt d n = true := by rfl) (hg : o.guard = none := by rfl) (hx : evL l x = some (.agg L.toArray) := by rfl) (hr : runM n k rest ((d, .pointer (some ⟨w.heap.size, 0, none⟩)) :: l) = some (rest', l') := by rfl) : wpList Tryd.prog ops Q (o :: rest) a w :=
  H.box hg ho hd hn hx fun _ _ hb hs hC H' => runM_ok k H' hr fun _ H'' => h _ _ (O.alloc hb hs hC) H''
theorem Has.al (H : Has a n l) (O : Own W B bs w) (k : Nat) {T d : Nat} {L : List Value} (hz : ∀ w, (zeroValue T).run Tryd.prog w = .ok (.agg L.toArray) w) (h : ∀ a' w', Own W B ((w.heap.size, L) :: bs) w' → Has a' n l' → wpList Tryd.prog ops Q rest' a' w')
    (ho : o.op = .alloc T := by rfl) (hd : o.dst = some d := by rfl) (hn : Nat.blt d n = true := by rfl) (hg : o.guard = none := by rfl) (hr : runM n k rest ((d, .pointer (some ⟨w.heap.size, 0, none⟩)) :: l) = some (rest', l') := by rfl) : wpList Tryd.prog ops Q (o :: rest) a w :=
  H.alloc hg ho hd hn L hz fun _ _ hb hs hC H' => runM_ok k H' hr fun _ H'' => h _ _ (O.alloc hb hs hC) H''
/-- a struct of one's own is written, or read. -/
theorem Has.st (H : Has a n l) (O : Own W B bs w) (i k : Nat) {T g m : Nat} {x y : Operand} {L L0 : List Value} (h : ∀ a' w', Own W B (bs.set i (g, L)) w' → Has a' n l' → wpList Tryd.prog ops Q rest' a' w') (hi : (Tryd.prog.info? T).map (·.size) = some m)
    (ho : o.op = .store T x y := by rfl) (hd : o.dst = none := by rfl) (hg : o.guard = none := by rfl) (hx : evL l x = some (.pointer (some ⟨g, 0, none⟩)) := by rfl) (hb : bs[i]? = some (g, L0) := by rfl) (hy : evL l y = some (.agg L.toArray) := by rfl) (h0 : L0.length = m := by rfl) (h1 : L.length = m := by rfl) (h2 : L.all (·.oneCell') = true := by rfl)
    (hr : runM n k rest l = some (rest', l') := by rfl) : wpList Tryd.prog ops Q (o :: rest) a w :=
  H.storeS hg ho hd hx hy (O.get i hb) hi h0 h1 h2 fun _ _ H' hg hs hC => runM_ok k H' hr fun _ H'' => h _ _ (O.store i hb hg hs hC) H''
theorem Has.lm (H : Has a n l) (O : Own W B bs w) (i k : Nat) {d g : Nat} {x : Operand} {L : List Value} (h : ∀ a', Has a' n l' → wpList Tryd.prog ops Q rest' a' w)
    (ho : o.op = .load 30 x := by rfl) (hd : o.dst = some d := by rfl) (hn : Nat.blt d n = true := by rfl) (hg : o.guard = none := by rfl) (hx : evL l x = some (.pointer (some ⟨g, 0, none⟩)) := by rfl) (hb : bs[i]? = some (g, L) := by rfl) (hl : L.length = 24 := by rfl)
    (hr : runM n k rest ((d, .agg L.toArray) :: l) = some (rest', l') := by rfl) : wpList Tryd.prog ops Q (o :: rest) a w :=
  H.loadS hg ho hd hn hx (O.get i hb) Tryd.underlying30 rfl size_mq hl fun _ H' => runM_ok k H' hr h
theorem Has.sc (H : Has a n l) (O : Own W B bs w) (i k : Nat) {T g j : Nat} {x y : Operand} {v : Value} {L : List Value} (hst : ∀ u, w.cell? ⟨g, j, none⟩ = some u → w.frozen? ⟨g, j, none⟩ = false → (Instr.storeAt T (.pointer (some ⟨g, j, none⟩)) v).run Tryd.prog w = .ok () (w.setCell ⟨g, j, none⟩ v))
    (h : ∀ a' w', Own W B (bs.set i (g, L.set j v)) w' → Has a' n l' → wpList Tryd.prog ops Q rest' a' w')
    (ho : o.op = .store T x y := by rfl) (hd : o.dst = none := by rfl) (hg : o.guard = none := by rfl) (hx : evL l x = some (.pointer (some ⟨g, j, none⟩)) := by rfl) (hy : evL l y = some v := by rfl) (hb : bs[i]? = some (g, L) := by rfl) (hj : Nat.blt j L.length = true := by rfl)
    (hr : runM n k rest l = some (rest', l') := by rfl) : wpList Tryd.prog ops Q (o :: rest) a w :=
  H.storeC O i hb (gz hg) ho hd hx hy hj hst fun _ _ H' O' => runM_ok k H' hr fun _ H'' => h _ _ O' H''
theorem Own.li (O : Own W B bs w) (i j : Nat) {g : Nat} {L : List Value} {v : Int} (h1 : bs[i]? = some (g, L) := by rfl) (h2 : L[j]? = some (.int .i64 v) := by rfl) : (Instr.loadAt 3 (.pointer (some ⟨g, j, none⟩))).run Tryd.prog w = .ok (.int .i64 v) w := load1_i _ _ _ _ ((O.get i h1).get j _ h2)
theorem Own.lb (O : Own W B bs w) (i j : Nat) {g : Nat} {L : List Value} {v : Bool} (h1 : bs[i]? = some (g, L) := by rfl) (h2 : L[j]? = some (.bool v) := by rfl) : (Instr.loadAt 4 (.pointer (some ⟨g, j, none⟩))).run Tryd.prog w = .ok (.bool v) w := load1_b _ _ _ _ ((O.get i h1).get j _ h2)
theorem Own.ls (O : Own W B bs w) (i j : Nat) {g : Nat} {L : List Value} {v : ByteArray} (h1 : bs[i]? = some (g, L) := by rfl) (h2 : L[j]? = some (.string v) := by rfl) : (Instr.loadAt 9 (.pointer (some ⟨g, j, none⟩))).run Tryd.prog w = .ok (.string v) w := load1_s _ _ _ _ ((O.get i h1).get j _ h2)
theorem Own.l6 (O : Own W B bs w) (i j : Nat) {g n c : Nat} {A : Option Addr} {L : List Value} (h1 : bs[i]? = some (g, L) := by rfl) (h2 : L[j]? = some (.slice A n c) := by rfl) : (Instr.loadAt 26 (.pointer (some ⟨g, j, none⟩))).run Tryd.prog w = .ok (.slice A n c) w := load1_26 _ _ _ _ _ _ ((O.get i h1).get j _ h2)
theorem Own.l7 (O : Own W B bs w) (i j : Nat) {g n c : Nat} {A : Option Addr} {L : List Value} (h1 : bs[i]? = some (g, L) := by rfl) (h2 : L[j]? = some (.slice A n c) := by rfl) : (Instr.loadAt 27 (.pointer (some ⟨g, j, none⟩))).run Tryd.prog w = .ok (.slice A n c) w := load1_27 _ _ _ _ _ _ ((O.get i h1).get j _ h2)
theorem Own.l8 (O : Own W B bs w) (i j : Nat) {g n c : Nat} {A : Option Addr} {L : List Value} (h1 : bs[i]? = some (g, L) := by rfl) (h2 : L[j]? = some (.slice A n c) := by rfl) : (Instr.loadAt 28 (.pointer (some ⟨g, j, none⟩))).run Tryd.prog w = .ok (.slice A n c) w := load1_28 _ _ _ _ _ _ ((O.get i h1).get j _ h2)
end
end
end Go.Proofs.YtkcdkjpmbjcmdaaDoor

/-
  Two packets compared: pack.Same, the page's EqMq.
-/
namespace Go.Proofs.YtkcdkjpmbjcmdaaDoor
open Go.RowKit

/-- the same packet? -/
def Mq.same (a b : Mq) : Bool := ((a.kind == b.kind) && ((a.client.toList == b.client.toList) && ((a.clean == b.clean) && ((a.keep == b.keep) && ((a.won == b.won) && ((a.wt.toList == b.wt.toList) && ((a.wp.toList == b.wp.toList) && ((a.wq == b.wq) && ((a.wr == b.wr) && ((a.user.toList == b.user.toList) && ((a.hu == b.hu) && ((a.pass.toList == b.pass.toList) && ((a.hp == b.hp) && ((a.present == b.present) && ((a.code == b.code) && (eqG a.codes b.codes && ((a.dup == b.dup) && ((a.qos == b.qos) && ((a.retain == b.retain) && ((a.topic.toList == b.topic.toList) && ((a.id == b.id) && ((a.payload.toList == b.payload.toList) && (eqG a.wishes b.wishes && eqG a.filters b.filters)))))))))))))))))))))))
theorem str_eq {u v : ByteArray} (h : (u.toList == v.toList) = true) : u = v := by
  rw [beq_iff_eq, Lib.toList_data, Lib.toList_data] at h
  exact ByteArray.ext (Array.toList_inj.1 h)
theorem same_iff (a b : Mq) : Mq.same a b = true ↔ a = b := by
  constructor
  · intro h
    unfold Mq.same at h
    simp only [Bool.and_eq_true] at h
    obtain ⟨h0, h1, h2, h3, h4, h5, h6, h7, h8, h9, h10, h11, h12, h13, h14, h15, h16, h17, h18, h19, h20, h21, h22, h23⟩ := h
    cases a
    cases b
    simp only [Mq.mk.injEq]
    exact ⟨by simpa using h0, str_eq h1, by simpa using h2, by simpa using h3, by simpa using h4, str_eq h5, str_eq h6, by simpa using h7, by simpa using h8, str_eq h9, by simpa using h10, str_eq h11, by simpa using h12, by simpa using h13, by simpa using h14, of_decide_eq_true h15, by simpa using h16, by simpa using h17, by simpa using h18, str_eq h19, by simpa using h20, str_eq h21, of_decide_eq_true h22, of_decide_eq_true h23⟩
  · rintro rfl
    simp [Mq.same, eqG_same]
/-- what a packet's lists read as, below B. -/
def MqL (w : World) (B : Nat) (m : Mq) (vc vw vf : Value) : Prop :=
  ∃ A1 c1 A2 c2 A3 c3, vc = .slice A1 m.codes.length c1 ∧ vw = .slice A2 m.wishes.length c2 ∧ vf = .slice A3 m.filters.length c3 ∧
    m.codes.length ≤ c1 ∧ m.wishes.length ≤ c2 ∧ m.filters.length ≤ c3 ∧ m.codes.length ≤ 140737488351232 ∧ m.wishes.length ≤ 140737488351232 ∧ m.filters.length ≤ 140737488351232 ∧
    Reads w B 1 A1 m.codes.length (m.codes.map iv) ∧ Reads w B 2 A2 m.wishes.length (wv m.wishes) ∧ Reads w B 1 A3 m.filters.length (m.filters.map sv)
theorem MqL.next {w w' : World} {m : Mq} {vc vw vf : Value} (h : MqL w w.heap.size m vc vw vf) (hb : Below w.heap.size w w') : MqL w' w'.heap.size m vc vw vf := by
  obtain ⟨A1, c1, A2, c2, A3, c3, e1, e2, e3, l1, l2, l3, k1, k2, k3, r1, r2, r3⟩ := h
  exact ⟨A1, c1, A2, c2, A3, c3, e1, e2, e3, l1, l2, l3, k1, k2, k3, (r1.below hb).more hb.size, (r2.below hb).more hb.size, (r3.below hb).more hb.size⟩
theorem Reads.next {w w' : World} {size n : Nat} {A : Option Addr} {xs : List Value} (h : Reads w w.heap.size size A n xs) (hb : Below w.heap.size w w') : Reads w' w'.heap.size size A n xs := (h.below hb).more hb.size

set_option maxRecDepth 100000 in
set_option maxHeartbeats 6400000 in
theorem packSame (a b : Mq) (va vwa vfa vb vwb vfb : Value) (w : World) (ha : MqL w w.heap.size a va vwa vfa) (hb : MqL w w.heap.size b vb vwb vfb) :
    Calls Tryd.prog 73 #[.agg (mqCells a va vwa vfa).toArray, .agg (mqCells b vb vwb vfb).toArray] w fun e w' => e = .returned (.bool (Mq.same a b)) ∧ Below w.heap.size w w' := by
  obtain ⟨A1, p1, A2, p2, A3, p3, rfl, rfl, rfl, _, _, _, k1, k2, k3, r1, r2, r3⟩ := ha
  obtain ⟨B1, q1, B2, q2, B3, q3, rfl, rfl, rfl, _, _, _, _, _, _, s1, s2, s3⟩ := hb
  have K1 := Lib.hid (fun w1 h => slInts a.codes b.codes A1 B1 p1 q1 w1 (r1.next h) (s1.next h) (by omega))
  have K2 := Lib.hid (fun w1 h => slWishes a.wishes b.wishes A2 B2 p2 q2 w1 (r2.next h) (s2.next h) (by omega))
  have K3 := Lib.hid (fun w1 h => slStrs a.filters b.filters A3 B3 p3 q3 w1 (r3.next h) (s3.next h) (by omega))
  clear r1 r2 r3 s1 s2 s3 k1 k2 k3
  have tok1 : True := trivial
  have tok2 : True := trivial
  go_enter Tryd.func73, Tryd.ntmps73
  go_upto_region 1 with (first
    | (have _t := tok1; (with_reducible refine wpList_box_cells ?_ 30 (.tmp 0) ?_ (mqCells a (.slice A1 a.codes.length p1) (.slice A2 a.wishes.length p2) (.slice A3 a.filters.length p3)) ?_ w.heap.size ?_ ?_); exact rfl; exact rfl; exact rfl; exact rfl; intro w1 hb1 hs1 hC1; have HS1 := Lib.hid hs1; have HC1 := Lib.hid hC1; have HB1 := Lib.hid hb1; clear tok1 _t hs1 hC1 hb1)
    | (have _t := tok2; have _s := HS1; (with_reducible refine wpList_box_cells ?_ 30 (.tmp 1) ?_ (mqCells b (.slice B1 b.codes.length q1) (.slice B2 b.wishes.length q2) (.slice B3 b.filters.length q3)) ?_ (w.heap.size + 1) ?_ ?_); exact rfl; exact rfl; exact rfl; exact HS1.out; intro w2 hb2 hs2 hC2; have HA2 := Lib.hid (HC1.out.below hb2 (Nat.lt_succ_self _)); have HB2 := Lib.hid hC2; have HW2 := Lib.hid (HB1.out.trans (hb2.mono (Nat.le_succ _))); have HLa2 := Lib.hid (show w.heap.size < w2.heap.size by omega); have HLb2 := Lib.hid (show w.heap.size + 1 < w2.heap.size by omega); clear tok2 _t _s hs2 hC2 hb2))
  rename_i K hK
  refine wp_region_list ?_
  refine wpList_link0 (n := 143) (ga := w.heap.size) (gb := w.heap.size + 1) rfl rfl rfl rfl (by decide) rfl rfl rfl rfl (by decide) field_0 (load1_i _ _ _ _ (HA2.out.get 0 _ rfl)) (load1_i _ _ _ _ (HB2.out.get 0 _ rfl)) (eql_i _ _ _ _ _) ?_
  intro a1 F1
  refine wpList_link F1 (by decide) rfl rfl rfl rfl rfl rfl rfl (by decide) (by kernel_rfl) field_1 (load1_s _ _ _ _ (HA2.out.get 1 _ rfl)) (load1_s _ _ _ _ (HB2.out.get 1 _ rfl)) (eql_s _ _ _ _ _) ?_
  intro a2 F2
  refine wpList_link F2 (by decide) rfl rfl rfl rfl rfl rfl rfl (by decide) (by kernel_rfl) field_2 (load1_b _ _ _ _ (HA2.out.get 2 _ rfl)) (load1_b _ _ _ _ (HB2.out.get 2 _ rfl)) (eql_b _ _ _ _ _) ?_
  intro a3 F3
  refine wpList_link F3 (by decide) rfl rfl rfl rfl rfl rfl rfl (by decide) (by kernel_rfl) field_3 (load1_i _ _ _ _ (HA2.out.get 3 _ rfl)) (load1_i _ _ _ _ (HB2.out.get 3 _ rfl)) (eql_i _ _ _ _ _) ?_
  intro a4 F4
  refine wpList_link F4 (by decide) rfl rfl rfl rfl rfl rfl rfl (by decide) (by kernel_rfl) field_4 (load_will _ _ _ _ _ _ _ _ HA2.out rfl rfl rfl rfl rfl) (load_will _ _ _ _ _ _ _ _ HB2.out rfl rfl rfl rfl rfl) (eql_w _ _ _ _ _ _ _ _ _ _ _ _ _) ?_
  intro a5 F5
  refine wpList_link F5 (by decide) rfl rfl rfl rfl rfl rfl rfl (by decide) (by kernel_rfl) field_5 (load1_s _ _ _ _ (HA2.out.get 9 _ rfl)) (load1_s _ _ _ _ (HB2.out.get 9 _ rfl)) (eql_s _ _ _ _ _) ?_
  intro a6 F6
  refine wpList_link F6 (by decide) rfl rfl rfl rfl rfl rfl rfl (by decide) (by kernel_rfl) field_6 (load1_b _ _ _ _ (HA2.out.get 10 _ rfl)) (load1_b _ _ _ _ (HB2.out.get 10 _ rfl)) (eql_b _ _ _ _ _) ?_
  intro a7 F7
  refine wpList_link F7 (by decide) rfl rfl rfl rfl rfl rfl rfl (by decide) (by kernel_rfl) field_7 (load1_s _ _ _ _ (HA2.out.get 11 _ rfl)) (load1_s _ _ _ _ (HB2.out.get 11 _ rfl)) (eql_s _ _ _ _ _) ?_
  intro a8 F8
  refine wpList_link F8 (by decide) rfl rfl rfl rfl rfl rfl rfl (by decide) (by kernel_rfl) field_8 (load1_b _ _ _ _ (HA2.out.get 12 _ rfl)) (load1_b _ _ _ _ (HB2.out.get 12 _ rfl)) (eql_b _ _ _ _ _) ?_
  intro a9 F9
  refine wpList_link F9 (by decide) rfl rfl rfl rfl rfl rfl rfl (by decide) (by kernel_rfl) field_9 (load1_b _ _ _ _ (HA2.out.get 13 _ rfl)) (load1_b _ _ _ _ (HB2.out.get 13 _ rfl)) (eql_b _ _ _ _ _) ?_
  intro a10 F10
  refine wpList_link F10 (by decide) rfl rfl rfl rfl rfl rfl rfl (by decide) (by kernel_rfl) field_10 (load1_i _ _ _ _ (HA2.out.get 14 _ rfl)) (load1_i _ _ _ _ (HB2.out.get 14 _ rfl)) (eql_i _ _ _ _ _) ?_
  intro a11 F11
  refine wpList_linkC F11 (by decide) rfl rfl rfl rfl rfl rfl rfl (by decide) (by kernel_rfl) field_11 (load1_26 _ _ _ _ _ _ (HA2.out.get 15 _ rfl)) (load1_26 _ _ _ _ _ _ (HB2.out.get 15 _ rfl)) ent_slInts (K1.out w2 HW2.out) ?_
  intro a12 w3 F12 hx3
  have HW3 := Lib.hid (HW2.out.trans (hx3.mono HW2.out.size))
  have HA3 := Lib.hid (HA2.out.below hx3 HLa2.out)
  have HB3 := Lib.hid (HB2.out.below hx3 HLb2.out)
  have HLa3 := Lib.hid (Nat.lt_of_lt_of_le HLa2.out hx3.size)
  have HLb3 := Lib.hid (Nat.lt_of_lt_of_le HLb2.out hx3.size)
  clear hx3
  refine wpList_link F12 (by decide) rfl rfl rfl rfl rfl rfl rfl (by decide) (by kernel_rfl) field_12 (load1_b _ _ _ _ (HA3.out.get 16 _ rfl)) (load1_b _ _ _ _ (HB3.out.get 16 _ rfl)) (eql_b _ _ _ _ _) ?_
  intro a13 F13
  refine wpList_link F13 (by decide) rfl rfl rfl rfl rfl rfl rfl (by decide) (by kernel_rfl) field_13 (load1_i _ _ _ _ (HA3.out.get 17 _ rfl)) (load1_i _ _ _ _ (HB3.out.get 17 _ rfl)) (eql_i _ _ _ _ _) ?_
  intro a14 F14
  refine wpList_link F14 (by decide) rfl rfl rfl rfl rfl rfl rfl (by decide) (by kernel_rfl) field_14 (load1_b _ _ _ _ (HA3.out.get 18 _ rfl)) (load1_b _ _ _ _ (HB3.out.get 18 _ rfl)) (eql_b _ _ _ _ _) ?_
  intro a15 F15
  refine wpList_link F15 (by decide) rfl rfl rfl rfl rfl rfl rfl (by decide) (by kernel_rfl) field_15 (load1_s _ _ _ _ (HA3.out.get 19 _ rfl)) (load1_s _ _ _ _ (HB3.out.get 19 _ rfl)) (eql_s _ _ _ _ _) ?_
  intro a16 F16
  refine wpList_link F16 (by decide) rfl rfl rfl rfl rfl rfl rfl (by decide) (by kernel_rfl) field_16 (load1_i _ _ _ _ (HA3.out.get 20 _ rfl)) (load1_i _ _ _ _ (HB3.out.get 20 _ rfl)) (eql_i _ _ _ _ _) ?_
  intro a17 F17
  refine wpList_link F17 (by decide) rfl rfl rfl rfl rfl rfl rfl (by decide) (by kernel_rfl) field_17 (load1_s _ _ _ _ (HA3.out.get 21 _ rfl)) (load1_s _ _ _ _ (HB3.out.get 21 _ rfl)) (eql_s _ _ _ _ _) ?_
  intro a18 F18
  refine wpList_linkC F18 (by decide) rfl rfl rfl rfl rfl rfl rfl (by decide) (by kernel_rfl) field_18 (load1_27 _ _ _ _ _ _ (HA3.out.get 22 _ rfl)) (load1_27 _ _ _ _ _ _ (HB3.out.get 22 _ rfl)) ent_slWishes (K2.out w3 HW3.out) ?_
  intro a19 w4 F19 hx4
  have HW4 := Lib.hid (HW3.out.trans (hx4.mono HW3.out.size))
  have HA4 := Lib.hid (HA3.out.below hx4 HLa3.out)
  have HB4 := Lib.hid (HB3.out.below hx4 HLb3.out)
  have HLa4 := Lib.hid (Nat.lt_of_lt_of_le HLa3.out hx4.size)
  have HLb4 := Lib.hid (Nat.lt_of_lt_of_le HLb3.out hx4.size)
  clear hx4
  refine wpList_linkC F19 (by decide) rfl rfl rfl rfl rfl rfl rfl (by decide) (by kernel_rfl) field_19 (load1_28 _ _ _ _ _ _ (HA4.out.get 23 _ rfl)) (load1_28 _ _ _ _ _ _ (HB4.out.get 23 _ rfl)) ent_slStrs (K3.out w4 HW4.out) ?_
  intro a20 w5 F20 hx5
  have HW5 := Lib.hid (HW4.out.trans (hx5.mono HW4.out.size))
  have HA5 := Lib.hid (HA4.out.below hx5 HLa4.out)
  have HB5 := Lib.hid (HB4.out.below hx5 HLb4.out)
  have HLa5 := Lib.hid (Nat.lt_of_lt_of_le HLa4.out hx5.size)
  have HLb5 := Lib.hid (Nat.lt_of_lt_of_le HLb4.out hx5.size)
  clear hx5
  refine wpList_go (wanted_none rfl _) 4 rfl (a20.eval (.tmp 142)) w5 rfl ?_
  have hr : (a20.put (some 4) (a20.eval (.tmp 142))).eval (.tmp 4) = .bool (Mq.same a b) := by
    rw [Act.eval_put_same _ _ _ (by rw [F20.sz]; decide), F20.tk]
    simp only [Mq.same, Bool.and_assoc]
  have hdf : (a20.put (some 4) (a20.eval (.tmp 142))).defers = [] := by rw [Act.defers_put', F20.df]
  generalize a20.put (some 4) (a20.eval (.tmp 142)) = az at hr hdf
  refine wpList_nil ?_
  refine hK _ _ (wp_ret ?_)
  refine bodyPost_ret (results_tmp rfl _ _ _) hdf ⟨?_, HW5.out⟩
  exact congrArg Ending.returned hr

set_option maxRecDepth 100000 in
set_option maxHeartbeats 6400000 in
theorem refEqMq (a b : Mq) (va vwa vfa vb vwb vfb : Value) (w : World) (ha : MqL w w.heap.size a va vwa vfa) (hb : MqL w w.heap.size b vb vwb vfb) :
    Calls Tryd.prog 30 #[.agg (mqCells a va vwa vfa).toArray, .agg (mqCells b vb vwb vfb).toArray] w fun e w' => e = .returned (.bool (Mq.same a b)) ∧ Below w.heap.size w w' := by
  obtain ⟨A1, p1, A2, p2, A3, p3, rfl, rfl, rfl, _, _, _, k1, k2, k3, r1, r2, r3⟩ := ha
  obtain ⟨B1, q1, B2, q2, B3, q3, rfl, rfl, rfl, _, _, _, _, _, _, s1, s2, s3⟩ := hb
  have K1 := Lib.hid (fun w1 h => eqInts a.codes b.codes A1 B1 p1 q1 w1 (r1.next h) (s1.next h) (by omega))
  have K2 := Lib.hid (fun w1 h => eqWishes a.wishes b.wishes A2 B2 p2 q2 w1 (r2.next h) (s2.next h) (by omega))
  have K3 := Lib.hid (fun w1 h => eqStrs a.filters b.filters A3 B3 p3 q3 w1 (r3.next h) (s3.next h) (by omega))
  clear r1 r2 r3 s1 s2 s3 k1 k2 k3
  have tok1 : True := trivial
  have tok2 : True := trivial
  go_enter Tryd.func30, Tryd.ntmps30
  go_upto_region 1 with (first
    | (have _t := tok1; (with_reducible refine wpList_box_cells ?_ 30 (.tmp 0) ?_ (mqCells a (.slice A1 a.codes.length p1) (.slice A2 a.wishes.length p2) (.slice A3 a.filters.length p3)) ?_ w.heap.size ?_ ?_); exact rfl; exact rfl; exact rfl; exact rfl; intro w1 hb1 hs1 hC1; have HS1 := Lib.hid hs1; have HC1 := Lib.hid hC1; have HB1 := Lib.hid hb1; clear tok1 _t hs1 hC1 hb1)
    | (have _t := tok2; have _s := HS1; (with_reducible refine wpList_box_cells ?_ 30 (.tmp 1) ?_ (mqCells b (.slice B1 b.codes.length q1) (.slice B2 b.wishes.length q2) (.slice B3 b.filters.length q3)) ?_ (w.heap.size + 1) ?_ ?_); exact rfl; exact rfl; exact rfl; exact HS1.out; intro w2 hb2 hs2 hC2; have HA2 := Lib.hid (HC1.out.below hb2 (Nat.lt_succ_self _)); have HB2 := Lib.hid hC2; have HW2 := Lib.hid (HB1.out.trans (hb2.mono (Nat.le_succ _))); have HLa2 := Lib.hid (show w.heap.size < w2.heap.size by omega); have HLb2 := Lib.hid (show w.heap.size + 1 < w2.heap.size by omega); clear tok2 _t _s hs2 hC2 hb2))
  rename_i K hK
  refine wp_region_list ?_
  refine wpList_link0 (n := 143) (ga := w.heap.size) (gb := w.heap.size + 1) rfl rfl rfl rfl (by decide) rfl rfl rfl rfl (by decide) field_0 (load1_i _ _ _ _ (HA2.out.get 0 _ rfl)) (load1_i _ _ _ _ (HB2.out.get 0 _ rfl)) (eql_i _ _ _ _ _) ?_
  intro a1 F1
  refine wpList_link F1 (by decide) rfl rfl rfl rfl rfl rfl rfl (by decide) (by kernel_rfl) field_1 (load1_s _ _ _ _ (HA2.out.get 1 _ rfl)) (load1_s _ _ _ _ (HB2.out.get 1 _ rfl)) (eql_s _ _ _ _ _) ?_
  intro a2 F2
  refine wpList_link F2 (by decide) rfl rfl rfl rfl rfl rfl rfl (by decide) (by kernel_rfl) field_2 (load1_b _ _ _ _ (HA2.out.get 2 _ rfl)) (load1_b _ _ _ _ (HB2.out.get 2 _ rfl)) (eql_b _ _ _ _ _) ?_
  intro a3 F3
  refine wpList_link F3 (by decide) rfl rfl rfl rfl rfl rfl rfl (by decide) (by kernel_rfl) field_3 (load1_i _ _ _ _ (HA2.out.get 3 _ rfl)) (load1_i _ _ _ _ (HB2.out.get 3 _ rfl)) (eql_i _ _ _ _ _) ?_
  intro a4 F4
  refine wpList_link F4 (by decide) rfl rfl rfl rfl rfl rfl rfl (by decide) (by kernel_rfl) field_4 (load_will _ _ _ _ _ _ _ _ HA2.out rfl rfl rfl rfl rfl) (load_will _ _ _ _ _ _ _ _ HB2.out rfl rfl rfl rfl rfl) (eql_w _ _ _ _ _ _ _ _ _ _ _ _ _) ?_
  intro a5 F5
  refine wpList_link F5 (by decide) rfl rfl rfl rfl rfl rfl rfl (by decide) (by kernel_rfl) field_5 (load1_s _ _ _ _ (HA2.out.get 9 _ rfl)) (load1_s _ _ _ _ (HB2.out.get 9 _ rfl)) (eql_s _ _ _ _ _) ?_
  intro a6 F6
  refine wpList_link F6 (by decide) rfl rfl rfl rfl rfl rfl rfl (by decide) (by kernel_rfl) field_6 (load1_b _ _ _ _ (HA2.out.get 10 _ rfl)) (load1_b _ _ _ _ (HB2.out.get 10 _ rfl)) (eql_b _ _ _ _ _) ?_
  intro a7 F7
  refine wpList_link F7 (by decide) rfl rfl rfl rfl rfl rfl rfl (by decide) (by kernel_rfl) field_7 (load1_s _ _ _ _ (HA2.out.get 11 _ rfl)) (load1_s _ _ _ _ (HB2.out.get 11 _ rfl)) (eql_s _ _ _ _ _) ?_
  intro a8 F8
  refine wpList_link F8 (by decide) rfl rfl rfl rfl rfl rfl rfl (by decide) (by kernel_rfl) field_8 (load1_b _ _ _ _ (HA2.out.get 12 _ rfl)) (load1_b _ _ _ _ (HB2.out.get 12 _ rfl)) (eql_b _ _ _ _ _) ?_
  intro a9 F9
  refine wpList_link F9 (by decide) rfl rfl rfl rfl rfl rfl rfl (by decide) (by kernel_rfl) field_9 (load1_b _ _ _ _ (HA2.out.get 13 _ rfl)) (load1_b _ _ _ _ (HB2.out.get 13 _ rfl)) (eql_b _ _ _ _ _) ?_
  intro a10 F10
  refine wpList_link F10 (by decide) rfl rfl rfl rfl rfl rfl rfl (by decide) (by kernel_rfl) field_10 (load1_i _ _ _ _ (HA2.out.get 14 _ rfl)) (load1_i _ _ _ _ (HB2.out.get 14 _ rfl)) (eql_i _ _ _ _ _) ?_
  intro a11 F11
  refine wpList_linkC F11 (by decide) rfl rfl rfl rfl rfl rfl rfl (by decide) (by kernel_rfl) field_11 (load1_26 _ _ _ _ _ _ (HA2.out.get 15 _ rfl)) (load1_26 _ _ _ _ _ _ (HB2.out.get 15 _ rfl)) ent_eqInts (K1.out w2 HW2.out) ?_
  intro a12 w3 F12 hx3
  have HW3 := Lib.hid (HW2.out.trans (hx3.mono HW2.out.size))
  have HA3 := Lib.hid (HA2.out.below hx3 HLa2.out)
  have HB3 := Lib.hid (HB2.out.below hx3 HLb2.out)
  have HLa3 := Lib.hid (Nat.lt_of_lt_of_le HLa2.out hx3.size)
  have HLb3 := Lib.hid (Nat.lt_of_lt_of_le HLb2.out hx3.size)
  clear hx3
  refine wpList_link F12 (by decide) rfl rfl rfl rfl rfl rfl rfl (by decide) (by kernel_rfl) field_12 (load1_b _ _ _ _ (HA3.out.get 16 _ rfl)) (load1_b _ _ _ _ (HB3.out.get 16 _ rfl)) (eql_b _ _ _ _ _) ?_
  intro a13 F13
  refine wpList_link F13 (by decide) rfl rfl rfl rfl rfl rfl rfl (by decide) (by kernel_rfl) field_13 (load1_i _ _ _ _ (HA3.out.get 17 _ rfl)) (load1_i _ _ _ _ (HB3.out.get 17 _ rfl)) (eql_i _ _ _ _ _) ?_
  intro a14 F14
  refine wpList_link F14 (by decide) rfl rfl rfl rfl rfl rfl rfl (by decide) (by kernel_rfl) field_14 (load1_b _ _ _ _ (HA3.out.get 18 _ rfl)) (load1_b _ _ _ _ (HB3.out.get 18 _ rfl)) (eql_b _ _ _ _ _) ?_
  intro a15 F15
  refine wpList_link F15 (by decide) rfl rfl rfl rfl rfl rfl rfl (by decide) (by kernel_rfl) field_15 (load1_s _ _ _ _ (HA3.out.get 19 _ rfl)) (load1_s _ _ _ _ (HB3.out.get 19 _ rfl)) (eql_s _ _ _ _ _) ?_
  intro a16 F16
  refine wpList_link F16 (by decide) rfl rfl rfl rfl rfl rfl rfl (by decide) (by kernel_rfl) field_16 (load1_i _ _ _ _ (HA3.out.get 20 _ rfl)) (load1_i _ _ _ _ (HB3.out.get 20 _ rfl)) (eql_i _ _ _ _ _) ?_
  intro a17 F17
  refine wpList_link F17 (by decide) rfl rfl rfl rfl rfl rfl rfl (by decide) (by kernel_rfl) field_17 (load1_s _ _ _ _ (HA3.out.get 21 _ rfl)) (load1_s _ _ _ _ (HB3.out.get 21 _ rfl)) (eql_s _ _ _ _ _) ?_
  intro a18 F18
  refine wpList_linkC F18 (by decide) rfl rfl rfl rfl rfl rfl rfl (by decide) (by kernel_rfl) field_18 (load1_27 _ _ _ _ _ _ (HA3.out.get 22 _ rfl)) (load1_27 _ _ _ _ _ _ (HB3.out.get 22 _ rfl)) ent_eqWishes (K2.out w3 HW3.out) ?_
  intro a19 w4 F19 hx4
  have HW4 := Lib.hid (HW3.out.trans (hx4.mono HW3.out.size))
  have HA4 := Lib.hid (HA3.out.below hx4 HLa3.out)
  have HB4 := Lib.hid (HB3.out.below hx4 HLb3.out)
  have HLa4 := Lib.hid (Nat.lt_of_lt_of_le HLa3.out hx4.size)
  have HLb4 := Lib.hid (Nat.lt_of_lt_of_le HLb3.out hx4.size)
  clear hx4
  refine wpList_linkC F19 (by decide) rfl rfl rfl rfl rfl rfl rfl (by decide) (by kernel_rfl) field_19 (load1_28 _ _ _ _ _ _ (HA4.out.get 23 _ rfl)) (load1_28 _ _ _ _ _ _ (HB4.out.get 23 _ rfl)) ent_eqStrs (K3.out w4 HW4.out) ?_
  intro a20 w5 F20 hx5
  have HW5 := Lib.hid (HW4.out.trans (hx5.mono HW4.out.size))
  have HA5 := Lib.hid (HA4.out.below hx5 HLa4.out)
  have HB5 := Lib.hid (HB4.out.below hx5 HLb4.out)
  have HLa5 := Lib.hid (Nat.lt_of_lt_of_le HLa4.out hx5.size)
  have HLb5 := Lib.hid (Nat.lt_of_lt_of_le HLb4.out hx5.size)
  clear hx5
  refine wpList_go (wanted_none rfl _) 4 rfl (a20.eval (.tmp 142)) w5 rfl ?_
  have hr : (a20.put (some 4) (a20.eval (.tmp 142))).eval (.tmp 4) = .bool (Mq.same a b) := by
    rw [Act.eval_put_same _ _ _ (by rw [F20.sz]; decide), F20.tk]
    simp only [Mq.same, Bool.and_assoc]
  have hdf : (a20.put (some 4) (a20.eval (.tmp 142))).defers = [] := by rw [Act.defers_put', F20.df]
  generalize a20.put (some 4) (a20.eval (.tmp 142)) = az at hr hdf
  refine wpList_nil ?_
  refine hK _ _ (wp_ret ?_)
  refine bodyPost_ret (results_tmp rfl _ _ _) hdf ⟨?_, HW5.out⟩
  exact congrArg Ending.returned hr

end Go.Proofs.YtkcdkjpmbjcmdaaDoor

/-
  Wills: pack.MayWill and the page's Will, on or off.
-/
namespace Go.Proofs.YtkcdkjpmbjcmdaaDoor
open Go.RowKit

def willB2 (on : Bool) (t b : ByteArray) (q : Int) (r : Bool) : Bool := if on then textOk t 1 64 && (decide ((b.size : Int) ≤ 128) && inRB q 0 2) else emp t && (emp b && (q == 0 && !r))
theorem willOk_eq (m : Mq) : willOk m = willB2 m.won m.wt m.wp m.wq m.wr := rfl
theorem emp_true {s : ByteArray} (h : s.toList = []) : emp s = true := by
  rw [Lib.toList_data] at h
  have : s.size = 0 := by rw [← sb_length]; show s.data.toList.length = 0; rw [h]; rfl
  unfold emp
  rw [this]
  rfl
theorem emp_false {s : ByteArray} (h : ¬ s.toList = []) : emp s = false := by
  rw [Lib.toList_data] at h
  unfold emp
  rw [beq_eq_false_iff_ne]
  intro e
  rw [← sb_length] at e
  exact h (List.eq_nil_of_length_eq_zero e)

set_option maxRecDepth 100000 in
set_option maxHeartbeats 1600000 in
theorem packWillOff (t b : ByteArray) (q : Int) (r : Bool) (w : World) :
    Calls Tryd.prog 105 #[.agg #[.bool false, .string t, .string b, .int .i64 q, .bool r]] w fun e w' => e = .returned (.bool (willB2 false t b q r)) ∧ Below w.heap.size w w' := by
  obtain ⟨X, hX⟩ : ∃ X, willB2 false t b q r = X := ⟨_, rfl⟩
  rw [hX]
  have HX := Lib.hid hX
  clear hX
  have HB := Lib.hid (fun r f => (Below.refl w.heap.size w).alloc (Nat.le_refl _) (.cells r f))
  by_cases h1 : t.toList = []
  · have E1 := Lib.hid (emp_true h1)
    by_cases h2 : b.toList = []
    · have E2 := Lib.hid (emp_true h2)
      by_cases h3 : q = 0
      · subst h3
        cases r
        all_goals
          go_enter Tryd.func105, Tryd.ntmps105
          go_wp2
          go_ret
          exact ⟨by rw [← HX.out]; unfold willB2; rw [E1.out, E2.out]; rfl, HB.out _ _⟩
      · have h3' : (q == 0) = false := by rw [beq_eq_false_iff_ne]; exact h3
        have E3 := Lib.hid h3'
        go_enter Tryd.func105, Tryd.ntmps105
        go_wp2
        go_ret
        exact ⟨by rw [← HX.out]; unfold willB2; rw [E1.out, E2.out, E3.out]; rfl, HB.out _ _⟩
    · have E2 := Lib.hid (emp_false h2)
      go_enter Tryd.func105, Tryd.ntmps105
      go_wp2
      go_ret
      exact ⟨by rw [← HX.out]; unfold willB2; rw [E1.out, E2.out]; rfl, HB.out _ _⟩
  · have E1 := Lib.hid (emp_false h1)
    go_enter Tryd.func105, Tryd.ntmps105
    go_wp2
    go_ret
    exact ⟨by rw [← HX.out]; unfold willB2; rw [E1.out]; rfl, HB.out _ _⟩

set_option maxRecDepth 100000 in
set_option maxHeartbeats 1600000 in
theorem packWillOn (t b : ByteArray) (q : Int) (r : Bool) (ht : t.size ≤ 140737488351232) (w : World) (hT : Wd w) :
    Calls Tryd.prog 105 #[.agg #[.bool true, .string t, .string b, .int .i64 q, .bool r]] w fun e w' => e = .returned (.bool (willB2 true t b q r)) ∧ Below w.heap.size w w' := by
  have hb0 := Lib.hid (balloc w (.cells #[.bool true, .string t, .string b, .int .i64 q, .bool r] 25))
  have HT := Lib.hid (packTextV t ht 1 64 _ (hT.below hb0.out))
  clear hT
  have hlt : w.heap.size < (w.alloc (.cells #[.bool true, .string t, .string b, .int .i64 q, .bool r] 25)).heap.size := lt_alloc _ _
  have HN := Lib.hid (fun w1 => packWithin q 0 2 w1)
  generalize hX : textOk t 1 64 = X at HT
  generalize hY : inRB q 0 2 = Y at HN
  have HP := Lib.hid (show willB2 true t b q r = (X && (decide ((b.size : Int) ≤ 128) && Y)) by unfold willB2; rw [hX, hY]; rfl)
  generalize willB2 true t b q r = Z at *
  clear hX hY
  go_enter Tryd.func105, Tryd.ntmps105
  go_wp2_with fail
  (with_reducible refine HT.out.mono ?_)
  rintro _ w1 ⟨rfl, hb1⟩
  have HB1 := Lib.hid (hb0.out.trans (hb1.mono (Nat.le_of_lt hlt)))
  have c2 : w1.cell? ⟨w.heap.size, 2, none⟩ = some (.string b) := by rw [cellB hb1 hlt]; simp
  have c3 : w1.cell? ⟨w.heap.size, 3, none⟩ = some (.int .i64 q) := by rw [cellB hb1 hlt]; simp
  clear HT hb1 hb0
  by_cases h1 : (b.size : Int) ≤ 128
  · rw [decide_eq_true h1] at HP
    cases X
    all_goals
      go_wp2_with (go_at_call 88; (with_reducible refine (HN.out w1).mono ?_); rintro _ w2 ⟨rfl, rfl⟩)
      go_ret
      exact ⟨by rw [HP.out]; rfl, HB1.out⟩
  · rw [decide_eq_false h1] at HP
    cases X
    all_goals
      go_wp2_with (go_at_call 88; (with_reducible refine (HN.out w1).mono ?_); rintro _ w2 ⟨rfl, rfl⟩)
      go_ret
      exact ⟨by rw [HP.out]; rfl, HB1.out⟩
theorem packWillV (on : Bool) (t b : ByteArray) (q : Int) (r : Bool) (ht : t.size ≤ 140737488351232) (w : World) (hT : Wd w) :
    Calls Tryd.prog 105 #[.agg #[.bool on, .string t, .string b, .int .i64 q, .bool r]] w fun e w' => e = .returned (.bool (willB2 on t b q r)) ∧ Below w.heap.size w w' := by
  cases on
  · exact packWillOff t b q r w
  · exact packWillOn t b q r ht w hT

set_option maxRecDepth 100000 in
set_option maxHeartbeats 1600000 in
theorem refWillOff (t b : ByteArray) (q : Int) (r : Bool) (w : World) :
    Calls Tryd.prog 52 #[.agg #[.bool false, .string t, .string b, .int .i64 q, .bool r]] w fun e w' => e = .returned (.bool (willB2 false t b q r)) ∧ Below w.heap.size w w' := by
  obtain ⟨X, hX⟩ : ∃ X, willB2 false t b q r = X := ⟨_, rfl⟩
  rw [hX]
  have HX := Lib.hid hX
  clear hX
  have HB := Lib.hid (fun r f => (Below.refl w.heap.size w).alloc (Nat.le_refl _) (.cells r f))
  by_cases h1 : t.toList = []
  · have E1 := Lib.hid (emp_true h1)
    by_cases h2 : b.toList = []
    · have E2 := Lib.hid (emp_true h2)
      by_cases h3 : q = 0
      · subst h3
        cases r
        all_goals
          go_enter Tryd.func52, Tryd.ntmps52
          go_wp2
          go_ret
          exact ⟨by rw [← HX.out]; unfold willB2; rw [E1.out, E2.out]; rfl, HB.out _ _⟩
      · have h3' : (q == 0) = false := by rw [beq_eq_false_iff_ne]; exact h3
        have E3 := Lib.hid h3'
        go_enter Tryd.func52, Tryd.ntmps52
        go_wp2
        go_ret
        exact ⟨by rw [← HX.out]; unfold willB2; rw [E1.out, E2.out, E3.out]; rfl, HB.out _ _⟩
    · have E2 := Lib.hid (emp_false h2)
      go_enter Tryd.func52, Tryd.ntmps52
      go_wp2
      go_ret
      exact ⟨by rw [← HX.out]; unfold willB2; rw [E1.out, E2.out]; rfl, HB.out _ _⟩
  · have E1 := Lib.hid (emp_false h1)
    go_enter Tryd.func52, Tryd.ntmps52
    go_wp2
    go_ret
    exact ⟨by rw [← HX.out]; unfold willB2; rw [E1.out]; rfl, HB.out _ _⟩

set_option maxRecDepth 100000 in
set_option maxHeartbeats 1600000 in
theorem refWillOn (t b : ByteArray) (q : Int) (r : Bool) (ht : t.size ≤ 140737488351232) (w : World) (hT : Wd w) :
    Calls Tryd.prog 52 #[.agg #[.bool true, .string t, .string b, .int .i64 q, .bool r]] w fun e w' => e = .returned (.bool (willB2 true t b q r)) ∧ Below w.heap.size w w' := by
  have hb0 := Lib.hid (balloc w (.cells #[.bool true, .string t, .string b, .int .i64 q, .bool r] 25))
  have HT := Lib.hid (refTextV t ht 1 64 _ (hT.below hb0.out))
  clear hT
  have hlt : w.heap.size < (w.alloc (.cells #[.bool true, .string t, .string b, .int .i64 q, .bool r] 25)).heap.size := lt_alloc _ _
  have HN := Lib.hid (fun w1 => refNumB q 2 w1)
  generalize hX : textOk t 1 64 = X at HT
  generalize hY : inRB q 0 2 = Y at HN
  have HP := Lib.hid (show willB2 true t b q r = (X && (decide ((b.size : Int) ≤ 128) && Y)) by unfold willB2; rw [hX, hY]; rfl)
  generalize willB2 true t b q r = Z at *
  clear hX hY
  go_enter Tryd.func52, Tryd.ntmps52
  go_wp2_with fail
  (with_reducible refine HT.out.mono ?_)
  rintro _ w1 ⟨rfl, hb1⟩
  have HB1 := Lib.hid (hb0.out.trans (hb1.mono (Nat.le_of_lt hlt)))
  have c2 : w1.cell? ⟨w.heap.size, 2, none⟩ = some (.string b) := by rw [cellB hb1 hlt]; simp
  have c3 : w1.cell? ⟨w.heap.size, 3, none⟩ = some (.int .i64 q) := by rw [cellB hb1 hlt]; simp
  clear HT hb1 hb0
  by_cases h1 : (b.size : Int) ≤ 128
  · rw [decide_eq_true h1] at HP
    cases X
    all_goals
      go_wp2_with (go_at_call 51; (with_reducible refine (HN.out w1).mono ?_); rintro _ w2 ⟨rfl, rfl⟩)
      go_ret
      exact ⟨by rw [HP.out]; rfl, HB1.out⟩
  · rw [decide_eq_false h1] at HP
    cases X
    all_goals
      go_wp2_with (go_at_call 51; (with_reducible refine (HN.out w1).mono ?_); rintro _ w2 ⟨rfl, rfl⟩)
      go_ret
      exact ⟨by rw [HP.out]; rfl, HB1.out⟩
theorem refWillV (on : Bool) (t b : ByteArray) (q : Int) (r : Bool) (ht : t.size ≤ 140737488351232) (w : World) (hT : Wd w) :
    Calls Tryd.prog 52 #[.agg #[.bool on, .string t, .string b, .int .i64 q, .bool r]] w fun e w' => e = .returned (.bool (willB2 on t b q r)) ∧ Below w.heap.size w w' := by
  cases on
  · exact refWillOff t b q r w
  · exact refWillOn t b q r ht w hT

end Go.Proofs.YtkcdkjpmbjcmdaaDoor

/-
  pack.connect, pack.publish: whether what the kind names may be.
-/
namespace Go.Proofs.YtkcdkjpmbjcmdaaDoor
open Go.RowKit

set_option maxRecDepth 100000 in
set_option maxHeartbeats 1600000 in
theorem packConnectV (m : Mq) (vc vw vf : Value) (h1 : Fits m.client) (h2 : Fits m.wt) (h3 : Fits m.user) (w : World) (hT : Wd w) :
    Calls Tryd.prog 89 #[.agg (mqCells m vc vw vf).toArray] w fun e w' => e = .returned (.bool (connectOk m)) ∧ Below w.heap.size w w' := by
  have HP := Lib.hid (show connectOk m = (textOk m.client 0 23 && (inRB m.keep 0 65535 && (willOk m && (textOk m.user 0 64 && (decide ((m.pass.size : Int) ≤ 64) && ((m.hu || (emp m.user && !m.hp)) && (m.hp || emp m.pass))))))) from rfl)
  have K1 := Lib.hid (fun w1 hb => packTextV m.client h1 0 23 w1 (hT.below hb))
  have K2 := Lib.hid (fun w1 => packWithin m.keep 0 65535 w1)
  have K3 := Lib.hid (fun w1 hb => packWillV m.won m.wt m.wp m.wq m.wr h2 w1 (hT.below hb))
  have K4 := Lib.hid (fun w1 hb => packTextV m.user h3 0 64 w1 (hT.below hb))
  rw [← willOk_eq] at K3
  clear hT h1 h2 h3
  generalize textOk m.client 0 23 = B1 at K1 HP
  generalize inRB m.keep 0 65535 = B2 at K2 HP
  generalize willOk m = B3 at K3 HP
  generalize textOk m.user 0 64 = B4 at K4 HP
  generalize connectOk m = Z at *
  cases B1 with
  | false =>
    go_enter Tryd.func89, Tryd.ntmps89
    go_upto_region 1 with (refine wpList_box_cells rfl 30 _ rfl (mqCells m vc vw vf) (by exact rfl) w.heap.size rfl ?_; intro w1 hb1 hs1 hC1; have HC1 := Lib.hid hC1; have HB1 := Lib.hid hb1; have HL1 := Lib.hid (show w.heap.size < w1.heap.size by omega); clear hs1 hC1 hb1; have c1_1 := HC1.out.get 1 _ rfl)
    go_wp2_with (first
      | (go_at_call 104; (with_reducible refine (K1.out w1 HB1.out).mono ?_); rintro _ w2 ⟨rfl, hb2⟩; have HC2 := Lib.hid (HC1.out.below hb2 HL1.out); have HB2 := Lib.hid (HB1.out.trans (hb2.mono HB1.out.size)); have HL2 := Lib.hid (Nat.lt_of_lt_of_le HL1.out hb2.size); clear hb2; have c2_3 := HC2.out.get 3 _ rfl; have c2_4 := HC2.out.get 4 _ rfl; have c2_5 := HC2.out.get 5 _ rfl; have c2_6 := HC2.out.get 6 _ rfl; have c2_7 := HC2.out.get 7 _ rfl; have c2_8 := HC2.out.get 8 _ rfl)
      | (go_at_call 88; (with_reducible refine (K2.out _).mono ?_); rintro _ w9 ⟨rfl, rfl⟩)
      | (go_at_call 105; (with_reducible refine (K3.out w2 HB2.out).mono ?_); rintro _ w3 ⟨rfl, hb3⟩; have HC3 := Lib.hid (HC2.out.below hb3 HL2.out); have HB3 := Lib.hid (HB2.out.trans (hb3.mono HB2.out.size)); have HL3 := Lib.hid (Nat.lt_of_lt_of_le HL2.out hb3.size); clear hb3; have c3_9 := HC3.out.get 9 _ rfl)
      | (go_at_call 104; (with_reducible refine (K4.out w3 HB3.out).mono ?_); rintro _ w4 ⟨rfl, hb4⟩; have HC4 := Lib.hid (HC3.out.below hb4 HL3.out); have HB4 := Lib.hid (HB3.out.trans (hb4.mono HB3.out.size)); have HL4 := Lib.hid (Nat.lt_of_lt_of_le HL3.out hb4.size); clear hb4; have c4_9 := HC4.out.get 9 _ rfl; have c4_10 := HC4.out.get 10 _ rfl; have c4_11 := HC4.out.get 11 _ rfl; have c4_12 := HC4.out.get 12 _ rfl))
    go_ret
    exact ⟨by rw [HP.out]; rfl, HB2.out⟩
  | true =>
    cases B2 with
    | false =>
      go_enter Tryd.func89, Tryd.ntmps89
      go_upto_region 1 with (refine wpList_box_cells rfl 30 _ rfl (mqCells m vc vw vf) (by exact rfl) w.heap.size rfl ?_; intro w1 hb1 hs1 hC1; have HC1 := Lib.hid hC1; have HB1 := Lib.hid hb1; have HL1 := Lib.hid (show w.heap.size < w1.heap.size by omega); clear hs1 hC1 hb1; have c1_1 := HC1.out.get 1 _ rfl)
      go_wp2_with (first
        | (go_at_call 104; (with_reducible refine (K1.out w1 HB1.out).mono ?_); rintro _ w2 ⟨rfl, hb2⟩; have HC2 := Lib.hid (HC1.out.below hb2 HL1.out); have HB2 := Lib.hid (HB1.out.trans (hb2.mono HB1.out.size)); have HL2 := Lib.hid (Nat.lt_of_lt_of_le HL1.out hb2.size); clear hb2; have c2_3 := HC2.out.get 3 _ rfl; have c2_4 := HC2.out.get 4 _ rfl; have c2_5 := HC2.out.get 5 _ rfl; have c2_6 := HC2.out.get 6 _ rfl; have c2_7 := HC2.out.get 7 _ rfl; have c2_8 := HC2.out.get 8 _ rfl)
        | (go_at_call 88; (with_reducible refine (K2.out _).mono ?_); rintro _ w9 ⟨rfl, rfl⟩)
        | (go_at_call 105; (with_reducible refine (K3.out w2 HB2.out).mono ?_); rintro _ w3 ⟨rfl, hb3⟩; have HC3 := Lib.hid (HC2.out.below hb3 HL2.out); have HB3 := Lib.hid (HB2.out.trans (hb3.mono HB2.out.size)); have HL3 := Lib.hid (Nat.lt_of_lt_of_le HL2.out hb3.size); clear hb3; have c3_9 := HC3.out.get 9 _ rfl)
        | (go_at_call 104; (with_reducible refine (K4.out w3 HB3.out).mono ?_); rintro _ w4 ⟨rfl, hb4⟩; have HC4 := Lib.hid (HC3.out.below hb4 HL3.out); have HB4 := Lib.hid (HB3.out.trans (hb4.mono HB3.out.size)); have HL4 := Lib.hid (Nat.lt_of_lt_of_le HL3.out hb4.size); clear hb4; have c4_9 := HC4.out.get 9 _ rfl; have c4_10 := HC4.out.get 10 _ rfl; have c4_11 := HC4.out.get 11 _ rfl; have c4_12 := HC4.out.get 12 _ rfl))
      go_ret
      exact ⟨by rw [HP.out]; rfl, HB2.out⟩
    | true =>
      cases B3 with
      | false =>
        go_enter Tryd.func89, Tryd.ntmps89
        go_upto_region 1 with (refine wpList_box_cells rfl 30 _ rfl (mqCells m vc vw vf) (by exact rfl) w.heap.size rfl ?_; intro w1 hb1 hs1 hC1; have HC1 := Lib.hid hC1; have HB1 := Lib.hid hb1; have HL1 := Lib.hid (show w.heap.size < w1.heap.size by omega); clear hs1 hC1 hb1; have c1_1 := HC1.out.get 1 _ rfl)
        go_wp2_with (first
          | (go_at_call 104; (with_reducible refine (K1.out w1 HB1.out).mono ?_); rintro _ w2 ⟨rfl, hb2⟩; have HC2 := Lib.hid (HC1.out.below hb2 HL1.out); have HB2 := Lib.hid (HB1.out.trans (hb2.mono HB1.out.size)); have HL2 := Lib.hid (Nat.lt_of_lt_of_le HL1.out hb2.size); clear hb2; have c2_3 := HC2.out.get 3 _ rfl; have c2_4 := HC2.out.get 4 _ rfl; have c2_5 := HC2.out.get 5 _ rfl; have c2_6 := HC2.out.get 6 _ rfl; have c2_7 := HC2.out.get 7 _ rfl; have c2_8 := HC2.out.get 8 _ rfl)
          | (go_at_call 88; (with_reducible refine (K2.out _).mono ?_); rintro _ w9 ⟨rfl, rfl⟩)
          | (go_at_call 105; (with_reducible refine (K3.out w2 HB2.out).mono ?_); rintro _ w3 ⟨rfl, hb3⟩; have HC3 := Lib.hid (HC2.out.below hb3 HL2.out); have HB3 := Lib.hid (HB2.out.trans (hb3.mono HB2.out.size)); have HL3 := Lib.hid (Nat.lt_of_lt_of_le HL2.out hb3.size); clear hb3; have c3_9 := HC3.out.get 9 _ rfl)
          | (go_at_call 104; (with_reducible refine (K4.out w3 HB3.out).mono ?_); rintro _ w4 ⟨rfl, hb4⟩; have HC4 := Lib.hid (HC3.out.below hb4 HL3.out); have HB4 := Lib.hid (HB3.out.trans (hb4.mono HB3.out.size)); have HL4 := Lib.hid (Nat.lt_of_lt_of_le HL3.out hb4.size); clear hb4; have c4_9 := HC4.out.get 9 _ rfl; have c4_10 := HC4.out.get 10 _ rfl; have c4_11 := HC4.out.get 11 _ rfl; have c4_12 := HC4.out.get 12 _ rfl))
        go_ret
        exact ⟨by rw [HP.out]; rfl, HB3.out⟩
      | true =>
        cases B4 with
        | false =>
          go_enter Tryd.func89, Tryd.ntmps89
          go_upto_region 1 with (refine wpList_box_cells rfl 30 _ rfl (mqCells m vc vw vf) (by exact rfl) w.heap.size rfl ?_; intro w1 hb1 hs1 hC1; have HC1 := Lib.hid hC1; have HB1 := Lib.hid hb1; have HL1 := Lib.hid (show w.heap.size < w1.heap.size by omega); clear hs1 hC1 hb1; have c1_1 := HC1.out.get 1 _ rfl)
          go_wp2_with (first
            | (go_at_call 104; (with_reducible refine (K1.out w1 HB1.out).mono ?_); rintro _ w2 ⟨rfl, hb2⟩; have HC2 := Lib.hid (HC1.out.below hb2 HL1.out); have HB2 := Lib.hid (HB1.out.trans (hb2.mono HB1.out.size)); have HL2 := Lib.hid (Nat.lt_of_lt_of_le HL1.out hb2.size); clear hb2; have c2_3 := HC2.out.get 3 _ rfl; have c2_4 := HC2.out.get 4 _ rfl; have c2_5 := HC2.out.get 5 _ rfl; have c2_6 := HC2.out.get 6 _ rfl; have c2_7 := HC2.out.get 7 _ rfl; have c2_8 := HC2.out.get 8 _ rfl)
            | (go_at_call 88; (with_reducible refine (K2.out _).mono ?_); rintro _ w9 ⟨rfl, rfl⟩)
            | (go_at_call 105; (with_reducible refine (K3.out w2 HB2.out).mono ?_); rintro _ w3 ⟨rfl, hb3⟩; have HC3 := Lib.hid (HC2.out.below hb3 HL2.out); have HB3 := Lib.hid (HB2.out.trans (hb3.mono HB2.out.size)); have HL3 := Lib.hid (Nat.lt_of_lt_of_le HL2.out hb3.size); clear hb3; have c3_9 := HC3.out.get 9 _ rfl)
            | (go_at_call 104; (with_reducible refine (K4.out w3 HB3.out).mono ?_); rintro _ w4 ⟨rfl, hb4⟩; have HC4 := Lib.hid (HC3.out.below hb4 HL3.out); have HB4 := Lib.hid (HB3.out.trans (hb4.mono HB3.out.size)); have HL4 := Lib.hid (Nat.lt_of_lt_of_le HL3.out hb4.size); clear hb4; have c4_9 := HC4.out.get 9 _ rfl; have c4_10 := HC4.out.get 10 _ rfl; have c4_11 := HC4.out.get 11 _ rfl; have c4_12 := HC4.out.get 12 _ rfl))
          go_ret
          exact ⟨by rw [HP.out]; rfl, HB4.out⟩
        | true =>
          by_cases h5 : (m.pass.size : Int) ≤ 64
          · rw [decide_eq_true h5] at HP
            cases h6 : m.hu with
            | true =>
              rw [h6] at HP
              cases h7 : m.hp with
              | true =>
                rw [h7] at HP
                have HP : Hid (Z = true) := by unfold Hid; have := HP.out; simpa using this
                go_enter Tryd.func89, Tryd.ntmps89
                go_upto_region 1 with (refine wpList_box_cells rfl 30 _ rfl (mqCells m vc vw vf) (by exact rfl) w.heap.size rfl ?_; intro w1 hb1 hs1 hC1; have HC1 := Lib.hid hC1; have HB1 := Lib.hid hb1; have HL1 := Lib.hid (show w.heap.size < w1.heap.size by omega); clear hs1 hC1 hb1; have c1_1 := HC1.out.get 1 _ rfl)
                go_wp2_with (first
                  | (go_at_call 104; (with_reducible refine (K1.out w1 HB1.out).mono ?_); rintro _ w2 ⟨rfl, hb2⟩; have HC2 := Lib.hid (HC1.out.below hb2 HL1.out); have HB2 := Lib.hid (HB1.out.trans (hb2.mono HB1.out.size)); have HL2 := Lib.hid (Nat.lt_of_lt_of_le HL1.out hb2.size); clear hb2; have c2_3 := HC2.out.get 3 _ rfl; have c2_4 := HC2.out.get 4 _ rfl; have c2_5 := HC2.out.get 5 _ rfl; have c2_6 := HC2.out.get 6 _ rfl; have c2_7 := HC2.out.get 7 _ rfl; have c2_8 := HC2.out.get 8 _ rfl)
                  | (go_at_call 88; (with_reducible refine (K2.out _).mono ?_); rintro _ w9 ⟨rfl, rfl⟩)
                  | (go_at_call 105; (with_reducible refine (K3.out w2 HB2.out).mono ?_); rintro _ w3 ⟨rfl, hb3⟩; have HC3 := Lib.hid (HC2.out.below hb3 HL2.out); have HB3 := Lib.hid (HB2.out.trans (hb3.mono HB2.out.size)); have HL3 := Lib.hid (Nat.lt_of_lt_of_le HL2.out hb3.size); clear hb3; have c3_9 := HC3.out.get 9 _ rfl)
                  | (go_at_call 104; (with_reducible refine (K4.out w3 HB3.out).mono ?_); rintro _ w4 ⟨rfl, hb4⟩; have HC4 := Lib.hid (HC3.out.below hb4 HL3.out); have HB4 := Lib.hid (HB3.out.trans (hb4.mono HB3.out.size)); have HL4 := Lib.hid (Nat.lt_of_lt_of_le HL3.out hb4.size); clear hb4; have c4_9 := HC4.out.get 9 _ rfl; have c4_10 := HC4.out.get 10 _ rfl; have c4_11 := HC4.out.get 11 _ rfl; have c4_12 := HC4.out.get 12 _ rfl))
                go_ret
                exact ⟨by rw [HP.out]; rfl, HB4.out⟩
              | false =>
                rw [h7] at HP
                have HP : Hid (Z = emp m.pass) := by unfold Hid; have := HP.out; simpa using this
                by_cases h8 : m.pass.toList = []
                · rw [emp_true h8] at HP
                  go_enter Tryd.func89, Tryd.ntmps89
                  go_upto_region 1 with (refine wpList_box_cells rfl 30 _ rfl (mqCells m vc vw vf) (by exact rfl) w.heap.size rfl ?_; intro w1 hb1 hs1 hC1; have HC1 := Lib.hid hC1; have HB1 := Lib.hid hb1; have HL1 := Lib.hid (show w.heap.size < w1.heap.size by omega); clear hs1 hC1 hb1; have c1_1 := HC1.out.get 1 _ rfl)
                  go_wp2_with (first
                    | (go_at_call 104; (with_reducible refine (K1.out w1 HB1.out).mono ?_); rintro _ w2 ⟨rfl, hb2⟩; have HC2 := Lib.hid (HC1.out.below hb2 HL1.out); have HB2 := Lib.hid (HB1.out.trans (hb2.mono HB1.out.size)); have HL2 := Lib.hid (Nat.lt_of_lt_of_le HL1.out hb2.size); clear hb2; have c2_3 := HC2.out.get 3 _ rfl; have c2_4 := HC2.out.get 4 _ rfl; have c2_5 := HC2.out.get 5 _ rfl; have c2_6 := HC2.out.get 6 _ rfl; have c2_7 := HC2.out.get 7 _ rfl; have c2_8 := HC2.out.get 8 _ rfl)
                    | (go_at_call 88; (with_reducible refine (K2.out _).mono ?_); rintro _ w9 ⟨rfl, rfl⟩)
                    | (go_at_call 105; (with_reducible refine (K3.out w2 HB2.out).mono ?_); rintro _ w3 ⟨rfl, hb3⟩; have HC3 := Lib.hid (HC2.out.below hb3 HL2.out); have HB3 := Lib.hid (HB2.out.trans (hb3.mono HB2.out.size)); have HL3 := Lib.hid (Nat.lt_of_lt_of_le HL2.out hb3.size); clear hb3; have c3_9 := HC3.out.get 9 _ rfl)
                    | (go_at_call 104; (with_reducible refine (K4.out w3 HB3.out).mono ?_); rintro _ w4 ⟨rfl, hb4⟩; have HC4 := Lib.hid (HC3.out.below hb4 HL3.out); have HB4 := Lib.hid (HB3.out.trans (hb4.mono HB3.out.size)); have HL4 := Lib.hid (Nat.lt_of_lt_of_le HL3.out hb4.size); clear hb4; have c4_9 := HC4.out.get 9 _ rfl; have c4_10 := HC4.out.get 10 _ rfl; have c4_11 := HC4.out.get 11 _ rfl; have c4_12 := HC4.out.get 12 _ rfl))
                  go_ret
                  exact ⟨by rw [HP.out]; rfl, HB4.out⟩
                · have h8' : m.pass.toList.isEmpty = false := by simpa using h8
                  rw [emp_false h8] at HP
                  go_enter Tryd.func89, Tryd.ntmps89
                  go_upto_region 1 with (refine wpList_box_cells rfl 30 _ rfl (mqCells m vc vw vf) (by exact rfl) w.heap.size rfl ?_; intro w1 hb1 hs1 hC1; have HC1 := Lib.hid hC1; have HB1 := Lib.hid hb1; have HL1 := Lib.hid (show w.heap.size < w1.heap.size by omega); clear hs1 hC1 hb1; have c1_1 := HC1.out.get 1 _ rfl)
                  go_wp2_with (first
                    | (go_at_call 104; (with_reducible refine (K1.out w1 HB1.out).mono ?_); rintro _ w2 ⟨rfl, hb2⟩; have HC2 := Lib.hid (HC1.out.below hb2 HL1.out); have HB2 := Lib.hid (HB1.out.trans (hb2.mono HB1.out.size)); have HL2 := Lib.hid (Nat.lt_of_lt_of_le HL1.out hb2.size); clear hb2; have c2_3 := HC2.out.get 3 _ rfl; have c2_4 := HC2.out.get 4 _ rfl; have c2_5 := HC2.out.get 5 _ rfl; have c2_6 := HC2.out.get 6 _ rfl; have c2_7 := HC2.out.get 7 _ rfl; have c2_8 := HC2.out.get 8 _ rfl)
                    | (go_at_call 88; (with_reducible refine (K2.out _).mono ?_); rintro _ w9 ⟨rfl, rfl⟩)
                    | (go_at_call 105; (with_reducible refine (K3.out w2 HB2.out).mono ?_); rintro _ w3 ⟨rfl, hb3⟩; have HC3 := Lib.hid (HC2.out.below hb3 HL2.out); have HB3 := Lib.hid (HB2.out.trans (hb3.mono HB2.out.size)); have HL3 := Lib.hid (Nat.lt_of_lt_of_le HL2.out hb3.size); clear hb3; have c3_9 := HC3.out.get 9 _ rfl)
                    | (go_at_call 104; (with_reducible refine (K4.out w3 HB3.out).mono ?_); rintro _ w4 ⟨rfl, hb4⟩; have HC4 := Lib.hid (HC3.out.below hb4 HL3.out); have HB4 := Lib.hid (HB3.out.trans (hb4.mono HB3.out.size)); have HL4 := Lib.hid (Nat.lt_of_lt_of_le HL3.out hb4.size); clear hb4; have c4_9 := HC4.out.get 9 _ rfl; have c4_10 := HC4.out.get 10 _ rfl; have c4_11 := HC4.out.get 11 _ rfl; have c4_12 := HC4.out.get 12 _ rfl))
                  go_ret
                  exact ⟨by rw [HP.out]; rfl, HB4.out⟩
            | false =>
              rw [h6] at HP
              by_cases h9 : m.user.toList = []
              · rw [emp_true h9] at HP
                cases h7 : m.hp with
                | true =>
                  rw [h7] at HP
                  go_enter Tryd.func89, Tryd.ntmps89
                  go_upto_region 1 with (refine wpList_box_cells rfl 30 _ rfl (mqCells m vc vw vf) (by exact rfl) w.heap.size rfl ?_; intro w1 hb1 hs1 hC1; have HC1 := Lib.hid hC1; have HB1 := Lib.hid hb1; have HL1 := Lib.hid (show w.heap.size < w1.heap.size by omega); clear hs1 hC1 hb1; have c1_1 := HC1.out.get 1 _ rfl)
                  go_wp2_with (first
                    | (go_at_call 104; (with_reducible refine (K1.out w1 HB1.out).mono ?_); rintro _ w2 ⟨rfl, hb2⟩; have HC2 := Lib.hid (HC1.out.below hb2 HL1.out); have HB2 := Lib.hid (HB1.out.trans (hb2.mono HB1.out.size)); have HL2 := Lib.hid (Nat.lt_of_lt_of_le HL1.out hb2.size); clear hb2; have c2_3 := HC2.out.get 3 _ rfl; have c2_4 := HC2.out.get 4 _ rfl; have c2_5 := HC2.out.get 5 _ rfl; have c2_6 := HC2.out.get 6 _ rfl; have c2_7 := HC2.out.get 7 _ rfl; have c2_8 := HC2.out.get 8 _ rfl)
                    | (go_at_call 88; (with_reducible refine (K2.out _).mono ?_); rintro _ w9 ⟨rfl, rfl⟩)
                    | (go_at_call 105; (with_reducible refine (K3.out w2 HB2.out).mono ?_); rintro _ w3 ⟨rfl, hb3⟩; have HC3 := Lib.hid (HC2.out.below hb3 HL2.out); have HB3 := Lib.hid (HB2.out.trans (hb3.mono HB2.out.size)); have HL3 := Lib.hid (Nat.lt_of_lt_of_le HL2.out hb3.size); clear hb3; have c3_9 := HC3.out.get 9 _ rfl)
                    | (go_at_call 104; (with_reducible refine (K4.out w3 HB3.out).mono ?_); rintro _ w4 ⟨rfl, hb4⟩; have HC4 := Lib.hid (HC3.out.below hb4 HL3.out); have HB4 := Lib.hid (HB3.out.trans (hb4.mono HB3.out.size)); have HL4 := Lib.hid (Nat.lt_of_lt_of_le HL3.out hb4.size); clear hb4; have c4_9 := HC4.out.get 9 _ rfl; have c4_10 := HC4.out.get 10 _ rfl; have c4_11 := HC4.out.get 11 _ rfl; have c4_12 := HC4.out.get 12 _ rfl))
                  go_ret
                  exact ⟨by rw [HP.out]; rfl, HB4.out⟩
                | false =>
                  rw [h7] at HP
                  have HP : Hid (Z = emp m.pass) := by unfold Hid; have := HP.out; simpa using this
                  by_cases h8 : m.pass.toList = []
                  · rw [emp_true h8] at HP
                    go_enter Tryd.func89, Tryd.ntmps89
                    go_upto_region 1 with (refine wpList_box_cells rfl 30 _ rfl (mqCells m vc vw vf) (by exact rfl) w.heap.size rfl ?_; intro w1 hb1 hs1 hC1; have HC1 := Lib.hid hC1; have HB1 := Lib.hid hb1; have HL1 := Lib.hid (show w.heap.size < w1.heap.size by omega); clear hs1 hC1 hb1; have c1_1 := HC1.out.get 1 _ rfl)
                    go_wp2_with (first
                      | (go_at_call 104; (with_reducible refine (K1.out w1 HB1.out).mono ?_); rintro _ w2 ⟨rfl, hb2⟩; have HC2 := Lib.hid (HC1.out.below hb2 HL1.out); have HB2 := Lib.hid (HB1.out.trans (hb2.mono HB1.out.size)); have HL2 := Lib.hid (Nat.lt_of_lt_of_le HL1.out hb2.size); clear hb2; have c2_3 := HC2.out.get 3 _ rfl; have c2_4 := HC2.out.get 4 _ rfl; have c2_5 := HC2.out.get 5 _ rfl; have c2_6 := HC2.out.get 6 _ rfl; have c2_7 := HC2.out.get 7 _ rfl; have c2_8 := HC2.out.get 8 _ rfl)
                      | (go_at_call 88; (with_reducible refine (K2.out _).mono ?_); rintro _ w9 ⟨rfl, rfl⟩)
                      | (go_at_call 105; (with_reducible refine (K3.out w2 HB2.out).mono ?_); rintro _ w3 ⟨rfl, hb3⟩; have HC3 := Lib.hid (HC2.out.below hb3 HL2.out); have HB3 := Lib.hid (HB2.out.trans (hb3.mono HB2.out.size)); have HL3 := Lib.hid (Nat.lt_of_lt_of_le HL2.out hb3.size); clear hb3; have c3_9 := HC3.out.get 9 _ rfl)
                      | (go_at_call 104; (with_reducible refine (K4.out w3 HB3.out).mono ?_); rintro _ w4 ⟨rfl, hb4⟩; have HC4 := Lib.hid (HC3.out.below hb4 HL3.out); have HB4 := Lib.hid (HB3.out.trans (hb4.mono HB3.out.size)); have HL4 := Lib.hid (Nat.lt_of_lt_of_le HL3.out hb4.size); clear hb4; have c4_9 := HC4.out.get 9 _ rfl; have c4_10 := HC4.out.get 10 _ rfl; have c4_11 := HC4.out.get 11 _ rfl; have c4_12 := HC4.out.get 12 _ rfl))
                    go_ret
                    exact ⟨by rw [HP.out]; rfl, HB4.out⟩
                  · have h8' : m.pass.toList.isEmpty = false := by simpa using h8
                    rw [emp_false h8] at HP
                    go_enter Tryd.func89, Tryd.ntmps89
                    go_upto_region 1 with (refine wpList_box_cells rfl 30 _ rfl (mqCells m vc vw vf) (by exact rfl) w.heap.size rfl ?_; intro w1 hb1 hs1 hC1; have HC1 := Lib.hid hC1; have HB1 := Lib.hid hb1; have HL1 := Lib.hid (show w.heap.size < w1.heap.size by omega); clear hs1 hC1 hb1; have c1_1 := HC1.out.get 1 _ rfl)
                    go_wp2_with (first
                      | (go_at_call 104; (with_reducible refine (K1.out w1 HB1.out).mono ?_); rintro _ w2 ⟨rfl, hb2⟩; have HC2 := Lib.hid (HC1.out.below hb2 HL1.out); have HB2 := Lib.hid (HB1.out.trans (hb2.mono HB1.out.size)); have HL2 := Lib.hid (Nat.lt_of_lt_of_le HL1.out hb2.size); clear hb2; have c2_3 := HC2.out.get 3 _ rfl; have c2_4 := HC2.out.get 4 _ rfl; have c2_5 := HC2.out.get 5 _ rfl; have c2_6 := HC2.out.get 6 _ rfl; have c2_7 := HC2.out.get 7 _ rfl; have c2_8 := HC2.out.get 8 _ rfl)
                      | (go_at_call 88; (with_reducible refine (K2.out _).mono ?_); rintro _ w9 ⟨rfl, rfl⟩)
                      | (go_at_call 105; (with_reducible refine (K3.out w2 HB2.out).mono ?_); rintro _ w3 ⟨rfl, hb3⟩; have HC3 := Lib.hid (HC2.out.below hb3 HL2.out); have HB3 := Lib.hid (HB2.out.trans (hb3.mono HB2.out.size)); have HL3 := Lib.hid (Nat.lt_of_lt_of_le HL2.out hb3.size); clear hb3; have c3_9 := HC3.out.get 9 _ rfl)
                      | (go_at_call 104; (with_reducible refine (K4.out w3 HB3.out).mono ?_); rintro _ w4 ⟨rfl, hb4⟩; have HC4 := Lib.hid (HC3.out.below hb4 HL3.out); have HB4 := Lib.hid (HB3.out.trans (hb4.mono HB3.out.size)); have HL4 := Lib.hid (Nat.lt_of_lt_of_le HL3.out hb4.size); clear hb4; have c4_9 := HC4.out.get 9 _ rfl; have c4_10 := HC4.out.get 10 _ rfl; have c4_11 := HC4.out.get 11 _ rfl; have c4_12 := HC4.out.get 12 _ rfl))
                    go_ret
                    exact ⟨by rw [HP.out]; rfl, HB4.out⟩
              · have h9' : m.user.toList.isEmpty = false := by simpa using h9
                rw [emp_false h9] at HP
                have HP : Hid (Z = false) := by unfold Hid; have := HP.out; simpa using this
                go_enter Tryd.func89, Tryd.ntmps89
                go_upto_region 1 with (refine wpList_box_cells rfl 30 _ rfl (mqCells m vc vw vf) (by exact rfl) w.heap.size rfl ?_; intro w1 hb1 hs1 hC1; have HC1 := Lib.hid hC1; have HB1 := Lib.hid hb1; have HL1 := Lib.hid (show w.heap.size < w1.heap.size by omega); clear hs1 hC1 hb1; have c1_1 := HC1.out.get 1 _ rfl)
                go_wp2_with (first
                  | (go_at_call 104; (with_reducible refine (K1.out w1 HB1.out).mono ?_); rintro _ w2 ⟨rfl, hb2⟩; have HC2 := Lib.hid (HC1.out.below hb2 HL1.out); have HB2 := Lib.hid (HB1.out.trans (hb2.mono HB1.out.size)); have HL2 := Lib.hid (Nat.lt_of_lt_of_le HL1.out hb2.size); clear hb2; have c2_3 := HC2.out.get 3 _ rfl; have c2_4 := HC2.out.get 4 _ rfl; have c2_5 := HC2.out.get 5 _ rfl; have c2_6 := HC2.out.get 6 _ rfl; have c2_7 := HC2.out.get 7 _ rfl; have c2_8 := HC2.out.get 8 _ rfl)
                  | (go_at_call 88; (with_reducible refine (K2.out _).mono ?_); rintro _ w9 ⟨rfl, rfl⟩)
                  | (go_at_call 105; (with_reducible refine (K3.out w2 HB2.out).mono ?_); rintro _ w3 ⟨rfl, hb3⟩; have HC3 := Lib.hid (HC2.out.below hb3 HL2.out); have HB3 := Lib.hid (HB2.out.trans (hb3.mono HB2.out.size)); have HL3 := Lib.hid (Nat.lt_of_lt_of_le HL2.out hb3.size); clear hb3; have c3_9 := HC3.out.get 9 _ rfl)
                  | (go_at_call 104; (with_reducible refine (K4.out w3 HB3.out).mono ?_); rintro _ w4 ⟨rfl, hb4⟩; have HC4 := Lib.hid (HC3.out.below hb4 HL3.out); have HB4 := Lib.hid (HB3.out.trans (hb4.mono HB3.out.size)); have HL4 := Lib.hid (Nat.lt_of_lt_of_le HL3.out hb4.size); clear hb4; have c4_9 := HC4.out.get 9 _ rfl; have c4_10 := HC4.out.get 10 _ rfl; have c4_11 := HC4.out.get 11 _ rfl; have c4_12 := HC4.out.get 12 _ rfl))
                go_ret
                exact ⟨by rw [HP.out]; rfl, HB4.out⟩
          · rw [decide_eq_false h5] at HP
            go_enter Tryd.func89, Tryd.ntmps89
            go_upto_region 1 with (refine wpList_box_cells rfl 30 _ rfl (mqCells m vc vw vf) (by exact rfl) w.heap.size rfl ?_; intro w1 hb1 hs1 hC1; have HC1 := Lib.hid hC1; have HB1 := Lib.hid hb1; have HL1 := Lib.hid (show w.heap.size < w1.heap.size by omega); clear hs1 hC1 hb1; have c1_1 := HC1.out.get 1 _ rfl)
            go_wp2_with (first
              | (go_at_call 104; (with_reducible refine (K1.out w1 HB1.out).mono ?_); rintro _ w2 ⟨rfl, hb2⟩; have HC2 := Lib.hid (HC1.out.below hb2 HL1.out); have HB2 := Lib.hid (HB1.out.trans (hb2.mono HB1.out.size)); have HL2 := Lib.hid (Nat.lt_of_lt_of_le HL1.out hb2.size); clear hb2; have c2_3 := HC2.out.get 3 _ rfl; have c2_4 := HC2.out.get 4 _ rfl; have c2_5 := HC2.out.get 5 _ rfl; have c2_6 := HC2.out.get 6 _ rfl; have c2_7 := HC2.out.get 7 _ rfl; have c2_8 := HC2.out.get 8 _ rfl)
              | (go_at_call 88; (with_reducible refine (K2.out _).mono ?_); rintro _ w9 ⟨rfl, rfl⟩)
              | (go_at_call 105; (with_reducible refine (K3.out w2 HB2.out).mono ?_); rintro _ w3 ⟨rfl, hb3⟩; have HC3 := Lib.hid (HC2.out.below hb3 HL2.out); have HB3 := Lib.hid (HB2.out.trans (hb3.mono HB2.out.size)); have HL3 := Lib.hid (Nat.lt_of_lt_of_le HL2.out hb3.size); clear hb3; have c3_9 := HC3.out.get 9 _ rfl)
              | (go_at_call 104; (with_reducible refine (K4.out w3 HB3.out).mono ?_); rintro _ w4 ⟨rfl, hb4⟩; have HC4 := Lib.hid (HC3.out.below hb4 HL3.out); have HB4 := Lib.hid (HB3.out.trans (hb4.mono HB3.out.size)); have HL4 := Lib.hid (Nat.lt_of_lt_of_le HL3.out hb4.size); clear hb4; have c4_9 := HC4.out.get 9 _ rfl; have c4_10 := HC4.out.get 10 _ rfl; have c4_11 := HC4.out.get 11 _ rfl; have c4_12 := HC4.out.get 12 _ rfl))
            go_ret
            exact ⟨by rw [HP.out]; rfl, HB4.out⟩

set_option maxRecDepth 100000 in
set_option maxHeartbeats 1600000 in
theorem packPublishV (m : Mq) (vc vw vf : Value) (h1 : Fits m.topic) (w : World) (hT : Wd w) :
    Calls Tryd.prog 90 #[.agg (mqCells m vc vw vf).toArray] w fun e w' => e = .returned (.bool (publishOk m)) ∧ Below w.heap.size w w' := by
  have HP := Lib.hid (show publishOk m = (topicOk m.topic && (inRB m.qos 0 2 && (((decide (0 < m.qos) && inRB m.id 1 65535) || (m.qos == 0 && (m.id == 0 && !m.dup))) && decide ((m.payload.size : Int) ≤ 128)))) from rfl)
  have K1 := Lib.hid (fun w1 hb => packTopicV m.topic h1 w1 (hT.below hb))
  have K2 := Lib.hid (fun w1 => packWithin m.qos 0 2 w1)
  have K3 := Lib.hid (fun w1 => packWithin m.id 1 65535 w1)
  clear hT h1
  generalize topicOk m.topic = B1 at K1 HP
  generalize inRB m.qos 0 2 = B2 at K2 HP
  generalize hB3 : inRB m.id 1 65535 = B3 at K3 HP
  have HB3 := Lib.hid hB3
  clear hB3
  generalize publishOk m = Z at *
  cases B1 with
  | false =>
    go_enter Tryd.func90, Tryd.ntmps90
    go_upto_region 1 with (refine wpList_box_cells rfl 30 _ rfl (mqCells m vc vw vf) (by exact rfl) w.heap.size rfl ?_; intro w1 hb1 hs1 hC1; have HC1 := Lib.hid hC1; have HB1 := Lib.hid hb1; have HL1 := Lib.hid (show w.heap.size < w1.heap.size by omega); clear hs1 hC1 hb1; have c1_19 := HC1.out.get 19 _ rfl)
    go_wp2_with (first
      | (go_at_call 106; (with_reducible refine (K1.out w1 HB1.out).mono ?_); rintro _ w2 ⟨rfl, hb2⟩; have HC2 := Lib.hid (HC1.out.below hb2 HL1.out); have HB2 := Lib.hid (HB1.out.trans (hb2.mono HB1.out.size)); have HL2 := Lib.hid (Nat.lt_of_lt_of_le HL1.out hb2.size); clear hb2; have c2_16 := HC2.out.get 16 _ rfl; have c2_17 := HC2.out.get 17 _ rfl; have c2_20 := HC2.out.get 20 _ rfl; have c2_21 := HC2.out.get 21 _ rfl)
      | (go_at_call 88; (with_reducible refine (K2.out _).mono ?_); rintro _ w9 ⟨rfl, rfl⟩; clear K2)
      | (go_at_call 88; (with_reducible refine (K3.out _).mono ?_); rintro _ w8 ⟨rfl, rfl⟩))
    go_ret
    exact ⟨by rw [HP.out]; rfl, HB2.out⟩
  | true =>
    cases B2 with
    | false =>
      go_enter Tryd.func90, Tryd.ntmps90
      go_upto_region 1 with (refine wpList_box_cells rfl 30 _ rfl (mqCells m vc vw vf) (by exact rfl) w.heap.size rfl ?_; intro w1 hb1 hs1 hC1; have HC1 := Lib.hid hC1; have HB1 := Lib.hid hb1; have HL1 := Lib.hid (show w.heap.size < w1.heap.size by omega); clear hs1 hC1 hb1; have c1_19 := HC1.out.get 19 _ rfl)
      go_wp2_with (first
        | (go_at_call 106; (with_reducible refine (K1.out w1 HB1.out).mono ?_); rintro _ w2 ⟨rfl, hb2⟩; have HC2 := Lib.hid (HC1.out.below hb2 HL1.out); have HB2 := Lib.hid (HB1.out.trans (hb2.mono HB1.out.size)); have HL2 := Lib.hid (Nat.lt_of_lt_of_le HL1.out hb2.size); clear hb2; have c2_16 := HC2.out.get 16 _ rfl; have c2_17 := HC2.out.get 17 _ rfl; have c2_20 := HC2.out.get 20 _ rfl; have c2_21 := HC2.out.get 21 _ rfl)
        | (go_at_call 88; (with_reducible refine (K2.out _).mono ?_); rintro _ w9 ⟨rfl, rfl⟩; clear K2)
        | (go_at_call 88; (with_reducible refine (K3.out _).mono ?_); rintro _ w8 ⟨rfl, rfl⟩))
      go_ret
      exact ⟨by rw [HP.out]; rfl, HB2.out⟩
    | true =>
      cases h4 : decide (0 < m.qos) with
      | true =>
        have h4' : (m.qos == 0) = false := by rw [beq_eq_false_iff_ne]; have := of_decide_eq_true h4; omega
        rw [h4, h4'] at HP
        cases B3 with
        | false =>
          go_enter Tryd.func90, Tryd.ntmps90
          go_upto_region 1 with (refine wpList_box_cells rfl 30 _ rfl (mqCells m vc vw vf) (by exact rfl) w.heap.size rfl ?_; intro w1 hb1 hs1 hC1; have HC1 := Lib.hid hC1; have HB1 := Lib.hid hb1; have HL1 := Lib.hid (show w.heap.size < w1.heap.size by omega); clear hs1 hC1 hb1; have c1_19 := HC1.out.get 19 _ rfl)
          go_wp2_with (first
            | (go_at_call 106; (with_reducible refine (K1.out w1 HB1.out).mono ?_); rintro _ w2 ⟨rfl, hb2⟩; have HC2 := Lib.hid (HC1.out.below hb2 HL1.out); have HB2 := Lib.hid (HB1.out.trans (hb2.mono HB1.out.size)); have HL2 := Lib.hid (Nat.lt_of_lt_of_le HL1.out hb2.size); clear hb2; have c2_16 := HC2.out.get 16 _ rfl; have c2_17 := HC2.out.get 17 _ rfl; have c2_20 := HC2.out.get 20 _ rfl; have c2_21 := HC2.out.get 21 _ rfl)
            | (go_at_call 88; (with_reducible refine (K2.out _).mono ?_); rintro _ w9 ⟨rfl, rfl⟩; clear K2)
            | (go_at_call 88; (with_reducible refine (K3.out _).mono ?_); rintro _ w8 ⟨rfl, rfl⟩))
          go_ret
          exact ⟨by rw [HP.out]; rfl, HB2.out⟩
        | true =>
          cases h9 : decide ((m.payload.size : Int) ≤ 128) with
          | true =>
            rw [h9] at HP
            go_enter Tryd.func90, Tryd.ntmps90
            go_upto_region 1 with (refine wpList_box_cells rfl 30 _ rfl (mqCells m vc vw vf) (by exact rfl) w.heap.size rfl ?_; intro w1 hb1 hs1 hC1; have HC1 := Lib.hid hC1; have HB1 := Lib.hid hb1; have HL1 := Lib.hid (show w.heap.size < w1.heap.size by omega); clear hs1 hC1 hb1; have c1_19 := HC1.out.get 19 _ rfl)
            go_wp2_with (first
              | (go_at_call 106; (with_reducible refine (K1.out w1 HB1.out).mono ?_); rintro _ w2 ⟨rfl, hb2⟩; have HC2 := Lib.hid (HC1.out.below hb2 HL1.out); have HB2 := Lib.hid (HB1.out.trans (hb2.mono HB1.out.size)); have HL2 := Lib.hid (Nat.lt_of_lt_of_le HL1.out hb2.size); clear hb2; have c2_16 := HC2.out.get 16 _ rfl; have c2_17 := HC2.out.get 17 _ rfl; have c2_20 := HC2.out.get 20 _ rfl; have c2_21 := HC2.out.get 21 _ rfl)
              | (go_at_call 88; (with_reducible refine (K2.out _).mono ?_); rintro _ w9 ⟨rfl, rfl⟩; clear K2)
              | (go_at_call 88; (with_reducible refine (K3.out _).mono ?_); rintro _ w8 ⟨rfl, rfl⟩))
            go_ret
            exact ⟨by rw [HP.out]; rfl, HB2.out⟩
          | false =>
            rw [h9] at HP
            go_enter Tryd.func90, Tryd.ntmps90
            go_upto_region 1 with (refine wpList_box_cells rfl 30 _ rfl (mqCells m vc vw vf) (by exact rfl) w.heap.size rfl ?_; intro w1 hb1 hs1 hC1; have HC1 := Lib.hid hC1; have HB1 := Lib.hid hb1; have HL1 := Lib.hid (show w.heap.size < w1.heap.size by omega); clear hs1 hC1 hb1; have c1_19 := HC1.out.get 19 _ rfl)
            go_wp2_with (first
              | (go_at_call 106; (with_reducible refine (K1.out w1 HB1.out).mono ?_); rintro _ w2 ⟨rfl, hb2⟩; have HC2 := Lib.hid (HC1.out.below hb2 HL1.out); have HB2 := Lib.hid (HB1.out.trans (hb2.mono HB1.out.size)); have HL2 := Lib.hid (Nat.lt_of_lt_of_le HL1.out hb2.size); clear hb2; have c2_16 := HC2.out.get 16 _ rfl; have c2_17 := HC2.out.get 17 _ rfl; have c2_20 := HC2.out.get 20 _ rfl; have c2_21 := HC2.out.get 21 _ rfl)
              | (go_at_call 88; (with_reducible refine (K2.out _).mono ?_); rintro _ w9 ⟨rfl, rfl⟩; clear K2)
              | (go_at_call 88; (with_reducible refine (K3.out _).mono ?_); rintro _ w8 ⟨rfl, rfl⟩))
            go_ret
            exact ⟨by rw [HP.out]; rfl, HB2.out⟩
      | false =>
        rw [h4] at HP
        cases h5 : (m.qos == 0) with
        | true =>
          rw [h5] at HP
          cases h6 : (m.id == 0) with
          | true =>
            rw [h6] at HP
            cases h7 : m.dup with
            | true =>
              rw [h7] at HP
              go_enter Tryd.func90, Tryd.ntmps90
              go_upto_region 1 with (refine wpList_box_cells rfl 30 _ rfl (mqCells m vc vw vf) (by exact rfl) w.heap.size rfl ?_; intro w1 hb1 hs1 hC1; have HC1 := Lib.hid hC1; have HB1 := Lib.hid hb1; have HL1 := Lib.hid (show w.heap.size < w1.heap.size by omega); clear hs1 hC1 hb1; have c1_19 := HC1.out.get 19 _ rfl)
              go_wp2_with (first
                | (go_at_call 106; (with_reducible refine (K1.out w1 HB1.out).mono ?_); rintro _ w2 ⟨rfl, hb2⟩; have HC2 := Lib.hid (HC1.out.below hb2 HL1.out); have HB2 := Lib.hid (HB1.out.trans (hb2.mono HB1.out.size)); have HL2 := Lib.hid (Nat.lt_of_lt_of_le HL1.out hb2.size); clear hb2; have c2_16 := HC2.out.get 16 _ rfl; have c2_17 := HC2.out.get 17 _ rfl; have c2_20 := HC2.out.get 20 _ rfl; have c2_21 := HC2.out.get 21 _ rfl)
                | (go_at_call 88; (with_reducible refine (K2.out _).mono ?_); rintro _ w9 ⟨rfl, rfl⟩; clear K2)
                | (go_at_call 88; (with_reducible refine (K3.out _).mono ?_); rintro _ w8 ⟨rfl, rfl⟩))
              go_ret
              exact ⟨by rw [HP.out]; rfl, HB2.out⟩
            | false =>
              rw [h7] at HP
              cases h9 : decide ((m.payload.size : Int) ≤ 128) with
              | true =>
                rw [h9] at HP
                go_enter Tryd.func90, Tryd.ntmps90
                go_upto_region 1 with (refine wpList_box_cells rfl 30 _ rfl (mqCells m vc vw vf) (by exact rfl) w.heap.size rfl ?_; intro w1 hb1 hs1 hC1; have HC1 := Lib.hid hC1; have HB1 := Lib.hid hb1; have HL1 := Lib.hid (show w.heap.size < w1.heap.size by omega); clear hs1 hC1 hb1; have c1_19 := HC1.out.get 19 _ rfl)
                go_wp2_with (first
                  | (go_at_call 106; (with_reducible refine (K1.out w1 HB1.out).mono ?_); rintro _ w2 ⟨rfl, hb2⟩; have HC2 := Lib.hid (HC1.out.below hb2 HL1.out); have HB2 := Lib.hid (HB1.out.trans (hb2.mono HB1.out.size)); have HL2 := Lib.hid (Nat.lt_of_lt_of_le HL1.out hb2.size); clear hb2; have c2_16 := HC2.out.get 16 _ rfl; have c2_17 := HC2.out.get 17 _ rfl; have c2_20 := HC2.out.get 20 _ rfl; have c2_21 := HC2.out.get 21 _ rfl)
                  | (go_at_call 88; (with_reducible refine (K2.out _).mono ?_); rintro _ w9 ⟨rfl, rfl⟩; clear K2)
                  | (go_at_call 88; (with_reducible refine (K3.out _).mono ?_); rintro _ w8 ⟨rfl, rfl⟩))
                go_ret
                exact ⟨by rw [HP.out]; rfl, HB2.out⟩
              | false =>
                rw [h9] at HP
                go_enter Tryd.func90, Tryd.ntmps90
                go_upto_region 1 with (refine wpList_box_cells rfl 30 _ rfl (mqCells m vc vw vf) (by exact rfl) w.heap.size rfl ?_; intro w1 hb1 hs1 hC1; have HC1 := Lib.hid hC1; have HB1 := Lib.hid hb1; have HL1 := Lib.hid (show w.heap.size < w1.heap.size by omega); clear hs1 hC1 hb1; have c1_19 := HC1.out.get 19 _ rfl)
                go_wp2_with (first
                  | (go_at_call 106; (with_reducible refine (K1.out w1 HB1.out).mono ?_); rintro _ w2 ⟨rfl, hb2⟩; have HC2 := Lib.hid (HC1.out.below hb2 HL1.out); have HB2 := Lib.hid (HB1.out.trans (hb2.mono HB1.out.size)); have HL2 := Lib.hid (Nat.lt_of_lt_of_le HL1.out hb2.size); clear hb2; have c2_16 := HC2.out.get 16 _ rfl; have c2_17 := HC2.out.get 17 _ rfl; have c2_20 := HC2.out.get 20 _ rfl; have c2_21 := HC2.out.get 21 _ rfl)
                  | (go_at_call 88; (with_reducible refine (K2.out _).mono ?_); rintro _ w9 ⟨rfl, rfl⟩; clear K2)
                  | (go_at_call 88; (with_reducible refine (K3.out _).mono ?_); rintro _ w8 ⟨rfl, rfl⟩))
                go_ret
                exact ⟨by rw [HP.out]; rfl, HB2.out⟩
          | false =>
            rw [h6] at HP
            go_enter Tryd.func90, Tryd.ntmps90
            go_upto_region 1 with (refine wpList_box_cells rfl 30 _ rfl (mqCells m vc vw vf) (by exact rfl) w.heap.size rfl ?_; intro w1 hb1 hs1 hC1; have HC1 := Lib.hid hC1; have HB1 := Lib.hid hb1; have HL1 := Lib.hid (show w.heap.size < w1.heap.size by omega); clear hs1 hC1 hb1; have c1_19 := HC1.out.get 19 _ rfl)
            go_wp2_with (first
              | (go_at_call 106; (with_reducible refine (K1.out w1 HB1.out).mono ?_); rintro _ w2 ⟨rfl, hb2⟩; have HC2 := Lib.hid (HC1.out.below hb2 HL1.out); have HB2 := Lib.hid (HB1.out.trans (hb2.mono HB1.out.size)); have HL2 := Lib.hid (Nat.lt_of_lt_of_le HL1.out hb2.size); clear hb2; have c2_16 := HC2.out.get 16 _ rfl; have c2_17 := HC2.out.get 17 _ rfl; have c2_20 := HC2.out.get 20 _ rfl; have c2_21 := HC2.out.get 21 _ rfl)
              | (go_at_call 88; (with_reducible refine (K2.out _).mono ?_); rintro _ w9 ⟨rfl, rfl⟩; clear K2)
              | (go_at_call 88; (with_reducible refine (K3.out _).mono ?_); rintro _ w8 ⟨rfl, rfl⟩))
            go_ret
            exact ⟨by rw [HP.out]; rfl, HB2.out⟩
        | false =>
          rw [h5] at HP
          go_enter Tryd.func90, Tryd.ntmps90
          go_upto_region 1 with (refine wpList_box_cells rfl 30 _ rfl (mqCells m vc vw vf) (by exact rfl) w.heap.size rfl ?_; intro w1 hb1 hs1 hC1; have HC1 := Lib.hid hC1; have HB1 := Lib.hid hb1; have HL1 := Lib.hid (show w.heap.size < w1.heap.size by omega); clear hs1 hC1 hb1; have c1_19 := HC1.out.get 19 _ rfl)
          go_wp2_with (first
            | (go_at_call 106; (with_reducible refine (K1.out w1 HB1.out).mono ?_); rintro _ w2 ⟨rfl, hb2⟩; have HC2 := Lib.hid (HC1.out.below hb2 HL1.out); have HB2 := Lib.hid (HB1.out.trans (hb2.mono HB1.out.size)); have HL2 := Lib.hid (Nat.lt_of_lt_of_le HL1.out hb2.size); clear hb2; have c2_16 := HC2.out.get 16 _ rfl; have c2_17 := HC2.out.get 17 _ rfl; have c2_20 := HC2.out.get 20 _ rfl; have c2_21 := HC2.out.get 21 _ rfl)
            | (go_at_call 88; (with_reducible refine (K2.out _).mono ?_); rintro _ w9 ⟨rfl, rfl⟩; clear K2)
            | (go_at_call 88; (with_reducible refine (K3.out _).mono ?_); rintro _ w8 ⟨rfl, rfl⟩))
          go_ret
          exact ⟨by rw [HP.out]; rfl, HB2.out⟩

end Go.Proofs.YtkcdkjpmbjcmdaaDoor

/-
  pack.only, kind by kind.
-/
namespace Go.Proofs.YtkcdkjpmbjcmdaaDoor
open Go.RowKit

theorem back_of {ops : Array Oper} (h : (List.range ops.size).all (fun i => match ops[i]? with | some o => o.after.all (fun e => !Region.binds .any e || decide (e.on < i)) | none => true) = true) :
    ∀ (i : Nat) (o : Oper), ops[i]? = some o → ∀ e ∈ o.after, Region.binds .any e = true → e.on < i := by
  intro i o ho e he hb
  have hi : i < ops.size := (Array.getElem?_eq_some_iff.1 ho).1
  have := List.all_eq_true.1 h i (List.mem_range.2 hi)
  rw [ho] at this
  simpa [hb] using Array.all_eq_true'.1 this e he
/-- an edge of a literal list. -/
theorem edge_of {f : Array Edge} {j : Nat} (h : f.toList.any (fun e => Region.binds .any e && e.on == j) = true) : ∃ e ∈ f, Region.binds .any e = true ∧ e.on = j := by
  obtain ⟨e, he, h⟩ := List.any_eq_true.1 h
  simp only [Bool.and_eq_true, beq_iff_eq] at h
  exact ⟨e, by simpa using he, h.1, h.2⟩

section
variable {P : Program} {ops : Array Oper} {rest : List Oper} {o : Oper} {a : Act} {w : World} {Q : Exit → Act → World → Prop}
theorem wpList_field (hgd : o.guard = none) {S f x d g off : Nat} (ho : o.op = .fieldAddr S (.tmp x) f) (hd : o.dst = some d) (hx : a.eval (.tmp x) = .pointer (some ⟨g, 0, none⟩))
    (hf : ∀ g w, (Instr.fieldAt S (.pointer (some ⟨g, 0, none⟩)) f).run P w = .ok (.pointer (some ⟨g, off, none⟩)) w) (h : wpList P ops Q rest (a.put (some d) (.pointer (some ⟨g, off, none⟩))) w) : wpList P ops Q (o :: rest) a w := by
  refine wpList_go (wanted_none hgd _) d hd _ w ?_ h
  unfold execOp
  simp only [ho, hx, Sem.run_bind, hf, Result.andThen_ok, Sem.run_pure]
theorem wpList_load1 (hgd : o.guard = none) {T x d : Nat} {p v : Value} (ho : o.op = .load T (.tmp x)) (hd : o.dst = some d) (hx : a.eval (.tmp x) = p) (hl : (Instr.loadAt T p).run P w = .ok v w)
    (h : wpList P ops Q rest (a.put (some d) v) w) : wpList P ops Q (o :: rest) a w := by
  refine wpList_go (wanted_none hgd _) d hd _ w ?_ h
  unfold execOp
  simp only [ho, hx, Sem.run_bind, hl, Result.andThen_ok, Sem.run_pure]
end

theorem store1_i (g o : Nat) (v : Int) (u : Value) (w : World) (h : w.cell? ⟨g, o, none⟩ = some u) (hf : w.frozen? ⟨g, o, none⟩ = false) : (Instr.storeAt 3 (.pointer (some ⟨g, o, none⟩)) (.int .i64 v)).run Tryd.prog w = .ok () (w.setCell ⟨g, o, none⟩ (.int .i64 v)) := by
  simp [go_sem, h, hf]
theorem store1_b (g o : Nat) (v : Bool) (u : Value) (w : World) (h : w.cell? ⟨g, o, none⟩ = some u) (hf : w.frozen? ⟨g, o, none⟩ = false) : (Instr.storeAt 4 (.pointer (some ⟨g, o, none⟩)) (.bool v)).run Tryd.prog w = .ok () (w.setCell ⟨g, o, none⟩ (.bool v)) := by
  simp [go_sem, h, hf]
theorem store1_s (g o : Nat) (v : ByteArray) (u : Value) (w : World) (h : w.cell? ⟨g, o, none⟩ = some u) (hf : w.frozen? ⟨g, o, none⟩ = false) : (Instr.storeAt 9 (.pointer (some ⟨g, o, none⟩)) (.string v)).run Tryd.prog w = .ok () (w.setCell ⟨g, o, none⟩ (.string v)) := by
  simp [go_sem, h, hf]
theorem store1_26 (g o n c : Nat) (A : Option Addr) (u : Value) (w : World) (h : w.cell? ⟨g, o, none⟩ = some u) (hf : w.frozen? ⟨g, o, none⟩ = false) : (Instr.storeAt 26 (.pointer (some ⟨g, o, none⟩)) (.slice A n c)).run Tryd.prog w = .ok () (w.setCell ⟨g, o, none⟩ (.slice A n c)) := by
  simp [go_sem, h, hf]
theorem store1_27 (g o n c : Nat) (A : Option Addr) (u : Value) (w : World) (h : w.cell? ⟨g, o, none⟩ = some u) (hf : w.frozen? ⟨g, o, none⟩ = false) : (Instr.storeAt 27 (.pointer (some ⟨g, o, none⟩)) (.slice A n c)).run Tryd.prog w = .ok () (w.setCell ⟨g, o, none⟩ (.slice A n c)) := by
  simp [go_sem, h, hf]
theorem store1_28 (g o n c : Nat) (A : Option Addr) (u : Value) (w : World) (h : w.cell? ⟨g, o, none⟩ = some u) (hf : w.frozen? ⟨g, o, none⟩ = false) : (Instr.storeAt 28 (.pointer (some ⟨g, o, none⟩)) (.slice A n c)).run Tryd.prog w = .ok () (w.setCell ⟨g, o, none⟩ (.slice A n c)) := by
  simp [go_sem, h, hf]
end Go.Proofs.YtkcdkjpmbjcmdaaDoor

/-
  Words for pack.only and what stands on it.
-/
namespace Go.Proofs.YtkcdkjpmbjcmdaaDoor
open Go.RowKit

/-- what 'only' answers. -/
def Onlied (m : Mq) (w : World) (e : Ending) (w' : World) : Prop :=
  ∃ vc vw vf, e = .returned (.tuple #[.agg (mqCells (onlyOf m) vc vw vf).toArray, .bool (okOf m)]) ∧ MqL w' w'.heap.size (onlyOf m) vc vw vf ∧ Below w.heap.size w w'
theorem onlied_of {m : Mq} {w w' : World} {L : List Value} {b : Bool} {vc vw vf : Value} (hL : L = mqCells (onlyOf m) vc vw vf) (hb : b = okOf m) (hM : MqL w' w'.heap.size (onlyOf m) vc vw vf) (hB : Below w.heap.size w w') :
    Onlied m w (.returned (.tuple #[.agg L.toArray, .bool b])) w' := by
  subst hL hb
  exact ⟨vc, vw, vf, rfl, hM, hB⟩
theorem MqL.nil {w : World} {B : Nat} {m : Mq} (h1 : m.codes = []) (h2 : m.wishes = []) (h3 : m.filters = []) : MqL w B m nilV nilV nilV := by
  refine ⟨none, 0, none, 0, none, 0, ?_, ?_, ?_, ?_, ?_, ?_, ?_, ?_, ?_, ?_, ?_, ?_⟩ <;> simp [h1, h2, h3, wv, Reads]
theorem MqL.onlyC {w : World} {B : Nat} {m m' : Mq} {vc vw vf : Value} (h : MqL w B m vc vw vf) (h1 : m'.codes = m.codes) (h2 : m'.wishes = []) (h3 : m'.filters = []) : MqL w B m' vc nilV nilV := by
  obtain ⟨A1, c1, A2, c2, A3, c3, e1, e2, e3, l1, l2, l3, k1, k2, k3, r1, r2, r3⟩ := h
  refine ⟨A1, c1, none, 0, none, 0, ?_, ?_, ?_, ?_, ?_, ?_, ?_, ?_, ?_, ?_, ?_, ?_⟩ <;> simp [h1, h2, h3, wv, Reads.none_, e1, l1, r1, k1]
theorem MqL.onlyW {w : World} {B : Nat} {m m' : Mq} {vc vw vf : Value} (h : MqL w B m vc vw vf) (h1 : m'.codes = []) (h2 : m'.wishes = m.wishes) (h3 : m'.filters = []) : MqL w B m' nilV vw nilV := by
  obtain ⟨A1, c1, A2, c2, A3, c3, e1, e2, e3, l1, l2, l3, k1, k2, k3, r1, r2, r3⟩ := h
  refine ⟨none, 0, A2, c2, none, 0, ?_, ?_, ?_, ?_, ?_, ?_, ?_, ?_, ?_, ?_, ?_, ?_⟩ <;> simp [h1, h2, h3, Reads.none_, e2, l2, r2, k2]
theorem MqL.onlyF {w : World} {B : Nat} {m m' : Mq} {vc vw vf : Value} (h : MqL w B m vc vw vf) (h1 : m'.codes = []) (h2 : m'.wishes = []) (h3 : m'.filters = m.filters) : MqL w B m' nilV nilV vf := by
  obtain ⟨A1, c1, A2, c2, A3, c3, e1, e2, e3, l1, l2, l3, k1, k2, k3, r1, r2, r3⟩ := h
  refine ⟨none, 0, none, 0, A3, c3, ?_, ?_, ?_, ?_, ?_, ?_, ?_, ?_, ?_, ?_, ?_, ?_⟩ <;> simp [h1, h2, h3, wv, Reads.none_, e3, l3, r3, k3]
/-- a packet's strings are no longer than memory is. -/
structure MqFit (m : Mq) : Prop where
  client : Fits m.client
  wt : Fits m.wt
  wp : Fits m.wp
  user : Fits m.user
  pass : Fits m.pass
  topic : Fits m.topic
  payload : Fits m.payload
  wishes : ∀ s ∈ m.wishes, Fits s.1
  filters : ∀ s ∈ m.filters, Fits s
theorem results_two {P : Program} {fn : Func} {p q : Tmp} {T : TypeId} (h : fn.results = #[.cell p T, .tmp q]) (tmps : Array Value) {w : World} {g : Nat} {l : List Value} (d : TypeDesc) (v : Value) (hp : tmps.getD p undef = .pointer (some ⟨g, 0, none⟩)) (hq : tmps.getD q undef = v) (hC : Cells w g l)
    (hu : P.underlying T = some d) (hd : d.isRow = true) (n : Nat) (hi : (P.info? T).map (·.size) = some n) (hl : l.length = n) : (results fn tmps).run P w = .ok (.tuple #[.agg l.toArray, v]) w := by
  rw [← hl] at hi
  have hp' : tmps[p]?.getD undef = .pointer (some ⟨g, 0, none⟩) := by simpa using hp
  have hq' : tmps[q]?.getD undef = v := by simpa using hq
  simp [results, h, hp', hq', asAddr, run_loadVar_mid w g 0 T l d hC.range hu hd hi]
theorem eql_iB (u v : Int) (b : Bool) (h : (u == v) = b) (x y : Operand) (w : World) : (do eqGuard .eql 3 x y (.int .i64 u) (.int .i64 v); binOp .eql 3 (.int .i64 u) (.int .i64 v) : Sem Value).run Tryd.prog w = .ok (.bool b) w := by
  rw [← h]; exact eql_i u v x y w
theorem kind_ne {k c d : Int} (h : k = c) (hd : (c == d) = false) : (k == d) = false := by rw [h]; exact hd
theorem kind_eq {k c : Int} (h : k = c) : (k == c) = true := by rw [h]; exact beq_self_eq_true c

end Go.Proofs.YtkcdkjpmbjcmdaaDoor

/-
  A region that draws its order and makes memory, by an invariant: of each operation that has come up it is known what its slot holds, as long as no other operation has used it up.
-/
namespace Go.Proofs.YtkcdkjpmbjcmdaaDoor
open Go.RowKit

section
variable {P : Program} {md : Region.Mode} {ops : Array Oper} {Q : Exit → Act → World → Prop}
def Closed (md : Region.Mode) (ops : Array Oper) (listed : Array Bool) : Prop := ∀ (i : Nat) (o : Oper), ops[i]? = some o → listed.getD i false = true → ∀ e ∈ o.after, Region.binds md e = true → listed.getD e.on false = true
theorem ran_mono {listed : Array Bool} {i j : Nat} (h : listed.getD j false = true) : (listed.setIfInBounds i true).getD j false = true := by
  by_cases e : i = j
  · subst e
    have hi : i < listed.size := by
      rcases Nat.lt_or_ge i listed.size with h1 | h1
      · exact h1
      · rw [Array.getD_eq_getD_getElem?, Array.getElem?_eq_none h1] at h; cases h
    exact ran_same listed hi
  · rw [ran_ne listed e]; exact h
theorem wpAny_invB (I : Array Bool → Act → World → Prop) (hback : ∀ (i : Nat) (o : Oper), ops[i]? = some o → ∀ e ∈ o.after, Region.binds md e = true → e.on < i)
    (hstep : ∀ (listed : Array Bool) (a : Act) (w : World) (i : Nat) (o : Oper), listed.size = ops.size → listed.getD i false = false → Closed md ops listed → ops[i]? = some o → (∀ e ∈ o.after, Region.binds md e = true → listed.getD e.on false = true) → I listed a w →
      wpOp P ops Q i (fun a' w' => I (listed.setIfInBounds i true) a' w') a w)
    (hfin : ∀ (listed : Array Bool) (a : Act) (w : World), (∀ i, i < ops.size → listed.getD i false = true) → I listed a w → Q .normal a w) :
    ∀ (fuel : Nat) (listed : Array Bool) (a : Act) (w : World), listed.size = ops.size → listed.toList.count false ≤ fuel → Closed md ops listed → I listed a w → wpAny P md ops Q fuel listed a w := by
  intro fuel
  induction fuel with
  | zero =>
    intro listed a w hs hc hcl hI
    have hnil : Region.ready md ops listed = [] := by
      rcases hr : Region.ready md ops listed with _ | ⟨i, rs⟩
      · rfl
      · exfalso
        have hm : i ∈ Region.ready md ops listed := by rw [hr]; exact List.mem_cons_self
        obtain ⟨h0, o, ho, _⟩ := mem_ready.1 hm
        have hi : i < listed.size := by
          have := (Array.getElem?_eq_some_iff.1 ho).1
          omega
        have h1 : listed.toList[i]? = some false := by
          simp only [Array.getD_eq_getD_getElem?, Array.getElem?_eq_getElem hi, Option.getD_some] at h0
          simp [hi, h0]
        have := count_set _ _ h1
        omega
    exact ⟨hnil, hfin listed a w (all_listed hback hs hnil) hI⟩
  | succ fuel ih =>
    intro listed a w hs hc hcl hI
    refine ⟨fun hnil => hfin listed a w (all_listed hback hs hnil) hI, fun i hm => ?_⟩
    obtain ⟨h0, o, ho, hd⟩ := mem_ready.1 hm
    have hi : i < listed.size := by
      have := (Array.getElem?_eq_some_iff.1 ho).1
      omega
    have h0' : listed.getD i false = false := by
      simp only [Array.getD_eq_getD_getElem?, Array.getElem?_eq_getElem hi, Option.getD_some] at h0 ⊢
      exact h0
    have h1 : listed.toList[i]? = some false := by
      simp only [Array.getD_eq_getD_getElem?, Array.getElem?_eq_getElem hi, Option.getD_some] at h0
      simp [hi, h0]
    have hcs := count_set _ _ h1
    refine wpOp_mono (fun a' w' hI' => ih _ a' w' (by simpa using hs) ?_ ?_ hI') (hstep listed a w i o hs h0' hcl ho hd hI)
    · rw [Array.toList_setIfInBounds]
      omega
    · intro j oj hoj hj e he hb
      rcases getD_set hj with e2 | hj
      · subst e2
        have e3 : oj = o := by rw [ho] at hoj; injection hoj with hoj; exact hoj.symm
        subst e3
        exact ran_mono (hd e he hb)
      · exact ran_mono (hcl j oj hoj hj e he hb)
theorem wp_region_invB {id : Nat} {a : Act} {w : World} (hm : P.follows .mixedOrders = true) (I : Array Bool → Act → World → Prop) (hback : ∀ (i : Nat) (o : Oper), ops[i]? = some o → ∀ e ∈ o.after, Region.binds .any e = true → e.on < i)
    (hstep : ∀ (listed : Array Bool) (a : Act) (w : World) (i : Nat) (o : Oper), listed.size = ops.size → listed.getD i false = false → Closed .any ops listed → ops[i]? = some o → (∀ e ∈ o.after, Region.binds .any e = true → listed.getD e.on false = true) → I listed a w →
      wpOp P ops Q i (fun a' w' => I (listed.setIfInBounds i true) a' w') a w)
    (hfin : ∀ (listed : Array Bool) (a : Act) (w : World), (∀ i, i < ops.size → listed.getD i false = true) → I listed a w → Q .normal a w)
    (h0 : I (Array.replicate ops.size false) a w.drew) : (Code.region id ops true).wp P Q a w := by
  refine wp_region_any hm (wpAny_invB I hback hstep hfin ops.size _ a _ (by simp) ?_ ?_ h0)
  · simp
  · intro i o _ h
    rw [none_ran] at h
    cases h
end

/-- what an operation's slot holds, and which operations use it up. -/
structure Ent where
  op : Nat
  slot : Nat
  kill : List Nat
  p : Value → World → Prop
def KillEv (listed : Array Bool) : List Nat → Prop
  | [] => True
  | k :: ks => listed.getD k false = false ∧ KillEv listed ks
def AllSt (i : Nat) (listed : Array Bool) (w w' : World) : List Ent → Prop
  | [] => True
  | t :: es => (t.op ≠ i → i ∉ t.kill → (listed.size ≤ t.op ∨ listed.getD t.op false = true) → KillEv listed t.kill → ∀ u, t.p u w → t.p u w') ∧ AllSt i listed w w' es
theorem AllSt.get {i : Nat} {listed : Array Bool} {w w' : World} : ∀ {es : List Ent}, AllSt i listed w w' es → ∀ t ∈ es, t.op ≠ i → i ∉ t.kill → (listed.size ≤ t.op ∨ listed.getD t.op false = true) → KillEv listed t.kill → ∀ u, t.p u w → t.p u w'
  | _ :: _, h, t, ht => by
    rcases List.mem_cons.1 ht with rfl | ht
    · exact h.1
    · exact AllSt.get h.2 t ht
theorem AllSt.same {i : Nat} {listed : Array Bool} {w : World} : ∀ {es : List Ent}, AllSt i listed w w es
  | [] => trivial
  | _ :: _ => ⟨fun _ _ _ _ _ h => h, AllSt.same⟩
structure InvB (n : Nat) (fixed : List (Nat × Value)) (es : List Ent) (Wp : World → Prop) (listed : Array Bool) (a : Act) (w : World) : Prop where
  sz : a.tmps.size = n
  df : a.defers = []
  fx : AllEv a fixed
  vs : ∀ t ∈ es, (listed.size ≤ t.op ∨ listed.getD t.op false = true) → KillEv listed t.kill → t.p (a.eval (.tmp t.slot)) w
  wp : Wp w
def fitsB (n : Nat) (fixed : List (Nat × Value)) (es : List Ent) : Bool :=
  es.all (fun t => decide (t.slot < n) && fixed.all (fun f => f.1 != t.slot)) && es.all (fun u => es.all fun t => u.op == t.op || (u.slot != t.slot || (u.kill.contains t.op || decide (1000 ≤ t.op)))) && (es.map (·.op)).Nodup
theorem KillEv.back {listed : Array Bool} {i : Nat} : ∀ {ks : List Nat}, KillEv (listed.setIfInBounds i true) ks → i < listed.size → KillEv listed ks ∧ i ∉ ks
  | [], _, _ => ⟨trivial, by simp⟩
  | k :: ks, h, hi => by
    obtain ⟨h1, h2⟩ := KillEv.back h.2 hi
    have hk : i ≠ k := by
      intro e
      subst e
      have := h.1
      rw [ran_same listed hi] at this
      cases this
    refine ⟨⟨?_, h1⟩, ?_⟩
    · have := h.1
      rw [ran_ne listed hk] at this
      exact this
    · simp only [List.mem_cons, not_or]
      exact ⟨hk, h2⟩
theorem AllEv.put {a : Act} {d : Nat} {v : Value} : ∀ {l : List (Nat × Value)}, AllEv a l → l.all (fun f => f.1 != d) = true → AllEv (a.put (some d) v) l
  | [], _, _ => trivial
  | f :: l, h, hd => by
    simp only [List.all_cons, Bool.and_eq_true, bne_iff_ne] at hd
    exact ⟨(Act.eval_put_ne _ _ _ _ (Ne.symm hd.1)).trans h.1, AllEv.put h.2 hd.2⟩
theorem InvB.put {n : Nat} {fixed : List (Nat × Value)} {es : List Ent} {Wp Wp' : World → Prop} {listed : Array Bool} {a : Act} {w w' : World} (h : InvB n fixed es Wp listed a w) (hf : fitsB n fixed es = true) (t : Ent) (ht : t ∈ es) (hi : t.op < listed.size) (hN : listed.size ≤ 1000)
    (v : Value) (hp : t.p v w') (hw : Wp' w') (hst : AllSt t.op listed w w' es) : InvB n fixed es Wp' (listed.setIfInBounds t.op true) (a.put (some t.slot) v) w' := by
  simp only [fitsB, Bool.and_eq_true, decide_eq_true_eq] at hf
  obtain ⟨⟨hf, hn⟩, hm⟩ := hf
  have hf : ∀ t ∈ es, t.slot < n ∧ fixed.all (fun f => f.1 != t.slot) = true := fun t ht => by
    have := List.all_eq_true.1 hf t ht
    simp only [Bool.and_eq_true, decide_eq_true_eq] at this
    exact this
  have hn : ∀ u ∈ es, ∀ t ∈ es, (u.op == t.op || (u.slot != t.slot || (u.kill.contains t.op || decide (1000 ≤ t.op)))) = true := fun u hu t ht => List.all_eq_true.1 (List.all_eq_true.1 hn u hu) t ht
  refine ⟨by rw [Act.size_put, h.sz], by rw [Act.defers_put', h.df], h.fx.put (hf t ht).2, fun u hu hl hk => ?_, hw⟩
  obtain ⟨hk1, hk2⟩ := KillEv.back hk hi
  by_cases e : u.op = t.op
  · have e2 : u = t := nodup_eq hm u hu t ht e
    subst e2
    rw [Act.eval_put_same _ _ _ (by rw [h.sz]; exact (hf u hu).1)]
    exact hp
  · rw [ran_ne listed (Ne.symm e), Array.size_setIfInBounds] at hl
    have hs : t.slot ≠ u.slot := by
      intro e2
      have := hn u hu t ht
      simp only [Bool.or_eq_true, beq_iff_eq, bne_iff_ne, List.contains_iff_mem, decide_eq_true_eq] at this
      rcases this with h1 | h1 | h1 | h1
      · exact e h1
      · exact h1 e2.symm
      · exact hk2 h1
      · omega
    rw [Act.eval_put_ne _ _ _ _ hs]
    exact hst.get u hu e hk2 hl hk1 _ (h.vs u hu hl hk1)
/-- an operation without a slot. -/
theorem InvB.done {n : Nat} {fixed : List (Nat × Value)} {es : List Ent} {Wp Wp' : World → Prop} {listed : Array Bool} {a : Act} {w w' : World} (h : InvB n fixed es Wp listed a w) (i : Nat) (hi : i < listed.size) (hne : es.all (fun t => t.op != i) = true) (hw : Wp' w') (hst : AllSt i listed w w' es) : InvB n fixed es Wp' (listed.setIfInBounds i true) a w' := by
  refine ⟨h.sz, h.df, h.fx, fun u hu hl hk => ?_, hw⟩
  obtain ⟨hk1, hk2⟩ := KillEv.back hk hi
  have e : u.op ≠ i := by simpa using List.all_eq_true.1 hne u hu
  rw [ran_ne listed (Ne.symm e), Array.size_setIfInBounds] at hl
  exact hst.get u hu e hk2 hl hk1 _ (h.vs u hu hl hk1)
theorem wt_of {ops : Array Oper} {o : Oper} {a : Act} {j d : Nat} {b : Bool} (hg : o.guard = some (j, b)) (hj : (ops[j]?).bind (·.dst) = some d) (h : a.eval (.tmp d) = .bool b) : Region.wanted o (yielded ops a.tmps) = true := by
  have hy := yielded_of hj h
  cases b with
  | true => exact wanted_of hg hy
  | false => rw [wantedf_of hg hy]; rfl
theorem wf_of {ops : Array Oper} {o : Oper} {a : Act} {j d : Nat} {b : Bool} (hg : o.guard = some (j, b)) (hj : (ops[j]?).bind (·.dst) = some d) (h : a.eval (.tmp d) = .bool !b) : Region.wanted o (yielded ops a.tmps) = false := by
  have hy := yielded_of hj h
  cases b with
  | true => exact wanted_of hg hy
  | false => rw [wantedf_of hg hy]; rfl
theorem ran_of {f : Array Edge} {listed : Array Bool} (hd : ∀ e ∈ f, Region.binds .any e = true → listed.getD e.on false = true) (j : Nat) (h : f.toList.any (fun e => Region.binds .any e && e.on == j) = true) : listed.getD j false = true := by
  obtain ⟨e, he, hb, hon⟩ := edge_of h
  rw [← hon]
  exact hd e he hb

/-- blocks of one's own below b; what is made of rows lies from b on. -/
structure Base (W : World) (b : Nat) (bs : List (Nat × List Value)) (w : World) : Prop where
  own : Own W W.heap.size bs w
  bw : b ≤ w.heap.size
  hb : W.heap.size ≤ b
  all : ∀ p ∈ bs, p.1 < b
theorem Base.of {W w : World} {bs : List (Nat × List Value)} (O : Own W W.heap.size bs w) : Base W w.heap.size bs w := ⟨O, Nat.le_refl _, O.le, fun p hp => (O.mem p hp).2.1⟩
theorem Base.step {W w w' : World} {b : Nat} {bs : List (Nat × List Value)} (h : Base W b bs w) (hb : Below b w w') : Base W b bs w' :=
  ⟨⟨h.own.bel.trans (hb.mono h.hb), Nat.le_trans h.own.le hb.size, h.own.nd, fun p hp => ⟨(h.own.mem p hp).1, Nat.lt_of_lt_of_le (h.own.mem p hp).2.1 hb.size, (h.own.mem p hp).2.2.below hb (h.all p hp)⟩⟩, Nat.le_trans h.bw hb.size, h.hb, h.all⟩
theorem Base.call {W w w' : World} {b : Nat} {bs : List (Nat × List Value)} (h : Base W b bs w) (hb : Below w.heap.size w w') : Base W b bs w' := h.step (hb.mono h.bw)
theorem Base.drew {W w : World} {b : Nat} {bs : List (Nat × List Value)} (h : Base W b bs w) : Base W b bs w.drew := h.call (Below.drew (Below.refl _ _))
theorem Base.get {W w : World} {b : Nat} {bs : List (Nat × List Value)} (h : Base W b bs w) (i : Nat) {g : Nat} {L : List Value} (hi : bs[i]? = some (g, L)) : Cells w g L := h.own.get i hi

/-! what one operation runs to -/
section
variable {P : Program} {o : Oper} {a : Act} {w : World}
theorem run_field {S f g off : Nat} {x : Operand} (ho : o.op = .fieldAddr S x f) {off0 : Nat} (hx : a.eval x = .pointer (some ⟨g, off0, none⟩)) (hf : ∀ g w, (Instr.fieldAt S (.pointer (some ⟨g, off0, none⟩)) f).run P w = .ok (.pointer (some ⟨g, off, none⟩)) w) :
    (execOp a.eval o).run P w = .ok (.value (.pointer (some ⟨g, off, none⟩))) w := by
  unfold execOp
  simp only [ho, hx, Sem.run_bind, hf, Result.andThen_ok, Sem.run_pure]
theorem run_load {T : Nat} {x : Operand} {p v : Value} (ho : o.op = .load T x) (hx : a.eval x = p) (hl : (Instr.loadAt T p).run P w = .ok v w) : (execOp a.eval o).run P w = .ok (.value v) w := by
  unfold execOp
  simp only [ho, hx, Sem.run_bind, hl, Result.andThen_ok, Sem.run_pure]
theorem run_move {x : Operand} {v : Value} (ho : o.op = .move x ∨ o.op = .assign x) (hx : a.eval x = v) : (execOp a.eval o).run P w = .ok (.value v) w := by
  rw [← hx]
  unfold execOp
  rcases ho with ho | ho <;> simp only [ho] <;> rfl
theorem run_bin {b : BinOp} {T T' : TypeId} {x y : Operand} {u v r : Value} (ho : o.op = .binOp b T x y T') (hx : a.eval x = u) (hy : a.eval y = v) (hq : (do eqGuard b T x y u v; binOp b T u v : Sem Value).run P w = .ok r w) : (execOp a.eval o).run P w = .ok (.value r) w := by
  unfold execOp
  rw [Sem.run_bind] at hq
  simp only [ho, hx, hy, Sem.run_bind, hq, Result.andThen_ok, Sem.run_pure]
theorem run_un {b : UnOp} {T : TypeId} {x : Operand} {u r : Value} (ho : o.op = .unOp b T x) (hx : a.eval x = u) (hq : (Op.unary b u).run P w = .ok r w) : (execOp a.eval o).run P w = .ok (.value r) w := by
  unfold execOp
  simp only [ho, hx, Sem.run_bind, hq, Result.andThen_ok, Sem.run_pure]
theorem run_conv {T T' : TypeId} {x : Operand} {u r : Value} {w' : World} (ho : o.op = .convert T T' x) (hx : a.eval x = u) (hq : (convert T T' u).run P w = .ok r w') : (execOp a.eval o).run P w = .ok (.value r) w' := by
  unfold execOp
  simp only [ho, hx, Sem.run_bind, hq, Result.andThen_ok, Sem.run_pure]
theorem run_extract {i : Nat} {x : Operand} {u r : Value} (ho : o.op = .extract x i) (hx : a.eval x = u) (hq : (Instr.extract u i).run P w = .ok r w) : (execOp a.eval o).run P w = .ok (.value r) w := by
  unfold execOp
  simp only [ho, hx, Sem.run_bind, hq, Result.andThen_ok, Sem.run_pure]
theorem run_call {f : FuncId} {xs : Array Operand} {ats : Array TypeId} {vs : Array Value} (ho : o.op = .call { callee := .value (.func f), args := xs, argTypes := ats }) (hx : xs.map a.eval = vs)
    (hen : ∀ (args : Array Value) (w : World), (callFunc f args).run P w = .ok (.enter f args) w) : (execOp a.eval o).run P w = .ok (.enter f vs) w := by
  have : execOp a.eval o = callFunc f (xs.map a.eval) := by
    obtain ⟨dst, op, ty, pos, after, guard⟩ := o
    have ho' : op = .call { callee := .value (.func f), args := xs, argTypes := ats } := ho
    subst ho'
    rw [execOp_call_go]
    simp
  rw [this, hen, hx]
/-- a literal slice of bytes: a block of its own. -/
theorem run_bytes {T n : Nat} {parts : Array (Nat × Operand)} {vs : List Value} (ho : o.op = .buildSlice T n parts) (e : TypeId) (_he : P.underlying T = some (.slice e)) (hrun : (Instr.buildSlice T n (parts.map fun (i, x) => (i, a.eval x))).run P w = .ok (.slice (some ⟨w.heap.size, 0, none⟩) n n) (w.alloc (.cells vs.toArray e))) :
    (execOp a.eval o).run P w = .ok (.value (.slice (some ⟨w.heap.size, 0, none⟩) n n)) (w.alloc (.cells vs.toArray e)) := by
  unfold execOp
  simp only [ho, Sem.run_bind, hrun, Result.andThen_ok, Sem.run_pure]
end

/-- a row of bytes of one's own, from block b on. -/
def RowIs (b : Nat) (xs : List UInt8) (v : Value) (w : World) : Prop := ∃ A c, v = .slice A xs.length c ∧ w.ownsRow b 5 1 v xs.length (xs.map bv)
/-- bytes that can be read. -/
def BytesAre (xs : List UInt8) (v : Value) (w : World) : Prop := ∃ A c, v = .slice A xs.length c ∧ RB w w.heap.size A xs
theorem RowIs.below {b : Nat} {xs : List UInt8} {v : Value} {w w' : World} (h : RowIs b xs v w) (hb : Below w.heap.size w w') : RowIs b xs v w' := by
  obtain ⟨A, c, rfl, ho⟩ := h
  exact ⟨A, c, rfl, own_below ho hb⟩
theorem BytesAre.below {xs : List UInt8} {v : Value} {w w' : World} (h : BytesAre xs v w) (hb : Below w.heap.size w w') : BytesAre xs v w' := by
  obtain ⟨A, c, rfl, ho⟩ := h
  exact ⟨A, c, rfl, ho.next hb⟩
theorem RowIs.base {b b' : Nat} {xs : List UInt8} {v : Value} {w : World} (h : RowIs b xs v w) (hb : b' ≤ b) : RowIs b' xs v w := by
  obtain ⟨A, c, rfl, ho⟩ := h
  exact ⟨A, c, rfl, own_base ho hb⟩
theorem RowIs.drew {b : Nat} {xs : List UInt8} {v : Value} {w : World} (h : RowIs b xs v w) : RowIs b xs v w.drew := h.below (Below.drew (Below.refl _ _))
theorem RowIs.nil (b : Nat) (w : World) : RowIs b [] (.slice none 0 0) w := ⟨none, 0, rfl, World.ownsRow_nil _ _ _ _⟩
def StartEv (N : Nat) (a : Act) (w : World) : List Ent → Prop
  | [] => True
  | t :: es => (N ≤ t.op → t.p (a.eval (.tmp t.slot)) w) ∧ StartEv N a w es
theorem InvB.start {n N : Nat} {fixed : List (Nat × Value)} {es : List Ent} {Wp : World → Prop} {a : Act} {w : World} (hz : a.tmps.size = n) (hd : a.defers = []) (hf : AllEv a fixed) (hv : StartEv N a w es) (hw : Wp w) : InvB n fixed es Wp (Array.replicate N false) a w := by
  refine ⟨hz, hd, hf, ?_, hw⟩
  intro t ht hl _
  have hN : N ≤ t.op := by
    rcases hl with h | h
    · simpa using h
    · rw [none_ran] at h; cases h
  clear hl hf hz hd hw
  induction es with
  | nil => cases ht
  | cons u es ih =>
    rcases List.mem_cons.1 ht with rfl | ht
    · exact hv.1 hN
    · exact ih hv.2 ht
theorem run_any {P : Program} {o : Oper} {a : Act} {w w' : World} {n : Nat} {l : List (Nat × Value)} {x : Next} (H : Has a n l) (hs : ∀ cs b, o.op ≠ .select cs b) (hk : o.op.operands.all (fun x => (evL l x).isSome) = true)
    (hrun : (execOp (fun x => (evL l x).getD undef) o).run P w = .ok x w') : (execOp a.eval o).run P w = .ok x w' := by
  rw [← hrun]
  congr 1
  refine execOp_congr o hs (fun x hx => ?_)
  obtain ⟨u, hu⟩ := Option.isSome_iff_exists.1 (Array.all_eq_true'.1 hk x hx)
  rw [H.ev hu, hu]
  rfl
end Go.Proofs.YtkcdkjpmbjcmdaaDoor

/-
  What is laid is read back, by both readers (plain Lean).
-/
namespace Go.Proofs.YtkcdkjpmbjcmdaaDoor
open Go.RowKit

theorem may_kind {m : Mq} (h : okOf m = true) : 1 ≤ m.kind ∧ m.kind ≤ 14 := by
  unfold okOf at h
  split at h
  · omega
  · split at h
    · omega
    · split at h
      · omega
      · split at h
        · next hk =>
          simp only [idKind, Bool.or_eq_true, beq_iff_eq] at hk
          omega
        · split at h
          · omega
          · split at h
            · omega
            · split at h
              · omega
              · simp only [bareKind, Bool.or_eq_true, beq_iff_eq] at h
                omega

theorem emp_nos {s : ByteArray} (h : emp s = true) : s = nos := by
  have h0 : s.size = 0 := by simpa [emp] using h
  cases s with
  | mk d =>
    have : d = #[] := Array.eq_empty_of_size_eq_zero h0
    rw [this]

/-- the flags of a packet that wants to be connected, read back. -/
theorem flags_bits (a b c d e : Bool) (q : Nat) (hq : q ≤ 2) :
    let F := UInt8.ofNat (cb a 2 + cb b 4 + 8 * q + cb c 32 + cb d 64 + cb e 128)
    bitB F 2 = a ∧ bitB F 4 = b ∧ bitB F 32 = c ∧ bitB F 64 = d ∧ bitB F 128 = e ∧ (F >>> 3 &&& 3).toNat = q := by
  obtain ⟨q', rfl⟩ : ∃ q' : Fin 3, q = q'.val := ⟨⟨q, by omega⟩, rfl⟩
  revert a b c d e q'
  decide

theorem pub_bits (d r : Bool) (q : Nat) (hq : q ≤ 2) (x : Nat) (hx : x = 0 ∨ x = 48) :
    let F := UInt8.ofNat (x + (cb d 8 + 2 * q + cb r 1))
    bitB F 8 = d ∧ bitB F 1 = r ∧ (F >>> 1 &&& 3).toNat = q := by
  obtain ⟨q', rfl⟩ : ∃ q' : Fin 3, q = q'.val := ⟨⟨q, by omega⟩, rfl⟩
  rcases hx with rfl | rfl <;> revert d r q' <;> decide

/-- a reader that reads what is laid. -/
structure Good (one : Rd → UInt8 × Rd) (two : Rd → Nat × Rd) (text : Rd → ByteArray × Rd) : Prop where
  o : ∀ x b, one (x :: b, false) = (x, (b, false))
  t : ∀ n b, n < 65536 → two (big 2 n ++ b, false) = (n, (b, false))
  s : ∀ s b, s.size < 65536 → text (strB s ++ b, false) = (s, (b, false))
theorem goodP : Good oneP twoP textP := ⟨oneP_cons, fun n b h => twoP_big n h b, fun s b h => textP_str s h b⟩
theorem goodR : Good oneR numR textR := ⟨oneR_cons, fun n b h => numR_big n h b, fun s b h => textR_str s h b⟩

theorem big2_nat {n : Int} (h0 : 0 ≤ n) : ((n.toNat : Nat) : Int) = n := by omega

theorem connect_back {one : Rd → UInt8 × Rd} {two : Rd → Nat × Rd} {text : Rd → ByteArray × Rd} (G : Good one two text) (m : Mq) (hk : m.kind = 1) (h : connectOk m = true) (s : Rd)
    (hs : s = (UInt8.ofNat (flagsC m) :: (big 2 m.keep.toNat ++ (strB m.client ++ ((if m.won then strB m.wt ++ strB m.wp else []) ++ ((if m.hu then strB m.user else []) ++ (if m.hp then strB m.pass else []))))), false)) :
    (connOf one two text s).mq = onlyOf m ∧ (connOf one two text s).s = ([], false) := by
  subst hs
  simp only [connectOk, Bool.and_eq_true, decide_eq_true_eq] at h
  obtain ⟨hc, hkp, hw, hu, hps, h1, h2⟩ := h
  have hkp := inRB_iff.1 hkp
  have hc' := textOk_size hc
  have hu' := textOk_size hu
  have hwq : m.wq.toNat ≤ 2 ∧ m.wt.size < 65536 ∧ m.wp.size < 65536 ∧ 0 ≤ m.wq ∧ (m.won = false → m.wt = nos ∧ m.wp = nos ∧ m.wq = 0 ∧ m.wr = false) := by
    unfold willOk at hw
    cases hwon : m.won with
    | true =>
      rw [hwon, if_pos rfl] at hw
      simp only [Bool.and_eq_true, decide_eq_true_eq] at hw
      obtain ⟨a, b, c⟩ := hw
      have := inRB_iff.1 c
      have := textOk_size a
      exact ⟨by omega, by omega, by omega, by omega, fun h => by cases h⟩
    | false =>
      rw [hwon, if_neg (by simp)] at hw
      simp only [Bool.and_eq_true, beq_iff_eq, Bool.not_eq_true'] at hw
      obtain ⟨a, b, c, d⟩ := hw
      rw [emp_nos a, emp_nos b, c, d]
      exact ⟨by decide, by decide, by decide, by decide, fun _ => ⟨rfl, rfl, rfl, rfl⟩⟩
  obtain ⟨hq2, hwt, hwp, hq0, hno⟩ := hwq
  have hF := flags_bits m.clean m.won m.wr m.hp m.hu m.wq.toNat hq2
  have hFe : cb m.clean 2 + cb m.won 4 + 8 * m.wq.toNat + cb m.wr 32 + cb m.hp 64 + cb m.hu 128 = flagsC m := rfl
  rw [hFe] at hF
  generalize UInt8.ofNat (flagsC m) = F at hF
  obtain ⟨b2, b4, b32, b64, b128, bq⟩ := hF
  have hus : m.hu = false → m.user = nos ∧ m.hp = false := by
    intro h
    rw [h] at h1
    simp only [Bool.false_or, Bool.and_eq_true, Bool.not_eq_true'] at h1
    exact ⟨emp_nos h1.1, h1.2⟩
  have hpsz : m.hp = false → m.pass = nos := by
    intro h
    rw [h] at h2
    exact emp_nos (by simpa using h2)
  have hk' : onlyOf m = { mq0 1 with client := m.client, clean := m.clean, keep := m.keep, won := m.won, wt := m.wt, wp := m.wp, wq := m.wq, wr := m.wr, user := m.user, hu := m.hu, pass := m.pass, hp := m.hp } := by
    unfold onlyOf
    rw [if_pos hk, hk]
  rw [hk']
  unfold connOf
  simp only [Conn.mq, G.o, G.t _ _ (show m.keep.toNat < 65536 by omega), G.s _ _ (show m.client.size < 65536 by omega), b2, b4, b32, b64, b128, bq]
  cases hwon : m.won with
  | true =>
    simp only [if_true, List.append_assoc, G.s _ _ hwt, G.s _ _ hwp]
    cases hhu : m.hu with
    | true =>
      simp only [if_true, G.s _ _ (show m.user.size < 65536 by omega)]
      cases hhp : m.hp with
      | true =>
        have := G.s m.pass [] (by omega)
        rw [List.append_nil] at this
        simp only [if_true, this]
        exact ⟨by rw [big2_nat hkp.1, big2_nat hq0, Bool.true_and], by first | rfl | trivial⟩
      | false =>
        simp only [Bool.false_eq_true, if_false]
        rw [hpsz hhp]
        exact ⟨by rw [big2_nat hkp.1, big2_nat hq0, Bool.true_and], by first | rfl | trivial⟩
    | false =>
      obtain ⟨e1, e2⟩ := hus hhu
      simp only [Bool.false_eq_true, if_false, e2, e1, hpsz e2]
      exact ⟨by rw [big2_nat hkp.1, big2_nat hq0, Bool.true_and], by first | rfl | trivial⟩
  | false =>
    obtain ⟨w1, w2, w3, w4⟩ := hno hwon
    simp only [Bool.false_eq_true, if_false, List.nil_append, w1, w2, w3, w4]
    cases hhu : m.hu with
    | true =>
      simp only [if_true, G.s _ _ (show m.user.size < 65536 by omega)]
      cases hhp : m.hp with
      | true =>
        have := G.s m.pass [] (by omega)
        rw [List.append_nil] at this
        simp only [if_true, this]
        exact ⟨by rw [big2_nat hkp.1, Bool.false_and], by first | rfl | trivial⟩
      | false =>
        simp only [Bool.false_eq_true, if_false]
        rw [hpsz hhp]
        exact ⟨by rw [big2_nat hkp.1, Bool.false_and], by first | rfl | trivial⟩
    | false =>
      obtain ⟨e1, e2⟩ := hus hhu
      simp only [Bool.false_eq_true, if_false, e2, e1, hpsz e2]
      exact ⟨by rw [big2_nat hkp.1, Bool.false_and], by first | rfl | trivial⟩

theorem seven (F : UInt8) (r : List UInt8) : big 2 4 ++ [77, 81, 84, 84] ++ [4, F] ++ r = [0, 4, 77, 81, 84, 84, 4] ++ (F :: r) := rfl
theorem connectP (m : Mq) (hk : m.kind = 1) (h : connectOk m = true) : (connP (connectBy m, false)).mq = onlyOf m ∧ (connP (connectBy m, false)).s = ([], false) := by
  unfold connP connectBy
  simp only [List.append_assoc]
  rw [show big 2 4 ++ ([77, 81, 84, 84] ++ ([4, UInt8.ofNat (flagsC m)] ++ (big 2 m.keep.toNat ++ (strB m.client ++ ((if m.won = true then strB m.wt ++ strB m.wp else []) ++ ((if m.hu = true then strB m.user else []) ++ (if m.hp = true then strB m.pass else []))))))) =
    [0, 4, 77, 81, 84, 84, 4] ++ (UInt8.ofNat (flagsC m) :: (big 2 m.keep.toNat ++ (strB m.client ++ ((if m.won = true then strB m.wt ++ strB m.wp else []) ++ ((if m.hu = true then strB m.user else []) ++ (if m.hp = true then strB m.pass else [])))))) from rfl]
  rw [takeP_app _ _ 7 rfl]
  exact connect_back goodP m hk h _ rfl
theorem connectR (m : Mq) (hk : m.kind = 1) (h : connectOk m = true) : (connR (connectBy m, false)).mq = onlyOf m ∧ (connR (connectBy m, false)).s = ([], false) := by
  unfold connR connectBy
  simp only [List.append_assoc]
  rw [show big 2 4 ++ ([77, 81, 84, 84] ++ ([4, UInt8.ofNat (flagsC m)] ++ (big 2 m.keep.toNat ++ (strB m.client ++ ((if m.won = true then strB m.wt ++ strB m.wp else []) ++ ((if m.hu = true then strB m.user else []) ++ (if m.hp = true then strB m.pass else []))))))) =
    [0, 4, 77, 81, 84, 84, 4] ++ (UInt8.ofNat (flagsC m) :: (big 2 m.keep.toNat ++ (strB m.client ++ ((if m.won = true then strB m.wt ++ strB m.wp else []) ++ ((if m.hu = true then strB m.user else []) ++ (if m.hp = true then strB m.pass else [])))))) from rfl]
  rw [takeR_app _ _ 7 rfl]
  exact connect_back goodR m hk h _ rfl

theorem ne_zero_q (F : UInt8) (q : Nat) (h : (F >>> 1 &&& 3).toNat = q) : (F >>> 1 &&& 3 != 0) = decide (0 < q) := by
  subst h
  rw [Bool.eq_iff_iff, bne_iff_ne, decide_eq_true_eq]
  constructor
  · intro h
    rcases Nat.eq_zero_or_pos (F >>> 1 &&& 3).toNat with h0 | h0
    · exact absurd (UInt8.toNat_inj.1 (by rw [h0]; rfl)) h
    · exact h0
  · intro h e
    rw [e] at h
    exact absurd h (by decide)

theorem publish_facts {m : Mq} (h : publishOk m = true) : m.topic.size ≤ 64 ∧ 0 ≤ m.qos ∧ m.qos ≤ 2 ∧ (0 < m.qos → 1 ≤ m.id ∧ m.id ≤ 65535) ∧ (m.qos = 0 → m.id = 0) ∧ m.payload.size ≤ 128 := by
  simp only [publishOk, topicOk, Bool.and_eq_true, decide_eq_true_eq, Bool.or_eq_true, beq_iff_eq] at h
  obtain ⟨⟨ht, _⟩, hq, hi, hp⟩ := h
  have ht := textOk_size ht
  have hq := inRB_iff.1 hq
  refine ⟨by omega, hq.1, hq.2, fun h => ?_, fun h => ?_, by omega⟩
  · rcases hi with ⟨_, hi⟩ | ⟨hi, _⟩
    · have := inRB_iff.1 hi
      omega
    · omega
  · rcases hi with ⟨hi, _⟩ | ⟨_, hi, _⟩
    · omega
    · exact hi

theorem publish_backP (m : Mq) (hk : m.kind = 3) (h : publishOk m = true) (F : UInt8) (b8 : bitB F 8 = m.dup) (b1 : bitB F 1 = m.retain) (bq : (F >>> 1 &&& 3).toNat = m.qos.toNat) : pubP F (publishBy m, false) = (onlyOf m, ([], false)) := by
  obtain ⟨ht, hq0, hq2, hi, hz, hp⟩ := publish_facts h
  have hk' : onlyOf m = { mq0 3 with topic := m.topic, qos := m.qos, dup := m.dup, retain := m.retain, id := m.id, payload := m.payload } := by
    unfold onlyOf
    rw [if_neg (by omega), if_neg (by omega), if_pos hk, hk]
  rw [hk']
  unfold pubP publishBy
  simp only [List.append_assoc, textP_str _ (show m.topic.size < 65536 by omega), ne_zero_q F _ bq, pubMq, b8, b1, bq]
  by_cases hq : 0 < m.qos
  · obtain ⟨i1, i2⟩ := hi hq
    have hd : decide (0 < m.qos.toNat) = true := by simp; omega
    simp only [hd, if_pos hq, if_true, twoP_big _ (show m.id.toNat < 65536 by omega)]
    have hta := takeP_app (sb m.payload) [] _ rfl
    rw [List.append_nil] at hta
    simp only [hta, mkS_sb]
    rw [big2_nat hq0, big2_nat (show 0 ≤ m.id by omega)]
  · have hq' : m.qos = 0 := by omega
    have hd : decide (0 < m.qos.toNat) = false := by simp; omega
    simp only [hd, if_neg (show ¬ 0 < m.qos by omega), Bool.false_eq_true, if_false, List.nil_append]
    have hta := takeP_app (sb m.payload) [] _ rfl
    rw [List.append_nil] at hta
    simp only [hta, mkS_sb]
    rw [big2_nat hq0, hz hq']
theorem publish_backR (m : Mq) (hk : m.kind = 3) (h : publishOk m = true) (F : UInt8) (b8 : bitB F 8 = m.dup) (b1 : bitB F 1 = m.retain) (bq : (F >>> 1 &&& 3).toNat = m.qos.toNat) : ∃ s, pubR F (publishBy m, false) = (onlyOf m, (s, false)) := by
  obtain ⟨ht, hq0, hq2, hi, hz, hp⟩ := publish_facts h
  have hk' : onlyOf m = { mq0 3 with topic := m.topic, qos := m.qos, dup := m.dup, retain := m.retain, id := m.id, payload := m.payload } := by
    unfold onlyOf
    rw [if_neg (by omega), if_neg (by omega), if_pos hk, hk]
  rw [hk']
  unfold pubR publishBy
  simp only [List.append_assoc, textR_str _ (show m.topic.size < 65536 by omega), ne_zero_q F _ bq, pubMq, b8, b1, bq]
  by_cases hq : 0 < m.qos
  · obtain ⟨i1, i2⟩ := hi hq
    have hd : decide (0 < m.qos.toNat) = true := by simp; omega
    simp only [hd, if_pos hq, if_true, numR_big _ (show m.id.toNat < 65536 by omega), mkS_sb]
    rw [big2_nat hq0, big2_nat (show 0 ≤ m.id by omega)]
    exact ⟨_, rfl⟩
  · have hq' : m.qos = 0 := by omega
    have hd : decide (0 < m.qos.toNat) = false := by simp; omega
    simp only [hd, if_neg (show ¬ 0 < m.qos by omega), Bool.false_eq_true, if_false, List.nil_append, mkS_sb]
    rw [big2_nat hq0, hz hq']
    exact ⟨_, rfl⟩

theorem wishesAll_mem {l : List (ByteArray × Int)} {x : ByteArray × Int} {xs : List (ByteArray × Int)} (e : l = x :: xs) (h : wishesAll l = true) : x.1.size ≤ 64 ∧ 0 ≤ x.2 ∧ x.2 ≤ 2 ∧ wishesAll xs = true := by
  subst e
  simp only [wishesAll, Bool.and_eq_true] at h
  obtain ⟨⟨a, b⟩, c⟩ := h
  have := textOk_size a
  have := inRB_iff.1 b
  exact ⟨by omega, by omega, by omega, c⟩
theorem filtersAll_mem {l : List ByteArray} {x : ByteArray} {xs : List ByteArray} (e : l = x :: xs) (h : filtersAll l = true) : x.size ≤ 64 ∧ filtersAll xs = true := by
  subst e
  simp only [filtersAll, Bool.and_eq_true] at h
  have := textOk_size h.1
  exact ⟨by omega, h.2⟩
theorem codesAll_mem {l : List Int} {x : Int} {xs : List Int} (e : l = x :: xs) (h : codesAll l = true) : 0 ≤ x ∧ x ≤ 128 ∧ codesAll xs = true := by
  subst e
  simp only [codesAll, Bool.and_eq_true, Bool.or_eq_true, beq_iff_eq] at h
  obtain ⟨a, b⟩ := h
  rcases a with a | a
  · have := inRB_iff.1 a
    exact ⟨by omega, by omega, b⟩
  · exact ⟨by omega, by omega, b⟩
theorem byte_back {x : Int} (h0 : 0 ≤ x) (h1 : x ≤ 255) : ((UInt8.ofNat x.toNat).toNat : Int) = x := by
  rw [UInt8.toNat_ofNat']
  omega

theorem loopP8 (l : List (ByteArray × Int)) (h : wishesAll l = true) : ∀ (f : Nat) (m : Mq), l.length < f → loopP 8 f m (wishesBy l, false) = ({ m with wishes := m.wishes ++ l }, ([], false)) := by
  induction l with
  | nil =>
    intro f m hf
    cases f with
    | zero => omega
    | succ f => simp [loopP, wishesBy]
  | cons x xs ih =>
    intro f m hf
    obtain ⟨a, b, c, d⟩ := wishesAll_mem rfl h
    cases f with
    | zero => omega
    | succ f =>
      have hb : wishesBy (x :: xs) = strB x.1 ++ (UInt8.ofNat x.2.toNat :: wishesBy xs) := by simp [wishesBy]
      have hl : 0 < (strB x.1 ++ (UInt8.ofNat x.2.toNat :: wishesBy xs)).length := by simp; omega
      rw [hb, loopP]
      simp only [hl, and_self, if_true, textP_str _ (show x.1.size < 65536 by omega), oneP_cons, byte_back b (by omega)]
      rw [ih d f _ (by simp at hf; omega)]
      simp
theorem loopR8 (l : List (ByteArray × Int)) (h : wishesAll l = true) : ∀ (f : Nat) (m : Mq), l.length ≤ f → loopR 8 f m (wishesBy l, false) = ({ m with wishes := m.wishes ++ l }, ([], false)) := by
  induction l with
  | nil =>
    intro f m hf
    cases f with
    | zero => simp [loopR, wishesBy]
    | succ f => simp [loopR, wishesBy]
  | cons x xs ih =>
    intro f m hf
    obtain ⟨a, b, c, d⟩ := wishesAll_mem rfl h
    cases f with
    | zero => simp at hf
    | succ f =>
      have hb : wishesBy (x :: xs) = strB x.1 ++ (UInt8.ofNat x.2.toNat :: wishesBy xs) := by simp [wishesBy]
      have hl : 0 < (strB x.1 ++ (UInt8.ofNat x.2.toNat :: wishesBy xs)).length := by simp; omega
      rw [hb, loopR]
      simp only [hl, if_true, textR_str _ (show x.1.size < 65536 by omega), oneR_cons, byte_back b (by omega)]
      rw [ih d f _ (by simp at hf; omega)]
      simp
theorem loopP9 (l : List Int) (h : codesAll l = true) : ∀ (f : Nat) (m : Mq), l.length < f → loopP 9 f m (codesBy l, false) = ({ m with codes := m.codes ++ l }, ([], false)) := by
  induction l with
  | nil =>
    intro f m hf
    cases f with
    | zero => omega
    | succ f => simp [loopP, codesBy]
  | cons x xs ih =>
    intro f m hf
    obtain ⟨a, b, d⟩ := codesAll_mem rfl h
    cases f with
    | zero => omega
    | succ f =>
      rw [show codesBy (x :: xs) = UInt8.ofNat x.toNat :: codesBy xs from rfl, loopP]
      simp only [List.length_cons, Nat.zero_lt_succ, and_self, if_true, show ¬ ((9 : Int) = 8) by decide, if_false, oneP_cons, byte_back a (by omega)]
      rw [ih d f _ (by simp at hf; omega)]
      simp
theorem loopR9 (l : List Int) (h : codesAll l = true) : ∀ (f : Nat) (m : Mq), l.length ≤ f → loopR 9 f m (codesBy l, false) = ({ m with codes := m.codes ++ l }, ([], false)) := by
  induction l with
  | nil =>
    intro f m hf
    cases f with
    | zero => simp [loopR, codesBy]
    | succ f => simp [loopR, codesBy]
  | cons x xs ih =>
    intro f m hf
    obtain ⟨a, b, d⟩ := codesAll_mem rfl h
    cases f with
    | zero => simp at hf
    | succ f =>
      rw [show codesBy (x :: xs) = UInt8.ofNat x.toNat :: codesBy xs from rfl, loopR]
      simp only [List.length_cons, Nat.zero_lt_succ, if_true, show ¬ ((9 : Int) = 8) by decide, if_false, oneR_cons, byte_back a (by omega)]
      rw [ih d f _ (by simp at hf; omega)]
      simp
theorem loopP10 (l : List ByteArray) (h : filtersAll l = true) : ∀ (f : Nat) (m : Mq), l.length < f → loopP 10 f m (filtersBy l, false) = ({ m with filters := m.filters ++ l }, ([], false)) := by
  induction l with
  | nil =>
    intro f m hf
    cases f with
    | zero => omega
    | succ f => simp [loopP, filtersBy]
  | cons x xs ih =>
    intro f m hf
    obtain ⟨a, d⟩ := filtersAll_mem rfl h
    cases f with
    | zero => omega
    | succ f =>
      have hl : 0 < (strB x ++ filtersBy xs).length := by simp [strB, big_length]; omega
      rw [show filtersBy (x :: xs) = strB x ++ filtersBy xs from rfl, loopP]
      simp only [hl, and_self, if_true, show ¬ ((10 : Int) = 8) by decide, show ¬ ((10 : Int) = 9) by decide, if_false, textP_str _ (show x.size < 65536 by omega)]
      rw [ih d f _ (by simp at hf; omega)]
      simp
theorem loopR10 (l : List ByteArray) (h : filtersAll l = true) : ∀ (f : Nat) (m : Mq), l.length ≤ f → loopR 10 f m (filtersBy l, false) = ({ m with filters := m.filters ++ l }, ([], false)) := by
  induction l with
  | nil =>
    intro f m hf
    cases f with
    | zero => simp [loopR, filtersBy]
    | succ f => simp [loopR, filtersBy]
  | cons x xs ih =>
    intro f m hf
    obtain ⟨a, d⟩ := filtersAll_mem rfl h
    cases f with
    | zero => simp at hf
    | succ f =>
      have hl : 0 < (strB x ++ filtersBy xs).length := by simp [strB, big_length]; omega
      rw [show filtersBy (x :: xs) = strB x ++ filtersBy xs from rfl, loopR]
      simp only [hl, if_true, show ¬ ((10 : Int) = 8) by decide, show ¬ ((10 : Int) = 9) by decide, if_false, textR_str _ (show x.size < 65536 by omega)]
      rw [ih d f _ (by simp at hf; omega)]
      simp
end Go.Proofs.YtkcdkjpmbjcmdaaDoor

/-
  A packet's length at its head, and what a parser answers at any bytes (plain Lean).
-/
namespace Go.Proofs.YtkcdkjpmbjcmdaaDoor
open Go.RowKit

def loB (x : UInt8) : UInt8 := x &&& 15
theorem first_parts (k f : Nat) (hk : k ≤ 14) (hf : f ≤ 15) : (UInt8.ofNat (16 * k + f)).toNat / 16 = k ∧ loB (UInt8.ofNat (16 * k + f)) = UInt8.ofNat f := by
  obtain ⟨k', rfl⟩ : ∃ k' : Fin 15, k = k'.val := ⟨⟨k, by omega⟩, rfl⟩
  obtain ⟨f', rfl⟩ : ∃ f' : Fin 16, f = f'.val := ⟨⟨f, by omega⟩, rfl⟩
  revert k' f'
  decide

theorem flagsBy_le {m : Mq} (h : okOf m = true) : flagsBy m ≤ 15 := by
  unfold flagsBy
  split
  · next hk =>
    have h' : publishOk m = true := by
      unfold okOf at h
      rw [if_neg (by omega), if_neg (by omega), if_pos hk] at h
      exact h
    obtain ⟨_, h0, h2, _⟩ := publish_facts h'
    have : cb m.dup 8 ≤ 8 := by unfold cb; split <;> omega
    have : cb m.retain 1 ≤ 1 := by unfold cb; split <;> omega
    omega
  · split
    · omega
    · split
      · omega
      · split <;> omega

/-- what is known of a packet that may be, by its kind. -/
theorem readP_back {m : Mq} (h : mayB m) : readP m.kind (UInt8.ofNat (flagsBy m)) (bodyBy m, false) = (m, ([], false)) := by
  obtain ⟨h, ho⟩ := h
  have hkk := may_kind h
  have ids : ∀ {n : Int}, inRB n 1 65535 = true → 0 ≤ n ∧ n.toNat < 65536 := fun h => by have := inRB_iff.1 h; omega
  unfold readP
  by_cases k1 : m.kind = 1
  · have hc : connectOk m = true := by unfold okOf at h; rw [if_pos k1] at h; exact h
    obtain ⟨a, b⟩ := connectP m k1 hc
    rw [if_pos k1, show bodyBy m = connectBy m by unfold bodyBy; rw [if_pos k1], a, b, ← ho]
  rw [if_neg k1]
  by_cases k2 : m.kind = 2
  · have hc : (inRB m.code 0 5 && (!m.present || m.code == 0)) = true := by unfold okOf at h; rw [if_neg k1, if_pos k2] at h; exact h
    simp only [Bool.and_eq_true] at hc
    have hc := inRB_iff.1 hc.1
    rw [if_pos k2, show bodyBy m = [UInt8.ofNat (cb m.present 1), UInt8.ofNat m.code.toNat] by unfold bodyBy; rw [if_neg k1, if_pos k2]]
    simp only [oneP_cons, byte_back hc.1 (by omega)]
    have hp : (UInt8.ofNat (cb m.present 1) == 1) = m.present := by cases m.present <;> rfl
    rw [hp]
    have e : onlyOf m = { mq0 m.kind with present := m.present, code := m.code } := by unfold onlyOf; rw [if_neg k1, if_pos k2]
    rw [← e, ← ho]
  rw [if_neg k2]
  by_cases k3 : m.kind = 3
  · have hc : publishOk m = true := by unfold okOf at h; rw [if_neg k1, if_neg k2, if_pos k3] at h; exact h
    obtain ⟨_, h0, hq2, _⟩ := publish_facts hc
    have hb := pub_bits m.dup m.retain m.qos.toNat (by omega) 0 (.inl rfl)
    rw [Nat.zero_add, show cb m.dup 8 + 2 * m.qos.toNat + cb m.retain 1 = flagsBy m by unfold flagsBy; rw [if_pos k3]] at hb
    rw [if_pos k3, show bodyBy m = publishBy m by unfold bodyBy; rw [if_neg k1, if_neg k2, if_pos k3], publish_backP m k3 hc _ hb.1 hb.2.1 hb.2.2, ← ho]
  rw [if_neg k3]
  by_cases k8 : m.kind = 8
  · have hc : (inRB m.id 1 65535 && wishesOk m.wishes) = true := by
      unfold okOf at h; rw [if_neg k1, if_neg k2, if_neg k3, if_neg (by simp [idKind, k8]), if_pos k8] at h; exact h
    simp only [Bool.and_eq_true, wishesOk] at hc
    obtain ⟨i0, i1⟩ := ids hc.1
    rw [if_pos (by simp [listKind, k8]), show bodyBy m = big 2 m.id.toNat ++ wishesBy m.wishes by unfold bodyBy; rw [if_neg k1, if_neg k2, if_neg k3, if_pos k8]]
    simp only [twoP_big _ i1, big2_nat i0, k8]
    have hl : ∀ l : List (ByteArray × Int), l.length ≤ (wishesBy l).length := by
      intro l
      induction l with
      | nil => simp [wishesBy]
      | cons x xs ih => simp [wishesBy]; omega
    rw [loopP8 _ hc.2.1 _ _ (by have := hl m.wishes; omega)]
    have e : onlyOf m = { mq0 m.kind with id := m.id, wishes := m.wishes } := by
      unfold onlyOf; rw [if_neg k1, if_neg k2, if_neg k3, if_neg (by simp [idKind, k8]), if_pos k8]
    rw [k8] at e
    rw [ho, e]
    rfl
  by_cases k9 : m.kind = 9
  · have hc : (inRB m.id 1 65535 && codesOk m.codes) = true := by
      unfold okOf at h; rw [if_neg k1, if_neg k2, if_neg k3, if_neg (by simp [idKind, k9]), if_neg k8, if_pos k9] at h; exact h
    simp only [Bool.and_eq_true, codesOk] at hc
    obtain ⟨i0, i1⟩ := ids hc.1
    rw [if_pos (by simp [listKind, k9]), show bodyBy m = big 2 m.id.toNat ++ codesBy m.codes by unfold bodyBy; rw [if_neg k1, if_neg k2, if_neg k3, if_neg k8, if_pos k9]]
    simp only [twoP_big _ i1, big2_nat i0, k9]
    have hl : ∀ l : List Int, l.length ≤ (codesBy l).length := by
      intro l
      induction l with
      | nil => simp [codesBy]
      | cons x xs ih => simp [codesBy]; omega
    rw [loopP9 _ hc.2.1 _ _ (by have := hl m.codes; omega)]
    have e : onlyOf m = { mq0 m.kind with id := m.id, codes := m.codes } := by
      unfold onlyOf; rw [if_neg k1, if_neg k2, if_neg k3, if_neg (by simp [idKind, k9]), if_neg k8, if_pos k9]
    rw [k9] at e
    rw [ho, e]
    rfl
  by_cases k10 : m.kind = 10
  · have hc : (inRB m.id 1 65535 && filtersOk m.filters) = true := by
      unfold okOf at h; rw [if_neg k1, if_neg k2, if_neg k3, if_neg (by simp [idKind, k10]), if_neg k8, if_neg k9, if_pos k10] at h; exact h
    simp only [Bool.and_eq_true, filtersOk] at hc
    obtain ⟨i0, i1⟩ := ids hc.1
    rw [if_pos (by simp [listKind, k10]), show bodyBy m = big 2 m.id.toNat ++ filtersBy m.filters by unfold bodyBy; rw [if_neg k1, if_neg k2, if_neg k3, if_neg k8, if_neg k9, if_pos k10]]
    simp only [twoP_big _ i1, big2_nat i0, k10]
    have hl : ∀ l : List ByteArray, l.length ≤ (filtersBy l).length := by
      intro l
      induction l with
      | nil => simp [filtersBy]
      | cons x xs ih => simp [filtersBy, strB, big_length]; omega
    rw [loopP10 _ hc.2.1 _ _ (by have := hl m.filters; omega)]
    have e : onlyOf m = { mq0 m.kind with id := m.id, filters := m.filters } := by
      unfold onlyOf; rw [if_neg k1, if_neg k2, if_neg k3, if_neg (by simp [idKind, k10]), if_neg k8, if_neg k9, if_pos k10]
    rw [k10] at e
    rw [ho, e]
    rfl
  rw [if_neg (by simp [listKind, k8, k9, k10])]
  by_cases ki : idKind m.kind = true
  · have hc : inRB m.id 1 65535 = true := by
      unfold okOf at h; rw [if_neg k1, if_neg k2, if_neg k3, if_pos ki] at h; exact h
    obtain ⟨i0, i1⟩ := ids hc
    have kb : ¬ bareKind m.kind = true := by
      simp only [idKind, Bool.or_eq_true, beq_iff_eq] at ki
      simp only [bareKind, Bool.or_eq_true, beq_iff_eq]
      omega
    rw [if_pos ki, show bodyBy m = big 2 m.id.toNat by unfold bodyBy; rw [if_neg k1, if_neg k2, if_neg k3, if_neg k8, if_neg k9, if_neg k10, if_neg kb]]
    have := twoP_big _ i1 []
    rw [List.append_nil] at this
    simp only [this, big2_nat i0]
    have e : onlyOf m = { mq0 m.kind with id := m.id } := by unfold onlyOf; rw [if_neg k1, if_neg k2, if_neg k3, if_pos ki]
    rw [← e, ← ho]
  rw [if_neg ki]
  have kb : bareKind m.kind = true := by
    unfold okOf at h; rw [if_neg k1, if_neg k2, if_neg k3, if_neg ki, if_neg k8, if_neg k9, if_neg k10] at h; exact h
  rw [show bodyBy m = [] by unfold bodyBy; rw [if_neg k1, if_neg k2, if_neg k3, if_neg k8, if_neg k9, if_neg k10, if_pos kb]]
  have e : onlyOf m = mq0 m.kind := by unfold onlyOf; rw [if_neg k1, if_neg k2, if_neg k3, if_neg ki, if_neg k8, if_neg k9, if_neg k10]
  rw [← e, ← ho]

theorem loopR_skip (k : Int) (h8 : k ≠ 8) (h9 : k ≠ 9) (h10 : k ≠ 10) : ∀ (f : Nat) (m : Mq) (s : Rd), loopR k f m s = (m, s) := by
  intro f
  induction f with
  | zero => intro m s; rfl
  | succ f ih =>
    intro m s
    rw [loopR]
    split
    · exact ih m s
    · rfl

theorem readR_back {m : Mq} (h : mayB m) : ∃ s, readR m.kind (UInt8.ofNat (16 * m.kind.toNat + flagsBy m)) (bodyBy m, false) = (m, (s, false)) := by
  obtain ⟨h, ho⟩ := h
  have hkk := may_kind h
  have ids : ∀ {n : Int}, inRB n 1 65535 = true → 0 ≤ n ∧ n.toNat < 65536 := fun h => by have := inRB_iff.1 h; omega
  unfold readR
  by_cases k1 : m.kind = 1
  · have hc : connectOk m = true := by unfold okOf at h; rw [if_pos k1] at h; exact h
    obtain ⟨a, b⟩ := connectR m k1 hc
    rw [if_pos k1, show bodyBy m = connectBy m by unfold bodyBy; rw [if_pos k1], a, b, ← ho]
    exact ⟨_, rfl⟩
  rw [if_neg k1]
  by_cases k2 : m.kind = 2
  · have hc : (inRB m.code 0 5 && (!m.present || m.code == 0)) = true := by unfold okOf at h; rw [if_neg k1, if_pos k2] at h; exact h
    simp only [Bool.and_eq_true] at hc
    have hc := inRB_iff.1 hc.1
    rw [if_pos k2, show bodyBy m = [UInt8.ofNat (cb m.present 1), UInt8.ofNat m.code.toNat] by unfold bodyBy; rw [if_neg k1, if_pos k2]]
    have ht := takeR_app [UInt8.ofNat (cb m.present 1), UInt8.ofNat m.code.toNat] [] 2 rfl
    rw [List.append_nil] at ht
    simp only [ht, List.getD_cons_zero, List.getD_cons_succ, byte_back hc.1 (by omega)]
    have hp : (UInt8.ofNat (cb m.present 1) == 1) = m.present := by cases m.present <;> rfl
    rw [hp]
    have e : onlyOf m = { mq0 m.kind with present := m.present, code := m.code } := by unfold onlyOf; rw [if_neg k1, if_pos k2]
    rw [← e, ← ho]
    exact ⟨_, rfl⟩
  rw [if_neg k2]
  by_cases k3 : m.kind = 3
  · have hc : publishOk m = true := by unfold okOf at h; rw [if_neg k1, if_neg k2, if_pos k3] at h; exact h
    obtain ⟨_, h0, hq2, _⟩ := publish_facts hc
    have hb := pub_bits m.dup m.retain m.qos.toNat (by omega) 48 (.inr rfl)
    rw [show cb m.dup 8 + 2 * m.qos.toNat + cb m.retain 1 = flagsBy m by unfold flagsBy; rw [if_pos k3], show 48 = 16 * m.kind.toNat by rw [k3]; rfl] at hb
    obtain ⟨s, hs⟩ := publish_backR m k3 hc _ hb.1 hb.2.1 hb.2.2
    rw [if_pos k3, show bodyBy m = publishBy m by unfold bodyBy; rw [if_neg k1, if_neg k2, if_pos k3], hs, ← ho]
    exact ⟨_, rfl⟩
  rw [if_neg k3]
  by_cases kb : bareKind m.kind = true
  · have kb' := kb
    simp only [bareKind, Bool.or_eq_true, beq_iff_eq] at kb'
    have ki : ¬ idKind m.kind = true := by
      simp only [idKind, Bool.or_eq_true, beq_iff_eq]
      omega
    rw [if_pos kb, show bodyBy m = [] by unfold bodyBy; rw [if_neg k1, if_neg k2, if_neg k3, if_neg (by omega), if_neg (by omega), if_neg (by omega), if_pos kb]]
    have e : onlyOf m = mq0 m.kind := by unfold onlyOf; rw [if_neg k1, if_neg k2, if_neg k3, if_neg ki, if_neg (by omega), if_neg (by omega), if_neg (by omega)]
    rw [← e, ← ho]
    exact ⟨_, rfl⟩
  rw [if_neg kb]
  by_cases k8 : m.kind = 8
  · have hc : (inRB m.id 1 65535 && wishesOk m.wishes) = true := by
      unfold okOf at h; rw [if_neg k1, if_neg k2, if_neg k3, if_neg (by simp [idKind, k8]), if_pos k8] at h; exact h
    simp only [Bool.and_eq_true, wishesOk] at hc
    obtain ⟨i0, i1⟩ := ids hc.1
    have hl := inRB_iff.1 hc.2.2
    rw [show bodyBy m = big 2 m.id.toNat ++ wishesBy m.wishes by unfold bodyBy; rw [if_neg k1, if_neg k2, if_neg k3, if_pos k8]]
    simp only [numR_big _ i1, big2_nat i0, k8]
    rw [loopR8 _ hc.2.1 _ _ (by omega)]
    have e : onlyOf m = { mq0 m.kind with id := m.id, wishes := m.wishes } := by
      unfold onlyOf; rw [if_neg k1, if_neg k2, if_neg k3, if_neg (by simp [idKind, k8]), if_pos k8]
    rw [k8] at e
    refine ⟨[], ?_⟩
    rw [ho, e]
    rfl
  by_cases k9 : m.kind = 9
  · have hc : (inRB m.id 1 65535 && codesOk m.codes) = true := by
      unfold okOf at h; rw [if_neg k1, if_neg k2, if_neg k3, if_neg (by simp [idKind, k9]), if_neg k8, if_pos k9] at h; exact h
    simp only [Bool.and_eq_true, codesOk] at hc
    obtain ⟨i0, i1⟩ := ids hc.1
    have hl := inRB_iff.1 hc.2.2
    rw [show bodyBy m = big 2 m.id.toNat ++ codesBy m.codes by unfold bodyBy; rw [if_neg k1, if_neg k2, if_neg k3, if_neg k8, if_pos k9]]
    simp only [numR_big _ i1, big2_nat i0, k9]
    rw [loopR9 _ hc.2.1 _ _ (by omega)]
    have e : onlyOf m = { mq0 m.kind with id := m.id, codes := m.codes } := by
      unfold onlyOf; rw [if_neg k1, if_neg k2, if_neg k3, if_neg (by simp [idKind, k9]), if_neg k8, if_pos k9]
    rw [k9] at e
    refine ⟨[], ?_⟩
    rw [ho, e]
    rfl
  by_cases k10 : m.kind = 10
  · have hc : (inRB m.id 1 65535 && filtersOk m.filters) = true := by
      unfold okOf at h; rw [if_neg k1, if_neg k2, if_neg k3, if_neg (by simp [idKind, k10]), if_neg k8, if_neg k9, if_pos k10] at h; exact h
    simp only [Bool.and_eq_true, filtersOk] at hc
    obtain ⟨i0, i1⟩ := ids hc.1
    have hl := inRB_iff.1 hc.2.2
    rw [show bodyBy m = big 2 m.id.toNat ++ filtersBy m.filters by unfold bodyBy; rw [if_neg k1, if_neg k2, if_neg k3, if_neg k8, if_neg k9, if_pos k10]]
    simp only [numR_big _ i1, big2_nat i0, k10]
    rw [loopR10 _ hc.2.1 _ _ (by omega)]
    have e : onlyOf m = { mq0 m.kind with id := m.id, filters := m.filters } := by
      unfold onlyOf; rw [if_neg k1, if_neg k2, if_neg k3, if_neg (by simp [idKind, k10]), if_neg k8, if_neg k9, if_pos k10]
    rw [k10] at e
    refine ⟨[], ?_⟩
    rw [ho, e]
    rfl
  have ki : idKind m.kind = true := by
    simp only [bareKind, Bool.or_eq_true, beq_iff_eq] at kb
    simp only [idKind, Bool.or_eq_true, beq_iff_eq]
    omega
  have hc : inRB m.id 1 65535 = true := by
    unfold okOf at h; rw [if_neg k1, if_neg k2, if_neg k3, if_pos ki] at h; exact h
  obtain ⟨i0, i1⟩ := ids hc
  rw [show bodyBy m = big 2 m.id.toNat by unfold bodyBy; rw [if_neg k1, if_neg k2, if_neg k3, if_neg k8, if_neg k9, if_neg k10, if_neg kb]]
  have := numR_big _ i1 []
  rw [List.append_nil] at this
  rw [loopR_skip _ k8 k9 k10, this, big2_nat i0]
  have e : onlyOf m = { mq0 m.kind with id := m.id } := by unfold onlyOf; rw [if_neg k1, if_neg k2, if_neg k3, if_pos ki]
  rw [← e, ← ho]
  exact ⟨_, rfl⟩

/-! how long -/
theorem strB_length (s : ByteArray) : (strB s).length = 2 + s.size := by simp [strB, big_length]
theorem wishesBy_le : ∀ (l : List (ByteArray × Int)), wishesAll l = true → (wishesBy l).length ≤ 67 * l.length
  | [], _ => by simp [wishesBy]
  | x :: xs, h => by
    obtain ⟨a, _, _, d⟩ := wishesAll_mem rfl h
    have := wishesBy_le xs d
    simp [wishesBy, strB_length]
    omega
theorem codesBy_le : ∀ (l : List Int), (codesBy l).length = l.length
  | [] => rfl
  | x :: xs => by simp [codesBy, codesBy_le xs]
theorem filtersBy_le : ∀ (l : List ByteArray), filtersAll l = true → (filtersBy l).length ≤ 66 * l.length
  | [], _ => by simp [filtersBy]
  | x :: xs, h => by
    obtain ⟨a, d⟩ := filtersAll_mem rfl h
    have := filtersBy_le xs d
    simp [filtersBy, strB_length]
    omega
theorem body_le {m : Mq} (h : okOf m = true) : (bodyBy m).length ≤ 540 := by
  have hkk := may_kind h
  unfold bodyBy
  by_cases k1 : m.kind = 1
  · have hc : connectOk m = true := by unfold okOf at h; rw [if_pos k1] at h; exact h
    rw [if_pos k1]
    simp only [connectOk, Bool.and_eq_true, decide_eq_true_eq] at hc
    obtain ⟨hc, hkp, hw, hu, hps, h1, h2⟩ := hc
    have hc' := textOk_size hc
    have hu' := textOk_size hu
    have hwq : m.wt.size ≤ 64 ∧ m.wp.size ≤ 128 := by
      unfold willOk at hw
      cases hwon : m.won with
      | true =>
        rw [hwon, if_pos rfl] at hw
        simp only [Bool.and_eq_true, decide_eq_true_eq] at hw
        obtain ⟨a, b, c⟩ := hw
        have := textOk_size a
        exact ⟨by omega, by omega⟩
      | false =>
        rw [hwon, if_neg (by simp)] at hw
        simp only [Bool.and_eq_true, beq_iff_eq, Bool.not_eq_true'] at hw
        obtain ⟨a, b, c, d⟩ := hw
        rw [emp_nos a, emp_nos b]
        exact ⟨by decide, by decide⟩
    have a1 : (if m.won = true then strB m.wt ++ strB m.wp else []).length ≤ 200 := by split <;> simp [strB_length] <;> omega
    have a2 : (if m.hu = true then strB m.user else []).length ≤ 70 := by split <;> simp [strB_length] <;> omega
    have a3 : (if m.hp = true then strB m.pass else []).length ≤ 70 := by split <;> simp [strB_length] <;> omega
    unfold connectBy
    simp only [List.length_append, big_length, strB_length, List.length_cons, List.length_nil]
    omega
  rw [if_neg k1]
  by_cases k2 : m.kind = 2
  · rw [if_pos k2]; simp
  rw [if_neg k2]
  by_cases k3 : m.kind = 3
  · have hc : publishOk m = true := by unfold okOf at h; rw [if_neg k1, if_neg k2, if_pos k3] at h; exact h
    obtain ⟨ht, _, _, _, _, hp⟩ := publish_facts hc
    rw [if_pos k3]
    have a1 : (if 0 < m.qos then big 2 m.id.toNat else []).length ≤ 2 := by split <;> simp [big_length]
    unfold publishBy
    simp only [List.length_append, strB_length, sb_length]
    omega
  rw [if_neg k3]
  by_cases k8 : m.kind = 8
  · have hc : (inRB m.id 1 65535 && wishesOk m.wishes) = true := by
      unfold okOf at h; rw [if_neg k1, if_neg k2, if_neg k3, if_neg (by simp [idKind, k8]), if_pos k8] at h; exact h
    simp only [Bool.and_eq_true, wishesOk] at hc
    have hl := inRB_iff.1 hc.2.2
    have := wishesBy_le _ hc.2.1
    rw [if_pos k8, List.length_append, big_length]
    omega
  rw [if_neg k8]
  by_cases k9 : m.kind = 9
  · have hc : (inRB m.id 1 65535 && codesOk m.codes) = true := by
      unfold okOf at h; rw [if_neg k1, if_neg k2, if_neg k3, if_neg (by simp [idKind, k9]), if_neg k8, if_pos k9] at h; exact h
    simp only [Bool.and_eq_true, codesOk] at hc
    have hl := inRB_iff.1 hc.2.2
    rw [if_pos k9, List.length_append, big_length, codesBy_le]
    omega
  rw [if_neg k9]
  by_cases k10 : m.kind = 10
  · have hc : (inRB m.id 1 65535 && filtersOk m.filters) = true := by
      unfold okOf at h; rw [if_neg k1, if_neg k2, if_neg k3, if_neg (by simp [idKind, k10]), if_neg k8, if_neg k9, if_pos k10] at h; exact h
    simp only [Bool.and_eq_true, filtersOk] at hc
    have hl := inRB_iff.1 hc.2.2
    have := filtersBy_le _ hc.2.1
    rw [if_pos k10, List.length_append, big_length]
    omega
  rw [if_neg k10]
  split
  · simp
  · rw [big_length]; omega

/-- a packet's length, and its head's, read at its beginning: 'i' bytes are gone, 'n' is what they said. -/
def sizeGo : Nat → Nat → Nat → List UInt8 → Except Int (Nat × Nat)
  | _, _, _, [] => .error 7
  | 0, _, _, _ :: _ => .error 1
  | f + 1, i, n, x :: r =>
    if 128 ≤ x.toNat then (if i = 4 then .error 1 else sizeGo f (i + 1) (n + x.toNat % 128 * 128 ^ (i - 1)) r)
    else if x.toNat = 0 ∧ 1 < i then .error 1
    else if 1024 < n + x.toNat % 128 * 128 ^ (i - 1) + (i + 1) then .error 2
    else if r.length < n + x.toNat % 128 * 128 ^ (i - 1) then .error 7
    else .ok (n + x.toNat % 128 * 128 ^ (i - 1) + (i + 1), i + 1)
def sizeD : List UInt8 → Except Int (Nat × Nat)
  | [] => .error 7
  | _ :: r => sizeGo 4 1 0 r

theorem vlen_short (n : Nat) (h : n < 128) : vlen n = [UInt8.ofNat n] := by unfold vlen; rw [if_pos h]
theorem vlen_long (n : Nat) (h : ¬ n < 128) (h2 : n < 16384) : vlen n = [UInt8.ofNat (n % 128 + 128), UInt8.ofNat (n / 128)] := by
  unfold vlen; rw [if_neg h, vlen_short _ (by omega)]
theorem ofNat_nat (n : Nat) (h : n < 256) : (UInt8.ofNat n).toNat = n := by rw [UInt8.toNat_ofNat']; omega

theorem sizeD_lay (x : UInt8) (B rest : List UInt8) (h : B.length ≤ 540) : sizeD (x :: (vlen B.length ++ B ++ rest)) = .ok (1 + (vlen B.length).length + B.length, 1 + (vlen B.length).length) := by
  unfold sizeD
  by_cases hs : B.length < 128
  · rw [vlen_short _ hs]
    simp only [List.cons_append, List.nil_append, sizeGo, ofNat_nat _ (show B.length < 256 by omega), List.length_append, List.length_cons, List.length_nil]
    rw [if_neg (by omega), if_neg (by omega), if_neg (by omega), if_neg (by omega)]
    have : B.length % 128 * 128 ^ (1 - 1) = B.length := by omega
    rw [this]
    congr 2
    omega
  · rw [vlen_long _ hs (by omega)]
    simp only [List.cons_append, List.nil_append, sizeGo, ofNat_nat _ (show B.length % 128 + 128 < 256 by omega), ofNat_nat _ (show B.length / 128 < 256 by omega), List.length_append, List.length_cons, List.length_nil]
    rw [if_pos (by omega), if_neg (by omega), if_neg (by omega), if_neg (by omega)]
    have : 0 + (B.length % 128 + 128) % 128 * 128 ^ (1 - 1) + B.length / 128 % 128 * 128 ^ (1 + 1 - 1) = B.length := by omega
    rw [this, if_neg (by omega), if_neg (by omega)]
    congr 2
    omega
theorem sizeD_cut (x : UInt8) (B : List UInt8) (h : B.length ≤ 540) (k : Nat) (hk : k < 1 + (vlen B.length).length + B.length) : sizeD ((x :: (vlen B.length ++ B)).take k) = .error 7 := by
  match k with
  | 0 => rfl
  | 1 => rfl
  | k + 2 =>
    by_cases hs : B.length < 128
    · rw [vlen_short _ hs] at hk ⊢
      simp only [List.cons_append, List.nil_append, List.take_succ_cons, sizeD, sizeGo, ofNat_nat _ (show B.length < 256 by omega), List.length_take, List.length_cons, List.length_nil] at hk ⊢
      rw [if_neg (by omega), if_neg (by omega), if_neg (by omega), if_pos (by omega)]
    · rw [vlen_long _ hs (by omega)] at hk ⊢
      simp only [List.length_cons, List.length_nil] at hk
      match k with
      | 0 =>
        simp only [List.cons_append, List.nil_append, List.take_succ_cons, List.take_zero, sizeD, sizeGo, ofNat_nat _ (show B.length % 128 + 128 < 256 by omega)]
        rw [if_pos (by omega), if_neg (by omega)]
      | k + 1 =>
        simp only [List.cons_append, List.nil_append, List.take_succ_cons, sizeD, sizeGo, ofNat_nat _ (show B.length % 128 + 128 < 256 by omega), ofNat_nat _ (show B.length / 128 < 256 by omega), List.length_take]
        rw [if_pos (by omega), if_neg (by omega), if_neg (by omega), if_neg (by omega), if_neg (by omega), if_pos (by omega)]

/-- what a parser answers at b: the packet, how many bytes, the error. -/
def Parsed (b : List UInt8) (m : Mq) (n : Nat) (e : Int) : Prop :=
  match sizeD b with
  | .error er => e = er ∧ m = mq0 0 ∧ n = 0
  | .ok (t, _) => (mayB m ∧ layB m = b.take t ∧ n = t ∧ e = 0) ∨ ((∀ m', mayB m' → layB m' ≠ b.take t) ∧ m = mq0 0 ∧ n = 0 ∧ e = 1)

/-- the same first bytes: the same kind, body. -/
theorem lay_parts {m : Mq} (h : mayB m) : sizeD (layB m) = .ok ((layB m).length, 1 + (vlen (bodyBy m).length).length) ∧ (layB m).drop (1 + (vlen (bodyBy m).length).length) = bodyBy m := by
  have hb := body_le h.1
  have e : layB m = UInt8.ofNat (16 * m.kind.toNat + flagsBy m) :: (vlen (bodyBy m).length ++ bodyBy m ++ []) := by rw [List.append_nil]; rfl
  constructor
  · rw [e, sizeD_lay _ _ _ hb]
    congr 2
    simp
    omega
  · rw [e, List.append_nil, Nat.add_comm 1, List.drop_succ_cons, List.drop_left]
theorem lay_inj {m m' : Mq} (h : mayB m) (h' : mayB m') (e : layB m = layB m') : m = m' := by
  have p := lay_parts h
  have p' := lay_parts h'
  rw [← e] at p'
  have hh : 1 + (vlen (bodyBy m).length).length = 1 + (vlen (bodyBy m').length).length := by
    have := p.1.symm.trans p'.1
    injection this with this
    injection this
  have hbody : bodyBy m = bodyBy m' := by rw [← p.2, ← p'.2, hh]
  have hx : UInt8.ofNat (16 * m.kind.toNat + flagsBy m) = UInt8.ofNat (16 * m'.kind.toNat + flagsBy m') := by
    have := congrArg (fun l => l.headD 0) e
    simpa [layB] using this
  have k1 := may_kind h.1
  have k2 := may_kind h'.1
  have f1 := first_parts m.kind.toNat (flagsBy m) (by omega) (flagsBy_le h.1)
  have f2 := first_parts m'.kind.toNat (flagsBy m') (by omega) (flagsBy_le h'.1)
  rw [hx] at f1
  have hk : m.kind = m'.kind := by
    have := f1.1.symm.trans f2.1
    omega
  have r1 := readP_back h
  have r2 := readP_back h'
  have hf : UInt8.ofNat (flagsBy m) = UInt8.ofNat (flagsBy m') := f1.2.symm.trans f2.2
  rw [hk, hf, hbody, r2] at r1
  exact (congrArg (·.1) r1).symm
theorem parsed_one {b : List UInt8} {m m' : Mq} {n n' : Nat} {e e' : Int} (h : Parsed b m n e) (h' : Parsed b m' n' e') : m = m' ∧ n = n' ∧ e = e' := by
  unfold Parsed at h h'
  cases hs : sizeD b with
  | error er =>
    rw [hs] at h h'
    obtain ⟨rfl, rfl, rfl⟩ := h
    obtain ⟨rfl, rfl, rfl⟩ := h'
    exact ⟨rfl, rfl, rfl⟩
  | ok p =>
    rw [hs] at h h'
    rcases h with ⟨a, b1, c, d⟩ | ⟨a, b1, c, d⟩
    · rcases h' with ⟨a', b', c', d'⟩ | ⟨a', b', c', d'⟩
      · exact ⟨lay_inj a a' (b1.trans b'.symm), c.trans c'.symm, d.trans d'.symm⟩
      · exact absurd b1 (a' _ a)
    · rcases h' with ⟨a', b', c', d'⟩ | ⟨a', b', c', d'⟩
      · exact absurd b' (a _ a')
      · exact ⟨b1.trans b'.symm, c.trans c'.symm, d.trans d'.symm⟩
theorem lay_length {m : Mq} : (layB m).length = 1 + (vlen (bodyBy m).length).length + (bodyBy m).length := by
  unfold layB; simp; omega
theorem vlen_le (n : Nat) (h : n < 16384) : (vlen n).length ≤ 2 := by
  by_cases hs : n < 128
  · rw [vlen_short _ hs]; simp
  · rw [vlen_long _ hs h]; simp
theorem lay_le {m : Mq} (h : mayB m) : (layB m).length ≤ 543 := by
  have hb := body_le h.1
  have := vlen_le (bodyBy m).length (by omega)
  rw [lay_length]
  omega
/-- a packet's bytes, whatever stands behind them. -/
theorem parsed_lay {m : Mq} (h : mayB m) (rest : List UInt8) : Parsed (layB m ++ rest) m (layB m).length 0 := by
  unfold Parsed
  have hb := body_le h.1
  have e : layB m ++ rest = UInt8.ofNat (16 * m.kind.toNat + flagsBy m) :: (vlen (bodyBy m).length ++ bodyBy m ++ rest) := by simp [layB]
  rw [e, sizeD_lay _ _ _ hb, ← lay_length, ← e]
  exact .inl ⟨h, by simp, rfl, rfl⟩
theorem parsed_cut {m : Mq} (h : mayB m) (k : Nat) (hk : k < (layB m).length) : Parsed ((layB m).take k) (mq0 0) 0 7 := by
  unfold Parsed
  have hb := body_le h.1
  rw [lay_length] at hk
  have e : layB m = UInt8.ofNat (16 * m.kind.toNat + flagsBy m) :: (vlen (bodyBy m).length ++ bodyBy m) := rfl
  rw [e, sizeD_cut _ _ hb k hk]
  exact ⟨rfl, rfl, rfl⟩
/-- package pack's way to read: the answer. -/
theorem parsed_ok {b : List UInt8} {t i : Nat} (hs : sizeD b = .ok (t, i)) {m : Mq} (hm : mayB m) (hl : layB m = b.take t) : Parsed b m t 0 := by
  unfold Parsed; rw [hs]; exact .inl ⟨hm, hl, rfl, rfl⟩
theorem sizeGo_ge : ∀ (f i n : Nat) (l : List UInt8) (t j : Nat), sizeGo f i n l = .ok (t, j) → i + 1 ≤ j ∧ j ≤ t ∧ t ≤ i + l.length ∧ t ≤ 1024 := by
  intro f
  induction f with
  | zero => intro i n l t j h; cases l <;> simp [sizeGo] at h
  | succ f ih =>
    intro i n l t j h
    cases l with
    | nil => simp [sizeGo] at h
    | cons x r =>
      rw [sizeGo] at h
      split at h
      · split at h
        · cases h
        · have := ih _ _ _ _ _ h
          simp only [List.length_cons]
          omega
      · split at h
        · cases h
        · split at h
          · cases h
          · split at h
            · cases h
            · injection h with h
              injection h with h1 h2
              simp only [List.length_cons]
              omega
theorem sizeD_ge {b : List UInt8} {t i : Nat} (hs : sizeD b = .ok (t, i)) : 2 ≤ i ∧ i ≤ t ∧ t ≤ b.length ∧ t ≤ 1024 := by
  cases b with
  | nil => cases hs
  | cons x r =>
    have := sizeGo_ge _ _ _ _ _ _ hs
    simp only [List.length_cons]
    omega
theorem take_lay {b : List UInt8} {t i : Nat} (hs : sizeD b = .ok (t, i)) {m : Mq} (hm : mayB m) (hl : layB m = b.take t) : b.headD 0 = UInt8.ofNat (16 * m.kind.toNat + flagsBy m) ∧ (b.take t).drop i = bodyBy m := by
  have hg := sizeD_ge hs
  have hp := lay_parts hm
  have hx : b.headD 0 = UInt8.ofNat (16 * m.kind.toNat + flagsBy m) := by
    have : (b.take t).headD 0 = b.headD 0 := by
      cases b with
      | nil => simp
      | cons x r =>
        obtain ⟨t', rfl⟩ : ∃ t', t = t' + 1 := ⟨t - 1, by omega⟩
        rfl
    rw [← this, ← hl]
    rfl
  refine ⟨hx, ?_⟩
  have hb := body_le hm.1
  have e : b = layB m ++ b.drop t := by rw [hl, List.take_append_drop]
  have hs2 : sizeD (layB m ++ b.drop t) = .ok (1 + (vlen (bodyBy m).length).length + (bodyBy m).length, 1 + (vlen (bodyBy m).length).length) := by
    have : layB m ++ b.drop t = UInt8.ofNat (16 * m.kind.toNat + flagsBy m) :: (vlen (bodyBy m).length ++ bodyBy m ++ b.drop t) := by simp [layB]
    rw [this, sizeD_lay _ _ _ hb]
  rw [← e] at hs2
  have hi : i = 1 + (vlen (bodyBy m).length).length := by
    have := hs.symm.trans hs2
    injection this with this
    injection this
  rw [← hl, hi]
  exact hp.2
/-- the packet that package pack reads there, if there is one at all. -/
theorem parsed_readP {b : List UInt8} {t i : Nat} (hs : sizeD b = .ok (t, i)) (r : Mq × Rd) (hr : r = readP (((b.headD 0).toNat / 16 : Nat) : Int) (loB (b.headD 0)) ((b.take t).drop i, false)) :
    (r.2.2 = false ∧ mayB r.1 ∧ layB r.1 = b.take t → Parsed b r.1 t 0) ∧ (¬ (r.2.2 = false ∧ mayB r.1 ∧ layB r.1 = b.take t) → Parsed b (mq0 0) 0 1) := by
  refine ⟨fun h => parsed_ok hs h.2.1 h.2.2, fun h => ?_⟩
  unfold Parsed
  rw [hs]
  refine .inr ⟨fun m' hm hl => h ?_, rfl, rfl, rfl⟩
  obtain ⟨hx, hb⟩ := take_lay hs hm hl
  have kk := may_kind hm.1
  have fp := first_parts m'.kind.toNat (flagsBy m') (by omega) (flagsBy_le hm.1)
  have : r = (m', ([], false)) := by
    rw [hr, hx, hb, fp.1, fp.2, show ((m'.kind.toNat : Nat) : Int) = m'.kind by omega]
    exact readP_back hm
  rw [this]
  exact ⟨rfl, hm, hl⟩
theorem parsed_readR {b : List UInt8} {t i : Nat} (hs : sizeD b = .ok (t, i)) (r : Mq × Rd) (hr : r = readR (((b.headD 0).toNat / 16 : Nat) : Int) (b.headD 0) ((b.take t).drop i, false)) :
    (r.2.2 = false ∧ mayB r.1 ∧ layB r.1 = b.take t → Parsed b r.1 t 0) ∧ (¬ (r.2.2 = false ∧ mayB r.1 ∧ layB r.1 = b.take t) → Parsed b (mq0 0) 0 1) := by
  refine ⟨fun h => parsed_ok hs h.2.1 h.2.2, fun h => ?_⟩
  unfold Parsed
  rw [hs]
  refine .inr ⟨fun m' hm hl => h ?_, rfl, rfl, rfl⟩
  obtain ⟨hx, hb⟩ := take_lay hs hm hl
  have kk := may_kind hm.1
  have fp := first_parts m'.kind.toNat (flagsBy m') (by omega) (flagsBy_le hm.1)
  obtain ⟨s, hsr⟩ := readR_back hm
  have : r = (m', (s, false)) := by
    rw [hr, hx, hb, fp.1, show ((m'.kind.toNat : Nat) : Int) = m'.kind by omega]
    exact hsr
  rw [this]
  exact ⟨rfl, hm, hl⟩
end Go.Proofs.YtkcdkjpmbjcmdaaDoor

/-
  Rows of bytes at a frame that is a letter: what is laid by 'two', 'text', append, a literal; one operation each.
-/
namespace Go.Proofs.YtkcdkjpmbjcmdaaDoor
open Go.RowKit

theorem wp_seq_join {P : Program} {x y : Code} {Q : Exit → Act → World → Prop} {a : Act} {w : World} (St : Act → World → Prop) (hx : x.wp P (Exit.then St Q) a w) (hy : ∀ a w, St a w → y.wp P Q a w) : (Code.seq x y).wp P Q a w := by
  refine wp_seq (wp_mono hx ?_)
  intro e a w h
  cases e with
  | normal => exact hy a w h
  | _ => exact h

section
variable {P : Program} {ops : Array Oper} {rest : List Oper} {o : Oper} {a : Act} {w : World} {Q : Exit → Act → World → Prop} {n : Nat} {l : List (Nat × Value)}
theorem run_callH (H : Has a n l) {f : FuncId} {xs : Array Operand} {ats : Array TypeId} {vs : List Value} (ho : o.op = .call { callee := .value (.func f), args := xs, argTypes := ats }) (hx : evLs l xs.toList = some vs)
    (hen : ∀ (args : Array Value) (w : World), (callFunc f args).run P w = .ok (.enter f args) w) : (execOp a.eval o).run P w = .ok (.enter f vs.toArray) w :=
  run_call ho (by rw [← H.evs hx, ← Array.toList_map, Array.toArray_toList]) hen
/-- append(row, bytes..). -/
theorem run_append_row (hgb : P.underlying 31 = some (.slice 5)) (hi : (P.info? 5).map (fun i => (i.zero, i.size, i.bytes)) = some (some (.int .u8 0), 1, 1)) {s x : Operand}
    (ho : o.op = .call { callee := .builtin .append, args := #[s, x], argTypes := #[31, 31] }) {b : Nat} {xs ys : List UInt8} {v u : Value} (hs : a.eval s = v) (hx : a.eval x = u) (hv : RowIs b xs v w) (hu : BytesAre ys u w)
    (hn : xs.length + ys.length ≤ 140737488355328) (hb : b ≤ w.heap.size) : ∃ v' w', (execOp a.eval o).run P w = .ok (.value v') w' ∧ RowIs b (xs ++ ys) v' w' ∧ Below b w w' ∧ w.grownBy w' v.ownBlock := by
  obtain ⟨A, c, rfl, hown⟩ := hv
  obtain ⟨A2, c2, rfl, hr⟩ := hu
  obtain ⟨A', c', w', hrun, h2, h3⟩ := run_append_read (P := P) w b 31 o.type 5 (.int .u8 0) 1 1 hgb hi rfl (by decide) _ xs.length (xs.map bv) hown w.heap.size A2 ys.length c2 (ys.map bv) hr (bv_one ys) (by unfold maxLen; omega) (by omega) hb
  refine ⟨_, w', ?_, ⟨A', c', by rw [List.length_append], by rw [List.length_append, List.map_append]; exact h2⟩, (Below.refl _ _).grown h3 hb fun k hk => (hown.lt k hk).1, h3⟩
  unfold execOp
  simp only [ho, resolve, invoke, builtin, Sem.run_bind, Sem.run_pure, Result.andThen_ok, List.map_toArray, List.map_cons, List.map_nil, hs, hx, hrun]
/-- append(row, string..). -/
theorem run_append_strR (hgb : P.underlying 31 = some (.slice 5)) (hst : P.underlying 9 = some .string) (hi : (P.info? 5).map (fun i => (i.zero, i.size, i.bytes)) = some (some (.int .u8 0), 1, 1)) {s x : Operand}
    (ho : o.op = .call { callee := .builtin .append, args := #[s, x], argTypes := #[31, 9] }) {b : Nat} {xs : List UInt8} {v : Value} {str : ByteArray} (hs : a.eval s = v) (hx : a.eval x = .string str) (hv : RowIs b xs v w)
    (hn : xs.length + str.size ≤ 140737488355328) (hb : b ≤ w.heap.size) : ∃ v' w', (execOp a.eval o).run P w = .ok (.value v') w' ∧ RowIs b (xs ++ sb str) v' w' ∧ Below b w w' ∧ w.grownBy w' v.ownBlock := by
  obtain ⟨A, c, rfl, hown⟩ := hv
  obtain ⟨i0, hi0, hz0, hz1, hz2⟩ := info_parts hi
  obtain ⟨v', w', hrun, h2, h3, _⟩ := Lib.run_append_own_string (P := P) (w := w) b 31 9 o.type 5 i0 hgb hst hi0 hz0 hz1 hz2 _ xs.length (xs.map bv) hown str (by unfold maxLen; omega) hn hb
  obtain ⟨A', c', rfl, _, _⟩ := own_shape h2
  refine ⟨_, w', ?_, ⟨A', c', by rw [List.length_append, sb_length], by rw [List.length_append, sb_length, List.map_append, ← strCells_bv]; exact h2⟩, (Below.refl _ _).grown h3 hb fun k hk => (hown.lt k hk).1, h3⟩
  unfold execOp
  simp only [ho, resolve, invoke, builtin, Sem.run_bind, Sem.run_pure, Result.andThen_ok, List.map_toArray, List.map_cons, List.map_nil, hs, hx, hrun]
theorem run_len {s : Operand} {t : TypeId} {A : Option Addr} {m c : Nat} (ho : o.op = .call { callee := .builtin .len, args := #[s], argTypes := #[t] }) (hs : a.eval s = .slice A m c) {e : TypeId} (ht : P.underlying t = some (.slice e)) :
    (execOp a.eval o).run P w = .ok (.value (.int .i64 m)) w := by
  unfold execOp
  simp only [ho, resolve, invoke, builtin, Sem.run_bind, Sem.run_pure, Result.andThen_ok, List.map_toArray, List.map_cons, List.map_nil, hs]
  simp [Builtin.len_, run_underlying ht, goInt]
end

/-- 'two' and 'text' of package pack, rows in and out. -/
theorem rowTwo (b : Nat) (xs : List UInt8) (v : Value) (k : Int) (h0 : 0 ≤ k) (h1 : k ≤ 65535) (w : World) (hv : RowIs b xs v w) (hb : b ≤ w.heap.size) (hn : xs.length ≤ 140737488251232) :
    Calls Tryd.prog 100 #[v, .int .i64 k] w fun e w' => ∃ v', e = .returned v' ∧ (RowIs b (xs ++ big 2 k.toNat) v' w' ∧ Below b w w') := by
  obtain ⟨A, c, rfl, hown⟩ := hv
  refine (packTwo b xs xs.length A c k k.toNat (by omega) (by omega) w hown hb (by omega)).mono ?_
  rintro e w' ⟨A', c', rfl, ho, hbl⟩
  exact ⟨_, rfl, ⟨A', c', by rw [List.length_append, big_length], by rw [List.length_append, big_length]; exact ho⟩, hbl⟩
theorem rowText (b : Nat) (xs : List UInt8) (v : Value) (s : ByteArray) (hs : s.size ≤ 65535) (w : World) (hv : RowIs b xs v w) (hb : b ≤ w.heap.size) (hn : xs.length ≤ 140737488251232) :
    Calls Tryd.prog 99 #[v, .string s] w fun e w' => ∃ v', e = .returned v' ∧ (RowIs b (xs ++ strB s) v' w' ∧ Below b w w') := by
  obtain ⟨A, c, rfl, hown⟩ := hv
  refine (packText b xs xs.length A c s hs w hown hb hn).mono ?_
  rintro e w' ⟨A', c', rfl, ho, hbl⟩
  refine ⟨_, rfl, ⟨A', c', by rw [List.length_append, strB_length, Nat.add_assoc], ?_⟩, hbl⟩
  rw [List.length_append, strB_length, ← Nat.add_assoc, strB, ← List.append_assoc]
  exact ho
theorem own_under {W w w' : World} {B b : Nat} {bs : List (Nat × List Value)} (h : Own W B bs w) (hb : Below b w w') (hB : B ≤ b) (hall : ∀ p ∈ bs, p.1 < b) : Own W B bs w' :=
  ⟨h.bel.trans (hb.mono hB), Nat.le_trans h.le hb.size, h.nd, fun p hp => ⟨(h.mem p hp).1, Nat.lt_of_lt_of_le (h.mem p hp).2.1 hb.size, (h.mem p hp).2.2.below hb (hall p hp)⟩⟩
theorem conv_u8 (k : Int) (w : World) : (convert 3 5 (.int .i64 k)).run Tryd.prog w = .ok (.int .u8 (k % 256)) w := by
  simp [go_sem]
  rfl
theorem fieldW_0 (g : Nat) (w : World) : (Instr.fieldAt 25 (.pointer (some ⟨g, 4, none⟩)) 0).run Tryd.prog w = .ok (.pointer (some ⟨g, 4, none⟩)) w := by kernel_rfl
theorem fieldW_1 (g : Nat) (w : World) : (Instr.fieldAt 25 (.pointer (some ⟨g, 4, none⟩)) 1).run Tryd.prog w = .ok (.pointer (some ⟨g, 5, none⟩)) w := by kernel_rfl
theorem fieldW_2 (g : Nat) (w : World) : (Instr.fieldAt 25 (.pointer (some ⟨g, 4, none⟩)) 2).run Tryd.prog w = .ok (.pointer (some ⟨g, 6, none⟩)) w := by kernel_rfl
theorem fieldW_3 (g : Nat) (w : World) : (Instr.fieldAt 25 (.pointer (some ⟨g, 4, none⟩)) 3).run Tryd.prog w = .ok (.pointer (some ⟨g, 7, none⟩)) w := by kernel_rfl
theorem fieldW_4 (g : Nat) (w : World) : (Instr.fieldAt 25 (.pointer (some ⟨g, 4, none⟩)) 4).run Tryd.prog w = .ok (.pointer (some ⟨g, 8, none⟩)) w := by kernel_rfl
/-- a literal of bytes stands in a block of its own. -/
theorem bytes_lit (w : World) (xs : List UInt8) (vs : List Value) (h : vs = xs.map bv) (e : TypeId) (k : Nat) (hk : xs.length = k) : BytesAre xs (.slice (some ⟨w.heap.size, 0, none⟩) k k) (w.alloc (.cells vs.toArray e)) ∧ Below w.heap.size w (w.alloc (.cells vs.toArray e)) := by
  subst hk
  exact ⟨⟨_, _, rfl, RB.lit w e vs.toArray (0, 0) xs (by simpa using h)⟩, balloc w _⟩
theorem byte_of_int (k : Int) (h0 : 0 ≤ k) : Value.int .u8 (k % 256) = bv (UInt8.ofNat k.toNat) := by
  unfold bv
  rw [UInt8.toNat_ofNat']
  congr 1
  omega
theorem or_i (a b : Nat) (ha : a < 9223372036854775808) (hb : b < 9223372036854775808) (x y : Operand) (w : World) : (do eqGuard .or 3 x y (.int .i64 a) (.int .i64 b); binOp .or 3 (.int .i64 a) (.int .i64 b) : Sem Value).run Tryd.prog w = .ok (.int .i64 ((a ||| b : Nat) : Int)) w := by
  have := i64_or_nat a b ha hb
  simp [go_sem, this]
end Go.Proofs.YtkcdkjpmbjcmdaaDoor

/-
  A region that draws its order, in few words: what the plain operations leave is told once, as values; arms are needed for the others alone.
-/
namespace Go.Proofs.YtkcdkjpmbjcmdaaDoor
open Go.RowKit

theorem run_index {P : Program} {w : World} {a : Act} {o : Oper} {T : Nat} {x i : Operand} {u v r : Value} (ho : o.op = .indexAddr T x i) (hx : a.eval x = u) (hi : a.eval i = v) (hq : (Instr.indexAt T u v).run P w = .ok r w) : (execOp a.eval o).run P w = .ok (.value r) w := by
  unfold execOp
  simp only [ho, hx, hi, Sem.run_bind, hq, Result.andThen_ok, Sem.run_pure]
theorem run_lenS {P : Program} {w : World} {a : Act} {o : Oper} {s : Operand} {t : TypeId} {u : ByteArray} (ho : o.op = .call { callee := .builtin .len, args := #[s], argTypes := #[t] }) (hs : a.eval s = .string u) (ht : P.underlying t = some .string) :
    (execOp a.eval o).run P w = .ok (.value (.int .i64 u.size)) w := by
  unfold execOp
  simp only [ho, resolve, invoke, builtin, Sem.run_bind, Sem.run_pure, Result.andThen_ok, List.map_toArray, List.map_cons, List.map_nil, hs]
  simp [Builtin.len_, run_underlying ht, goInt]
/-- what an operation leaves: a value (ec), or what holds of it until others have come up (er). -/
structure EntC where
  op : Nat
  slot : Nat
  kill : List Nat
  c : Option Value
  q : Value → World → Prop
  arm : Bool
def ec (i s : Nat) (v : Value) : EntC := ⟨i, s, [], some v, fun _ _ => True, false⟩
def er (i s : Nat) (k : List Nat) (q : Value → World → Prop) : EntC := ⟨i, s, k, none, q, true⟩
/-- a value for which there is an arm. -/
def eh (i s : Nat) (v : Value) : EntC := ⟨i, s, [], some v, fun _ _ => True, true⟩
def EntC.e (t : EntC) : Ent := match t.c with
  | some v => ⟨t.op, t.slot, [], fun u _ => u = v⟩
  | none => ⟨t.op, t.slot, t.kill, t.q⟩
def aft (L : List Edge) (j : Nat) : Bool := L.any (fun e => Region.binds .any e && Nat.beq e.on j)
def afts (ops : Array Oper) (i : Nat) : List Edge := match ops[i]? with
  | some o => o.after.toList
  | none => []
/-- the values that an operation, behind these edges, finds. -/
def knownE (L : List Edge) : List EntC → List (Nat × Value)
  | [] => []
  | ⟨k, s, _, c, _, _⟩ :: ts => match c with
    | some v => bif aft L k then (s, v) :: knownE L ts else knownE L ts
    | none => knownE L ts
def PureE (ops : Array Oper) (Q : Exit → Act → World → Prop) (n : Nat) (l : List (Nat × Value)) (Wp : World → Prop) (i s : Nat) (v : Value) : Prop :=
  ∀ (K : Act → World → Prop) (a : Act) (w : World), Has a n l → Wp w → K (a.put (some s) v) w → wpOp Tryd.prog ops Q i K a w
def PureAll (ops : Array Oper) (Q : Exit → Act → World → Prop) (n : Nat) (fixed : List (Nat × Value)) (Wp : World → Prop) (es : List EntC) : List EntC → Prop
  | [] => True
  | ⟨k, s, _, c, _, m⟩ :: ts => match c, m with
    | some v, false => PureE ops Q n (fixed ++ knownE (afts ops k) es) Wp k s v ∧ PureAll ops Q n fixed Wp es ts
    | _, _ => PureAll ops Q n fixed Wp es ts
def heavyL (N : Nat) : List EntC → Nat → Prop
  | [], _ => False
  | ⟨k, _, _, c, _, m⟩ :: ts, i => match c, m with
    | some _, false => heavyL N ts i
    | _, _ => bif Nat.blt k N then (i = k ∨ heavyL N ts i) else heavyL N ts i
def coverB (N : Nat) (es : List EntC) : Bool := (List.range N).all (fun i => es.any (fun t => t.op == i))
def startL (N : Nat) (a : Act) (w : World) : List EntC → Prop
  | [] => True
  | ⟨k, s, _, c, q, _⟩ :: ts => bif Nat.blt k N then startL N a w ts else ((match c with | some v => a.eval (.tmp s) = v | none => q (a.eval (.tmp s)) w) ∧ startL N a w ts)
/-- what is told of the others stays so. -/
def AllC (i : Nat) (listed : Array Bool) (w w' : World) : List EntC → Prop
  | [] => True
  | ⟨k, _, ks, c, q, _⟩ :: ts => match c with
    | some _ => AllC i listed w w' ts
    | none => (k ≠ i → i ∉ ks → (listed.size ≤ k ∨ listed.getD k false = true) → KillEv listed ks → ∀ u, q u w → q u w') ∧ AllC i listed w w' ts
def sel (l : List (Nat × Value)) : List Nat → Option (List (Nat × Value))
  | [] => some []
  | k :: ks => match look l k, sel l ks with
    | some v, some r => some ((k, v) :: r)
    | _, _ => none
theorem sel_ok {a : Act} {n : Nat} {l : List (Nat × Value)} (H : Has a n l) : ∀ {ss : List Nat} {r : List (Nat × Value)}, sel l ss = some r → AllEv a r
  | [], r, h => by
    cases h
    trivial
  | k :: ks, r, h => by
    unfold sel at h
    split at h
    · next v r' h1 h2 =>
      injection h with h
      subst h
      exact ⟨H.at_ k v h1, sel_ok H h2⟩
    · cases h
/-- an operation's guard is met, or not, by what is known. -/
def okG (ops : Array Oper) (l : List (Nat × Value)) (o : Oper) : Bool := match o.guard with
  | none => true
  | some (j, b) => match (ops[j]?).bind (·.dst) with
    | some d => match look l d with
      | some (.bool c) => bif b then c else !c
      | _ => false
    | none => false
/-- a slot's value that does not meet a guard. -/
def noB : Value → Bool → Bool
  | .bool c, b => bif b then !c else c
  | _, _ => true
theorem yielded_not {ops : Array Oper} {a : Act} {j d : Nat} {v : Value} {b : Bool} (hj : (ops[j]?).bind (·.dst) = some d) (h : a.eval (.tmp d) = v) (hn : noB v b = true) : yielded ops a.tmps j ≠ some b := by
  intro hy
  unfold yielded at hy
  rw [hj, Option.bind_some] at hy
  split at hy
  · next c hc =>
    injection hy with hy
    subst hy
    have : a.eval (.tmp d) = .bool c := by
      simp only [Act.eval, Array.getD_eq_getD_getElem?, hc, Option.getD_some]
    rw [← h, this] at hn
    cases c <;> cases hn
  · cases hy
def offG (ops : Array Oper) (l : List (Nat × Value)) (o : Oper) : Bool := match o.guard with
  | none => false
  | some (j, b) => match (ops[j]?).bind (·.dst) with
    | some d => match look l d with
      | some v => noB v b
      | none => false
    | none => false
theorem okG_w {ops : Array Oper} {o : Oper} {a : Act} {n : Nat} {l : List (Nat × Value)} (H : Has a n l) (h : okG ops l o = true) : Region.wanted o (yielded ops a.tmps) = true := by
  unfold okG at h
  split at h
  · next hg => exact gz hg
  · next j b hg =>
    split at h
    · next d hj =>
      split at h
      · next c hc =>
        have e : c = b := by cases b <;> cases c <;> first | rfl | cases h
        exact H.wt hg hj (by rw [hc, e])
      · cases h
    · cases h
theorem offG_w {ops : Array Oper} {o : Oper} {a : Act} {n : Nat} {l : List (Nat × Value)} (H : Has a n l) (h : offG ops l o = true) : Region.wanted o (yielded ops a.tmps) = false := by
  unfold offG at h
  split at h
  · cases h
  · next j b hg =>
    split at h
    · next d hj =>
      split at h
      · next v hv =>
        unfold Region.wanted
        rw [hg]
        have := yielded_not hj (H.at_ d v hv) h
        simpa using this
      · cases h
    · cases h
/-- what a guarded operation leaves. -/
abbrev gv (g : Bool) (v : Value) : Value := bif g then v else undef
section
variable {ops : Array Oper} {Q : Exit → Act → World → Prop} {n : Nat} {l fixed : List (Nat × Value)} {Wp Wp' : World → Prop} {i s : Nat} {v : Value} {o : Oper}
theorem jm (ho : ops[i]? = some o := by rfl) (hg : okG ops l o = true := by rfl) (h : stepM n { o with guard := none } l = some (s, v) := by rfl) : PureE ops Q n l Wp i s v := by
  intro K a w H _ hK
  unfold stepM at h
  split at h
  · next d x _ hd ho' =>
    split at h
    · next u hn hx =>
      simp only [Option.some.injEq, Prod.mk.injEq] at h
      obtain ⟨rfl, rfl⟩ := h
      exact wpOp_go ho (okG_w H hg) _ hd _ w (run_move (.inl ho') (H.ev hx)) hK
    · cases h
  · next d x _ hd ho' =>
    split at h
    · next u hn hx =>
      simp only [Option.some.injEq, Prod.mk.injEq] at h
      obtain ⟨rfl, rfl⟩ := h
      exact wpOp_go ho (okG_w H hg) _ hd _ w (run_move (.inr ho') (H.ev hx)) hK
    · cases h
  · next d t x f _ hd ho' =>
    split at h
    · next g b hn hx =>
      split at h
      · next r hr =>
        simp only [Option.some.injEq, Prod.mk.injEq] at h
        obtain ⟨rfl, rfl⟩ := h
        exact wpOp_go ho (okG_w H hg) _ hd _ w (run_field ho' (H.ev hx) (lookF_ok ft_ok hr)) hK
      · cases h
    · cases h
  · next d x _ hd ho' =>
    split at h
    · next p hn hx =>
      simp only [Option.some.injEq, Prod.mk.injEq] at h
      obtain ⟨rfl, rfl⟩ := h
      exact wpOp_go ho (okG_w H hg) _ hd _ w (by unfold execOp; simp only [show o.op = _ from ho', H.ev hx]; rfl) hK
    · cases h
  · cases h
theorem jl {T : Nat} {x : Operand} {p : Value} (hl : ∀ w, Wp w → (Instr.loadAt T p).run Tryd.prog w = .ok v w) (ho : ops[i]? = some o := by rfl) (hp : o.op = .load T x := by rfl) (hd : o.dst = some s := by rfl) (hg : okG ops l o = true := by rfl) (hx : evL l x = some p := by rfl) : PureE ops Q n l Wp i s v :=
  fun _ _ w H hw hK => wpOp_go ho (okG_w H hg) s hd v w (run_load hp (H.ev hx) (hl w hw)) hK
theorem jb {b : BinOp} {T T' : TypeId} {x y : Operand} {u u' : Value} (hq : ∀ w, (do eqGuard b T x y u u'; binOp b T u u' : Sem Value).run Tryd.prog w = .ok v w) (ho : ops[i]? = some o := by rfl) (hp : o.op = .binOp b T x y T' := by rfl) (hd : o.dst = some s := by rfl) (hg : okG ops l o = true := by rfl) (hx : evL l x = some u := by rfl) (hy : evL l y = some u' := by rfl) : PureE ops Q n l Wp i s v :=
  fun _ _ w H _ hK => wpOp_go ho (okG_w H hg) s hd v w (run_bin hp (H.ev hx) (H.ev hy) (hq w)) hK
theorem jB {b : BinOp} {T T' : TypeId} {x y : Operand} {u u' : Value} (ho : ops[i]? = some o) (hp : o.op = .binOp b T x y T') (hd : o.dst = some s) (hg : okG ops l o = true) (hx : evL l x = some u) (hy : evL l y = some u') (hq : ∀ w, (do eqGuard b T x y u u'; binOp b T u u' : Sem Value).run Tryd.prog w = .ok v w) : PureE ops Q n l Wp i s v :=
  jb hq ho hp hd hg hx hy
theorem jL {T : Nat} {x : Operand} {p : Value} (ho : ops[i]? = some o) (hp : o.op = .load T x) (hd : o.dst = some s) (hg : okG ops l o = true) (hx : evL l x = some p) (hl : ∀ w, Wp w → (Instr.loadAt T p).run Tryd.prog w = .ok v w) : PureE ops Q n l Wp i s v := jl hl ho hp hd hg hx
theorem js {x : Operand} {t : TypeId} {u : ByteArray} (ht : Tryd.prog.underlying t = some .string) (ho : ops[i]? = some o := by rfl) (hp : o.op = .call { callee := .builtin .len, args := #[x], argTypes := #[t] } := by rfl) (hd : o.dst = some s := by rfl) (hg : okG ops l o = true := by rfl) (hx : evL l x = some (.string u) := by rfl) (hv : v = .int .i64 (u.size : Int) := by rfl) : PureE ops Q n l Wp i s v :=
  fun _ _ w H _ hK => wpOp_go ho (okG_w H hg) s hd v w (by rw [hv]; exact run_lenS hp (H.ev hx) ht) hK
theorem jn {x : Operand} {t : TypeId} {A : Option Addr} {m c : Nat} {e : TypeId} (ht : Tryd.prog.underlying t = some (.slice e)) (ho : ops[i]? = some o := by rfl) (hp : o.op = .call { callee := .builtin .len, args := #[x], argTypes := #[t] } := by rfl) (hd : o.dst = some s := by rfl) (hg : okG ops l o = true := by rfl) (hx : evL l x = some (.slice A m c) := by rfl) (hv : v = .int .i64 (m : Int) := by rfl) : PureE ops Q n l Wp i s v :=
  fun _ _ w H _ hK => wpOp_go ho (okG_w H hg) s hd v w (by rw [hv]; exact run_len hp (H.ev hx) ht) hK
theorem jI {T : Nat} {x y : Operand} {u u' : Value} (ho : ops[i]? = some o) (hp : o.op = .indexAddr T x y) (hd : o.dst = some s) (hg : okG ops l o = true) (hx : evL l x = some u) (hy : evL l y = some u') (hq : ∀ w, (Instr.indexAt T u u').run Tryd.prog w = .ok v w) : PureE ops Q n l Wp i s v :=
  fun _ _ w H _ hK => wpOp_go ho (okG_w H hg) s hd v w (run_index hp (H.ev hx) (H.ev hy) (hq w)) hK
theorem jf {T f g off off0 : Nat} {x : Operand} (hf : ∀ g w, (Instr.fieldAt T (.pointer (some ⟨g, off0, none⟩)) f).run Tryd.prog w = .ok (.pointer (some ⟨g, off, none⟩)) w) (ho : ops[i]? = some o := by rfl) (hp : o.op = .fieldAddr T x f := by rfl) (hd : o.dst = some s := by rfl) (hg : okG ops l o = true := by rfl) (hx : evL l x = some (.pointer (some ⟨g, off0, none⟩)) := by rfl) (hv : v = .pointer (some ⟨g, off, none⟩) := by rfl) : PureE ops Q n l Wp i s v :=
  fun _ _ w H _ hK => wpOp_go ho (okG_w H hg) s hd v w (by rw [hv]; exact run_field hp (H.ev hx) hf) hK
theorem jc {T T' : TypeId} {x : Operand} {u : Value} (hq : ∀ w, (convert T T' u).run Tryd.prog w = .ok v w) (ho : ops[i]? = some o := by rfl) (hp : o.op = .convert T T' x := by rfl) (hd : o.dst = some s := by rfl) (hg : okG ops l o = true := by rfl) (hx : evL l x = some u := by rfl) : PureE ops Q n l Wp i s v :=
  fun _ _ w H _ hK => wpOp_go ho (okG_w H hg) s hd v w (run_conv hp (H.ev hx) (hq w)) hK
theorem jx {k : Nat} {x : Operand} {u : Value} (ho : ops[i]? = some o := by rfl) (hp : o.op = .extract x k := by rfl) (hd : o.dst = some s := by rfl) (hg : okG ops l o = true := by rfl) (hx : evL l x = some u := by rfl) (hq : ∀ w, (Instr.extract u k).run Tryd.prog w = .ok v w := by exact fun _ => rfl) : PureE ops Q n l Wp i s v :=
  fun _ _ w H _ hK => wpOp_go ho (okG_w H hg) s hd v w (run_extract hp (H.ev hx) (hq w)) hK
theorem jq {f : FuncId} {xs : Array Operand} {ats : Array TypeId} {vs : List Value} (hc : ∀ w, Wp w → Calls Tryd.prog f vs.toArray w fun e w' => e = .returned v ∧ w = w') (ho : ops[i]? = some o := by rfl) (hp : o.op = .call { callee := .value (.func f), args := xs, argTypes := ats } := by rfl) (hd : o.dst = some s := by rfl) (hg : okG ops l o = true := by rfl)
    (hx : evLs l xs.toList = some vs := by rfl) (hen : ∀ (args : Array Value) (w : World), (callFunc f args).run Tryd.prog w = .ok (.enter f args) w := by exact fun _ _ => by kernel_rfl) : PureE ops Q n l Wp i s v :=
  fun _ _ w H hw hK => wpOp_enter ho (okG_w H hg) s hd f _ (run_callH H hp hx hen) _ (quietC (hc w hw)) (by rintro _ _ ⟨rfl, rfl⟩; exact hK)
theorem jo (ho : ops[i]? = some o := by rfl) (hd : o.dst = some s := by rfl) (hg : offG ops l o = true := by rfl) : PureE ops Q n l Wp i s undef :=
  fun _ _ w H _ hK => wpOp_off ho (offG_w H hg) (by rw [hd]; exact hK)
theorem jp {c x y : Operand} {b : Bool} (ho : ops[i]? = some o := by rfl) (hp : o.op = .pick c x y := by rfl) (hd : o.dst = some s := by rfl) (hg : okG ops l o = true := by rfl) (hc : evL l c = some (.bool b) := by rfl) (hx : (bif b then evL l x else evL l y) = some v := by rfl) : PureE ops Q n l Wp i s v := by
  intro K a w H _ hK
  refine wpOp_go ho (okG_w H hg) s hd v w ?_ hK
  unfold execOp
  simp only [hp, H.ev hc]
  cases b with
  | true => rw [cond_true] at hx; rw [← H.ev hx]; rfl
  | false => rw [cond_false] at hx; rw [← H.ev hx]; rfl
theorem ja (hrun : ∀ w, (execOp (fun x => (evL l x).getD undef) o).run Tryd.prog w = .ok (.value v) w) (ho : ops[i]? = some o := by rfl) (hs : ∀ cs b, o.op ≠ .select cs b := by intro cs b h; cases h) (hk : o.op.operands.all (fun x => (evL l x).isSome) = true := by kernel_rfl) (hd : o.dst = some s := by rfl) (hg : okG ops l o = true := by rfl) : PureE ops Q n l Wp i s v :=
  fun _ _ w H _ hK => wpOp_go ho (okG_w H hg) s hd v w (run_any H hs hk (hrun w)) hK
theorem AllEv.app {a : Act} : ∀ {l l' : List (Nat × Value)}, AllEv a l → AllEv a l' → AllEv a (l ++ l')
  | [], _, _, h => h
  | _ :: _, _, h, h' => ⟨h.1, AllEv.app h.2 h'⟩
theorem EntC.e_op (t : EntC) : t.e.op = t.op := by unfold EntC.e; split <;> rfl
theorem known_ok {listed : Array Bool} {a : Act} {w : World} {es : List EntC} (hI : InvB n fixed (es.map EntC.e) Wp listed a w) {f : Array Edge} (hd : ∀ e ∈ f, Region.binds .any e = true → listed.getD e.on false = true) : ∀ {ts : List EntC}, (∀ t ∈ ts, t ∈ es) → AllEv a (knownE f.toList ts)
  | [], _ => trivial
  | t :: ts, h => by
    have ih := known_ok hI hd (ts := ts) fun u hu => h u (List.mem_cons_of_mem _ hu)
    unfold knownE
    cases hc : t.c with
    | none => exact ih
    | some v =>
      cases hb : aft f.toList t.op with
      | false => exact ih
      | true =>
        have hr : listed.getD t.op false = true := ran_of hd t.op (by unfold aft at hb; simpa using hb)
        have := hI.vs t.e (List.mem_map_of_mem (h t List.mem_cons_self)) (.inr (by rw [EntC.e_op]; exact hr))
        simp only [EntC.e, hc] at this
        exact ⟨this trivial, ih⟩
theorem pure_at {es : List EntC} : ∀ {ts : List EntC}, PureAll ops Q n fixed Wp es ts → ∀ t ∈ ts, ∀ v, t.c = some v → t.arm = false → PureE ops Q n (fixed ++ knownE (afts ops t.op) es) Wp t.op t.slot v
  | u :: us, h, t, ht, v, hv, hm => by
    unfold PureAll at h
    rcases List.mem_cons.1 ht with rfl | ht
    · rw [hv, hm] at h
      exact h.1
    · cases hc : u.c with
      | none => rw [hc] at h; exact pure_at h t ht v hv hm
      | some x =>
        cases ha : u.arm with
        | true => rw [hc, ha] at h; exact pure_at h t ht v hv hm
        | false => rw [hc, ha] at h; exact pure_at h.2 t ht v hv hm
theorem heavy_of {N : Nat} : ∀ {es : List EntC} {t : EntC}, t ∈ es → (t.c = none ∨ t.arm = true) → t.op < N → heavyL N es t.op
  | u :: us, t, ht, hc, hN => by
    unfold heavyL
    rcases List.mem_cons.1 ht with rfl | ht
    · have : Nat.blt t.op N = true := by simpa [Nat.blt_eq] using hN
      split
      · next h1 h2 =>
        rcases hc with hc | hc
        · rw [hc] at h1; cases h1
        · rw [hc] at h2; cases h2
      · simp only [this, cond_true, true_or]
    · have ih := heavy_of ht hc hN
      split
      · exact ih
      · cases Nat.blt u.op N with
        | true => exact .inr ih
        | false => exact ih
theorem start_of {N : Nat} {a : Act} {w : World} : ∀ {es : List EntC}, startL N a w es → ∀ t ∈ es, N ≤ t.op → t.e.p (a.eval (.tmp t.slot)) w
  | u :: us, h, t, ht, hN => by
    unfold startL at h
    cases hb : Nat.blt u.op N with
    | true =>
      rw [hb, cond_true] at h
      have : u.op < N := by simpa [Nat.blt_eq] using hb
      rcases List.mem_cons.1 ht with rfl | ht
      · omega
      · exact start_of h t ht hN
    | false =>
      rw [hb, cond_false] at h
      rcases List.mem_cons.1 ht with rfl | ht
      · have := h.1
        unfold EntC.e
        cases hc : t.c <;> (rw [hc] at this; exact this)
      · exact start_of h.2 t ht hN
theorem AllC.same {i : Nat} {listed : Array Bool} {w : World} : ∀ {es : List EntC}, AllC i listed w w es
  | [] => trivial
  | t :: ts => by
    unfold AllC
    cases t.c with
    | some v => exact AllC.same
    | none => exact ⟨fun _ _ _ _ _ h => h, AllC.same⟩
theorem AllC.all {i : Nat} {listed : Array Bool} {w w' : World} : ∀ {es : List EntC}, AllC i listed w w' es → AllSt i listed w w' (es.map EntC.e)
  | [], _ => trivial
  | t :: ts, h => by
    unfold AllC at h
    rw [List.map_cons]
    cases hc : t.c with
    | some v =>
      rw [hc] at h
      refine ⟨?_, AllC.all h⟩
      unfold EntC.e
      rw [hc]
      exact fun _ _ _ _ _ h => h
    | none =>
      rw [hc] at h
      refine ⟨?_, AllC.all h.2⟩
      unfold EntC.e
      rw [hc]
      exact h.1
/-- what an arm leaves. -/
theorem InvB.ph {es : List EntC} {listed : Array Bool} {a : Act} {w w' : World} {N : Nat} (h : InvB n fixed (es.map EntC.e) Wp listed a w) (hs : listed.size = N) (k : Nat) {t : EntC} (ht : es[k]? = some t) (v : Value) (hp : t.e.p v w') (hw : Wp' w') (hst : AllC t.op listed w w' es) (h1 : Nat.blt t.op N = true := by rfl)
    (h2 : Nat.ble N 1000 = true := by rfl) (hf : fitsB n fixed (es.map EntC.e) = true := by kernel_rfl) : InvB n fixed (es.map EntC.e) Wp' (listed.setIfInBounds t.e.op true) (a.put (some t.e.slot) v) w' :=
  h.put hf t.e (List.mem_map_of_mem (List.mem_of_getElem? ht)) (by rw [hs, EntC.e_op]; simpa [Nat.blt_eq] using h1) (by rw [hs]; simpa using h2) v hp hw (by rw [EntC.e_op]; exact hst.all)
theorem InvB.hs {es : List Ent} {listed : Array Bool} {a : Act} {w : World} (h : InvB n fixed es Wp listed a w) (ts : List Nat) : Has a n (fixed ++ ts.map fun t => (t, a.eval (.tmp t))) := by
  refine Has.of h.sz h.df (AllEv.app h.fx ?_)
  induction ts with
  | nil => trivial
  | cons t ts ih => exact ⟨rfl, ih⟩
theorem Has.dr {a : Act} {w W : World} {b : Nat} {bs : List (Nat × List Value)} {c : Code} {id : Nat} {Q' : Exit → Act → World → Prop} (H : Has a n l) (HB : Base W b bs w) (ss : List Nat) (hs : sel l ss = some fixed) (es : List EntC) (hc : peel Tryd.prog c Q' = (.region id ops true, Q)) (hp : PureAll ops Q n fixed (Base W b bs) es es) (h0 : startL ops.size a w.drew es)
    (hstep : ∀ (listed : Array Bool) (a : Act) (w : World) (i : Nat) (o : Oper), listed.size = ops.size → listed.getD i false = false → Closed .any ops listed → ops[i]? = some o → (∀ e ∈ o.after, Region.binds .any e = true → listed.getD e.on false = true) → InvB n fixed (es.map EntC.e) (Base W b bs) listed a w → heavyL ops.size es i →
      wpOp Tryd.prog ops Q i (fun a' w' => InvB n fixed (es.map EntC.e) (Base W b bs) (listed.setIfInBounds i true) a' w') a w)
    (hfin : ∀ (listed : Array Bool) (a : Act) (w : World), (∀ i, i < ops.size → listed.getD i false = true) → InvB n fixed (es.map EntC.e) (Base W b bs) listed a w → Q .normal a w)
    (hf : (fitsB n fixed (es.map EntC.e) && (coverB ops.size es && Nat.ble ops.size 1000)) = true := by kernel_rfl)
    (hback : (List.range ops.size).all (fun i => match ops[i]? with | some o => o.after.all (fun e => !Region.binds .any e || decide (e.on < i)) | none => true) = true := by kernel_rfl) (hm : Tryd.prog.follows .mixedOrders = true := by kernel_rfl) : c.wp Tryd.prog Q' a w := by
  simp only [Bool.and_eq_true] at hf
  obtain ⟨hf, hcv, hN⟩ := hf
  have hN : ops.size ≤ 1000 := by simpa using hN
  refine peel_wp c Q' ?_
  rw [hc]
  refine wp_region_invB hm (InvB n fixed (es.map EntC.e) (Base W b bs)) (back_of hback) ?_ hfin ⟨H.sz, H.df, sel_ok H hs, ?_, HB.drew⟩
  · intro listed a w i o hsz hni hcl ho hd hI
    have hi : i < ops.size := (Array.getElem?_eq_some_iff.1 ho).1
    have := List.all_eq_true.1 hcv i (List.mem_range.2 hi)
    obtain ⟨t, ht, he⟩ := List.any_eq_true.1 this
    have he : t.op = i := by simpa using he
    subst he
    cases hv : t.c with
    | none => exact hstep listed a w t.op o hsz hni hcl ho hd hI (heavy_of ht (.inl hv) hi)
    | some v =>
      cases hm : t.arm with
      | true => exact hstep listed a w t.op o hsz hni hcl ho hd hI (heavy_of ht (.inr hm) hi)
      | false =>
      have hk : afts ops t.op = o.after.toList := by unfold afts; rw [ho]
      have hK := hI.put hf t.e (List.mem_map_of_mem ht) (by rw [EntC.e_op, hsz]; exact hi) (by rw [hsz]; exact hN) v (by simp only [EntC.e, hv]) hI.wp AllSt.same
      rw [EntC.e_op] at hK
      have hsl : t.e.slot = t.slot := by simp only [EntC.e, hv]
      rw [hsl] at hK
      have hp' := pure_at hp t ht v hv hm
      rw [hk] at hp'
      exact hp' _ a w (Has.of hI.sz hI.df (AllEv.app hI.fx (known_ok hI hd fun _ h => h))) hI.wp hK
  · intro u hu hl _
    obtain ⟨t, ht, rfl⟩ := List.mem_map.1 hu
    rw [EntC.e_op] at hl
    have hsl : t.e.slot = t.slot := by unfold EntC.e; split <;> rfl
    rw [hsl]
    refine start_of h0 t ht ?_
    rcases hl with hl | hl
    · simpa using hl
    · rw [none_ran] at hl; cases hl
end
end Go.Proofs.YtkcdkjpmbjcmdaaDoor

/-
  A region that draws its order, in few words, where what holds of the world depends on what has come up.
-/
namespace Go.Proofs.YtkcdkjpmbjcmdaaDoor
open Go.RowKit

section
variable {ops : Array Oper} {Q : Exit → Act → World → Prop} {n : Nat} {l fixed : List (Nat × Value)} {Wp Wp' : World → Prop} {i s : Nat} {v : Value} {o : Oper}
theorem ju {b : UnOp} {T : TypeId} {x : Operand} {u : Value} (ho : ops[i]? = some o := by rfl) (hp : o.op = .unOp b T x := by rfl) (hd : o.dst = some s := by rfl) (hg : okG ops l o = true := by rfl) (hx : evL l x = some u := by rfl) (hq : ∀ w, (Op.unary b u).run Tryd.prog w = .ok v w := by exact fun _ => rfl) : PureE ops Q n l Wp i s v :=
  fun _ _ w H _ hK => wpOp_go ho (okG_w H hg) s hd v w (run_un hp (H.ev hx) (hq w)) hK
theorem run_store {P : Program} {a : Act} {w w' : World} {T : TypeId} {x y : Operand} {p v : Value} (ho : o.op = .store T x y) (hx : a.eval x = p) (hy : a.eval y = v) (hl : (Instr.storeAt T p v).run P w = .ok () w') : (execOp a.eval o).run P w = .ok .skip w' := by
  unfold execOp
  simp only [ho, hx, hy, Sem.run_bind, hl, Result.andThen_ok, Sem.run_pure]
/-- what holds of the world, by flags: which of the operations js have come up. -/
def Wfl (js : List Nat) (Wc : World → Prop) (Wf : List Bool → World → Prop) (listed : Array Bool) (w : World) : Prop := Wc w ∧ Wf (js.map fun j => listed.getD j false) w
def flagsSet (listed : Array Bool) (i : Nat) : List Nat → List Bool
  | [] => []
  | j :: js => (bif Nat.beq j i then true else listed.getD j false) :: flagsSet listed i js
theorem flags_set {listed : Array Bool} {i : Nat} (hi : i < listed.size) : ∀ js : List Nat, js.map (fun j => (listed.setIfInBounds i true).getD j false) = flagsSet listed i js
  | [] => rfl
  | j :: js => by
    rw [List.map_cons, flags_set hi js, flagsSet]
    congr 1
    cases hb : Nat.beq j i with
    | true =>
      have := Nat.eq_of_beq_eq_true hb
      subst this
      rw [ran_same listed hi, cond_true]
    | false =>
      have : i ≠ j := fun e => by subst e; rw [Nat.beq_refl] at hb; cases hb
      rw [ran_ne listed this, cond_false]
def anyL : List Nat → Nat → Prop
  | [], _ => False
  | d :: ds, i => i = d ∨ anyL ds i
theorem any_of {i : Nat} : ∀ {ds : List Nat}, i ∈ ds → anyL ds i
  | d :: ds, h => by
    rcases List.mem_cons.1 h with rfl | h
    · exact .inl rfl
    · exact .inr (any_of h)
def coverD (N : Nat) (es : List EntC) (ds : List Nat) : Bool := (List.range N).all (fun i => es.any (fun t => t.op == i) || ds.contains i)
def plainB (t : EntC) : Bool := t.c.isSome && !t.arm
theorem InvB.mono {es : List Ent} {listed : Array Bool} {a : Act} {w : World} (h : InvB n fixed es Wp listed a w) (hw : Wp w → Wp' w) : InvB n fixed es Wp' listed a w := ⟨h.sz, h.df, h.fx, h.vs, hw h.wp⟩
theorem Wfl.plain {js : List Nat} {Wc : World → Prop} {Wf : List Bool → World → Prop} {listed : Array Bool} {i : Nat} {w : World} (h : Wfl js Wc Wf listed w) (_hi : i < listed.size) (hj : i ∉ js) : Wfl js Wc Wf (listed.setIfInBounds i true) w := by
  refine ⟨h.1, ?_⟩
  have : (js.map fun j => (listed.setIfInBounds i true).getD j false) = js.map fun j => listed.getD j false := List.map_congr_left fun j hjm => ran_ne listed fun e => hj (by rw [e]; exact hjm)
  rw [this]
  exact h.2
/-- what an arm leaves, by flags. -/
theorem InvB.pf {es : List EntC} {js : List Nat} {Wc : World → Prop} {Wf : List Bool → World → Prop} {listed : Array Bool} {a : Act} {w w' : World} {N : Nat} (h : InvB n fixed (es.map EntC.e) (Wfl js Wc Wf listed) listed a w) (hs : listed.size = N) (k : Nat) {t : EntC} (ht : es[k]? = some t) (v : Value) (hp : t.e.p v w') (hc : Wc w') (hw : Wf (flagsSet listed t.op js) w') (hst : AllC t.op listed w w' es)
    (h1 : Nat.blt t.op N = true := by rfl) (h2 : Nat.ble N 1000 = true := by rfl) (hf : fitsB n fixed (es.map EntC.e) = true := by kernel_rfl) : InvB n fixed (es.map EntC.e) (Wfl js Wc Wf (listed.setIfInBounds t.e.op true)) (listed.setIfInBounds t.e.op true) (a.put (some t.e.slot) v) w' :=
  h.ph hs k ht v hp ⟨hc, by rw [EntC.e_op, flags_set (by rw [hs]; simpa [Nat.blt_eq] using h1)]; exact hw⟩ hst h1 h2 hf
/-- an arm of an operation that has no slot. -/
theorem InvB.pd {es : List EntC} {js : List Nat} {Wc : World → Prop} {Wf : List Bool → World → Prop} {listed : Array Bool} {a : Act} {w w' : World} {N : Nat} (h : InvB n fixed (es.map EntC.e) (Wfl js Wc Wf listed) listed a w) (hs : listed.size = N) (i : Nat) (hc : Wc w') (hw : Wf (flagsSet listed i js) w') (hst : AllC i listed w w' es)
    (h1 : Nat.blt i N = true := by rfl) (h2 : (es.map EntC.e).all (fun t => t.op != i) = true := by kernel_rfl) : InvB n fixed (es.map EntC.e) (Wfl js Wc Wf (listed.setIfInBounds i true)) (listed.setIfInBounds i true) a w' := by
  have hi : i < listed.size := by rw [hs]; simpa [Nat.blt_eq] using h1
  exact h.done i hi h2 ⟨hc, by rw [flags_set hi]; exact hw⟩ hst.all
theorem Has.dg {a : Act} {w : World} {c : Code} {id : Nat} {Q' : Exit → Act → World → Prop} (H : Has a n l) (js : List Nat) (Wc : World → Prop) (Wf : List Bool → World → Prop) (ss : List Nat) (hs : sel l ss = some fixed) (es : List EntC) (ds : List Nat) (hc : peel Tryd.prog c Q' = (.region id ops true, Q)) (hw : Wc w.drew) (hw' : Wf (js.map fun _ => false) w.drew) (hp : PureAll ops Q n fixed Wc es es) (h0 : startL ops.size a w.drew es)
    (hstep : ∀ (listed : Array Bool) (a : Act) (w : World) (i : Nat) (o : Oper), listed.size = ops.size → listed.getD i false = false → Closed .any ops listed → ops[i]? = some o → (∀ e ∈ o.after, Region.binds .any e = true → listed.getD e.on false = true) → InvB n fixed (es.map EntC.e) (Wfl js Wc Wf listed) listed a w → (heavyL ops.size es i ∨ anyL ds i) →
      wpOp Tryd.prog ops Q i (fun a' w' => InvB n fixed (es.map EntC.e) (Wfl js Wc Wf (listed.setIfInBounds i true)) (listed.setIfInBounds i true) a' w') a w)
    (hfin : ∀ (listed : Array Bool) (a : Act) (w : World), (∀ i, i < ops.size → listed.getD i false = true) → InvB n fixed (es.map EntC.e) (fun w => Wc w ∧ Wf (js.map fun _ => true) w) listed a w → Q .normal a w)
    (hf : (fitsB n fixed (es.map EntC.e) && (es.all (fun t => !plainB t || !js.contains t.op) && (js.all (fun j => Nat.blt j ops.size) && (coverD ops.size es ds && Nat.ble ops.size 1000)))) = true := by kernel_rfl)
    (hback : (List.range ops.size).all (fun i => match ops[i]? with | some o => o.after.all (fun e => !Region.binds .any e || decide (e.on < i)) | none => true) = true := by kernel_rfl) (hm : Tryd.prog.follows .mixedOrders = true := by kernel_rfl) : c.wp Tryd.prog Q' a w := by
  simp only [Bool.and_eq_true] at hf
  obtain ⟨hf, hpl, hjs, hcv, hN⟩ := hf
  have hN : ops.size ≤ 1000 := by simpa using hN
  refine peel_wp c Q' ?_
  rw [hc]
  refine wp_region_invB hm (fun listed => InvB n fixed (es.map EntC.e) (Wfl js Wc Wf listed) listed) (back_of hback) ?_ ?_ ⟨H.sz, H.df, sel_ok H hs, ?_, hw, ?_⟩
  · intro listed a w i o hsz hni hcl ho hd hI
    have hi : i < ops.size := (Array.getElem?_eq_some_iff.1 ho).1
    by_cases hmem : i ∈ es.map (·.op)
    · obtain ⟨t, ht, he⟩ := List.mem_map.1 hmem
      subst he
      cases hv : t.c with
      | none => exact hstep listed a w t.op o hsz hni hcl ho hd hI (.inl (heavy_of ht (.inl hv) hi))
      | some v =>
        cases hm : t.arm with
        | true => exact hstep listed a w t.op o hsz hni hcl ho hd hI (.inl (heavy_of ht (.inr hm) hi))
        | false =>
          have hk : afts ops t.op = o.after.toList := by unfold afts; rw [ho]
          have hnj : t.op ∉ js := by
            have := List.all_eq_true.1 hpl t ht
            simpa [plainB, hv, hm] using this
          have hK := (hI.put hf t.e (List.mem_map_of_mem ht) (by rw [EntC.e_op, hsz]; exact hi) (by rw [hsz]; exact hN) v (by simp only [EntC.e, hv]) hI.wp AllSt.same).mono (Wp' := Wfl js Wc Wf (listed.setIfInBounds t.op true)) fun h => h.plain (by rw [hsz]; exact hi) hnj
          rw [EntC.e_op] at hK
          have hsl : t.e.slot = t.slot := by simp only [EntC.e, hv]
          rw [hsl] at hK
          have hp' := pure_at hp t ht v hv hm
          rw [hk] at hp'
          exact hp' _ a w (Has.of hI.sz hI.df (AllEv.app hI.fx (known_ok hI hd fun _ h => h))) hI.wp.1 hK
    · have := List.all_eq_true.1 hcv i (List.mem_range.2 hi)
      simp only [Bool.or_eq_true] at this
      rcases this with h | h
      · obtain ⟨t, ht, he⟩ := List.any_eq_true.1 h
        exact absurd (List.mem_map.2 ⟨t, ht, by simpa using he⟩) hmem
      · exact hstep listed a w i o hsz hni hcl ho hd hI (.inr (any_of (by simpa using h)))
  · intro listed a w hall hI
    refine hfin listed a w hall (hI.mono fun h => ⟨h.1, ?_⟩)
    have : (js.map fun j => listed.getD j false) = js.map fun _ => true := List.map_congr_left fun j hj => hall j (by simpa [Nat.blt_eq] using List.all_eq_true.1 hjs j hj)
    rw [← this]
    exact h.2
  · intro u hu hl _
    obtain ⟨t, ht, rfl⟩ := List.mem_map.1 hu
    rw [EntC.e_op] at hl
    have hsl : t.e.slot = t.slot := by unfold EntC.e; split <;> rfl
    rw [hsl]
    refine start_of h0 t ht ?_
    rcases hl with hl | hl
    · simpa using hl
    · rw [none_ran] at hl; cases hl
  · have : (js.map fun j => (Array.replicate ops.size false).getD j false) = js.map fun _ => false := List.map_congr_left fun j _ => none_ran _ _
    rw [this]
    exact hw'
end
end Go.Proofs.YtkcdkjpmbjcmdaaDoor

/-
  A region that draws its order, in few words: operations that may make memory too, each told by what it leaves.
-/
namespace Go.Proofs.YtkcdkjpmbjcmdaaDoor
open Go.RowKit

theorem loadS_run {w : World} {g : Nat} {L : List Value} {m : Nat} (hC : Cells w g L) (hi : (Tryd.prog.info? 30).map (·.size) = some m := by exact size_mq) (hl : L.length = m := by rfl) : (Instr.loadAt 30 (.pointer (some ⟨g, 0, none⟩))).run Tryd.prog w = .ok (.agg L.toArray) w := by
  rw [← hl] at hi
  have := run_loadVar_mid w g 0 30 L _ hC.range Tryd.underlying30 rfl hi
  simp only [Instr.loadAt, Instr.sureAddr, Sem.run_bind, Sem.run_pure, Result.andThen_ok, this]
theorem Cells.sto {w : World} {g T m : Nat} {L0 L : List Value} (hC : Cells w g L0) (hm : (Tryd.prog.info? T).map (·.size) = some m) (h0 : L0.length = m) (h1 : L.length = m) (hc : L.all (·.oneCell') = true) :
    ∃ w', (Instr.storeAt T (.pointer (some ⟨g, 0, none⟩)) (.agg L.toArray)).run Tryd.prog w = .ok () w' ∧ w.grownBy w' (some g) ∧ w'.heap.size = w.heap.size ∧ Cells w' g L := by
  have ht : w.there g 0 L.toArray.size := by
    have := hC.there
    rw [h0, ← h1] at this
    simpa using this
  refine ⟨_, run_storeAt_mid w g 0 T L.toArray ht (by rw [hm, ← h1]; simp) (all_oneCell_toArray fun v hv => List.all_eq_true.1 hc v hv), (setCells_only g _ 0 w).2, (setCells_only g _ 0 w).1.size, ?_⟩
  intro j v hv
  have hj := (List.getElem?_eq_some_iff.1 hv).1
  have a := World.rangeAt_setCells_same w g 0 L (by simpa using ht) j v hv
  have b := (World.there_setCells (by simpa using ht) g 0 L j hj).2
  rw [Nat.zero_add] at a b
  exact ⟨a, b⟩
/-- what is told of the slots of the others that an operation, behind these edges, finds. -/
def KnownR (L : List Edge) (a : Act) (w : World) : List EntC → Prop
  | [] => True
  | ⟨k, s, _, c, q, _⟩ :: ts => match c with
    | some _ => KnownR L a w ts
    | none => bif aft L k then (q (a.eval (.tmp s)) w ∧ KnownR L a w ts) else KnownR L a w ts
/-- what an operation that may make memory must do. -/
def HeavyE (ops : Array Oper) (Q : Exit → Act → World → Prop) (n : Nat) (fixed : List (Nat × Value)) (Wp : World → Prop) (es : List EntC) (t : EntC) : Prop :=
  ∀ (K : Act → World → Prop) (a : Act) (w : World), Has a n (fixed ++ knownE (afts ops t.op) es) → KnownR (afts ops t.op) a w es → Wp w → (∀ v w', t.e.p v w' → Below w.heap.size w w' → K (a.put (some t.slot) v) w') → wpOp Tryd.prog ops Q t.op K a w
def HeavyAll (ops : Array Oper) (Q : Exit → Act → World → Prop) (n : Nat) (fixed : List (Nat × Value)) (Wp : World → Prop) (es : List EntC) : List EntC → Prop
  | [] => True
  | ⟨k, s, ks, c, q, m⟩ :: ts => match c, m with
    | some _, false => HeavyAll ops Q n fixed Wp es ts
    | _, _ => HeavyE ops Q n fixed Wp es ⟨k, s, ks, c, q, m⟩ ∧ HeavyAll ops Q n fixed Wp es ts
/-- what is told stays, whatever memory is made. -/
def StabAll : List EntC → Prop
  | [] => True
  | ⟨_, _, _, c, q, _⟩ :: ts => match c with
    | some _ => StabAll ts
    | none => (∀ u w w', Below w.heap.size w w' → q u w → q u w') ∧ StabAll ts
def finV : List EntC → List (Nat × Value)
  | [] => []
  | ⟨_, s, _, c, _, _⟩ :: ts => match c with
    | some v => (s, v) :: finV ts
    | none => finV ts
def FinR (a : Act) (w : World) : List EntC → Prop
  | [] => True
  | ⟨_, s, _, c, q, _⟩ :: ts => match c with
    | some _ => FinR a w ts
    | none => q (a.eval (.tmp s)) w ∧ FinR a w ts
theorem StabAll.all {i : Nat} {listed : Array Bool} {w w' : World} (hb : Below w.heap.size w w') : ∀ {es : List EntC}, StabAll es → AllC i listed w w' es
  | [], _ => trivial
  | t :: ts, h => by
    unfold StabAll at h
    unfold AllC
    cases hc : t.c with
    | some v => rw [hc] at h; exact StabAll.all hb h
    | none =>
      rw [hc] at h
      exact ⟨fun _ _ _ _ u hu => h.1 u w w' hb hu, StabAll.all hb h.2⟩
section
variable {ops : Array Oper} {Q : Exit → Act → World → Prop} {n : Nat} {l fixed : List (Nat × Value)} {Wp : World → Prop} {es : List EntC} {i s : Nat} {v : Value} {o : Oper}
theorem heavy_at : ∀ {ts : List EntC}, HeavyAll ops Q n fixed Wp es ts → ∀ t ∈ ts, (t.c = none ∨ t.arm = true) → HeavyE ops Q n fixed Wp es t
  | u :: us, h, t, ht, hc => by
    unfold HeavyAll at h
    rcases List.mem_cons.1 ht with rfl | ht
    · split at h
      · next h1 h2 =>
        rcases hc with hc | hc
        · rw [hc] at h1; cases h1
        · rw [hc] at h2; cases h2
      · exact h.1
    · split at h
      · exact heavy_at h t ht hc
      · exact heavy_at h.2 t ht hc
theorem heavy_ex {N i : Nat} : ∀ {ts : List EntC}, heavyL N ts i → ∃ t ∈ ts, t.op = i ∧ (t.c = none ∨ t.arm = true)
  | u :: us, h => by
    unfold heavyL at h
    have go : heavyL N us i → ∃ t ∈ u :: us, t.op = i ∧ (t.c = none ∨ t.arm = true) := fun h => by
      obtain ⟨t, ht, hx⟩ := heavy_ex h
      exact ⟨t, List.mem_cons_of_mem _ ht, hx⟩
    split at h
    · exact go h
    · next h1 =>
      cases hb : Nat.blt u.op N with
      | false => rw [hb, cond_false] at h; exact go h
      | true =>
        rw [hb, cond_true] at h
        rcases h with h | h
        · refine ⟨u, List.mem_cons_self, h.symm, ?_⟩
          cases hc : u.c with
          | none => exact .inl rfl
          | some v =>
            cases hm : u.arm with
            | true => exact .inr rfl
            | false => exact (h1 v hc hm).elim
        · exact go h
theorem knownR_ok {listed : Array Bool} {a : Act} {w : World} (hI : InvB n fixed (es.map EntC.e) Wp listed a w) (hkill : es.all (fun t => t.kill.isEmpty) = true) {f : Array Edge} (hd : ∀ e ∈ f, Region.binds .any e = true → listed.getD e.on false = true) : ∀ {ts : List EntC}, (∀ t ∈ ts, t ∈ es) → KnownR f.toList a w ts
  | [], _ => trivial
  | t :: ts, h => by
    have ih := knownR_ok hI hkill hd (ts := ts) fun u hu => h u (List.mem_cons_of_mem _ hu)
    have ht := h t List.mem_cons_self
    unfold KnownR
    cases hc : t.c with
    | some v => exact ih
    | none =>
      cases hb : aft f.toList t.op with
      | false => exact ih
      | true =>
        have hr : listed.getD t.op false = true := ran_of hd t.op (by unfold aft at hb; simpa using hb)
        have hk : t.kill = [] := by simpa using List.all_eq_true.1 hkill t ht
        have := hI.vs t.e (List.mem_map_of_mem ht) (.inr (by rw [EntC.e_op]; exact hr)) (by simp only [EntC.e, hc, hk]; trivial)
        simp only [EntC.e, hc] at this
        exact ⟨this, ih⟩
theorem finV_ok {listed : Array Bool} {a : Act} {w : World} (hI : InvB n fixed (es.map EntC.e) Wp listed a w) (hall : ∀ t ∈ es, listed.getD t.op false = true) : ∀ {ts : List EntC}, (∀ t ∈ ts, t ∈ es) → AllEv a (finV ts)
  | [], _ => trivial
  | t :: ts, h => by
    have ih := finV_ok hI hall (ts := ts) fun u hu => h u (List.mem_cons_of_mem _ hu)
    have ht := h t List.mem_cons_self
    unfold finV
    cases hc : t.c with
    | none => exact ih
    | some v =>
      have := hI.vs t.e (List.mem_map_of_mem ht) (.inr (by rw [EntC.e_op]; exact hall t ht)) (by simp only [EntC.e, hc]; trivial)
      simp only [EntC.e, hc] at this
      exact ⟨this, ih⟩
theorem finR_ok {listed : Array Bool} {a : Act} {w : World} (hI : InvB n fixed (es.map EntC.e) Wp listed a w) (hkill : es.all (fun t => t.kill.isEmpty) = true) (hall : ∀ t ∈ es, listed.getD t.op false = true) : ∀ {ts : List EntC}, (∀ t ∈ ts, t ∈ es) → FinR a w ts
  | [], _ => trivial
  | t :: ts, h => by
    have ih := finR_ok hI hkill hall (ts := ts) fun u hu => h u (List.mem_cons_of_mem _ hu)
    have ht := h t List.mem_cons_self
    unfold FinR
    cases hc : t.c with
    | some v => exact ih
    | none =>
      have hk : t.kill = [] := by simpa using List.all_eq_true.1 hkill t ht
      have := hI.vs t.e (List.mem_map_of_mem ht) (.inr (by rw [EntC.e_op]; exact hall t ht)) (by simp only [EntC.e, hc, hk]; trivial)
      simp only [EntC.e, hc] at this
      exact ⟨this, ih⟩
/-- a region that draws: the table, a reason for each operation. -/
theorem Has.dq {a : Act} {w : World} {c : Code} {id : Nat} {Q' : Exit → Act → World → Prop} (H : Has a n l) (Wp : World → Prop) (hk : ∀ w w', Wp w → Below w.heap.size w w' → Wp w') (hw : Wp w) (ss : List Nat) (hs : sel l ss = some fixed) (es : List EntC) (hc : peel Tryd.prog c Q' = (.region id ops true, Q)) (hp : PureAll ops Q n fixed Wp es es) (hh : HeavyAll ops Q n fixed Wp es es)
    (hfin : ∀ (a : Act) (w : World), Has a n (fixed ++ finV es) → FinR a w es → Wp w → Q .normal a w) (hst : StabAll es := by exact trivial) (h0 : startL ops.size a w.drew es := by exact trivial)
    (hf : (fitsB n fixed (es.map EntC.e) && (es.all (fun t => !plainB t || !([] : List Nat).contains t.op) && (([] : List Nat).all (fun j => Nat.blt j ops.size) && (coverD ops.size es [] && Nat.ble ops.size 1000)))) = true := by kernel_rfl)
    (hl : (es.all (fun t => t.kill.isEmpty) && es.all (fun t => Nat.blt t.op ops.size)) = true := by kernel_rfl)
    (hback : (List.range ops.size).all (fun i => match ops[i]? with | some o => o.after.all (fun e => !Region.binds .any e || decide (e.on < i)) | none => true) = true := by kernel_rfl) (hm : Tryd.prog.follows .mixedOrders = true := by kernel_rfl) : c.wp Tryd.prog Q' a w := by
  have hf' := hf
  simp only [Bool.and_eq_true] at hf' hl
  obtain ⟨hf1, _, _, _, hN⟩ := hf'
  have hN : ops.size ≤ 1000 := by simpa using hN
  refine H.dg [] Wp (fun _ _ => True) ss hs es [] hc (hk _ _ hw (Below.drew (Below.refl _ _))) trivial hp h0 ?_ ?_ hf hback hm
  · intro listed a w i o hsz hni hcl ho hd hI hh'
    have hh' : heavyL ops.size es i := by
      rcases hh' with h | h
      · exact h
      · exact False.elim h
    obtain ⟨t, ht, rfl, hx⟩ := heavy_ex hh'
    have hi : t.op < listed.size := by rw [hsz]; exact (Array.getElem?_eq_some_iff.1 ho).1
    have hkk : afts ops t.op = o.after.toList := by unfold afts; rw [ho]
    have hE := heavy_at hh t ht hx
    unfold HeavyE at hE
    rw [hkk] at hE
    refine hE _ a w (Has.of hI.sz hI.df (AllEv.app hI.fx (known_ok hI hd fun _ h => h))) (knownR_ok hI hl.1 hd fun _ h => h) hI.wp.1 ?_
    intro v w' hpv hb
    have := hI.put (Wp' := Wfl [] Wp (fun _ _ => True) (listed.setIfInBounds t.op true)) hf1 t.e (List.mem_map_of_mem ht) (by rw [EntC.e_op]; exact hi) (by rw [hsz]; exact hN) v hpv ⟨hk _ _ hI.wp.1 hb, trivial⟩ (StabAll.all hb hst).all
    rw [EntC.e_op] at this
    have hsl : t.e.slot = t.slot := by unfold EntC.e; split <;> rfl
    rw [hsl] at this
    exact this
  · intro listed a w hall hI
    have hall' : ∀ t ∈ es, listed.getD t.op false = true := fun t ht => hall t.op (by simpa [Nat.blt_eq] using List.all_eq_true.1 hl.2 t ht)
    exact hfin a w (Has.of hI.sz hI.df (AllEv.app hI.fx (finV_ok hI hall' fun _ h => h))) (finR_ok hI hl.1 hall' fun _ h => h) hI.wp.1
/-- a call that makes memory, its value told. -/
theorem kb {f : FuncId} {xs : Array Operand} {ats : Array TypeId} {vs : List Value} (hc : ∀ w, Wp w → Calls Tryd.prog f vs.toArray w fun e w' => e = .returned v ∧ Below w.heap.size w w') (ho : ops[i]? = some o := by rfl) (hp : o.op = .call { callee := .value (.func f), args := xs, argTypes := ats } := by rfl) (hd : o.dst = some s := by rfl)
    (hg : okG ops (fixed ++ knownE (afts ops i) es) o = true := by rfl) (hx : evLs (fixed ++ knownE (afts ops i) es) xs.toList = some vs := by rfl) (hen : ∀ (args : Array Value) (w : World), (callFunc f args).run Tryd.prog w = .ok (.enter f args) w := by exact fun _ _ => by kernel_rfl) : HeavyE ops Q n fixed Wp es (eh i s v) :=
  fun _ _ w H _ hw hK => wpOp_enter ho (okG_w H hg) s hd f _ (run_callH H hp hx hen) _ (belowC (hc w hw)) (by rintro _ w' ⟨rfl, hb⟩; exact hK _ w' rfl hb)
/-- a call that makes memory, its value told by what holds of it. -/
theorem kr {f : FuncId} {xs : Array Operand} {ats : Array TypeId} {vs : List Value} {q : Value → World → Prop} (hc : ∀ w, Wp w → Calls Tryd.prog f vs.toArray w fun e w' => ∃ v, e = .returned v ∧ (q v w' ∧ Below w.heap.size w w')) (ho : ops[i]? = some o := by rfl) (hp : o.op = .call { callee := .value (.func f), args := xs, argTypes := ats } := by rfl) (hd : o.dst = some s := by rfl)
    (hg : okG ops (fixed ++ knownE (afts ops i) es) o = true := by rfl) (hx : evLs (fixed ++ knownE (afts ops i) es) xs.toList = some vs := by rfl) (hen : ∀ (args : Array Value) (w : World), (callFunc f args).run Tryd.prog w = .ok (.enter f args) w := by exact fun _ _ => by kernel_rfl) : HeavyE ops Q n fixed Wp es (er i s [] q) :=
  fun _ _ w H _ hw hK => wpOp_enter ho (okG_w H hg) s hd f _ (run_callH H hp hx hen) _ (hc w hw) (by rintro _ w' ⟨hq, hb⟩; exact hK _ w' hq hb)
/-- one that is not wanted. -/
theorem ko (ho : ops[i]? = some o := by rfl) (hd : o.dst = some s := by rfl) (hg : offG ops (fixed ++ knownE (afts ops i) es) o = true := by rfl) : HeavyE ops Q n fixed Wp es (eh i s undef) :=
  fun _ _ w H _ _ hK => wpOp_off ho (offG_w H hg) (by rw [hd]; exact hK undef w rfl (Below.refl _ _))
theorem kor {q : Value → World → Prop} (hq : ∀ w, q undef w) (ho : ops[i]? = some o := by rfl) (hd : o.dst = some s := by rfl) (hg : offG ops (fixed ++ knownE (afts ops i) es) o = true := by rfl) : HeavyE ops Q n fixed Wp es (er i s [] q) :=
  fun _ _ w H _ _ hK => wpOp_off ho (offG_w H hg) (by rw [hd]; exact hK undef w (hq w) (Below.refl _ _))
/-- a call whose arguments are told by what holds of them. -/
theorem kc {f : FuncId} {xs : Array Operand} {ats : Array TypeId} {t : EntC} (hc : ∀ a w, Has a n (fixed ++ knownE (afts ops t.op) es) → KnownR (afts ops t.op) a w es → Wp w → ∃ vs : List Value, xs.toList.map a.eval = vs ∧ Calls Tryd.prog f vs.toArray w fun e w' => ∃ v, e = .returned v ∧ (t.e.p v w' ∧ Below w.heap.size w w')) (ho : ops[t.op]? = some o := by rfl)
    (hp : o.op = .call { callee := .value (.func f), args := xs, argTypes := ats } := by rfl) (hd : o.dst = some t.slot := by rfl) (hg : okG ops (fixed ++ knownE (afts ops t.op) es) o = true := by rfl) (hen : ∀ (args : Array Value) (w : World), (callFunc f args).run Tryd.prog w = .ok (.enter f args) w := by exact fun _ _ => by kernel_rfl) : HeavyE ops Q n fixed Wp es t := by
  intro K a w H hr hw hK
  obtain ⟨vs, e, hc⟩ := hc a w H hr hw
  exact wpOp_enter ho (okG_w H hg) t.slot hd f _ (run_call hp (by rw [← e, ← Array.toList_map, Array.toArray_toList]) hen) _ hc (by rintro _ w' ⟨hq, hb⟩; exact hK _ w' hq hb)
theorem kx {t : EntC} (hrun : ∀ a w, Has a n (fixed ++ knownE (afts ops t.op) es) → KnownR (afts ops t.op) a w es → Wp w → ∃ v w', (execOp a.eval o).run Tryd.prog w = .ok (.value v) w' ∧ t.e.p v w' ∧ Below w.heap.size w w') (ho : ops[t.op]? = some o := by rfl) (hd : o.dst = some t.slot := by rfl)
    (hg : okG ops (fixed ++ knownE (afts ops t.op) es) o = true := by rfl) : HeavyE ops Q n fixed Wp es t := by
  intro K a w H hr hw hK
  obtain ⟨v, w', h, hq, hb⟩ := hrun a w H hr hw
  exact wpOp_go ho (okG_w H hg) t.slot hd v w' h (hK v w' hq hb)
end
end Go.Proofs.YtkcdkjpmbjcmdaaDoor

/-
  A region that draws its order, walked like one that does not: what makes memory or stores comes in one order (each behind the one before it), the rest comes up whenever it may.
-/
namespace Go.Proofs.YtkcdkjpmbjcmdaaDoor
open Go.RowKit

def memN : List Nat → Nat → Bool
  | [], _ => false
  | x :: l, k => bif Nat.beq x k then true else memN l k
theorem memN_ok {k : Nat} : ∀ {l : List Nat}, memN l k = true → k ∈ l
  | x :: l, h => by
    unfold memN at h
    cases hb : Nat.beq x k with
    | true => rw [Nat.eq_of_beq_eq_true hb]; exact List.mem_cons_self
    | false => rw [hb, cond_false] at h; exact List.mem_cons_of_mem _ (memN_ok h)
theorem memN_of {k : Nat} : ∀ {l : List Nat}, k ∈ l → memN l k = true
  | x :: l, h => by
    unfold memN
    rcases List.mem_cons.1 h with rfl | h
    · rw [Nat.beq_refl, cond_true]
    · cases Nat.beq x k with
      | true => rfl
      | false => exact memN_of h
/-- all that must have come up when these have. -/
def ons : List Edge → List Nat → List Nat
  | [], S => S
  | e :: L, S => bif Region.binds .any e then e.on :: ons L S else ons L S
def ancGo (ops : Array Oper) : Nat → List Nat → List Nat
  | 0, S => S
  | i + 1, S => ancGo ops i (bif memN S i then ons (afts ops i) S else S)
def doneN (ops : Array Oper) (h : Nat) (done : List Nat) : List Nat := ancGo ops (h + 1) (h :: done)
theorem ons_ok {listed : Array Bool} : ∀ {L : List Edge} {S : List Nat}, (∀ e ∈ L, Region.binds .any e = true → listed.getD e.on false = true) → (∀ j ∈ S, listed.getD j false = true) → ∀ j ∈ ons L S, listed.getD j false = true
  | [], S, _, hS, j, hj => hS j hj
  | e :: L, S, hL, hS, j, hj => by
    have ih := ons_ok (L := L) (S := S) (fun e' he => hL e' (List.mem_cons_of_mem _ he)) hS
    unfold ons at hj
    cases hb : Region.binds .any e with
    | true =>
      rw [hb, cond_true] at hj
      rcases List.mem_cons.1 hj with rfl | hj
      · exact hL e List.mem_cons_self hb
      · exact ih j hj
    | false => rw [hb, cond_false] at hj; exact ih j hj
theorem anc_ok {ops : Array Oper} {listed : Array Bool} (hc : Closed .any ops listed) : ∀ (i : Nat) {S : List Nat}, (∀ j ∈ S, listed.getD j false = true) → ∀ j ∈ ancGo ops i S, listed.getD j false = true
  | 0, _, hS, j, hj => hS j hj
  | i + 1, S, hS, j, hj => by
    unfold ancGo at hj
    refine anc_ok hc i ?_ j hj
    cases hb : memN S i with
    | false => rw [cond_false]; exact hS
    | true =>
      rw [cond_true]
      have hi := hS i (memN_ok hb)
      refine ons_ok ?_ hS
      intro e he hbd
      unfold afts at he
      split at he
      · next o ho => exact hc i o ho hi e (by simpa using he) hbd
      · cases he
theorem anc_sub {ops : Array Oper} : ∀ (i : Nat) {S : List Nat}, ∀ j ∈ S, j ∈ ancGo ops i S
  | 0, _, j, hj => hj
  | i + 1, S, j, hj => by
    unfold ancGo
    refine anc_sub i j ?_
    cases memN S i with
    | false => exact hj
    | true =>
      rw [cond_true]
      generalize afts ops i = L
      induction L with
      | nil => exact hj
      | cons e L ih =>
        unfold ons
        cases Region.binds .any e with
        | true => exact List.mem_cons_of_mem _ ih
        | false => exact ih
def dropE (drop : List Nat) : List EntC → List EntC
  | [] => []
  | ⟨k, s, ks, c, q, m⟩ :: ts => bif memN drop k then dropE drop ts else ⟨k, s, ks, c, q, m⟩ :: dropE drop ts
theorem dropE_ok {drop : List Nat} : ∀ {es : List EntC} {t : EntC}, t ∈ dropE drop es → t ∈ es ∧ memN drop t.op = false
  | u :: us, t, h => by
    unfold dropE at h
    cases hb : memN drop u.op with
    | true => rw [hb, cond_true] at h; exact ⟨List.mem_cons_of_mem _ (dropE_ok h).1, (dropE_ok h).2⟩
    | false =>
      rw [hb, cond_false] at h
      rcases List.mem_cons.1 h with rfl | h
      · exact ⟨List.mem_cons_self, hb⟩
      · exact ⟨List.mem_cons_of_mem _ (dropE_ok h).1, (dropE_ok h).2⟩
theorem dropE_in {drop : List Nat} : ∀ {es : List EntC} {t : EntC}, t ∈ es → memN drop t.op = true ∨ t ∈ dropE drop es
  | u :: us, t, h => by
    unfold dropE
    rcases List.mem_cons.1 h with rfl | h
    · cases hb : memN drop t.op with
      | true => exact .inl rfl
      | false => rw [cond_false]; exact .inr List.mem_cons_self
    · rcases dropE_in (drop := drop) h with h | h
      · exact .inl h
      · cases hb : memN drop u.op with
        | true => rw [cond_true]; exact .inr h
        | false => rw [cond_false]; exact .inr (List.mem_cons_of_mem _ h)
/-- what is told of slots stays so over one step. -/
def Keeps (w w' : World) : List EntC → Prop
  | [] => True
  | ⟨_, _, _, c, q, _⟩ :: ts => match c with
    | some _ => Keeps w w' ts
    | none => (∀ u, q u w → q u w') ∧ Keeps w w' ts
theorem Keeps.get {w w' : World} : ∀ {es : List EntC}, Keeps w w' es → ∀ t ∈ es, ∀ u, t.e.p u w → t.e.p u w'
  | t :: ts, h, u, hu, v, hv => by
    unfold Keeps at h
    rcases List.mem_cons.1 hu with rfl | hu
    · cases hc : u.c with
      | some x => simp only [EntC.e, hc] at hv ⊢; exact hv
      | none =>
        rw [hc] at h
        simp only [EntC.e, hc] at hv ⊢
        exact h.1 v hv
    · split at h
      · exact Keeps.get h u hu v hv
      · exact Keeps.get h.2 u hu v hv
theorem StabAll.keeps {w w' : World} (hb : Below w.heap.size w w') : ∀ {es : List EntC}, StabAll es → Keeps w w' es
  | [], _ => trivial
  | t :: ts, h => by
    unfold StabAll at h
    unfold Keeps
    cases hc : t.c with
    | some v => rw [hc] at h; exact StabAll.keeps hb h
    | none =>
      rw [hc] at h
      exact ⟨fun u hu => h.1 u w w' hb hu, StabAll.keeps hb h.2⟩
theorem run_app {P : Program} {o : Oper} {a : Act} {w : World} {s x : Operand} {t : TypeId} (ho : o.op = .call { callee := .builtin .append, args := #[s, x], argTypes := #[t, t] }) {base : Nat} {e : TypeId} {z : Value} {size bytes : Nat} (ht : P.underlying t = some (.slice e)) (hi : (P.info? e).map (fun i => (i.zero, i.size, i.bytes)) = some (some z, size, bytes)) (hzs : z.cells.size = size) (hsz : 0 < size)
    {v : Value} {n : Nat} {xs : List Value} (hs : a.eval s = v) (hown : w.ownsRow base e size v n xs) {A : Option Addr} {m c : Nat} {ys : List Value} (hx : a.eval x = .slice A m c) (hr : Reads w w.heap.size size A m ys) (h1 : ∀ u ∈ ys, u.oneCell' = true) (hn : n + m ≤ maxLen) (hb : (n + m) * bytes ≤ 140737488355328) (hbase : base ≤ w.heap.size) :
    ∃ A' c' w', (execOp a.eval o).run P w = .ok (.value (.slice A' (n + m) c')) w' ∧ w'.ownsRow base e size (.slice A' (n + m) c') (n + m) (xs ++ ys) ∧ w.grownBy w' v.ownBlock := by
  obtain ⟨A', c', w', hrun, h2, h3⟩ := run_append_read (P := P) w base t o.type e z size bytes ht hi hzs hsz v n xs hown w.heap.size A m c ys hr h1 hn hb hbase
  refine ⟨A', c', w', ?_, h2, h3⟩
  unfold execOp
  simp only [ho, resolve, invoke, builtin, Sem.run_bind, Sem.run_pure, Result.andThen_ok, List.map_toArray, List.map_cons, List.map_nil, hs, hx, hrun]
section
variable {ops : Array Oper} {Q : Exit → Act → World → Prop} {n : Nat} {l fixed : List (Nat × Value)} {F : World → Prop} {es : List EntC} {done : List Nat}
def LightAll (ops : Array Oper) (Q : Exit → Act → World → Prop) (n : Nat) (fixed : List (Nat × Value)) (F : World → Prop) (es : List EntC) (done : List Nat) : List EntC → Prop
  | [] => True
  | ⟨k, s, ks, c, q, m⟩ :: ts => bif memN done k then LightAll ops Q n fixed F es done ts else match c, m with
    | some v, false => PureE ops Q n (fixed ++ knownE (afts ops k) es) F k s v ∧ LightAll ops Q n fixed F es done ts
    | _, _ => HeavyE ops Q n fixed F es ⟨k, s, ks, c, q, m⟩ ∧ LightAll ops Q n fixed F es done ts
/-- in the middle of a region: what the operations of es leave is told, those of done have come up, F holds of the world, and no other has come up. -/
def St (ops : Array Oper) (Q : Exit → Act → World → Prop) (n : Nat) (fixed : List (Nat × Value)) (es : List EntC) (F : World → Prop) (done : List Nat) : Prop :=
  ∀ (fuel : Nat) (listed : Array Bool) (a : Act) (w : World), listed.size = ops.size → listed.toList.count false ≤ fuel → Closed .any ops listed → (∀ j, listed.getD j false = true → j ∈ done ∨ ∃ t ∈ es, t.op = j) → (∀ j ∈ done, listed.getD j false = true) → InvB n fixed (es.map EntC.e) F listed a w →
    wpAny Tryd.prog .any ops Q fuel listed a w
/-- the table fits; what it does not name must wait for h, or for another one that it does not name. -/
def stB (ops : Array Oper) (n : Nat) (fixed : List (Nat × Value)) (es : List EntC) (done : List Nat) (h : Nat) : Bool :=
  fitsB n fixed (es.map EntC.e) && (es.all (fun t => t.kill.isEmpty && Nat.blt t.op ops.size) && (!memN done h && (es.all (fun t => t.op != h) && (List.range ops.size).all (fun k => memN done k || (es.any (fun t => t.op == k) || (Nat.beq k h || (afts ops k).any (fun e => Region.binds .any e && (!memN done e.on && es.all (fun t => t.op != e.on)))))))))
theorem light_at : ∀ {ts : List EntC}, LightAll ops Q n fixed F es done ts → ∀ t ∈ ts, t.op ∉ done → (∃ v, t.c = some v ∧ t.arm = false ∧ PureE ops Q n (fixed ++ knownE (afts ops t.op) es) F t.op t.slot v) ∨ (plainB t = false ∧ HeavyE ops Q n fixed F es t)
  | u :: us, h, t, ht, hd => by
    unfold LightAll at h
    rcases List.mem_cons.1 ht with rfl | ht
    · have hm : memN done t.op = false := by
        cases hb : memN done t.op with
        | false => rfl
        | true => exact absurd (memN_ok hb) hd
      rw [hm, cond_false] at h
      split at h
      · next h1 h2 => exact .inl ⟨_, h1, h2, h.1⟩
      · next h1 =>
        refine .inr ⟨?_, h.1⟩
        unfold plainB
        cases hc : t.c with
        | none => rfl
        | some v =>
          cases hm : t.arm with
          | true => rfl
          | false => exact (h1 v hc hm).elim
    · cases hb : memN done u.op with
      | true => rw [hb, cond_true] at h; exact light_at h t ht hd
      | false =>
        rw [hb, cond_false] at h
        split at h
        · exact light_at h.2 t ht hd
        · exact light_at h.2 t ht hd
theorem not_ran {listed : Array Bool} {j : Nat} (h : ¬ listed.getD j false = true) : listed.getD j false = false := by
  cases hb : listed.getD j false with
  | false => rfl
  | true => exact absurd hb h
/-- one of the table's operations comes up. -/
theorem st_light (hfit : fitsB n fixed (es.map EntC.e) = true) (hkill : es.all (fun t => t.kill.isEmpty) = true) (hN : ops.size ≤ 1000) (hF : es.all plainB = true ∨ ∀ w w', F w → Below w.heap.size w w' → F w') (hstab : StabAll es) (hl : LightAll ops Q n fixed F es done es) {fuel : Nat} {listed : Array Bool} {a : Act} {w : World} {i : Nat} {o : Oper}
    (ih : ∀ (listed : Array Bool) (a : Act) (w : World), listed.size = ops.size → listed.toList.count false ≤ fuel → Closed .any ops listed → (∀ j, listed.getD j false = true → j ∈ done ∨ ∃ t ∈ es, t.op = j) → (∀ j ∈ done, listed.getD j false = true) → InvB n fixed (es.map EntC.e) F listed a w → wpAny Tryd.prog .any ops Q fuel listed a w)
    (hs : listed.size = ops.size) (hc : listed.toList.count false ≤ fuel + 1) (hcl : Closed .any ops listed) (hsub : ∀ j, listed.getD j false = true → j ∈ done ∨ ∃ t ∈ es, t.op = j) (hdn : ∀ j ∈ done, listed.getD j false = true) (hI : InvB n fixed (es.map EntC.e) F listed a w)
    (h0 : listed.getD i false = false) (ho : ops[i]? = some o) (hd : ∀ e ∈ o.after, Region.binds .any e = true → listed.getD e.on false = true) (hm : ∃ t ∈ es, t.op = i) : wpOp Tryd.prog ops Q i (fun a' w' => wpAny Tryd.prog .any ops Q fuel (listed.setIfInBounds i true) a' w') a w := by
  obtain ⟨t, ht, rfl⟩ := hm
  have hi : t.op < listed.size := by rw [hs]; exact (Array.getElem?_eq_some_iff.1 ho).1
  have h1 : listed.toList[t.op]? = some false := by
    simp only [Array.getD_eq_getD_getElem?, Array.getElem?_eq_getElem hi, Option.getD_some] at h0
    simp [hi, h0]
  have hcs := count_set _ _ h1
  have hnd : t.op ∉ done := fun h => by rw [hdn _ h] at h0; cases h0
  have hkk : afts ops t.op = o.after.toList := by unfold afts; rw [ho]
  have HH := Has.of hI.sz hI.df (AllEv.app hI.fx (known_ok hI hd fun _ h => h))
  have hsl : t.e.slot = t.slot := by unfold EntC.e; split <;> rfl
  have next : ∀ v w', t.e.p v w' → F w' → AllSt t.op listed w w' (es.map EntC.e) → wpAny Tryd.prog .any ops Q fuel (listed.setIfInBounds t.op true) (a.put (some t.slot) v) w' := by
    intro v w' hp hFw hst
    have hK := hI.put (Wp' := F) hfit t.e (List.mem_map_of_mem ht) (by rw [EntC.e_op]; exact hi) (by rw [hs]; exact hN) v hp hFw (by rw [EntC.e_op]; exact hst)
    rw [EntC.e_op, hsl] at hK
    refine ih _ _ w' (by simpa using hs) ?_ ?_ ?_ (fun j hj => ran_mono (hdn j hj)) hK
    · rw [Array.toList_setIfInBounds]; omega
    · intro j oj hoj hj e he hb
      rcases getD_set hj with e2 | hj
      · subst e2
        rw [ho] at hoj
        injection hoj with hoj
        subst hoj
        exact ran_mono (hd e he hb)
      · exact ran_mono (hcl j oj hoj hj e he hb)
    · intro j hj
      rcases getD_set hj with e2 | hj
      · exact .inr ⟨t, ht, e2.symm⟩
      · exact hsub j hj
  rcases light_at hl t ht hnd with ⟨v, hv, _, hp⟩ | ⟨hpl, hp⟩
  · rw [hkk] at hp
    exact hp _ a w HH hI.wp (next v w (by simp only [EntC.e, hv]) hI.wp AllSt.same)
  · unfold HeavyE at hp
    rw [hkk] at hp
    have hF : ∀ w w', F w → Below w.heap.size w w' → F w' := by
      rcases hF with h | h
      · rw [List.all_eq_true.1 h t ht] at hpl; cases hpl
      · exact h
    exact hp _ a w HH (knownR_ok hI hkill hd fun _ h => h) hI.wp fun v w' hpv hb => next v w' hpv (hF _ _ hI.wp hb) (StabAll.all hb hstab).all
/-- what must be known behind the operation h, that leaves v in slot s. -/
def Nx (ops : Array Oper) (Q : Exit → Act → World → Prop) (n : Nat) (fixed : List (Nat × Value)) (es : List EntC) (done : List Nat) (h s : Nat) (v : Value) (w w' : World) : Prop :=
  ∃ (hE : EntC) (new : List EntC) (drop : List Nat) (F' : World → Prop), (hE.op = h ∧ hE.slot = s ∧ hE.e.p v w' ∧ hE.kill = []) ∧ F' w' ∧ Keeps w w' (dropE drop es) ∧ (fitsB n fixed ((hE :: (new ++ dropE drop es)).map EntC.e) && (drop.all (fun k => memN (doneN ops h done) k) && new.all (fun t => Nat.blt t.op ops.size && (!memN done t.op && (es.all (fun u => u.op != t.op) && t.op != h))))) = true ∧
    St ops Q n fixed (hE :: (new ++ dropE drop es)) F' (doneN ops h done)
/-- slots whose values are known: told from now on as values. -/
def Pins (a : Act) (drop : List Nat) : List EntC → Prop
  | [] => True
  | ⟨k, s, ks, c, _, _⟩ :: ts => (ks = [] ∧ memN drop k = true ∧ ∃ v, c = some v ∧ a.eval (.tmp s) = v) ∧ Pins a drop ts
theorem Pins.get {a : Act} {drop : List Nat} : ∀ {ts : List EntC}, Pins a drop ts → ∀ t ∈ ts, t.kill = [] ∧ memN drop t.op = true ∧ ∃ v, t.c = some v ∧ a.eval (.tmp t.slot) = v
  | u :: us, h, t, ht => by
    rcases List.mem_cons.1 ht with rfl | ht
    · exact h.1
    · exact Pins.get h.2 t ht
def Nx0 (ops : Array Oper) (Q : Exit → Act → World → Prop) (n : Nat) (fixed : List (Nat × Value)) (es : List EntC) (done : List Nat) (h : Nat) (a : Act) (w w' : World) : Prop :=
  ∃ (pins new : List EntC) (drop : List Nat) (F' : World → Prop), F' w' ∧ Keeps w w' (dropE drop es) ∧ Pins a drop pins ∧ (fitsB n fixed ((pins ++ (new ++ dropE drop es)).map EntC.e) && (drop.all (fun k => memN (doneN ops h done) k) && new.all (fun t => Nat.blt t.op ops.size && (!memN done t.op && (es.all (fun u => u.op != t.op) && t.op != h))))) = true ∧
    St ops Q n fixed (pins ++ (new ++ dropE drop es)) F' (doneN ops h done)
theorem fits_at {es : List EntC} (hf : fitsB n fixed (es.map EntC.e) = true) : (∀ t ∈ es, t.slot < n ∧ fixed.all (fun f => f.1 != t.slot) = true) ∧ ∀ u ∈ es, ∀ t ∈ es, u.kill = [] → t.op < 1000 → u.op = t.op ∨ u.slot ≠ t.slot := by
  simp only [fitsB, Bool.and_eq_true] at hf
  obtain ⟨⟨hf, hn⟩, _⟩ := hf
  have hs : ∀ t : EntC, t.e.slot = t.slot := fun t => by unfold EntC.e; split <;> rfl
  have hk : ∀ t : EntC, t.kill = [] → t.e.kill = [] := fun t h => by unfold EntC.e; split <;> simp [h]
  refine ⟨fun t ht => ?_, fun u hu t ht hku hN => ?_⟩
  · have := List.all_eq_true.1 hf t.e (List.mem_map_of_mem ht)
    rw [hs] at this
    simpa using this
  · have := List.all_eq_true.1 (List.all_eq_true.1 hn u.e (List.mem_map_of_mem hu)) t.e (List.mem_map_of_mem ht)
    rw [EntC.e_op, EntC.e_op, hs, hs, hk u hku] at this
    simp only [Bool.or_eq_true, beq_iff_eq, bne_iff_ne, List.contains_nil, Bool.false_eq_true, decide_eq_true_eq, false_or] at this
    rcases this with h | h | h
    · exact .inl h
    · exact .inr h
    · omega
theorem st_go (h : Nat) (hlt : h < ops.size) (hback : ∀ (i : Nat) (o : Oper), ops[i]? = some o → ∀ e ∈ o.after, Region.binds .any e = true → e.on < i) (hB : stB ops n fixed es done h = true) (hN : Nat.ble ops.size 1000 = true) (hF : es.all plainB = true ∨ ∀ w w', F w → Below w.heap.size w w' → F w') (hstab : StabAll es) (hl : LightAll ops Q n fixed F es done es)
    (hh : ∀ (o : Oper) (K : Act → World → Prop) (a : Act) (w : World), ops[h]? = some o → Has a n (fixed ++ knownE (afts ops h) es) → KnownR (afts ops h) a w es → F w → (∀ s v w', o.dst = some s → Nx ops Q n fixed es done h s v w w' → K (a.put (some s) v) w') → (∀ w', o.dst = none → Nx0 ops Q n fixed es done h a w w' → K a w') → wpOp Tryd.prog ops Q h K a w) :
    St ops Q n fixed es F done := by
  simp only [stB, Bool.and_eq_true] at hB
  obtain ⟨hfit, hall, hhd, hhe, hblk⟩ := hB
  have hN : ops.size ≤ 1000 := by simpa using hN
  have hkill : es.all (fun t => t.kill.isEmpty) = true := List.all_eq_true.2 fun t ht => by
    have := List.all_eq_true.1 hall t ht
    simp only [Bool.and_eq_true] at this
    exact this.1
  have hopl : ∀ t ∈ es, t.op < ops.size := fun t ht => by
    have := List.all_eq_true.1 hall t ht
    simp only [Bool.and_eq_true] at this
    simpa [Nat.blt_eq] using this.2
  have hhd : h ∉ done := fun hm => by rw [memN_of hm] at hhd; cases hhd
  have hhe : ∀ t ∈ es, t.op ≠ h := fun t ht => by simpa using List.all_eq_true.1 hhe t ht
  intro fuel
  induction fuel with
  | zero =>
    intro listed a w hs hc hcl hsub hdn hI
    exfalso
    have hnl : listed.getD h false = false := not_ran fun hl' => by
      rcases hsub h hl' with h1 | ⟨t, ht, h1⟩
      · exact hhd h1
      · exact hhe t ht h1
    have hi : h < listed.size := by omega
    have h1 : listed.toList[h]? = some false := by
      simp only [Array.getD_eq_getD_getElem?, Array.getElem?_eq_getElem hi, Option.getD_some] at hnl
      simp [hi, hnl]
    have := count_set _ _ h1
    omega
  | succ fuel ih =>
    intro listed a w hs hc hcl hsub hdn hI
    have hnl : listed.getD h false = false := not_ran fun hl' => by
      rcases hsub h hl' with h1 | ⟨t, ht, h1⟩
      · exact hhd h1
      · exact hhe t ht h1
    -- what is ready is one of the table's, or h
    have hrdy : ∀ (i : Nat) (o : Oper), ops[i]? = some o → listed.getD i false = false → (∀ e ∈ o.after, Region.binds .any e = true → listed.getD e.on false = true) → i = h ∨ ∃ t ∈ es, t.op = i := by
      intro i o ho h0 hd
      have hi : i < ops.size := (Array.getElem?_eq_some_iff.1 ho).1
      have := List.all_eq_true.1 hblk i (List.mem_range.2 hi)
      simp only [Bool.or_eq_true] at this
      rcases this with h1 | h1 | h1 | h1
      · rw [hdn i (memN_ok h1)] at h0; cases h0
      · obtain ⟨t, ht, he⟩ := List.any_eq_true.1 h1
        exact .inr ⟨t, ht, by simpa using he⟩
      · exact .inl (Nat.eq_of_beq_eq_true h1)
      · exfalso
        obtain ⟨e, he, h2⟩ := List.any_eq_true.1 h1
        simp only [Bool.and_eq_true, Bool.not_eq_true'] at h2
        unfold afts at he
        rw [ho] at he
        rcases hsub e.on (hd e (by simpa using he) h2.1) with h3 | ⟨t, ht, h3⟩
        · rw [memN_of h3] at h2; exact absurd h2.2.1 (by decide)
        · have := List.all_eq_true.1 h2.2.2 t ht
          simp [h3] at this
    have step : ∀ (i : Nat) (o : Oper), ops[i]? = some o → listed.getD i false = false → (∀ e ∈ o.after, Region.binds .any e = true → listed.getD e.on false = true) → wpOp Tryd.prog ops Q i (fun a' w' => wpAny Tryd.prog .any ops Q fuel (listed.setIfInBounds i true) a' w') a w := by
      intro i o ho h0 hd
      rcases hrdy i o ho h0 hd with rfl | hm
      · have hi : i < listed.size := by omega
        have h1 : listed.toList[i]? = some false := by
          simp only [Array.getD_eq_getD_getElem?, Array.getElem?_eq_getElem hi, Option.getD_some] at h0
          simp [hi, h0]
        have hcs := count_set _ _ h1
        have hcount : (listed.setIfInBounds i true).toList.count false ≤ fuel := by rw [Array.toList_setIfInBounds]; omega
        have hcl' : Closed .any ops (listed.setIfInBounds i true) := by
          intro j oj hoj hj e he hb
          rcases getD_set hj with e2 | hj
          · subst e2
            rw [ho] at hoj
            injection hoj with hoj
            subst hoj
            exact ran_mono (hd e he hb)
          · exact ran_mono (hcl j oj hoj hj e he hb)
        have hdn' : ∀ j ∈ doneN ops i done, (listed.setIfInBounds i true).getD j false = true := by
          refine anc_ok hcl' _ ?_
          intro j hj
          rcases List.mem_cons.1 hj with rfl | hj
          · exact ran_same listed hi
          · exact ran_mono (hdn j hj)
        have hsize : (listed.setIfInBounds i true).size = ops.size := by simpa using hs
        have hsub' : ∀ {drop : List Nat} {es' : List EntC}, (∀ t ∈ es', ∀ u, u = t → True) → (∀ t ∈ dropE drop es, t ∈ es') → drop.all (fun k => memN (doneN ops i done) k) = true → ∀ j, (listed.setIfInBounds i true).getD j false = true → j ∈ doneN ops i done ∨ ∃ t ∈ es', t.op = j := by
          intro drop es' _ hin hdr j hj
          rcases getD_set hj with e2 | hj
          · subst e2; exact .inl (anc_sub _ _ List.mem_cons_self)
          · rcases hsub j hj with h3 | ⟨t, ht, h3⟩
            · exact .inl (anc_sub _ _ (List.mem_cons_of_mem _ h3))
            · rcases dropE_in (drop := drop) ht with h4 | h4
              · rw [← h3]
                exact .inl (memN_ok (List.all_eq_true.1 hdr _ (memN_ok h4)))
              · exact .inr ⟨t, hin t h4, h3⟩
        refine hh o _ a w ho ?_ ?_ hI.wp ?_ ?_
        · have := known_ok hI hd (ts := es) fun _ h => h
          have hkk : afts ops i = o.after.toList := by unfold afts; rw [ho]
          rw [hkk]
          exact Has.of hI.sz hI.df (AllEv.app hI.fx this)
        · have hkk : afts ops i = o.after.toList := by unfold afts; rw [ho]
          rw [hkk]
          exact knownR_ok hI hkill hd fun _ h => h
        · rintro s v w' hdst ⟨hE, new, drop, F', ⟨rfl, rfl, hp, hke⟩, hFw, hkp, hchk, hSt⟩
          simp only [Bool.and_eq_true] at hchk
          obtain ⟨hfit', hdr, hnew⟩ := hchk
          obtain ⟨hf1, hf2⟩ := fits_at hfit'
          refine hSt fuel _ _ w' hsize hcount hcl' (hsub' (fun _ _ _ _ => trivial) (fun t ht => List.mem_cons_of_mem _ (List.mem_append_right _ ht)) hdr) hdn' ?_
          have hm0 := hf1 hE List.mem_cons_self
          refine ⟨by rw [Act.size_put, hI.sz], by rw [Act.defers_put', hI.df], hI.fx.put hm0.2, fun u hu hlu hku => ?_, hFw⟩
          obtain ⟨t, ht, rfl⟩ := List.mem_map.1 hu
          rw [EntC.e_op, hsize] at hlu
          have hsl : t.e.slot = t.slot := by unfold EntC.e; split <;> rfl
          rw [hsl]
          rcases List.mem_cons.1 ht with rfl | ht
          · rw [Act.eval_put_same _ _ _ (by rw [hI.sz]; exact hm0.1)]
            exact hp
          · rcases List.mem_append.1 ht with ht' | ht'
            · exfalso
              have := List.all_eq_true.1 hnew t ht'
              simp only [Bool.and_eq_true, Bool.not_eq_true', bne_iff_ne] at this
              obtain ⟨n0, n1, n2, n3⟩ := this
              have n0 : t.op < ops.size := by simpa [Nat.blt_eq] using n0
              rcases hlu with hlu | hlu
              · omega
              · rcases getD_set hlu with e2 | hlu
                · exact n3 e2
                · rcases hsub _ hlu with h3 | ⟨u, hu, h3⟩
                  · rw [memN_of h3] at n1; cases n1
                  · have := List.all_eq_true.1 n2 u hu
                    simp [h3] at this
            · obtain ⟨hte, _⟩ := dropE_ok ht'
              have hto := hopl t hte
              have hlt' : listed.getD t.op false = true := by
                rcases hlu with hlu | hlu
                · omega
                · rcases getD_set hlu with e2 | hlu
                  · exact absurd e2 (hhe t hte)
                  · exact hlu
              have hne : hE.slot ≠ t.slot := by
                have hkt : t.kill = [] := by simpa using List.all_eq_true.1 hkill t hte
                rcases hf2 t (List.mem_cons_of_mem _ ht) hE List.mem_cons_self hkt (by omega) with h3 | h3
                · exact absurd h3 (hhe t hte)
                · exact fun e => h3 e.symm
              rw [Act.eval_put_ne _ _ _ _ hne]
              have hold := hI.vs t.e (List.mem_map_of_mem hte) (.inr (by rw [EntC.e_op]; exact hlt')) (by
                have hkt : t.kill = [] := by simpa using List.all_eq_true.1 hkill t hte
                have : t.e.kill = [] := by unfold EntC.e; split <;> simp [hkt]
                rw [this]; trivial)
              rw [hsl] at hold
              exact hkp.get t ht' _ hold
        · rintro w' hdst ⟨pins, new, drop, F', hFw, hkp, hpin, hchk, hSt⟩
          simp only [Bool.and_eq_true] at hchk
          obtain ⟨hfit', hdr, hnew⟩ := hchk
          refine hSt fuel _ _ w' hsize hcount hcl' (hsub' (fun _ _ _ _ => trivial) (fun t ht => List.mem_append_right _ (List.mem_append_right _ ht)) hdr) hdn' ?_
          refine ⟨hI.sz, hI.df, hI.fx, fun u hu hlu hku => ?_, hFw⟩
          obtain ⟨t, ht, rfl⟩ := List.mem_map.1 hu
          rw [EntC.e_op, hsize] at hlu
          have hsl : t.e.slot = t.slot := by unfold EntC.e; split <;> rfl
          rw [hsl]
          rcases List.mem_append.1 ht with ht' | ht
          · obtain ⟨_, _, v, hv, he⟩ := hpin.get t ht'
            simp only [EntC.e, hv]
            exact he
          rcases List.mem_append.1 ht with ht' | ht'
          · exfalso
            have := List.all_eq_true.1 hnew t ht'
            simp only [Bool.and_eq_true, Bool.not_eq_true', bne_iff_ne] at this
            obtain ⟨n0, n1, n2, n3⟩ := this
            have n0 : t.op < ops.size := by simpa [Nat.blt_eq] using n0
            rcases hlu with hlu | hlu
            · omega
            · rcases getD_set hlu with e2 | hlu
              · exact n3 e2
              · rcases hsub _ hlu with h3 | ⟨u, hu, h3⟩
                · rw [memN_of h3] at n1; cases n1
                · have := List.all_eq_true.1 n2 u hu
                  simp [h3] at this
          · obtain ⟨hte, _⟩ := dropE_ok ht'
            have hto := hopl t hte
            have hlt' : listed.getD t.op false = true := by
              rcases hlu with hlu | hlu
              · omega
              · rcases getD_set hlu with e2 | hlu
                · exact absurd e2 (hhe t hte)
                · exact hlu
            have hold := hI.vs t.e (List.mem_map_of_mem hte) (.inr (by rw [EntC.e_op]; exact hlt')) (by
              have hkt : t.kill = [] := by simpa using List.all_eq_true.1 hkill t hte
              have : t.e.kill = [] := by unfold EntC.e; split <;> simp [hkt]
              rw [this]; trivial)
            rw [hsl] at hold
            exact hkp.get t ht' _ hold
      · exact st_light hfit hkill hN hF hstab hl (fun listed a w => ih listed a w) hs hc hcl hsub hdn hI h0 ho hd hm
    refine ⟨fun hnil => ?_, fun i hm => ?_⟩
    · rw [all_listed hback hs hnil h hlt] at hnl; cases hnl
    · obtain ⟨h0, o, ho, hd⟩ := mem_ready.1 hm
      have hi : i < listed.size := by
        have := (Array.getElem?_eq_some_iff.1 ho).1
        omega
      refine step i o ho ?_ hd
      simp only [Array.getD_eq_getD_getElem?, Array.getElem?_eq_getElem hi, Option.getD_some] at h0 ⊢
      exact h0
abbrev backB (ops : Array Oper) : Bool := (List.range ops.size).all (fun i => match ops[i]? with | some o => o.after.all (fun e => !Region.binds .any e || decide (e.on < i)) | none => true)
/-- the region begins. -/
theorem Has.sg {a : Act} {w : World} {c : Code} {id : Nat} {Q' : Exit → Act → World → Prop} (H : Has a n l) (F : World → Prop) (hw : F w.drew) (ss : List Nat) (es : List EntC) (hc : peel Tryd.prog c Q' = (.region id ops true, Q)) (hSt : St ops Q n fixed es F []) (hs : sel l ss = some fixed := by rfl)
    (hel : es.all (fun t => Nat.blt t.op ops.size) = true := by kernel_rfl) (hm : Tryd.prog.follows .mixedOrders = true := by kernel_rfl) : c.wp Tryd.prog Q' a w := by
  refine peel_wp c Q' ?_
  rw [hc]
  refine wp_region_any hm (hSt ops.size _ a _ (by simp) (by simp) ?_ ?_ (fun j hj => by cases hj) ⟨H.sz, H.df, sel_ok H hs, ?_, hw⟩)
  · intro i o _ h
    rw [none_ran] at h
    cases h
  · intro j hj
    rw [none_ran] at hj
    cases hj
  · intro u hu hl _
    obtain ⟨t, ht, rfl⟩ := List.mem_map.1 hu
    rw [EntC.e_op] at hl
    have : t.op < ops.size := by simpa [Nat.blt_eq] using List.all_eq_true.1 hel t ht
    rcases hl with hl | hl
    · rw [Array.size_replicate] at hl; omega
    · rw [none_ran] at hl; cases hl
abbrev nxB (ops : Array Oper) (n : Nat) (fixed : List (Nat × Value)) (es : List EntC) (done : List Nat) (h : Nat) (new : List EntC) (drop : List Nat) (hE : List EntC) : Bool :=
  fitsB n fixed ((hE ++ (new ++ dropE drop es)).map EntC.e) && (drop.all (fun k => memN (doneN ops h done) k) && new.all (fun t => Nat.blt t.op ops.size && (!memN done t.op && (es.all (fun u => u.op != t.op) && t.op != h))))
section
variable {h d : Nat} {v : Value} {w w' : World} {o : Oper}
/-- the next stage: what holds of the world, what else is told now, what no more. -/
theorem nx (F' : World → Prop) (new : List EntC) (drop : List Nat) (hF : F' w') (hSt : St ops Q n fixed (ec h d v :: (new ++ dropE drop es)) F' (doneN ops h done)) (hk : Keeps w w' (dropE drop es) := by exact trivial) (hc : nxB ops n fixed es done h new drop [ec h d v] = true := by kernel_rfl) : Nx ops Q n fixed es done h d v w w' :=
  ⟨ec h d v, new, drop, F', ⟨rfl, rfl, rfl, rfl⟩, hF, hk, hc, hSt⟩
theorem nxp {a : Act} (F' : World → Prop) (pins new : List EntC) (drop : List Nat) (hF : F' w') (hp : Pins a drop pins) (hSt : St ops Q n fixed (pins ++ (new ++ dropE drop es)) F' (doneN ops h done)) (hk : Keeps w w' (dropE drop es) := by exact trivial) (hc : nxB ops n fixed es done h new drop pins = true := by kernel_rfl) : Nx0 ops Q n fixed es done h a w w' :=
  ⟨pins, new, drop, F', hF, hk, hp, hc, hSt⟩
theorem nx0 {a : Act} (F' : World → Prop) (new : List EntC) (drop : List Nat) (hF : F' w') (hSt : St ops Q n fixed (new ++ dropE drop es) F' (doneN ops h done)) (hk : Keeps w w' (dropE drop es) := by exact trivial) (hc : nxB ops n fixed es done h new drop [] = true := by kernel_rfl) : Nx0 ops Q n fixed es done h a w w' :=
  nxp F' [] new drop hF trivial hSt hk hc
/-- the next one is a call. -/
theorem St.call (h : Nat) {f : FuncId} {xs : Array Operand} {ats : Array TypeId} {vs : List Value} {R : World → Value → World → Prop} (hl : LightAll ops Q n fixed F es done es) (hc : ∀ w, F w → Calls Tryd.prog f vs.toArray w fun e w' => ∃ v, e = .returned v ∧ R w v w') (hn : ∀ w v w', F w → R w v w' → Nx ops Q n fixed es done h d v w w')
    (ho : ops[h]? = some o := by rfl) (hp : o.op = .call { callee := .value (.func f), args := xs, argTypes := ats } := by rfl) (hd : o.dst = some d := by rfl) (hg : okG ops (fixed ++ knownE (afts ops h) es) o = true := by rfl) (hx : evLs (fixed ++ knownE (afts ops h) es) xs.toList = some vs := by rfl)
    (hen : ∀ (args : Array Value) (w : World), (callFunc f args).run Tryd.prog w = .ok (.enter f args) w := by exact fun _ _ => by kernel_rfl) (hB : stB ops n fixed es done h = true := by kernel_rfl) (hN : Nat.ble ops.size 1000 = true := by kernel_rfl) (hback : backB ops = true := by kernel_rfl)
    (hF : es.all plainB = true ∨ ∀ w w', F w → Below w.heap.size w w' → F w' := by exact .inl rfl) (hst : StabAll es := by exact trivial) : St ops Q n fixed es F done := by
  refine st_go h (Array.getElem?_eq_some_iff.1 ho).1 (back_of hback) hB hN hF hst hl ?_
  intro o' K a w ho' H _ hFw hK _
  rw [ho] at ho'
  injection ho' with ho'
  subst ho'
  exact wpOp_enter ho (okG_w H hg) d hd f _ (run_callH H hp hx hen) _ (hc w hFw) fun v w' hR => hK d v w' hd (hn w v w' hFw hR)
/-- the next one makes a value. -/
theorem St.val (h : Nat) (hl : LightAll ops Q n fixed F es done es) (hrun : ∀ a w, Has a n (fixed ++ knownE (afts ops h) es) → KnownR (afts ops h) a w es → F w → ∃ v w', (execOp a.eval o).run Tryd.prog w = .ok (.value v) w' ∧ Nx ops Q n fixed es done h d v w w')
    (ho : ops[h]? = some o := by rfl) (hd : o.dst = some d := by rfl) (hg : okG ops (fixed ++ knownE (afts ops h) es) o = true := by rfl) (hB : stB ops n fixed es done h = true := by kernel_rfl) (hN : Nat.ble ops.size 1000 = true := by kernel_rfl) (hback : backB ops = true := by kernel_rfl)
    (hF : es.all plainB = true ∨ ∀ w w', F w → Below w.heap.size w w' → F w' := by exact .inl rfl) (hst : StabAll es := by exact trivial) : St ops Q n fixed es F done := by
  refine st_go h (Array.getElem?_eq_some_iff.1 ho).1 (back_of hback) hB hN hF hst hl ?_
  intro o' K a w ho' H hr hFw hK _
  rw [ho] at ho'
  injection ho' with ho'
  subst ho'
  obtain ⟨v, w', hx, hn⟩ := hrun a w H hr hFw
  exact wpOp_go ho (okG_w H hg) d hd v w' hx (hK d v w' hd hn)
/-- the next one appends cells to a row. -/
theorem St.app (h : Nat) {s x : Operand} {t e : TypeId} {base size bytes m : Nat} {z : Value} {u : Value} {k c : Nat} {A : Option Addr} {xs ys : List Value} (hi : (Tryd.prog.info? e).map (fun i => (i.zero, i.size, i.bytes)) = some (some z, size, bytes)) (hl : LightAll ops Q n fixed F es done es)
    (hrun : ∀ w, F w → w.ownsRow base e size u k xs ∧ Reads w w.heap.size size A m ys ∧ base ≤ w.heap.size) (h1 : ∀ u ∈ ys, u.oneCell' = true) (hn : k + m ≤ maxLen ∧ (k + m) * bytes ≤ 140737488355328) (hk : ∀ w A' c' w', F w → w'.ownsRow base e size (.slice A' (k + m) c') (k + m) (xs ++ ys) → w.grownBy w' u.ownBlock → Nx ops Q n fixed es done h d (.slice A' (k + m) c') w w')
    (ho : ops[h]? = some o := by rfl) (hp : o.op = .call { callee := .builtin .append, args := #[s, x], argTypes := #[t, t] } := by rfl) (hd : o.dst = some d := by rfl) (ht : Tryd.prog.underlying t = some (.slice e) := by kernel_rfl) (hzs : z.cells.size = size := by rfl) (hsz : 0 < size := by decide) (hg : okG ops (fixed ++ knownE (afts ops h) es) o = true := by rfl)
    (hs : evL (fixed ++ knownE (afts ops h) es) s = some u := by rfl) (hx : evL (fixed ++ knownE (afts ops h) es) x = some (.slice A m c) := by rfl) (hB : stB ops n fixed es done h = true := by kernel_rfl) (hN : Nat.ble ops.size 1000 = true := by kernel_rfl) (hback : backB ops = true := by kernel_rfl)
    (hF : es.all plainB = true ∨ ∀ w w', F w → Below w.heap.size w w' → F w' := by exact .inl rfl) (hst : StabAll es := by exact trivial) : St ops Q n fixed es F done := by
  refine St.val h hl ?_ ho hd hg hB hN hback hF hst
  intro a w H _ hFw
  obtain ⟨r1, r2, r3⟩ := hrun w hFw
  obtain ⟨A', c', w', hr, hO, hgr⟩ := run_app (a := a) hp ht hi hzs hsz (H.ev hs) r1 (H.ev hx) r2 h1 hn.1 hn.2 r3
  exact ⟨_, w', hr, hk w A' c' w' hFw hO hgr⟩
/-- the next one stores. -/
theorem St.sto (h : Nat) (hl : LightAll ops Q n fixed F es done es) (hrun : ∀ a w, Has a n (fixed ++ knownE (afts ops h) es) → KnownR (afts ops h) a w es → F w → ∃ w', (execOp a.eval o).run Tryd.prog w = .ok .skip w' ∧ Nx0 ops Q n fixed es done h a w w')
    (ho : ops[h]? = some o := by rfl) (hd : o.dst = none := by rfl) (hg : okG ops (fixed ++ knownE (afts ops h) es) o = true := by rfl) (hB : stB ops n fixed es done h = true := by kernel_rfl) (hN : Nat.ble ops.size 1000 = true := by kernel_rfl) (hback : backB ops = true := by kernel_rfl)
    (hF : es.all plainB = true ∨ ∀ w w', F w → Below w.heap.size w w' → F w' := by exact .inl rfl) (hst : StabAll es := by exact trivial) : St ops Q n fixed es F done := by
  refine st_go h (Array.getElem?_eq_some_iff.1 ho).1 (back_of hback) hB hN hF hst hl ?_
  intro o' K a w ho' H hr hFw _ hK
  rw [ho] at ho'
  injection ho' with ho'
  subst ho'
  obtain ⟨w', hx, hn⟩ := hrun a w H hr hFw
  exact wpOp_do ho (okG_w H hg) hd w' hx (hK w' hd hn)
end
/-- nothing is left but the table's. -/
theorem St.fin (hl : LightAll ops Q n fixed F es done es) (hfin : ∀ (a : Act) (w : World), Has a n (fixed ++ finV es) → FinR a w es → F w → Q .normal a w) (hB : (fitsB n fixed (es.map EntC.e) && (es.all (fun t => t.kill.isEmpty && Nat.blt t.op ops.size) && ((List.range ops.size).all (fun k => memN done k || es.any (fun t => t.op == k)) && Nat.ble ops.size 1000))) = true := by kernel_rfl) (hback : backB ops = true := by kernel_rfl)
    (hF : es.all plainB = true ∨ ∀ w w', F w → Below w.heap.size w w' → F w' := by exact .inl rfl) (hst : StabAll es := by exact trivial) : St ops Q n fixed es F done := by
  simp only [Bool.and_eq_true] at hB
  obtain ⟨hfit, hall, hcov, hN⟩ := hB
  have hN : ops.size ≤ 1000 := by simpa using hN
  have hkill : es.all (fun t => t.kill.isEmpty) = true := List.all_eq_true.2 fun t ht => by
    have := List.all_eq_true.1 hall t ht
    simp only [Bool.and_eq_true] at this
    exact this.1
  have hopl : ∀ t ∈ es, t.op < ops.size := fun t ht => by
    have := List.all_eq_true.1 hall t ht
    simp only [Bool.and_eq_true] at this
    simpa [Nat.blt_eq] using this.2
  have fin : ∀ (listed : Array Bool) (a : Act) (w : World), listed.size = ops.size → Region.ready .any ops listed = [] → InvB n fixed (es.map EntC.e) F listed a w → Q .normal a w := by
    intro listed a w hs hnil hI
    have hall' : ∀ t ∈ es, listed.getD t.op false = true := fun t ht => all_listed (back_of hback) hs hnil t.op (hopl t ht)
    exact hfin a w (Has.of hI.sz hI.df (AllEv.app hI.fx (finV_ok hI hall' fun _ h => h))) (finR_ok hI hkill hall' fun _ h => h) hI.wp
  intro fuel
  induction fuel with
  | zero =>
    intro listed a w hs hc hcl hsub hdn hI
    have hnil : Region.ready .any ops listed = [] := by
      rcases hr : Region.ready .any ops listed with _ | ⟨i, rs⟩
      · rfl
      · exfalso
        have hm : i ∈ Region.ready .any ops listed := by rw [hr]; exact List.mem_cons_self
        obtain ⟨h0, o, ho, _⟩ := mem_ready.1 hm
        have hi : i < listed.size := by
          have := (Array.getElem?_eq_some_iff.1 ho).1
          omega
        have h1 : listed.toList[i]? = some false := by
          simp only [Array.getD_eq_getD_getElem?, Array.getElem?_eq_getElem hi, Option.getD_some] at h0
          simp [hi, h0]
        have := count_set _ _ h1
        omega
    exact ⟨hnil, fin listed a w hs hnil hI⟩
  | succ fuel ih =>
    intro listed a w hs hc hcl hsub hdn hI
    refine ⟨fun hnil => fin listed a w hs hnil hI, fun i hm => ?_⟩
    obtain ⟨h0, o, ho, hd⟩ := mem_ready.1 hm
    have hi : i < listed.size := by
      have := (Array.getElem?_eq_some_iff.1 ho).1
      omega
    have h0' : listed.getD i false = false := by
      simp only [Array.getD_eq_getD_getElem?, Array.getElem?_eq_getElem hi, Option.getD_some] at h0 ⊢
      exact h0
    refine st_light hfit hkill hN hF hst hl (fun listed a w => ih listed a w) hs hc hcl hsub hdn hI h0' ho hd ?_
    have := List.all_eq_true.1 hcov i (List.mem_range.2 (by omega))
    simp only [Bool.or_eq_true] at this
    rcases this with h1 | h1
    · rw [hdn i (memN_ok h1)] at h0'; cases h0'
    · obtain ⟨t, ht, he⟩ := List.any_eq_true.1 h1
      exact ⟨t, ht, by simpa using he⟩
end
end Go.Proofs.YtkcdkjpmbjcmdaaDoor

/-
  A region in the order of its text, by a table: what each operation leaves, a reason for each.
-/
namespace Go.Proofs.YtkcdkjpmbjcmdaaDoor
open Go.RowKit

section
variable {ops : Array Oper} {Q : Exit → Act → World → Prop} {n : Nat} {l : List (Nat × Value)} {F : World → Prop}
def TabAll (ops : Array Oper) (Q : Exit → Act → World → Prop) (n : Nat) (F : World → Prop) : List (Nat × Value) → List EntC → Prop
  | _, [] => True
  | l, ⟨k, s, _ks, c, _q, m⟩ :: ts => match c, m with
    | some v, false => PureE ops Q n l F k s v ∧ TabAll ops Q n F ((s, v) :: l) ts
    | some v, true => HeavyE ops Q n l F [] (eh k s v) ∧ TabAll ops Q n F ((s, v) :: l) ts
    | none, _ => False
def tabV : List (Nat × Value) → List EntC → List (Nat × Value)
  | l, [] => l
  | l, ⟨_, s, _, c, _, _⟩ :: ts => match c with
    | some v => tabV ((s, v) :: l) ts
    | none => l
def tabB (ops : Array Oper) (n : Nat) : Nat → List EntC → Bool
  | i, [] => Nat.beq i ops.size
  | i, t :: ts => Nat.beq t.op i && (Nat.blt t.slot n && tabB ops n (i + 1) ts)
theorem tabB_len : ∀ {ts : List EntC} {i : Nat}, tabB ops n i ts = true → i + ts.length = ops.size
  | [], i, h => Nat.eq_of_beq_eq_true h
  | t :: ts, i, h => by
    simp only [tabB, Bool.and_eq_true] at h
    have := tabB_len h.2.2
    simp only [List.length_cons]
    omega
theorem wpList_of_op {P : Program} {o : Oper} {rest : List Oper} {a : Act} {w : World} {i : Nat} (ho : ops[i]? = some o) (h : wpOp P ops Q i (fun a' w' => wpList P ops Q rest a' w') a w) : wpList P ops Q (o :: rest) a w := by
  simp only [wpOp, ho] at h
  exact h
theorem tab_ok (hk : ∀ w w', F w → Below w.heap.size w w' → F w') : ∀ (ts : List EntC) (i : Nat) {l : List (Nat × Value)} {a : Act} {w : World}, tabB ops n i ts = true → Has a n l → F w → TabAll ops Q n F l ts → (∀ a w, Has a n (tabV l ts) → F w → Q .normal a w) → wpList Tryd.prog ops Q (ops.toList.drop i) a w
  | [], i, l, a, w, hb, H, hF, _, hfin => by
    have : i = ops.size := Nat.eq_of_beq_eq_true hb
    subst this
    rw [← Array.length_toList, List.drop_length]
    exact wpList_nil (hfin a w H hF)
  | t :: ts, i, l, a, w, hb, H, hF, hT, hfin => by
    simp only [tabB, Bool.and_eq_true] at hb
    have hop : t.op = i := Nat.eq_of_beq_eq_true hb.1
    unfold TabAll at hT
    unfold tabV at hfin
    have hlt : i < ops.size := by have := tabB_len hb.2.2; omega
    have go : wpOp Tryd.prog ops Q i (fun a' w' => wpList Tryd.prog ops Q (ops.toList.drop (i + 1)) a' w') a w → wpList Tryd.prog ops Q (ops.toList.drop i) a w := by
      intro h
      obtain ⟨o, ho⟩ : ∃ o, ops[i]? = some o := ⟨_, Array.getElem?_eq_getElem hlt⟩
      obtain ⟨hi, he⟩ := Array.getElem?_eq_some_iff.1 ho
      have : ops.toList.drop i = o :: ops.toList.drop (i + 1) := by
        rw [List.drop_eq_getElem_cons (by simpa using hi)]
        simp [he]
      rw [this]
      exact wpList_of_op ho h
    split at hT
    · next v hc hm =>
      rw [hc] at hfin
      rw [hop] at hT
      refine go (hT.1 _ a w H hF ?_)
      exact tab_ok hk ts (i + 1) hb.2.2 (H.put hb.2.1 v) hF hT.2 hfin
    · next v hc hm =>
      rw [hc] at hfin
      rw [hop] at hT
      refine go (hT.1 _ a w ?_ trivial hF ?_)
      · have : l ++ knownE (afts ops (eh i t.slot v).op) [] = l := List.append_nil l
        rw [this]; exact H
      · rintro v' w' hv hbl
        have hv : v' = v := hv
        subst hv
        exact tab_ok hk ts (i + 1) hb.2.2 (H.put hb.2.1 v') (hk _ _ hF hbl) hT.2 hfin
    · exact False.elim hT
theorem Has.tb {a : Act} {w : World} {c : Code} {id : Nat} {Q' : Exit → Act → World → Prop} (H : Has a n l) (F : World → Prop) (hk : ∀ w w', F w → Below w.heap.size w w' → F w') (hF : F w) (es : List EntC) (hc : peel Tryd.prog c Q' = (.region id ops false, Q)) (hT : TabAll ops Q n F l es) (hfin : ∀ a w, Has a n (tabV l es) → F w → Q .normal a w)
    (hb : tabB ops n 0 es = true := by kernel_rfl) : c.wp Tryd.prog Q' a w := by
  refine peel_wp c Q' ?_
  rw [hc]
  exact wp_region_list (tab_ok hk es 0 hb H hF hT hfin)
end
end Go.Proofs.YtkcdkjpmbjcmdaaDoor
