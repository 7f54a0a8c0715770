/-
  Texts of the claim: MqMem RdV MqOps WillQ Off IpN SegN TrSeg AppF Hear Heard TrPlain TellP TrStream FrB TrFrame FrRow Tr27 Lists EqL Chunk SameF Same.
-/
import Derived.Lib.SlBytesConst
import Derived.Lib.BufferRead
import Derived.Great.Frames
import Derived.Test.YtlacidnnankjlaaGreatDoorTt2
namespace Go.Proofs.YtlacidnnankjlaaGreatDoor
set_option maxRecDepth 100000
set_option maxHeartbeats 25600000
section
open Go.RowKit
abbrev mqCells (m : Mq) (vc vw vf : Value) : List Value :=
 [iz m.kind, .string m.client, .bool m.clean, iz m.keep, .bool m.won, .string m.wt, .string m.wp, iz m.wq, .bool m.wr, .string m.user, .bool m.hu, .string m.pass,
  .bool m.hp, .bool m.present, iz m.code, vc, .bool m.dup, iz m.qos, .bool m.retain, .string m.topic, iz m.id, .string m.payload, vw, vf]
theorem RdAt.store {w : World} {B g : Nat} {s : Rd} (h : RdAt w B g s) {a : Addr} (ha : B ≤ a.block) (hne : a.block ≠ g) (v : Value) : RdAt (w.setCell a v) B g s := by
 obtain ⟨A, c, hc, c0, c1, f0, f1, hr, hB, hg⟩ := h
 refine ⟨A, c, hc, ?_, ?_, ?_, ?_, ?_, hB, ?_⟩
 ·rw [World.cell?_setCell_other _ _ _ _ (by intro e; exact hne (by rw [e]))]; exact c0
 ·rw [World.cell?_setCell_other _ _ _ _ (by intro e; exact hne (by rw [e]))]; exact c1
 ·simpa using f0
 ·simpa using f1
 ·exact hr.keep fun p hp => World.cell?_setCell_other _ _ _ _ (by intro e; rw [← e] at hp; omega)
 ·rw [size_setCell']; exact hg
theorem bits_and_u8 (f : UInt8) (n : Nat) (hn : n < 256) : bits .and .i64 (f.toNat : Int) (n : Int) = ((f.toNat &&& n : Nat) : Int) := by
 have := f.toNat_lt
 exact i64_and_nat f.toNat n (by omega) (by omega)
theorem bitB_iff (f : UInt8) (n : Nat) (hn : n < 256) : bitB f (UInt8.ofNat n) = (bits .and .i64 (f.toNat : Int) (n : Int) != 0) := by
 rw [bits_and_u8 f n hn]
 unfold bitB
 have e : (f &&& UInt8.ofNat n).toNat = f.toNat &&& n := by
  rw [UInt8.toNat_and, UInt8.toNat_ofNat', Nat.mod_eq_of_lt (by omega)]
 by_cases h : f &&& UInt8.ofNat n = 0
 ·have e2 : f.toNat &&& n = 0 := by rw [← e, h]; rfl
  rw [h, e2]; rfl
 ·have e2 : ¬ f.toNat &&& n = 0 := by
   intro h2; rw [← e] at h2; exact h (UInt8.toNat_inj.1 (by rw [h2]; rfl))
  have a1 : (f &&& UInt8.ofNat n != 0) = true := by simpa using h
  have a2 : (((f.toNat &&& n : Nat) : Int) != 0) = true := by
   rw [bne_iff_ne]; omega
  rw [a1, a2]
end
section
open Go.RowKit
theorem info_int : (Tryz.prog.info? 3).map (fun i => (i.zero, i.size, i.bytes)) = some (some (iz 0), 1, 8) := by kernel_rfl
theorem info_string : (Tryz.prog.info? 9).map (fun i => (i.zero, i.size, i.bytes)) = some (some (.string ⟨#[]⟩), 1, 16) := by kernel_rfl
theorem info_wish : (Tryz.prog.info? 161).map (fun i => (i.zero, i.size, i.bytes)) = some (some (.agg #[.string ⟨#[]⟩, iz 0]), 2, 24) := by kernel_rfl
theorem takeP_good (s : Rd) (n : Nat) (h : (takeP s n).2.2 = false) : s.2 = false ∧ (takeP s n).2.1.length + n = s.1.length := by
 unfold takeP at h ⊢
 split
 ·rename_i h1
  rw [if_pos h1] at h
  exact ⟨h1.1, by simp; omega⟩
 ·rename_i h1
  rw [if_neg h1] at h
  cases h
theorem oneP_good (s : Rd) (h : (oneP s).2.2 = false) : s.2 = false ∧ (oneP s).2.1.length + 1 = s.1.length := takeP_good s 1 h
theorem twoP_good (s : Rd) (h : (twoP s).2.2 = false) : s.2 = false ∧ (twoP s).2.1.length + 2 = s.1.length := by
 obtain ⟨a, b⟩ := oneP_good (oneP s).2 h
 obtain ⟨c, d⟩ := oneP_good s a
 have : (twoP s).2.1 = (oneP (oneP s).2).2.1 := rfl
 rw [this]
 exact ⟨c, by omega⟩
theorem textP_good (s : Rd) (h : (textP s).2.2 = false) : s.2 = false ∧ (textP s).2.1.length + 2 ≤ s.1.length := by
 obtain ⟨a, b⟩ := takeP_good (twoP s).2 (twoP s).1 h
 obtain ⟨c, d⟩ := twoP_good s a
 have : (textP s).2.1 = (takeP (twoP s).2 (twoP s).1).2.1 := rfl
 rw [this]
 exact ⟨c, by omega⟩
theorem RdAt.drew {w : World} {B g : Nat} {s : Rd} (h : RdAt w B g s) : RdAt w.drew B g s := h
theorem RdAt.row_of {w w' : World} {B g : Nat} {s : Rd} {base : Nat} {e : TypeId} {size n : Nat} {v : Value} {xs : List Value} (h : RdAt w B g s) (hO : w.ownsRow base e size v n xs) (hg : g < base) (o : Obj) (h3 : (w.alloc o).grownBy w' v.ownBlock) : RdAt w' B g s := by
 have hB : B ≤ g := by obtain ⟨_, _, _, _, _, _, _, _, h, _⟩ := h; exact h
 have h1 : RdAt (w.alloc o) B g s := h.kept (World.grownBy_alloc w o none) (by simp) (by simp)
 exact h1.kept h3 (fun k hk => by have := (hO.lt k hk).1; omega) (own_ne hO (Or.inl hg))
theorem takeP_le (s : Rd) (n : Nat) : (takeP s n).2.1.length ≤ s.1.length := by
 unfold takeP; split <;> simp
theorem twoP_le (s : Rd) : (twoP s).2.1.length ≤ s.1.length := Nat.le_trans (takeP_le (oneP s).2 1) (takeP_le s 1)
end
section
open Go.RowKit
theorem zero_mq (w : World) : (zeroValue 49).run Tryz.prog w = .ok (.agg (mqCells (mq0 0) nilV nilV nilV).toArray) w := by kernel_rfl
theorem size_mq : (Tryz.prog.info? 49).map (·.size) = some 24 := by kernel_rfl
end
section
open Go.RowKit
def willB2 (on : Bool) (t b : ByteArray) (q : Int) (r : Bool) : Bool := if on then textOk t 1 64 && (decide ((b.size : Int) ≤ 128) && inRB q 0 2) else emp t && (emp b && (q == 0 && !r))
theorem willOk_eq (m : Mq) : willOk m = willB2 m.won m.wt m.wp m.wq m.wr := rfl
theorem emp_true {s : ByteArray} (h : s.toList = []) : emp s = true := by
 rw [Lib.toList_data] at h
 have : s.size = 0 := by rw [← sb_length]; show s.data.toList.length = 0; rw [h]; rfl
 unfold emp
 rw [this]
 rfl
theorem emp_false {s : ByteArray} (h : ¬ s.toList = []) : emp s = false := by
 rw [Lib.toList_data] at h
 unfold emp
 rw [beq_eq_false_iff_ne]
 intro e
 rw [← sb_length] at e
 exact h (List.eq_nil_of_length_eq_zero e)
theorem packWillOff (t b : ByteArray) (q : Int) (r : Bool) (w : World) :
  Calls Tryz.prog 166 #[.agg #[.bool false, .string t, .string b, .int .i64 q, .bool r]] w fun e w' => e = .returned (.bool (willB2 false t b q r)) ∧ Below w.heap.size w w' := by
 obtain ⟨X, hX⟩ : ∃ X, willB2 false t b q r = X := ⟨_, rfl⟩
 rw [hX]
 have HX := Lib.hid hX
 clear hX
 have HB := Lib.hid (fun r f => (Below.refl w.heap.size w).alloc (Nat.le_refl _) (.cells r f))
 by_cases h1 : t.toList = []
 ·have E1 := Lib.hid (emp_true h1)
  by_cases h2 : b.toList = []
  ·have E2 := Lib.hid (emp_true h2)
   by_cases h3 : q = 0
   ·subst h3
    cases r
    all_goals
     go_enter Tryz.func166, Tryz.ntmps166
     go_wp2
     go_ret
     exact ⟨by rw [← HX.out]; unfold willB2; rw [E1.out, E2.out]; rfl, HB.out _ _⟩
   ·have h3' : (q == 0) = false := by rw [beq_eq_false_iff_ne]; exact h3
    have E3 := Lib.hid h3'
    go_enter Tryz.func166, Tryz.ntmps166
    go_wp2
    go_ret
    exact ⟨by rw [← HX.out]; unfold willB2; rw [E1.out, E2.out, E3.out]; rfl, HB.out _ _⟩
  ·have E2 := Lib.hid (emp_false h2)
   go_enter Tryz.func166, Tryz.ntmps166
   go_wp2
   go_ret
   exact ⟨by rw [← HX.out]; unfold willB2; rw [E1.out, E2.out]; rfl, HB.out _ _⟩
 ·have E1 := Lib.hid (emp_false h1)
  go_enter Tryz.func166, Tryz.ntmps166
  go_wp2
  go_ret
  exact ⟨by rw [← HX.out]; unfold willB2; rw [E1.out]; rfl, HB.out _ _⟩
theorem packWillOn (t b : ByteArray) (q : Int) (r : Bool) (ht : t.size ≤ 140737488351232) (w : World) (hT : Wd w) :
  Calls Tryz.prog 166 #[.agg #[.bool true, .string t, .string b, .int .i64 q, .bool r]] w fun e w' => e = .returned (.bool (willB2 true t b q r)) ∧ Below w.heap.size w w' := by
 have hb0 := Lib.hid (balloc w (.cells #[.bool true, .string t, .string b, .int .i64 q, .bool r] 44))
 have HT := Lib.hid (packTextV t ht 1 64 _ (hT.below hb0.out))
 clear hT
 have hlt : w.heap.size < (w.alloc (.cells #[.bool true, .string t, .string b, .int .i64 q, .bool r] 44)).heap.size := lt_alloc _ _
 have HN := Lib.hid (fun w1 => packWithin q 0 2 w1)
 generalize hX : textOk t 1 64 = X at HT
 generalize hY : inRB q 0 2 = Y at HN
 have HP := Lib.hid (show willB2 true t b q r = (X && (decide ((b.size : Int) ≤ 128) && Y)) by unfold willB2; rw [hX, hY]; rfl)
 generalize willB2 true t b q r = Z at *
 clear hX hY
 go_enter Tryz.func166, Tryz.ntmps166
 go_wp2_with fail
 (with_reducible refine HT.out.mono ?_)
 rintro _ w1 ⟨rfl, hb1⟩
 have HB1 := Lib.hid (hb0.out.trans (hb1.mono (Nat.le_of_lt hlt)))
 have c2 : w1.cell? ⟨w.heap.size, 2, none⟩ = some (.string b) := by rw [cellB hb1 hlt]; simp
 have c3 : w1.cell? ⟨w.heap.size, 3, none⟩ = some (.int .i64 q) := by rw [cellB hb1 hlt]; simp
 clear HT hb1 hb0
 by_cases h1 : (b.size : Int) ≤ 128
 ·rw [decide_eq_true h1] at HP
  cases X
  all_goals
   go_wp2_with (go_at_call 151; (with_reducible refine (HN.out w1).mono ?_); rintro _ w2 ⟨rfl, rfl⟩)
   go_ret
   exact ⟨by rw [HP.out]; rfl, HB1.out⟩
 ·rw [decide_eq_false h1] at HP
  cases X
  all_goals
   go_wp2_with (go_at_call 151; (with_reducible refine (HN.out w1).mono ?_); rintro _ w2 ⟨rfl, rfl⟩)
   go_ret
   exact ⟨by rw [HP.out]; rfl, HB1.out⟩
theorem packWillV (on : Bool) (t b : ByteArray) (q : Int) (r : Bool) (ht : t.size ≤ 140737488351232) (w : World) (hT : Wd w) :
  Calls Tryz.prog 166 #[.agg #[.bool on, .string t, .string b, .int .i64 q, .bool r]] w fun e w' => e = .returned (.bool (willB2 on t b q r)) ∧ Below w.heap.size w w' := by
 cases on
 ·exact packWillOff t b q r w
 ·exact packWillOn t b q r ht w hT
theorem refWillOff (t b : ByteArray) (q : Int) (r : Bool) (w : World) :
  Calls Tryz.prog 72 #[.agg #[.bool false, .string t, .string b, .int .i64 q, .bool r]] w fun e w' => e = .returned (.bool (willB2 false t b q r)) ∧ Below w.heap.size w w' := by
 obtain ⟨X, hX⟩ : ∃ X, willB2 false t b q r = X := ⟨_, rfl⟩
 rw [hX]
 have HX := Lib.hid hX
 clear hX
 have HB := Lib.hid (fun r f => (Below.refl w.heap.size w).alloc (Nat.le_refl _) (.cells r f))
 by_cases h1 : t.toList = []
 ·have E1 := Lib.hid (emp_true h1)
  by_cases h2 : b.toList = []
  ·have E2 := Lib.hid (emp_true h2)
   by_cases h3 : q = 0
   ·subst h3
    cases r
    all_goals
     go_enter Tryz.func72, Tryz.ntmps72
     go_wp2
     go_ret
     exact ⟨by rw [← HX.out]; unfold willB2; rw [E1.out, E2.out]; rfl, HB.out _ _⟩
   ·have h3' : (q == 0) = false := by rw [beq_eq_false_iff_ne]; exact h3
    have E3 := Lib.hid h3'
    go_enter Tryz.func72, Tryz.ntmps72
    go_wp2
    go_ret
    exact ⟨by rw [← HX.out]; unfold willB2; rw [E1.out, E2.out, E3.out]; rfl, HB.out _ _⟩
  ·have E2 := Lib.hid (emp_false h2)
   go_enter Tryz.func72, Tryz.ntmps72
   go_wp2
   go_ret
   exact ⟨by rw [← HX.out]; unfold willB2; rw [E1.out, E2.out]; rfl, HB.out _ _⟩
 ·have E1 := Lib.hid (emp_false h1)
  go_enter Tryz.func72, Tryz.ntmps72
  go_wp2
  go_ret
  exact ⟨by rw [← HX.out]; unfold willB2; rw [E1.out]; rfl, HB.out _ _⟩
theorem refWillOn (t b : ByteArray) (q : Int) (r : Bool) (ht : t.size ≤ 140737488351232) (w : World) (hT : Wd w) :
  Calls Tryz.prog 72 #[.agg #[.bool true, .string t, .string b, .int .i64 q, .bool r]] w fun e w' => e = .returned (.bool (willB2 true t b q r)) ∧ Below w.heap.size w w' := by
 have hb0 := Lib.hid (balloc w (.cells #[.bool true, .string t, .string b, .int .i64 q, .bool r] 44))
 have HT := Lib.hid (refTextV t ht 1 64 _ (hT.below hb0.out))
 clear hT
 have hlt : w.heap.size < (w.alloc (.cells #[.bool true, .string t, .string b, .int .i64 q, .bool r] 44)).heap.size := lt_alloc _ _
 have HN := Lib.hid (fun w1 => refNumB q 2 w1)
 generalize hX : textOk t 1 64 = X at HT
 generalize hY : inRB q 0 2 = Y at HN
 have HP := Lib.hid (show willB2 true t b q r = (X && (decide ((b.size : Int) ≤ 128) && Y)) by unfold willB2; rw [hX, hY]; rfl)
 generalize willB2 true t b q r = Z at *
 clear hX hY
 go_enter Tryz.func72, Tryz.ntmps72
 go_wp2_with fail
 (with_reducible refine HT.out.mono ?_)
 rintro _ w1 ⟨rfl, hb1⟩
 have HB1 := Lib.hid (hb0.out.trans (hb1.mono (Nat.le_of_lt hlt)))
 have c2 : w1.cell? ⟨w.heap.size, 2, none⟩ = some (.string b) := by rw [cellB hb1 hlt]; simp
 have c3 : w1.cell? ⟨w.heap.size, 3, none⟩ = some (.int .i64 q) := by rw [cellB hb1 hlt]; simp
 clear HT hb1 hb0
 by_cases h1 : (b.size : Int) ≤ 128
 ·rw [decide_eq_true h1] at HP
  cases X
  all_goals
   go_wp2_with (go_at_call 24; (with_reducible refine (HN.out w1).mono ?_); rintro _ w2 ⟨rfl, rfl⟩)
   go_ret
   exact ⟨by rw [HP.out]; rfl, HB1.out⟩
 ·rw [decide_eq_false h1] at HP
  cases X
  all_goals
   go_wp2_with (go_at_call 24; (with_reducible refine (HN.out w1).mono ?_); rintro _ w2 ⟨rfl, rfl⟩)
   go_ret
   exact ⟨by rw [HP.out]; rfl, HB1.out⟩
theorem refWillV (on : Bool) (t b : ByteArray) (q : Int) (r : Bool) (ht : t.size ≤ 140737488351232) (w : World) (hT : Wd w) :
  Calls Tryz.prog 72 #[.agg #[.bool on, .string t, .string b, .int .i64 q, .bool r]] w fun e w' => e = .returned (.bool (willB2 on t b q r)) ∧ Below w.heap.size w w' := by
 cases on
 ·exact refWillOff t b q r w
 ·exact refWillOn t b q r ht w hT
end
section
open Go.RowKit
theorem kind_not {a b : Int} (h : (a == b) = false) : ¬ a = b := by simpa using h
def offL (ops : Array Oper) (n : Nat) : Nat → List Oper → List (Nat × Value) → Option (List (Nat × Value))
 | 0, _, l => some l
 | _ + 1, [], _ => none
 | m + 1, o :: os, l => match o.guard, o.dst with
  | some (j, b), some k => match (ops[j]?).bind (·.dst) with
   | some d => match look l d with
    | some v => bif noB v b && Nat.blt k n then offL ops n m os ((k, undef) :: l) else none
    | none => none
   | none => none
  | _, _ => none
section
variable {P : Program} {ops : Array Oper} {a : Act} {w : World} {Q : Exit → Act → World → Prop} {n : Nat}
theorem Has.offs : ∀ (m : Nat) {L : List Oper} {l l' : List (Nat × Value)} {a : Act}, Has a n l → offL ops n m L l = some l' → (∀ a', Has a' n l' → wpList P ops Q (L.drop m) a' w) → wpList P ops Q L a w
 | 0, L, l, l', a, H, h0, h => by
  simp only [offL, Option.some.injEq] at h0
  subst h0
  exact h a H
 | m + 1, [], l, l', a, H, h0, h => by cases h0
 | m + 1, o :: os, l, l', a, H, h0, h => by
  unfold offL at h0
  split at h0
  ·next j b k hg hd =>
   split at h0
   ·next d hj =>
    split at h0
    ·next v hv =>
     cases hb : (noB v b && Nat.blt k n) with
     | false => rw [hb, cond_false] at h0; cases h0
     | true =>
      rw [hb, cond_true] at h0
      rw [Bool.and_eq_true] at hb
      have hw : Region.wanted o (yielded ops a.tmps) = false := by
       unfold Region.wanted
       rw [hg]
       have := yielded_not hj (H.at_ d v hv) hb.1
       simpa using this
      exact wpList_off hw k hd (Has.offs m (H.put hb.2 undef) h0 h)
    ·cases h0
   ·cases h0
  ·cases h0
end
section
variable {P : Program} {ops : Array Oper} {rest : List Oper} {o : Oper} {a : Act} {w : World} {Q : Exit → Act → World → Prop} {n : Nat} {l : List (Nat × Value)}
theorem Has.lenS (H : Has a n l) (hw : Region.wanted o (yielded ops a.tmps) = true) {d : Nat} {s : Operand} {t : TypeId} {u : ByteArray} (ho : o.op = .call { callee := .builtin .len, args := #[s], argTypes := #[t] }) (hd : o.dst = some d) (hn : Nat.blt d n = true) (hs : evL l s = some (.string u)) (ht : P.underlying t = some .string)
  (h : ∀ a', Has a' n ((d, iz u.size) :: l) → wpList P ops Q rest a' w) : wpList P ops Q (o :: rest) a w :=
 H.go hw hd hn _ (run_lenS ho (H.ev hs) ht) h
end
theorem eql_e (u : ByteArray) (x y : Operand) (w : World) : (do eqGuard .eql 9 x y (.string u) (.string { data := #[] }); binOp .eql 9 (.string u) (.string { data := #[] }) : Sem Value).run Tryz.prog w = .ok (.bool (emp u)) w := by
 have e : (u.toList == (⟨#[]⟩ : ByteArray).toList) = emp u := by
  have h2 : (⟨#[]⟩ : ByteArray).toList = [] := by simp
  by_cases h : u.toList = []
  ·rw [emp_true h, h, h2]; rfl
  ·rw [emp_false h, h2]
   simpa using h
 rw [eql_s, e]
theorem store_will (g : Nat) (L : List Value) (a : Bool) (b c : ByteArray) (d : Int) (e : Bool) (w : World) (hC : Cells w g L) (hl : 8 < L.length) :
  (Instr.storeAt 44 (.pointer (some ⟨g, 4, none⟩)) (.agg #[.bool a, .string b, .string c, iz d, .bool e])).run Tryz.prog w = .ok () (w.setCell ⟨g, 4, none⟩ (.bool a) |>.setCell ⟨g, 5, none⟩ (.string b) |>.setCell ⟨g, 6, none⟩ (.string c) |>.setCell ⟨g, 7, none⟩ (iz d) |>.setCell ⟨g, 8, none⟩ (.bool e)) := by
 have ht : w.there g 4 5 := fun j hj => by
  obtain ⟨c1, c2⟩ := hC (4 + j) _ (List.getElem?_eq_getElem (by omega))
  exact ⟨by rw [c1]; rfl, c2⟩
 exact run_storeAt_mid w g 4 44 #[.bool a, .string b, .string c, iz d, .bool e] ht (by kernel_rfl) (all_oneCell_toArray (by intro v hv; simp only [List.mem_cons, List.not_mem_nil, or_false] at hv; rcases hv with rfl | rfl | rfl | rfl | rfl <;> rfl))
end
section
open Go.RowKit
abbrev pz6 : List Value := [iz 0, iz 0, iz 0, iz 0, iz 0, nilV]
theorem size_pkN : (Tryz.prog.info? 89).map (·.size) = some 6 := by kernel_rfl
theorem zero_pkN (w : World) : (zeroValue 89).run Tryz.prog w = .ok (.agg pz6.toArray) w := by kernel_rfl
theorem and_u8 (u v : Int) (x y : Operand) (w : World) : (do eqGuard .and 5 x y (.int .u8 u) (.int .u8 v); binOp .and 5 (.int .u8 u) (.int .u8 v) : Sem Value).run Tryz.prog w = .ok (.int .u8 (bits .and .u8 u v)) w := by kernel_rfl
theorem and15_q (v : Nat) (h : v < 256) (x y : Operand) (w : World) : (do eqGuard .and 5 x y (.int .u8 (v : Int)) (.int .u8 15); binOp .and 5 (.int .u8 (v : Int)) (.int .u8 15) : Sem Value).run Tryz.prog w = .ok (.int .u8 ((v % 16 : Nat) : Int)) w := by
 have e : bits .and .u8 (v : Int) 15 = ((v % 16 : Nat) : Int) := by
  have := u8_and_nat v 15 h (by omega)
  rw [show (15 : Nat) = 2 ^ 4 - 1 from rfl, Nat.and_two_pow_sub_one_eq_mod] at this
  exact this
 rw [← e]
 exact and_u8 _ _ _ _ _
theorem shr4_q (v : Nat) (_h : v < 256) (x y : Operand) (w : World) : (do eqGuard .shr 5 x y (.int .u8 (v : Int)) (.int .u64 4); binOp .shr 5 (.int .u8 (v : Int)) (.int .u64 4) : Sem Value).run Tryz.prog w = .ok (.int .u8 ((v / 16 : Nat) : Int)) w := by
 simp [go_sem]
theorem conv_uN (v : Nat) (h : v < 256) (w : World) : (convert 5 3 (.int .u8 (v : Int))).run Tryz.prog w = .ok (iz v) w := by
 have : IntKind.i64.wrap (v : Int) = (v : Int) := IntWalk.i64_in _ (by omega)
 simp [go_sem, this]
theorem mul4_i (v : Nat) (h : v < 256) (x y : Operand) (w : World) : (do eqGuard .mul 3 x y (iz 4) (iz v); binOp .mul 3 (iz 4) (iz v) : Sem Value).run Tryz.prog w = .ok (iz ((4 * v : Nat) : Int)) w := by
 have : IntKind.i64.wrap (4 * (v : Int)) = 4 * (v : Int) := IntWalk.i64_in _ (by omega)
 simp [go_sem, this]
theorem neq_u8 (u v : Int) (b : Bool) (h : (u != v) = b) (x y : Operand) (w : World) : (do eqGuard .neq 5 x y (.int .u8 u) (.int .u8 v); binOp .neq 5 (.int .u8 u) (.int .u8 v) : Sem Value).run Tryz.prog w = .ok (.bool b) w := by
 rw [← h]
 simp [go_sem]
theorem andn_i (v : Nat) (h : v < 65536) (x y : Operand) (w : World) : (do eqGuard .andNot 3 x y (iz v) (iz 49152); binOp .andNot 3 (iz v) (iz 49152) : Sem Value).run Tryz.prog w = .ok (iz ((v % 16384 : Nat) : Int)) w := by
 have g : ∀ (u v : Int) (w : World), (do eqGuard .andNot 3 x y (iz u) (iz v); binOp .andNot 3 (iz u) (iz v) : Sem Value).run Tryz.prog w = .ok (iz (bits .andNot .i64 u v)) w := fun _ _ _ => by kernel_rfl
 rw [← andNot_frag v h]
 exact g _ _ _
theorem b8_lt (xs : List UInt8) (k : Nat) : b8 xs k < 256 := UInt8.toNat_lt _
theorem num2_ltp (xs : List UInt8) (k m : Nat) : num2 xs k m < 256 ^ m := Nat.lt_of_lt_of_le (ofB_lt _) (Nat.pow_le_pow_right (by omega) (by rw [List.length_take]; omega))
theorem RB.b8 {w : World} {B b o k : Nat} {xs : List UInt8} (h : RB w B (some ⟨b, o, none⟩) xs) (hk : k < xs.length) : w.cell? ⟨b, o + k, none⟩ = some (.int .u8 ((Go.Proofs.YtlacidnnankjlaaGreatDoor.b8 xs k : Nat) : Int)) := by
 obtain ⟨b', o', x, e, _, hx, hc⟩ := h.get hk
 injection e with e
 injection e with e1 e2
 subst e1 e2
 rw [hc, b8_of hx]
theorem RB.piece {w : World} {B c k m : Nat} {A : Option Addr} {xs : List UInt8} (h : RB w B A xs) (hk : k + m ≤ xs.length) (hc : xs.length ≤ c) : RB w B (if c = k then A else A.map (·.add k)) ((xs.drop k).take m) := by
 have := (h.take (k + m)).cut (k := k) (cap := c) (by rw [List.length_take]; omega) (by rw [List.length_take]; omega)
 rw [List.drop_take, Nat.add_sub_cancel_left] at this
 exact this
theorem getN (xs : List UInt8) (n : Nat) (hl : xs.length = n) (A : Option Addr) (c : Nat) (hnc : n ≤ c) (w : World) (hx : RB w w.heap.size A xs) (k m : Nat) (hkm : k + m ≤ n) (hm : m ≤ 7) (v : Nat) (hv : num2 xs k m = v) :
  Calls Tryz.prog 117 #[.slice (if c = k then A else A.map (·.add k)) m (c - k)] w fun e w' => e = .returned (iz v) ∧ w = w' := by
 subst hv
 exact sumGet ((xs.drop k).take m) m (by rw [List.length_take, List.length_drop]; omega) _ _ w (hx.piece (by omega) (by omega)) hm
theorem ipParseN (xs : List UInt8) (n : Nat) (hl : xs.length = n) (A : Option Addr) (c : Nat) (hnc : n ≤ c) (w : World) (hx : RB w w.heap.size A xs) (hn : n ≤ 140737488351232) :
    Calls Tryz.prog 86 #[.slice A n c] w (PkParsed w (parseOut xs)) := by
  go_enter Tryz.func86, Tryz.ntmps86
  refine Has.start 73 [(0, .slice A n c)] rfl rfl ⟨rfl, trivial⟩ ?_
  intro a0 H0
  refine rl ?_
  refine H0.al (Own.start w) 1 zero_pkN fun a w1 O1 H => nt ?_
  obtain ⟨g, hg⟩ : ∃ g, w.heap.size = g := ⟨_, rfl⟩
  rw [hg] at O1 H
  have bl : ∀ {bs : List (Nat × List Value)} {w'}, Own w g bs w' → Below w.heap.size w w' := fun h => hg ▸ h.bel
  refine wp_scope_one (k := 0) rfl (fun a w' => ∃ er : Int, Has a 73 [(2, pz g), (3, iz er)] ∧ Own w g [(g, pz6)] w' ∧ parseOut xs = (.zero, er)) (fun _ _ => 0) ?_ ?_
  rotate_left
  · clear H H0 O1
    rintro a w3 ⟨er, H, O3, he⟩
    refine rl ?_
    refine H.any (w' := w3) gz rfl rfl (.agg (pz6).toArray) (by intro cs b h; cases h) (by kernel_rfl) (by kernel_rfl) fun a H => ?_
    refine H.ms 1 fun a H => ?_
    refine H.st O3 0 1 (L := pz6) (fun a w4 O4 H => nt (wp_ret ?_)) size_pkN
    repeat (first | (with_reducible refine jump_ret ?_) | (with_reducible refine then_ret ?_))
    refine bodyPost_ret (results_two Tryz.results86 _ _ _ (H.at_ 2 _ rfl) (H.at_ 3 _ rfl) (O4.get 0 rfl) Tryz.underlying89 rfl _ size_pkN rfl) H.df ?_
    rw [he]
    exact ⟨none, 0, rfl, World.ownsRow_nil _ _ _ _, bl O4⟩
  intro hpass
  refine H.rg 2 fun a H => nt ?_
  refine H.rg 1 fun a H => nt ?_
  replace H := H.kp [0, 2, 3]
  obtain ⟨N, hN⟩ : ∃ N, ipN xs = N := ⟨_, rfl⟩
  have hN60 : N ≤ 60 := by rw [← hN]; unfold ipN; omega
  obtain ⟨L, hL⟩ : ∃ L, num2 xs 2 2 = L := ⟨_, rfl⟩
  obtain ⟨S, hS⟩ : ∃ S, Sm.check (xs.take N) = S := ⟨_, rfl⟩
  obtain ⟨F, hF⟩ : ∃ F, num2 xs 6 2 = F := ⟨_, rfl⟩
  have x1 := hx.next (bl O1)
  refine H.rg 1 fun a H => ?_
  refine H.len gz rfl rfl rfl rfl Tryz.underlying31 fun a H => ?_
  by_cases h20 : n < 20
  · refine H.bb 0 rfl rfl rfl rfl rfl rfl (lss_i _ _ true (by rw [decide_eq_true_iff]; omega) _ _ _) rfl fun a H => nt (H.condT rfl (wp_goto ?_))
    repeat (first | (with_reducible refine block_goto ?_) | (with_reducible refine then_goto ?_))
    exact jump_goto ⟨7, H.keep ⟨rfl, rfl, trivial⟩, O1, by unfold parseOut; rw [if_pos (by omega)]⟩
  refine H.bb 0 rfl rfl rfl rfl rfl rfl (lss_i _ _ false (by rw [decide_eq_false_iff_not]; omega) _ _ _) rfl fun a H => nt (H.condF rfl (skip_wp (then_normal ?_)))
  refine H.rg 1 fun a H => nt ?_
  replace H := H.kp [0, 2, 3]
  obtain ⟨b, o, _, hA, hbB, _, _⟩ := x1.get (k := 0) (by omega)
  have c0 := (hA ▸ x1 : RB w1 w1.heap.size (some ⟨b, o, none⟩) xs).b8 (k := 0) (by omega)
  have hix : ∀ k, k < n → ∀ w', (Instr.indexAt 31 (.slice A n c) (iz k)).run Tryz.prog w' = .ok (.pointer (some ⟨b, o + k, none⟩)) w' := fun k hk w' => by rw [hA]; exact index_1 31 Tryz.underlying31 (fun _ => by kernel_rfl) b o n c k hk w'
  have hb0 := b8_lt xs 0
  refine H.rg 1 fun a H => ?_
  refine H.index gz rfl rfl rfl rfl rfl (hix 0 (by omega) _) fun a H => ?_
  refine H.ld 0 (load1_u _ _ _ _ c0) fun a H => ?_
  refine H.bn 0 (and15_q (b8 xs 0) hb0 _ _ _) fun a H => ?_
  refine H.cv 0 (conv_uN (b8 xs 0 % 16) (by omega) _) fun a H => ?_
  refine H.bn 1 (mul4_i (b8 xs 0 % 16) (by omega) _ _ _) fun a H => nt ?_
  rw [show 4 * (b8 xs 0 % 16) = N from hN] at H
  replace H := H.kp [0, 2, 3, 4]
  obtain ⟨z4, hz4⟩ : ∃ z, (((b8 xs 0 / 16 : Nat) : Int) != 4) = z := ⟨_, rfl⟩
  refine H.rg 1 fun a H => ?_
  refine H.index gz rfl rfl rfl rfl rfl (hix 0 (by omega) _) fun a H => ?_
  refine H.ld 0 (load1_u _ _ _ _ c0) fun a H => ?_
  refine H.bn 0 (shr4_q (b8 xs 0) hb0 _ _ _) fun a H => ?_
  refine H.bn 1 (neq_u8 _ _ z4 hz4 _ _ _) fun a H => ?_
  cases z4 with
  | true =>
    refine H.offs 2 rfl fun a H => ?_
    refine H.pick gz rfl rfl rfl rfl rfl fun a H => nt (H.condT rfl (wp_goto ?_))
    have h4 : b8 xs 0 / 16 ≠ 4 := by intro e; rw [e] at hz4; cases hz4
    repeat (first | (with_reducible refine block_goto ?_) | (with_reducible refine then_goto ?_))
    exact jump_goto ⟨1, H.keep ⟨rfl, rfl, trivial⟩, O1, by unfold parseOut; rw [if_neg (by omega), if_pos (.inl h4)]⟩
  | false =>
  have h4 : b8 xs 0 / 16 = 4 := by simpa [← Int.natCast_inj] using hz4
  refine H.go (H.wt rfl rfl rfl) rfl rfl _ (run_move (.inl rfl) (H.ev rfl)) fun a H => ?_
  by_cases hN20 : N < 20
  · refine H.bin (H.wt rfl rfl rfl) rfl rfl rfl rfl rfl (lss_i _ _ true (by rw [decide_eq_true_iff]; omega) _ _ _) fun a H => ?_
    refine H.pick gz rfl rfl rfl rfl rfl fun a H => nt (H.condT rfl (wp_goto ?_))
    repeat (first | (with_reducible refine block_goto ?_) | (with_reducible refine then_goto ?_))
    exact jump_goto ⟨1, H.keep ⟨rfl, rfl, trivial⟩, O1, by unfold parseOut; rw [if_neg (by omega), if_pos (.inr (by omega))]⟩
  refine H.bin (H.wt rfl rfl rfl) rfl rfl rfl rfl rfl (lss_i _ _ false (by rw [decide_eq_false_iff_not]; omega) _ _ _) fun a H => ?_
  refine H.pick gz rfl rfl rfl rfl rfl fun a H => nt (H.condF rfl (skip_wp (then_normal ?_)))
  have hg2 : ¬ (b8 xs 0 / 16 ≠ 4 ∨ ipN xs < 20) := by omega
  refine H.rg 1 fun a H => nt ?_
  replace H := H.kp [0, 2, 3, 4]
  refine H.rg 1 fun a H => ?_
  refine H.len gz rfl rfl rfl rfl Tryz.underlying31 fun a H => ?_
  refine H.ms 1 fun a H => ?_
  by_cases hnN : n < N
  · refine H.bb 0 rfl rfl rfl rfl rfl rfl (lss_i _ _ true (by rw [decide_eq_true_iff]; omega) _ _ _) rfl fun a H => nt (H.condT rfl (wp_goto ?_))
    repeat (first | (with_reducible refine block_goto ?_) | (with_reducible refine then_goto ?_))
    exact jump_goto ⟨7, H.keep ⟨rfl, rfl, trivial⟩, O1, by unfold parseOut; rw [if_neg (by omega), if_neg hg2, if_pos (by omega)]⟩
  refine H.bb 0 rfl rfl rfl rfl rfl rfl (lss_i _ _ false (by rw [decide_eq_false_iff_not]; omega) _ _ _) rfl fun a H => nt (H.condF rfl (skip_wp (then_normal ?_)))
  refine H.rg 1 fun a H => nt ?_
  replace H := H.kp [0, 2, 3, 4]
  refine H.rg 1 fun a H => ?_
  refine H.go gz rfl rfl _ (run_slice rfl (H.ev rfl) (H.ev rfl) (H.ev rfl) (slice_lh A n c 2 4 (by decide) (by omega) hnc _)) fun a H => ?_
  refine H.cq 1 (getN xs n hl A c hnc w1 x1 2 2 (by omega) (by decide) L hL) fun a H => nt ?_
  replace H := H.kp [0, 2, 3, 4, 5]
  refine H.rg 2 fun a H => ?_
  by_cases hLN : L < N
  · refine H.bb 0 rfl rfl rfl rfl rfl rfl (lss_i _ _ true (by rw [decide_eq_true_iff]; omega) _ _ _) rfl fun a H => nt (H.condT rfl (wp_goto ?_))
    repeat (first | (with_reducible refine block_goto ?_) | (with_reducible refine then_goto ?_))
    exact jump_goto ⟨1, H.keep ⟨rfl, rfl, trivial⟩, O1, by unfold parseOut; rw [if_neg (by omega), if_neg hg2, if_neg (by omega), if_pos (by omega)]⟩
  refine H.bb 0 rfl rfl rfl rfl rfl rfl (lss_i _ _ false (by rw [decide_eq_false_iff_not]; omega) _ _ _) rfl fun a H => nt (H.condF rfl (skip_wp (then_normal ?_)))
  refine H.rg 1 fun a H => nt ?_
  replace H := H.kp [0, 2, 3, 4, 5]
  refine H.rg 1 fun a H => ?_
  refine H.len gz rfl rfl rfl rfl Tryz.underlying31 fun a H => ?_
  refine H.ms 1 fun a H => ?_
  by_cases hnL : n < L
  · refine H.bb 0 rfl rfl rfl rfl rfl rfl (lss_i _ _ true (by rw [decide_eq_true_iff]; omega) _ _ _) rfl fun a H => nt (H.condT rfl (wp_goto ?_))
    repeat (first | (with_reducible refine block_goto ?_) | (with_reducible refine then_goto ?_))
    exact jump_goto ⟨7, H.keep ⟨rfl, rfl, trivial⟩, O1, by unfold parseOut; rw [if_neg (by omega), if_neg hg2, if_neg (by omega), if_neg (by omega), if_pos (by omega)]⟩
  refine H.bb 0 rfl rfl rfl rfl rfl rfl (lss_i _ _ false (by rw [decide_eq_false_iff_not]; omega) _ _ _) rfl fun a H => nt (H.condF rfl (skip_wp (then_normal ?_)))
  refine H.rg 1 fun a H => nt ?_
  replace H := H.kp [0, 2, 3, 4, 5]
  refine H.rg 2 fun a H => ?_
  refine H.go gz rfl rfl _ (run_slice_h rfl (H.ev rfl) (H.ev rfl) (slice_h A n c N (by omega) hnc _)) fun a H => ?_
  refine H.cq 0 (hS ▸ sumCheck (xs.take N) N (by rw [List.length_take]; omega) A c w1 (x1.take N) (by omega)) fun a H => ?_
  obtain ⟨zs, hzs⟩ : ∃ z, ((S : Int) != 0) = z := ⟨_, rfl⟩
  refine H.bn 0 (neq_3 _ _ zs hzs _ _ _) fun a H => nt ?_
  cases zs with
  | true =>
    refine H.condT rfl (wp_goto ?_)
    have h8 : S ≠ 0 := by intro e; rw [e] at hzs; cases hzs
    repeat (first | (with_reducible refine block_goto ?_) | (with_reducible refine then_goto ?_))
    exact jump_goto ⟨8, H.keep ⟨rfl, rfl, trivial⟩, O1, by unfold parseOut; rw [if_neg (by omega), if_neg hg2, if_neg (by omega), if_neg (by omega), if_neg (by omega), hN, hS, if_pos h8]⟩
  | false =>
  have h8 : S = 0 := by simpa using hzs
  refine H.condF rfl (skip_wp (then_normal ?_))
  refine H.rg 1 fun a H => nt ?_
  replace H := H.kp [0, 2, 3, 4, 5]
  have hFl : F < 65536 := hF ▸ num2_ltp xs 6 2
  refine H.rg 1 fun a H => ?_
  refine H.go gz rfl rfl _ (run_slice rfl (H.ev rfl) (H.ev rfl) (H.ev rfl) (slice_lh A n c 6 8 (by decide) (by omega) hnc _)) fun a H => ?_
  refine H.cq 0 (getN xs n hl A c hnc w1 x1 6 2 (by omega) (by decide) F hF) fun a H => ?_
  refine H.bn 0 (andn_i F hFl _ _ _) fun a H => ?_
  obtain ⟨zf, hzf⟩ : ∃ z, (((F % 16384 : Nat) : Int) != 0) = z := ⟨_, rfl⟩
  refine H.bn 0 (neq_3 _ _ zf hzf _ _ _) fun a H => nt ?_
  have hrest : parseOut xs = if F % 16384 ≠ 0 then (.zero, 9) else (parsed xs, 0) := by unfold parseOut; rw [if_neg (by omega), if_neg hg2, if_neg (by omega), if_neg (by omega), if_neg (by omega), hN, hS, if_neg (by omega), hF]
  cases zf with
  | true =>
    refine H.condT rfl (wp_goto ?_)
    have h9 : F % 16384 ≠ 0 := by intro e; rw [e] at hzf; cases hzf
    repeat (first | (with_reducible refine block_goto ?_) | (with_reducible refine then_goto ?_))
    exact jump_goto ⟨9, H.keep ⟨rfl, rfl, trivial⟩, O1, by rw [hrest, if_pos h9]⟩
  | false =>
  rw [if_neg (by have : ((F % 16384 : Nat) : Int) = 0 := by simpa using hzf
                 omega)] at hrest
  refine H.condF rfl (skip_wp (then_normal ?_))
  replace H := H.kp [0, 2, 4, 5]
  have hrb : ∀ {bs : List (Nat × List Value)} {w'}, Own w g bs w' → RB w' w'.heap.size (some ⟨b, o, none⟩) xs := fun h => hA ▸ hx.next (bl h)
  have hcl : ((xs.take L).drop N).length = L - N := by rw [List.length_drop, List.length_take]; omega
  refine H.sg (fun w' => Own w g [(g, pz6)] w') O1.drew [0, 2, 4, 5] [ec 0 48 (.slice A n c), ec 1 49 (.slice (if c = 12 then A else A.map (·.add 12)) 4 (c - 12)), ec 2 50 (iz (num2 xs 12 4)), ec 3 51 (.slice A n c), ec 4 52 (.slice (if c = 16 then A else A.map (·.add 16)) 4 (c - 16)), ec 5 53 (iz (num2 xs 16 4)), ec 6 54 (.slice A n c), ec 7 55 (.pointer (some ⟨b, o + 9, none⟩)), ec 8 56 (.int .u8 ((b8 xs 9 : Nat) : Int)), ec 9 57 (iz (b8 xs 9)), ec 10 58 (.slice A n c), ec 11 59 (.pointer (some ⟨b, o + 8, none⟩)), ec 12 60 (.int .u8 ((b8 xs 8 : Nat) : Int)), ec 13 61 (iz (b8 xs 8)), ec 14 62 (.slice A n c), ec 15 63 (.slice (if c = 4 then A else A.map (·.add 4)) 2 (c - 4)), ec 16 64 (iz (num2 xs 4 2)), ec 17 65 (.slice A n c), ec 18 66 (iz N), ec 19 67 (iz L), ec 20 68 (.slice (if c = N then A else A.map (·.add N)) (L - N) (c - N)), ec 24 3 (iz 0)] rfl ?_
  refine St.call 21 ⟨jm, js2 fun _ => slice_lh A n c 12 16 (by omega) (by omega) hnc _, jq fun w' h => getN xs n hl A c hnc w' (hx.next (bl h)) 12 4 (by omega) (by decide) _ rfl, jm, js2 fun _ => slice_lh A n c 16 20 (by omega) (by omega) hnc _, jq fun w' h => getN xs n hl A c hnc w' (hx.next (bl h)) 16 4 (by omega) (by decide) _ rfl, jm, jI rfl rfl rfl rfl rfl rfl (hix 9 (by omega)), jl fun _ h => load1_u _ _ _ _ ((hrb h).b8 (k := 9) (by omega)), jc fun _ => conv_uN (b8 xs 9) (b8_lt xs 9) _, jm, jI rfl rfl rfl rfl rfl rfl (hix 8 (by omega)), jl fun _ h => load1_u _ _ _ _ ((hrb h).b8 (k := 8) (by omega)), jc fun _ => conv_uN (b8 xs 8) (b8_lt xs 8) _, jm, js2 fun _ => slice_lh A n c 4 6 (by omega) (by omega) hnc _, jq fun w' h => getN xs n hl A c hnc w' (hx.next (bl h)) 4 2 (by omega) (by decide) _ rfl, jm, jm, jm, js2 fun _ => slice_lh A n c N L (by omega) (by omega) hnc _, jm, trivial⟩ (fun wy h => cloneE ((xs.take L).drop N) (L - N) hcl _ (c - N) wy (((hx.next (bl h)).take L).cut (k := N) (cap := c) (by rw [List.length_take]; omega) (by rw [List.length_take]; omega)) (by omega)) ?_
  rintro wy _ wz hh ⟨A1, c1, rfl, hO, hb⟩
  have hgy : g < wy.heap.size := hh.lt 0 rfl
  have Oz := hh.call hb
  clear hb
  generalize wy.heap.size = bb at hO hgy
  refine nx (fun w' => Own w g [(g, pz6)] w' ∧ w'.ownsRow bb 5 1 (.slice A1 (L - N) c1) (L - N) (((xs.take L).drop N).map bv)) [ec 22 70 (.agg ([iz (num2 xs 12 4), iz (num2 xs 16 4), iz (b8 xs 9), iz (b8 xs 8), iz (num2 xs 4 2), .slice A1 (L - N) c1] : List Value).toArray)] [] ⟨Oz, hO⟩ ?_
  refine St.sto 23 ⟨ja (fun _ => by kernel_rfl), jm, jI rfl rfl rfl rfl rfl rfl (hix 9 (by omega)), jl fun _ h => load1_u _ _ _ _ ((hrb h.1).b8 (k := 9) (by omega)), jc fun _ => conv_uN (b8 xs 9) (b8_lt xs 9) _, jm, jI rfl rfl rfl rfl rfl rfl (hix 8 (by omega)), jl fun _ h => load1_u _ _ _ _ ((hrb h.1).b8 (k := 8) (by omega)), jc fun _ => conv_uN (b8 xs 8) (b8_lt xs 8) _, jm, trivial⟩ ?_
  rintro a wu H _ ⟨Ou, hOu⟩
  obtain ⟨w', hr, hg3, hs3, hC3⟩ := (Ou.get 0 rfl).sto (L := [iz (num2 xs 12 4), iz (num2 xs 16 4), iz (b8 xs 9), iz (b8 xs 8), iz (num2 xs 4 2), .slice A1 (L - N) c1]) size_pkN rfl rfl rfl
  refine ⟨w', run_store rfl (H.ev rfl) (H.ev rfl) hr, nx0 (fun w' => Own w g [(g, [iz (num2 xs 12 4), iz (num2 xs 16 4), iz (b8 xs 9), iz (b8 xs 8), iz (num2 xs 4 2), .slice A1 (L - N) c1])] w' ∧ w'.ownsRow bb 5 1 (.slice A1 (L - N) c1) (L - N) (((xs.take L).drop N).map bv)) [] [] ⟨Ou.store 0 rfl hg3 hs3 hC3, hOu.kept hg3 (.inr (own_ne hOu (.inl hgy)).symm)⟩ (St.fin ⟨jm, trivial⟩ ?_ (hF := .inl rfl))⟩
  rintro a w3 H _ ⟨O3, hO3⟩
  refine then_normal (wp_ret ?_)
  repeat (first | (with_reducible refine jump_ret ?_) | (with_reducible refine block_ret ?_) | (with_reducible refine then_ret ?_))
  refine bodyPost_ret (results_two Tryz.results86 _ _ _ (H.at_ 2 _ rfl) (H.at_ 3 _ rfl) (O3.get 0 rfl) Tryz.underlying89 rfl _ size_pkN rfl) H.df ?_
  rw [hrest]
  unfold parsed
  rw [hN, hL]
  refine ⟨A1, c1, ?_, ?_, bl O3⟩
  · simp only [hcl]
  · simp only [hcl]; exact own_base hO3 (by omega)
end
section
open Go.RowKit
abbrev sz7 : List Value := [iz 0, iz 0, iz 0, iz 0, iz 0, iz 0, nilV]
theorem size_sgN : (Tryz.prog.info? 36).map (·.size) = some 7 := by kernel_rfl
theorem zero_sgN (w : World) : (zeroValue 36).run Tryz.prog w = .ok (.agg sz7.toArray) w := by kernel_rfl
theorem and63_i (v : Nat) (h : v < 256) (x y : Operand) (w : World) : (do eqGuard .and 3 x y (iz v) (iz 63); binOp .and 3 (iz v) (iz 63) : Sem Value).run Tryz.prog w = .ok (iz ((v % 64 : Nat) : Int)) w := by
 have g : ∀ (u v : Int) (w : World), (do eqGuard .and 3 x y (iz u) (iz v); binOp .and 3 (iz u) (iz v) : Sem Value).run Tryz.prog w = .ok (iz (bits .and .i64 u v)) w := fun _ _ _ => by kernel_rfl
 have e : bits .and .i64 (v : Int) 63 = ((v % 64 : Nat) : Int) := by
  have := i64_and_nat v 63 (by omega) (by omega)
  rw [show (63 : Nat) = 2 ^ 6 - 1 from rfl, Nat.and_two_pow_sub_one_eq_mod] at this
  exact this
 rw [← e]
 exact g _ _ _
theorem segParseN (src dst : Int) (xs : List UInt8) (n : Nat) (hl : xs.length = n) (A : Option Addr) (c : Nat) (hnc : n ≤ c) (w : World) (hx : RB w w.heap.size A xs) (hn : n ≤ 140737488351232) :
  Calls Tryz.prog 87 #[iz src, iz dst, .slice A n c] w (SegParsed w (segOut src dst xs)) := by
 go_enter Tryz.func87, Tryz.ntmps87
 refine Has.start 67 [(0, iz src), (1, iz dst), (2, .slice A n c)] rfl rfl ⟨rfl, rfl, rfl, trivial⟩ ?_
 intro a0 H0
 refine rl ?_
 refine H0.al (Own.start w) 1 zero_sgN fun a w1 O1 H => nt ?_
 obtain ⟨g, hg⟩ : ∃ g, w.heap.size = g := ⟨_, rfl⟩
 rw [hg] at O1 H
 have bl : ∀ {bs : List (Nat × List Value)} {w'}, Own w g bs w' → Below w.heap.size w w' := fun h => hg ▸ h.bel
 refine wp_scope_one (k := 0) rfl (fun a w' => ∃ er : Int, Has a 67 [(6, pz g), (7, iz er)] ∧ Own w g [(g, sz7)] w' ∧ segOut src dst xs = (.zero, er)) (fun _ _ => 0) ?_ ?_
 rotate_left
 ·clear H H0 O1
  rintro a w3 ⟨er, H, O3, he⟩
  refine rl ?_
  refine H.any (w' := w3) gz rfl rfl (.agg sz7.toArray) (by intro cs b h; cases h) (by kernel_rfl) (by kernel_rfl) fun a H => ?_
  refine H.ms 1 fun a H => ?_
  refine H.st O3 0 1 (L := sz7) (fun a w4 O4 H => nt (wp_ret ?_)) size_sgN
  repeat (first | (with_reducible refine jump_ret ?_) | (with_reducible refine then_ret ?_))
  refine bodyPost_ret (results_two Tryz.results87 _ _ _ (H.at_ 6 _ rfl) (H.at_ 7 _ rfl) (O4.get 0 rfl) Tryz.underlying36 rfl _ size_sgN rfl) H.df ?_
  rw [he]
  exact ⟨none, 0, rfl, World.ownsRow_nil _ _ _ _, bl O4⟩
 intro hpass
 obtain ⟨N, hN⟩ : ∃ N, sgN xs = N := ⟨_, rfl⟩
 have hN60 : N ≤ 60 := by have := b8_lt xs 12; rw [← hN]; unfold sgN; omega
 have x1 := hx.next (bl O1)
 refine H.rg 1 fun a H => nt ?_
 refine H.rg 1 fun a H => nt ?_
 replace H := H.kp [0, 1, 2, 6, 7]
 obtain ⟨b1, h1⟩ : ∃ b, wordB src = b := ⟨_, rfl⟩
 obtain ⟨b2, h2⟩ : ∃ b, wordB dst = b := ⟨_, rfl⟩
 refine H.rg 1 fun a H => ?_
 refine H.cq 0 (segIPV src b1 h1 w1) fun a H => ?_
 refine H.un gz rfl rfl rfl rfl (run_not b1 _) fun a H => ?_
 refine H.ms 1 fun a H => ?_
 cases b1 with
 | false =>
  refine H.offs 3 rfl fun a H => ?_
  refine H.pick gz rfl rfl rfl rfl rfl fun a H => nt (H.condT rfl (wp_goto ?_))
  repeat (first | (with_reducible refine block_goto ?_) | (with_reducible refine then_goto ?_))
  exact jump_goto ⟨1, H.keep ⟨rfl, rfl, trivial⟩, O1, by unfold segOut; rw [if_pos (.inl h1)]⟩
 | true =>
 refine H.go (H.wt rfl rfl rfl) rfl rfl _ (run_move (.inl rfl) (H.ev rfl)) fun a H => ?_
 refine H.call (H.wt rfl rfl rfl) rfl rfl rfl rfl (fun _ _ => by kernel_rfl) (quietC (segIPV dst b2 h2 w1)) ?_
 rintro a _ _ ⟨rfl, rfl⟩ H
 refine H.un (H.wt rfl rfl rfl) rfl rfl rfl rfl (run_not b2 _) fun a H => ?_
 refine H.pick gz rfl rfl rfl rfl rfl fun a H => nt ?_
 cases b2 with
 | false =>
  refine H.condT rfl (wp_goto ?_)
  repeat (first | (with_reducible refine block_goto ?_) | (with_reducible refine then_goto ?_))
  exact jump_goto ⟨1, H.keep ⟨rfl, rfl, trivial⟩, O1, by unfold segOut; rw [if_pos (.inr h2)]⟩
 | true =>
 refine H.condF rfl (skip_wp (then_normal ?_))
 obtain ⟨src, rfl⟩ := Int.eq_ofNat_of_zero_le (inR_iff.1 h1).1
 obtain ⟨dst, rfl⟩ := Int.eq_ofNat_of_zero_le (inR_iff.1 h2).1
 have hs := (inR_iff.1 h1).2
 have hd := (inR_iff.1 h2).2
 have h12 : ¬ (wordB (src : Int) = false ∨ wordB (dst : Int) = false) := by rw [h1, h2]; simp
 refine H.rg 1 fun a H => nt ?_
 replace H := H.kp [0, 1, 2, 6, 7]
 refine H.rg 1 fun a H => ?_
 refine H.len gz rfl rfl rfl rfl Tryz.underlying31 fun a H => ?_
 by_cases h20 : n < 20
 ·refine H.bb 0 rfl rfl rfl rfl rfl rfl (lss_i _ _ true (by rw [decide_eq_true_iff]; omega) _ _ _) rfl fun a H => nt (H.condT rfl (wp_goto ?_))
  repeat (first | (with_reducible refine block_goto ?_) | (with_reducible refine then_goto ?_))
  exact jump_goto ⟨7, H.keep ⟨rfl, rfl, trivial⟩, O1, by unfold segOut; rw [if_neg h12, if_pos (by omega)]⟩
 refine H.bb 0 rfl rfl rfl rfl rfl rfl (lss_i _ _ false (by rw [decide_eq_false_iff_not]; omega) _ _ _) rfl fun a H => nt (H.condF rfl (skip_wp (then_normal ?_)))
 refine H.rg 1 fun a H => nt ?_
 replace H := H.kp [0, 1, 2, 6, 7]
 obtain ⟨b, o, _, hA, hbB, _, _⟩ := x1.get (k := 0) (by omega)
 have hrb : ∀ {bs : List (Nat × List Value)} {w'}, Own w g bs w' → RB w' w'.heap.size (some ⟨b, o, none⟩) xs := fun h => hA ▸ hx.next (bl h)
 have hix : ∀ k, k < n → ∀ w', (Instr.indexAt 31 (.slice A n c) (iz k)).run Tryz.prog w' = .ok (.pointer (some ⟨b, o + k, none⟩)) w' := fun k hk w' => by rw [hA]; exact index_1 31 Tryz.underlying31 (fun _ => by kernel_rfl) b o n c k hk w'
 have hb0 := b8_lt xs 12
 refine H.rg 1 fun a H => ?_
 refine H.index gz rfl rfl rfl rfl rfl (hix 12 (by omega) _) fun a H => ?_
 refine H.ld 0 (load1_u _ _ _ _ ((hrb O1).b8 (k := 12) (by omega))) fun a H => ?_
 refine H.bn 0 (shr4_q (b8 xs 12) hb0 _ _ _) fun a H => ?_
 refine H.cv 0 (conv_uN (b8 xs 12 / 16) (by omega) _) fun a H => ?_
 refine H.bn 1 (mul4_i (b8 xs 12 / 16) (by omega) _ _ _) fun a H => nt ?_
 rw [show 4 * (b8 xs 12 / 16) = N from hN] at H
 replace H := H.kp [0, 1, 2, 6, 7, 8]
 refine H.rg 1 fun a H => ?_
 by_cases hN20 : N < 20
 ·refine H.bb 0 rfl rfl rfl rfl rfl rfl (lss_i _ _ true (by rw [decide_eq_true_iff]; omega) _ _ _) rfl fun a H => nt (H.condT rfl (wp_goto ?_))
  repeat (first | (with_reducible refine block_goto ?_) | (with_reducible refine then_goto ?_))
  exact jump_goto ⟨1, H.keep ⟨rfl, rfl, trivial⟩, O1, by unfold segOut; rw [if_neg h12, if_neg (by omega), if_pos (by omega)]⟩
 refine H.bb 0 rfl rfl rfl rfl rfl rfl (lss_i _ _ false (by rw [decide_eq_false_iff_not]; omega) _ _ _) rfl fun a H => nt (H.condF rfl (skip_wp (then_normal ?_)))
 refine H.rg 1 fun a H => nt ?_
 replace H := H.kp [0, 1, 2, 6, 7, 8]
 refine H.rg 1 fun a H => ?_
 refine H.len gz rfl rfl rfl rfl Tryz.underlying31 fun a H => ?_
 refine H.ms 1 fun a H => ?_
 by_cases hnN : n < N
 ·refine H.bb 0 rfl rfl rfl rfl rfl rfl (lss_i _ _ true (by rw [decide_eq_true_iff]; omega) _ _ _) rfl fun a H => nt (H.condT rfl (wp_goto ?_))
  repeat (first | (with_reducible refine block_goto ?_) | (with_reducible refine then_goto ?_))
  exact jump_goto ⟨7, H.keep ⟨rfl, rfl, trivial⟩, O1, by unfold segOut; rw [if_neg h12, if_neg (by omega), if_neg (by omega), if_pos (by omega)]⟩
 refine H.bb 0 rfl rfl rfl rfl rfl rfl (lss_i _ _ false (by rw [decide_eq_false_iff_not]; omega) _ _ _) rfl fun a H => nt (H.condF rfl (skip_wp (then_normal ?_)))
 refine H.rg 1 fun a H => nt ?_
 replace H := H.kp [0, 1, 2, 6, 7, 8]
 refine H.rg 1 fun a H => ?_
 refine H.len gz rfl rfl rfl rfl Tryz.underlying31 fun a H => ?_
 by_cases hbig : 1480 < n
 ·refine H.bb 0 rfl rfl rfl rfl rfl rfl (gtr_i _ _ true (by rw [decide_eq_true_iff]; omega) _ _ _) rfl fun a H => nt (H.condT rfl (wp_goto ?_))
  repeat (first | (with_reducible refine block_goto ?_) | (with_reducible refine then_goto ?_))
  exact jump_goto ⟨2, H.keep ⟨rfl, rfl, trivial⟩, O1, by unfold segOut; rw [if_neg h12, if_neg (by omega), if_neg (by omega), if_neg (by omega), if_pos (by omega)]⟩
 refine H.bb 0 rfl rfl rfl rfl rfl rfl (gtr_i _ _ false (by rw [decide_eq_false_iff_not]; omega) _ _ _) rfl fun a H => nt (H.condF rfl (skip_wp (then_normal ?_)))
 refine H.rg 1 fun a H => nt ?_
 replace H := H.kp [0, 1, 2, 6, 7, 8]
 obtain ⟨S, hS⟩ : ∃ S, segSum src dst xs = S := ⟨_, rfl⟩
 refine H.rg 3 fun a H => ?_
 refine H.cl (belowC (hS ▸ segCheck src dst (by omega) (by omega) xs n hl A c w1 x1 (by omega))) ?_
 rintro a _ w2 ⟨rfl, hb2⟩ H
 have O2 := O1.call hb2
 have hrest : segOut src dst xs = if S ≠ 0 then (.zero, 8) else (sgParsed xs, 0) := by unfold segOut; rw [if_neg h12, if_neg (by omega), if_neg (by omega), if_neg (by omega), if_neg (by omega), Int.toNat_natCast, Int.toNat_natCast, hS]
 obtain ⟨zs, hzs⟩ : ∃ z, ((S : Int) != 0) = z := ⟨_, rfl⟩
 refine H.bn 0 (neq_3 _ _ zs hzs _ _ _) fun a H => nt ?_
 cases zs with
 | true =>
  refine H.condT rfl (wp_goto ?_)
  have h8 : S ≠ 0 := by intro e; rw [e] at hzs; cases hzs
  repeat (first | (with_reducible refine block_goto ?_) | (with_reducible refine then_goto ?_))
  exact jump_goto ⟨8, H.keep ⟨rfl, rfl, trivial⟩, O2, by rw [hrest, if_pos h8]⟩
 | false =>
 rw [if_neg (by simpa using hzs)] at hrest
 refine H.condF rfl (skip_wp (then_normal ?_))
 replace H := H.kp [2, 6, 8]
 have hcl : (xs.drop N).length = n - N := by rw [List.length_drop]; omega
 refine H.sg (fun w' => Own w g [(g, sz7)] w') O2.drew [2, 6, 8] [ec 0 40 (.slice A n c), ec 1 41 (.slice A 2 c), ec 2 42 (iz (num2 xs 0 2)), ec 3 43 (.slice A n c), ec 4 44 (.slice (if c = 2 then A else A.map (·.add 2)) 2 (c - 2)), ec 5 45 (iz (num2 xs 2 2)), ec 6 46 (.slice A n c), ec 7 47 (.slice (if c = 4 then A else A.map (·.add 4)) 4 (c - 4)), ec 8 48 (iz (num2 xs 4 4)), ec 9 49 (.slice A n c), ec 10 50 (.slice (if c = 8 then A else A.map (·.add 8)) 4 (c - 8)), ec 11 51 (iz (num2 xs 8 4)), ec 12 52 (.slice A n c), ec 13 53 (.pointer (some ⟨b, o + 13, none⟩)), ec 14 54 (.int .u8 ((b8 xs 13 : Nat) : Int)), ec 15 55 (iz (b8 xs 13)), ec 16 56 (iz ((b8 xs 13 % 64 : Nat) : Int)), ec 17 57 (.slice A n c), ec 18 58 (.slice (if c = 14 then A else A.map (·.add 14)) 2 (c - 14)), ec 19 59 (iz (num2 xs 14 2)), ec 20 60 (.slice A n c), ec 21 61 (iz N), ec 22 62 (.slice (if c = N then A else A.map (·.add N)) (n - N) (c - N)), ec 26 7 (iz 0)] rfl ?_
 refine St.call 23 ⟨jm, jh fun _ => slice_h A n c 2 (by omega) hnc _, jq fun w' h => sumGet (xs.take 2) 2 (by rw [List.length_take]; omega) A c w' ((hx.next (bl h)).take 2) (by decide), jm, js2 fun _ => slice_lh A n c 2 4 (by omega) (by omega) hnc _, jq fun w' h => getN xs n hl A c hnc w' (hx.next (bl h)) 2 2 (by omega) (by decide) _ rfl, jm, js2 fun _ => slice_lh A n c 4 8 (by omega) (by omega) hnc _, jq fun w' h => getN xs n hl A c hnc w' (hx.next (bl h)) 4 4 (by omega) (by decide) _ rfl, jm, js2 fun _ => slice_lh A n c 8 12 (by omega) (by omega) hnc _, jq fun w' h => getN xs n hl A c hnc w' (hx.next (bl h)) 8 4 (by omega) (by decide) _ rfl, jm, jI rfl rfl rfl rfl rfl rfl (hix 13 (by omega)), jl fun _ h => load1_u _ _ _ _ ((hrb h).b8 (k := 13) (by omega)), jc fun _ => conv_uN (b8 xs 13) (b8_lt xs 13) _, jb fun _ => and63_i (b8 xs 13) (b8_lt xs 13) _ _ _, jm, js2 fun _ => slice_lh A n c 14 16 (by omega) (by omega) hnc _, jq fun w' h => getN xs n hl A c hnc w' (hx.next (bl h)) 14 2 (by omega) (by decide) _ rfl, jm, jm, js1 fun _ => slice_lo A n c N (by omega) hnc _, jm, trivial⟩ (fun wy h => cloneE (xs.drop N) (n - N) hcl _ (c - N) wy ((hx.next (bl h)).cut (k := N) (cap := c) (by omega) (by omega)) (by omega)) ?_
 rintro wy _ wz hh ⟨A1, c1, rfl, hO, hb⟩
 have hgy : g < wy.heap.size := hh.lt 0 rfl
 have Oz := hh.call hb
 clear hb
 generalize wy.heap.size = bb at hO hgy
 refine nx (fun w' => Own w g [(g, sz7)] w' ∧ w'.ownsRow bb 5 1 (.slice A1 (n - N) c1) (n - N) ((xs.drop N).map bv)) [ec 24 64 (.agg ([iz (num2 xs 0 2), iz (num2 xs 2 2), iz (num2 xs 4 4), iz (num2 xs 8 4), iz ((b8 xs 13 % 64 : Nat) : Int), iz (num2 xs 14 2), .slice A1 (n - N) c1] : List Value).toArray)] [] ⟨Oz, hO⟩ ?_
 refine St.sto 25 ⟨ja (fun _ => by kernel_rfl), jm, jI rfl rfl rfl rfl rfl rfl (hix 13 (by omega)), jl fun _ h => load1_u _ _ _ _ ((hrb h.1).b8 (k := 13) (by omega)), jc fun _ => conv_uN (b8 xs 13) (b8_lt xs 13) _, jb fun _ => and63_i (b8 xs 13) (b8_lt xs 13) _ _ _, jm, trivial⟩ ?_
 rintro a wu H _ ⟨Ou, hOu⟩
 obtain ⟨w', hr, hg3, hs3, hC3⟩ := (Ou.get 0 rfl).sto (L := [iz (num2 xs 0 2), iz (num2 xs 2 2), iz (num2 xs 4 4), iz (num2 xs 8 4), iz ((b8 xs 13 % 64 : Nat) : Int), iz (num2 xs 14 2), .slice A1 (n - N) c1]) size_sgN rfl rfl rfl
 refine ⟨w', run_store rfl (H.ev rfl) (H.ev rfl) hr, nx0 (fun w' => Own w g [(g, [iz (num2 xs 0 2), iz (num2 xs 2 2), iz (num2 xs 4 4), iz (num2 xs 8 4), iz ((b8 xs 13 % 64 : Nat) : Int), iz (num2 xs 14 2), .slice A1 (n - N) c1])] w' ∧ w'.ownsRow bb 5 1 (.slice A1 (n - N) c1) (n - N) ((xs.drop N).map bv)) [] [] ⟨Ou.store 0 rfl hg3 hs3 hC3, hOu.kept hg3 (.inr (own_ne hOu (.inl hgy)).symm)⟩ (St.fin ⟨jm, trivial⟩ ?_ (hF := .inl rfl))⟩
 rintro a w3 H _ ⟨O3, hO3⟩
 refine then_normal (wp_ret ?_)
 repeat (first | (with_reducible refine jump_ret ?_) | (with_reducible refine block_ret ?_) | (with_reducible refine then_ret ?_))
 refine bodyPost_ret (results_two Tryz.results87 _ _ _ (H.at_ 6 _ rfl) (H.at_ 7 _ rfl) (O3.get 0 rfl) Tryz.underlying36 rfl _ size_sgN rfl) H.df ?_
 rw [hrest]
 unfold sgParsed
 rw [hN]
 refine ⟨A1, c1, ?_, ?_, bl O3⟩
 ·simp only [hcl]
 ·simp only [hcl]; exact own_base hO3 (by omega)
end
section
open Go.RowKit
def segIn (b : List UInt8) : Option (Pk × Sg) :=
 if (frOut b).2 ≠ 0 ∨ (frOut b).1.t ≠ 2048 then none
 else if (parseOut (frOut b).1.xs).2 ≠ 0 ∨ (parseOut (frOut b).1.xs).1.p ≠ 6 then none
 else if (segOut (parseOut (frOut b).1.xs).1.s (parseOut (frOut b).1.xs).1.d (parseOut (frOut b).1.xs).1.xs).2 ≠ 0 then none
 else some ((parseOut (frOut b).1.xs).1, (segOut (parseOut (frOut b).1.xs).1.s (parseOut (frOut b).1.xs).1.d (parseOut (frOut b).1.xs).1.xs).1)
abbrev pkL (p : Pk) (v : Value) : List Value := [iz p.s, iz p.d, iz p.p, iz p.t, iz p.i, v]
abbrev sgL (q : Sg) (v : Value) : List Value := [iz q.sp, iz q.dp, iz q.sq, iz q.ak, iz q.fl, iz q.wn, v]
def SegInV (W : World) : Option (Pk × Sg) → Value → World → Prop
 | none, v, w => v = .tuple #[.agg (pkL .zero nilV).toArray, .agg (sgL .zero nilV).toArray, .bool false] ∧ Below W.heap.size W w
 | some (p, q), v, w => ∃ A0 n0 c0 A c, v = .tuple #[.agg (pkL p (.slice A0 n0 c0)).toArray, .agg (sgL q (.slice A q.xs.length c)).toArray, .bool true] ∧ w.ownsRow W.heap.size 5 1 (.slice A q.xs.length c) q.xs.length (q.xs.map bv) ∧ Below W.heap.size W w
theorem size_pk27 : (Tryz.prog.info? 89).map (·.size) = some 6 := by kernel_rfl
theorem zero_pk27 (w : World) : (zeroValue 89).run Tryz.prog w = .ok (.agg (pkL .zero nilV).toArray) w := by kernel_rfl
theorem size_sg27 : (Tryz.prog.info? 36).map (·.size) = some 7 := by kernel_rfl
theorem zero_sg27 (w : World) : (zeroValue 36).run Tryz.prog w = .ok (.agg (sgL .zero nilV).toArray) w := by kernel_rfl
theorem parse_le (xs : List UInt8) : (parseOut xs).1.xs.length ≤ xs.length := by
 unfold parseOut
 repeat' split
 all_goals first | (simp [Pk.zero]; done) | skip
 simp [parsed]
 omega
theorem neq_k (u v : Int) (b : Bool) (h : (u != v) = b) (x y : Operand) (w : World) : (do eqGuard .neq 27 x y (iz u) (iz v); binOp .neq 27 (iz u) (iz v) : Sem Value).run Tryz.prog w = .ok (.bool b) w := by
 subst h
 simp [go_sem]
theorem ipParseT (xs : List UInt8) (A : Option Addr) (c : Nat) (hnc : xs.length ≤ c) (w : World) (hx : RB w w.heap.size A xs) (hn : xs.length ≤ 140737488351232) :
  Calls Tryz.prog 86 #[.slice A xs.length c] w fun e w' => ∃ v, e = .returned v ∧ ∃ A' c', v = .tuple #[.agg (pkL (parseOut xs).1 (.slice A' (parseOut xs).1.xs.length c')).toArray, iz (parseOut xs).2] ∧ w'.ownsRow w.heap.size 5 1 (.slice A' (parseOut xs).1.xs.length c') (parseOut xs).1.xs.length ((parseOut xs).1.xs.map bv) ∧ Below w.heap.size w w' :=
 (ipParseN xs xs.length rfl A c hnc w hx hn).mono fun _ _ ⟨A', c', h1, h2, h3⟩ => ⟨_, h1, A', c', rfl, h2, h3⟩
theorem segParseT (src dst : Int) (xs : List UInt8) (A : Option Addr) (c : Nat) (hnc : xs.length ≤ c) (w : World) (hx : RB w w.heap.size A xs) (hn : xs.length ≤ 140737488351232) :
  Calls Tryz.prog 87 #[iz src, iz dst, .slice A xs.length c] w fun e w' => ∃ v, e = .returned v ∧ ∃ A' c', v = .tuple #[.agg (sgL (segOut src dst xs).1 (.slice A' (segOut src dst xs).1.xs.length c')).toArray, iz (segOut src dst xs).2] ∧ w'.ownsRow w.heap.size 5 1 (.slice A' (segOut src dst xs).1.xs.length c') (segOut src dst xs).1.xs.length ((segOut src dst xs).1.xs.map bv) ∧ Below w.heap.size w w' :=
 (segParseN src dst xs xs.length rfl A c hnc w hx hn).mono fun _ _ ⟨A', c', h1, h2, h3⟩ => ⟨_, h1, A', c', rfl, h2, h3⟩
theorem results_cct {P : Program} {fn : Func} {p q r : Tmp} {T U : TypeId} (h : fn.results = #[.cell p T, .cell q U, .tmp r]) (tmps : Array Value) {u v z : Value} {x y : Addr} {w : World} (hp : tmps.getD p undef = .pointer (some x)) (hq : tmps.getD q undef = .pointer (some y)) (hr : tmps.getD r undef = z) (h1 : (loadVar T x).run P w = .ok u w) (h2 : (loadVar U y).run P w = .ok v w) : (results fn tmps).run P w = .ok (.tuple #[u, v, z]) w := by
 have hp' : tmps[p]?.getD undef = .pointer (some x) := by simpa using hp
 have hq' : tmps[q]?.getD undef = .pointer (some y) := by simpa using hq
 have hr' : tmps[r]?.getD undef = z := by simpa using hr
 simp [results, h, hp', hq', hr', asAddr, h1, h2]
theorem loadv_pk {w : World} {g : Nat} {L : List Value} (hC : Cells w g L) (hl : L.length = 6) : (loadVar 89 ⟨g, 0, none⟩).run Tryz.prog w = .ok (.agg L.toArray) w :=
 run_loadVar_mid w g 0 _ L _ hC.range Tryz.underlying89 rfl (by rw [hl]; exact size_pk27)
theorem loadv_sg {w : World} {g : Nat} {L : List Value} (hC : Cells w g L) (hl : L.length = 7) : (loadVar 36 ⟨g, 0, none⟩).run Tryz.prog w = .ok (.agg L.toArray) w :=
 run_loadVar_mid w g 0 _ L _ hC.range Tryz.underlying36 rfl (by rw [hl]; exact size_sg27)
theorem traceSegment (xs : List UInt8) (A : Option Addr) (c : Nat) (hnc : xs.length ≤ c) (w : World) (hx : RB w w.heap.size A xs) (hl : xs.length ≤ 140737488351232) :
  Calls Tryz.prog 51 #[.slice A xs.length c] w fun e w' => ∃ v, e = .returned v ∧ SegInV w (segIn xs) v w' := by
 go_enter Tryz.func51, Tryz.ntmps51
 refine Has.start 48 [(0, .slice A xs.length c)] rfl rfl ⟨rfl, trivial⟩ ?_
 intro a0 H0
 have O0 := Own.start w
 refine rl ?_
 refine H0.al O0 0 zero_pk27 fun a w1 O1 H => ?_
 generalize hg2 : w.heap.size = g2 at O1 H
 refine H.al O1 1 zero_sg27 fun a w2 O2 H => nt ?_
 generalize w1.heap.size = g3 at O2 H
 have bl : ∀ {bs : List (Nat × List Value)} {w'}, Own w g2 bs w' → Below w.heap.size w w' := fun h => hg2 ▸ h.bel
 replace H := H.kp [0, 2, 3]
 obtain ⟨ans, hans⟩ : ∃ ans, segIn xs = ans := ⟨_, rfl⟩
 refine wp_scope_one (k := 0) rfl (fun a w' => ans = none ∧ Has a 48 [(2, pz g2), (3, pz g3)] ∧ ∃ L3 L2, L3.length = 7 ∧ L2.length = 6 ∧ Own w g2 [(g3, L3), (g2, L2)] w') (fun _ _ => 0) ?_ ?_
 rotate_left
 ·clear H H0
  rintro a w3 ⟨rfl, H, L3, L2, hl3, hl2, O3⟩
  refine rl ?_
  refine H.any (w' := w3) gz rfl rfl (.agg (pkL .zero nilV).toArray) (by intro cs b h; cases h) (by kernel_rfl) (by kernel_rfl) fun a H => ?_
  refine H.any (w' := w3) gz rfl rfl (.agg (sgL .zero nilV).toArray) (by intro cs b h; cases h) (by kernel_rfl) (by kernel_rfl) fun a H => ?_
  refine H.st O3 1 0 (L := pkL .zero nilV) (L0 := L2) (fun a w4 O4 H => ?_) size_pk27 (h0 := hl2)
  refine H.st O4 0 1 (L := sgL .zero nilV) (L0 := L3) (fun a w5 O5 H => nt (wp_ret ?_)) size_sg27 (h0 := hl3)
  repeat (first | (with_reducible refine jump_ret ?_) | (with_reducible refine then_ret ?_))
  exact bodyPost_ret (results_cct rfl _ (H.at_ 2 _ rfl) (H.at_ 3 _ rfl) (H.at_ 4 _ rfl) (loadv_pk (O5.get 1 rfl) rfl) (loadv_sg (O5.get 0 rfl) rfl)) H.df ⟨_, rfl, by rw [hans]; exact ⟨rfl, bl O5⟩⟩
 intro hpass
 refine H.rg 1 fun a H => ?_
 refine H.cl (ethParse xs xs.length rfl A c hnc w2 (hx.next (bl O2)) hl) ?_
 have hfl := frOut_len xs
 have hans0 := hans
 unfold segIn at hans
 generalize frOut xs = fo at hans hfl
 obtain ⟨fr, fe⟩ := fo
 replace hfl : fr.xs.length ≤ xs.length := hfl
 rintro a _ w3 ⟨A1, c1, rfl, hO1, hb3⟩ H
 have O3 := O2.call hb3
 have hc1 := own_cap hO1
 refine H.ms 1 fun a H => ?_
 refine H.ex (r := .agg ([iz fr.d, iz fr.s, iz fr.t, .slice A1 fr.xs.length c1] : List Value).toArray) 0 fun a H => ?_
 refine H.ex (r := iz fe) 0 fun a H => ?_
 refine H.nk O3 1 (L := [iz fr.d, iz fr.s, iz fr.t, .slice A1 fr.xs.length c1]) rfl zero_frame size_frame fun a w4 hb4 O4 _ H => nt ?_
 have hO4 := own_below hO1 hb4
 have hg3 : g3 < w2.heap.size := O2.lt 0 rfl
 have hg23 : g2 < w2.heap.size := O2.lt 1 rfl
 generalize w3.heap.size = g5 at O4 H
 replace H := H.kp [2, 3, 5, 6]
 have drop1 : ∀ {x : Nat × List Value} {bs : List (Nat × List Value)} {w'}, Own w g2 (x :: bs) w' → Own w g2 bs w' := fun h => h.sub (List.sublist_cons_self _ _)
 by_cases he : fe = 0
 rotate_left
 ·have hn : ans = none := by rw [← hans, if_pos (.inl he)]
  refine H.tb (Own w g2 [(g5, [iz fr.d, iz fr.s, iz fr.t, .slice A1 fr.xs.length c1]), (g3, sgL .zero nilV), (g2, pkL .zero nilV)]) (fun _ _ h hb => h.call hb) O4 [ec 0 12 (iz fe), ec 1 13 (.bool true), ec 2 14 (.bool true), ec 3 15 undef, ec 4 16 undef, ec 5 17 undef, ec 6 18 (.bool true)] rfl ⟨jm, jb fun _ => neq_k fe 0 true (by rw [bne_iff_ne]; exact he) _ _ _, jm, jo, jo, jo, jp, trivial⟩ ?_
  intro a w5 H O5
  refine then_normal (H.condT rfl (wp_goto ?_))
  repeat (with_reducible refine then_goto ?_)
  exact jump_goto ⟨hn, H.keep ⟨rfl, rfl, trivial⟩, _, _, rfl, rfl, drop1 O5⟩
 subst he
 obtain ⟨z, hz⟩ : ∃ z, ((fr.t : Int) != 2048) = z := ⟨_, rfl⟩
 refine H.tb (fun w' => Own w g2 [(g5, [iz fr.d, iz fr.s, iz fr.t, .slice A1 fr.xs.length c1]), (g3, sgL .zero nilV), (g2, pkL .zero nilV)] w' ∧ Below w4.heap.size w4 w') (fun _ _ h hb => ⟨h.1.call hb, h.2.trans (hb.mono h.2.size)⟩) ⟨O4, Below.refl _ _⟩ [ec 0 12 (iz 0), ec 1 13 (.bool false), ec 2 14 (.bool false), ec 3 15 (.pointer (some ⟨g5, 2, none⟩)), ec 4 16 (iz fr.t), ec 5 17 (.bool z), ec 6 18 (.bool z)] rfl ⟨jm, jb fun _ => neq_k 0 0 false rfl _ _ _, jm, jm, jl fun _ h => h.1.li 0 2, jb fun _ => neq_3 (fr.t : Int) 2048 z hz _ _ _, jp, trivial⟩ ?_
 rintro a w5 H ⟨O5, hb5⟩
 have hO5 := own_below hO4 hb5
 cases z with
 | true =>
  have hn : ans = none := by rw [← hans, if_pos (.inr (by have := bne_iff_ne.1 hz; show fr.t ≠ 2048; omega))]
  refine then_normal (H.condT rfl (wp_goto ?_))
  repeat (with_reducible refine then_goto ?_)
  exact jump_goto ⟨hn, H.keep ⟨rfl, rfl, trivial⟩, _, _, rfl, rfl, drop1 O5⟩
 | false =>
 have ht : fr.t = 2048 := by
  rw [bne_eq_false_iff_eq] at hz
  omega
 rw [if_neg (by rintro (h | h); exact h rfl; exact h ht)] at hans
 refine then_normal (H.condF rfl (skip_wp (then_normal ?_)))
 replace H := H.kp [2, 3, 5]
 refine H.rg 1 fun a H => ?_
 refine H.ld 0 (load1_31 _ _ _ _ _ _ ((O5.get 0 rfl).get 3 _ rfl)) fun a H => ?_
 have hw5 : w2.heap.size ≤ w5.heap.size := Nat.le_trans hb3.size (Nat.le_trans hb4.size hb5.size)
 refine H.cl (ipParseT fr.xs A1 c1 hc1 w5 (rb_of_own rfl hO5 hw5) (by omega)) ?_
 have hpl := parse_le fr.xs
 generalize parseOut fr.xs = po at hans hpl
 obtain ⟨pk, pe⟩ := po
 replace hpl : pk.xs.length ≤ fr.xs.length := hpl
 rintro a _ w6 ⟨A2, c2, rfl, hO6, hb6⟩ H
 have O6 := O5.call hb6
 have hc2 := own_cap hO6
 refine H.ms 1 fun a H => ?_
 refine H.ex (r := .agg (pkL pk (.slice A2 pk.xs.length c2)).toArray) 0 fun a H => ?_
 refine H.ex (r := iz pe) 0 fun a H => ?_
 refine H.storeS rfl rfl rfl rfl rfl (O6.get 2 rfl) size_pk27 rfl rfl rfl fun a w7 H hg7 hs7 hC7 => ?_
 have O7 := O6.store 2 rfl hg7 hs7 hC7
 have hO7 := hO6.kept hg7 (.inr (own_ne hO6 (.inl (Nat.lt_of_lt_of_le hg23 hw5))).symm)
 refine H.ms 1 fun a H => nt ?_
 replace H := H.kp [2, 3, 6]
 replace O7 : Own w g2 [(g3, sgL .zero nilV), (g2, pkL pk (.slice A2 pk.xs.length c2))] w7 := drop1 O7
 by_cases he : pe = 0
 rotate_left
 ·have hn : ans = none := by rw [← hans, if_pos (.inl he)]
  refine H.tb (Own w g2 [(g3, sgL .zero nilV), (g2, pkL pk (.slice A2 pk.xs.length c2))]) (fun _ _ h hb => h.call hb) O7 [ec 0 25 (iz pe), ec 1 26 (.bool true), ec 2 27 (.bool true), ec 3 28 undef, ec 4 29 undef, ec 5 30 undef, ec 6 31 (.bool true)] rfl ⟨jm, jb fun _ => neq_k pe 0 true (by rw [bne_iff_ne]; exact he) _ _ _, jm, jo, jo, jo, jp, trivial⟩ ?_
  intro a w8 H O8
  refine then_normal (H.condT rfl (wp_goto ?_))
  repeat (with_reducible refine then_goto ?_)
  exact jump_goto ⟨hn, H.keep ⟨rfl, rfl, trivial⟩, _, _, rfl, rfl, O8⟩
 subst he
 obtain ⟨z, hz⟩ : ∃ z, (pk.p != 6) = z := ⟨_, rfl⟩
 refine H.tb (fun w' => Own w g2 [(g3, sgL .zero nilV), (g2, pkL pk (.slice A2 pk.xs.length c2))] w' ∧ Below w7.heap.size w7 w') (fun _ _ h hb => ⟨h.1.call hb, h.2.trans (hb.mono h.2.size)⟩) ⟨O7, Below.refl _ _⟩ [ec 0 25 (iz 0), ec 1 26 (.bool false), ec 2 27 (.bool false), ec 3 28 (.pointer (some ⟨g2, 2, none⟩)), ec 4 29 (iz pk.p), ec 5 30 (.bool z), ec 6 31 (.bool z)] rfl ⟨jm, jb fun _ => neq_k 0 0 false rfl _ _ _, jm, jm, jl fun _ h => h.1.li 1 2, jb fun _ => neq_3 pk.p 6 z hz _ _ _, jp, trivial⟩ ?_
 rintro a w8 H ⟨O8, hb8⟩
 have hO8 := own_below hO7 hb8
 cases z with
 | true =>
  have hn : ans = none := by rw [← hans, if_pos (.inr (bne_iff_ne.1 hz))]
  refine then_normal (H.condT rfl (wp_goto ?_))
  repeat (with_reducible refine then_goto ?_)
  exact jump_goto ⟨hn, H.keep ⟨rfl, rfl, trivial⟩, _, _, rfl, rfl, O8⟩
 | false =>
 rw [if_neg (by rintro (h | h); exact h rfl; exact h (bne_eq_false_iff_eq.1 hz))] at hans
 refine then_normal (H.condF rfl (skip_wp (then_normal ?_)))
 replace H := H.kp [2, 3]
 refine H.rg 1 fun a H => ?_
 refine H.ld 1 (O8.li 1 0) fun a H => ?_
 refine H.ld 1 (O8.li 1 1) fun a H => ?_
 refine H.ld 0 (load1_31 _ _ _ _ _ _ ((O8.get 1 rfl).get 5 _ rfl)) fun a H => ?_
 have hw6 : w5.heap.size ≤ w8.heap.size := Nat.le_trans hb6.size (Nat.le_trans (Nat.le_of_eq hs7.symm) hb8.size)
 refine H.cl (segParseT pk.s pk.d pk.xs A2 c2 hc2 w8 (rb_of_own rfl hO8 hw6) (by omega)) ?_
 generalize hso : segOut pk.s pk.d pk.xs = so at hans
 obtain ⟨sg, se⟩ := so
 rintro a _ w9 ⟨A3, c3, rfl, hO9, hb9⟩ H
 have O9 := O8.call hb9
 refine H.ms 1 fun a H => ?_
 refine H.ex (r := .agg (sgL sg (.slice A3 sg.xs.length c3)).toArray) 0 fun a H => ?_
 refine H.ex (r := iz se) 0 fun a H => ?_
 refine H.storeS rfl rfl rfl rfl rfl (O9.get 0 rfl) size_sg27 rfl rfl rfl fun a w10 H hg10 hs10 hC10 => ?_
 have O10 := O9.store 0 rfl hg10 hs10 hC10
 have hw8 : w2.heap.size ≤ w8.heap.size := Nat.le_trans hw5 hw6
 have hO10 := hO9.kept hg10 (.inr (own_ne hO9 (.inl (Nat.lt_of_lt_of_le hg3 hw8))).symm)
 refine H.ms 1 fun a H => nt ?_
 refine H.rg 1 fun a H => ?_
 by_cases he : se = 0
 rotate_left
 ·have hn : ans = none := by rw [← hans, if_pos he]
  refine H.bb 0 rfl rfl rfl rfl rfl rfl (neq_k se 0 true (by rw [bne_iff_ne]; exact he) _ _ _) rfl fun a H => nt (H.condT rfl (wp_goto ?_))
  repeat (with_reducible refine then_goto ?_)
  exact jump_goto ⟨hn, H.keep ⟨rfl, rfl, trivial⟩, _, _, rfl, rfl, O10⟩
 subst he
 rw [if_neg (fun h => h rfl)] at hans
 refine H.bb 0 rfl rfl rfl rfl rfl rfl (neq_k 0 0 false rfl _ _ _) rfl fun a H => nt (H.condF rfl (skip_wp (then_normal ?_)))
 replace H := H.kp [2, 3]
 have hgw : g3 < w8.heap.size ∧ g2 < w8.heap.size := ⟨by omega, by omega⟩
 refine H.sg (fun w' => Own w g2 [(g3, sgL sg (.slice A3 sg.xs.length c3)), (g2, pkL pk (.slice A2 pk.xs.length c2))] w' ∧ w'.ownsRow w8.heap.size 5 1 (.slice A3 sg.xs.length c3) sg.xs.length (sg.xs.map bv)) ⟨O10.drew, own_below hO10 (Below.drew (Below.refl _ _))⟩ [2, 3] [ec 0 44 (.agg (pkL pk (.slice A2 pk.xs.length c2)).toArray), ec 1 45 (.agg (sgL sg (.slice A3 sg.xs.length c3)).toArray)] rfl ?_
 refine St.sto 2 ⟨jl fun _ h => loadT (h.1.get 1 rfl) Tryz.underlying89 rfl size_pk27 rfl, jl fun _ h => loadT (h.1.get 0 rfl) Tryz.underlying36 rfl size_sg27 rfl, trivial⟩ ?_
 rintro a wu H _ ⟨Ou, hOu⟩
 obtain ⟨w', hr, hg', hs', hC'⟩ := (Ou.get 1 rfl).sto (L := pkL pk (.slice A2 pk.xs.length c2)) size_pk27 rfl rfl rfl
 refine ⟨w', run_store rfl (H.ev rfl) (H.ev rfl) hr, nx0 (fun w' => Own w g2 [(g3, sgL sg (.slice A3 sg.xs.length c3)), (g2, pkL pk (.slice A2 pk.xs.length c2))] w' ∧ w'.ownsRow w8.heap.size 5 1 (.slice A3 sg.xs.length c3) sg.xs.length (sg.xs.map bv)) [] [] ⟨Ou.store 1 rfl hg' hs' hC', hOu.kept hg' (.inr (own_ne hOu (.inl hgw.2)).symm)⟩ ?_⟩
 refine St.sto 3 ⟨jl fun _ h => loadT (h.1.get 0 rfl) Tryz.underlying36 rfl size_sg27 rfl, trivial⟩ ?_
 clear hr hg' hs' hC' Ou hOu
 rintro a wu H _ ⟨Ou, hOu⟩
 obtain ⟨w', hr, hg', hs', hC'⟩ := (Ou.get 0 rfl).sto (L := sgL sg (.slice A3 sg.xs.length c3)) size_sg27 rfl rfl rfl
 refine ⟨w', run_store rfl (H.ev rfl) (H.ev rfl) hr, nx0 (fun w' => Own w g2 [(g3, sgL sg (.slice A3 sg.xs.length c3)), (g2, pkL pk (.slice A2 pk.xs.length c2))] w' ∧ w'.ownsRow w8.heap.size 5 1 (.slice A3 sg.xs.length c3) sg.xs.length (sg.xs.map bv)) [ec 4 4 (.bool true)] [] ⟨Ou.store 0 rfl hg' hs' hC', hOu.kept hg' (.inr (own_ne hOu (.inl hgw.1)).symm)⟩ ?_⟩
 refine St.fin ⟨jm, trivial⟩ ?_
 rintro a w11 H _ ⟨O11, hO11⟩
 refine then_normal (wp_ret ?_)
 repeat (first | (with_reducible refine jump_ret ?_) | (with_reducible refine then_ret ?_))
 refine bodyPost_ret (results_cct rfl _ (H.at_ 2 _ rfl) (H.at_ 3 _ rfl) (H.at_ 4 _ rfl) (loadv_pk (O11.get 1 rfl) rfl) (loadv_sg (O11.get 0 rfl) rfl)) H.df ⟨_, rfl, ?_⟩
 rw [hans0, ← hans]
 exact ⟨_, _, _, A3, c3, rfl, own_base hO11 (by omega), bl O11⟩
end
section
open Go.RowKit
section
variable {P : Program} (w : World)
theorem run_append_readF (base : Nat) (t ty e : TypeId) (z : Value) (size bytes : Nat) (ht : P.underlying t = some (.slice e)) (hi : (P.info? e).map (fun i => (i.zero, i.size, i.bytes)) = some (some z, size, bytes)) (hzs : z.cells.size = size) (hsz : 0 < size)
  (v : Value) (n : Nat) (xs : List Value) (hown : w.ownsRow base e size v n xs)
  (B : Nat) (A : Option Addr) (m c : Nat) (news : List Value) (hr : Reads w B size A m news) (h1 : ∀ u ∈ news, u.oneCell' = true)
  (h63 : n + m ≤ maxLen) (hbytes : (n + m) * bytes ≤ 140737488355328) (hbase : base ≤ w.heap.size) :
  ∃ A' c' w', (Builtin.append_ #[t, t] ty #[v, .slice A m c]).run P w = .ok (.slice A' (n + m) c') w' ∧ w'.ownsRow base e size (.slice A' (n + m) c') (n + m) (xs ++ news) ∧ w.grownBy w' v.ownBlock ∧ ((Value.slice A' (n + m) c').ownBlock = v.ownBlock ∨ (Value.slice A' (n + m) c').ownBlock = some w.heap.size) := by
 obtain ⟨i, hi0, hz0, hz1, hz2⟩ := info_parts hi
 rcases A with _ | ad
 ·have hm : m = 0 := by
   rcases Nat.eq_zero_or_pos m with h0 | h0
   ·exact h0
   ·obtain ⟨ad, h, _⟩ := hr.2 h0
    cases h
  subst hm
  have hn : news = [] := List.eq_nil_of_length_eq_zero (by simpa using hr.1)
  subst hn
  obtain ⟨A, c1, rfl, _, _⟩ := own_shape hown
  exact ⟨A, c1, w, run_append_of_nil w base t ty e i size ht hi0 _ n xs hown c, by simpa using hown, World.grownBy.refl w _, .inl rfl⟩
 ·have hcells : ∀ j u, news[j]? = some u → w.cell? (ad.add j) = some u := by
   intro j u hu
   rcases Nat.eq_zero_or_pos m with h0 | h0
   ·subst h0
    have hn : news = [] := List.eq_nil_of_length_eq_zero (by simpa using hr.1)
    subst hn
    simp at hu
   ·obtain ⟨ad', h, _, hc⟩ := hr.2 h0
    injection h with h
    subst h
    exact hc j u hu
  obtain ⟨v', w', hrun, h2, h3, _, h4⟩ := run_append_own_at (P := P) w base t ty e i z size bytes ht hi0 hz0 hz1 hz2 hzs hsz v n xs hown ad m c news hr.1 hcells h1 h63 hbytes hbase
  obtain ⟨A', c', rfl, _, _⟩ := own_shape h2
  exact ⟨A', c', w', hrun, h2, h3, h4⟩
end
theorem run_appF {P : Program} {o : Oper} {a : Act} {w : World} {s x : Operand} {t : TypeId} (ho : o.op = .call { callee := .builtin .append, args := #[s, x], argTypes := #[t, t] }) {base : Nat} {e : TypeId} {z : Value} {size bytes : Nat} (ht : P.underlying t = some (.slice e)) (hi : (P.info? e).map (fun i => (i.zero, i.size, i.bytes)) = some (some z, size, bytes)) (hzs : z.cells.size = size) (hsz : 0 < size)
  {v : Value} {n : Nat} {xs : List Value} (hs : a.eval s = v) (hown : w.ownsRow base e size v n xs) {A : Option Addr} {m c : Nat} {ys : List Value} (hx : a.eval x = .slice A m c) (hr : Reads w w.heap.size size A m ys) (h1 : ∀ u ∈ ys, u.oneCell' = true) (hn : n + m ≤ maxLen) (hb : (n + m) * bytes ≤ 140737488355328) (hbase : base ≤ w.heap.size) :
  ∃ A' c' w', (execOp a.eval o).run P w = .ok (.value (.slice A' (n + m) c')) w' ∧ w'.ownsRow base e size (.slice A' (n + m) c') (n + m) (xs ++ ys) ∧ w.grownBy w' v.ownBlock ∧ ((Value.slice A' (n + m) c').ownBlock = v.ownBlock ∨ (Value.slice A' (n + m) c').ownBlock = some w.heap.size) := by
 obtain ⟨A', c', w', hrun, h2, h3⟩ := run_append_readF (P := P) w base t o.type e z size bytes ht hi hzs hsz v n xs hown w.heap.size A m c ys hr h1 hn hb hbase
 refine ⟨A', c', w', ?_, h2, h3⟩
 unfold execOp
 simp only [ho, resolve, invoke, builtin, Sem.run_bind, Sem.run_pure, Result.andThen_ok, List.map_toArray, List.map_cons, List.map_nil, hs, hx, hrun]
section
variable {ops : Array Oper} {Q : Exit → Act → World → Prop} {n : Nat} {fixed : List (Nat × Value)} {F : World → Prop} {es : List EntC} {done : List Nat} {d : Nat} {o : Oper}
theorem St.appF (h : Nat) {s x : Operand} {t e : TypeId} {base size bytes m : Nat} {z : Value} {u : Value} {k c : Nat} {A : Option Addr} {xs ys : List Value} (hi : (Tryz.prog.info? e).map (fun i => (i.zero, i.size, i.bytes)) = some (some z, size, bytes)) (hl : LightAll ops Q n fixed F es done es)
  (hrun : ∀ w, F w → w.ownsRow base e size u k xs ∧ Reads w w.heap.size size A m ys ∧ base ≤ w.heap.size) (h1 : ∀ u ∈ ys, u.oneCell' = true) (hn : k + m ≤ maxLen ∧ (k + m) * bytes ≤ 140737488355328) (hk : ∀ w A' c' w', F w → w'.ownsRow base e size (.slice A' (k + m) c') (k + m) (xs ++ ys) → w.grownBy w' u.ownBlock → ((Value.slice A' (k + m) c').ownBlock = u.ownBlock ∨ (Value.slice A' (k + m) c').ownBlock = some w.heap.size) → Nx ops Q n fixed es done h d (.slice A' (k + m) c') w w')
  (ho : ops[h]? = some o := by rfl) (hp : o.op = .call { callee := .builtin .append, args := #[s, x], argTypes := #[t, t] } := by rfl) (hd : o.dst = some d := by rfl) (ht : Tryz.prog.underlying t = some (.slice e) := by kernel_rfl) (hzs : z.cells.size = size := by rfl) (hsz : 0 < size := by decide) (hg : okG ops (fixed ++ knownE (afts ops h) es) o = true := by rfl)
  (hs : evL (fixed ++ knownE (afts ops h) es) s = some u := by rfl) (hx : evL (fixed ++ knownE (afts ops h) es) x = some (.slice A m c) := by rfl) (hB : stB ops n fixed es done h = true := by kernel_rfl) (hN : Nat.ble ops.size 1000 = true := by kernel_rfl) (hback : backB ops = true := by kernel_rfl)
  (hF : es.all plainB = true ∨ ∀ w w', F w → Below w.heap.size w w' → F w' := by exact .inl rfl) (hst : StabAll es := by exact trivial) : St ops Q n fixed es F done := by
 refine St.val h hl ?_ ho hd hg hB hN hback hF hst
 intro a w H _ hFw
 obtain ⟨r1, r2, r3⟩ := hrun w hFw
 obtain ⟨A', c', w', hr, hO, hgr, hfr⟩ := run_appF (a := a) hp ht hi hzs hsz (H.ev hs) r1 (H.ev hx) r2 h1 hn.1 hn.2 r3
 exact ⟨_, w', hr, hk w A' c' w' hFw hO hgr hfr⟩
end
end
section
open Go.RowKit
structure Lst where
 up : Bool
 nq : Nat
 ps : List (Nat × List UInt8)
 b : List UInt8
 rst : Bool
 fins : List Nat
def Lst.zero : Lst := ⟨false, 0, [], [], false, []⟩
abbrev lstC (x : Lst) (AP : Option Addr) (cP : Nat) (vB vF : Value) : List Value := [iz x.nq, .slice AP x.ps.length cP, .bool x.up, vB, .bool x.rst, vF]
abbrev natV (n : Nat) : Value := iz n
def LstS (g : Nat) (vB vF : Value) (k : Nat) : Prop := g < k ∧ some k ≠ vB.ownBlock ∧ some k ≠ vF.ownBlock
def LstM (g : Nat) (x : Lst) (AP : Option Addr) (vB vF : Value) (w : World) : Prop :=
 w.ownsRow (g + 1) 5 1 vB x.b.length (x.b.map bv) ∧ w.ownsRow (g + 1) 3 1 vF x.fins.length (x.fins.map natV) ∧ PartsS w (LstS g vB vF) AP x.ps
theorem LstM.next {g : Nat} {x : Lst} {AP : Option Addr} {vB vF : Value} {w w' : World} (h : LstM g x AP vB vF w) (hb : Below w.heap.size w w') : LstM g x AP vB vF w' :=
 ⟨own_below h.1 hb, own_below h.2.1 hb, h.2.2.grown (below_grown hb none) (fun k e => by cases e)⟩
theorem LstM.box {g k0 : Nat} {x : Lst} {AP : Option Addr} {vB vF : Value} {w w' : World} (h : LstM g x AP vB vF w) (hg : w.grownBy w' (some k0)) (hk : k0 ≤ g) : LstM g x AP vB vF w' :=
 ⟨h.1.kept hg (.inr (own_ne h.1 (.inl (Nat.lt_succ_of_le hk))).symm), h.2.1.kept hg (.inr (own_ne h.2.1 (.inl (Nat.lt_succ_of_le hk))).symm), h.2.2.grown hg (fun k e hS => by injection e with e; have := hS.1; omega)⟩
theorem LstS.turn {g k : Nat} {vB vF vF' : Value} {w : World} (hfr : vF'.ownBlock = vF.ownBlock ∨ vF'.ownBlock = some w.heap.size) (h : LstS g vB vF k ∧ k < w.heap.size) : LstS g vB vF' k := by
 refine ⟨h.1.1, h.1.2.1, fun e => ?_⟩
 rcases hfr with hf | hf
 ·rw [hf] at e; exact h.1.2.2 e
 ·rw [hf] at e; injection e with e; omega
theorem LstS.turnB {g k : Nat} {vB vF vB' : Value} {w : World} (hfr : vB'.ownBlock = vB.ownBlock ∨ vB'.ownBlock = some w.heap.size) (h : LstS g vB vF k ∧ k < w.heap.size) : LstS g vB' vF k := by
 refine ⟨h.1.1, fun e => ?_, h.1.2.2⟩
 rcases hfr with hf | hf
 ·rw [hf] at e; exact h.1.2.1 e
 ·rw [hf] at e; injection e with e; omega
theorem RBS.fin {g : Nat} {vB vF vF' : Value} {A : Option Addr} {xs : List UInt8} {w w' : World} (h : RBS w (LstS g vB vF) A xs) (hg : w.grownBy w' vF.ownBlock) (hfr : vF'.ownBlock = vF.ownBlock ∨ vF'.ownBlock = some w.heap.size) : RBS w' (LstS g vB vF') A xs :=
 ((h.mono (S' := fun k => LstS g vB vF k ∧ k < w.heap.size) (fun _ hk hS => ⟨hS, hk⟩)).grown hg (fun _k e hS => hS.1.2.2 e.symm)).mono fun _ _ hS => LstS.turn hfr hS
theorem LstM.fin {g n : Nat} {x : Lst} {AP : Option Addr} {vB vF vF' : Value} {w w' : World} (h : LstM g x AP vB vF w) (hO : w'.ownsRow (g + 1) 3 1 vF' (x.fins.length + 1) (x.fins.map natV ++ [natV n])) (hg : w.grownBy w' vF.ownBlock) (hfr : vF'.ownBlock = vF.ownBlock ∨ vF'.ownBlock = some w.heap.size) : LstM g { x with fins := x.fins ++ [n] } AP vB vF' w' :=
 ⟨h.1.kept hg (own_apart h.1 h.2.1 rfl), by
  show w'.ownsRow (g + 1) 3 1 vF' (x.fins ++ [n]).length ((x.fins ++ [n]).map natV)
  rw [List.length_append, List.map_append]; exact hO,
  ((h.2.2.mono (S' := fun k => LstS g vB vF k ∧ k < w.heap.size) (fun _ hk hS => ⟨hS, hk⟩)).grown hg (fun k e hS => hS.1.2.2 e.symm)).mono fun _ _ hS => LstS.turn hfr hS⟩
def HearF (W : World) (B g g3 : Nat) (L3 : List Value) (x : Lst) (AP : Option Addr) (cP : Nat) (vB vF : Value) (A : Option Addr) (xs : List UInt8) (w : World) : Prop :=
 Own W B [(g3, L3), (g, lstC x AP cP vB vF)] w ∧ LstM g x AP vB vF w ∧ RBS w (LstS g vB vF) A xs
theorem HearF.next {W : World} {B g g3 : Nat} {L3 : List Value} {x : Lst} {AP : Option Addr} {cP : Nat} {vB vF : Value} {A : Option Addr} {xs : List UInt8} {w w' : World} (h : HearF W B g g3 L3 x AP cP vB vF A xs w) (hb : Below w.heap.size w w') : HearF W B g g3 L3 x AP cP vB vF A xs w' :=
 ⟨h.1.call hb, h.2.1.next hb, h.2.2.grown (below_grown hb none) (fun k e => by cases e)⟩
def HearG (q : Sg) (sq : Nat) (x x' : Lst) : Prop :=
 if (bits .and .i64 q.fl 2 != 0) = true then x' = ⟨true, spAdd sq 1, [], [], false, []⟩
 else if x.up = false then x' = x
 else ∃ nq' ps' told, PutG x.nq x.ps sq q.xs nq' ps' told ∧ x' = ⟨true, nq', ps', x.b ++ told, x.rst || (bits .and .i64 q.fl 4 != 0), if (bits .and .i64 q.fl 1 != 0) = true then x.fins ++ [spAdd sq q.xs.length] else x.fins⟩
theorem size_lst : (Tryz.prog.info? 106).map (·.size) = some 6 := by kernel_rfl
theorem Cells.pre {w : World} {g : Nat} {l1 l2 : List Value} (h : Cells w g (l1 ++ l2)) : Cells w g l1 := fun j v hv => h j v (by rw [List.getElem?_append_left (List.getElem?_eq_some_iff.1 hv).1]; exact hv)
theorem store_buf {w : World} {g : Nat} {c0 c1 a b : Value} {R : List Value} (hC : Cells w g (c0 :: c1 :: R)) (h1 : ([a, b] : List Value).all (·.oneCell') = true) :
  ∃ w', (Instr.storeAt 104 (pz g) (.agg ([a, b] : List Value).toArray)).run Tryz.prog w = .ok () w' ∧ w.grownBy w' (some g) ∧ Cells w' g (a :: b :: R) := by
 have hp : Cells w g [c0, c1] := Cells.pre (l2 := R) hC
 refine ⟨_, run_storeAt_mid w g 0 _ ([a, b] : List Value).toArray (by simpa using hp.there) size_buf (all_oneCell_toArray fun v hv => List.all_eq_true.1 h1 v hv), (setCells_only g _ 0 w).2, ?_⟩
 exact (hC.set 0 a (Nat.succ_pos _)).set 1 b (Nat.succ_lt_succ (Nat.succ_pos _))
def PutS (g h3 : Nat) (wz : World) (vB vF : Value) (k : Nat) : Prop := LstS g vB vF k ∧ (k < h3 ∨ (k < wz.heap.size ∧ ¬ TypB wz k 104))
def PutF (W : World) (B g : Nat) (bs : List (Nat × List Value)) (xs : List UInt8) (fs : List Nat) (vB vF : Value) (S : Nat → Prop) (ps : List (Nat × List UInt8)) (A' : Option Addr) (told : List UInt8) (A2 : Option Addr) (w : World) : Prop :=
 Own W B bs w ∧ (w.ownsRow (g + 1) 5 1 vB xs.length (xs.map bv) ∧ w.ownsRow (g + 1) 3 1 vF fs.length (fs.map natV)) ∧ PartsS w S A' ps ∧ RBS w S A2 told
theorem PutF.next {W : World} {B g : Nat} {bs : List (Nat × List Value)} {xs : List UInt8} {fs : List Nat} {vB vF : Value} {S : Nat → Prop} {ps : List (Nat × List UInt8)} {A' : Option Addr} {told : List UInt8} {A2 : Option Addr} {w w' : World} (h : PutF W B g bs xs fs vB vF S ps A' told A2 w) (hb : Below w.heap.size w w') : PutF W B g bs xs fs vB vF S ps A' told A2 w' :=
 ⟨h.1.call hb, ⟨own_below h.2.1.1 hb, own_below h.2.1.2 hb⟩, h.2.2.1.grown (below_grown hb none) (fun k e => by cases e), h.2.2.2.grown (below_grown hb none) (fun k e => by cases e)⟩
theorem and_bits (u v : Int) (x y : Operand) (w : World) : (do eqGuard .and 3 x y (iz u) (iz v); binOp .and 3 (iz u) (iz v) : Sem Value).run Tryz.prog w = .ok (iz (bits .and .i64 u v)) w := by kernel_rfl
theorem store1_is (g o n c : Nat) (A : Option Addr) (u : Value) (w : World) (h : w.cell? ⟨g, o, none⟩ = some u) (hf : w.frozen? ⟨g, o, none⟩ = false) : (Instr.storeAt 45 (.pointer (some ⟨g, o, none⟩)) (.slice A n c)).run Tryz.prog w = .ok () (w.setCell ⟨g, o, none⟩ (.slice A n c)) := by
 simp [go_sem, h, hf]
theorem info_fi : (Tryz.prog.info? 3).map (fun i => (i.zero, i.size, i.bytes)) = some (some (iz 0), 1, 8) := by kernel_rfl
theorem field_sg4 (g : Nat) (w : World) : (Instr.fieldAt 36 (pz g) 4).run Tryz.prog w = .ok (.pointer (some ⟨g, 4, none⟩)) w := by kernel_rfl
theorem putG_tl {nq : Nat} {ps : List (Nat × List UInt8)} {sq : Nat} {xs : List UInt8} {nq' : Nat} {ps' : List (Nat × List UInt8)} {told : List UInt8} (h : PutG nq ps sq xs nq' ps' told) : told.length ≤ 2048 := by
 rcases h with ⟨_, _, _, rfl⟩ | ⟨_, l, hR, ⟨_, _, _, rfl⟩ | ⟨_, _, _, rfl⟩⟩
 ·simp
 ·simp
 ·rcases l with _ | ⟨⟨a, x⟩, r⟩
  ·simp [putTold]
  ·rw [putTold_c]
   cases hR with
   | @run _ _ b _ _ h1 h2 h3 h4 h5 h6 h7 h =>
    have : (layG (layP nq win0 ps) (wiAt (spDiff sq nq)) (wiTake (spDiff sq nq) xs)).length = 2048 := by rw [layG_len, layP_len]; exact List.length_replicate
    cases spAdd nq a == nq with
    | true => rw [cond_true]; omega
    | false => rw [cond_false]; simp
theorem hearW (W : World) (B g : Nat) (x : Lst) (AP : Option Addr) (cP : Nat) (vB vF : Value) (q : Sg) (sq : Nat) (hsq : q.sq = (sq : Int)) (hsl : sq ≤ 4294967295) (A : Option Addr) (c : Nat) (w : World) (O : Own W B [(g, lstC x AP cP vB vF)] w) (M : LstM g x AP vB vF w) (hr : RBS w (LstS g vB vF) A q.xs) (hc : q.xs.length ≤ c)
  (hn : q.xs.length ≤ 65536) (hq : x.nq ≤ 4294967295) (hl : x.ps.length ≤ 100000) (hps : ∀ p ∈ x.ps, p.1 ≤ 4294967295 ∧ 0 ≤ spDiff p.1 x.nq ∧ spDiff p.1 x.nq + (p.2.length : Int) ≤ 2048) (hbl : x.b.length ≤ 1000000000) (hfl : x.fins.length ≤ 1000000000) :
  Calls Tryz.prog 60 #[pz g, .agg (sgL q (.slice A q.xs.length c)).toArray] w fun e w' => e = .returned (.tuple #[]) ∧ ∃ x' AP' cP' vB' vF', HearG q sq x x' ∧ Own W B [(g, lstC x' AP' cP' vB' vF')] w' ∧ LstM g x' AP' vB' vF' w' := by
 go_enter Tryz.func60, Tryz.ntmps60
 refine Has.start 79 [(0, pz g), (1, .agg (sgL q (.slice A q.xs.length c)).toArray)] rfl rfl ⟨rfl, rfl, trivial⟩ ?_
 intro a0 H0
 have hgw := O.lt 0 rfl
 refine rl ?_
 refine H0.bx (Own.start w) 0 (L := sgL q (.slice A q.xs.length c)) fun a w1 Oq H => nt ?_
 have M1 := M.next Oq.bel
 have hF3 : some w.heap.size ≠ vF.ownBlock := own_ne M.2.1 (.inr (Nat.le_refl _))
 have hB3 : some w.heap.size ≠ vB.ownBlock := own_ne M.1 (.inr (Nat.le_refl _))
 have O1 := addq0 (O.call Oq.bel) (Nat.le_of_lt (Nat.lt_of_le_of_lt (O.ge 0 rfl) hgw)) (Oq.lt 0 rfl) (by intro p hp; rw [List.mem_singleton.1 hp]; exact Nat.ne_of_lt hgw) (Oq.get 0 rfl)
 replace hr := hr.grown (below_grown Oq.bel none) (fun k e => by cases e)
 clear M Oq O
 generalize w.heap.size = g3 at O1 H hgw hF3 hB3
 have hg3 : g3 ≠ g := Ne.symm (Nat.ne_of_lt hgw)
 replace H := H.kp [0, 3]
 have drop1 : ∀ {x : Nat × List Value} {bs : List (Nat × List Value)} {w'}, Own W B (x :: bs) w' → Own W B bs w' := fun h => h.sub (List.sublist_cons_self _ _)
 obtain ⟨z2, hz2⟩ : ∃ z, (bits .and .i64 q.fl 2 != 0) = z := ⟨_, rfl⟩
 refine H.rg 1 fun a H => ?_
 refine H.ld 0 (O1.li 0 4) fun a H => ?_
 refine H.bn 0 (and_bits q.fl 2 _ _ _) fun a H => ?_
 refine H.bb 0 rfl rfl rfl rfl rfl rfl (neq_3 (bits .and .i64 q.fl 2) 0 z2 hz2 _ _ _) rfl fun a H => nt ?_
 replace H := H.kp [0, 3, 9]
 cases z2 with
 | true =>
  refine H.condT rfl ?_
  refine H.rg 2 fun a H => ?_
  refine H.ld 0 (O1.li 0 2) fun a H => ?_
  rw [hsq] at H
  refine H.cq 0 (spanAdd sq 1 (by omega) (by decide) w1) fun a H => ?_
  refine H.any (w' := w1) gz rfl rfl (.agg ([iz (spAdd sq 1 : Nat), nilV] : List Value).toArray) (by intro cs b h; cases h) (by kernel_rfl) (by kernel_rfl) fun a H => ?_
  refine H.any (w' := w1) gz rfl rfl (.agg (lstC ⟨true, spAdd sq 1, [], [], false, []⟩ none 0 nilV nilV).toArray) (by intro cs b h; cases h) (by kernel_rfl) (by kernel_rfl) fun a H => ?_
  refine H.ms 1 fun a H => ?_
  refine H.st O1 1 0 (L := lstC ⟨true, spAdd sq 1, [], [], false, []⟩ none 0 nilV nilV) (fun a w2 O2 H => nt (wp_ret ?_)) size_lst
  repeat (first | (with_reducible refine block_ret ?_) | (with_reducible refine then_ret ?_))
  refine bodyPost_ret (results_none rfl _ _ _) H.df ⟨rfl, ⟨true, spAdd sq 1, [], [], false, []⟩, none, 0, nilV, nilV, ?_, drop1 O2, World.ownsRow_nil _ _ _ _, World.ownsRow_nil _ _ _ _, PartsS.nil⟩
  unfold HearG
  rw [if_pos hz2]
 | false =>
 refine H.condF rfl (skip_wp (then_normal ?_))
 replace H := H.kp [0, 3]
 refine H.rg 3 fun a H => ?_
 refine H.ld 0 (O1.lb 1 2) fun a H => ?_
 refine H.un gz rfl rfl rfl rfl (run_not x.up _) fun a H => nt ?_
 replace H := H.kp [0, 3, 21]
 cases hup : x.up with
 | false =>
  rw [hup] at H
  refine H.condT rfl (wp_ret ?_)
  repeat (first | (with_reducible refine block_ret ?_) | (with_reducible refine then_ret ?_))
  refine bodyPost_ret (results_none rfl _ _ _) H.df ⟨rfl, x, AP, cP, vB, vF, ?_, drop1 O1, M1⟩
  unfold HearG
  rw [if_neg (by rw [hz2]; decide), if_pos hup]
 | true =>
 rw [hup] at H
 have O1 : Own W B [(g3, sgL q (.slice A q.xs.length c)), (g, [iz x.nq, .slice AP x.ps.length cP, .bool true, vB, .bool x.rst, vF])] w1 := by rw [← hup]; exact O1
 refine H.condF rfl (skip_wp (then_normal ?_))
 replace H := H.kp [0, 3]
 obtain ⟨z4, hz4⟩ : ∃ z, (bits .and .i64 q.fl 4 != 0) = z := ⟨_, rfl⟩
 refine wp_seq_join (fun a w' => Has a 79 [(0, pz g), (3, pz g3)] ∧ Own W B [(g3, sgL q (.slice A q.xs.length c)), (g, lstC ⟨true, x.nq, x.ps, x.b, x.rst || z4, x.fins⟩ AP cP vB vF)] w' ∧ LstM g ⟨true, x.nq, x.ps, x.b, x.rst || z4, x.fins⟩ AP vB vF w' ∧ RBS w' (LstS g vB vF) A q.xs) ?_ ?_
 ·refine H.rg 4 fun a H => ?_
  refine H.ld 1 (O1.lb 1 4) fun a H => ?_
  cases hrs : x.rst with
  | true =>
   rw [hrs] at H
   refine H.off rfl rfl rfl rfl rfl fun a H => ?_
   refine H.off rfl rfl rfl rfl rfl fun a H => ?_
   refine H.off rfl rfl rfl rfl rfl fun a H => ?_
   refine H.off rfl rfl rfl rfl rfl fun a H => ?_
   refine H.pick gz rfl rfl rfl rfl rfl fun a H => ?_
   refine H.ms 2 fun a H => ?_
   refine H.put1 (O1.get 1 rfl) 0 (fun u => store1_b _ _ _ u _) fun a w2 C2 g2' H => nt ?_
   refine ⟨H.keep ⟨rfl, rfl, trivial⟩, ?_, M1.box g2' (Nat.le_refl g), hr.grown g2' (fun k e h => by injection e with e; exact absurd h.1 (by omega))⟩
   exact O1.turn 1 rfl g2' C2
  | false =>
   rw [hrs] at H
   refine H.go (H.wt rfl rfl rfl) rfl rfl _ (run_field rfl (H.ev rfl) field_sg4) fun a H => ?_
   refine H.load (H.wt rfl rfl rfl) rfl rfl rfl rfl (O1.li 0 4) fun a H => ?_
   refine H.bin (H.wt rfl rfl rfl) rfl rfl rfl rfl rfl (and_bits q.fl 4 _ _ _) fun a H => ?_
   refine H.bin (H.wt rfl rfl rfl) rfl rfl rfl rfl rfl (neq_3 (bits .and .i64 q.fl 4) 0 z4 hz4 _ _ _) fun a H => ?_
   refine H.pick gz rfl rfl rfl rfl rfl fun a H => ?_
   refine H.ms 2 fun a H => ?_
   refine H.put1 (O1.get 1 rfl) 0 (fun u => store1_b _ _ _ u _) fun a w2 C2 g2' H => nt ?_
   refine ⟨H.keep ⟨rfl, rfl, trivial⟩, ?_, M1.box g2' (Nat.le_refl g), hr.grown g2' (fun k e h => by injection e with e; exact absurd h.1 (by omega))⟩
   exact O1.turn 1 rfl g2' C2
 clear O1 M1 hr H
 obtain ⟨rs', hrs'⟩ : ∃ r, (x.rst || z4) = r := ⟨_, rfl⟩
 simp only [hrs']
 rintro a w2 ⟨H, O2, M2, hr2⟩
 obtain ⟨z1, hz1⟩ : ∃ z, (bits .and .i64 q.fl 1 != 0) = z := ⟨_, rfl⟩
 obtain ⟨fs, hfs⟩ : ∃ fs, (if (bits .and .i64 q.fl 1 != 0) = true then x.fins ++ [spAdd sq q.xs.length] else x.fins) = fs := ⟨_, rfl⟩
 refine wp_seq_join (fun a w' => ∃ vF', Has a 79 [(0, pz g), (3, pz g3)] ∧ Own W B [(g3, sgL q (.slice A q.xs.length c)), (g, lstC ⟨true, x.nq, x.ps, x.b, rs', fs⟩ AP cP vB vF')] w' ∧ LstM g ⟨true, x.nq, x.ps, x.b, rs', fs⟩ AP vB vF' w' ∧ RBS w' (LstS g vB vF') A q.xs) ?_ ?_
 ·refine H.rg 1 fun a H => ?_
  refine H.ld 0 (O2.li 0 4) fun a H => ?_
  refine H.bn 0 (and_bits q.fl 1 _ _ _) fun a H => ?_
  refine H.bb 0 rfl rfl rfl rfl rfl rfl (neq_3 (bits .and .i64 q.fl 1) 0 z1 hz1 _ _ _) rfl fun a H => nt ?_
  replace H := H.kp [0, 3, 38]
  cases z1 with
  | false =>
   rw [hz1, if_neg (by decide)] at hfs
   subst hfs
   refine H.condF rfl (skip_wp (then_normal ?_))
   exact ⟨vF, H.keep ⟨rfl, rfl, trivial⟩, O2, M2, hr2⟩
  | true =>
   rw [hz1, if_pos rfl] at hfs
   subst hfs
   refine H.condT rfl ?_
   have hsv := spanAdd sq q.xs.length (by omega) (by omega)
   rw [← hsq] at hsv
   obtain ⟨AF, cF, rfl, _, _⟩ := own_shape M2.2.1
   refine H.sg (HearF W B g g3 (sgL q (.slice A q.xs.length c)) ⟨true, x.nq, x.ps, x.b, rs', x.fins⟩ AP cP vB (.slice AF x.fins.length cF) A q.xs) (HearF.next ⟨O2, M2, hr2⟩ (Below.drew (Below.refl _ _))) [0, 3] [ec 0 39 (pz g), ec 1 40 (pz g), ec 2 41 (pz g), ec 3 42 (.pointer (some ⟨g, 5, none⟩)), ec 4 43 (.slice AF x.fins.length cF), ec 5 44 (.pointer (some ⟨g3, 2, none⟩)), ec 6 45 (iz q.sq), ec 7 46 (.pointer (some ⟨g3, 6, none⟩)), ec 8 47 (.slice A q.xs.length c), ec 9 48 (iz q.xs.length), ec 10 49 (natV (spAdd sq q.xs.length))] rfl ?_
   refine St.val 11 ⟨jm, jm, jm, jm, jl fun _ h => load1_26 _ _ _ _ _ _ ((h.1.get 1 rfl).get 5 _ rfl), jm, jl fun _ h => h.1.li 0 2, jm, jl fun _ h => load1_31 _ _ _ _ _ _ ((h.1.get 0 rfl).get 6 _ rfl), jn Tryz.underlying31, jq fun w' _ => hsv w', trivial⟩ ?_
   intro a wx H _ h
   refine ⟨.slice (some ⟨wx.heap.size, 0, none⟩) 1 1, wx.alloc (.cells #[natV (spAdd sq q.xs.length)] 3), run_any H (by intro cs b h; cases h) (by kernel_rfl) (by kernel_rfl), ?_⟩
   have hbx : Below wx.heap.size wx (wx.alloc (.cells #[natV (spAdd sq q.xs.length)] 3)) := balloc _ _
   have hl := Reads.lit wx 3 [natV (spAdd sq q.xs.length)] (0, 0) 1 1 rfl
   generalize wx.heap.size = gl at hl ⊢
   generalize wx.alloc (.cells #[natV (spAdd sq q.xs.length)] 3) = wy at hl hbx ⊢
   refine nx (fun w' => HearF W B g g3 (sgL q (.slice A q.xs.length c)) ⟨true, x.nq, x.ps, x.b, rs', x.fins⟩ AP cP vB (.slice AF x.fins.length cF) A q.xs w' ∧ Reads w' w'.heap.size 1 (some ⟨gl, 0, none⟩) 1 [natV (spAdd sq q.xs.length)]) [] [] ⟨HearF.next h hbx, hl⟩ ?_
   refine St.appF (k := x.fins.length) (m := 1) 12 info_fi ⟨jm, jm, jm, jm, jl fun _ h => load1_26 _ _ _ _ _ _ ((h.1.1.get 1 rfl).get 5 _ rfl), trivial⟩ (fun _ h => ⟨h.1.2.1.2.1, h.2, Nat.succ_le_of_lt (h.1.1.lt 1 rfl)⟩) (fun u hu => by rw [List.mem_singleton.1 hu]; rfl) ⟨by unfold maxLen; omega, by omega⟩ ?_
   intro wx A' c' w' h hO hg hfr
   have hfin := h.1.2.1.fin hO hg hfr
   have Or := h.1.1.row h.1.2.1.2.1 (Nat.le_succ_of_le (h.1.1.ge 1 rfl)) hg (by
    intro p hp
    simp only [List.mem_cons, List.not_mem_nil, or_false] at hp
    rcases hp with rfl | rfl
    ·exact hF3
    ·exact own_ne h.1.2.1.2.1 (.inl (Nat.lt_succ_self _)))
   refine nx (fun w' => Own W B [(g3, sgL q (.slice A q.xs.length c)), (g, lstC ⟨true, x.nq, x.ps, x.b, rs', x.fins⟩ AP cP vB (.slice AF x.fins.length cF))] w' ∧ LstM g ⟨true, x.nq, x.ps, x.b, rs', x.fins ++ [spAdd sq q.xs.length]⟩ AP vB (.slice A' (x.fins.length + 1) c') w' ∧ RBS w' (LstS g vB (.slice A' (x.fins.length + 1) c')) A q.xs) [ec 13 52 (pz g), ec 14 53 (.pointer (some ⟨g, 5, none⟩))] [] ⟨Or, hfin, h.1.2.2.fin hg hfr⟩ ?_
   refine St.sto 15 ⟨jm, jm, jm, trivial⟩ ?_
   clear h hO hg hfr hfin Or H
   intro a wu H _ h
   obtain ⟨c1, c2⟩ := (h.1.get 1 rfl) 5 _ rfl
   refine ⟨_, run_store rfl (H.ev rfl) (H.ev rfl) (store1_is _ _ _ _ _ _ _ c1 c2), nx0 (HearF W B g g3 (sgL q (.slice A q.xs.length c)) ⟨true, x.nq, x.ps, x.b, rs', x.fins ++ [spAdd sq q.xs.length]⟩ AP cP vB (.slice A' (x.fins.length + 1) c') A q.xs) [] [] ⟨h.1.turn 1 rfl (grown_setCell _ _ _ _) ((h.1.get 1 rfl).set 5 _ (Nat.lt_succ_self 5)), h.2.1.box (grown_setCell _ _ _ _) (Nat.le_refl _), h.2.2.grown (grown_setCell _ _ _ _) (fun k e hS => by injection e with e; exact absurd hS.1 (by omega))⟩ (St.fin trivial ?_)⟩
   intro a w3 H _ h
   refine then_normal ⟨_, H.keep ⟨rfl, rfl, trivial⟩, h⟩
 clear H O2 M2 hr2
 rintro a w3 ⟨vF', H, O3, M3, hr3⟩
 have KK : ∀ wy, (HearF W B g g3 (sgL q (.slice A q.xs.length c)) ⟨true, x.nq, x.ps, x.b, rs', fs⟩ AP cP vB vF' A q.xs wy ∧ Below w3.heap.size w3 wy) → _ := fun wy h => reasmPut x.nq AP cP x.ps sq q.xs A c wy hq hsl hl hn hc h.1.2.1.2.2.at_ hps h.1.2.2.rb
 obtain ⟨AB, cB, rfl, _, _⟩ := own_shape M3.1
 refine H.sg (fun w' => HearF W B g g3 (sgL q (.slice A q.xs.length c)) ⟨true, x.nq, x.ps, x.b, rs', fs⟩ AP cP (.slice AB x.b.length cB) vF' A q.xs w' ∧ Below w3.heap.size w3 w') ⟨HearF.next ⟨O3, M3, hr3⟩ (Below.drew (Below.refl _ _)), Below.drew (Below.refl _ _)⟩ [0, 3] [ec 0 55 (pz g), ec 1 56 (pz g), ec 2 57 (pz g), ec 3 58 (.agg ([iz x.nq, .slice AP x.ps.length cP] : List Value).toArray), ec 4 59 (.pointer (some ⟨g3, 2, none⟩)), ec 5 60 (iz sq), ec 6 61 (.pointer (some ⟨g3, 6, none⟩)), ec 7 62 (.slice A q.xs.length c), er 12 4 [] (BoxQ w3.heap.size 104 [iz 0, nilV])] rfl ?_
 refine St.call 8 ⟨jm, jm, jm, jl fun _ h => loadT (Cells.pre (l1 := [iz x.nq, .slice AP x.ps.length cP]) (h.1.1.get 1 rfl)) Tryz.underlying104 rfl size_buf rfl, jm, jl fun _ h => by rw [← hsq]; exact h.1.1.li 0 2, jm, jl fun _ h => load1_31 _ _ _ _ _ _ ((h.1.1.get 0 rfl).get 6 _ rfl), ka zero_buf fun _ h => h.2.size, trivial⟩ KK ?_ (hF := .inr fun _ _ h hb => ⟨h.1.next hb, h.2.trans (hb.mono h.2.size)⟩) (hst := ⟨fun _ _ _ hb h => h.below hb, trivial⟩)
 rintro wx v wz hh ⟨nq', ps', told, AP', c', A2, c2, rfl, hG, hP, ht, hb⟩
 have htl := (putG_tl hG)
 have hx3 := hh.2.size
 have hxz := hb.size
 have hBb : ∀ k, w3.heap.size ≤ k → some k ≠ (Value.slice AB x.b.length cB).ownBlock := fun k hk => own_ne M3.1 (.inr hk)
 have hLS : ∀ k, wx.heap.size ≤ k → LstS g (.slice AB x.b.length cB) vF' k := fun k hk => ⟨Nat.lt_of_lt_of_le (O3.lt 1 rfl) (Nat.le_trans hx3 hk), hBb k (Nat.le_trans hx3 hk), own_ne M3.2.1 (.inr (Nat.le_trans hx3 hk))⟩
 have hSP : ∀ k, k < wz.heap.size → SP wx.heap.size wz k → PutS g w3.heap.size wz (.slice AB x.b.length cB) vF' k := fun k hk h => ⟨hLS k h.1, .inr ⟨hk, h.2⟩⟩
 have hP' : PartsS wz (PutS g w3.heap.size wz (.slice AB x.b.length cB) vF') AP' ps' := by
  rcases hP with ⟨rfl, rfl⟩ | hP
  ·exact ((M3.2.2.mono (S' := PutS g w3.heap.size wz (.slice AB x.b.length cB) vF') fun k hk h => ⟨h, .inl hk⟩).grown (below_grown hh.2 none) (fun k e => by cases e)).grown (below_grown hb none) (fun k e => by cases e)
  ·exact hP.mono hSP
 have ht' := ht.mono hSP
 have hfin : HearG q sq x ⟨true, nq', ps', x.b ++ told, rs', fs⟩ := by
  unfold HearG
  rw [if_neg (by rw [hz2]; decide), if_neg (by rw [hup]; decide)]
  exact ⟨nq', ps', told, hG, by rw [hz4, hrs', hfs]⟩
 have hg34 : g < w3.heap.size ∧ g3 < w3.heap.size := ⟨O3.lt 1 rfl, O3.lt 0 rfl⟩
 have hgB := O3.ge 1 rfl
 have hF3' : some g3 ≠ (Value.slice AB x.b.length cB).ownBlock := hB3
 refine nx (fun w' => PutF W B g [(g3, sgL q (.slice A q.xs.length c)), (g, lstC ⟨true, x.nq, x.ps, x.b, rs', fs⟩ AP cP (.slice AB x.b.length cB) vF')] x.b fs (.slice AB x.b.length cB) vF' (PutS g w3.heap.size wz (.slice AB x.b.length cB) vF') ps' AP' told A2 w' ∧ Below wz.heap.size wz w') [ec 9 54 (.tuple #[.agg ([iz (nq' : Nat), .slice AP' ps'.length c'] : List Value).toArray, .slice A2 told.length c2]), ec 10 64 (.agg ([iz (nq' : Nat), .slice AP' ps'.length c'] : List Value).toArray), ec 11 65 (.slice A2 told.length c2)] [] ⟨⟨hh.1.1.call hb, ⟨own_below hh.1.2.1.1 hb, own_below hh.1.2.1.2.1 hb⟩, hP', ht'⟩, Below.refl _ _⟩ ?_ (hk := StabAll.keeps hb ⟨fun _ _ _ hb h => h.below hb, trivial⟩)
 refine St.sto 13 ⟨jm, jx, jx, ka zero_buf fun _ h => Nat.le_trans (Nat.le_trans hx3 hxz) h.2.size, trivial⟩ ?_ (hF := .inr fun _ _ h hb => ⟨h.1.next hb, h.2.trans (hb.mono h.2.size)⟩) (hst := ⟨fun _ _ _ hb h => h.below hb, trivial⟩)
 rintro a wu H ⟨⟨g4, e4, hg1, hg2, hC, hTy⟩, _⟩ h
 obtain ⟨w', hr', hgr, hs', hC'⟩ := hC.sto (L := [iz (nq' : Nat), .slice AP' ps'.length c']) size_buf rfl rfl rfl
 have hno : ¬ PutS g w3.heap.size wz (.slice AB x.b.length cB) vF' g4 := by
  rintro ⟨_, h5 | ⟨h5, h6⟩⟩
  ·omega
  ·obtain ⟨l, fr, hh4⟩ := hTy
   exact h6 ⟨l, fr, ((below_grown h.2 none).block g4 h5 (by simp)).symm.trans hh4⟩
 have O4 := h.1.1.addq hgr (by omega) hg2 (by
  intro p hp
  simp only [List.mem_cons, List.not_mem_nil, or_false] at hp
  rcases hp with rfl | rfl
  ·show g3 ≠ g4; omega
  ·show g ≠ g4; omega) hC'
 have hS4 : ∀ k, PutS g w3.heap.size wz (.slice AB x.b.length cB) vF' k → LstS g (.slice AB x.b.length cB) vF' k ∧ k ≠ g4 := fun k hk => ⟨hk.1, fun e => hno (e ▸ hk)⟩
 refine ⟨w', run_store rfl e4 (H.ev rfl) hr', nxp (PutF W B g [(g4, [iz (nq' : Nat), .slice AP' ps'.length c']), (g3, sgL q (.slice A q.xs.length c)), (g, lstC ⟨true, x.nq, x.ps, x.b, rs', fs⟩ AP cP (.slice AB x.b.length cB) vF')] x.b fs (.slice AB x.b.length cB) vF' (fun k => LstS g (.slice AB x.b.length cB) vF' k ∧ k ≠ g4) ps' AP' told A2) [ec 12 4 (pz g4)] [ec 14 5 (.slice A2 told.length c2)] [12] ⟨O4, ⟨h.1.2.1.1.kept hgr (.inr (hBb g4 hg1).symm), h.1.2.1.2.kept hgr (.inr (own_ne M3.2.1 (.inr hg1)).symm)⟩, (h.1.2.2.1.grown hgr (fun k e hS => by injection e with e; subst e; exact hno hS)).mono fun k _ hk => hS4 k hk, (h.1.2.2.2.grown hgr (fun k e hS => by injection e with e; subst e; exact hno hS)).mono fun k _ hk => hS4 k hk⟩ ⟨⟨rfl, rfl, _, rfl, e4⟩, trivial⟩ ?_⟩
 refine St.fin ⟨jm, jx, trivial⟩ ?_ (hF := .inl rfl)
 clear h O4 hr' hgr hs' hC' hC hTy e4 H hS4 hno hP' ht' hSP hLS hh ht hb hP
 intro a w4 H _ F4
 refine then_normal ?_
 replace H := H.kp [0, 4, 5]
 refine H.sg (PutF W B g [(g4, [iz (nq' : Nat), .slice AP' ps'.length c']), (g3, sgL q (.slice A q.xs.length c)), (g, lstC ⟨true, x.nq, x.ps, x.b, rs', fs⟩ AP cP (.slice AB x.b.length cB) vF')] x.b fs (.slice AB x.b.length cB) vF' (fun k => LstS g (.slice AB x.b.length cB) vF' k ∧ k ≠ g4) ps' AP' told A2) (F4.next (Below.drew (Below.refl _ _))) [0, 4, 5] [ec 0 66 (pz g), ec 1 67 (pz g), ec 2 68 (.agg ([iz (nq' : Nat), .slice AP' ps'.length c'] : List Value).toArray), ec 3 69 (pz g), ec 4 70 (pz g), ec 5 71 (.pointer (some ⟨g, 3, none⟩)), ec 6 72 (.slice AB x.b.length cB), ec 7 73 (.slice A2 told.length c2)] rfl ?_
 refine St.appF (k := x.b.length) (m := told.length) 8 info_u8 ⟨jm, jm, jl fun _ h => loadT (h.1.get 0 rfl) Tryz.underlying104 rfl size_buf rfl, jm, jm, jm, jl fun _ h => load1_31 _ _ _ _ _ _ ((h.1.get 2 rfl).get 3 _ rfl), jm, trivial⟩ (fun _ h => ⟨h.2.1.1, h.2.2.2.rb, Nat.succ_le_of_lt (h.1.lt 2 rfl)⟩) (bv_one told) ⟨by unfold maxLen; omega, by omega⟩ ?_
 intro wv A' c3 w' h hO hg hfr
 have hSq : ∀ k, k < wv.heap.size → LstS g (.slice AB x.b.length cB) vF' k ∧ k ≠ g4 → LstS g (.slice A' (x.b.length + told.length) c3) vF' k := fun k hk hS => LstS.turnB hfr ⟨hS.1, hk⟩
 have hP5 : PartsS w' (LstS g (.slice A' (x.b.length + told.length) c3) vF') AP' ps' := ((h.2.2.1.mono (S' := fun k => LstS g (.slice AB x.b.length cB) vF' k ∧ k < wv.heap.size) (fun _ hk hS => ⟨hS.1, hk⟩)).grown hg (fun k e hS => hS.1.2.1 e.symm)).mono fun _ _ hS => LstS.turnB hfr hS
 have O5 := h.1.row h.2.1.1 (Nat.le_succ_of_le hgB) hg (by
  intro p hp
  simp only [List.mem_cons, List.not_mem_nil, or_false] at hp
  rcases hp with rfl | rfl | rfl
  ·exact hBb g4 hg1
  ·exact hF3'
  ·exact own_ne h.2.1.1 (.inl (Nat.lt_succ_self _)))
 have hF5 := h.2.1.2.kept hg (own_apart h.2.1.2 h.2.1.1 rfl)
 rw [← List.map_append] at hO
 refine nx (fun w' => (Own W B [(g4, [iz (nq' : Nat), .slice AP' ps'.length c']), (g3, sgL q (.slice A q.xs.length c)), (g, lstC ⟨true, x.nq, x.ps, x.b, rs', fs⟩ AP cP (.slice AB x.b.length cB) vF')] w' ∧ PartsS w' (LstS g (.slice A' (x.b.length + told.length) c3) vF') AP' ps') ∧ w'.ownsRow (g + 1) 5 1 (.slice A' (x.b.length + told.length) c3) (x.b.length + told.length) ((x.b ++ told).map bv) ∧ w'.ownsRow (g + 1) 3 1 vF' fs.length (fs.map natV)) [ec 9 75 (pz g), ec 10 76 (pz g)] [] ⟨⟨O5, hP5⟩, hO, hF5⟩ ?_
 clear h hO hg hfr hP5 O5 hF5 hSq
 refine St.sto 11 ⟨jm, jm, jm, jm, jl fun _ h => loadT (h.1.1.get 0 rfl) Tryz.underlying104 rfl size_buf rfl, trivial⟩ ?_
 rintro a wu H _ ⟨⟨O6, P6⟩, B6, F6⟩
 obtain ⟨w', hr', hgr, hC'⟩ := store_buf (a := iz (nq' : Nat)) (b := .slice AP' ps'.length c') (O6.get 2 rfl) rfl
 refine ⟨w', run_store rfl (H.ev rfl) (H.ev rfl) hr', nx0 (fun w' => (Own W B [(g4, [iz (nq' : Nat), .slice AP' ps'.length c']), (g3, sgL q (.slice A q.xs.length c)), (g, lstC ⟨true, nq', ps', x.b, rs', fs⟩ AP' c' (.slice AB x.b.length cB) vF')] w' ∧ PartsS w' (LstS g (.slice A' (x.b.length + told.length) c3) vF') AP' ps') ∧ w'.ownsRow (g + 1) 5 1 (.slice A' (x.b.length + told.length) c3) (x.b.length + told.length) ((x.b ++ told).map bv) ∧ w'.ownsRow (g + 1) 3 1 vF' fs.length (fs.map natV)) [ec 12 77 (pz g), ec 13 78 (.pointer (some ⟨g, 3, none⟩))] [] ⟨⟨O6.turn 2 rfl hgr hC', P6.grown hgr (fun k e hS => by injection e with e; exact absurd hS.1 (by omega))⟩, B6.kept hgr (.inr (own_ne B6 (.inl (Nat.lt_succ_self g))).symm), F6.kept hgr (.inr (own_ne F6 (.inl (Nat.lt_succ_self g))).symm)⟩ ?_⟩
 clear O6 P6 B6 F6 hr' hgr hC'
 refine St.sto 14 ⟨jm, jm, jm, trivial⟩ ?_
 rintro a wu H _ ⟨⟨O6, P6⟩, B6, F6⟩
 obtain ⟨c1, c2⟩ := (O6.get 2 rfl) 3 _ rfl
 refine ⟨_, run_store rfl (H.ev rfl) (H.ev rfl) (store1_31 g 3 _ _ _ _ _ c1 c2), nx0 (fun w' => (Own W B [(g4, [iz (nq' : Nat), .slice AP' ps'.length c']), (g3, sgL q (.slice A q.xs.length c)), (g, lstC ⟨true, nq', ps', x.b ++ told, rs', fs⟩ AP' c' (.slice A' (x.b.length + told.length) c3) vF')] w' ∧ PartsS w' (LstS g (.slice A' (x.b.length + told.length) c3) vF') AP' ps') ∧ w'.ownsRow (g + 1) 5 1 (.slice A' (x.b.length + told.length) c3) (x.b.length + told.length) ((x.b ++ told).map bv) ∧ w'.ownsRow (g + 1) 3 1 vF' fs.length (fs.map natV)) [] [] ⟨⟨O6.turn 2 rfl (grown_setCell _ _ _ _) ((O6.get 2 rfl).set 3 _ (Nat.lt_of_sub_pos (Nat.succ_pos 2))), P6.grown (grown_setCell _ _ _ _) (fun k e hS => by injection e with e; exact absurd hS.1 (by omega))⟩, B6.kept (grown_setCell _ _ _ _) (.inr (own_ne B6 (.inl (Nat.lt_succ_self g))).symm), F6.kept (grown_setCell _ _ _ _) (.inr (own_ne F6 (.inl (Nat.lt_succ_self g))).symm)⟩ (St.fin trivial ?_)⟩
 rintro a w9 H _ ⟨⟨O9, P9⟩, B9, F9⟩
 refine bodyPost_end (results_none rfl _ _ _) H.df ⟨rfl, ⟨true, nq', ps', x.b ++ told, rs', fs⟩, AP', c', .slice A' (x.b.length + told.length) c3, vF', hfin, drop1 (drop1 O9), ?_, F9, P9⟩
 show w9.ownsRow (g + 1) 5 1 _ (x.b ++ told).length _
 rw [List.length_append]
 exact B9
theorem hearC (W : World) (B g : Nat) (x : Lst) (AP : Option Addr) (cP : Nat) (vB vF : Value) (q : Sg) (sq : Nat) (hsq : q.sq = (sq : Int)) (hsl : sq ≤ 4294967295) (A : Option Addr) (c : Nat) (w : World) (O : Own W B [(g, lstC x AP cP vB vF)] w) (M : LstM g x AP vB vF w) (hr : RBS w (LstS g vB vF) A q.xs) (hc : q.xs.length ≤ c)
  (hn : q.xs.length ≤ 65536) (hq : x.nq ≤ 4294967295) (hl : x.ps.length ≤ 100000) (hps : ∀ p ∈ x.ps, p.1 ≤ 4294967295 ∧ 0 ≤ spDiff p.1 x.nq ∧ spDiff p.1 x.nq + (p.2.length : Int) ≤ 2048) (hbl : x.b.length ≤ 1000000000) (hfl : x.fins.length ≤ 1000000000) :
  Calls Tryz.prog 60 #[pz g, .agg (sgL q (.slice A q.xs.length c)).toArray] w fun e w' => ∃ v, e = .returned v ∧ ∃ x' AP' cP' vB' vF', HearG q sq x x' ∧ Own W B [(g, lstC x' AP' cP' vB' vF')] w' ∧ LstM g x' AP' vB' vF' w' :=
 (hearW W B g x AP cP vB vF q sq hsq hsl A c w O M hr hc hn hq hl hps hbl hfl).mono fun _ _ ⟨h1, h2⟩ => ⟨_, h1, h2⟩
end
section
def toldTo (ti port : Int) (b : List UInt8) : Option Sg :=
 match segIn b with
 | some (p, q) => if p.s = 167772161 ∧ p.d = ti ∧ q.sp = 1883 ∧ q.dp = port then some q else none
 | none => none
inductive Heard (ti port : Int) : List (List UInt8) → Lst → Lst → Prop
 | nil {x : Lst} : Heard ti port [] x x
 | skip {b : List UInt8} {l : List (List UInt8)} {x y : Lst} (h1 : toldTo ti port b = none) (h : Heard ti port l x y) : Heard ti port (b :: l) x y
 | take {b : List UInt8} {l : List (List UInt8)} {q : Sg} {x x1 y : Lst} (h1 : toldTo ti port b = some q) (h2 : HearG q q.sq.toNat x x1) (h : Heard ti port l x1 y) : Heard ti port (b :: l) x y
section
variable {ti port : Int} {b : List UInt8} {l : List (List UInt8)} {q : Sg} {x y z : Lst}
theorem Heard.none (h : Heard ti port (b :: l) x y) (hn : toldTo ti port b = none) : Heard ti port l x y := by
 cases h with
 | skip _ h => exact h
 | take h1 => rw [hn] at h1; cases h1
theorem Heard.some (h : Heard ti port (b :: l) x y) (hs : toldTo ti port b = some q) : ∃ x1, HearG q q.sq.toNat x x1 ∧ Heard ti port l x1 y := by
 cases h with
 | skip h1 => rw [hs] at h1; cases h1
 | take h1 h2 h =>
  rw [hs] at h1
  injection h1 with h1
  subst h1
  exact ⟨_, h2, h⟩
theorem Heard.end_ (h : Heard ti port [] x y) : x = y := by cases h; rfl
theorem Heard.append {l' : List (List UInt8)} (h : Heard ti port l x y) (h' : Heard ti port l' y z) : Heard ti port (l ++ l') x z := by
 induction h with
 | nil => exact h'
 | skip h1 _ ih => exact .skip h1 (ih h')
 | take h1 h2 _ ih => exact .take h1 h2 (ih h')
end
def LstOk (n : Nat) (x : Lst) : Prop := x.nq ≤ 4294967295 ∧ x.ps.length ≤ 8 ∧ PsOk x.nq x.ps ∧ x.b.length ≤ 2048 * n ∧ x.fins.length ≤ n
theorem LstOk.zero : LstOk 0 Lst.zero := ⟨by decide, by decide, fun p hp => (by cases hp), by decide, by decide⟩
theorem LstOk.more {n m : Nat} {x : Lst} (h : LstOk n x) (hm : n ≤ m) : LstOk m x := ⟨h.1, h.2.1, h.2.2.1, by have := h.2.2.2.1; omega, by have := h.2.2.2.2; omega⟩
theorem hear_ok {n sq : Nat} {q : Sg} {x x' : Lst} (h : HearG q sq x x') (hx : LstOk n x) : LstOk (n + 1) x' := by
 unfold HearG at h
 split at h
 ·subst h
  exact ⟨by have := spAdd_lt sq 1; show spAdd sq 1 ≤ _; omega, by simp, fun p hp => (by cases hp), by simp, by simp⟩
 split at h
 ·subst h
  exact hx.more (Nat.le_succ _)
 ·obtain ⟨nq', ps', told, hp, rfl⟩ := h
  obtain ⟨h1, h2, h3, h4⟩ := putG_ok hp hx.1 hx.2.1 hx.2.2.1
  refine ⟨h1, h2, h3, ?_, ?_⟩
  ·have := hx.2.2.2.1
   simp only [List.length_append]
   omega
  ·have := hx.2.2.2.2
   show (if _ then _ else _ : List Nat).length ≤ _
   split
   ·simp only [List.length_append, List.length_singleton]; omega
   ·omega
theorem runs_at {m : List (Option UInt8)} {a : Nat} {xs : List UInt8} (hm : m.length = 2048) (h0 : 0 < xs.length) (hl : a + xs.length ≤ 2048) (h : ∀ j, j < 2048 → m[j]? = some (if a ≤ j then xs[j - a]? else none)) : Runs m 0 [(a, xs)] := by
 refine .run (b := a + xs.length) (Nat.zero_le _) ?_ (by omega) (by omega) ?_ (by omega) ?_ (.done ?_)
 ·intro j _ hj
  rw [h j (by omega), if_neg (by omega)]
 ·intro j h1 h2
  refine ⟨xs[j - a]'(by omega), ?_, List.getElem?_eq_getElem _⟩
  rw [h j (by omega), if_pos h1, List.getElem?_eq_getElem (by omega)]
 ·rcases Nat.lt_or_ge (a + xs.length) 2048 with h1 | h1
  ·refine .inr ?_
   rw [h _ h1, if_pos (Nat.le_add_right _ _), List.getElem?_eq_none (by omega)]
  ·exact .inl (by omega)
 ·intro j h1 h2
  rw [h j (by omega), if_pos (by omega), List.getElem?_eq_none (by omega)]
theorem win0_get (j : Nat) (h : j < 2048) : win0[j]? = some none := by
 unfold win0
 rw [List.getElem?_replicate, if_pos h]
theorem wi_whole {d : Int} {xs : List UInt8} (h0 : 0 ≤ d) (h1 : d + (xs.length : Int) ≤ 2048) : wiTake d xs = xs := by
 unfold wiTake
 split
 ·have : xs.length = 0 := by omega
  rw [List.length_eq_zero_iff.1 this]
 ·rw [show (max d 0 - d).toNat = 0 by omega, List.drop_zero, List.take_of_length_le (by omega)]
section
variable {nq : Nat} {sq : Nat} {xs : List UInt8} {nq' : Nat} {ps' : List (Nat × List UInt8)} {told : List UInt8}
theorem put_one {d : Nat} (h : PutG nq [] sq xs nq' ps' told) (hq : nq ≤ 4294967295) (hsq : spDiff sq nq = d) (h0 : 0 < xs.length) (hl : d + xs.length ≤ 2048) :
  if d = 0 then nq' = spAdd nq xs.length ∧ ps' = [] ∧ told = xs else nq' = nq ∧ ps' = [(spAdd nq d, xs)] ∧ told = [] := by
 have hw : wiTake (spDiff sq nq) xs = xs := wi_whole (by omega) (by omega)
 have ha : wiAt (spDiff sq nq) = d := by rw [hsq]; unfold wiAt; omega
 have hR : Runs (layG (layP nq win0 []) d xs) 0 [(d, xs)] := by
  refine runs_at (by rw [layG_len, layP_len, win0_len]) h0 hl fun j hj => ?_
  rw [layG_get]
  show (if d ≤ j ∧ j < d + xs.length ∧ win0[j]? = some none then some (xs[j - d]?) else win0[j]?) = _
  rw [win0_get j hj]
  by_cases h1 : d ≤ j
  ·rw [if_pos h1]
   by_cases h2 : j < d + xs.length
   ·rw [if_pos ⟨h1, h2, rfl⟩]
   ·rw [if_neg (fun h => h2 h.2.1), List.getElem?_eq_none (by omega)]
  ·rw [if_neg h1, if_neg (fun h => h1 h.1)]
 rw [PutG, hw, ha] at h
 rcases h with ⟨h, _⟩ | ⟨_, l, hl', h⟩
 ·rw [h] at h0; cases h0
 have := runs_one hl' hR
 subst this
 have hz : (spAdd nq d == nq) = decide (d = 0) := by
  have := spAdd_self (p := d) hq (by omega)
  rw [Bool.eq_iff_iff, beq_iff_eq, decide_eq_true_iff, this]
 rw [putNext_c, putRest_c, putTold_c, hz] at h
 by_cases hd : d = 0
 ·rw [if_pos hd]
  rw [decide_eq_true hd] at h
  rcases h with ⟨h8, _⟩ | ⟨_, h1, h2, h3⟩
  ·cases h8
  ·exact ⟨h1, h2, h3⟩
 ·rw [if_neg hd]
  rw [decide_eq_false hd] at h
  rcases h with ⟨h8, _⟩ | ⟨_, h1, h2, h3⟩
  ·exact absurd h8 (by show ¬ 8 < 1; decide)
  ·exact ⟨h1, h2, h3⟩
end
theorem wire_in {dm sm src dst : Nat} {q : Sg} (hdm : dm < 281474976710656) (hsm : sm < 281474976710656) (hs : src < 4294967296) (hd : dst < 4294967296) (h : q.ok = true) : segIn (wire dm sm src dst q) = some (⟨src, dst, 6, 64, 0, Sg.bytes src dst q⟩, q) := by
 have hq := (Sg.ok_iff.1 h).2.2.2.2.2.2
 have hp := parse_back ⟨src, dst, 6, 64, 0, Sg.bytes src dst q⟩ (wire_ip hs hd hq) []
 rw [List.append_nil] at hp
 unfold segIn
 rw [wire_fr hdm hsm h]
 simp only [hp, seg_same src dst hs hd q h]
 simp
theorem told_wire {dm sm dst : Nat} {q : Sg} (ti port : Int) (hdm : dm < 281474976710656) (hsm : sm < 281474976710656) (hd : dst < 4294967296) (h : q.ok = true) (hp : q.sp = 1883) : toldTo ti port (wire dm sm 167772161 dst q) = if (dst : Int) = ti ∧ q.dp = port then some q else none := by
 unfold toldTo
 rw [wire_in hdm hsm (by decide) hd h]
 show (if ((167772161 : Nat) : Int) = 167772161 ∧ (dst : Int) = ti ∧ q.sp = 1883 ∧ q.dp = port then some q else none) = _
 by_cases hc : (dst : Int) = ti ∧ q.dp = port
 ·rw [if_pos hc, if_pos ⟨rfl, hc.1, hp, hc.2⟩]
 ·rw [if_neg hc, if_neg (fun h => hc ⟨h.2.1, h.2.2.2⟩)]
end
section
def fr27 (d port sq fl : Nat) (xs : List UInt8) : List UInt8 := wire 3 2199023255553 167772161 d ⟨1883, port, sq, 0, fl, 0, xs⟩
def sg27 (port sq fl : Nat) (xs : List UInt8) : Sg := ⟨1883, port, sq, 0, fl, 0, xs⟩
theorem sg27_ok {port sq fl : Nat} {xs : List UInt8} (hp : port ≤ 65535) (hs : sq ≤ 4294967295) (hf : fl ≤ 63) (hx : xs.length ≤ 1460) : (sg27 port sq fl xs).ok = true := by
 refine Sg.ok_iff.2 ⟨?_, ?_, ?_, ?_, ?_, ?_, hx⟩ <;> simp only [sg27] <;> omega
theorem told_fr {d port sq fl : Nat} {xs : List UInt8} (hd : d < 4294967296) (hp : port ≤ 65535) (hs : sq ≤ 4294967295) (hf : fl ≤ 63) (hx : xs.length ≤ 1460) : toldTo 5 6 (fr27 d port sq fl xs) = if (d : Int) = 5 ∧ (port : Int) = 6 then some (sg27 port sq fl xs) else none :=
 told_wire 5 6 (by decide) (by decide) hd (sg27_ok hp hs hf hx) rfl
theorem told_yes {sq fl : Nat} {xs : List UInt8} (hs : sq ≤ 4294967295) (hf : fl ≤ 63) (hx : xs.length ≤ 1460) : toldTo 5 6 (fr27 5 6 sq fl xs) = some (sg27 6 sq fl xs) := by
 rw [told_fr (by decide) (by decide) hs hf hx, if_pos ⟨rfl, rfl⟩]
theorem wiTake_nil (d : Int) : wiTake d [] = [] := by
 unfold wiTake
 split <;> simp
section
variable {sq : Nat} {xs : List UInt8} {x x' : Lst}
theorem hear_syn (h : HearG (sg27 6 sq 18 xs) sq x x') : x' = ⟨true, spAdd sq 1, [], [], false, []⟩ := by
 unfold HearG at h
 rw [if_pos (by show (bits .and .i64 18 2 != 0) = true; decide)] at h
 exact h
theorem hear_dat (h : HearG (sg27 6 sq 16 xs) sq x x') (hx : x.up = true) : ∃ nq' ps' told, PutG x.nq x.ps sq xs nq' ps' told ∧ x' = ⟨true, nq', ps', x.b ++ told, x.rst, x.fins⟩ := by
 unfold HearG at h
 rw [if_neg (by show ¬ (bits .and .i64 16 2 != 0) = true; decide), if_neg (by rw [hx]; decide)] at h
 obtain ⟨nq', ps', told, hp, rfl⟩ := h
 refine ⟨nq', ps', told, hp, ?_⟩
 have e : (bits .and .i64 (sg27 6 sq 16 xs).fl 4 != 0) = false := by show (bits .and .i64 16 4 != 0) = false; decide
 rw [e, Bool.or_false, if_neg (by show ¬ (bits .and .i64 16 1 != 0) = true; decide)]
theorem hear_fin (h : HearG (sg27 6 sq 17 xs) sq x x') (hx : x.up = true) : ∃ nq' ps' told, PutG x.nq x.ps sq xs nq' ps' told ∧ x' = ⟨true, nq', ps', x.b ++ told, x.rst, x.fins ++ [spAdd sq xs.length]⟩ := by
 unfold HearG at h
 rw [if_neg (by show ¬ (bits .and .i64 17 2 != 0) = true; decide), if_neg (by rw [hx]; decide)] at h
 obtain ⟨nq', ps', told, hp, rfl⟩ := h
 refine ⟨nq', ps', told, hp, ?_⟩
 have e : (bits .and .i64 (sg27 6 sq 17 xs).fl 4 != 0) = false := by show (bits .and .i64 17 4 != 0) = false; decide
 rw [e, Bool.or_false, if_pos (by show (bits .and .i64 17 1 != 0) = true; decide)]
 rfl
end
theorem put_now {nq : Nat} {xs : List UInt8} {nq' : Nat} {ps' : List (Nat × List UInt8)} {told : List UInt8} (h : PutG nq [] nq xs nq' ps' told) (hq : nq ≤ 4294967295) (h0 : 0 < xs.length) (hl : xs.length ≤ 2048) : nq' = spAdd nq xs.length ∧ ps' = [] ∧ told = xs := by
 have hd : spDiff nq nq = 0 := by
  have := spDiff_self (a := nq) (p := 0) hq (by decide)
  rw [spAdd_id hq] at this
  exact this
 have := put_one (d := 0) h hq hd h0 (by omega)
 rw [if_pos rfl] at this
 exact this
def fsW27 : List (List UInt8) := [fr27 5 6 9 18 [], fr27 5 6 10 16 [192]]
theorem anewW {x : Lst} (h : Heard 5 6 fsW27 .zero x) : x.b = [192] ∧ (x.rst || decide (x.nq ∈ x.fins)) = false := by
 obtain ⟨x1, g1, h⟩ := h.some (told_yes (by decide) (by decide) (by decide))
 have e1 := hear_syn (sq := 9) g1
 subst e1
 obtain ⟨x2, g2, h⟩ := h.some (told_yes (by decide) (by decide) (by decide))
 obtain ⟨nq', ps', told, hp, e2⟩ := hear_dat (sq := 10) g2 rfl
 subst e2
 obtain ⟨rfl, rfl, rfl⟩ := put_now (nq := 10) hp (by decide) (by decide) (by decide)
 have := h.end_
 subst this
 exact ⟨rfl, rfl⟩
theorem fr27_len (d port sq fl : Nat) (xs : List UInt8) : (fr27 d port sq fl xs).length = 54 + xs.length := wire_length ..
theorem fs_len {l : List (List UInt8)} (h : l.all (fun b => Nat.ble b.length 1000) = true) : ∀ b ∈ l, b.length ≤ 140737488351232 := fun b hb => by
 have := Nat.le_of_ble_eq_true (List.all_eq_true.1 h b hb)
 omega
theorem fsW27_len : ∀ b ∈ fsW27, b.length ≤ 140737488351232 := fs_len (by simp only [fsW27, List.all_cons, List.all_nil, fr27_len]; rfl)
end
section
def IsWin (all : List UInt8) (K : Nat → Prop) (p : Nat) (m : List (Option UInt8)) : Prop :=
 m.length = 2048 ∧ ∀ j, j < 2048 → (K (p + j) → m[j]? = some all[p + j]?) ∧ (¬ K (p + j) → m[j]? = some none)
theorem spAdd_add (s a b : Nat) : spAdd (spAdd s a) b = spAdd s (a + b) := by
 unfold spAdd
 omega
theorem spDiff_any {s a b : Nat} (h : a ≤ b + 100000) (h' : b ≤ a + 100000) : spDiff (spAdd s a) (spAdd s b) = (a : Int) - (b : Int) := by
 unfold spDiff spAdd
 split <;> omega
theorem layP_seq (nq : Nat) (hq : nq ≤ 4294967295) : ∀ (r : List (Nat × List UInt8)) (M : List (Option UInt8)), (∀ p ∈ r, p.1 ≤ 2048) → layP nq M (putSeq nq r) = r.foldl (fun m p => layG m p.1 p.2) M
 | [], _, _ => rfl
 | (a, x) :: r, M, h => by
  have ha : a ≤ 2048 := h _ List.mem_cons_self
  have e : spDiff (spAdd nq a) nq = (a : Nat) := spDiff_self hq (by omega)
  show layP nq (layG M (spDiff (spAdd nq a) nq).toNat x) (putSeq nq r) = _
  rw [e]
  exact layP_seq nq hq r _ fun p hp => h p (List.mem_cons_of_mem _ hp)
theorem lay_runs {m : List (Option UInt8)} {i : Nat} {r : List (Nat × List UInt8)} (h : Runs m i r) : ∀ M : List (Option UInt8), M.length = m.length → (∀ j, j < i → M[j]? = m[j]?) → (∀ j, i ≤ j → j < m.length → M[j]? = some none) → r.foldl (fun m p => layG m p.1 p.2) M = m := by
 induction h with
 | @done i h =>
  intro M hl h1 h2
  rw [List.foldl_nil]
  apply List.ext_getElem?
  intro j
  rcases Nat.lt_or_ge j i with hj | hj
  ·exact h1 j hj
  ·rcases Nat.lt_or_ge j m.length with hk | hk
   ·rw [h2 j hj hk, h j hj hk]
   ·rw [List.getElem?_eq_none (by omega), List.getElem?_eq_none hk]
 | @run i a b xs l g1 g2 g3 g4 g5 g6 g7 g ih =>
  intro M hl h1 h2
  rw [List.foldl_cons]
  refine ih (layG M a xs) (by rw [layG_len, hl]) ?_ ?_
  ·intro j hj
   rw [layG_get]
   by_cases hja : a ≤ j
   ·obtain ⟨x, e1, e2⟩ := g5 j hja hj
    rw [if_pos ⟨hja, by omega, h2 j (by omega) (by omega)⟩, e2, e1]
   ·rw [if_neg (fun h => hja h.1)]
    rcases Nat.lt_or_ge j i with hji | hji
    ·exact h1 j hji
    ·rw [h2 j hji (by omega), g2 j hji (by omega)]
  ·intro j hj hk
   rw [layG_get, if_neg (by omega)]
   exact h2 j (by omega) hk
theorem runs_shift {m m' : List (Option UInt8)} {i b : Nat} {r : List (Nat × List UInt8)} (h : Runs m i r) (hm : m.length = m'.length) (hb : 0 < b) (hi : b ≤ i) (h1 : ∀ j, j + b < m.length → m'[j]? = m[j + b]?) (h2 : ∀ j, m.length ≤ j + b → j < m.length → m'[j]? = some none) : Runs m' (i - b) (r.map fun p => (p.1 - b, p.2)) := by
 induction h with
 | @done i h =>
  refine .done fun j hj hk => ?_
  rcases Nat.lt_or_ge (j + b) m.length with hl | hl
  ·rw [h1 j hl, h _ (by omega) hl]
  ·exact h2 j hl (by omega)
 | @run i a c xs l g1 g2 g3 g4 g5 g6 g7 g ih =>
  show Runs m' (i - b) ((a - b, xs) :: l.map fun p => (p.1 - b, p.2))
  refine .run (b := c - b) (by omega) ?_ (by omega) (by omega) ?_ (by omega) ?_ (ih (by omega))
  ·intro j hj hk
   rw [h1 j (by omega), g2 _ (by omega) (by omega)]
  ·intro j hj hk
   obtain ⟨x, e1, e2⟩ := g5 (j + b) (by omega) (by omega)
   refine ⟨x, by rw [h1 j (by omega), e1], ?_⟩
   rw [show j - (a - b) = j + b - a by omega]
   exact e2
  ·refine .inr ?_
   rcases g7 with g7 | g7
   ·exact h2 _ (by omega) (by omega)
   ·have := (List.getElem?_eq_some_iff.1 g7).1
    rw [h1 _ (by omega), show c - b + b = c by omega, g7]
theorem putSeq_shift (nq b : Nat) (r : List (Nat × List UInt8)) (h : ∀ p ∈ r, b ≤ p.1) : putSeq nq r = putSeq (spAdd nq b) (r.map fun p => (p.1 - b, p.2)) := by
 unfold putSeq
 rw [List.map_map]
 apply List.map_congr_left
 intro p hp
 have := h p hp
 show (spAdd nq p.1, p.2) = (spAdd (spAdd nq b) (p.1 - b), p.2)
 rw [spAdd_add, show b + (p.1 - b) = p.1 by omega]
theorem runs_starts {m : List (Option UInt8)} {i : Nat} {l : List (Nat × List UInt8)} (h : Runs m i l) : ∀ p ∈ l, (∃ x, m[p.1]? = some (some x)) ∧ (p.1 = i ∨ (1 ≤ p.1 ∧ m[p.1 - 1]? = some none)) := by
 induction h with
 | done h => intro p hp; cases hp
 | @run i a b xs l g1 g2 g3 g4 g5 g6 g7 g ih =>
  intro p hp
  rcases List.mem_cons.1 hp with rfl | hp
  ·obtain ⟨x, e, _⟩ := g5 a (Nat.le_refl _) g3
   refine ⟨⟨x, e⟩, ?_⟩
   rcases Nat.lt_or_ge i a with h | h
   ·exact .inr ⟨by show 1 ≤ a; omega, g2 _ (by show i ≤ a - 1; omega) (by show a - 1 < a; omega)⟩
   ·exact .inl (by show a = i; omega)
  ·obtain ⟨⟨x, e⟩, h2⟩ := ih p hp
   refine ⟨⟨x, e⟩, .inr ?_⟩
   rcases h2 with h2 | h2
   ·exfalso
    rw [h2] at e
    rcases g7 with g7 | g7
    ·rw [List.getElem?_eq_none (by omega)] at e; cases e
    ·rw [g7] at e; cases e
   ·exact h2
def ge1 (i s : Nat) : Nat := if i ≤ s then 1 else 0
theorem ge1_le (i s : Nat) : ge1 i s ≤ 1 := by
 unfold ge1
 split <;> omega
theorem runs_count {m : List (Option UInt8)} {i : Nat} {l : List (Nat × List UInt8)} (S0 S1 S2 : Nat) (h : Runs m i l) (hS : ∀ p ∈ l, p.1 = S0 ∨ p.1 = S1 ∨ p.1 = S2) : l.length ≤ ge1 i S0 + ge1 i S1 + ge1 i S2 := by
 induction h with
 | done => exact Nat.zero_le _
 | @run i a b xs l g1 g2 g3 g4 g5 g6 g7 g ih =>
  have h1 := ih fun p hp => hS p (List.mem_cons_of_mem _ hp)
  have h2 : a = S0 ∨ a = S1 ∨ a = S2 := hS _ List.mem_cons_self
  have mono : ∀ s, ge1 b s ≤ ge1 i s := fun s => by unfold ge1; split <;> split <;> omega
  have up : ge1 b a + 1 ≤ ge1 i a := by unfold ge1; rw [if_neg (by omega), if_pos (by omega)]; exact Nat.le_refl _
  have m0 := mono S0
  have m1 := mono S1
  have m2 := mono S2
  rw [List.length_cons]
  rcases h2 with h2 | h2 | h2 <;> rw [h2] at up <;> omega
structure Tel (all : List UInt8) (s : Nat) (K : Nat → Prop) (p : Nat) (x : Lst) : Prop where
 up : x.up = true
 nq : x.nq = spAdd s p
 b : x.b = all.take p
 rst : x.rst = false
 fins : x.fins = []
 low : ∀ i, i < p → K i
 no : ¬ K p
 top : ∀ i, K i → i < all.length ∧ i < p + 2048
 ps : ∃ m r, IsWin all K p m ∧ Runs m 0 r ∧ x.ps = putSeq x.nq r
theorem win_none {all : List UInt8} {K : Nat → Prop} {p j : Nat} {m : List (Option UInt8)} (h : IsWin all K p m) (hT : ∀ i, K i → i < all.length) (hm : m[j]? = some none) : ¬ K (p + j) := by
 intro hk
 have hj := (List.getElem?_eq_some_iff.1 hm).1
 rw [h.1] at hj
 rw [(h.2 j hj).1 hk, List.getElem?_eq_getElem (hT _ hk)] at hm
 cases hm
theorem win_some {all : List UInt8} {K : Nat → Prop} {p j : Nat} {m : List (Option UInt8)} {x : UInt8} (h : IsWin all K p m) (hm : m[j]? = some (some x)) : K (p + j) ∧ all[p + j]? = some x := by
 have hj := (List.getElem?_eq_some_iff.1 hm).1
 rw [h.1] at hj
 by_cases hk : K (p + j)
 ·rw [(h.2 j hj).1 hk] at hm
  injection hm with hm
  exact ⟨hk, hm⟩
 ·rw [(h.2 j hj).2 hk] at hm
  cases hm
theorem putRest_le (nq : Nat) (l : List (Nat × List UInt8)) : (putRest nq l).length ≤ l.length := by
 rcases l with _ | ⟨⟨a, x⟩, r⟩
 ·exact Nat.le_refl _
 ·rw [putRest_c]
  cases spAdd nq a == nq
  ·exact Nat.le_refl _
  ·exact Nat.le_succ _
theorem tel_step {all xs : List UInt8} {s : Nat} {K K' : Nat → Prop} {p at_ n : Nat} {x : Lst} {nq' : Nat} {ps' : List (Nat × List UInt8)} {told : List UInt8} (h : Tel all s K p x) (hp : PutG x.nq x.ps (spAdd s at_) xs nq' ps' told) (hxl : xs.length = n) (hx : ∀ j, j < n → xs[j]? = all[at_ + j]?) (hn : 0 < n) (ha : at_ + n ≤ all.length) (hl : all.length ≤ 50000) (hw : at_ + n ≤ p + 2048) (hK : ∀ i, K' i ↔ (K i ∨ (at_ ≤ i ∧ i < at_ + n))) (hc : ∀ m l, IsWin all K' p m → Runs m 0 l → l.length ≤ 8) :
  ∃ p', p ≤ p' ∧ Tel all s K' p' ⟨true, nq', ps', x.b ++ told, false, []⟩ := by
 obtain ⟨hup, hnq, hb, hrst, hfins, hlow, hno, htop, m, r, hm, hr, hps⟩ := h
 have hpl : p ≤ all.length := by
  rcases Nat.eq_zero_or_pos p with e | e
  ·omega
  ·have := (htop (p - 1) (hlow _ (by omega))).1
   omega
 have hd : spDiff (spAdd s at_) x.nq = (at_ : Int) - (p : Int) := by rw [hnq]; exact spDiff_any (by omega) (by omega)
 have hq : x.nq ≤ 4294967295 := by rw [hnq]; have := spAdd_lt s p; omega
 by_cases hold : at_ + n ≤ p
 ·have hKK : K' = K := funext fun i => propext ⟨fun hi => by
   rcases (hK i).1 hi with h | h
   ·exact h
   ·exact hlow i (by omega), fun hi => (hK i).2 (.inl hi)⟩
  have hw0 : wiTake (spDiff (spAdd s at_) x.nq) xs = [] := by
   rw [hd]
   unfold wiTake
   rw [if_pos (by omega)]
  rcases hp with ⟨_, rfl, rfl, rfl⟩ | ⟨h, _⟩
  ·refine ⟨p, Nat.le_refl _, ?_⟩
   rw [hKK]
   exact ⟨rfl, hnq, by rw [List.append_nil]; exact hb, rfl, rfl, hlow, hno, htop, m, r, hm, hr, hps⟩
  ·exact absurd hw0 h
 obtain ⟨ys, hys⟩ : ∃ ys, wiTake (spDiff (spAdd s at_) x.nq) xs = ys := ⟨_, rfl⟩
 have hyx : ys = (xs.drop (p - at_)).take (at_ + n - max at_ p) := by
  rw [← hys, hd]
  unfold wiTake
  rw [if_neg (by omega), show (max ((at_ : Int) - (p : Int)) 0 - ((at_ : Int) - (p : Int))).toNat = p - at_ by omega, show (min ((at_ : Int) - (p : Int) + (xs.length : Int)) 2048 - max ((at_ : Int) - (p : Int)) 0).toNat = at_ + n - max at_ p by omega]
 have hyl : ys.length = at_ + n - max at_ p := by rw [hyx, List.length_take, List.length_drop]; omega
 have hyg : ∀ j, j < ys.length → ys[j]? = all[max at_ p + j]? := by
  intro j hj
  rw [hyx, List.getElem?_take, if_pos (by omega), List.getElem?_drop, hx _ (by omega), show at_ + (p - at_ + j) = max at_ p + j by omega]
 have hwa : wiAt (spDiff (spAdd s at_) x.nq) = at_ - p := by rw [hd]; unfold wiAt; omega
 have hml : m.length = 2048 := hm.1
 have hge := runs_ge hr
 have hlp : layP x.nq win0 x.ps = m := by
  rw [hps, layP_seq x.nq hq r win0 (fun q hq => by have := (hge q hq).2.2; omega)]
  exact lay_runs hr win0 (by rw [win0_len, hml]) (fun j hj => absurd hj (Nat.not_lt_zero _)) fun j _ hj => win0_get j (by omega)
 have hm' : IsWin all K' p (layG m (at_ - p) ys) := by
  refine ⟨by rw [layG_len, hml], fun j hj => ?_⟩
  rw [layG_get]
  by_cases hk : K (p + j)
  ·have e := (hm.2 j hj).1 hk
   rw [List.getElem?_eq_getElem (htop _ hk).1] at e ⊢
   rw [if_neg (fun h => by rw [e] at h; cases h.2.2)]
   exact ⟨fun _ => e, fun h => absurd ((hK _).2 (.inl hk)) h⟩
  ·have e := (hm.2 j hj).2 hk
   by_cases hin : at_ ≤ p + j ∧ p + j < at_ + n
   ·rw [if_pos ⟨by omega, by omega, e⟩, hyg _ (by omega), show max at_ p + (j - (at_ - p)) = p + j by omega]
    exact ⟨fun _ => rfl, fun h => absurd ((hK _).2 (.inr hin)) h⟩
   ·rw [if_neg (fun h => hin (by omega))]
    refine ⟨fun h => ?_, fun _ => e⟩
    rcases (hK _).1 h with h | h
    ·exact absurd h hk
    ·exact absurd h hin
 have htop' : ∀ i, K' i → i < all.length ∧ i < p + 2048 := by
  intro i hi
  rcases (hK i).1 hi with h | h
  ·exact htop i h
  ·omega
 have hlow' : ∀ i, i < p → K' i := fun i hi => (hK i).2 (.inl (hlow i hi))
 rcases hp with ⟨h, _⟩ | ⟨_, l, hl', h⟩
 ·rw [hys] at h
  rw [h] at hyl
  have : ([] : List UInt8).length = 0 := rfl
  omega
 rw [hys, hwa, hlp] at hl'
 have h8 := hc _ l hm' hl'
 have h9 := putRest_le x.nq l
 rcases h with ⟨h, _⟩ | ⟨_, rfl, rfl, rfl⟩
 ·omega
 generalize layG m (at_ - p) ys = m2 at hm' hl'
 have hno0 : m2[0]? = some none → ¬ K' p := fun h => win_none (j := 0) hm' (fun i hi => (htop' i hi).1) h
 rcases l with _ | ⟨⟨a, y⟩, l⟩
 ·refine ⟨p, Nat.le_refl _, rfl, hnq, ?_, rfl, rfl, hlow', ?_, htop', m2, [], hm', hl', rfl⟩
  ·show x.b ++ [] = _
   rw [List.append_nil]; exact hb
  ·cases hl' with
   | done h => exact hno0 (h 0 (Nat.le_refl _) (by rw [hm'.1]; decide))
 have hz : (spAdd x.nq a == x.nq) = decide (a = 0) := by
  have h1 := runs_ge hl' _ List.mem_cons_self
  rw [hm'.1] at h1
  have := spAdd_self (p := a) hq (by simp only at h1; omega)
  rw [Bool.eq_iff_iff, beq_iff_eq, decide_eq_true_iff, this]
 rw [putNext_c, putRest_c, putTold_c, hz]
 by_cases ha0 : a = 0
 ·rw [decide_eq_true ha0]
  subst ha0
  cases hl' with
  | @run _ _ b _ _ g1 g2 g3 g4 g5 g6 g7 g =>
  have hby : b = y.length := by omega
  subst hby
  rw [hm'.1] at g4
  have hyt : x.b ++ y = all.take (p + y.length) := by
   rw [hb, List.take_add]
   congr 1
   apply List.ext_getElem?
   intro j
   rw [List.getElem?_take, List.getElem?_drop]
   by_cases hj : j < y.length
   ·obtain ⟨u, e1, e2⟩ := g5 j (Nat.zero_le _) hj
    rw [if_pos hj, (win_some hm' e1).2]
    exact e2
   ·rw [if_neg hj, List.getElem?_eq_none (by omega)]
  have hno' : ¬ K' (p + y.length) := by
   rcases g7 with g7 | g7
   ·intro hk
    have := (htop' _ hk).2
    rw [hm'.1] at g7
    omega
   ·exact win_none hm' (fun i hi => (htop' i hi).1) g7
  have hR := runs_shift (m' := m2.drop y.length ++ List.replicate y.length none) g (by rw [List.length_append, List.length_drop, List.length_replicate]; rw [hm'.1]; omega) g3 (Nat.le_refl _) (fun j hj => by
    rw [List.getElem?_append_left (by rw [List.length_drop]; omega), List.getElem?_drop, Nat.add_comm]) (fun j hj hk => by
    rw [List.getElem?_append_right (by rw [List.length_drop]; omega), List.getElem?_replicate, if_pos (by rw [List.length_drop]; omega)])
  rw [Nat.sub_self] at hR
  refine ⟨p + y.length, Nat.le_add_right _ _, rfl, ?_, hyt, rfl, rfl, ?_, hno', fun i hi => ⟨(htop' i hi).1, by have := (htop' i hi).2; omega⟩, _, _, ⟨?_, fun j hj => ?_⟩, hR, ?_⟩
  ·show spAdd x.nq y.length = _
   rw [hnq, spAdd_add]
  ·intro i hi
   rcases Nat.lt_or_ge i p with hip | hip
   ·exact hlow' i hip
   ·obtain ⟨u, e1, _⟩ := g5 (i - p) (Nat.zero_le _) (by omega)
    have := (win_some hm' e1).1
    rwa [show p + (i - p) = i by omega] at this
  ·rw [List.length_append, List.length_drop, List.length_replicate, hm'.1]; omega
  ·rcases Nat.lt_or_ge (j + y.length) 2048 with h1 | h1
   ·rw [List.getElem?_append_left (by rw [List.length_drop, hm'.1]; omega), List.getElem?_drop]
    have := hm'.2 (y.length + j) (by omega)
    rwa [← Nat.add_assoc] at this
   ·rw [List.getElem?_append_right (by rw [List.length_drop, hm'.1]; omega), List.getElem?_replicate, if_pos (by rw [List.length_drop, hm'.1]; omega)]
    exact ⟨fun hk => by have := (htop' _ hk).2; omega, fun _ => rfl⟩
  ·exact putSeq_shift x.nq y.length l fun q hq => (runs_ge g q hq).1
 ·rw [decide_eq_false ha0]
  refine ⟨p, Nat.le_refl _, rfl, hnq, ?_, rfl, rfl, hlow', ?_, htop', m2, _, hm', hl', rfl⟩
  ·show x.b ++ [] = _
   rw [List.append_nil]; exact hb
  ·cases hl' with
   | run g1 g2 => exact hno0 (g2 0 (Nat.le_refl _) (by omega))
def KP (N g0 sz z0 z1 z2 i : Nat) : Prop := i < N ∧ (i < g0 ∨ (z0 = 1 ∧ g0 ≤ i ∧ i < g0 + sz) ∨ (z1 = 1 ∧ g0 + sz ≤ i ∧ i < g0 + 2 * sz) ∨ (z2 = 1 ∧ g0 + 2 * sz ≤ i ∧ i < g0 + 3 * sz))
theorem kp_runs {all : List UInt8} {g0 sz z0 z1 z2 p : Nat} (hpg : g0 ≤ p) {m : List (Option UInt8)} {l : List (Nat × List UInt8)} (hm : IsWin all (KP all.length g0 sz z0 z1 z2) p m) (hr : Runs m 0 l) : l.length ≤ 8 := by
 have h := runs_count 0 (g0 + sz - p) (g0 + 2 * sz - p) hr fun q hq => by
  obtain ⟨⟨x, e⟩, h2⟩ := runs_starts hr q hq
  rcases h2 with h2 | ⟨h1, h2⟩
  ·exact .inl h2
  ·have h3 := (win_some hm e).1
   have h4 := win_none hm (fun i hi => hi.1) h2
   unfold KP at h3 h4
   omega
 have := ge1_le 0 0
 have := ge1_le 0 (g0 + sz - p)
 have := ge1_le 0 (g0 + 2 * sz - p)
 omega
theorem told_no {sq fl : Nat} {xs : List UInt8} (hs : sq ≤ 4294967295) (hf : fl ≤ 63) (hx : xs.length ≤ 1460) : toldTo 5 7 (fr27 5 6 sq fl xs) = none :=
 (told_wire (dm := 3) (sm := 2199023255553) (dst := 5) (q := sg27 6 sq fl xs) 5 7 (by decide) (by decide) (by decide) (sg27_ok (by decide) hs hf hx) rfl).trans (if_neg (fun h => absurd h.2 (show ¬ ((6 : Nat) : Int) = 7 by decide)))
def pc27 (all : List UInt8) (s at_ sz : Nat) : List UInt8 := fr27 5 6 (spAdd s at_) 16 ((all.drop at_).take sz)
theorem pc_len {all : List UInt8} {at_ sz : Nat} (hz : sz ≤ 319) : ((all.drop at_).take sz).length ≤ 1460 := by rw [List.length_take]; omega
theorem tel_hear {all : List UInt8} {s g0 sz z0 z1 z2 p k : Nat} {x y : Lst} {L : List (List UInt8)} (h : Tel all s (KP all.length g0 sz z0 z1 z2) p x) (hk : k < 3) (hz : sz ≤ 319) (hz0 : 0 < sz) (hN : all.length ≤ 50000) (hg : g0 + k * sz < all.length) (hh : Heard 5 6 (pc27 all s (g0 + k * sz) sz :: L) x y) :
  ∃ p' x', Heard 5 6 L x' y ∧ Tel all s (KP all.length g0 sz (if k = 0 then 1 else z0) (if k = 1 then 1 else z1) (if k = 2 then 1 else z2)) p' x' := by
 have hq := spAdd_lt s (g0 + k * sz)
 obtain ⟨x1, h1, h2⟩ := hh.some (told_yes (by omega) (by decide) (pc_len hz))
 obtain ⟨nq', ps', told, hp, rfl⟩ := hear_dat (sq := spAdd s (g0 + k * sz)) h1 h.up
 have hpg : g0 ≤ p := by
  have := h.no
  unfold KP at this
  have hks : 0 ≤ k * sz := Nat.zero_le _
  omega
 have hks : k * sz ≤ 2 * sz := Nat.mul_le_mul_right _ (by omega)
 obtain ⟨p', _, h3⟩ := tel_step (K' := KP all.length g0 sz (if k = 0 then 1 else z0) (if k = 1 then 1 else z1) (if k = 2 then 1 else z2)) (n := min sz (all.length - (g0 + k * sz))) h hp (by rw [List.length_take, List.length_drop]) (fun j hj => by rw [List.getElem?_take, if_pos (by omega), List.getElem?_drop]) (by omega) (by omega) hN (by omega) (fun i => by
   have hk3 : k = 0 ∨ k = 1 ∨ k = 2 := by omega
   unfold KP
   rcases hk3 with rfl | rfl | rfl
   ·rw [if_pos rfl, if_neg (show ¬ ((0 : Nat) = 1) by decide), if_neg (show ¬ ((0 : Nat) = 2) by decide)]
    omega
   ·rw [if_neg (show ¬ ((1 : Nat) = 0) by decide), if_pos rfl, if_neg (show ¬ ((1 : Nat) = 2) by decide)]
    omega
   ·rw [if_neg (show ¬ ((2 : Nat) = 0) by decide), if_neg (show ¬ ((2 : Nat) = 1) by decide), if_pos rfl]
    omega) (fun m l hm hr => kp_runs hpg hm hr)
 have hr := h.rst
 have hf := h.fins
 refine ⟨p', _, h2, ?_⟩
 rw [hr, hf]
 exact h3
theorem tel_list {all : List UInt8} {s g0 sz n : Nat} (hn : n ≤ 3) (hz : sz ≤ 319) (hz0 : 0 < sz) (hN : all.length ≤ 50000) (hg : g0 + (n - 1) * sz < all.length) {y : Lst} {L : List (List UInt8)} : ∀ (ks : List Nat) (_ : ∀ k ∈ ks, k < n) {z0 z1 z2 p : Nat} {x : Lst} (_ : Tel all s (KP all.length g0 sz z0 z1 z2) p x) (_ : Heard 5 6 (ks.map (fun k => pc27 all s (g0 + k * sz) sz) ++ L) x y),
  ∃ z0' z1' z2' p' x', Heard 5 6 L x' y ∧ Tel all s (KP all.length g0 sz z0' z1' z2') p' x' ∧ (z0 = 1 → z0' = 1) ∧ (z1 = 1 → z1' = 1) ∧ (z2 = 1 → z2' = 1) ∧ (0 ∈ ks → z0' = 1) ∧ (1 ∈ ks → z1' = 1) ∧ (2 ∈ ks → z2' = 1)
 | [], _, z0, z1, z2, p, x, h, hh => ⟨z0, z1, z2, p, x, hh, h, id, id, id, (fun h => by cases h), (fun h => by cases h), (fun h => by cases h)⟩
 | k :: ks, hks, z0, z1, z2, p, x, h, hh => by
  have hk := hks k List.mem_cons_self
  have hm : k * sz ≤ (n - 1) * sz := Nat.mul_le_mul_right _ (by omega)
  obtain ⟨p1, x1, h1, h2⟩ := tel_hear h (by omega) hz hz0 hN (by omega) hh
  obtain ⟨y0, y1, y2, p', x', h3, h4, m0, m1, m2, i0, i1, i2⟩ := tel_list hn hz hz0 hN hg ks (fun k hk => hks k (List.mem_cons_of_mem _ hk)) h2 h1
  refine ⟨y0, y1, y2, p', x', h3, h4, fun e => m0 (by rw [e]; exact ite_self _), fun e => m1 (by rw [e]; exact ite_self _), fun e => m2 (by rw [e]; exact ite_self _), fun e => ?_, fun e => ?_, fun e => ?_⟩
  ·rcases List.mem_cons.1 e with e | e
   ·exact m0 (if_pos e.symm)
   ·exact i0 e
  ·rcases List.mem_cons.1 e with e | e
   ·exact m1 (if_pos e.symm)
   ·exact i1 e
  ·rcases List.mem_cons.1 e with e | e
   ·exact m2 (if_pos e.symm)
   ·exact i2 e
def stT (all : List UInt8) (s p : Nat) : Lst := ⟨true, spAdd s p, [], all.take p, false, []⟩
theorem tel_begin {all : List UInt8} {s g0 sz : Nat} (hg : g0 ≤ all.length) : Tel all s (KP all.length g0 sz 0 0 0) g0 (stT all s g0) :=
 ⟨rfl, rfl, rfl, rfl, rfl, fun i hi => by unfold KP; omega, by unfold KP; omega, fun i hi => by unfold KP at hi; omega, win0, [], ⟨win0_len, fun j hj => ⟨fun hk => by unfold KP at hk; omega, fun _ => win0_get j hj⟩⟩, .done fun j _ hj => win0_get j (by rw [win0_len] at hj; exact hj), rfl⟩
theorem tel_end {all : List UInt8} {s e p : Nat} {K : Nat → Prop} {x : Lst} (h : Tel all s K p x) (hK : ∀ i, K i ↔ i < e) : x = stT all s e := by
 have hp : p = e := by
  have h1 : ¬ p < e := fun hh => h.no ((hK p).2 hh)
  have h2 : ¬ e < p := fun hh => by have := (hK e).1 (h.low e hh); omega
  omega
 subst hp
 obtain ⟨m, r, hm, hr, hps⟩ := h.ps
 have hr0 : Runs m 0 [] := .done fun j _ hj => (hm.2 j (by rw [hm.1] at hj; exact hj)).2 fun hk => by have := (hK _).1 hk; omega
 have := runs_one hr hr0
 subst this
 have h1 := h.up
 have h2 := h.nq
 have h3 := h.b
 have h4 := h.rst
 have h5 := h.fins
 cases x
 simp only at h1 h2 h3 h4 h5 hps
 subst h1 h2 h3 h4 h5 hps
 rfl
structure TellI (all : List UInt8) (s : Nat) (F : List (List UInt8)) (p : Nat) : Prop where
 hear : ∀ x L, Heard 5 6 (F ++ L) .zero x → Heard 5 6 L (stT all s p) x
 other : ∀ b ∈ F, toldTo 5 7 b = none
 lens : ∀ b ∈ F, b.length ≤ 2000
 le : F.length ≤ 1 + 2 * p
theorem tell_first {all : List UInt8} {q : Nat} (hq : q ≤ 4294967295) : TellI all (spAdd q 1) [fr27 5 6 q 18 []] 0 := by
 refine ⟨fun x L h => ?_, fun b hb => ?_, fun b hb => ?_, Nat.le_refl _⟩
 ·obtain ⟨x1, h1, h2⟩ := h.some (told_yes hq (by decide) (by decide))
  have e := hear_syn (sq := q) h1
  subst e
  have : stT all (spAdd q 1) 0 = ⟨true, spAdd q 1, [], [], false, []⟩ := by
   unfold stT
   rw [spAdd_id (by have := spAdd_lt q 1; omega)]
   rfl
  rw [this]
  exact h2
 ·rw [List.mem_singleton.1 hb]
  exact told_no hq (by decide) (by decide)
 ·rw [List.mem_singleton.1 hb, fr27_len]
  decide
theorem tell_group {all : List UInt8} {s g0 sz n : Nat} {F : List (List UInt8)} {ks : List Nat} (h : TellI all s F g0) (hn : n ≤ 3) (hn0 : 0 < n) (hz : sz ≤ 319) (hz0 : 0 < sz) (hN : all.length ≤ 50000) (hg : g0 + (n - 1) * sz < all.length) (hlast : n = 3 ∨ all.length ≤ g0 + n * sz) (hks : ∀ k ∈ ks, k < n) (hkl : ks.length = n) :
  TellI all s (F ++ ks.map (fun k => pc27 all s (g0 + k * sz) sz) ++ (List.range n).map (fun k => pc27 all s (g0 + k * sz) sz)) (min (g0 + n * sz) all.length) := by
 have hpc : ∀ b ∈ ks.map (fun k => pc27 all s (g0 + k * sz) sz) ++ (List.range n).map (fun k => pc27 all s (g0 + k * sz) sz), ∃ k, b = pc27 all s (g0 + k * sz) sz := by
  intro b hb
  rcases List.mem_append.1 hb with hb | hb <;> obtain ⟨k, _, e⟩ := List.mem_map.1 hb <;> exact ⟨k, e.symm⟩
 refine ⟨fun x L hh => ?_, fun b hb => ?_, fun b hb => ?_, ?_⟩
 ·rw [List.append_assoc, List.append_assoc] at hh
  have h1 := h.hear _ _ hh
  obtain ⟨z0, z1, z2, p, x1, h2, h3, _, _, _, _, _, _⟩ := tel_list hn hz hz0 hN hg ks hks (tel_begin (sz := sz) (by omega)) h1
  obtain ⟨y0, y1, y2, p2, x2, h4, h5, _, _, _, i0, i1, i2⟩ := tel_list hn hz hz0 hN hg (List.range n) (fun k hk => List.mem_range.1 hk) h3 h2
  have := tel_end (e := min (g0 + n * sz) all.length) h5 fun i => by
   have j0 := i0 (List.mem_range.2 hn0)
   have hn3 : n = 1 ∨ n = 2 ∨ n = 3 := by omega
   unfold KP
   rcases hn3 with rfl | rfl | rfl
   ·omega
   ·have j1 := i1 (by decide)
    omega
   ·have j1 := i1 (by decide)
    have j2 := i2 (by decide)
    omega
  rw [← this]
  exact h4
 ·rw [List.append_assoc] at hb
  rcases List.mem_append.1 hb with hb | hb
  ·exact h.other b hb
  ·obtain ⟨k, rfl⟩ := hpc b hb
   exact told_no (by have := spAdd_lt s (g0 + k * sz); omega) (by decide) (pc_len hz)
 ·rw [List.append_assoc] at hb
  rcases List.mem_append.1 hb with hb | hb
  ·exact h.lens b hb
  ·obtain ⟨k, rfl⟩ := hpc b hb
   unfold pc27
   rw [fr27_len]
   have := pc_len (all := all) (at_ := g0 + k * sz) hz
   omega
 ·have := h.le
  have hsz : n - 1 ≤ (n - 1) * sz := Nat.le_mul_of_pos_right _ hz0
  have hsz2 : n ≤ n * sz := Nat.le_mul_of_pos_right _ hz0
  rw [List.length_append, List.length_append, List.length_map, List.length_map, List.length_range, hkl]
  omega
theorem tell_all {all : List UInt8} {s : Nat} {F : List (List UInt8)} (h : TellI all s F all.length) {x : Lst} (hh : Heard 5 6 F .zero x) : x = stT all s all.length ∧ x.b = all := by
 have := (h.hear x [] (by rw [List.append_nil]; exact hh)).end_
 subst this
 exact ⟨rfl, List.take_length⟩
theorem heard_none {ti port : Int} {x y : Lst} : ∀ {F : List (List UInt8)}, Heard ti port F x y → (∀ b ∈ F, toldTo ti port b = none) → y = x
 | [], h, _ => h.end_.symm
 | _ :: _, h, hb => heard_none (h.none (hb _ List.mem_cons_self)) fun c hc => hb c (List.mem_cons_of_mem _ hc)
theorem tell_other {all : List UInt8} {s p : Nat} {F : List (List UInt8)} (h : TellI all s F p) {x : Lst} (hh : Heard 5 7 F .zero x) : x = .zero := heard_none hh h.other
theorem tell_fin {all : List UInt8} {s : Nat} {F : List (List UInt8)} (h : TellI all s F all.length) {x : Lst} (hh : Heard 5 6 (F ++ [fr27 5 6 (spAdd s all.length) 17 []]) .zero x) : x.nq ∈ x.fins := by
 have h1 := h.hear x _ hh
 have hq := spAdd_lt s all.length
 obtain ⟨x1, h2, h3⟩ := h1.some (told_yes (by omega) (by decide) (by decide))
 obtain ⟨nq', ps', told, hp, rfl⟩ := hear_fin (sq := spAdd s all.length) h2 rfl
 have := h3.end_
 subst this
 rcases hp with ⟨_, rfl, _, _⟩ | ⟨h, _⟩
 ·show spAdd s all.length ∈ [] ++ [spAdd (spAdd s all.length) 0]
  rw [spAdd_id (by omega)]
  exact List.mem_singleton.2 rfl
 ·exact absurd (wiTake_nil _) h
end
section
open Go.RowKit
def FrsS (w : World) (S : Nat → Prop) (A : Option Addr) (l : List (List UInt8)) : Prop :=
 ∀ k b, l[k]? = some b → ∃ g o A' c', A = some ⟨g, o, none⟩ ∧ S g ∧ g < w.heap.size ∧ w.cell? ⟨g, o + k, none⟩ = some (.slice A' b.length c') ∧ b.length ≤ c' ∧ RBS w S A' b
theorem num2_lt4 (xs : List UInt8) (k : Nat) : num2 xs k 4 < 4294967296 := by
 have h1 := ofB_lt ((xs.drop k).take 4)
 have h2 : (256 : Nat) ^ ((xs.drop k).take 4).length ≤ 256 ^ 4 := Nat.pow_le_pow_right (by omega) (by rw [List.length_take]; omega)
 unfold num2
 omega
theorem segOut_ok {s d : Int} {xs : List UInt8} (h : (segOut s d xs).2 = 0) : (segOut s d xs).1 = sgParsed xs ∧ xs.length ≤ 1480 := by
 unfold segOut at h ⊢
 by_cases h1 : wordB s = false ∨ wordB d = false
 ·rw [if_pos h1] at h; cases h
 rw [if_neg h1] at h ⊢
 by_cases h2 : xs.length < 20
 ·rw [if_pos h2] at h; cases h
 rw [if_neg h2] at h ⊢
 by_cases h3 : sgN xs < 20
 ·rw [if_pos h3] at h; cases h
 rw [if_neg h3] at h ⊢
 by_cases h4 : xs.length < sgN xs
 ·rw [if_pos h4] at h; cases h
 rw [if_neg h4] at h ⊢
 by_cases h5 : 1480 < xs.length
 ·rw [if_pos h5] at h; cases h
 rw [if_neg h5] at h ⊢
 by_cases h6 : segSum s.toNat d.toNat xs ≠ 0
 ·rw [if_pos h6] at h; cases h
 rw [if_neg h6]
 exact ⟨rfl, Nat.le_of_not_lt h5⟩
theorem segIn_ok {b : List UInt8} {p : Pk} {q : Sg} (h : segIn b = some (p, q)) : q.sq = (q.sq.toNat : Int) ∧ q.sq.toNat ≤ 4294967295 ∧ q.xs.length ≤ 1480 := by
 unfold segIn at h
 by_cases h1 : (frOut b).2 ≠ 0 ∨ (frOut b).1.t ≠ 2048
 ·rw [if_pos h1] at h; cases h
 rw [if_neg h1] at h
 by_cases h2 : (parseOut (frOut b).1.xs).2 ≠ 0 ∨ (parseOut (frOut b).1.xs).1.p ≠ 6
 ·rw [if_pos h2] at h; cases h
 rw [if_neg h2] at h
 by_cases h3 : (segOut (parseOut (frOut b).1.xs).1.s (parseOut (frOut b).1.xs).1.d (parseOut (frOut b).1.xs).1.xs).2 ≠ 0
 ·rw [if_pos h3] at h; cases h
 rw [if_neg h3] at h
 injection h with h
 injection h with _ h
 obtain ⟨h4, h5⟩ := segOut_ok (Decidable.not_not.1 h3)
 rw [h4] at h
 subst h
 generalize (parseOut (frOut b).1.xs).1.xs = xs at h5
 have := num2_lt4 xs 4
 refine ⟨rfl, Nat.le_of_lt_succ this, ?_⟩
 show (xs.drop (sgN xs)).length ≤ _
 rw [List.length_drop]
 omega
theorem slicesIndexI (fs : List Nat) (v : Nat) (A : Option Addr) (c : Nat) (w : World) (b : Nat) (hr : w.ownsRow b 3 1 (.slice A fs.length c) fs.length (fs.map natV)) (hn : fs.length ≤ 1000000000) :
  Calls Tryz.prog 99 #[.slice A fs.length c, iz v] w fun e w' => ∃ u, e = .returned u ∧ ∃ r : Int, u = iz r ∧ (decide (0 ≤ r) = decide (v ∈ fs)) ∧ w = w' := by
 go_enter Tryz.func99, Tryz.ntmps99
 refine Has.start 19 [(0, .slice A fs.length c), (1, iz v)] rfl rfl ⟨rfl, rfl, trivial⟩ ?_
 intro a0 H0
 refine H0.rg 1 fun a H => nt ?_
 refine H.rg 1 fun a H => ?_
 refine H.len gz rfl rfl rfl rfl Tryz.underlying45 fun a H => ?_
 refine H.ms 1 fun a H => nt (wp_block ?_)
 refine wp_loop_up fs.length (fun k a w' => Has a 19 [(0, .slice A fs.length c), (1, iz v), (7, iz fs.length), (8, iz k)] ∧ v ∉ fs.take k ∧ w = w') ⟨H.keep ⟨rfl, rfl, rfl, rfl, trivial⟩, by simp, rfl⟩ ?_
 rintro k a w1 hk ⟨H, hv, rfl⟩
 refine H.rg 0 fun a H => ?_
 by_cases hlt : k < fs.length
 rotate_left
 ·refine H.bb 0 rfl rfl rfl rfl rfl rfl (lss_i _ _ false (by rw [decide_eq_false_iff_not]; omega) _ _ _) rfl fun a H => nt (wp_seq (H.condF rfl ?_))
  refine wp_exit ?_
  repeat (with_reducible refine then_exit ?_)
  refine block_leave (then_normal ?_)
  have : k = fs.length := by omega
  subst this
  rw [List.take_length] at hv
  refine H.rg 1 fun a H => nt (wp_ret ?_)
  repeat (first | (with_reducible refine block_ret ?_) | (with_reducible refine then_ret ?_))
  exact bodyPost_ret (results_tmp rfl _ _ _) H.df ⟨_, congrArg Ending.returned (H.at_ 4 _ rfl), -1, rfl, by rw [decide_eq_false hv]; rfl, rfl⟩
 refine H.bb 0 rfl rfl rfl rfl rfl rfl (lss_i _ _ true (by rw [decide_eq_true_iff]; omega) _ _ _) rfl fun a H => nt (wp_seq (H.condT rfl ?_))
 refine skip_wp (then_normal (wp_seq (wp_block ?_)))
 obtain ⟨g, cap, hA, _, _⟩ := hr.form (by omega)
 injection hA with e1 _ e2
 subst e1 e2
 have hck := hr.cells (g := g) rfl k (natV fs[k]) (by rw [List.getElem?_map, List.getElem?_eq_getElem hlt]; rfl)
 rw [Addr.add_mid] at hck
 refine H.rg 2 fun a H => nt ?_
 refine H.rg 3 fun a H => ?_
 refine H.index gz rfl rfl rfl rfl rfl (index_1 45 Tryz.underlying45 (fun _ => by kernel_rfl) g 0 fs.length c k hlt w) fun a H => ?_
 refine H.ld 0 (load1_i _ _ _ _ hck) fun a H => ?_
 by_cases he : v = fs[k]
 ·refine H.bb 0 rfl rfl rfl rfl rfl rfl (eql_iB _ _ true (by rw [he]; exact beq_self_eq_true _) _ _ _) rfl fun a H => nt (H.condT rfl ?_)
  refine H.rg 2 fun a H => nt (wp_ret ?_)
  repeat (first | (with_reducible refine block_ret ?_) | (with_reducible refine then_ret ?_))
  refine bodyPost_ret (results_tmp rfl _ _ _) H.df ⟨_, congrArg Ending.returned (H.at_ 4 _ rfl), (k : Int), rfl, ?_, rfl⟩
  rw [decide_eq_true (Int.natCast_nonneg k), decide_eq_true (he ▸ List.getElem_mem hlt)]
 ·refine H.bb 0 rfl rfl rfl rfl rfl rfl (eql_iB _ _ false (by rw [beq_eq_false_iff_ne]; exact fun h => he (by omega)) _ _ _) rfl fun a H => nt (H.condF rfl (skip_wp ?_))
  refine block_normal (then_normal ?_)
  refine H.rg 0 fun a H => ?_
  refine H.bn 1 (succ_i k (by omega) _ _ _) fun a H => nt ?_
  refine ⟨hlt, H.keep ⟨rfl, rfl, rfl, rfl, trivial⟩, ?_, rfl⟩
  rw [List.take_add_one, List.getElem?_eq_getElem hlt]
  intro hm
  rcases List.mem_append.1 hm with hm | hm
  ·exact hv hm
  ·exact he (by simpa using hm)
theorem intsContain (fs : List Nat) (v : Nat) (A : Option Addr) (c : Nat) (w : World) (b : Nat) (hr : w.ownsRow b 3 1 (.slice A fs.length c) fs.length (fs.map natV)) (hn : fs.length ≤ 1000000000) :
  Calls Tryz.prog 61 #[.slice A fs.length c, iz v] w fun e w' => e = .returned (.bool (decide (v ∈ fs))) ∧ w = w' := by
 go_enter Tryz.func61, Tryz.ntmps61
 refine Has.start 9 [(0, .slice A fs.length c), (1, iz v)] rfl rfl ⟨rfl, rfl, trivial⟩ ?_
 intro a0 H0
 refine H0.rg 1 fun a H => nt ?_
 refine H.rg 2 fun a H => ?_
 refine H.cl (slicesIndexI fs v A c w b hr hn) ?_
 rintro a _ w' ⟨r, rfl, hd, rfl⟩ H
 refine H.bb 1 rfl rfl rfl rfl rfl rfl (geq_i r 0 _ hd _ _ _) rfl fun a H => nt (wp_ret ?_)
 repeat (first | (with_reducible refine block_ret ?_) | (with_reducible refine then_ret ?_))
 exact bodyPost_ret (results_tmp rfl _ _ _) H.df ⟨congrArg Ending.returned (H.at_ 4 _ rfl), rfl⟩
def StrJ (W : World) (gx : Nat) (ti port : Int) (l : List (List UInt8)) (k : Nat) (w : World) : Prop :=
 ∃ x AP cP vB vF, Heard ti port (l.take k) .zero x ∧ LstOk k x ∧ Own W W.heap.size [(gx, lstC x AP cP vB vF)] w ∧ LstM gx x AP vB vF w
theorem toldTo_some {ti port : Int} {b : List UInt8} {p : Pk} {q : Sg} (h : segIn b = some (p, q)) : toldTo ti port b = if ((p.s == 167772161 && p.d == ti) && q.sp == 1883) && q.dp == port then some q else none := by
 unfold toldTo
 rw [h]
 show (if p.s = 167772161 ∧ p.d = ti ∧ q.sp = 1883 ∧ q.dp = port then some q else none) = _
 simp only [Bool.and_eq_true, beq_iff_eq, and_assoc]
theorem StrJ.skip {W : World} {gx : Nat} {ti port : Int} {l : List (List UInt8)} {k : Nat} {w : World} {b : List UInt8} (h : StrJ W gx ti port l k w) (hb : l[k]? = some b) (hn : toldTo ti port b = none) : StrJ W gx ti port l (k + 1) w := by
 obtain ⟨x, AP, cP, vB, vF, h1, h2, h3, h4⟩ := h
 refine ⟨x, AP, cP, vB, vF, ?_, h2.more (Nat.le_succ _), h3, h4⟩
 rw [List.take_add_one, hb]
 exact h1.append (.skip hn .nil)
theorem segInV_shape {W : World} {o : Option (Pk × Sg)} {v : Value} {w : World} (h : SegInV W o v w) : ∃ p q A0 n0 c0 A1 c1 z, v = .tuple #[.agg (pkL p (.slice A0 n0 c0)).toArray, .agg (sgL q (.slice A1 q.xs.length c1)).toArray, .bool z] ∧ Below W.heap.size W w ∧ (z = false → o = none) ∧ (z = true → o = some (p, q) ∧ w.ownsRow W.heap.size 5 1 (.slice A1 q.xs.length c1) q.xs.length (q.xs.map bv)) := by
 rcases o with _ | ⟨p, q⟩
 ·exact ⟨.zero, .zero, none, 0, 0, none, 0, false, h.1, h.2, fun _ => rfl, fun h => by cases h⟩
 ·obtain ⟨A0, n0, c0, A, c, rfl, h1, h2⟩ := h
  exact ⟨p, q, A0, n0, c0, A, c, true, rfl, h2, fun h => (by cases h), fun _ => ⟨rfl, h1⟩⟩
theorem traceStream (l : List (List UInt8)) (AL : Option Addr) (cL : Nat) (ti port : Int) (hti : inR ti 4294967295 = true) (hpo : inR port 65535 = true) (w : World) (hL : FrsS w (fun _ => True) AL l) (hl : l.length ≤ 100000) (hlb : ∀ b ∈ l, b.length ≤ 140737488351232) :
  Calls Tryz.prog 20 #[.slice AL l.length cL, iz ti, iz port] w fun e w' => ∃ v, e = .returned v ∧ ∃ x A c, v = .tuple #[.slice A x.b.length c, .bool (x.rst || decide (x.nq ∈ x.fins)), iz 0] ∧ Heard ti port l .zero x ∧ LstOk l.length x ∧ w'.ownsRow w.heap.size 5 1 (.slice A x.b.length c) x.b.length (x.b.map bv) ∧ Below w.heap.size w w' := by
 go_enter Tryz.func20, Tryz.ntmps20
 refine Has.start 84 [(0, .slice AL l.length cL), (1, iz ti), (2, iz port)] rfl rfl ⟨rfl, rfl, rfl, trivial⟩ ?_
 intro a0 H0
 have O0 := Own.start w
 refine H0.rg 3 fun a H => nt ?_
 refine H.rg 1 fun a H => ?_
 refine H.cq 0 (segIP ti w) fun a H => ?_
 rw [hti] at H
 refine H.uo (r := .bool false) 1 fun a H => ?_
 refine H.go (H.wt rfl rfl rfl) rfl rfl _ (run_move (.inl rfl) (H.ev rfl)) fun a H => ?_
 refine H.call (H.wt rfl rfl rfl) rfl rfl rfl rfl (fun _ _ => by kernel_rfl) (quietC (segPort port w)) ?_
 rintro a _ _ ⟨rfl, rfl⟩ H
 rw [hpo] at H
 refine H.un (H.wt rfl rfl rfl) rfl rfl rfl rfl (run_not true _) fun a H => ?_
 refine H.pick gz rfl rfl rfl rfl rfl fun a H => nt (H.condF rfl (skip_wp (then_normal ?_)))
 replace H := H.kp [0, 1, 2]
 refine H.rg 0 fun a H => ?_
 refine H.any (w' := w) gz rfl rfl (.agg (lstC .zero none 0 nilV nilV).toArray) (by intro cs b h; cases h) (by kernel_rfl) (by kernel_rfl) fun a H => ?_
 refine H.bx O0 1 (L := lstC .zero none 0 nilV nilV) fun a w1 O1 H => nt ?_
 generalize hgx : w.heap.size = gx at O1 H
 replace H := H.kp [0, 1, 2, 9]
 refine H.rg 1 fun a H => ?_
 refine H.len gz rfl rfl rfl rfl Tryz.underlying37 fun a H => ?_
 refine H.ms 1 fun a H => nt (wp_block ?_)
 have J0 : StrJ w gx ti port l 0 w1 := ⟨.zero, none, 0, nilV, nilV, .nil, LstOk.zero, hgx ▸ O1, World.ownsRow_nil _ _ _ _, World.ownsRow_nil _ _ _ _, PartsS.nil⟩
 refine wp_loop_up l.length (fun k a w' => Has a 84 [(1, iz ti), (2, iz port), (9, pz gx), (25, .slice AL l.length cL), (26, iz l.length), (27, iz k)] ∧ StrJ w gx ti port l k w') ⟨H.keep ⟨rfl, rfl, rfl, rfl, rfl, rfl, trivial⟩, J0⟩ ?_
 clear H H0 O0 O1 J0
 rintro k a w2 hk ⟨H, J⟩
 refine H.rg 0 fun a H => ?_
 by_cases hlt : k < l.length
 rotate_left
 ·refine H.bb 0 rfl rfl rfl rfl rfl rfl (lss_i _ _ false (by rw [decide_eq_false_iff_not]; omega) _ _ _) rfl fun a H => nt (wp_seq (H.condF rfl ?_))
  refine wp_exit ?_
  repeat (with_reducible refine then_exit ?_)
  refine block_leave (then_normal ?_)
  have : k = l.length := by omega
  subst this
  obtain ⟨x, AP, cP, vB, vF, h1, h2, O, M⟩ := J
  rw [List.take_length] at h1
  obtain ⟨AB, cB, rfl, _, _⟩ := own_shape M.1
  obtain ⟨AF, cF, rfl, _, _⟩ := own_shape M.2.1
  obtain ⟨z, hz⟩ : ∃ z, decide (x.nq ∈ x.fins) = z := ⟨_, rfl⟩
  obtain ⟨rs, hrs⟩ : ∃ rs, x.rst = rs := ⟨_, rfl⟩
  have O : Own w w.heap.size [(gx, [iz x.nq, .slice AP x.ps.length cP, .bool x.up, .slice AB x.b.length cB, .bool rs, .slice AF x.fins.length cF])] w2 := by rw [← hrs]; exact O
  have hfl : x.fins.length ≤ 1000000000 := by have := h2.2.2.2.2; omega
  refine H.dq (fun w' => Own w w.heap.size [(gx, [iz x.nq, .slice AP x.ps.length cP, .bool x.up, .slice AB x.b.length cB, .bool rs, .slice AF x.fins.length cF])] w' ∧ LstM gx x AP (.slice AB x.b.length cB) (.slice AF x.fins.length cF) w') (fun _ _ h hb => ⟨h.1.call hb, h.2.next hb⟩) ⟨O, M⟩ [9] rfl
   [ec 0 64 (pz gx), ec 1 65 (pz gx), ec 2 66 (.pointer (some ⟨gx, 3, none⟩)), ec 3 67 (.slice AB x.b.length cB), ec 4 68 (pz gx), ec 5 69 (pz gx), ec 6 70 (.pointer (some ⟨gx, 4, none⟩)), ec 7 71 (.bool rs), ec 8 72 (.bool rs), ec 9 73 (gv (!rs) (pz gx)), ec 10 74 (gv (!rs) (pz gx)), ec 11 75 (gv (!rs) (.pointer (some ⟨gx, 5, none⟩))), ec 12 76 (gv (!rs) (.slice AF x.fins.length cF)), ec 13 77 (gv (!rs) (pz gx)), ec 14 78 (gv (!rs) (pz gx)), ec 15 79 (gv (!rs) (pz gx)), ec 16 80 (gv (!rs) (pz gx)), ec 17 81 (gv (!rs) (iz x.nq)), ec 18 82 (gv (!rs) (.bool z)), ec 19 83 (.bool (rs || z)), ec 20 6 (.slice AB x.b.length cB), ec 21 7 (.bool (rs || z)), ec 22 8 (iz 0)] rfl
   ⟨jm, jm, jm, jl fun _ h => load1_31 _ _ _ _ _ _ ((Own.get h.1 0 rfl).get 3 _ rfl), jm, jm, jm, jl fun _ h => load1_b _ _ _ _ ((Own.get h.1 0 rfl).get 4 _ rfl), jm, (by cases rs; exact jm; exact jo), (by cases rs; exact jm; exact jo), (by cases rs; exact jm; exact jo), (by cases rs; exact jl fun _ h => load1_26 _ _ _ _ _ _ ((Own.get h.1 0 rfl).get 5 _ rfl); exact jo), (by cases rs; exact jm; exact jo), (by cases rs; exact jm; exact jo), (by cases rs; exact jm; exact jo), (by cases rs; exact jm; exact jo), (by cases rs; exact jl fun _ h => load1_i _ _ _ _ ((Own.get h.1 0 rfl).get 0 _ rfl); exact jo), (by cases rs; exact jq fun w' h => hz ▸ intsContain x.fins x.nq AF cF w' _ h.2.2.1 hfl; exact jo), (by (cases rs <;> exact jp)), jm, jm, jm, trivial⟩ trivial ?_
  intro a w3 H _ ⟨O3, M3⟩
  refine then_normal (wp_ret ?_)
  repeat (first | (with_reducible refine block_ret ?_) | (with_reducible refine then_ret ?_))
  refine bodyPost_ret (results_three rfl _ _ _ _ (H.at_ 6 _ rfl) (H.at_ 7 _ rfl) (H.at_ 8 _ rfl)) H.df ⟨_, rfl, x, AB, cB, by rw [hrs, hz], h1, h2, own_base M3.1 (Nat.le_succ _), hgx ▸ O3.bel⟩
 refine H.bb 0 rfl rfl rfl rfl rfl rfl (lss_i _ _ true (by rw [decide_eq_true_iff]; omega) _ _ _) rfl fun a H => nt (wp_seq (H.condT rfl ?_))
 refine skip_wp (then_normal (wp_seq (wp_block ?_)))
 obtain ⟨b, hb⟩ : ∃ b, l[k]? = some b := ⟨_, List.getElem?_eq_getElem hlt⟩
 have hbel : Below w.heap.size w w2 := by obtain ⟨x, AP, cP, vB, vF, h1, h2, O, M⟩ := J; exact O.bel
 have hb8 := hlb b (List.mem_of_getElem? hb)
 obtain ⟨g, o, A', c', rfl, _, hgl, hck, hbc, hrb⟩ := hL k b hb
 refine H.rg 0 fun a H => ?_
 refine H.index gz rfl rfl rfl rfl rfl (index_1 37 Tryz.underlying37 (fun _ => by kernel_rfl) g o l.length cL k hlt w2) fun a H => ?_
 refine H.ld 1 (load1_31 _ _ _ _ _ _ ((hbel.cell (p := ⟨g, o + k, none⟩) hgl).trans hck)) fun a H => nt ?_
 replace H := H.kp [1, 2, 9, 25, 26, 27, 11]
 refine H.rg 1 fun a H => ?_
 refine H.cl (traceSegment b A' c' hbc w2 (hrb.rb.next hbel) hb8) ?_
 intro a v w3 hv H
 obtain ⟨p, q, A0, n0, c0, A1, c1, z, rfl, hb3, hz, hsm⟩ := segInV_shape hv
 obtain ⟨x, AP, cP, vB, vF, h1, h2, O2, M2⟩ := J
 have O3 := O2.call hb3
 have M3 := M2.next hb3
 refine H.ms 1 fun a H => ?_
 refine H.ex (r := .agg (pkL p (.slice A0 n0 c0)).toArray) 0 fun a H => ?_
 refine H.ex (r := .agg (sgL q (.slice A1 q.xs.length c1)).toArray) 0 fun a H => ?_
 refine H.ex (r := .bool z) 0 fun a H => ?_
 refine H.al (Own.start w3) 0 zero_pk27 fun a w4 O4 H => ?_
 obtain ⟨g12, hg12⟩ : ∃ g12, w3.heap.size = g12 := ⟨_, rfl⟩
 rw [hg12] at O4 H
 refine H.al O4 0 zero_sg27 fun a w5 O5 H => ?_
 generalize w4.heap.size = g13 at O5 H
 refine H.st O5 1 0 (L := pkL p (.slice A0 n0 c0)) (fun a w6 O6 H => ?_) size_pk27
 refine H.st O6 0 1 (L := sgL q (.slice A1 q.xs.length c1)) (fun a w7 O7 H => nt ?_) size_sg27
 clear O4 O5 O6
 replace H := H.kp [1, 2, 9, 25, 26, 27, 12, 13, 14]
 have hb7 : Below w3.heap.size w3 w7 := hg12 ▸ O7.bel
 have O8 := O3.call hb7
 have M8 := M3.next hb7
 cases z with
 | false =>
  have hno : toldTo ti port b = none := by unfold toldTo; rw [hz rfl]
  refine H.tb (fun w' => (Own w w.heap.size [(gx, lstC x AP cP vB vF)] w' ∧ LstM gx x AP vB vF w') ∧ Own w3 g12 [(g13, sgL q (.slice A1 q.xs.length c1)), (g12, pkL p (.slice A0 n0 c0))] w') (fun _ _ h hb => ⟨⟨h.1.1.call hb, h.1.2.next hb⟩, h.2.call hb⟩) ⟨⟨O8, M8⟩, O7⟩ [ec 0 37 (.bool false), ec 1 38 (.bool false), ec 2 39 (gv false (pz g12)), ec 3 40 (gv false (iz p.s)), ec 4 41 (gv false (.bool false)), ec 5 42 (.bool false), ec 6 43 (.bool false), ec 7 44 (gv false (.pointer (some ⟨g12, 1, none⟩))), ec 8 45 (gv false (iz p.d)), ec 9 46 (gv false (iz ti)), ec 10 47 (gv false (.bool false)), ec 11 48 (.bool false), ec 12 49 (.bool false), ec 13 50 (gv false (pz g13)), ec 14 51 (gv false (iz q.sp)), ec 15 52 (gv false (.bool false)), ec 16 53 (.bool false), ec 17 54 (.bool false), ec 18 55 (gv false (.pointer (some ⟨g13, 1, none⟩))), ec 19 56 (gv false (iz q.dp)), ec 20 57 (gv false (iz port)), ec 21 58 (gv false (.bool false)), ec 22 59 (.bool false)] rfl
   ⟨jm, jm, (by exact jo), (by exact jo), (by exact jo), jp, jm, (by exact jo), (by exact jo), (by exact jo), (by exact jo), jp, jm, (by exact jo), (by exact jo), (by exact jo), jp, jm, (by exact jo), (by exact jo), (by exact jo), (by exact jo), jp, trivial⟩ ?_
  intro a w9 H ⟨⟨O9, M9⟩, _⟩
  refine then_normal (H.condF rfl (skip_wp (block_normal (then_normal ?_))))
  refine H.rg 0 fun a H => ?_
  refine H.bn 1 (succ_i k (by omega) _ _ _) fun a H => nt ?_
  exact ⟨hlt, H.keep ⟨rfl, rfl, rfl, rfl, rfl, rfl, trivial⟩, StrJ.skip ⟨x, AP, cP, vB, vF, h1, h2, O9, M9⟩ hb hno⟩
 | true =>
  obtain ⟨hs, hrow⟩ := hsm rfl
  have hto := toldTo_some (ti := ti) (port := port) hs
  obtain ⟨hsq, hsl, hql⟩ := segIn_ok hs
  have hqc := own_cap hrow
  have hr3 : RBS w3 (LstS gx vB vF) A1 q.xs := (RBS.of_row hrow rfl).mono fun kk _ hk => ⟨Nat.lt_of_lt_of_le (O2.lt 0 rfl) hk.1, own_ne M2.1 (.inr hk.1), own_ne M2.2.1 (.inr hk.1)⟩
  have hr7 := hr3.grown (below_grown hb7 none) (fun k e => by cases e)
  obtain ⟨z1, hz1⟩ : ∃ z, (p.s == 167772161) = z := ⟨_, rfl⟩
  obtain ⟨z2, hz2⟩ : ∃ z, (p.d == ti) = z := ⟨_, rfl⟩
  obtain ⟨z3, hz3⟩ : ∃ z, (q.sp == 1883) = z := ⟨_, rfl⟩
  obtain ⟨z4, hz4⟩ : ∃ z, (q.dp == port) = z := ⟨_, rfl⟩
  rw [hz1, hz2, hz3, hz4] at hto
  refine H.tb (fun w' => (Own w w.heap.size [(gx, lstC x AP cP vB vF)] w' ∧ LstM gx x AP vB vF w' ∧ RBS w' (LstS gx vB vF) A1 q.xs) ∧ Own w3 g12 [(g13, sgL q (.slice A1 q.xs.length c1)), (g12, pkL p (.slice A0 n0 c0))] w') (fun _ _ h hb => ⟨⟨h.1.1.call hb, h.1.2.1.next hb, h.1.2.2.grown (below_grown hb none) (fun k e => by cases e)⟩, h.2.call hb⟩) ⟨⟨O8, M8, hr7⟩, O7⟩ [ec 0 37 (.bool true), ec 1 38 (.bool true), ec 2 39 (pz g12), ec 3 40 (iz p.s), ec 4 41 (.bool z1), ec 5 42 (.bool z1), ec 6 43 (.bool z1), ec 7 44 (gv z1 (.pointer (some ⟨g12, 1, none⟩))), ec 8 45 (gv z1 (iz p.d)), ec 9 46 (gv z1 (iz ti)), ec 10 47 (gv z1 (.bool z2)), ec 11 48 (.bool (z1 && z2)), ec 12 49 (.bool (z1 && z2)), ec 13 50 (gv (z1 && z2) (pz g13)), ec 14 51 (gv (z1 && z2) (iz q.sp)), ec 15 52 (gv (z1 && z2) (.bool z3)), ec 16 53 (.bool ((z1 && z2) && z3)), ec 17 54 (.bool ((z1 && z2) && z3)), ec 18 55 (gv ((z1 && z2) && z3) (.pointer (some ⟨g13, 1, none⟩))), ec 19 56 (gv ((z1 && z2) && z3) (iz q.dp)), ec 20 57 (gv ((z1 && z2) && z3) (iz port)), ec 21 58 (gv ((z1 && z2) && z3) (.bool z4)), ec 22 59 (.bool (((z1 && z2) && z3) && z4))] rfl
   ⟨jm, jm, jm, jl fun _ h => load1_i _ _ _ _ ((Own.get h.2 1 rfl).get 0 _ rfl), jb fun _ => eql_iB p.s 167772161 z1 hz1 _ _ _, jp, jm, (by cases z1; exact jo; exact jm), (by cases z1; exact jo; exact jl fun _ h => load1_i _ _ _ _ ((Own.get h.2 1 rfl).get 1 _ rfl)), (by cases z1; exact jo; exact jm), (by cases z1; exact jo; exact jb fun _ => eql_iB p.d ti z2 hz2 _ _ _), (by (cases z1 <;> exact jp)), jm, (by cases z1; exact jo; cases z2; exact jo; exact jm), (by cases z1; exact jo; cases z2; exact jo; exact jl fun _ h => load1_i _ _ _ _ ((Own.get h.2 0 rfl).get 0 _ rfl)), (by cases z1; exact jo; cases z2; exact jo; exact jb fun _ => eql_iB q.sp 1883 z3 hz3 _ _ _), (by cases z1; exact jp; (cases z2 <;> exact jp)), jm, (by cases z1; exact jo; cases z2; exact jo; cases z3; exact jo; exact jm), (by cases z1; exact jo; cases z2; exact jo; cases z3; exact jo; exact jl fun _ h => load1_i _ _ _ _ ((Own.get h.2 0 rfl).get 1 _ rfl)), (by cases z1; exact jo; cases z2; exact jo; cases z3; exact jo; exact jm), (by cases z1; exact jo; cases z2; exact jo; cases z3; exact jo; exact jb fun _ => eql_iB q.dp port z4 hz4 _ _ _), (by cases z1; exact jp; cases z2; exact jp; (cases z3 <;> exact jp)), trivial⟩ ?_
  clear O7 O8 M8 hr7 hr3 hrow O3 M3
  intro a w9 H ⟨⟨O9, M9, hr9⟩, Ob⟩
  cases hzz : ((z1 && z2) && z3) && z4 with
  | false =>
   refine then_normal (H.cond (t := ((z1 && z2) && z3) && z4) rfl ?_)
   rw [hzz] at hto ⊢
   refine skip_wp (block_normal (then_normal ?_))
   refine H.rg 0 fun a H => ?_
   refine H.bn 1 (succ_i k (by omega) _ _ _) fun a H => nt ?_
   exact ⟨hlt, H.keep ⟨rfl, rfl, rfl, rfl, rfl, rfl, trivial⟩, StrJ.skip ⟨x, AP, cP, vB, vF, h1, h2, O9, M9⟩ hb hto⟩
  | true =>
   refine then_normal (H.cond (t := ((z1 && z2) && z3) && z4) rfl ?_)
   rw [hzz] at hto ⊢
   replace hto : toldTo ti port b = some q := hto
   refine H.rg 1 fun a H => ?_
   refine H.loadS rfl rfl rfl rfl rfl (Ob.get 0 rfl) Tryz.underlying36 rfl size_sg27 rfl fun a H => ?_
   have hok := h2
   obtain ⟨k1, k2, k3, k4, k5⟩ := hok
   refine H.cl (hearC w w.heap.size gx x AP cP vB vF q q.sq.toNat hsq hsl A1 c1 w9 O9 M9 hr9 hqc (by omega) k1 (by omega) k3 (by omega) (by omega)) ?_
   rintro a _ w10 ⟨x', AP', cP', vB', vF', hG, O10, M10⟩ H
   refine wpList_nil (block_normal (then_normal ?_))
   refine H.rg 0 fun a H => ?_
   refine H.bn 1 (succ_i k (by omega) _ _ _) fun a H => nt ?_
   refine ⟨hlt, H.keep ⟨rfl, rfl, rfl, rfl, rfl, rfl, trivial⟩, x', AP', cP', vB', vF', ?_, hear_ok hG h2, O10, M10⟩
   rw [List.take_add_one, hb]
   exact h1.append (.take hto hG .nil)
end
section
open Go.RowKit
theorem bigC (k v : Nat) (hk : k ≤ 7) (hv : v < 9223372036854775808) (w : World) :
  Calls Tryz.prog 90 #[iz v, iz k] w fun e w' => ∃ u, e = .returned u ∧ (BytesAre (big k v) u w' ∧ Below w.heap.size w w') :=
 (big_walk (v : Int) (k : Int) v k rfl rfl hk hv w).mono fun _ _ ⟨A', c', h1, h2, h3⟩ => ⟨_, h1, by
  have := (RowIs.of (big_length k v) h2).read
  exact this, h3⟩
theorem bigR (k v : Nat) (hk : k ≤ 7) (hv : v < 9223372036854775808) (w : World) :
  Calls Tryz.prog 90 #[iz v, iz k] w fun e w' => ∃ u, e = .returned u ∧ (RowIs w.heap.size (big k v) u w' ∧ Below w.heap.size w w') :=
 (big_walk (v : Int) (k : Int) v k rfl rfl hk hv w).mono fun _ _ ⟨_A', _c', h1, h2, h3⟩ => ⟨_, h1, RowIs.of (big_length k v) h2, h3⟩
theorem pageFrameBytes (d s t : Nat) (xs : List UInt8) (A : Option Addr) (c : Nat) (w : World) (hd : d < 281474976710656) (hs : s < 281474976710656) (ht : t < 65536) (hx : RB w w.heap.size A xs) (hl : xs.length ≤ 140737488351232) :
  Calls Tryz.prog 54 #[.agg ([iz d, iz s, iz t, .slice A xs.length c] : List Value).toArray] w fun e w' => ∃ v, e = .returned v ∧ (RowIs w.heap.size (frBytes d s t xs) v w' ∧ Below w.heap.size w w') := by
 go_enter Tryz.func54, Tryz.ntmps54
 refine Has.start 20 [(0, .agg ([iz d, iz s, iz t, .slice A xs.length c] : List Value).toArray)] rfl rfl ⟨rfl, trivial⟩ ?_
 intro a0 H0
 have O0 := Own.start w
 refine rl ?_
 refine H0.bx O0 1 (L := [iz d, iz s, iz t, .slice A xs.length c]) fun a w1 O1 H => nt ?_
 generalize hg : w.heap.size = g at O1 H
 obtain ⟨b0, hb0⟩ : ∃ b0, b0 = w1.heap.size := ⟨_, rfl⟩
 have hgb : g < b0 := by rw [hb0]; exact O1.lt 0 rfl
 have ou : ∀ {w' w'' : World}, Own w g [(g, [iz d, iz s, iz t, .slice A xs.length c])] w' → Below b0 w' w'' → Own w g [(g, [iz d, iz s, iz t, .slice A xs.length c])] w'' := fun h hb => own_under h hb (Nat.le_of_lt hgb) (fun p hp => by rw [List.mem_singleton.1 hp]; exact hgb)
 replace H := H.kp [1]
 refine H.sg (fun w' => Own w g [(g, [iz d, iz s, iz t, .slice A xs.length c])] w' ∧ b0 ≤ w'.heap.size) ⟨O1.drew, by rw [hb0]; exact Nat.le_refl _⟩ [1] [ec 0 4 (pz g), ec 1 5 (iz d), ec 3 7 (.pointer (some ⟨g, 1, none⟩)), ec 4 8 (iz s)] rfl ?_
 refine St.call 2 ⟨jm, jl fun _ h => h.1.li 0 0, jm, jl fun _ h => h.1.li 0 1, trivial⟩ (fun wy _ => bigR 6 d (by decide) (by omega) wy) ?_
 rintro wx v wz hh ⟨⟨A2, c2, rfl, hrow⟩, hb⟩
 rw [show (big 6 d).length = 6 from big_length 6 d] at hrow ⊢
 refine nx (fun w' => (Own w g [(g, [iz d, iz s, iz t, .slice A xs.length c])] w' ∧ b0 ≤ w'.heap.size) ∧ w'.ownsRow b0 5 1 (.slice A2 6 c2) 6 ((big 6 d).map bv)) [] [] ⟨⟨hh.1.call hb, Nat.le_trans hh.2 hb.size⟩, own_base hrow hh.2⟩ ?_
 refine St.call 5 ⟨jm, jl fun _ h => h.1.1.li 0 1, trivial⟩ (fun wy _ => bigC 6 s (by decide) (by omega) wy) ?_
 clear hrow hb hh
 rintro wx v wz hh ⟨⟨A3, c3, rfl, hr3⟩, hb⟩
 rw [show (big 6 s).length = 6 from big_length 6 s]
 refine nx (fun w' => ((Own w g [(g, [iz d, iz s, iz t, .slice A xs.length c])] w' ∧ b0 ≤ w'.heap.size) ∧ w'.ownsRow b0 5 1 (.slice A2 6 c2) 6 ((big 6 d).map bv)) ∧ RB w' w'.heap.size A3 (big 6 s)) [] [] ⟨⟨⟨hh.1.1.call hb, Nat.le_trans hh.1.2 hb.size⟩, own_below hh.2 hb⟩, hr3⟩ ?_
 refine St.app (k := 6) (m := 6) (ys := (big 6 s).map bv) 6 info_u8 trivial (fun _ h => ⟨h.1.2, by have := h.2; unfold RB at this; rw [show (big 6 s).length = 6 from big_length 6 s] at this; exact this, h.1.1.2⟩) (bv_one _) ⟨by decide, by decide⟩ ?_
 clear hh hb hr3
 intro wx A4 c4 w' h hO hgr
 have hbb : Below b0 wx w' := (Below.refl _ _).grown hgr h.1.1.2 fun k hk => (h.1.2.lt k hk).1
 refine nx (fun w' => Own w g [(g, [iz d, iz s, iz t, .slice A xs.length c])] w' ∧ b0 ≤ w'.heap.size ∧ RowIs b0 (big 6 d ++ big 6 s) (.slice A4 (6 + 6) c4) w') [ec 7 3 (.slice A4 (6 + 6) c4)] [] ⟨ou h.1.1.1 hbb, Nat.le_trans h.1.1.2 hbb.size, RowIs.of (by simp [big_length]) (by rw [List.map_append]; exact hO)⟩ ?_
 refine St.fin ⟨jm, trivial⟩ ?_
 clear h hO hgr hbb
 rintro a w2 H _ ⟨O2, hs2, hr2⟩
 refine then_normal ?_
 generalize Value.slice A4 (6 + 6) c4 = v2 at H hr2
 replace H := H.kp [1, 3]
 refine H.rg 2 fun a H => ?_
 refine H.ld 0 (O2.li 0 2) fun a H => ?_
 refine H.cl (bigC 2 t (by decide) (by omega) w2) ?_
 rintro a u3 x3 ⟨hu3, hbu3⟩ H
 have hsu3 := hbu3.size
 refine H.appendRow Tryz.underlying31 info_u8 (gz rfl) rfl rfl rfl rfl rfl (hr2.below hbu3) hu3 (by simp [big_length]) (Nat.le_trans hs2 hsu3) ?_
 intro a v3 w3 H hr3 hb3 _
 have O3 := ou (O2.call hbu3) hb3
 have hs3 : b0 ≤ w3.heap.size := Nat.le_trans (Nat.le_trans hs2 hsu3) hb3.size
 refine H.ms 1 fun a H => nt ?_
 replace H := H.kp [1, 3]
 refine H.rg 2 fun a H => ?_
 refine H.ld 0 (load1_31 _ _ _ _ _ _ ((O3.get 0 rfl).get 3 _ rfl)) fun a H => ?_
 refine H.appendRow (ys := xs) Tryz.underlying31 info_u8 (gz rfl) rfl rfl rfl rfl rfl hr3 ⟨A, c, rfl, hx.next (hg ▸ O3.bel)⟩ (by simp [big_length]; omega) hs3 ?_
 intro a v4 w4 H hr4 hb4 _
 have O4 := ou O3 hb4
 refine H.ms 1 fun a H => nt (wp_ret ?_)
 repeat (first | (with_reducible refine block_ret ?_) | (with_reducible refine then_ret ?_))
 refine bodyPost_ret (results_tmp rfl _ _ _) H.df ⟨v4, congrArg Ending.returned (H.at_ 2 _ rfl), ?_, hg ▸ O4.bel⟩
 have e : frBytes d s t xs = big 6 d ++ big 6 s ++ big 2 t ++ xs := by simp [frBytes]
 rw [e]
 exact hr4.base (Nat.le_of_lt hgb)
end
section
open Go.RowKit
theorem conv_32 (z : Int) (w : World) : (convert 3 33 (iz z)).run Tryz.prog w = .ok (.int .u32 (z % 4294967296)) w := by
 simp [go_sem]
 rfl
theorem conv_23 (z : Int) (h0 : 0 ≤ z) (h1 : z < 4294967296) (w : World) : (convert 33 3 (.int .u32 z)).run Tryz.prog w = .ok (iz z) w := by
 simp [go_sem]
 exact IntWalk.i64_in _ (by omega)
theorem add_32 (u v : Int) (x y : Operand) (w : World) : (do eqGuard .add 33 x y (.int .u32 u) (.int .u32 v); binOp .add 33 (.int .u32 u) (.int .u32 v) : Sem Value).run Tryz.prog w = .ok (.int .u32 ((u + v) % 4294967296)) w := by
 simp [go_sem]
 rfl
theorem pageAdd (s n : Nat) (w : World) : Calls Tryz.prog 11 #[iz s, iz n] w fun e w' => e = .returned (iz (spAdd s n)) ∧ w = w' := by
 go_enter Tryz.func11, Tryz.ntmps11
 refine Has.start 11 [(0, iz s), (1, iz n)] rfl rfl ⟨rfl, rfl, trivial⟩ ?_
 intro a0 H0
 refine H0.rg 1 fun a H => nt ?_
 refine H.rg 1 fun a H => ?_
 refine H.cv 1 (conv_32 (s : Int) w) fun a H => ?_
 refine H.cv 0 (conv_32 (n : Int) w) fun a H => ?_
 refine H.bn 0 (add_32 ((s : Int) % 4294967296) ((n : Int) % 4294967296) _ _ w) fun a H => ?_
 refine H.cv 1 (conv_23 (((s : Int) % 4294967296 + (n : Int) % 4294967296) % 4294967296) (by omega) (by omega) w) fun a H => nt (wp_ret ?_)
 repeat (first | (with_reducible refine block_ret ?_) | (with_reducible refine then_ret ?_))
 refine bodyPost_ret (results_tmp rfl _ _ _) H.df ⟨?_, rfl⟩
 refine (congrArg Ending.returned (H.at_ 4 _ rfl)).trans ?_
 have e : ((s : Int) % 4294967296 + (n : Int) % 4294967296) % 4294967296 = ((spAdd s n : Nat) : Int) := by unfold spAdd; omega
 rw [e]
theorem refSegBytesC (ti sp port sq ak fl wn : Nat) (xs : List UInt8) (A : Option Addr) (c : Nat) (h : Sg.ok ⟨sp, port, sq, ak, fl, wn, xs⟩ = true) (hd : ti < 4294967296) (w : World) (hx : RB w w.heap.size A xs) :
  Calls Tryz.prog 53 #[iz 167772161, iz ti, .agg #[iz sp, iz port, iz sq, iz ak, iz fl, iz wn, .slice A xs.length c]] w fun e w' => ∃ v, e = .returned v ∧ ∃ A' c', v = .slice A' (20 + xs.length) c' ∧ w'.ownsRow w.heap.size 5 1 (.slice A' (20 + xs.length) c') (20 + xs.length) ((sgBytes 167772161 ti sp port sq ak fl wn xs).map bv) ∧ Below w.heap.size w w' :=
 (refSegBytes 167772161 ti sp port sq ak fl wn xs xs.length rfl A c h (by decide) hd w hx).mono fun _ _ ⟨A', c', h1, h2, h3⟩ => ⟨_, h1, A', c', rfl, h2, h3⟩
theorem refPBytesC (d : Nat) (xs : List UInt8) (n : Nat) (hl : xs.length = n) (A : Option Addr) (c : Nat) (h : Pk.ok ⟨167772161, d, 6, 64, 0, xs⟩ = true) (w : World) (hx : RB w w.heap.size A xs) :
  Calls Tryz.prog 55 #[.agg #[iz 167772161, iz d, iz 6, iz 64, iz 0, .slice A n c]] w fun e w' => ∃ v, e = .returned v ∧ ∃ A' c', v = .slice A' (20 + n) c' ∧ w'.ownsRow w.heap.size 5 1 (.slice A' (20 + n) c') (20 + n) ((ipHead 167772161 d 6 64 0 n ++ xs).map bv) ∧ Below w.heap.size w w' :=
 (refPBytes 167772161 d 6 64 0 xs n hl A c h w hx).mono fun _ _ ⟨A', c', h1, h2, h3⟩ => ⟨_, h1, A', c', rfl, h2, h3⟩
theorem frame27 (ti port sq ak fl wn : Nat) (sp0 dp0 : Int) (xs : List UInt8) (A : Option Addr) (c : Nat) (hq : Sg.ok ⟨1883, port, sq, ak, fl, wn, xs⟩ = true) (hti : ti < 4294967296) (w : World) (hx : RB w w.heap.size A xs) :
  Calls Tryz.prog 37 #[iz ti, iz port, .agg ([iz sp0, iz dp0, iz sq, iz ak, iz fl, iz wn, .slice A xs.length c] : List Value).toArray] w fun e w' => ∃ v, e = .returned v ∧ (RowIs w.heap.size (wire 3 2199023255553 167772161 ti ⟨1883, port, sq, ak, fl, wn, xs⟩) v w' ∧ Below w.heap.size w w') := by
 have hl : xs.length ≤ 1460 := (Sg.ok_iff.1 hq).2.2.2.2.2.2
 go_enter Tryz.func37, Tryz.ntmps37
 refine Has.start 20 [(0, iz ti), (1, iz port), (2, .agg ([iz sp0, iz dp0, iz sq, iz ak, iz fl, iz wn, .slice A xs.length c] : List Value).toArray)] rfl rfl ⟨rfl, rfl, rfl, trivial⟩ ?_
 intro a0 H0
 have O0 := Own.start w
 refine rl ?_
 refine H0.bx O0 1 (L := [iz sp0, iz dp0, iz sq, iz ak, iz fl, iz wn, .slice A xs.length c]) fun a w1 O1 H => nt ?_
 generalize hg : w.heap.size = g at O1 H
 refine H.rg 2 fun a H => ?_
 refine H.sc O1 0 1 (store1_i g 0 1883 · w1) (fun a w2 O2 H => ?_)
 refine H.sc O2 0 0 (store1_i g 1 (port : Int) · w2) (fun a w3 O3 H => nt ?_)
 replace O3 : Own w g [(g, [iz 1883, iz port, iz sq, iz ak, iz fl, iz wn, .slice A xs.length c])] w3 := O3
 replace H := H.kp [0, 5]
 refine H.rg 2 fun a H => ?_
 refine H.loadS rfl rfl rfl rfl rfl (O3.get 0 rfl) Tryz.underlying36 rfl size_sg27 rfl fun a H => ?_
 refine H.cl (refSegBytesC ti 1883 port sq ak fl wn xs A c hq hti w3 (hx.next (hg ▸ O3.bel))) ?_
 rintro a _ w4 ⟨A1, c1, rfl, hO1, hb4⟩ H
 have O4 := O3.call hb4
 have hr4 := rb_of_own (sgBytes_length 167772161 ti 1883 port sq ak fl wn xs) hO1 hb4.size
 have hpk := wire_ip (src := 167772161) (dst := ti) (q := ⟨1883, port, sq, ak, fl, wn, xs⟩) (by decide) hti hl
 refine H.any (w' := w4) gz rfl rfl (.agg ([iz 167772161, iz ti, iz 6, iz 64, iz 0, .slice A1 (20 + xs.length) c1] : List Value).toArray) (by intro cs b h; cases h) (by kernel_rfl) (by kernel_rfl) fun a H => ?_
 refine H.nk O4 0 (L := [iz 167772161, iz ti, iz 6, iz 64, iz 0, .slice A1 (20 + xs.length) c1]) rfl zero_pk27 size_pk27 (fun a w5 hb5 O5 _ H => nt ?_)
 generalize w4.heap.size = g7 at O5 H
 refine H.rg 0 fun a H => ?_
 refine H.loadS rfl rfl rfl rfl rfl (O5.get 0 rfl) Tryz.underlying89 rfl size_pk27 rfl fun a H => ?_
 refine H.cl (refPBytesC ti (sgBytes 167772161 ti 1883 port sq ak fl wn xs) (20 + xs.length) (sgBytes_length ..) A1 c1 hpk w5 (hr4.next hb5)) ?_
 rintro a _ w6 ⟨A2, c2, rfl, hO2, hb6⟩ H
 have O6 := O5.call hb6
 have hlen : (ipHead 167772161 ti 6 64 0 (20 + xs.length) ++ sgBytes 167772161 ti 1883 port sq ak fl wn xs).length = 20 + (20 + xs.length) := by simp [ipHead_length, sgBytes_length]
 have hr6 := rb_of_own hlen hO2 hb6.size
 refine H.any (w' := w6) gz rfl rfl (.agg ([iz ((3 : Nat) : Int), iz ((2199023255553 : Nat) : Int), iz ((2048 : Nat) : Int), .slice A2 (20 + (20 + xs.length)) c2] : List Value).toArray) (by intro cs b h; cases h) (by kernel_rfl) (by kernel_rfl) fun a H => ?_
 rw [← hlen] at H
 refine H.cl (pageFrameBytes 3 2199023255553 2048 (ipHead 167772161 ti 6 64 0 (20 + xs.length) ++ sgBytes 167772161 ti 1883 port sq ak fl wn xs) A2 c2 w6 (by decide) (by decide) (by decide) hr6 (by rw [hlen]; omega)) ?_
 rintro a v w7 ⟨hrow, hb7⟩ H
 refine H.ms 1 fun a H => nt (wp_ret ?_)
 repeat (first | (with_reducible refine block_ret ?_) | (with_reducible refine then_ret ?_))
 refine bodyPost_ret (results_tmp rfl _ _ _) H.df ⟨v, congrArg Ending.returned (H.at_ 6 _ rfl), ?_, hg ▸ (O6.call hb7).bel⟩
 have e : wire 3 2199023255553 167772161 ti ⟨1883, port, sq, ak, fl, wn, xs⟩ = frBytes 3 2199023255553 2048 (ipHead 167772161 ti 6 64 0 (20 + xs.length) ++ sgBytes 167772161 ti 1883 port sq ak fl wn xs) := by
  unfold wire Pk.bytes Sg.bytes
  show frBytes 3 2199023255553 2048 (ipHead 167772161 ti 6 64 0 (sgBytes 167772161 ti 1883 port sq ak fl wn xs).length ++ _) = _
  rw [sgBytes_length]
  rfl
 rw [e]
 exact hrow.base (hg ▸ O6.le)
end
section
open Go.RowKit
def FrIs (b : Nat) (x : List UInt8) (u : Value) (w : World) : Prop := ∃ A c, u = .slice A x.length c ∧ x.length ≤ c ∧ RBS w (fun k => b ≤ k) A x
theorem FrIs.next {b : Nat} {x : List UInt8} {u : Value} {w w' : World} (h : FrIs b x u w) (hb : Below w.heap.size w w') : FrIs b x u w' := by
 obtain ⟨A, c, h1, h2, h3⟩ := h
 exact ⟨A, c, h1, h2, h3.grown (below_grown hb none) (fun k e => by cases e)⟩
theorem FrIs.base {b b' : Nat} {x : List UInt8} {u : Value} {w : World} (h : FrIs b x u w) (hb : b' ≤ b) : FrIs b' x u w := by
 obtain ⟨A, c, h1, h2, h3⟩ := h
 exact ⟨A, c, h1, h2, h3.mono fun k _ hk => Nat.le_trans hb hk⟩
theorem FrIs.of {b : Nat} {x : List UInt8} {u : Value} {w : World} (h : RowIs b x u w) : FrIs b x u w := by
 obtain ⟨A, c, rfl, hO⟩ := h
 exact ⟨A, c, rfl, own_cap hO, (RBS.of_row hO rfl).mono fun k _ hk => hk.1⟩
theorem fr_nil {b : Nat} {w : World} : ∀ p ∈ ([] : List (Value × List UInt8)), FrIs b p.2 p.1 w := fun p hp => by cases hp
theorem fr_cons {b : Nat} {w : World} {u : Value} {x : List UInt8} {l : List (Value × List UInt8)} (h : FrIs b x u w) (hl : ∀ p ∈ l, FrIs b p.2 p.1 w) : ∀ p ∈ (u, x) :: l, FrIs b p.2 p.1 w := fun p hp => by
 rcases List.mem_cons.1 hp with rfl | hp
 ·exact h
 ·exact hl p hp
theorem FrIs.shape {b : Nat} {x : List UInt8} {u : Value} {w : World} (h : FrIs b x u w) : ∃ A n c, u = .slice A n c ∧ FrIs b x (.slice A n c) w := by
 obtain ⟨A, c, rfl, h2, h3⟩ := h
 exact ⟨A, x.length, c, rfl, A, c, rfl, h2, h3⟩
def FrRow (b : Nat) (fs : List (Value × List UInt8)) (v : Value) (w : World) : Prop :=
 w.ownsRow b 31 1 v fs.length (fs.map (·.1)) ∧ ∀ p ∈ fs, ∃ A c, p.1 = .slice A p.2.length c ∧ p.2.length ≤ c ∧ RBS w (fun k => some k ≠ v.ownBlock) A p.2
theorem FrRow.frs {b : Nat} {fs : List (Value × List UInt8)} {v : Value} {w : World} (h : FrRow b fs v w) : ∃ A c, v = .slice A (fs.map (·.2)).length c ∧ FrsS w (fun _ => True) A (fs.map (·.2)) := by
 obtain ⟨A, c, rfl, _, _⟩ := own_shape h.1
 refine ⟨A, c, by rw [List.length_map], fun k x hk => ?_⟩
 rw [List.getElem?_map] at hk
 cases hp : fs[k]? with
 | none => rw [hp] at hk; cases hk
 | some p =>
  rw [hp] at hk
  injection hk with hk
  subst hk
  have hlt : k < fs.length := (List.getElem?_eq_some_iff.1 hp).1
  obtain ⟨g, cap, hA, _, hgl⟩ := h.1.form (by omega)
  injection hA with e1 _ e2
  subst e1 e2
  have hck := h.1.cells (g := g) rfl k p.1 (by rw [List.getElem?_map, hp]; rfl)
  rw [Addr.add_mid] at hck
  obtain ⟨A', c', h1, h2, h3⟩ := h.2 p (List.mem_of_getElem? hp)
  exact ⟨g, 0, A', c', rfl, trivial, hgl, by rw [← h1]; exact hck, h2, h3.mono fun _ _ _ => trivial⟩
theorem RowIs.next {b : Nat} {xs : List UInt8} {v : Value} {w w' : World} (h : RowIs b xs v w) (hb : Below w.heap.size w w') : RowIs b xs v w' := h.below hb
theorem RowIs.past {b b' : Nat} {xs : List UInt8} {v u : Value} {w w' : World} {n : Nat} {cs : List Value} (h : RowIs b xs v w) (hO : w.ownsRow b' 31 1 u n cs) (hg : w.grownBy w' u.ownBlock) : RowIs b xs v w' := by
 obtain ⟨A, c, rfl, h⟩ := h
 exact ⟨A, c, rfl, h.kept hg (own_apart h hO rfl)⟩
theorem RowIs.rb {b n c : Nat} {A : Option Addr} {xs : List UInt8} {w : World} (h : RowIs b xs (.slice A n c) w) : RB w w.heap.size A xs := by
 obtain ⟨A', c', e, hr⟩ := h.read
 injection e with e1 _ _
 rw [e1]
 exact hr
theorem FrRow.at_ {b n c : Nat} {A : Option Addr} {fs : List (Value × List UInt8)} {w : World} (h : FrRow b fs (.slice A n c) w) : FrsS w (fun _ => True) A (fs.map (·.2)) := by
 obtain ⟨A', c', e, hf⟩ := h.frs
 injection e with e1 _ _
 rw [e1]
 exact hf
theorem FrRow.lit {b : Nat} {fs : List (Value × List UInt8)} {w : World} (h : ∀ p ∈ fs, FrIs b p.2 p.1 w) (hn : fs.length ≤ maxLen) : FrRow w.heap.size fs (.slice (some ⟨w.heap.size, 0, none⟩) fs.length fs.length) (w.alloc (.cells (fs.map (·.1)).toArray 31)) := by
 refine ⟨own_lit w (fs.map (·.1)) 31 1 fs.length (by rw [List.length_map, Nat.mul_one]) hn, fun p hp => ?_⟩
 obtain ⟨A, c, h1, h2, h3⟩ := h p hp
 exact ⟨A, c, h1, h2, (h3.mono (S' := fun k => k < w.heap.size) fun k hk _ => hk).grown (below_grown (balloc w _) none) (fun k e => by cases e) |>.mono fun k _ hk e => absurd (show k = w.heap.size by injection e) (Nat.ne_of_lt (show k < w.heap.size from hk))⟩
theorem FrRow.app {b b2 : Nat} {fs fs2 : List (Value × List UInt8)} {v v' : Value} {w w' : World} (h : FrRow b fs v w) (h2 : ∀ p ∈ fs2, FrIs b2 p.2 p.1 w) (hv : ∀ k, b2 ≤ k → some k ≠ v.ownBlock)
  (hO : w'.ownsRow b 31 1 v' (fs.length + fs2.length) (fs.map (·.1) ++ fs2.map (·.1))) (hg : w.grownBy w' v.ownBlock) (hfr : v'.ownBlock = v.ownBlock ∨ v'.ownBlock = some w.heap.size) : FrRow b (fs ++ fs2) v' w' := by
 refine ⟨by rw [List.length_append, List.map_append]; exact hO, fun p hp => ?_⟩
 have key : ∃ A c, p.1 = .slice A p.2.length c ∧ p.2.length ≤ c ∧ RBS w (fun k => some k ≠ v.ownBlock) A p.2 := by
  rcases List.mem_append.1 hp with hp | hp
  ·exact h.2 p hp
  ·obtain ⟨A, c, h1, h3, h4⟩ := h2 p hp
   exact ⟨A, c, h1, h3, h4.mono fun k _ hk => hv k hk⟩
 obtain ⟨A, c, h1, h3, h4⟩ := key
 refine ⟨A, c, h1, h3, ((h4.mono (S' := fun k => some k ≠ v.ownBlock ∧ k < w.heap.size) fun k hk hS => ⟨hS, hk⟩).grown hg (fun k e hS => hS.1 e.symm)).mono fun k _ hS => ?_⟩
 rcases hfr with hf | hf
 ·rw [hf]; exact hS.1
 ·rw [hf]; intro e; injection e with e; omega
theorem info_bs : (Tryz.prog.info? 31).map (fun i => (i.zero, i.size, i.bytes)) = some (some nilV, 1, 24) := by kernel_rfl
theorem Has.appF {ops : Array Oper} {rest : List Oper} {o : Oper} {a : Act} {w : World} {Q : Exit → Act → World → Prop} {n : Nat} {l : List (Nat × Value)} (H : Has a n l) {s x : Operand} {t e : TypeId} {d base size bytes k m c : Nat} {z u : Value} {A : Option Addr} {xs ys : List Value} (hown : w.ownsRow base e size u k xs) (hi : (Tryz.prog.info? e).map (fun i => (i.zero, i.size, i.bytes)) = some (some z, size, bytes))
  (hr : Reads w w.heap.size size A m ys) (h1 : ∀ u ∈ ys, u.oneCell' = true) (hn : k + m ≤ maxLen) (hb : (k + m) * bytes ≤ 140737488355328) (hbase : base ≤ w.heap.size) (h : ∀ a' A' c' w', w'.ownsRow base e size (.slice A' (k + m) c') (k + m) (xs ++ ys) → w.grownBy w' u.ownBlock → ((Value.slice A' (k + m) c').ownBlock = u.ownBlock ∨ (Value.slice A' (k + m) c').ownBlock = some w.heap.size) → Has a' n ((d, .slice A' (k + m) c') :: l) → wpList Tryz.prog ops Q rest a' w')
  (ho : o.op = .call { callee := .builtin .append, args := #[s, x], argTypes := #[t, t] } := by rfl) (hd : o.dst = some d := by rfl) (hnn : Nat.blt d n = true := by rfl) (hg : o.guard = none := by rfl) (ht : Tryz.prog.underlying t = some (.slice e) := by kernel_rfl) (hzs : z.cells.size = size := by rfl) (hsz : 0 < size := by decide)
  (hs : evL l s = some u := by rfl) (hx : evL l x = some (.slice A m c) := by rfl) : wpList Tryz.prog ops Q (o :: rest) a w := by
 obtain ⟨A', c', w', hrun, hO, hgr, hfr⟩ := run_appF (a := a) ho ht hi hzs hsz (H.ev hs) hown (H.ev hx) hr h1 hn hb hbase
 exact H.go (gz hg) hd hnn _ hrun fun a' H' => h a' A' c' w' hO hgr hfr H'
section
variable {ops : Array Oper} {Q : Exit → Act → World → Prop} {n : Nat} {l : List (Nat × Value)} {Wp : World → Prop} {i s : Nat} {v : Value} {o : Oper}
end
end
section
open Go.RowKit
theorem num27 (u : Int) (w : World) : Calls Tryz.prog 25 #[iz u] w fun e w' => e = .returned (iz u) ∧ w = w' := by
 go_enter Tryz.func25, Tryz.ntmps25
 refine Has.start 4 [(0, iz u)] rfl rfl ⟨rfl, trivial⟩ ?_
 intro a0 H0
 refine H0.rg 1 fun a H => nt ?_
 refine H.rg 2 fun a H => nt (wp_ret ?_)
 repeat (first | (with_reducible refine block_ret ?_) | (with_reducible refine then_ret ?_))
 exact bodyPost_ret (results_tmp rfl _ _ _) H.df ⟨congrArg Ending.returned (H.at_ 2 _ rfl), rfl⟩
theorem frame27F (d port sq fl : Nat) (xs : List UInt8) (A : Option Addr) (c : Nat) (hq : Sg.ok (sg27 port sq fl xs) = true) (hd : d < 4294967296) (w : World) (hx : RB w w.heap.size A xs) :
  Calls Tryz.prog 37 #[iz d, iz port, .agg ([iz 0, iz 0, iz sq, iz 0, iz fl, iz 0, .slice A xs.length c] : List Value).toArray] w fun e w' => ∃ v, e = .returned v ∧ ∃ A' n' c', v = .slice A' n' c' ∧ FrIs w.heap.size (fr27 d port sq fl xs) (.slice A' n' c') w' ∧ Below w.heap.size w w' :=
 (frame27 d port sq 0 fl 0 0 0 xs A c hq hd w hx).mono fun _ _ ⟨v, h1, h2, h3⟩ => by
  obtain ⟨A', n', c', rfl, h4⟩ := (FrIs.of h2).shape
  exact ⟨_, h1, A', n', c', rfl, h4, h3⟩
theorem wakes27 (w : World) : Calls Tryz.prog 26 #[] w fun e w' => e = .returned (.bool true) ∧ Below w.heap.size w w' := by
 go_enter Tryz.func26, Tryz.ntmps26
 refine Has.start 27 [] rfl rfl trivial ?_
 intro a0 H0
 refine H0.rg 1 fun a H => nt ?_
 refine H.rg 0 fun a H => ?_
 refine H.any (w' := w) gz rfl rfl (.agg ([iz 0, iz 0, iz ((9 : Nat) : Int), iz ((0 : Nat) : Int), iz ((18 : Nat) : Int), iz ((0 : Nat) : Int), .slice none ([] : List UInt8).length 0] : List Value).toArray) (by intro cs b h; cases h) (by kernel_rfl) (by kernel_rfl) fun a H => ?_
 refine H.cl (frame27F 5 6 (9) 18 [] none 0 (sg27_ok (port := 6) (sq := 9) (fl := 18) (xs := []) (by decide) (by decide) (by decide) (by decide)) (by decide) w (Reads.none_)) ?_
 rintro a _ x1 ⟨Ax1, nx1, cx1, rfl, hfx1, hbx1⟩ H
 have hbbx1 : Below w.heap.size w x1 := (Below.refl w.heap.size w).trans (hbx1.mono (Below.refl w.heap.size w).size)
 replace hfx1 := hfx1.base (b' := 0) (Nat.zero_le _)
 refine H.bytes gz rfl rfl [192] [.int .u8 192] rfl rfl 5 (by intro cs b h; cases h) (by kernel_rfl) (by kernel_rfl) ?_
 rintro a _ x2 H ⟨Ax2, cx2, rfl, hrx2⟩ hbx2
 replace hfx1 := hfx1.next hbx2
 have hbbx2 : Below w.heap.size w x2 := hbbx1.trans (hbx2.mono hbbx1.size)
 refine H.any (w' := x2) gz rfl rfl (.agg ([iz 0, iz 0, iz ((10 : Nat) : Int), iz ((0 : Nat) : Int), iz ((16 : Nat) : Int), iz ((0 : Nat) : Int), .slice Ax2 ([192] : List UInt8).length cx2] : List Value).toArray) (by intro cs b h; cases h) (by kernel_rfl) (by kernel_rfl) fun a H => ?_
 refine H.cl (frame27F 5 6 (10) 16 [192] Ax2 cx2 (sg27_ok (port := 6) (sq := 10) (fl := 16) (xs := [192]) (by decide) (by decide) (by decide) (by decide)) (by decide) x2 hrx2) ?_
 rintro a _ x3 ⟨Ax3, nx3, cx3, rfl, hfx3, hbx3⟩ H
 replace hfx1 := hfx1.next hbx3
 have hbbx3 : Below w.heap.size w x3 := hbbx2.trans (hbx3.mono hbbx2.size)
 replace hfx3 := hfx3.base (b' := 0) (Nat.zero_le _)
 have hrwx4 : FrRow x3.heap.size [(.slice Ax1 nx1 cx1, fr27 5 6 (9) 18 []), (.slice Ax3 nx3 cx3, fr27 5 6 (10) 16 [192])] (.slice (some ⟨x3.heap.size, 0, none⟩) 2 2) (x3.alloc (.cells ([.slice Ax1 nx1 cx1, .slice Ax3 nx3 cx3] : List Value).toArray 31)) := FrRow.lit (b := 0) (fr_cons hfx1 (fr_cons hfx3 fr_nil)) (by show 2 ≤ 9223372036854775807; decide)
 refine H.any (w' := x3.alloc (.cells ([.slice Ax1 nx1 cx1, .slice Ax3 nx3 cx3] : List Value).toArray 31)) gz rfl rfl (.slice (some ⟨x3.heap.size, 0, none⟩) 2 2) (by intro cs b h; cases h) (by kernel_rfl) (by kernel_rfl) fun a H => ?_
 have hbx4 : Below x3.heap.size x3 (x3.alloc (.cells ([.slice Ax1 nx1 cx1, .slice Ax3 nx3 cx3] : List Value).toArray 31)) := balloc _ _
 have hrdx4 := Reads.lit x3 31 [.slice Ax1 nx1 cx1, .slice Ax3 nx3 cx3] (0, 0) 1 2 rfl
 generalize x3.alloc (.cells ([.slice Ax1 nx1 cx1, .slice Ax3 nx3 cx3] : List Value).toArray 31) = x4 at *
 replace hfx1 := hfx1.next hbx4
 replace hfx3 := hfx3.next hbx4
 have hbbx4 : Below w.heap.size w x4 := hbbx3.trans (hbx4.mono hbbx3.size)
 refine H.cl (traceStream fsW27 _ 2 5 6 (by decide) (by decide) x4 hrwx4.at_ (by decide) fsW27_len) ?_
 rintro a _ w9 ⟨x, A9, c9, rfl, hh, _, hO9, hb9⟩ H
 obtain ⟨hxb, hov⟩ := anewW hh
 rw [hxb] at hO9 H; rw [hov] at H
 have hbw := hbbx4.trans (hb9.mono hbbx4.size)
 refine H.ms 1 fun a H => ?_
 refine H.ex (r := .slice A9 1 c9) 0 fun a H => ?_
 refine H.ex (r := .bool false) 0 fun a H => ?_
 refine H.ex (r := iz 0) 3 fun a H => nt ?_
 have hr9 : RB w9 w9.heap.size A9 [192] := rb_of_own rfl hO9 hb9.size
 replace H := H.kp [1, 2, 3]
 refine H.rg 1 fun a H => ?_
 refine H.cq 0 (num27 0 w9) fun a H => ?_
 refine H.bn 1 (eql_iB 0 0 true rfl _ _ _) fun a H => ?_
 refine H.go (H.wt rfl rfl rfl) rfl rfl _ (run_move (.inl rfl) (H.ev rfl)) fun a H => ?_
 refine H.un (H.wt rfl rfl rfl) rfl rfl rfl rfl (run_not false _) fun a H => ?_
 refine H.pick gz rfl rfl rfl rfl rfl fun a H => ?_
 refine H.ms 1 fun a H => ?_
 refine H.go (H.wt rfl rfl rfl) rfl rfl _ (run_move (.inl rfl) (H.ev rfl)) fun a H => ?_
 refine H.bytes (H.wt rfl rfl rfl) rfl rfl [192] [.int .u8 192] rfl rfl 5 (by intro cs b h; cases h) (by kernel_rfl) (by kernel_rfl) ?_
 rintro a _ w10 H ⟨A10, c10, rfl, hr10⟩ hb10
 refine H.call (H.wt rfl rfl rfl) rfl rfl rfl rfl (fun _ _ => by kernel_rfl) (belowC (eqBytesN [192] 1 rfl A9 A10 c9 c10 w10 (hr9.next hb10) hr10 (by decide))) ?_
 rintro a _ w11 ⟨rfl, hb11⟩ H
 refine H.pick gz rfl rfl rfl rfl rfl fun a H => ?_
 refine H.ms 1 fun a H => nt (wp_ret ?_)
 repeat (first | (with_reducible refine block_ret ?_) | (with_reducible refine then_ret ?_))
 exact bodyPost_ret (results_tmp rfl _ _ _) H.df ⟨congrArg Ending.returned (H.at_ 0 _ rfl), hbw.trans ((hb10.trans (hb11.mono hb10.size)).mono hbw.size)⟩
end
section
open Go.RowKit
theorem wv_get (l : List (ByteArray × Int)) (k : Nat) (x : ByteArray × Int) (h : l[k]? = some x) : (wv l)[k * 2 + 0]? = some (.string x.1) ∧ (wv l)[k * 2 + 1]? = some (.int .i64 x.2) := by
 induction l generalizing k with
 | nil => simp at h
 | cons y ys ih =>
  cases k with
  | zero => simp at h; subst h; simp [wv]
  | succ k =>
   have := ih k (by simpa using h)
   rw [show (k + 1) * 2 = k * 2 + 1 + 1 by omega]
   simpa [wv, Nat.add_right_comm] using this
theorem drop_of {α : Type} {l : List α} {k : Nat} {x : α} (h : l[k]? = some x) : l.drop k = x :: l.drop (k + 1) := drop_get' l k x h
theorem packCodes (l : List Int) (n : Nat) (hl : l.length = n) (A : Option Addr) (c : Nat) (hn : n ≤ 140737488351232) (w : World) (hr : Reads w w.heap.size 1 A n (l.map iv)) :
  Calls Tryz.prog 155 #[.slice A n c] w fun e w' => e = .returned (.bool (codesOk l)) ∧ w = w' := by
 have HF := Lib.hid (show codesAll (l.drop 0) = codesAll l from rfl)
 have KW := Lib.hid (fun x w1 => packWithin x 0 2 w1)
 have KE := Lib.hid (fun w1 => packWithin (n : Int) 1 8 w1)
 have HO := Lib.hid (show codesOk l = (codesAll l && inRB n 1 8) by unfold codesOk; rw [hl])
 generalize codesOk l = Z at *
 have HL := Lib.hid hl
 clear hl
 go_enter Tryz.func155, Tryz.ntmps155
 go_wp2
 go_loop [7] (fun i => ∃ k : Nat, i = .int .i64 k ∧ k ≤ n ∧ Hid (codesAll (l.drop k) = codesAll l)) (fun i => n - (intOf i).toNat)
 case atStart => exact ⟨0, rfl, Nat.zero_le _, HF⟩
 case round =>
  obtain ⟨k, rfl, hk, hf⟩ := hrel
  by_cases hlt : k < n
  ·obtain ⟨b, o, v, rfl, _, hv, cv⟩ := hr.get1 hlt
   rw [List.getElem?_map] at hv
   obtain ⟨x, hx, rfl⟩ := Option.map_eq_some_iff.1 hv
   have hd := drop_of hx
   have hf2 := hf.out
   rw [hd, codesAll] at hf2
   cases h1 : inRB x 0 2 with
   | true =>
    have K := Lib.hid (fun w1 => h1 ▸ KW.out x w1)
    have HP : Hid (codesAll (l.drop (k + 1)) = codesAll l) := by rw [h1] at hf2; exact hf2
    clear hv hx hd hf2 hf
    go_wp2_with (go_at_call 151; (with_reducible refine (K.out _).mono ?_); rintro _ w2 ⟨rfl, rfl⟩)
    go_round
    case rel => exact ⟨k + 1, by go_num, by omega, HP⟩
    case measure => simp [intOf]; omega
   | false =>
    have K := Lib.hid (fun w1 => h1 ▸ KW.out x w1)
    by_cases h2 : x = 128
    ·subst h2
     have HP : Hid (codesAll (l.drop (k + 1)) = codesAll l) := by rw [h1] at hf2; exact hf2
     clear hv hx hd hf2 hf
     go_wp2_with (go_at_call 151; (with_reducible refine (K.out _).mono ?_); rintro _ w2 ⟨rfl, rfl⟩)
     go_round
     case rel => exact ⟨k + 1, by go_num, by omega, HP⟩
     case measure => simp [intOf]; omega
    ·have h3 : (x == 128) = false := by rw [beq_eq_false_iff_ne]; exact h2
     have HP : Hid (codesAll l = false) := by rw [h1, h3] at hf2; exact hf2.symm
     clear hv hx hd hf2 hf h2
     go_wp2_with (go_at_call 151; (with_reducible refine (K.out _).mono ?_); rintro _ w2 ⟨rfl, rfl⟩)
     go_ret
     exact ⟨by rw [HO.out, HP.out]; rfl, rfl⟩
  ·have HP : Hid (codesAll l = true) := by
    have := hf.out
    rw [List.drop_eq_nil_of_le (by rw [HL.out]; omega)] at this
    exact this.symm
   clear hf
   go_wp2_with (go_at_call 151; (with_reducible refine (KE.out _).mono ?_); rintro _ w2 ⟨rfl, rfl⟩)
   go_ret
   exact ⟨by rw [HO.out, HP.out]; simp, rfl⟩
abbrev Fits (s : ByteArray) : Prop := s.size ≤ 140737488351232
theorem packFilters (l : List ByteArray) (n : Nat) (hl : l.length = n) (hfit : ∀ s ∈ l, Fits s) (A : Option Addr) (c : Nat) (hn : n ≤ 140737488351232) (w : World) (hT : Wd w) (hr : Reads w w.heap.size 1 A n (l.map sv)) :
  Calls Tryz.prog 156 #[.slice A n c] w fun e w' => e = .returned (.bool (filtersOk l)) ∧ Below w.heap.size w w' := by
 have HF := Lib.hid (show filtersAll (l.drop 0) = filtersAll l from rfl)
 have KE := Lib.hid (fun w1 => packWithin (n : Int) 1 8 w1)
 have HO := Lib.hid (show filtersOk l = (filtersAll l && inRB n 1 8) by unfold filtersOk; rw [hl])
 generalize filtersOk l = Z at *
 have HL := Lib.hid hl
 have HFit := Lib.hid hfit
 have HR := Lib.hid hr
 have HT := Lib.hid hT
 clear hl hfit hr hT
 go_enter Tryz.func156, Tryz.ntmps156
 go_wp2
 go_loopw [7] (fun i wr => ∃ k : Nat, i = .int .i64 k ∧ k ≤ n ∧ Below w.heap.size w wr ∧ Hid (filtersAll (l.drop k) = filtersAll l)) (fun i _ => n - (intOf i).toNat)
 case atStart => exact ⟨0, rfl, Nat.zero_le _, Below.refl _ _, HF⟩
 case round =>
  obtain ⟨k, rfl, hk, hb, hf⟩ := hrel
  by_cases hlt : k < n
  ·obtain ⟨b, o, v, rfl, _, hv, cv⟩ := (HR.out.below hb).get1 hlt
   rw [List.getElem?_map] at hv
   obtain ⟨x, hx, rfl⟩ := Option.map_eq_some_iff.1 hv
   have hd := drop_of hx
   have hf2 := hf.out
   rw [hd, filtersAll] at hf2
   have K := Lib.hid (packTextV x (HFit.out x (List.mem_of_getElem? hx)) 1 64 wr (HT.out.below hb))
   have HB := Lib.hid hb
   cases h1 : textOk x 1 64 with
   | true =>
    rw [h1] at K
    have HP : Hid (filtersAll (l.drop (k + 1)) = filtersAll l) := by rw [h1] at hf2; exact hf2
    clear hv hx hd hf2 hf hb h1
    go_wp2_with (go_at_call 165; (with_reducible refine K.out.mono ?_); rintro _ w2 ⟨rfl, hb2⟩; have HB2 := Lib.hid (HB.out.trans (hb2.mono HB.out.size)); clear hb2)
    go_roundw
    case rel => exact ⟨k + 1, by go_num, by omega, HB2.out, HP⟩
    case measure => simp [intOf]; omega
   | false =>
    rw [h1] at K
    have HP : Hid (filtersAll l = false) := by rw [h1] at hf2; exact hf2.symm
    clear hv hx hd hf2 hf hb h1
    go_wp2_with (go_at_call 165; (with_reducible refine K.out.mono ?_); rintro _ w2 ⟨rfl, hb2⟩; have HB2 := Lib.hid (HB.out.trans (hb2.mono HB.out.size)); clear hb2)
    go_ret
    exact ⟨by rw [HO.out, HP.out]; rfl, HB2.out⟩
  ·have HP : Hid (filtersAll l = true) := by
    have := hf.out
    rw [List.drop_eq_nil_of_le (by rw [HL.out]; omega)] at this
    exact this.symm
   clear hf
   go_wp2_with (go_at_call 151; (with_reducible refine (KE.out _).mono ?_); rintro _ w2 ⟨rfl, rfl⟩)
   go_ret
   exact ⟨by rw [HO.out, HP.out]; simp, hb⟩
theorem packWishes (l : List (ByteArray × Int)) (n : Nat) (hl : l.length = n) (hfit : ∀ s ∈ l, Fits s.1) (A : Option Addr) (c : Nat) (hn : n ≤ 140737488351232) (w : World) (hT : Wd w) (hr : Reads w w.heap.size 2 A n (wv l)) :
  Calls Tryz.prog 154 #[.slice A n c] w fun e w' => e = .returned (.bool (wishesOk l)) ∧ Below w.heap.size w w' := by
 have HF := Lib.hid (show wishesAll (l.drop 0) = wishesAll l from rfl)
 have KW := Lib.hid (fun x w1 => packWithin x 0 2 w1)
 have KE := Lib.hid (fun w1 => packWithin (n : Int) 1 8 w1)
 have HO := Lib.hid (show wishesOk l = (wishesAll l && inRB n 1 8) by unfold wishesOk; rw [hl])
 generalize wishesOk l = Z at *
 have HL := Lib.hid hl
 have HFit := Lib.hid hfit
 have HR := Lib.hid hr
 have HT := Lib.hid hT
 clear hl hfit hr hT
 go_enter Tryz.func154, Tryz.ntmps154
 go_wp2
 go_loopw [7] (fun i wr => ∃ k : Nat, i = .int .i64 k ∧ k ≤ n ∧ Below w.heap.size w wr ∧ Hid (wishesAll (l.drop k) = wishesAll l)) (fun i _ => n - (intOf i).toNat)
 case atStart => exact ⟨0, rfl, Nat.zero_le _, Below.refl _ _, HF⟩
 case round =>
  obtain ⟨k, rfl, hk, hb, hf⟩ := hrel
  by_cases hlt : k < n
  ·obtain ⟨b, o, rfl, _, hcv⟩ := (HR.out.below hb).get2 hlt
   obtain ⟨x, hx⟩ : ∃ x, l[k]? = some x := ⟨l[k]'(by rw [HL.out]; omega), List.getElem?_eq_getElem _⟩
   obtain ⟨g0, g1⟩ := wv_get l k x hx
   have cv0 := hcv 0 _ (by omega) g0
   have cv1 := hcv 1 _ (by omega) g1
   rw [Nat.add_zero] at cv0
   have hd := drop_of hx
   have hf2 := hf.out
   rw [hd, wishesAll] at hf2
   have hba := balloc wr (.cells #[.string x.1, .int .i64 x.2] 161)
   have HB := Lib.hid (hb.trans (hba.mono hb.size))
   have K := Lib.hid (packTextV x.1 (HFit.out x (List.mem_of_getElem? hx)) 1 64 _ (HT.out.below HB.out))
   have hlt2 : wr.heap.size < (wr.alloc (.cells #[.string x.1, .int .i64 x.2] 161)).heap.size := lt_alloc _ _
   have K2 := Lib.hid (fun w1 => KW.out x.2 w1)
   cases h1 : textOk x.1 1 64 with
   | true =>
    rw [h1] at K hf2
    cases h2 : inRB x.2 0 2 with
    | true =>
     rw [h2] at K2 hf2
     have HP : Hid (wishesAll (l.drop (k + 1)) = wishesAll l) := hf2
     clear hx hd hf2 hf hb h1 h2 g0 g1 hcv hba
     go_wp2_with (first
      | (go_at_call 165; (with_reducible refine K.out.mono ?_); rintro _ w2 ⟨rfl, hb2⟩; have HB2 := Lib.hid (HB.out.trans (hb2.mono HB.out.size)); have c1 : w2.cell? ⟨wr.heap.size, 1, none⟩ = some (.int .i64 x.2) := (by rw [cellB hb2 hlt2]; simp); clear hb2)
      | (go_at_call 151; (with_reducible refine (K2.out _).mono ?_); rintro _ w3 ⟨rfl, rfl⟩))
     go_roundw
     case rel => exact ⟨k + 1, by go_num, by omega, HB2.out, HP⟩
     case measure => simp [intOf]; omega
    | false =>
     rw [h2] at K2 hf2
     have HP : Hid (wishesAll l = false) := hf2.symm
     clear hx hd hf2 hf hb h1 h2 g0 g1 hcv hba
     go_wp2_with (first
      | (go_at_call 165; (with_reducible refine K.out.mono ?_); rintro _ w2 ⟨rfl, hb2⟩; have HB2 := Lib.hid (HB.out.trans (hb2.mono HB.out.size)); have c1 : w2.cell? ⟨wr.heap.size, 1, none⟩ = some (.int .i64 x.2) := (by rw [cellB hb2 hlt2]; simp); clear hb2)
      | (go_at_call 151; (with_reducible refine (K2.out _).mono ?_); rintro _ w3 ⟨rfl, rfl⟩))
     go_ret
     exact ⟨by rw [HO.out, HP.out]; rfl, HB2.out⟩
   | false =>
    rw [h1] at K hf2
    have HP : Hid (wishesAll l = false) := hf2.symm
    clear hx hd hf2 hf hb h1 g0 g1 hcv hba
    go_wp2_with (go_at_call 165; (with_reducible refine K.out.mono ?_); rintro _ w2 ⟨rfl, hb2⟩; have HB2 := Lib.hid (HB.out.trans (hb2.mono HB.out.size)); clear hb2)
    go_ret
    exact ⟨by rw [HO.out, HP.out]; rfl, HB2.out⟩
  ·have HP : Hid (wishesAll l = true) := by
    have := hf.out
    rw [List.drop_eq_nil_of_le (by rw [HL.out]; omega)] at this
    exact this.symm
   clear hf
   go_wp2_with (go_at_call 151; (with_reducible refine (KE.out _).mono ?_); rintro _ w2 ⟨rfl, rfl⟩)
   go_ret
   exact ⟨by rw [HO.out, HP.out]; simp, hb⟩
end
section
open Go.RowKit
def eqG {α : Type} [DecidableEq α] (xs ys : List α) : Bool := decide (xs = ys)
theorem eqG_same {α : Type} [DecidableEq α] (xs : List α) : eqG xs xs = true := by simp [eqG]
theorem eqG_false {α : Type} [DecidableEq α] {xs ys : List α} (h : xs ≠ ys) : eqG xs ys = false := by simpa [eqG] using h
theorem takeG_all {α : Type} {xs ys : List α} {k : Nat} (hk : k = xs.length) (hl : xs.length = ys.length) (h : xs.take k = ys.take k) : xs = ys := by
 subst hk
 rw [List.take_length] at h
 rw [hl, List.take_length] at h
 exact h
theorem takeG_next {α : Type} {xs ys : List α} {k : Nat} {x y : α} (hx : xs[k]? = some x) (hy : ys[k]? = some y) (h : xs.take k = ys.take k) (e : x = y) : xs.take (k + 1) = ys.take (k + 1) := by
 rw [take_snoc? xs k x hx, take_snoc? ys k y hy, h, e]
theorem neG_of {α : Type} {xs ys : List α} {k : Nat} {x y : α} (hx : xs[k]? = some x) (hy : ys[k]? = some y) (e : x ≠ y) : xs ≠ ys := by
 rintro rfl
 rw [hx] at hy
 exact e (by simpa using hy)
theorem str_ne {u v : ByteArray} (h : ¬ u = v) : (u.toList == v.toList) = false := by
 rw [beq_eq_false_iff_ne, Lib.toList_data, Lib.toList_data]
 intro e
 exact h (ByteArray.ext (Array.toList_inj.1 e))
theorem drewN_below {B : Nat} {w0 w : World} (h : Below B w0 w) (n : Nat) : Below B w0 (w.drewN n) := below_drewN h n
theorem eqInts (xs ys : List (Int)) (A B : Option Addr) (c d : Nat) (w : World) (hx : Reads w w.heap.size 1 A xs.length (xs.map iv)) (hy : Reads w w.heap.size 1 B ys.length (ys.map iv)) (hn : xs.length ≤ 140737488351232) :
  Calls Tryz.prog 102 #[.slice A xs.length c, .slice B ys.length d] w fun e w' => e = .returned (.bool (eqG xs ys)) ∧ Below w.heap.size w w' := by
 by_cases hl : xs.length = ys.length
 ·have hne : (((xs.length : Int)) != ((ys.length : Nat) : Int)) = false := by simp [hl]
  have hl' := Lib.hid hl
  have hlt2 : ∀ k, k < xs.length → k < ys.length := by rw [hl]; exact fun _ h => h
  clear hl
  go_enter Tryz.func102, Tryz.ntmps102
  go_wp2
  go_loopw [5] (fun i wr => ∃ k n : Nat, k ≤ xs.length ∧ i = .int .i64 k ∧ wr = w.drewN n ∧ Hid (xs.take k = ys.take k)) (fun i _ => xs.length - (intOf i).toNat)
  case atStart => exact ⟨0, 0, Nat.zero_le _, rfl, rfl, rfl⟩
  case round =>
   obtain ⟨k, n, hk, rfl, rfl, ht⟩ := hrel
   by_cases hlt : k < xs.length
   ·have hlty := hlt2 k hlt
    obtain ⟨b, o, uu, rfl, _, hu, cu0⟩ := hx.get1 (w := w) hlt
    obtain ⟨b2, o2, vv, rfl, _, hv, cv0⟩ := hy.get1 (w := w) hlty
    rw [List.getElem?_map] at hu hv
    obtain ⟨u, hu2, rfl⟩ := Option.map_eq_some_iff.1 hu
    obtain ⟨v, hv2, rfl⟩ := Option.map_eq_some_iff.1 hv
    clear hu hv
    have hu := hu2
    have hv := hv2
    clear hu2 hv2
    clear hlt2
    have hu' := Lib.hid hu
    have hv' := Lib.hid hv
    have hi : (k : Int) < (xs.length : Int) := by omega
    have hi2 : (k : Int) < (ys.length : Int) := by omega
    clear hu hv
    by_cases he : u = v
    ·have HT : Hid (xs.take (k + 1) = ys.take (k + 1)) := takeG_next hu'.out hv'.out ht.out he
     have hne2 : (u != v) = false := by simp [he]
     go_wp2_with fail
     go_quiet (fail)
     go_wp2
     go_roundw
     case rel => exact ⟨k + 1, _, by omega, by go_num, rfl, HT⟩
     case measure => simp [intOf]; omega
    ·have HT : Hid (eqG xs ys = false) := eqG_false (neG_of hu'.out hv'.out he)
     have hne2 : (u != v) = true := by simpa using he
     go_wp2_with fail
     go_quiet (fail)
     go_wp2
     go_ret
     exact ⟨by rw [HT.out]; rfl, drewN_below (drewN_below (Below.refl _ _) _) _⟩
   ·have HT : Hid (eqG xs ys = true) := by rw [takeG_all (by omega) hl'.out ht.out]; exact eqG_same _
    go_wp2
    go_ret
    exact ⟨by rw [HT.out]; rfl, drewN_below (Below.refl _ _) _⟩
 ·have hne : (((xs.length : Int)) != ((ys.length : Nat) : Int)) = true := by
   simp only [bne_iff_ne, ne_eq, Int.natCast_inj]; exact hl
  have HT : Hid (eqG xs ys = false) := eqG_false (fun h => hl (by rw [h]))
  clear hl
  go_enter Tryz.func102, Tryz.ntmps102
  go_wp2
  go_ret
  exact ⟨by rw [HT.out]; rfl, Below.refl _ _⟩
theorem eqStrs (xs ys : List (ByteArray)) (A B : Option Addr) (c d : Nat) (w : World) (hx : Reads w w.heap.size 1 A xs.length (xs.map sv)) (hy : Reads w w.heap.size 1 B ys.length (ys.map sv)) (hn : xs.length ≤ 140737488351232) :
  Calls Tryz.prog 104 #[.slice A xs.length c, .slice B ys.length d] w fun e w' => e = .returned (.bool (eqG xs ys)) ∧ Below w.heap.size w w' := by
 by_cases hl : xs.length = ys.length
 ·have hne : (((xs.length : Int)) != ((ys.length : Nat) : Int)) = false := by simp [hl]
  have hl' := Lib.hid hl
  have hlt2 : ∀ k, k < xs.length → k < ys.length := by rw [hl]; exact fun _ h => h
  clear hl
  go_enter Tryz.func104, Tryz.ntmps104
  go_wp2
  go_loopw [5] (fun i wr => ∃ k n : Nat, k ≤ xs.length ∧ i = .int .i64 k ∧ wr = w.drewN n ∧ Hid (xs.take k = ys.take k)) (fun i _ => xs.length - (intOf i).toNat)
  case atStart => exact ⟨0, 0, Nat.zero_le _, rfl, rfl, rfl⟩
  case round =>
   obtain ⟨k, n, hk, rfl, rfl, ht⟩ := hrel
   by_cases hlt : k < xs.length
   ·have hlty := hlt2 k hlt
    obtain ⟨b, o, uu, rfl, _, hu, cu0⟩ := hx.get1 (w := w) hlt
    obtain ⟨b2, o2, vv, rfl, _, hv, cv0⟩ := hy.get1 (w := w) hlty
    rw [List.getElem?_map] at hu hv
    obtain ⟨u, hu2, rfl⟩ := Option.map_eq_some_iff.1 hu
    obtain ⟨v, hv2, rfl⟩ := Option.map_eq_some_iff.1 hv
    clear hu hv
    have hu := hu2
    have hv := hv2
    clear hu2 hv2
    clear hlt2
    have hu' := Lib.hid hu
    have hv' := Lib.hid hv
    have hi : (k : Int) < (xs.length : Int) := by omega
    have hi2 : (k : Int) < (ys.length : Int) := by omega
    clear hu hv
    by_cases he : u = v
    ·have HT : Hid (xs.take (k + 1) = ys.take (k + 1)) := takeG_next hu'.out hv'.out ht.out he
     subst he
     go_wp2_with fail
     go_quiet (fail)
     go_wp2
     go_roundw
     case rel => exact ⟨k + 1, _, by omega, by go_num, rfl, HT⟩
     case measure => simp [intOf]; omega
    ·have HT : Hid (eqG xs ys = false) := eqG_false (neG_of hu'.out hv'.out he)
     have hne2 := str_ne he
     go_wp2_with fail
     go_quiet (fail)
     go_wp2
     go_ret
     exact ⟨by rw [HT.out]; rfl, drewN_below (drewN_below (Below.refl _ _) _) _⟩
   ·have HT : Hid (eqG xs ys = true) := by rw [takeG_all (by omega) hl'.out ht.out]; exact eqG_same _
    go_wp2
    go_ret
    exact ⟨by rw [HT.out]; rfl, drewN_below (Below.refl _ _) _⟩
 ·have hne : (((xs.length : Int)) != ((ys.length : Nat) : Int)) = true := by
   simp only [bne_iff_ne, ne_eq, Int.natCast_inj]; exact hl
  have HT : Hid (eqG xs ys = false) := eqG_false (fun h => hl (by rw [h]))
  clear hl
  go_enter Tryz.func104, Tryz.ntmps104
  go_wp2
  go_ret
  exact ⟨by rw [HT.out]; rfl, Below.refl _ _⟩
theorem eqWishes (xs ys : List (ByteArray × Int)) (A B : Option Addr) (c d : Nat) (w : World) (hx : Reads w w.heap.size 2 A xs.length (wv xs)) (hy : Reads w w.heap.size 2 B ys.length (wv ys)) (hn : xs.length ≤ 140737488351232) :
  Calls Tryz.prog 103 #[.slice A xs.length c, .slice B ys.length d] w fun e w' => e = .returned (.bool (eqG xs ys)) ∧ Below w.heap.size w w' := by
 by_cases hl : xs.length = ys.length
 ·have hne : (((xs.length : Int)) != ((ys.length : Nat) : Int)) = false := by simp [hl]
  have hl' := Lib.hid hl
  have hlt2 : ∀ k, k < xs.length → k < ys.length := by rw [hl]; exact fun _ h => h
  clear hl
  go_enter Tryz.func103, Tryz.ntmps103
  go_wp2
  go_loopw [5] (fun i wr => ∃ k n : Nat, k ≤ xs.length ∧ i = .int .i64 k ∧ wr = w.drewN n ∧ Hid (xs.take k = ys.take k)) (fun i _ => xs.length - (intOf i).toNat)
  case atStart => exact ⟨0, 0, Nat.zero_le _, rfl, rfl, rfl⟩
  case round =>
   obtain ⟨k, n, hk, rfl, rfl, ht⟩ := hrel
   by_cases hlt : k < xs.length
   ·have hlty := hlt2 k hlt
    obtain ⟨b, o, rfl, _, hcv⟩ := hx.get2 (w := w) hlt
    obtain ⟨b2, o2, rfl, _, hcv2⟩ := hy.get2 (w := w) hlty
    obtain ⟨u, hu⟩ : ∃ u, xs[k]? = some u := ⟨xs[k]'hlt, List.getElem?_eq_getElem _⟩
    obtain ⟨v, hv⟩ : ∃ v, ys[k]? = some v := ⟨ys[k]'hlty, List.getElem?_eq_getElem _⟩
    obtain ⟨g0, g1⟩ := wv_get xs k u hu
    obtain ⟨p0, p1⟩ := wv_get ys k v hv
    have cu0 := hcv 0 _ (by omega) g0
    have cu1 := hcv 1 _ (by omega) g1
    have cv0 := hcv2 0 _ (by omega) p0
    have cv1 := hcv2 1 _ (by omega) p1
    rw [Nat.add_zero] at cu0 cv0
    clear g0 g1 p0 p1 hcv hcv2
    clear hlt2
    have hu' := Lib.hid hu
    have hv' := Lib.hid hv
    have hi : (k : Int) < (xs.length : Int) := by omega
    have hi2 : (k : Int) < (ys.length : Int) := by omega
    clear hu hv
    by_cases he : u = v
    ·have HT : Hid (xs.take (k + 1) = ys.take (k + 1)) := takeG_next hu'.out hv'.out ht.out he
     subst he
     go_wp2_with fail
     go_quiet (fail)
     go_wp2
     go_roundw
     case rel => exact ⟨k + 1, _, by omega, by go_num, rfl, HT⟩
     case measure => simp [intOf]; omega
    ·have HT : Hid (eqG xs ys = false) := eqG_false (neG_of hu'.out hv'.out he)
     by_cases h1 : u.1 = v.1
     ·have h2 : ¬ u.2 = v.2 := fun h => he (Prod.ext h1 h)
      clear he
      have h3 : (u.2 == v.2) = false := by rw [beq_eq_false_iff_ne]; exact h2
      go_wp2_with fail
      go_quiet (fail)
      go_wp2
      go_ret
      exact ⟨by rw [HT.out]; rfl, drewN_below (drewN_below (Below.refl _ _) _) _⟩
     ·have h3 := str_ne h1
      clear he h1
      go_wp2_with fail
      go_quiet (fail)
      go_wp2
      go_ret
      exact ⟨by rw [HT.out]; rfl, drewN_below (drewN_below (Below.refl _ _) _) _⟩
   ·have HT : Hid (eqG xs ys = true) := by rw [takeG_all (by omega) hl'.out ht.out]; exact eqG_same _
    go_wp2
    go_ret
    exact ⟨by rw [HT.out]; rfl, drewN_below (Below.refl _ _) _⟩
 ·have hne : (((xs.length : Int)) != ((ys.length : Nat) : Int)) = true := by
   simp only [bne_iff_ne, ne_eq, Int.natCast_inj]; exact hl
  have HT : Hid (eqG xs ys = false) := eqG_false (fun h => hl (by rw [h]))
  clear hl
  go_enter Tryz.func103, Tryz.ntmps103
  go_wp2
  go_ret
  exact ⟨by rw [HT.out]; rfl, Below.refl _ _⟩
theorem slInts (xs ys : List (Int)) (A B : Option Addr) (c d : Nat) (w : World) (hx : Reads w w.heap.size 1 A xs.length (xs.map iv)) (hy : Reads w w.heap.size 1 B ys.length (ys.map iv)) (hn : xs.length ≤ 140737488351232) :
  Calls Tryz.prog 157 #[.slice A xs.length c, .slice B ys.length d] w fun e w' => e = .returned (.bool (eqG xs ys)) ∧ Below w.heap.size w w' := by
 by_cases hl : xs.length = ys.length
 ·have hne : (((xs.length : Int)) != ((ys.length : Nat) : Int)) = false := by simp [hl]
  have hl' := Lib.hid hl
  have hlt2 : ∀ k, k < xs.length → k < ys.length := by rw [hl]; exact fun _ h => h
  clear hl
  go_enter Tryz.func157, Tryz.ntmps157
  go_wp2
  go_loopw [13] (fun i wr => ∃ k n : Nat, k ≤ xs.length ∧ i = .int .i64 k ∧ wr = w.drewN n ∧ Hid (xs.take k = ys.take k)) (fun i _ => xs.length - (intOf i).toNat)
  case atStart => exact ⟨0, 0, Nat.zero_le _, rfl, rfl, rfl⟩
  case round =>
   obtain ⟨k, n, hk, rfl, rfl, ht⟩ := hrel
   by_cases hlt : k < xs.length
   ·have hlty := hlt2 k hlt
    obtain ⟨b, o, uu, rfl, _, hu, cu0⟩ := hx.get1 (w := w) hlt
    obtain ⟨b2, o2, vv, rfl, _, hv, cv0⟩ := hy.get1 (w := w) hlty
    rw [List.getElem?_map] at hu hv
    obtain ⟨u, hu2, rfl⟩ := Option.map_eq_some_iff.1 hu
    obtain ⟨v, hv2, rfl⟩ := Option.map_eq_some_iff.1 hv
    clear hu hv
    have hu := hu2
    have hv := hv2
    clear hu2 hv2
    clear hlt2
    have hu' := Lib.hid hu
    have hv' := Lib.hid hv
    have hi : (k : Int) < (xs.length : Int) := by omega
    have hi2 : (k : Int) < (ys.length : Int) := by omega
    clear hu hv
    by_cases he : u = v
    ·have HT : Hid (xs.take (k + 1) = ys.take (k + 1)) := takeG_next hu'.out hv'.out ht.out he
     have hne2 : (u != v) = false := by simp [he]
     go_wp2_with fail
     go_quiet (fail)
     go_wp2
     go_roundw
     case rel => exact ⟨k + 1, _, by omega, by go_num, rfl, HT⟩
     case measure => simp [intOf]; omega
    ·have HT : Hid (eqG xs ys = false) := eqG_false (neG_of hu'.out hv'.out he)
     have hne2 : (u != v) = true := by simpa using he
     go_wp2_with fail
     go_quiet (fail)
     go_wp2
     go_ret
     exact ⟨by rw [HT.out]; rfl, drewN_below (drewN_below (Below.refl _ _) _) _⟩
   ·have HT : Hid (eqG xs ys = true) := by rw [takeG_all (by omega) hl'.out ht.out]; exact eqG_same _
    go_wp2
    go_ret
    exact ⟨by rw [HT.out]; rfl, drewN_below (Below.refl _ _) _⟩
 ·have hne : (((xs.length : Int)) != ((ys.length : Nat) : Int)) = true := by
   simp only [bne_iff_ne, ne_eq, Int.natCast_inj]; exact hl
  have HT : Hid (eqG xs ys = false) := eqG_false (fun h => hl (by rw [h]))
  clear hl
  go_enter Tryz.func157, Tryz.ntmps157
  go_wp2
  go_ret
  exact ⟨by rw [HT.out]; rfl, Below.refl _ _⟩
theorem slStrs (xs ys : List (ByteArray)) (A B : Option Addr) (c d : Nat) (w : World) (hx : Reads w w.heap.size 1 A xs.length (xs.map sv)) (hy : Reads w w.heap.size 1 B ys.length (ys.map sv)) (hn : xs.length ≤ 140737488351232) :
  Calls Tryz.prog 159 #[.slice A xs.length c, .slice B ys.length d] w fun e w' => e = .returned (.bool (eqG xs ys)) ∧ Below w.heap.size w w' := by
 by_cases hl : xs.length = ys.length
 ·have hne : (((xs.length : Int)) != ((ys.length : Nat) : Int)) = false := by simp [hl]
  have hl' := Lib.hid hl
  have hlt2 : ∀ k, k < xs.length → k < ys.length := by rw [hl]; exact fun _ h => h
  clear hl
  go_enter Tryz.func159, Tryz.ntmps159
  go_wp2
  go_loopw [13] (fun i wr => ∃ k n : Nat, k ≤ xs.length ∧ i = .int .i64 k ∧ wr = w.drewN n ∧ Hid (xs.take k = ys.take k)) (fun i _ => xs.length - (intOf i).toNat)
  case atStart => exact ⟨0, 0, Nat.zero_le _, rfl, rfl, rfl⟩
  case round =>
   obtain ⟨k, n, hk, rfl, rfl, ht⟩ := hrel
   by_cases hlt : k < xs.length
   ·have hlty := hlt2 k hlt
    obtain ⟨b, o, uu, rfl, _, hu, cu0⟩ := hx.get1 (w := w) hlt
    obtain ⟨b2, o2, vv, rfl, _, hv, cv0⟩ := hy.get1 (w := w) hlty
    rw [List.getElem?_map] at hu hv
    obtain ⟨u, hu2, rfl⟩ := Option.map_eq_some_iff.1 hu
    obtain ⟨v, hv2, rfl⟩ := Option.map_eq_some_iff.1 hv
    clear hu hv
    have hu := hu2
    have hv := hv2
    clear hu2 hv2
    clear hlt2
    have hu' := Lib.hid hu
    have hv' := Lib.hid hv
    have hi : (k : Int) < (xs.length : Int) := by omega
    have hi2 : (k : Int) < (ys.length : Int) := by omega
    clear hu hv
    by_cases he : u = v
    ·have HT : Hid (xs.take (k + 1) = ys.take (k + 1)) := takeG_next hu'.out hv'.out ht.out he
     subst he
     go_wp2_with fail
     go_quiet (fail)
     go_wp2
     go_roundw
     case rel => exact ⟨k + 1, _, by omega, by go_num, rfl, HT⟩
     case measure => simp [intOf]; omega
    ·have HT : Hid (eqG xs ys = false) := eqG_false (neG_of hu'.out hv'.out he)
     have hne2 := str_ne he
     go_wp2_with fail
     go_quiet (fail)
     go_wp2
     go_ret
     exact ⟨by rw [HT.out]; rfl, drewN_below (drewN_below (Below.refl _ _) _) _⟩
   ·have HT : Hid (eqG xs ys = true) := by rw [takeG_all (by omega) hl'.out ht.out]; exact eqG_same _
    go_wp2
    go_ret
    exact ⟨by rw [HT.out]; rfl, drewN_below (Below.refl _ _) _⟩
 ·have hne : (((xs.length : Int)) != ((ys.length : Nat) : Int)) = true := by
   simp only [bne_iff_ne, ne_eq, Int.natCast_inj]; exact hl
  have HT : Hid (eqG xs ys = false) := eqG_false (fun h => hl (by rw [h]))
  clear hl
  go_enter Tryz.func159, Tryz.ntmps159
  go_wp2
  go_ret
  exact ⟨by rw [HT.out]; rfl, Below.refl _ _⟩
theorem slWishes (xs ys : List (ByteArray × Int)) (A B : Option Addr) (c d : Nat) (w : World) (hx : Reads w w.heap.size 2 A xs.length (wv xs)) (hy : Reads w w.heap.size 2 B ys.length (wv ys)) (hn : xs.length ≤ 140737488351232) :
  Calls Tryz.prog 158 #[.slice A xs.length c, .slice B ys.length d] w fun e w' => e = .returned (.bool (eqG xs ys)) ∧ Below w.heap.size w w' := by
 by_cases hl : xs.length = ys.length
 ·have hne : (((xs.length : Int)) != ((ys.length : Nat) : Int)) = false := by simp [hl]
  have hl' := Lib.hid hl
  have hlt2 : ∀ k, k < xs.length → k < ys.length := by rw [hl]; exact fun _ h => h
  clear hl
  go_enter Tryz.func158, Tryz.ntmps158
  go_wp2
  go_loopw [13] (fun i wr => ∃ k n : Nat, k ≤ xs.length ∧ i = .int .i64 k ∧ wr = w.drewN n ∧ Hid (xs.take k = ys.take k)) (fun i _ => xs.length - (intOf i).toNat)
  case atStart => exact ⟨0, 0, Nat.zero_le _, rfl, rfl, rfl⟩
  case round =>
   obtain ⟨k, n, hk, rfl, rfl, ht⟩ := hrel
   by_cases hlt : k < xs.length
   ·have hlty := hlt2 k hlt
    obtain ⟨b, o, rfl, _, hcv⟩ := hx.get2 (w := w) hlt
    obtain ⟨b2, o2, rfl, _, hcv2⟩ := hy.get2 (w := w) hlty
    obtain ⟨u, hu⟩ : ∃ u, xs[k]? = some u := ⟨xs[k]'hlt, List.getElem?_eq_getElem _⟩
    obtain ⟨v, hv⟩ : ∃ v, ys[k]? = some v := ⟨ys[k]'hlty, List.getElem?_eq_getElem _⟩
    obtain ⟨g0, g1⟩ := wv_get xs k u hu
    obtain ⟨p0, p1⟩ := wv_get ys k v hv
    have cu0 := hcv 0 _ (by omega) g0
    have cu1 := hcv 1 _ (by omega) g1
    have cv0 := hcv2 0 _ (by omega) p0
    have cv1 := hcv2 1 _ (by omega) p1
    rw [Nat.add_zero] at cu0 cv0
    clear g0 g1 p0 p1 hcv hcv2
    clear hlt2
    have hu' := Lib.hid hu
    have hv' := Lib.hid hv
    have hi : (k : Int) < (xs.length : Int) := by omega
    have hi2 : (k : Int) < (ys.length : Int) := by omega
    clear hu hv
    by_cases he : u = v
    ·have HT : Hid (xs.take (k + 1) = ys.take (k + 1)) := takeG_next hu'.out hv'.out ht.out he
     subst he
     go_wp2_with fail
     go_quiet (fail)
     go_wp2
     go_roundw
     case rel => exact ⟨k + 1, _, by omega, by go_num, rfl, HT⟩
     case measure => simp [intOf]; omega
    ·have HT : Hid (eqG xs ys = false) := eqG_false (neG_of hu'.out hv'.out he)
     by_cases h1 : u.1 = v.1
     ·have h2 : ¬ u.2 = v.2 := fun h => he (Prod.ext h1 h)
      clear he
      have h3 : (u.2 == v.2) = false := by rw [beq_eq_false_iff_ne]; exact h2
      go_wp2_with fail
      go_quiet (fail)
      go_wp2
      go_ret
      exact ⟨by rw [HT.out]; rfl, drewN_below (drewN_below (Below.refl _ _) _) _⟩
     ·have h3 := str_ne h1
      clear he h1
      go_wp2_with fail
      go_quiet (fail)
      go_wp2
      go_ret
      exact ⟨by rw [HT.out]; rfl, drewN_below (drewN_below (Below.refl _ _) _) _⟩
   ·have HT : Hid (eqG xs ys = true) := by rw [takeG_all (by omega) hl'.out ht.out]; exact eqG_same _
    go_wp2
    go_ret
    exact ⟨by rw [HT.out]; rfl, drewN_below (Below.refl _ _) _⟩
 ·have hne : (((xs.length : Int)) != ((ys.length : Nat) : Int)) = true := by
   simp only [bne_iff_ne, ne_eq, Int.natCast_inj]; exact hl
  have HT : Hid (eqG xs ys = false) := eqG_false (fun h => hl (by rw [h]))
  clear hl
  go_enter Tryz.func158, Tryz.ntmps158
  go_wp2
  go_ret
  exact ⟨by rw [HT.out]; rfl, Below.refl _ _⟩
end
section
open Go.RowKit
structure Fr (a : Act) (n ga gb k : Nat) (c : Bool) : Prop where
 sz : a.tmps.size = n
 df : a.defers = []
 t2 : a.eval (.tmp 2) = pz ga
 t3 : a.eval (.tmp 3) = pz gb
 tk : a.eval (.tmp k) = .bool c
theorem Fr.put {a : Act} {n ga gb k : Nat} {c : Bool} (h : Fr a n ga gb k c) (d : Nat) (hd : 3 < d) (hk : d ≠ k) (v : Value) : Fr (a.put (some d) v) n ga gb k c :=
 ⟨by rw [Act.size_put, h.sz], by rw [Act.defers_put', h.df], by rw [Act.eval_put_ne _ _ _ _ (by omega), h.t2], by rw [Act.eval_put_ne _ _ _ _ (by omega), h.t3], by rw [Act.eval_put_ne _ _ _ _ hk, h.tk]⟩
theorem Fr.res {a : Act} {n ga gb k : Nat} {c : Bool} (h : Fr a n ga gb k c) (d : Nat) (hd : 3 < d) (hn : d < n) (b : Bool) : Fr (a.put (some d) (.bool b)) n ga gb d b :=
 ⟨by rw [Act.size_put, h.sz], by rw [Act.defers_put', h.df], by rw [Act.eval_put_ne _ _ _ _ (by omega), h.t2], by rw [Act.eval_put_ne _ _ _ _ (by omega), h.t3], Act.eval_put_same _ _ _ (by rw [h.sz]; exact hn)⟩
section
variable {P : Program} {ops : Array Oper} {rest : List Oper} {a : Act} {w : World} {Q : Exit → Act → World → Prop} {n ga gb k j d0 d1 d2 d3 d4 d5 d6 S T T' f off : Nat} {c e : Bool} {va vb : Value}
 {y0 y1 y2 y3 y4 y5 y6 : TypeId} {p0 p1 p2 p3 p4 p5 p6 : String} {f0 f1 f2 f3 f4 f5 f6 : Array Edge}
theorem wpList_link (hF : Fr a n ga gb k c) (hk : 3 < k) (hd0 : d0 = k + 1) (hd1 : d1 = k + 2) (hd2 : d2 = k + 3) (hd3 : d3 = k + 4) (hd4 : d4 = k + 5) (hd5 : d5 = k + 6) (hd6 : d6 = k + 7) (hn : k + 7 < n)
  (hj : (ops[j]?).bind (·.dst) = some d0)
  (hf : ∀ g w, (Instr.fieldAt S (pz g) f).run P w = .ok (.pointer (some ⟨g, off, none⟩)) w)
  (ha : (Instr.loadAt T (.pointer (some ⟨ga, off, none⟩))).run P w = .ok va w) (hb : (Instr.loadAt T (.pointer (some ⟨gb, off, none⟩))).run P w = .ok vb w)
  (hq : (do eqGuard .eql T (.tmp d2) (.tmp d4) va vb; binOp .eql T va vb : Sem Value).run P w = .ok (.bool e) w)
  (h : ∀ a', Fr a' n ga gb d6 (c && e) → wpList P ops Q rest a' w) :
  wpList P ops Q (⟨some d0, .move (.tmp k), y0, p0, f0, none⟩ :: ⟨some d1, .fieldAddr S (.tmp 2) f, y1, p1, f1, some (j, true)⟩ :: ⟨some d2, .load T (.tmp d1), y2, p2, f2, some (j, true)⟩ ::
   ⟨some d3, .fieldAddr S (.tmp 3) f, y3, p3, f3, some (j, true)⟩ :: ⟨some d4, .load T (.tmp d3), y4, p4, f4, some (j, true)⟩ ::
   ⟨some d5, .binOp .eql T (.tmp d2) (.tmp d4) T', y5, p5, f5, some (j, true)⟩ :: ⟨some d6, .pick (.tmp d0) (.tmp d5) (.const (.bool false)), y6, p6, f6, none⟩ :: rest) a w := by
 have run1 : ∀ (v : Value), (pure (.value v) : Sem Next).run P w = .ok (.value v) w := fun v => rfl
 refine wpList_go (wanted_none rfl _) d0 rfl (.bool c) w (by rw [← hF.tk]; rfl) ?_
 have F0 := hF.res d0 (by omega) (by omega) c
 generalize a.put (some d0) (.bool c) = a0 at F0
 have pick : ∀ (a5 : Act) (ee : Bool), Fr a5 n ga gb d0 c → a5.eval (.tmp d5) = .bool ee ∨ (c = false) → (c = true → ee = e) →
   wpList P ops Q (⟨some d6, .pick (.tmp d0) (.tmp d5) (.const (.bool false)), y6, p6, f6, none⟩ :: rest) a5 w := by
  intro a5 ee F5 h5 hee
  refine wpList_go (wanted_none rfl _) d6 rfl (.bool (c && e)) w ?_ (h _ (F5.res d6 (by omega) (by omega) (c && e)))
  unfold execOp
  simp only [F5.tk]
  cases c with
  | false => rfl
  | true =>
   rcases h5 with h5 | h5
   ·rw [h5, hee rfl]
    rfl
   ·cases h5
 cases c with
 | false =>
  have wf : ∀ (aa : Act) (o : Oper), o.guard = some (j, true) → Fr aa n ga gb d0 false → Region.wanted o (yielded ops aa.tmps) = false := fun aa o ho hFF => wanted_of ho (yielded_of hj hFF.tk)
  have F1 := F0.put d1 (by omega) (by omega) undef
  have F2 := F1.put d2 (by omega) (by omega) undef
  have F3 := F2.put d3 (by omega) (by omega) undef
  have F4 := F3.put d4 (by omega) (by omega) undef
  have F5 := F4.put d5 (by omega) (by omega) undef
  refine wpList_off (wf _ _ rfl F0) d1 rfl (wpList_off (wf _ _ rfl F1) d2 rfl (wpList_off (wf _ _ rfl F2) d3 rfl (wpList_off (wf _ _ rfl F3) d4 rfl (wpList_off (wf _ _ rfl F4) d5 rfl ?_))))
  exact pick _ e F5 (.inr rfl) (fun h => rfl)
 | true =>
  have wt : ∀ (aa : Act) (o : Oper), o.guard = some (j, true) → Fr aa n ga gb d0 true → Region.wanted o (yielded ops aa.tmps) = true := fun aa o ho hFF => wanted_of ho (yielded_of hj hFF.tk)
  have F1 := F0.put d1 (by omega) (by omega) (.pointer (some ⟨ga, off, none⟩))
  have e1 : (a0.put (some d1) (.pointer (some ⟨ga, off, none⟩))).eval (.tmp d1) = _ := Act.eval_put_same _ _ _ (by rw [F0.sz]; omega)
  refine wpList_go (wt _ _ rfl F0) d1 rfl (.pointer (some ⟨ga, off, none⟩)) w ?_ ?_
  ·unfold execOp
   simp only [F0.t2, Sem.run_bind, hf, Result.andThen_ok, Sem.run_pure]
  generalize a0.put (some d1) (.pointer (some ⟨ga, off, none⟩)) = a1 at F1 e1
  have F2 := F1.put d2 (by omega) (by omega) va
  have e2 : (a1.put (some d2) va).eval (.tmp d2) = _ := Act.eval_put_same _ _ _ (by rw [F1.sz]; omega)
  refine wpList_go (wt _ _ rfl F1) d2 rfl va w ?_ ?_
  ·unfold execOp
   simp only [e1, Sem.run_bind, ha, Result.andThen_ok, Sem.run_pure]
  generalize a1.put (some d2) va = a2 at F2 e2
  have F3 := F2.put d3 (by omega) (by omega) (.pointer (some ⟨gb, off, none⟩))
  have e3 : (a2.put (some d3) (.pointer (some ⟨gb, off, none⟩))).eval (.tmp d3) = _ := Act.eval_put_same _ _ _ (by rw [F2.sz]; omega)
  have e32 : (a2.put (some d3) (.pointer (some ⟨gb, off, none⟩))).eval (.tmp d2) = va := by rw [Act.eval_put_ne _ _ _ _ (by omega), e2]
  refine wpList_go (wt _ _ rfl F2) d3 rfl (.pointer (some ⟨gb, off, none⟩)) w ?_ ?_
  ·unfold execOp
   simp only [F2.t3, Sem.run_bind, hf, Result.andThen_ok, Sem.run_pure]
  generalize a2.put (some d3) (.pointer (some ⟨gb, off, none⟩)) = a3 at F3 e3 e32
  have F4 := F3.put d4 (by omega) (by omega) vb
  have e4 : (a3.put (some d4) vb).eval (.tmp d4) = _ := Act.eval_put_same _ _ _ (by rw [F3.sz]; omega)
  have e42 : (a3.put (some d4) vb).eval (.tmp d2) = va := by rw [Act.eval_put_ne _ _ _ _ (by omega), e32]
  refine wpList_go (wt _ _ rfl F3) d4 rfl vb w ?_ ?_
  ·unfold execOp
   simp only [e3, Sem.run_bind, hb, Result.andThen_ok, Sem.run_pure]
  generalize a3.put (some d4) vb = a4 at F4 e4 e42
  have F5 := F4.put d5 (by omega) (by omega) (.bool e)
  refine wpList_go (wt _ _ rfl F4) d5 rfl (.bool e) w ?_ ?_
  ·unfold execOp
   rw [Sem.run_bind] at hq
   simp only [e42, e4, Sem.run_bind, hq, Result.andThen_ok, Sem.run_pure]
  exact pick _ e F5 (.inl (Act.eval_put_same _ _ _ (by rw [F4.sz]; omega))) (fun _ => rfl)
theorem wpList_linkC {fn : FuncId} {ats : Array TypeId} (hF : Fr a n ga gb k c) (hk : 3 < k) (hd0 : d0 = k + 1) (hd1 : d1 = k + 2) (hd2 : d2 = k + 3) (hd3 : d3 = k + 4) (hd4 : d4 = k + 5) (hd5 : d5 = k + 6) (hd6 : d6 = k + 7) (hn : k + 7 < n)
  (hj : (ops[j]?).bind (·.dst) = some d0)
  (hf : ∀ g w, (Instr.fieldAt S (pz g) f).run P w = .ok (.pointer (some ⟨g, off, none⟩)) w)
  (ha : (Instr.loadAt T (.pointer (some ⟨ga, off, none⟩))).run P w = .ok va w) (hb : (Instr.loadAt T (.pointer (some ⟨gb, off, none⟩))).run P w = .ok vb w)
  (hen : ∀ (args : Array Value) (w : World), (callFunc fn args).run P w = .ok (.enter fn args) w)
  (hq : Calls P fn #[va, vb] w fun r w' => r = .returned (.bool e) ∧ Below w.heap.size w w')
  (h : ∀ a' w', Fr a' n ga gb d6 (c && e) → Below w.heap.size w w' → wpList P ops Q rest a' w') :
  wpList P ops Q (⟨some d0, .move (.tmp k), y0, p0, f0, none⟩ :: ⟨some d1, .fieldAddr S (.tmp 2) f, y1, p1, f1, some (j, true)⟩ :: ⟨some d2, .load T (.tmp d1), y2, p2, f2, some (j, true)⟩ ::
   ⟨some d3, .fieldAddr S (.tmp 3) f, y3, p3, f3, some (j, true)⟩ :: ⟨some d4, .load T (.tmp d3), y4, p4, f4, some (j, true)⟩ ::
   ⟨some d5, .call { callee := .value (.func fn), args := #[.tmp d2, .tmp d4], argTypes := ats }, y5, p5, f5, some (j, true)⟩ :: ⟨some d6, .pick (.tmp d0) (.tmp d5) (.const (.bool false)), y6, p6, f6, none⟩ :: rest) a w := by
 have hw0 : Below w.heap.size w w := Below.refl _ _
 obtain ⟨w0, hw0e⟩ : ∃ w0 : World, w0 = w := ⟨_, rfl⟩
 rw [← hw0e] at hq h hw0
 refine wpList_go (wanted_none rfl _) d0 rfl (.bool c) w (by rw [← hF.tk]; rfl) ?_
 have F0 := hF.res d0 (by omega) (by omega) c
 generalize a.put (some d0) (.bool c) = a0 at F0
 have pick : ∀ (a5 : Act) (w : World) (ee : Bool) (hB : Below w0.heap.size w0 w), Fr a5 n ga gb d0 c → a5.eval (.tmp d5) = .bool ee ∨ (c = false) → (c = true → ee = e) →
   wpList P ops Q (⟨some d6, .pick (.tmp d0) (.tmp d5) (.const (.bool false)), y6, p6, f6, none⟩ :: rest) a5 w := by
  intro a5 w ee hB F5 h5 hee
  refine wpList_go (wanted_none rfl _) d6 rfl (.bool (c && e)) w ?_ (h _ _ (F5.res d6 (by omega) (by omega) (c && e)) hB)
  unfold execOp
  simp only [F5.tk]
  cases c with
  | false => rfl
  | true =>
   rcases h5 with h5 | h5
   ·rw [h5, hee rfl]
    rfl
   ·cases h5
 cases c with
 | false =>
  have wf : ∀ (aa : Act) (o : Oper), o.guard = some (j, true) → Fr aa n ga gb d0 false → Region.wanted o (yielded ops aa.tmps) = false := fun aa o ho hFF => wanted_of ho (yielded_of hj hFF.tk)
  have F1 := F0.put d1 (by omega) (by omega) undef
  have F2 := F1.put d2 (by omega) (by omega) undef
  have F3 := F2.put d3 (by omega) (by omega) undef
  have F4 := F3.put d4 (by omega) (by omega) undef
  have F5 := F4.put d5 (by omega) (by omega) undef
  refine wpList_off (wf _ _ rfl F0) d1 rfl (wpList_off (wf _ _ rfl F1) d2 rfl (wpList_off (wf _ _ rfl F2) d3 rfl (wpList_off (wf _ _ rfl F3) d4 rfl (wpList_off (wf _ _ rfl F4) d5 rfl ?_))))
  exact pick _ w e (by rw [← hw0e]; exact hw0) F5 (.inr rfl) (fun h => rfl)
 | true =>
  have wt : ∀ (aa : Act) (o : Oper), o.guard = some (j, true) → Fr aa n ga gb d0 true → Region.wanted o (yielded ops aa.tmps) = true := fun aa o ho hFF => wanted_of ho (yielded_of hj hFF.tk)
  have F1 := F0.put d1 (by omega) (by omega) (.pointer (some ⟨ga, off, none⟩))
  have e1 : (a0.put (some d1) (.pointer (some ⟨ga, off, none⟩))).eval (.tmp d1) = _ := Act.eval_put_same _ _ _ (by rw [F0.sz]; omega)
  refine wpList_go (wt _ _ rfl F0) d1 rfl (.pointer (some ⟨ga, off, none⟩)) w ?_ ?_
  ·unfold execOp
   simp only [F0.t2, Sem.run_bind, hf, Result.andThen_ok, Sem.run_pure]
  generalize a0.put (some d1) (.pointer (some ⟨ga, off, none⟩)) = a1 at F1 e1
  have F2 := F1.put d2 (by omega) (by omega) va
  have e2 : (a1.put (some d2) va).eval (.tmp d2) = _ := Act.eval_put_same _ _ _ (by rw [F1.sz]; omega)
  refine wpList_go (wt _ _ rfl F1) d2 rfl va w ?_ ?_
  ·unfold execOp
   simp only [e1, Sem.run_bind, ha, Result.andThen_ok, Sem.run_pure]
  generalize a1.put (some d2) va = a2 at F2 e2
  have F3 := F2.put d3 (by omega) (by omega) (.pointer (some ⟨gb, off, none⟩))
  have e3 : (a2.put (some d3) (.pointer (some ⟨gb, off, none⟩))).eval (.tmp d3) = _ := Act.eval_put_same _ _ _ (by rw [F2.sz]; omega)
  have e32 : (a2.put (some d3) (.pointer (some ⟨gb, off, none⟩))).eval (.tmp d2) = va := by rw [Act.eval_put_ne _ _ _ _ (by omega), e2]
  refine wpList_go (wt _ _ rfl F2) d3 rfl (.pointer (some ⟨gb, off, none⟩)) w ?_ ?_
  ·unfold execOp
   simp only [F2.t3, Sem.run_bind, hf, Result.andThen_ok, Sem.run_pure]
  generalize a2.put (some d3) (.pointer (some ⟨gb, off, none⟩)) = a3 at F3 e3 e32
  have F4 := F3.put d4 (by omega) (by omega) vb
  have e4 : (a3.put (some d4) vb).eval (.tmp d4) = _ := Act.eval_put_same _ _ _ (by rw [F3.sz]; omega)
  have e42 : (a3.put (some d4) vb).eval (.tmp d2) = va := by rw [Act.eval_put_ne _ _ _ _ (by omega), e32]
  refine wpList_go (wt _ _ rfl F3) d4 rfl vb w ?_ ?_
  ·unfold execOp
   simp only [e3, Sem.run_bind, hb, Result.andThen_ok, Sem.run_pure]
  generalize a3.put (some d4) vb = a4 at F4 e4 e42
  have F5 := F4.put d5 (by omega) (by omega) (.bool e)
  refine wpList_enter (wt _ _ rfl F4) d5 rfl fn #[va, vb] ?_ (fun v w' => v = .bool e ∧ Below w0.heap.size w0 w') (by rw [← hw0e]; exact hq.mono fun _ _ h => ⟨_, h.1, rfl, h.2⟩) ?_
  ·rw [execOp_call_go, hen]
   simp [e42, e4]
  rintro v w' ⟨rfl, hB⟩
  exact pick _ w' e hB F5 (.inl (Act.eval_put_same _ _ _ (by rw [F4.sz]; omega))) (fun _ => rfl)
theorem wpList_link0 (hsz : a.tmps.size = n) (hdf : a.defers = []) (ht2 : a.eval (.tmp 2) = pz ga) (ht3 : a.eval (.tmp 3) = pz gb)
  (hk : 3 < d1) (hd2 : d2 = d1 + 1) (hd3 : d3 = d1 + 2) (hd4 : d4 = d1 + 3) (hd5 : d5 = d1 + 4) (hn : d1 + 4 < n)
  (hf : ∀ g w, (Instr.fieldAt S (pz g) f).run P w = .ok (.pointer (some ⟨g, off, none⟩)) w)
  (ha : (Instr.loadAt T (.pointer (some ⟨ga, off, none⟩))).run P w = .ok va w) (hb : (Instr.loadAt T (.pointer (some ⟨gb, off, none⟩))).run P w = .ok vb w)
  (hq : (do eqGuard .eql T (.tmp d2) (.tmp d4) va vb; binOp .eql T va vb : Sem Value).run P w = .ok (.bool e) w)
  (h : ∀ a', Fr a' n ga gb d5 e → wpList P ops Q rest a' w) :
  wpList P ops Q (⟨some d1, .fieldAddr S (.tmp 2) f, y1, p1, f1, none⟩ :: ⟨some d2, .load T (.tmp d1), y2, p2, f2, none⟩ ::
   ⟨some d3, .fieldAddr S (.tmp 3) f, y3, p3, f3, none⟩ :: ⟨some d4, .load T (.tmp d3), y4, p4, f4, none⟩ ::
   ⟨some d5, .binOp .eql T (.tmp d2) (.tmp d4) T', y5, p5, f5, none⟩ :: rest) a w := by
 obtain ⟨aa, haa⟩ : ∃ aa : Act, aa = a.put (some d1) (.bool true) := ⟨_, rfl⟩
 have FF : Fr aa n ga gb d1 true := by
  rw [haa]
  exact ⟨by rw [Act.size_put, hsz], by rw [Act.defers_put', hdf], by rw [Act.eval_put_ne _ _ _ _ (by omega), ht2], by rw [Act.eval_put_ne _ _ _ _ (by omega), ht3], Act.eval_put_same _ _ _ (by rw [hsz]; omega)⟩
 have z1 : (a.put (some d1) (.pointer (some ⟨ga, off, none⟩))).tmps.size = n := by rw [Act.size_put, hsz]
 have g1 : (a.put (some d1) (.pointer (some ⟨ga, off, none⟩))).defers = [] := by rw [Act.defers_put', hdf]
 have u1 : (a.put (some d1) (.pointer (some ⟨ga, off, none⟩))).eval (.tmp 2) = _ := (Act.eval_put_ne _ _ _ _ (by omega)).trans ht2
 have v1 : (a.put (some d1) (.pointer (some ⟨ga, off, none⟩))).eval (.tmp 3) = _ := (Act.eval_put_ne _ _ _ _ (by omega)).trans ht3
 have e1 : (a.put (some d1) (.pointer (some ⟨ga, off, none⟩))).eval (.tmp d1) = _ := Act.eval_put_same _ _ _ (by rw [hsz]; omega)
 refine wpList_go (wanted_none rfl _) d1 rfl (.pointer (some ⟨ga, off, none⟩)) w ?_ ?_
 ·unfold execOp
  simp only [ht2, Sem.run_bind, hf, Result.andThen_ok, Sem.run_pure]
 generalize a.put (some d1) (.pointer (some ⟨ga, off, none⟩)) = a1 at *
 have z2 : (a1.put (some d2) va).tmps.size = n := by rw [Act.size_put, z1]
 have g2 : (a1.put (some d2) va).defers = [] := by rw [Act.defers_put', g1]
 have u2 : (a1.put (some d2) va).eval (.tmp 2) = _ := (Act.eval_put_ne _ _ _ _ (by omega)).trans u1
 have v2 : (a1.put (some d2) va).eval (.tmp 3) = _ := (Act.eval_put_ne _ _ _ _ (by omega)).trans v1
 have e2 : (a1.put (some d2) va).eval (.tmp d2) = _ := Act.eval_put_same _ _ _ (by rw [z1]; omega)
 refine wpList_go (wanted_none rfl _) d2 rfl va w ?_ ?_
 ·unfold execOp
  simp only [e1, Sem.run_bind, ha, Result.andThen_ok, Sem.run_pure]
 generalize a1.put (some d2) va = a2 at *
 have z3 : (a2.put (some d3) (.pointer (some ⟨gb, off, none⟩))).tmps.size = n := by rw [Act.size_put, z2]
 have g3 : (a2.put (some d3) (.pointer (some ⟨gb, off, none⟩))).defers = [] := by rw [Act.defers_put', g2]
 have u3 : (a2.put (some d3) (.pointer (some ⟨gb, off, none⟩))).eval (.tmp 2) = _ := (Act.eval_put_ne _ _ _ _ (by omega)).trans u2
 have v3 : (a2.put (some d3) (.pointer (some ⟨gb, off, none⟩))).eval (.tmp 3) = _ := (Act.eval_put_ne _ _ _ _ (by omega)).trans v2
 have e3 : (a2.put (some d3) (.pointer (some ⟨gb, off, none⟩))).eval (.tmp d3) = _ := Act.eval_put_same _ _ _ (by rw [z2]; omega)
 have e32 : (a2.put (some d3) (.pointer (some ⟨gb, off, none⟩))).eval (.tmp d2) = va := (Act.eval_put_ne _ _ _ _ (by omega)).trans e2
 refine wpList_go (wanted_none rfl _) d3 rfl (.pointer (some ⟨gb, off, none⟩)) w ?_ ?_
 ·unfold execOp
  simp only [v2, Sem.run_bind, hf, Result.andThen_ok, Sem.run_pure]
 generalize a2.put (some d3) (.pointer (some ⟨gb, off, none⟩)) = a3 at *
 have z4 : (a3.put (some d4) vb).tmps.size = n := by rw [Act.size_put, z3]
 have g4 : (a3.put (some d4) vb).defers = [] := by rw [Act.defers_put', g3]
 have u4 : (a3.put (some d4) vb).eval (.tmp 2) = _ := (Act.eval_put_ne _ _ _ _ (by omega)).trans u3
 have v4 : (a3.put (some d4) vb).eval (.tmp 3) = _ := (Act.eval_put_ne _ _ _ _ (by omega)).trans v3
 have e4 : (a3.put (some d4) vb).eval (.tmp d4) = _ := Act.eval_put_same _ _ _ (by rw [z3]; omega)
 have e42 : (a3.put (some d4) vb).eval (.tmp d2) = va := (Act.eval_put_ne _ _ _ _ (by omega)).trans e32
 refine wpList_go (wanted_none rfl _) d4 rfl vb w ?_ ?_
 ·unfold execOp
  simp only [e3, Sem.run_bind, hb, Result.andThen_ok, Sem.run_pure]
 generalize a3.put (some d4) vb = a4 at *
 refine wpList_go (wanted_none rfl _) d5 rfl (.bool e) w ?_ ?_
 ·unfold execOp
  rw [Sem.run_bind] at hq
  simp only [e42, e4, Sem.run_bind, hq, Result.andThen_ok, Sem.run_pure]
 refine h _ ⟨by rw [Act.size_put, z4], by rw [Act.defers_put', g4], (Act.eval_put_ne _ _ _ _ (by omega)).trans u4, (Act.eval_put_ne _ _ _ _ (by omega)).trans v4, Act.eval_put_same _ _ _ (by rw [z4]; omega)⟩
end
end
section
open Go.RowKit
theorem field_0 (g : Nat) (w : World) : (Instr.fieldAt 49 (pz g) 0).run Tryz.prog w = .ok (pz g) w := by kernel_rfl
theorem field_1 (g : Nat) (w : World) : (Instr.fieldAt 49 (pz g) 1).run Tryz.prog w = .ok (.pointer (some ⟨g, 1, none⟩)) w := by kernel_rfl
theorem field_2 (g : Nat) (w : World) : (Instr.fieldAt 49 (pz g) 2).run Tryz.prog w = .ok (.pointer (some ⟨g, 2, none⟩)) w := by kernel_rfl
theorem field_3 (g : Nat) (w : World) : (Instr.fieldAt 49 (pz g) 3).run Tryz.prog w = .ok (.pointer (some ⟨g, 3, none⟩)) w := by kernel_rfl
theorem field_4 (g : Nat) (w : World) : (Instr.fieldAt 49 (pz g) 4).run Tryz.prog w = .ok (.pointer (some ⟨g, 4, none⟩)) w := by kernel_rfl
theorem field_5 (g : Nat) (w : World) : (Instr.fieldAt 49 (pz g) 5).run Tryz.prog w = .ok (.pointer (some ⟨g, 9, none⟩)) w := by kernel_rfl
theorem field_6 (g : Nat) (w : World) : (Instr.fieldAt 49 (pz g) 6).run Tryz.prog w = .ok (.pointer (some ⟨g, 10, none⟩)) w := by kernel_rfl
theorem field_7 (g : Nat) (w : World) : (Instr.fieldAt 49 (pz g) 7).run Tryz.prog w = .ok (.pointer (some ⟨g, 11, none⟩)) w := by kernel_rfl
theorem field_8 (g : Nat) (w : World) : (Instr.fieldAt 49 (pz g) 8).run Tryz.prog w = .ok (.pointer (some ⟨g, 12, none⟩)) w := by kernel_rfl
theorem field_9 (g : Nat) (w : World) : (Instr.fieldAt 49 (pz g) 9).run Tryz.prog w = .ok (.pointer (some ⟨g, 13, none⟩)) w := by kernel_rfl
theorem field_10 (g : Nat) (w : World) : (Instr.fieldAt 49 (pz g) 10).run Tryz.prog w = .ok (.pointer (some ⟨g, 14, none⟩)) w := by kernel_rfl
theorem field_11 (g : Nat) (w : World) : (Instr.fieldAt 49 (pz g) 11).run Tryz.prog w = .ok (.pointer (some ⟨g, 15, none⟩)) w := by kernel_rfl
theorem field_12 (g : Nat) (w : World) : (Instr.fieldAt 49 (pz g) 12).run Tryz.prog w = .ok (.pointer (some ⟨g, 16, none⟩)) w := by kernel_rfl
theorem field_13 (g : Nat) (w : World) : (Instr.fieldAt 49 (pz g) 13).run Tryz.prog w = .ok (.pointer (some ⟨g, 17, none⟩)) w := by kernel_rfl
theorem field_14 (g : Nat) (w : World) : (Instr.fieldAt 49 (pz g) 14).run Tryz.prog w = .ok (.pointer (some ⟨g, 18, none⟩)) w := by kernel_rfl
theorem field_15 (g : Nat) (w : World) : (Instr.fieldAt 49 (pz g) 15).run Tryz.prog w = .ok (.pointer (some ⟨g, 19, none⟩)) w := by kernel_rfl
theorem field_16 (g : Nat) (w : World) : (Instr.fieldAt 49 (pz g) 16).run Tryz.prog w = .ok (.pointer (some ⟨g, 20, none⟩)) w := by kernel_rfl
theorem field_17 (g : Nat) (w : World) : (Instr.fieldAt 49 (pz g) 17).run Tryz.prog w = .ok (.pointer (some ⟨g, 21, none⟩)) w := by kernel_rfl
theorem field_18 (g : Nat) (w : World) : (Instr.fieldAt 49 (pz g) 18).run Tryz.prog w = .ok (.pointer (some ⟨g, 22, none⟩)) w := by kernel_rfl
theorem field_19 (g : Nat) (w : World) : (Instr.fieldAt 49 (pz g) 19).run Tryz.prog w = .ok (.pointer (some ⟨g, 23, none⟩)) w := by kernel_rfl
theorem load_will (g : Nat) (l : List Value) (a : Bool) (b c : ByteArray) (d : Int) (e : Bool) (w : World) (hC : Cells w g l) (h4 : l[4]? = some (.bool a)) (h5 : l[5]? = some (.string b)) (h6 : l[6]? = some (.string c)) (h7 : l[7]? = some (iz d)) (h8 : l[8]? = some (.bool e)) :
  (Instr.loadAt 44 (.pointer (some ⟨g, 4, none⟩))).run Tryz.prog w = .ok (.agg #[.bool a, .string b, .string c, iz d, .bool e]) w := by
 have c4 := hC.get 4 _ h4
 have c5 := hC.get 5 _ h5
 have c6 := hC.get 6 _ h6
 have c7 := hC.get 7 _ h7
 have c8 := hC.get 8 _ h8
 simp [go_sem, c4, c5, c6, c7, c8]
theorem eql_w (a a' : Bool) (b b' c c' : ByteArray) (d d' : Int) (e e' : Bool) (x y : Operand) (w : World) : (do eqGuard .eql 44 x y (.agg #[.bool a, .string b, .string c, iz d, .bool e]) (.agg #[.bool a', .string b', .string c', iz d', .bool e']); binOp .eql 44 (.agg #[.bool a, .string b, .string c, iz d, .bool e]) (.agg #[.bool a', .string b', .string c', iz d', .bool e']) : Sem Value).run Tryz.prog w =
  .ok (.bool (a == a' && (b.toList == b'.toList && (c.toList == c'.toList && (d == d' && e == e'))))) w := by
 simp [go_sem]
 by_cases h1 : a = a'
 ·by_cases h2 : b.toList = b'.toList
  ·by_cases h3 : c.toList = c'.toList
   ·by_cases h4 : d = d'
    ·by_cases h5 : e = e' <;> simp [h1, h2, h3, h4, h5]
    ·simp [h1, h2, h3, h4]
   ·simp [h1, h2, h3]
  ·simp [h1, h2]
 ·simp [h1]
theorem ent_slInts (args : Array Value) (w : World) : (callFunc 157 args).run Tryz.prog w = .ok (.enter 157 args) w := by kernel_rfl
theorem ent_eqInts (args : Array Value) (w : World) : (callFunc 102 args).run Tryz.prog w = .ok (.enter 102 args) w := by kernel_rfl
theorem ent_slWishes (args : Array Value) (w : World) : (callFunc 158 args).run Tryz.prog w = .ok (.enter 158 args) w := by kernel_rfl
theorem ent_eqWishes (args : Array Value) (w : World) : (callFunc 103 args).run Tryz.prog w = .ok (.enter 103 args) w := by kernel_rfl
theorem ent_slStrs (args : Array Value) (w : World) : (callFunc 159 args).run Tryz.prog w = .ok (.enter 159 args) w := by kernel_rfl
theorem ent_eqStrs (args : Array Value) (w : World) : (callFunc 104 args).run Tryz.prog w = .ok (.enter 104 args) w := by kernel_rfl
end
section
open Go.RowKit
def Mq.same (a b : Mq) : Bool := ((a.kind == b.kind) && ((a.client.toList == b.client.toList) && ((a.clean == b.clean) && ((a.keep == b.keep) && ((a.won == b.won) && ((a.wt.toList == b.wt.toList) && ((a.wp.toList == b.wp.toList) && ((a.wq == b.wq) && ((a.wr == b.wr) && ((a.user.toList == b.user.toList) && ((a.hu == b.hu) && ((a.pass.toList == b.pass.toList) && ((a.hp == b.hp) && ((a.present == b.present) && ((a.code == b.code) && (eqG a.codes b.codes && ((a.dup == b.dup) && ((a.qos == b.qos) && ((a.retain == b.retain) && ((a.topic.toList == b.topic.toList) && ((a.id == b.id) && ((a.payload.toList == b.payload.toList) && (eqG a.wishes b.wishes && eqG a.filters b.filters)))))))))))))))))))))))
theorem str_eq {u v : ByteArray} (h : (u.toList == v.toList) = true) : u = v := by
 rw [beq_iff_eq, Lib.toList_data, Lib.toList_data] at h
 exact ByteArray.ext (Array.toList_inj.1 h)
theorem same_iff (a b : Mq) : Mq.same a b = true ↔ a = b := by
 constructor
 ·intro h
  unfold Mq.same at h
  simp only [Bool.and_eq_true] at h
  obtain ⟨h0, h1, h2, h3, h4, h5, h6, h7, h8, h9, h10, h11, h12, h13, h14, h15, h16, h17, h18, h19, h20, h21, h22, h23⟩ := h
  cases a
  cases b
  simp only [Mq.mk.injEq]
  exact ⟨by simpa using h0, str_eq h1, by simpa using h2, by simpa using h3, by simpa using h4, str_eq h5, str_eq h6, by simpa using h7, by simpa using h8, str_eq h9, by simpa using h10, str_eq h11, by simpa using h12, by simpa using h13, by simpa using h14, of_decide_eq_true h15, by simpa using h16, by simpa using h17, by simpa using h18, str_eq h19, by simpa using h20, str_eq h21, of_decide_eq_true h22, of_decide_eq_true h23⟩
 ·rintro rfl
  simp [Mq.same, eqG_same]
def MqL (w : World) (B : Nat) (m : Mq) (vc vw vf : Value) : Prop :=
 ∃ A1 c1 A2 c2 A3 c3, vc = .slice A1 m.codes.length c1 ∧ vw = .slice A2 m.wishes.length c2 ∧ vf = .slice A3 m.filters.length c3 ∧
  m.codes.length ≤ c1 ∧ m.wishes.length ≤ c2 ∧ m.filters.length ≤ c3 ∧ m.codes.length ≤ 140737488351232 ∧ m.wishes.length ≤ 140737488351232 ∧ m.filters.length ≤ 140737488351232 ∧
  Reads w B 1 A1 m.codes.length (m.codes.map iv) ∧ Reads w B 2 A2 m.wishes.length (wv m.wishes) ∧ Reads w B 1 A3 m.filters.length (m.filters.map sv)
theorem MqL.next {w w' : World} {m : Mq} {vc vw vf : Value} (h : MqL w w.heap.size m vc vw vf) (hb : Below w.heap.size w w') : MqL w' w'.heap.size m vc vw vf := by
 obtain ⟨A1, c1, A2, c2, A3, c3, e1, e2, e3, l1, l2, l3, k1, k2, k3, r1, r2, r3⟩ := h
 exact ⟨A1, c1, A2, c2, A3, c3, e1, e2, e3, l1, l2, l3, k1, k2, k3, (r1.below hb).more hb.size, (r2.below hb).more hb.size, (r3.below hb).more hb.size⟩
theorem Reads.next {w w' : World} {size n : Nat} {A : Option Addr} {xs : List Value} (h : Reads w w.heap.size size A n xs) (hb : Below w.heap.size w w') : Reads w' w'.heap.size size A n xs := (h.below hb).more hb.size
theorem packSame (a b : Mq) (va vwa vfa vb vwb vfb : Value) (w : World) (ha : MqL w w.heap.size a va vwa vfa) (hb : MqL w w.heap.size b vb vwb vfb) :
  Calls Tryz.prog 132 #[.agg (mqCells a va vwa vfa).toArray, .agg (mqCells b vb vwb vfb).toArray] w fun e w' => e = .returned (.bool (Mq.same a b)) ∧ Below w.heap.size w w' := by
 obtain ⟨A1, p1, A2, p2, A3, p3, rfl, rfl, rfl, _, _, _, k1, k2, k3, r1, r2, r3⟩ := ha
 obtain ⟨B1, q1, B2, q2, B3, q3, rfl, rfl, rfl, _, _, _, _, _, _, s1, s2, s3⟩ := hb
 have K1 := Lib.hid (fun w1 h => slInts a.codes b.codes A1 B1 p1 q1 w1 (r1.next h) (s1.next h) (by omega))
 have K2 := Lib.hid (fun w1 h => slWishes a.wishes b.wishes A2 B2 p2 q2 w1 (r2.next h) (s2.next h) (by omega))
 have K3 := Lib.hid (fun w1 h => slStrs a.filters b.filters A3 B3 p3 q3 w1 (r3.next h) (s3.next h) (by omega))
 clear r1 r2 r3 s1 s2 s3 k1 k2 k3
 have tok1 : True := trivial
 have tok2 : True := trivial
 go_enter Tryz.func132, Tryz.ntmps132
 go_upto_region 1 with (first
  | (have _t := tok1; (with_reducible refine wpList_box_cells ?_ 49 (.tmp 0) ?_ (mqCells a (.slice A1 a.codes.length p1) (.slice A2 a.wishes.length p2) (.slice A3 a.filters.length p3)) ?_ w.heap.size ?_ ?_); exact rfl; exact rfl; exact rfl; exact rfl; intro w1 hb1 hs1 hC1; have HS1 := Lib.hid hs1; have HC1 := Lib.hid hC1; have HB1 := Lib.hid hb1; clear tok1 _t hs1 hC1 hb1)
  | (have _t := tok2; have _s := HS1; (with_reducible refine wpList_box_cells ?_ 49 (.tmp 1) ?_ (mqCells b (.slice B1 b.codes.length q1) (.slice B2 b.wishes.length q2) (.slice B3 b.filters.length q3)) ?_ (w.heap.size + 1) ?_ ?_); exact rfl; exact rfl; exact rfl; exact HS1.out; intro w2 hb2 hs2 hC2; have HA2 := Lib.hid (HC1.out.below hb2 (Nat.lt_succ_self _)); have HB2 := Lib.hid hC2; have HW2 := Lib.hid (HB1.out.trans (hb2.mono (Nat.le_succ _))); have HLa2 := Lib.hid (show w.heap.size < w2.heap.size by omega); have HLb2 := Lib.hid (show w.heap.size + 1 < w2.heap.size by omega); clear tok2 _t _s hs2 hC2 hb2))
 rename_i K hK
 refine wp_region_list ?_
 refine wpList_link0 (n := 143) (ga := w.heap.size) (gb := w.heap.size + 1) rfl rfl rfl rfl (by decide) rfl rfl rfl rfl (by decide) field_0 (load1_i _ _ _ _ (HA2.out.get 0 _ rfl)) (load1_i _ _ _ _ (HB2.out.get 0 _ rfl)) (eql_i _ _ _ _ _) ?_
 intro a1 F1
 refine wpList_link F1 (by decide) rfl rfl rfl rfl rfl rfl rfl (by decide) (by kernel_rfl) field_1 (load1_s _ _ _ _ (HA2.out.get 1 _ rfl)) (load1_s _ _ _ _ (HB2.out.get 1 _ rfl)) (eql_s _ _ _ _ _) ?_
 intro a2 F2
 refine wpList_link F2 (by decide) rfl rfl rfl rfl rfl rfl rfl (by decide) (by kernel_rfl) field_2 (load1_b _ _ _ _ (HA2.out.get 2 _ rfl)) (load1_b _ _ _ _ (HB2.out.get 2 _ rfl)) (eql_b _ _ _ _ _) ?_
 intro a3 F3
 refine wpList_link F3 (by decide) rfl rfl rfl rfl rfl rfl rfl (by decide) (by kernel_rfl) field_3 (load1_i _ _ _ _ (HA2.out.get 3 _ rfl)) (load1_i _ _ _ _ (HB2.out.get 3 _ rfl)) (eql_i _ _ _ _ _) ?_
 intro a4 F4
 refine wpList_link F4 (by decide) rfl rfl rfl rfl rfl rfl rfl (by decide) (by kernel_rfl) field_4 (load_will _ _ _ _ _ _ _ _ HA2.out rfl rfl rfl rfl rfl) (load_will _ _ _ _ _ _ _ _ HB2.out rfl rfl rfl rfl rfl) (eql_w _ _ _ _ _ _ _ _ _ _ _ _ _) ?_
 intro a5 F5
 refine wpList_link F5 (by decide) rfl rfl rfl rfl rfl rfl rfl (by decide) (by kernel_rfl) field_5 (load1_s _ _ _ _ (HA2.out.get 9 _ rfl)) (load1_s _ _ _ _ (HB2.out.get 9 _ rfl)) (eql_s _ _ _ _ _) ?_
 intro a6 F6
 refine wpList_link F6 (by decide) rfl rfl rfl rfl rfl rfl rfl (by decide) (by kernel_rfl) field_6 (load1_b _ _ _ _ (HA2.out.get 10 _ rfl)) (load1_b _ _ _ _ (HB2.out.get 10 _ rfl)) (eql_b _ _ _ _ _) ?_
 intro a7 F7
 refine wpList_link F7 (by decide) rfl rfl rfl rfl rfl rfl rfl (by decide) (by kernel_rfl) field_7 (load1_s _ _ _ _ (HA2.out.get 11 _ rfl)) (load1_s _ _ _ _ (HB2.out.get 11 _ rfl)) (eql_s _ _ _ _ _) ?_
 intro a8 F8
 refine wpList_link F8 (by decide) rfl rfl rfl rfl rfl rfl rfl (by decide) (by kernel_rfl) field_8 (load1_b _ _ _ _ (HA2.out.get 12 _ rfl)) (load1_b _ _ _ _ (HB2.out.get 12 _ rfl)) (eql_b _ _ _ _ _) ?_
 intro a9 F9
 refine wpList_link F9 (by decide) rfl rfl rfl rfl rfl rfl rfl (by decide) (by kernel_rfl) field_9 (load1_b _ _ _ _ (HA2.out.get 13 _ rfl)) (load1_b _ _ _ _ (HB2.out.get 13 _ rfl)) (eql_b _ _ _ _ _) ?_
 intro a10 F10
 refine wpList_link F10 (by decide) rfl rfl rfl rfl rfl rfl rfl (by decide) (by kernel_rfl) field_10 (load1_i _ _ _ _ (HA2.out.get 14 _ rfl)) (load1_i _ _ _ _ (HB2.out.get 14 _ rfl)) (eql_i _ _ _ _ _) ?_
 intro a11 F11
 refine wpList_linkC F11 (by decide) rfl rfl rfl rfl rfl rfl rfl (by decide) (by kernel_rfl) field_11 (load1_26 _ _ _ _ _ _ (HA2.out.get 15 _ rfl)) (load1_26 _ _ _ _ _ _ (HB2.out.get 15 _ rfl)) ent_slInts (K1.out w2 HW2.out) ?_
 intro a12 w3 F12 hx3
 have HW3 := Lib.hid (HW2.out.trans (hx3.mono HW2.out.size))
 have HA3 := Lib.hid (HA2.out.below hx3 HLa2.out)
 have HB3 := Lib.hid (HB2.out.below hx3 HLb2.out)
 have HLa3 := Lib.hid (Nat.lt_of_lt_of_le HLa2.out hx3.size)
 have HLb3 := Lib.hid (Nat.lt_of_lt_of_le HLb2.out hx3.size)
 clear hx3
 refine wpList_link F12 (by decide) rfl rfl rfl rfl rfl rfl rfl (by decide) (by kernel_rfl) field_12 (load1_b _ _ _ _ (HA3.out.get 16 _ rfl)) (load1_b _ _ _ _ (HB3.out.get 16 _ rfl)) (eql_b _ _ _ _ _) ?_
 intro a13 F13
 refine wpList_link F13 (by decide) rfl rfl rfl rfl rfl rfl rfl (by decide) (by kernel_rfl) field_13 (load1_i _ _ _ _ (HA3.out.get 17 _ rfl)) (load1_i _ _ _ _ (HB3.out.get 17 _ rfl)) (eql_i _ _ _ _ _) ?_
 intro a14 F14
 refine wpList_link F14 (by decide) rfl rfl rfl rfl rfl rfl rfl (by decide) (by kernel_rfl) field_14 (load1_b _ _ _ _ (HA3.out.get 18 _ rfl)) (load1_b _ _ _ _ (HB3.out.get 18 _ rfl)) (eql_b _ _ _ _ _) ?_
 intro a15 F15
 refine wpList_link F15 (by decide) rfl rfl rfl rfl rfl rfl rfl (by decide) (by kernel_rfl) field_15 (load1_s _ _ _ _ (HA3.out.get 19 _ rfl)) (load1_s _ _ _ _ (HB3.out.get 19 _ rfl)) (eql_s _ _ _ _ _) ?_
 intro a16 F16
 refine wpList_link F16 (by decide) rfl rfl rfl rfl rfl rfl rfl (by decide) (by kernel_rfl) field_16 (load1_i _ _ _ _ (HA3.out.get 20 _ rfl)) (load1_i _ _ _ _ (HB3.out.get 20 _ rfl)) (eql_i _ _ _ _ _) ?_
 intro a17 F17
 refine wpList_link F17 (by decide) rfl rfl rfl rfl rfl rfl rfl (by decide) (by kernel_rfl) field_17 (load1_s _ _ _ _ (HA3.out.get 21 _ rfl)) (load1_s _ _ _ _ (HB3.out.get 21 _ rfl)) (eql_s _ _ _ _ _) ?_
 intro a18 F18
 refine wpList_linkC F18 (by decide) rfl rfl rfl rfl rfl rfl rfl (by decide) (by kernel_rfl) field_18 (load1_27 _ _ _ _ _ _ (HA3.out.get 22 _ rfl)) (load1_27 _ _ _ _ _ _ (HB3.out.get 22 _ rfl)) ent_slWishes (K2.out w3 HW3.out) ?_
 intro a19 w4 F19 hx4
 have HW4 := Lib.hid (HW3.out.trans (hx4.mono HW3.out.size))
 have HA4 := Lib.hid (HA3.out.below hx4 HLa3.out)
 have HB4 := Lib.hid (HB3.out.below hx4 HLb3.out)
 have HLa4 := Lib.hid (Nat.lt_of_lt_of_le HLa3.out hx4.size)
 have HLb4 := Lib.hid (Nat.lt_of_lt_of_le HLb3.out hx4.size)
 clear hx4
 refine wpList_linkC F19 (by decide) rfl rfl rfl rfl rfl rfl rfl (by decide) (by kernel_rfl) field_19 (load1_28 _ _ _ _ _ _ (HA4.out.get 23 _ rfl)) (load1_28 _ _ _ _ _ _ (HB4.out.get 23 _ rfl)) ent_slStrs (K3.out w4 HW4.out) ?_
 intro a20 w5 F20 hx5
 have HW5 := Lib.hid (HW4.out.trans (hx5.mono HW4.out.size))
 have HA5 := Lib.hid (HA4.out.below hx5 HLa4.out)
 have HB5 := Lib.hid (HB4.out.below hx5 HLb4.out)
 have HLa5 := Lib.hid (Nat.lt_of_lt_of_le HLa4.out hx5.size)
 have HLb5 := Lib.hid (Nat.lt_of_lt_of_le HLb4.out hx5.size)
 clear hx5
 refine wpList_go (wanted_none rfl _) 4 rfl (a20.eval (.tmp 142)) w5 rfl ?_
 have hr : (a20.put (some 4) (a20.eval (.tmp 142))).eval (.tmp 4) = .bool (Mq.same a b) := by
  rw [Act.eval_put_same _ _ _ (by rw [F20.sz]; decide), F20.tk]
  simp only [Mq.same, Bool.and_assoc]
 have hdf : (a20.put (some 4) (a20.eval (.tmp 142))).defers = [] := by rw [Act.defers_put', F20.df]
 generalize a20.put (some 4) (a20.eval (.tmp 142)) = az at hr hdf
 refine wpList_nil ?_
 refine hK _ _ (wp_ret ?_)
 refine bodyPost_ret (results_tmp rfl _ _ _) hdf ⟨?_, HW5.out⟩
 exact congrArg Ending.returned hr
theorem refEqMq (a b : Mq) (va vwa vfa vb vwb vfb : Value) (w : World) (ha : MqL w w.heap.size a va vwa vfa) (hb : MqL w w.heap.size b vb vwb vfb) :
  Calls Tryz.prog 65 #[.agg (mqCells a va vwa vfa).toArray, .agg (mqCells b vb vwb vfb).toArray] w fun e w' => e = .returned (.bool (Mq.same a b)) ∧ Below w.heap.size w w' := by
 obtain ⟨A1, p1, A2, p2, A3, p3, rfl, rfl, rfl, _, _, _, k1, k2, k3, r1, r2, r3⟩ := ha
 obtain ⟨B1, q1, B2, q2, B3, q3, rfl, rfl, rfl, _, _, _, _, _, _, s1, s2, s3⟩ := hb
 have K1 := Lib.hid (fun w1 h => eqInts a.codes b.codes A1 B1 p1 q1 w1 (r1.next h) (s1.next h) (by omega))
 have K2 := Lib.hid (fun w1 h => eqWishes a.wishes b.wishes A2 B2 p2 q2 w1 (r2.next h) (s2.next h) (by omega))
 have K3 := Lib.hid (fun w1 h => eqStrs a.filters b.filters A3 B3 p3 q3 w1 (r3.next h) (s3.next h) (by omega))
 clear r1 r2 r3 s1 s2 s3 k1 k2 k3
 have tok1 : True := trivial
 have tok2 : True := trivial
 go_enter Tryz.func65, Tryz.ntmps65
 go_upto_region 1 with (first
  | (have _t := tok1; (with_reducible refine wpList_box_cells ?_ 49 (.tmp 0) ?_ (mqCells a (.slice A1 a.codes.length p1) (.slice A2 a.wishes.length p2) (.slice A3 a.filters.length p3)) ?_ w.heap.size ?_ ?_); exact rfl; exact rfl; exact rfl; exact rfl; intro w1 hb1 hs1 hC1; have HS1 := Lib.hid hs1; have HC1 := Lib.hid hC1; have HB1 := Lib.hid hb1; clear tok1 _t hs1 hC1 hb1)
  | (have _t := tok2; have _s := HS1; (with_reducible refine wpList_box_cells ?_ 49 (.tmp 1) ?_ (mqCells b (.slice B1 b.codes.length q1) (.slice B2 b.wishes.length q2) (.slice B3 b.filters.length q3)) ?_ (w.heap.size + 1) ?_ ?_); exact rfl; exact rfl; exact rfl; exact HS1.out; intro w2 hb2 hs2 hC2; have HA2 := Lib.hid (HC1.out.below hb2 (Nat.lt_succ_self _)); have HB2 := Lib.hid hC2; have HW2 := Lib.hid (HB1.out.trans (hb2.mono (Nat.le_succ _))); have HLa2 := Lib.hid (show w.heap.size < w2.heap.size by omega); have HLb2 := Lib.hid (show w.heap.size + 1 < w2.heap.size by omega); clear tok2 _t _s hs2 hC2 hb2))
 rename_i K hK
 refine wp_region_list ?_
 refine wpList_link0 (n := 143) (ga := w.heap.size) (gb := w.heap.size + 1) rfl rfl rfl rfl (by decide) rfl rfl rfl rfl (by decide) field_0 (load1_i _ _ _ _ (HA2.out.get 0 _ rfl)) (load1_i _ _ _ _ (HB2.out.get 0 _ rfl)) (eql_i _ _ _ _ _) ?_
 intro a1 F1
 refine wpList_link F1 (by decide) rfl rfl rfl rfl rfl rfl rfl (by decide) (by kernel_rfl) field_1 (load1_s _ _ _ _ (HA2.out.get 1 _ rfl)) (load1_s _ _ _ _ (HB2.out.get 1 _ rfl)) (eql_s _ _ _ _ _) ?_
 intro a2 F2
 refine wpList_link F2 (by decide) rfl rfl rfl rfl rfl rfl rfl (by decide) (by kernel_rfl) field_2 (load1_b _ _ _ _ (HA2.out.get 2 _ rfl)) (load1_b _ _ _ _ (HB2.out.get 2 _ rfl)) (eql_b _ _ _ _ _) ?_
 intro a3 F3
 refine wpList_link F3 (by decide) rfl rfl rfl rfl rfl rfl rfl (by decide) (by kernel_rfl) field_3 (load1_i _ _ _ _ (HA2.out.get 3 _ rfl)) (load1_i _ _ _ _ (HB2.out.get 3 _ rfl)) (eql_i _ _ _ _ _) ?_
 intro a4 F4
 refine wpList_link F4 (by decide) rfl rfl rfl rfl rfl rfl rfl (by decide) (by kernel_rfl) field_4 (load_will _ _ _ _ _ _ _ _ HA2.out rfl rfl rfl rfl rfl) (load_will _ _ _ _ _ _ _ _ HB2.out rfl rfl rfl rfl rfl) (eql_w _ _ _ _ _ _ _ _ _ _ _ _ _) ?_
 intro a5 F5
 refine wpList_link F5 (by decide) rfl rfl rfl rfl rfl rfl rfl (by decide) (by kernel_rfl) field_5 (load1_s _ _ _ _ (HA2.out.get 9 _ rfl)) (load1_s _ _ _ _ (HB2.out.get 9 _ rfl)) (eql_s _ _ _ _ _) ?_
 intro a6 F6
 refine wpList_link F6 (by decide) rfl rfl rfl rfl rfl rfl rfl (by decide) (by kernel_rfl) field_6 (load1_b _ _ _ _ (HA2.out.get 10 _ rfl)) (load1_b _ _ _ _ (HB2.out.get 10 _ rfl)) (eql_b _ _ _ _ _) ?_
 intro a7 F7
 refine wpList_link F7 (by decide) rfl rfl rfl rfl rfl rfl rfl (by decide) (by kernel_rfl) field_7 (load1_s _ _ _ _ (HA2.out.get 11 _ rfl)) (load1_s _ _ _ _ (HB2.out.get 11 _ rfl)) (eql_s _ _ _ _ _) ?_
 intro a8 F8
 refine wpList_link F8 (by decide) rfl rfl rfl rfl rfl rfl rfl (by decide) (by kernel_rfl) field_8 (load1_b _ _ _ _ (HA2.out.get 12 _ rfl)) (load1_b _ _ _ _ (HB2.out.get 12 _ rfl)) (eql_b _ _ _ _ _) ?_
 intro a9 F9
 refine wpList_link F9 (by decide) rfl rfl rfl rfl rfl rfl rfl (by decide) (by kernel_rfl) field_9 (load1_b _ _ _ _ (HA2.out.get 13 _ rfl)) (load1_b _ _ _ _ (HB2.out.get 13 _ rfl)) (eql_b _ _ _ _ _) ?_
 intro a10 F10
 refine wpList_link F10 (by decide) rfl rfl rfl rfl rfl rfl rfl (by decide) (by kernel_rfl) field_10 (load1_i _ _ _ _ (HA2.out.get 14 _ rfl)) (load1_i _ _ _ _ (HB2.out.get 14 _ rfl)) (eql_i _ _ _ _ _) ?_
 intro a11 F11
 refine wpList_linkC F11 (by decide) rfl rfl rfl rfl rfl rfl rfl (by decide) (by kernel_rfl) field_11 (load1_26 _ _ _ _ _ _ (HA2.out.get 15 _ rfl)) (load1_26 _ _ _ _ _ _ (HB2.out.get 15 _ rfl)) ent_eqInts (K1.out w2 HW2.out) ?_
 intro a12 w3 F12 hx3
 have HW3 := Lib.hid (HW2.out.trans (hx3.mono HW2.out.size))
 have HA3 := Lib.hid (HA2.out.below hx3 HLa2.out)
 have HB3 := Lib.hid (HB2.out.below hx3 HLb2.out)
 have HLa3 := Lib.hid (Nat.lt_of_lt_of_le HLa2.out hx3.size)
 have HLb3 := Lib.hid (Nat.lt_of_lt_of_le HLb2.out hx3.size)
 clear hx3
 refine wpList_link F12 (by decide) rfl rfl rfl rfl rfl rfl rfl (by decide) (by kernel_rfl) field_12 (load1_b _ _ _ _ (HA3.out.get 16 _ rfl)) (load1_b _ _ _ _ (HB3.out.get 16 _ rfl)) (eql_b _ _ _ _ _) ?_
 intro a13 F13
 refine wpList_link F13 (by decide) rfl rfl rfl rfl rfl rfl rfl (by decide) (by kernel_rfl) field_13 (load1_i _ _ _ _ (HA3.out.get 17 _ rfl)) (load1_i _ _ _ _ (HB3.out.get 17 _ rfl)) (eql_i _ _ _ _ _) ?_
 intro a14 F14
 refine wpList_link F14 (by decide) rfl rfl rfl rfl rfl rfl rfl (by decide) (by kernel_rfl) field_14 (load1_b _ _ _ _ (HA3.out.get 18 _ rfl)) (load1_b _ _ _ _ (HB3.out.get 18 _ rfl)) (eql_b _ _ _ _ _) ?_
 intro a15 F15
 refine wpList_link F15 (by decide) rfl rfl rfl rfl rfl rfl rfl (by decide) (by kernel_rfl) field_15 (load1_s _ _ _ _ (HA3.out.get 19 _ rfl)) (load1_s _ _ _ _ (HB3.out.get 19 _ rfl)) (eql_s _ _ _ _ _) ?_
 intro a16 F16
 refine wpList_link F16 (by decide) rfl rfl rfl rfl rfl rfl rfl (by decide) (by kernel_rfl) field_16 (load1_i _ _ _ _ (HA3.out.get 20 _ rfl)) (load1_i _ _ _ _ (HB3.out.get 20 _ rfl)) (eql_i _ _ _ _ _) ?_
 intro a17 F17
 refine wpList_link F17 (by decide) rfl rfl rfl rfl rfl rfl rfl (by decide) (by kernel_rfl) field_17 (load1_s _ _ _ _ (HA3.out.get 21 _ rfl)) (load1_s _ _ _ _ (HB3.out.get 21 _ rfl)) (eql_s _ _ _ _ _) ?_
 intro a18 F18
 refine wpList_linkC F18 (by decide) rfl rfl rfl rfl rfl rfl rfl (by decide) (by kernel_rfl) field_18 (load1_27 _ _ _ _ _ _ (HA3.out.get 22 _ rfl)) (load1_27 _ _ _ _ _ _ (HB3.out.get 22 _ rfl)) ent_eqWishes (K2.out w3 HW3.out) ?_
 intro a19 w4 F19 hx4
 have HW4 := Lib.hid (HW3.out.trans (hx4.mono HW3.out.size))
 have HA4 := Lib.hid (HA3.out.below hx4 HLa3.out)
 have HB4 := Lib.hid (HB3.out.below hx4 HLb3.out)
 have HLa4 := Lib.hid (Nat.lt_of_lt_of_le HLa3.out hx4.size)
 have HLb4 := Lib.hid (Nat.lt_of_lt_of_le HLb3.out hx4.size)
 clear hx4
 refine wpList_linkC F19 (by decide) rfl rfl rfl rfl rfl rfl rfl (by decide) (by kernel_rfl) field_19 (load1_28 _ _ _ _ _ _ (HA4.out.get 23 _ rfl)) (load1_28 _ _ _ _ _ _ (HB4.out.get 23 _ rfl)) ent_eqStrs (K3.out w4 HW4.out) ?_
 intro a20 w5 F20 hx5
 have HW5 := Lib.hid (HW4.out.trans (hx5.mono HW4.out.size))
 have HA5 := Lib.hid (HA4.out.below hx5 HLa4.out)
 have HB5 := Lib.hid (HB4.out.below hx5 HLb4.out)
 have HLa5 := Lib.hid (Nat.lt_of_lt_of_le HLa4.out hx5.size)
 have HLb5 := Lib.hid (Nat.lt_of_lt_of_le HLb4.out hx5.size)
 clear hx5
 refine wpList_go (wanted_none rfl _) 4 rfl (a20.eval (.tmp 142)) w5 rfl ?_
 have hr : (a20.put (some 4) (a20.eval (.tmp 142))).eval (.tmp 4) = .bool (Mq.same a b) := by
  rw [Act.eval_put_same _ _ _ (by rw [F20.sz]; decide), F20.tk]
  simp only [Mq.same, Bool.and_assoc]
 have hdf : (a20.put (some 4) (a20.eval (.tmp 142))).defers = [] := by rw [Act.defers_put', F20.df]
 generalize a20.put (some 4) (a20.eval (.tmp 142)) = az at hr hdf
 refine wpList_nil ?_
 refine hK _ _ (wp_ret ?_)
 refine bodyPost_ret (results_tmp rfl _ _ _) hdf ⟨?_, HW5.out⟩
 exact congrArg Ending.returned hr
end
end Go.Proofs.YtlacidnnankjlaaGreatDoor
