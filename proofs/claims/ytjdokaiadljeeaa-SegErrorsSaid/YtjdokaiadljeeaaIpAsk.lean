/-
  How the argument of the laws over 'kiosk/kiosklaw10.Ask' reads.
-/
import Derived.Test.YtjdokaiadljeeaaRead
namespace Go.Proofs.Ytjdokaiadljeeaa
open Go.ChangeShapes Go.WideShapes Go.ChangeAt Go.RowKit Go.Deep

def IpAsk (W : World) (A : Option Addr) (len : Nat) : Prop :=
  ∀ i, i < len → ∃ (b o : Nat) (n0 : Int) (n1 : Int) (n2 : Int) (n3 : Int) (n4 : Int) (xs5 : List UInt8) (B5 : Option Addr) (p5 : Nat) (xs6 : List UInt8) (B6 : Option Addr) (p6 : Nat), A = some ⟨b, o, none⟩ ∧ b < W.heap.size ∧ W.cell? ⟨b, o + i * 7, none⟩ = some (.int .i64 n0) ∧ -9223372036854775808 ≤ n0 ∧ n0 ≤ 9223372036854775807 ∧ W.cell? ⟨b, o + i * 7 + 1, none⟩ = some (.int .i64 n1) ∧ -9223372036854775808 ≤ n1 ∧ n1 ≤ 9223372036854775807 ∧ W.cell? ⟨b, o + i * 7 + 2, none⟩ = some (.int .i64 n2) ∧ -9223372036854775808 ≤ n2 ∧ n2 ≤ 9223372036854775807 ∧ W.cell? ⟨b, o + i * 7 + 3, none⟩ = some (.int .i64 n3) ∧ -9223372036854775808 ≤ n3 ∧ n3 ≤ 9223372036854775807 ∧ W.cell? ⟨b, o + i * 7 + 4, none⟩ = some (.int .i64 n4) ∧ -9223372036854775808 ≤ n4 ∧ n4 ≤ 9223372036854775807 ∧ W.cell? ⟨b, o + i * 7 + 5, none⟩ = some (.slice B5 xs5.length p5) ∧ xs5.length ≤ p5 ∧ p5 ≤ 140737488351232 ∧ RB W W.heap.size B5 xs5 ∧ W.cell? ⟨b, o + i * 7 + 6, none⟩ = some (.slice B6 xs6.length p6) ∧ xs6.length ≤ p6 ∧ p6 ≤ 140737488351232 ∧ RB W W.heap.size B6 xs6

theorem IpAsk.below {W W' : World} {A : Option Addr} {len : Nat} (h : IpAsk W A len) (hb : Below W.heap.size W W') : IpAsk W' A len := by
  intro i hi
  obtain ⟨b, o, n0, n1, n2, n3, n4, xs5, B5, p5, xs6, B6, p6, hA, hlt, c0, a0, z0, c1, a1, z1, c2, a2, z2, c3, a3, z3, c4, a4, z4, c5, a5, z5, r5, c6, a6, z6, r6⟩ := h i hi
  exact ⟨b, o, n0, n1, n2, n3, n4, xs5, B5, p5, xs6, B6, p6, hA, Nat.lt_of_lt_of_le hlt hb.size, (hb.cell hlt).trans c0, a0, z0, (hb.cell hlt).trans c1, a1, z1, (hb.cell hlt).trans c2, a2, z2, (hb.cell hlt).trans c3, a3, z3, (hb.cell hlt).trans c4, a4, z4, (hb.cell hlt).trans c5, a5, z5, r5.next hb, (hb.cell hlt).trans c6, a6, z6, r6.next hb⟩
theorem IpAsk.cells : Try.prog.cellsOf 55 = 7 := by kernel_rfl
theorem IpAsk.of {H : Type} {enc : TypeId × Value → H} {W : World} {v : Value} {d : DataW H} {p : List MemPlace} (h : Comes enc W 50 v d p) :
    ∃ (A : Option Addr) (len cap : Nat), v = .slice A len cap ∧ len ≤ cap ∧ cap ≤ maxLen ∧ IpAsk W A len := by
  obtain ⟨A, len, cap, fuel, rfl, hl, hc, hi⟩ := read_rows Try.underlying50 IpAsk.cells (by decide) h
  refine ⟨A, len, cap, rfl, hl, hc, fun i hlt => ?_⟩
  obtain ⟨b, o, cs, x, hA, hblt, hlen, hcell, htr, hft⟩ := hi i hlt
  match cs, hlen with
  | [k0, k1, k2, k3, k4, k5, k6], _ =>
    have e_bytes : Try.prog.cellsOf 24 = 1 := by kernel_rfl
    have e_int : Try.prog.cellsOf 3 = 1 := by kernel_rfl
    obtain ⟨ys0, m0, _, ex0, _, yl0, hf0⟩ := DataW.trod_struct Try.underlying55 htr
    rw [ex0] at hft
    have f0_0 := hf0 0 _ rfl
    have es0_0 : Try.prog.cellsOf 53 = 6 := by kernel_rfl
    simp only [List.getElem_toArray, List.getElem_cons_zero, es0_0, List.drop_zero, List.take_succ_cons, List.take_zero] at f0_0
    rw [List.getElem?_eq_getElem (by rw [yl0]; decide)] at f0_0
    have gf0_0 := Fit.struct hft Try.underlying55 0 _ rfl _ (List.getElem?_eq_getElem (by rw [yl0]; decide))
    obtain ⟨ys1, m1, _, ex1, _, yl1, hf1⟩ := DataW.trod_struct Try.underlying53 f0_0
    rw [ex1] at gf0_0
    have f1_0 := hf1 0 _ rfl
    simp only [List.getElem_toArray, List.getElem_cons_zero, e_int, List.drop_zero, List.take_succ_cons, List.take_zero] at f1_0
    rw [List.getElem?_eq_getElem (by rw [yl1]; decide)] at f1_0
    have gf1_0 := Fit.struct gf0_0 Try.underlying53 0 _ rfl _ (List.getElem?_eq_getElem (by rw [yl1]; decide))
    obtain ⟨n0, e0, _, w0⟩ := DataW.trod_int Try.underlying3 f1_0
    obtain ⟨a0, z0⟩ := wf_i64 w0
    simp only [List.cons.injEq, and_true] at e0
    subst e0
    have f1_1 := hf1 1 _ rfl
    simp only [List.getElem_toArray, List.getElem_cons_zero, List.getElem_cons_succ, e_int, List.drop_zero, List.take_succ_cons, List.take_zero, List.drop_succ_cons] at f1_1
    rw [List.getElem?_eq_getElem (by rw [yl1]; decide)] at f1_1
    have gf1_1 := Fit.struct gf0_0 Try.underlying53 1 _ rfl _ (List.getElem?_eq_getElem (by rw [yl1]; decide))
    obtain ⟨n1, e1, _, w1⟩ := DataW.trod_int Try.underlying3 f1_1
    obtain ⟨a1, z1⟩ := wf_i64 w1
    simp only [List.cons.injEq, and_true] at e1
    subst e1
    have f1_2 := hf1 2 _ rfl
    simp only [List.getElem_toArray, List.getElem_cons_zero, List.getElem_cons_succ, e_int, List.drop_zero, List.take_succ_cons, List.take_zero, List.drop_succ_cons] at f1_2
    rw [List.getElem?_eq_getElem (by rw [yl1]; decide)] at f1_2
    have gf1_2 := Fit.struct gf0_0 Try.underlying53 2 _ rfl _ (List.getElem?_eq_getElem (by rw [yl1]; decide))
    obtain ⟨n2, e2, _, w2⟩ := DataW.trod_int Try.underlying3 f1_2
    obtain ⟨a2, z2⟩ := wf_i64 w2
    simp only [List.cons.injEq, and_true] at e2
    subst e2
    have f1_3 := hf1 3 _ rfl
    simp only [List.getElem_toArray, List.getElem_cons_zero, List.getElem_cons_succ, e_int, List.drop_zero, List.take_succ_cons, List.take_zero, List.drop_succ_cons] at f1_3
    rw [List.getElem?_eq_getElem (by rw [yl1]; decide)] at f1_3
    have gf1_3 := Fit.struct gf0_0 Try.underlying53 3 _ rfl _ (List.getElem?_eq_getElem (by rw [yl1]; decide))
    obtain ⟨n3, e3, _, w3⟩ := DataW.trod_int Try.underlying3 f1_3
    obtain ⟨a3, z3⟩ := wf_i64 w3
    simp only [List.cons.injEq, and_true] at e3
    subst e3
    have f1_4 := hf1 4 _ rfl
    simp only [List.getElem_toArray, List.getElem_cons_zero, List.getElem_cons_succ, e_int, List.drop_zero, List.take_succ_cons, List.take_zero, List.drop_succ_cons] at f1_4
    rw [List.getElem?_eq_getElem (by rw [yl1]; decide)] at f1_4
    have gf1_4 := Fit.struct gf0_0 Try.underlying53 4 _ rfl _ (List.getElem?_eq_getElem (by rw [yl1]; decide))
    obtain ⟨n4, e4, _, w4⟩ := DataW.trod_int Try.underlying3 f1_4
    obtain ⟨a4, z4⟩ := wf_i64 w4
    simp only [List.cons.injEq, and_true] at e4
    subst e4
    have f1_5 := hf1 5 _ rfl
    simp only [List.getElem_toArray, List.getElem_cons_zero, List.getElem_cons_succ, e_bytes, List.drop_zero, List.take_succ_cons, List.take_zero, List.drop_succ_cons] at f1_5
    rw [List.getElem?_eq_getElem (by rw [yl1]; decide)] at f1_5
    have gf1_5 := Fit.struct gf0_0 Try.underlying53 5 _ rfl _ (List.getElem?_eq_getElem (by rw [yl1]; decide))
    obtain ⟨xs5, B5, p5, e5, a5, z5, r5⟩ := read_bytes gf1_5 f1_5
    simp only [List.cons.injEq, and_true] at e5
    subst e5
    have f0_1 := hf0 1 _ rfl
    simp only [List.getElem_toArray, List.getElem_cons_zero, List.getElem_cons_succ, e_bytes, List.drop_zero, List.take_succ_cons, List.take_zero, List.drop_succ_cons] at f0_1
    rw [List.getElem?_eq_getElem (by rw [yl0]; decide)] at f0_1
    have gf0_1 := Fit.struct hft Try.underlying55 1 _ rfl _ (List.getElem?_eq_getElem (by rw [yl0]; decide))
    obtain ⟨xs6, B6, p6, e6, a6, z6, r6⟩ := read_bytes gf0_1 f0_1
    simp only [List.cons.injEq, and_true] at e6
    subst e6
    have c0 := hcell 0 (by omega)
    have c1 := hcell 1 (by omega)
    have c2 := hcell 2 (by omega)
    have c3 := hcell 3 (by omega)
    have c4 := hcell 4 (by omega)
    have c5 := hcell 5 (by omega)
    have c6 := hcell 6 (by omega)
    exact ⟨b, o, n0, n1, n2, n3, n4, xs5, B5, p5, xs6, B6, p6, hA, hblt, c0, a0, z0, c1, a1, z1, c2, a2, z2, c3, a3, z3, c4, a4, z4, c5, a5, z5, r5, c6, a6, z6, r6⟩

end Go.Proofs.Ytjdokaiadljeeaa
