/-
  How the argument of the laws over 'kiosk/kiosklaw7.Ask' reads.
-/
import Derived.Test.YtjdokaiadljeeaaRead
namespace Go.Proofs.Ytjdokaiadljeeaa
open Go.ChangeShapes Go.WideShapes Go.ChangeAt Go.RowKit Go.Deep

def SumAsk (W : World) (A : Option Addr) (len : Nat) : Prop :=
  ∀ i, i < len → ∃ (b o : Nat) (n0 : Int) (xs1 : List UInt8) (B1 : Option Addr) (p1 : Nat) (n2 : Int), A = some ⟨b, o, none⟩ ∧ b < W.heap.size ∧ W.cell? ⟨b, o + i * 3, none⟩ = some (.int .i64 n0) ∧ -9223372036854775808 ≤ n0 ∧ n0 ≤ 9223372036854775807 ∧ W.cell? ⟨b, o + i * 3 + 1, none⟩ = some (.slice B1 xs1.length p1) ∧ xs1.length ≤ p1 ∧ p1 ≤ maxLen ∧ RB W W.heap.size B1 xs1 ∧ W.cell? ⟨b, o + i * 3 + 2, none⟩ = some (.int .i64 n2) ∧ -9223372036854775808 ≤ n2 ∧ n2 ≤ 9223372036854775807

theorem SumAsk.below {W W' : World} {A : Option Addr} {len : Nat} (h : SumAsk W A len) (hb : Below W.heap.size W W') : SumAsk W' A len := by
  intro i hi
  obtain ⟨b, o, n0, xs1, B1, p1, n2, hA, hlt, c0, a0, z0, c1, a1, z1, r1, c2, a2, z2⟩ := h i hi
  exact ⟨b, o, n0, xs1, B1, p1, n2, hA, Nat.lt_of_lt_of_le hlt hb.size, (hb.cell hlt).trans c0, a0, z0, (hb.cell hlt).trans c1, a1, z1, r1.next hb, (hb.cell hlt).trans c2, a2, z2⟩
theorem SumAsk.cells : Try.prog.cellsOf 35 = 3 := by kernel_rfl
theorem SumAsk.of {H : Type} {enc : TypeId × Value → H} {W : World} {v : Value} {d : DataW H} {p : List MemPlace} (h : Comes enc W 33 v d p) :
    ∃ (A : Option Addr) (len cap : Nat), v = .slice A len cap ∧ len ≤ cap ∧ cap ≤ maxLen ∧ SumAsk W A len := by
  obtain ⟨A, len, cap, fuel, rfl, hl, hc, hi⟩ := read_rows Try.underlying33 SumAsk.cells (by decide) h
  refine ⟨A, len, cap, rfl, hl, hc, fun i hlt => ?_⟩
  obtain ⟨b, o, cs, x, hA, hblt, hlen, hcell, htr⟩ := hi i hlt
  match cs, hlen with
  | [k0, k1, k2], _ =>
    have e_bytes : Try.prog.cellsOf 24 = 1 := by kernel_rfl
    have e_int : Try.prog.cellsOf 3 = 1 := by kernel_rfl
    obtain ⟨ys0, m0, _, _, _, yl0, hf0⟩ := DataW.trod_struct Try.underlying35 htr
    have f0_0 := hf0 0 _ rfl
    simp only [List.getElem_toArray, List.getElem_cons_zero, List.getElem_cons_succ, e_int, List.drop_zero, List.take_succ_cons, List.take_zero, List.drop_succ_cons] at f0_0
    rw [List.getElem?_eq_getElem (by rw [yl0]; decide)] at f0_0
    obtain ⟨n0, e0, _, w0⟩ := DataW.trod_int Try.underlying3 f0_0
    obtain ⟨a0, z0⟩ := wf_i64 w0
    simp only [List.cons.injEq, and_true] at e0
    subst e0
    have f0_1 := hf0 1 _ rfl
    simp only [List.getElem_toArray, List.getElem_cons_zero, List.getElem_cons_succ, e_bytes, List.drop_zero, List.take_succ_cons, List.take_zero, List.drop_succ_cons] at f0_1
    rw [List.getElem?_eq_getElem (by rw [yl0]; decide)] at f0_1
    obtain ⟨xs1, B1, p1, e1, a1, z1, r1⟩ := read_bytes f0_1
    simp only [List.cons.injEq, and_true] at e1
    subst e1
    have f0_2 := hf0 2 _ rfl
    simp only [List.getElem_toArray, List.getElem_cons_zero, List.getElem_cons_succ, e_int, List.drop_zero, List.take_succ_cons, List.take_zero, List.drop_succ_cons] at f0_2
    rw [List.getElem?_eq_getElem (by rw [yl0]; decide)] at f0_2
    obtain ⟨n2, e2, _, w2⟩ := DataW.trod_int Try.underlying3 f0_2
    obtain ⟨a2, z2⟩ := wf_i64 w2
    simp only [List.cons.injEq, and_true] at e2
    subst e2
    have c0 := hcell 0 (by omega)
    have c1 := hcell 1 (by omega)
    have c2 := hcell 2 (by omega)
    exact ⟨b, o, n0, xs1, B1, p1, n2, hA, hblt, c0, a0, z0, c1, a1, z1, r1, c2, a2, z2⟩

end Go.Proofs.Ytjdokaiadljeeaa
