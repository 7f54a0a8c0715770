/-
  How the argument of chapter 5's laws reads; the wakes of chapter 5.
-/
import Derived.Test.YtjdokaiadljeeaaRead
import Derived.Test.YtjdokaiadljeeaaCrcRef
import Derived.Test.YtjdokaiadljeeaaEqB
import Derived.Lib.SlBytesConst
namespace Go.Proofs.Ytjdokaiadljeeaa
open Go.ChangeShapes Go.WideShapes Go.ChangeAt Go.RowKit Go.Deep

def CrcAsk (W : World) (A : Option Addr) (len : Nat) : Prop :=
  ∀ i, i < len → ∃ (b o s : Nat) (xs : List UInt8) (B : Option Addr) (c : Nat) (n : Int), A = some ⟨b, o, none⟩ ∧ s < 4294967296 ∧ xs.length ≤ c ∧ c ≤ maxLen ∧ -9223372036854775808 ≤ n ∧ n ≤ 9223372036854775807 ∧
    b < W.heap.size ∧ W.cell? ⟨b, o + i * 3, none⟩ = some (.int .u32 (s : Int)) ∧ W.cell? ⟨b, o + i * 3 + 1, none⟩ = some (.slice B xs.length c) ∧ W.cell? ⟨b, o + i * 3 + 2, none⟩ = some (.int .i64 n) ∧ RB W W.heap.size B xs

theorem cells_ask5 : Try.prog.cellsOf 26 = 3 := by kernel_rfl
theorem CrcAsk.below {W W' : World} {A : Option Addr} {len : Nat} (h : CrcAsk W A len) (hb : Below W.heap.size W W') : CrcAsk W' A len := by
  intro i hi
  obtain ⟨b, o, s, xs, B, c, n, h1, h2, h3, h4, h5, h6, h7, h8, h9, h10, h11⟩ := h i hi
  exact ⟨b, o, s, xs, B, c, n, h1, h2, h3, h4, h5, h6, Nat.lt_of_lt_of_le h7 hb.size, (hb.cell h7).trans h8, (hb.cell h7).trans h9, (hb.cell h7).trans h10, h11.next hb⟩
theorem CrcAsk.of {H : Type} {enc : TypeId × Value → H} {W : World} {v : Value} {d : DataW H} {p : List MemPlace} (h : Comes enc W 22 v d p) :
    ∃ (A : Option Addr) (len cap : Nat), v = .slice A len cap ∧ len ≤ cap ∧ cap ≤ maxLen ∧ CrcAsk W A len := by
  obtain ⟨A, len, cap, fuel, rfl, hl, hc, hi⟩ := read_rows Try.underlying22 cells_ask5 (by decide) h
  refine ⟨A, len, cap, rfl, hl, hc, fun i hlt => ?_⟩
  obtain ⟨b, o, cs, x, hA, hblt, hlen, hcell, htr⟩ := hi i hlt
  obtain ⟨ys, n, _, _, _, hyl, hf⟩ := DataW.trod_struct Try.underlying26 htr
  match cs, hlen with
  | [c0, c1, c2], _ =>
    have f0 := hf 0 _ rfl
    have f1 := hf 1 _ rfl
    have f2 := hf 2 _ rfl
    have k0 : Try.prog.cellsOf 23 = 1 := by kernel_rfl
    have k1 : Try.prog.cellsOf 24 = 1 := by kernel_rfl
    have k2 : Try.prog.cellsOf 3 = 1 := by kernel_rfl
    simp only [List.getElem_toArray, List.getElem_cons_zero, List.getElem_cons_succ, k0, k1, k2, List.drop_zero, List.take_succ_cons, List.take_zero, List.drop_succ_cons] at f0 f1 f2
    rw [List.getElem?_eq_getElem (by rw [hyl]; decide)] at f0 f1 f2
    obtain ⟨s0, e0, _, w0⟩ := DataW.trod_int Try.underlying23 f0
    obtain ⟨xs, B, c, e1, hc1, hc2, hx⟩ := read_bytes f1
    obtain ⟨n2, e2, _, w2⟩ := DataW.trod_int Try.underlying3 f2
    obtain ⟨s, rfl, hs⟩ := wf_u32 w0
    obtain ⟨hn1, hn2⟩ := wf_i64 w2
    simp only [List.cons.injEq, and_true] at e0 e1 e2
    subst e0; subst e1; subst e2
    have g0 := hcell 0 (by omega)
    have g1 := hcell 1 (by omega)
    have g2 := hcell 2 (by omega)
    exact ⟨b, o, s, xs, B, c, n2, hA, hs, hc1, hc2, hn1, hn2, hblt, g0, g1, g2, hx⟩

set_option maxHeartbeats 400000 in
theorem wakes5 (w : World) : Calls Try.prog 22 #[] w fun e w' => e = .returned (.bool true) ∧ Below w.heap.size w w' := by
  have kc := fun (w : World) (C : Array Value) (n c : Nat) => Lib.run_convert_bytes_const (P := Try.prog) w 24 5 C n c Try.underlying24 Try.underlying5
  go_enter Try.func22, Try.ntmps22
  go_wp2_with fail
  refine (crcSum 0 (by omega) [49, 50, 51, 52, 53, 54, 55, 56, 57] _ _ _ (RB.lit w 5 _ _ _ rfl) (by simp)).mono ?_
  rintro e w' ⟨rfl, rfl⟩
  have hc : ((Crc.sum 0 [49, 50, 51, 52, 53, 54, 55, 56, 57] : Nat) : Int) = 3421780262 := by rw [Crc.check9]; rfl
  rw [hc]
  go_wp2
  go_ret
  exact ⟨rfl, (Below.refl _ _).alloc (Nat.le_refl _) _⟩

end Go.Proofs.Ytjdokaiadljeeaa
