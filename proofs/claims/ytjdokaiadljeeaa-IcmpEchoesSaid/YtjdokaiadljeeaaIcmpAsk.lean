/-
  How the argument of chapter 11's laws reads; the wakes of chapter 11.
-/
import Derived.Test.YtjdokaiadljeeaaRead
import Derived.Test.YtjdokaiadljeeaaSpoilW
import Derived.Test.YtjdokaiadljeeaaIcmpR
namespace Go.Proofs.Ytjdokaiadljeeaa
open Go.ChangeShapes Go.WideShapes Go.ChangeAt Go.RowKit Go.Deep

theorem cells_bytes : Try.prog.cellsOf 24 = 1 := by kernel_rfl
theorem bytes_bytes : Try.prog.bytesOf 24 = 24 := by kernel_rfl
theorem Cells.of {H : Type} {enc : TypeId × Value → H} {W : World} {v : Value} {d : DataW H} {p : List MemPlace} (h : Comes enc W 40 v d p) :
    ∃ (A : Option Addr) (len cap : Nat), v = .slice A len cap ∧ len ≤ cap ∧ cap ≤ maxLen ∧ len ≤ 140737488351232 ∧ Cells W A len := by
  have hfit := Fit.of h.2.2
  have hlen : ∀ (A : Option Addr) (len cap : Nat), v = .slice A len cap → len ≤ 140737488351232 := by
    intro A len cap hv
    obtain ⟨⟨fuel, hf⟩, _, _⟩ := h
    subst hv
    rcases open_slice Try.underlying40 hf with ⟨hcs, _⟩ | ⟨a, len', cap', m', n, D, Pl, hcs, _, hl, hc, hmm, hxe, hi⟩
    · simp [Value.cells] at hcs; omega
    · simp [Value.cells] at hcs
      obtain ⟨rfl, rfl, rfl⟩ := hcs
      simp only [Prod.mk.injEq] at hxe
      rw [hxe.1] at hfit
      have := (hfit.slice Try.underlying40).1
      rw [bytes_bytes] at this
      simp only [List.length_map, List.length_range] at this
      omega
  obtain ⟨A, len, cap, fuel, rfl, hl, hc, hi⟩ := read_rows Try.underlying40 cells_bytes (by decide) h
  refine ⟨A, len, cap, rfl, hl, hc, hlen _ _ _ rfl, fun i hlt => ?_⟩
  obtain ⟨b, o, cs, x, hA, hblt, hlen2, hcell, htr, hft⟩ := hi i hlt
  match cs, hlen2 with
  | [k0], _ =>
    obtain ⟨xs, B, p0, e, a0, z0, r0⟩ := read_bytes hft htr
    simp only [List.cons.injEq, and_true] at e
    subst e
    have c0 := hcell 0 (by omega)
    simp only [Nat.mul_one, Nat.add_zero] at c0
    exact ⟨b, o, xs, B, p0, hA, hblt, c0, a0, z0, r0⟩

theorem num11 (n : Int) (w : World) : Calls Try.prog 32 #[.int .i64 n] w fun e w' => e = .returned (.int .i64 n) ∧ w = w' := by
  go_enter Try.func32, Try.ntmps32
  go_wp2
  go_ret
  exact ⟨rfl, rfl⟩

theorem wakes11_facts : Sm.check [8, 0, 0, 0, 0, 1, 0, 2] = 63484 ∧ replyOut [8, 0, 247, 252, 0, 1, 0, 2] = ([0, 0, 255, 252, 0, 1, 0, 2], 0) ∧ Sm.check [0, 0, 255, 252, 0, 1, 0, 2] = 0 := by
  decide +kernel

set_option maxRecDepth 100000 in
set_option maxHeartbeats 800000 in
theorem wakes11 (w : World) : Calls Try.prog 34 #[] w fun e w' => e = .returned (.bool true) ∧ Below w.heap.size w w' := by
  obtain ⟨h1, h2, h3⟩ := wakes11_facts
  have h1' := Lib.hid h1
  have h2' := Lib.hid h2
  have h3' := Lib.hid h3
  clear h1 h2 h3
  go_enter Try.func34, Try.ntmps34
  go_wp2_with fail
  (with_reducible refine (sumCheck [8, 0, 0, 0, 0, 1, 0, 2] 8 rfl (some ⟨w.heap.size, 0, none⟩) _ _ (RB.litn w w.heap.size rfl 5 #[.int .u8 8, .int .u8 0, .int .u8 0, .int .u8 0, .int .u8 0, .int .u8 1, .int .u8 0, .int .u8 2] (0, 0) [8, 0, 0, 0, 0, 1, 0, 2] rfl) ?_).mono ?_)
  · omega
  rintro e w' ⟨rfl, rfl⟩
  rw [h1'.out]
  go_wp2_with fail
  have K := icmpReply [8, 0, 247, 252, 0, 1, 0, 2] 8 rfl (some ⟨w.heap.size, 0, none⟩) 8 _ (RB.litn w w.heap.size rfl 5 #[.int .u8 8, .int .u8 0, .int .u8 247, .int .u8 252, .int .u8 0, .int .u8 1, .int .u8 0, .int .u8 2] (0, 0) [8, 0, 247, 252, 0, 1, 0, 2] rfl) (by omega)
  rw [h2'.out] at K
  have KK := Lib.hid K
  clear K
  have hb0 : Below w.heap.size w (w.alloc (.cells #[.int .u8 8, .int .u8 0, .int .u8 247, .int .u8 252, .int .u8 0, .int .u8 1, .int .u8 0, .int .u8 2] 5)) := (Below.refl _ _).alloc (Nat.le_refl _) _
  have hs0 : w.heap.size ≤ (w.alloc (.cells #[.int .u8 8, .int .u8 0, .int .u8 247, .int .u8 252, .int .u8 0, .int .u8 1, .int .u8 0, .int .u8 2] 5)).heap.size := hb0.size
  generalize (w.alloc (.cells #[.int .u8 8, .int .u8 0, .int .u8 247, .int .u8 252, .int .u8 0, .int .u8 1, .int .u8 0, .int .u8 2] 5)) = w1 at KK hb0 hs0 ⊢
  (with_reducible refine KK.out.mono ?_)
  rintro e w2 ⟨A, c, he, hown, hb⟩
  have he' : e = .returned (.tuple #[.slice A 8 c, .int .i64 0]) := he
  have hown' : w2.ownsRow w1.heap.size 5 1 (.slice A 8 c) 8 (([0, 0, 255, 252, 0, 1, 0, 2] : List UInt8).map bv) := hown
  subst he'
  have hb2 : Below w.heap.size w w2 := hb0.trans (hb.mono hs0)
  obtain ⟨g, rfl, hg, hg2⟩ := own_form hown' (by omega)
  obtain ⟨x0, hx0, f0, z0⟩ := own_cell hown' 0 (by omega)
  simp at hx0
  subst hx0
  have f0' : w2.cell? ⟨g, 0, none⟩ = some (.int .u8 0) := f0
  have KC := Lib.hid (sumCheck [0, 0, 255, 252, 0, 1, 0, 2] 8 rfl (some ⟨g, 0, none⟩) c w2 (own_read hown').2 (by omega))
  have hq : (((Sm.check [0, 0, 255, 252, 0, 1, 0, 2] : Nat) : Int) == 0) = true := by rw [h3'.out]; rfl
  clear KK hown hown' he f0 z0 hb
  go_wp2_with fail
  (with_reducible refine (num11 0 w2).mono ?_)
  rintro e w' ⟨rfl, rfl⟩
  go_wp2_with fail
  (with_reducible refine KC.out.mono ?_)
  rintro e w' ⟨rfl, rfl⟩
  go_wp2
  go_ret
  exact ⟨rfl, hb2⟩

end Go.Proofs.Ytjdokaiadljeeaa
