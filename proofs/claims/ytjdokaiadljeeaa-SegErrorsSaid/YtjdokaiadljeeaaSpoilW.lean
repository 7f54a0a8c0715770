/-
  The walks of kiosklaw0's Bytes and CellsWeight.
-/
import Derived.Test.YtjdokaiadljeeaaBytesW
namespace Go.Proofs.Ytjdokaiadljeeaa
open Go.RowKit

set_option maxRecDepth 100000 in
set_option maxHeartbeats 800000 in
/-- kiosklaw0.Bytes: writes over a row of the call's own, and appends to it. -/
theorem spoilBytes (base : Nat) (xs : List UInt8) (n : Nat) (A : Option Addr) (c : Nat) (w : World) (hown : w.ownsRow base 5 1 (.slice A n c) n (xs.map bv)) (hbase : base ≤ w.heap.size) (hn : n ≤ 140737488351232) :
    Calls Try.prog 33 #[.slice A n c] w fun e w' => e = .returned (.tuple #[]) ∧ Below base w w' := by
  have HO := Lib.hid hown
  clear hown
  go_enter Try.func33, Try.ntmps33
  go_wp2
  go_loopw [2] (fun i wr => ∃ (k : Nat) (ys : List UInt8), k ≤ n ∧ i = .int .i64 k ∧ wr.ownsRow base 5 1 (.slice A n c) n (ys.map bv) ∧ Below base w wr ∧ base ≤ wr.heap.size) (fun i _ => n - (intOf i).toNat)
  case atStart => exact ⟨0, xs, Nat.zero_le _, rfl, HO.out, Below.refl _ _, hbase⟩
  case round =>
    obtain ⟨k, ys, hk, rfl, hown, hb, hbs⟩ := hrel
    by_cases hlt : k < n
    · obtain ⟨g, cap, hA, hg, hg2⟩ := hown.form (by omega)
      injection hA with hA _ _
      subst hA
      obtain ⟨y, hy, hcell, hfz⟩ := own_cell hown k hlt
      have hkI : (k : Int) < (n : Int) := by omega
      have EV := Lib.hid (xor_val y 85)
      have HO2 := Lib.hid (fun v hv => own_setv hown k (xorByte y 85) (v := v) hv)
      have hb2 := Lib.hid (fun v => hb.setCell (p := ⟨g, k, none⟩) hg v)
      have hsz := Lib.hid (fun v => show base ≤ (wr.setCell ⟨g, k, none⟩ v).heap.size by simp [World.setCell]; omega)
      clear hown hb hy
      go_wp2
      go_roundw
      case rel => exact ⟨k + 1, ys.set k (xorByte y 85), by omega, by go_num, HO2.out _ (by have := EV.out; exact congrArg _ this), hb2.out _, hsz.out _⟩
      case measure => simp [intOf]; omega
    · go_wp2_with (at_builtin; refine wpList_append1 base hb rfl _ _ 24 rfl base 5 (.int .u8 0) 1 Try.underlying24 info_u8 rfl _ _ _ (by exact rfl) hown (.int .u8 5) (by exact rfl) rfl (by omega) (by unfold maxLen; omega) hbs (Nat.le_refl _) ?_; intro A' c' w' hown' hb')
      go_end0
      exact ⟨rfl, hb'⟩

/-- a list of byte strings that came in. -/
def Cells (W : World) (A : Option Addr) (len : Nat) : Prop :=
  ∀ i, i < len → ∃ (b o : Nat) (xs : List UInt8) (B : Option Addr) (c : Nat), A = some ⟨b, o, none⟩ ∧ b < W.heap.size ∧ W.cell? ⟨b, o + i, none⟩ = some (.slice B xs.length c) ∧ xs.length ≤ c ∧ c ≤ 140737488351232 ∧ RB W W.heap.size B xs
theorem Cells.below {W W' : World} {A : Option Addr} {len : Nat} (h : Cells W A len) (hb : Below W.heap.size W W') : Cells W' A len := by
  intro i hi
  obtain ⟨b, o, xs, B, c, hA, hlt, c0, a0, z0, r0⟩ := h i hi
  exact ⟨b, o, xs, B, c, hA, Nat.lt_of_lt_of_le hlt hb.size, (hb.cell hlt).trans c0, a0, z0, r0.next hb⟩
/-- the first k of them are at most m bytes long. -/
def Short (W : World) (A : Option Addr) (k m : Nat) : Prop :=
  ∀ i, i < k → ∀ (b o n : Nat) (B : Option Addr) (c : Nat), A = some ⟨b, o, none⟩ → W.cell? ⟨b, o + i, none⟩ = some (.slice B n c) → n ≤ m
theorem Short.step {W : World} {b o : Nat} {k m n : Nat} {B : Option Addr} {c : Nat} (h : Short W (some ⟨b, o, none⟩) k m) (hc : W.cell? ⟨b, o + k, none⟩ = some (.slice B n c)) : Short W (some ⟨b, o, none⟩) (k + 1) (m + n) := by
  intro i hi b' o' n' B' c' hA hcell
  injection hA with hA
  injection hA with h1 h2
  subst h1; subst h2
  by_cases hk : i < k
  · have := h i hk _ _ n' B' c' rfl hcell; omega
  · obtain rfl : i = k := by omega
    rw [hc] at hcell
    simp only [Option.some.injEq, Value.slice.injEq] at hcell
    omega

set_option maxRecDepth 100000 in
set_option maxHeartbeats 800000 in
/-- CellsWeight: some number; if it is at most 20000, so is each length. -/
theorem cellsWeight (A : Option Addr) (len cap : Nat) (w : World) (hl : len ≤ cap) (_hc : cap ≤ 9223372036854775807) (hlen : len ≤ 140737488351232) (ha : Cells w A len) :
    Calls Try.prog 29 #[.slice A len cap] w fun e w' => ∃ m : Nat, e = .returned (.int .i64 (m : Int)) ∧ (m ≤ 20000 → Short w A len 20000) ∧ w = w' := by
  go_enter Try.func29, Try.ntmps29
  go_wp2
  go_loop [3, 4] (fun n i => ∃ (k m : Nat), i = .int .i64 (k : Nat) ∧ n = .int .i64 (m : Nat) ∧ k ≤ len ∧ m ≤ 281474976710656 ∧ Hid (Short w A k m)) (fun _ i => len - (intOf i).toNat)
  case atStart => exact ⟨0, len, rfl, rfl, Nat.zero_le _, by omega, fun i hi => absurd hi (by omega)⟩
  case round =>
    obtain ⟨k, m, rfl, rfl, hk, hm, hs⟩ := hrel
    by_cases hlt : k < len
    · by_cases h20 : (m : Int) < 1048576
      · obtain ⟨b, o, xs, B, c, rfl, hblt, c0, h1, h2, _⟩ := ha k hlt
        have HS := Lib.hid (hs.out.step c0)
        go_wp2
        go_round
        case rel => exact ⟨k + 1, m + xs.length, by go_num, by go_num, by omega, by omega, HS⟩
        case measure => simp [intOf]; omega
      · go_wp2
        go_ret
        exact ⟨m, rfl, fun h => absurd h (by omega), rfl⟩
    · obtain rfl : k = len := by omega
      go_wp2
      go_ret
      refine ⟨m, rfl, fun h => ?_, rfl⟩
      intro i hi b o n B c hA hcell
      have := hs.out i hi b o n B c hA hcell
      omega

end Go.Proofs.Ytjdokaiadljeeaa
