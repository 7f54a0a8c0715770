/-
  A byte written over in a row of the call's own; what that does to the sum of chapter 5.
-/
import Derived.Test.YtjdokaiadljeeaaCrcRef
import Derived.Test.YtjdokaiadljeeaaEqB
namespace Go.Proofs.Ytjdokaiadljeeaa
open Go.RowKit

theorem split_at {α : Type} {xs : List α} {p : Nat} {x : α} (h : xs[p]? = some x) : xs = xs.take p ++ x :: xs.drop (p + 1) := by
  rw [← drop_get xs p x h, List.take_append_drop]
theorem set_at {α : Type} {xs : List α} {p : Nat} {x : α} (h : xs[p]? = some x) (y : α) : xs.set p y = xs.take p ++ y :: xs.drop (p + 1) := by
  have hp : p < xs.length := by
    rcases Nat.lt_or_ge p xs.length with h1 | h1
    · exact h1
    · rw [List.getElem?_eq_none h1] at h; cases h
  rw [List.set_eq_take_append_cons_drop, if_pos hp]
theorem set_two {α : Type} {xs : List α} {p : Nat} {x x2 : α} (h : xs[p]? = some x) (h2 : xs[p + 1]? = some x2) (y y2 : α) :
    xs = xs.take p ++ x :: x2 :: xs.drop (p + 2) ∧ (xs.set p y).set (p + 1) y2 = xs.take p ++ y :: y2 :: xs.drop (p + 2) := by
  have e1 := drop_get xs (p + 1) x2 h2
  have hp : p < xs.length := by
    rcases Nat.lt_or_ge p xs.length with h1 | h1
    · exact h1
    · rw [List.getElem?_eq_none h1] at h; cases h
  refine ⟨by rw [← e1]; exact split_at h, ?_⟩
  rw [set_at h y, e1]
  rw [List.set_append_right _ _ (by rw [List.length_take]; omega)]
  have : p + 1 - (xs.take p).length = 1 := by rw [List.length_take]; omega
  rw [this]
  rfl

def turnBit (x : UInt8) (k : Nat) : UInt8 := UInt8.ofNat (x.toNat ^^^ 2 ^ k)
theorem turnBit_nat (x : UInt8) {k : Nat} (hk : k < 8) : (turnBit x k).toNat = x.toNat ^^^ 2 ^ k := by
  unfold turnBit
  rw [UInt8.toNat_ofNat']
  have h1 : (2 : Nat) ^ k < 2 ^ 8 := Nat.pow_lt_pow_right (by omega) hk
  exact Nat.mod_eq_of_lt (Nat.xor_lt_two_pow (n := 8) x.toNat_lt h1)
theorem turnBit_ne (x : UInt8) {k : Nat} (hk : k < 8) : x ≠ turnBit x k := by
  intro h
  have h1 := turnBit_nat x hk
  rw [← h] at h1
  have h2 : 2 ^ k = 0 := by
    have := congrArg (x.toNat ^^^ ·) h1
    simpa [Crc.xor_cancel] using this.symm
  have : 0 < 2 ^ k := Nat.two_pow_pos k
  omega
theorem turn_val (x : UInt8) {k : Nat} (hk : k < 8) : bits .xor .u8 (x.toNat : Int) (2 ^ k % 256) = (((turnBit x k).toNat : Nat) : Int) := by
  have h1 : (2 : Nat) ^ k < 256 := by
    have : (2 : Nat) ^ k < 2 ^ 8 := Nat.pow_lt_pow_right (by omega) hk
    omega
  have e : ((2 : Int) ^ k % 256) = ((2 ^ k : Nat) : Int) := by
    rw [show ((2 : Int) ^ k) = ((2 ^ k : Nat) : Int) by simp]
    have h2 : (2 ^ k : Nat) % 256 = 2 ^ k := Nat.mod_eq_of_lt h1
    calc ((2 ^ k : Nat) : Int) % 256 = (((2 ^ k : Nat) % 256 : Nat) : Int) := by simp
      _ = _ := by rw [h2]
  rw [e, u8_xor_nat _ _ (by have := x.toNat_lt; omega) h1, turnBit_nat x hk]
/-- a byte, turned by whatever number's lowest byte. -/
def xorByte (x : UInt8) (n : Int) : UInt8 := UInt8.ofNat (x.toNat ^^^ (n % 256).toNat)
theorem xor_val (x : UInt8) (n : Int) : bits .xor .u8 (x.toNat : Int) (n % 256) = (((xorByte x n).toNat : Nat) : Int) := by
  have h0 : 0 ≤ n % 256 := Int.emod_nonneg _ (by omega)
  have h1 : n % 256 < 256 := Int.emod_lt_of_pos _ (by omega)
  have e : n % 256 = (((n % 256).toNat : Nat) : Int) := by omega
  rw [e, u8_xor_nat _ _ (by have := x.toNat_lt; omega) (by omega)]
  unfold xorByte
  have h2 : x.toNat ^^^ (n % 256).toNat < 2 ^ 8 := Nat.xor_lt_two_pow (n := 8) x.toNat_lt (by omega)
  rw [UInt8.toNat_ofNat', Nat.mod_eq_of_lt h2]

/-- a byte stored into a row of the call's own. -/
theorem store_byte {w : World} {base g n cap : Nat} {xs : List UInt8} (hown : w.ownsRow base 5 1 (.slice (some ⟨g, 0, none⟩) n cap) n (xs.map bv)) (p : Nat) (_hp : p < n) (y : UInt8) {v : Value} (hv : v = .int .u8 (y.toNat : Int)) :
    ((w.setCell ⟨g, p, none⟩ v).drew).ownsRow base 5 1 (.slice (some ⟨g, 0, none⟩) n cap) n ((xs.set p y).map bv) ∧ (∀ b o, b ≠ g → ((w.setCell ⟨g, p, none⟩ v).drew).cell? ⟨b, o, none⟩ = w.cell? ⟨b, o, none⟩) ∧
      ((w.setCell ⟨g, p, none⟩ v).drew).heap.size = w.heap.size ∧ (∀ B W0, Below B W0 w → B ≤ g → Below B W0 ((w.setCell ⟨g, p, none⟩ v).drew)) := by
  subst hv
  refine ⟨?_, ?_, ?_, ?_⟩
  · have := hown.stored p (.int .u8 (y.toNat : Int))
    rw [← List.map_set] at this
    exact this.1
  · intro b o hb
    exact World.cell?_setCell_other w _ _ _ (by intro h; injection h with h1; exact hb h1.symm)
  · show ((w.setCell ⟨g, p, none⟩ _)).heap.size = _
    simp [World.setCell]
  · intro B W0 hb hB
    exact (hb.setCell (p := ⟨g, p, none⟩) hB _).drew

/-- a byte stored into a row of the call's own, no draw. -/
theorem own_set {w : World} {base g n cap : Nat} {xs : List UInt8} (hown : w.ownsRow base 5 1 (.slice (some ⟨g, 0, none⟩) n cap) n (xs.map bv)) (p : Nat) (y : UInt8) :
    (w.setCell ⟨g, p, none⟩ (.int .u8 (y.toNat : Int))).ownsRow base 5 1 (.slice (some ⟨g, 0, none⟩) n cap) n ((xs.set p y).map bv) := by
  have := hown.stored p (.int .u8 (y.toNat : Int))
  rw [← List.map_set] at this
  exact this.1
theorem own_setv {w : World} {base g n cap : Nat} {xs : List UInt8} (hown : w.ownsRow base 5 1 (.slice (some ⟨g, 0, none⟩) n cap) n (xs.map bv)) (p : Nat) (y : UInt8) {v : Value} (hv : v = .int .u8 (y.toNat : Int)) :
    (w.setCell ⟨g, p, none⟩ v).ownsRow base 5 1 (.slice (some ⟨g, 0, none⟩) n cap) n ((xs.set p y).map bv) := by
  subst hv
  exact own_set hown p y
theorem own_cell {w : World} {base g n cap : Nat} {xs : List UInt8} (hown : w.ownsRow base 5 1 (.slice (some ⟨g, 0, none⟩) n cap) n (xs.map bv)) (p : Nat) (hp : p < n) :
    ∃ x : UInt8, xs[p]? = some x ∧ w.cell? ⟨g, p, none⟩ = some (.int .u8 (x.toNat : Int)) ∧ w.frozen? ⟨g, p, none⟩ = false := by
  have hl : xs.length = n := by have := hown.1; simpa using this
  refine ⟨xs[p], List.getElem?_eq_getElem (by omega), ?_, hown.frozenAt p⟩
  rw [hown.cellAt p (by omega), List.getElem?_map, List.getElem?_eq_getElem (by omega)]
  rfl
/-- what is owned is read. -/
theorem own_read {w : World} {base g n cap : Nat} {xs : List UInt8} (hown : w.ownsRow base 5 1 (.slice (some ⟨g, 0, none⟩) n cap) n (xs.map bv)) : xs.length = n ∧ RB w w.heap.size (some ⟨g, 0, none⟩) xs := by
  have hl : xs.length = n := by have := hown.1; simpa using this
  subst hl
  exact ⟨rfl, RB.of_own hown⟩
theorem byte_hi (n : Nat) (hn : n ≤ 65535) : ((n : Int) / 256) = (((UInt8.ofNat (n / 256)).toNat : Nat) : Int) := by
  rw [UInt8.toNat_ofNat']
  omega
theorem byte_lo (n : Nat) : (n : Int) % 256 = (((UInt8.ofNat n).toNat : Nat) : Int) := by
  rw [UInt8.toNat_ofNat']
  omega

end Go.Proofs.Ytjdokaiadljeeaa
