/-
  Numbers as bytes, the highest first, and back, in plain Lean.
-/
import Derived.Test.YtjdokaiadljeeaaMem
namespace Go.Proofs.Ytjdokaiadljeeaa

/-- a number's so many bytes, the highest first. -/
def big : Nat → Nat → List UInt8
  | 0, _ => []
  | k + 1, n => UInt8.ofNat (n / 256 ^ k) :: big k n
/-- back. -/
def ofB (xs : List UInt8) : Nat := xs.foldl (fun v x => v * 256 + x.toNat) 0
theorem big_length (k n : Nat) : (big k n).length = k := by
  induction k with
  | zero => rfl
  | succ k ih => simp [big, ih]
theorem ofB_snoc (xs : List UInt8) (x : UInt8) : ofB (xs ++ [x]) = ofB xs * 256 + x.toNat := by simp [ofB]
theorem ofB_lt (xs : List UInt8) : ofB xs < 256 ^ xs.length := by
  have : ∀ (n : Nat) (xs : List UInt8), xs.length = n → ofB xs < 256 ^ n := by
    intro n
    induction n with
    | zero => intro xs h; rw [List.eq_nil_of_length_eq_zero h]; simp [ofB]
    | succ n ih =>
      intro xs h
      have hne : xs ≠ [] := by intro h0; rw [h0] at h; simp at h
      have e := List.dropLast_concat_getLast hne
      have h1 := ih xs.dropLast (by simp; omega)
      have h2 := (xs.getLast hne).toNat_lt
      rw [← e, ofB_snoc, Nat.pow_succ]
      omega
  exact this _ xs rfl
theorem take_big (k n j : Nat) (hj : j < k) : (big k n)[j]? = some (UInt8.ofNat (n / 256 ^ (k - 1 - j))) := by
  induction k generalizing j with
  | zero => omega
  | succ k ih =>
    cases j with
    | zero => simp [big]
    | succ j =>
      simp only [big, List.getElem?_cons_succ]
      rw [ih j (by omega)]
      congr 4; omega
theorem big_take_snoc (k n j : Nat) (hj : j < k) : (big k n).take (j + 1) = (big k n).take j ++ [UInt8.ofNat (n / 256 ^ (k - 1 - j))] := take_snoc? _ _ _ (take_big k n j hj)
theorem shift_or (a : Nat) (x : Nat) (hx : x < 256) : (a * 256) ||| x = a * 256 + x := by
  have := Nat.two_pow_add_eq_or_of_lt (i := 8) (by simpa using hx) a
  rw [show a * 256 = 2 ^ 8 * a by omega]
  exact this.symm
theorem byte_shr (n : Nat) (k : Nat) : ((n / 256 ^ k : Nat) : Int) % 256 = (((UInt8.ofNat (n / 256 ^ k)).toNat : Nat) : Int) := by
  rw [UInt8.toNat_ofNat']
  omega
end Go.Proofs.Ytjdokaiadljeeaa
