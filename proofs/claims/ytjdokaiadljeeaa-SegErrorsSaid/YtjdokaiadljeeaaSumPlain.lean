/-
  The internet's sum in plain Lean: of natural numbers; 'fold' is what the foldings end in.
-/
import Derived.Test.YtjdokaiadljeeaaMem
namespace Go.Proofs.Ytjdokaiadljeeaa.Sm

def fold (n : Nat) : Nat := if n = 0 then 0 else (n - 1) % 65535 + 1
def tot : List UInt8 → Nat
  | [] => 0
  | [a] => a.toNat * 256
  | a :: b :: r => a.toNat * 256 + b.toNat + tot r
def add (s : Nat) (xs : List UInt8) : Nat := fold (s + tot xs)
def check (xs : List UInt8) : Nat := 65535 - add 0 xs

theorem fold_le (n : Nat) : fold n ≤ 65535 := by unfold fold; split <;> omega
theorem fold_small {n : Nat} (h : n ≤ 65535) : fold n = n := by unfold fold; split <;> omega
theorem fold_step (n : Nat) : fold (n % 65536 + n / 65536) = fold n := by
  unfold fold
  split <;> split <;> omega
theorem fold_fold (n : Nat) : fold (fold n) = fold n := fold_small (fold_le n)
theorem fold_add (a b : Nat) : fold (fold a + b) = fold (a + b) := by
  unfold fold
  split <;> split <;> split <;> omega
theorem fold_mod (n : Nat) : fold n % 65535 = n % 65535 := by unfold fold; split <;> omega
theorem fold_eq_iff {a b : Nat} (ha : a ≠ 0) (hb : b ≠ 0) : fold a = fold b ↔ a % 65535 = b % 65535 := by
  unfold fold
  rw [if_neg ha, if_neg hb]
  omega

theorem tot_append_even : ∀ (xs ys : List UInt8), xs.length % 2 = 0 → tot (xs ++ ys) = tot xs + tot ys
  | [], ys, _ => by simp [tot]
  | [_], _, h => by simp at h
  | a :: b :: r, ys, h => by
    have := tot_append_even r ys (by simp at h; omega)
    show a.toNat * 256 + b.toNat + tot (r ++ ys) = a.toNat * 256 + b.toNat + tot r + tot ys
    omega
theorem tot_le : ∀ (xs : List UInt8), tot xs ≤ 65535 * xs.length
  | [] => by simp [tot]
  | [a] => by have := a.toNat_lt; simp [tot]; omega
  | a :: b :: r => by
    have := tot_le r
    have h1 := a.toNat_lt
    have h2 := b.toNat_lt
    simp only [tot, List.length_cons]
    omega
theorem add_append (s : Nat) (xs ys : List UInt8) (h : xs.length % 2 = 0) : add (add s xs) ys = add s (xs ++ ys) := by
  unfold add
  rw [fold_add, tot_append_even xs ys h]
  congr 1; omega
theorem add_le (s : Nat) (xs : List UInt8) : add s xs ≤ 65535 := fold_le _
theorem check_le (xs : List UInt8) : check xs ≤ 65535 := by unfold check; omega
theorem check_eq_iff (xs ys : List UInt8) : check xs = check ys ↔ add 0 xs = add 0 ys := by
  unfold check
  have h1 := add_le 0 xs
  have h2 := add_le 0 ys
  omega

/-- the total of two bytes that stand at an even place. -/
theorem tot_split (xs : List UInt8) (p : Nat) (hp : p % 2 = 0) (a b : UInt8) (r : List UInt8) (h : xs.length = p) : tot (xs ++ a :: b :: r) = tot xs + (a.toNat * 256 + b.toNat) + tot r := by
  rw [tot_append_even xs _ (by rw [h]; exact hp)]
  simp only [tot]
  omega
/-- the next two bytes, or the last one. -/
def next : List UInt8 → Nat
  | [] => 0
  | [a] => a.toNat * 256
  | a :: b :: _ => a.toNat * 256 + b.toNat
theorem tot_next (xs : List UInt8) : tot xs = next xs + tot (xs.drop 2) := by
  match xs with
  | [] => rfl
  | [a] => simp [tot, next]
  | a :: b :: r => simp [tot, next]

end Go.Proofs.Ytjdokaiadljeeaa.Sm
