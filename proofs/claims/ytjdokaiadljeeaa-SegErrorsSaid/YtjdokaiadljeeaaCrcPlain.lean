/-
  CRC-32 in plain Lean, on natural numbers below 2^32: a step of one bit, of one byte, of bytes; it goes on over parts; what is turned in one byte, or in two that stand side by side, is seen.
-/
namespace Go.Proofs.Ytjdokaiadljeeaa.Crc

def step (s : Nat) : Nat := (s >>> 1) ^^^ (3988292384 * (s % 2))
def steps : Nat → Nat → Nat
  | 0, s => s
  | n + 1, s => steps n (step s)
def feed (s : Nat) : List UInt8 → Nat
  | [] => s
  | x :: xs => feed (steps 8 (s ^^^ x.toNat)) xs
def sum (s : Nat) (xs : List UInt8) : Nat := 4294967295 ^^^ feed (4294967295 ^^^ s) xs

theorem step_lt {s : Nat} (h : s < 4294967296) : step s < 4294967296 := by
  unfold step
  have h1 : s >>> 1 < 2 ^ 32 := by rw [Nat.shiftRight_eq_div_pow]; omega
  have h2 : 3988292384 * (s % 2) < 2 ^ 32 := by have := Nat.mod_lt s (show 0 < 2 by omega); omega
  exact Nat.xor_lt_two_pow h1 h2
theorem steps_lt {s : Nat} (n : Nat) (h : s < 4294967296) : steps n s < 4294967296 := by
  induction n generalizing s with
  | zero => exact h
  | succ n ih => exact ih (step_lt h)
theorem xor_lt {a b : Nat} (h : a < 4294967296) (k : b < 4294967296) : a ^^^ b < 4294967296 := Nat.xor_lt_two_pow (n := 32) h k
theorem byte_lt (x : UInt8) : x.toNat < 256 := x.toNat_lt
theorem feed_lt {s : Nat} (xs : List UInt8) (h : s < 4294967296) : feed s xs < 4294967296 := by
  induction xs generalizing s with
  | nil => exact h
  | cons x xs ih => exact ih (steps_lt 8 (xor_lt h (by have := byte_lt x; omega)))
theorem sum_lt {s : Nat} (xs : List UInt8) (h : s < 4294967296) : sum s xs < 4294967296 := xor_lt (by omega) (feed_lt xs (xor_lt (by omega) h))

theorem xor_cancel (a b : Nat) : a ^^^ (a ^^^ b) = b := by rw [← Nat.xor_assoc, Nat.xor_self, Nat.zero_xor]
theorem xor_inj {a b c : Nat} (h : a ^^^ b = a ^^^ c) : b = c := by
  have := congrArg (a ^^^ ·) h
  simpa only [xor_cancel] using this

theorem feed_append (s : Nat) (xs ys : List UInt8) : feed s (xs ++ ys) = feed (feed s xs) ys := by
  induction xs generalizing s with
  | nil => rfl
  | cons x xs ih => exact ih _
theorem sum_parts (s : Nat) (xs ys : List UInt8) : sum (sum s xs) ys = sum s (xs ++ ys) := by
  unfold sum; rw [xor_cancel, feed_append]
theorem sum_nil (s : Nat) : sum s [] = s := by unfold sum; exact xor_cancel _ _

/- a step is linear, and no two numbers below 2^32 go to one -/
theorem mod2_xor (a b : Nat) : (a ^^^ b) % 2 = (a % 2) ^^^ (b % 2) := by
  have := Nat.xor_mod_two_pow (a := a) (b := b) (n := 1)
  simpa using this
theorem mul_xor (p a b : Nat) : p * ((a % 2) ^^^ (b % 2)) = (p * (a % 2)) ^^^ (p * (b % 2)) := by
  rcases Nat.mod_two_eq_zero_or_one a with h | h <;> rcases Nat.mod_two_eq_zero_or_one b with k | k <;> rw [h, k] <;> simp
theorem step_xor (a b : Nat) : step (a ^^^ b) = step a ^^^ step b := by
  unfold step
  rw [Nat.shiftRight_xor_distrib, mod2_xor, mul_xor]
  ac_rfl
theorem steps_xor (n a b : Nat) : steps n (a ^^^ b) = steps n a ^^^ steps n b := by
  induction n generalizing a b with
  | zero => rfl
  | succ n ih => show steps n (step (a ^^^ b)) = _; rw [step_xor, ih]; rfl
theorem step_zero {d : Nat} (h : d < 4294967296) (h0 : step d = 0) : d = 0 := by
  unfold step at h0
  have hs : d >>> 1 = 3988292384 * (d % 2) := by
    have := congrArg (d >>> 1 ^^^ ·) h0
    simpa [xor_cancel] using this.symm
  rw [Nat.shiftRight_eq_div_pow] at hs
  rcases Nat.mod_two_eq_zero_or_one d with k | k <;> rw [k] at hs <;> omega
theorem steps_zero {n d : Nat} (h : d < 4294967296) (h0 : steps n d = 0) : d = 0 := by
  induction n generalizing d with
  | zero => exact h0
  | succ n ih => exact step_zero h (ih (step_lt h) h0)
theorem xor_eq_zero {a b : Nat} (h : a ^^^ b = 0) : a = b := by
  have := congrArg (a ^^^ ·) h
  simpa [xor_cancel] using this.symm
theorem steps_inj {n a b : Nat} (ha : a < 4294967296) (hb : b < 4294967296) (h : steps n a = steps n b) : a = b := by
  apply xor_eq_zero
  apply steps_zero (n := n) (xor_lt ha hb)
  rw [steps_xor, h, Nat.xor_self]
theorem feed_inj {a b : Nat} (xs : List UInt8) (ha : a < 4294967296) (hb : b < 4294967296) (h : feed a xs = feed b xs) : a = b := by
  induction xs generalizing a b with
  | nil => exact h
  | cons x xs ih =>
    have hx : x.toNat < 4294967296 := by have := byte_lt x; omega
    have h1 := ih (steps_lt 8 (xor_lt ha hx)) (steps_lt 8 (xor_lt hb hx)) h
    have h2 := steps_inj (xor_lt ha hx) (xor_lt hb hx) h1
    rw [Nat.xor_comm a, Nat.xor_comm b] at h2
    exact xor_inj h2
/-- one byte that is another: another sum. -/
theorem sum_byte {s : Nat} (hs : s < 4294967296) (pre post : List UInt8) (x y : UInt8) (hxy : x ≠ y) : sum s (pre ++ x :: post) ≠ sum s (pre ++ y :: post) := by
  intro h
  have h1 := xor_inj h
  rw [feed_append, feed_append] at h1
  have hf := feed_lt pre (xor_lt (show 4294967295 < 4294967296 by omega) hs)
  have hx : x.toNat < 4294967296 := by have := byte_lt x; omega
  have hy : y.toNat < 4294967296 := by have := byte_lt y; omega
  have h2 := feed_inj post (steps_lt 8 (xor_lt hf hx)) (steps_lt 8 (xor_lt hf hy)) h1
  have h3 := xor_inj (steps_inj (xor_lt hf hx) (xor_lt hf hy) h2)
  exact hxy (UInt8.toNat_inj.1 h3)
/-- one turned bit of a byte, the next one whatever: another sum. -/
theorem sum_two {s : Nat} (hs : s < 4294967296) (pre post : List UInt8) (x y x' y' : UInt8) (k : Nat) (hk : k < 8) (hx' : x'.toNat = x.toNat ^^^ 2 ^ k) :
    sum s (pre ++ x :: y :: post) ≠ sum s (pre ++ x' :: y' :: post) := by
  intro h
  have h1 := xor_inj h
  rw [feed_append, feed_append] at h1
  have hf := feed_lt pre (xor_lt (show 4294967295 < 4294967296 by omega) hs)
  have lt32 : ∀ z : UInt8, z.toNat < 4294967296 := fun z => by have := byte_lt z; omega
  have h2 := feed_inj (a := steps 8 (steps 8 (feed (4294967295 ^^^ s) pre ^^^ x.toNat) ^^^ y.toNat)) (b := steps 8 (steps 8 (feed (4294967295 ^^^ s) pre ^^^ x'.toNat) ^^^ y'.toNat)) post
    (steps_lt 8 (xor_lt (steps_lt 8 (xor_lt hf (lt32 x))) (lt32 y))) (steps_lt 8 (xor_lt (steps_lt 8 (xor_lt hf (lt32 x'))) (lt32 y'))) h1
  have h3 := steps_inj (xor_lt (steps_lt 8 (xor_lt hf (lt32 x))) (lt32 y)) (xor_lt (steps_lt 8 (xor_lt hf (lt32 x'))) (lt32 y')) h2
  rw [hx', ← Nat.xor_assoc, steps_xor 8 _ (2 ^ k), Nat.xor_assoc] at h3
  have h4 := xor_inj h3
  have h5 : steps 8 (2 ^ k) = y.toNat ^^^ y'.toNat := by rw [h4, Nat.xor_assoc, Nat.xor_self, Nat.xor_zero]
  have h6 : y.toNat ^^^ y'.toNat < 256 := Nat.xor_lt_two_pow (n := 8) (byte_lt y) (byte_lt y')
  have h7 : ∀ j : Fin 8, 256 ≤ steps 8 (2 ^ j.val) := by decide
  have := h7 ⟨k, hk⟩
  simp only at this
  omega

theorem check9 : sum 0 [49, 50, 51, 52, 53, 54, 55, 56, 57] = 3421780262 := by decide +kernel

end Go.Proofs.Ytjdokaiadljeeaa.Crc
