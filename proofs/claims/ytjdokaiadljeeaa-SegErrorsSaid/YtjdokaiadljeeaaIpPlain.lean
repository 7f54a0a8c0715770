/-
  Chapter 10 in plain Lean: a packet's bytes; what bytes are as a packet.
-/
import Derived.Test.YtjdokaiadljeeaaNumPlain
import Derived.Test.YtjdokaiadljeeaaSumMore
namespace Go.Proofs.Ytjdokaiadljeeaa

/-- a packet's numbers and bytes. -/
structure Pk where
  s : Int
  d : Int
  p : Int
  t : Int
  i : Int
  xs : List UInt8
def inR (n most : Int) : Bool := decide (0 ≤ n) && decide (n ≤ most)
theorem inR_iff {n most : Int} : inR n most = true ↔ 0 ≤ n ∧ n ≤ most := by simp [inR]
def Pk.ok (q : Pk) : Bool := inR q.s 4294967295 && (inR q.d 4294967295 && (inR q.p 255 && (inR q.t 255 && (inR q.i 65535 && decide (q.xs.length ≤ 1480)))))
theorem Pk.ok_iff {q : Pk} : q.ok = true ↔ (0 ≤ q.s ∧ q.s ≤ 4294967295) ∧ (0 ≤ q.d ∧ q.d ≤ 4294967295) ∧ (0 ≤ q.p ∧ q.p ≤ 255) ∧ (0 ≤ q.t ∧ q.t ≤ 255) ∧ (0 ≤ q.i ∧ q.i ≤ 65535) ∧ q.xs.length ≤ 1480 := by
  simp only [Pk.ok, Bool.and_eq_true, inR_iff, decide_eq_true_eq]
def ipHead0 (s d p t i n : Nat) : List UInt8 :=
  [0x45, 0] ++ big 2 (20 + n) ++ big 2 i ++ [0x40, 0, UInt8.ofNat t, UInt8.ofNat p, 0, 0] ++ big 4 s ++ big 4 d
theorem ipHead0_length (s d p t i n : Nat) : (ipHead0 s d p t i n).length = 20 := by simp [ipHead0, big_length]
def ipHead (s d p t i n : Nat) : List UInt8 :=
  ((ipHead0 s d p t i n).set 10 (UInt8.ofNat (Sm.check (ipHead0 s d p t i n) / 256))).set (10 + 1) (UInt8.ofNat (Sm.check (ipHead0 s d p t i n)))
theorem ipHead_length (s d p t i n : Nat) : (ipHead s d p t i n).length = 20 := by simp [ipHead, ipHead0_length]
def Pk.bytes (q : Pk) : List UInt8 := ipHead q.s.toNat q.d.toNat q.p.toNat q.t.toNat q.i.toNat q.xs.length ++ q.xs
theorem Pk.bytes_length (q : Pk) : q.bytes.length = 20 + q.xs.length := by simp [Pk.bytes, ipHead_length]
def Pk.out (q : Pk) : List UInt8 × Int := if q.ok = true then (q.bytes, 0) else ([], 1)

def b8 (xs : List UInt8) (k : Nat) : Nat := (xs[k]?.getD 0).toNat
def num2 (xs : List UInt8) (k m : Nat) : Nat := ofB ((xs.drop k).take m)
def Pk.zero : Pk := ⟨0, 0, 0, 0, 0, []⟩
def ipN (xs : List UInt8) : Nat := 4 * (b8 xs 0 % 16)
def parsed (xs : List UInt8) : Pk := ⟨num2 xs 12 4, num2 xs 16 4, b8 xs 9, b8 xs 8, num2 xs 4 2, (xs.take (num2 xs 2 2)).drop (ipN xs)⟩
/-- the packet that bytes are, or what is wrong. -/
def parseOut (xs : List UInt8) : Pk × Int :=
  if xs.length < 20 then (.zero, 7)
  else if b8 xs 0 / 16 ≠ 4 ∨ ipN xs < 20 then (.zero, 1)
  else if xs.length < ipN xs then (.zero, 7)
  else if num2 xs 2 2 < ipN xs then (.zero, 1)
  else if xs.length < num2 xs 2 2 then (.zero, 7)
  else if Sm.check (xs.take (ipN xs)) ≠ 0 then (.zero, 8)
  else if num2 xs 6 2 % 16384 ≠ 0 then (.zero, 9)
  else (parsed xs, 0)

theorem ofB_big (k n : Nat) (h : n < 256 ^ k) : ofB (big k n) = n := by
  have : ∀ (k n v : Nat), (big k n).foldl (fun v x => v * 256 + x.toNat) v = v * 256 ^ k + n % 256 ^ k := by
    intro k
    induction k with
    | zero => intro n v; simp [big, Nat.mod_one]
    | succ k ih =>
      intro n v
      simp only [big, List.foldl_cons]
      rw [ih, UInt8.toNat_ofNat']
      have h1 : n % 256 ^ (k + 1) = 256 ^ k * (n / 256 ^ k % 256) + n % 256 ^ k := by
        rw [Nat.pow_succ, Nat.mod_mul]; omega
      rw [h1, show (256 : Nat) ^ (k + 1) = 256 ^ k * 256 from rfl]
      generalize 256 ^ k = P
      generalize n % P = r
      generalize n / P = u
      have h2 : u % 2 ^ 8 = u % 256 := rfl
      rw [h2, Nat.add_mul, Nat.mul_comm (u % 256) P, Nat.mul_assoc v, Nat.mul_comm 256 P, Nat.add_assoc]
  unfold ofB
  rw [this k n 0, Nat.mod_eq_of_lt h]
  omega

end Go.Proofs.Ytjdokaiadljeeaa
