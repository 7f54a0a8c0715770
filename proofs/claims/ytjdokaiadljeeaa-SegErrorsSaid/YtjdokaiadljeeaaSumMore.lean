/-
  What a byte that is written over does to the internet's sum.
-/
import Derived.Test.YtjdokaiadljeeaaSumPlain
import Derived.Test.YtjdokaiadljeeaaCrcTurn
namespace Go.Proofs.Ytjdokaiadljeeaa.Sm
open Go.Proofs.Ytjdokaiadljeeaa

def wt (p : Nat) : Nat := if p % 2 = 0 then 256 else 1
theorem wt_add2 (p : Nat) : wt (p + 2) = wt p := by unfold wt; rw [Nat.add_mod_right]
theorem tot_set : ∀ (xs : List UInt8) (p : Nat) (x y : UInt8), xs[p]? = some x → tot (xs.set p y) + x.toNat * wt p = tot xs + y.toNat * wt p
  | [], p, x, y, h => by simp at h
  | [a], 0, x, y, h => by simp at h; subst h; simp [tot, wt]; omega
  | [a], p + 1, x, y, h => by simp at h
  | a :: b :: r, 0, x, y, h => by simp at h; subst h; simp [tot, wt]; omega
  | a :: b :: r, 1, x, y, h => by simp at h; subst h; simp [tot, wt]; omega
  | a :: b :: r, p + 2, x, y, h => by
    have := tot_set r p x y (by simpa using h)
    rw [wt_add2]
    simp only [List.set_cons_succ, tot]
    omega

theorem bit_cases : ∀ (x : Fin 256) (k : Fin 8), (x.val ^^^ 2 ^ k.val) = x.val + 2 ^ k.val ∨ (x.val ^^^ 2 ^ k.val) + 2 ^ k.val = x.val := by decide +kernel
theorem turn_cases (x : UInt8) {k : Nat} (hk : k < 8) : (turnBit x k).toNat = x.toNat + 2 ^ k ∨ (turnBit x k).toNat + 2 ^ k = x.toNat := by
  have := bit_cases ⟨x.toNat, x.toNat_lt⟩ ⟨k, hk⟩
  rw [turnBit_nat x hk]
  exact this
theorem pow_cases (k : Nat) (hk : k < 8) : 2 ^ k = 1 ∨ 2 ^ k = 2 ∨ 2 ^ k = 4 ∨ 2 ^ k = 8 ∨ 2 ^ k = 16 ∨ 2 ^ k = 32 ∨ 2 ^ k = 64 ∨ 2 ^ k = 128 := by
  match k, hk with
  | 0, _ => simp
  | 1, _ => simp
  | 2, _ => simp
  | 3, _ => simp
  | 4, _ => simp
  | 5, _ => simp
  | 6, _ => simp
  | 7, _ => simp
  | k + 8, h => omega
theorem fold_apart {a b d : Nat} (h : a = b + d ∨ a + d = b) (h1 : 1 ≤ d) (h2 : d < 65535) : fold a ≠ fold b := by
  unfold fold
  split <;> split <;> omega
/-- one turned bit: another check. -/
theorem check_turn (xs : List UInt8) (p : Nat) (x : UInt8) (hx : xs[p]? = some x) {k : Nat} (hk : k < 8) : check (xs.set p (turnBit x k)) ≠ check xs := by
  rw [Ne, check_eq_iff]
  unfold add
  have h := tot_set xs p x (turnBit x k) hx
  have hw : wt p = 256 ∨ wt p = 1 := by unfold wt; split <;> simp
  have hp := pow_cases k hk
  apply fold_apart (d := 2 ^ k * wt p)
  · rcases turn_cases x hk with h1 | h1
    · left
      rw [h1, Nat.add_mul] at h
      omega
    · right
      rw [← h1, Nat.add_mul] at h
      omega
  · rcases hw with hw | hw <;> rw [hw] <;> omega
  · rcases hw with hw | hw <;> rw [hw] <;> omega
/-- pairs of bytes that change places: the same check. -/
theorem check_swap (xs : List UInt8) (a b c d : UInt8) (h0 : xs[0]? = some a) (h1 : xs[1]? = some b) (h2 : xs[2]? = some c) (h3 : xs[3]? = some d) :
    check ((((xs.set 0 c).set 1 d).set 2 a).set 3 b) = check xs := by
  have e1 := tot_set xs 0 a c h0
  have e2 := tot_set (xs.set 0 c) 1 b d (by rw [List.getElem?_set_ne (by omega)]; exact h1)
  have e3 := tot_set ((xs.set 0 c).set 1 d) 2 c a (by rw [List.getElem?_set_ne (by omega), List.getElem?_set_ne (by omega)]; exact h2)
  have e4 := tot_set (((xs.set 0 c).set 1 d).set 2 a) 3 d b (by rw [List.getElem?_set_ne (by omega), List.getElem?_set_ne (by omega), List.getElem?_set_ne (by omega)]; exact h3)
  have w0 : wt 0 = 256 := rfl
  have w1 : wt 1 = 1 := rfl
  have w2 : wt 2 = 256 := rfl
  have w3 : wt 3 = 1 := rfl
  rw [w0] at e1; rw [w1] at e2; rw [w2] at e3; rw [w3] at e4
  unfold check add
  congr 2
  omega
/-- the sum in its place: all is 0. -/
theorem check_mend (xs : List UInt8) (p : Nat) (hp : p % 2 = 0) (hl : p + 1 < xs.length) (u v : UInt8)
    (hu : u.toNat = check ((xs.set p 0).set (p + 1) 0) / 256) (hv : v.toNat = check ((xs.set p 0).set (p + 1) 0) % 256) :
    check ((((xs.set p 0).set (p + 1) 0).set p u).set (p + 1) v) = 0 := by
  have hlen : ((xs.set p 0).set (p + 1) 0).length = xs.length := by simp
  have g0 : ((xs.set p 0).set (p + 1) 0)[p]? = some 0 := by
    rw [List.getElem?_set_ne (by omega), List.getElem?_set_self (by omega)]
  have g1 : (((xs.set p 0).set (p + 1) 0).set p u)[p + 1]? = some 0 := by
    rw [List.getElem?_set_ne (by omega), List.getElem?_set_self (by simp; omega)]
  have e1 := tot_set ((xs.set p 0).set (p + 1) 0) p 0 u g0
  have e2 := tot_set (((xs.set p 0).set (p + 1) 0).set p u) (p + 1) 0 v g1
  have w0 : wt p = 256 := by unfold wt; rw [if_pos hp]
  have w1 : wt (p + 1) = 1 := by unfold wt; rw [if_neg (by omega)]
  have z : (0 : UInt8).toNat = 0 := rfl
  rw [w0, z] at e1; rw [w1, z] at e2
  generalize (xs.set p 0).set (p + 1) 0 = ys at *
  have hc := check_le ys
  have hn : tot (((ys.set p u).set (p + 1) v)) = tot ys + check ys := by omega
  have hk : check ys = 65535 - fold (0 + tot ys) := rfl
  have hfl := fold_le (0 + tot ys)
  unfold check add
  rw [hn, hk]
  have : fold (0 + (tot ys + (65535 - fold (0 + tot ys)))) = 65535 := by
    rw [Nat.zero_add, Nat.zero_add] at *
    revert hfl
    unfold fold
    split
    · intro _; split <;> omega
    · intro _; split <;> omega
  rw [this]

end Go.Proofs.Ytjdokaiadljeeaa.Sm
