/-
  What the answer of chapter 11 is good for, in plain Lean.
-/
import Derived.Test.YtjdokaiadljeeaaIcmpW
namespace Go.Proofs.Ytjdokaiadljeeaa

theorem set_self' {xs : List UInt8} {p : Nat} {x : UInt8} (h : xs[p]? = some x) : xs.set p x = xs := by
  apply List.ext_getElem?
  intro i
  by_cases hi : i = p
  · subst hi
    have hp : i < xs.length := by
      rcases Nat.lt_or_ge i xs.length with h1 | h1
      · exact h1
      · rw [List.getElem?_eq_none h1] at h; cases h
    rw [List.getElem?_set_self hp, h]
  · rw [List.getElem?_set_ne (fun e => hi e.symm)]
/-- the sum, put into the place where nothing stood. -/
theorem check_put (qs : List UInt8) (h : 4 ≤ qs.length) (h2 : qs[2]? = some 0) (h3 : qs[3]? = some 0) :
    Sm.check ((qs.set 2 (UInt8.ofNat (Sm.check qs / 256))).set (2 + 1) (UInt8.ofNat (Sm.check qs))) = 0 := by
  have e2 : (qs.set 2 0).set (2 + 1) 0 = qs := by rw [set_self' h2, set_self' h3]
  have hc := Sm.check_le qs
  have := Sm.check_mend qs 2 rfl (by omega) (UInt8.ofNat (Sm.check qs / 256)) (UInt8.ofNat (Sm.check qs)) (by rw [e2, UInt8.toNat_ofNat']; omega) (by rw [e2, UInt8.toNat_ofNat'])
  rw [e2] at this
  exact this
theorem answer_check (xs : List UInt8) (h : 8 ≤ xs.length) : Sm.check (answer xs) = 0 := by
  unfold answer
  refine check_put (((xs.set 0 0).set 2 0).set 3 0) (by simp; omega) ?_ ?_
  · rw [List.getElem?_set_ne (by omega), List.getElem?_set_self (by simp; omega)]
  · rw [List.getElem?_set_self (by simp; omega)]
theorem answer_0 (xs : List UInt8) (h : 8 ≤ xs.length) : (answer xs)[0]? = some 0 := by
  unfold answer
  rw [List.getElem?_set_ne (by omega), List.getElem?_set_ne (by omega), List.getElem?_set_ne (by omega), List.getElem?_set_ne (by omega), List.getElem?_set_self (by omega)]
theorem answer_1 (xs : List UInt8) : (answer xs)[1]? = xs[1]? := by
  unfold answer
  rw [List.getElem?_set_ne (by omega), List.getElem?_set_ne (by omega), List.getElem?_set_ne (by omega), List.getElem?_set_ne (by omega), List.getElem?_set_ne (by omega)]
theorem answer_drop (xs : List UInt8) : (answer xs).drop 4 = xs.drop 4 := by
  unfold answer
  rw [List.drop_set_of_lt (by omega), List.drop_set_of_lt (by omega), List.drop_set_of_lt (by omega), List.drop_set_of_lt (by omega), List.drop_set_of_lt (by omega)]
/-- a question. -/
def quest (xs : List UInt8) : List UInt8 := [8, 0, 0, 0, 1, 2, 3, 4] ++ xs
def asked (xs : List UInt8) : List UInt8 := ((quest xs).set 2 (UInt8.ofNat (Sm.check (quest xs) / 256))).set (2 + 1) (UInt8.ofNat (Sm.check (quest xs)))
theorem asked_length (xs : List UInt8) : (asked xs).length = 8 + xs.length := by simp [asked, quest]; omega
theorem asked_check (xs : List UInt8) : Sm.check (asked xs) = 0 := check_put (quest xs) (by simp [quest]) rfl rfl
theorem asked_0 (xs : List UInt8) : (asked xs)[0]? = some 8 := by
  unfold asked; rw [List.getElem?_set_ne (by omega), List.getElem?_set_ne (by omega)]; rfl
theorem asked_1 (xs : List UInt8) : (asked xs)[1]? = some 0 := by
  unfold asked; rw [List.getElem?_set_ne (by omega), List.getElem?_set_ne (by omega)]; rfl
theorem asked_5 (xs : List UInt8) : (asked xs)[5]? = some 2 := by
  unfold asked; rw [List.getElem?_set_ne (by omega), List.getElem?_set_ne (by omega)]; rfl
theorem asked_out (xs : List UInt8) : replyOut (asked xs) = (answer (asked xs), 0) := replyOut_ok (by rw [asked_length]; omega) (asked_check xs) (asked_0 xs) (asked_1 xs)
theorem back_out (xs : List UInt8) : replyOut (answer (asked xs)) = ([], 3) :=
  replyOut_none (by rw [answer_length, asked_length]; omega) (answer_check _ (by rw [asked_length]; omega)) (Or.inl (by rw [answer_0 _ (by rw [asked_length]; omega)]; decide))
theorem turned_out (xs : List UInt8) : replyOut ((asked xs).set 5 3) = ([], 8) := by
  refine replyOut_sum (by rw [List.length_set, asked_length]; omega) ?_
  have h := Sm.check_turn (asked xs) 5 2 (asked_5 xs) (k := 0) (by omega)
  rw [asked_check] at h
  exact h

end Go.Proofs.Ytjdokaiadljeeaa
