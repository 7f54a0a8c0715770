/-
  The walks of chapter 10's small functions: ip.within, ip.May, Num, Word, the document's Packet, EqPacket, CopyPacket, heavy, num.
-/
import Derived.Test.YtjdokaiadljeeaaIpPlain
import Derived.Test.YtjdokaiadljeeaaIcmpR
namespace Go.Proofs.Ytjdokaiadljeeaa
open Go.RowKit

theorem ipWithin (n m : Int) (w : World) : Calls Try.prog 69 #[.int .i64 n, .int .i64 m] w fun e w' => e = .returned (.bool (inR n m)) ∧ w = w' := by
  by_cases h1 : 0 ≤ n
  · by_cases h2 : n ≤ m
    · have H := Lib.hid (inR_iff.2 ⟨h1, h2⟩)
      go_enter Try.func69, Try.ntmps69
      go_wp2
      go_ret
      exact ⟨by rw [H.out]; rfl, rfl⟩
    · have H := Lib.hid (Bool.eq_false_iff.2 fun h => h2 (inR_iff.1 h).2)
      go_enter Try.func69, Try.ntmps69
      go_wp2
      go_ret
      exact ⟨by rw [H.out]; rfl, rfl⟩
  · have H := Lib.hid (Bool.eq_false_iff.2 fun h => h1 (inR_iff.1 h).1 : inR n m = false)
    go_enter Try.func69, Try.ntmps69
    go_wp2
    go_ret
    exact ⟨by rw [H.out]; rfl, rfl⟩
theorem refNum (n m : Int) (w : World) : Calls Try.prog 62 #[.int .i64 n, .int .i64 m] w fun e w' => e = .returned (.bool (inR n m)) ∧ w = w' := by
  by_cases h1 : 0 ≤ n
  · by_cases h2 : n ≤ m
    · have H := Lib.hid (inR_iff.2 ⟨h1, h2⟩)
      go_enter Try.func62, Try.ntmps62
      go_wp2
      go_ret
      exact ⟨by rw [H.out]; rfl, rfl⟩
    · have H := Lib.hid (Bool.eq_false_iff.2 fun h => h2 (inR_iff.1 h).2)
      go_enter Try.func62, Try.ntmps62
      go_wp2
      go_ret
      exact ⟨by rw [H.out]; rfl, rfl⟩
  · have H := Lib.hid (Bool.eq_false_iff.2 fun h => h1 (inR_iff.1 h).1 : inR n m = false)
    go_enter Try.func62, Try.ntmps62
    go_wp2
    go_ret
    exact ⟨by rw [H.out]; rfl, rfl⟩
theorem refWord (n : Int) (w : World) : Calls Try.prog 50 #[.int .i64 n] w fun e w' => e = .returned (.bool (inR n 4294967295)) ∧ w = w' := by
  go_enter Try.func50, Try.ntmps50
  go_wp2_with fail
  (with_reducible refine (refNum n 4294967295 w).mono ?_)
  rintro e w' ⟨rfl, rfl⟩
  go_wp2
  go_ret
  exact ⟨rfl, rfl⟩

set_option maxRecDepth 100000 in
set_option maxHeartbeats 1600000 in
theorem ipMay (s d p t i : Int) (n c : Nat) (A : Option Addr) (b1 b2 b3 b4 b5 : Bool) (h1 : inR s 4294967295 = b1) (h2 : inR d 4294967295 = b2) (h3 : inR p 255 = b3) (h4 : inR t 255 = b4) (h5 : inR i 65535 = b5) (w : World) :
    Calls Try.prog 60 #[.agg #[.int .i64 s, .int .i64 d, .int .i64 p, .int .i64 t, .int .i64 i, .slice A n c]] w fun e w' => e = .returned (.bool (b1 && (b2 && (b3 && (b4 && (b5 && decide (n ≤ 1480))))))) ∧ Below w.heap.size w w' := by
  have HB := Lib.hid (fun r f => (Below.refl w.heap.size w).alloc (Nat.le_refl _) (.cells r f))
  have K1 := Lib.hid (fun w => h1 ▸ ipWithin s 4294967295 w)
  have K2 := Lib.hid (fun w => h2 ▸ ipWithin d 4294967295 w)
  have K3 := Lib.hid (fun w => h3 ▸ ipWithin p 255 w)
  have K4 := Lib.hid (fun w => h4 ▸ ipWithin t 255 w)
  have K5 := Lib.hid (fun w => h5 ▸ ipWithin i 65535 w)
  have hc : b1 = false ∨ (b1 = true ∧ b2 = false) ∨ (b1 = true ∧ b2 = true ∧ b3 = false) ∨ (b1 = true ∧ b2 = true ∧ b3 = true ∧ b4 = false) ∨ (b1 = true ∧ b2 = true ∧ b3 = true ∧ b4 = true ∧ b5 = false) ∨ (b1 = true ∧ b2 = true ∧ b3 = true ∧ b4 = true ∧ b5 = true ∧ n ≤ 1480) ∨ (b1 = true ∧ b2 = true ∧ b3 = true ∧ b4 = true ∧ b5 = true ∧ ¬ n ≤ 1480) := by
    cases b1 <;> cases b2 <;> cases b3 <;> cases b4 <;> cases b5 <;> simp <;> omega
  clear h1 h2 h3 h4 h5
  rcases hc with rfl | ⟨rfl, rfl⟩ | ⟨rfl, rfl, rfl⟩ | ⟨rfl, rfl, rfl, rfl⟩ | ⟨rfl, rfl, rfl, rfl, rfl⟩ | ⟨rfl, rfl, rfl, rfl, rfl, hn⟩ | ⟨rfl, rfl, rfl, rfl, rfl, hn⟩
  all_goals
    go_enter Try.func60, Try.ntmps60
    go_wp2_with (first
      | (go_at_call 69; (with_reducible refine (K1.out _).mono ?_); rintro e w' ⟨rfl, rfl⟩; clear K1)
      | (go_at_call 69; (with_reducible refine (K2.out _).mono ?_); rintro e w' ⟨rfl, rfl⟩; clear K2)
      | (go_at_call 69; (with_reducible refine (K3.out _).mono ?_); rintro e w' ⟨rfl, rfl⟩; clear K3)
      | (go_at_call 69; (with_reducible refine (K4.out _).mono ?_); rintro e w' ⟨rfl, rfl⟩; clear K4)
      | (go_at_call 69; (with_reducible refine (K5.out _).mono ?_); rintro e w' ⟨rfl, rfl⟩; clear K5))
    go_ret
    exact ⟨by first | (simp [*]; done) | (simp [*]; omega), HB.out _ _⟩

set_option maxRecDepth 100000 in
set_option maxHeartbeats 1600000 in
theorem refPacket (s d p t i : Int) (n c : Nat) (A : Option Addr) (b1 b2 b3 b4 b5 : Bool) (h1 : inR s 4294967295 = b1) (h2 : inR d 4294967295 = b2) (h3 : inR p 255 = b3) (h4 : inR t 255 = b4) (h5 : inR i 65535 = b5) (w : World) :
    Calls Try.prog 38 #[.agg #[.int .i64 s, .int .i64 d, .int .i64 p, .int .i64 t, .int .i64 i, .slice A n c]] w fun e w' => e = .returned (.bool (b1 && (b2 && (b3 && (b4 && (b5 && decide (n ≤ 1480))))))) ∧ Below w.heap.size w w' := by
  have HB := Lib.hid (fun r f => (Below.refl w.heap.size w).alloc (Nat.le_refl _) (.cells r f))
  have K1 := Lib.hid (fun w => h1 ▸ refWord s w)
  have K2 := Lib.hid (fun w => h2 ▸ refWord d w)
  have K3 := Lib.hid (fun w => h3 ▸ refNum p 255 w)
  have K4 := Lib.hid (fun w => h4 ▸ refNum t 255 w)
  have K5 := Lib.hid (fun w => h5 ▸ refNum i 65535 w)
  have hc : b1 = false ∨ (b1 = true ∧ b2 = false) ∨ (b1 = true ∧ b2 = true ∧ b3 = false) ∨ (b1 = true ∧ b2 = true ∧ b3 = true ∧ b4 = false) ∨ (b1 = true ∧ b2 = true ∧ b3 = true ∧ b4 = true ∧ b5 = false) ∨ (b1 = true ∧ b2 = true ∧ b3 = true ∧ b4 = true ∧ b5 = true ∧ n ≤ 1480) ∨ (b1 = true ∧ b2 = true ∧ b3 = true ∧ b4 = true ∧ b5 = true ∧ ¬ n ≤ 1480) := by
    cases b1 <;> cases b2 <;> cases b3 <;> cases b4 <;> cases b5 <;> simp <;> omega
  clear h1 h2 h3 h4 h5
  rcases hc with rfl | ⟨rfl, rfl⟩ | ⟨rfl, rfl, rfl⟩ | ⟨rfl, rfl, rfl, rfl⟩ | ⟨rfl, rfl, rfl, rfl, rfl⟩ | ⟨rfl, rfl, rfl, rfl, rfl, hn⟩ | ⟨rfl, rfl, rfl, rfl, rfl, hn⟩
  all_goals
    go_enter Try.func38, Try.ntmps38
    go_wp2_with (first
      | (go_at_call 50; (with_reducible refine (K1.out _).mono ?_); rintro e w' ⟨rfl, rfl⟩; clear K1)
      | (go_at_call 50; (with_reducible refine (K2.out _).mono ?_); rintro e w' ⟨rfl, rfl⟩; clear K2)
      | (go_at_call 62; (with_reducible refine (K3.out _).mono ?_); rintro e w' ⟨rfl, rfl⟩; clear K3)
      | (go_at_call 62; (with_reducible refine (K4.out _).mono ?_); rintro e w' ⟨rfl, rfl⟩; clear K4)
      | (go_at_call 62; (with_reducible refine (K5.out _).mono ?_); rintro e w' ⟨rfl, rfl⟩; clear K5))
    go_ret
    exact ⟨by first | (simp [*]; done) | (simp [*]; omega), HB.out _ _⟩

theorem num10 (n : Int) (w : World) : Calls Try.prog 39 #[.int .i64 n] w fun e w' => e = .returned (.int .i64 n) ∧ w = w' := by
  go_enter Try.func39, Try.ntmps39
  go_wp2
  go_ret
  exact ⟨rfl, rfl⟩

set_option maxRecDepth 100000 in
set_option maxHeartbeats 1600000 in
theorem eqPacket (s d p t i : Int) (xs : List UInt8) (n : Nat) (hl : xs.length = n) (A B : Option Addr) (c c2 : Nat) (w : World) (hx : RB w w.heap.size A xs) (hy : RB w w.heap.size B xs) (hn : n ≤ 140737488351232) :
    Calls Try.prog 41 #[.agg #[.int .i64 s, .int .i64 d, .int .i64 p, .int .i64 t, .int .i64 i, .slice A n c], .agg #[.int .i64 s, .int .i64 d, .int .i64 p, .int .i64 t, .int .i64 i, .slice B n c2]] w fun e w' => e = .returned (.bool true) ∧ Below w.heap.size w w' := by
  subst hl
  have hb1 := fun r f => (Below.refl w.heap.size w).alloc (Nat.le_refl _) (.cells r f)
  have hb2 := fun r f r2 f2 => (hb1 r f).alloc (hb1 r f).size (.cells r2 f2)
  have HB := Lib.hid hb2
  have HX := Lib.hid (fun r f r2 f2 => hx.next (hb2 r f r2 f2))
  have HY := Lib.hid (fun r f r2 f2 => hy.next (hb2 r f r2 f2))
  clear hx hy hb1 hb2
  go_enter Try.func41, Try.ntmps41
  go_wp2_with fail
  ((with_reducible refine (eqBytes xs A B c c2 _ (HX.out _ _ _ _) (HY.out _ _ _ _) ?_).mono ?_); (unfold maxLen; omega))
  rintro e w' ⟨rfl, hw⟩
  have hb := (HB.out _ _ _ _).trans ((below_of_drewN hw).mono (HB.out _ _ _ _).size)
  clear hw
  go_wp2
  go_ret
  exact ⟨rfl, hb⟩


end Go.Proofs.Ytjdokaiadljeeaa
