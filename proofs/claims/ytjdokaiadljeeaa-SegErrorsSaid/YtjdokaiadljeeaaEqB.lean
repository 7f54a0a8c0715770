/-
  The walks of EqBytes and Within.
-/
import Derived.Test.YtjdokaiadljeeaaProg
import Derived.Test.YtjdokaiadljeeaaMem
import Derived.Deep.QuietTactic
import Derived.BigQuiet
import Derived.Outline
namespace Go.Proofs.Ytjdokaiadljeeaa
open Go.RowKit

theorem quiet_add {P : Program} {f : FuncId} {args : Array Value} {w : World} {a n : Nat} {v : Value}
    (h : Calls P f args (w.drewN (a + n)) fun e w' => e = .returned v ∧ ∃ m, w' = (w.drewN (a + n)).drewN m) :
    Calls P f args (w.drewN (a + n)) fun e w'' => e = .returned v ∧ ∃ m, w'' = w.drewN (a + m) :=
  h.mono fun _ _ ⟨he, m, hm⟩ => ⟨he, n + m, by rw [hm, World.drewN_drewN, Nat.add_assoc]⟩
theorem quiet_add_left {P : Program} {f : FuncId} {args : Array Value} {w : World} {a n : Nat} {v : Value}
    (h : Calls P f args (w.drewN (a + n)) fun e w' => e = .returned v ∧ w.drewN (a + n) = w') :
    Calls P f args (w.drewN (a + n)) fun e w'' => e = .returned v ∧ ∃ m, w'' = w.drewN (a + m) :=
  h.mono fun _ _ ⟨he, hm⟩ => ⟨he, n, hm.symm⟩
theorem quiet_left {P : Program} {f : FuncId} {args : Array Value} {w : World} {n : Nat} {v : Value}
    (h : Calls P f args (w.drewN n) fun e w' => e = .returned v ∧ w.drewN n = w') : Calls P f args (w.drewN n) fun e w'' => e = .returned v ∧ ∃ m, w'' = w.drewN m :=
  h.mono fun _ _ ⟨he, hm⟩ => ⟨he, n, hm.symm⟩

def eqL (xs ys : List UInt8) : Bool := decide (xs = ys)
theorem eqL_same (xs : List UInt8) : eqL xs xs = true := by simp [eqL]
theorem eqL_true {xs ys : List UInt8} (h : eqL xs ys = true) : xs = ys := by simpa [eqL] using h
theorem eqL_false {xs ys : List UInt8} (h : xs ≠ ys) : eqL xs ys = false := by simpa [eqL] using h
theorem take_all_eq {xs ys : List UInt8} {k : Nat} (hk : k = xs.length) (hl : xs.length = ys.length) (h : xs.take k = ys.take k) : xs = ys := by
  subst hk
  rw [List.take_length] at h
  rw [hl, List.take_length] at h
  exact h
theorem take_next_eq {xs ys : List UInt8} {k : Nat} {x y : UInt8} (hx : xs[k]? = some x) (hy : ys[k]? = some y) (h : xs.take k = ys.take k) (e : x = y) : xs.take (k + 1) = ys.take (k + 1) := by
  rw [take_snoc? xs k x hx, take_snoc? ys k y hy, h, e]
theorem ne_of_get {xs ys : List UInt8} {k : Nat} {x y : UInt8} (hx : xs[k]? = some x) (hy : ys[k]? = some y) (e : x ≠ y) : xs ≠ ys := by
  rintro rfl
  rw [hx] at hy
  exact e (by simpa using hy)
/-- a quiet answer: draws alone. -/
def Quiet (w : World) (v : Value) (e : Ending) (w' : World) : Prop := e = .returned v ∧ ∃ n, w' = w.drewN n

set_option maxHeartbeats 800000 in
theorem eqBytes_any (xs ys : List UInt8) (A B : Option Addr) (c d : Nat) (w : World) (hx : RB w w.heap.size A xs) (hy : RB w w.heap.size B ys) (hn : xs.length ≤ maxLen) :
    Calls Try.prog 21 #[.slice A xs.length c, .slice B ys.length d] w fun e w' => e = .returned (.bool (eqL xs ys)) ∧ ∃ n, w' = w.drewN n := by
  unfold maxLen at hn
  by_cases hl : xs.length = ys.length
  · have hne : (((xs.length : Int)) != ((ys.length : Nat) : Int)) = false := by simp [hl]
    have hl' := Lib.hid hl
    have hlt2 : ∀ k, k < xs.length → k < ys.length := by rw [hl]; exact fun _ h => h
    clear hl
    go_enter Try.func21, Try.ntmps21
    go_wp2
    go_loopw [5] (fun i wr => ∃ k n : Nat, k ≤ xs.length ∧ i = .int .i64 k ∧ wr = w.drewN n ∧ Hid (xs.take k = ys.take k)) (fun i _ => xs.length - (intOf i).toNat)
    case atStart => exact ⟨0, 0, Nat.zero_le _, rfl, rfl, rfl⟩
    case round =>
      obtain ⟨k, n, hk, rfl, rfl, ht⟩ := hrel
      by_cases hlt : k < xs.length
      · have hlty := hlt2 k hlt
        obtain ⟨ad, u, rfl, hb, hu, hcell⟩ := hx.at_ hlt
        obtain ⟨bd, v, rfl, hb2, hv, hcell2⟩ := hy.at_ hlty
        clear hlt2
        have hu' := Lib.hid hu
        have hv' := Lib.hid hv
        have hi : (k : Int) < (xs.length : Int) := by omega
        have hi2 : (k : Int) < (ys.length : Int) := by omega
        clear hu hv
        by_cases he : u = v
        · have hne2 : (((u.toNat : Int)) != ((v.toNat : Nat) : Int)) = false := by simp [he]
          have HT : Hid (xs.take (k + 1) = ys.take (k + 1)) := take_next_eq hu'.out hv'.out ht.out he
          clear he
          go_wp2_with fail
          go_quiet (fail)
          go_wp2
          go_roundw
          case rel => exact ⟨k + 1, _, by omega, by go_num, rfl, HT⟩
          case measure => simp [intOf]; omega
        · have hne2 : (((u.toNat : Int)) != ((v.toNat : Nat) : Int)) = true := by
            simp only [bne_iff_ne, ne_eq, Int.natCast_inj]
            exact fun h => he (UInt8.toNat_inj.1 h)
          have HT : Hid (eqL xs ys = false) := eqL_false (ne_of_get hu'.out hv'.out he)
          clear he
          go_wp2_with fail
          go_quiet (fail)
          go_wp2
          go_ret
          exact ⟨by rw [HT.out]; rfl, _, by rw [World.drewN_drewN]⟩
      · have HT : Hid (eqL xs ys = true) := by rw [take_all_eq (by omega) hl'.out ht.out]; exact eqL_same _
        go_wp2
        go_ret
        exact ⟨by rw [HT.out]; rfl, _, rfl⟩
  · have hne : (((xs.length : Int)) != ((ys.length : Nat) : Int)) = true := by
      simp only [bne_iff_ne, ne_eq, Int.natCast_inj]; exact hl
    have HT : Hid (eqL xs ys = false) := eqL_false (fun h => hl (by rw [h]))
    clear hl
    go_enter Try.func21, Try.ntmps21
    go_wp2
    go_ret
    exact ⟨by rw [HT.out]; rfl, 0, rfl⟩

theorem eqBytes (xs : List UInt8) (A B : Option Addr) (c d : Nat) (w : World) (hx : RB w w.heap.size A xs) (hy : RB w w.heap.size B xs) (hn : xs.length ≤ maxLen) :
    Calls Try.prog 21 #[.slice A xs.length c, .slice B xs.length d] w fun e w' => e = .returned (.bool true) ∧ ∃ n, w' = w.drewN n := by
  have := eqBytes_any xs xs A B c d w hx hy hn
  rw [eqL_same] at this
  exact this

/-- Within: the unsigned remainder. -/
theorem within_num (i n : Int) (h1 : 1 ≤ n) (h2 : n ≤ 9223372036854775807) : ∃ k : Nat, (k : Int) < n ∧ ((k : Int) = (i % 18446744073709551616) % n) ∧ wrap64 ((IntKind.u64.wrap i).tmod n) = (k : Int) := by
  have h3 : 0 ≤ i % 18446744073709551616 := Int.emod_nonneg _ (by omega)
  have h4 : 0 ≤ (i % 18446744073709551616) % n := Int.emod_nonneg _ (by omega)
  have h5 : (i % 18446744073709551616) % n < n := Int.emod_lt_of_pos _ (by omega)
  refine ⟨((i % 18446744073709551616) % n).toNat, by omega, by omega, ?_⟩
  rw [IntKind.wrap_u64, Int.tmod_eq_emod_of_nonneg h3, IntWalk.wrap64_in _ ⟨by omega, by omega⟩]
  omega
theorem within_any (i n : Int) (_hi : -9223372036854775808 ≤ i) (_hi2 : i ≤ 9223372036854775807) (h1 : 1 ≤ n) (h2 : n ≤ 9223372036854775807) (w : World) :
    Calls Try.prog 23 #[.int .i64 i, .int .i64 n] w fun e w' => ∃ k : Nat, (k : Int) < n ∧ ((k : Int) = (i % 18446744073709551616) % n) ∧ e = .returned (.int .i64 (k : Int)) ∧ w = w' := by
  have HK := Lib.hid (within_num i n h1 h2)
  go_enter Try.func23, Try.ntmps23
  go_wp2
  go_ret
  obtain ⟨k, hk, he, hw⟩ := HK.out
  refine ⟨k, hk, he, ?_, rfl⟩
  rw [← hw]
  rfl

/-- what Within answers. -/
def wth (i n : Int) : Nat := ((i % 18446744073709551616) % n).toNat
theorem wth_lt (i n : Int) (h1 : 1 ≤ n) : ((wth i n : Nat) : Int) < n := by
  have h3 : 0 ≤ i % 18446744073709551616 := Int.emod_nonneg _ (by omega)
  have h4 : 0 ≤ (i % 18446744073709551616) % n := Int.emod_nonneg _ (by omega)
  have h5 : (i % 18446744073709551616) % n < n := Int.emod_lt_of_pos _ (by omega)
  unfold wth; omega
theorem within (i n : Int) (hi : -9223372036854775808 ≤ i) (hi2 : i ≤ 9223372036854775807) (h1 : 1 ≤ n) (h2 : n ≤ 9223372036854775807) (w : World) :
    Calls Try.prog 23 #[.int .i64 i, .int .i64 n] w fun e w' => e = .returned (.int .i64 ((wth i n : Nat) : Int)) ∧ w = w' :=
  (within_any i n hi hi2 h1 h2 w).mono fun _ _ ⟨k, h, h', he, hw⟩ => ⟨by rw [he]; unfold wth; rw [← h']; simp, hw⟩

end Go.Proofs.Ytjdokaiadljeeaa
