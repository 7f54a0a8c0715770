/-
  The walks of the sums of chapter 7.
-/
import Derived.Test.YtjdokaiadljeeaaCopy
import Derived.Test.YtjdokaiadljeeaaSumPlain
import Derived.WalkMore
import Derived.ScopeJumps
import Derived.Outline
namespace Go.Proofs.Ytjdokaiadljeeaa
open Go.RowKit

theorem ofInt_i64 (a : Nat) (ha : a < 9223372036854775808) : (BitVec.ofInt 64 (a : Int)).toNat = a := by
  rw [BitVec.ofInt_natCast, BitVec.toNat_ofNat]; exact Nat.mod_eq_of_lt (by omega)
theorem i64_and_nat (a b : Nat) (ha : a < 9223372036854775808) (hb : b < 9223372036854775808) : bits .and .i64 (a : Int) (b : Int) = ((a &&& b : Nat) : Int) := by
  have hx : a &&& b < 2 ^ 63 := Nat.and_lt_two_pow _ (by omega)
  show IntKind.i64.wrap ((BitVec.ofInt 64 (a : Int) &&& BitVec.ofInt 64 (b : Int)).toNat : Int) = _
  rw [BitVec.toNat_and, ofInt_i64 a ha, ofInt_i64 b hb, IntKind.wrap_i64]
  omega
theorem i64_or_nat (a b : Nat) (ha : a < 9223372036854775808) (hb : b < 9223372036854775808) : bits .or .i64 (a : Int) (b : Int) = ((a ||| b : Nat) : Int) := by
  have hx : a ||| b < 2 ^ 63 := Nat.or_lt_two_pow (by omega) (by omega)
  show IntKind.i64.wrap ((BitVec.ofInt 64 (a : Int) ||| BitVec.ofInt 64 (b : Int)).toNat : Int) = _
  rw [BitVec.toNat_or, ofInt_i64 a ha, ofInt_i64 b hb, IntKind.wrap_i64]
  omega
theorem and_ffff (a : Nat) (ha : a < 9223372036854775808) : bits .and .i64 (a : Int) 65535 = ((a % 65536 : Nat) : Int) := by
  have := i64_and_nat a 65535 ha (by omega)
  rw [nat_mask16] at this
  exact this

theorem sum_one (t u : Nat) (k _n : Nat) (xs : List UInt8) (h : xs.length ≤ k + 1) (x : UInt8) (hx : xs[k]? = some x) (hu : x.toNat = u) (R : Nat) (hf : Sm.fold (t + Sm.tot (xs.drop k)) = R) (z : Nat) (hz : Sm.fold z = Sm.fold (t + u * 256)) (_hz2 : z ≤ 65535) :
    Sm.fold (z + Sm.tot (xs.drop (k + 2))) = R := by
  have hl : k < xs.length := by
    rcases Nat.lt_or_ge k xs.length with h1 | h1
    · exact h1
    · rw [List.getElem?_eq_none h1] at hx; cases hx
  have e : xs.drop k = [x] := by
    rw [List.drop_eq_getElem_cons hl, List.drop_eq_nil_of_le (by omega)]
    rw [List.getElem?_eq_getElem hl] at hx
    simp at hx; rw [hx]
  have e2 : xs.drop (k + 2) = [] := List.drop_eq_nil_of_le (by omega)
  rw [← hf, e, e2]
  simp only [Sm.tot, Nat.add_zero]
  rw [hz, hu]
theorem sum_two' (t : Nat) (k : Nat) (xs : List UInt8) (x y : UInt8) (hx : xs[k]? = some x) (hy : xs[k + 1]? = some y) (R : Nat) (hf : Sm.fold (t + Sm.tot (xs.drop k)) = R) (z : Nat) (hz : Sm.fold z = Sm.fold (t + x.toNat * 256 + y.toNat)) (_hz2 : z ≤ 65535) :
    Sm.fold (z + Sm.tot (xs.drop (k + 2))) = R := by
  have hl : k + 1 < xs.length := by
    rcases Nat.lt_or_ge (k + 1) xs.length with h1 | h1
    · exact h1
    · rw [List.getElem?_eq_none h1] at hy; cases hy
  have e : xs.drop k = x :: y :: xs.drop (k + 2) := by
    rw [List.drop_eq_getElem_cons (by omega), List.drop_eq_getElem_cons hl]
    rw [List.getElem?_eq_getElem (by omega)] at hx hy
    simp at hx hy; rw [hx, hy]
  rw [← hf, e]
  simp only [Sm.tot]
  have h1 := Sm.fold_add z (Sm.tot (xs.drop (k + 2)))
  have h2 := Sm.fold_add (t + x.toNat * 256 + y.toNat) (Sm.tot (xs.drop (k + 2)))
  rw [← h1, hz, h2]
  congr 1; omega

set_option maxRecDepth 100000 in
set_option maxHeartbeats 800000 in
theorem refAdd (s : Nat) (hs : s ≤ 65535) (xs : List UInt8) (A : Option Addr) (c : Nat) (w : World) (hx : RB w w.heap.size A xs) (hn : xs.length ≤ 1099511627776) :
    Calls Try.prog 25 #[.int .i64 (s : Nat), .slice A xs.length c] w fun e w' => e = .returned (.int .i64 ((Sm.add s xs : Nat) : Int)) ∧ w = w' := by
  have HF := Lib.hid (show Sm.fold (s + Sm.tot (xs.drop 0)) = Sm.add s xs from rfl)
  go_enter Try.func25, Try.ntmps25
  go_wp2
  go_loop [0, 5] (fun v i => ∃ (k t : Nat), i = .int .i64 k ∧ v = .int .i64 ((t : Nat) : Int) ∧ k ≤ xs.length + 1 ∧ t ≤ 65535 ∧ Hid (Sm.fold (t + Sm.tot (xs.drop k)) = Sm.add s xs)) (fun _ i => xs.length + 1 - (intOf i).toNat)
  case atStart => exact ⟨0, _, rfl, rfl, Nat.zero_le _, hs, HF⟩
  case round =>
    obtain ⟨k, t, rfl, rfl, hk, ht, hf⟩ := hrel
    by_cases hlt : k < xs.length
    · obtain ⟨b0, o0, u, rfl, hb, hu, hcell⟩ := hx.get hlt
      have hu8 := u.toNat_lt
      have hub : (u.toNat : Int) < 256 := by omega
      have hu' := Lib.hid hu
      clear hu hu8
      by_cases hlt2 : k + 1 < xs.length
      · obtain ⟨b1, o1, v, had, hb2, hv, hcell2⟩ := hx.get hlt2
        obtain ⟨rfl, rfl⟩ := RB.same_at rfl had
        have hv8 := v.toNat_lt
        have hvb : (v.toNat : Int) < 256 := by omega
        have hv' := Lib.hid hv
        have hlt2' : (k : Int) + 1 < (xs.length : Int) := by omega
        clear hv hv8
        go_wp2
        go_loop [0] (fun sv => ∃ z : Nat, sv = .int .i64 ((z : Nat) : Int) ∧ z ≤ 200000 ∧ Hid (Sm.fold z = Sm.fold (t + u.toNat * 256 + v.toNat))) (fun sv => (intOf sv).toNat)
        case atStart => exact ⟨t + u.toNat * 256 + v.toNat, by go_num, by omega, rfl⟩
        case round =>
          obtain ⟨z, rfl, hz, hzf⟩ := hrel
          by_cases hz6 : 65535 < z
          · have HA := Lib.hid (and_ffff z (by omega))
            have HZ : Hid (Sm.fold (z % 65536 + z / 65536) = Sm.fold (t + u.toNat * 256 + v.toNat)) := by rw [Sm.fold_step]; exact hzf.out
            go_wp2
            go_round
            case rel => exact ⟨z % 65536 + z / 65536, by rw [HA.out, IntWalk.wrap64_in _ ⟨by omega, by omega⟩]; go_num, by omega, HZ⟩
            case measure => rw [HA.out, IntWalk.wrap64_in _ ⟨by omega, by omega⟩]; simp [intOf]; omega
          · go_wp2
            go_round
            case rel => exact ⟨k + 2, z, by go_num, rfl, by omega, by omega, sum_two' t k xs u v hu'.out hv'.out _ hf.out z hzf.out (by omega)⟩
            case measure => simp [intOf]; omega
      · have hlt2' : ¬ (k : Int) + 1 < (xs.length : Int) := by omega
        go_wp2
        go_loop [0] (fun sv => ∃ z : Nat, sv = .int .i64 ((z : Nat) : Int) ∧ z ≤ 200000 ∧ Hid (Sm.fold z = Sm.fold (t + u.toNat * 256))) (fun sv => (intOf sv).toNat)
        case atStart => exact ⟨t + u.toNat * 256, by go_num, by omega, rfl⟩
        case round =>
          obtain ⟨z, rfl, hz, hzf⟩ := hrel
          by_cases hz6 : 65535 < z
          · have HA := Lib.hid (and_ffff z (by omega))
            have HZ : Hid (Sm.fold (z % 65536 + z / 65536) = Sm.fold (t + u.toNat * 256)) := by rw [Sm.fold_step]; exact hzf.out
            go_wp2
            go_round
            case rel => exact ⟨z % 65536 + z / 65536, by rw [HA.out, IntWalk.wrap64_in _ ⟨by omega, by omega⟩]; go_num, by omega, HZ⟩
            case measure => rw [HA.out, IntWalk.wrap64_in _ ⟨by omega, by omega⟩]; simp [intOf]; omega
          · go_wp2
            go_round
            case rel => exact ⟨k + 2, z, by go_num, rfl, by omega, by omega, sum_one t u.toNat k 0 xs (by omega) u hu'.out rfl _ hf.out z hzf.out (by omega)⟩
            case measure => simp [intOf]; omega
    · have he : Hid (Sm.add s xs = t) := by
        rw [← hf.out, List.drop_eq_nil_of_le (by omega)]
        exact Sm.fold_small (by simp only [Sm.tot]; omega)
      go_wp2
      go_ret
      exact ⟨by rw [he.out]; rfl, rfl⟩

def JSum (s : Nat) (xs : List UInt8) (A : Option Addr) (c : Nat) (w : World) (a' : Act) (w' : World) : Prop :=
  w' = w ∧ ∃ (k t : Nat) (v0 v5 u6 u7 u8 u9 u10 u11 u12 u13 u14 u15 u16 u17 u18 u19 u20 u21 u22 u23 u24 u25 u26 u27 u28 u29 u30 u31 u32 u33 u34 u35 u36 u37 u38 u39 u40 : Value), a' = { tmps := #[v0, .slice A xs.length c, undef, undef, .int .i64 0, v5, u6, u7, u8, u9, u10, u11, u12, u13, u14, u15, u16, u17, u18, u19, u20, u21, u22, u23, u24, u25, u26, u27, u28, u29, u30, u31, u32, u33, u34, u35, u36, u37, u38, u39, u40], defers := [] } ∧ v0 = .int .i64 ((t : Nat) : Int) ∧ v5 = .int .i64 (k : Nat) ∧ k ≤ xs.length + 1 ∧ t + Sm.tot (xs.drop k) = s + Sm.tot xs
def muSum (n : Nat) (a' : Act) : Nat := n + 1 - (intOf (a'.tmps.getD 5 undef)).toNat
theorem tot_one (k : Nat) (xs : List UInt8) (h : xs.length ≤ k + 1) (x : UInt8) (hx : xs[k]? = some x) : Sm.tot (xs.drop k) = x.toNat * 256 + Sm.tot (xs.drop (k + 2)) := by
  have e : xs.drop k = [x] := by
    rw [drop_get' xs k x hx, List.drop_eq_nil_of_le (by omega)]
  rw [e, List.drop_eq_nil_of_le (by omega)]
  simp [Sm.tot]
theorem tot_two (k : Nat) (xs : List UInt8) (x y : UInt8) (hx : xs[k]? = some x) (hy : xs[k + 1]? = some y) : Sm.tot (xs.drop k) = x.toNat * 256 + y.toNat + Sm.tot (xs.drop (k + 2)) := by
  rw [drop_get' xs k x hx, drop_get' xs (k + 1) y hy]
  simp [Sm.tot]

set_option maxRecDepth 100000 in
set_option maxHeartbeats 1600000 in
theorem sumAdd (s : Nat) (hs : s ≤ 65535) (xs : List UInt8) (A : Option Addr) (c : Nat) (w : World) (hx : RB w w.heap.size A xs) (hn : xs.length ≤ 1099511627776) :
    Calls Try.prog 24 #[.int .i64 (s : Nat), .slice A xs.length c] w fun e w' => e = .returned (.int .i64 ((Sm.add s xs : Nat) : Int)) ∧ w = w' := by
  have htot := Sm.tot_le xs
  have hbig : s + Sm.tot xs ≤ 72057594038000000 := by omega
  have H0 := Lib.hid (show 0 + Sm.tot (xs.drop 0) + s = s + Sm.tot xs from by simp [Nat.add_comm])
  go_enter Try.func24, Try.ntmps24
  go_wp2
  refine wp_scope_jumps 0 (JSum s xs A c w) (fun a' _ => muSum xs.length a') rfl ?_ ?_
  · go_wp2
    go_step3
    by_cases hlt : 0 < xs.length
    · obtain ⟨b0, o0, u, rfl, hb, hu, hcell⟩ := hx.get hlt
      have hub : (u.toNat : Int) < 256 := by have := u.toNat_lt; omega
      have hu' := Lib.hid hu
      clear hu
      by_cases hlt2 : 0 + 1 < xs.length
      · obtain ⟨b1, o1, v, had, hb2, hv, hcell2⟩ := hx.get hlt2
        obtain ⟨rfl, rfl⟩ := RB.same_at rfl had
        have hvb : (v.toNat : Int) < 256 := by have := v.toNat_lt; omega
        have hT := Lib.hid (tot_two 0 xs u v hu'.out hv)
        clear hv
        have hlt2' : (1 : Int) < (xs.length : Int) := by omega
        simp only [Nat.zero_add, Nat.add_zero] at hcell hcell2
        go_wp2
        go_step3
        exact ⟨rfl, rfl, 2, s + u.toNat * 256 + v.toNat, _, _, _, _, _, _, _, _, _, _, _, _, _, _, _, _, _, _, _, _, _, _, _, _, _, _, _, _, _, _, _, _, _, _, _, _, _, rfl, by go_num, rfl, by omega, by have h := hT.out; simp only [List.drop_zero, Nat.zero_add] at h ⊢; omega⟩
      · have hT := Lib.hid (tot_one 0 xs (by omega) u hu'.out)
        have hlt2' : ¬ (1 : Int) < (xs.length : Int) := by omega
        simp only [Nat.add_zero] at hcell
        go_wp2
        go_step3
        exact ⟨rfl, rfl, 2, s + u.toNat * 256, _, _, _, _, _, _, _, _, _, _, _, _, _, _, _, _, _, _, _, _, _, _, _, _, _, _, _, _, _, _, _, _, _, _, _, _, _, rfl, by go_num, rfl, by omega, by have h := hT.out; simp only [List.drop_zero, Nat.zero_add] at h ⊢; omega⟩
    · have HT : Hid (Sm.fold s = Sm.add s xs) := by
        rw [List.eq_nil_of_length_eq_zero (by omega : xs.length = 0)]; rfl
      · go_wp2
        go_loop [0] (fun sv => ∃ z : Nat, sv = .int .i64 ((z : Nat) : Int) ∧ z ≤ 72057594038000000 ∧ Hid (Sm.fold z = Sm.add s xs)) (fun sv => (intOf sv).toNat)
        case atStart => exact ⟨s, by go_num, by omega, HT⟩
        case round =>
          obtain ⟨z, rfl, hz, hzf⟩ := hrel
          by_cases hz6 : 65535 < z
          · have HA := Lib.hid (and_ffff z (by omega))
            have HZ : Hid (Sm.fold (z % 65536 + z / 65536) = Sm.add s xs) := by rw [Sm.fold_step]; exact hzf.out
            go_wp2
            go_round
            case rel => exact ⟨z % 65536 + z / 65536, by rw [HA.out, IntWalk.wrap64_in _ ⟨by omega, by omega⟩]; go_num, by omega, HZ⟩
            case measure => rw [HA.out, IntWalk.wrap64_in _ ⟨by omega, by omega⟩]; simp [intOf]; omega
          · have HE : Hid (Sm.add s xs = z) := by rw [← hzf.out, Sm.fold_small (by omega)]; exact rfl
            go_wp2
            simp only [Exit.jump]
            go_ret
            exact ⟨by rw [HE.out]; rfl, rfl⟩

  · rintro a' w' ⟨rfl, k, t, v0, v5, u6, u7, u8, u9, u10, u11, u12, u13, u14, u15, u16, u17, u18, u19, u20, u21, u22, u23, u24, u25, u26, u27, u28, u29, u30, u31, u32, u33, u34, u35, u36, u37, u38, u39, u40, rfl, rfl, rfl, hk, hf⟩
    have hf' := Lib.hid hf
    have ht : t ≤ 72057594038000000 := by omega
    clear hf htot hbig
    by_cases hlt : k < xs.length
    · obtain ⟨b0, o0, u, rfl, hb, hu, hcell⟩ := hx.get hlt
      have hub : (u.toNat : Int) < 256 := by have := u.toNat_lt; omega
      have hu' := Lib.hid hu
      clear hu
      by_cases hlt2 : k + 1 < xs.length
      · obtain ⟨b1, o1, v, had, hb2, hv, hcell2⟩ := hx.get hlt2
        obtain ⟨rfl, rfl⟩ := RB.same_at rfl had
        have hvb : (v.toNat : Int) < 256 := by have := v.toNat_lt; omega
        have hT := Lib.hid (tot_two k xs u v hu'.out hv)
        clear hv
        have hlt2' : (k : Int) + 1 < (xs.length : Int) := by omega
        go_wp2
        go_step3
        exact ⟨rfl, ⟨rfl, k + 2, t + u.toNat * 256 + v.toNat, _, _, _, _, _, _, _, _, _, _, _, _, _, _, _, _, _, _, _, _, _, _, _, _, _, _, _, _, _, _, _, _, _, _, _, _, _, rfl, by go_num, by go_num, by omega, by have h := hT.out; have h2 := hf'.out; omega⟩, by simp [muSum, intOf]; omega⟩
      · have hT := Lib.hid (tot_one k xs (by omega) u hu'.out)
        have hlt2' : ¬ (k : Int) + 1 < (xs.length : Int) := by omega
        go_wp2
        go_step3
        exact ⟨rfl, ⟨rfl, k + 2, t + u.toNat * 256, _, _, _, _, _, _, _, _, _, _, _, _, _, _, _, _, _, _, _, _, _, _, _, _, _, _, _, _, _, _, _, _, _, _, _, _, _, rfl, by go_num, by go_num, by omega, by have h := hT.out; have h2 := hf'.out; omega⟩, by simp [muSum, intOf]; omega⟩
    · have HT : Hid (Sm.fold t = Sm.add s xs) := by
        have h := hf'.out
        rw [List.drop_eq_nil_of_le (by omega)] at h
        unfold Sm.add
        rw [← h]; rfl
      · go_wp2
        go_loop [0] (fun sv => ∃ z : Nat, sv = .int .i64 ((z : Nat) : Int) ∧ z ≤ 72057594038000000 ∧ Hid (Sm.fold z = Sm.add s xs)) (fun sv => (intOf sv).toNat)
        case atStart => exact ⟨t, by go_num, by omega, HT⟩
        case round =>
          obtain ⟨z, rfl, hz, hzf⟩ := hrel
          by_cases hz6 : 65535 < z
          · have HA := Lib.hid (and_ffff z (by omega))
            have HZ : Hid (Sm.fold (z % 65536 + z / 65536) = Sm.add s xs) := by rw [Sm.fold_step]; exact hzf.out
            go_wp2
            go_round
            case rel => exact ⟨z % 65536 + z / 65536, by rw [HA.out, IntWalk.wrap64_in _ ⟨by omega, by omega⟩]; go_num, by omega, HZ⟩
            case measure => rw [HA.out, IntWalk.wrap64_in _ ⟨by omega, by omega⟩]; simp [intOf]; omega
          · have HE : Hid (Sm.add s xs = z) := by rw [← hzf.out, Sm.fold_small (by omega)]; exact rfl
            go_wp2
            simp only [Exit.jump]
            go_ret
            exact ⟨by rw [HE.out]; rfl, rfl⟩


theorem check_int (xs : List UInt8) : (65535 : Int) - ((Sm.add 0 xs : Nat) : Int) = ((Sm.check xs : Nat) : Int) := by
  have := Sm.add_le 0 xs
  unfold Sm.check
  omega

set_option maxHeartbeats 400000 in
theorem sumCheck (xs : List UInt8) (n : Nat) (hl : xs.length = n) (A : Option Addr) (c : Nat) (w : World) (hx : RB w w.heap.size A xs) (hn : n ≤ 1099511627776) :
    Calls Try.prog 26 #[.slice A n c] w fun e w' => e = .returned (.int .i64 ((Sm.check xs : Nat) : Int)) ∧ w = w' := by
  subst hl
  have h1 := Sm.add_le 0 xs
  have HC := Lib.hid (check_int xs)
  have K := Lib.hid (sumAdd 0 (by omega) xs A c w hx hn)
  go_enter Try.func26, Try.ntmps26
  go_wp2_with fail
  (refine K.out.mono ?_)
  rintro e w' ⟨rfl, rfl⟩
  go_wp2
  go_ret
  exact ⟨by rw [← HC.out]; rfl, rfl⟩

set_option maxHeartbeats 400000 in
theorem refCheck (xs : List UInt8) (n : Nat) (hl : xs.length = n) (A : Option Addr) (c : Nat) (w : World) (hx : RB w w.heap.size A xs) (hn : n ≤ 1099511627776) :
    Calls Try.prog 27 #[.slice A n c] w fun e w' => e = .returned (.int .i64 ((Sm.check xs : Nat) : Int)) ∧ w = w' := by
  subst hl
  have h1 := Sm.add_le 0 xs
  have HC := Lib.hid (check_int xs)
  have K := Lib.hid (refAdd 0 (by omega) xs A c w hx hn)
  go_enter Try.func27, Try.ntmps27
  go_wp2_with fail
  (refine K.out.mono ?_)
  rintro e w' ⟨rfl, rfl⟩
  go_wp2
  go_ret
  exact ⟨by rw [← HC.out]; rfl, rfl⟩

set_option maxHeartbeats 400000 in
theorem wakes7 (w : World) : Calls Try.prog 28 #[] w fun e w' => e = .returned (.bool true) ∧ Below w.heap.size w w' := by
  have hc : ((Sm.check [0, 1, 242, 3] : Nat) : Int) = 3579 := by decide +kernel
  go_enter Try.func28, Try.ntmps28
  go_wp2_with fail
  refine (sumCheck [0, 1, 242, 3] 4 rfl _ _ _ (RB.lit w 5 _ _ _ rfl) (by simp)).mono ?_
  rintro e w' ⟨rfl, rfl⟩
  rw [hc]
  go_wp2
  go_ret
  exact ⟨rfl, (Below.refl _ _).alloc (Nat.le_refl _) _⟩

end Go.Proofs.Ytjdokaiadljeeaa
