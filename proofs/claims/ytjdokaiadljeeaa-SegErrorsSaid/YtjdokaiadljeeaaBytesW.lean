/-
  The walks of the small functions over bytes: slices.Clone, sum.Set, Big, sum.Put, sum.Get, Of, kiosklaw0.Bytes.
-/
import Derived.Test.YtjdokaiadljeeaaMem2
import Derived.Test.YtjdokaiadljeeaaNumPlain
import Derived.Test.YtjdokaiadljeeaaSumW
import Derived.Test.YtjdokaiadljeeaaCrcTurn
namespace Go.Proofs.Ytjdokaiadljeeaa
open Go.RowKit

set_option maxHeartbeats 400000 in
theorem clone (xs : List UInt8) (n : Nat) (hl : xs.length = n) (A : Option Addr) (c : Nat) (w : World) (hx : RB w w.heap.size A xs) (hn : n ≤ 140737488351232) :
    Calls Try.prog 57 #[.slice A n c] w fun e w' => ∃ A' c', e = .returned (.slice A' n c') ∧ w'.ownsRow w.heap.size 5 1 (.slice A' n c') n (xs.map bv) ∧ Below w.heap.size w w' := by
  have heq := fun w : World => Lib.run_eql_slice_nil (P := Try.prog) w 24 5 A n c 0 0 Try.underlying24
  rcases A with _ | ad
  · have h0 : n = 0 := by
      subst hl
      rcases Nat.eq_zero_or_pos xs.length with h | h
      · exact h
      · obtain ⟨_, h1, _⟩ := hx.2 h
        cases h1
    subst h0
    have hxs : xs = [] := List.eq_nil_of_length_eq_zero hl
    subst hxs
    go_enter Try.func57, Try.ntmps57
    go_wp2
    go_ret
    exact ⟨none, 0, rfl, World.ownsRow_nil _ _ _ _, Below.refl _ _⟩
  · simp only [Option.isNone_some] at heq
    have hmade : (w.alloc (.cells #[] 5)).ownsRow w.heap.size 5 1 (.slice (some ⟨w.heap.size, 0, none⟩) 0 0) 0 (([] : List UInt8).map bv) :=
      World.ownsRow_made w #[] 0 (Nat.le_refl _) (by decide) (by simp)
    have hrd : RB (w.alloc (.cells #[] 5)) (w.alloc (.cells #[] 5)).heap.size (some ad) xs := hx.next ((Below.refl _ _).alloc (Nat.le_refl _) _)
    have hbel : Below w.heap.size w (w.alloc (.cells #[] 5)) := (Below.refl _ _).alloc (Nat.le_refl _) _
    have HM := Lib.hid hmade
    have HR := Lib.hid hrd
    have HB := Lib.hid hbel
    have hl' := Lib.hid hl
    clear hmade hrd hbel hx hl
    go_enter Try.func57, Try.ntmps57
    go_wp2_with (at_builtin; refine wpList_append_bytes w.heap.size HB.out rfl _ _ 24 rfl w.heap.size 5 Try.underlying24 info_u8 _ _ [] (by exact rfl) HM.out (some ad) n c xs hl'.out (by exact rfl) HR.out (by omega) (by simp) (Nat.le_refl _) ?_; intro A' c' w' hown' hb')
    go_ret
    exact ⟨A', c', by simp only; rfl, by simpa using hown', hb'⟩

set_option maxHeartbeats 400000 in
/-- sum.Set: two bytes of a row of the call's own are written over. -/
theorem sumSet (g n cap base : Nat) (xs : List UInt8) (pI vI : Int) (p v : Nat) (hpe : pI = (p : Int)) (hve : vI = (v : Int)) (w : World) (hown : w.ownsRow base 5 1 (.slice (some ⟨g, 0, none⟩) n cap) n (xs.map bv)) (hp : p + 1 < n) (hv : v ≤ 65535) (hn : n ≤ 140737488351232) :
    Calls Try.prog 58 #[.slice (some ⟨g, 0, none⟩) n cap, .int .i64 pI, .int .i64 vI] w fun e w' => e = .returned (.tuple #[]) ∧
      w'.ownsRow base 5 1 (.slice (some ⟨g, 0, none⟩) n cap) n (((xs.set p (UInt8.ofNat (v / 256))).set (p + 1) (UInt8.ofNat v)).map bv) ∧ Only g w w' := by
  subst hpe hve
  obtain ⟨y2, _, f2, z2⟩ := own_cell hown p (by omega)
  obtain ⟨y3, _, f3, z3⟩ := own_cell hown (p + 1) (by omega)
  have HO6 := Lib.hid (own_setv (own_setv hown p (UInt8.ofNat (v / 256)) (congrArg _ (byte_hi v hv))) (p + 1) (UInt8.ofNat v) (congrArg _ (byte_lo v)))
  have O6 := Lib.hid (((Only.refl g w).set p (.int .u8 ((v : Int) / 256))).set (p + 1) (.int .u8 ((v : Int) % 256)))
  have hpI : (p : Int) < (n : Int) := by omega
  have hpI2 : (p : Int) + 1 < (n : Int) := by omega
  have hpN : 0 < n := by omega
  clear hown
  go_enter Try.func58, Try.ntmps58
  go_wp2
  go_end0
  exact ⟨rfl, HO6.out, O6.out⟩

theorem bigI (k : Nat) (n : Nat) : ((n : Int) / 2 ^ (8 * k)) = ((n / 256 ^ k : Nat) : Int) := by
  rw [show (256 : Nat) ^ k = 2 ^ (8 * k) by rw [Nat.pow_mul]]
  simp

set_option maxRecDepth 100000 in
set_option maxHeartbeats 800000 in
theorem big_walk (vI kI : Int) (v k : Nat) (hve : vI = (v : Int)) (hke : kI = (k : Int)) (hk : k ≤ 7) (_hv : v < 9223372036854775808) (w : World) :
    Calls Try.prog 59 #[.int .i64 vI, .int .i64 kI] w fun e w' => ∃ A' c', e = .returned (.slice A' k c') ∧ w'.ownsRow w.heap.size 5 1 (.slice A' k c') k ((big k v).map bv) ∧ Below w.heap.size w w' := by
  subst hve hke
  go_enter Try.func59, Try.ntmps59
  go_wp2
  go_loopw [5, 6] (fun sv i wr => ∃ j : Nat, j ≤ k ∧ i = .int .i64 ((k : Int) - 1 - (j : Int)) ∧ wr.ownsRow w.heap.size 5 1 sv j (((big k v).take j).map bv) ∧ Below w.heap.size w wr)
    (fun _ i _ => (intOf i + 1).toNat)
  case atStart => exact ⟨0, Nat.zero_le _, by go_num, World.ownsRow_nil _ _ _ _, Below.refl _ _⟩
  case round =>
    obtain ⟨j, hj, rfl, hown, hb⟩ := hrel
    by_cases hlt : j < k
    · have HS : Hid (((big k v).take (j + 1)).map bv = ((big k v).take j).map bv ++ [.int .u8 (((UInt8.ofNat (v / 256 ^ (k - 1 - j))).toNat : Nat) : Int)]) := by
        rw [big_take_snoc k v j hlt, List.map_append]; rfl
      have hlt' : (j : Int) ≤ (k : Int) - 1 := by omega
      have EV : Hid ((v : Int) / 2 ^ (8 * (k - 1 - j)) % 256 = (((UInt8.ofNat (v / 256 ^ (k - 1 - j))).toNat : Nat) : Int)) := by
        unfold Hid
        rw [bigI, byte_shr]
      go_wp2_with (at_builtin; refine wpList_append1 w.heap.size hb rfl _ _ 24 rfl w.heap.size 5 (.int .u8 0) 1 Try.underlying24 info_u8 rfl _ _ _ (by exact rfl) hown (.int .u8 ((v : Int) / 2 ^ (8 * (k - 1 - j)) % 256)) (by exact rfl) rfl (by omega) (by unfold maxLen; omega) hb.size (Nat.le_refl _) ?_; intro A' c' w' hown' hb')
      go_roundw
      case rel => exact ⟨j + 1, by omega, by go_num, by rw [HS.out, ← EV.out]; exact hown', hb'⟩
      case measure => simp [intOf]; omega
    · obtain rfl : j = k := by omega
      obtain ⟨A', c', rfl, _, _⟩ := own_shape hown
      go_wp2
      go_ret
      exact ⟨A', c', rfl, by rw [List.take_of_length_le (by rw [big_length]; exact Nat.le_refl _)] at hown; exact hown, hb⟩

set_option maxRecDepth 100000 in
set_option maxHeartbeats 800000 in
/-- sum.Put: a number's bytes behind those of a row of the call's own. -/
theorem sumPut (B base : Nat) (w0 : World) (xs : List UInt8) (m : Nat) (hm : xs.length = m) (A : Option Addr) (c : Nat) (kI vI : Int) (k v : Nat) (hke : kI = (k : Int)) (hve : vI = (v : Int)) (hk : k ≤ 7) (_hv : v < 9223372036854775808) (w : World)
    (hown : w.ownsRow base 5 1 (.slice A m c) m (xs.map bv)) (hb0 : Below B w0 w) (hB : B ≤ base) (hbase : base ≤ w.heap.size) (hn : m ≤ 140737488351232) :
    Calls Try.prog 61 #[.slice A m c, .int .i64 kI, .int .i64 vI] w fun e w' => ∃ A' c', e = .returned (.slice A' (m + k) c') ∧ w'.ownsRow base 5 1 (.slice A' (m + k) c') (m + k) ((xs ++ big k v).map bv) ∧ Below B w0 w' ∧ base ≤ w'.heap.size := by
  subst hke hve
  have hs0 : ((xs ++ (big k v).take 0).map bv) = xs.map bv := by simp
  have HS0 := Lib.hid hs0
  have hm' := Lib.hid hm
  have HO := Lib.hid hown
  clear hs0 hm hown
  go_enter Try.func61, Try.ntmps61
  go_wp2
  go_loopw [0, 7] (fun sv i wr => ∃ j : Nat, j ≤ k ∧ i = .int .i64 ((k : Int) - 1 - (j : Int)) ∧ wr.ownsRow base 5 1 sv (m + j) ((xs ++ (big k v).take j).map bv) ∧ Below B w0 wr ∧ base ≤ wr.heap.size)
    (fun _ i _ => (intOf i + 1).toNat)
  case atStart => exact ⟨0, Nat.zero_le _, by go_num, by rw [HS0.out]; exact HO.out, hb0, hbase⟩
  case round =>
    obtain ⟨j, hj, rfl, hown, hb, hbs⟩ := hrel
    by_cases hlt : j < k
    · have HS : Hid ((xs ++ (big k v).take (j + 1)).map bv = (xs ++ (big k v).take j).map bv ++ [.int .u8 (((UInt8.ofNat (v / 256 ^ (k - 1 - j))).toNat : Nat) : Int)]) := by
        rw [big_take_snoc k v j hlt, ← List.append_assoc, List.map_append]; rfl
      have hlt' : (j : Int) ≤ (k : Int) - 1 := by omega
      have EV : Hid ((v : Int) / 2 ^ (8 * (k - 1 - j)) % 256 = (((UInt8.ofNat (v / 256 ^ (k - 1 - j))).toNat : Nat) : Int)) := by
        unfold Hid
        rw [bigI, byte_shr]
      obtain ⟨A1, c1, rfl, _, _⟩ := own_shape hown
      go_wp2_with (at_builtin; refine wpList_append1 B hb rfl _ _ 24 rfl base 5 (.int .u8 0) 1 Try.underlying24 info_u8 rfl _ _ _ (by exact rfl) hown (.int .u8 ((v : Int) / 2 ^ (8 * (k - 1 - j)) % 256)) (by exact rfl) rfl (by omega) (by unfold maxLen; omega) hbs hB ?_; intro A' c' w' hown' hb')
      go_roundw
      case rel => exact ⟨j + 1, by omega, by go_num, by rw [HS.out, ← EV.out]; exact hown', hb', by obtain ⟨g, _, _, h1, h2⟩ := hown'.form (by omega); omega⟩
      case measure => simp [intOf]; omega
    · obtain rfl : j = k := by omega
      obtain ⟨A', c', rfl, _, _⟩ := own_shape hown
      go_wp2
      go_ret
      exact ⟨A', c', rfl, by rw [List.take_of_length_le (by rw [big_length]; exact Nat.le_refl _)] at hown; exact hown, hb, hbs⟩

theorem or_shl (a : Nat) (x : UInt8) (ha : a < 36028797018963968) : bits .or .i64 ((a : Int) * 256) (x.toNat : Int) = ((a * 256 + x.toNat : Nat) : Int) := by
  have hx := x.toNat_lt
  have := i64_or_nat (a * 256) x.toNat (by omega) (by omega)
  rw [shift_or a x.toNat hx] at this
  rw [← this]
  simp

set_option maxHeartbeats 800000 in
theorem sumGet (xs : List UInt8) (n : Nat) (hl : xs.length = n) (A : Option Addr) (c : Nat) (w : World) (hx : RB w w.heap.size A xs) (hn : n ≤ 7) :
    Calls Try.prog 63 #[.slice A n c] w fun e w' => e = .returned (.int .i64 ((ofB xs : Nat) : Int)) ∧ w = w' := by
  subst hl
  go_enter Try.func63, Try.ntmps63
  go_wp2
  go_loop [2, 7] (fun sv i => ∃ k t : Nat, i = .int .i64 k ∧ sv = .int .i64 (t : Nat) ∧ k ≤ xs.length ∧ Hid (t = ofB (xs.take k))) (fun _ i => xs.length - (intOf i).toNat)
  case atStart => exact ⟨0, 0, rfl, rfl, Nat.zero_le _, rfl⟩
  case round =>
    obtain ⟨k, t, rfl, rfl, hk, ht⟩ := hrel
    by_cases hlt : k < xs.length
    · obtain ⟨b0, o0, u, rfl, hb, hu, hcell⟩ := hx.get hlt
      have hub : (u.toNat : Int) < 256 := by have := u.toNat_lt; omega
      have hs : ofB (xs.take (k + 1)) = t * 256 + u.toNat := by rw [take_snoc? xs k u hu, ofB_snoc, ht.out]
      have ht1 : t < 36028797018963968 := by
        have h1 := ofB_lt (xs.take k)
        have h2 : (256 : Nat) ^ (xs.take k).length ≤ 256 ^ 6 := Nat.pow_le_pow_right (by omega) (by rw [List.length_take]; omega)
        have h3 := ht.out
        omega
      have HO := Lib.hid (or_shl t u ht1)
      have HS := Lib.hid hs
      clear hu hs
      go_wp2
      go_round
      case rel => exact ⟨k + 1, t * 256 + u.toNat, by go_num, by rw [HO.out], by omega, HS.out.symm⟩
      case measure => simp [intOf]; omega
    · obtain rfl : k = xs.length := by omega
      have HE : Hid (ofB xs = t) := by rw [ht.out, List.take_length]; exact rfl
      go_wp2
      go_ret
      exact ⟨by rw [HE.out]; rfl, rfl⟩

set_option maxHeartbeats 800000 in
theorem ofW (xs : List UInt8) (n : Nat) (hl : xs.length = n) (A : Option Addr) (c : Nat) (w : World) (hx : RB w w.heap.size A xs) (hn : n ≤ 7) :
    Calls Try.prog 64 #[.slice A n c] w fun e w' => e = .returned (.int .i64 ((ofB xs : Nat) : Int)) ∧ w = w' := by
  subst hl
  have hb : ∀ k, k ≤ xs.length → ofB (xs.take k) < 72057594037927936 := by
    intro k hk
    have h1 := ofB_lt (xs.take k)
    have h2 : (256 : Nat) ^ (xs.take k).length ≤ 256 ^ 7 := Nat.pow_le_pow_right (by omega) (by rw [List.length_take]; omega)
    omega
  have HB := Lib.hid hb
  clear hb
  go_enter Try.func64, Try.ntmps64
  go_wp2
  go_loop [3, 4] (fun sv i => ∃ k t : Nat, i = .int .i64 k ∧ sv = .int .i64 (t : Nat) ∧ k ≤ xs.length ∧ Hid (t = ofB (xs.take k))) (fun _ i => xs.length - (intOf i).toNat)
  case atStart => exact ⟨0, 0, rfl, rfl, Nat.zero_le _, rfl⟩
  case round =>
    obtain ⟨k, t, rfl, rfl, hk, ht⟩ := hrel
    by_cases hlt : k < xs.length
    · obtain ⟨b0, o0, u, rfl, hb, hu, hcell⟩ := hx.get hlt
      have hub : (u.toNat : Int) < 256 := by have := u.toNat_lt; omega
      have hs : ofB (xs.take (k + 1)) = t * 256 + u.toNat := by rw [take_snoc? xs k u hu, ofB_snoc, ht.out]
      have ht1 : t < 36028797018963968 := by
        have h1 := ofB_lt (xs.take k)
        have h2 : (256 : Nat) ^ (xs.take k).length ≤ 256 ^ 6 := Nat.pow_le_pow_right (by omega) (by rw [List.length_take]; omega)
        have h3 := ht.out
        omega
      have HO := Lib.hid (or_shl t u ht1)
      have HS := Lib.hid hs
      clear hu hs
      go_wp2
      go_round
      case rel => exact ⟨k + 1, t * 256 + u.toNat, by go_num, by rw [HO.out], by omega, HS.out.symm⟩
      case measure => simp [intOf]; omega
    · obtain rfl : k = xs.length := by omega
      have HE : Hid (ofB xs = t) := by rw [ht.out, List.take_length]; exact rfl
      go_wp2
      go_ret
      exact ⟨by rw [HE.out]; rfl, rfl⟩

end Go.Proofs.Ytjdokaiadljeeaa
