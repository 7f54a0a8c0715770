/-
  PROVED: 'sums of any bytes, behind any sum, are the page's' (kiosklaw7.SumAdds). CONDITIONS: none; for every argument.
-/
import Derived.Test.YtjdokaiadljeeaaSumAsk
import Derived.Test.YtjdokaiadljeeaaSumW
import Derived.Test.YtjdokaiadljeeaaEqB
namespace Go.Proofs.Ytjdokaiadljeeaa
open Go.ChangeShapes Go.WideShapes Go.ChangeAt Go.RowKit Go.Deep

theorem and_low (n : Int) : ∃ s : Nat, s ≤ 65535 ∧ bits .and .i64 n 65535 = (s : Int) := by
  refine ⟨(n % 65536).toNat, by omega, ?_⟩
  show IntKind.i64.wrap ((BitVec.ofInt 64 n &&& BitVec.ofInt 64 65535).toNat : Int) = _
  have h1 : (BitVec.ofInt 64 (65535 : Int)).toNat = 65535 := by decide
  rw [BitVec.toNat_and, h1, nat_mask16, BitVec.toNat_ofInt, IntKind.wrap_i64]
  have h2 : ((n % (2 ^ 64 : Nat)).toNat : Int) = n % 18446744073709551616 := by
    have : 0 ≤ n % ((2 ^ 64 : Nat) : Int) := Int.emod_nonneg _ (by decide)
    omega
  omega

set_option maxRecDepth 100000 in
set_option maxHeartbeats 1600000 in
theorem sumAdds_walk (A : Option Addr) (len cap : Nat) (W : World) (hl : len ≤ cap) (hc : cap ≤ maxLen) (ha : SumAsk W A len) :
    Calls Try.prog 5 #[.slice A len cap] W fun e W' => e = .returned (.bool true) ∧ Below W.heap.size W W' := by
  unfold maxLen at hc
  go_enter Try.func5, Try.ntmps5
  go_wp2
  go_loopw [3, 4, 5] (fun i _ _ wr => ∃ k : Nat, k ≤ len ∧ i = .int .i64 k ∧ Below W.heap.size W wr) (fun i _ _ _ => len - (intOf i).toNat)
  case atStart => exact ⟨0, Nat.zero_le _, rfl, Below.refl _ _⟩
  case round =>
    obtain ⟨k, hk, rfl, hb⟩ := hrel
    by_cases hlt : k < len
    · by_cases h15 : (k : Int) < 20
      · obtain ⟨b, o, n0, xs, B, c, n2, rfl, hlt2, c0, _, _, c1, hx1, hx2, hx, _, _, _⟩ := (ha.below hb) k hlt
        by_cases h3 : xs.length ≤ 3000
        · obtain ⟨s, hs, HS⟩ := and_low n0
          go_wp2_with fail
          clear HS
          ((with_reducible refine (copyBytes xs B c wr hx ?_).mono ?_); omega)
          rintro e w1 ⟨A', c', rfl, hown, hb1⟩
          have d1 := (hb1.cell (p := ⟨b, o + k * 3 + 1, none⟩) hlt2).trans c1
          have hx' := hx.next hb1
          have hy' := RB.of_own hown
          have hbb : Below W.heap.size W w1 := hb.trans (hb1.mono hb.size)
          have K1 := Lib.hid (fun m : Nat => sumAdd s hs xs A' c' (w1.drewN m) hy' (by omega))
          have K2 := Lib.hid (fun m : Nat => refAdd s hs xs B c (w1.drewN m) hx' (by omega))
          have K3 := Lib.hid (fun m : Nat => sumCheck xs xs.length rfl A' c' (w1.drewN m) hy' (by omega))
          have K4 := Lib.hid (fun m : Nat => refCheck xs xs.length rfl B c (w1.drewN m) hx' (by omega))
          have K5 := Lib.hid (fun m : Nat => eqBytes xs A' B c' c (w1.drewN m) hy' hx' (by unfold maxLen; omega))
          clear c0 c1 hx hown hb hb1 hx' hy'
          go_wp2_with fail
          go_quiet (first
            | (go_at_call 24; (with_reducible exact quiet_left (K1.out _)))
            | (go_at_call 25; (with_reducible exact quiet_left (K2.out _)))
            | (go_at_call 26; (with_reducible exact quiet_left (K3.out _)))
            | (go_at_call 27; (with_reducible exact quiet_left (K4.out _)))
            | (go_at_call 21; (with_reducible exact Calls.quiet_of (K5.out _))))
          clear K1 K2 K3 K4 K5
          go_wp2
          go_roundw
          case rel => exact ⟨k + 1, by omega, by go_num, below_drewN hbb _⟩
          case measure => simp [intOf]; omega
        · go_wp2
          go_ret
          exact ⟨rfl, hb⟩
      · go_wp2_with (go_at_call 28; refine (wakes7 _).mono ?_; rintro e w' ⟨rfl, hb'⟩)
        go_ret
        exact ⟨rfl, hb.trans (hb'.mono hb.size)⟩
    · go_wp2_with (go_at_call 28; refine (wakes7 _).mono ?_; rintro e w' ⟨rfl, hb'⟩)
      go_ret
      exact ⟨rfl, hb.trans (hb'.mono hb.size)⟩

set_option maxRecDepth 100000 in
theorem sumAdds_lifted (os : Os) (started : os.Started) (H : Type) (enc : TypeId × Value → H) :
    ReturnsInHanded {} Try.checked os 5 .any (Rows.sumAddsSpec.pre6 enc Try.prog Try.f5 [] false) (Rows.sumAddsSpec.post enc Try.prog Try.f5 false true false false) := by
  refine law_lifted (T := 33) Try.func5 Try.params5 (by kernel_rfl) (by rw [Try.params5]; rfl) rfl (fun _ _ => rfl) (by kernel_rfl) (of_decide_eq_true (by kernel_rfl)) (by kernel_rfl) ?_ os started H enc
    (ChangeSpec.witness6 (enc := enc) (C := Try.checked) false ⟨#[], #[.slice none 0 0], []⟩ 8 (by kernel_rfl) (by kernel_rfl) (by kernel_rfl) (by kernel_rfl))
  intro H enc W v d p h
  obtain ⟨A, len, cap, rfl, hl, hc, ha⟩ := SumAsk.of h
  exact sumAdds_walk A len cap W hl hc ha

theorem sumAdds_holds : Rows.SumAddsSaid :=
  OpenClaim.holds_of_wide 5 Try.f5 rfl rfl rfl rfl rfl rfl rfl ⟨rfl, rfl, rfl, rfl, rfl⟩ rfl rfl rfl rfl rfl (by kernel_rfl) Try.func5 (by kernel_rfl)
    (of_decide_eq_true (by kernel_rfl)) (by unfold Func.isWrapper; first | (rw [if_pos (by decide +kernel)]; kernel_rfl) | (rw [if_neg (by decide +kernel)]; exact ⟨rfl, rfl⟩))
    (fun os started H enc _ => sumAdds_lifted os started H enc)

end Go.Proofs.Ytjdokaiadljeeaa
