/-
  PROVED: 'Sums of any bytes, behind any sum, are the page's' (kiosklaw5.CrcSums). CONDITIONS: none; for every argument.
-/
import Derived.Test.YtjdokaiadljeeaaCrcAsk
namespace Go.Proofs.Ytjdokaiadljeeaa
open Go.ChangeShapes Go.WideShapes Go.ChangeAt Go.RowKit Go.Deep

set_option maxHeartbeats 1600000 in
theorem crcSums_walk (A : Option Addr) (len cap : Nat) (W : World) (hl : len ≤ cap) (hc : cap ≤ maxLen) (ha : CrcAsk W A len) :
    Calls Try.prog 3 #[.slice A len cap] W fun e W' => e = .returned (.bool true) ∧ Below W.heap.size W W' := by
  unfold maxLen at hc
  go_enter Try.func3, Try.ntmps3
  go_wp2
  go_loopw [3, 4] (fun i b wr => ∃ k : Nat, k ≤ len ∧ i = .int .i64 k ∧ Below W.heap.size W wr) (fun i _ _ => len - (intOf i).toNat)
  case atStart => exact ⟨0, Nat.zero_le _, rfl, Below.refl _ _⟩
  case round =>
    obtain ⟨k, hk, rfl, hb⟩ := hrel
    by_cases hlt : k < len
    · by_cases h15 : (k : Int) < 15
      · obtain ⟨b, o, s, xs, B, c, n, rfl, hs, hx1, hx2, hn1, hn2, hlt2, c0, c1, c2, hx⟩ := (ha.below hb) k hlt
        by_cases h3 : xs.length ≤ 3000
        · go_wp2_with fail
          refine (copyBytes xs B c wr hx (by omega)).mono ?_
          rintro e w1 ⟨A', c', rfl, hown, hb1⟩
          have d0 := (hb1.cell (p := ⟨b, o + k * 3, none⟩) hlt2).trans c0
          have d1 := (hb1.cell (p := ⟨b, o + k * 3 + 1, none⟩) hlt2).trans c1
          have hx' := hx.next hb1
          have hy' := RB.of_own hown
          have hbb : Below W.heap.size W w1 := hb.trans (hb1.mono hb.size)
          clear c0 c1 c2 hx hown hb hb1
          go_wp2_with fail
          go_quiet (first
            | (go_at_call 19; exact quiet_left (crcSum s hs xs _ _ _ hy' (by omega)))
            | (go_at_call 20; exact quiet_left (refSum s hs xs _ _ _ hx' (by omega)))
            | (go_at_call 21; exact Calls.quiet_of (eqBytes xs _ _ _ _ _ hy' hx' (by unfold maxLen; omega))))
          go_wp2
          go_roundw
          case rel => exact ⟨k + 1, by omega, by go_num, below_drewN hbb _⟩
          case measure => simp [intOf]; omega
        · go_wp2
          go_ret
          exact ⟨rfl, hb⟩
      · go_wp2_with (go_at_call 22; refine (wakes5 _).mono ?_; rintro e w' ⟨rfl, hb'⟩)
        go_ret
        exact ⟨rfl, hb.trans (hb'.mono hb.size)⟩
    · go_wp2_with (go_at_call 22; refine (wakes5 _).mono ?_; rintro e w' ⟨rfl, hb'⟩)
      go_ret
      exact ⟨rfl, hb.trans (hb'.mono hb.size)⟩

set_option maxRecDepth 100000 in
theorem crcSums_lifted (os : Os) (started : os.Started) (H : Type) (enc : TypeId × Value → H) :
    ReturnsInHanded {} Try.checked os 3 .any (Rows.crcSumsSpec.pre6 enc Try.prog Try.f3 [] false) (Rows.crcSumsSpec.post enc Try.prog Try.f3 false true false false) := by
  refine law_lifted (T := 22) Try.func3 Try.params3 (by kernel_rfl) (by rw [Try.params3]; rfl) rfl (fun _ _ => rfl) (by kernel_rfl) (of_decide_eq_true (by kernel_rfl)) (by kernel_rfl) ?_ os started H enc
    (ChangeSpec.witness6 (enc := enc) (C := Try.checked) false ⟨#[], #[.slice none 0 0], []⟩ 8 (by kernel_rfl) (by kernel_rfl) (by kernel_rfl) (by kernel_rfl))
  intro H enc W v d p h
  obtain ⟨A, len, cap, rfl, hl, hc, ha⟩ := CrcAsk.of h
  exact crcSums_walk A len cap W hl hc ha

theorem crcSums_holds : Rows.CrcSumsSaid :=
  OpenClaim.holds_of_wide 3 Try.f3 rfl rfl rfl rfl rfl rfl rfl ⟨rfl, rfl, rfl, rfl, rfl⟩ rfl rfl rfl rfl rfl (by kernel_rfl) Try.func3 (by kernel_rfl)
    (of_decide_eq_true (by kernel_rfl)) (by unfold Func.isWrapper; first | (rw [if_pos (by decide +kernel)]; kernel_rfl) | (rw [if_neg (by decide +kernel)]; exact ⟨rfl, rfl⟩))
    (fun os started H enc _ => crcSums_lifted os started H enc)

end Go.Proofs.Ytjdokaiadljeeaa
