/-
  The walk of the document's own sum of chapter 5.
-/
import Derived.Test.YtjdokaiadljeeaaCrc
namespace Go.Proofs.Ytjdokaiadljeeaa
open Go.RowKit

theorem u32_and1 (t : Nat) (ht : t < 4294967296) : bits .and .u32 (t : Int) 1 = ((t % 2 : Nat) : Int) := by
  have := u32_and_nat t 1 ht (by omega)
  rw [nat_mask1] at this
  exact this
theorem crc_odd (t : Nat) (ht : t < 4294967296) (h : t % 2 = 1) : bits .xor .u32 ((t : Int) / 2) 3988292384 = ((Crc.step t : Nat) : Int) := by
  have := u32_step1 t ht
  rw [u32_and1 t ht, h] at this
  simpa using this
theorem crc_even (t : Nat) (h : t % 2 = 0) : ((t : Int) / 2) = ((Crc.step t : Nat) : Int) := by
  unfold Crc.step
  rw [h, Nat.shiftRight_eq_div_pow]
  simp

set_option maxHeartbeats 800000 in
theorem refSum (s : Nat) (hs : s < 4294967296) (xs : List UInt8) (A : Option Addr) (c : Nat) (w : World) (hx : RB w w.heap.size A xs) (hn : xs.length ≤ 140737488351232) :
    Calls Try.prog 20 #[.int .u32 (s : Nat), .slice A xs.length c] w fun e w' => e = .returned (.int .u32 ((Crc.sum s xs : Nat) : Int)) ∧ w = w' := by
  have hs' : 4294967295 ^^^ s < 4294967296 := Crc.xor_lt (by omega) hs
  have hN := Lib.hid (u32_not' s hs)
  have HF := Lib.hid (show Crc.feed (4294967295 ^^^ s) (xs.drop 0) = Crc.feed (4294967295 ^^^ s) xs from rfl)
  go_enter Try.func20, Try.ntmps20
  go_wp2
  go_loop [0, 5] (fun v i => ∃ (k t : Nat), i = .int .i64 k ∧ v = .int .u32 ((t : Nat) : Int) ∧ k ≤ xs.length ∧ t < 4294967296 ∧ Hid (Crc.feed t (xs.drop k) = Crc.feed (4294967295 ^^^ s) xs)) (fun _ i => xs.length - (intOf i).toNat)
  case atStart => exact ⟨0, _, rfl, by rw [hN.out], Nat.zero_le _, hs', HF⟩
  case round =>
    obtain ⟨k, t, rfl, rfl, hk, ht, hf⟩ := hrel
    by_cases hlt : k < xs.length
    · obtain ⟨ad, u, rfl, hb, hu, hcell⟩ := hx.at_ hlt
      have hf2 := Lib.hid (drop_get xs k u hu)
      have hB := Lib.hid (u32_byte t ht u)
      have hu' := Crc.xor_lt ht (show u.toNat < 4294967296 by have := u.toNat_lt; omega)
      clear hu
      go_wp2
      go_loop [0, 6] (fun v j => ∃ (b q : Nat), j = .int .i64 b ∧ v = .int .u32 ((q : Nat) : Int) ∧ b ≤ 8 ∧ q < 4294967296 ∧ Hid (Crc.steps (8 - b) q = Crc.steps 8 (t ^^^ u.toNat))) (fun _ j => 8 - (intOf j).toNat)
      case atStart => exact ⟨0, _, rfl, by rw [hB.out], by omega, hu', rfl⟩
      case round =>
        obtain ⟨b, q, rfl, rfl, hb8, hq, hqs⟩ := hrel
        by_cases h8 : b < 8
        · have hst := Crc.step_lt hq
          have HS : Hid (Crc.steps (8 - (b + 1)) (Crc.step q) = Crc.steps 8 (t ^^^ u.toNat)) := by rw [← hqs.out, show 8 - b = (8 - (b + 1)) + 1 by omega]; rfl
          have HA := Lib.hid (u32_and1 q hq)
          rcases Nat.mod_two_eq_zero_or_one q with hm | hm
          · have he : (bits .and .u32 (q : Int) 1 == 1) = false := by rw [HA.out, hm]; rfl
            have H1 := Lib.hid (crc_even q hm)
            clear hm
            go_wp2
            go_round
            case rel => exact ⟨b + 1, _, by go_num, by rw [H1.out], by omega, hst, HS⟩
            case measure => simp [intOf]; omega
          · have he : (bits .and .u32 (q : Int) 1 == 1) = true := by rw [HA.out, hm]; rfl
            have H1 := Lib.hid (crc_odd q hq hm)
            clear hm
            go_wp2
            go_round
            case rel => exact ⟨b + 1, _, by go_num, by rw [H1.out], by omega, hst, HS⟩
            case measure => simp [intOf]; omega
        · obtain rfl : b = 8 := by omega
          go_wp2
          go_round
          case rel => exact ⟨k + 1, q, by go_num, rfl, by omega, hq, by rw [← hf.out, hf2.out]; show Crc.feed q _ = Crc.feed (Crc.steps 8 (t ^^^ u.toNat)) _; rw [← hqs.out]; rfl⟩
          case measure => simp [intOf]; omega
    · obtain rfl : k = xs.length := by omega
      go_wp2
      go_ret
      refine ⟨ret_of ?_, rfl⟩
      show Value.int .u32 (bits .xor .u32 (t : Int) 4294967295) = _
      rw [u32_not' _ ht]
      have := hf.out
      rw [List.drop_length] at this
      simp only [Crc.sum]
      rw [← this]
      rfl

end Go.Proofs.Ytjdokaiadljeeaa
