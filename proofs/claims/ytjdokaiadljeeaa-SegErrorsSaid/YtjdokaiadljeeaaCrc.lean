/-
  The walks of the two sums of chapter 5.
-/
import Derived.Test.YtjdokaiadljeeaaCopy
import Derived.Test.YtjdokaiadljeeaaCrcPlain
import Derived.WalkMore
import Derived.ScopeJumps
import Derived.Outline
namespace Go.Proofs.Ytjdokaiadljeeaa
open Go.RowKit

theorem u32_step1 (t : Nat) (ht : t < 4294967296) : bits .xor .u32 ((t : Int) / 2) (3988292384 * bits .and .u32 (t : Int) 1 % 4294967296) = ((Crc.step t : Nat) : Int) := by
  have h2 : t % 2 < 2 := Nat.mod_lt _ (by omega)
  have e0 : bits .and .u32 (t : Int) 1 = ((t % 2 : Nat) : Int) := by
    have := u32_and_nat t 1 ht (by omega)
    rw [nat_mask1] at this
    exact this
  have e1 : ((t : Int) / 2) = ((t / 2 : Nat) : Int) := by omega
  have e2 : (3988292384 * (((t % 2 : Nat)) : Int) % 4294967296) = ((3988292384 * (t % 2) : Nat) : Int) := by omega
  rw [e0, e1, e2, u32_xor_nat _ _ (by omega) (by omega)]
  unfold Crc.step
  rw [Nat.shiftRight_eq_div_pow]
theorem u32_not (s : Nat) (hs : s < 4294967296) : bits .xor .u32 IntKind.u32.max (s : Int) = ((4294967295 ^^^ s : Nat) : Int) := u32_xor_nat 4294967295 s (by omega) hs
theorem u32_not' (s : Nat) (hs : s < 4294967296) : bits .xor .u32 (s : Int) 4294967295 = ((4294967295 ^^^ s : Nat) : Int) := by rw [Nat.xor_comm]; exact u32_xor_nat s 4294967295 hs (by omega)
theorem u32_byte (t : Nat) (ht : t < 4294967296) (x : UInt8) : bits .xor .u32 (t : Int) ((x.toNat : Int) % 4294967296) = ((t ^^^ x.toNat : Nat) : Int) := by
  have hx := x.toNat_lt
  rw [show ((x.toNat : Int) % 4294967296) = (x.toNat : Int) from by omega]
  exact u32_xor_nat t x.toNat ht (by omega)

def JCrc (s : Nat) (xs : List UInt8) (A : Option Addr) (c : Nat) (w : World) (a' : Act) (w' : World) : Prop :=
  w' = w ∧ ∃ (t i b : Nat) (v0 v5 v6 u7 u8 u9 u10 u11 u12 u13 u14 u15 u16 u17 u18 u19 u20 u21 u22 u23 u24 u25 u26 u27 u28 u29 u30 u31 u32 u33 : Value), a' = { tmps := #[v0, .slice A xs.length c, undef, undef, .int .u32 0, v5, v6, u7, u8, u9, u10, u11, u12, u13, u14, u15, u16, u17, u18, u19, u20, u21, u22, u23, u24, u25, u26, u27, u28, u29, u30, u31, u32, u33], defers := [] } ∧ v0 = .int .u32 ((t : Nat) : Int) ∧ v5 = .int .i64 (i : Nat) ∧ v6 = .int .i64 (b : Nat) ∧ t < 4294967296 ∧ i ≤ xs.length ∧ b ≤ 8 ∧ Crc.feed (Crc.steps (8 - b) t) (xs.drop i) = Crc.feed (4294967295 ^^^ s) xs
def muCrc (n : Nat) (a' : Act) : Nat := 9 * (n - (intOf (a'.tmps.getD 5 undef)).toNat) + (8 - (intOf (a'.tmps.getD 6 undef)).toNat)
theorem drop_get {α : Type} (xs : List α) (k : Nat) (x : α) (h : xs[k]? = some x) : xs.drop k = x :: xs.drop (k + 1) := by
  have hk : k < xs.length := by
    rcases Nat.lt_or_ge k xs.length with h1 | h1
    · exact h1
    · rw [List.getElem?_eq_none h1] at h; cases h
  rw [List.drop_eq_getElem_cons hk]
  rw [List.getElem?_eq_getElem hk] at h
  simp at h; rw [h]
theorem ret_of {v v' : Value} (h : v = v') : Ending.returned v = .returned v' := by rw [h]

set_option maxHeartbeats 800000 in
theorem crcSum (s : Nat) (hs : s < 4294967296) (xs : List UInt8) (A : Option Addr) (c : Nat) (w : World) (hx : RB w w.heap.size A xs) (hn : xs.length ≤ 140737488351232) :
    Calls Try.prog 19 #[.int .u32 (s : Nat), .slice A xs.length c] w fun e w' => e = .returned (.int .u32 ((Crc.sum s xs : Nat) : Int)) ∧ w = w' := by
  have hs' : 4294967295 ^^^ s < 4294967296 := Crc.xor_lt (by omega) hs
  have hN := Lib.hid (u32_not s hs)
  go_enter Try.func19, Try.ntmps19
  go_wp2
  refine wp_scope_jumps 0 (JCrc s xs A c w) (fun a' _ => muCrc xs.length a') rfl ?_ ?_
  · go_wp2
    go_step3
    by_cases hlt : 0 < xs.length
    · obtain ⟨ad, u, rfl, hb, hu, hcell⟩ := hx.at_ hlt
      have hcell0 : w.cell? ad = some (.int .u8 (u.toNat : Int)) := by simpa [Addr.add] using hcell
      go_wp2
      go_step3
      refine ⟨rfl, rfl, (4294967295 ^^^ s) ^^^ u.toNat, 1, 0, _, _, _, _, _, _, _, _, _, _, _, _, _, _, _, _, _, _, _, _, _, _, _, _, _, _, _, _, _, _, rfl, by rw [hN.out, u32_byte _ hs'], rfl, rfl, Crc.xor_lt hs' (by have := u.toNat_lt; omega), hlt, by omega, ?_⟩
      conv => rhs; rw [show xs = xs.drop 0 from rfl, drop_get xs 0 u hu]
      rfl
    · have h0 : xs = [] := List.eq_nil_of_length_eq_zero (by omega)
      subst h0
      go_wp2
      simp only [Exit.jump]
      go_ret
      refine ⟨ret_of ?_, rfl⟩
      show Value.int .u32 (bits .xor .u32 IntKind.u32.max (bits .xor .u32 IntKind.u32.max (s : Int))) = _
      rw [hN.out, u32_not _ hs']
      rfl
  · rintro a' w' ⟨rfl, t, i, b, v0, v5, v6, u7, u8, u9, u10, u11, u12, u13, u14, u15, u16, u17, u18, u19, u20, u21, u22, u23, u24, u25, u26, u27, u28, u29, u30, u31, u32, u33, rfl, rfl, rfl, rfl, ht, hi, hb, hf⟩
    have H1 := Lib.hid (u32_step1 t ht)
    have hf' := Lib.hid hf
    clear hf
    by_cases h8 : b < 8
    · go_wp2
      go_step3
      refine ⟨rfl, ⟨rfl, Crc.step t, i, b + 1, _, _, _, _, _, _, _, _, _, _, _, _, _, _, _, _, _, _, _, _, _, _, _, _, _, _, _, _, _, _, rfl, by rw [H1.out], rfl, by go_num, Crc.step_lt ht, hi, by omega, ?_⟩, ?_⟩
      · rw [← hf'.out, show 8 - b = (8 - (b + 1)) + 1 by omega]; rfl
      · simp [muCrc, intOf]; omega
    · obtain rfl : b = 8 := by omega
      by_cases hlt : i < xs.length
      · obtain ⟨ad, u, rfl, hb, hu, hcell⟩ := hx.at_ hlt
        have hf2 := Lib.hid (drop_get xs i u hu)
        go_wp2
        go_step3
        refine ⟨rfl, ⟨rfl, t ^^^ u.toNat, i + 1, 0, _, _, _, _, _, _, _, _, _, _, _, _, _, _, _, _, _, _, _, _, _, _, _, _, _, _, _, _, _, _, rfl, by rw [u32_byte _ ht], by go_num, rfl, Crc.xor_lt ht (by have := u.toNat_lt; omega), hlt, by omega, ?_⟩, ?_⟩
        · rw [← hf'.out, hf2.out]; rfl
        · simp [muCrc, intOf]; omega
      · obtain rfl : i = xs.length := by omega
        go_wp2
        simp only [Exit.jump]
        go_ret
        refine ⟨ret_of ?_, rfl⟩
        show Value.int .u32 (bits .xor .u32 IntKind.u32.max (t : Int)) = _
        rw [u32_not _ ht]
        have := hf'.out
        rw [List.drop_length] at this
        simp only [Crc.sum]
        rw [← this]
        rfl

end Go.Proofs.Ytjdokaiadljeeaa
