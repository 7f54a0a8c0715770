/-
  The walk of CopyBytes.
-/
import Derived.Test.YtjdokaiadljeeaaProg
import Derived.Test.YtjdokaiadljeeaaMem
namespace Go.Proofs.Ytjdokaiadljeeaa
open Go.RowKit

theorem info_u8 : (Try.prog.info? 5).map (fun i => (i.zero, i.size, i.bytes)) = some (some (.int .u8 0), 1, 1) := by kernel_rfl

set_option maxHeartbeats 400000 in
theorem copyBytes (xs : List UInt8) (A : Option Addr) (c : Nat) (w : World) (hx : RB w w.heap.size A xs) (hn : xs.length ≤ 140737488351232) :
    Calls Try.prog 18 #[.slice A xs.length c] w fun e w' => ∃ A' c', e = .returned (.slice A' xs.length c') ∧ w'.ownsRow w.heap.size 5 1 (.slice A' xs.length c') xs.length (xs.map bv) ∧ Below w.heap.size w w' := by
  go_enter Try.func18, Try.ntmps18
  go_wp2
  go_loopw [3, 4] (fun v i wr => ∃ k : Nat, k ≤ xs.length ∧ i = .int .i64 k ∧ wr.ownsRow w.heap.size 5 1 v k ((xs.take k).map bv) ∧ Below w.heap.size w wr)
    (fun _ i _ => xs.length - (intOf i).toNat)
  case atStart => exact ⟨0, Nat.zero_le _, rfl, World.ownsRow_nil _ _ _ _, Below.refl _ _⟩
  case round =>
    obtain ⟨k, hk, rfl, hown, hnx⟩ := hrel
    by_cases hlt : k < xs.length
    · obtain ⟨ad, u, rfl, hb, hu, hcell⟩ := (hx.below hnx).at_ hlt
      have hts := take_snoc? xs k u hu
      have HS : Hid ((xs.take (k+1)).map bv = (xs.take k).map bv ++ [.int .u8 (u.toNat : Int)]) := by rw [hts]; simp [Hid]
      clear hts hu
      go_wp2_with (at_builtin; refine wpList_append1 w.heap.size hnx rfl _ _ 24 rfl w.heap.size 5 (.int .u8 0) 1 Try.underlying24 info_u8 rfl _ _ _ (by exact rfl) hown (.int .u8 (u.toNat : Int)) (by exact rfl) rfl (by omega) (by unfold maxLen; omega) hnx.size (Nat.le_refl _) ?_; intro A' c' w' hown' hb')
      go_roundw
      case rel => exact ⟨k + 1, by omega, by go_num, by rw [HS.out]; exact hown', hb'⟩
      case measure => simp [intOf]; omega
    · obtain rfl : k = xs.length := by omega
      obtain ⟨A', c', rfl, _, _⟩ := own_shape hown
      go_wp2
      go_ret
      exact ⟨A', c', rfl, by simpa using hown, hnx⟩

end Go.Proofs.Ytjdokaiadljeeaa
