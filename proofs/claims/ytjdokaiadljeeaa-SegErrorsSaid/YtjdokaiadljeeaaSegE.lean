/-
  What SegErrors needs: its bytes, and what is wrong with each of them.
-/
import Derived.Test.YtjdokaiadljeeaaSegL
namespace Go.Proofs.Ytjdokaiadljeeaa
open Go.RowKit

def serrB : List UInt8 := sgBytes 1 2 3 4 5 0 16 0 [1, 2, 3, 4, 5, 6, 7, 8]
def serrX : Nat → List UInt8
  | 0 => serrB.take 19
  | 1 => serrB.set 12 0x40
  | 2 => serrB.set 12 0x80
  | 3 => serrB.set 25 99
  | 4 => ((serrB.set 12 0x70).set 14 0xdf).set 15 0xff
  | _ => serrB
def serrW : List Int := [7, 1, 7, 8, 0]
theorem serr_all : ∀ k : Fin 5, (segOut 1 2 (serrX k.val)).2 = serrW.getD k.val 0 := by decide +kernel
theorem serr_4 : (segOut 1 2 (serrX 4)).2 = 0 ∧ (segOut 1 2 (serrX 4)).1.wn = 57343 ∧ (segOut 1 2 (serrX 4)).1.xs = [] := by decide +kernel
theorem serrX_get (k : Nat) (hk : k < 5) : (segOut 1 2 (serrX k)).2 = serrW.getD k 0 := serr_all ⟨k, hk⟩
theorem seg_err (src dst : Int) (xs : List UInt8) (h : (segOut src dst xs).2 ≠ 0) : (segOut src dst xs).1 = Sg.zero := by
  revert h
  unfold segOut
  repeat' split
  all_goals first | (intro _; rfl) | (intro h; exact absurd rfl h)
theorem serrB_length : serrB.length = 28 := by rw [serrB, sgBytes_length]; rfl
theorem seg_far1 (xs : List UInt8) : segOut (-1) 2 xs = (⟨0, 0, 0, 0, 0, 0, []⟩, 1) := by
  unfold segOut
  rw [if_pos (Or.inl (by decide))]
  rfl
theorem seg_far2 (xs : List UInt8) : segOut 1 4294967296 xs = (⟨0, 0, 0, 0, 0, 0, []⟩, 1) := by
  unfold segOut
  rw [if_pos (Or.inr (by decide))]
  rfl
theorem eqNone (A : Option Addr) (c : Nat) (w : World) :
    Calls Try.prog 21 #[.slice A 0 c, .slice none 0 0] w fun e w' => e = .returned (.bool true) ∧ ∃ n, w' = w.drewN n :=
  eqBytes [] A none c 0 w ⟨rfl, fun h => by simp at h⟩ RB.nil (by decide)

/-- what the switch of SegErrors leaves in x. -/
def SErrRel (k B : Nat) (w0 : World) (s : Value) (wx : World) : Prop :=
  ∃ (A : Option Addr) (n c : Nat) (ys : List UInt8), s = .slice A n c ∧ ys.length = n ∧ n ≤ c ∧ n ≤ 28 ∧ RB wx wx.heap.size A ys ∧ ys = serrX k ∧ Below B w0 wx
section
variable {w w0 : World} {B base g c : Nat} {A : Option Addr}
theorem SErrRel.cut (hr : RB w w.heap.size A serrB) (hc : 28 ≤ c) (hb : Below B w0 w) : SErrRel 0 B w0 (.slice A 19 c) w :=
  ⟨A, 19, c, serrB.take 19, rfl, by rw [List.length_take, serrB_length]; rfl, by omega, by omega, hr.take 19, rfl, hb⟩
theorem SErrRel.set (k p : Nat) (v : UInt8) {vI : Value} (hv : vI = .int .u8 (v.toNat : Int)) (hx : serrX k = serrB.set p v) (hown : w.ownsRow base 5 1 (.slice (some ⟨g, 0, none⟩) 28 c) 28 (serrB.map bv)) (hc : 28 ≤ c) (hb : Below B w0 w) (hg : B ≤ g) :
    SErrRel k B w0 (.slice (some ⟨g, 0, none⟩) 28 c) (w.setCell ⟨g, p, none⟩ vI) :=
  ⟨_, 28, c, serrB.set p v, rfl, by rw [List.length_set, serrB_length], hc, by omega, RB.of_ownN (own_setv hown p v hv), hx.symm, ((Only.refl g w).set p vI).below _ _ hb hg⟩
theorem SErrRel.three {v1 v2 v3 : Value} (h1 : v1 = .int .u8 (((0x70 : UInt8).toNat : Nat) : Int)) (h2 : v2 = .int .u8 (((0xdf : UInt8).toNat : Nat) : Int)) (h3 : v3 = .int .u8 (((0xff : UInt8).toNat : Nat) : Int)) (hown : w.ownsRow base 5 1 (.slice (some ⟨g, 0, none⟩) 28 c) 28 (serrB.map bv)) (hc : 28 ≤ c) (hb : Below B w0 w) (hg : B ≤ g) :
    SErrRel 4 B w0 (.slice (some ⟨g, 0, none⟩) 28 c) (((w.setCell ⟨g, 12, none⟩ v1).setCell ⟨g, 14, none⟩ v2).setCell ⟨g, 15, none⟩ v3) :=
  ⟨_, 28, c, ((serrB.set 12 0x70).set 14 0xdf).set 15 0xff, rfl, by rw [List.length_set, List.length_set, List.length_set, serrB_length], hc, by omega, RB.of_ownN (own_setv (own_setv (own_setv hown 12 0x70 h1) 14 0xdf h2) 15 0xff h3), rfl, ((((Only.refl g w).set 12 v1).set 14 v2).set 15 v3).below _ _ hb hg⟩
end

end Go.Proofs.Ytjdokaiadljeeaa
