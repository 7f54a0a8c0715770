/-
  What IpErrors needs: bytes with another byte and the sum put right again.
-/
import Derived.Test.YtjdokaiadljeeaaIpL
namespace Go.Proofs.Ytjdokaiadljeeaa
open Go.RowKit

def mendZ (xs : List UInt8) (p : Nat) (v : UInt8) : List UInt8 := ((xs.set p v).set 10 0).set 11 0
def mendPut (xs : List UInt8) (p : Nat) (v : UInt8) : List UInt8 :=
  ((mendZ xs p v).set 10 (UInt8.ofNat (Sm.check ((mendZ xs p v).take 20) / 256))).set 11 (UInt8.ofNat (Sm.check ((mendZ xs p v).take 20)))
theorem mendZ_length (xs : List UInt8) (p : Nat) (v : UInt8) : (mendZ xs p v).length = xs.length := by simp [mendZ]

set_option maxRecDepth 100000 in
set_option maxHeartbeats 1600000 in
theorem mendedPut (xs : List UInt8) (n : Nat) (hl : xs.length = n) (A : Option Addr) (c : Nat) (w : World) (hx : RB w w.heap.size A xs) (h20 : 20 ≤ n) (hn : n ≤ 140737488351232) (p : Nat) (hp : p < 10) (pI : Int) (hpe : pI = (p : Int)) (v : UInt8) (vI : Int) (hve : vI = (v.toNat : Int)) :
    Calls Try.prog 45 #[.slice A n c, .int .i64 pI, .int .u8 vI] w fun e w' => ∃ A' c', e = .returned (.slice A' n c') ∧ w'.ownsRow w.heap.size 5 1 (.slice A' n c') n ((mendPut xs p v).map bv) ∧ Below w.heap.size w w' := by
  subst hpe hve
  have KC := Lib.hid (copyN xs n hl A c w hx hn)
  have hl' := Lib.hid hl
  have hpn : (p : Int) < (n : Int) := by omega
  have hp10 : ¬ p = 10 := by omega
  have hp11 : ¬ p = 11 := by omega
  have hp10' : ¬ 10 = p := by omega
  have hp11' : ¬ 11 = p := by omega
  have i10 : (10 : Int) < (n : Int) := by omega
  have i11 : (11 : Int) < (n : Int) := by omega
  clear hl hx
  go_enter Try.func45, Try.ntmps45
  go_wp2_with fail
  (with_reducible refine KC.out.mono ?_)
  rintro e w1 ⟨A1, c1, rfl, hown1, hb1⟩
  have hc1 : n ≤ c1 := by obtain ⟨_, _, hA, h, _⟩ := own_shape hown1; injection hA with _ _ h2; omega
  obtain ⟨g, rfl, hg, hg2⟩ := own_form hown1 (by omega)
  obtain ⟨x0, _, f0, z0⟩ := own_cell hown1 p (by omega)
  obtain ⟨x1, _, f1, z1⟩ := own_cell hown1 10 (by omega)
  obtain ⟨x2, _, f2, z2⟩ := own_cell hown1 11 (by omega)
  have HO2 := Lib.hid (own_setv (own_setv (own_setv hown1 p v (v := .int .u8 (v.toNat : Int)) rfl) 10 0 (v := .int .u8 0) rfl) 11 0 (v := .int .u8 0) rfl)
  have O2 := Lib.hid ((((Only.refl g w1).set p (.int .u8 (v.toNat : Int))).set 10 (.int .u8 0)).set 11 (.int .u8 0))
  have h20c : (20 : Int) ≤ (c1 : Int) := by omega
  clear hown1
  go_wp2_with fail
  generalize ((w1.setCell ⟨g, p, none⟩ (.int .u8 (v.toNat : Int))).setCell ⟨g, 10, none⟩ (.int .u8 0)).setCell ⟨g, 11, none⟩ (.int .u8 0) = w2 at HO2 O2 ⊢
  have HO2' : Hid (w2.ownsRow w.heap.size 5 1 (.slice (some ⟨g, 0, none⟩) n c1) n ((mendZ xs p v).map bv)) := HO2
  have hz : (mendZ xs p v).length = n := by rw [mendZ_length]; exact hl'.out
  have hcl := Sm.check_le ((mendZ xs p v).take 20)
  have HF := Lib.hid (show ((mendZ xs p v).set 10 (UInt8.ofNat (Sm.check ((mendZ xs p v).take 20) / 256))).set 11 (UInt8.ofNat (Sm.check ((mendZ xs p v).take 20))) = mendPut xs p v from rfl)
  have KK := Lib.hid (refCheck ((mendZ xs p v).take 20) 20 (by rw [List.length_take]; omega) (some ⟨g, 0, none⟩) c1 w2 ((RB.of_ownN HO2'.out).take 20) (by omega))
  generalize Sm.check ((mendZ xs p v).take 20) = k at hcl HF KK
  obtain ⟨y1, _, g1, q1⟩ := own_cell HO2'.out 10 (by omega)
  obtain ⟨y2, _, g2, q2⟩ := own_cell HO2'.out 11 (by omega)
  have HO3 := Lib.hid (own_setv (own_setv HO2'.out 10 (UInt8.ofNat (k / 256)) (congrArg _ (byte_hi k hcl))) 11 (UInt8.ofNat k) (congrArg _ (byte_lo k)))
  have O3 := Lib.hid ((O2.out.set 10 (.int .u8 ((k : Int) / 256))).set 11 (.int .u8 ((k : Int) % 256)))
  clear f0 f1 f2 z0 z1 z2 HO2 HO2'
  (with_reducible refine KK.out.mono ?_)
  rintro e w' ⟨rfl, rfl⟩
  go_wp2
  go_ret
  refine ⟨some ⟨g, 0, none⟩, c1, rfl, ?_, O3.out.below _ _ hb1 hg⟩
  rw [← HF.out]
  exact HO3.out

/-- the packet of IpErrors, and what is made of it. -/
def errB : List UInt8 := ipHead 1 2 6 9 0 4 ++ [1, 2, 3, 4]
def errX : Nat → List UInt8
  | 0 => errB.take 19
  | 1 => errB.set 0 0x65
  | 2 => errB.set 0 0x44
  | 3 => errB.set 0 0x4f
  | 4 => errB.set 3 19
  | 5 => errB.set 3 25
  | 6 => errB.set 9 7
  | 7 => mendPut errB 6 0x20
  | 8 => mendPut errB 7 1
  | 9 => mendPut errB 6 0x80
  | 10 => mendPut errB 1 0xfc
  | _ => errB
def errW : List Int := [7, 1, 1, 7, 1, 7, 8, 9, 9, 0, 0]
theorem err_all : ∀ k : Fin 11, (parseOut (errX k.val)).2 = errW.getD k.val 0 ∧ (errX k.val).length ≤ 24 := by decide +kernel
theorem parse_err (xs : List UInt8) (h : (parseOut xs).2 ≠ 0) : (parseOut xs).1 = Pk.zero := by
  revert h
  unfold parseOut
  repeat' split
  all_goals first | (intro _; rfl) | (intro h; exact absurd rfl h)
theorem errB_length : errB.length = 24 := by rw [errB, List.length_append, ipHead_length]; rfl
theorem errX_get (k : Nat) (hk : k < 11) : (parseOut (errX k)).2 = errW.getD k 0 ∧ (errX k).length ≤ 24 := err_all ⟨k, hk⟩
theorem errB_eq : ipHead 1 2 6 9 0 4 ++ [1, 2, 3, 4] = errB := rfl
theorem mendPut_length (xs : List UInt8) (p : Nat) (v : UInt8) : (mendPut xs p v).length = xs.length := by simp [mendPut, mendZ]
/-- what the switch of IpErrors leaves in x. -/
def ErrRel (k B : Nat) (w0 : World) (s : Value) (wx : World) : Prop :=
  ∃ (A : Option Addr) (n c : Nat) (ys : List UInt8), s = .slice A n c ∧ ys.length = n ∧ n ≤ c ∧ n ≤ 24 ∧ RB wx wx.heap.size A ys ∧ (parseOut ys).2 = errW.getD k 0 ∧ Below B w0 wx
section
variable {w w0 : World} {B base g c : Nat} {A : Option Addr}
theorem ErrRel.cut (hr : RB w w.heap.size A errB) (hc : 24 ≤ c) (hb : Below B w0 w) : ErrRel 0 B w0 (.slice A 19 c) w :=
  ⟨A, 19, c, errB.take 19, rfl, by rw [List.length_take, errB_length]; rfl, by omega, by omega, hr.take 19, (errX_get 0 (by omega)).1, hb⟩
theorem ErrRel.set (k p : Nat) (v : UInt8) {vI : Value} (hv : vI = .int .u8 (v.toNat : Int)) (hk : k < 11) (hx : errX k = errB.set p v) (hown : w.ownsRow base 5 1 (.slice (some ⟨g, 0, none⟩) 24 c) 24 (errB.map bv)) (hc : 24 ≤ c) (hb : Below B w0 w) (hg : B ≤ g) :
    ErrRel k B w0 (.slice (some ⟨g, 0, none⟩) 24 c) (w.setCell ⟨g, p, none⟩ vI) :=
  ⟨_, 24, c, errB.set p v, rfl, by rw [List.length_set, errB_length], hc, by omega, RB.of_ownN (own_setv hown p v hv), by rw [← hx]; exact (errX_get k hk).1, ((Only.refl g w).set p vI).below _ _ hb hg⟩
theorem ErrRel.put (k p : Nat) (v : UInt8) (hk : k < 11) (hx : errX k = mendPut errB p v) (hown : w.ownsRow base 5 1 (.slice A 24 c) 24 ((mendPut errB p v).map bv)) (hb : Below B w0 w) :
    ErrRel k B w0 (.slice A 24 c) w :=
  ⟨A, 24, c, mendPut errB p v, rfl, by rw [mendPut_length, errB_length], by obtain ⟨_, _, hA, h, _⟩ := own_shape hown; injection hA with _ _ h2; omega, by omega, RB.of_ownN hown, by rw [← hx]; exact (errX_get k hk).1, hb⟩
end

end Go.Proofs.Ytjdokaiadljeeaa
