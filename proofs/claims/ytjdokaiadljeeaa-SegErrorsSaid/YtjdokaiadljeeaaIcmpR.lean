/-
  The walk of the document's own reply of chapter 11.
-/
import Derived.Test.YtjdokaiadljeeaaIcmpW
import Derived.Deep.RegionLaw
namespace Go.Proofs.Ytjdokaiadljeeaa
open Go.RowKit

theorem size_u8 : (Try.prog.info? 5).map (·.size) = some 1 := by kernel_rfl
theorem big2 (n : Nat) : big 2 n = [UInt8.ofNat (n / 256), UInt8.ofNat n] := by simp [big]
theorem splice2 (xs : List UInt8) (p : Nat) (u v : UInt8) (h : p + 1 < xs.length) : xs.take p ++ [u, v] ++ xs.drop (p + 2) = (xs.set p u).set (p + 1) v := by
  obtain ⟨x, hx⟩ : ∃ x, xs[p]? = some x := ⟨_, List.getElem?_eq_getElem (by omega)⟩
  obtain ⟨y, hy⟩ : ∃ x, xs[p + 1]? = some x := ⟨_, List.getElem?_eq_getElem (by omega)⟩
  have := (set_two hx hy u v).2
  rw [this]; simp

set_option maxRecDepth 100000 in
set_option maxHeartbeats 1600000 in
theorem refReply (xs : List UInt8) (n : Nat) (hl : xs.length = n) (A : Option Addr) (c : Nat) (w : World) (hx : RB w w.heap.size A xs) (hn : n ≤ 1099511627776) :
    Calls Try.prog 31 #[.slice A n c] w (Replied w (replyOut xs)) := by
  by_cases h8 : n < 8
  · have HR := Lib.hid (replyOut_short (xs := xs) (by omega))
    have h8' : (n : Int) < 8 := by omega
    clear hl
    go_enter Try.func31, Try.ntmps31
    go_wp2
    go_ret2
    rw [HR.out]
    exact replied_none _ _
  · have h8' : ¬ (n : Int) < 8 := by omega
    have KC := Lib.hid (refCheck xs n hl A c w hx hn)
    have hl' := Lib.hid hl
    by_cases hs : Sm.check xs = 0
    · have hq : ((((Sm.check xs : Nat) : Int)) != 0) = false := by rw [hs]; rfl
      have hs' := Lib.hid hs
      obtain ⟨b0, o0, x0, rfl, hb, hx0, c0⟩ := hx.get (k := 0) (by omega)
      obtain ⟨b1, o1, x1, had, hb1, hx1, c1⟩ := hx.get (k := 1) (by omega)
      obtain ⟨rfl, rfl⟩ := RB.same_at rfl had
      simp only [Nat.add_zero] at c0
      have i0 : 0 < n := by omega
      have i1 : (1 : Int) < (n : Int) := by omega
      have hx0' := Lib.hid hx0
      have hx1' := Lib.hid hx1
      clear hs hl hx0 hx1
      by_cases h0 : x0 = 8
      · have e0 : ((x0.toNat : Int) != 8) = false := by rw [h0]; rfl
        by_cases h1 : x1 = 0
        · have e1 : ((x1.toNat : Int) != 0) = false := by rw [h1]; rfl
          have HR := Lib.hid (replyOut_ok (xs := xs) (by have := hl'.out; omega) hs'.out (by rw [hx0'.out, h0]) (by rw [hx1'.out, h1]))
          obtain ⟨ln, hln⟩ : ∃ ln, ln = n := ⟨_, rfl⟩
          have KL : Hid (Calls Try.prog 18 #[.slice (some ⟨b1, o1, none⟩) n c] w fun e w' => ∃ A' c', e = .returned (.slice A' n c') ∧ w'.ownsRow w.heap.size 5 1 (.slice A' n c') n (xs.map bv) ∧ Below w.heap.size w w') := by
            have e := hl'.out
            subst e
            exact copyBytes xs _ c w hx (by omega)
          clear h0 h1 hln
          go_enter Try.func31, Try.ntmps31
          go_wp2_with fail
          (with_reducible refine KC.out.mono ?_)
          rintro e w' ⟨rfl, rfl⟩
          go_wp2_with fail
          (with_reducible refine KL.out.mono ?_)
          rintro e w1 ⟨A', c', rfl, hown, hb1⟩
          clear KL KC
          obtain ⟨g, rfl, hg, hg2⟩ := own_form hown (by omega)
          obtain ⟨_, _, f0, z0⟩ := own_cell hown 0 (by omega)
          obtain ⟨_, _, f2, z2⟩ := own_cell hown 2 (by omega)
          obtain ⟨_, _, f3, z3⟩ := own_cell hown 3 (by omega)
          have hn' : n ≤ c' := by
            obtain ⟨_, _, hA, h, _⟩ := own_shape hown
            injection hA with _ _ h2
            omega
          have HO2 := Lib.hid (own_setv (own_setv (own_setv hown 0 0 (v := .int .u8 0) rfl) 2 0 (v := .int .u8 0) rfl) 3 0 (v := .int .u8 0) rfl)
          have O2 := Lib.hid ((((Only.refl g w1).set 0 (.int .u8 0)).set 2 (.int .u8 0)).set 3 (.int .u8 0))
          have i3 : (3 : Int) < (n : Int) := by omega
          have i2 : (2 : Int) < (n : Int) := by omega
          clear hown
          go_wp2_with fail
          generalize ((w1.setCell ⟨g, 0, none⟩ (Value.int .u8 0)).setCell ⟨g, 2, none⟩ (Value.int .u8 0)).setCell ⟨g, 3, none⟩ (Value.int .u8 0) = w3 at HO2 O2 ⊢
          have hb3 := Lib.hid (O2.out.below _ _ hb1 hg)
          have hgs : w.heap.size ≤ w3.heap.size := by have := O2.out.size; omega
          have hans' := Lib.hid (show ((((xs.set 0 0).set 2 0).set 3 0).set 2 (UInt8.ofNat (Sm.check (((xs.set 0 0).set 2 0).set 3 0) / 256))).set (2 + 1) (UInt8.ofNat (Sm.check (((xs.set 0 0).set 2 0).set 3 0))) = answer xs from rfl)
          have hcl := Sm.check_le (((xs.set 0 0).set 2 0).set 3 0)
          have hlz' : Hid ((((xs.set 0 0).set 2 0).set 3 0).length = n) := by unfold Hid; simp; exact hl'.out
          generalize ((xs.set 0 0).set 2 0).set 3 0 = zs at HO2 hans' hcl hlz'
          obtain ⟨_, hr3⟩ := own_read HO2.out
          have K1 := Lib.hid (refCheck zs n hlz'.out (some ⟨g, 0, none⟩) c' w3.drew hr3 (by omega))
          have K2 := Lib.hid (fun w : World => big_walk ((Sm.check zs : Nat) : Int) 2 (Sm.check zs) 2 rfl rfl (by omega) (by omega) w)
          clear f0 f2 f3 z0 z2 z3 O2 hb1
          have hle2 : (2 : Int) ≤ (n : Int) := by omega
          have hc2 : ¬ c' = 2 := by omega
          go_wp2_with fail
          go_region_law (first
            | (go_simp; go_at_call 27; (with_reducible refine K1.out.mono ?_); rintro e w' ⟨rfl, rfl⟩)
            | (go_simp; go_at_call 59; (with_reducible refine (K2.out _).mono ?_); rintro e w5 ⟨A5, c5, rfl, hown5, hb5⟩)
            | (refine step_copy_bytes rfl _ _ _ _ rfl 5 Try.underlying24 size_u8 g 2 (n - 2) (c' - 2) A5 2 c5 (by exact rfl) (by exact rfl) w.heap.size n c' zs (big 2 (Sm.check zs)) (own_below HO2.out.drew hb5) (Reads.of_own hown5) rfl (by simp [big]; omega) (by simp [big]; omega) (by simp [big]) ?_; intro w6 hown6 O6))
          have hb6 := O6.below _ _ ((hb3.out.drew).trans (hb5.mono hgs)) hg
          have HO6 := Lib.hid hown6
          clear hown6 hown5 hb5 O6
          go_wp2
          go_ret2
          rw [HR.out]
          refine ⟨some ⟨g, 0, none⟩, c', ?_, ?_, hb6⟩
          · simp only [answer_length, hl'.out]; rfl
          · have e := HO6.out
            rw [big_length, big2, splice2 zs 2 _ _ (by rw [hlz'.out]; omega), hans'.out] at e
            simp only [answer_length, hl'.out]; exact e
        · have e1 : ((x1.toNat : Int) != 0) = true := ne_int (k := 0) (by omega) h1
          have HR := Lib.hid (replyOut_none (xs := xs) (by have := hl'.out; omega) hs'.out (Or.inr (get_ne hx1'.out h1)))
          clear h0 h1
          go_enter Try.func31, Try.ntmps31
          go_wp2_with fail
          (with_reducible refine KC.out.mono ?_)
          rintro e w' ⟨rfl, rfl⟩
          go_wp2
          go_ret2
          rw [HR.out]
          exact replied_none _ _
      · have e0 : ((x0.toNat : Int) != 8) = true := ne_int (k := 8) (by omega) h0
        have HR := Lib.hid (replyOut_none (xs := xs) (by have := hl'.out; omega) hs'.out (Or.inl (get_ne hx0'.out h0)))
        clear h0
        go_enter Try.func31, Try.ntmps31
        go_wp2_with fail
        (with_reducible refine KC.out.mono ?_)
        rintro e w' ⟨rfl, rfl⟩
        go_wp2
        go_ret2
        rw [HR.out]
        exact replied_none _ _
    · have hq : ((((Sm.check xs : Nat) : Int)) != 0) = true := by simpa using hs
      have HR := Lib.hid (replyOut_sum (xs := xs) (by omega) hs)
      clear hs hl
      go_enter Try.func31, Try.ntmps31
      go_wp2_with fail
      (with_reducible refine KC.out.mono ?_)
      rintro e w' ⟨rfl, rfl⟩
      go_wp2
      go_ret2
      rw [HR.out]
      exact replied_none _ _

end Go.Proofs.Ytjdokaiadljeeaa
