/-
  The walks of the two replies of chapter 11.
-/
import Derived.Test.YtjdokaiadljeeaaBytesW
import Derived.Test.YtjdokaiadljeeaaScope
import Derived.Test.YtjdokaiadljeeaaSumMore
import Derived.Test.YtjdokaiadljeeaaEqB
namespace Go.Proofs.Ytjdokaiadljeeaa
open Go.RowKit

/-- a question's bytes, made an answer. -/
def answer (xs : List UInt8) : List UInt8 :=
  ((((xs.set 0 0).set 2 0).set 3 0).set 2 (UInt8.ofNat (Sm.check (((xs.set 0 0).set 2 0).set 3 0) / 256))).set 3 (UInt8.ofNat (Sm.check (((xs.set 0 0).set 2 0).set 3 0)))
/-- what any bytes are answered: bytes, and an error's number. -/
def replyOut (xs : List UInt8) : List UInt8 × Int :=
  if xs.length < 8 then ([], 7) else if Sm.check xs ≠ 0 then ([], 8) else if xs[0]? ≠ some 8 ∨ xs[1]? ≠ some 0 then ([], 3) else (answer xs, 0)
theorem answer_length (xs : List UInt8) : (answer xs).length = xs.length := by simp [answer]
theorem replyOut_short {xs : List UInt8} (h : xs.length < 8) : replyOut xs = ([], 7) := by unfold replyOut; rw [if_pos h]
theorem replyOut_sum {xs : List UInt8} (h : 8 ≤ xs.length) (h2 : Sm.check xs ≠ 0) : replyOut xs = ([], 8) := by unfold replyOut; rw [if_neg (by omega), if_pos h2]
theorem replyOut_none {xs : List UInt8} (h : 8 ≤ xs.length) (h2 : Sm.check xs = 0) (h3 : xs[0]? ≠ some 8 ∨ xs[1]? ≠ some 0) : replyOut xs = ([], 3) := by
  unfold replyOut; rw [if_neg (by omega), if_neg (by simpa using h2), if_pos h3]
theorem replyOut_ok {xs : List UInt8} (h : 8 ≤ xs.length) (h2 : Sm.check xs = 0) (h3 : xs[0]? = some 8) (h4 : xs[1]? = some 0) : replyOut xs = (answer xs, 0) := by
  unfold replyOut; rw [if_neg (by omega), if_neg (by simpa using h2), if_neg (by rw [h3, h4]; simp)]

/-- how a reply ends. -/
def Replied (w : World) (r : List UInt8 × Int) (e : Ending) (w' : World) : Prop :=
  ∃ A c, e = .returned (.tuple #[.slice A r.1.length c, .int .i64 r.2]) ∧ w'.ownsRow w.heap.size 5 1 (.slice A r.1.length c) r.1.length (r.1.map bv) ∧ Below w.heap.size w w'
theorem replied_none (w : World) (n : Int) : Replied w ([], n) (.returned (.tuple #[.slice none 0 0, .int .i64 n])) w :=
  ⟨none, 0, rfl, World.ownsRow_nil _ _ _ _, Below.refl _ _⟩

theorem ne_int {x : UInt8} {k : Nat} (hk : k < 256) (h : x ≠ UInt8.ofNat k) : (((x.toNat : Int)) != ((k : Nat) : Int)) = true := by
  simp only [bne_iff_ne, ne_eq, Int.natCast_inj]
  intro e
  apply h
  apply UInt8.toNat_inj.1
  rw [e, UInt8.toNat_ofNat', Nat.mod_eq_of_lt (by omega)]
theorem get_ne {xs : List UInt8} {i : Nat} {x y : UInt8} (h : xs[i]? = some x) (hne : x ≠ y) : xs[i]? ≠ some y := by
  rw [h]; simpa using hne

set_option maxRecDepth 100000 in
set_option maxHeartbeats 1600000 in
theorem icmpReply (xs : List UInt8) (n : Nat) (hl : xs.length = n) (A : Option Addr) (c : Nat) (w : World) (hx : RB w w.heap.size A xs) (hn : n ≤ 1099511627776) :
    Calls Try.prog 30 #[.slice A n c] w (Replied w (replyOut xs)) := by
  by_cases h8 : n < 8
  · have HR := Lib.hid (replyOut_short (xs := xs) (by omega))
    have h8' : (n : Int) < 8 := by omega
    clear hl
    go_enter Try.func30, Try.ntmps30
    go_wp2
    refine wp_scope_fwd 0 rfl ?_
    go_wp2
    go_step3
    refine ⟨rfl, ?_⟩
    go_wp2
    simp only [Exit.jump]
    go_ret2
    rw [HR.out]
    exact replied_none _ _
  · have h8' : ¬ (n : Int) < 8 := by omega
    have KC := Lib.hid (sumCheck xs n hl A c w hx hn)
    have hl' := Lib.hid hl
    by_cases hs : Sm.check xs = 0
    · have hq : ((((Sm.check xs : Nat) : Int)) != 0) = false := by rw [hs]; rfl
      have hs' := Lib.hid hs
      obtain ⟨b0, o0, x0, rfl, hb, hx0, c0⟩ := hx.get (k := 0) (by omega)
      obtain ⟨b1, o1, x1, had, hb1, hx1, c1⟩ := hx.get (k := 1) (by omega)
      obtain ⟨rfl, rfl⟩ := RB.same_at rfl had
      simp only [Nat.add_zero] at c0
      have i0 : 0 < n := by omega
      have i1 : (1 : Int) < (n : Int) := by omega
      have hx0' := Lib.hid hx0
      have hx1' := Lib.hid hx1
      clear hs hl hx0 hx1
      by_cases h0 : x0 = 8
      · have e0 : ((x0.toNat : Int) != 8) = false := by rw [h0]; rfl
        by_cases h1 : x1 = 0
        · have e1 : ((x1.toNat : Int) != 0) = false := by rw [h1]; rfl
          have HR := Lib.hid (replyOut_ok (xs := xs) (by have := hl'.out; omega) hs'.out (by rw [hx0'.out, h0]) (by rw [hx1'.out, h1]))
          have KL := Lib.hid (clone xs n hl'.out _ c w hx (by omega))
          clear h0 h1
          go_enter Try.func30, Try.ntmps30
          go_wp2
          refine wp_scope_fwd 0 rfl ?_
          go_wp2_with fail
          (with_reducible refine KC.out.mono ?_)
          rintro e w' ⟨rfl, rfl⟩
          go_wp2_with fail
          (with_reducible refine KL.out.mono ?_)
          rintro e w1 ⟨A', c', rfl, hown, hb1⟩
          clear KL KC
          obtain ⟨g, rfl, hg, hg2⟩ := own_form hown (by omega)
          obtain ⟨_, _, f0, z0⟩ := own_cell hown 0 (by omega)
          have HO2 := Lib.hid (own_setv hown 0 0 (v := .int .u8 0) rfl)
          have O2 := Lib.hid ((Only.refl g w1).set 0 (.int .u8 0))
          clear hown
          go_wp2_with fail
          generalize w1.setCell ⟨g, 0, none⟩ (Value.int .u8 0) = w2 at HO2 O2 ⊢
          have hb2 := O2.out.below _ _ hb1 hg
          (with_reducible refine (sumSet g n c' w.heap.size (xs.set 0 0) _ _ 2 0 ?_ ?_ w2 ?_ ?_ ?_ ?_).mono ?_)
          · rfl
          · rfl
          · exact HO2.out
          · omega
          · omega
          · omega
          rintro e w3 ⟨rfl, hown3, O3⟩
          have hb3 := O3.below _ _ hb2 hg
          have hz : ((xs.set 0 0).set 2 (UInt8.ofNat (0 / 256))).set (2 + 1) (UInt8.ofNat 0) = ((xs.set 0 0).set 2 0).set 3 0 := rfl
          rw [hz] at hown3
          have hans : (((((xs.set 0 0).set 2 0).set 3 0).set 2 (UInt8.ofNat (Sm.check (((xs.set 0 0).set 2 0).set 3 0) / 256))).set (2 + 1) (UInt8.ofNat (Sm.check (((xs.set 0 0).set 2 0).set 3 0)))) = answer xs := rfl
          have hans' := Lib.hid hans
          have hcl := Sm.check_le (((xs.set 0 0).set 2 0).set 3 0)
          have hlz : (((xs.set 0 0).set 2 0).set 3 0).length = n := by simp; exact hl'.out
          clear HO2 O2 hz hans
          generalize ((xs.set 0 0).set 2 0).set 3 0 = zs at hown3 hans' hcl hlz
          obtain ⟨_, hr3⟩ := own_read hown3
          have HO3 := Lib.hid hown3
          have hlz' := Lib.hid hlz
          clear hown3 hlz
          go_wp2_with fail
          ((with_reducible refine (sumCheck zs n hlz'.out _ _ _ hr3 ?_).mono ?_); omega)
          rintro e w' ⟨rfl, rfl⟩
          go_wp2_with fail
          (with_reducible refine (sumSet g n c' w.heap.size zs _ _ 2 (Sm.check zs) ?_ ?_ w3 ?_ ?_ ?_ ?_).mono ?_)
          · rfl
          · rfl
          · exact HO3.out
          · omega
          · omega
          · omega
          rintro e w4 ⟨rfl, hown4, O4⟩
          have hb4 := O4.below _ _ hb3 hg
          rw [hans'.out] at hown4
          have HO4 := Lib.hid hown4
          clear hown4 hr3 HO3
          go_wp2
          simp only [Exit.jump]
          go_ret2
          rw [HR.out]
          refine ⟨some ⟨g, 0, none⟩, c', ?_, ?_, hb4⟩
          · simp only [answer_length, hl'.out]; rfl
          · simp only [answer_length, hl'.out]; exact HO4.out
        · have e1 : ((x1.toNat : Int) != 0) = true := ne_int (k := 0) (by omega) h1
          have HR := Lib.hid (replyOut_none (xs := xs) (by have := hl'.out; omega) hs'.out (Or.inr (get_ne hx1'.out h1)))
          clear h0 h1
          go_enter Try.func30, Try.ntmps30
          go_wp2
          refine wp_scope_fwd 0 rfl ?_
          go_wp2_with fail
          (with_reducible refine KC.out.mono ?_)
          rintro e w' ⟨rfl, rfl⟩
          go_wp2
          go_step3
          refine ⟨rfl, ?_⟩
          go_wp2
          simp only [Exit.jump]
          go_ret2
          rw [HR.out]
          exact replied_none _ _
      · have e0 : ((x0.toNat : Int) != 8) = true := ne_int (k := 8) (by omega) h0
        have HR := Lib.hid (replyOut_none (xs := xs) (by have := hl'.out; omega) hs'.out (Or.inl (get_ne hx0'.out h0)))
        clear h0
        go_enter Try.func30, Try.ntmps30
        go_wp2
        refine wp_scope_fwd 0 rfl ?_
        go_wp2_with fail
        (with_reducible refine KC.out.mono ?_)
        rintro e w' ⟨rfl, rfl⟩
        go_wp2
        go_step3
        refine ⟨rfl, ?_⟩
        go_wp2
        simp only [Exit.jump]
        go_ret2
        rw [HR.out]
        exact replied_none _ _
    · have hq : ((((Sm.check xs : Nat) : Int)) != 0) = true := by simpa using hs
      have HR := Lib.hid (replyOut_sum (xs := xs) (by omega) hs)
      clear hs hl
      go_enter Try.func30, Try.ntmps30
      go_wp2
      refine wp_scope_fwd 0 rfl ?_
      go_wp2_with fail
      (with_reducible refine KC.out.mono ?_)
      rintro e w' ⟨rfl, rfl⟩
      go_wp2
      go_step3
      refine ⟨rfl, ?_⟩
      go_wp2
      simp only [Exit.jump]
      go_ret2
      rw [HR.out]
      exact replied_none _ _

end Go.Proofs.Ytjdokaiadljeeaa
