/-
  The walk of seg.Parse.
-/
import Derived.Test.YtjdokaiadljeeaaSegRB
import Derived.Test.YtjdokaiadljeeaaScope
import Derived.Deep.RegionHeld3
namespace Go.Proofs.Ytjdokaiadljeeaa
open Go.RowKit

/-- a segment (or none) and an error, its bytes in the call's own memory. -/
def SegParsed (w : World) (r : Sg × Int) (e : Ending) (w' : World) : Prop :=
  ∃ A c, e = .returned (.tuple #[.agg #[.int .i64 r.1.sp, .int .i64 r.1.dp, .int .i64 r.1.sq, .int .i64 r.1.ak, .int .i64 r.1.fl, .int .i64 r.1.wn, .slice A r.1.xs.length c], .int .i64 r.2]) ∧ w'.ownsRow w.heap.size 5 1 (.slice A r.1.xs.length c) r.1.xs.length (r.1.xs.map bv) ∧ Below w.heap.size w w'
theorem segParsed_none (w : World) (k : Int) (w' : World) (hb : Below w.heap.size w w') : SegParsed w (.zero, k) (.returned (.tuple #[.agg #[.int .i64 0, .int .i64 0, .int .i64 0, .int .i64 0, .int .i64 0, .int .i64 0, .slice none 0 0], .int .i64 k])) w' :=
  ⟨none, 0, rfl, World.ownsRow_nil _ _ _ _, hb⟩
theorem u8_shr4 (x : UInt8) : (x.toNat : Int) / 16 = ((x.toNat / 16 : Nat) : Int) := by omega
theorem and63 (x : UInt8) : bits .and .i64 (x.toNat : Int) 63 = ((x.toNat % 64 : Nat) : Int) := by
  have := i64_and_nat x.toNat 63 (by have := x.toNat_lt; omega) (by omega)
  rw [show (63 : Nat) = 2 ^ 6 - 1 from rfl, Nat.and_two_pow_sub_one_eq_mod] at this
  exact this
theorem and63u (x : UInt8) : bits .and .u8 (x.toNat : Int) 63 = ((x.toNat % 64 : Nat) : Int) := by
  have := u8_and_nat x.toNat 63 (by have := x.toNat_lt; omega) (by omega)
  rw [show (63 : Nat) = 2 ^ 6 - 1 from rfl, Nat.and_two_pow_sub_one_eq_mod] at this
  exact this
theorem cutEnd {w : World} {B g o : Nat} {xs : List UInt8} (h : RB w B (some ⟨g, o, none⟩) xs) (N : Nat) (hN : N ≤ xs.length) : RB w B (some ⟨g, o + N, none⟩) (xs.drop N) := by
  have := cutAt h N xs.length hN (Nat.le_refl _)
  rwa [List.take_of_length_le (Nat.le_refl _)] at this
theorem refWordV (n : Int) (b : Bool) (h : wordB n = b) (w : World) : Calls Try.prog 50 #[.int .i64 n] w fun e w' => e = .returned (.bool b) ∧ w = w' := by
  subst h
  exact refWord n w

set_option maxRecDepth 100000 in
set_option maxHeartbeats 1600000 in
theorem segParse_no (src dst : Int) (n c : Nat) (A : Option Addr) (bs bd : Bool) (hs : wordB src = bs) (hd : wordB dst = bd) (h : (bs && bd) = false) (w : World) :
    Calls Try.prog 55 #[.int .i64 src, .int .i64 dst, .slice A n c] w (SegParsed w (.zero, 1)) := by
  have HB := Lib.hid (balloc w (.cells #[.int .i64 0, .int .i64 0, .int .i64 0, .int .i64 0, .int .i64 0, .int .i64 0, .slice none 0 0] 71))
  have KI1 := Lib.hid (fun w => segIPV src bs hs w)
  have KI2 := Lib.hid (fun w => segIPV dst bd hd w)
  clear hs hd
  have hc : bs = false ∨ (bs = true ∧ bd = false) := by
    cases bs <;> cases bd <;> simp at h ⊢
  clear h
  rcases hc with rfl | ⟨rfl, rfl⟩
  · skip
    go_enter Try.func55, Try.ntmps55
    go_wp2_with fail
    refine wp_scope_fwd 0 rfl ?_
    go_wp2_with fail
    (with_reducible refine (KI1.out _).mono ?_)
    rintro e w' ⟨rfl, rfl⟩
    go_wp2
    go_step3
    refine ⟨rfl, ?_⟩
    go_wp2
    simp only [Exit.jump]
    refine bodyPost_ret (v := .tuple #[.agg #[.int .i64 0, .int .i64 0, .int .i64 0, .int .i64 0, .int .i64 0, .int .i64 0, .slice none 0 0], .int .i64 1]) (by simp [results, Try.results55, go_sem]) rfl ?_
    exact segParsed_none w 1 _ HB.out
  · skip
    go_enter Try.func55, Try.ntmps55
    go_wp2_with fail
    refine wp_scope_fwd 0 rfl ?_
    go_wp2_with fail
    (with_reducible refine (KI1.out _).mono ?_)
    rintro e w' ⟨rfl, rfl⟩
    go_wp2_with fail
    (with_reducible refine (KI2.out _).mono ?_)
    rintro e w' ⟨rfl, rfl⟩
    go_wp2
    go_step3
    refine ⟨rfl, ?_⟩
    go_wp2
    simp only [Exit.jump]
    refine bodyPost_ret (v := .tuple #[.agg #[.int .i64 0, .int .i64 0, .int .i64 0, .int .i64 0, .int .i64 0, .int .i64 0, .slice none 0 0], .int .i64 1]) (by simp [results, Try.results55, go_sem]) rfl ?_
    exact segParsed_none w 1 _ HB.out

set_option maxRecDepth 100000 in
set_option maxHeartbeats 3200000 in
theorem segParse_len (src dst : Nat) (hs : src < 4294967296) (hd : dst < 4294967296) (xs : List UInt8) (n : Nat) (hl : xs.length = n) (A : Option Addr) (c : Nat) (w : World) (hx : RB w w.heap.size A xs) (hn : n ≤ 140737488351232) (k : Int)
    (h : (n < 20 ∧ k = 7) ∨ (20 ≤ n ∧ sgN xs < 20 ∧ k = 1) ∨ (20 ≤ n ∧ 20 ≤ sgN xs ∧ n < sgN xs ∧ k = 7) ∨ (20 ≤ n ∧ 20 ≤ sgN xs ∧ sgN xs ≤ n ∧ 1480 < n ∧ k = 2)) :
    Calls Try.prog 55 #[.int .i64 src, .int .i64 dst, .slice A n c] w (SegParsed w (.zero, k)) := by
  have hbA := balloc w (.cells #[.int .i64 0, .int .i64 0, .int .i64 0, .int .i64 0, .int .i64 0, .int .i64 0, .slice none 0 0] 71)
  have HB := Lib.hid hbA
  have KI1 := Lib.hid (fun w => segIPV (src : Int) true (word_nat src hs) w)
  have KI2 := Lib.hid (fun w => segIPV (dst : Int) true (word_nat dst hd) w)
  rcases h with ⟨h20, rfl⟩ | h
  · have h20' : (n : Int) < 20 := by omega
    clear hl hbA hx
    go_enter Try.func55, Try.ntmps55
    go_wp2_with fail
    refine wp_scope_fwd 0 rfl ?_
    go_wp2_with fail
    (with_reducible refine (KI1.out _).mono ?_)
    rintro e w' ⟨rfl, rfl⟩
    go_wp2_with fail
    (with_reducible refine (KI2.out _).mono ?_)
    rintro e w' ⟨rfl, rfl⟩
    go_wp2
    go_step3
    refine ⟨rfl, ?_⟩
    go_wp2
    simp only [Exit.jump]
    refine bodyPost_ret (v := .tuple #[.agg #[.int .i64 0, .int .i64 0, .int .i64 0, .int .i64 0, .int .i64 0, .int .i64 0, .slice none 0 0], .int .i64 7]) (by simp [results, Try.results55, go_sem]) rfl ?_
    exact segParsed_none w 7 _ HB.out
  · have h20 : 20 ≤ n := by omega
    obtain ⟨b0, o0, x0, rfl, hb, hx0, c0⟩ := hx.get (k := 12) (by omega)
    have i12 : (12 : Int) < (n : Int) := by omega
    have h20' : ¬ (n : Int) < 20 := by omega
    have cA := (cellB hbA (o := o0 + 12) hb).trans c0
    have hb8 : b8 xs 12 = x0.toNat := b8_of hx0
    obtain ⟨N, hN⟩ : ∃ N, N = 4 * (x0.toNat / 16) := ⟨_, rfl⟩
    obtain ⟨K, hK⟩ : ∃ K, K = x0.toNat / 16 := ⟨_, rfl⟩
    have hKI : (x0.toNat : Int) / 16 = (K : Int) := by omega
    have hK15 : (K : Int) ≤ 15 := by have := x0.toNat_lt; omega
    have hNI : 4 * (K : Int) = (N : Int) := by omega
    have hNx : sgN xs = N := by unfold sgN; rw [hb8]; exact hN.symm
    rw [hNx] at h
    rcases h with ⟨_, hN20, rfl⟩ | ⟨_, hN20, hnN, rfl⟩ | ⟨_, hN20, hnN, h1480, rfl⟩
    · have hN20' : (N : Int) < 20 := by omega
      clear hl hx0 hb8 hNx hN hbA c0 hK
      go_enter Try.func55, Try.ntmps55
      go_wp2_with fail
      refine wp_scope_fwd 0 rfl ?_
      go_wp2_with fail
      (with_reducible refine (KI1.out _).mono ?_)
      rintro e w' ⟨rfl, rfl⟩
      go_wp2_with fail
      (with_reducible refine (KI2.out _).mono ?_)
      rintro e w' ⟨rfl, rfl⟩
      go_wp2
      go_step3
      refine ⟨rfl, ?_⟩
      go_wp2
      simp only [Exit.jump]
      refine bodyPost_ret (v := .tuple #[.agg #[.int .i64 0, .int .i64 0, .int .i64 0, .int .i64 0, .int .i64 0, .int .i64 0, .slice none 0 0], .int .i64 1]) (by simp [results, Try.results55, go_sem]) rfl ?_
      exact segParsed_none w 1 _ HB.out
    · have hN20' : ¬ (N : Int) < 20 := by omega
      have hnN' : (n : Int) < (N : Int) := by omega
      clear hl hx0 hb8 hNx hN hbA c0 hK
      go_enter Try.func55, Try.ntmps55
      go_wp2_with fail
      refine wp_scope_fwd 0 rfl ?_
      go_wp2_with fail
      (with_reducible refine (KI1.out _).mono ?_)
      rintro e w' ⟨rfl, rfl⟩
      go_wp2_with fail
      (with_reducible refine (KI2.out _).mono ?_)
      rintro e w' ⟨rfl, rfl⟩
      go_wp2
      go_step3
      refine ⟨rfl, ?_⟩
      go_wp2
      simp only [Exit.jump]
      refine bodyPost_ret (v := .tuple #[.agg #[.int .i64 0, .int .i64 0, .int .i64 0, .int .i64 0, .int .i64 0, .int .i64 0, .slice none 0 0], .int .i64 7]) (by simp [results, Try.results55, go_sem]) rfl ?_
      exact segParsed_none w 7 _ HB.out
    · have hN20' : ¬ (N : Int) < 20 := by omega
      have hnN' : ¬ (n : Int) < (N : Int) := by omega
      have h1480' : (1480 : Int) < (n : Int) := by omega
      clear hl hx0 hb8 hNx hN hbA c0 hK
      go_enter Try.func55, Try.ntmps55
      go_wp2_with fail
      refine wp_scope_fwd 0 rfl ?_
      go_wp2_with fail
      (with_reducible refine (KI1.out _).mono ?_)
      rintro e w' ⟨rfl, rfl⟩
      go_wp2_with fail
      (with_reducible refine (KI2.out _).mono ?_)
      rintro e w' ⟨rfl, rfl⟩
      go_wp2
      go_step3
      refine ⟨rfl, ?_⟩
      go_wp2
      simp only [Exit.jump]
      refine bodyPost_ret (v := .tuple #[.agg #[.int .i64 0, .int .i64 0, .int .i64 0, .int .i64 0, .int .i64 0, .int .i64 0, .slice none 0 0], .int .i64 2]) (by simp [results, Try.results55, go_sem]) rfl ?_
      exact segParsed_none w 2 _ HB.out

set_option maxRecDepth 100000 in
set_option maxHeartbeats 3200000 in
theorem segParse_sum (src dst : Nat) (hs : src < 4294967296) (hd : dst < 4294967296) (xs : List UInt8) (n : Nat) (hl : xs.length = n) (A : Option Addr) (c : Nat) (_hnc : n ≤ c) (w : World) (hx : RB w w.heap.size A xs)
    (h20 : 20 ≤ n) (hN20 : 20 ≤ sgN xs) (hnN : sgN xs ≤ n) (h1480 : n ≤ 1480) (hF0 : segSum src dst xs ≠ 0)  :
    Calls Try.prog 55 #[.int .i64 src, .int .i64 dst, .slice A n c] w (SegParsed w (.zero, 8)) := by
  have hbA := balloc w (.cells #[.int .i64 0, .int .i64 0, .int .i64 0, .int .i64 0, .int .i64 0, .int .i64 0, .slice none 0 0] 71)
  have HB := Lib.hid hbA
  have KI1 := Lib.hid (fun w => segIPV (src : Int) true (word_nat src hs) w)
  have KI2 := Lib.hid (fun w => segIPV (dst : Int) true (word_nat dst hd) w)
  obtain ⟨b0, o0, x0, rfl, hb, hx0, c0⟩ := hx.get (k := 12) (by omega)
  have i12 : (12 : Int) < (n : Int) := by omega
  have h20' : ¬ (n : Int) < 20 := by omega
  have cA := (cellB hbA (o := o0 + 12) hb).trans c0
  have hb8 : b8 xs 12 = x0.toNat := b8_of hx0
  obtain ⟨N, hN⟩ : ∃ N, N = 4 * (x0.toNat / 16) := ⟨_, rfl⟩
  obtain ⟨K, hK⟩ : ∃ K, K = x0.toNat / 16 := ⟨_, rfl⟩
  have hKI : (x0.toNat : Int) / 16 = (K : Int) := by omega
  have hK15 : (K : Int) ≤ 15 := by have := x0.toNat_lt; omega
  have hNI : 4 * (K : Int) = (N : Int) := by omega
  have hNx : sgN xs = N := by unfold sgN; rw [hb8]; exact hN.symm
  rw [hNx] at hN20 hnN 
  have hN20' : ¬ (N : Int) < 20 := by omega
  have hnN' : ¬ (n : Int) < (N : Int) := by omega
  have h1480' : ¬ (1480 : Int) < (n : Int) := by omega
  have hxA := hx.next hbA
  have hbz := Lib.hid (SgF.box w (.int .i64 0) (.int .i64 0) (.int .i64 0) (.int .i64 0) (.int .i64 0) (.int .i64 0) (.slice none 0 0) 71)
  have hsA : w.heap.size < (w.alloc (.cells #[.int .i64 0, .int .i64 0, .int .i64 0, .int .i64 0, .int .i64 0, .int .i64 0, .slice none 0 0] 71)).heap.size := lt_alloc _ _
  have HXA := Lib.hid hxA
  have KC := Lib.hid (segCheck src dst hs hd xs n hl (some ⟨b0, o0, none⟩) c _ hxA (by omega))
  obtain ⟨S, hS⟩ : ∃ S, segSum src dst xs = S := ⟨_, rfl⟩
  rw [hS] at KC hF0
  have hSq : ((S : Int) != 0) = true := by simp only [bne_iff_ne, ne_eq]; omega
  have hl' := Lib.hid hl
  have hNx' := Lib.hid hNx
  have hS0 := Lib.hid hF0
  clear hl hx0 hb8 hNx hN hbA c0 hx hxA hF0 hK hS
  go_enter Try.func55, Try.ntmps55
  go_wp2_with fail
  refine wp_scope_fwd 0 rfl ?_
  go_wp2_with fail
  (with_reducible refine (KI1.out _).mono ?_)
  rintro e w' ⟨rfl, rfl⟩
  go_wp2_with fail
  (with_reducible refine (KI2.out _).mono ?_)
  rintro e w' ⟨rfl, rfl⟩
  go_wp2_with fail
  generalize w.alloc (.cells #[.int .i64 0, .int .i64 0, .int .i64 0, .int .i64 0, .int .i64 0, .int .i64 0, .slice none 0 0] 71) = w2 at HB hbz hsA HXA cA KC ⊢
  (with_reducible refine KC.out.mono ?_)
  rintro e w3 ⟨rfl, hb23⟩
  clear KC
  have HB3 := Lib.hid (HB.out.trans (hb23.mono HB.out.size))
  have HX3 := Lib.hid (HXA.out.next hb23)
  have HZ3 := Lib.hid (hbz.out.below hb23 hsA)
  have hs3 : w.heap.size < w3.heap.size := Nat.lt_of_lt_of_le hsA hb23.size
  clear hb23 hbz HXA HB cA
  obtain ⟨⟨z0, z1, z2, z3, z4, z5, z6⟩, hz⟩ := HZ3.out
  have y0 := hz 0
  have y1 := hz 1
  have y2 := hz 2
  have y3 := hz 3
  have y4 := hz 4
  have y5 := hz 5
  have y6 := hz 6
  clear hz
  go_wp2
  go_step3
  refine ⟨rfl, ?_⟩
  go_wp2
  simp only [Exit.jump]
  have hpz := setSg_at (SgAt.of z0 z1 z2 z3 z4 z5 z6) (.int .i64 0) (.int .i64 0) (.int .i64 0) (.int .i64 0) (.int .i64 0) (.int .i64 0) (.slice none 0 0)
  have hbz := (setSg_only w3 w.heap.size (.int .i64 0) (.int .i64 0) (.int .i64 0) (.int .i64 0) (.int .i64 0) (.int .i64 0) (.slice none 0 0)).below _ _ HB3.out (Nat.le_refl _)
  show bodyPost _ _ _ _ _ (setSg w3 w.heap.size (.int .i64 0) (.int .i64 0) (.int .i64 0) (.int .i64 0) (.int .i64 0) (.int .i64 0) (.slice none 0 0))
  generalize setSg w3 w.heap.size (.int .i64 0) (.int .i64 0) (.int .i64 0) (.int .i64 0) (.int .i64 0) (.int .i64 0) (.slice none 0 0) = w4 at hpz hbz ⊢
  clear z0 z1 z2 z3 z4 z5 z6
  obtain ⟨z0, z1, z2, z3, z4, z5, z6⟩ := hpz
  refine bodyPost_ret (v := .tuple #[.agg #[.int .i64 0, .int .i64 0, .int .i64 0, .int .i64 0, .int .i64 0, .int .i64 0, .slice none 0 0], .int .i64 8]) (by simp [results, Try.results55, go_sem, z0, z1, z2, z3, z4, z5, z6]) rfl ?_
  exact segParsed_none w 8 _ hbz

set_option maxRecDepth 100000 in
set_option maxHeartbeats 3200000 in
theorem segParse_ok (src dst : Nat) (hs : src < 4294967296) (hd : dst < 4294967296) (xs : List UInt8) (n : Nat) (hl : xs.length = n) (A : Option Addr) (c : Nat) (hnc : n ≤ c) (w : World) (hx : RB w w.heap.size A xs)
    (h20 : 20 ≤ n) (hN20 : 20 ≤ sgN xs) (hnN : sgN xs ≤ n) (h1480 : n ≤ 1480) (hF0 : segSum src dst xs = 0) (hcN : ¬ c = sgN xs) :
    Calls Try.prog 55 #[.int .i64 src, .int .i64 dst, .slice A n c] w (SegParsed w (sgParsed xs, 0)) := by
  have hbA := balloc w (.cells #[.int .i64 0, .int .i64 0, .int .i64 0, .int .i64 0, .int .i64 0, .int .i64 0, .slice none 0 0] 71)
  have HB := Lib.hid hbA
  have KI1 := Lib.hid (fun w => segIPV (src : Int) true (word_nat src hs) w)
  have KI2 := Lib.hid (fun w => segIPV (dst : Int) true (word_nat dst hd) w)
  obtain ⟨b0, o0, x0, rfl, hb, hx0, c0⟩ := hx.get (k := 12) (by omega)
  have i12 : (12 : Int) < (n : Int) := by omega
  have h20' : ¬ (n : Int) < 20 := by omega
  have cA := (cellB hbA (o := o0 + 12) hb).trans c0
  have hb8 : b8 xs 12 = x0.toNat := b8_of hx0
  obtain ⟨N, hN⟩ : ∃ N, N = 4 * (x0.toNat / 16) := ⟨_, rfl⟩
  obtain ⟨K, hK⟩ : ∃ K, K = x0.toNat / 16 := ⟨_, rfl⟩
  have hKI : (x0.toNat : Int) / 16 = (K : Int) := by omega
  have hK15 : (K : Int) ≤ 15 := by have := x0.toNat_lt; omega
  have hNI : 4 * (K : Int) = (N : Int) := by omega
  have hNx : sgN xs = N := by unfold sgN; rw [hb8]; exact hN.symm
  rw [hNx] at hN20 hnN hcN
  have hN20' : ¬ (N : Int) < 20 := by omega
  have hnN' : ¬ (n : Int) < (N : Int) := by omega
  have h1480' : ¬ (1480 : Int) < (n : Int) := by omega
  have hxA := hx.next hbA
  have hbz := Lib.hid (SgF.box w (.int .i64 0) (.int .i64 0) (.int .i64 0) (.int .i64 0) (.int .i64 0) (.int .i64 0) (.slice none 0 0) 71)
  have hsA : w.heap.size < (w.alloc (.cells #[.int .i64 0, .int .i64 0, .int .i64 0, .int .i64 0, .int .i64 0, .int .i64 0, .slice none 0 0] 71)).heap.size := lt_alloc _ _
  have HXA := Lib.hid hxA
  have KC := Lib.hid (segCheck src dst hs hd xs n hl (some ⟨b0, o0, none⟩) c _ hxA (by omega))
  obtain ⟨S, hS⟩ : ∃ S, segSum src dst xs = S := ⟨_, rfl⟩
  rw [hS] at KC hF0
  have hSq : ((S : Int) != 0) = false := by simp only [bne_eq_false_iff_eq]; omega
  have hl' := Lib.hid hl
  have hNx' := Lib.hid hNx
  have hS0 := Lib.hid hF0
  clear hl hx0 hb8 hNx hN hbA c0 hx hxA hF0 hK hS
  go_enter Try.func55, Try.ntmps55
  go_wp2_with fail
  refine wp_scope_fwd 0 rfl ?_
  go_wp2_with fail
  (with_reducible refine (KI1.out _).mono ?_)
  rintro e w' ⟨rfl, rfl⟩
  go_wp2_with fail
  (with_reducible refine (KI2.out _).mono ?_)
  rintro e w' ⟨rfl, rfl⟩
  go_wp2_with fail
  generalize w.alloc (.cells #[.int .i64 0, .int .i64 0, .int .i64 0, .int .i64 0, .int .i64 0, .int .i64 0, .slice none 0 0] 71) = w2 at HB hbz hsA HXA cA KC ⊢
  (with_reducible refine KC.out.mono ?_)
  rintro e w3 ⟨rfl, hb23⟩
  clear KC
  have HB3 := Lib.hid (HB.out.trans (hb23.mono HB.out.size))
  have HX3 := Lib.hid (HXA.out.next hb23)
  have HZ3 := Lib.hid (hbz.out.below hb23 hsA)
  have hs3 : w.heap.size < w3.heap.size := Nat.lt_of_lt_of_le hsA hb23.size
  clear hb23 hbz HXA HB cA
  obtain ⟨b9', o9, x9, ad9, hb9', hx9, c9⟩ := HX3.out.get (k := 13) (by rw [hl'.out]; omega)
  obtain ⟨rfl, rfl⟩ := RB.same_at rfl ad9
  have hx9' := Lib.hid hx9
  clear hx9 ad9
  have i13 : (13 : Int) < (n : Int) := by omega
  have s1 : (2 : Int) ≤ (c : Int) := by omega
  have s2 : (4 : Int) ≤ (c : Int) := by omega
  have s3 : (8 : Int) ≤ (c : Int) := by omega
  have s4 : (12 : Int) ≤ (c : Int) := by omega
  have s5 : (16 : Int) ≤ (c : Int) := by omega
  have u1 : ¬ c = 2 := by omega
  have u2 : ¬ c = 4 := by omega
  have u3 : ¬ c = 8 := by omega
  have u4 : ¬ c = 14 := by omega
  have wr9 := wrap_byte x9
  have a9 := and63 x9
  have a9' : ((x9.toNat % 64 : Nat) : Int) = (x9.toNat : Int) % 64 := by omega
  have w9' : IntKind.i64.wrap ((x9.toNat % 64 : Nat) : Int) = ((x9.toNat % 64 : Nat) : Int) := IntWalk.i64_in _ (by omega)
  obtain ⟨r9, hr9⟩ : ∃ r9, r9 = x9.toNat % 64 := ⟨_, rfl⟩
  rw [← hr9] at a9 a9' w9'
  have hr9' := Lib.hid hr9
  clear hr9 a9'
  have HG0 : Hid (Calls Try.prog 63 #[.slice (some ⟨b9', o9, none⟩) 2 c] w3.drew fun e w' => e = .returned (.int .i64 ((num2 xs 0 2 : Nat) : Int)) ∧ w3.drew = w') := Lib.hid (getAt xs n hl'.out b9' o9 c w3.drew HX3.out 0 2 (by omega) (by omega) (by omega) _ rfl)
  have HG1 := Lib.hid (getAt xs n hl'.out b9' o9 (c - 2) w3.drew HX3.out 2 2 (by omega) (by omega) (by omega) _ rfl)
  have HG2 := Lib.hid (getAt xs n hl'.out b9' o9 (c - 4) w3.drew HX3.out 4 4 (by omega) (by omega) (by omega) _ rfl)
  have HG3 := Lib.hid (getAt xs n hl'.out b9' o9 (c - 8) w3.drew HX3.out 8 4 (by omega) (by omega) (by omega) _ rfl)
  have HG4 := Lib.hid (getAt xs n hl'.out b9' o9 (c - 14) w3.drew HX3.out 14 2 (by omega) (by omega) (by omega) _ rfl)
  have KL := Lib.hid (clone (xs.drop N) (n - N) (by rw [List.length_drop, hl'.out]) (some ⟨b9', o9 + N, none⟩) (c - N) w3.drew (cutEnd HX3.out N (by have := hl'.out; omega)) (by omega))
  have hne : b9' ≠ w.heap.size := by omega
  have hne' : w.heap.size ≠ b9' := by omega
  go_wp2_with fail
  go_region_held3 (fun w' => w'.cell? ⟨b9', o9 + 13, none⟩ = some (.int .u8 (x9.toNat : Int))) (go_keep)
    (first
      | (go_at_call 63; (with_reducible refine HG0.out.mono ?_); rintro e w' ⟨rfl, rfl⟩)
      | (go_at_call 63; (with_reducible refine HG1.out.mono ?_); rintro e w' ⟨rfl, rfl⟩)
      | (go_at_call 63; (with_reducible refine HG2.out.mono ?_); rintro e w' ⟨rfl, rfl⟩)
      | (go_at_call 63; (with_reducible refine HG3.out.mono ?_); rintro e w' ⟨rfl, rfl⟩)
      | (go_at_call 63; (with_reducible refine HG4.out.mono ?_); rintro e w' ⟨rfl, rfl⟩)
      | (go_at_call 57; (with_reducible refine KL.out.mono ?_); rintro e w4 ⟨A3, c3, rfl, hown3, hb3⟩; obtain ⟨⟨z0, z1, z2, z3, z4, z5, z6⟩, hz⟩ := SgF.below (w := w3.drew) HZ3.out hb3 hs3; have e9 := (cellB hb3 (o := o9 + 13) hb9').trans (show w3.drew.cell? ⟨b9', o9 + 13, none⟩ = _ from c9); have y0 := hz 0; have y1 := hz 1; have y2 := hz 2; have y3 := hz 3; have y4 := hz 4; have y5 := hz 5; have y6 := hz 6; clear hz))
  have hown3' : w4.ownsRow w3.heap.size 5 1 (.slice A3 (n - N) c3) (n - N) ((xs.drop N : List UInt8).map bv) := hown3
  obtain ⟨hp4, _, _, _, hb4⟩ := setSg_fin (SgAt.of z0 z1 z2 z3 z4 z5 z6) (.int .i64 ((num2 xs 0 2 : Nat) : Int)) (.int .i64 ((num2 xs 2 2 : Nat) : Int)) (.int .i64 ((num2 xs 4 4 : Nat) : Int)) (.int .i64 ((num2 xs 8 4 : Nat) : Int)) (.int .i64 (r9 : Int)) (.int .i64 ((num2 xs 14 2 : Nat) : Int)) hown3' (own_ne hown3' (Or.inl hs3)) (HB3.out.drew.trans (hb3.mono HB3.out.size)) (Nat.le_refl _) (Nat.lt_of_lt_of_le hs3 hb3.size)
  have hown4 := hown3'.kept (setSg_grown w4 w.heap.size (.int .i64 ((num2 xs 0 2 : Nat) : Int)) (.int .i64 ((num2 xs 2 2 : Nat) : Int)) (.int .i64 ((num2 xs 4 4 : Nat) : Int)) (.int .i64 ((num2 xs 8 4 : Nat) : Int)) (.int .i64 (r9 : Int)) (.int .i64 ((num2 xs 14 2 : Nat) : Int)) (.slice A3 (n - N) c3)) (Or.inr (Ne.symm (own_ne hown3' (Or.inl hs3))))
  clear z0 z1 z2 z3 z4 z5 z6 y0 y1 y2 y3 y4 y5 y6 e9 hown3 hown3' hb3 HG0 HG1 HG2 HG3 HG4 KL
  show Exit.then _ _ _ _ (setSg w4 w.heap.size (.int .i64 ((num2 xs 0 2 : Nat) : Int)) (.int .i64 ((num2 xs 2 2 : Nat) : Int)) (.int .i64 ((num2 xs 4 4 : Nat) : Int)) (.int .i64 ((num2 xs 8 4 : Nat) : Int)) (.int .i64 (r9 : Int)) (.int .i64 ((num2 xs 14 2 : Nat) : Int)) (.slice A3 (n - N) c3))
  generalize setSg w4 w.heap.size (.int .i64 ((num2 xs 0 2 : Nat) : Int)) (.int .i64 ((num2 xs 2 2 : Nat) : Int)) (.int .i64 ((num2 xs 4 4 : Nat) : Int)) (.int .i64 ((num2 xs 8 4 : Nat) : Int)) (.int .i64 (r9 : Int)) (.int .i64 ((num2 xs 14 2 : Nat) : Int)) (.slice A3 (n - N) c3) = w5 at hp4 hown4 hb4 ⊢
  obtain ⟨z0, z1, z2, z3, z4, z5, z6⟩ := hp4
  go_wp2
  simp only [Exit.jump]
  refine bodyPost_ret (v := .tuple #[.agg #[.int .i64 ((num2 xs 0 2 : Nat) : Int), .int .i64 ((num2 xs 2 2 : Nat) : Int), .int .i64 ((num2 xs 4 4 : Nat) : Int), .int .i64 ((num2 xs 8 4 : Nat) : Int), .int .i64 (r9 : Int), .int .i64 ((num2 xs 14 2 : Nat) : Int), .slice A3 (n - N) c3], .int .i64 0]) (by simp [results, Try.results55, go_sem, z0, z1, z2, z3, z4, z5, z6]) rfl ?_
  have hlen : (xs.drop N).length = (n - N) := by rw [List.length_drop, hl'.out]
  have hP : sgParsed xs = ⟨(num2 xs 0 2 : Nat), (num2 xs 2 2 : Nat), (num2 xs 4 4 : Nat), (num2 xs 8 4 : Nat), (r9 : Int), (num2 xs 14 2 : Nat), xs.drop N⟩ := by
    unfold sgParsed
    rw [hNx'.out, b8_of hx9'.out, hr9'.out]
  rw [hP]
  refine ⟨A3, c3, ?_, ?_, hb4⟩
  · simp only [hlen]
  · simp only [hlen]
    skip
    exact own_base hown4 (Nat.le_of_lt hs3)

set_option maxRecDepth 100000 in
set_option maxHeartbeats 3200000 in
theorem segParse_ok0 (src dst : Nat) (hs : src < 4294967296) (hd : dst < 4294967296) (xs : List UInt8) (n : Nat) (hl : xs.length = n) (A : Option Addr) (c : Nat) (hnc : n ≤ c) (w : World) (hx : RB w w.heap.size A xs)
    (h20 : 20 ≤ n) (hN20 : 20 ≤ sgN xs) (hnN : sgN xs ≤ n) (h1480 : n ≤ 1480) (hF0 : segSum src dst xs = 0) (hcN : c = sgN xs) :
    Calls Try.prog 55 #[.int .i64 src, .int .i64 dst, .slice A n c] w (SegParsed w (sgParsed xs, 0)) := by
  have hbA := balloc w (.cells #[.int .i64 0, .int .i64 0, .int .i64 0, .int .i64 0, .int .i64 0, .int .i64 0, .slice none 0 0] 71)
  have HB := Lib.hid hbA
  have KI1 := Lib.hid (fun w => segIPV (src : Int) true (word_nat src hs) w)
  have KI2 := Lib.hid (fun w => segIPV (dst : Int) true (word_nat dst hd) w)
  obtain ⟨b0, o0, x0, rfl, hb, hx0, c0⟩ := hx.get (k := 12) (by omega)
  have i12 : (12 : Int) < (n : Int) := by omega
  have h20' : ¬ (n : Int) < 20 := by omega
  have cA := (cellB hbA (o := o0 + 12) hb).trans c0
  have hb8 : b8 xs 12 = x0.toNat := b8_of hx0
  obtain ⟨N, hN⟩ : ∃ N, N = 4 * (x0.toNat / 16) := ⟨_, rfl⟩
  obtain ⟨K, hK⟩ : ∃ K, K = x0.toNat / 16 := ⟨_, rfl⟩
  have hKI : (x0.toNat : Int) / 16 = (K : Int) := by omega
  have hK15 : (K : Int) ≤ 15 := by have := x0.toNat_lt; omega
  have hNI : 4 * (K : Int) = (N : Int) := by omega
  have hNx : sgN xs = N := by unfold sgN; rw [hb8]; exact hN.symm
  rw [hNx] at hN20 hnN hcN
  have hN20' : ¬ (N : Int) < 20 := by omega
  have hnN' : ¬ (n : Int) < (N : Int) := by omega
  have h1480' : ¬ (1480 : Int) < (n : Int) := by omega
  have hxA := hx.next hbA
  have hbz := Lib.hid (SgF.box w (.int .i64 0) (.int .i64 0) (.int .i64 0) (.int .i64 0) (.int .i64 0) (.int .i64 0) (.slice none 0 0) 71)
  have hsA : w.heap.size < (w.alloc (.cells #[.int .i64 0, .int .i64 0, .int .i64 0, .int .i64 0, .int .i64 0, .int .i64 0, .slice none 0 0] 71)).heap.size := lt_alloc _ _
  have HXA := Lib.hid hxA
  have KC := Lib.hid (segCheck src dst hs hd xs n hl (some ⟨b0, o0, none⟩) c _ hxA (by omega))
  obtain ⟨S, hS⟩ : ∃ S, segSum src dst xs = S := ⟨_, rfl⟩
  rw [hS] at KC hF0
  have hSq : ((S : Int) != 0) = false := by simp only [bne_eq_false_iff_eq]; omega
  have hl' := Lib.hid hl
  have hNx' := Lib.hid hNx
  have hS0 := Lib.hid hF0
  clear hl hx0 hb8 hNx hN hbA c0 hx hxA hF0 hK hS
  obtain rfl : n = N := by omega
  obtain rfl : n = c := by omega
  clear hcN
  go_enter Try.func55, Try.ntmps55
  go_wp2_with fail
  refine wp_scope_fwd 0 rfl ?_
  go_wp2_with fail
  (with_reducible refine (KI1.out _).mono ?_)
  rintro e w' ⟨rfl, rfl⟩
  go_wp2_with fail
  (with_reducible refine (KI2.out _).mono ?_)
  rintro e w' ⟨rfl, rfl⟩
  go_wp2_with fail
  generalize w.alloc (.cells #[.int .i64 0, .int .i64 0, .int .i64 0, .int .i64 0, .int .i64 0, .int .i64 0, .slice none 0 0] 71) = w2 at HB hbz hsA HXA cA KC ⊢
  (with_reducible refine KC.out.mono ?_)
  rintro e w3 ⟨rfl, hb23⟩
  clear KC
  have HB3 := Lib.hid (HB.out.trans (hb23.mono HB.out.size))
  have HX3 := Lib.hid (HXA.out.next hb23)
  have HZ3 := Lib.hid (hbz.out.below hb23 hsA)
  have hs3 : w.heap.size < w3.heap.size := Nat.lt_of_lt_of_le hsA hb23.size
  clear hb23 hbz HXA HB cA
  obtain ⟨b9', o9, x9, ad9, hb9', hx9, c9⟩ := HX3.out.get (k := 13) (by rw [hl'.out]; omega)
  obtain ⟨rfl, rfl⟩ := RB.same_at rfl ad9
  have hx9' := Lib.hid hx9
  clear hx9 ad9
  have i13 : (13 : Int) < (n : Int) := by omega
  have s1 : (2 : Int) ≤ (n : Int) := by omega
  have s2 : (4 : Int) ≤ (n : Int) := by omega
  have s3 : (8 : Int) ≤ (n : Int) := by omega
  have s4 : (12 : Int) ≤ (n : Int) := by omega
  have s5 : (16 : Int) ≤ (n : Int) := by omega
  have u1 : ¬ n = 2 := by omega
  have u2 : ¬ n = 4 := by omega
  have u3 : ¬ n = 8 := by omega
  have u4 : ¬ n = 14 := by omega
  have wr9 := wrap_byte x9
  have a9 := and63 x9
  have a9' : ((x9.toNat % 64 : Nat) : Int) = (x9.toNat : Int) % 64 := by omega
  have w9' : IntKind.i64.wrap ((x9.toNat % 64 : Nat) : Int) = ((x9.toNat % 64 : Nat) : Int) := IntWalk.i64_in _ (by omega)
  obtain ⟨r9, hr9⟩ : ∃ r9, r9 = x9.toNat % 64 := ⟨_, rfl⟩
  rw [← hr9] at a9 a9' w9'
  have hr9' := Lib.hid hr9
  clear hr9 a9'
  have HG0 : Hid (Calls Try.prog 63 #[.slice (some ⟨b9', o9, none⟩) 2 n] w3.drew fun e w' => e = .returned (.int .i64 ((num2 xs 0 2 : Nat) : Int)) ∧ w3.drew = w') := Lib.hid (getAt xs n hl'.out b9' o9 n w3.drew HX3.out 0 2 (by omega) (by omega) (by omega) _ rfl)
  have HG1 := Lib.hid (getAt xs n hl'.out b9' o9 (n - 2) w3.drew HX3.out 2 2 (by omega) (by omega) (by omega) _ rfl)
  have HG2 := Lib.hid (getAt xs n hl'.out b9' o9 (n - 4) w3.drew HX3.out 4 4 (by omega) (by omega) (by omega) _ rfl)
  have HG3 := Lib.hid (getAt xs n hl'.out b9' o9 (n - 8) w3.drew HX3.out 8 4 (by omega) (by omega) (by omega) _ rfl)
  have HG4 := Lib.hid (getAt xs n hl'.out b9' o9 (n - 14) w3.drew HX3.out 14 2 (by omega) (by omega) (by omega) _ rfl)
  have KL := Lib.hid (clone [] 0 rfl (some ⟨b9', o9, none⟩) 0 w3.drew RB.nil (by omega))
  have hne : b9' ≠ w.heap.size := by omega
  have hne' : w.heap.size ≠ b9' := by omega
  go_wp2_with fail
  go_region_held3 (fun w' => w'.cell? ⟨b9', o9 + 13, none⟩ = some (.int .u8 (x9.toNat : Int))) (go_keep)
    (first
      | (go_at_call 63; (with_reducible refine HG0.out.mono ?_); rintro e w' ⟨rfl, rfl⟩)
      | (go_at_call 63; (with_reducible refine HG1.out.mono ?_); rintro e w' ⟨rfl, rfl⟩)
      | (go_at_call 63; (with_reducible refine HG2.out.mono ?_); rintro e w' ⟨rfl, rfl⟩)
      | (go_at_call 63; (with_reducible refine HG3.out.mono ?_); rintro e w' ⟨rfl, rfl⟩)
      | (go_at_call 63; (with_reducible refine HG4.out.mono ?_); rintro e w' ⟨rfl, rfl⟩)
      | (go_at_call 57; (with_reducible refine KL.out.mono ?_); rintro e w4 ⟨A3, c3, rfl, hown3, hb3⟩; obtain ⟨⟨z0, z1, z2, z3, z4, z5, z6⟩, hz⟩ := SgF.below (w := w3.drew) HZ3.out hb3 hs3; have e9 := (cellB hb3 (o := o9 + 13) hb9').trans (show w3.drew.cell? ⟨b9', o9 + 13, none⟩ = _ from c9); have y0 := hz 0; have y1 := hz 1; have y2 := hz 2; have y3 := hz 3; have y4 := hz 4; have y5 := hz 5; have y6 := hz 6; clear hz))
  have hown3' : w4.ownsRow w3.heap.size 5 1 (.slice A3 0 c3) 0 (([] : List UInt8).map bv) := hown3
  obtain ⟨hp4, _, _, _, hb4⟩ := setSg_fin (SgAt.of z0 z1 z2 z3 z4 z5 z6) (.int .i64 ((num2 xs 0 2 : Nat) : Int)) (.int .i64 ((num2 xs 2 2 : Nat) : Int)) (.int .i64 ((num2 xs 4 4 : Nat) : Int)) (.int .i64 ((num2 xs 8 4 : Nat) : Int)) (.int .i64 (r9 : Int)) (.int .i64 ((num2 xs 14 2 : Nat) : Int)) hown3' (own_ne hown3' (Or.inl hs3)) (HB3.out.drew.trans (hb3.mono HB3.out.size)) (Nat.le_refl _) (Nat.lt_of_lt_of_le hs3 hb3.size)
  have hown4 := hown3'.kept (setSg_grown w4 w.heap.size (.int .i64 ((num2 xs 0 2 : Nat) : Int)) (.int .i64 ((num2 xs 2 2 : Nat) : Int)) (.int .i64 ((num2 xs 4 4 : Nat) : Int)) (.int .i64 ((num2 xs 8 4 : Nat) : Int)) (.int .i64 (r9 : Int)) (.int .i64 ((num2 xs 14 2 : Nat) : Int)) (.slice A3 0 c3)) (Or.inr (Ne.symm (own_ne hown3' (Or.inl hs3))))
  clear z0 z1 z2 z3 z4 z5 z6 y0 y1 y2 y3 y4 y5 y6 e9 hown3 hown3' hb3 HG0 HG1 HG2 HG3 HG4 KL
  show Exit.then _ _ _ _ (setSg w4 w.heap.size (.int .i64 ((num2 xs 0 2 : Nat) : Int)) (.int .i64 ((num2 xs 2 2 : Nat) : Int)) (.int .i64 ((num2 xs 4 4 : Nat) : Int)) (.int .i64 ((num2 xs 8 4 : Nat) : Int)) (.int .i64 (r9 : Int)) (.int .i64 ((num2 xs 14 2 : Nat) : Int)) (.slice A3 0 c3))
  generalize setSg w4 w.heap.size (.int .i64 ((num2 xs 0 2 : Nat) : Int)) (.int .i64 ((num2 xs 2 2 : Nat) : Int)) (.int .i64 ((num2 xs 4 4 : Nat) : Int)) (.int .i64 ((num2 xs 8 4 : Nat) : Int)) (.int .i64 (r9 : Int)) (.int .i64 ((num2 xs 14 2 : Nat) : Int)) (.slice A3 0 c3) = w5 at hp4 hown4 hb4 ⊢
  obtain ⟨z0, z1, z2, z3, z4, z5, z6⟩ := hp4
  go_wp2
  simp only [Exit.jump]
  refine bodyPost_ret (v := .tuple #[.agg #[.int .i64 ((num2 xs 0 2 : Nat) : Int), .int .i64 ((num2 xs 2 2 : Nat) : Int), .int .i64 ((num2 xs 4 4 : Nat) : Int), .int .i64 ((num2 xs 8 4 : Nat) : Int), .int .i64 (r9 : Int), .int .i64 ((num2 xs 14 2 : Nat) : Int), .slice A3 0 c3], .int .i64 0]) (by simp [results, Try.results55, go_sem, z0, z1, z2, z3, z4, z5, z6]) rfl ?_
  have hlen : (xs.drop n).length = 0 := by rw [List.length_drop, hl'.out]; omega
  have hP : sgParsed xs = ⟨(num2 xs 0 2 : Nat), (num2 xs 2 2 : Nat), (num2 xs 4 4 : Nat), (num2 xs 8 4 : Nat), (r9 : Int), (num2 xs 14 2 : Nat), xs.drop n⟩ := by
    unfold sgParsed
    rw [hNx'.out, b8_of hx9'.out, hr9'.out]
  rw [hP]
  refine ⟨A3, c3, ?_, ?_, hb4⟩
  · simp only [hlen]
  · simp only [hlen]
    rw [List.eq_nil_of_length_eq_zero hlen]
    exact own_base hown4 (Nat.le_of_lt hs3)

theorem segParse (src dst : Int) (xs : List UInt8) (n : Nat) (hl : xs.length = n) (A : Option Addr) (c : Nat) (hnc : n ≤ c) (w : World) (hx : RB w w.heap.size A xs) (hn : n ≤ 140737488351232) :
    Calls Try.prog 55 #[.int .i64 src, .int .i64 dst, .slice A n c] w (SegParsed w (segOut src dst xs)) := by
  unfold segOut
  rw [hl]
  split
  · rename_i h
    refine segParse_no src dst n c A _ _ rfl rfl ?_ w
    rcases h with h | h <;> rw [h] <;> simp
  · rename_i h
    have h1 : wordB src = true := by cases hh : wordB src; exact absurd (Or.inl hh) h; rfl
    have h2 : wordB dst = true := by cases hh : wordB dst; exact absurd (Or.inr hh) h; rfl
    obtain ⟨h3, h4⟩ := inR_iff.1 h1
    obtain ⟨h5, h6⟩ := inR_iff.1 h2
    obtain ⟨src, rfl⟩ := Int.eq_ofNat_of_zero_le h3
    obtain ⟨dst, rfl⟩ := Int.eq_ofNat_of_zero_le h5
    clear h
    split
    · rename_i h; exact segParse_len src dst (by omega) (by omega) xs n hl A c w hx hn 7 (Or.inl ⟨h, rfl⟩)
    · rename_i h20
      split
      · rename_i h; exact segParse_len src dst (by omega) (by omega) xs n hl A c w hx hn 1 (Or.inr (Or.inl ⟨by omega, h, rfl⟩))
      · rename_i hN
        split
        · rename_i h; exact segParse_len src dst (by omega) (by omega) xs n hl A c w hx hn 7 (Or.inr (Or.inr (Or.inl ⟨by omega, by omega, h, rfl⟩)))
        · rename_i hnN
          split
          · rename_i h; exact segParse_len src dst (by omega) (by omega) xs n hl A c w hx hn 2 (Or.inr (Or.inr (Or.inr ⟨by omega, by omega, by omega, h, rfl⟩)))
          · split
            · rename_i h; exact segParse_sum src dst (by omega) (by omega) xs n hl A c hnc w hx (by omega) (by omega) (by omega) (by omega) h
            · rename_i h
              by_cases hc : c = sgN xs
              · exact segParse_ok0 src dst (by omega) (by omega) xs n hl A c hnc w hx (by omega) (by omega) (by omega) (by omega) (Decidable.not_not.1 h) hc
              · exact segParse_ok src dst (by omega) (by omega) xs n hl A c hnc w hx (by omega) (by omega) (by omega) (by omega) (Decidable.not_not.1 h) hc

end Go.Proofs.Ytjdokaiadljeeaa
