/-
  The walk of the document's ParseSeg.
-/
import Derived.OwnWalk
import Derived.RegionTactic
import Derived.Deep.MidRow
import Derived.Great.Walk
import Derived.Great.Frames
import Derived.ScopeJumps
import Derived.LoopN
import Derived.Lib.MinMax
import Derived.Test.YtlacidnnankjlaaGreatDoorCd1
namespace Go.Proofs.YtlacidnnankjlaaGreatDoor
open Go.RowKit

set_option maxRecDepth 100000 in
set_option maxHeartbeats 1600000 in
theorem refParseSeg_no (src dst : Int) (n c : Nat) (A : Option Addr) (bs bd : Bool) (hs : wordB src = bs) (hd : wordB dst = bd) (h : (bs && bd) = false) (w : World) :
    Calls Tryz.prog 97 #[.int .i64 src, .int .i64 dst, .slice A n c] w (SegParsed w (.zero, 1)) := by
  have HB := Lib.hid (balloc w (.cells #[.int .i64 0, .int .i64 0, .int .i64 0, .int .i64 0, .int .i64 0, .int .i64 0, .slice none 0 0] 36))
  have KI1 := Lib.hid (fun w => refWordV src bs hs w)
  have KI2 := Lib.hid (fun w => refWordV dst bd hd w)
  clear hs hd
  have hc : bs = false ∨ (bs = true ∧ bd = false) := by
    cases bs <;> cases bd <;> simp at h ⊢
  clear h
  rcases hc with rfl | ⟨rfl, rfl⟩
  · skip
    go_enter Tryz.func97, Tryz.ntmps97
    go_wp2_with fail
    (with_reducible refine (KI1.out _).mono ?_)
    rintro e w' ⟨rfl, rfl⟩
    go_wp2
    refine bodyPost_ret (v := .tuple #[.agg #[.int .i64 0, .int .i64 0, .int .i64 0, .int .i64 0, .int .i64 0, .int .i64 0, .slice none 0 0], .int .i64 1]) (by simp [results, Tryz.results97, go_sem]) rfl ?_
    exact segParsed_none w 1 _ HB.out
  · skip
    go_enter Tryz.func97, Tryz.ntmps97
    go_wp2_with fail
    (with_reducible refine (KI1.out _).mono ?_)
    rintro e w' ⟨rfl, rfl⟩
    go_wp2_with fail
    (with_reducible refine (KI2.out _).mono ?_)
    rintro e w' ⟨rfl, rfl⟩
    go_wp2
    refine bodyPost_ret (v := .tuple #[.agg #[.int .i64 0, .int .i64 0, .int .i64 0, .int .i64 0, .int .i64 0, .int .i64 0, .slice none 0 0], .int .i64 1]) (by simp [results, Tryz.results97, go_sem]) rfl ?_
    exact segParsed_none w 1 _ HB.out

set_option maxRecDepth 100000 in
set_option maxHeartbeats 3200000 in
theorem refParseSeg_len (src dst : Nat) (hs : src < 4294967296) (hd : dst < 4294967296) (xs : List UInt8) (n : Nat) (hl : xs.length = n) (A : Option Addr) (c : Nat) (w : World) (hx : RB w w.heap.size A xs) (hn : n ≤ 140737488351232) (k : Int)
    (h : (n < 20 ∧ k = 7) ∨ (20 ≤ n ∧ sgN xs < 20 ∧ k = 1) ∨ (20 ≤ n ∧ 20 ≤ sgN xs ∧ n < sgN xs ∧ k = 7) ∨ (20 ≤ n ∧ 20 ≤ sgN xs ∧ sgN xs ≤ n ∧ 1480 < n ∧ k = 2)) :
    Calls Tryz.prog 97 #[.int .i64 src, .int .i64 dst, .slice A n c] w (SegParsed w (.zero, k)) := by
  have hbA := balloc w (.cells #[.int .i64 0, .int .i64 0, .int .i64 0, .int .i64 0, .int .i64 0, .int .i64 0, .slice none 0 0] 36)
  have HB := Lib.hid hbA
  have KI1 := Lib.hid (fun w => refWordV (src : Int) true (word_nat src hs) w)
  have KI2 := Lib.hid (fun w => refWordV (dst : Int) true (word_nat dst hd) w)
  rcases h with ⟨h20, rfl⟩ | h
  · have h20' : (n : Int) < 20 := by omega
    clear hl hbA hx
    go_enter Tryz.func97, Tryz.ntmps97
    go_wp2_with fail
    (with_reducible refine (KI1.out _).mono ?_)
    rintro e w' ⟨rfl, rfl⟩
    go_wp2_with fail
    (with_reducible refine (KI2.out _).mono ?_)
    rintro e w' ⟨rfl, rfl⟩
    go_wp2
    refine bodyPost_ret (v := .tuple #[.agg #[.int .i64 0, .int .i64 0, .int .i64 0, .int .i64 0, .int .i64 0, .int .i64 0, .slice none 0 0], .int .i64 7]) (by simp [results, Tryz.results97, go_sem]) rfl ?_
    exact segParsed_none w 7 _ HB.out
  · have h20 : 20 ≤ n := by omega
    obtain ⟨b0, o0, x0, rfl, hb, hx0, c0⟩ := hx.get (k := 12) (by omega)
    have i12 : (12 : Int) < (n : Int) := by omega
    have h20' : ¬ (n : Int) < 20 := by omega
    have cA := (cellB hbA (o := o0 + 12) hb).trans c0
    have hb8 : b8 xs 12 = x0.toNat := b8_of hx0
    obtain ⟨N, hN⟩ : ∃ N, N = 4 * (x0.toNat / 16) := ⟨_, rfl⟩
    obtain ⟨K, hK⟩ : ∃ K, K = x0.toNat / 16 := ⟨_, rfl⟩
    have hKI : (x0.toNat : Int) / 16 = (K : Int) := by omega
    have hK15 : (K : Int) ≤ 15 := by have := x0.toNat_lt; omega
    have hNI : 4 * (K : Int) = (N : Int) := by omega
    have hNx : sgN xs = N := by unfold sgN; rw [hb8]; exact hN.symm
    rw [hNx] at h
    rcases h with ⟨_, hN20, rfl⟩ | ⟨_, hN20, hnN, rfl⟩ | ⟨_, hN20, hnN, h1480, rfl⟩
    · have hN20' : (N : Int) < 20 := by omega
      clear hl hx0 hb8 hNx hN hbA c0 hK
      go_enter Tryz.func97, Tryz.ntmps97
      go_wp2_with fail
      (with_reducible refine (KI1.out _).mono ?_)
      rintro e w' ⟨rfl, rfl⟩
      go_wp2_with fail
      (with_reducible refine (KI2.out _).mono ?_)
      rintro e w' ⟨rfl, rfl⟩
      go_wp2
      refine bodyPost_ret (v := .tuple #[.agg #[.int .i64 0, .int .i64 0, .int .i64 0, .int .i64 0, .int .i64 0, .int .i64 0, .slice none 0 0], .int .i64 1]) (by simp [results, Tryz.results97, go_sem]) rfl ?_
      exact segParsed_none w 1 _ HB.out
    · have hN20' : ¬ (N : Int) < 20 := by omega
      have hnN' : (n : Int) < (N : Int) := by omega
      clear hl hx0 hb8 hNx hN hbA c0 hK
      go_enter Tryz.func97, Tryz.ntmps97
      go_wp2_with fail
      (with_reducible refine (KI1.out _).mono ?_)
      rintro e w' ⟨rfl, rfl⟩
      go_wp2_with fail
      (with_reducible refine (KI2.out _).mono ?_)
      rintro e w' ⟨rfl, rfl⟩
      go_wp2
      refine bodyPost_ret (v := .tuple #[.agg #[.int .i64 0, .int .i64 0, .int .i64 0, .int .i64 0, .int .i64 0, .int .i64 0, .slice none 0 0], .int .i64 7]) (by simp [results, Tryz.results97, go_sem]) rfl ?_
      exact segParsed_none w 7 _ HB.out
    · have hN20' : ¬ (N : Int) < 20 := by omega
      have hnN' : ¬ (n : Int) < (N : Int) := by omega
      have h1480' : (1480 : Int) < (n : Int) := by omega
      clear hl hx0 hb8 hNx hN hbA c0 hK
      go_enter Tryz.func97, Tryz.ntmps97
      go_wp2_with fail
      (with_reducible refine (KI1.out _).mono ?_)
      rintro e w' ⟨rfl, rfl⟩
      go_wp2_with fail
      (with_reducible refine (KI2.out _).mono ?_)
      rintro e w' ⟨rfl, rfl⟩
      go_wp2
      refine bodyPost_ret (v := .tuple #[.agg #[.int .i64 0, .int .i64 0, .int .i64 0, .int .i64 0, .int .i64 0, .int .i64 0, .slice none 0 0], .int .i64 2]) (by simp [results, Tryz.results97, go_sem]) rfl ?_
      exact segParsed_none w 2 _ HB.out

set_option maxRecDepth 100000 in
set_option maxHeartbeats 3200000 in
theorem refParseSeg_sum (src dst : Nat) (hs : src < 4294967296) (hd : dst < 4294967296) (xs : List UInt8) (n : Nat) (hl : xs.length = n) (A : Option Addr) (c : Nat) (_hnc : n ≤ c) (w : World) (hx : RB w w.heap.size A xs)
    (h20 : 20 ≤ n) (hN20 : 20 ≤ sgN xs) (hnN : sgN xs ≤ n) (h1480 : n ≤ 1480) (hF0 : segSum src dst xs ≠ 0)  :
    Calls Tryz.prog 97 #[.int .i64 src, .int .i64 dst, .slice A n c] w (SegParsed w (.zero, 8)) := by
  have hbA := balloc w (.cells #[.int .i64 0, .int .i64 0, .int .i64 0, .int .i64 0, .int .i64 0, .int .i64 0, .slice none 0 0] 36)
  have HB := Lib.hid hbA
  have KI1 := Lib.hid (fun w => refWordV (src : Int) true (word_nat src hs) w)
  have KI2 := Lib.hid (fun w => refWordV (dst : Int) true (word_nat dst hd) w)
  obtain ⟨b0, o0, x0, rfl, hb, hx0, c0⟩ := hx.get (k := 12) (by omega)
  have i12 : (12 : Int) < (n : Int) := by omega
  have h20' : ¬ (n : Int) < 20 := by omega
  have cA := (cellB hbA (o := o0 + 12) hb).trans c0
  have hb8 : b8 xs 12 = x0.toNat := b8_of hx0
  obtain ⟨N, hN⟩ : ∃ N, N = 4 * (x0.toNat / 16) := ⟨_, rfl⟩
  obtain ⟨K, hK⟩ : ∃ K, K = x0.toNat / 16 := ⟨_, rfl⟩
  have hKI : (x0.toNat : Int) / 16 = (K : Int) := by omega
  have hK15 : (K : Int) ≤ 15 := by have := x0.toNat_lt; omega
  have hNI : 4 * (K : Int) = (N : Int) := by omega
  have hNx : sgN xs = N := by unfold sgN; rw [hb8]; exact hN.symm
  rw [hNx] at hN20 hnN 
  have hN20' : ¬ (N : Int) < 20 := by omega
  have hnN' : ¬ (n : Int) < (N : Int) := by omega
  have h1480' : ¬ (1480 : Int) < (n : Int) := by omega
  have hxA := hx.next hbA
  have hbz := Lib.hid (SgF.box w (.int .i64 0) (.int .i64 0) (.int .i64 0) (.int .i64 0) (.int .i64 0) (.int .i64 0) (.slice none 0 0) 36)
  have hsA : w.heap.size < (w.alloc (.cells #[.int .i64 0, .int .i64 0, .int .i64 0, .int .i64 0, .int .i64 0, .int .i64 0, .slice none 0 0] 36)).heap.size := lt_alloc _ _
  have HXA := Lib.hid hxA
  have KH := Lib.hid (refHead src dst n hs hd (by omega) (w.alloc (.cells #[.int .i64 0, .int .i64 0, .int .i64 0, .int .i64 0, .int .i64 0, .int .i64 0, .slice none 0 0] 36)))
  have ha := Sm.add_le 0 (segHd src dst n)
  have haz := Sm.add_le (Sm.add 0 (segHd src dst n)) xs
  have HF := segSum_add src dst xs
  rw [hl] at HF
  have hSq : (((Sm.add (Sm.add 0 (segHd src dst n)) xs : Nat) : Int) != 65535) = true := by simp only [bne_iff_ne, ne_eq]; omega
  have hl' := Lib.hid hl
  have hNx' := Lib.hid hNx
  have hS0 := Lib.hid hF0
  clear hl hx0 hb8 hNx hN hbA c0 hx hxA hF0 hK HF
  go_enter Tryz.func97, Tryz.ntmps97
  go_wp2_with fail
  (with_reducible refine (KI1.out _).mono ?_)
  rintro e w' ⟨rfl, rfl⟩
  go_wp2_with fail
  (with_reducible refine (KI2.out _).mono ?_)
  rintro e w' ⟨rfl, rfl⟩
  go_wp2_with fail
  generalize w.alloc (.cells #[.int .i64 0, .int .i64 0, .int .i64 0, .int .i64 0, .int .i64 0, .int .i64 0, .slice none 0 0] 36) = w2 at HB hbz hsA HXA cA KH ⊢
  (with_reducible refine KH.out.mono ?_)
  rintro e w3 ⟨A9, p9, rfl, hown9, hb23⟩
  have K1 := Lib.hid (refAddN 0 0 rfl (by omega) (segHd src dst n) 12 (segHd_length _ _ _) A9 p9 w3 (RB.of_ownN hown9) (by omega))
  have K2 := Lib.hid (refAddN (Sm.add 0 (segHd src dst n)) _ rfl ha xs n hl'.out (some ⟨b0, o0, none⟩) c w3 (HXA.out.next hb23) (by omega))
  generalize Sm.add 0 (segHd src dst n) = a at K1 K2 hSq ha haz
  generalize Sm.add a xs = z at K2 hSq haz
  clear hown9 KH
  go_wp2_with fail
  (with_reducible refine K1.out.mono ?_)
  rintro e w' ⟨rfl, rfl⟩
  go_wp2_with fail
  (with_reducible refine K2.out.mono ?_)
  rintro e w' ⟨rfl, rfl⟩
  clear K1 K2
  have HB3 := Lib.hid (HB.out.trans (hb23.mono HB.out.size))
  have HX3 := Lib.hid (HXA.out.next hb23)
  have HZ3 := Lib.hid (hbz.out.below hb23 hsA)
  have hs3 : w.heap.size < w3.heap.size := Nat.lt_of_lt_of_le hsA hb23.size
  clear hb23 hbz HXA HB cA
  obtain ⟨⟨z0, z1, z2, z3, z4, z5, z6⟩, hz⟩ := HZ3.out
  have y0 := hz 0
  have y1 := hz 1
  have y2 := hz 2
  have y3 := hz 3
  have y4 := hz 4
  have y5 := hz 5
  have y6 := hz 6
  clear hz
  go_wp2
  have hpz := setSg_at (SgAt.of z0 z1 z2 z3 z4 z5 z6) (.int .i64 0) (.int .i64 0) (.int .i64 0) (.int .i64 0) (.int .i64 0) (.int .i64 0) (.slice none 0 0)
  have hbz := (setSg_only w3 w.heap.size (.int .i64 0) (.int .i64 0) (.int .i64 0) (.int .i64 0) (.int .i64 0) (.int .i64 0) (.slice none 0 0)).below _ _ HB3.out (Nat.le_refl _)
  show bodyPost _ _ _ _ _ (setSg w3 w.heap.size (.int .i64 0) (.int .i64 0) (.int .i64 0) (.int .i64 0) (.int .i64 0) (.int .i64 0) (.slice none 0 0))
  generalize setSg w3 w.heap.size (.int .i64 0) (.int .i64 0) (.int .i64 0) (.int .i64 0) (.int .i64 0) (.int .i64 0) (.slice none 0 0) = w4 at hpz hbz ⊢
  clear z0 z1 z2 z3 z4 z5 z6
  obtain ⟨z0, z1, z2, z3, z4, z5, z6⟩ := hpz
  refine bodyPost_ret (v := .tuple #[.agg #[.int .i64 0, .int .i64 0, .int .i64 0, .int .i64 0, .int .i64 0, .int .i64 0, .slice none 0 0], .int .i64 8]) (by simp [results, Tryz.results97, go_sem, z0, z1, z2, z3, z4, z5, z6]) rfl ?_
  exact segParsed_none w 8 _ hbz

set_option maxRecDepth 100000 in
set_option maxHeartbeats 3200000 in
theorem refParseSeg_ok (src dst : Nat) (hs : src < 4294967296) (hd : dst < 4294967296) (xs : List UInt8) (n : Nat) (hl : xs.length = n) (A : Option Addr) (c : Nat) (hnc : n ≤ c) (w : World) (hx : RB w w.heap.size A xs)
    (h20 : 20 ≤ n) (hN20 : 20 ≤ sgN xs) (hnN : sgN xs ≤ n) (h1480 : n ≤ 1480) (hF0 : segSum src dst xs = 0) (hcN : ¬ c = sgN xs) :
    Calls Tryz.prog 97 #[.int .i64 src, .int .i64 dst, .slice A n c] w (SegParsed w (sgParsed xs, 0)) := by
  have hbA := balloc w (.cells #[.int .i64 0, .int .i64 0, .int .i64 0, .int .i64 0, .int .i64 0, .int .i64 0, .slice none 0 0] 36)
  have HB := Lib.hid hbA
  have KI1 := Lib.hid (fun w => refWordV (src : Int) true (word_nat src hs) w)
  have KI2 := Lib.hid (fun w => refWordV (dst : Int) true (word_nat dst hd) w)
  obtain ⟨b0, o0, x0, rfl, hb, hx0, c0⟩ := hx.get (k := 12) (by omega)
  have i12 : (12 : Int) < (n : Int) := by omega
  have h20' : ¬ (n : Int) < 20 := by omega
  have cA := (cellB hbA (o := o0 + 12) hb).trans c0
  have hb8 : b8 xs 12 = x0.toNat := b8_of hx0
  obtain ⟨N, hN⟩ : ∃ N, N = 4 * (x0.toNat / 16) := ⟨_, rfl⟩
  obtain ⟨K, hK⟩ : ∃ K, K = x0.toNat / 16 := ⟨_, rfl⟩
  have hKI : (x0.toNat : Int) / 16 = (K : Int) := by omega
  have hK15 : (K : Int) ≤ 15 := by have := x0.toNat_lt; omega
  have hNI : 4 * (K : Int) = (N : Int) := by omega
  have hNx : sgN xs = N := by unfold sgN; rw [hb8]; exact hN.symm
  rw [hNx] at hN20 hnN hcN
  have hN20' : ¬ (N : Int) < 20 := by omega
  have hnN' : ¬ (n : Int) < (N : Int) := by omega
  have h1480' : ¬ (1480 : Int) < (n : Int) := by omega
  have hxA := hx.next hbA
  have hbz := Lib.hid (SgF.box w (.int .i64 0) (.int .i64 0) (.int .i64 0) (.int .i64 0) (.int .i64 0) (.int .i64 0) (.slice none 0 0) 36)
  have hsA : w.heap.size < (w.alloc (.cells #[.int .i64 0, .int .i64 0, .int .i64 0, .int .i64 0, .int .i64 0, .int .i64 0, .slice none 0 0] 36)).heap.size := lt_alloc _ _
  have HXA := Lib.hid hxA
  have KH := Lib.hid (refHead src dst n hs hd (by omega) (w.alloc (.cells #[.int .i64 0, .int .i64 0, .int .i64 0, .int .i64 0, .int .i64 0, .int .i64 0, .slice none 0 0] 36)))
  have ha := Sm.add_le 0 (segHd src dst n)
  have haz := Sm.add_le (Sm.add 0 (segHd src dst n)) xs
  have HF := segSum_add src dst xs
  rw [hl] at HF
  have hSq : (((Sm.add (Sm.add 0 (segHd src dst n)) xs : Nat) : Int) != 65535) = false := by simp only [bne_eq_false_iff_eq]; omega
  have hl' := Lib.hid hl
  have hNx' := Lib.hid hNx
  have hS0 := Lib.hid hF0
  clear hl hx0 hb8 hNx hN hbA c0 hx hxA hF0 hK HF
  go_enter Tryz.func97, Tryz.ntmps97
  go_wp2_with fail
  (with_reducible refine (KI1.out _).mono ?_)
  rintro e w' ⟨rfl, rfl⟩
  go_wp2_with fail
  (with_reducible refine (KI2.out _).mono ?_)
  rintro e w' ⟨rfl, rfl⟩
  go_wp2_with fail
  generalize w.alloc (.cells #[.int .i64 0, .int .i64 0, .int .i64 0, .int .i64 0, .int .i64 0, .int .i64 0, .slice none 0 0] 36) = w2 at HB hbz hsA HXA cA KH ⊢
  (with_reducible refine KH.out.mono ?_)
  rintro e w3 ⟨A9, p9, rfl, hown9, hb23⟩
  have K1 := Lib.hid (refAddN 0 0 rfl (by omega) (segHd src dst n) 12 (segHd_length _ _ _) A9 p9 w3 (RB.of_ownN hown9) (by omega))
  have K2 := Lib.hid (refAddN (Sm.add 0 (segHd src dst n)) _ rfl ha xs n hl'.out (some ⟨b0, o0, none⟩) c w3 (HXA.out.next hb23) (by omega))
  generalize Sm.add 0 (segHd src dst n) = a at K1 K2 hSq ha haz
  generalize Sm.add a xs = z at K2 hSq haz
  clear hown9 KH
  go_wp2_with fail
  (with_reducible refine K1.out.mono ?_)
  rintro e w' ⟨rfl, rfl⟩
  go_wp2_with fail
  (with_reducible refine K2.out.mono ?_)
  rintro e w' ⟨rfl, rfl⟩
  clear K1 K2
  have HB3 := Lib.hid (HB.out.trans (hb23.mono HB.out.size))
  have HX3 := Lib.hid (HXA.out.next hb23)
  have HZ3 := Lib.hid (hbz.out.below hb23 hsA)
  have hs3 : w.heap.size < w3.heap.size := Nat.lt_of_lt_of_le hsA hb23.size
  clear hb23 hbz HXA HB cA
  obtain ⟨b9', o9, x9, ad9, hb9', hx9, c9⟩ := HX3.out.get (k := 13) (by rw [hl'.out]; omega)
  obtain ⟨rfl, rfl⟩ := RB.same_at rfl ad9
  have hx9' := Lib.hid hx9
  clear hx9 ad9
  have i13 : (13 : Int) < (n : Int) := by omega
  have s1 : (2 : Int) ≤ (c : Int) := by omega
  have s2 : (4 : Int) ≤ (c : Int) := by omega
  have s3 : (8 : Int) ≤ (c : Int) := by omega
  have s4 : (12 : Int) ≤ (c : Int) := by omega
  have s5 : (16 : Int) ≤ (c : Int) := by omega
  have u1 : ¬ c = 2 := by omega
  have u2 : ¬ c = 4 := by omega
  have u3 : ¬ c = 8 := by omega
  have u4 : ¬ c = 14 := by omega
  have wr9 := wrap_byte x9
  have a9 := and63u x9
  have a9' : ((x9.toNat % 64 : Nat) : Int) = (x9.toNat : Int) % 64 := by omega
  have w9' : IntKind.i64.wrap ((x9.toNat % 64 : Nat) : Int) = ((x9.toNat % 64 : Nat) : Int) := IntWalk.i64_in _ (by omega)
  obtain ⟨r9, hr9⟩ : ∃ r9, r9 = x9.toNat % 64 := ⟨_, rfl⟩
  rw [← hr9] at a9 a9' w9'
  have hr9' := Lib.hid hr9
  clear hr9 a9'
  have HG0 : Hid (Calls Tryz.prog 107 #[.slice (some ⟨b9', o9, none⟩) 2 c] w3.drew fun e w' => e = .returned (.int .i64 ((num2 xs 0 2 : Nat) : Int)) ∧ w3.drew = w') := Lib.hid (ofAt xs n hl'.out b9' o9 c w3.drew HX3.out 0 2 (by omega) (by omega) (by omega) _ rfl)
  have HG1 := Lib.hid (ofAt xs n hl'.out b9' o9 (c - 2) w3.drew HX3.out 2 2 (by omega) (by omega) (by omega) _ rfl)
  have HG2 := Lib.hid (ofAt xs n hl'.out b9' o9 (c - 4) w3.drew HX3.out 4 4 (by omega) (by omega) (by omega) _ rfl)
  have HG3 := Lib.hid (ofAt xs n hl'.out b9' o9 (c - 8) w3.drew HX3.out 8 4 (by omega) (by omega) (by omega) _ rfl)
  have HG4 := Lib.hid (ofAt xs n hl'.out b9' o9 (c - 14) w3.drew HX3.out 14 2 (by omega) (by omega) (by omega) _ rfl)
  have KL := Lib.hid (copyN (xs.drop N) (n - N) (by rw [List.length_drop, hl'.out]) (some ⟨b9', o9 + N, none⟩) (c - N) w3.drew (cutEnd HX3.out N (by have := hl'.out; omega)) (by omega))
  have hne : b9' ≠ w.heap.size := by omega
  have hne' : w.heap.size ≠ b9' := by omega
  go_wp2_with fail
  go_region_held3 (fun w' => w'.cell? ⟨b9', o9 + 13, none⟩ = some (.int .u8 (x9.toNat : Int))) (go_keep)
    (first
      | (go_at_call 107; (with_reducible refine HG0.out.mono ?_); rintro e w' ⟨rfl, rfl⟩)
      | (go_at_call 107; (with_reducible refine HG1.out.mono ?_); rintro e w' ⟨rfl, rfl⟩)
      | (go_at_call 107; (with_reducible refine HG2.out.mono ?_); rintro e w' ⟨rfl, rfl⟩)
      | (go_at_call 107; (with_reducible refine HG3.out.mono ?_); rintro e w' ⟨rfl, rfl⟩)
      | (go_at_call 107; (with_reducible refine HG4.out.mono ?_); rintro e w' ⟨rfl, rfl⟩)
      | (go_at_call 59; (with_reducible refine KL.out.mono ?_); rintro e w4 ⟨A3, c3, rfl, hown3, hb3⟩; obtain ⟨⟨z0, z1, z2, z3, z4, z5, z6⟩, hz⟩ := SgF.below (w := w3.drew) HZ3.out hb3 hs3; have e9 := (cellB hb3 (o := o9 + 13) hb9').trans (show w3.drew.cell? ⟨b9', o9 + 13, none⟩ = _ from c9); have y0 := hz 0; have y1 := hz 1; have y2 := hz 2; have y3 := hz 3; have y4 := hz 4; have y5 := hz 5; have y6 := hz 6; clear hz))
  have hown3' : w4.ownsRow w3.heap.size 5 1 (.slice A3 (n - N) c3) (n - N) ((xs.drop N : List UInt8).map bv) := hown3
  obtain ⟨hp4, _, _, _, hb4⟩ := setSg_fin (SgAt.of z0 z1 z2 z3 z4 z5 z6) (.int .i64 ((num2 xs 0 2 : Nat) : Int)) (.int .i64 ((num2 xs 2 2 : Nat) : Int)) (.int .i64 ((num2 xs 4 4 : Nat) : Int)) (.int .i64 ((num2 xs 8 4 : Nat) : Int)) (.int .i64 (r9 : Int)) (.int .i64 ((num2 xs 14 2 : Nat) : Int)) hown3' (own_ne hown3' (Or.inl hs3)) (HB3.out.drew.trans (hb3.mono HB3.out.size)) (Nat.le_refl _) (Nat.lt_of_lt_of_le hs3 hb3.size)
  have hown4 := hown3'.kept (setSg_grown w4 w.heap.size (.int .i64 ((num2 xs 0 2 : Nat) : Int)) (.int .i64 ((num2 xs 2 2 : Nat) : Int)) (.int .i64 ((num2 xs 4 4 : Nat) : Int)) (.int .i64 ((num2 xs 8 4 : Nat) : Int)) (.int .i64 (r9 : Int)) (.int .i64 ((num2 xs 14 2 : Nat) : Int)) (.slice A3 (n - N) c3)) (Or.inr (Ne.symm (own_ne hown3' (Or.inl hs3))))
  clear z0 z1 z2 z3 z4 z5 z6 y0 y1 y2 y3 y4 y5 y6 e9 hown3 hown3' hb3 HG0 HG1 HG2 HG3 HG4 KL
  show Exit.then _ _ _ _ (setSg w4 w.heap.size (.int .i64 ((num2 xs 0 2 : Nat) : Int)) (.int .i64 ((num2 xs 2 2 : Nat) : Int)) (.int .i64 ((num2 xs 4 4 : Nat) : Int)) (.int .i64 ((num2 xs 8 4 : Nat) : Int)) (.int .i64 (r9 : Int)) (.int .i64 ((num2 xs 14 2 : Nat) : Int)) (.slice A3 (n - N) c3))
  generalize setSg w4 w.heap.size (.int .i64 ((num2 xs 0 2 : Nat) : Int)) (.int .i64 ((num2 xs 2 2 : Nat) : Int)) (.int .i64 ((num2 xs 4 4 : Nat) : Int)) (.int .i64 ((num2 xs 8 4 : Nat) : Int)) (.int .i64 (r9 : Int)) (.int .i64 ((num2 xs 14 2 : Nat) : Int)) (.slice A3 (n - N) c3) = w5 at hp4 hown4 hb4 ⊢
  obtain ⟨z0, z1, z2, z3, z4, z5, z6⟩ := hp4
  go_wp2
  refine bodyPost_ret (v := .tuple #[.agg #[.int .i64 ((num2 xs 0 2 : Nat) : Int), .int .i64 ((num2 xs 2 2 : Nat) : Int), .int .i64 ((num2 xs 4 4 : Nat) : Int), .int .i64 ((num2 xs 8 4 : Nat) : Int), .int .i64 (r9 : Int), .int .i64 ((num2 xs 14 2 : Nat) : Int), .slice A3 (n - N) c3], .int .i64 0]) (by simp [results, Tryz.results97, go_sem, z0, z1, z2, z3, z4, z5, z6]) rfl ?_
  have hlen : (xs.drop N).length = (n - N) := by rw [List.length_drop, hl'.out]
  have hP : sgParsed xs = ⟨(num2 xs 0 2 : Nat), (num2 xs 2 2 : Nat), (num2 xs 4 4 : Nat), (num2 xs 8 4 : Nat), (r9 : Int), (num2 xs 14 2 : Nat), xs.drop N⟩ := by
    unfold sgParsed
    rw [hNx'.out, b8_of hx9'.out, hr9'.out]
  rw [hP]
  refine ⟨A3, c3, ?_, ?_, hb4⟩
  · simp only [hlen]
  · simp only [hlen]
    skip
    exact own_base hown4 (Nat.le_of_lt hs3)

set_option maxRecDepth 100000 in
set_option maxHeartbeats 3200000 in
theorem refParseSeg_ok0 (src dst : Nat) (hs : src < 4294967296) (hd : dst < 4294967296) (xs : List UInt8) (n : Nat) (hl : xs.length = n) (A : Option Addr) (c : Nat) (hnc : n ≤ c) (w : World) (hx : RB w w.heap.size A xs)
    (h20 : 20 ≤ n) (hN20 : 20 ≤ sgN xs) (hnN : sgN xs ≤ n) (h1480 : n ≤ 1480) (hF0 : segSum src dst xs = 0) (hcN : c = sgN xs) :
    Calls Tryz.prog 97 #[.int .i64 src, .int .i64 dst, .slice A n c] w (SegParsed w (sgParsed xs, 0)) := by
  have hbA := balloc w (.cells #[.int .i64 0, .int .i64 0, .int .i64 0, .int .i64 0, .int .i64 0, .int .i64 0, .slice none 0 0] 36)
  have HB := Lib.hid hbA
  have KI1 := Lib.hid (fun w => refWordV (src : Int) true (word_nat src hs) w)
  have KI2 := Lib.hid (fun w => refWordV (dst : Int) true (word_nat dst hd) w)
  obtain ⟨b0, o0, x0, rfl, hb, hx0, c0⟩ := hx.get (k := 12) (by omega)
  have i12 : (12 : Int) < (n : Int) := by omega
  have h20' : ¬ (n : Int) < 20 := by omega
  have cA := (cellB hbA (o := o0 + 12) hb).trans c0
  have hb8 : b8 xs 12 = x0.toNat := b8_of hx0
  obtain ⟨N, hN⟩ : ∃ N, N = 4 * (x0.toNat / 16) := ⟨_, rfl⟩
  obtain ⟨K, hK⟩ : ∃ K, K = x0.toNat / 16 := ⟨_, rfl⟩
  have hKI : (x0.toNat : Int) / 16 = (K : Int) := by omega
  have hK15 : (K : Int) ≤ 15 := by have := x0.toNat_lt; omega
  have hNI : 4 * (K : Int) = (N : Int) := by omega
  have hNx : sgN xs = N := by unfold sgN; rw [hb8]; exact hN.symm
  rw [hNx] at hN20 hnN hcN
  have hN20' : ¬ (N : Int) < 20 := by omega
  have hnN' : ¬ (n : Int) < (N : Int) := by omega
  have h1480' : ¬ (1480 : Int) < (n : Int) := by omega
  have hxA := hx.next hbA
  have hbz := Lib.hid (SgF.box w (.int .i64 0) (.int .i64 0) (.int .i64 0) (.int .i64 0) (.int .i64 0) (.int .i64 0) (.slice none 0 0) 36)
  have hsA : w.heap.size < (w.alloc (.cells #[.int .i64 0, .int .i64 0, .int .i64 0, .int .i64 0, .int .i64 0, .int .i64 0, .slice none 0 0] 36)).heap.size := lt_alloc _ _
  have HXA := Lib.hid hxA
  have KH := Lib.hid (refHead src dst n hs hd (by omega) (w.alloc (.cells #[.int .i64 0, .int .i64 0, .int .i64 0, .int .i64 0, .int .i64 0, .int .i64 0, .slice none 0 0] 36)))
  have ha := Sm.add_le 0 (segHd src dst n)
  have haz := Sm.add_le (Sm.add 0 (segHd src dst n)) xs
  have HF := segSum_add src dst xs
  rw [hl] at HF
  have hSq : (((Sm.add (Sm.add 0 (segHd src dst n)) xs : Nat) : Int) != 65535) = false := by simp only [bne_eq_false_iff_eq]; omega
  have hl' := Lib.hid hl
  have hNx' := Lib.hid hNx
  have hS0 := Lib.hid hF0
  clear hl hx0 hb8 hNx hN hbA c0 hx hxA hF0 hK HF
  obtain rfl : n = N := by omega
  obtain rfl : n = c := by omega
  clear hcN
  go_enter Tryz.func97, Tryz.ntmps97
  go_wp2_with fail
  (with_reducible refine (KI1.out _).mono ?_)
  rintro e w' ⟨rfl, rfl⟩
  go_wp2_with fail
  (with_reducible refine (KI2.out _).mono ?_)
  rintro e w' ⟨rfl, rfl⟩
  go_wp2_with fail
  generalize w.alloc (.cells #[.int .i64 0, .int .i64 0, .int .i64 0, .int .i64 0, .int .i64 0, .int .i64 0, .slice none 0 0] 36) = w2 at HB hbz hsA HXA cA KH ⊢
  (with_reducible refine KH.out.mono ?_)
  rintro e w3 ⟨A9, p9, rfl, hown9, hb23⟩
  have K1 := Lib.hid (refAddN 0 0 rfl (by omega) (segHd src dst n) 12 (segHd_length _ _ _) A9 p9 w3 (RB.of_ownN hown9) (by omega))
  have K2 := Lib.hid (refAddN (Sm.add 0 (segHd src dst n)) _ rfl ha xs n hl'.out (some ⟨b0, o0, none⟩) n w3 (HXA.out.next hb23) (by omega))
  generalize Sm.add 0 (segHd src dst n) = a at K1 K2 hSq ha haz
  generalize Sm.add a xs = z at K2 hSq haz
  clear hown9 KH
  go_wp2_with fail
  (with_reducible refine K1.out.mono ?_)
  rintro e w' ⟨rfl, rfl⟩
  go_wp2_with fail
  (with_reducible refine K2.out.mono ?_)
  rintro e w' ⟨rfl, rfl⟩
  clear K1 K2
  have HB3 := Lib.hid (HB.out.trans (hb23.mono HB.out.size))
  have HX3 := Lib.hid (HXA.out.next hb23)
  have HZ3 := Lib.hid (hbz.out.below hb23 hsA)
  have hs3 : w.heap.size < w3.heap.size := Nat.lt_of_lt_of_le hsA hb23.size
  clear hb23 hbz HXA HB cA
  obtain ⟨b9', o9, x9, ad9, hb9', hx9, c9⟩ := HX3.out.get (k := 13) (by rw [hl'.out]; omega)
  obtain ⟨rfl, rfl⟩ := RB.same_at rfl ad9
  have hx9' := Lib.hid hx9
  clear hx9 ad9
  have i13 : (13 : Int) < (n : Int) := by omega
  have s1 : (2 : Int) ≤ (n : Int) := by omega
  have s2 : (4 : Int) ≤ (n : Int) := by omega
  have s3 : (8 : Int) ≤ (n : Int) := by omega
  have s4 : (12 : Int) ≤ (n : Int) := by omega
  have s5 : (16 : Int) ≤ (n : Int) := by omega
  have u1 : ¬ n = 2 := by omega
  have u2 : ¬ n = 4 := by omega
  have u3 : ¬ n = 8 := by omega
  have u4 : ¬ n = 14 := by omega
  have wr9 := wrap_byte x9
  have a9 := and63u x9
  have a9' : ((x9.toNat % 64 : Nat) : Int) = (x9.toNat : Int) % 64 := by omega
  have w9' : IntKind.i64.wrap ((x9.toNat % 64 : Nat) : Int) = ((x9.toNat % 64 : Nat) : Int) := IntWalk.i64_in _ (by omega)
  obtain ⟨r9, hr9⟩ : ∃ r9, r9 = x9.toNat % 64 := ⟨_, rfl⟩
  rw [← hr9] at a9 a9' w9'
  have hr9' := Lib.hid hr9
  clear hr9 a9'
  have HG0 : Hid (Calls Tryz.prog 107 #[.slice (some ⟨b9', o9, none⟩) 2 n] w3.drew fun e w' => e = .returned (.int .i64 ((num2 xs 0 2 : Nat) : Int)) ∧ w3.drew = w') := Lib.hid (ofAt xs n hl'.out b9' o9 n w3.drew HX3.out 0 2 (by omega) (by omega) (by omega) _ rfl)
  have HG1 := Lib.hid (ofAt xs n hl'.out b9' o9 (n - 2) w3.drew HX3.out 2 2 (by omega) (by omega) (by omega) _ rfl)
  have HG2 := Lib.hid (ofAt xs n hl'.out b9' o9 (n - 4) w3.drew HX3.out 4 4 (by omega) (by omega) (by omega) _ rfl)
  have HG3 := Lib.hid (ofAt xs n hl'.out b9' o9 (n - 8) w3.drew HX3.out 8 4 (by omega) (by omega) (by omega) _ rfl)
  have HG4 := Lib.hid (ofAt xs n hl'.out b9' o9 (n - 14) w3.drew HX3.out 14 2 (by omega) (by omega) (by omega) _ rfl)
  have KL := Lib.hid (copyN [] 0 rfl (some ⟨b9', o9, none⟩) 0 w3.drew RB.nil (by omega))
  have hne : b9' ≠ w.heap.size := by omega
  have hne' : w.heap.size ≠ b9' := by omega
  go_wp2_with fail
  go_region_held3 (fun w' => w'.cell? ⟨b9', o9 + 13, none⟩ = some (.int .u8 (x9.toNat : Int))) (go_keep)
    (first
      | (go_at_call 107; (with_reducible refine HG0.out.mono ?_); rintro e w' ⟨rfl, rfl⟩)
      | (go_at_call 107; (with_reducible refine HG1.out.mono ?_); rintro e w' ⟨rfl, rfl⟩)
      | (go_at_call 107; (with_reducible refine HG2.out.mono ?_); rintro e w' ⟨rfl, rfl⟩)
      | (go_at_call 107; (with_reducible refine HG3.out.mono ?_); rintro e w' ⟨rfl, rfl⟩)
      | (go_at_call 107; (with_reducible refine HG4.out.mono ?_); rintro e w' ⟨rfl, rfl⟩)
      | (go_at_call 59; (with_reducible refine KL.out.mono ?_); rintro e w4 ⟨A3, c3, rfl, hown3, hb3⟩; obtain ⟨⟨z0, z1, z2, z3, z4, z5, z6⟩, hz⟩ := SgF.below (w := w3.drew) HZ3.out hb3 hs3; have e9 := (cellB hb3 (o := o9 + 13) hb9').trans (show w3.drew.cell? ⟨b9', o9 + 13, none⟩ = _ from c9); have y0 := hz 0; have y1 := hz 1; have y2 := hz 2; have y3 := hz 3; have y4 := hz 4; have y5 := hz 5; have y6 := hz 6; clear hz))
  have hown3' : w4.ownsRow w3.heap.size 5 1 (.slice A3 0 c3) 0 (([] : List UInt8).map bv) := hown3
  obtain ⟨hp4, _, _, _, hb4⟩ := setSg_fin (SgAt.of z0 z1 z2 z3 z4 z5 z6) (.int .i64 ((num2 xs 0 2 : Nat) : Int)) (.int .i64 ((num2 xs 2 2 : Nat) : Int)) (.int .i64 ((num2 xs 4 4 : Nat) : Int)) (.int .i64 ((num2 xs 8 4 : Nat) : Int)) (.int .i64 (r9 : Int)) (.int .i64 ((num2 xs 14 2 : Nat) : Int)) hown3' (own_ne hown3' (Or.inl hs3)) (HB3.out.drew.trans (hb3.mono HB3.out.size)) (Nat.le_refl _) (Nat.lt_of_lt_of_le hs3 hb3.size)
  have hown4 := hown3'.kept (setSg_grown w4 w.heap.size (.int .i64 ((num2 xs 0 2 : Nat) : Int)) (.int .i64 ((num2 xs 2 2 : Nat) : Int)) (.int .i64 ((num2 xs 4 4 : Nat) : Int)) (.int .i64 ((num2 xs 8 4 : Nat) : Int)) (.int .i64 (r9 : Int)) (.int .i64 ((num2 xs 14 2 : Nat) : Int)) (.slice A3 0 c3)) (Or.inr (Ne.symm (own_ne hown3' (Or.inl hs3))))
  clear z0 z1 z2 z3 z4 z5 z6 y0 y1 y2 y3 y4 y5 y6 e9 hown3 hown3' hb3 HG0 HG1 HG2 HG3 HG4 KL
  show Exit.then _ _ _ _ (setSg w4 w.heap.size (.int .i64 ((num2 xs 0 2 : Nat) : Int)) (.int .i64 ((num2 xs 2 2 : Nat) : Int)) (.int .i64 ((num2 xs 4 4 : Nat) : Int)) (.int .i64 ((num2 xs 8 4 : Nat) : Int)) (.int .i64 (r9 : Int)) (.int .i64 ((num2 xs 14 2 : Nat) : Int)) (.slice A3 0 c3))
  generalize setSg w4 w.heap.size (.int .i64 ((num2 xs 0 2 : Nat) : Int)) (.int .i64 ((num2 xs 2 2 : Nat) : Int)) (.int .i64 ((num2 xs 4 4 : Nat) : Int)) (.int .i64 ((num2 xs 8 4 : Nat) : Int)) (.int .i64 (r9 : Int)) (.int .i64 ((num2 xs 14 2 : Nat) : Int)) (.slice A3 0 c3) = w5 at hp4 hown4 hb4 ⊢
  obtain ⟨z0, z1, z2, z3, z4, z5, z6⟩ := hp4
  go_wp2
  refine bodyPost_ret (v := .tuple #[.agg #[.int .i64 ((num2 xs 0 2 : Nat) : Int), .int .i64 ((num2 xs 2 2 : Nat) : Int), .int .i64 ((num2 xs 4 4 : Nat) : Int), .int .i64 ((num2 xs 8 4 : Nat) : Int), .int .i64 (r9 : Int), .int .i64 ((num2 xs 14 2 : Nat) : Int), .slice A3 0 c3], .int .i64 0]) (by simp [results, Tryz.results97, go_sem, z0, z1, z2, z3, z4, z5, z6]) rfl ?_
  have hlen : (xs.drop n).length = 0 := by rw [List.length_drop, hl'.out]; omega
  have hP : sgParsed xs = ⟨(num2 xs 0 2 : Nat), (num2 xs 2 2 : Nat), (num2 xs 4 4 : Nat), (num2 xs 8 4 : Nat), (r9 : Int), (num2 xs 14 2 : Nat), xs.drop n⟩ := by
    unfold sgParsed
    rw [hNx'.out, b8_of hx9'.out, hr9'.out]
  rw [hP]
  refine ⟨A3, c3, ?_, ?_, hb4⟩
  · simp only [hlen]
  · simp only [hlen]
    rw [List.eq_nil_of_length_eq_zero hlen]
    exact own_base hown4 (Nat.le_of_lt hs3)

theorem refParseSeg (src dst : Int) (xs : List UInt8) (n : Nat) (hl : xs.length = n) (A : Option Addr) (c : Nat) (hnc : n ≤ c) (w : World) (hx : RB w w.heap.size A xs) (hn : n ≤ 140737488351232) :
    Calls Tryz.prog 97 #[.int .i64 src, .int .i64 dst, .slice A n c] w (SegParsed w (segOut src dst xs)) := by
  unfold segOut
  rw [hl]
  split
  · rename_i h
    refine refParseSeg_no src dst n c A _ _ rfl rfl ?_ w
    rcases h with h | h <;> rw [h] <;> simp
  · rename_i h
    have h1 : wordB src = true := by cases hh : wordB src; exact absurd (Or.inl hh) h; rfl
    have h2 : wordB dst = true := by cases hh : wordB dst; exact absurd (Or.inr hh) h; rfl
    obtain ⟨h3, h4⟩ := inR_iff.1 h1
    obtain ⟨h5, h6⟩ := inR_iff.1 h2
    obtain ⟨src, rfl⟩ := Int.eq_ofNat_of_zero_le h3
    obtain ⟨dst, rfl⟩ := Int.eq_ofNat_of_zero_le h5
    clear h
    split
    · rename_i h; exact refParseSeg_len src dst (by omega) (by omega) xs n hl A c w hx hn 7 (Or.inl ⟨h, rfl⟩)
    · rename_i h20
      split
      · rename_i h; exact refParseSeg_len src dst (by omega) (by omega) xs n hl A c w hx hn 1 (Or.inr (Or.inl ⟨by omega, h, rfl⟩))
      · rename_i hN
        split
        · rename_i h; exact refParseSeg_len src dst (by omega) (by omega) xs n hl A c w hx hn 7 (Or.inr (Or.inr (Or.inl ⟨by omega, by omega, h, rfl⟩)))
        · rename_i hnN
          split
          · rename_i h; exact refParseSeg_len src dst (by omega) (by omega) xs n hl A c w hx hn 2 (Or.inr (Or.inr (Or.inr ⟨by omega, by omega, by omega, h, rfl⟩)))
          · split
            · rename_i h; exact refParseSeg_sum src dst (by omega) (by omega) xs n hl A c hnc w hx (by omega) (by omega) (by omega) (by omega) h
            · rename_i h
              by_cases hc : c = sgN xs
              · exact refParseSeg_ok0 src dst (by omega) (by omega) xs n hl A c hnc w hx (by omega) (by omega) (by omega) (by omega) (Decidable.not_not.1 h) hc
              · exact refParseSeg_ok src dst (by omega) (by omega) xs n hl A c hnc w hx (by omega) (by omega) (by omega) (by omega) (Decidable.not_not.1 h) hc

end Go.Proofs.YtlacidnnankjlaaGreatDoor

/-
  Memory: a block's cells, rows, whole structs: laws for every program.
-/
namespace Go.Proofs.YtlacidnnankjlaaGreatDoor
open Go.RowKit

theorem RB.grown {w w' : World} {B : Nat} {A : Option Addr} {xs : List UInt8} {row : Option Nat} (h : RB w B A xs) (hg : w.grownBy w' row) (hB : ∀ k, row = some k → B ≤ k) (hs : B ≤ w.heap.size) : RB w' B A xs :=
  h.keep fun p hp => World.cell?_of_block (hg.block _ (by omega) (fun e => by have := hB _ e.symm; omega))
theorem size_setCell' (w : World) (a : Addr) (v : Value) : (w.setCell a v).heap.size = w.heap.size := by simp [World.setCell]
theorem grown_row {w w' : World} (h : w.grownBy w' none) (row : Option Nat) : w.grownBy w' row := ⟨h.os, h.tape, h.output, h.size, fun k hk _ => h.block k hk (by simp)⟩
theorem below_grown {w w' : World} (h : Below w.heap.size w w') (row : Option Nat) : w.grownBy w' row := ⟨h.os, h.tape, h.output, h.size, fun k hk _ => h.block k hk⟩

abbrev nilV : Value := .slice none 0 0

/-- a block's first cells, which may be written. -/
def Cells (w : World) (g : Nat) (l : List Value) : Prop := ∀ j v, l[j]? = some v → w.cell? ⟨g, j, none⟩ = some v ∧ w.frozen? ⟨g, j, none⟩ = false
section
variable {w w' : World} {g : Nat} {l : List Value}
theorem Cells.get (h : Cells w g l) (j : Nat) (v : Value) (hv : l[j]? = some v) : w.cell? ⟨g, j, none⟩ = some v := (h j v hv).1
theorem Cells.fr (h : Cells w g l) (j : Nat) (hv : (l[j]?).isSome = true) : w.frozen? ⟨g, j, none⟩ = false := by
  obtain ⟨v, hv⟩ := Option.isSome_iff_exists.1 hv
  exact (h j v hv).2
theorem Cells.box (w : World) (l : List Value) (T : TypeId) : Cells (w.alloc (.cells l.toArray T)) w.heap.size l := fun j v h =>
  ⟨by rw [World.cell?_alloc_at _ _ _ _ rfl]; simpa using h, World.frozen?_alloc_at _ _ _ j rfl⟩
theorem Cells.kept {row : Option Nat} (h : Cells w g l) (hg : w.grownBy w' row) (hlt : g < w.heap.size) (hne : some g ≠ row) : Cells w' g l := fun j v hv =>
  ⟨(World.cell?_of_block (a := ⟨g, j, none⟩) (hg.block g hlt hne)).trans (h j v hv).1, (World.frozen?_of_block (a := ⟨g, j, none⟩) (hg.block g hlt hne)).trans (h j v hv).2⟩
theorem Cells.below {B : Nat} (h : Cells w g l) (hb : Below B w w') (hg : g < B) : Cells w' g l := fun j v hv => ⟨(cellB hb hg).trans (h j v hv).1, (frozB hb hg).trans (h j v hv).2⟩
theorem Cells.set (h : Cells w g l) (j : Nat) (v : Value) (hj : j < l.length) : Cells (w.setCell ⟨g, j, none⟩ v) g (l.set j v) := by
  intro i u hu
  rw [List.getElem?_set] at hu
  by_cases hi : j = i
  · subst hi
    rw [if_pos rfl] at hu
    have hjl : j < l.length := hj
    simp only [hj, if_true, Option.some.injEq] at hu
    subst hu
    exact ⟨World.cell?_setCell_same _ _ _ (h j _ (List.getElem?_eq_getElem hjl)).1, by simpa using (h j _ (List.getElem?_eq_getElem hjl)).2⟩
  · rw [if_neg hi] at hu
    exact ⟨(World.cell?_setCell_other _ _ _ _ (by simp)).trans (h i u hu).1, by simpa using (h i u hu).2⟩
theorem Cells.alloc (h : Cells w g l) (hlt : g < w.heap.size) (o : Obj) : Cells (w.alloc o) g l := h.kept (World.grownBy_alloc w o none) hlt (by simp)
end

theorem grown_store {w0 w : World} {row : Option Nat} (h : w0.grownBy w row) {a : Addr} (ha : w0.heap.size ≤ a.block) (v : Value) : w0.grownBy (w.setCell a v) row :=
  ⟨h.os, h.tape, h.output, by rw [size_setCell']; exact h.size, fun k hk hne => (Below.heap_setCell w a v k (by omega)).trans (h.block k hk hne)⟩
theorem grown_alloc {w0 w : World} {row : Option Nat} (h : w0.grownBy w row) (o : Obj) : w0.grownBy (w.alloc o) row := h.trans (World.grownBy_alloc w o row)
/-- rows of different kinds do not lie in one block. -/
theorem own_apart {w : World} {b1 b2 : Nat} {e1 e2 : TypeId} {s1 s2 n1 n2 : Nat} {v1 v2 : Value} {x1 x2 : List Value} (h1 : w.ownsRow b1 e1 s1 v1 n1 x1) (h2 : w.ownsRow b2 e2 s2 v2 n2 x2) (he : Nat.beq e1 e2 = false) : v1.ownBlock = none ∨ v1.ownBlock ≠ v2.ownBlock := by
  rcases h1.2 with ⟨rfl, _⟩ | ⟨g1, c1, cur1, rfl, _, hg1, _⟩
  · exact .inl rfl
  · right
    rcases h2.2 with ⟨rfl, _⟩ | ⟨g2, c2, cur2, rfl, _, hg2, _⟩
    · intro h; cases h
    · intro h
      have h : g1 = g2 := by injection h
      subst h
      rw [hg1] at hg2
      injection hg2 with hg2
      injection hg2 with _ h2 _
      subst h2
      rw [Nat.beq_refl] at he
      cases he
/-- append(v, src...), whatever the cells, as one step of a region that draws. -/
theorem step_append_row {P : Program} {ops : Array Oper} {o : Oper} {a : Act} {w : World} {K : Act → World → Prop} {Q : Exit → Act → World → Prop} {E : Prop} (hgd : o.guard = none) (s x : Operand) (t : TypeId)
    (ho : o.op = .call { callee := .builtin .append, args := #[s, x], argTypes := #[t, t] })
    (base : Nat) (e : TypeId) (z : Value) (size bytes : Nat) (ht : P.underlying t = some (.slice e)) (hi : (P.info? e).map (fun i => (i.zero, i.size, i.bytes)) = some (some z, size, bytes)) (hzs : z.cells.size = size) (hsz : 0 < size)
    (v : Value) (n : Nat) (xs : List Value) (hs : a.eval s = v) (hown : w.ownsRow base e size v n xs) (A : Option Addr) (m c : Nat) (ys : List Value) (hx : a.eval x = .slice A m c) (hr : Reads w w.heap.size size A m ys) (h1 : ∀ u ∈ ys, u.oneCell' = true)
    (hn : n + m ≤ maxLen) (hb : (n + m) * bytes ≤ 140737488355328) (hbase : base ≤ w.heap.size)
    (h : ∀ A' c' w', w'.ownsRow base e size (.slice A' (n + m) c') (n + m) (xs ++ ys) → w.grownBy w' v.ownBlock → K (a.put o.dst (.slice A' (n + m) c')) w') :
    if Region.wanted o (yielded ops a.tmps) = true then Oper.wp P o a w K Q else E := by
  have hw : Region.wanted o (yielded ops a.tmps) = true := by simp [Region.wanted, hgd]
  rw [if_pos hw]
  obtain ⟨A', c', w', hrun, h2, h3⟩ := run_append_read (P := P) w base t o.type e z size bytes ht hi hzs hsz v n xs hown w.heap.size A m c ys hr h1 hn hb hbase
  unfold Oper.wp execOp
  simp only [ho, resolve, invoke, builtin, Sem.run_bind, Sem.run_pure, Result.andThen_ok, List.map_toArray, List.map_cons, List.map_nil, hs, hx, hrun]
  exact h _ _ _ h2 h3
/-- a block that was just laid, read whole. -/
theorem Reads.lit (w : World) (e : TypeId) (l : List Value) (fr : Nat × Nat) (size n : Nat) (hl : l.length = n * size) : Reads (w.alloc (.cells l.toArray e fr)) (w.alloc (.cells l.toArray e fr)).heap.size size (some ⟨w.heap.size, 0, none⟩) n l := by
  refine ⟨hl, fun _ => ⟨_, rfl, by simp, fun j u hu => ?_⟩⟩
  have h1 : (w.alloc (.cells l.toArray e fr)).heap[w.heap.size]? = some (.cells l.toArray e fr) := by
    show (w.heap.push (.cells l.toArray e fr))[w.heap.size]? = _
    simp
  have h2 : ((⟨w.heap.size, 0, none⟩ : Addr).add j) = ⟨w.heap.size, j, none⟩ := by
    unfold Addr.add
    by_cases hj : j = 0 <;> simp [hj]
  rw [h2]
  unfold World.cell?
  simp only [h1]
  simpa using hu

abbrev iv (n : Int) : Value := .int .i64 n
abbrev sv (s : ByteArray) : Value := .string s
def wv : List (ByteArray × Int) → List Value
  | [] => []
  | x :: xs => .string x.1 :: .int .i64 x.2 :: wv xs
theorem wv_append (l k : List (ByteArray × Int)) : wv (l ++ k) = wv l ++ wv k := by
  induction l with
  | nil => rfl
  | cons x xs ih => simp [wv, ih]

theorem of_drew_grown {w w' : World} {row : Option Nat} (h : w.drew.grownBy w' row) : w.grownBy w' row := ⟨h.os, h.tape, h.output, h.size, h.block⟩

theorem grown_mix {w0 w w' : World} {row r2 : Option Nat} (h : w0.grownBy w row) (h2 : w.grownBy w' r2) (hr : ∀ k, r2 = some k → w0.heap.size ≤ k) : w0.grownBy w' row :=
  ⟨h2.os.trans h.os, h2.tape.trans h.tape, h2.output.trans h.output, Nat.le_trans h.size h2.size, fun k hk hne => (h2.block k (Nat.lt_of_lt_of_le hk h.size) (fun e => by have := hr k e.symm; omega)).trans (h.block k hk hne)⟩
/-- behind an append to a row from 'base' on: what was written is none of what was there. -/
theorem grown_row_of {w0 w w' : World} {row : Option Nat} {base : Nat} {e : TypeId} {size n : Nat} {v : Value} {xs : List Value} (h : w0.grownBy w row) (hO : w.ownsRow base e size v n xs) (hb : w0.heap.size ≤ base) (o : Obj) (h3 : (w.alloc o).grownBy w' v.ownBlock) : w0.grownBy w' row :=
  grown_mix (grown_alloc h o) h3 fun k hk => Nat.le_trans hb (hO.lt k hk).1
theorem map_iv_snoc (l : List Int) (x : Int) : (l ++ [x]).map iv = l.map iv ++ [iv x] := by simp
theorem map_sv_snoc (l : List ByteArray) (x : ByteArray) : (l ++ [x]).map sv = l.map sv ++ [sv x] := by simp
theorem one_iv (n : Int) : ∀ u ∈ [iv n], u.oneCell' = true := by intro u hu; simp at hu; subst hu; rfl
theorem one_sv (s : ByteArray) : ∀ u ∈ [sv s], u.oneCell' = true := by intro u hu; simp at hu; subst hu; rfl
theorem one_wv (x : ByteArray × Int) : ∀ u ∈ wv [x], u.oneCell' = true := by
  intro u hu
  simp [wv] at hu
  rcases hu with rfl | rfl <;> rfl

theorem Cells.of_heap {w : World} {g : Nat} {l : List Value} {T : TypeId} (h : w.heap[g]? = some (.cells l.toArray T (0, 0))) : Cells w g l := fun j v hv =>
  ⟨by rw [cell_of_row w g j _ _ _ h]; simpa using hv, frozen_of_row w g j _ _ h⟩
theorem Cells.range {w : World} {g : Nat} {l : List Value} (h : Cells w g l) : w.rangeAt g 0 l := fun j v hv => by
  rw [Nat.zero_add]
  exact (h j v hv).1
theorem Cells.there {w : World} {g : Nat} {l : List Value} (h : Cells w g l) : w.there g 0 l.length := fun j hj => by
  rw [Nat.zero_add]
  obtain ⟨a, b⟩ := h j _ (List.getElem?_eq_getElem hj)
  exact ⟨by rw [a]; rfl, b⟩
theorem setCells_only (g : Nat) : ∀ (vs : List Value) (o : Nat) (w : World), Only g w (w.setCells g o vs) ∧ w.grownBy (w.setCells g o vs) (some g)
  | [], _, w => ⟨Only.refl g w, World.grownBy.refl w _⟩
  | v :: vs, o, w => by
    obtain ⟨a, b⟩ := setCells_only g vs (o + 1) (w.setCell ⟨g, o, none⟩ v)
    exact ⟨((Only.refl g w).set o v).trans a, (grown_setCell w g o v).trans b⟩
theorem there_frozen {w : World} {g n : Nat} (vs : List Value) (h : w.there g 0 n) : (w.setCells g 0 vs).there g 0 n := World.there_setCells h g 0 vs

section
variable {P : Program} {ops : Array Oper} {rest : List Oper} {o : Oper} {a : Act} {w : World} {Q : Exit → Act → World → Prop}
/-- 'new': the block of a struct's zero value. -/
theorem wpList_alloc_cells (hgd : o.guard = none) (T : TypeId) (ho : o.op = .alloc T) (l : List Value) (hz : ∀ w, (zeroValue T).run P w = .ok (.agg l.toArray) w)
    (H : Nat) (hH : w.heap.size = H) (h : ∀ w', Below H w w' → w'.heap.size = H + 1 → Cells w' H l → wpList P ops Q rest (a.put o.dst (.pointer (some ⟨H, 0, none⟩))) w') :
    wpList P ops Q (o :: rest) a w := by
  subst hH
  refine Great.wpList_runTo hgd o.dst rfl _ (w.alloc (.cells l.toArray T)) ?_ (h _ (balloc w _) (by simp) (Cells.of_heap (heap_alloc_new w _)))
  unfold execOp
  simp only [ho]
  simp [Instr.alloc, hz, Sem.run_bind, Result.andThen, newVar, newRow, Value.cells, newObj]
  rfl
/-- a parameter's box. -/
theorem wpList_box_cells (hgd : o.guard = none) (T : TypeId) (x : Operand) (ho : o.op = .box T x) (l : List Value) (hx : a.eval x = .agg l.toArray)
    (H : Nat) (hH : w.heap.size = H) (h : ∀ w', Below H w w' → w'.heap.size = H + 1 → Cells w' H l → wpList P ops Q rest (a.put o.dst (.pointer (some ⟨H, 0, none⟩))) w') :
    wpList P ops Q (o :: rest) a w := by
  subst hH
  refine Great.wpList_runTo hgd o.dst rfl _ (w.alloc (.cells l.toArray T)) ?_ (h _ (balloc w _) (by simp) (Cells.of_heap (heap_alloc_new w _)))
  unfold execOp
  simp only [ho]
  simp [Instr.box, hx, Result.andThen, newVar, newRow, Value.cells, newObj]
  rfl
/-- a struct is stored whole. -/
theorem wpList_store_cells (hgd : o.guard = none) (T : TypeId) (x y : Operand) (ho : o.op = .store T x y) (g : Nat) (hx : a.eval x = .pointer (some ⟨g, 0, none⟩)) (l : List Value) (hy : a.eval y = .agg l.toArray)
    {l0 : List Value} (hC : Cells w g l0) (n : Nat) (hi : (P.info? T).map (·.size) = some n) (hl0 : l0.length = n) (hl1 : l.length = n) (h1 : l.all (·.oneCell') = true)
    (h : ∀ w', w.grownBy w' (some g) → w'.heap.size = w.heap.size → Cells w' g l → wpList P ops Q rest (a.put o.dst undef) w') :
    wpList P ops Q (o :: rest) a w := by
  have ht := hC.there
  rw [hl0, ← hl1] at ht
  rw [← hl1] at hi
  refine wpList_store_mid hgd T x y ho g 0 l.toArray hx hy (by simpa using ht) (by simpa using hi) (all_oneCell_toArray fun v hv => List.all_eq_true.1 h1 v hv) ?_
  obtain ⟨hO, hG⟩ := setCells_only g l 0 w
  refine h _ hG hO.size ?_
  intro j v hv
  have hj : j < l.length := (List.getElem?_eq_some_iff.1 hv).1
  have hr := World.rangeAt_setCells_same w g 0 l ht j v hv
  rw [Nat.zero_add] at hr
  have hf := (there_frozen l ht j hj).2
  rw [Nat.zero_add] at hf
  exact ⟨hr, hf⟩
/-- a struct is read whole. -/
theorem wpList_load_cells (hgd : o.guard = none) (T : TypeId) (x : Operand) (ho : o.op = .load T x) (g : Nat) (hx : a.eval x = .pointer (some ⟨g, 0, none⟩)) {l : List Value} (hC : Cells w g l) (d : TypeDesc)
    (hu : P.underlying T = some d) (hd : d.isRow = true) (n : Nat) (hi : (P.info? T).map (·.size) = some n) (hl : l.length = n) (h : wpList P ops Q rest (a.put o.dst (.agg l.toArray)) w) : wpList P ops Q (o :: rest) a w :=
  wpList_load_mid hgd T x ho g 0 hx l d hC.range hu hd (by rw [hl]; exact hi) h
/-- a struct is the result. -/
theorem results_cells {fn : Func} {p : Tmp} {T : TypeId} (h : fn.results = #[.cell p T]) (tmps : Array Value) {w : World} {g : Nat} {l : List Value} (d : TypeDesc) (hp : tmps.getD p undef = .pointer (some ⟨g, 0, none⟩)) (hC : Cells w g l)
    (hu : P.underlying T = some d) (hd : d.isRow = true) (n : Nat) (hi : (P.info? T).map (·.size) = some n) (hl : l.length = n) : (results fn tmps).run P w = .ok (.agg l.toArray) w := by
  rw [← hl] at hi
  have hp' : tmps[p]?.getD undef = .pointer (some ⟨g, 0, none⟩) := by simpa using hp
  simp [results, h, hp', asAddr, run_loadVar_mid w g 0 T l d hC.range hu hd hi]
end

theorem Reads.get1 {w : World} {B n k : Nat} {A : Option Addr} {xs : List Value} (h : Reads w B 1 A n xs) (hk : k < n) : ∃ b o v, A = some ⟨b, o, none⟩ ∧ b < B ∧ xs[k]? = some v ∧ w.cell? ⟨b, o + k, none⟩ = some v := by
  obtain ⟨ad, hA, hb, hc⟩ := h.2 (by omega)
  have hl : k < xs.length := by have := h.1; omega
  have h0 := hc 0 _ (List.getElem?_eq_getElem (by omega))
  obtain ⟨b, o, spot⟩ := ad
  have hspot : spot = none := by
    have := World.cell?_spot h0
    simpa [Addr.add] using this
  subst hspot
  refine ⟨b, o, xs[k], hA, hb, List.getElem?_eq_getElem hl, ?_⟩
  have := hc k _ (List.getElem?_eq_getElem hl)
  rw [Addr.add_mid] at this
  exact this
theorem Reads.get2 {w : World} {B n k : Nat} {A : Option Addr} {xs : List Value} (h : Reads w B 2 A n xs) (hk : k < n) : ∃ b o, A = some ⟨b, o, none⟩ ∧ b < B ∧ ∀ j v, j < 2 → xs[k * 2 + j]? = some v → w.cell? ⟨b, o + k * 2 + j, none⟩ = some v := by
  obtain ⟨ad, hA, hb, hc⟩ := h.2 (by omega)
  have hl : 0 < xs.length := by have := h.1; omega
  have h0 := hc 0 _ (List.getElem?_eq_getElem hl)
  obtain ⟨b, o, spot⟩ := ad
  have hspot : spot = none := by
    have := World.cell?_spot h0
    simpa [Addr.add] using this
  subst hspot
  refine ⟨b, o, hA, hb, fun j v hj hv => ?_⟩
  have := hc (k * 2 + j) _ hv
  rw [Addr.add_mid, ← Nat.add_assoc] at this
  exact this
theorem rangeB {w w' : World} {B b o : Nat} {l : List Value} (h : w.rangeAt b o l) (hb : Below B w w') (hlt : b < B) : w'.rangeAt b o l := fun j v hv => (cellB hb hlt).trans (h j v hv)
end Go.Proofs.YtlacidnnankjlaaGreatDoor

/-
  One operation of a plain region; guards.
-/
namespace Go.Proofs.YtlacidnnankjlaaGreatDoor
open Go.RowKit

section
variable {P : Program} {ops : Array Oper} {rest : List Oper} {o : Oper} {a : Act} {w : World} {Q : Exit → Act → World → Prop}
theorem wpList_go (hw : Region.wanted o (yielded ops a.tmps) = true) (d : Nat) (hd : o.dst = some d) (v : Value) (w' : World) (hrun : (execOp a.eval o).run P w = .ok (.value v) w')
    (h : wpList P ops Q rest (a.put (some d) v) w') : wpList P ops Q (o :: rest) a w := by
  unfold wpList
  rw [if_pos hw]
  left
  unfold Oper.wp
  rw [hrun, Oper.upon_value, hd]
  exact h
theorem wpList_off (hw : Region.wanted o (yielded ops a.tmps) = false) (d : Nat) (hd : o.dst = some d) (h : wpList P ops Q rest (a.put (some d) undef) w) : wpList P ops Q (o :: rest) a w := by
  refine wpList_skip hw ?_
  rw [hd]
  exact h
theorem wpList_enter (hw : Region.wanted o (yielded ops a.tmps) = true) (d : Nat) (hd : o.dst = some d) (f : FuncId) (args : Array Value) (hrun : (execOp a.eval o).run P w = .ok (.enter f args) w)
    (R : Value → World → Prop) (hc : Calls P f args w fun e w' => ∃ v, e = .returned v ∧ R v w') (h : ∀ v w', R v w' → wpList P ops Q rest (a.put (some d) v) w') : wpList P ops Q (o :: rest) a w := by
  unfold wpList
  rw [if_pos hw]
  left
  unfold Oper.wp
  rw [hrun, Oper.upon_enter]
  refine hc.mono ?_
  rintro e w' ⟨v, rfl, hR⟩
  rw [hd]
  exact h v w' hR
end
theorem wanted_none {o : Oper} (h : o.guard = none) (y : Nat → Option Bool) : Region.wanted o y = true := by simp [Region.wanted, h]
theorem wanted_of {o : Oper} {j : Nat} (h : o.guard = some (j, true)) {y : Nat → Option Bool} {b : Bool} (hy : y j = some b) : Region.wanted o y = b := by
  simp only [Region.wanted, h, hy]
  cases b <;> rfl
theorem eval_lt {a : Act} {t : Nat} {b : Bool} (h : a.eval (.tmp t) = .bool b) : a.tmps[t]? = some (.bool b) := by
  simp only [Act.eval, Array.getD_eq_getD_getElem?] at h
  cases e : a.tmps[t]? with
  | none => rw [e] at h; cases h
  | some v => rw [e] at h; simpa using h
theorem yielded_of {ops : Array Oper} {a : Act} {j d : Nat} {b : Bool} (hj : (ops[j]?).bind (·.dst) = some d) (h : a.eval (.tmp d) = .bool b) : yielded ops a.tmps j = some b := by
  simp [yielded, hj, eval_lt h]

end Go.Proofs.YtlacidnnankjlaaGreatDoor

/-
  A region that draws its order, walked by an invariant: whatever may come up keeps it; no order is gone through by itself.
-/
namespace Go.Proofs.YtlacidnnankjlaaGreatDoor
open Go.RowKit

section
variable {P : Program} {md : Region.Mode} {ops : Array Oper} {Q : Exit → Act → World → Prop}
theorem all_listed (hback : ∀ (i : Nat) (o : Oper), ops[i]? = some o → ∀ e ∈ o.after, Region.binds md e = true → e.on < i) {listed : Array Bool} (hs : listed.size = ops.size) (h : Region.ready md ops listed = []) :
    ∀ i, i < ops.size → listed.getD i false = true := by
  intro i
  induction i using Nat.strongRecOn with
  | ind i ih =>
    intro hi
    rcases hb : listed.getD i false with _ | _
    · exfalso
      have hm : i ∈ Region.ready md ops listed := by
        refine mem_ready.2 ⟨?_, ops[i], Array.getElem?_eq_getElem hi, fun e he hbd => ?_⟩
        · have hi' : i < listed.size := by omega
          simp only [Array.getD_eq_getD_getElem?, Array.getElem?_eq_getElem hi', Option.getD_some] at hb ⊢
          exact hb
        · have := hback i ops[i] (Array.getElem?_eq_getElem hi) e he hbd
          exact ih e.on this (by omega)
      rw [h] at hm
      cases hm
    · rfl
theorem count_set (l : List Bool) : ∀ i, l[i]? = some false → (l.set i true).count false + 1 = l.count false := by
  induction l with
  | nil => intro i h; simp at h
  | cons x l ih =>
    intro i h
    cases i with
    | zero =>
      have hx : x = false := by simpa using h
      subst hx
      simp
    | succ i =>
      have := ih i (by simpa using h)
      cases x <;> simp <;> omega

theorem wpOp_go {K : Act → World → Prop} {a : Act} {w : World} {i : Nat} {o : Oper} (hi : ops[i]? = some o) (hw : Region.wanted o (yielded ops a.tmps) = true) (d : Nat) (hd : o.dst = some d) (v : Value) (w' : World) (hrun : (execOp a.eval o).run P w = .ok (.value v) w')
    (h : K (a.put (some d) v) w') : wpOp P ops Q i K a w := by
  simp only [wpOp, hi]
  rw [if_pos hw]
  left
  unfold Oper.wp
  rw [hrun, Oper.upon_value, hd]
  exact h
theorem wpOp_do {K : Act → World → Prop} {a : Act} {w : World} {i : Nat} {o : Oper} (hi : ops[i]? = some o) (hw : Region.wanted o (yielded ops a.tmps) = true) (hd : o.dst = none) (w' : World) (hrun : (execOp a.eval o).run P w = .ok .skip w')
    (h : K a w') : wpOp P ops Q i K a w := by
  simp only [wpOp, hi]
  rw [if_pos hw]
  left
  unfold Oper.wp
  rw [hrun, Oper.upon_skip, hd]
  exact h
theorem wpOp_off {K : Act → World → Prop} {a : Act} {w : World} {i : Nat} {o : Oper} (hi : ops[i]? = some o) (hw : Region.wanted o (yielded ops a.tmps) = false) (h : K (a.put o.dst undef) w) : wpOp P ops Q i K a w := by
  simp only [wpOp, hi]
  rw [if_neg (by rw [hw]; decide)]
  exact h
theorem wpOp_enter {K : Act → World → Prop} {a : Act} {w : World} {i : Nat} {o : Oper} (hi : ops[i]? = some o) (hw : Region.wanted o (yielded ops a.tmps) = true) (d : Nat) (hd : o.dst = some d) (f : FuncId) (args : Array Value)
    (hrun : (execOp a.eval o).run P w = .ok (.enter f args) w) (R : Value → World → Prop) (hc : Calls P f args w fun e w' => ∃ v, e = .returned v ∧ R v w') (h : ∀ v w', R v w' → K (a.put (some d) v) w') : wpOp P ops Q i K a w := by
  simp only [wpOp, hi]
  rw [if_pos hw]
  left
  unfold Oper.wp
  rw [hrun, Oper.upon_enter]
  refine hc.mono ?_
  rintro e w' ⟨v, rfl, hR⟩
  rw [hd]
  exact h v w' hR
end

/-- what is known in the middle of a region that draws: slots that it leaves alone (fixed), and what each operation that has come up has put into its slot (vals: operation, slot, value). -/
structure Inv (n : Nat) (fixed : List (Nat × Value)) (vals : List (Nat × Nat × Value)) (Wp : World → Prop) (listed : Array Bool) (a : Act) (w : World) : Prop where
  sz : a.tmps.size = n
  df : a.defers = []
  fx : ∀ f ∈ fixed, a.eval (.tmp f.1) = f.2
  vs : ∀ t ∈ vals, listed.getD t.1 false = true → a.eval (.tmp t.2.1) = t.2.2
  wp : Wp w
/-- a table that fits: slots in the frame, each written once, none of the fixed ones. -/
def fits (n : Nat) (fixed : List (Nat × Value)) (vals : List (Nat × Nat × Value)) : Bool :=
  vals.all (fun t => decide (t.2.1 < n) && fixed.all (fun f => f.1 != t.2.1)) && (vals.map (·.2.1)).Nodup && (vals.map (·.1)).Nodup
theorem getD_set {listed : Array Bool} {i j : Nat} (h : (listed.setIfInBounds i true).getD j false = true) : j = i ∨ listed.getD j false = true := by
  by_cases e : i = j
  · exact .inl e.symm
  · rw [getD_set_ne false e] at h
    exact .inr h
theorem nodup_eq {α : Type} {f : α → Nat} : ∀ {l : List α}, (l.map f).Nodup → ∀ x ∈ l, ∀ y ∈ l, f x = f y → x = y
  | [], _, _, h, _, _, _ => by cases h
  | z :: l, hn, x, hx, y, hy, e => by
    rw [List.map_cons, List.nodup_cons] at hn
    rcases List.mem_cons.1 hx with hx1 | hx1
    · rcases List.mem_cons.1 hy with hy1 | hy1
      · rw [hx1, hy1]
      · exact absurd (show f z ∈ l.map f by rw [← hx1, e]; exact List.mem_map_of_mem hy1) hn.1
    · rcases List.mem_cons.1 hy with hy1 | hy1
      · exact absurd (show f z ∈ l.map f by rw [← hy1, ← e]; exact List.mem_map_of_mem hx1) hn.1
      · exact nodup_eq hn.2 x hx1 y hy1 e
theorem Inv.put {n : Nat} {fixed : List (Nat × Value)} {vals : List (Nat × Nat × Value)} {Wp : World → Prop} {listed : Array Bool} {a : Act} {w w' : World} (h : Inv n fixed vals Wp listed a w) (hf : fits n fixed vals = true)
    (i d : Nat) (v : Value) (ht : (i, d, v) ∈ vals) (hw : Wp w') : Inv n fixed vals Wp (listed.setIfInBounds i true) (a.put (some d) v) w' := by
  simp only [fits, Bool.and_eq_true, List.all_eq_true, decide_eq_true_eq, bne_iff_ne] at hf
  obtain ⟨⟨hf, hn⟩, hm⟩ := hf
  refine ⟨by rw [Act.size_put, h.sz], by rw [Act.defers_put', h.df], fun f hff => ?_, fun t htt hl => ?_, hw⟩
  · rw [Act.eval_put_ne _ _ _ _ (Ne.symm ((hf _ ht).2 f hff))]
    exact h.fx f hff
  · by_cases e : d = t.2.1
    · have : t = (i, d, v) := nodup_eq hn t htt _ ht e.symm
      subst this
      exact Act.eval_put_same _ _ _ (by rw [h.sz]; exact (hf _ ht).1)
    · rw [Act.eval_put_ne _ _ _ _ e]
      rcases getD_set hl with e2 | hl
      · exact absurd (congrArg (·.2.1) (nodup_eq hm t htt _ ht e2)).symm e
      · exact h.vs t htt hl
theorem pick_op {l : List Oper} {i : Nat} {o p : Oper} (h : l.toArray[i]? = some o) (hp : l[i]? = some p) : p = o := by
  rw [List.getElem?_toArray, hp] at h
  exact Option.some.inj h
theorem ma {α : Type} {l : List α} (i : Nat) {t : α} (h : l[i]? = some t) : t ∈ l := List.mem_of_getElem? h
end Go.Proofs.YtlacidnnankjlaaGreatDoor

/-
  'return o, f(p)' in a region that draws: the result's struct read and stored as it is, and a call.
-/
namespace Go.Proofs.YtlacidnnankjlaaGreatDoor
open Go.RowKit

/-- two structs' blocks above B, below which all is as in W. -/
structure Two (W : World) (B g1 g2 : Nat) (L1 L2 : List Value) (w : World) : Prop where
  c1 : Cells w g1 L1
  c2 : Cells w g2 L2
  lt1 : g1 < w.heap.size
  lt2 : g2 < w.heap.size
  ne : g1 ≠ g2
  b1 : B ≤ g1
  b2 : B ≤ g2
  bel : Below B W w
theorem Two.call {W w w' : World} {B g1 g2 : Nat} {L1 L2 : List Value} (h : Two W B g1 g2 L1 L2 w) (hb : Below w.heap.size w w') : Two W B g1 g2 L1 L2 w' :=
  ⟨h.c1.below hb h.lt1, h.c2.below hb h.lt2, Nat.lt_of_lt_of_le h.lt1 hb.size, Nat.lt_of_lt_of_le h.lt2 hb.size, h.ne, h.b1, h.b2, h.bel.trans (hb.mono (Nat.le_of_lt (Nat.lt_of_le_of_lt h.b1 h.lt1)))⟩
theorem Two.drew {W w : World} {B g1 g2 : Nat} {L1 L2 : List Value} (h : Two W B g1 g2 L1 L2 w) : Two W B g1 g2 L1 L2 w.drew := h.call (Below.drew (Below.refl _ _))
theorem Two.store {W w w' : World} {B g1 g2 : Nat} {L1 L2 L : List Value} (h : Two W B g1 g2 L1 L2 w) (hg : w.grownBy w' (some g2)) (hs : w'.heap.size = w.heap.size) (hC : Cells w' g2 L) : Two W B g1 g2 L1 L w' :=
  ⟨h.c1.kept hg h.lt1 (fun e => h.ne (by injection e)), hC, by rw [hs]; exact h.lt1, by rw [hs]; exact h.lt2, h.ne, h.b1, h.b2,
    h.bel.grown hg (Nat.le_of_lt (Nat.lt_of_le_of_lt h.b1 h.lt1)) (fun k hk => by injection hk with hk; rw [← hk]; exact h.b2)⟩

section
variable {P : Program} {ops : Array Oper} {Q : Exit → Act → World → Prop} {K : Act → World → Prop} {a : Act} {w : World} {i : Nat} {o : Oper}
end

theorem none_ran (k i : Nat) : (Array.replicate k false).getD i false = false := by
  rw [Array.getD_eq_getD_getElem?, Array.getElem?_replicate]
  split <;> rfl
end Go.Proofs.YtlacidnnankjlaaGreatDoor

/-
  'o.f, o.g = p.f, p.g' in a region that draws: fields of one struct stored into another one's.
-/
namespace Go.Proofs.YtlacidnnankjlaaGreatDoor
open Go.RowKit

theorem edge_of {f : Array Edge} {j : Nat} (h : f.toList.any (fun e => Region.binds .any e && e.on == j) = true) : ∃ e ∈ f, Region.binds .any e = true ∧ e.on = j := by
  obtain ⟨e, he, h⟩ := List.any_eq_true.1 h
  simp only [Bool.and_eq_true, beq_iff_eq] at h
  exact ⟨e, by simpa using he, h.1, h.2⟩

theorem back_of {ops : Array Oper} (h : (List.range ops.size).all (fun i => match ops[i]? with | some o => o.after.all (fun e => !Region.binds .any e || decide (e.on < i)) | none => true) = true) :
    ∀ (i : Nat) (o : Oper), ops[i]? = some o → ∀ e ∈ o.after, Region.binds .any e = true → e.on < i := by
  intro i o ho e he hb
  have hi : i < ops.size := (Array.getElem?_eq_some_iff.1 ho).1
  have := List.all_eq_true.1 h i (List.mem_range.2 hi)
  rw [ho] at this
  simpa [hb] using Array.all_eq_true'.1 this e he
theorem wantedf_of {o : Oper} {j : Nat} (h : o.guard = some (j, false)) {y : Nat → Option Bool} {b : Bool} (hy : y j = some b) : Region.wanted o y = !b := by
  simp only [Region.wanted, h, hy]
  cases b <;> rfl
theorem ran_ne (listed : Array Bool) {i k : Nat} (h : i ≠ k) : (listed.setIfInBounds i true).getD k false = listed.getD k false := getD_set_ne false h
theorem ran_same (listed : Array Bool) {i : Nat} (h : i < listed.size) : (listed.setIfInBounds i true).getD i false = true := by
  simp [h]
theorem Two.set {W w : World} {B g1 g2 : Nat} {L1 L2 : List Value} (h : Two W B g1 g2 L1 L2 w) (j : Nat) (v : Value) (hj : j < L2.length) : Two W B g1 g2 L1 (L2.set j v) (w.setCell ⟨g2, j, none⟩ v) :=
  h.store (grown_setCell w g2 j v) (size_setCell' _ _ _) (h.c2.set j v hj)
end Go.Proofs.YtlacidnnankjlaaGreatDoor

/-
  Walking with a frame that is a letter, of which a list of slots is known: laws for each operation; no frame is ever written out.
-/
namespace Go.Proofs.YtlacidnnankjlaaGreatDoor
open Go.RowKit

theorem gz {o : Oper} {y : Nat → Option Bool} (h : o.guard = none := by rfl) : Region.wanted o y = true := wanted_none h y
theorem nt {P : Program} {ops : Array Oper} {next : Act → World → Prop} {Q : Exit → Act → World → Prop} {a : Act} {w : World} (h : next a w) : wpList P ops (Exit.then next Q) [] a w := wpList_nil h
/-- a slot's value in a list, the newest first. -/
def look : List (Nat × Value) → Nat → Option Value
  | [], _ => none
  | (j, v) :: l, k => bif Nat.beq j k then some v else look l k
/-- an operand's value. -/
def evL (l : List (Nat × Value)) : Operand → Option Value
  | .tmp t => look l t
  | .const v => some v
  | .global g => some (.pointer (some ⟨g, 0, none⟩))
  | .func f => some (.func (.func f) #[] #[])
def evLs (l : List (Nat × Value)) : List Operand → Option (List Value)
  | [] => some []
  | x :: xs => match evL l x, evLs l xs with
    | some v, some vs => some (v :: vs)
    | _, _ => none
structure Has (a : Act) (n : Nat) (l : List (Nat × Value)) : Prop where
  sz : a.tmps.size = n
  df : a.defers = []
  at_ : ∀ k v, look l k = some v → a.eval (.tmp k) = v
def AllEv (a : Act) : List (Nat × Value) → Prop
  | [] => True
  | p :: l => a.eval (.tmp p.1) = p.2 ∧ AllEv a l
def KeepEv (l : List (Nat × Value)) : List (Nat × Value) → Prop
  | [] => True
  | p :: l' => look l p.1 = some p.2 ∧ KeepEv l l'

section
variable {a : Act} {n : Nat} {l : List (Nat × Value)}
theorem Has.of (hz : a.tmps.size = n) (hd : a.defers = []) (h : AllEv a l) : Has a n l := by
  refine ⟨hz, hd, ?_⟩
  induction l with
  | nil => intro k v e; cases e
  | cons p l ih =>
    obtain ⟨j, u⟩ := p
    intro k v e
    simp only [look] at e
    cases hb : Nat.beq j k with
    | true =>
      rw [hb, cond_true] at e
      injection e with e
      have := Nat.eq_of_beq_eq_true hb
      subst this; subst e
      exact h.1
    | false =>
      rw [hb, cond_false] at e
      exact ih h.2 k v e
theorem Has.keep {l' : List (Nat × Value)} (h : Has a n l) (hk : KeepEv l l') : Has a n l' := by
  refine Has.of h.sz h.df ?_
  induction l' with
  | nil => trivial
  | cons p l' ih => exact ⟨h.at_ _ _ hk.1, ih hk.2⟩
theorem Has.ev (h : Has a n l) {x : Operand} {v : Value} (hx : evL l x = some v) : a.eval x = v := by
  cases x with
  | tmp t => exact h.at_ t v hx
  | const u => injection hx
  | global g => injection hx
  | func f => injection hx
theorem Has.evs (h : Has a n l) : ∀ {xs : List Operand} {vs : List Value}, evLs l xs = some vs → xs.map a.eval = vs
  | [], vs, hx => by
    cases hx
    rfl
  | x :: xs, vs, hx => by
    unfold evLs at hx
    split at hx
    · next v vs' h1 h2 =>
      injection hx with hx
      rw [List.map_cons, h.ev h1, h.evs h2, hx]
    · cases hx
theorem Has.put (h : Has a n l) {d : Nat} (hd : Nat.blt d n = true) (v : Value) : Has (a.put (some d) v) n ((d, v) :: l) := by
  refine ⟨by rw [Act.size_put, h.sz], by rw [Act.defers_put', h.df], fun k u e => ?_⟩
  simp only [look] at e
  cases hb : Nat.beq d k with
  | true =>
    rw [hb, cond_true] at e
    injection e with e
    have := Nat.eq_of_beq_eq_true hb
    subst this; subst e
    exact Act.eval_put_same _ _ _ (by rw [h.sz]; simpa [Nat.blt_eq] using hd)
  | false =>
    rw [hb, cond_false] at e
    rw [Act.eval_put_ne _ _ _ _ (by intro e2; subst e2; rw [Nat.beq_refl] at hb; cases hb)]
    exact h.at_ k u e
/-- the frame becomes a letter. -/
theorem Has.start {P : Program} {c : Code} {Q : Exit → Act → World → Prop} {w : World} (n : Nat) (l : List (Nat × Value)) (hz : a.tmps.size = n) (hd : a.defers = []) (h : AllEv a l) (k : ∀ a, Has a n l → c.wp P Q a w) : c.wp P Q a w :=
  k a (Has.of hz hd h)
end
theorem then_normal {next : Act → World → Prop} {Q : Exit → Act → World → Prop} {a : Act} {w : World} (h : next a w) : Exit.then next Q .normal a w := h

section
variable {P : Program} {ops : Array Oper} {rest : List Oper} {o : Oper} {a : Act} {w : World} {Q : Exit → Act → World → Prop} {n : Nat} {l : List (Nat × Value)}
theorem Has.go (H : Has a n l) (hw : Region.wanted o (yielded ops a.tmps) = true) {d : Nat} (hd : o.dst = some d) (hn : Nat.blt d n = true) (v : Value) {w' : World} (hrun : (execOp a.eval o).run P w = .ok (.value v) w')
    (h : ∀ a', Has a' n ((d, v) :: l) → wpList P ops Q rest a' w') : wpList P ops Q (o :: rest) a w :=
  wpList_go hw d hd v w' hrun (h _ (H.put hn v))
theorem Has.run0 (H : Has a n l) (hw : Region.wanted o (yielded ops a.tmps) = true) (hd : o.dst = none) {w' : World} (hrun : (execOp a.eval o).run P w = .ok .skip w')
    (h : ∀ a', Has a' n l → wpList P ops Q rest a' w') : wpList P ops Q (o :: rest) a w := by
  unfold wpList
  rw [if_pos hw]
  left
  unfold Oper.wp
  rw [hrun, Oper.upon_skip, hd]
  exact h a H
/-- a guarded operation is wanted, or not. -/
theorem Has.wt (H : Has a n l) {j d : Nat} {b : Bool} (hg : o.guard = some (j, b)) (hj : (ops[j]?).bind (·.dst) = some d) (hv : look l d = some (.bool b)) : Region.wanted o (yielded ops a.tmps) = true := by
  have hy := yielded_of hj (H.at_ d _ hv)
  cases b with
  | true => exact wanted_of hg hy
  | false => rw [wantedf_of hg hy]; rfl
theorem Has.wf (H : Has a n l) {j d : Nat} {b : Bool} (hg : o.guard = some (j, b)) (hj : (ops[j]?).bind (·.dst) = some d) (hv : look l d = some (.bool !b)) : Region.wanted o (yielded ops a.tmps) = false := by
  have hy := yielded_of hj (H.at_ d _ hv)
  cases b with
  | true => exact wanted_of hg hy
  | false => rw [wantedf_of hg hy]; rfl
theorem Has.off (H : Has a n l) {j d k : Nat} {b : Bool} (hg : o.guard = some (j, b)) (hj : (ops[j]?).bind (·.dst) = some d) (hv : look l d = some (.bool !b)) (hd : o.dst = some k) (hn : Nat.blt k n = true)
    (h : ∀ a', Has a' n ((k, undef) :: l) → wpList P ops Q rest a' w) : wpList P ops Q (o :: rest) a w :=
  wpList_off (Has.wf H hg hj hv) k hd (h _ (H.put hn undef))

theorem Has.load (H : Has a n l) (hw : Region.wanted o (yielded ops a.tmps) = true) {T d : Nat} {x : Operand} {p v : Value} (ho : o.op = .load T x) (hd : o.dst = some d) (hn : Nat.blt d n = true) (hx : evL l x = some p) (hl : (Instr.loadAt T p).run P w = .ok v w)
    (h : ∀ a', Has a' n ((d, v) :: l) → wpList P ops Q rest a' w) : wpList P ops Q (o :: rest) a w := by
  refine H.go hw hd hn _ ?_ h
  unfold execOp
  simp only [ho, H.ev hx, Sem.run_bind, hl, Result.andThen_ok, Sem.run_pure]
theorem Has.store (H : Has a n l) (hw : Region.wanted o (yielded ops a.tmps) = true) {T : Nat} {x y : Operand} {p v : Value} {w' : World} (ho : o.op = .store T x y) (hd : o.dst = none) (hx : evL l x = some p) (hy : evL l y = some v) (hl : (Instr.storeAt T p v).run P w = .ok () w')
    (h : ∀ a', Has a' n l → wpList P ops Q rest a' w') : wpList P ops Q (o :: rest) a w := by
  refine H.run0 hw hd (w' := w') ?_ h
  unfold execOp
  simp only [ho, H.ev hx, H.ev hy, Sem.run_bind, hl, Result.andThen_ok, Sem.run_pure]
theorem Has.loadS (H : Has a n l) (hgd : o.guard = none) {T d g : Nat} {x : Operand} {L : List Value} (ho : o.op = .load T x) (hd : o.dst = some d) (hn : Nat.blt d n = true) (hx : evL l x = some (.pointer (some ⟨g, 0, none⟩))) (hC : Cells w g L) {du : TypeDesc}
    (hu : P.underlying T = some du) (hr : du.isRow = true) {m : Nat} (hi : (P.info? T).map (·.size) = some m) (hl : L.length = m) (h : ∀ a', Has a' n ((d, .agg L.toArray) :: l) → wpList P ops Q rest a' w) : wpList P ops Q (o :: rest) a w :=
  wpList_load_cells hgd T x ho g (H.ev hx) hC du hu hr m hi hl (by rw [hd]; exact h _ (H.put hn _))
theorem Has.storeS (H : Has a n l) (hgd : o.guard = none) {T g : Nat} {x y : Operand} {L L0 : List Value} (ho : o.op = .store T x y) (hd : o.dst = none) (hx : evL l x = some (.pointer (some ⟨g, 0, none⟩))) (hy : evL l y = some (.agg L.toArray)) (hC : Cells w g L0)
    {m : Nat} (hi : (P.info? T).map (·.size) = some m) (hl0 : L0.length = m) (hl1 : L.length = m) (h1 : L.all (·.oneCell') = true)
    (h : ∀ a' w', Has a' n l → w.grownBy w' (some g) → w'.heap.size = w.heap.size → Cells w' g L → wpList P ops Q rest a' w') : wpList P ops Q (o :: rest) a w :=
  wpList_store_cells hgd T x y ho g (H.ev hx) L (H.ev hy) hC m hi hl0 hl1 h1 (fun w' hg hs hC' => by rw [hd]; exact h a w' H hg hs hC')
theorem Has.move (H : Has a n l) (hw : Region.wanted o (yielded ops a.tmps) = true) {d : Nat} {x : Operand} {v : Value} (ho : o.op = .move x ∨ o.op = .assign x) (hd : o.dst = some d) (hn : Nat.blt d n = true) (hx : evL l x = some v)
    (h : ∀ a', Has a' n ((d, v) :: l) → wpList P ops Q rest a' w) : wpList P ops Q (o :: rest) a w := by
  refine H.go hw hd hn _ ?_ h
  rw [← H.ev hx]
  unfold execOp
  rcases ho with ho | ho <;> simp only [ho] <;> rfl
theorem Has.pick (H : Has a n l) (hw : Region.wanted o (yielded ops a.tmps) = true) {d : Nat} {c x y : Operand} {b : Bool} {v : Value} (ho : o.op = .pick c x y) (hd : o.dst = some d) (hn : Nat.blt d n = true) (hc : evL l c = some (.bool b)) (hx : (if b then evL l x else evL l y) = some v)
    (h : ∀ a', Has a' n ((d, v) :: l) → wpList P ops Q rest a' w) : wpList P ops Q (o :: rest) a w := by
  refine H.go hw hd hn _ ?_ h
  unfold execOp
  simp only [ho, H.ev hc]
  cases b with
  | true => rw [if_pos rfl] at hx; rw [← H.ev hx]; rfl
  | false => rw [if_neg (by decide)] at hx; rw [← H.ev hx]; rfl
theorem Has.bin (H : Has a n l) (hw : Region.wanted o (yielded ops a.tmps) = true) {d : Nat} {b : BinOp} {T T' : TypeId} {x y : Operand} {u v r : Value} (ho : o.op = .binOp b T x y T') (hd : o.dst = some d) (hn : Nat.blt d n = true) (hx : evL l x = some u) (hy : evL l y = some v)
    (hq : (do eqGuard b T x y u v; binOp b T u v : Sem Value).run P w = .ok r w) (h : ∀ a', Has a' n ((d, r) :: l) → wpList P ops Q rest a' w) : wpList P ops Q (o :: rest) a w := by
  refine H.go hw hd hn r ?_ h
  unfold execOp
  rw [Sem.run_bind] at hq
  simp only [ho, H.ev hx, H.ev hy, Sem.run_bind, hq, Result.andThen_ok, Sem.run_pure]
theorem Has.un (H : Has a n l) (hw : Region.wanted o (yielded ops a.tmps) = true) {d : Nat} {b : UnOp} {T : TypeId} {x : Operand} {u r : Value} (ho : o.op = .unOp b T x) (hd : o.dst = some d) (hn : Nat.blt d n = true) (hx : evL l x = some u)
    (hq : (Op.unary b u).run P w = .ok r w) (h : ∀ a', Has a' n ((d, r) :: l) → wpList P ops Q rest a' w) : wpList P ops Q (o :: rest) a w := by
  refine H.go hw hd hn r ?_ h
  unfold execOp
  simp only [ho, H.ev hx, Sem.run_bind, hq, Result.andThen_ok, Sem.run_pure]
theorem Has.conv (H : Has a n l) (hw : Region.wanted o (yielded ops a.tmps) = true) {d : Nat} {T T' : TypeId} {x : Operand} {u r : Value} {w' : World} (ho : o.op = .convert T T' x) (hd : o.dst = some d) (hn : Nat.blt d n = true) (hx : evL l x = some u)
    (hq : (convert T T' u).run P w = .ok r w') (h : ∀ a', Has a' n ((d, r) :: l) → wpList P ops Q rest a' w') : wpList P ops Q (o :: rest) a w := by
  refine H.go hw hd hn r (w' := w') ?_ h
  unfold execOp
  simp only [ho, H.ev hx, Sem.run_bind, hq, Result.andThen_ok, Sem.run_pure]
theorem Has.extract (H : Has a n l) (hw : Region.wanted o (yielded ops a.tmps) = true) {d i : Nat} {x : Operand} {u r : Value} (ho : o.op = .extract x i) (hd : o.dst = some d) (hn : Nat.blt d n = true) (hx : evL l x = some u)
    (hq : (Instr.extract u i).run P w = .ok r w) (h : ∀ a', Has a' n ((d, r) :: l) → wpList P ops Q rest a' w) : wpList P ops Q (o :: rest) a w := by
  refine H.go hw hd hn r ?_ h
  unfold execOp
  simp only [ho, H.ev hx, Sem.run_bind, hq, Result.andThen_ok, Sem.run_pure]
theorem Has.call (H : Has a n l) (hw : Region.wanted o (yielded ops a.tmps) = true) {d : Nat} {f : FuncId} {xs : Array Operand} {ats : Array TypeId} {vs : List Value} (ho : o.op = .call { callee := .value (.func f), args := xs, argTypes := ats }) (hd : o.dst = some d) (hn : Nat.blt d n = true) (hx : evLs l xs.toList = some vs)
    (hen : ∀ (args : Array Value) (w : World), (callFunc f args).run P w = .ok (.enter f args) w) {R : Value → World → Prop} (hc : Calls P f vs.toArray w fun e w' => ∃ v, e = .returned v ∧ R v w')
    (h : ∀ a' v w', R v w' → Has a' n ((d, v) :: l) → wpList P ops Q rest a' w') : wpList P ops Q (o :: rest) a w := by
  refine wpList_enter hw d hd f vs.toArray ?_ R hc (fun v w' hR => h _ v w' hR (H.put hn v))
  have e : xs.map a.eval = vs.toArray := by
    rw [← H.evs hx, ← Array.toList_map, Array.toArray_toList]
  have : execOp a.eval o = callFunc f (xs.map a.eval) := by
    obtain ⟨dst, op, ty, pos, after, guard⟩ := o
    have ho' : op = .call { callee := .value (.func f), args := xs, argTypes := ats } := ho
    subst ho'
    rw [execOp_call_go]
    simp
  rw [this, hen, e]
theorem Has.alloc (H : Has a n l) (hgd : o.guard = none) {T d : Nat} (ho : o.op = .alloc T) (hd : o.dst = some d) (hn : Nat.blt d n = true) (L : List Value) (hz : ∀ w, (zeroValue T).run P w = .ok (.agg L.toArray) w)
    (h : ∀ a' w', Below w.heap.size w w' → w'.heap.size = w.heap.size + 1 → Cells w' w.heap.size L → Has a' n ((d, .pointer (some ⟨w.heap.size, 0, none⟩)) :: l) → wpList P ops Q rest a' w') : wpList P ops Q (o :: rest) a w :=
  wpList_alloc_cells hgd T ho L hz w.heap.size rfl (fun w' hb hs hC => by rw [hd]; exact h _ w' hb hs hC (H.put hn _))
theorem Has.box (H : Has a n l) (hgd : o.guard = none) {T d : Nat} {x : Operand} {L : List Value} (ho : o.op = .box T x) (hd : o.dst = some d) (hn : Nat.blt d n = true) (hx : evL l x = some (.agg L.toArray))
    (h : ∀ a' w', Below w.heap.size w w' → w'.heap.size = w.heap.size + 1 → Cells w' w.heap.size L → Has a' n ((d, .pointer (some ⟨w.heap.size, 0, none⟩)) :: l) → wpList P ops Q rest a' w') : wpList P ops Q (o :: rest) a w :=
  wpList_box_cells hgd T x ho L (H.ev hx) w.heap.size rfl (fun w' hb hs hC => by rw [hd]; exact h _ w' hb hs hC (H.put hn _))
/-- whatever operation, its operands known. -/
theorem Has.any (H : Has a n l) (hw : Region.wanted o (yielded ops a.tmps) = true) {d : Nat} (hd : o.dst = some d) (hn : Nat.blt d n = true) (v : Value) {w' : World} (hs : ∀ cs b, o.op ≠ .select cs b) (hk : o.op.operands.all (fun x => (evL l x).isSome) = true)
    (hrun : (execOp (fun x => (evL l x).getD undef) o).run P w = .ok (.value v) w') (h : ∀ a', Has a' n ((d, v) :: l) → wpList P ops Q rest a' w') : wpList P ops Q (o :: rest) a w := by
  refine H.go hw hd hn v ?_ h
  rw [← hrun]
  congr 1
  refine execOp_congr o hs (fun x hx => ?_)
  obtain ⟨u, hu⟩ := Option.isSome_iff_exists.1 (Array.all_eq_true'.1 hk x hx)
  rw [H.ev hu, hu]
  rfl
theorem Has.cond (H : Has a n l) {c : Operand} {x y : Code} {t : Bool} (hc : evL l c = some (.bool t)) (h : (if t then x else y).wp P Q a w) : (Code.cond c x y).wp P Q a w := wp_cond (H.ev hc) h
end
theorem Has.condT {P : Program} {a : Act} {w : World} {Q : Exit → Act → World → Prop} {n : Nat} {l : List (Nat × Value)} (H : Has a n l) {c : Operand} {x y : Code} (hc : evL l c = some (.bool true)) (h : x.wp P Q a w) : (Code.cond c x y).wp P Q a w := wp_cond_true (H.ev hc) h
theorem Has.condF {P : Program} {a : Act} {w : World} {Q : Exit → Act → World → Prop} {n : Nat} {l : List (Nat × Value)} (H : Has a n l) {c : Operand} {x y : Code} (hc : evL l c = some (.bool false)) (h : y.wp P Q a w) : (Code.cond c x y).wp P Q a w := wp_cond_false (H.ev hc) h
theorem block_normal {id : Nat} {Q : Exit → Act → World → Prop} {a : Act} {w : World} (h : Q .normal a w) : Exit.inBlock id Q .normal a w := h
theorem block_ret {id : Nat} {Q : Exit → Act → World → Prop} {a : Act} {w : World} (h : Q .ret a w) : Exit.inBlock id Q .ret a w := h
theorem then_ret {next : Act → World → Prop} {Q : Exit → Act → World → Prop} {a : Act} {w : World} (h : Q .ret a w) : Exit.then next Q .ret a w := h
theorem skip_wp {P : Program} {a : Act} {w : World} {Q : Exit → Act → World → Prop} (h : Q .normal a w) : Code.skip.wp P Q a w := wp_skip h

/-- blocks of one's own above B, each with the cells that it begins with; below B all is as in W. -/
structure Own (W : World) (B : Nat) (bs : List (Nat × List Value)) (w : World) : Prop where
  bel : Below B W w
  le : B ≤ w.heap.size
  nd : (bs.map (·.1)).Nodup
  mem : ∀ p ∈ bs, B ≤ p.1 ∧ p.1 < w.heap.size ∧ Cells w p.1 p.2
section
variable {W w w' : World} {B : Nat} {bs : List (Nat × List Value)}
theorem Own.start (W : World) : Own W W.heap.size [] W := ⟨Below.refl _ _, Nat.le_refl _, by simp, fun p hp => by cases hp⟩
theorem Own.call (h : Own W B bs w) (hb : Below w.heap.size w w') : Own W B bs w' :=
  ⟨h.bel.trans (hb.mono h.le), Nat.le_trans h.le hb.size, h.nd, fun p hp => ⟨(h.mem p hp).1, Nat.lt_of_lt_of_le (h.mem p hp).2.1 hb.size, (h.mem p hp).2.2.below hb (h.mem p hp).2.1⟩⟩
theorem Own.drew (h : Own W B bs w) : Own W B bs w.drew := h.call (Below.drew (Below.refl _ _))
theorem Own.alloc (h : Own W B bs w) (hb : Below w.heap.size w w') (hs : w'.heap.size = w.heap.size + 1) {L : List Value} (hC : Cells w' w.heap.size L) : Own W B ((w.heap.size, L) :: bs) w' := by
  refine ⟨h.bel.trans (hb.mono h.le), Nat.le_trans h.le hb.size, ?_, fun p hp => ?_⟩
  · rw [List.map_cons, List.nodup_cons]
    refine ⟨fun hm => ?_, h.nd⟩
    obtain ⟨p, hp, e⟩ := List.mem_map.1 hm
    have := (h.mem p hp).2.1
    omega
  · rcases List.mem_cons.1 hp with rfl | hp
    · exact ⟨h.le, by rw [hs]; exact Nat.lt_succ_self _, hC⟩
    · exact ⟨(h.mem p hp).1, Nat.lt_of_lt_of_le (h.mem p hp).2.1 hb.size, (h.mem p hp).2.2.below hb (h.mem p hp).2.1⟩
theorem Own.get (h : Own W B bs w) (i : Nat) {g : Nat} {L : List Value} (hi : bs[i]? = some (g, L)) : Cells w g L := (h.mem _ (List.mem_of_getElem? hi)).2.2
theorem Own.lt (h : Own W B bs w) (i : Nat) {g : Nat} {L : List Value} (hi : bs[i]? = some (g, L)) : g < w.heap.size := (h.mem _ (List.mem_of_getElem? hi)).2.1
theorem Own.ge (h : Own W B bs w) (i : Nat) {g : Nat} {L : List Value} (hi : bs[i]? = some (g, L)) : B ≤ g := (h.mem _ (List.mem_of_getElem? hi)).1
theorem nodup_get : ∀ {l : List Nat}, l.Nodup → ∀ {i j x : Nat}, l[i]? = some x → l[j]? = some x → i = j
  | [], _, i, j, x, hi, _ => by simp at hi
  | y :: l, h, i, j, x, hi, hj => by
    rw [List.nodup_cons] at h
    cases i with
    | zero =>
      cases j with
      | zero => rfl
      | succ j =>
        simp only [List.getElem?_cons_zero, Option.some.injEq] at hi
        subst hi
        exact absurd (List.mem_of_getElem? (by simpa using hj)) h.1
    | succ i =>
      cases j with
      | zero =>
        simp only [List.getElem?_cons_zero, Option.some.injEq] at hj
        subst hj
        exact absurd (List.mem_of_getElem? (by simpa using hi)) h.1
      | succ j => exact congrArg (· + 1) (nodup_get h.2 (by simpa using hi) (by simpa using hj))
theorem Own.store (h : Own W B bs w) (i : Nat) {g : Nat} {L L' : List Value} (hi : bs[i]? = some (g, L)) (hg : w.grownBy w' (some g)) (hs : w'.heap.size = w.heap.size) (hC : Cells w' g L') : Own W B (bs.set i (g, L')) w' := by
  have hgB := h.ge i hi
  have hglt := h.lt i hi
  have hli : i < bs.length := (List.getElem?_eq_some_iff.1 hi).1
  have hmap : (bs.set i (g, L')).map (·.1) = bs.map (·.1) := by
    apply List.ext_getElem?
    intro j
    rw [List.getElem?_map, List.getElem?_map, List.getElem?_set]
    by_cases e : i = j
    · subst e
      simp only [if_true, hli, hi, Option.map_some]
    · rw [if_neg e]
  refine ⟨h.bel.grown hg h.le (fun k hk => by injection hk with hk; rw [← hk]; exact hgB), by rw [hs]; exact h.le, by rw [hmap]; exact h.nd, fun p hp => ?_⟩
  obtain ⟨j, hj⟩ := List.getElem?_of_mem hp
  rw [List.getElem?_set] at hj
  by_cases e : i = j
  · rw [if_pos e, if_pos hli] at hj
    injection hj with hj
    subst hj
    exact ⟨hgB, by rw [hs]; exact hglt, hC⟩
  · rw [if_neg e] at hj
    have hm := h.mem p (List.mem_of_getElem? hj)
    refine ⟨hm.1, by rw [hs]; exact hm.2.1, hm.2.2.kept hg hm.2.1 (fun e2 => e ?_)⟩
    injection e2 with e2
    have h1 : (bs.map (·.1))[i]? = some g := by rw [List.getElem?_map, hi]; rfl
    have h2 : (bs.map (·.1))[j]? = some g := by rw [List.getElem?_map, hj, ← e2]; rfl
    exact nodup_get h.nd h1 h2
end
/-- a cell of a block of one's own is written. -/
theorem Has.storeC {P : Program} {ops : Array Oper} {rest : List Oper} {o : Oper} {a : Act} {w W : World} {B : Nat} {bs : List (Nat × List Value)} {Q : Exit → Act → World → Prop} {n : Nat} {l : List (Nat × Value)} (H : Has a n l) (hO : Own W B bs w) (i : Nat) {g j : Nat} {L : List Value} (hi : bs[i]? = some (g, L))
    (hw : Region.wanted o (yielded ops a.tmps) = true) {T : Nat} {x y : Operand} {v : Value} (ho : o.op = .store T x y) (hd : o.dst = none) (hx : evL l x = some (.pointer (some ⟨g, j, none⟩))) (hy : evL l y = some v) (hj : Nat.blt j L.length = true)
    (hst : ∀ u, w.cell? ⟨g, j, none⟩ = some u → w.frozen? ⟨g, j, none⟩ = false → (Instr.storeAt T (.pointer (some ⟨g, j, none⟩)) v).run P w = .ok () (w.setCell ⟨g, j, none⟩ v))
    (h : ∀ a' w', Has a' n l → Own W B (bs.set i (g, L.set j v)) w' → wpList P ops Q rest a' w') : wpList P ops Q (o :: rest) a w := by
  have hj' : j < L.length := by simpa [Nat.blt_eq] using hj
  have hC := hO.get i hi
  obtain ⟨c1, c2⟩ := hC j _ (List.getElem?_eq_getElem hj')
  refine H.store hw ho hd hx hy (hst _ c1 c2) (fun a' H' => h a' _ H' ?_)
  exact hO.store i hi (grown_setCell w g j v) (size_setCell' _ _ _) (hC.set j v hj')
theorem Own.two {W w : World} {B g1 g2 : Nat} {L1 L2 : List Value} (h : Own W B [(g2, L2), (g1, L1)] w) : Two W B g1 g2 L1 L2 w := by
  have hn := h.nd
  simp only [List.map_cons, List.map_nil, List.nodup_cons, List.mem_singleton] at hn
  exact ⟨h.get 1 rfl, h.get 0 rfl, h.lt 1 rfl, h.lt 0 rfl, fun e => hn.1 e.symm, h.ge 1 rfl, h.ge 0 rfl, h.bel⟩
theorem Two.own {W w : World} {B g1 g2 : Nat} {L1 L2 : List Value} (h : Two W B g1 g2 L1 L2 w) : Own W B [(g2, L2), (g1, L1)] w := by
  refine ⟨h.bel, Nat.le_of_lt (Nat.lt_of_le_of_lt h.b1 h.lt1), ?_, fun p hp => ?_⟩
  · simp only [List.map_cons, List.map_nil, List.nodup_cons, List.mem_singleton, List.not_mem_nil, not_false_iff, List.nodup_nil, and_true]
    exact fun e => h.ne e.symm
  · simp only [List.mem_cons, List.not_mem_nil, or_false] at hp
    rcases hp with rfl | rfl
    · exact ⟨h.b2, h.lt2, h.c2⟩
    · exact ⟨h.b1, h.lt1, h.c1⟩
theorem quietC {P : Program} {f : FuncId} {args : Array Value} {w : World} {v : Value} (h : Calls P f args w fun e w' => e = .returned v ∧ w = w') : Calls P f args w fun e w' => ∃ v', e = .returned v' ∧ (v' = v ∧ w = w') :=
  h.mono fun _ _ h => ⟨v, h.1, rfl, h.2⟩
theorem belowC {P : Program} {f : FuncId} {args : Array Value} {w : World} {v : Value} (h : Calls P f args w fun e w' => e = .returned v ∧ Below w.heap.size w w') : Calls P f args w fun e w' => ∃ v', e = .returned v' ∧ (v' = v ∧ Below w.heap.size w w') :=
  h.mono fun _ _ h => ⟨v, h.1, rfl, h.2⟩
end Go.Proofs.YtlacidnnankjlaaGreatDoor

/-
  Single cells are read; numbers, flags, strings are held side by side.
-/
namespace Go.Proofs.YtlacidnnankjlaaGreatDoor
open Go.RowKit

theorem load1_i (g o : Nat) (v : Int) (w : World) (h : w.cell? ⟨g, o, none⟩ = some (.int .i64 v)) : (Instr.loadAt 3 (.pointer (some ⟨g, o, none⟩))).run Tryz.prog w = .ok (.int .i64 v) w := by
  simp [go_sem, h]
theorem load1_b (g o : Nat) (v : Bool) (w : World) (h : w.cell? ⟨g, o, none⟩ = some (.bool v)) : (Instr.loadAt 4 (.pointer (some ⟨g, o, none⟩))).run Tryz.prog w = .ok (.bool v) w := by
  simp [go_sem, h]
theorem load1_s (g o : Nat) (v : ByteArray) (w : World) (h : w.cell? ⟨g, o, none⟩ = some (.string v)) : (Instr.loadAt 9 (.pointer (some ⟨g, o, none⟩))).run Tryz.prog w = .ok (.string v) w := by
  simp [go_sem, h]
theorem eql_i (u v : Int) (x y : Operand) (w : World) : (do eqGuard .eql 3 x y (.int .i64 u) (.int .i64 v); binOp .eql 3 (.int .i64 u) (.int .i64 v) : Sem Value).run Tryz.prog w = .ok (.bool (u == v)) w := by
  simp [go_sem]
theorem eql_b (u v : Bool) (x y : Operand) (w : World) : (do eqGuard .eql 4 x y (.bool u) (.bool v); binOp .eql 4 (.bool u) (.bool v) : Sem Value).run Tryz.prog w = .ok (.bool (u == v)) w := by
  simp [go_sem]
theorem eql_s (u v : ByteArray) (x y : Operand) (w : World) : (do eqGuard .eql 9 x y (.string u) (.string v); binOp .eql 9 (.string u) (.string v) : Sem Value).run Tryz.prog w = .ok (.bool (u.toList == v.toList)) w := by
  simp [go_sem]
theorem load1_26 (g o n c : Nat) (A : Option Addr) (w : World) (h : w.cell? ⟨g, o, none⟩ = some (.slice A n c)) : (Instr.loadAt 45 (.pointer (some ⟨g, o, none⟩))).run Tryz.prog w = .ok (.slice A n c) w := by
  simp [go_sem, h]
theorem load1_27 (g o n c : Nat) (A : Option Addr) (w : World) (h : w.cell? ⟨g, o, none⟩ = some (.slice A n c)) : (Instr.loadAt 46 (.pointer (some ⟨g, o, none⟩))).run Tryz.prog w = .ok (.slice A n c) w := by
  simp [go_sem, h]
theorem load1_28 (g o n c : Nat) (A : Option Addr) (w : World) (h : w.cell? ⟨g, o, none⟩ = some (.slice A n c)) : (Instr.loadAt 47 (.pointer (some ⟨g, o, none⟩))).run Tryz.prog w = .ok (.slice A n c) w := by
  simp [go_sem, h]
end Go.Proofs.YtlacidnnankjlaaGreatDoor

/-
  A walk in few words: plain operations at the beginning of a list are run all at once.
-/
namespace Go.Proofs.YtlacidnnankjlaaGreatDoor
open Go.RowKit

theorem load1_u (g o : Nat) (v : Int) (w : World) (h : w.cell? ⟨g, o, none⟩ = some (.int .u8 v)) : (Instr.loadAt 5 (.pointer (some ⟨g, o, none⟩))).run Tryz.prog w = .ok (.int .u8 v) w := by
  simp [go_sem, h]
theorem load1_31 (g o n c : Nat) (A : Option Addr) (w : World) (h : w.cell? ⟨g, o, none⟩ = some (.slice A n c)) : (Instr.loadAt 31 (.pointer (some ⟨g, o, none⟩))).run Tryz.prog w = .ok (.slice A n c) w := by
  simp [go_sem, h]
/-- the region at which a code begins, and what comes behind it. -/
def peel (P : Program) : Code → (Exit → Act → World → Prop) → Code × (Exit → Act → World → Prop)
  | .seq x y, Q => peel P x (Exit.then (fun a w => y.wp P Q a w) Q)
  | c, Q => (c, Q)
theorem peel_wp {P : Program} : ∀ (c : Code) (Q : Exit → Act → World → Prop) {a : Act} {w : World}, (peel P c Q).1.wp P (peel P c Q).2 a w → c.wp P Q a w
  | .seq x _, _, _, _, h => wp_seq (peel_wp x _ h)
  | c, _, _, _, h => by cases c <;> first | exact h | exact wp_seq (peel_wp _ _ h)
/-- a struct's field: the struct, where it begins, the field, where that lies. -/
def FT : List (Nat × Nat × Nat × Nat) :=
  (49, 0, 0, 0) :: (49, 0, 1, 1) :: (49, 0, 2, 2) :: (49, 0, 3, 3) :: (49, 0, 4, 4) :: (49, 0, 5, 9) :: (49, 0, 6, 10) :: (49, 0, 7, 11) :: (49, 0, 8, 12) :: (49, 0, 9, 13) :: (49, 0, 10, 14) :: (49, 0, 11, 15) :: (49, 0, 12, 16) :: (49, 0, 13, 17) :: (49, 0, 14, 18) :: (49, 0, 15, 19) :: (49, 0, 16, 20) :: (49, 0, 17, 21) :: (49, 0, 18, 22) :: (49, 0, 19, 23) ::
  (44, 4, 0, 4) :: (44, 4, 1, 5) :: (44, 4, 2, 6) :: (44, 4, 3, 7) :: (44, 4, 4, 8) :: (44, 0, 0, 0) :: (44, 0, 1, 1) :: (44, 0, 2, 2) :: (44, 0, 3, 3) :: (44, 0, 4, 4) ::
    (82, 0, 0, 0) :: (82, 0, 1, 1) :: (82, 0, 2, 2) :: (82, 0, 3, 3) :: (82, 0, 4, 4) :: (82, 0, 5, 5) :: (82, 0, 6, 6) :: (82, 0, 7, 7) :: (82, 0, 8, 8) ::
  (24, 0, 0, 0) :: (24, 0, 1, 1) :: (24, 0, 2, 2) :: (24, 0, 3, 3) :: (24, 0, 4, 4) :: (24, 0, 5, 5) ::
  (85, 0, 0, 0) :: (85, 0, 1, 1) :: (85, 0, 2, 2) :: (85, 0, 3, 3) ::
  (36, 0, 0, 0) :: (36, 0, 1, 1) :: (36, 0, 2, 2) :: (36, 0, 3, 3) :: (36, 0, 4, 4) :: (36, 0, 5, 5) :: (36, 0, 6, 6) ::
  (89, 0, 0, 0) :: (89, 0, 1, 1) :: (89, 0, 2, 2) :: (89, 0, 3, 3) :: (89, 0, 4, 4) :: (89, 0, 5, 5) ::
  (52, 0, 0, 0) :: (52, 0, 1, 1) :: (52, 0, 2, 2) ::
  (70, 0, 0, 0) :: (70, 0, 1, 1) :: (70, 0, 2, 2) :: (70, 0, 3, 3) ::
  (106, 0, 0, 0) :: (106, 0, 1, 2) :: (106, 0, 2, 3) :: (106, 0, 3, 4) :: (106, 0, 4, 5) ::
  (161, 0, 0, 0) :: (161, 0, 1, 1) ::
  (104, 0, 0, 0) :: (104, 0, 1, 1) ::
  (153, 0, 0, 0) :: (153, 0, 1, 1) ::
  []
def FieldsOk : List (Nat × Nat × Nat × Nat) → Prop
  | [] => True
  | (s, b, f, r) :: l => (∀ (g : Nat) (w : World), (Instr.fieldAt s (.pointer (some ⟨g, b, none⟩)) f).run Tryz.prog w = .ok (.pointer (some ⟨g, r, none⟩)) w) ∧ FieldsOk l
theorem ft_ok : FieldsOk FT := by
  repeat (first | exact trivial | refine ⟨fun _ _ => by kernel_rfl, ?_⟩)
def lookF : List (Nat × Nat × Nat × Nat) → Nat → Nat → Nat → Option Nat
  | [], _, _, _ => none
  | (s, b, f, r) :: l, s', b', f' => bif Nat.beq f f' && (Nat.beq s s' && Nat.beq b b') then some r else lookF l s' b' f'
theorem lookF_ok : ∀ {l : List (Nat × Nat × Nat × Nat)} {s b f r : Nat}, FieldsOk l → lookF l s b f = some r → ∀ (g : Nat) (w : World), (Instr.fieldAt s (.pointer (some ⟨g, b, none⟩)) f).run Tryz.prog w = .ok (.pointer (some ⟨g, r, none⟩)) w
  | [], _, _, _, _, _, h => by cases h
  | (s, b, f, r) :: l, s', b', f', r', hl, h => by
    unfold lookF at h
    cases hb : Nat.beq f f' && (Nat.beq s s' && Nat.beq b b') with
    | true =>
      rw [hb, cond_true] at h
      injection h with h
      simp only [Bool.and_eq_true] at hb
      have h1 := Nat.eq_of_beq_eq_true hb.1
      have h2 := Nat.eq_of_beq_eq_true hb.2.1
      have h3 := Nat.eq_of_beq_eq_true hb.2.2
      subst h h1 h2 h3
      exact hl.1
    | false =>
      rw [hb, cond_false] at h
      exact lookF_ok hl.2 h
/-- what a plain operation puts where. -/
def stepM (n : Nat) (o : Oper) (l : List (Nat × Value)) : Option (Nat × Value) :=
  match o.guard, o.dst, o.op with
  | none, some d, .move x => match Nat.blt d n, evL l x with
    | true, some v => some (d, v)
    | _, _ => none
  | none, some d, .assign x => match Nat.blt d n, evL l x with
    | true, some v => some (d, v)
    | _, _ => none
  | none, some d, .fieldAddr s x f => match Nat.blt d n, evL l x with
    | true, some (.pointer (some ⟨g, b, none⟩)) => match lookF FT s b f with
      | some r => some (d, .pointer (some ⟨g, r, none⟩))
      | none => none
    | _, _ => none
  | none, some d, .nilCheck x => match Nat.blt d n, evL l x with
    | true, some (.pointer (some p)) => some (d, .pointer (some p))
    | _, _ => none
  | _, _, _ => none
def runM (n : Nat) : Nat → List Oper → List (Nat × Value) → Option (List Oper × List (Nat × Value))
  | 0, L, l => some (L, l)
  | _ + 1, [], _ => none
  | k + 1, o :: L, l => match stepM n o l with
    | some p => runM n k L (p :: l)
    | none => none
section
variable {ops : Array Oper} {rest rest' : List Oper} {o : Oper} {a : Act} {w : World} {Q : Exit → Act → World → Prop} {n : Nat} {l l' : List (Nat × Value)}
theorem stepM_ok {p : Nat × Value} (H : Has a n l) (h : stepM n o l = some p) (hk : ∀ a', Has a' n (p :: l) → wpList Tryz.prog ops Q rest a' w) : wpList Tryz.prog ops Q (o :: rest) a w := by
  unfold stepM at h
  split at h
  · next d x hg hd ho =>
    split at h
    · next v hn hx =>
      injection h with h
      subst h
      exact H.move (gz hg) (.inl ho) hd hn hx hk
    · cases h
  · next d x hg hd ho =>
    split at h
    · next v hn hx =>
      injection h with h
      subst h
      exact H.move (gz hg) (.inr ho) hd hn hx hk
    · cases h
  · next d s x f hg hd ho =>
    split at h
    · next g b hn hx =>
      split at h
      · next r hr =>
        injection h with h
        subst h
        refine H.go (gz hg) hd hn _ ?_ hk
        unfold execOp
        simp only [ho, H.ev hx, Sem.run_bind, lookF_ok ft_ok hr, Result.andThen_ok, Sem.run_pure]
      · cases h
    · cases h
  · next d x hg hd ho =>
    split at h
    · next p hn hx =>
      injection h with h
      subst h
      refine H.go (gz hg) hd hn _ ?_ hk
      unfold execOp
      simp only [ho, H.ev hx]
      rfl
    · cases h
  · cases h
theorem runM_ok : ∀ (k : Nat) {L : List Oper} {l : List (Nat × Value)} {a : Act}, Has a n l → runM n k L l = some (rest, l') → (∀ a', Has a' n l' → wpList Tryz.prog ops Q rest a' w) → wpList Tryz.prog ops Q L a w
  | 0, L, l, a, H, h, hk => by
    simp only [runM, Option.some.injEq, Prod.mk.injEq] at h
    obtain ⟨rfl, rfl⟩ := h
    exact hk a H
  | k + 1, [], l, a, H, h, hk => by cases h
  | k + 1, o :: L, l, a, H, h, hk => by
    simp only [runM] at h
    split at h
    · next p hp => exact stepM_ok H hp fun a' H' => runM_ok k H' h hk
    · cases h
theorem Has.ms (H : Has a n l) (k : Nat) {L : List Oper} (h : ∀ a', Has a' n l' → wpList Tryz.prog ops Q rest a' w) (hr : runM n k L l = some (rest, l') := by rfl) : wpList Tryz.prog ops Q L a w := runM_ok k H hr h
theorem rl {c : Code} {Q Q' : Exit → Act → World → Prop} {id : Nat} {ops : Array Oper} {a : Act} {w : World} (h : wpList Tryz.prog ops Q' ops.toList a w) (hc : peel Tryz.prog c Q = (.region id ops false, Q') := by rfl) : c.wp Tryz.prog Q a w := by
  refine peel_wp c Q ?_
  rw [hc]
  exact wp_region_list h
/-- a plain region begins. -/
theorem Has.rg (H : Has a n l) (k : Nat) {c : Code} {Q' : Exit → Act → World → Prop} {id : Nat} {ops : Array Oper} (h : ∀ a', Has a' n l' → wpList Tryz.prog ops Q' rest a' w) (hc : peel Tryz.prog c Q = (.region id ops false, Q') := by rfl) (hr : runM n k ops.toList l = some (rest, l') := by rfl) : c.wp Tryz.prog Q a w := by
  refine peel_wp c Q ?_
  rw [hc]
  exact wp_region_list (runM_ok k H hr h)
theorem Has.gm (H : Has a n l) (k : Nat) {d : Nat} (hd : o.dst = some d) (hn : Nat.blt d n = true) (hg : o.guard = none) (v : Value) {w' : World} (hrun : (execOp a.eval o).run Tryz.prog w = .ok (.value v) w') (h : ∀ a', Has a' n l' → wpList Tryz.prog ops Q rest' a' w')
    (hr : runM n k rest ((d, v) :: l) = some (rest', l')) : wpList Tryz.prog ops Q (o :: rest) a w :=
  H.go (gz hg) hd hn v hrun fun _ H' => runM_ok k H' hr h
theorem Has.ld (H : Has a n l) (k : Nat) {T d : Nat} {x : Operand} {p v : Value} (hl : (Instr.loadAt T p).run Tryz.prog w = .ok v w) (h : ∀ a', Has a' n l' → wpList Tryz.prog ops Q rest' a' w) (ho : o.op = .load T x := by rfl) (hd : o.dst = some d := by rfl) (hn : Nat.blt d n = true := by rfl) (hg : o.guard = none := by rfl)
    (hx : evL l x = some p := by rfl) (hr : runM n k rest ((d, v) :: l) = some (rest', l') := by rfl) : wpList Tryz.prog ops Q (o :: rest) a w :=
  H.load (gz hg) ho hd hn hx hl fun _ H' => runM_ok k H' hr h
theorem Has.bn (H : Has a n l) (k : Nat) {d : Nat} {b : BinOp} {T T' : TypeId} {x y : Operand} {u v r : Value} (hq : (do eqGuard b T x y u v; binOp b T u v : Sem Value).run Tryz.prog w = .ok r w) (h : ∀ a', Has a' n l' → wpList Tryz.prog ops Q rest' a' w)
    (ho : o.op = .binOp b T x y T' := by rfl) (hd : o.dst = some d := by rfl) (hn : Nat.blt d n = true := by rfl) (hg : o.guard = none := by rfl) (hx : evL l x = some u := by rfl) (hy : evL l y = some v := by rfl) (hr : runM n k rest ((d, r) :: l) = some (rest', l') := by rfl) : wpList Tryz.prog ops Q (o :: rest) a w :=
  H.bin (gz hg) ho hd hn hx hy hq fun _ H' => runM_ok k H' hr h
theorem Has.bb (H : Has a n l) (k : Nat) {d : Nat} {b : BinOp} {T T' : TypeId} {x y : Operand} {u v r : Value} (ho : o.op = .binOp b T x y T') (hd : o.dst = some d) (hn : Nat.blt d n = true) (hg : o.guard = none) (hx : evL l x = some u) (hy : evL l y = some v)
    (hq : (do eqGuard b T x y u v; binOp b T u v : Sem Value).run Tryz.prog w = .ok r w) (hr : runM n k rest ((d, r) :: l) = some (rest', l')) (h : ∀ a', Has a' n l' → wpList Tryz.prog ops Q rest' a' w) : wpList Tryz.prog ops Q (o :: rest) a w :=
  H.bin (gz hg) ho hd hn hx hy hq fun _ H' => runM_ok k H' hr h
theorem Has.lo (H : Has a n l) (k : Nat) {T d : Nat} {x : Operand} {p v : Value} (ho : o.op = .load T x) (hd : o.dst = some d) (hn : Nat.blt d n = true) (hg : o.guard = none) (hx : evL l x = some p) (hl : (Instr.loadAt T p).run Tryz.prog w = .ok v w) (hr : runM n k rest ((d, v) :: l) = some (rest', l'))
    (h : ∀ a', Has a' n l' → wpList Tryz.prog ops Q rest' a' w) : wpList Tryz.prog ops Q (o :: rest) a w :=
  H.load (gz hg) ho hd hn hx hl fun _ H' => runM_ok k H' hr h
theorem Has.cv (H : Has a n l) (k : Nat) {d : Nat} {T T' : TypeId} {x : Operand} {u r : Value} (hq : (convert T T' u).run Tryz.prog w = .ok r w) (h : ∀ a', Has a' n l' → wpList Tryz.prog ops Q rest' a' w)
    (ho : o.op = .convert T T' x := by rfl) (hd : o.dst = some d := by rfl) (hn : Nat.blt d n = true := by rfl) (hg : o.guard = none := by rfl) (hx : evL l x = some u := by rfl) (hr : runM n k rest ((d, r) :: l) = some (rest', l') := by rfl) : wpList Tryz.prog ops Q (o :: rest) a w :=
  H.conv (gz hg) ho hd hn hx hq fun _ H' => runM_ok k H' hr h
theorem Has.ex (H : Has a n l) (k : Nat) {d i : Nat} {x : Operand} {u r : Value} (h : ∀ a', Has a' n l' → wpList Tryz.prog ops Q rest' a' w)
    (ho : o.op = .extract x i := by rfl) (hd : o.dst = some d := by rfl) (hn : Nat.blt d n = true := by rfl) (hg : o.guard = none := by rfl) (hx : evL l x = some u := by rfl) (hq : (Instr.extract u i).run Tryz.prog w = .ok r w := by rfl) (hr : runM n k rest ((d, r) :: l) = some (rest', l') := by rfl) : wpList Tryz.prog ops Q (o :: rest) a w :=
  H.extract (gz hg) ho hd hn hx hq fun _ H' => runM_ok k H' hr h
/-- a call that leaves the world alone. -/
theorem Has.cq (H : Has a n l) (k : Nat) {d : Nat} {f : FuncId} {xs : Array Operand} {ats : Array TypeId} {vs : List Value} {v : Value} (hc : Calls Tryz.prog f vs.toArray w fun e w' => e = .returned v ∧ w = w') (h : ∀ a', Has a' n l' → wpList Tryz.prog ops Q rest' a' w)
    (ho : o.op = .call { callee := .value (.func f), args := xs, argTypes := ats } := by rfl) (hd : o.dst = some d := by rfl) (hn : Nat.blt d n = true := by rfl) (hg : o.guard = none := by rfl) (hx : evLs l xs.toList = some vs := by rfl)
    (hen : ∀ (args : Array Value) (w : World), (callFunc f args).run Tryz.prog w = .ok (.enter f args) w := by exact fun _ _ => by kernel_rfl) (hr : runM n k rest ((d, v) :: l) = some (rest', l') := by rfl) : wpList Tryz.prog ops Q (o :: rest) a w :=
  H.call (gz hg) ho hd hn hx hen (quietC hc) (by rintro _ _ _ ⟨rfl, rfl⟩ H'; exact runM_ok k H' hr h)
theorem Has.cl (H : Has a n l) {d : Nat} {f : FuncId} {xs : Array Operand} {ats : Array TypeId} {vs : List Value} {R : Value → World → Prop} (hc : Calls Tryz.prog f vs.toArray w fun e w' => ∃ v, e = .returned v ∧ R v w') (h : ∀ a' v w', R v w' → Has a' n ((d, v) :: l) → wpList Tryz.prog ops Q rest a' w')
    (ho : o.op = .call { callee := .value (.func f), args := xs, argTypes := ats } := by rfl) (hd : o.dst = some d := by rfl) (hn : Nat.blt d n = true := by rfl) (hg : o.guard = none := by rfl) (hx : evLs l xs.toList = some vs := by rfl)
    (hen : ∀ (args : Array Value) (w : World), (callFunc f args).run Tryz.prog w = .ok (.enter f args) w := by exact fun _ _ => by kernel_rfl) : wpList Tryz.prog ops Q (o :: rest) a w :=
  H.call (gz hg) ho hd hn hx hen hc h
section
variable {W : World} {B : Nat} {bs : List (Nat × List Value)}
theorem Has.bx (H : Has a n l) (O : Own W B bs w) (k : Nat) {T d : Nat} {x : Operand} {L : List Value} (h : ∀ a' w', Own W B ((w.heap.size, L) :: bs) w' → Has a' n l' → wpList Tryz.prog ops Q rest' a' w')
    (ho : o.op = .box T x := by rfl) (hd : o.dst = some d := by rfl) (hn : Nat.blt d n = true := by rfl) (hg : o.guard = none := by rfl) (hx : evL l x = some (.agg L.toArray) := by rfl) (hr : runM n k rest ((d, .pointer (some ⟨w.heap.size, 0, none⟩)) :: l) = some (rest', l') := by rfl) : wpList Tryz.prog ops Q (o :: rest) a w :=
  H.box hg ho hd hn hx fun _ _ hb hs hC H' => runM_ok k H' hr fun _ H'' => h _ _ (O.alloc hb hs hC) H''
theorem Has.al (H : Has a n l) (O : Own W B bs w) (k : Nat) {T d : Nat} {L : List Value} (hz : ∀ w, (zeroValue T).run Tryz.prog w = .ok (.agg L.toArray) w) (h : ∀ a' w', Own W B ((w.heap.size, L) :: bs) w' → Has a' n l' → wpList Tryz.prog ops Q rest' a' w')
    (ho : o.op = .alloc T := by rfl) (hd : o.dst = some d := by rfl) (hn : Nat.blt d n = true := by rfl) (hg : o.guard = none := by rfl) (hr : runM n k rest ((d, .pointer (some ⟨w.heap.size, 0, none⟩)) :: l) = some (rest', l') := by rfl) : wpList Tryz.prog ops Q (o :: rest) a w :=
  H.alloc hg ho hd hn L hz fun _ _ hb hs hC H' => runM_ok k H' hr fun _ H'' => h _ _ (O.alloc hb hs hC) H''
/-- a struct of one's own is written, or read. -/
theorem Has.st (H : Has a n l) (O : Own W B bs w) (i k : Nat) {T g m : Nat} {x y : Operand} {L L0 : List Value} (h : ∀ a' w', Own W B (bs.set i (g, L)) w' → Has a' n l' → wpList Tryz.prog ops Q rest' a' w') (hi : (Tryz.prog.info? T).map (·.size) = some m)
    (ho : o.op = .store T x y := by rfl) (hd : o.dst = none := by rfl) (hg : o.guard = none := by rfl) (hx : evL l x = some (.pointer (some ⟨g, 0, none⟩)) := by rfl) (hb : bs[i]? = some (g, L0) := by rfl) (hy : evL l y = some (.agg L.toArray) := by rfl) (h0 : L0.length = m := by rfl) (h1 : L.length = m := by rfl) (h2 : L.all (·.oneCell') = true := by rfl)
    (hr : runM n k rest l = some (rest', l') := by rfl) : wpList Tryz.prog ops Q (o :: rest) a w :=
  H.storeS hg ho hd hx hy (O.get i hb) hi h0 h1 h2 fun _ _ H' hg hs hC => runM_ok k H' hr fun _ H'' => h _ _ (O.store i hb hg hs hC) H''
theorem Has.lm (H : Has a n l) (O : Own W B bs w) (i k : Nat) {d g : Nat} {x : Operand} {L : List Value} (h : ∀ a', Has a' n l' → wpList Tryz.prog ops Q rest' a' w)
    (ho : o.op = .load 49 x := by rfl) (hd : o.dst = some d := by rfl) (hn : Nat.blt d n = true := by rfl) (hg : o.guard = none := by rfl) (hx : evL l x = some (.pointer (some ⟨g, 0, none⟩)) := by rfl) (hb : bs[i]? = some (g, L) := by rfl) (hl : L.length = 24 := by rfl)
    (hr : runM n k rest ((d, .agg L.toArray) :: l) = some (rest', l') := by rfl) : wpList Tryz.prog ops Q (o :: rest) a w :=
  H.loadS hg ho hd hn hx (O.get i hb) Tryz.underlying49 rfl (by kernel_rfl) hl fun _ H' => runM_ok k H' hr h
theorem Has.sc (H : Has a n l) (O : Own W B bs w) (i k : Nat) {T g j : Nat} {x y : Operand} {v : Value} {L : List Value} (hst : ∀ u, w.cell? ⟨g, j, none⟩ = some u → w.frozen? ⟨g, j, none⟩ = false → (Instr.storeAt T (.pointer (some ⟨g, j, none⟩)) v).run Tryz.prog w = .ok () (w.setCell ⟨g, j, none⟩ v))
    (h : ∀ a' w', Own W B (bs.set i (g, L.set j v)) w' → Has a' n l' → wpList Tryz.prog ops Q rest' a' w')
    (ho : o.op = .store T x y := by rfl) (hd : o.dst = none := by rfl) (hg : o.guard = none := by rfl) (hx : evL l x = some (.pointer (some ⟨g, j, none⟩)) := by rfl) (hy : evL l y = some v := by rfl) (hb : bs[i]? = some (g, L) := by rfl) (hj : Nat.blt j L.length = true := by rfl)
    (hr : runM n k rest l = some (rest', l') := by rfl) : wpList Tryz.prog ops Q (o :: rest) a w :=
  H.storeC O i hb (gz hg) ho hd hx hy hj hst fun _ _ H' O' => runM_ok k H' hr fun _ H'' => h _ _ O' H''
theorem Own.li (O : Own W B bs w) (i j : Nat) {g : Nat} {L : List Value} {v : Int} (h1 : bs[i]? = some (g, L) := by rfl) (h2 : L[j]? = some (.int .i64 v) := by rfl) : (Instr.loadAt 3 (.pointer (some ⟨g, j, none⟩))).run Tryz.prog w = .ok (.int .i64 v) w := load1_i _ _ _ _ ((O.get i h1).get j _ h2)
theorem Own.lb (O : Own W B bs w) (i j : Nat) {g : Nat} {L : List Value} {v : Bool} (h1 : bs[i]? = some (g, L) := by rfl) (h2 : L[j]? = some (.bool v) := by rfl) : (Instr.loadAt 4 (.pointer (some ⟨g, j, none⟩))).run Tryz.prog w = .ok (.bool v) w := load1_b _ _ _ _ ((O.get i h1).get j _ h2)
theorem Own.ls (O : Own W B bs w) (i j : Nat) {g : Nat} {L : List Value} {v : ByteArray} (h1 : bs[i]? = some (g, L) := by rfl) (h2 : L[j]? = some (.string v) := by rfl) : (Instr.loadAt 9 (.pointer (some ⟨g, j, none⟩))).run Tryz.prog w = .ok (.string v) w := load1_s _ _ _ _ ((O.get i h1).get j _ h2)
theorem Own.l6 (O : Own W B bs w) (i j : Nat) {g n c : Nat} {A : Option Addr} {L : List Value} (h1 : bs[i]? = some (g, L) := by rfl) (h2 : L[j]? = some (.slice A n c) := by rfl) : (Instr.loadAt 45 (.pointer (some ⟨g, j, none⟩))).run Tryz.prog w = .ok (.slice A n c) w := load1_26 _ _ _ _ _ _ ((O.get i h1).get j _ h2)
theorem Own.l7 (O : Own W B bs w) (i j : Nat) {g n c : Nat} {A : Option Addr} {L : List Value} (h1 : bs[i]? = some (g, L) := by rfl) (h2 : L[j]? = some (.slice A n c) := by rfl) : (Instr.loadAt 46 (.pointer (some ⟨g, j, none⟩))).run Tryz.prog w = .ok (.slice A n c) w := load1_27 _ _ _ _ _ _ ((O.get i h1).get j _ h2)
theorem Own.l8 (O : Own W B bs w) (i j : Nat) {g n c : Nat} {A : Option Addr} {L : List Value} (h1 : bs[i]? = some (g, L) := by rfl) (h2 : L[j]? = some (.slice A n c) := by rfl) : (Instr.loadAt 47 (.pointer (some ⟨g, j, none⟩))).run Tryz.prog w = .ok (.slice A n c) w := load1_28 _ _ _ _ _ _ ((O.get i h1).get j _ h2)
end
end
end Go.Proofs.YtlacidnnankjlaaGreatDoor

/-
  A region that draws its order and makes memory, by an invariant: of each operation that has come up it is known what its slot holds, as long as no other operation has used it up.
-/
namespace Go.Proofs.YtlacidnnankjlaaGreatDoor
open Go.RowKit

section
variable {P : Program} {md : Region.Mode} {ops : Array Oper} {Q : Exit → Act → World → Prop}
def Closed (md : Region.Mode) (ops : Array Oper) (listed : Array Bool) : Prop := ∀ (i : Nat) (o : Oper), ops[i]? = some o → listed.getD i false = true → ∀ e ∈ o.after, Region.binds md e = true → listed.getD e.on false = true
theorem ran_mono {listed : Array Bool} {i j : Nat} (h : listed.getD j false = true) : (listed.setIfInBounds i true).getD j false = true := by
  by_cases e : i = j
  · subst e
    have hi : i < listed.size := by
      rcases Nat.lt_or_ge i listed.size with h1 | h1
      · exact h1
      · rw [Array.getD_eq_getD_getElem?, Array.getElem?_eq_none h1] at h; cases h
    exact ran_same listed hi
  · rw [ran_ne listed e]; exact h
theorem wpAny_invB (I : Array Bool → Act → World → Prop) (hback : ∀ (i : Nat) (o : Oper), ops[i]? = some o → ∀ e ∈ o.after, Region.binds md e = true → e.on < i)
    (hstep : ∀ (listed : Array Bool) (a : Act) (w : World) (i : Nat) (o : Oper), listed.size = ops.size → listed.getD i false = false → Closed md ops listed → ops[i]? = some o → (∀ e ∈ o.after, Region.binds md e = true → listed.getD e.on false = true) → I listed a w →
      wpOp P ops Q i (fun a' w' => I (listed.setIfInBounds i true) a' w') a w)
    (hfin : ∀ (listed : Array Bool) (a : Act) (w : World), (∀ i, i < ops.size → listed.getD i false = true) → I listed a w → Q .normal a w) :
    ∀ (fuel : Nat) (listed : Array Bool) (a : Act) (w : World), listed.size = ops.size → listed.toList.count false ≤ fuel → Closed md ops listed → I listed a w → wpAny P md ops Q fuel listed a w := by
  intro fuel
  induction fuel with
  | zero =>
    intro listed a w hs hc hcl hI
    have hnil : Region.ready md ops listed = [] := by
      rcases hr : Region.ready md ops listed with _ | ⟨i, rs⟩
      · rfl
      · exfalso
        have hm : i ∈ Region.ready md ops listed := by rw [hr]; exact List.mem_cons_self
        obtain ⟨h0, o, ho, _⟩ := mem_ready.1 hm
        have hi : i < listed.size := by
          have := (Array.getElem?_eq_some_iff.1 ho).1
          omega
        have h1 : listed.toList[i]? = some false := by
          simp only [Array.getD_eq_getD_getElem?, Array.getElem?_eq_getElem hi, Option.getD_some] at h0
          simp [hi, h0]
        have := count_set _ _ h1
        omega
    exact ⟨hnil, hfin listed a w (all_listed hback hs hnil) hI⟩
  | succ fuel ih =>
    intro listed a w hs hc hcl hI
    refine ⟨fun hnil => hfin listed a w (all_listed hback hs hnil) hI, fun i hm => ?_⟩
    obtain ⟨h0, o, ho, hd⟩ := mem_ready.1 hm
    have hi : i < listed.size := by
      have := (Array.getElem?_eq_some_iff.1 ho).1
      omega
    have h0' : listed.getD i false = false := by
      simp only [Array.getD_eq_getD_getElem?, Array.getElem?_eq_getElem hi, Option.getD_some] at h0 ⊢
      exact h0
    have h1 : listed.toList[i]? = some false := by
      simp only [Array.getD_eq_getD_getElem?, Array.getElem?_eq_getElem hi, Option.getD_some] at h0
      simp [hi, h0]
    have hcs := count_set _ _ h1
    refine wpOp_mono (fun a' w' hI' => ih _ a' w' (by simpa using hs) ?_ ?_ hI') (hstep listed a w i o hs h0' hcl ho hd hI)
    · rw [Array.toList_setIfInBounds]
      omega
    · intro j oj hoj hj e he hb
      rcases getD_set hj with e2 | hj
      · subst e2
        have e3 : oj = o := by rw [ho] at hoj; injection hoj with hoj; exact hoj.symm
        subst e3
        exact ran_mono (hd e he hb)
      · exact ran_mono (hcl j oj hoj hj e he hb)
theorem wp_region_invB {id : Nat} {a : Act} {w : World} (hm : P.follows .mixedOrders = true) (I : Array Bool → Act → World → Prop) (hback : ∀ (i : Nat) (o : Oper), ops[i]? = some o → ∀ e ∈ o.after, Region.binds .any e = true → e.on < i)
    (hstep : ∀ (listed : Array Bool) (a : Act) (w : World) (i : Nat) (o : Oper), listed.size = ops.size → listed.getD i false = false → Closed .any ops listed → ops[i]? = some o → (∀ e ∈ o.after, Region.binds .any e = true → listed.getD e.on false = true) → I listed a w →
      wpOp P ops Q i (fun a' w' => I (listed.setIfInBounds i true) a' w') a w)
    (hfin : ∀ (listed : Array Bool) (a : Act) (w : World), (∀ i, i < ops.size → listed.getD i false = true) → I listed a w → Q .normal a w)
    (h0 : I (Array.replicate ops.size false) a w.drew) : (Code.region id ops true).wp P Q a w := by
  refine wp_region_any hm (wpAny_invB I hback hstep hfin ops.size _ a _ (by simp) ?_ ?_ h0)
  · simp
  · intro i o _ h
    rw [none_ran] at h
    cases h
end

/-- what an operation's slot holds, and which operations use it up. -/
structure Ent where
  op : Nat
  slot : Nat
  kill : List Nat
  p : Value → World → Prop
def KillEv (listed : Array Bool) : List Nat → Prop
  | [] => True
  | k :: ks => listed.getD k false = false ∧ KillEv listed ks
def AllSt (i : Nat) (listed : Array Bool) (w w' : World) : List Ent → Prop
  | [] => True
  | t :: es => (t.op ≠ i → i ∉ t.kill → (listed.size ≤ t.op ∨ listed.getD t.op false = true) → KillEv listed t.kill → ∀ u, t.p u w → t.p u w') ∧ AllSt i listed w w' es
theorem AllSt.get {i : Nat} {listed : Array Bool} {w w' : World} : ∀ {es : List Ent}, AllSt i listed w w' es → ∀ t ∈ es, t.op ≠ i → i ∉ t.kill → (listed.size ≤ t.op ∨ listed.getD t.op false = true) → KillEv listed t.kill → ∀ u, t.p u w → t.p u w'
  | _ :: _, h, t, ht => by
    rcases List.mem_cons.1 ht with rfl | ht
    · exact h.1
    · exact AllSt.get h.2 t ht
theorem AllSt.same {i : Nat} {listed : Array Bool} {w : World} : ∀ {es : List Ent}, AllSt i listed w w es
  | [] => trivial
  | _ :: _ => ⟨fun _ _ _ _ _ h => h, AllSt.same⟩
structure InvB (n : Nat) (fixed : List (Nat × Value)) (es : List Ent) (Wp : World → Prop) (listed : Array Bool) (a : Act) (w : World) : Prop where
  sz : a.tmps.size = n
  df : a.defers = []
  fx : AllEv a fixed
  vs : ∀ t ∈ es, (listed.size ≤ t.op ∨ listed.getD t.op false = true) → KillEv listed t.kill → t.p (a.eval (.tmp t.slot)) w
  wp : Wp w
def fitsB (n : Nat) (fixed : List (Nat × Value)) (es : List Ent) : Bool :=
  es.all (fun t => decide (t.slot < n) && fixed.all (fun f => f.1 != t.slot)) && es.all (fun u => es.all fun t => u.op == t.op || (u.slot != t.slot || (u.kill.contains t.op || decide (1000 ≤ t.op)))) && (es.map (·.op)).Nodup
theorem KillEv.back {listed : Array Bool} {i : Nat} : ∀ {ks : List Nat}, KillEv (listed.setIfInBounds i true) ks → i < listed.size → KillEv listed ks ∧ i ∉ ks
  | [], _, _ => ⟨trivial, by simp⟩
  | k :: ks, h, hi => by
    obtain ⟨h1, h2⟩ := KillEv.back h.2 hi
    have hk : i ≠ k := by
      intro e
      subst e
      have := h.1
      rw [ran_same listed hi] at this
      cases this
    refine ⟨⟨?_, h1⟩, ?_⟩
    · have := h.1
      rw [ran_ne listed hk] at this
      exact this
    · simp only [List.mem_cons, not_or]
      exact ⟨hk, h2⟩
theorem AllEv.put {a : Act} {d : Nat} {v : Value} : ∀ {l : List (Nat × Value)}, AllEv a l → l.all (fun f => f.1 != d) = true → AllEv (a.put (some d) v) l
  | [], _, _ => trivial
  | f :: l, h, hd => by
    simp only [List.all_cons, Bool.and_eq_true, bne_iff_ne] at hd
    exact ⟨(Act.eval_put_ne _ _ _ _ (Ne.symm hd.1)).trans h.1, AllEv.put h.2 hd.2⟩
theorem InvB.put {n : Nat} {fixed : List (Nat × Value)} {es : List Ent} {Wp Wp' : World → Prop} {listed : Array Bool} {a : Act} {w w' : World} (h : InvB n fixed es Wp listed a w) (hf : fitsB n fixed es = true) (t : Ent) (ht : t ∈ es) (hi : t.op < listed.size) (hN : listed.size ≤ 1000)
    (v : Value) (hp : t.p v w') (hw : Wp' w') (hst : AllSt t.op listed w w' es) : InvB n fixed es Wp' (listed.setIfInBounds t.op true) (a.put (some t.slot) v) w' := by
  simp only [fitsB, Bool.and_eq_true, decide_eq_true_eq] at hf
  obtain ⟨⟨hf, hn⟩, hm⟩ := hf
  have hf : ∀ t ∈ es, t.slot < n ∧ fixed.all (fun f => f.1 != t.slot) = true := fun t ht => by
    have := List.all_eq_true.1 hf t ht
    simp only [Bool.and_eq_true, decide_eq_true_eq] at this
    exact this
  have hn : ∀ u ∈ es, ∀ t ∈ es, (u.op == t.op || (u.slot != t.slot || (u.kill.contains t.op || decide (1000 ≤ t.op)))) = true := fun u hu t ht => List.all_eq_true.1 (List.all_eq_true.1 hn u hu) t ht
  refine ⟨by rw [Act.size_put, h.sz], by rw [Act.defers_put', h.df], h.fx.put (hf t ht).2, fun u hu hl hk => ?_, hw⟩
  obtain ⟨hk1, hk2⟩ := KillEv.back hk hi
  by_cases e : u.op = t.op
  · have e2 : u = t := nodup_eq hm u hu t ht e
    subst e2
    rw [Act.eval_put_same _ _ _ (by rw [h.sz]; exact (hf u hu).1)]
    exact hp
  · rw [ran_ne listed (Ne.symm e), Array.size_setIfInBounds] at hl
    have hs : t.slot ≠ u.slot := by
      intro e2
      have := hn u hu t ht
      simp only [Bool.or_eq_true, beq_iff_eq, bne_iff_ne, List.contains_iff_mem, decide_eq_true_eq] at this
      rcases this with h1 | h1 | h1 | h1
      · exact e h1
      · exact h1 e2.symm
      · exact hk2 h1
      · omega
    rw [Act.eval_put_ne _ _ _ _ hs]
    exact hst.get u hu e hk2 hl hk1 _ (h.vs u hu hl hk1)
/-- an operation without a slot. -/
theorem InvB.done {n : Nat} {fixed : List (Nat × Value)} {es : List Ent} {Wp Wp' : World → Prop} {listed : Array Bool} {a : Act} {w w' : World} (h : InvB n fixed es Wp listed a w) (i : Nat) (hi : i < listed.size) (hne : es.all (fun t => t.op != i) = true) (hw : Wp' w') (hst : AllSt i listed w w' es) : InvB n fixed es Wp' (listed.setIfInBounds i true) a w' := by
  refine ⟨h.sz, h.df, h.fx, fun u hu hl hk => ?_, hw⟩
  obtain ⟨hk1, hk2⟩ := KillEv.back hk hi
  have e : u.op ≠ i := by simpa using List.all_eq_true.1 hne u hu
  rw [ran_ne listed (Ne.symm e), Array.size_setIfInBounds] at hl
  exact hst.get u hu e hk2 hl hk1 _ (h.vs u hu hl hk1)
theorem ran_of {f : Array Edge} {listed : Array Bool} (hd : ∀ e ∈ f, Region.binds .any e = true → listed.getD e.on false = true) (j : Nat) (h : f.toList.any (fun e => Region.binds .any e && e.on == j) = true) : listed.getD j false = true := by
  obtain ⟨e, he, hb, hon⟩ := edge_of h
  rw [← hon]
  exact hd e he hb

/-- blocks of one's own below b; what is made of rows lies from b on. -/
structure Base (W : World) (b : Nat) (bs : List (Nat × List Value)) (w : World) : Prop where
  own : Own W W.heap.size bs w
  bw : b ≤ w.heap.size
  hb : W.heap.size ≤ b
  all : ∀ p ∈ bs, p.1 < b
theorem Base.of {W w : World} {bs : List (Nat × List Value)} (O : Own W W.heap.size bs w) : Base W w.heap.size bs w := ⟨O, Nat.le_refl _, O.le, fun p hp => (O.mem p hp).2.1⟩
theorem Base.step {W w w' : World} {b : Nat} {bs : List (Nat × List Value)} (h : Base W b bs w) (hb : Below b w w') : Base W b bs w' :=
  ⟨⟨h.own.bel.trans (hb.mono h.hb), Nat.le_trans h.own.le hb.size, h.own.nd, fun p hp => ⟨(h.own.mem p hp).1, Nat.lt_of_lt_of_le (h.own.mem p hp).2.1 hb.size, (h.own.mem p hp).2.2.below hb (h.all p hp)⟩⟩, Nat.le_trans h.bw hb.size, h.hb, h.all⟩
theorem Base.call {W w w' : World} {b : Nat} {bs : List (Nat × List Value)} (h : Base W b bs w) (hb : Below w.heap.size w w') : Base W b bs w' := h.step (hb.mono h.bw)
theorem Base.drew {W w : World} {b : Nat} {bs : List (Nat × List Value)} (h : Base W b bs w) : Base W b bs w.drew := h.call (Below.drew (Below.refl _ _))
theorem Base.get {W w : World} {b : Nat} {bs : List (Nat × List Value)} (h : Base W b bs w) (i : Nat) {g : Nat} {L : List Value} (hi : bs[i]? = some (g, L)) : Cells w g L := h.own.get i hi

/-! what one operation runs to -/
section
variable {P : Program} {o : Oper} {a : Act} {w : World}
theorem run_field {S f g off : Nat} {x : Operand} (ho : o.op = .fieldAddr S x f) {off0 : Nat} (hx : a.eval x = .pointer (some ⟨g, off0, none⟩)) (hf : ∀ g w, (Instr.fieldAt S (.pointer (some ⟨g, off0, none⟩)) f).run P w = .ok (.pointer (some ⟨g, off, none⟩)) w) :
    (execOp a.eval o).run P w = .ok (.value (.pointer (some ⟨g, off, none⟩))) w := by
  unfold execOp
  simp only [ho, hx, Sem.run_bind, hf, Result.andThen_ok, Sem.run_pure]
theorem run_load {T : Nat} {x : Operand} {p v : Value} (ho : o.op = .load T x) (hx : a.eval x = p) (hl : (Instr.loadAt T p).run P w = .ok v w) : (execOp a.eval o).run P w = .ok (.value v) w := by
  unfold execOp
  simp only [ho, hx, Sem.run_bind, hl, Result.andThen_ok, Sem.run_pure]
theorem run_move {x : Operand} {v : Value} (ho : o.op = .move x ∨ o.op = .assign x) (hx : a.eval x = v) : (execOp a.eval o).run P w = .ok (.value v) w := by
  rw [← hx]
  unfold execOp
  rcases ho with ho | ho <;> simp only [ho] <;> rfl
theorem run_bin {b : BinOp} {T T' : TypeId} {x y : Operand} {u v r : Value} (ho : o.op = .binOp b T x y T') (hx : a.eval x = u) (hy : a.eval y = v) (hq : (do eqGuard b T x y u v; binOp b T u v : Sem Value).run P w = .ok r w) : (execOp a.eval o).run P w = .ok (.value r) w := by
  unfold execOp
  rw [Sem.run_bind] at hq
  simp only [ho, hx, hy, Sem.run_bind, hq, Result.andThen_ok, Sem.run_pure]
theorem run_un {b : UnOp} {T : TypeId} {x : Operand} {u r : Value} (ho : o.op = .unOp b T x) (hx : a.eval x = u) (hq : (Op.unary b u).run P w = .ok r w) : (execOp a.eval o).run P w = .ok (.value r) w := by
  unfold execOp
  simp only [ho, hx, Sem.run_bind, hq, Result.andThen_ok, Sem.run_pure]
theorem run_conv {T T' : TypeId} {x : Operand} {u r : Value} {w' : World} (ho : o.op = .convert T T' x) (hx : a.eval x = u) (hq : (convert T T' u).run P w = .ok r w') : (execOp a.eval o).run P w = .ok (.value r) w' := by
  unfold execOp
  simp only [ho, hx, Sem.run_bind, hq, Result.andThen_ok, Sem.run_pure]
theorem run_extract {i : Nat} {x : Operand} {u r : Value} (ho : o.op = .extract x i) (hx : a.eval x = u) (hq : (Instr.extract u i).run P w = .ok r w) : (execOp a.eval o).run P w = .ok (.value r) w := by
  unfold execOp
  simp only [ho, hx, Sem.run_bind, hq, Result.andThen_ok, Sem.run_pure]
theorem run_call {f : FuncId} {xs : Array Operand} {ats : Array TypeId} {vs : Array Value} (ho : o.op = .call { callee := .value (.func f), args := xs, argTypes := ats }) (hx : xs.map a.eval = vs)
    (hen : ∀ (args : Array Value) (w : World), (callFunc f args).run P w = .ok (.enter f args) w) : (execOp a.eval o).run P w = .ok (.enter f vs) w := by
  have : execOp a.eval o = callFunc f (xs.map a.eval) := by
    obtain ⟨dst, op, ty, pos, after, guard⟩ := o
    have ho' : op = .call { callee := .value (.func f), args := xs, argTypes := ats } := ho
    subst ho'
    rw [execOp_call_go]
    simp
  rw [this, hen, hx]
end

/-- a row of bytes of one's own, from block b on. -/
def RowIs (b : Nat) (xs : List UInt8) (v : Value) (w : World) : Prop := ∃ A c, v = .slice A xs.length c ∧ w.ownsRow b 5 1 v xs.length (xs.map bv)
/-- bytes that can be read. -/
def BytesAre (xs : List UInt8) (v : Value) (w : World) : Prop := ∃ A c, v = .slice A xs.length c ∧ RB w w.heap.size A xs
theorem RowIs.below {b : Nat} {xs : List UInt8} {v : Value} {w w' : World} (h : RowIs b xs v w) (hb : Below w.heap.size w w') : RowIs b xs v w' := by
  obtain ⟨A, c, rfl, ho⟩ := h
  exact ⟨A, c, rfl, own_below ho hb⟩
theorem BytesAre.below {xs : List UInt8} {v : Value} {w w' : World} (h : BytesAre xs v w) (hb : Below w.heap.size w w') : BytesAre xs v w' := by
  obtain ⟨A, c, rfl, ho⟩ := h
  exact ⟨A, c, rfl, ho.next hb⟩
theorem RowIs.base {b b' : Nat} {xs : List UInt8} {v : Value} {w : World} (h : RowIs b xs v w) (hb : b' ≤ b) : RowIs b' xs v w := by
  obtain ⟨A, c, rfl, ho⟩ := h
  exact ⟨A, c, rfl, own_base ho hb⟩
theorem RowIs.drew {b : Nat} {xs : List UInt8} {v : Value} {w : World} (h : RowIs b xs v w) : RowIs b xs v w.drew := h.below (Below.drew (Below.refl _ _))
theorem RowIs.nil (b : Nat) (w : World) : RowIs b [] (.slice none 0 0) w := ⟨none, 0, rfl, World.ownsRow_nil _ _ _ _⟩
def StartEv (N : Nat) (a : Act) (w : World) : List Ent → Prop
  | [] => True
  | t :: es => (N ≤ t.op → t.p (a.eval (.tmp t.slot)) w) ∧ StartEv N a w es
theorem InvB.start {n N : Nat} {fixed : List (Nat × Value)} {es : List Ent} {Wp : World → Prop} {a : Act} {w : World} (hz : a.tmps.size = n) (hd : a.defers = []) (hf : AllEv a fixed) (hv : StartEv N a w es) (hw : Wp w) : InvB n fixed es Wp (Array.replicate N false) a w := by
  refine ⟨hz, hd, hf, ?_, hw⟩
  intro t ht hl _
  have hN : N ≤ t.op := by
    rcases hl with h | h
    · simpa using h
    · rw [none_ran] at h; cases h
  clear hl hf hz hd hw
  induction es with
  | nil => cases ht
  | cons u es ih =>
    rcases List.mem_cons.1 ht with rfl | ht
    · exact hv.1 hN
    · exact ih hv.2 ht
theorem run_any {P : Program} {o : Oper} {a : Act} {w w' : World} {n : Nat} {l : List (Nat × Value)} {x : Next} (H : Has a n l) (hs : ∀ cs b, o.op ≠ .select cs b) (hk : o.op.operands.all (fun x => (evL l x).isSome) = true)
    (hrun : (execOp (fun x => (evL l x).getD undef) o).run P w = .ok x w') : (execOp a.eval o).run P w = .ok x w' := by
  rw [← hrun]
  congr 1
  refine execOp_congr o hs (fun x hx => ?_)
  obtain ⟨u, hu⟩ := Option.isSome_iff_exists.1 (Array.all_eq_true'.1 hk x hx)
  rw [H.ev hu, hu]
  rfl
end Go.Proofs.YtlacidnnankjlaaGreatDoor

/-
  Rows of bytes at a frame that is a letter.
-/
namespace Go.Proofs.YtlacidnnankjlaaGreatDoor
open Go.RowKit

theorem wp_seq_join {P : Program} {x y : Code} {Q : Exit → Act → World → Prop} {a : Act} {w : World} (St : Act → World → Prop) (hx : x.wp P (Exit.then St Q) a w) (hy : ∀ a w, St a w → y.wp P Q a w) : (Code.seq x y).wp P Q a w := by
  refine wp_seq (wp_mono hx ?_)
  intro e a w h
  cases e with
  | normal => exact hy a w h
  | _ => exact h

section
variable {P : Program} {ops : Array Oper} {rest : List Oper} {o : Oper} {a : Act} {w : World} {Q : Exit → Act → World → Prop} {n : Nat} {l : List (Nat × Value)}
theorem run_callH (H : Has a n l) {f : FuncId} {xs : Array Operand} {ats : Array TypeId} {vs : List Value} (ho : o.op = .call { callee := .value (.func f), args := xs, argTypes := ats }) (hx : evLs l xs.toList = some vs)
    (hen : ∀ (args : Array Value) (w : World), (callFunc f args).run P w = .ok (.enter f args) w) : (execOp a.eval o).run P w = .ok (.enter f vs.toArray) w :=
  run_call ho (by rw [← H.evs hx, ← Array.toList_map, Array.toArray_toList]) hen
/-- append(row, bytes..). -/
theorem run_append_row (hgb : P.underlying 31 = some (.slice 5)) (hi : (P.info? 5).map (fun i => (i.zero, i.size, i.bytes)) = some (some (.int .u8 0), 1, 1)) {s x : Operand}
    (ho : o.op = .call { callee := .builtin .append, args := #[s, x], argTypes := #[31, 31] }) {b : Nat} {xs ys : List UInt8} {v u : Value} (hs : a.eval s = v) (hx : a.eval x = u) (hv : RowIs b xs v w) (hu : BytesAre ys u w)
    (hn : xs.length + ys.length ≤ 140737488355328) (hb : b ≤ w.heap.size) : ∃ v' w', (execOp a.eval o).run P w = .ok (.value v') w' ∧ RowIs b (xs ++ ys) v' w' ∧ Below b w w' ∧ w.grownBy w' v.ownBlock := by
  obtain ⟨A, c, rfl, hown⟩ := hv
  obtain ⟨A2, c2, rfl, hr⟩ := hu
  obtain ⟨A', c', w', hrun, h2, h3⟩ := run_append_read (P := P) w b 31 o.type 5 (.int .u8 0) 1 1 hgb hi rfl (by decide) _ xs.length (xs.map bv) hown w.heap.size A2 ys.length c2 (ys.map bv) hr (bv_one ys) (by unfold maxLen; omega) (by omega) hb
  refine ⟨_, w', ?_, ⟨A', c', by rw [List.length_append], by rw [List.length_append, List.map_append]; exact h2⟩, (Below.refl _ _).grown h3 hb fun k hk => (hown.lt k hk).1, h3⟩
  unfold execOp
  simp only [ho, resolve, invoke, builtin, Sem.run_bind, Sem.run_pure, Result.andThen_ok, List.map_toArray, List.map_cons, List.map_nil, hs, hx, hrun]
/-- append(row, string..). -/
theorem run_len {s : Operand} {t : TypeId} {A : Option Addr} {m c : Nat} (ho : o.op = .call { callee := .builtin .len, args := #[s], argTypes := #[t] }) (hs : a.eval s = .slice A m c) {e : TypeId} (ht : P.underlying t = some (.slice e)) :
    (execOp a.eval o).run P w = .ok (.value (.int .i64 m)) w := by
  unfold execOp
  simp only [ho, resolve, invoke, builtin, Sem.run_bind, Sem.run_pure, Result.andThen_ok, List.map_toArray, List.map_cons, List.map_nil, hs]
  simp [Builtin.len_, run_underlying ht, goInt]
end

theorem own_under {W w w' : World} {B b : Nat} {bs : List (Nat × List Value)} (h : Own W B bs w) (hb : Below b w w') (hB : B ≤ b) (hall : ∀ p ∈ bs, p.1 < b) : Own W B bs w' :=
  ⟨h.bel.trans (hb.mono hB), Nat.le_trans h.le hb.size, h.nd, fun p hp => ⟨(h.mem p hp).1, Nat.lt_of_lt_of_le (h.mem p hp).2.1 hb.size, (h.mem p hp).2.2.below hb (hall p hp)⟩⟩
theorem conv_u8 (k : Int) (w : World) : (convert 3 5 (.int .i64 k)).run Tryz.prog w = .ok (.int .u8 (k % 256)) w := by
  simp [go_sem]
  rfl
/-- a literal of bytes stands in a block of its own. -/
theorem bytes_lit (w : World) (xs : List UInt8) (vs : List Value) (h : vs = xs.map bv) (e : TypeId) (k : Nat) (hk : xs.length = k) : BytesAre xs (.slice (some ⟨w.heap.size, 0, none⟩) k k) (w.alloc (.cells vs.toArray e)) ∧ Below w.heap.size w (w.alloc (.cells vs.toArray e)) := by
  subst hk
  exact ⟨⟨_, _, rfl, RB.lit w e vs.toArray (0, 0) xs (by simpa using h)⟩, balloc w _⟩
theorem byte_of_int (k : Int) (h0 : 0 ≤ k) : Value.int .u8 (k % 256) = bv (UInt8.ofNat k.toNat) := by
  unfold bv
  rw [UInt8.toNat_ofNat']
  congr 1
  omega
theorem or_i (a b : Nat) (ha : a < 9223372036854775808) (hb : b < 9223372036854775808) (x y : Operand) (w : World) : (do eqGuard .or 3 x y (.int .i64 a) (.int .i64 b); binOp .or 3 (.int .i64 a) (.int .i64 b) : Sem Value).run Tryz.prog w = .ok (.int .i64 ((a ||| b : Nat) : Int)) w := by
  have := i64_or_nat a b ha hb
  simp [go_sem, this]
theorem run_not (b : Bool) (w : World) : (Op.unary .not (.bool b)).run Tryz.prog w = .ok (.bool !b) w := by
  cases b <;> rfl
end Go.Proofs.YtlacidnnankjlaaGreatDoor

/-
  A region that draws its order, in few words: what the plain operations leave is told once, as values; arms are needed for the others alone.
-/
namespace Go.Proofs.YtlacidnnankjlaaGreatDoor
open Go.RowKit

theorem run_index {P : Program} {w : World} {a : Act} {o : Oper} {T : Nat} {x i : Operand} {u v r : Value} (ho : o.op = .indexAddr T x i) (hx : a.eval x = u) (hi : a.eval i = v) (hq : (Instr.indexAt T u v).run P w = .ok r w) : (execOp a.eval o).run P w = .ok (.value r) w := by
  unfold execOp
  simp only [ho, hx, hi, Sem.run_bind, hq, Result.andThen_ok, Sem.run_pure]
theorem run_lenS {P : Program} {w : World} {a : Act} {o : Oper} {s : Operand} {t : TypeId} {u : ByteArray} (ho : o.op = .call { callee := .builtin .len, args := #[s], argTypes := #[t] }) (hs : a.eval s = .string u) (ht : P.underlying t = some .string) :
    (execOp a.eval o).run P w = .ok (.value (.int .i64 u.size)) w := by
  unfold execOp
  simp only [ho, resolve, invoke, builtin, Sem.run_bind, Sem.run_pure, Result.andThen_ok, List.map_toArray, List.map_cons, List.map_nil, hs]
  simp [Builtin.len_, run_underlying ht, goInt]
/-- what an operation leaves: a value (ec), or what holds of it until others have come up (er). -/
structure EntC where
  op : Nat
  slot : Nat
  kill : List Nat
  c : Option Value
  q : Value → World → Prop
  arm : Bool
def ec (i s : Nat) (v : Value) : EntC := ⟨i, s, [], some v, fun _ _ => True, false⟩
def er (i s : Nat) (k : List Nat) (q : Value → World → Prop) : EntC := ⟨i, s, k, none, q, true⟩
/-- a value for which there is an arm. -/
def eh (i s : Nat) (v : Value) : EntC := ⟨i, s, [], some v, fun _ _ => True, true⟩
def EntC.e (t : EntC) : Ent := match t.c with
  | some v => ⟨t.op, t.slot, [], fun u _ => u = v⟩
  | none => ⟨t.op, t.slot, t.kill, t.q⟩
def aft (L : List Edge) (j : Nat) : Bool := L.any (fun e => Region.binds .any e && Nat.beq e.on j)
def afts (ops : Array Oper) (i : Nat) : List Edge := match ops[i]? with
  | some o => o.after.toList
  | none => []
/-- the values that an operation, behind these edges, finds. -/
def knownE (L : List Edge) : List EntC → List (Nat × Value)
  | [] => []
  | ⟨k, s, _, c, _, _⟩ :: ts => match c with
    | some v => bif aft L k then (s, v) :: knownE L ts else knownE L ts
    | none => knownE L ts
def PureE (ops : Array Oper) (Q : Exit → Act → World → Prop) (n : Nat) (l : List (Nat × Value)) (Wp : World → Prop) (i s : Nat) (v : Value) : Prop :=
  ∀ (K : Act → World → Prop) (a : Act) (w : World), Has a n l → Wp w → K (a.put (some s) v) w → wpOp Tryz.prog ops Q i K a w
def PureAll (ops : Array Oper) (Q : Exit → Act → World → Prop) (n : Nat) (fixed : List (Nat × Value)) (Wp : World → Prop) (es : List EntC) : List EntC → Prop
  | [] => True
  | ⟨k, s, _, c, _, m⟩ :: ts => match c, m with
    | some v, false => PureE ops Q n (fixed ++ knownE (afts ops k) es) Wp k s v ∧ PureAll ops Q n fixed Wp es ts
    | _, _ => PureAll ops Q n fixed Wp es ts
def heavyL (N : Nat) : List EntC → Nat → Prop
  | [], _ => False
  | ⟨k, _, _, c, _, m⟩ :: ts, i => match c, m with
    | some _, false => heavyL N ts i
    | _, _ => bif Nat.blt k N then (i = k ∨ heavyL N ts i) else heavyL N ts i
def coverB (N : Nat) (es : List EntC) : Bool := (List.range N).all (fun i => es.any (fun t => t.op == i))
def startL (N : Nat) (a : Act) (w : World) : List EntC → Prop
  | [] => True
  | ⟨k, s, _, c, q, _⟩ :: ts => bif Nat.blt k N then startL N a w ts else ((match c with | some v => a.eval (.tmp s) = v | none => q (a.eval (.tmp s)) w) ∧ startL N a w ts)
/-- what is told of the others stays so. -/
def AllC (i : Nat) (listed : Array Bool) (w w' : World) : List EntC → Prop
  | [] => True
  | ⟨k, _, ks, c, q, _⟩ :: ts => match c with
    | some _ => AllC i listed w w' ts
    | none => (k ≠ i → i ∉ ks → (listed.size ≤ k ∨ listed.getD k false = true) → KillEv listed ks → ∀ u, q u w → q u w') ∧ AllC i listed w w' ts
def sel (l : List (Nat × Value)) : List Nat → Option (List (Nat × Value))
  | [] => some []
  | k :: ks => match look l k, sel l ks with
    | some v, some r => some ((k, v) :: r)
    | _, _ => none
theorem sel_ok {a : Act} {n : Nat} {l : List (Nat × Value)} (H : Has a n l) : ∀ {ss : List Nat} {r : List (Nat × Value)}, sel l ss = some r → AllEv a r
  | [], r, h => by
    cases h
    trivial
  | k :: ks, r, h => by
    unfold sel at h
    split at h
    · next v r' h1 h2 =>
      injection h with h
      subst h
      exact ⟨H.at_ k v h1, sel_ok H h2⟩
    · cases h
/-- an operation's guard is met, or not, by what is known. -/
def okG (ops : Array Oper) (l : List (Nat × Value)) (o : Oper) : Bool := match o.guard with
  | none => true
  | some (j, b) => match (ops[j]?).bind (·.dst) with
    | some d => match look l d with
      | some (.bool c) => bif b then c else !c
      | _ => false
    | none => false
/-- a slot's value that does not meet a guard. -/
def noB : Value → Bool → Bool
  | .bool c, b => bif b then !c else c
  | _, _ => true
theorem yielded_not {ops : Array Oper} {a : Act} {j d : Nat} {v : Value} {b : Bool} (hj : (ops[j]?).bind (·.dst) = some d) (h : a.eval (.tmp d) = v) (hn : noB v b = true) : yielded ops a.tmps j ≠ some b := by
  intro hy
  unfold yielded at hy
  rw [hj, Option.bind_some] at hy
  split at hy
  · next c hc =>
    injection hy with hy
    subst hy
    have : a.eval (.tmp d) = .bool c := by
      simp only [Act.eval, Array.getD_eq_getD_getElem?, hc, Option.getD_some]
    rw [← h, this] at hn
    cases c <;> cases hn
  · cases hy
def offG (ops : Array Oper) (l : List (Nat × Value)) (o : Oper) : Bool := match o.guard with
  | none => false
  | some (j, b) => match (ops[j]?).bind (·.dst) with
    | some d => match look l d with
      | some v => noB v b
      | none => false
    | none => false
theorem okG_w {ops : Array Oper} {o : Oper} {a : Act} {n : Nat} {l : List (Nat × Value)} (H : Has a n l) (h : okG ops l o = true) : Region.wanted o (yielded ops a.tmps) = true := by
  unfold okG at h
  split at h
  · next hg => exact gz hg
  · next j b hg =>
    split at h
    · next d hj =>
      split at h
      · next c hc =>
        have e : c = b := by cases b <;> cases c <;> first | rfl | cases h
        exact H.wt hg hj (by rw [hc, e])
      · cases h
    · cases h
theorem offG_w {ops : Array Oper} {o : Oper} {a : Act} {n : Nat} {l : List (Nat × Value)} (H : Has a n l) (h : offG ops l o = true) : Region.wanted o (yielded ops a.tmps) = false := by
  unfold offG at h
  split at h
  · cases h
  · next j b hg =>
    split at h
    · next d hj =>
      split at h
      · next v hv =>
        unfold Region.wanted
        rw [hg]
        have := yielded_not hj (H.at_ d v hv) h
        simpa using this
      · cases h
    · cases h
/-- what a guarded operation leaves. -/
abbrev gv (g : Bool) (v : Value) : Value := bif g then v else undef
section
variable {ops : Array Oper} {Q : Exit → Act → World → Prop} {n : Nat} {l fixed : List (Nat × Value)} {Wp Wp' : World → Prop} {i s : Nat} {v : Value} {o : Oper}
theorem jm (ho : ops[i]? = some o := by rfl) (hg : okG ops l o = true := by rfl) (h : stepM n { o with guard := none } l = some (s, v) := by rfl) : PureE ops Q n l Wp i s v := by
  intro K a w H _ hK
  unfold stepM at h
  split at h
  · next d x _ hd ho' =>
    split at h
    · next u hn hx =>
      simp only [Option.some.injEq, Prod.mk.injEq] at h
      obtain ⟨rfl, rfl⟩ := h
      exact wpOp_go ho (okG_w H hg) _ hd _ w (run_move (.inl ho') (H.ev hx)) hK
    · cases h
  · next d x _ hd ho' =>
    split at h
    · next u hn hx =>
      simp only [Option.some.injEq, Prod.mk.injEq] at h
      obtain ⟨rfl, rfl⟩ := h
      exact wpOp_go ho (okG_w H hg) _ hd _ w (run_move (.inr ho') (H.ev hx)) hK
    · cases h
  · next d t x f _ hd ho' =>
    split at h
    · next g b hn hx =>
      split at h
      · next r hr =>
        simp only [Option.some.injEq, Prod.mk.injEq] at h
        obtain ⟨rfl, rfl⟩ := h
        exact wpOp_go ho (okG_w H hg) _ hd _ w (run_field ho' (H.ev hx) (lookF_ok ft_ok hr)) hK
      · cases h
    · cases h
  · next d x _ hd ho' =>
    split at h
    · next p hn hx =>
      simp only [Option.some.injEq, Prod.mk.injEq] at h
      obtain ⟨rfl, rfl⟩ := h
      exact wpOp_go ho (okG_w H hg) _ hd _ w (by unfold execOp; simp only [show o.op = _ from ho', H.ev hx]; rfl) hK
    · cases h
  · cases h
theorem jl {T : Nat} {x : Operand} {p : Value} (hl : ∀ w, Wp w → (Instr.loadAt T p).run Tryz.prog w = .ok v w) (ho : ops[i]? = some o := by rfl) (hp : o.op = .load T x := by rfl) (hd : o.dst = some s := by rfl) (hg : okG ops l o = true := by rfl) (hx : evL l x = some p := by rfl) : PureE ops Q n l Wp i s v :=
  fun _ _ w H hw hK => wpOp_go ho (okG_w H hg) s hd v w (run_load hp (H.ev hx) (hl w hw)) hK
theorem jb {b : BinOp} {T T' : TypeId} {x y : Operand} {u u' : Value} (hq : ∀ w, (do eqGuard b T x y u u'; binOp b T u u' : Sem Value).run Tryz.prog w = .ok v w) (ho : ops[i]? = some o := by rfl) (hp : o.op = .binOp b T x y T' := by rfl) (hd : o.dst = some s := by rfl) (hg : okG ops l o = true := by rfl) (hx : evL l x = some u := by rfl) (hy : evL l y = some u' := by rfl) : PureE ops Q n l Wp i s v :=
  fun _ _ w H _ hK => wpOp_go ho (okG_w H hg) s hd v w (run_bin hp (H.ev hx) (H.ev hy) (hq w)) hK
theorem jB {b : BinOp} {T T' : TypeId} {x y : Operand} {u u' : Value} (ho : ops[i]? = some o) (hp : o.op = .binOp b T x y T') (hd : o.dst = some s) (hg : okG ops l o = true) (hx : evL l x = some u) (hy : evL l y = some u') (hq : ∀ w, (do eqGuard b T x y u u'; binOp b T u u' : Sem Value).run Tryz.prog w = .ok v w) : PureE ops Q n l Wp i s v :=
  jb hq ho hp hd hg hx hy
theorem js {x : Operand} {t : TypeId} {u : ByteArray} (ht : Tryz.prog.underlying t = some .string) (ho : ops[i]? = some o := by rfl) (hp : o.op = .call { callee := .builtin .len, args := #[x], argTypes := #[t] } := by rfl) (hd : o.dst = some s := by rfl) (hg : okG ops l o = true := by rfl) (hx : evL l x = some (.string u) := by rfl) (hv : v = .int .i64 (u.size : Int) := by rfl) : PureE ops Q n l Wp i s v :=
  fun _ _ w H _ hK => wpOp_go ho (okG_w H hg) s hd v w (by rw [hv]; exact run_lenS hp (H.ev hx) ht) hK
theorem jn {x : Operand} {t : TypeId} {A : Option Addr} {m c : Nat} {e : TypeId} (ht : Tryz.prog.underlying t = some (.slice e)) (ho : ops[i]? = some o := by rfl) (hp : o.op = .call { callee := .builtin .len, args := #[x], argTypes := #[t] } := by rfl) (hd : o.dst = some s := by rfl) (hg : okG ops l o = true := by rfl) (hx : evL l x = some (.slice A m c) := by rfl) (hv : v = .int .i64 (m : Int) := by rfl) : PureE ops Q n l Wp i s v :=
  fun _ _ w H _ hK => wpOp_go ho (okG_w H hg) s hd v w (by rw [hv]; exact run_len hp (H.ev hx) ht) hK
theorem jI {T : Nat} {x y : Operand} {u u' : Value} (ho : ops[i]? = some o) (hp : o.op = .indexAddr T x y) (hd : o.dst = some s) (hg : okG ops l o = true) (hx : evL l x = some u) (hy : evL l y = some u') (hq : ∀ w, (Instr.indexAt T u u').run Tryz.prog w = .ok v w) : PureE ops Q n l Wp i s v :=
  fun _ _ w H _ hK => wpOp_go ho (okG_w H hg) s hd v w (run_index hp (H.ev hx) (H.ev hy) (hq w)) hK
theorem jf {T f g off off0 : Nat} {x : Operand} (hf : ∀ g w, (Instr.fieldAt T (.pointer (some ⟨g, off0, none⟩)) f).run Tryz.prog w = .ok (.pointer (some ⟨g, off, none⟩)) w) (ho : ops[i]? = some o := by rfl) (hp : o.op = .fieldAddr T x f := by rfl) (hd : o.dst = some s := by rfl) (hg : okG ops l o = true := by rfl) (hx : evL l x = some (.pointer (some ⟨g, off0, none⟩)) := by rfl) (hv : v = .pointer (some ⟨g, off, none⟩) := by rfl) : PureE ops Q n l Wp i s v :=
  fun _ _ w H _ hK => wpOp_go ho (okG_w H hg) s hd v w (by rw [hv]; exact run_field hp (H.ev hx) hf) hK
theorem jc {T T' : TypeId} {x : Operand} {u : Value} (hq : ∀ w, (convert T T' u).run Tryz.prog w = .ok v w) (ho : ops[i]? = some o := by rfl) (hp : o.op = .convert T T' x := by rfl) (hd : o.dst = some s := by rfl) (hg : okG ops l o = true := by rfl) (hx : evL l x = some u := by rfl) : PureE ops Q n l Wp i s v :=
  fun _ _ w H _ hK => wpOp_go ho (okG_w H hg) s hd v w (run_conv hp (H.ev hx) (hq w)) hK
theorem jx {k : Nat} {x : Operand} {u : Value} (ho : ops[i]? = some o := by rfl) (hp : o.op = .extract x k := by rfl) (hd : o.dst = some s := by rfl) (hg : okG ops l o = true := by rfl) (hx : evL l x = some u := by rfl) (hq : ∀ w, (Instr.extract u k).run Tryz.prog w = .ok v w := by exact fun _ => rfl) : PureE ops Q n l Wp i s v :=
  fun _ _ w H _ hK => wpOp_go ho (okG_w H hg) s hd v w (run_extract hp (H.ev hx) (hq w)) hK
theorem jq {f : FuncId} {xs : Array Operand} {ats : Array TypeId} {vs : List Value} (hc : ∀ w, Wp w → Calls Tryz.prog f vs.toArray w fun e w' => e = .returned v ∧ w = w') (ho : ops[i]? = some o := by rfl) (hp : o.op = .call { callee := .value (.func f), args := xs, argTypes := ats } := by rfl) (hd : o.dst = some s := by rfl) (hg : okG ops l o = true := by rfl)
    (hx : evLs l xs.toList = some vs := by rfl) (hen : ∀ (args : Array Value) (w : World), (callFunc f args).run Tryz.prog w = .ok (.enter f args) w := by exact fun _ _ => by kernel_rfl) : PureE ops Q n l Wp i s v :=
  fun _ _ w H hw hK => wpOp_enter ho (okG_w H hg) s hd f _ (run_callH H hp hx hen) _ (quietC (hc w hw)) (by rintro _ _ ⟨rfl, rfl⟩; exact hK)
theorem jo (ho : ops[i]? = some o := by rfl) (hd : o.dst = some s := by rfl) (hg : offG ops l o = true := by rfl) : PureE ops Q n l Wp i s undef :=
  fun _ _ w H _ hK => wpOp_off ho (offG_w H hg) (by rw [hd]; exact hK)
theorem jp {c x y : Operand} {b : Bool} (ho : ops[i]? = some o := by rfl) (hp : o.op = .pick c x y := by rfl) (hd : o.dst = some s := by rfl) (hg : okG ops l o = true := by rfl) (hc : evL l c = some (.bool b) := by rfl) (hx : (bif b then evL l x else evL l y) = some v := by rfl) : PureE ops Q n l Wp i s v := by
  intro K a w H _ hK
  refine wpOp_go ho (okG_w H hg) s hd v w ?_ hK
  unfold execOp
  simp only [hp, H.ev hc]
  cases b with
  | true => rw [cond_true] at hx; rw [← H.ev hx]; rfl
  | false => rw [cond_false] at hx; rw [← H.ev hx]; rfl
theorem ja (hrun : ∀ w, (execOp (fun x => (evL l x).getD undef) o).run Tryz.prog w = .ok (.value v) w) (ho : ops[i]? = some o := by rfl) (hs : ∀ cs b, o.op ≠ .select cs b := by intro cs b h; cases h) (hk : o.op.operands.all (fun x => (evL l x).isSome) = true := by kernel_rfl) (hd : o.dst = some s := by rfl) (hg : okG ops l o = true := by rfl) : PureE ops Q n l Wp i s v :=
  fun _ _ w H _ hK => wpOp_go ho (okG_w H hg) s hd v w (run_any H hs hk (hrun w)) hK
theorem AllEv.app {a : Act} : ∀ {l l' : List (Nat × Value)}, AllEv a l → AllEv a l' → AllEv a (l ++ l')
  | [], _, _, h => h
  | _ :: _, _, h, h' => ⟨h.1, AllEv.app h.2 h'⟩
theorem EntC.e_op (t : EntC) : t.e.op = t.op := by unfold EntC.e; split <;> rfl
theorem known_ok {listed : Array Bool} {a : Act} {w : World} {es : List EntC} (hI : InvB n fixed (es.map EntC.e) Wp listed a w) {f : Array Edge} (hd : ∀ e ∈ f, Region.binds .any e = true → listed.getD e.on false = true) : ∀ {ts : List EntC}, (∀ t ∈ ts, t ∈ es) → AllEv a (knownE f.toList ts)
  | [], _ => trivial
  | t :: ts, h => by
    have ih := known_ok hI hd (ts := ts) fun u hu => h u (List.mem_cons_of_mem _ hu)
    unfold knownE
    cases hc : t.c with
    | none => exact ih
    | some v =>
      cases hb : aft f.toList t.op with
      | false => exact ih
      | true =>
        have hr : listed.getD t.op false = true := ran_of hd t.op (by unfold aft at hb; simpa using hb)
        have := hI.vs t.e (List.mem_map_of_mem (h t List.mem_cons_self)) (.inr (by rw [EntC.e_op]; exact hr))
        simp only [EntC.e, hc] at this
        exact ⟨this trivial, ih⟩
theorem pure_at {es : List EntC} : ∀ {ts : List EntC}, PureAll ops Q n fixed Wp es ts → ∀ t ∈ ts, ∀ v, t.c = some v → t.arm = false → PureE ops Q n (fixed ++ knownE (afts ops t.op) es) Wp t.op t.slot v
  | u :: us, h, t, ht, v, hv, hm => by
    unfold PureAll at h
    rcases List.mem_cons.1 ht with rfl | ht
    · rw [hv, hm] at h
      exact h.1
    · cases hc : u.c with
      | none => rw [hc] at h; exact pure_at h t ht v hv hm
      | some x =>
        cases ha : u.arm with
        | true => rw [hc, ha] at h; exact pure_at h t ht v hv hm
        | false => rw [hc, ha] at h; exact pure_at h.2 t ht v hv hm
theorem heavy_of {N : Nat} : ∀ {es : List EntC} {t : EntC}, t ∈ es → (t.c = none ∨ t.arm = true) → t.op < N → heavyL N es t.op
  | u :: us, t, ht, hc, hN => by
    unfold heavyL
    rcases List.mem_cons.1 ht with rfl | ht
    · have : Nat.blt t.op N = true := by simpa [Nat.blt_eq] using hN
      split
      · next h1 h2 =>
        rcases hc with hc | hc
        · rw [hc] at h1; cases h1
        · rw [hc] at h2; cases h2
      · simp only [this, cond_true, true_or]
    · have ih := heavy_of ht hc hN
      split
      · exact ih
      · cases Nat.blt u.op N with
        | true => exact .inr ih
        | false => exact ih
theorem start_of {N : Nat} {a : Act} {w : World} : ∀ {es : List EntC}, startL N a w es → ∀ t ∈ es, N ≤ t.op → t.e.p (a.eval (.tmp t.slot)) w
  | u :: us, h, t, ht, hN => by
    unfold startL at h
    cases hb : Nat.blt u.op N with
    | true =>
      rw [hb, cond_true] at h
      have : u.op < N := by simpa [Nat.blt_eq] using hb
      rcases List.mem_cons.1 ht with rfl | ht
      · omega
      · exact start_of h t ht hN
    | false =>
      rw [hb, cond_false] at h
      rcases List.mem_cons.1 ht with rfl | ht
      · have := h.1
        unfold EntC.e
        cases hc : t.c <;> (rw [hc] at this; exact this)
      · exact start_of h.2 t ht hN
theorem AllC.same {i : Nat} {listed : Array Bool} {w : World} : ∀ {es : List EntC}, AllC i listed w w es
  | [] => trivial
  | t :: ts => by
    unfold AllC
    cases t.c with
    | some v => exact AllC.same
    | none => exact ⟨fun _ _ _ _ _ h => h, AllC.same⟩
theorem AllC.all {i : Nat} {listed : Array Bool} {w w' : World} : ∀ {es : List EntC}, AllC i listed w w' es → AllSt i listed w w' (es.map EntC.e)
  | [], _ => trivial
  | t :: ts, h => by
    unfold AllC at h
    rw [List.map_cons]
    cases hc : t.c with
    | some v =>
      rw [hc] at h
      refine ⟨?_, AllC.all h⟩
      unfold EntC.e
      rw [hc]
      exact fun _ _ _ _ _ h => h
    | none =>
      rw [hc] at h
      refine ⟨?_, AllC.all h.2⟩
      unfold EntC.e
      rw [hc]
      exact h.1
/-- what an arm leaves. -/
theorem InvB.ph {es : List EntC} {listed : Array Bool} {a : Act} {w w' : World} {N : Nat} (h : InvB n fixed (es.map EntC.e) Wp listed a w) (hs : listed.size = N) (k : Nat) {t : EntC} (ht : es[k]? = some t) (v : Value) (hp : t.e.p v w') (hw : Wp' w') (hst : AllC t.op listed w w' es) (h1 : Nat.blt t.op N = true := by rfl)
    (h2 : Nat.ble N 1000 = true := by rfl) (hf : fitsB n fixed (es.map EntC.e) = true := by kernel_rfl) : InvB n fixed (es.map EntC.e) Wp' (listed.setIfInBounds t.e.op true) (a.put (some t.e.slot) v) w' :=
  h.put hf t.e (List.mem_map_of_mem (List.mem_of_getElem? ht)) (by rw [hs, EntC.e_op]; simpa [Nat.blt_eq] using h1) (by rw [hs]; simpa using h2) v hp hw (by rw [EntC.e_op]; exact hst.all)
theorem InvB.hs {es : List Ent} {listed : Array Bool} {a : Act} {w : World} (h : InvB n fixed es Wp listed a w) (ts : List Nat) : Has a n (fixed ++ ts.map fun t => (t, a.eval (.tmp t))) := by
  refine Has.of h.sz h.df (AllEv.app h.fx ?_)
  induction ts with
  | nil => trivial
  | cons t ts ih => exact ⟨rfl, ih⟩
theorem Has.dr {a : Act} {w W : World} {b : Nat} {bs : List (Nat × List Value)} {c : Code} {id : Nat} {Q' : Exit → Act → World → Prop} (H : Has a n l) (HB : Base W b bs w) (ss : List Nat) (hs : sel l ss = some fixed) (es : List EntC) (hc : peel Tryz.prog c Q' = (.region id ops true, Q)) (hp : PureAll ops Q n fixed (Base W b bs) es es) (h0 : startL ops.size a w.drew es)
    (hstep : ∀ (listed : Array Bool) (a : Act) (w : World) (i : Nat) (o : Oper), listed.size = ops.size → listed.getD i false = false → Closed .any ops listed → ops[i]? = some o → (∀ e ∈ o.after, Region.binds .any e = true → listed.getD e.on false = true) → InvB n fixed (es.map EntC.e) (Base W b bs) listed a w → heavyL ops.size es i →
      wpOp Tryz.prog ops Q i (fun a' w' => InvB n fixed (es.map EntC.e) (Base W b bs) (listed.setIfInBounds i true) a' w') a w)
    (hfin : ∀ (listed : Array Bool) (a : Act) (w : World), (∀ i, i < ops.size → listed.getD i false = true) → InvB n fixed (es.map EntC.e) (Base W b bs) listed a w → Q .normal a w)
    (hf : (fitsB n fixed (es.map EntC.e) && (coverB ops.size es && Nat.ble ops.size 1000)) = true := by kernel_rfl)
    (hback : (List.range ops.size).all (fun i => match ops[i]? with | some o => o.after.all (fun e => !Region.binds .any e || decide (e.on < i)) | none => true) = true := by kernel_rfl) (hm : Tryz.prog.follows .mixedOrders = true := by kernel_rfl) : c.wp Tryz.prog Q' a w := by
  simp only [Bool.and_eq_true] at hf
  obtain ⟨hf, hcv, hN⟩ := hf
  have hN : ops.size ≤ 1000 := by simpa using hN
  refine peel_wp c Q' ?_
  rw [hc]
  refine wp_region_invB hm (InvB n fixed (es.map EntC.e) (Base W b bs)) (back_of hback) ?_ hfin ⟨H.sz, H.df, sel_ok H hs, ?_, HB.drew⟩
  · intro listed a w i o hsz hni hcl ho hd hI
    have hi : i < ops.size := (Array.getElem?_eq_some_iff.1 ho).1
    have := List.all_eq_true.1 hcv i (List.mem_range.2 hi)
    obtain ⟨t, ht, he⟩ := List.any_eq_true.1 this
    have he : t.op = i := by simpa using he
    subst he
    cases hv : t.c with
    | none => exact hstep listed a w t.op o hsz hni hcl ho hd hI (heavy_of ht (.inl hv) hi)
    | some v =>
      cases hm : t.arm with
      | true => exact hstep listed a w t.op o hsz hni hcl ho hd hI (heavy_of ht (.inr hm) hi)
      | false =>
      have hk : afts ops t.op = o.after.toList := by unfold afts; rw [ho]
      have hK := hI.put hf t.e (List.mem_map_of_mem ht) (by rw [EntC.e_op, hsz]; exact hi) (by rw [hsz]; exact hN) v (by simp only [EntC.e, hv]) hI.wp AllSt.same
      rw [EntC.e_op] at hK
      have hsl : t.e.slot = t.slot := by simp only [EntC.e, hv]
      rw [hsl] at hK
      have hp' := pure_at hp t ht v hv hm
      rw [hk] at hp'
      exact hp' _ a w (Has.of hI.sz hI.df (AllEv.app hI.fx (known_ok hI hd fun _ h => h))) hI.wp hK
  · intro u hu hl _
    obtain ⟨t, ht, rfl⟩ := List.mem_map.1 hu
    rw [EntC.e_op] at hl
    have hsl : t.e.slot = t.slot := by unfold EntC.e; split <;> rfl
    rw [hsl]
    refine start_of h0 t ht ?_
    rcases hl with hl | hl
    · simpa using hl
    · rw [none_ran] at hl; cases hl
end
end Go.Proofs.YtlacidnnankjlaaGreatDoor

/-
  A region that draws its order, in few words, where what holds of the world depends on what has come up.
-/
namespace Go.Proofs.YtlacidnnankjlaaGreatDoor
open Go.RowKit

section
variable {ops : Array Oper} {Q : Exit → Act → World → Prop} {n : Nat} {l fixed : List (Nat × Value)} {Wp Wp' : World → Prop} {i s : Nat} {v : Value} {o : Oper}
theorem ju {b : UnOp} {T : TypeId} {x : Operand} {u : Value} (ho : ops[i]? = some o := by rfl) (hp : o.op = .unOp b T x := by rfl) (hd : o.dst = some s := by rfl) (hg : okG ops l o = true := by rfl) (hx : evL l x = some u := by rfl) (hq : ∀ w, (Op.unary b u).run Tryz.prog w = .ok v w := by exact fun _ => rfl) : PureE ops Q n l Wp i s v :=
  fun _ _ w H _ hK => wpOp_go ho (okG_w H hg) s hd v w (run_un hp (H.ev hx) (hq w)) hK
theorem run_store {P : Program} {a : Act} {w w' : World} {T : TypeId} {x y : Operand} {p v : Value} (ho : o.op = .store T x y) (hx : a.eval x = p) (hy : a.eval y = v) (hl : (Instr.storeAt T p v).run P w = .ok () w') : (execOp a.eval o).run P w = .ok .skip w' := by
  unfold execOp
  simp only [ho, hx, hy, Sem.run_bind, hl, Result.andThen_ok, Sem.run_pure]
/-- what holds of the world, by flags: which of the operations js have come up. -/
def Wfl (js : List Nat) (Wc : World → Prop) (Wf : List Bool → World → Prop) (listed : Array Bool) (w : World) : Prop := Wc w ∧ Wf (js.map fun j => listed.getD j false) w
def flagsSet (listed : Array Bool) (i : Nat) : List Nat → List Bool
  | [] => []
  | j :: js => (bif Nat.beq j i then true else listed.getD j false) :: flagsSet listed i js
theorem flags_set {listed : Array Bool} {i : Nat} (hi : i < listed.size) : ∀ js : List Nat, js.map (fun j => (listed.setIfInBounds i true).getD j false) = flagsSet listed i js
  | [] => rfl
  | j :: js => by
    rw [List.map_cons, flags_set hi js, flagsSet]
    congr 1
    cases hb : Nat.beq j i with
    | true =>
      have := Nat.eq_of_beq_eq_true hb
      subst this
      rw [ran_same listed hi, cond_true]
    | false =>
      have : i ≠ j := fun e => by subst e; rw [Nat.beq_refl] at hb; cases hb
      rw [ran_ne listed this, cond_false]
def anyL : List Nat → Nat → Prop
  | [], _ => False
  | d :: ds, i => i = d ∨ anyL ds i
theorem any_of {i : Nat} : ∀ {ds : List Nat}, i ∈ ds → anyL ds i
  | d :: ds, h => by
    rcases List.mem_cons.1 h with rfl | h
    · exact .inl rfl
    · exact .inr (any_of h)
def coverD (N : Nat) (es : List EntC) (ds : List Nat) : Bool := (List.range N).all (fun i => es.any (fun t => t.op == i) || ds.contains i)
def plainB (t : EntC) : Bool := t.c.isSome && !t.arm
theorem InvB.mono {es : List Ent} {listed : Array Bool} {a : Act} {w : World} (h : InvB n fixed es Wp listed a w) (hw : Wp w → Wp' w) : InvB n fixed es Wp' listed a w := ⟨h.sz, h.df, h.fx, h.vs, hw h.wp⟩
theorem Wfl.plain {js : List Nat} {Wc : World → Prop} {Wf : List Bool → World → Prop} {listed : Array Bool} {i : Nat} {w : World} (h : Wfl js Wc Wf listed w) (_hi : i < listed.size) (hj : i ∉ js) : Wfl js Wc Wf (listed.setIfInBounds i true) w := by
  refine ⟨h.1, ?_⟩
  have : (js.map fun j => (listed.setIfInBounds i true).getD j false) = js.map fun j => listed.getD j false := List.map_congr_left fun j hjm => ran_ne listed fun e => hj (by rw [e]; exact hjm)
  rw [this]
  exact h.2
/-- what an arm leaves, by flags. -/
theorem InvB.pf {es : List EntC} {js : List Nat} {Wc : World → Prop} {Wf : List Bool → World → Prop} {listed : Array Bool} {a : Act} {w w' : World} {N : Nat} (h : InvB n fixed (es.map EntC.e) (Wfl js Wc Wf listed) listed a w) (hs : listed.size = N) (k : Nat) {t : EntC} (ht : es[k]? = some t) (v : Value) (hp : t.e.p v w') (hc : Wc w') (hw : Wf (flagsSet listed t.op js) w') (hst : AllC t.op listed w w' es)
    (h1 : Nat.blt t.op N = true := by rfl) (h2 : Nat.ble N 1000 = true := by rfl) (hf : fitsB n fixed (es.map EntC.e) = true := by kernel_rfl) : InvB n fixed (es.map EntC.e) (Wfl js Wc Wf (listed.setIfInBounds t.e.op true)) (listed.setIfInBounds t.e.op true) (a.put (some t.e.slot) v) w' :=
  h.ph hs k ht v hp ⟨hc, by rw [EntC.e_op, flags_set (by rw [hs]; simpa [Nat.blt_eq] using h1)]; exact hw⟩ hst h1 h2 hf
/-- an arm of an operation that has no slot. -/
theorem InvB.pd {es : List EntC} {js : List Nat} {Wc : World → Prop} {Wf : List Bool → World → Prop} {listed : Array Bool} {a : Act} {w w' : World} {N : Nat} (h : InvB n fixed (es.map EntC.e) (Wfl js Wc Wf listed) listed a w) (hs : listed.size = N) (i : Nat) (hc : Wc w') (hw : Wf (flagsSet listed i js) w') (hst : AllC i listed w w' es)
    (h1 : Nat.blt i N = true := by rfl) (h2 : (es.map EntC.e).all (fun t => t.op != i) = true := by kernel_rfl) : InvB n fixed (es.map EntC.e) (Wfl js Wc Wf (listed.setIfInBounds i true)) (listed.setIfInBounds i true) a w' := by
  have hi : i < listed.size := by rw [hs]; simpa [Nat.blt_eq] using h1
  exact h.done i hi h2 ⟨hc, by rw [flags_set hi]; exact hw⟩ hst.all
theorem Has.dg {a : Act} {w : World} {c : Code} {id : Nat} {Q' : Exit → Act → World → Prop} (H : Has a n l) (js : List Nat) (Wc : World → Prop) (Wf : List Bool → World → Prop) (ss : List Nat) (hs : sel l ss = some fixed) (es : List EntC) (ds : List Nat) (hc : peel Tryz.prog c Q' = (.region id ops true, Q)) (hw : Wc w.drew) (hw' : Wf (js.map fun _ => false) w.drew) (hp : PureAll ops Q n fixed Wc es es) (h0 : startL ops.size a w.drew es)
    (hstep : ∀ (listed : Array Bool) (a : Act) (w : World) (i : Nat) (o : Oper), listed.size = ops.size → listed.getD i false = false → Closed .any ops listed → ops[i]? = some o → (∀ e ∈ o.after, Region.binds .any e = true → listed.getD e.on false = true) → InvB n fixed (es.map EntC.e) (Wfl js Wc Wf listed) listed a w → (heavyL ops.size es i ∨ anyL ds i) →
      wpOp Tryz.prog ops Q i (fun a' w' => InvB n fixed (es.map EntC.e) (Wfl js Wc Wf (listed.setIfInBounds i true)) (listed.setIfInBounds i true) a' w') a w)
    (hfin : ∀ (listed : Array Bool) (a : Act) (w : World), (∀ i, i < ops.size → listed.getD i false = true) → InvB n fixed (es.map EntC.e) (fun w => Wc w ∧ Wf (js.map fun _ => true) w) listed a w → Q .normal a w)
    (hf : (fitsB n fixed (es.map EntC.e) && (es.all (fun t => !plainB t || !js.contains t.op) && (js.all (fun j => Nat.blt j ops.size) && (coverD ops.size es ds && Nat.ble ops.size 1000)))) = true := by kernel_rfl)
    (hback : (List.range ops.size).all (fun i => match ops[i]? with | some o => o.after.all (fun e => !Region.binds .any e || decide (e.on < i)) | none => true) = true := by kernel_rfl) (hm : Tryz.prog.follows .mixedOrders = true := by kernel_rfl) : c.wp Tryz.prog Q' a w := by
  simp only [Bool.and_eq_true] at hf
  obtain ⟨hf, hpl, hjs, hcv, hN⟩ := hf
  have hN : ops.size ≤ 1000 := by simpa using hN
  refine peel_wp c Q' ?_
  rw [hc]
  refine wp_region_invB hm (fun listed => InvB n fixed (es.map EntC.e) (Wfl js Wc Wf listed) listed) (back_of hback) ?_ ?_ ⟨H.sz, H.df, sel_ok H hs, ?_, hw, ?_⟩
  · intro listed a w i o hsz hni hcl ho hd hI
    have hi : i < ops.size := (Array.getElem?_eq_some_iff.1 ho).1
    by_cases hmem : i ∈ es.map (·.op)
    · obtain ⟨t, ht, he⟩ := List.mem_map.1 hmem
      subst he
      cases hv : t.c with
      | none => exact hstep listed a w t.op o hsz hni hcl ho hd hI (.inl (heavy_of ht (.inl hv) hi))
      | some v =>
        cases hm : t.arm with
        | true => exact hstep listed a w t.op o hsz hni hcl ho hd hI (.inl (heavy_of ht (.inr hm) hi))
        | false =>
          have hk : afts ops t.op = o.after.toList := by unfold afts; rw [ho]
          have hnj : t.op ∉ js := by
            have := List.all_eq_true.1 hpl t ht
            simpa [plainB, hv, hm] using this
          have hK := (hI.put hf t.e (List.mem_map_of_mem ht) (by rw [EntC.e_op, hsz]; exact hi) (by rw [hsz]; exact hN) v (by simp only [EntC.e, hv]) hI.wp AllSt.same).mono (Wp' := Wfl js Wc Wf (listed.setIfInBounds t.op true)) fun h => h.plain (by rw [hsz]; exact hi) hnj
          rw [EntC.e_op] at hK
          have hsl : t.e.slot = t.slot := by simp only [EntC.e, hv]
          rw [hsl] at hK
          have hp' := pure_at hp t ht v hv hm
          rw [hk] at hp'
          exact hp' _ a w (Has.of hI.sz hI.df (AllEv.app hI.fx (known_ok hI hd fun _ h => h))) hI.wp.1 hK
    · have := List.all_eq_true.1 hcv i (List.mem_range.2 hi)
      simp only [Bool.or_eq_true] at this
      rcases this with h | h
      · obtain ⟨t, ht, he⟩ := List.any_eq_true.1 h
        exact absurd (List.mem_map.2 ⟨t, ht, by simpa using he⟩) hmem
      · exact hstep listed a w i o hsz hni hcl ho hd hI (.inr (any_of (by simpa using h)))
  · intro listed a w hall hI
    refine hfin listed a w hall (hI.mono fun h => ⟨h.1, ?_⟩)
    have : (js.map fun j => listed.getD j false) = js.map fun _ => true := List.map_congr_left fun j hj => hall j (by simpa [Nat.blt_eq] using List.all_eq_true.1 hjs j hj)
    rw [← this]
    exact h.2
  · intro u hu hl _
    obtain ⟨t, ht, rfl⟩ := List.mem_map.1 hu
    rw [EntC.e_op] at hl
    have hsl : t.e.slot = t.slot := by unfold EntC.e; split <;> rfl
    rw [hsl]
    refine start_of h0 t ht ?_
    rcases hl with hl | hl
    · simpa using hl
    · rw [none_ran] at hl; cases hl
  · have : (js.map fun j => (Array.replicate ops.size false).getD j false) = js.map fun _ => false := List.map_congr_left fun j _ => none_ran _ _
    rw [this]
    exact hw'
end
end Go.Proofs.YtlacidnnankjlaaGreatDoor

/-
  A region that draws its order, in few words: operations that may make memory too, each told by what it leaves.
-/
namespace Go.Proofs.YtlacidnnankjlaaGreatDoor
open Go.RowKit

theorem loadS_run {w : World} {g : Nat} {L : List Value} {m : Nat} (hC : Cells w g L) (hi : (Tryz.prog.info? 49).map (·.size) = some m := by exact size_mq) (hl : L.length = m := by rfl) : (Instr.loadAt 49 (.pointer (some ⟨g, 0, none⟩))).run Tryz.prog w = .ok (.agg L.toArray) w := by
  rw [← hl] at hi
  have := run_loadVar_mid w g 0 49 L _ hC.range Tryz.underlying49 rfl hi
  simp only [Instr.loadAt, Instr.sureAddr, Sem.run_bind, Sem.run_pure, Result.andThen_ok, this]
theorem Cells.sto {w : World} {g T m : Nat} {L0 L : List Value} (hC : Cells w g L0) (hm : (Tryz.prog.info? T).map (·.size) = some m) (h0 : L0.length = m) (h1 : L.length = m) (hc : L.all (·.oneCell') = true) :
    ∃ w', (Instr.storeAt T (.pointer (some ⟨g, 0, none⟩)) (.agg L.toArray)).run Tryz.prog w = .ok () w' ∧ w.grownBy w' (some g) ∧ w'.heap.size = w.heap.size ∧ Cells w' g L := by
  have ht : w.there g 0 L.toArray.size := by
    have := hC.there
    rw [h0, ← h1] at this
    simpa using this
  refine ⟨_, run_storeAt_mid w g 0 T L.toArray ht (by rw [hm, ← h1]; simp) (all_oneCell_toArray fun v hv => List.all_eq_true.1 hc v hv), (setCells_only g _ 0 w).2, (setCells_only g _ 0 w).1.size, ?_⟩
  intro j v hv
  have hj := (List.getElem?_eq_some_iff.1 hv).1
  have a := World.rangeAt_setCells_same w g 0 L (by simpa using ht) j v hv
  have b := (World.there_setCells (by simpa using ht) g 0 L j hj).2
  rw [Nat.zero_add] at a b
  exact ⟨a, b⟩
/-- what is told of the slots of the others that an operation, behind these edges, finds. -/
def KnownR (L : List Edge) (a : Act) (w : World) : List EntC → Prop
  | [] => True
  | ⟨k, s, _, c, q, _⟩ :: ts => match c with
    | some _ => KnownR L a w ts
    | none => bif aft L k then (q (a.eval (.tmp s)) w ∧ KnownR L a w ts) else KnownR L a w ts
/-- what an operation that may make memory must do. -/
def HeavyE (ops : Array Oper) (Q : Exit → Act → World → Prop) (n : Nat) (fixed : List (Nat × Value)) (Wp : World → Prop) (es : List EntC) (t : EntC) : Prop :=
  ∀ (K : Act → World → Prop) (a : Act) (w : World), Has a n (fixed ++ knownE (afts ops t.op) es) → KnownR (afts ops t.op) a w es → Wp w → (∀ v w', t.e.p v w' → Below w.heap.size w w' → K (a.put (some t.slot) v) w') → wpOp Tryz.prog ops Q t.op K a w
def HeavyAll (ops : Array Oper) (Q : Exit → Act → World → Prop) (n : Nat) (fixed : List (Nat × Value)) (Wp : World → Prop) (es : List EntC) : List EntC → Prop
  | [] => True
  | ⟨k, s, ks, c, q, m⟩ :: ts => match c, m with
    | some _, false => HeavyAll ops Q n fixed Wp es ts
    | _, _ => HeavyE ops Q n fixed Wp es ⟨k, s, ks, c, q, m⟩ ∧ HeavyAll ops Q n fixed Wp es ts
/-- what is told stays, whatever memory is made. -/
def StabAll : List EntC → Prop
  | [] => True
  | ⟨_, _, _, c, q, _⟩ :: ts => match c with
    | some _ => StabAll ts
    | none => (∀ u w w', Below w.heap.size w w' → q u w → q u w') ∧ StabAll ts
def finV : List EntC → List (Nat × Value)
  | [] => []
  | ⟨_, s, _, c, _, _⟩ :: ts => match c with
    | some v => (s, v) :: finV ts
    | none => finV ts
def FinR (a : Act) (w : World) : List EntC → Prop
  | [] => True
  | ⟨_, s, _, c, q, _⟩ :: ts => match c with
    | some _ => FinR a w ts
    | none => q (a.eval (.tmp s)) w ∧ FinR a w ts
theorem StabAll.all {i : Nat} {listed : Array Bool} {w w' : World} (hb : Below w.heap.size w w') : ∀ {es : List EntC}, StabAll es → AllC i listed w w' es
  | [], _ => trivial
  | t :: ts, h => by
    unfold StabAll at h
    unfold AllC
    cases hc : t.c with
    | some v => rw [hc] at h; exact StabAll.all hb h
    | none =>
      rw [hc] at h
      exact ⟨fun _ _ _ _ u hu => h.1 u w w' hb hu, StabAll.all hb h.2⟩
section
variable {ops : Array Oper} {Q : Exit → Act → World → Prop} {n : Nat} {l fixed : List (Nat × Value)} {Wp : World → Prop} {es : List EntC} {i s : Nat} {v : Value} {o : Oper}
theorem heavy_at : ∀ {ts : List EntC}, HeavyAll ops Q n fixed Wp es ts → ∀ t ∈ ts, (t.c = none ∨ t.arm = true) → HeavyE ops Q n fixed Wp es t
  | u :: us, h, t, ht, hc => by
    unfold HeavyAll at h
    rcases List.mem_cons.1 ht with rfl | ht
    · split at h
      · next h1 h2 =>
        rcases hc with hc | hc
        · rw [hc] at h1; cases h1
        · rw [hc] at h2; cases h2
      · exact h.1
    · split at h
      · exact heavy_at h t ht hc
      · exact heavy_at h.2 t ht hc
theorem heavy_ex {N i : Nat} : ∀ {ts : List EntC}, heavyL N ts i → ∃ t ∈ ts, t.op = i ∧ (t.c = none ∨ t.arm = true)
  | u :: us, h => by
    unfold heavyL at h
    have go : heavyL N us i → ∃ t ∈ u :: us, t.op = i ∧ (t.c = none ∨ t.arm = true) := fun h => by
      obtain ⟨t, ht, hx⟩ := heavy_ex h
      exact ⟨t, List.mem_cons_of_mem _ ht, hx⟩
    split at h
    · exact go h
    · next h1 =>
      cases hb : Nat.blt u.op N with
      | false => rw [hb, cond_false] at h; exact go h
      | true =>
        rw [hb, cond_true] at h
        rcases h with h | h
        · refine ⟨u, List.mem_cons_self, h.symm, ?_⟩
          cases hc : u.c with
          | none => exact .inl rfl
          | some v =>
            cases hm : u.arm with
            | true => exact .inr rfl
            | false => exact (h1 v hc hm).elim
        · exact go h
theorem knownR_ok {listed : Array Bool} {a : Act} {w : World} (hI : InvB n fixed (es.map EntC.e) Wp listed a w) (hkill : es.all (fun t => t.kill.isEmpty) = true) {f : Array Edge} (hd : ∀ e ∈ f, Region.binds .any e = true → listed.getD e.on false = true) : ∀ {ts : List EntC}, (∀ t ∈ ts, t ∈ es) → KnownR f.toList a w ts
  | [], _ => trivial
  | t :: ts, h => by
    have ih := knownR_ok hI hkill hd (ts := ts) fun u hu => h u (List.mem_cons_of_mem _ hu)
    have ht := h t List.mem_cons_self
    unfold KnownR
    cases hc : t.c with
    | some v => exact ih
    | none =>
      cases hb : aft f.toList t.op with
      | false => exact ih
      | true =>
        have hr : listed.getD t.op false = true := ran_of hd t.op (by unfold aft at hb; simpa using hb)
        have hk : t.kill = [] := by simpa using List.all_eq_true.1 hkill t ht
        have := hI.vs t.e (List.mem_map_of_mem ht) (.inr (by rw [EntC.e_op]; exact hr)) (by simp only [EntC.e, hc, hk]; trivial)
        simp only [EntC.e, hc] at this
        exact ⟨this, ih⟩
theorem finV_ok {listed : Array Bool} {a : Act} {w : World} (hI : InvB n fixed (es.map EntC.e) Wp listed a w) (hall : ∀ t ∈ es, listed.getD t.op false = true) : ∀ {ts : List EntC}, (∀ t ∈ ts, t ∈ es) → AllEv a (finV ts)
  | [], _ => trivial
  | t :: ts, h => by
    have ih := finV_ok hI hall (ts := ts) fun u hu => h u (List.mem_cons_of_mem _ hu)
    have ht := h t List.mem_cons_self
    unfold finV
    cases hc : t.c with
    | none => exact ih
    | some v =>
      have := hI.vs t.e (List.mem_map_of_mem ht) (.inr (by rw [EntC.e_op]; exact hall t ht)) (by simp only [EntC.e, hc]; trivial)
      simp only [EntC.e, hc] at this
      exact ⟨this, ih⟩
theorem finR_ok {listed : Array Bool} {a : Act} {w : World} (hI : InvB n fixed (es.map EntC.e) Wp listed a w) (hkill : es.all (fun t => t.kill.isEmpty) = true) (hall : ∀ t ∈ es, listed.getD t.op false = true) : ∀ {ts : List EntC}, (∀ t ∈ ts, t ∈ es) → FinR a w ts
  | [], _ => trivial
  | t :: ts, h => by
    have ih := finR_ok hI hkill hall (ts := ts) fun u hu => h u (List.mem_cons_of_mem _ hu)
    have ht := h t List.mem_cons_self
    unfold FinR
    cases hc : t.c with
    | some v => exact ih
    | none =>
      have hk : t.kill = [] := by simpa using List.all_eq_true.1 hkill t ht
      have := hI.vs t.e (List.mem_map_of_mem ht) (.inr (by rw [EntC.e_op]; exact hall t ht)) (by simp only [EntC.e, hc, hk]; trivial)
      simp only [EntC.e, hc] at this
      exact ⟨this, ih⟩
/-- a region that draws: the table, a reason for each operation. -/
theorem Has.dq {a : Act} {w : World} {c : Code} {id : Nat} {Q' : Exit → Act → World → Prop} (H : Has a n l) (Wp : World → Prop) (hk : ∀ w w', Wp w → Below w.heap.size w w' → Wp w') (hw : Wp w) (ss : List Nat) (hs : sel l ss = some fixed) (es : List EntC) (hc : peel Tryz.prog c Q' = (.region id ops true, Q)) (hp : PureAll ops Q n fixed Wp es es) (hh : HeavyAll ops Q n fixed Wp es es)
    (hfin : ∀ (a : Act) (w : World), Has a n (fixed ++ finV es) → FinR a w es → Wp w → Q .normal a w) (hst : StabAll es := by exact trivial) (h0 : startL ops.size a w.drew es := by exact trivial)
    (hf : (fitsB n fixed (es.map EntC.e) && (es.all (fun t => !plainB t || !([] : List Nat).contains t.op) && (([] : List Nat).all (fun j => Nat.blt j ops.size) && (coverD ops.size es [] && Nat.ble ops.size 1000)))) = true := by kernel_rfl)
    (hl : (es.all (fun t => t.kill.isEmpty) && es.all (fun t => Nat.blt t.op ops.size)) = true := by kernel_rfl)
    (hback : (List.range ops.size).all (fun i => match ops[i]? with | some o => o.after.all (fun e => !Region.binds .any e || decide (e.on < i)) | none => true) = true := by kernel_rfl) (hm : Tryz.prog.follows .mixedOrders = true := by kernel_rfl) : c.wp Tryz.prog Q' a w := by
  have hf' := hf
  simp only [Bool.and_eq_true] at hf' hl
  obtain ⟨hf1, _, _, _, hN⟩ := hf'
  have hN : ops.size ≤ 1000 := by simpa using hN
  refine H.dg [] Wp (fun _ _ => True) ss hs es [] hc (hk _ _ hw (Below.drew (Below.refl _ _))) trivial hp h0 ?_ ?_ hf hback hm
  · intro listed a w i o hsz hni hcl ho hd hI hh'
    have hh' : heavyL ops.size es i := by
      rcases hh' with h | h
      · exact h
      · exact False.elim h
    obtain ⟨t, ht, rfl, hx⟩ := heavy_ex hh'
    have hi : t.op < listed.size := by rw [hsz]; exact (Array.getElem?_eq_some_iff.1 ho).1
    have hkk : afts ops t.op = o.after.toList := by unfold afts; rw [ho]
    have hE := heavy_at hh t ht hx
    unfold HeavyE at hE
    rw [hkk] at hE
    refine hE _ a w (Has.of hI.sz hI.df (AllEv.app hI.fx (known_ok hI hd fun _ h => h))) (knownR_ok hI hl.1 hd fun _ h => h) hI.wp.1 ?_
    intro v w' hpv hb
    have := hI.put (Wp' := Wfl [] Wp (fun _ _ => True) (listed.setIfInBounds t.op true)) hf1 t.e (List.mem_map_of_mem ht) (by rw [EntC.e_op]; exact hi) (by rw [hsz]; exact hN) v hpv ⟨hk _ _ hI.wp.1 hb, trivial⟩ (StabAll.all hb hst).all
    rw [EntC.e_op] at this
    have hsl : t.e.slot = t.slot := by unfold EntC.e; split <;> rfl
    rw [hsl] at this
    exact this
  · intro listed a w hall hI
    have hall' : ∀ t ∈ es, listed.getD t.op false = true := fun t ht => hall t.op (by simpa [Nat.blt_eq] using List.all_eq_true.1 hl.2 t ht)
    exact hfin a w (Has.of hI.sz hI.df (AllEv.app hI.fx (finV_ok hI hall' fun _ h => h))) (finR_ok hI hl.1 hall' fun _ h => h) hI.wp.1
/-- a call that makes memory, its value told. -/
theorem kb {f : FuncId} {xs : Array Operand} {ats : Array TypeId} {vs : List Value} (hc : ∀ w, Wp w → Calls Tryz.prog f vs.toArray w fun e w' => e = .returned v ∧ Below w.heap.size w w') (ho : ops[i]? = some o := by rfl) (hp : o.op = .call { callee := .value (.func f), args := xs, argTypes := ats } := by rfl) (hd : o.dst = some s := by rfl)
    (hg : okG ops (fixed ++ knownE (afts ops i) es) o = true := by rfl) (hx : evLs (fixed ++ knownE (afts ops i) es) xs.toList = some vs := by rfl) (hen : ∀ (args : Array Value) (w : World), (callFunc f args).run Tryz.prog w = .ok (.enter f args) w := by exact fun _ _ => by kernel_rfl) : HeavyE ops Q n fixed Wp es (eh i s v) :=
  fun _ _ w H _ hw hK => wpOp_enter ho (okG_w H hg) s hd f _ (run_callH H hp hx hen) _ (belowC (hc w hw)) (by rintro _ w' ⟨rfl, hb⟩; exact hK _ w' rfl hb)
/-- a call that makes memory, its value told by what holds of it. -/
theorem kr {f : FuncId} {xs : Array Operand} {ats : Array TypeId} {vs : List Value} {q : Value → World → Prop} (hc : ∀ w, Wp w → Calls Tryz.prog f vs.toArray w fun e w' => ∃ v, e = .returned v ∧ (q v w' ∧ Below w.heap.size w w')) (ho : ops[i]? = some o := by rfl) (hp : o.op = .call { callee := .value (.func f), args := xs, argTypes := ats } := by rfl) (hd : o.dst = some s := by rfl)
    (hg : okG ops (fixed ++ knownE (afts ops i) es) o = true := by rfl) (hx : evLs (fixed ++ knownE (afts ops i) es) xs.toList = some vs := by rfl) (hen : ∀ (args : Array Value) (w : World), (callFunc f args).run Tryz.prog w = .ok (.enter f args) w := by exact fun _ _ => by kernel_rfl) : HeavyE ops Q n fixed Wp es (er i s [] q) :=
  fun _ _ w H _ hw hK => wpOp_enter ho (okG_w H hg) s hd f _ (run_callH H hp hx hen) _ (hc w hw) (by rintro _ w' ⟨hq, hb⟩; exact hK _ w' hq hb)
/-- one that is not wanted. -/
theorem ko (ho : ops[i]? = some o := by rfl) (hd : o.dst = some s := by rfl) (hg : offG ops (fixed ++ knownE (afts ops i) es) o = true := by rfl) : HeavyE ops Q n fixed Wp es (eh i s undef) :=
  fun _ _ w H _ _ hK => wpOp_off ho (offG_w H hg) (by rw [hd]; exact hK undef w rfl (Below.refl _ _))
theorem kor {q : Value → World → Prop} (hq : ∀ w, q undef w) (ho : ops[i]? = some o := by rfl) (hd : o.dst = some s := by rfl) (hg : offG ops (fixed ++ knownE (afts ops i) es) o = true := by rfl) : HeavyE ops Q n fixed Wp es (er i s [] q) :=
  fun _ _ w H _ _ hK => wpOp_off ho (offG_w H hg) (by rw [hd]; exact hK undef w (hq w) (Below.refl _ _))
/-- a call whose arguments are told by what holds of them. -/
theorem kc {f : FuncId} {xs : Array Operand} {ats : Array TypeId} {t : EntC} (hc : ∀ a w, Has a n (fixed ++ knownE (afts ops t.op) es) → KnownR (afts ops t.op) a w es → Wp w → ∃ vs : List Value, xs.toList.map a.eval = vs ∧ Calls Tryz.prog f vs.toArray w fun e w' => ∃ v, e = .returned v ∧ (t.e.p v w' ∧ Below w.heap.size w w')) (ho : ops[t.op]? = some o := by rfl)
    (hp : o.op = .call { callee := .value (.func f), args := xs, argTypes := ats } := by rfl) (hd : o.dst = some t.slot := by rfl) (hg : okG ops (fixed ++ knownE (afts ops t.op) es) o = true := by rfl) (hen : ∀ (args : Array Value) (w : World), (callFunc f args).run Tryz.prog w = .ok (.enter f args) w := by exact fun _ _ => by kernel_rfl) : HeavyE ops Q n fixed Wp es t := by
  intro K a w H hr hw hK
  obtain ⟨vs, e, hc⟩ := hc a w H hr hw
  exact wpOp_enter ho (okG_w H hg) t.slot hd f _ (run_call hp (by rw [← e, ← Array.toList_map, Array.toArray_toList]) hen) _ hc (by rintro _ w' ⟨hq, hb⟩; exact hK _ w' hq hb)
theorem kx {t : EntC} (hrun : ∀ a w, Has a n (fixed ++ knownE (afts ops t.op) es) → KnownR (afts ops t.op) a w es → Wp w → ∃ v w', (execOp a.eval o).run Tryz.prog w = .ok (.value v) w' ∧ t.e.p v w' ∧ Below w.heap.size w w') (ho : ops[t.op]? = some o := by rfl) (hd : o.dst = some t.slot := by rfl)
    (hg : okG ops (fixed ++ knownE (afts ops t.op) es) o = true := by rfl) : HeavyE ops Q n fixed Wp es t := by
  intro K a w H hr hw hK
  obtain ⟨v, w', h, hq, hb⟩ := hrun a w H hr hw
  exact wpOp_go ho (okG_w H hg) t.slot hd v w' h (hK v w' hq hb)
end
end Go.Proofs.YtlacidnnankjlaaGreatDoor

/-
  A region that draws its order, walked like one that does not: what makes memory or stores comes in one order (each behind the one before it), the rest comes up whenever it may.
-/
namespace Go.Proofs.YtlacidnnankjlaaGreatDoor
open Go.RowKit

def memN : List Nat → Nat → Bool
  | [], _ => false
  | x :: l, k => bif Nat.beq x k then true else memN l k
theorem memN_ok {k : Nat} : ∀ {l : List Nat}, memN l k = true → k ∈ l
  | x :: l, h => by
    unfold memN at h
    cases hb : Nat.beq x k with
    | true => rw [Nat.eq_of_beq_eq_true hb]; exact List.mem_cons_self
    | false => rw [hb, cond_false] at h; exact List.mem_cons_of_mem _ (memN_ok h)
theorem memN_of {k : Nat} : ∀ {l : List Nat}, k ∈ l → memN l k = true
  | x :: l, h => by
    unfold memN
    rcases List.mem_cons.1 h with rfl | h
    · rw [Nat.beq_refl, cond_true]
    · cases Nat.beq x k with
      | true => rfl
      | false => exact memN_of h
/-- all that must have come up when these have. -/
def ons : List Edge → List Nat → List Nat
  | [], S => S
  | e :: L, S => bif Region.binds .any e then e.on :: ons L S else ons L S
def ancGo (ops : Array Oper) : Nat → List Nat → List Nat
  | 0, S => S
  | i + 1, S => ancGo ops i (bif memN S i then ons (afts ops i) S else S)
def doneN (ops : Array Oper) (h : Nat) (done : List Nat) : List Nat := ancGo ops (h + 1) (h :: done)
theorem ons_ok {listed : Array Bool} : ∀ {L : List Edge} {S : List Nat}, (∀ e ∈ L, Region.binds .any e = true → listed.getD e.on false = true) → (∀ j ∈ S, listed.getD j false = true) → ∀ j ∈ ons L S, listed.getD j false = true
  | [], S, _, hS, j, hj => hS j hj
  | e :: L, S, hL, hS, j, hj => by
    have ih := ons_ok (L := L) (S := S) (fun e' he => hL e' (List.mem_cons_of_mem _ he)) hS
    unfold ons at hj
    cases hb : Region.binds .any e with
    | true =>
      rw [hb, cond_true] at hj
      rcases List.mem_cons.1 hj with rfl | hj
      · exact hL e List.mem_cons_self hb
      · exact ih j hj
    | false => rw [hb, cond_false] at hj; exact ih j hj
theorem anc_ok {ops : Array Oper} {listed : Array Bool} (hc : Closed .any ops listed) : ∀ (i : Nat) {S : List Nat}, (∀ j ∈ S, listed.getD j false = true) → ∀ j ∈ ancGo ops i S, listed.getD j false = true
  | 0, _, hS, j, hj => hS j hj
  | i + 1, S, hS, j, hj => by
    unfold ancGo at hj
    refine anc_ok hc i ?_ j hj
    cases hb : memN S i with
    | false => rw [cond_false]; exact hS
    | true =>
      rw [cond_true]
      have hi := hS i (memN_ok hb)
      refine ons_ok ?_ hS
      intro e he hbd
      unfold afts at he
      split at he
      · next o ho => exact hc i o ho hi e (by simpa using he) hbd
      · cases he
theorem anc_sub {ops : Array Oper} : ∀ (i : Nat) {S : List Nat}, ∀ j ∈ S, j ∈ ancGo ops i S
  | 0, _, j, hj => hj
  | i + 1, S, j, hj => by
    unfold ancGo
    refine anc_sub i j ?_
    cases memN S i with
    | false => exact hj
    | true =>
      rw [cond_true]
      generalize afts ops i = L
      induction L with
      | nil => exact hj
      | cons e L ih =>
        unfold ons
        cases Region.binds .any e with
        | true => exact List.mem_cons_of_mem _ ih
        | false => exact ih
def dropE (drop : List Nat) : List EntC → List EntC
  | [] => []
  | ⟨k, s, ks, c, q, m⟩ :: ts => bif memN drop k then dropE drop ts else ⟨k, s, ks, c, q, m⟩ :: dropE drop ts
theorem dropE_ok {drop : List Nat} : ∀ {es : List EntC} {t : EntC}, t ∈ dropE drop es → t ∈ es ∧ memN drop t.op = false
  | u :: us, t, h => by
    unfold dropE at h
    cases hb : memN drop u.op with
    | true => rw [hb, cond_true] at h; exact ⟨List.mem_cons_of_mem _ (dropE_ok h).1, (dropE_ok h).2⟩
    | false =>
      rw [hb, cond_false] at h
      rcases List.mem_cons.1 h with rfl | h
      · exact ⟨List.mem_cons_self, hb⟩
      · exact ⟨List.mem_cons_of_mem _ (dropE_ok h).1, (dropE_ok h).2⟩
theorem dropE_in {drop : List Nat} : ∀ {es : List EntC} {t : EntC}, t ∈ es → memN drop t.op = true ∨ t ∈ dropE drop es
  | u :: us, t, h => by
    unfold dropE
    rcases List.mem_cons.1 h with rfl | h
    · cases hb : memN drop t.op with
      | true => exact .inl rfl
      | false => rw [cond_false]; exact .inr List.mem_cons_self
    · rcases dropE_in (drop := drop) h with h | h
      · exact .inl h
      · cases hb : memN drop u.op with
        | true => rw [cond_true]; exact .inr h
        | false => rw [cond_false]; exact .inr (List.mem_cons_of_mem _ h)
/-- what is told of slots stays so over one step. -/
def Keeps (w w' : World) : List EntC → Prop
  | [] => True
  | ⟨_, _, _, c, q, _⟩ :: ts => match c with
    | some _ => Keeps w w' ts
    | none => (∀ u, q u w → q u w') ∧ Keeps w w' ts
theorem Keeps.get {w w' : World} : ∀ {es : List EntC}, Keeps w w' es → ∀ t ∈ es, ∀ u, t.e.p u w → t.e.p u w'
  | t :: ts, h, u, hu, v, hv => by
    unfold Keeps at h
    rcases List.mem_cons.1 hu with rfl | hu
    · cases hc : u.c with
      | some x => simp only [EntC.e, hc] at hv ⊢; exact hv
      | none =>
        rw [hc] at h
        simp only [EntC.e, hc] at hv ⊢
        exact h.1 v hv
    · split at h
      · exact Keeps.get h u hu v hv
      · exact Keeps.get h.2 u hu v hv
theorem StabAll.keeps {w w' : World} (hb : Below w.heap.size w w') : ∀ {es : List EntC}, StabAll es → Keeps w w' es
  | [], _ => trivial
  | t :: ts, h => by
    unfold StabAll at h
    unfold Keeps
    cases hc : t.c with
    | some v => rw [hc] at h; exact StabAll.keeps hb h
    | none =>
      rw [hc] at h
      exact ⟨fun u hu => h.1 u w w' hb hu, StabAll.keeps hb h.2⟩
theorem run_app {P : Program} {o : Oper} {a : Act} {w : World} {s x : Operand} {t : TypeId} (ho : o.op = .call { callee := .builtin .append, args := #[s, x], argTypes := #[t, t] }) {base : Nat} {e : TypeId} {z : Value} {size bytes : Nat} (ht : P.underlying t = some (.slice e)) (hi : (P.info? e).map (fun i => (i.zero, i.size, i.bytes)) = some (some z, size, bytes)) (hzs : z.cells.size = size) (hsz : 0 < size)
    {v : Value} {n : Nat} {xs : List Value} (hs : a.eval s = v) (hown : w.ownsRow base e size v n xs) {A : Option Addr} {m c : Nat} {ys : List Value} (hx : a.eval x = .slice A m c) (hr : Reads w w.heap.size size A m ys) (h1 : ∀ u ∈ ys, u.oneCell' = true) (hn : n + m ≤ maxLen) (hb : (n + m) * bytes ≤ 140737488355328) (hbase : base ≤ w.heap.size) :
    ∃ A' c' w', (execOp a.eval o).run P w = .ok (.value (.slice A' (n + m) c')) w' ∧ w'.ownsRow base e size (.slice A' (n + m) c') (n + m) (xs ++ ys) ∧ w.grownBy w' v.ownBlock := by
  obtain ⟨A', c', w', hrun, h2, h3⟩ := run_append_read (P := P) w base t o.type e z size bytes ht hi hzs hsz v n xs hown w.heap.size A m c ys hr h1 hn hb hbase
  refine ⟨A', c', w', ?_, h2, h3⟩
  unfold execOp
  simp only [ho, resolve, invoke, builtin, Sem.run_bind, Sem.run_pure, Result.andThen_ok, List.map_toArray, List.map_cons, List.map_nil, hs, hx, hrun]
section
variable {ops : Array Oper} {Q : Exit → Act → World → Prop} {n : Nat} {l fixed : List (Nat × Value)} {F : World → Prop} {es : List EntC} {done : List Nat}
def LightAll (ops : Array Oper) (Q : Exit → Act → World → Prop) (n : Nat) (fixed : List (Nat × Value)) (F : World → Prop) (es : List EntC) (done : List Nat) : List EntC → Prop
  | [] => True
  | ⟨k, s, ks, c, q, m⟩ :: ts => bif memN done k then LightAll ops Q n fixed F es done ts else match c, m with
    | some v, false => PureE ops Q n (fixed ++ knownE (afts ops k) es) F k s v ∧ LightAll ops Q n fixed F es done ts
    | _, _ => HeavyE ops Q n fixed F es ⟨k, s, ks, c, q, m⟩ ∧ LightAll ops Q n fixed F es done ts
/-- in the middle of a region: what the operations of es leave is told, those of done have come up, F holds of the world, and no other has come up. -/
def St (ops : Array Oper) (Q : Exit → Act → World → Prop) (n : Nat) (fixed : List (Nat × Value)) (es : List EntC) (F : World → Prop) (done : List Nat) : Prop :=
  ∀ (fuel : Nat) (listed : Array Bool) (a : Act) (w : World), listed.size = ops.size → listed.toList.count false ≤ fuel → Closed .any ops listed → (∀ j, listed.getD j false = true → j ∈ done ∨ ∃ t ∈ es, t.op = j) → (∀ j ∈ done, listed.getD j false = true) → InvB n fixed (es.map EntC.e) F listed a w →
    wpAny Tryz.prog .any ops Q fuel listed a w
/-- the table fits; what it does not name must wait for h, or for another one that it does not name. -/
def stB (ops : Array Oper) (n : Nat) (fixed : List (Nat × Value)) (es : List EntC) (done : List Nat) (h : Nat) : Bool :=
  fitsB n fixed (es.map EntC.e) && (es.all (fun t => t.kill.isEmpty && Nat.blt t.op ops.size) && (!memN done h && (es.all (fun t => t.op != h) && (List.range ops.size).all (fun k => memN done k || (es.any (fun t => t.op == k) || (Nat.beq k h || (afts ops k).any (fun e => Region.binds .any e && (!memN done e.on && es.all (fun t => t.op != e.on)))))))))
theorem light_at : ∀ {ts : List EntC}, LightAll ops Q n fixed F es done ts → ∀ t ∈ ts, t.op ∉ done → (∃ v, t.c = some v ∧ t.arm = false ∧ PureE ops Q n (fixed ++ knownE (afts ops t.op) es) F t.op t.slot v) ∨ (plainB t = false ∧ HeavyE ops Q n fixed F es t)
  | u :: us, h, t, ht, hd => by
    unfold LightAll at h
    rcases List.mem_cons.1 ht with rfl | ht
    · have hm : memN done t.op = false := by
        cases hb : memN done t.op with
        | false => rfl
        | true => exact absurd (memN_ok hb) hd
      rw [hm, cond_false] at h
      split at h
      · next h1 h2 => exact .inl ⟨_, h1, h2, h.1⟩
      · next h1 =>
        refine .inr ⟨?_, h.1⟩
        unfold plainB
        cases hc : t.c with
        | none => rfl
        | some v =>
          cases hm : t.arm with
          | true => rfl
          | false => exact (h1 v hc hm).elim
    · cases hb : memN done u.op with
      | true => rw [hb, cond_true] at h; exact light_at h t ht hd
      | false =>
        rw [hb, cond_false] at h
        split at h
        · exact light_at h.2 t ht hd
        · exact light_at h.2 t ht hd
theorem not_ran {listed : Array Bool} {j : Nat} (h : ¬ listed.getD j false = true) : listed.getD j false = false := by
  cases hb : listed.getD j false with
  | false => rfl
  | true => exact absurd hb h
/-- one of the table's operations comes up. -/
theorem st_light (hfit : fitsB n fixed (es.map EntC.e) = true) (hkill : es.all (fun t => t.kill.isEmpty) = true) (hN : ops.size ≤ 1000) (hF : es.all plainB = true ∨ ∀ w w', F w → Below w.heap.size w w' → F w') (hstab : StabAll es) (hl : LightAll ops Q n fixed F es done es) {fuel : Nat} {listed : Array Bool} {a : Act} {w : World} {i : Nat} {o : Oper}
    (ih : ∀ (listed : Array Bool) (a : Act) (w : World), listed.size = ops.size → listed.toList.count false ≤ fuel → Closed .any ops listed → (∀ j, listed.getD j false = true → j ∈ done ∨ ∃ t ∈ es, t.op = j) → (∀ j ∈ done, listed.getD j false = true) → InvB n fixed (es.map EntC.e) F listed a w → wpAny Tryz.prog .any ops Q fuel listed a w)
    (hs : listed.size = ops.size) (hc : listed.toList.count false ≤ fuel + 1) (hcl : Closed .any ops listed) (hsub : ∀ j, listed.getD j false = true → j ∈ done ∨ ∃ t ∈ es, t.op = j) (hdn : ∀ j ∈ done, listed.getD j false = true) (hI : InvB n fixed (es.map EntC.e) F listed a w)
    (h0 : listed.getD i false = false) (ho : ops[i]? = some o) (hd : ∀ e ∈ o.after, Region.binds .any e = true → listed.getD e.on false = true) (hm : ∃ t ∈ es, t.op = i) : wpOp Tryz.prog ops Q i (fun a' w' => wpAny Tryz.prog .any ops Q fuel (listed.setIfInBounds i true) a' w') a w := by
  obtain ⟨t, ht, rfl⟩ := hm
  have hi : t.op < listed.size := by rw [hs]; exact (Array.getElem?_eq_some_iff.1 ho).1
  have h1 : listed.toList[t.op]? = some false := by
    simp only [Array.getD_eq_getD_getElem?, Array.getElem?_eq_getElem hi, Option.getD_some] at h0
    simp [hi, h0]
  have hcs := count_set _ _ h1
  have hnd : t.op ∉ done := fun h => by rw [hdn _ h] at h0; cases h0
  have hkk : afts ops t.op = o.after.toList := by unfold afts; rw [ho]
  have HH := Has.of hI.sz hI.df (AllEv.app hI.fx (known_ok hI hd fun _ h => h))
  have hsl : t.e.slot = t.slot := by unfold EntC.e; split <;> rfl
  have next : ∀ v w', t.e.p v w' → F w' → AllSt t.op listed w w' (es.map EntC.e) → wpAny Tryz.prog .any ops Q fuel (listed.setIfInBounds t.op true) (a.put (some t.slot) v) w' := by
    intro v w' hp hFw hst
    have hK := hI.put (Wp' := F) hfit t.e (List.mem_map_of_mem ht) (by rw [EntC.e_op]; exact hi) (by rw [hs]; exact hN) v hp hFw (by rw [EntC.e_op]; exact hst)
    rw [EntC.e_op, hsl] at hK
    refine ih _ _ w' (by simpa using hs) ?_ ?_ ?_ (fun j hj => ran_mono (hdn j hj)) hK
    · rw [Array.toList_setIfInBounds]; omega
    · intro j oj hoj hj e he hb
      rcases getD_set hj with e2 | hj
      · subst e2
        rw [ho] at hoj
        injection hoj with hoj
        subst hoj
        exact ran_mono (hd e he hb)
      · exact ran_mono (hcl j oj hoj hj e he hb)
    · intro j hj
      rcases getD_set hj with e2 | hj
      · exact .inr ⟨t, ht, e2.symm⟩
      · exact hsub j hj
  rcases light_at hl t ht hnd with ⟨v, hv, _, hp⟩ | ⟨hpl, hp⟩
  · rw [hkk] at hp
    exact hp _ a w HH hI.wp (next v w (by simp only [EntC.e, hv]) hI.wp AllSt.same)
  · unfold HeavyE at hp
    rw [hkk] at hp
    have hF : ∀ w w', F w → Below w.heap.size w w' → F w' := by
      rcases hF with h | h
      · rw [List.all_eq_true.1 h t ht] at hpl; cases hpl
      · exact h
    exact hp _ a w HH (knownR_ok hI hkill hd fun _ h => h) hI.wp fun v w' hpv hb => next v w' hpv (hF _ _ hI.wp hb) (StabAll.all hb hstab).all
/-- what must be known behind the operation h, that leaves v in slot s. -/
def Nx (ops : Array Oper) (Q : Exit → Act → World → Prop) (n : Nat) (fixed : List (Nat × Value)) (es : List EntC) (done : List Nat) (h s : Nat) (v : Value) (w w' : World) : Prop :=
  ∃ (hE : EntC) (new : List EntC) (drop : List Nat) (F' : World → Prop) (fixed' : List (Nat × Value)), (∀ a, AllEv a fixed → AllEv a fixed') ∧ (hE.op = h ∧ hE.slot = s ∧ hE.e.p v w' ∧ hE.kill = []) ∧ F' w' ∧ Keeps w w' (dropE drop es) ∧ (fitsB n fixed' ((hE :: (new ++ dropE drop es)).map EntC.e) && (drop.all (fun k => memN (doneN ops h done) k) && new.all (fun t => Nat.blt t.op ops.size && (!memN done t.op && (es.all (fun u => u.op != t.op) && t.op != h))))) = true ∧
    St ops Q n fixed' (hE :: (new ++ dropE drop es)) F' (doneN ops h done)
/-- slots whose values are known: told from now on as values. -/
def Pins (a : Act) (drop : List Nat) : List EntC → Prop
  | [] => True
  | ⟨k, s, ks, c, _, _⟩ :: ts => (ks = [] ∧ memN drop k = true ∧ ∃ v, c = some v ∧ a.eval (.tmp s) = v) ∧ Pins a drop ts
theorem Pins.get {a : Act} {drop : List Nat} : ∀ {ts : List EntC}, Pins a drop ts → ∀ t ∈ ts, t.kill = [] ∧ memN drop t.op = true ∧ ∃ v, t.c = some v ∧ a.eval (.tmp t.slot) = v
  | u :: us, h, t, ht => by
    rcases List.mem_cons.1 ht with rfl | ht
    · exact h.1
    · exact Pins.get h.2 t ht
def Nx0 (ops : Array Oper) (Q : Exit → Act → World → Prop) (n : Nat) (fixed : List (Nat × Value)) (es : List EntC) (done : List Nat) (h : Nat) (a : Act) (w w' : World) : Prop :=
  ∃ (pins new : List EntC) (drop : List Nat) (F' : World → Prop), F' w' ∧ Keeps w w' (dropE drop es) ∧ Pins a drop pins ∧ (fitsB n fixed ((pins ++ (new ++ dropE drop es)).map EntC.e) && (drop.all (fun k => memN (doneN ops h done) k) && new.all (fun t => Nat.blt t.op ops.size && (!memN done t.op && (es.all (fun u => u.op != t.op) && t.op != h))))) = true ∧
    St ops Q n fixed (pins ++ (new ++ dropE drop es)) F' (doneN ops h done)
theorem fits_at {es : List EntC} (hf : fitsB n fixed (es.map EntC.e) = true) : (∀ t ∈ es, t.slot < n ∧ fixed.all (fun f => f.1 != t.slot) = true) ∧ ∀ u ∈ es, ∀ t ∈ es, u.kill = [] → t.op < 1000 → u.op = t.op ∨ u.slot ≠ t.slot := by
  simp only [fitsB, Bool.and_eq_true] at hf
  obtain ⟨⟨hf, hn⟩, _⟩ := hf
  have hs : ∀ t : EntC, t.e.slot = t.slot := fun t => by unfold EntC.e; split <;> rfl
  have hk : ∀ t : EntC, t.kill = [] → t.e.kill = [] := fun t h => by unfold EntC.e; split <;> simp [h]
  refine ⟨fun t ht => ?_, fun u hu t ht hku hN => ?_⟩
  · have := List.all_eq_true.1 hf t.e (List.mem_map_of_mem ht)
    rw [hs] at this
    simpa using this
  · have := List.all_eq_true.1 (List.all_eq_true.1 hn u.e (List.mem_map_of_mem hu)) t.e (List.mem_map_of_mem ht)
    rw [EntC.e_op, EntC.e_op, hs, hs, hk u hku] at this
    simp only [Bool.or_eq_true, beq_iff_eq, bne_iff_ne, List.contains_nil, Bool.false_eq_true, decide_eq_true_eq, false_or] at this
    rcases this with h | h | h
    · exact .inl h
    · exact .inr h
    · omega
theorem st_go (h : Nat) (hlt : h < ops.size) (hback : ∀ (i : Nat) (o : Oper), ops[i]? = some o → ∀ e ∈ o.after, Region.binds .any e = true → e.on < i) (hB : stB ops n fixed es done h = true) (hN : Nat.ble ops.size 1000 = true) (hF : es.all plainB = true ∨ ∀ w w', F w → Below w.heap.size w w' → F w') (hstab : StabAll es) (hl : LightAll ops Q n fixed F es done es)
    (hh : ∀ (o : Oper) (K : Act → World → Prop) (a : Act) (w : World), ops[h]? = some o → Has a n (fixed ++ knownE (afts ops h) es) → KnownR (afts ops h) a w es → F w → (∀ s v w', o.dst = some s → Nx ops Q n fixed es done h s v w w' → K (a.put (some s) v) w') → (∀ w', o.dst = none → Nx0 ops Q n fixed es done h a w w' → K a w') → wpOp Tryz.prog ops Q h K a w) :
    St ops Q n fixed es F done := by
  simp only [stB, Bool.and_eq_true] at hB
  obtain ⟨hfit, hall, hhd, hhe, hblk⟩ := hB
  have hN : ops.size ≤ 1000 := by simpa using hN
  have hkill : es.all (fun t => t.kill.isEmpty) = true := List.all_eq_true.2 fun t ht => by
    have := List.all_eq_true.1 hall t ht
    simp only [Bool.and_eq_true] at this
    exact this.1
  have hopl : ∀ t ∈ es, t.op < ops.size := fun t ht => by
    have := List.all_eq_true.1 hall t ht
    simp only [Bool.and_eq_true] at this
    simpa [Nat.blt_eq] using this.2
  have hhd : h ∉ done := fun hm => by rw [memN_of hm] at hhd; cases hhd
  have hhe : ∀ t ∈ es, t.op ≠ h := fun t ht => by simpa using List.all_eq_true.1 hhe t ht
  intro fuel
  induction fuel with
  | zero =>
    intro listed a w hs hc hcl hsub hdn hI
    exfalso
    have hnl : listed.getD h false = false := not_ran fun hl' => by
      rcases hsub h hl' with h1 | ⟨t, ht, h1⟩
      · exact hhd h1
      · exact hhe t ht h1
    have hi : h < listed.size := by omega
    have h1 : listed.toList[h]? = some false := by
      simp only [Array.getD_eq_getD_getElem?, Array.getElem?_eq_getElem hi, Option.getD_some] at hnl
      simp [hi, hnl]
    have := count_set _ _ h1
    omega
  | succ fuel ih =>
    intro listed a w hs hc hcl hsub hdn hI
    have hnl : listed.getD h false = false := not_ran fun hl' => by
      rcases hsub h hl' with h1 | ⟨t, ht, h1⟩
      · exact hhd h1
      · exact hhe t ht h1
    -- what is ready is one of the table's, or h
    have hrdy : ∀ (i : Nat) (o : Oper), ops[i]? = some o → listed.getD i false = false → (∀ e ∈ o.after, Region.binds .any e = true → listed.getD e.on false = true) → i = h ∨ ∃ t ∈ es, t.op = i := by
      intro i o ho h0 hd
      have hi : i < ops.size := (Array.getElem?_eq_some_iff.1 ho).1
      have := List.all_eq_true.1 hblk i (List.mem_range.2 hi)
      simp only [Bool.or_eq_true] at this
      rcases this with h1 | h1 | h1 | h1
      · rw [hdn i (memN_ok h1)] at h0; cases h0
      · obtain ⟨t, ht, he⟩ := List.any_eq_true.1 h1
        exact .inr ⟨t, ht, by simpa using he⟩
      · exact .inl (Nat.eq_of_beq_eq_true h1)
      · exfalso
        obtain ⟨e, he, h2⟩ := List.any_eq_true.1 h1
        simp only [Bool.and_eq_true, Bool.not_eq_true'] at h2
        unfold afts at he
        rw [ho] at he
        rcases hsub e.on (hd e (by simpa using he) h2.1) with h3 | ⟨t, ht, h3⟩
        · rw [memN_of h3] at h2; exact absurd h2.2.1 (by decide)
        · have := List.all_eq_true.1 h2.2.2 t ht
          simp [h3] at this
    have step : ∀ (i : Nat) (o : Oper), ops[i]? = some o → listed.getD i false = false → (∀ e ∈ o.after, Region.binds .any e = true → listed.getD e.on false = true) → wpOp Tryz.prog ops Q i (fun a' w' => wpAny Tryz.prog .any ops Q fuel (listed.setIfInBounds i true) a' w') a w := by
      intro i o ho h0 hd
      rcases hrdy i o ho h0 hd with rfl | hm
      · have hi : i < listed.size := by omega
        have h1 : listed.toList[i]? = some false := by
          simp only [Array.getD_eq_getD_getElem?, Array.getElem?_eq_getElem hi, Option.getD_some] at h0
          simp [hi, h0]
        have hcs := count_set _ _ h1
        have hcount : (listed.setIfInBounds i true).toList.count false ≤ fuel := by rw [Array.toList_setIfInBounds]; omega
        have hcl' : Closed .any ops (listed.setIfInBounds i true) := by
          intro j oj hoj hj e he hb
          rcases getD_set hj with e2 | hj
          · subst e2
            rw [ho] at hoj
            injection hoj with hoj
            subst hoj
            exact ran_mono (hd e he hb)
          · exact ran_mono (hcl j oj hoj hj e he hb)
        have hdn' : ∀ j ∈ doneN ops i done, (listed.setIfInBounds i true).getD j false = true := by
          refine anc_ok hcl' _ ?_
          intro j hj
          rcases List.mem_cons.1 hj with rfl | hj
          · exact ran_same listed hi
          · exact ran_mono (hdn j hj)
        have hsize : (listed.setIfInBounds i true).size = ops.size := by simpa using hs
        have hsub' : ∀ {drop : List Nat} {es' : List EntC}, (∀ t ∈ es', ∀ u, u = t → True) → (∀ t ∈ dropE drop es, t ∈ es') → drop.all (fun k => memN (doneN ops i done) k) = true → ∀ j, (listed.setIfInBounds i true).getD j false = true → j ∈ doneN ops i done ∨ ∃ t ∈ es', t.op = j := by
          intro drop es' _ hin hdr j hj
          rcases getD_set hj with e2 | hj
          · subst e2; exact .inl (anc_sub _ _ List.mem_cons_self)
          · rcases hsub j hj with h3 | ⟨t, ht, h3⟩
            · exact .inl (anc_sub _ _ (List.mem_cons_of_mem _ h3))
            · rcases dropE_in (drop := drop) ht with h4 | h4
              · rw [← h3]
                exact .inl (memN_ok (List.all_eq_true.1 hdr _ (memN_ok h4)))
              · exact .inr ⟨t, hin t h4, h3⟩
        refine hh o _ a w ho ?_ ?_ hI.wp ?_ ?_
        · have := known_ok hI hd (ts := es) fun _ h => h
          have hkk : afts ops i = o.after.toList := by unfold afts; rw [ho]
          rw [hkk]
          exact Has.of hI.sz hI.df (AllEv.app hI.fx this)
        · have hkk : afts ops i = o.after.toList := by unfold afts; rw [ho]
          rw [hkk]
          exact knownR_ok hI hkill hd fun _ h => h
        · rintro s v w' hdst ⟨hE, new, drop, F', fixed', hfx, ⟨rfl, rfl, hp, hke⟩, hFw, hkp, hchk, hSt⟩
          simp only [Bool.and_eq_true] at hchk
          obtain ⟨hfit', hdr, hnew⟩ := hchk
          obtain ⟨hf1, hf2⟩ := fits_at hfit'
          refine hSt fuel _ _ w' hsize hcount hcl' (hsub' (fun _ _ _ _ => trivial) (fun t ht => List.mem_cons_of_mem _ (List.mem_append_right _ ht)) hdr) hdn' ?_
          have hm0 := hf1 hE List.mem_cons_self
          refine ⟨by rw [Act.size_put, hI.sz], by rw [Act.defers_put', hI.df], (hfx _ hI.fx).put hm0.2, fun u hu hlu hku => ?_, hFw⟩
          obtain ⟨t, ht, rfl⟩ := List.mem_map.1 hu
          rw [EntC.e_op, hsize] at hlu
          have hsl : t.e.slot = t.slot := by unfold EntC.e; split <;> rfl
          rw [hsl]
          rcases List.mem_cons.1 ht with rfl | ht
          · rw [Act.eval_put_same _ _ _ (by rw [hI.sz]; exact hm0.1)]
            exact hp
          · rcases List.mem_append.1 ht with ht' | ht'
            · exfalso
              have := List.all_eq_true.1 hnew t ht'
              simp only [Bool.and_eq_true, Bool.not_eq_true', bne_iff_ne] at this
              obtain ⟨n0, n1, n2, n3⟩ := this
              have n0 : t.op < ops.size := by simpa [Nat.blt_eq] using n0
              rcases hlu with hlu | hlu
              · omega
              · rcases getD_set hlu with e2 | hlu
                · exact n3 e2
                · rcases hsub _ hlu with h3 | ⟨u, hu, h3⟩
                  · rw [memN_of h3] at n1; cases n1
                  · have := List.all_eq_true.1 n2 u hu
                    simp [h3] at this
            · obtain ⟨hte, _⟩ := dropE_ok ht'
              have hto := hopl t hte
              have hlt' : listed.getD t.op false = true := by
                rcases hlu with hlu | hlu
                · omega
                · rcases getD_set hlu with e2 | hlu
                  · exact absurd e2 (hhe t hte)
                  · exact hlu
              have hne : hE.slot ≠ t.slot := by
                have hkt : t.kill = [] := by simpa using List.all_eq_true.1 hkill t hte
                rcases hf2 t (List.mem_cons_of_mem _ ht) hE List.mem_cons_self hkt (by omega) with h3 | h3
                · exact absurd h3 (hhe t hte)
                · exact fun e => h3 e.symm
              rw [Act.eval_put_ne _ _ _ _ hne]
              have hold := hI.vs t.e (List.mem_map_of_mem hte) (.inr (by rw [EntC.e_op]; exact hlt')) (by
                have hkt : t.kill = [] := by simpa using List.all_eq_true.1 hkill t hte
                have : t.e.kill = [] := by unfold EntC.e; split <;> simp [hkt]
                rw [this]; trivial)
              rw [hsl] at hold
              exact hkp.get t ht' _ hold
        · rintro w' hdst ⟨pins, new, drop, F', hFw, hkp, hpin, hchk, hSt⟩
          simp only [Bool.and_eq_true] at hchk
          obtain ⟨hfit', hdr, hnew⟩ := hchk
          refine hSt fuel _ _ w' hsize hcount hcl' (hsub' (fun _ _ _ _ => trivial) (fun t ht => List.mem_append_right _ (List.mem_append_right _ ht)) hdr) hdn' ?_
          refine ⟨hI.sz, hI.df, hI.fx, fun u hu hlu hku => ?_, hFw⟩
          obtain ⟨t, ht, rfl⟩ := List.mem_map.1 hu
          rw [EntC.e_op, hsize] at hlu
          have hsl : t.e.slot = t.slot := by unfold EntC.e; split <;> rfl
          rw [hsl]
          rcases List.mem_append.1 ht with ht' | ht
          · obtain ⟨_, _, v, hv, he⟩ := hpin.get t ht'
            simp only [EntC.e, hv]
            exact he
          rcases List.mem_append.1 ht with ht' | ht'
          · exfalso
            have := List.all_eq_true.1 hnew t ht'
            simp only [Bool.and_eq_true, Bool.not_eq_true', bne_iff_ne] at this
            obtain ⟨n0, n1, n2, n3⟩ := this
            have n0 : t.op < ops.size := by simpa [Nat.blt_eq] using n0
            rcases hlu with hlu | hlu
            · omega
            · rcases getD_set hlu with e2 | hlu
              · exact n3 e2
              · rcases hsub _ hlu with h3 | ⟨u, hu, h3⟩
                · rw [memN_of h3] at n1; cases n1
                · have := List.all_eq_true.1 n2 u hu
                  simp [h3] at this
          · obtain ⟨hte, _⟩ := dropE_ok ht'
            have hto := hopl t hte
            have hlt' : listed.getD t.op false = true := by
              rcases hlu with hlu | hlu
              · omega
              · rcases getD_set hlu with e2 | hlu
                · exact absurd e2 (hhe t hte)
                · exact hlu
            have hold := hI.vs t.e (List.mem_map_of_mem hte) (.inr (by rw [EntC.e_op]; exact hlt')) (by
              have hkt : t.kill = [] := by simpa using List.all_eq_true.1 hkill t hte
              have : t.e.kill = [] := by unfold EntC.e; split <;> simp [hkt]
              rw [this]; trivial)
            rw [hsl] at hold
            exact hkp.get t ht' _ hold
      · exact st_light hfit hkill hN hF hstab hl (fun listed a w => ih listed a w) hs hc hcl hsub hdn hI h0 ho hd hm
    refine ⟨fun hnil => ?_, fun i hm => ?_⟩
    · rw [all_listed hback hs hnil h hlt] at hnl; cases hnl
    · obtain ⟨h0, o, ho, hd⟩ := mem_ready.1 hm
      have hi : i < listed.size := by
        have := (Array.getElem?_eq_some_iff.1 ho).1
        omega
      refine step i o ho ?_ hd
      simp only [Array.getD_eq_getD_getElem?, Array.getElem?_eq_getElem hi, Option.getD_some] at h0 ⊢
      exact h0
abbrev backB (ops : Array Oper) : Bool := (List.range ops.size).all (fun i => match ops[i]? with | some o => o.after.all (fun e => !Region.binds .any e || decide (e.on < i)) | none => true)
/-- the region begins. -/
theorem Has.sg {a : Act} {w : World} {c : Code} {id : Nat} {Q' : Exit → Act → World → Prop} (H : Has a n l) (F : World → Prop) (hw : F w.drew) (ss : List Nat) (es : List EntC) (hc : peel Tryz.prog c Q' = (.region id ops true, Q)) (hSt : St ops Q n fixed es F []) (hs : sel l ss = some fixed := by rfl)
    (hel : es.all (fun t => Nat.blt t.op ops.size) = true := by kernel_rfl) (hm : Tryz.prog.follows .mixedOrders = true := by kernel_rfl) : c.wp Tryz.prog Q' a w := by
  refine peel_wp c Q' ?_
  rw [hc]
  refine wp_region_any hm (hSt ops.size _ a _ (by simp) (by simp) ?_ ?_ (fun j hj => by cases hj) ⟨H.sz, H.df, sel_ok H hs, ?_, hw⟩)
  · intro i o _ h
    rw [none_ran] at h
    cases h
  · intro j hj
    rw [none_ran] at hj
    cases hj
  · intro u hu hl _
    obtain ⟨t, ht, rfl⟩ := List.mem_map.1 hu
    rw [EntC.e_op] at hl
    have : t.op < ops.size := by simpa [Nat.blt_eq] using List.all_eq_true.1 hel t ht
    rcases hl with hl | hl
    · rw [Array.size_replicate] at hl; omega
    · rw [none_ran] at hl; cases hl
abbrev nxB (ops : Array Oper) (n : Nat) (fixed : List (Nat × Value)) (es : List EntC) (done : List Nat) (h : Nat) (new : List EntC) (drop : List Nat) (hE : List EntC) : Bool :=
  fitsB n fixed ((hE ++ (new ++ dropE drop es)).map EntC.e) && (drop.all (fun k => memN (doneN ops h done) k) && new.all (fun t => Nat.blt t.op ops.size && (!memN done t.op && (es.all (fun u => u.op != t.op) && t.op != h))))
section
variable {h d : Nat} {v : Value} {w w' : World} {o : Oper}
/-- the next stage: what holds of the world, what else is told now, what no more. -/
theorem nx (F' : World → Prop) (new : List EntC) (drop : List Nat) (hF : F' w') (hSt : St ops Q n fixed (ec h d v :: (new ++ dropE drop es)) F' (doneN ops h done)) (hk : Keeps w w' (dropE drop es) := by exact trivial) (hc : nxB ops n fixed es done h new drop [ec h d v] = true := by kernel_rfl) : Nx ops Q n fixed es done h d v w w' :=
  ⟨ec h d v, new, drop, F', fixed, fun _ h => h, ⟨rfl, rfl, rfl, rfl⟩, hF, hk, hc, hSt⟩
theorem nxp {a : Act} (F' : World → Prop) (pins new : List EntC) (drop : List Nat) (hF : F' w') (hp : Pins a drop pins) (hSt : St ops Q n fixed (pins ++ (new ++ dropE drop es)) F' (doneN ops h done)) (hk : Keeps w w' (dropE drop es) := by exact trivial) (hc : nxB ops n fixed es done h new drop pins = true := by kernel_rfl) : Nx0 ops Q n fixed es done h a w w' :=
  ⟨pins, new, drop, F', hF, hk, hp, hc, hSt⟩
theorem nx0 {a : Act} (F' : World → Prop) (new : List EntC) (drop : List Nat) (hF : F' w') (hSt : St ops Q n fixed (new ++ dropE drop es) F' (doneN ops h done)) (hk : Keeps w w' (dropE drop es) := by exact trivial) (hc : nxB ops n fixed es done h new drop [] = true := by kernel_rfl) : Nx0 ops Q n fixed es done h a w w' :=
  nxp F' [] new drop hF trivial hSt hk hc
/-- the next one is a call. -/
theorem St.call (h : Nat) {f : FuncId} {xs : Array Operand} {ats : Array TypeId} {vs : List Value} {R : World → Value → World → Prop} (hl : LightAll ops Q n fixed F es done es) (hc : ∀ w, F w → Calls Tryz.prog f vs.toArray w fun e w' => ∃ v, e = .returned v ∧ R w v w') (hn : ∀ w v w', F w → R w v w' → Nx ops Q n fixed es done h d v w w')
    (ho : ops[h]? = some o := by rfl) (hp : o.op = .call { callee := .value (.func f), args := xs, argTypes := ats } := by rfl) (hd : o.dst = some d := by rfl) (hg : okG ops (fixed ++ knownE (afts ops h) es) o = true := by rfl) (hx : evLs (fixed ++ knownE (afts ops h) es) xs.toList = some vs := by rfl)
    (hen : ∀ (args : Array Value) (w : World), (callFunc f args).run Tryz.prog w = .ok (.enter f args) w := by exact fun _ _ => by kernel_rfl) (hB : stB ops n fixed es done h = true := by kernel_rfl) (hN : Nat.ble ops.size 1000 = true := by kernel_rfl) (hback : backB ops = true := by kernel_rfl)
    (hF : es.all plainB = true ∨ ∀ w w', F w → Below w.heap.size w w' → F w' := by exact .inl rfl) (hst : StabAll es := by exact trivial) : St ops Q n fixed es F done := by
  refine st_go h (Array.getElem?_eq_some_iff.1 ho).1 (back_of hback) hB hN hF hst hl ?_
  intro o' K a w ho' H _ hFw hK _
  rw [ho] at ho'
  injection ho' with ho'
  subst ho'
  exact wpOp_enter ho (okG_w H hg) d hd f _ (run_callH H hp hx hen) _ (hc w hFw) fun v w' hR => hK d v w' hd (hn w v w' hFw hR)
/-- the next one makes a value. -/
theorem St.val (h : Nat) (hl : LightAll ops Q n fixed F es done es) (hrun : ∀ a w, Has a n (fixed ++ knownE (afts ops h) es) → KnownR (afts ops h) a w es → F w → ∃ v w', (execOp a.eval o).run Tryz.prog w = .ok (.value v) w' ∧ Nx ops Q n fixed es done h d v w w')
    (ho : ops[h]? = some o := by rfl) (hd : o.dst = some d := by rfl) (hg : okG ops (fixed ++ knownE (afts ops h) es) o = true := by rfl) (hB : stB ops n fixed es done h = true := by kernel_rfl) (hN : Nat.ble ops.size 1000 = true := by kernel_rfl) (hback : backB ops = true := by kernel_rfl)
    (hF : es.all plainB = true ∨ ∀ w w', F w → Below w.heap.size w w' → F w' := by exact .inl rfl) (hst : StabAll es := by exact trivial) : St ops Q n fixed es F done := by
  refine st_go h (Array.getElem?_eq_some_iff.1 ho).1 (back_of hback) hB hN hF hst hl ?_
  intro o' K a w ho' H hr hFw hK _
  rw [ho] at ho'
  injection ho' with ho'
  subst ho'
  obtain ⟨v, w', hx, hn⟩ := hrun a w H hr hFw
  exact wpOp_go ho (okG_w H hg) d hd v w' hx (hK d v w' hd hn)
/-- the next one appends cells to a row. -/
theorem St.app (h : Nat) {s x : Operand} {t e : TypeId} {base size bytes m : Nat} {z : Value} {u : Value} {k c : Nat} {A : Option Addr} {xs ys : List Value} (hi : (Tryz.prog.info? e).map (fun i => (i.zero, i.size, i.bytes)) = some (some z, size, bytes)) (hl : LightAll ops Q n fixed F es done es)
    (hrun : ∀ w, F w → w.ownsRow base e size u k xs ∧ Reads w w.heap.size size A m ys ∧ base ≤ w.heap.size) (h1 : ∀ u ∈ ys, u.oneCell' = true) (hn : k + m ≤ maxLen ∧ (k + m) * bytes ≤ 140737488355328) (hk : ∀ w A' c' w', F w → w'.ownsRow base e size (.slice A' (k + m) c') (k + m) (xs ++ ys) → w.grownBy w' u.ownBlock → Nx ops Q n fixed es done h d (.slice A' (k + m) c') w w')
    (ho : ops[h]? = some o := by rfl) (hp : o.op = .call { callee := .builtin .append, args := #[s, x], argTypes := #[t, t] } := by rfl) (hd : o.dst = some d := by rfl) (ht : Tryz.prog.underlying t = some (.slice e) := by kernel_rfl) (hzs : z.cells.size = size := by rfl) (hsz : 0 < size := by decide) (hg : okG ops (fixed ++ knownE (afts ops h) es) o = true := by rfl)
    (hs : evL (fixed ++ knownE (afts ops h) es) s = some u := by rfl) (hx : evL (fixed ++ knownE (afts ops h) es) x = some (.slice A m c) := by rfl) (hB : stB ops n fixed es done h = true := by kernel_rfl) (hN : Nat.ble ops.size 1000 = true := by kernel_rfl) (hback : backB ops = true := by kernel_rfl)
    (hF : es.all plainB = true ∨ ∀ w w', F w → Below w.heap.size w w' → F w' := by exact .inl rfl) (hst : StabAll es := by exact trivial) : St ops Q n fixed es F done := by
  refine St.val h hl ?_ ho hd hg hB hN hback hF hst
  intro a w H _ hFw
  obtain ⟨r1, r2, r3⟩ := hrun w hFw
  obtain ⟨A', c', w', hr, hO, hgr⟩ := run_app (a := a) hp ht hi hzs hsz (H.ev hs) r1 (H.ev hx) r2 h1 hn.1 hn.2 r3
  exact ⟨_, w', hr, hk w A' c' w' hFw hO hgr⟩
/-- the next one stores. -/
theorem St.sto (h : Nat) (hl : LightAll ops Q n fixed F es done es) (hrun : ∀ a w, Has a n (fixed ++ knownE (afts ops h) es) → KnownR (afts ops h) a w es → F w → ∃ w', (execOp a.eval o).run Tryz.prog w = .ok .skip w' ∧ Nx0 ops Q n fixed es done h a w w')
    (ho : ops[h]? = some o := by rfl) (hd : o.dst = none := by rfl) (hg : okG ops (fixed ++ knownE (afts ops h) es) o = true := by rfl) (hB : stB ops n fixed es done h = true := by kernel_rfl) (hN : Nat.ble ops.size 1000 = true := by kernel_rfl) (hback : backB ops = true := by kernel_rfl)
    (hF : es.all plainB = true ∨ ∀ w w', F w → Below w.heap.size w w' → F w' := by exact .inl rfl) (hst : StabAll es := by exact trivial) : St ops Q n fixed es F done := by
  refine st_go h (Array.getElem?_eq_some_iff.1 ho).1 (back_of hback) hB hN hF hst hl ?_
  intro o' K a w ho' H hr hFw _ hK
  rw [ho] at ho'
  injection ho' with ho'
  subst ho'
  obtain ⟨w', hx, hn⟩ := hrun a w H hr hFw
  exact wpOp_do ho (okG_w H hg) hd w' hx (hK w' hd hn)
end
/-- nothing is left but the table's. -/
theorem St.fin (hl : LightAll ops Q n fixed F es done es) (hfin : ∀ (a : Act) (w : World), Has a n (fixed ++ finV es) → FinR a w es → F w → Q .normal a w) (hB : (fitsB n fixed (es.map EntC.e) && (es.all (fun t => t.kill.isEmpty && Nat.blt t.op ops.size) && ((List.range ops.size).all (fun k => memN done k || es.any (fun t => t.op == k)) && Nat.ble ops.size 1000))) = true := by kernel_rfl) (hback : backB ops = true := by kernel_rfl)
    (hF : es.all plainB = true ∨ ∀ w w', F w → Below w.heap.size w w' → F w' := by exact .inl rfl) (hst : StabAll es := by exact trivial) : St ops Q n fixed es F done := by
  simp only [Bool.and_eq_true] at hB
  obtain ⟨hfit, hall, hcov, hN⟩ := hB
  have hN : ops.size ≤ 1000 := by simpa using hN
  have hkill : es.all (fun t => t.kill.isEmpty) = true := List.all_eq_true.2 fun t ht => by
    have := List.all_eq_true.1 hall t ht
    simp only [Bool.and_eq_true] at this
    exact this.1
  have hopl : ∀ t ∈ es, t.op < ops.size := fun t ht => by
    have := List.all_eq_true.1 hall t ht
    simp only [Bool.and_eq_true] at this
    simpa [Nat.blt_eq] using this.2
  have fin : ∀ (listed : Array Bool) (a : Act) (w : World), listed.size = ops.size → Region.ready .any ops listed = [] → InvB n fixed (es.map EntC.e) F listed a w → Q .normal a w := by
    intro listed a w hs hnil hI
    have hall' : ∀ t ∈ es, listed.getD t.op false = true := fun t ht => all_listed (back_of hback) hs hnil t.op (hopl t ht)
    exact hfin a w (Has.of hI.sz hI.df (AllEv.app hI.fx (finV_ok hI hall' fun _ h => h))) (finR_ok hI hkill hall' fun _ h => h) hI.wp
  intro fuel
  induction fuel with
  | zero =>
    intro listed a w hs hc hcl hsub hdn hI
    have hnil : Region.ready .any ops listed = [] := by
      rcases hr : Region.ready .any ops listed with _ | ⟨i, rs⟩
      · rfl
      · exfalso
        have hm : i ∈ Region.ready .any ops listed := by rw [hr]; exact List.mem_cons_self
        obtain ⟨h0, o, ho, _⟩ := mem_ready.1 hm
        have hi : i < listed.size := by
          have := (Array.getElem?_eq_some_iff.1 ho).1
          omega
        have h1 : listed.toList[i]? = some false := by
          simp only [Array.getD_eq_getD_getElem?, Array.getElem?_eq_getElem hi, Option.getD_some] at h0
          simp [hi, h0]
        have := count_set _ _ h1
        omega
    exact ⟨hnil, fin listed a w hs hnil hI⟩
  | succ fuel ih =>
    intro listed a w hs hc hcl hsub hdn hI
    refine ⟨fun hnil => fin listed a w hs hnil hI, fun i hm => ?_⟩
    obtain ⟨h0, o, ho, hd⟩ := mem_ready.1 hm
    have hi : i < listed.size := by
      have := (Array.getElem?_eq_some_iff.1 ho).1
      omega
    have h0' : listed.getD i false = false := by
      simp only [Array.getD_eq_getD_getElem?, Array.getElem?_eq_getElem hi, Option.getD_some] at h0 ⊢
      exact h0
    refine st_light hfit hkill hN hF hst hl (fun listed a w => ih listed a w) hs hc hcl hsub hdn hI h0' ho hd ?_
    have := List.all_eq_true.1 hcov i (List.mem_range.2 (by omega))
    simp only [Bool.or_eq_true] at this
    rcases this with h1 | h1
    · rw [hdn i (memN_ok h1)] at h0'; cases h0'
    · obtain ⟨t, ht, he⟩ := List.any_eq_true.1 h1
      exact ⟨t, ht, by simpa using he⟩
end
end Go.Proofs.YtlacidnnankjlaaGreatDoor

/-
  A region in the order of its text, by a table: what each operation leaves, a reason for each.
-/
namespace Go.Proofs.YtlacidnnankjlaaGreatDoor
open Go.RowKit

section
variable {ops : Array Oper} {Q : Exit → Act → World → Prop} {n : Nat} {l : List (Nat × Value)} {F : World → Prop}
def TabAll (ops : Array Oper) (Q : Exit → Act → World → Prop) (n : Nat) (F : World → Prop) : List (Nat × Value) → List EntC → Prop
  | _, [] => True
  | l, ⟨k, s, _ks, c, _q, m⟩ :: ts => match c, m with
    | some v, false => PureE ops Q n l F k s v ∧ TabAll ops Q n F ((s, v) :: l) ts
    | some v, true => HeavyE ops Q n l F [] (eh k s v) ∧ TabAll ops Q n F ((s, v) :: l) ts
    | none, _ => False
def tabV : List (Nat × Value) → List EntC → List (Nat × Value)
  | l, [] => l
  | l, ⟨_, s, _, c, _, _⟩ :: ts => match c with
    | some v => tabV ((s, v) :: l) ts
    | none => l
def tabB (ops : Array Oper) (n : Nat) : Nat → List EntC → Bool
  | i, [] => Nat.beq i ops.size
  | i, t :: ts => Nat.beq t.op i && (Nat.blt t.slot n && tabB ops n (i + 1) ts)
theorem tabB_len : ∀ {ts : List EntC} {i : Nat}, tabB ops n i ts = true → i + ts.length = ops.size
  | [], i, h => Nat.eq_of_beq_eq_true h
  | t :: ts, i, h => by
    simp only [tabB, Bool.and_eq_true] at h
    have := tabB_len h.2.2
    simp only [List.length_cons]
    omega
theorem wpList_of_op {P : Program} {o : Oper} {rest : List Oper} {a : Act} {w : World} {i : Nat} (ho : ops[i]? = some o) (h : wpOp P ops Q i (fun a' w' => wpList P ops Q rest a' w') a w) : wpList P ops Q (o :: rest) a w := by
  simp only [wpOp, ho] at h
  exact h
theorem tab_ok (hk : ∀ w w', F w → Below w.heap.size w w' → F w') : ∀ (ts : List EntC) (i : Nat) {l : List (Nat × Value)} {a : Act} {w : World}, tabB ops n i ts = true → Has a n l → F w → TabAll ops Q n F l ts → (∀ a w, Has a n (tabV l ts) → F w → Q .normal a w) → wpList Tryz.prog ops Q (ops.toList.drop i) a w
  | [], i, l, a, w, hb, H, hF, _, hfin => by
    have : i = ops.size := Nat.eq_of_beq_eq_true hb
    subst this
    rw [← Array.length_toList, List.drop_length]
    exact wpList_nil (hfin a w H hF)
  | t :: ts, i, l, a, w, hb, H, hF, hT, hfin => by
    simp only [tabB, Bool.and_eq_true] at hb
    have hop : t.op = i := Nat.eq_of_beq_eq_true hb.1
    unfold TabAll at hT
    unfold tabV at hfin
    have hlt : i < ops.size := by have := tabB_len hb.2.2; omega
    have go : wpOp Tryz.prog ops Q i (fun a' w' => wpList Tryz.prog ops Q (ops.toList.drop (i + 1)) a' w') a w → wpList Tryz.prog ops Q (ops.toList.drop i) a w := by
      intro h
      obtain ⟨o, ho⟩ : ∃ o, ops[i]? = some o := ⟨_, Array.getElem?_eq_getElem hlt⟩
      obtain ⟨hi, he⟩ := Array.getElem?_eq_some_iff.1 ho
      have : ops.toList.drop i = o :: ops.toList.drop (i + 1) := by
        rw [List.drop_eq_getElem_cons (by simpa using hi)]
        simp [he]
      rw [this]
      exact wpList_of_op ho h
    split at hT
    · next v hc hm =>
      rw [hc] at hfin
      rw [hop] at hT
      refine go (hT.1 _ a w H hF ?_)
      exact tab_ok hk ts (i + 1) hb.2.2 (H.put hb.2.1 v) hF hT.2 hfin
    · next v hc hm =>
      rw [hc] at hfin
      rw [hop] at hT
      refine go (hT.1 _ a w ?_ trivial hF ?_)
      · have : l ++ knownE (afts ops (eh i t.slot v).op) [] = l := List.append_nil l
        rw [this]; exact H
      · rintro v' w' hv hbl
        have hv : v' = v := hv
        subst hv
        exact tab_ok hk ts (i + 1) hb.2.2 (H.put hb.2.1 v') (hk _ _ hF hbl) hT.2 hfin
    · exact False.elim hT
theorem Has.tb {a : Act} {w : World} {c : Code} {id : Nat} {Q' : Exit → Act → World → Prop} (H : Has a n l) (F : World → Prop) (hk : ∀ w w', F w → Below w.heap.size w w' → F w') (hF : F w) (es : List EntC) (hc : peel Tryz.prog c Q' = (.region id ops false, Q)) (hT : TabAll ops Q n F l es) (hfin : ∀ a w, Has a n (tabV l es) → F w → Q .normal a w)
    (hb : tabB ops n 0 es = true := by kernel_rfl) : c.wp Tryz.prog Q' a w := by
  refine peel_wp c Q' ?_
  rw [hc]
  exact wp_region_list (tab_ok hk es 0 hb H hF hT hfin)
end
end Go.Proofs.YtlacidnnankjlaaGreatDoor

/-
  Loops at a frame that is a letter; 'two' and 'text' once more: which block is written.
-/
namespace Go.Proofs.YtlacidnnankjlaaGreatDoor
open Go.RowKit

section
variable {P : Program} {Q : Exit → Act → World → Prop} {a : Act} {w : World}
/-- a loop whose rounds are counted: k of N are done. -/
theorem wp_loop_up {c : Code} (N : Nat) (J : Nat → Act → World → Prop) (h0 : J 0 a w) (round : ∀ k a w, k ≤ N → J k a w → c.wp P (Exit.then (fun a' w' => k < N ∧ J (k + 1) a' w') Q) a w) : (Code.loop c).wp P Q a w := by
  have key : ∀ n k a w, N - k = n → k ≤ N → J k a w → Code.rounds P c Q (n + 1) a w := by
    intro n
    induction n with
    | zero =>
      intro k a w hn hk hJ
      rw [rounds_succ]
      refine wp_mono (round k a w hk hJ) ?_
      intro e a' w' he
      cases e with
      | normal => exact absurd he.1 (by omega)
      | _ => exact he
    | succ n ih =>
      intro k a w hn hk hJ
      rw [rounds_succ]
      refine wp_mono (round k a w hk hJ) ?_
      intro e a' w' he
      cases e with
      | normal => exact ih (k + 1) a' w' (by omega) he.1 he.2
      | _ => exact he
  exact wp_loop_rounds (N + 1) (key N 0 a w (by omega) (Nat.zero_le _) h0)
theorem then_exit {next : Act → World → Prop} {id : Nat} (h : Q (.exit id) a w) : Exit.then next Q (.exit id) a w := h
theorem block_leave {id : Nat} (h : Q .normal a w) : Exit.inBlock id Q (.exit id) a w := by
  simp only [Exit.inBlock, if_true]
  exact h
end
theorem shr8 (k : Int) (_h0 : 0 ≤ k) (_h1 : k ≤ 65535) (x y : Operand) (w : World) : (do eqGuard .shr 3 x y (.int .i64 k) (.int .u64 8); binOp .shr 3 (.int .i64 k) (.int .u64 8) : Sem Value).run Tryz.prog w = .ok (.int .i64 (k / 256)) w := by
  simp [go_sem]
theorem lss_i (u v : Int) (b : Bool) (h : decide (u < v) = b) (x y : Operand) (w : World) : (do eqGuard .lss 3 x y (.int .i64 u) (.int .i64 v); binOp .lss 3 (.int .i64 u) (.int .i64 v) : Sem Value).run Tryz.prog w = .ok (.bool b) w := by
  subst h
  simp [go_sem]
theorem gtr_i (u v : Int) (b : Bool) (h : decide (v < u) = b) (x y : Operand) (w : World) : (do eqGuard .gtr 3 x y (.int .i64 u) (.int .i64 v); binOp .gtr 3 (.int .i64 u) (.int .i64 v) : Sem Value).run Tryz.prog w = .ok (.bool b) w := by
  subst h
  simp [go_sem]
theorem geq_i (u v : Int) (b : Bool) (h : decide (v ≤ u) = b) (x y : Operand) (w : World) : (do eqGuard .geq 3 x y (.int .i64 u) (.int .i64 v); binOp .geq 3 (.int .i64 u) (.int .i64 v) : Sem Value).run Tryz.prog w = .ok (.bool b) w := by
  subst h
  simp [go_sem]
theorem succ_i (k : Nat) (h : k < 9223372036854775807) (x y : Operand) (w : World) : (do eqGuard .add 3 x y (.int .i64 k) (.int .i64 1); binOp .add 3 (.int .i64 k) (.int .i64 1) : Sem Value).run Tryz.prog w = .ok (.int .i64 ((k + 1 : Nat) : Int)) w := by
  simp [go_sem]
  exact IntWalk.i64_in _ (by omega)
theorem index_1 (T : TypeId) (hT : Tryz.prog.underlying T = some (.slice (Tryz.prog.elem T))) (hs : ∀ w, (sizeOf (Tryz.prog.elem T)).run Tryz.prog w = .ok 1 w) (b o n c k : Nat) (hk : k < n) (w : World) : (Instr.indexAt T (.slice (some ⟨b, o, none⟩) n c) (.int .i64 k)).run Tryz.prog w = .ok (.pointer (some ⟨b, o + k, none⟩)) w := by
  rw [run_indexAt_slice (h := hT), if_pos ⟨by omega, by omega⟩, hs]
  have e : (Addr.mk b o none).add ((k : Int).toNat * 1) = ⟨b, o + k, none⟩ := by
    rw [Int.toNat_natCast, Nat.mul_one]
    unfold Addr.add
    by_cases h : k = 0 <;> simp [h]
  rw [Result.andThen_ok, e]
theorem index_2 (T : TypeId) (hT : Tryz.prog.underlying T = some (.slice (Tryz.prog.elem T))) (hs : ∀ w, (sizeOf (Tryz.prog.elem T)).run Tryz.prog w = .ok 2 w) (b o n c k : Nat) (hk : k < n) (w : World) : (Instr.indexAt T (.slice (some ⟨b, o, none⟩) n c) (.int .i64 k)).run Tryz.prog w = .ok (.pointer (some ⟨b, o + k * 2, none⟩)) w := by
  rw [run_indexAt_slice (h := hT), if_pos ⟨by omega, by omega⟩, hs]
  have e : (Addr.mk b o none).add ((k : Int).toNat * 2) = ⟨b, o + k * 2, none⟩ := by
    rw [Int.toNat_natCast]
    unfold Addr.add
    by_cases h : k = 0
    · simp [h]
    · rw [if_neg (by omega)]
  rw [Result.andThen_ok, e]
section
variable {P : Program} {ops : Array Oper} {rest : List Oper} {o : Oper} {a : Act} {w : World} {Q : Exit → Act → World → Prop} {n : Nat} {l : List (Nat × Value)}
theorem Has.index (H : Has a n l) (hw : Region.wanted o (yielded ops a.tmps) = true) {T d : Nat} {x i : Operand} {u v r : Value} (ho : o.op = .indexAddr T x i) (hd : o.dst = some d) (hn : Nat.blt d n = true) (hx : evL l x = some u) (hi : evL l i = some v)
    (hq : (Instr.indexAt T u v).run P w = .ok r w) (h : ∀ a', Has a' n ((d, r) :: l) → wpList P ops Q rest a' w) : wpList P ops Q (o :: rest) a w := by
  refine H.go hw hd hn _ ?_ h
  unfold execOp
  simp only [ho, H.ev hx, H.ev hi, Sem.run_bind, hq, Result.andThen_ok, Sem.run_pure]
theorem Has.len (H : Has a n l) (hw : Region.wanted o (yielded ops a.tmps) = true) {d : Nat} {s : Operand} {t : TypeId} {A : Option Addr} {m c : Nat} (ho : o.op = .call { callee := .builtin .len, args := #[s], argTypes := #[t] }) (hd : o.dst = some d) (hn : Nat.blt d n = true) (hs : evL l s = some (.slice A m c)) {e : TypeId} (ht : P.underlying t = some (.slice e))
    (h : ∀ a', Has a' n ((d, .int .i64 m) :: l) → wpList P ops Q rest a' w) : wpList P ops Q (o :: rest) a w :=
  H.go hw hd hn _ (run_len ho (H.ev hs) ht) h
theorem Has.bytes (H : Has a n l) (hw : Region.wanted o (yielded ops a.tmps) = true) {d k : Nat} (hd : o.dst = some d) (hn : Nat.blt d n = true) (xs : List UInt8) (vs : List Value) (hxs : vs = xs.map bv) (hk : xs.length = k) (e : TypeId) (hs : ∀ cs b, o.op ≠ .select cs b) (hops : o.op.operands.all (fun x => (evL l x).isSome) = true)
    (hrun : (execOp (fun x => (evL l x).getD undef) o).run P w = .ok (.value (.slice (some ⟨w.heap.size, 0, none⟩) k k)) (w.alloc (.cells vs.toArray e)))
    (h : ∀ a' v w', Has a' n ((d, v) :: l) → BytesAre xs v w' → Below w.heap.size w w' → wpList P ops Q rest a' w') : wpList P ops Q (o :: rest) a w := by
  obtain ⟨h1, h2⟩ := bytes_lit w xs vs hxs e k hk
  exact H.go hw hd hn _ (run_any H hs hops hrun) (fun a' H' => h a' _ _ H' h1 h2)
theorem Has.appendRow (H : Has a n l) (hgb : P.underlying 31 = some (.slice 5)) (hi : (P.info? 5).map (fun i => (i.zero, i.size, i.bytes)) = some (some (.int .u8 0), 1, 1)) (hw : Region.wanted o (yielded ops a.tmps) = true) {d : Nat} {s x : Operand}
    (ho : o.op = .call { callee := .builtin .append, args := #[s, x], argTypes := #[31, 31] }) (hd : o.dst = some d) (hn : Nat.blt d n = true) {b : Nat} {xs ys : List UInt8} {v u : Value} (hs : evL l s = some v) (hx : evL l x = some u) (hv : RowIs b xs v w) (hu : BytesAre ys u w)
    (hl : xs.length + ys.length ≤ 140737488355328) (hb : b ≤ w.heap.size) (h : ∀ a' v' w', Has a' n ((d, v') :: l) → RowIs b (xs ++ ys) v' w' → Below b w w' → w.grownBy w' v.ownBlock → wpList P ops Q rest a' w') : wpList P ops Q (o :: rest) a w := by
  obtain ⟨v', w', hrun, h1, h2, h3⟩ := run_append_row (P := P) (a := a) (w := w) hgb hi (o := o) ho (H.ev hs) (H.ev hx) hv hu hl hb
  exact H.go hw hd hn v' hrun (fun a' H' => h a' v' w' H' h1 h2 h3)
end
section
variable {P : Program} {o : Oper} {a : Act} {w : World}
end
end Go.Proofs.YtlacidnnankjlaaGreatDoor

/-
  Where the ways of a guarded operation meet again: a list of operations in two parts.
-/
namespace Go.Proofs.YtlacidnnankjlaaGreatDoor
open Go.RowKit

section
variable {P : Program} {ops : Array Oper} {Q : Exit → Act → World → Prop}
end
/-- a part of a code with one place to go back to. -/
theorem wp_scope_one {P : Program} {a : Act} {w : World} {Q : Exit → Act → World → Prop} {c r0 : Code} {k : Nat} (hf : findLabel c k = some (.seq .skip r0)) (J : Act → World → Prop) (μ : Act → World → Nat) (first : (∀ a w, J a w → r0.wp P (Exit.jump k J Q) a w) → c.wp P (Exit.jump k J Q) a w)
    (pass : ∀ a w, J a w → r0.wp P (Exit.jump k (fun a' w' => J a' w' ∧ μ a' w' < μ a w) Q) a w) : (Code.scope c).wp P Q a w := by
  refine wp_scope_jumps k J μ hf (first fun a w h => wp_mono (pass a w h) ?_) fun a w h => wp_seq (wp_skip (then_normal (pass a w h)))
  intro e a' w' he
  cases e with
  | goto l => exact ⟨he.1, he.2.1⟩
  | _ => exact he
theorem jump_ret {Q : Exit → Act → World → Prop} {a : Act} {w : World} {k : Nat} {J : Act → World → Prop} (h : Q .ret a w) : Exit.jump k J Q .ret a w := h
theorem jump_goto {Q : Exit → Act → World → Prop} {a : Act} {w : World} {k : Nat} {J : Act → World → Prop} (h : J a w) : Exit.jump k J Q (.goto k) a w := ⟨rfl, h⟩
/-- a scope with two labels, 0 that is jumped back to, and 1. -/
def Exit.two (J0 J1 : Act → World → Prop) (Q : Exit → Act → World → Prop) : Exit → Act → World → Prop
  | .goto l, a, w => (l = 0 ∧ J0 a w) ∨ (l = 1 ∧ J1 a w)
  | e, a, w => Q e a w
section
variable {P : Program} {a : Act} {w : World} {Q : Exit → Act → World → Prop} {J0 J1 : Act → World → Prop}
theorem two_ret (h : Q .ret a w) : Exit.two J0 J1 Q .ret a w := h
theorem two_goto0 (h : J0 a w) : Exit.two J0 J1 Q (.goto 0) a w := .inl ⟨rfl, h⟩
theorem two_goto1 (h : J1 a w) : Exit.two J0 J1 Q (.goto 1) a w := .inr ⟨rfl, h⟩
theorem then_goto {next : Act → World → Prop} {l : Nat} (h : Q (.goto l) a w) : Exit.then next Q (.goto l) a w := h
theorem label_wp {l : Nat} (h : Q .normal a w) : (Code.label l).wp P Q a w := wp_label h
theorem wp_scope_two {c r0 r1 : Code} (hf0 : findLabel c 0 = some (.seq .skip r0)) (hf1 : findLabel c 1 = some (.seq .skip r1)) (N : Nat) (J : Nat → Act → World → Prop) (J1 : Act → World → Prop)
    (first : (∀ k a w, k ≤ N → J k a w → r0.wp P (Exit.two (fun a w => ∃ k, k ≤ N ∧ J k a w) J1 Q) a w) → c.wp P (Exit.two (fun a w => ∃ k, k ≤ N ∧ J k a w) J1 Q) a w)
    (pass : ∀ k a w, k ≤ N → J k a w → r0.wp P (Exit.two (fun a w => k < N ∧ J (k + 1) a w) J1 Q) a w)
    (last : ∀ a w, J1 a w → r1.wp P (Exit.two (fun _ _ => False) (fun _ _ => False) Q) a w) : (Code.scope c).wp P Q a w := by
  have hp0 := pass
  have pass : ∀ k a w, k ≤ N → J k a w → (Code.seq .skip r0).wp P (Exit.two (fun a w => k < N ∧ J (k + 1) a w) J1 Q) a w := fun k a w hk hJ => wp_seq (wp_skip (then_normal (pass k a w hk hJ)))
  have last : ∀ a w, J1 a w → (Code.seq .skip r1).wp P (Exit.two (fun _ _ => False) (fun _ _ => False) Q) a w := fun a w hJ => wp_seq (wp_skip (then_normal (last a w hJ)))
  intro b k cs
  have hg0 : gotoIn 0 (.inScope c :: k) = some (.code (.seq .skip r0) :: .inScope c :: k) := by simp [gotoIn, hf0]
  have hg1 : gotoIn 1 (.inScope c :: k) = some (.code (.seq .skip r1) :: .inScope c :: k) := by simp [gotoIn, hf1]
  have key1 : ∀ a w, J1 a w → ∃ e a' w', Q e a' w' ∧ Arrives P (lone (b.at a (.code (.seq .skip r1) :: .inScope c :: k)) cs w) b k cs e a' w' := by
    intro a w hJ
    obtain ⟨e, a₁, w₁, hq, harr⟩ := last a w hJ b (.inScope c :: k) cs
    cases e with
    | normal => exact ⟨.normal, a₁, w₁, hq, Steps.trans harr (.one step_inScope)⟩
    | exit id => exact ⟨.exit id, a₁, w₁, hq, fun k' hk => harr k' (by simp [exitTo, hk])⟩
    | goto l' => rcases hq with ⟨_, h⟩ | ⟨_, h⟩ <;> exact h.elim
    | ret => exact ⟨_, a₁, w₁, hq, harr⟩
    | panic ch => exact ⟨_, a₁, w₁, hq, harr⟩
    | outgrown => exact ⟨_, a₁, w₁, hq, harr⟩
  have key0 : ∀ n i a w, N - i = n → i ≤ N → J i a w → ∃ e a' w', Q e a' w' ∧ Arrives P (lone (b.at a (.code (.seq .skip r0) :: .inScope c :: k)) cs w) b k cs e a' w' := by
    intro n
    induction n using Nat.strongRecOn with
    | _ n ih =>
      intro i a w hn hi hJ
      obtain ⟨e, a₁, w₁, hq, harr⟩ := pass i a w hi hJ b (.inScope c :: k) cs
      cases e with
      | normal => exact ⟨.normal, a₁, w₁, hq, Steps.trans harr (.one step_inScope)⟩
      | exit id => exact ⟨.exit id, a₁, w₁, hq, fun k' hk => harr k' (by simp [exitTo, hk])⟩
      | goto l' =>
        rcases hq with ⟨rfl, hlt, hJ'⟩ | ⟨rfl, hJ'⟩
        · obtain ⟨e₂, a₂, w₂, hq₂, harr₂⟩ := ih (N - (i + 1)) (by omega) (i + 1) a₁ w₁ rfl (by omega) hJ'
          exact ⟨e₂, a₂, w₂, hq₂, .of_steps (harr _ hg0) harr₂⟩
        · obtain ⟨e₂, a₂, w₂, hq₂, harr₂⟩ := key1 a₁ w₁ hJ'
          exact ⟨e₂, a₂, w₂, hq₂, .of_steps (harr _ hg1) harr₂⟩
      | ret => exact ⟨_, a₁, w₁, hq, harr⟩
      | panic ch => exact ⟨_, a₁, w₁, hq, harr⟩
      | outgrown => exact ⟨_, a₁, w₁, hq, harr⟩
  have hp : ∀ k a w, k ≤ N → J k a w → r0.wp P (Exit.two (fun a w => ∃ k, k ≤ N ∧ J k a w) J1 Q) a w := fun i a w hi hJ => wp_mono (hp0 i a w hi hJ) (by
    intro e a w h
    cases e with
    | goto l =>
      rcases h with ⟨e, h1, h2⟩ | h
      · exact .inl ⟨e, i + 1, h1, h2⟩
      · exact .inr h
    | _ => exact h)
  obtain ⟨e, a₁, w₁, hq, harr⟩ := first hp b (.inScope c :: k) cs
  cases e with
  | normal => exact ⟨.normal, a₁, w₁, hq, .head step_scope (Steps.trans harr (.one step_inScope))⟩
  | exit id => exact ⟨.exit id, a₁, w₁, hq, fun k' hk => .head step_scope (harr k' (by simp [exitTo, hk]))⟩
  | goto l' =>
    rcases hq with ⟨rfl, i, hi, hJ'⟩ | ⟨rfl, hJ'⟩
    · obtain ⟨e₂, a₂, w₂, hq₂, harr₂⟩ := key0 _ i a₁ w₁ rfl hi hJ'
      exact ⟨e₂, a₂, w₂, hq₂, .of_steps (.head step_scope (harr _ hg0)) harr₂⟩
    · obtain ⟨e₂, a₂, w₂, hq₂, harr₂⟩ := key1 a₁ w₁ hJ'
      exact ⟨e₂, a₂, w₂, hq₂, .of_steps (.head step_scope (harr _ hg1)) harr₂⟩
  | ret => exact ⟨_, a₁, w₁, hq, .of_steps (.one step_scope) harr⟩
  | panic ch => exact ⟨_, a₁, w₁, hq, .of_steps (.one step_scope) harr⟩
  | outgrown => exact ⟨_, a₁, w₁, hq, .of_steps (.one step_scope) harr⟩
end
end Go.Proofs.YtlacidnnankjlaaGreatDoor

/-
  More laws for every program: slices, boxes of a kind, rows that grow.
-/
namespace Go.Proofs.YtlacidnnankjlaaGreatDoor
open Go.RowKit

theorem RowIs.read {b : Nat} {xs : List UInt8} {v : Value} {w : World} (h : RowIs b xs v w) : BytesAre xs v w := by
  obtain ⟨A, c, rfl, ho⟩ := h
  exact ⟨A, c, rfl, RB.of_ownN ho⟩
theorem results_pair {P : Program} {fn : Func} {p q : Tmp} (h : fn.results = #[.tmp p, .tmp q]) (tmps : Array Value) (u v : Value) {w : World} (hp : tmps.getD p undef = u) (hq : tmps.getD q undef = v) : (results fn tmps).run P w = .ok (.tuple #[u, v]) w := by
  have hp' : tmps[p]?.getD undef = u := by simpa using hp
  have hq' : tmps[q]?.getD undef = v := by simpa using hq
  simp [results, h, hp', hq']
theorem results_three {P : Program} {fn : Func} {p q r : Tmp} (h : fn.results = #[.tmp p, .tmp q, .tmp r]) (tmps : Array Value) (u v x : Value) {w : World} (hp : tmps.getD p undef = u) (hq : tmps.getD q undef = v) (hr : tmps.getD r undef = x) : (results fn tmps).run P w = .ok (.tuple #[u, v, x]) w := by
  have hp' : tmps[p]?.getD undef = u := by simpa using hp
  have hq' : tmps[q]?.getD undef = v := by simpa using hq
  have hr' : tmps[r]?.getD undef = x := by simpa using hr
  simp [results, h, hp', hq', hr']
/-- a block's kind. -/
def TypB (w : World) (g T : Nat) : Prop := ∃ l fr, w.heap[g]? = some (.cells l T fr)
theorem TypB.set {w : World} {g T : Nat} (h : TypB w g T) (a : Addr) (v : Value) : TypB (w.setCell a v) g T := by
  obtain ⟨l, fr, h⟩ := h
  unfold World.setCell TypB
  simp only [Array.getElem?_modify, h]
  split
  · exact ⟨_, _, rfl⟩
  · exact ⟨_, _, rfl⟩
theorem TypB.sets {g T : Nat} (g' : Nat) : ∀ (vs : List Value) (o : Nat) {w : World}, TypB w g T → TypB (w.setCells g' o vs) g T
  | [], _, _, h => h
  | v :: vs, o, _, h => TypB.sets g' vs (o + 1) (h.set ⟨g', o, none⟩ v)
theorem TypB.grown {w w' : World} {g T : Nat} {r : Option Nat} (h : TypB w g T) (hg : w.grownBy w' r) (hne : some g ≠ r) : TypB w' g T := by
  obtain ⟨l, fr, h⟩ := h
  exact ⟨l, fr, (hg.block g (Array.getElem?_eq_some_iff.1 h).1 hne).trans h⟩
theorem TypB.below {w w' : World} {g T : Nat} (h : TypB w g T) (hb : Below w.heap.size w w') : TypB w' g T := h.grown (below_grown hb none) (by simp)
theorem TypB.far {w : World} {g T b e s n : Nat} {v : Value} {xs : List Value} (h : TypB w g T) (hO : w.ownsRow b e s v n xs) (he : Nat.beq e T = false) : some g ≠ v.ownBlock := by
  obtain ⟨l, fr, h⟩ := h
  rcases hO.2 with ⟨rfl, _⟩ | ⟨g1, c1, cur1, rfl, _, hg1, _⟩
  · intro h; cases h
  · intro h2
    have h2 : g = g1 := by injection h2
    subst h2
    rw [h] at hg1
    injection hg1 with hg1
    injection hg1 with _ hg1 _
    subst hg1
    rw [Nat.beq_refl] at he
    cases he
/-- a box of one's own, of a kind. -/
def BoxQ (base T : Nat) (L : List Value) (v : Value) (w : World) : Prop := ∃ g, v = .pointer (some ⟨g, 0, none⟩) ∧ base ≤ g ∧ g < w.heap.size ∧ Cells w g L ∧ TypB w g T
theorem BoxQ.below {base T : Nat} {L : List Value} {v : Value} {w w' : World} (hb : Below w.heap.size w w') (h : BoxQ base T L v w) : BoxQ base T L v w' := by
  obtain ⟨g, h1, h2, h3, h4, h5⟩ := h
  exact ⟨g, h1, h2, Nat.lt_of_lt_of_le h3 hb.size, h4.below hb h3, h5.below hb⟩
theorem BoxQ.row {base T b e s n : Nat} {L : List Value} {u v : Value} {xs : List Value} {w w' : World} (hO : w.ownsRow b e s u n xs) (he : Nat.beq e T = false) (hg : w.grownBy w' u.ownBlock) (h : BoxQ base T L v w) : BoxQ base T L v w' := by
  obtain ⟨g, h1, h2, h3, h4, h5⟩ := h
  exact ⟨g, h1, h2, Nat.lt_of_lt_of_le h3 hg.size, h4.kept hg h3 (h5.far hO he), h5.grown hg (h5.far hO he)⟩
/-- 'x := ..' of a struct: a new box, what it is, of what kind. -/
theorem Has.nk {ops : Array Oper} {rest rest' : List Oper} {o1 o2 : Oper} {a : Act} {w W : World} {B : Nat} {bs : List (Nat × List Value)} {Q : Exit → Act → World → Prop} {n : Nat} {l l' : List (Nat × Value)} (H : Has a n l) (O : Own W B bs w) (k : Nat) {d T m : Nat} {y : Operand} {L L0 : List Value} (h1 : L.all (·.oneCell') = true)
    (hz : ∀ w, (zeroValue T).run Tryz.prog w = .ok (.agg L0.toArray) w) (hm : (Tryz.prog.info? T).map (·.size) = some m) (h : ∀ a' w', Below w.heap.size w w' → Own W B ((w.heap.size, L) :: bs) w' → TypB w' w.heap.size T → Has a' n l' → wpList Tryz.prog ops Q rest' a' w') (ho : o1.op = .alloc T := by rfl) (hd : o1.dst = some d := by rfl) (hn : Nat.blt d n = true := by rfl)
    (hg : o1.guard = none := by rfl) (ho2 : o2.op = .store T (.tmp d) y := by rfl) (hd2 : o2.dst = none := by rfl) (hg2 : o2.guard = none := by rfl) (hy : evL ((d, .pointer (some ⟨w.heap.size, 0, none⟩)) :: l) y = some (.agg L.toArray) := by rfl) (hl : L.length = m := by rfl) (hl0 : L0.length = m := by rfl)
    (hr : runM n k rest ((d, .pointer (some ⟨w.heap.size, 0, none⟩)) :: l) = some (rest', l') := by rfl) : wpList Tryz.prog ops Q (o1 :: o2 :: rest) a w := by
  have hb := balloc w (.cells L0.toArray T)
  have hC : Cells (w.alloc (.cells L0.toArray T)) w.heap.size L0 := Cells.of_heap (heap_alloc_new w _)
  have O1 := O.alloc hb (by simp) hC
  have hT1 : TypB (w.alloc (.cells L0.toArray T)) w.heap.size T := ⟨_, _, heap_alloc_new w _⟩
  refine H.go (w' := w.alloc (.cells L0.toArray T)) (gz hg) hd hn (.pointer (some ⟨w.heap.size, 0, none⟩)) ?_ fun a1 H1 => ?_
  · unfold execOp
    simp only [ho]
    simp [Instr.alloc, hz, Sem.run_bind, Result.andThen, newVar, newRow, Value.cells, newObj]
    rfl
  have ht : (w.alloc (.cells L0.toArray T)).there w.heap.size 0 L.toArray.size := by
    have := hC.there
    rw [hl0, ← hl] at this
    simpa using this
  have hr2 := run_storeAt_mid (P := Tryz.prog) (w.alloc (.cells L0.toArray T)) w.heap.size 0 T L.toArray ht (by rw [hm, ← hl]; simp) (all_oneCell_toArray fun v hv => List.all_eq_true.1 h1 v hv)
  have hgr := (setCells_only w.heap.size L 0 (w.alloc (.cells L0.toArray T))).2
  refine H1.run0 (gz hg2) hd2 (run_store ho2 (H1.ev (by show (bif Nat.beq d d then _ else _) = _; rw [Nat.beq_refl, cond_true])) (H1.ev hy) hr2) fun a2 H2 => runM_ok k H2 hr fun a3 H3 => h a3 _ (hb.grown hgr hb.size (fun k hk => by injection hk with hk; rw [← hk]; exact Nat.le_refl _)) (O1.store 0 rfl hgr (setCells_only w.heap.size L 0 _).1.size ?_) (hT1.sets _ L 0) H3
  intro j v hv
  have hj := (List.getElem?_eq_some_iff.1 hv).1
  have a := World.rangeAt_setCells_same _ w.heap.size 0 L (by simpa using ht) j v hv
  have b := (World.there_setCells (by simpa using ht) w.heap.size 0 L j hj).2
  rw [Nat.zero_add] at a b
  exact ⟨a, b⟩
theorem Has.app {ops : Array Oper} {rest : List Oper} {o : Oper} {a : Act} {w : World} {Q : Exit → Act → World → Prop} {n : Nat} {l : List (Nat × Value)} (H : Has a n l) {s x : Operand} {t e : TypeId} {d base size bytes k m c : Nat} {z u : Value} {A : Option Addr} {xs ys : List Value} (hown : w.ownsRow base e size u k xs) (hi : (Tryz.prog.info? e).map (fun i => (i.zero, i.size, i.bytes)) = some (some z, size, bytes))
    (hr : Reads w w.heap.size size A m ys) (h1 : ∀ u ∈ ys, u.oneCell' = true) (hn : k + m ≤ maxLen) (hb : (k + m) * bytes ≤ 140737488355328) (hbase : base ≤ w.heap.size) (h : ∀ a' A' c' w', w'.ownsRow base e size (.slice A' (k + m) c') (k + m) (xs ++ ys) → w.grownBy w' u.ownBlock → Has a' n ((d, .slice A' (k + m) c') :: l) → wpList Tryz.prog ops Q rest a' w')
    (ho : o.op = .call { callee := .builtin .append, args := #[s, x], argTypes := #[t, t] } := by rfl) (hd : o.dst = some d := by rfl) (hnn : Nat.blt d n = true := by rfl) (hg : o.guard = none := by rfl) (ht : Tryz.prog.underlying t = some (.slice e) := by kernel_rfl) (hzs : z.cells.size = size := by rfl) (hsz : 0 < size := by decide)
    (hs : evL l s = some u := by rfl) (hx : evL l x = some (.slice A m c) := by rfl) : wpList Tryz.prog ops Q (o :: rest) a w := by
  obtain ⟨A', c', w', hrun, hO, hgr⟩ := run_app (a := a) ho ht hi hzs hsz (H.ev hs) hown (H.ev hx) hr h1 hn hb hbase
  exact H.go (gz hg) hd hnn _ hrun fun a' H' => h a' A' c' w' hO hgr H'
/-- a row grows, or is put elsewhere: the boxes stay. -/
theorem Own.row {W w w' : World} {B : Nat} {bs : List (Nat × List Value)} {b e s n : Nat} {v : Value} {xs : List Value} (O : Own W B bs w) (hO : w.ownsRow b e s v n xs) (hB : B ≤ b) (hg : w.grownBy w' v.ownBlock) (hall : ∀ p ∈ bs, some p.1 ≠ v.ownBlock) : Own W B bs w' :=
  ⟨O.bel.grown hg O.le fun k hk => Nat.le_trans hB (hO.lt k hk).1, Nat.le_trans O.le hg.size, O.nd, fun p hp => ⟨(O.mem p hp).1, Nat.lt_of_lt_of_le (O.mem p hp).2.1 hg.size, (O.mem p hp).2.2.kept hg (O.mem p hp).2.1 (hall p hp)⟩⟩
theorem rb_of_own {w : World} {b n : Nat} {xs : List UInt8} {A : Option Addr} {c : Nat} (hn : xs.length = n) (h : w.ownsRow b 5 1 (.slice A n c) n (xs.map bv)) (_hb : b ≤ w.heap.size) : RB w w.heap.size A xs := by
  subst hn
  obtain ⟨_, _, e, hr⟩ := (RowIs.read (b := b) ⟨A, c, rfl, h⟩ : BytesAre xs (.slice A xs.length c) w)
  injection e with h1 _ _
  subst h1
  exact hr
theorem own_cap {w : World} {b e s n c : Nat} {A : Option Addr} {xs : List Value} (h : w.ownsRow b e s (.slice A n c) n xs) : n ≤ c := by
  obtain ⟨_, _, hve, hcr, _⟩ := own_shape h
  injection hve with _ _ hce
  rw [hce]
  exact hcr
theorem slice_lo (A : Option Addr) (n c lo : Nat) (h1 : lo ≤ n) (_h3 : n ≤ c) (w : World) : (Instr.sliceAt 31 (.slice A n c) (some (.int .i64 (lo : Int))) none none).run Tryz.prog w = .ok (.slice (if c = lo then A else A.map (·.add lo)) (n - lo) (c - lo)) w := by
  simp [go_sem]
  omega
theorem run_slice_l {P : Program} {o : Oper} {a : Act} {w : World} {T : Nat} {x lo : Operand} {u v r : Value} (ho : o.op = .slice T x (some lo) none none) (hx : a.eval x = u) (hl : a.eval lo = v) (hq : (Instr.sliceAt T u (some v) none none).run P w = .ok r w) : (execOp a.eval o).run P w = .ok (.value r) w := by
  unfold execOp
  simp only [ho, hx, Option.map_some, Option.map_none, hl, Sem.run_bind, hq, Result.andThen_ok, Sem.run_pure]
theorem slice_lh (A : Option Addr) (n c lo hi : Nat) (h1 : lo ≤ hi) (h2 : hi ≤ n) (h3 : n ≤ c) (w : World) : (Instr.sliceAt 31 (.slice A n c) (some (.int .i64 (lo : Int))) (some (.int .i64 (hi : Int))) none).run Tryz.prog w = .ok (.slice (if c = lo then A else A.map (·.add lo)) (hi - lo) (c - lo)) w := by
  simp [go_sem]
  rw [if_pos (by omega), if_pos h1]
theorem slice_h (A : Option Addr) (n c hi : Nat) (h2 : hi ≤ n) (h3 : n ≤ c) (w : World) : (Instr.sliceAt 31 (.slice A n c) none (some (.int .i64 (hi : Int))) none).run Tryz.prog w = .ok (.slice A hi c) w := by
  simp [go_sem]
  intro h
  omega
set_option maxRecDepth 100000 in
theorem index_0 (b o n c : Nat) (hn : 0 < n) (w : World) : (Instr.indexAt 31 (.slice (some ⟨b, o, none⟩) n c) (.int .i64 0)).run Tryz.prog w = .ok (.pointer (some ⟨b, o, none⟩)) w := by
  have h := index_1 31 Tryz.underlying31 (fun _ => by kernel_rfl) b o n c 0 hn w
  have e : ((0 : Nat) : Int) = 0 := rfl
  rw [e, Nat.add_zero] at h
  exact h
theorem Has.more {a : Act} {n : Nat} {l : List (Nat × Value)} (H : Has a n l) {k : Nat} {v : Value} (h : a.eval (.tmp k) = v) : Has a n ((k, v) :: l) := by
  refine ⟨H.sz, H.df, fun j u hj => ?_⟩
  have hj : (bif Nat.beq k j then some v else look l j) = some u := hj
  cases hk : Nat.beq k j with
  | true =>
    rw [hk] at hj
    injection hj with hj
    rw [← Nat.eq_of_beq_eq_true hk, h, hj]
  | false =>
    rw [hk] at hj
    exact H.at_ j u hj
theorem index_m (T : TypeId) (hT : Tryz.prog.underlying T = some (.slice (Tryz.prog.elem T))) (m : Nat) (hs : ∀ w, (sizeOf (Tryz.prog.elem T)).run Tryz.prog w = .ok m w) (b o n c k : Nat) (hk : k < n) (w : World) : (Instr.indexAt T (.slice (some ⟨b, o, none⟩) n c) (.int .i64 k)).run Tryz.prog w = .ok (.pointer (some ⟨b, o + k * m, none⟩)) w := by
  rw [run_indexAt_slice (h := hT), if_pos ⟨by omega, by omega⟩, hs]
  have e : (Addr.mk b o none).add ((k : Int).toNat * m) = ⟨b, o + k * m, none⟩ := by
    rw [Int.toNat_natCast]
    unfold Addr.add
    by_cases h : k * m = 0
    · rw [if_pos h, h]; rfl
    · rw [if_neg h]
  rw [Result.andThen_ok, e]
theorem neq_3 (u v : Int) (b : Bool) (h : (u != v) = b) (x y : Operand) (w : World) : (do eqGuard .neq 3 x y (.int .i64 u) (.int .i64 v); binOp .neq 3 (.int .i64 u) (.int .i64 v) : Sem Value).run Tryz.prog w = .ok (.bool b) w := by
  rw [← h]
  simp [go_sem]
theorem eql_iB (u v : Int) (b : Bool) (h : (u == v) = b) (x y : Operand) (w : World) : (do eqGuard .eql 3 x y (.int .i64 u) (.int .i64 v); binOp .eql 3 (.int .i64 u) (.int .i64 v) : Sem Value).run Tryz.prog w = .ok (.bool b) w := by
  rw [← h]; exact eql_i u v x y w
section
variable {P : Program} {o : Oper} {a : Act} {w : World}
theorem run_slice {T : Nat} {x lo hi : Operand} {u v y r : Value} (ho : o.op = .slice T x (some lo) (some hi) none) (hx : a.eval x = u) (hl : a.eval lo = v) (hh : a.eval hi = y) (hq : (Instr.sliceAt T u (some v) (some y) none).run P w = .ok r w) : (execOp a.eval o).run P w = .ok (.value r) w := by
  unfold execOp
  simp only [ho, hx, Option.map_some, Option.map_none, hl, hh, Sem.run_bind, hq, Result.andThen_ok, Sem.run_pure]
theorem run_slice_h {T : Nat} {x hi : Operand} {u y r : Value} (ho : o.op = .slice T x none (some hi) none) (hx : a.eval x = u) (hh : a.eval hi = y) (hq : (Instr.sliceAt T u none (some y) none).run P w = .ok r w) : (execOp a.eval o).run P w = .ok (.value r) w := by
  unfold execOp
  simp only [ho, hx, Option.map_some, Option.map_none, hh, Sem.run_bind, hq, Result.andThen_ok, Sem.run_pure]
end
section
variable {ops : Array Oper} {Q : Exit → Act → World → Prop} {n : Nat} {l fixed : List (Nat × Value)} {F : World → Prop} {es : List EntC} {i s : Nat} {o : Oper}
/-- a box is made, whenever. -/
theorem ka {T base : Nat} {L : List Value} (hz : ∀ w, (zeroValue T).run Tryz.prog w = .ok (.agg L.toArray) w) (hb : ∀ w, F w → base ≤ w.heap.size) (ho : ops[i]? = some o := by rfl) (hp : o.op = .alloc T := by rfl) (hd : o.dst = some s := by rfl) (hg : okG ops (fixed ++ knownE (afts ops i) es) o = true := by rfl) : HeavyE ops Q n fixed F es (er i s [] (BoxQ base T L)) :=
  kx (t := er i s [] (BoxQ base T L)) (fun a w _ _ hF => ⟨.pointer (some ⟨w.heap.size, 0, none⟩), w.alloc (.cells L.toArray T), by
    unfold execOp
    simp only [hp]
    simp [Instr.alloc, hz, Sem.run_bind, Result.andThen, newVar, newRow, Value.cells, newObj]
    rfl, ⟨w.heap.size, rfl, hb w hF, lt_alloc _ _, Cells.of_heap (heap_alloc_new w _), ⟨_, _, heap_alloc_new w _⟩⟩, balloc _ _⟩) ho hd hg
theorem jh {Wp : World → Prop} {T : Nat} {x hi : Operand} {u y r : Value} (hq : ∀ w, (Instr.sliceAt T u none (some y) none).run Tryz.prog w = .ok r w) (ho : ops[i]? = some o := by rfl) (hp : o.op = .slice T x none (some hi) none := by rfl) (hd : o.dst = some s := by rfl) (hg : okG ops l o = true := by rfl) (hx : evL l x = some u := by rfl) (hy : evL l hi = some y := by rfl) : PureE ops Q n l Wp i s r :=
  fun _ _ w H _ hK => wpOp_go ho (okG_w H hg) s hd r w (run_slice_h hp (H.ev hx) (H.ev hy) (hq w)) hK
theorem js2 {Wp : World → Prop} {T : Nat} {x lo hi : Operand} {u y z r : Value} (hq : ∀ w, (Instr.sliceAt T u (some y) (some z) none).run Tryz.prog w = .ok r w) (ho : ops[i]? = some o := by rfl) (hp : o.op = .slice T x (some lo) (some hi) none := by rfl) (hd : o.dst = some s := by rfl) (hg : okG ops l o = true := by rfl) (hx : evL l x = some u := by rfl) (hy : evL l lo = some y := by rfl) (hz : evL l hi = some z := by rfl) : PureE ops Q n l Wp i s r :=
  fun _ _ w H _ hK => wpOp_go ho (okG_w H hg) s hd r w (run_slice hp (H.ev hx) (H.ev hy) (H.ev hz) (hq w)) hK
end
theorem RowIs.of {b n c : Nat} {A : Option Addr} {xs : List UInt8} {w : World} (hn : xs.length = n) (h : w.ownsRow b 5 1 (.slice A n c) n (xs.map bv)) : RowIs b xs (.slice A n c) w := by
  subst hn
  exact ⟨A, c, rfl, h⟩
theorem store1_i (g o : Nat) (v : Int) (u : Value) (w : World) (h : w.cell? ⟨g, o, none⟩ = some u) (hf : w.frozen? ⟨g, o, none⟩ = false) : (Instr.storeAt 3 (.pointer (some ⟨g, o, none⟩)) (.int .i64 v)).run Tryz.prog w = .ok () (w.setCell ⟨g, o, none⟩ (.int .i64 v)) := by
  simp [go_sem, h, hf]
theorem store1_b (g o : Nat) (v : Bool) (u : Value) (w : World) (h : w.cell? ⟨g, o, none⟩ = some u) (hf : w.frozen? ⟨g, o, none⟩ = false) : (Instr.storeAt 4 (.pointer (some ⟨g, o, none⟩)) (.bool v)).run Tryz.prog w = .ok () (w.setCell ⟨g, o, none⟩ (.bool v)) := by
  simp [go_sem, h, hf]
theorem store1_s (g o : Nat) (v : ByteArray) (u : Value) (w : World) (h : w.cell? ⟨g, o, none⟩ = some u) (hf : w.frozen? ⟨g, o, none⟩ = false) : (Instr.storeAt 9 (.pointer (some ⟨g, o, none⟩)) (.string v)).run Tryz.prog w = .ok () (w.setCell ⟨g, o, none⟩ (.string v)) := by
  simp [go_sem, h, hf]
theorem store1_31 (g o n c : Nat) (A : Option Addr) (u : Value) (w : World) (h : w.cell? ⟨g, o, none⟩ = some u) (hf : w.frozen? ⟨g, o, none⟩ = false) : (Instr.storeAt 31 (.pointer (some ⟨g, o, none⟩)) (.slice A n c)).run Tryz.prog w = .ok () (w.setCell ⟨g, o, none⟩ (.slice A n c)) := by
  simp [go_sem, h, hf]
/-- a cell of a block that may be written. -/
theorem Has.put1 {ops : Array Oper} {rest rest' : List Oper} {o : Oper} {a : Act} {w : World} {Q : Exit → Act → World → Prop} {n : Nat} {l l' : List (Nat × Value)} (H : Has a n l) {g j T : Nat} {x y : Operand} {v : Value} {L : List Value} (hC : Cells w g L) (k : Nat)
    (hst : ∀ u, w.cell? ⟨g, j, none⟩ = some u → w.frozen? ⟨g, j, none⟩ = false → (Instr.storeAt T (.pointer (some ⟨g, j, none⟩)) v).run Tryz.prog w = .ok () (w.setCell ⟨g, j, none⟩ v))
    (h : ∀ a' w', Cells w' g (L.set j v) → w.grownBy w' (some g) → Has a' n l' → wpList Tryz.prog ops Q rest' a' w')
    (ho : o.op = .store T x y := by rfl) (hd : o.dst = none := by rfl) (hg : o.guard = none := by rfl) (hx : evL l x = some (.pointer (some ⟨g, j, none⟩)) := by rfl) (hy : evL l y = some v := by rfl) (hj : Nat.blt j L.length = true := by rfl)
    (hr : runM n k rest l = some (rest', l') := by rfl) : wpList Tryz.prog ops Q (o :: rest) a w := by
  have hj' : j < L.length := by simpa [Nat.blt_eq] using hj
  obtain ⟨c1, c2⟩ := hC j _ (List.getElem?_eq_getElem hj')
  exact H.store (gz hg) ho hd hx hy (hst _ c1 c2) fun a' H' => runM_ok k H' hr fun a'' H'' => h a'' _ (hC.set j v hj') (grown_setCell w g j v) H''
/-- one of one's own blocks turns, memory is made. -/
theorem Own.turn {W w w' : World} {B : Nat} {bs : List (Nat × List Value)} (h : Own W B bs w) (i : Nat) {g : Nat} {L L' : List Value} (hi : bs[i]? = some (g, L)) (hg : w.grownBy w' (some g)) (hC : Cells w' g L') : Own W B (bs.set i (g, L')) w' := by
  have hgB := h.ge i hi
  have hglt := h.lt i hi
  have hs := hg.size
  have hli : i < bs.length := (List.getElem?_eq_some_iff.1 hi).1
  have hmap : (bs.set i (g, L')).map (·.1) = bs.map (·.1) := by
    apply List.ext_getElem?
    intro j
    rw [List.getElem?_map, List.getElem?_map, List.getElem?_set]
    by_cases e : i = j
    · subst e
      simp only [if_true, hli, hi, Option.map_some]
    · rw [if_neg e]
  refine ⟨h.bel.grown hg h.le (fun k hk => by injection hk with hk; rw [← hk]; exact hgB), Nat.le_trans h.le hs, by rw [hmap]; exact h.nd, fun p hp => ?_⟩
  obtain ⟨j, hj⟩ := List.getElem?_of_mem hp
  rw [List.getElem?_set] at hj
  by_cases e : i = j
  · rw [if_pos e, if_pos hli] at hj
    injection hj with hj
    subst hj
    exact ⟨hgB, Nat.lt_of_lt_of_le hglt hs, hC⟩
  · rw [if_neg e] at hj
    have hm := h.mem p (List.mem_of_getElem? hj)
    refine ⟨hm.1, Nat.lt_of_lt_of_le hm.2.1 hs, hm.2.2.kept hg hm.2.1 (fun e2 => e ?_)⟩
    injection e2 with e2
    have h1 : (bs.map (·.1))[i]? = some g := by rw [List.getElem?_map, hi]; rfl
    have h2 : (bs.map (·.1))[j]? = some g := by rw [List.getElem?_map, hj, ← e2]; rfl
    exact nodup_get h.nd h1 h2
theorem results_two {P : Program} {fn : Func} {p q : Tmp} {T : TypeId} (h : fn.results = #[.cell p T, .tmp q]) (tmps : Array Value) {w : World} {g : Nat} {l : List Value} (d : TypeDesc) (v : Value) (hp : tmps.getD p undef = .pointer (some ⟨g, 0, none⟩)) (hq : tmps.getD q undef = v) (hC : Cells w g l)
    (hu : P.underlying T = some d) (hd : d.isRow = true) (n : Nat) (hi : (P.info? T).map (·.size) = some n) (hl : l.length = n) : (results fn tmps).run P w = .ok (.tuple #[.agg l.toArray, v]) w := by
  rw [← hl] at hi
  have hp' : tmps[p]?.getD undef = .pointer (some ⟨g, 0, none⟩) := by simpa using hp
  have hq' : tmps[q]?.getD undef = v := by simpa using hq
  simp [results, h, hp', hq', asAddr, run_loadVar_mid w g 0 T l d hC.range hu hd hi]
theorem loadT {T m g : Nat} {w : World} {L : List Value} {d : TypeDesc} (hC : Cells w g L) (hu : Tryz.prog.underlying T = some d) (hd : d.isRow = true) (hi : (Tryz.prog.info? T).map (·.size) = some m) (hl : L.length = m) : (Instr.loadAt T (.pointer (some ⟨g, 0, none⟩))).run Tryz.prog w = .ok (.agg L.toArray) w := by
  rw [← hl] at hi
  have := run_loadVar_mid w g 0 T L _ hC.range hu hd hi
  simp only [Instr.loadAt, Instr.sureAddr, Sem.run_bind, Sem.run_pure, Result.andThen_ok, this]
section
variable {ops : Array Oper} {Q : Exit → Act → World → Prop} {n : Nat} {l fixed : List (Nat × Value)} {F : World → Prop} {es : List EntC} {i s : Nat} {o : Oper}
theorem js1 {Wp : World → Prop} {T : Nat} {x lo : Operand} {u y r : Value} (hq : ∀ w, (Instr.sliceAt T u (some y) none none).run Tryz.prog w = .ok r w) (ho : ops[i]? = some o := by rfl) (hp : o.op = .slice T x (some lo) none none := by rfl) (hd : o.dst = some s := by rfl) (hg : okG ops l o = true := by rfl) (hx : evL l x = some u := by rfl) (hy : evL l lo = some y := by rfl) : PureE ops Q n l Wp i s r :=
  fun _ _ w H _ hK => wpOp_go ho (okG_w H hg) s hd r w (run_slice_l hp (H.ev hx) (H.ev hy) (hq w)) hK
end
theorem eql_u (u v : Int) (b : Bool) (h : (u == v) = b) (x y : Operand) (w : World) : (do eqGuard .eql 5 x y (.int .u8 u) (.int .u8 v); binOp .eql 5 (.int .u8 u) (.int .u8 v) : Sem Value).run Tryz.prog w = .ok (.bool b) w := by
  rw [← h]
  simp [go_sem]
theorem Own.sub {W w : World} {B : Nat} {bs bs' : List (Nat × List Value)} (h : Own W B bs w) (hp : bs'.Sublist bs) : Own W B bs' w :=
  ⟨h.bel, h.le, (hp.map _).nodup h.nd, fun p hm => h.mem p (hp.subset hm)⟩
theorem Own.addq {W w w' : World} {B : Nat} {bs : List (Nat × List Value)} (h : Own W B bs w) {q : Nat} {L : List Value} (hg : w.grownBy w' (some q)) (hB : B ≤ q) (hlt : q < w.heap.size) (hne : ∀ p ∈ bs, p.1 ≠ q) (hC : Cells w' q L) : Own W B ((q, L) :: bs) w' := by
  refine ⟨h.bel.grown hg h.le (fun k hk => by injection hk with hk; omega), Nat.le_trans h.le hg.size, ?_, fun p hp => ?_⟩
  · rw [List.map_cons, List.nodup_cons]
    exact ⟨fun hm => by obtain ⟨p, hp, e⟩ := List.mem_map.1 hm; exact hne p hp e, h.nd⟩
  · rcases List.mem_cons.1 hp with rfl | hp
    · exact ⟨hB, Nat.lt_of_lt_of_le hlt hg.size, hC⟩
    · have hm := h.mem p hp
      exact ⟨hm.1, Nat.lt_of_lt_of_le hm.2.1 hg.size, hm.2.2.kept hg hm.2.1 (by intro e; injection e with e; exact hne p hp e)⟩
theorem own_lit (w : World) (l : List Value) (e : TypeId) (size n : Nat) (hl : l.length = n * size) (hn : n ≤ maxLen) : (w.alloc (.cells l.toArray e)).ownsRow w.heap.size e size (.slice (some ⟨w.heap.size, 0, none⟩) n n) n l :=
  ⟨hl, .inr ⟨w.heap.size, n, l.toArray, rfl, Nat.le_refl _, heap_alloc_new w _, Nat.le_refl _, hn, by simp [hl], by simp [← hl]⟩⟩
end Go.Proofs.YtlacidnnankjlaaGreatDoor

/-
  The walks of chapter 8's and 12's small functions, of client's.
-/
namespace Go.Proofs.YtlacidnnankjlaaGreatDoor
open Go.RowKit

set_option maxRecDepth 100000 in
theorem ethWithin (n m : Int) (w : World) : Calls Tryz.prog 45 #[.int .i64 n, .int .i64 m] w fun e w' => e = .returned (.bool (inR n m)) ∧ w = w' := by
  by_cases h1 : 0 ≤ n
  · by_cases h2 : n ≤ m
    · have H := Lib.hid (inR_iff.2 ⟨h1, h2⟩)
      go_enter Tryz.func45, Tryz.ntmps45
      go_wp2
      go_ret
      exact ⟨by rw [H.out]; rfl, rfl⟩
    · have H := Lib.hid (Bool.eq_false_iff.2 fun h => h2 (inR_iff.1 h).2)
      go_enter Tryz.func45, Tryz.ntmps45
      go_wp2
      go_ret
      exact ⟨by rw [H.out]; rfl, rfl⟩
  · have H := Lib.hid (Bool.eq_false_iff.2 fun h => h1 (inR_iff.1 h).1 : inR n m = false)
    go_enter Tryz.func45, Tryz.ntmps45
    go_wp2
    go_ret
    exact ⟨by rw [H.out]; rfl, rfl⟩
set_option maxRecDepth 100000 in
theorem spanIs (n : Int) (w : World) : Calls Tryz.prog 47 #[.int .i64 n] w fun e w' => e = .returned (.bool (inR n 4294967295)) ∧ w = w' := by
  by_cases h1 : 0 ≤ n
  · by_cases h2 : n < 4294967296
    · have H := Lib.hid (inR_iff.2 ⟨h1, show n ≤ 4294967295 by omega⟩)
      go_enter Tryz.func47, Tryz.ntmps47
      go_wp2
      go_ret
      exact ⟨by rw [H.out]; rfl, rfl⟩
    · have H := Lib.hid (Bool.eq_false_iff.2 fun h => h2 (by have := (inR_iff.1 h).2; omega) : inR n 4294967295 = false)
      go_enter Tryz.func47, Tryz.ntmps47
      go_wp2
      go_ret
      exact ⟨by rw [H.out]; rfl, rfl⟩
  · have H := Lib.hid (Bool.eq_false_iff.2 fun h => h1 (inR_iff.1 h).1 : inR n 4294967295 = false)
    go_enter Tryz.func47, Tryz.ntmps47
    go_wp2
    go_ret
    exact ⟨by rw [H.out]; rfl, rfl⟩
set_option maxRecDepth 100000 in
theorem macOk (n : Int) (w : World) : Calls Tryz.prog 43 #[.int .i64 n] w fun e w' => e = .returned (.bool (inR n 281474976710655)) ∧ w = w' := by
  go_enter Tryz.func43, Tryz.ntmps43
  go_wp2_with fail
  (with_reducible refine (refNum n 281474976710655 w).mono ?_)
  rintro e w' ⟨rfl, rfl⟩
  go_wp2
  go_ret
  exact ⟨rfl, rfl⟩
/-- numbers that go round. -/
theorem and_r (a : Nat) (h : a < 9223372036854775808) (x y : Operand) (w : World) : (do eqGuard .and 3 x y (.int .i64 (a : Int)) (.int .i64 4294967295); binOp .and 3 (.int .i64 (a : Int)) (.int .i64 4294967295) : Sem Value).run Tryz.prog w = .ok (.int .i64 ((a % 4294967296 : Nat) : Int)) w := by
  have h1 := i64_and_nat a 4294967295 h (by decide)
  have h2 : a &&& 4294967295 = a % 4294967296 := Nat.and_two_pow_sub_one_eq_mod a 32
  rw [h2] at h1
  simp [go_sem]
  exact h1
theorem add_r (a b : Nat) (h : a + b < 9223372036854775808) (x y : Operand) (w : World) : (do eqGuard .add 3 x y (.int .i64 (a : Int)) (.int .i64 (b : Int)); binOp .add 3 (.int .i64 (a : Int)) (.int .i64 (b : Int)) : Sem Value).run Tryz.prog w = .ok (.int .i64 ((a + b : Nat) : Int)) w := by
  have : IntKind.i64.wrap ((a : Int) + (b : Int)) = ((a + b : Nat) : Int) := by rw [← Int.natCast_add]; exact IntWalk.i64_in _ (by omega)
  simp [go_sem]
  exact this
def spAdd (s n : Nat) : Nat := (s % 4294967296 + n % 4294967296) % 4294967296
theorem spAdd_lt (s n : Nat) : spAdd s n < 4294967296 := Nat.mod_lt _ (by decide)
set_option maxRecDepth 100000 in
theorem spanAdd (s n : Nat) (hs : s < 9223372036854775808) (hn : n < 9223372036854775808) (w : World) : Calls Tryz.prog 48 #[.int .i64 (s : Int), .int .i64 (n : Int)] w fun e w' => e = .returned (.int .i64 ((spAdd s n : Nat) : Int)) ∧ w = w' := by
  go_enter Tryz.func48, Tryz.ntmps48
  refine Has.start 11 [(0, .int .i64 (s : Int)), (1, .int .i64 (n : Int))] rfl rfl ⟨rfl, rfl, trivial⟩ ?_
  intro a0 H0
  refine H0.rg 1 fun a1 H1 => nt ?_
  refine H1.rg 1 fun a H => ?_
  refine H.bn 1 (and_r s hs _ _ _) fun a H => ?_
  refine H.bn 0 (and_r n hn _ _ _) fun a H => ?_
  refine H.bn 0 (add_r (s % 4294967296) (n % 4294967296) (by omega) _ _ _) fun a H => ?_
  refine H.bn 1 (and_r (s % 4294967296 + n % 4294967296) (by omega) _ _ _) fun a H => nt (wp_ret ?_)
  repeat (first | (with_reducible refine block_ret ?_) | (with_reducible refine then_ret ?_))
  exact bodyPost_ret (results_tmp rfl _ _ _) H.df ⟨congrArg Ending.returned (H.at_ 4 _ rfl), rfl⟩
end Go.Proofs.YtlacidnnankjlaaGreatDoor

/-
  ether.Put, a frame's bytes.
-/
namespace Go.Proofs.YtlacidnnankjlaaGreatDoor
open Go.RowKit

theorem sub1_i (k : Nat) (h : 1 ≤ k) (h2 : k < 9223372036854775807) (x y : Operand) (w : World) : (do eqGuard .sub 3 x y (.int .i64 (k : Int)) (.int .i64 1); binOp .sub 3 (.int .i64 (k : Int)) (.int .i64 1) : Sem Value).run Tryz.prog w = .ok (.int .i64 ((k - 1 : Nat) : Int)) w := by
  have : IntKind.i64.wrap ((k : Int) - 1) = ((k - 1 : Nat) : Int) := by rw [show (k : Int) - 1 = ((k - 1 : Nat) : Int) by omega]; exact IntWalk.i64_in _ (by omega)
  simp [go_sem]
  exact this
theorem mul8_i (k : Nat) (h : k ≤ 7) (x y : Operand) (w : World) : (do eqGuard .mul 3 x y (.int .i64 8) (.int .i64 (k : Int)); binOp .mul 3 (.int .i64 8) (.int .i64 (k : Int)) : Sem Value).run Tryz.prog w = .ok (.int .i64 ((8 * k : Nat) : Int)) w := by
  have : IntKind.i64.wrap (8 * (k : Int)) = ((8 * k : Nat) : Int) := by rw [show 8 * (k : Int) = ((8 * k : Nat) : Int) by omega]; exact IntWalk.i64_in _ (by omega)
  simp [go_sem]
  exact this
theorem shr_i (n k : Nat) (h : k ≤ 7) (x y : Operand) (w : World) : (do eqGuard .shr 3 x y (.int .i64 (n : Int)) (.int .i64 ((8 * k : Nat) : Int)); binOp .shr 3 (.int .i64 (n : Int)) (.int .i64 ((8 * k : Nat) : Int)) : Sem Value).run Tryz.prog w = .ok (.int .i64 ((n / 256 ^ k : Nat) : Int)) w := by
  have := bigI k n
  simp [go_sem]
  have e : (8 * (k : Int)).toNat = 8 * k := by omega
  rw [e, this]
  simp
set_option maxRecDepth 100000 in
theorem ethPut (b : Nat) (xs : List UInt8) (v : Value) (k n : Nat) (hk : k ≤ 7) (_hn : n < 9223372036854775808) (w : World) (hv : RowIs b xs v w) (hb : b ≤ w.heap.size) (hl : xs.length ≤ 140737488251232) :
    Calls Tryz.prog 137 #[v, .int .i64 (k : Int), .int .i64 (n : Int)] w fun e w' => ∃ v', e = .returned v' ∧ (RowIs b (xs ++ big k n) v' w' ∧ Below b w w') := by
  go_enter Tryz.func137, Tryz.ntmps137
  refine Has.start 22 [(0, v), (1, .int .i64 (k : Int)), (2, .int .i64 (n : Int))] rfl rfl ⟨rfl, rfl, rfl, trivial⟩ ?_
  intro a0 H0
  refine H0.rg 1 fun a1 H1 => nt ?_
  refine wp_scope_one (k := 0) rfl (fun a w' => ∃ i v', i ≤ k ∧ Has a 22 [(0, v'), (2, .int .i64 (n : Int)), (7, .int .i64 ((i : Nat) : Int))] ∧ RowIs b (xs ++ (big k n).take (k - i)) v' w' ∧ Below b w w') (fun a _ => (intOf (a.tmps.getD 7 undef)).toNat) ?_ ?_
  · intro hpass
    refine H1.rg 2 fun a2 H2 => nt ?_
    refine wp_seq (label_wp (then_normal ?_))
    exact hpass _ _ ⟨k, v, Nat.le_refl _, H2.keep ⟨rfl, rfl, rfl, trivial⟩, by simpa using hv, Below.refl _ _⟩
  · rintro a1 w1 ⟨i, v1, hi, H1, hr, hb1⟩
    have hmu : (intOf (a1.tmps.getD 7 undef)).toNat = i := by rw [show a1.tmps.getD 7 undef = .int .i64 ((i : Nat) : Int) from H1.at_ 7 _ rfl]; simp [intOf]
    rw [hmu]
    refine H1.rg 1 fun a2 H2 => ?_
    by_cases h0 : i = 0
    · subst h0
      refine H2.bb 0 rfl rfl rfl rfl rfl rfl (gtr_i _ _ false rfl _ _ _) rfl fun a3 H3 => nt (H3.condF rfl ?_)
      refine skip_wp (then_normal ?_)
      refine H3.rg 2 fun a4 H4 => nt (wp_ret ?_)
      repeat (first | (with_reducible refine jump_ret ?_) | (with_reducible refine then_ret ?_))
      rw [Nat.sub_zero, List.take_of_length_le (by rw [big_length]; exact Nat.le_refl _)] at hr
      exact bodyPost_ret (results_tmp rfl _ _ _) H4.df ⟨v1, congrArg Ending.returned (H4.at_ 6 _ rfl), hr, hb1⟩
    refine H2.bb 0 rfl rfl rfl rfl rfl rfl (gtr_i _ _ true (by rw [decide_eq_true_iff]; omega) _ _ _) rfl fun a3 H3 => nt (H3.condT rfl ?_)
    refine H3.rg 1 fun a4 H4 => ?_
    refine H4.bn 1 (sub1_i i (by omega) (by omega) _ _ _) fun a5 H5 => nt ?_
    replace H5 := H5.keep (l' := [(0, v1), (2, .int .i64 (n : Int)), (7, .int .i64 ((i - 1 : Nat) : Int))]) ⟨rfl, rfl, rfl, trivial⟩
    have hbb : [Value.int .u8 (((n / 256 ^ (i - 1) : Nat) : Int) % 256)] = [UInt8.ofNat (n / 256 ^ (i - 1))].map bv := by
      rw [byte_of_int _ (Int.natCast_nonneg _), Int.toNat_natCast]
      rfl
    refine H5.rg 3 fun a H => ?_
    refine H.bn 0 (mul8_i (i - 1) (by omega) _ _ _) fun a H => ?_
    refine H.bn 0 (shr_i n (i - 1) (by omega) _ _ _) fun a H => ?_
    refine H.cv 0 (conv_u8 _ _) fun a H => ?_
    refine H.bytes gz rfl rfl [UInt8.ofNat (n / 256 ^ (i - 1))] [.int .u8 (((n / 256 ^ (i - 1) : Nat) : Int) % 256)] hbb rfl 5 (by intro cs b h; cases h) (by kernel_rfl) (by kernel_rfl) ?_
    intro a v2 w2 H hby hb2
    have hs1 := hb1.size
    have hr2 := hr.below hb2
    refine H.appendRow Tryz.underlying31 info_u8 (gz rfl) rfl rfl rfl rfl rfl hr2 hby (by rw [List.length_append, List.length_take, big_length]; simp; omega) (Nat.le_trans (Nat.le_trans hb hs1) hb2.size) ?_
    intro a v3 w3 H hr3 hb3 _
    refine H.ms 1 fun a H => nt ?_
    refine wp_goto ?_
    repeat (with_reducible refine then_goto ?_)
    refine jump_goto ⟨⟨i - 1, v3, by omega, H.keep ⟨rfl, rfl, rfl, trivial⟩, ?_, (hb1.trans (hb2.mono (Nat.le_trans hb hs1))).trans hb3⟩, ?_⟩
    · have e := big_take_snoc k n (k - i) (by omega)
      rw [show k - i + 1 = k - (i - 1) by omega, show k - 1 - (k - i) = i - 1 by omega] at e
      rw [e, ← List.append_assoc]
      exact hr3
    · rw [show a.tmps.getD 7 undef = .int .i64 ((i - 1 : Nat) : Int) from H.at_ 7 _ rfl]
      simp [intOf]
      omega
set_option maxRecDepth 100000 in
set_option maxHeartbeats 1600000 in
theorem ethBytes (d s t : Nat) (xs : List UInt8) (A : Option Addr) (c : Nat) (w : World) (hd : d < 281474976710656) (hs : s < 281474976710656) (ht : t < 65536) (hx : RB w w.heap.size A xs) (hl : xs.length ≤ 1500) :
    Calls Tryz.prog 116 #[.agg #[.int .i64 (d : Int), .int .i64 (s : Int), .int .i64 (t : Int), .slice A xs.length c]] w fun e w' => ∃ v, e = .returned v ∧ (∃ vr, v = .tuple #[vr, .int .i64 0] ∧ RowIs w.heap.size (frBytes d s t xs) vr w' ∧ Below w.heap.size w w') := by
  go_enter Tryz.func116, Tryz.ntmps116
  refine Has.start 38 [(0, .agg #[.int .i64 (d : Int), .int .i64 (s : Int), .int .i64 (t : Int), .slice A xs.length c])] rfl rfl ⟨rfl, trivial⟩ ?_
  intro a0 H0
  have O0 := Own.start w
  refine rl ?_
  refine H0.bx O0 2 (L := [.int .i64 (d : Int), .int .i64 (s : Int), .int .i64 (t : Int), .slice A xs.length c]) fun a1 w1 O1 H1 => nt ?_
  generalize hg : w.heap.size = g at O1 H1
  have e1 : inR (d : Int) 281474976710655 = true := inR_iff.2 ⟨by omega, by omega⟩
  have e2 : inR (s : Int) 281474976710655 = true := inR_iff.2 ⟨by omega, by omega⟩
  have e3 : inR (t : Int) 65535 = true := inR_iff.2 ⟨by omega, by omega⟩
  have c3 : ∀ {w' : World}, Own w g [(g, [.int .i64 (d : Int), .int .i64 (s : Int), .int .i64 (t : Int), .slice A xs.length c])] w' → w'.cell? ⟨g, 3, none⟩ = some (.slice A xs.length c) := fun h => (h.get 0 rfl).get 3 _ rfl
  refine H1.tb (Own w g [(g, [.int .i64 (d : Int), .int .i64 (s : Int), .int .i64 (t : Int), .slice A xs.length c])]) (fun _ _ h hb => h.call hb) O1
    [ec 0 4 (.pointer (some ⟨g, 0, none⟩)), ec 1 5 (.int .i64 (d : Int)), ec 2 6 (.bool true), ec 3 7 (.bool false), ec 4 8 (.bool false), ec 5 9 (.pointer (some ⟨g, 1, none⟩)), ec 6 10 (.int .i64 (s : Int)), ec 7 11 (.bool true), ec 8 12 (.bool false), ec 9 13 (.bool false), ec 10 14 (.bool false),
     ec 11 15 (.pointer (some ⟨g, 2, none⟩)), ec 12 16 (.int .i64 (t : Int)), ec 13 17 (.bool true), ec 14 18 (.bool false), ec 15 19 (.bool false), ec 16 20 (.bool false), ec 17 21 (.pointer (some ⟨g, 3, none⟩)), ec 18 22 (.slice A xs.length c), ec 19 23 (.int .i64 ((xs.length : Nat) : Int)), ec 20 24 (.bool false), ec 21 25 (.bool false)] rfl
    ⟨jm, jl fun _ h => h.li 0 0, jq fun w' _ => e1 ▸ ethWithin _ _ w', ju (hq := run_not true), jm, jm, jl fun _ h => h.li 0 1, jq fun w' _ => e2 ▸ ethWithin _ _ w', ju (hq := run_not true), jp, jm, jm, jl fun _ h => h.li 0 2, jq fun w' _ => e3 ▸ ethWithin _ _ w', ju (hq := run_not true), jp, jm, jm, jl fun _ h => load1_31 _ _ _ _ _ _ (c3 h), jn Tryz.underlying31, jb fun _ => gtr_i ((xs.length : Nat) : Int) 1500 false (decide_eq_false (by omega)) _ _ _, jp, trivial⟩ ?_
  intro a2 w2 H2 O2
  refine then_normal (H2.condF rfl (skip_wp (then_normal ?_)))
  replace H2 := H2.keep (l' := [(1, .pointer (some ⟨g, 0, none⟩))]) ⟨rfl, trivial⟩
  clear H0 O0 H1 O1
  obtain ⟨b0, hb0⟩ : ∃ b0, b0 = w2.heap.size := ⟨_, rfl⟩
  have hgb : g < b0 := by rw [hb0]; exact O2.lt 0 rfl
  refine H2.sg (fun w' => Own w g [(g, [.int .i64 (d : Int), .int .i64 (s : Int), .int .i64 (t : Int), .slice A xs.length c])] w' ∧ b0 ≤ w'.heap.size) ⟨O2.drew, Nat.le_of_eq hb0⟩ [1]
    [ec 0 26 (.pointer (some ⟨g, 0, none⟩)), ec 1 27 (.int .i64 (d : Int)), ec 3 29 (.pointer (some ⟨g, 1, none⟩)), ec 4 30 (.int .i64 (s : Int)), ec 6 32 (.pointer (some ⟨g, 2, none⟩)), ec 7 33 (.int .i64 (t : Int)), ec 9 35 (.pointer (some ⟨g, 3, none⟩)), ec 10 36 (.slice A xs.length c), ec 13 3 (.int .i64 0)] rfl ?_
  refine St.call 2 ⟨jm, jl fun _ h => h.1.li 0 0, jm, jl fun _ h => h.1.li 0 1, jm, jl fun _ h => h.1.li 0 2, jm, jl fun _ h => load1_31 _ _ _ _ _ _ (c3 h.1), jm, trivial⟩ (fun wy h => ethPut b0 [] nilV 6 d (by decide) (by omega) wy ⟨none, 0, rfl, World.ownsRow_nil _ _ _ _⟩ h.2 (by decide)) ?_
  rintro wy v1 wz hh ⟨hr, hb⟩
  refine nx (fun w' => (Own w g [(g, [.int .i64 (d : Int), .int .i64 (s : Int), .int .i64 (t : Int), .slice A xs.length c])] w' ∧ b0 ≤ w'.heap.size) ∧ RowIs b0 (big 6 d) v1 w') [] [] ⟨⟨own_under hh.1 hb (Nat.le_of_lt hgb) (fun p hp => by rw [List.mem_singleton.1 hp]; exact hgb), Nat.le_trans hh.2 hb.size⟩, hr⟩ ?_
  refine St.call 5 ⟨jm, jl fun _ h => h.1.1.li 0 1, jm, jl fun _ h => h.1.1.li 0 2, jm, jl fun _ h => load1_31 _ _ _ _ _ _ (c3 h.1.1), jm, trivial⟩ (fun wy h => ethPut b0 (big 6 d) v1 6 s (by decide) (by omega) wy h.2 h.1.2 (by rw [big_length]; decide)) ?_
  rintro wy v2 wz ⟨hh, _⟩ ⟨hr, hb⟩
  refine nx (fun w' => (Own w g [(g, [.int .i64 (d : Int), .int .i64 (s : Int), .int .i64 (t : Int), .slice A xs.length c])] w' ∧ b0 ≤ w'.heap.size) ∧ RowIs b0 (big 6 d ++ big 6 s) v2 w') [] [] ⟨⟨own_under hh.1 hb (Nat.le_of_lt hgb) (fun p hp => by rw [List.mem_singleton.1 hp]; exact hgb), Nat.le_trans hh.2 hb.size⟩, hr⟩ ?_
  refine St.call 8 ⟨jm, jl fun _ h => h.1.1.li 0 2, jm, jl fun _ h => load1_31 _ _ _ _ _ _ (c3 h.1.1), jm, trivial⟩ (fun wy h => ethPut b0 (big 6 d ++ big 6 s) v2 2 t (by decide) (by omega) wy h.2 h.1.2 (by simp [big_length])) ?_
  rintro wy v3 wz ⟨hh, _⟩ ⟨⟨A3, c3', rfl, hO3⟩, hb⟩
  refine nx (fun w' => (Own w g [(g, [.int .i64 (d : Int), .int .i64 (s : Int), .int .i64 (t : Int), .slice A xs.length c])] w' ∧ b0 ≤ w'.heap.size) ∧ w'.ownsRow b0 5 1 (.slice A3 (big 6 d ++ big 6 s ++ big 2 t).length c3') (big 6 d ++ big 6 s ++ big 2 t).length ((big 6 d ++ big 6 s ++ big 2 t).map bv)) [] [] ⟨⟨own_under hh.1 hb (Nat.le_of_lt hgb) (fun p hp => by rw [List.mem_singleton.1 hp]; exact hgb), Nat.le_trans hh.2 hb.size⟩, hO3⟩ ?_
  refine St.app 11 info_u8 ⟨jm, jl fun _ h => load1_31 _ _ _ _ _ _ (c3 h.1.1), jm, trivial⟩ (fun w' h => ⟨h.2, hx.next (hg ▸ h.1.1.bel), h.1.2⟩) (bv_one xs) (by unfold maxLen; simp [big_length]; omega) ?_
  intro wu A' c' wv h hO hgr
  rw [← List.map_append] at hO
  refine nx (fun w' => Own w g [(g, [.int .i64 (d : Int), .int .i64 (s : Int), .int .i64 (t : Int), .slice A xs.length c])] w' ∧ w'.ownsRow b0 5 1 (.slice A' ((big 6 d ++ big 6 s ++ big 2 t).length + xs.length) c') ((big 6 d ++ big 6 s ++ big 2 t).length + xs.length) ((big 6 d ++ big 6 s ++ big 2 t ++ xs).map bv)) [ec 12 2 (.slice A' ((big 6 d ++ big 6 s ++ big 2 t).length + xs.length) c')] [] ⟨h.1.1.row h.2 (Nat.le_of_lt hgb) hgr (fun p hp => by rw [List.mem_singleton.1 hp]; exact own_ne h.2 (.inl hgb)), hO⟩ ?_
  refine St.fin ⟨jm, jm, trivial⟩ ?_ (hF := .inl rfl)
  rintro a3 w3 H3 _ ⟨O3, hO⟩
  refine then_normal (wp_ret ?_)
  repeat (first | (with_reducible refine block_ret ?_) | (with_reducible refine then_ret ?_))
  refine bodyPost_ret (results_pair rfl _ _ _ (H3.at_ 2 _ rfl) (H3.at_ 3 _ rfl)) H3.df ⟨_, rfl, _, rfl, ?_, O3.bel⟩
  have e : frBytes d s t xs = big 6 d ++ big 6 s ++ big 2 t ++ xs := by simp [frBytes]
  rw [e]
  exact RowIs.of (List.length_append ..) (own_base hO (Nat.le_of_lt hgb))
end Go.Proofs.YtlacidnnankjlaaGreatDoor
