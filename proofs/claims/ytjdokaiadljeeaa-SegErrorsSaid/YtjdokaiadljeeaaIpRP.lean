/-
  The walk of the document's ParsePacket.
-/
import Derived.Test.YtjdokaiadljeeaaIpP
namespace Go.Proofs.Ytjdokaiadljeeaa
open Go.RowKit

theorem copyN (xs : List UInt8) (n : Nat) (hl : xs.length = n) (A : Option Addr) (c : Nat) (w : World) (hx : RB w w.heap.size A xs) (hn : n ≤ 140737488351232) :
    Calls Try.prog 18 #[.slice A n c] w fun e w' => ∃ A' c', e = .returned (.slice A' n c') ∧ w'.ownsRow w.heap.size 5 1 (.slice A' n c') n (xs.map bv) ∧ Below w.heap.size w w' := by
  subst hl
  exact copyBytes xs A c w hx hn

set_option maxRecDepth 100000 in
set_option maxHeartbeats 3200000 in
theorem refParse_ok (xs : List UInt8) (n : Nat) (hl : xs.length = n) (b0 o0 : Nat) (c : Nat) (hnc : n ≤ c) (w : World) (hx : RB w w.heap.size (some ⟨b0, o0, none⟩) xs) (hn : n ≤ 140737488351232)
    (h20 : ¬ n < 20) (x0 : UInt8) (hx0 : xs[0]? = some x0) (h4 : x0.toNat / 16 = 4) (N : Nat) (hN : N = 4 * (x0.toNat % 16)) (hN20 : ¬ N < 20) (hnN : ¬ n < N) (L : Nat) (hL : num2 xs 2 2 = L) (hLN : ¬ L < N) (hnL : ¬ n < L)
    (hS0 : Sm.check (xs.take N) = 0) (hF0 : num2 xs 6 2 % 16384 = 0) (hcN : ¬ c = N) :
    Calls Try.prog 44 #[.slice (some ⟨b0, o0, none⟩) n c] w (Parsed w (parsed xs, 0)) := by
  have hbA := (Below.refl w.heap.size w).alloc (Nat.le_refl _) (.cells #[.int .i64 0, .int .i64 0, .int .i64 0, .int .i64 0, .int .i64 0, .slice none 0 0] 53)
  obtain ⟨b0', o0', x0', had0, hb, hx0', c0⟩ := hx.get (k := 0) (by omega)
  obtain ⟨rfl, rfl⟩ := RB.same_at rfl had0
  rw [hx0] at hx0'
  injection hx0' with hx0'
  subst hx0'
  simp only [Nat.add_zero] at c0
  have i0 : 0 < n := by omega
  have h20' : ¬ (n : Int) < 20 := by omega
  have cA := (hbA.cell (p := ⟨b0', o0', none⟩) hb).trans c0
  have hxA := hx.next hbA
  have e15 := u8_and15 x0
  have hb8 : b8 xs 0 = x0.toNat := b8_of hx0
  have hNI : 4 * ((x0.toNat : Int) % 16) = (N : Int) := by omega
  have hNx : ipN xs = N := by unfold ipN; rw [hb8]; exact hN.symm
  have HB := Lib.hid hbA
  have e4 : ((x0.toNat : Int) / 16 != 4) = false := by simp only [bne_eq_false_iff_eq]; omega
  have hN20' : ¬ (N : Int) < 20 := by omega
  have hnN' : ¬ (n : Int) < (N : Int) := by omega
  have KG2 := Lib.hid (ofAt xs n hl b0' o0' (c - 2) _ hxA 2 2 (by omega) (by omega) (by omega) L hL)
  have hLN' : ¬ (L : Int) < (N : Int) := by omega
  have hnL' : ¬ (n : Int) < (L : Int) := by omega
  obtain ⟨S, hS⟩ : ∃ S, Sm.check (xs.take N) = S := ⟨_, rfl⟩
  have KC := Lib.hid (hS ▸ refCheck (xs.take N) N (by rw [List.length_take]; omega) (some ⟨b0', o0', none⟩) c _ (hxA.take N) (by omega))
  rw [hS0] at hS
  have hSq : ((S : Int) != 0) = false := by rw [← hS]; rfl
  obtain ⟨F, hF⟩ : ∃ F, num2 xs 6 2 = F := ⟨_, rfl⟩
  have hFl : F < 65536 := by rw [← hF]; exact num2_lt xs 6
  have KG6 := Lib.hid (ofAt xs n hl b0' o0' (c - 6) _ hxA 6 2 (by omega) (by omega) (by omega) F hF)
  have hFb := and_frag F hFl
  rw [hF] at hF0
  have hFq : (((F % 16384 : Nat) : Int) != 0) = false := by simp only [bne_eq_false_iff_eq]; omega
  obtain ⟨b8', o8, x8, ad8, hb8', hx8, c8⟩ := hxA.get (k := 8) (by omega)
  obtain ⟨rfl, rfl⟩ := RB.same_at rfl ad8
  obtain ⟨b9', o9, x9, ad9, hb9', hx9, c9⟩ := hxA.get (k := 9) (by omega)
  obtain ⟨rfl, rfl⟩ := RB.same_at rfl ad9
  have i8 : (8 : Int) < (n : Int) := by omega
  have i9 : (9 : Int) < (n : Int) := by omega
  have HXA := Lib.hid hxA
  have hl' := Lib.hid hl
  have hx8' := Lib.hid hx8
  have hx9' := Lib.hid hx9
  have hF' := Lib.hid hF
  have hL' := Lib.hid hL
  have hNx' := Lib.hid hNx
  have hb8h := Lib.hid hb8
  clear hx hxA hl hx8 hx9 hx0 hb8 hNx hN hbA c0 hL hS hF had0
  go_enter Try.func44, Try.ntmps44
  go_wp2_with fail
  (with_reducible refine KG2.out.mono ?_)
  rintro e w' ⟨rfl, rfl⟩
  go_wp2_with fail
  (with_reducible refine KC.out.mono ?_)
  rintro e w' ⟨rfl, rfl⟩
  go_wp2_with fail
  (with_reducible refine KG6.out.mono ?_)
  rintro e w' ⟨rfl, rfl⟩
  clear KG2 KC KG6
  go_wp2_with fail
  have hz : PkAt (w.alloc (.cells #[.int .i64 0, .int .i64 0, .int .i64 0, .int .i64 0, .int .i64 0, .slice none 0 0] 53)) w.heap.size 0 0 0 0 0 (.slice none 0 0) := PkAt.box w 0 0 0 0 0 _ _
  have hfz : ∀ k, (w.alloc (.cells #[.int .i64 0, .int .i64 0, .int .i64 0, .int .i64 0, .int .i64 0, .slice none 0 0] 53)).frozen? ⟨w.heap.size, k, none⟩ = false := fun k => World.frozen?_alloc_at _ _ _ k rfl
  have hsA : (w.alloc (.cells #[.int .i64 0, .int .i64 0, .int .i64 0, .int .i64 0, .int .i64 0, .slice none 0 0] 53)).heap.size = w.heap.size + 1 := World.size_alloc _ _
  clear hb9' hb8' cA
  generalize w.alloc (.cells #[.int .i64 0, .int .i64 0, .int .i64 0, .int .i64 0, .int .i64 0, .slice none 0 0] 53) = w2 at HB HXA c8 c9 hz hfz hsA ⊢
  have s1 : (16 : Int) ≤ (c : Int) := by omega
  have s2 : (20 : Int) ≤ (c : Int) := by omega
  have s3 : (6 : Int) ≤ (c : Int) := by omega
  have s4 : (L : Int) ≤ (c : Int) := by omega
  have u1 : ¬ c = 12 := by omega
  have u2 : ¬ c = 16 := by omega
  have u3 : ¬ c = 4 := by omega
  have hzd : PkAt w2.drew w.heap.size 0 0 0 0 0 (.slice none 0 0) := hz
  have hfzd : ∀ k, w2.drew.frozen? ⟨w.heap.size, k, none⟩ = false := hfz
  have c8d : w2.drew.cell? ⟨b9', o9 + 8, none⟩ = some (.int .u8 (x8.toNat : Int)) := c8
  have c9d : w2.drew.cell? ⟨b9', o9 + 9, none⟩ = some (.int .u8 (x9.toNat : Int)) := c9
  have hsAd : w2.drew.heap.size = w.heap.size + 1 := hsA
  have HZ := Lib.hid (And.intro hzd (And.intro hfzd (And.intro c8d c9d)))
  clear hzd hfzd c8d c9d hz hfz
  have wr8 := wrap_byte x8
  have wr9 := wrap_byte x9
  have KS := Lib.hid (ofAt xs n hl'.out b9' o9 (c - 12) w2.drew HXA.out 12 4 (by omega) (by omega) (by omega) _ rfl)
  have KD := Lib.hid (ofAt xs n hl'.out b9' o9 (c - 16) w2.drew HXA.out 16 4 (by omega) (by omega) (by omega) _ rfl)
  have KI := Lib.hid (ofAt xs n hl'.out b9' o9 (c - 4) w2.drew HXA.out 4 2 (by omega) (by omega) (by omega) _ rfl)
  have KL := Lib.hid (copyN ((xs.take L).drop N) (L - N) (by rw [List.length_drop, List.length_take, hl'.out]; omega) (some ⟨b9', o9 + N, none⟩) (c - N) w2.drew (cutAt HXA.out N L (by have := hl'.out; omega) (by have := hl'.out; omega)) (by omega))
  have hne : b9' ≠ w.heap.size := by omega
  have hne' : w.heap.size ≠ b9' := by omega
  go_region_held3 (fun w' => w'.cell? ⟨b9', o9 + 8, none⟩ = some (.int .u8 (x8.toNat : Int)) ∧ w'.cell? ⟨b9', o9 + 9, none⟩ = some (.int .u8 (x9.toNat : Int))) (go_keep)
    (first
      | (go_at_call 64; (with_reducible refine KS.out.mono ?_); rintro e w' ⟨rfl, rfl⟩)
      | (go_at_call 64; (with_reducible refine KD.out.mono ?_); rintro e w' ⟨rfl, rfl⟩)
      | (go_at_call 64; (with_reducible refine KI.out.mono ?_); rintro e w' ⟨rfl, rfl⟩)
      | (go_at_call 18; (with_reducible refine KL.out.mono ?_); rintro e w3 ⟨A3, c3, rfl, hown3, hb3⟩; obtain ⟨z0, z1, z2, z3, z4, z5⟩ := HZ.out.1.below hb3 (by omega); have e8 := (cellB hb3 (by omega)).trans HZ.out.2.2.1; have e9 := (cellB hb3 (by omega)).trans HZ.out.2.2.2; have y0 := (frozB hb3 (by omega)).trans (HZ.out.2.1 0); have y1 := (frozB hb3 (by omega)).trans (HZ.out.2.1 1); have y2 := (frozB hb3 (by omega)).trans (HZ.out.2.1 2); have y3 := (frozB hb3 (by omega)).trans (HZ.out.2.1 3); have y4 := (frozB hb3 (by omega)).trans (HZ.out.2.1 4); have y5 := (frozB hb3 (by omega)).trans (HZ.out.2.1 5)))
  have hp4 := set6_at (w := w3) (g := w.heap.size) ⟨z0, z1, z2, z3, z4, z5⟩ (num2 xs 12 4) (num2 xs 16 4) (x9.toNat : Int) (x8.toNat : Int) (num2 xs 4 2) (.slice A3 (L - N) c3)
  have hg4 := set6_grown w3 w.heap.size (.int .i64 (num2 xs 12 4)) (.int .i64 (num2 xs 16 4)) (.int .i64 (x9.toNat : Int)) (.int .i64 (x8.toNat : Int)) (.int .i64 (num2 xs 4 2)) (.slice A3 (L - N) c3)
  have ho4 := set6_only w3 w.heap.size (.int .i64 (num2 xs 12 4)) (.int .i64 (num2 xs 16 4)) (.int .i64 (x9.toNat : Int)) (.int .i64 (x8.toNat : Int)) (.int .i64 (num2 xs 4 2)) (.slice A3 (L - N) c3)
  have hown4 := hown3.kept hg4 (by
    rcases hv : (Value.slice A3 (L - N) c3).ownBlock with _ | k
    · exact Or.inl rfl
    · right
      have := (hown3.lt k hv).1
      intro e
      injection e with e
      omega)
  have hb4 := ho4.below _ _ ((HB.out.drew).trans (hb3.mono (by omega))) (Nat.le_refl _)
  clear z0 z1 z2 z3 z4 z5 y0 y1 y2 y3 y4 y5 e8 e9 hown3 hb3 KS KD KI KL hg4 ho4
  show Exit.then _ _ _ _ (set6 w3 w.heap.size (.int .i64 (num2 xs 12 4)) (.int .i64 (num2 xs 16 4)) (.int .i64 (x9.toNat : Int)) (.int .i64 (x8.toNat : Int)) (.int .i64 (num2 xs 4 2)) (.slice A3 (L - N) c3))
  generalize set6 w3 w.heap.size (.int .i64 (num2 xs 12 4)) (.int .i64 (num2 xs 16 4)) (.int .i64 (x9.toNat : Int)) (.int .i64 (x8.toNat : Int)) (.int .i64 (num2 xs 4 2)) (.slice A3 (L - N) c3) = w4 at hp4 hown4 hb4 ⊢
  obtain ⟨z0, z1, z2, z3, z4, z5⟩ := hp4
  go_wp2
  refine bodyPost_ret (v := .tuple #[.agg #[.int .i64 (num2 xs 12 4), .int .i64 (num2 xs 16 4), .int .i64 (x9.toNat : Int), .int .i64 (x8.toNat : Int), .int .i64 (num2 xs 4 2), .slice A3 (L - N) c3], .int .i64 0]) (by simp [results, Try.results44, go_sem, z0, z1, z2, z3, z4, z5]) rfl ?_
  have hlen : ((xs.take L).drop N).length = L - N := by rw [List.length_drop, List.length_take, hl'.out]; omega
  have hP : parsed xs = ⟨num2 xs 12 4, num2 xs 16 4, (x9.toNat : Int), (x8.toNat : Int), num2 xs 4 2, (xs.take L).drop N⟩ := by
    unfold parsed
    rw [hL'.out, hNx'.out, b8_of hx9'.out, b8_of hx8'.out]
  rw [hP]
  refine ⟨A3, c3, ?_, ?_, hb4⟩
  · simp only [hlen]
  · simp only [hlen]
    exact own_base hown4 (by omega)

set_option maxRecDepth 100000 in
set_option maxHeartbeats 3200000 in
theorem refParse_ok0 (xs : List UInt8) (n : Nat) (hl : xs.length = n) (b0 o0 : Nat) (w : World) (hx : RB w w.heap.size (some ⟨b0, o0, none⟩) xs) (hn : n ≤ 140737488351232)
    (h20 : ¬ n < 20) (x0 : UInt8) (hx0 : xs[0]? = some x0) (h4 : x0.toNat / 16 = 4) (hN : n = 4 * (x0.toNat % 16)) (hL : num2 xs 2 2 = n)
    (hS0 : Sm.check (xs.take n) = 0) (hF0 : num2 xs 6 2 % 16384 = 0) :
    Calls Try.prog 44 #[.slice (some ⟨b0, o0, none⟩) n n] w (Parsed w (parsed xs, 0)) := by
  have hbA := (Below.refl w.heap.size w).alloc (Nat.le_refl _) (.cells #[.int .i64 0, .int .i64 0, .int .i64 0, .int .i64 0, .int .i64 0, .slice none 0 0] 53)
  obtain ⟨b0', o0', x0', had0, hb, hx0', c0⟩ := hx.get (k := 0) (by omega)
  obtain ⟨rfl, rfl⟩ := RB.same_at rfl had0
  rw [hx0] at hx0'
  injection hx0' with hx0'
  subst hx0'
  simp only [Nat.add_zero] at c0
  have i0 : 0 < n := by omega
  have h20' : ¬ (n : Int) < 20 := by omega
  have cA := (hbA.cell (p := ⟨b0', o0', none⟩) hb).trans c0
  have hxA := hx.next hbA
  have e15 := u8_and15 x0
  have hb8 : b8 xs 0 = x0.toNat := b8_of hx0
  have hNI : 4 * ((x0.toNat : Int) % 16) = (n : Int) := by omega
  have hNx : ipN xs = n := by unfold ipN; rw [hb8]; exact hN.symm
  have HB := Lib.hid hbA
  have e4 : ((x0.toNat : Int) / 16 != 4) = false := by simp only [bne_eq_false_iff_eq]; omega
  have hN20' : ¬ (n : Int) < 20 := by omega
  have hnN' : ¬ (n : Int) < (n : Int) := by omega
  have KG2 := Lib.hid (ofAt xs n hl b0' o0' (n - 2) _ hxA 2 2 (by omega) (by omega) (by omega) n hL)
  have hLN' : ¬ (n : Int) < (n : Int) := by omega
  have hnL' : ¬ (n : Int) < (n : Int) := by omega
  obtain ⟨S, hS⟩ : ∃ S, Sm.check (xs.take n) = S := ⟨_, rfl⟩
  have KC := Lib.hid (hS ▸ refCheck (xs.take n) n (by rw [List.length_take]; omega) (some ⟨b0', o0', none⟩) n _ (hxA.take n) (by omega))
  rw [hS0] at hS
  have hSq : ((S : Int) != 0) = false := by rw [← hS]; rfl
  obtain ⟨F, hF⟩ : ∃ F, num2 xs 6 2 = F := ⟨_, rfl⟩
  have hFl : F < 65536 := by rw [← hF]; exact num2_lt xs 6
  have KG6 := Lib.hid (ofAt xs n hl b0' o0' (n - 6) _ hxA 6 2 (by omega) (by omega) (by omega) F hF)
  have hFb := and_frag F hFl
  rw [hF] at hF0
  have hFq : (((F % 16384 : Nat) : Int) != 0) = false := by simp only [bne_eq_false_iff_eq]; omega
  obtain ⟨b8', o8, x8, ad8, hb8', hx8, c8⟩ := hxA.get (k := 8) (by omega)
  obtain ⟨rfl, rfl⟩ := RB.same_at rfl ad8
  obtain ⟨b9', o9, x9, ad9, hb9', hx9, c9⟩ := hxA.get (k := 9) (by omega)
  obtain ⟨rfl, rfl⟩ := RB.same_at rfl ad9
  have i8 : (8 : Int) < (n : Int) := by omega
  have i9 : (9 : Int) < (n : Int) := by omega
  have HXA := Lib.hid hxA
  have hl' := Lib.hid hl
  have hx8' := Lib.hid hx8
  have hx9' := Lib.hid hx9
  have hF' := Lib.hid hF
  have hL' := Lib.hid hL
  have hNx' := Lib.hid hNx
  have hb8h := Lib.hid hb8
  clear hx hxA hl hx8 hx9 hx0 hb8 hNx hN hbA c0 hL hS hF had0
  go_enter Try.func44, Try.ntmps44
  go_wp2_with fail
  (with_reducible refine KG2.out.mono ?_)
  rintro e w' ⟨rfl, rfl⟩
  go_wp2_with fail
  (with_reducible refine KC.out.mono ?_)
  rintro e w' ⟨rfl, rfl⟩
  go_wp2_with fail
  (with_reducible refine KG6.out.mono ?_)
  rintro e w' ⟨rfl, rfl⟩
  clear KG2 KC KG6
  go_wp2_with fail
  have hz : PkAt (w.alloc (.cells #[.int .i64 0, .int .i64 0, .int .i64 0, .int .i64 0, .int .i64 0, .slice none 0 0] 53)) w.heap.size 0 0 0 0 0 (.slice none 0 0) := PkAt.box w 0 0 0 0 0 _ _
  have hfz : ∀ k, (w.alloc (.cells #[.int .i64 0, .int .i64 0, .int .i64 0, .int .i64 0, .int .i64 0, .slice none 0 0] 53)).frozen? ⟨w.heap.size, k, none⟩ = false := fun k => World.frozen?_alloc_at _ _ _ k rfl
  have hsA : (w.alloc (.cells #[.int .i64 0, .int .i64 0, .int .i64 0, .int .i64 0, .int .i64 0, .slice none 0 0] 53)).heap.size = w.heap.size + 1 := World.size_alloc _ _
  clear hb9' hb8' cA
  generalize w.alloc (.cells #[.int .i64 0, .int .i64 0, .int .i64 0, .int .i64 0, .int .i64 0, .slice none 0 0] 53) = w2 at HB HXA c8 c9 hz hfz hsA ⊢
  have s1 : (16 : Int) ≤ (n : Int) := by omega
  have s2 : (20 : Int) ≤ (n : Int) := by omega
  have s3 : (6 : Int) ≤ (n : Int) := by omega
  have s4 : (n : Int) ≤ (n : Int) := by omega
  have u1 : ¬ n = 12 := by omega
  have u2 : ¬ n = 16 := by omega
  have u3 : ¬ n = 4 := by omega
  have hzd : PkAt w2.drew w.heap.size 0 0 0 0 0 (.slice none 0 0) := hz
  have hfzd : ∀ k, w2.drew.frozen? ⟨w.heap.size, k, none⟩ = false := hfz
  have c8d : w2.drew.cell? ⟨b9', o9 + 8, none⟩ = some (.int .u8 (x8.toNat : Int)) := c8
  have c9d : w2.drew.cell? ⟨b9', o9 + 9, none⟩ = some (.int .u8 (x9.toNat : Int)) := c9
  have hsAd : w2.drew.heap.size = w.heap.size + 1 := hsA
  have HZ := Lib.hid (And.intro hzd (And.intro hfzd (And.intro c8d c9d)))
  clear hzd hfzd c8d c9d hz hfz
  have wr8 := wrap_byte x8
  have wr9 := wrap_byte x9
  have KS := Lib.hid (ofAt xs n hl'.out b9' o9 (n - 12) w2.drew HXA.out 12 4 (by omega) (by omega) (by omega) _ rfl)
  have KD := Lib.hid (ofAt xs n hl'.out b9' o9 (n - 16) w2.drew HXA.out 16 4 (by omega) (by omega) (by omega) _ rfl)
  have KI := Lib.hid (ofAt xs n hl'.out b9' o9 (n - 4) w2.drew HXA.out 4 2 (by omega) (by omega) (by omega) _ rfl)
  have KL := Lib.hid (copyN [] 0 rfl (some ⟨b9', o9, none⟩) 0 w2.drew RB.nil (by omega))
  have hne : b9' ≠ w.heap.size := by omega
  have hne' : w.heap.size ≠ b9' := by omega
  go_region_held3 (fun w' => w'.cell? ⟨b9', o9 + 8, none⟩ = some (.int .u8 (x8.toNat : Int)) ∧ w'.cell? ⟨b9', o9 + 9, none⟩ = some (.int .u8 (x9.toNat : Int))) (go_keep)
    (first
      | (go_at_call 64; (with_reducible refine KS.out.mono ?_); rintro e w' ⟨rfl, rfl⟩)
      | (go_at_call 64; (with_reducible refine KD.out.mono ?_); rintro e w' ⟨rfl, rfl⟩)
      | (go_at_call 64; (with_reducible refine KI.out.mono ?_); rintro e w' ⟨rfl, rfl⟩)
      | (go_at_call 18; (with_reducible refine KL.out.mono ?_); rintro e w3 ⟨A3, c3, rfl, hown3, hb3⟩; obtain ⟨z0, z1, z2, z3, z4, z5⟩ := HZ.out.1.below hb3 (by omega); have e8 := (cellB hb3 (by omega)).trans HZ.out.2.2.1; have e9 := (cellB hb3 (by omega)).trans HZ.out.2.2.2; have y0 := (frozB hb3 (by omega)).trans (HZ.out.2.1 0); have y1 := (frozB hb3 (by omega)).trans (HZ.out.2.1 1); have y2 := (frozB hb3 (by omega)).trans (HZ.out.2.1 2); have y3 := (frozB hb3 (by omega)).trans (HZ.out.2.1 3); have y4 := (frozB hb3 (by omega)).trans (HZ.out.2.1 4); have y5 := (frozB hb3 (by omega)).trans (HZ.out.2.1 5)))
  have hp4 := set6_at (w := w3) (g := w.heap.size) ⟨z0, z1, z2, z3, z4, z5⟩ (num2 xs 12 4) (num2 xs 16 4) (x9.toNat : Int) (x8.toNat : Int) (num2 xs 4 2) (.slice A3 0 c3)
  have hg4 := set6_grown w3 w.heap.size (.int .i64 (num2 xs 12 4)) (.int .i64 (num2 xs 16 4)) (.int .i64 (x9.toNat : Int)) (.int .i64 (x8.toNat : Int)) (.int .i64 (num2 xs 4 2)) (.slice A3 0 c3)
  have ho4 := set6_only w3 w.heap.size (.int .i64 (num2 xs 12 4)) (.int .i64 (num2 xs 16 4)) (.int .i64 (x9.toNat : Int)) (.int .i64 (x8.toNat : Int)) (.int .i64 (num2 xs 4 2)) (.slice A3 0 c3)
  have hown4 := hown3.kept hg4 (by
    rcases hv : (Value.slice A3 0 c3).ownBlock with _ | k
    · exact Or.inl rfl
    · right
      have := (hown3.lt k hv).1
      intro e
      injection e with e
      omega)
  have hb4 := ho4.below _ _ ((HB.out.drew).trans (hb3.mono (by omega))) (Nat.le_refl _)
  clear z0 z1 z2 z3 z4 z5 y0 y1 y2 y3 y4 y5 e8 e9 hown3 hb3 KS KD KI KL hg4 ho4
  show Exit.then _ _ _ _ (set6 w3 w.heap.size (.int .i64 (num2 xs 12 4)) (.int .i64 (num2 xs 16 4)) (.int .i64 (x9.toNat : Int)) (.int .i64 (x8.toNat : Int)) (.int .i64 (num2 xs 4 2)) (.slice A3 0 c3))
  generalize set6 w3 w.heap.size (.int .i64 (num2 xs 12 4)) (.int .i64 (num2 xs 16 4)) (.int .i64 (x9.toNat : Int)) (.int .i64 (x8.toNat : Int)) (.int .i64 (num2 xs 4 2)) (.slice A3 0 c3) = w4 at hp4 hown4 hb4 ⊢
  obtain ⟨z0, z1, z2, z3, z4, z5⟩ := hp4
  go_wp2
  refine bodyPost_ret (v := .tuple #[.agg #[.int .i64 (num2 xs 12 4), .int .i64 (num2 xs 16 4), .int .i64 (x9.toNat : Int), .int .i64 (x8.toNat : Int), .int .i64 (num2 xs 4 2), .slice A3 0 c3], .int .i64 0]) (by simp [results, Try.results44, go_sem, z0, z1, z2, z3, z4, z5]) rfl ?_
  have hlen : ((xs.take n).drop n).length = 0 := by rw [List.length_drop, List.length_take, hl'.out]; omega
  have hP : parsed xs = ⟨num2 xs 12 4, num2 xs 16 4, (x9.toNat : Int), (x8.toNat : Int), num2 xs 4 2, (xs.take n).drop n⟩ := by
    unfold parsed
    rw [hL'.out, hNx'.out, b8_of hx9'.out, b8_of hx8'.out]
  rw [hP]
  refine ⟨A3, c3, ?_, ?_, hb4⟩
  · simp only [hlen]
  · simp only [hlen]
    rw [List.eq_nil_of_length_eq_zero hlen]
    exact own_base hown4 (by omega)

set_option maxRecDepth 100000 in
set_option maxHeartbeats 3200000 in
theorem refParse (xs : List UInt8) (n : Nat) (hl : xs.length = n) (A : Option Addr) (c : Nat) (hnc : n ≤ c) (w : World) (hx : RB w w.heap.size A xs) (hn : n ≤ 140737488351232) :
    Calls Try.prog 44 #[.slice A n c] w (Parsed w (parseOut xs)) := by
  have hbA := (Below.refl w.heap.size w).alloc (Nat.le_refl _) (.cells #[.int .i64 0, .int .i64 0, .int .i64 0, .int .i64 0, .int .i64 0, .slice none 0 0] 53)
  by_cases h20 : n < 20
  · have HR := Lib.hid (parse_1 (xs := xs) (by omega))
    have h20' : (n : Int) < 20 := by omega
    have HB := Lib.hid hbA
    clear hl hbA
    go_enter Try.func44, Try.ntmps44
    go_wp2
    refine bodyPost_ret (v := .tuple #[.agg #[.int .i64 0, .int .i64 0, .int .i64 0, .int .i64 0, .int .i64 0, .slice none 0 0], .int .i64 7]) (by simp [results, Try.results44, go_sem]) rfl ?_
    rw [HR.out]
    exact parsed_none w 7 _ HB.out
  · obtain ⟨b0, o0, x0, rfl, hb, hx0, c0⟩ := hx.get (k := 0) (by omega)
    simp only [Nat.add_zero] at c0
    have i0 : 0 < n := by omega
    have h20' : ¬ (n : Int) < 20 := by omega
    have cA := (hbA.cell (p := ⟨b0, o0, none⟩) hb).trans c0
    have hxA := hx.next hbA
    have e15 := u8_and15 x0
    have hb8 : b8 xs 0 = x0.toNat := b8_of hx0
    obtain ⟨N, hN⟩ : ∃ N, N = 4 * (x0.toNat % 16) := ⟨_, rfl⟩
    have hNI : 4 * ((x0.toNat : Int) % 16) = (N : Int) := by omega
    have hNx : ipN xs = N := by unfold ipN; rw [hb8]; exact hN.symm
    have HB := Lib.hid hbA
    by_cases h4 : x0.toNat / 16 = 4
    · have e4 : ((x0.toNat : Int) / 16 != 4) = false := by simp only [bne_eq_false_iff_eq]; omega
      by_cases hN20 : N < 20
      · have hN20' : (N : Int) < 20 := by omega
        have HR : Hid (parseOut xs = (.zero, 1)) := by unfold Hid parseOut; rw [hb8, hNx, hl, if_neg (by omega), if_pos (by omega)]
        clear hl hx0 hb8 hNx hN hbA c0
        go_enter Try.func44, Try.ntmps44
        go_wp2
        refine bodyPost_ret (v := .tuple #[.agg #[.int .i64 0, .int .i64 0, .int .i64 0, .int .i64 0, .int .i64 0, .slice none 0 0], .int .i64 1]) (by simp [results, Try.results44, go_sem]) rfl ?_
        rw [HR.out]
        exact parsed_none w 1 _ HB.out
      · have hN20' : ¬ (N : Int) < 20 := by omega
        by_cases hnN : n < N
        · have hnN' : (n : Int) < (N : Int) := by omega
          have HR : Hid (parseOut xs = (.zero, 7)) := by unfold Hid parseOut; rw [hb8, hNx, hl, if_neg (by omega), if_neg (by omega), if_pos (by omega)]
          clear hl hx0 hb8 hNx hN hbA c0
          go_enter Try.func44, Try.ntmps44
          go_wp2
          refine bodyPost_ret (v := .tuple #[.agg #[.int .i64 0, .int .i64 0, .int .i64 0, .int .i64 0, .int .i64 0, .slice none 0 0], .int .i64 7]) (by simp [results, Try.results44, go_sem]) rfl ?_
          rw [HR.out]
          exact parsed_none w 7 _ HB.out
        · have hnN' : ¬ (n : Int) < (N : Int) := by omega
          obtain ⟨L, hL⟩ : ∃ L, num2 xs 2 2 = L := ⟨_, rfl⟩
          have KG2 := Lib.hid (ofAt xs n hl b0 o0 (c - 2) _ hxA 2 2 (by omega) (by omega) (by omega) L hL)
          by_cases hLN : L < N
          · have hLN' : (L : Int) < (N : Int) := by omega
            have HR : Hid (parseOut xs = (.zero, 1)) := by unfold Hid parseOut; rw [hb8, hNx, hL, hl, if_neg (by omega), if_neg (by omega), if_neg (by omega), if_pos (by omega)]
            clear hl hx0 hb8 hNx hN hbA c0 hL
            go_enter Try.func44, Try.ntmps44
            go_wp2_with fail
            (with_reducible refine KG2.out.mono ?_)
            rintro e w' ⟨rfl, rfl⟩
            go_wp2
            refine bodyPost_ret (v := .tuple #[.agg #[.int .i64 0, .int .i64 0, .int .i64 0, .int .i64 0, .int .i64 0, .slice none 0 0], .int .i64 1]) (by simp [results, Try.results44, go_sem]) rfl ?_
            rw [HR.out]
            exact parsed_none w 1 _ HB.out
          · have hLN' : ¬ (L : Int) < (N : Int) := by omega
            by_cases hnL : n < L
            · have hnL' : (n : Int) < (L : Int) := by omega
              have HR : Hid (parseOut xs = (.zero, 7)) := by unfold Hid parseOut; rw [hb8, hNx, hL, hl, if_neg (by omega), if_neg (by omega), if_neg (by omega), if_neg (by omega), if_pos (by omega)]
              clear hl hx0 hb8 hNx hN hbA c0 hL
              go_enter Try.func44, Try.ntmps44
              go_wp2_with fail
              (with_reducible refine KG2.out.mono ?_)
              rintro e w' ⟨rfl, rfl⟩
              go_wp2
              refine bodyPost_ret (v := .tuple #[.agg #[.int .i64 0, .int .i64 0, .int .i64 0, .int .i64 0, .int .i64 0, .slice none 0 0], .int .i64 7]) (by simp [results, Try.results44, go_sem]) rfl ?_
              rw [HR.out]
              exact parsed_none w 7 _ HB.out
            · have hnL' : ¬ (n : Int) < (L : Int) := by omega
              obtain ⟨S, hS⟩ : ∃ S, Sm.check (xs.take N) = S := ⟨_, rfl⟩
              have KC := Lib.hid (hS ▸ refCheck (xs.take N) N (by rw [List.length_take]; omega) (some ⟨b0, o0, none⟩) c _ (hxA.take N) (by omega))
              by_cases hS0 : S = 0
              · have hSq : ((S : Int) != 0) = false := by rw [hS0]; rfl
                obtain ⟨F, hF⟩ : ∃ F, num2 xs 6 2 = F := ⟨_, rfl⟩
                have hFl : F < 65536 := by rw [← hF]; exact num2_lt xs 6
                have KG6 := Lib.hid (ofAt xs n hl b0 o0 (c - 6) _ hxA 6 2 (by omega) (by omega) (by omega) F hF)
                have hFb := and_frag F hFl
                by_cases hF0 : F % 16384 = 0
                · have hP : parseOut xs = (parsed xs, 0) := by
                    unfold parseOut
                    rw [hb8, hNx, hL, hS, hF, hl, if_neg (by omega), if_neg (by omega), if_neg (by omega), if_neg (by omega), if_neg (by omega), if_neg (by omega), if_neg (by omega)]
                  rw [hP]
                  by_cases hcN : c = N
                  · have e1 : L = N := by omega
                    have e2 : n = N := by omega
                    subst e1 hcN e2
                    exact refParse_ok0 xs n hl b0 o0 w hx hn h20 x0 hx0 h4 hN hL (hS ▸ hS0) (hF ▸ hF0)
                  · exact refParse_ok xs n hl b0 o0 c hnc w hx hn h20 x0 hx0 h4 N hN hN20 hnN L hL hLN hnL (hS ▸ hS0) (hF ▸ hF0) hcN
                · have hFq : (((F % 16384 : Nat) : Int) != 0) = true := by simp only [bne_iff_ne, ne_eq]; omega
                  have HR : Hid (parseOut xs = (.zero, 9)) := by unfold Hid parseOut; rw [hb8, hNx, hL, hS, hF, hl, if_neg (by omega), if_neg (by omega), if_neg (by omega), if_neg (by omega), if_neg (by omega), if_neg (by omega), if_pos (by omega)]
                  clear hl hx0 hb8 hNx hN hbA c0 hL hS hF
                  go_enter Try.func44, Try.ntmps44
                  go_wp2_with fail
                  (with_reducible refine KG2.out.mono ?_)
                  rintro e w' ⟨rfl, rfl⟩
                  go_wp2_with fail
                  (with_reducible refine KC.out.mono ?_)
                  rintro e w' ⟨rfl, rfl⟩
                  go_wp2_with fail
                  (with_reducible refine KG6.out.mono ?_)
                  rintro e w' ⟨rfl, rfl⟩
                  go_wp2
                  refine bodyPost_ret (v := .tuple #[.agg #[.int .i64 0, .int .i64 0, .int .i64 0, .int .i64 0, .int .i64 0, .slice none 0 0], .int .i64 9]) (by simp [results, Try.results44, go_sem]) rfl ?_
                  rw [HR.out]
                  exact parsed_none w 9 _ HB.out
              · have hSq : ((S : Int) != 0) = true := by simp only [bne_iff_ne, ne_eq]; omega
                have HR : Hid (parseOut xs = (.zero, 8)) := by unfold Hid parseOut; rw [hb8, hNx, hL, hS, hl, if_neg (by omega), if_neg (by omega), if_neg (by omega), if_neg (by omega), if_neg (by omega), if_pos (by omega)]
                clear hl hx0 hb8 hNx hN hbA c0 hL hS
                go_enter Try.func44, Try.ntmps44
                go_wp2_with fail
                (with_reducible refine KG2.out.mono ?_)
                rintro e w' ⟨rfl, rfl⟩
                go_wp2_with fail
                (with_reducible refine KC.out.mono ?_)
                rintro e w' ⟨rfl, rfl⟩
                go_wp2
                refine bodyPost_ret (v := .tuple #[.agg #[.int .i64 0, .int .i64 0, .int .i64 0, .int .i64 0, .int .i64 0, .slice none 0 0], .int .i64 8]) (by simp [results, Try.results44, go_sem]) rfl ?_
                rw [HR.out]
                exact parsed_none w 8 _ HB.out
    · have e4 : ((x0.toNat : Int) / 16 != 4) = true := by simp only [bne_iff_ne, ne_eq]; omega
      have HR : Hid (parseOut xs = (.zero, 1)) := by unfold Hid parseOut; rw [hb8, hNx, hl, if_neg (by omega), if_pos (by omega)]
      clear hl hx0 hb8 hNx hN hbA c0
      go_enter Try.func44, Try.ntmps44
      go_wp2
      refine bodyPost_ret (v := .tuple #[.agg #[.int .i64 0, .int .i64 0, .int .i64 0, .int .i64 0, .int .i64 0, .slice none 0 0], .int .i64 1]) (by simp [results, Try.results44, go_sem]) rfl ?_
      rw [HR.out]
      exact parsed_none w 1 _ HB.out

end Go.Proofs.Ytjdokaiadljeeaa
