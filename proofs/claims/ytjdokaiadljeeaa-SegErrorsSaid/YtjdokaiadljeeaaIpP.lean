/-
  The walk of ip.Parse.
-/
import Derived.Test.YtjdokaiadljeeaaIpB
import Derived.Test.YtjdokaiadljeeaaScope
import Derived.Laws.BitsAllLaws
import Derived.Deep.RegionHeld3
namespace Go.Proofs.Ytjdokaiadljeeaa
open Go.RowKit

theorem frag_bits (v : Nat) (hv : v < 65536) : v &&& (18446744073709551615 - 49152) = v % 16384 := by
  apply Nat.eq_of_testBit_eq
  intro i
  rw [show (16384 : Nat) = 2 ^ 14 from rfl, Nat.testBit_mod_two_pow, Nat.testBit_and]
  by_cases hi : i < 16
  · have : i = 0 ∨ i = 1 ∨ i = 2 ∨ i = 3 ∨ i = 4 ∨ i = 5 ∨ i = 6 ∨ i = 7 ∨ i = 8 ∨ i = 9 ∨ i = 10 ∨ i = 11 ∨ i = 12 ∨ i = 13 ∨ i = 14 ∨ i = 15 := by omega
    rcases this with rfl | rfl | rfl | rfl | rfl | rfl | rfl | rfl | rfl | rfl | rfl | rfl | rfl | rfl | rfl | rfl <;> simp (decide := true) [Nat.testBit]
  · have h : v.testBit i = false := Nat.testBit_lt_two_pow (Nat.lt_of_lt_of_le hv (Nat.pow_le_pow_right (n := 2) (by omega) (by omega : 16 ≤ i)))
    rw [h]; simp
theorem andNot_frag (v : Nat) (hv : v < 65536) : bits .andNot .i64 (v : Int) 49152 = ((v % 16384 : Nat) : Int) := by
  show IntKind.i64.wrap ((BitVec.ofInt 64 (v : Int) &&& ~~~ (BitVec.ofInt 64 49152)).toNat : Int) = _
  rw [BitVec.toNat_and, ofInt_i64 v (by omega), IntKind.wrap_i64]
  have e : (~~~ (BitVec.ofInt 64 49152)).toNat = 18446744073709551615 - 49152 := by decide
  rw [e, frag_bits v hv]
  omega
theorem and_frag (v : Nat) (hv : v < 65536) : bits .and .i64 (v : Int) 16383 = ((v % 16384 : Nat) : Int) := by
  have := i64_and_nat v 16383 (by omega) (by omega)
  rw [show (16383 : Nat) = 2 ^ 14 - 1 from rfl, Nat.and_two_pow_sub_one_eq_mod] at this
  exact this
theorem u8_and15 (x : UInt8) : bits .and .u8 (x.toNat : Int) 15 = ((x.toNat % 16 : Nat) : Int) := by
  have := u8_and_nat x.toNat 15 (by have := x.toNat_lt; omega) (by omega)
  rw [show (15 : Nat) = 2 ^ 4 - 1 from rfl, Nat.and_two_pow_sub_one_eq_mod] at this
  exact this

/-- a packet (or none) and an error, its bytes in the call's own memory. -/
def Parsed (w : World) (r : Pk × Int) (e : Ending) (w' : World) : Prop :=
  ∃ A c, e = .returned (.tuple #[.agg #[.int .i64 r.1.s, .int .i64 r.1.d, .int .i64 r.1.p, .int .i64 r.1.t, .int .i64 r.1.i, .slice A r.1.xs.length c], .int .i64 r.2]) ∧ w'.ownsRow w.heap.size 5 1 (.slice A r.1.xs.length c) r.1.xs.length (r.1.xs.map bv) ∧ Below w.heap.size w w'

theorem parsed_none (w : World) (k : Int) (w' : World) (hb : Below w.heap.size w w') : Parsed w (.zero, k) (.returned (.tuple #[.agg #[.int .i64 0, .int .i64 0, .int .i64 0, .int .i64 0, .int .i64 0, .slice none 0 0], .int .i64 k])) w' :=
  ⟨none, 0, rfl, World.ownsRow_nil _ _ _ _, hb⟩
theorem b8_of {xs : List UInt8} {k : Nat} {x : UInt8} (h : xs[k]? = some x) : b8 xs k = x.toNat := by simp [b8, h]
theorem num2_lt (xs : List UInt8) (k : Nat) : num2 xs k 2 < 65536 := by
  have h1 := ofB_lt ((xs.drop k).take 2)
  have h2 : (256 : Nat) ^ ((xs.drop k).take 2).length ≤ 256 ^ 2 := Nat.pow_le_pow_right (by omega) (by rw [List.length_take]; omega)
  unfold num2
  omega
theorem getAt (xs : List UInt8) (n : Nat) (hl : xs.length = n) (b o c' : Nat) (w : World) (hx : RB w w.heap.size (some ⟨b, o, none⟩) xs) (k m : Nat) (hkm : k + m ≤ n) (hk : k < n) (hm : m ≤ 7) (v : Nat) (hv : num2 xs k m = v) :
    Calls Try.prog 63 #[.slice (some ⟨b, o + k, none⟩) m c'] w fun e w' => e = .returned (.int .i64 (v : Int)) ∧ w = w' := by
  subst hv
  exact sumGet ((xs.drop k).take m) m (by rw [List.length_take, List.length_drop]; omega) _ _ w ((hx.cut_at (by omega)).take m) hm
theorem ofAt (xs : List UInt8) (n : Nat) (hl : xs.length = n) (b o c' : Nat) (w : World) (hx : RB w w.heap.size (some ⟨b, o, none⟩) xs) (k m : Nat) (hkm : k + m ≤ n) (hk : k < n) (hm : m ≤ 7) (v : Nat) (hv : num2 xs k m = v) :
    Calls Try.prog 64 #[.slice (some ⟨b, o + k, none⟩) m c'] w fun e w' => e = .returned (.int .i64 (v : Int)) ∧ w = w' := by
  subst hv
  exact ofW ((xs.drop k).take m) m (by rw [List.length_take, List.length_drop]; omega) _ _ w ((hx.cut_at (by omega)).take m) hm
theorem cutAt {w : World} {B g o : Nat} {xs : List UInt8} (h : RB w B (some ⟨g, o, none⟩) xs) (N L : Nat) (hNL : N ≤ L) (hL : L ≤ xs.length) : RB w B (some ⟨g, o + N, none⟩) ((xs.take L).drop N) := by
  by_cases hN : N < L
  · exact (h.take L).cut_at (by rw [List.length_take]; omega)
  · rw [List.drop_of_length_le (by rw [List.length_take]; omega)]
    exact RB.nil
theorem parse_1 {xs : List UInt8} (h : xs.length < 20) : parseOut xs = (.zero, 7) := by unfold parseOut; rw [if_pos h]
theorem parse_2 {xs : List UInt8} (h : 20 ≤ xs.length) (h2 : b8 xs 0 / 16 ≠ 4 ∨ ipN xs < 20) : parseOut xs = (.zero, 1) := by unfold parseOut; rw [if_neg (by omega), if_pos h2]

theorem cellB {B : Nat} {w w' : World} (hb : Below B w w') {b o : Nat} (h : b < B) : w'.cell? ⟨b, o, none⟩ = w.cell? ⟨b, o, none⟩ := hb.cell (p := ⟨b, o, none⟩) h
theorem frozB {B : Nat} {w w' : World} (hb : Below B w w') {b o : Nat} (h : b < B) : w'.frozen? ⟨b, o, none⟩ = w.frozen? ⟨b, o, none⟩ := hb.frozen (p := ⟨b, o, none⟩) h
theorem wrap_byte (x : UInt8) : IntKind.i64.wrap (x.toNat : Int) = (x.toNat : Int) := by
  have := x.toNat_lt
  exact IntWalk.i64_in _ (by omega)

theorem grown_setCell (w : World) (g o : Nat) (u : Value) : w.grownBy (w.setCell ⟨g, o, none⟩ u) (some g) :=
  ⟨rfl, rfl, rfl, by simp [World.setCell], fun k _ hne => by
    have hk : g ≠ k := fun e => hne (by rw [e])
    simp only [World.setCell]
    rw [Array.getElem?_modify]
    simp [hk]⟩
/-- the six cells of a packet, stored. -/
abbrev set6 (w : World) (g : Nat) (a b c d e f : Value) : World :=
  (((((w.setCell ⟨g, 0, none⟩ a).setCell ⟨g, 1, none⟩ b).setCell ⟨g, 2, none⟩ c).setCell ⟨g, 3, none⟩ d).setCell ⟨g, 4, none⟩ e).setCell ⟨g, 5, none⟩ f
theorem set6_grown (w : World) (g : Nat) (a b c d e f : Value) : w.grownBy (set6 w g a b c d e f) (some g) :=
  (((((grown_setCell w g 0 a).trans (grown_setCell _ g 1 b)).trans (grown_setCell _ g 2 c)).trans (grown_setCell _ g 3 d)).trans (grown_setCell _ g 4 e)).trans (grown_setCell _ g 5 f)
theorem set6_only (w : World) (g : Nat) (a b c d e f : Value) : Only g w (set6 w g a b c d e f) :=
  ((((((Only.refl g w).set 0 a).set 1 b).set 2 c).set 3 d).set 4 e).set 5 f

theorem set6_at {w : World} {g : Nat} {s d p t i : Int} {v : Value} (h : PkAt w g s d p t i v) (s' d' p' t' i' : Int) (v' : Value) :
    PkAt (set6 w g (.int .i64 s') (.int .i64 d') (.int .i64 p') (.int .i64 t') (.int .i64 i') v') g s' d' p' t' i' v' := by
  obtain ⟨h0, h1, h2, h3, h4, h5⟩ := h
  have k : ∀ (w : World) (j j' : Nat) (u x : Value), j' ≠ j → w.cell? ⟨g, j, none⟩ = some x → (w.setCell ⟨g, j', none⟩ u).cell? ⟨g, j, none⟩ = some x := fun w j j' u x hj hc =>
    (World.cell?_setCell_other w ⟨g, j', none⟩ ⟨g, j, none⟩ u (by simp)).trans hc
  have m : ∀ (w : World) (j : Nat) (u x : Value), w.cell? ⟨g, j, none⟩ = some x → (w.setCell ⟨g, j, none⟩ u).cell? ⟨g, j, none⟩ = some u := fun w j u x hc => World.cell?_setCell_same _ _ _ hc
  refine ⟨?_, ?_, ?_, ?_, ?_, ?_⟩
  · exact k _ 0 5 _ _ (by omega) (k _ 0 4 _ _ (by omega) (k _ 0 3 _ _ (by omega) (k _ 0 2 _ _ (by omega) (k _ 0 1 _ _ (by omega) (m _ 0 _ _ h0)))))
  · exact k _ 1 5 _ _ (by omega) (k _ 1 4 _ _ (by omega) (k _ 1 3 _ _ (by omega) (k _ 1 2 _ _ (by omega) (m _ 1 _ _ (k _ 1 0 _ _ (by omega) h1)))))
  · exact k _ 2 5 _ _ (by omega) (k _ 2 4 _ _ (by omega) (k _ 2 3 _ _ (by omega) (m _ 2 _ _ (k _ 2 1 _ _ (by omega) (k _ 2 0 _ _ (by omega) h2)))))
  · exact k _ 3 5 _ _ (by omega) (k _ 3 4 _ _ (by omega) (m _ 3 _ _ (k _ 3 2 _ _ (by omega) (k _ 3 1 _ _ (by omega) (k _ 3 0 _ _ (by omega) h3)))))
  · exact k _ 4 5 _ _ (by omega) (m _ 4 _ _ (k _ 4 3 _ _ (by omega) (k _ 4 2 _ _ (by omega) (k _ 4 1 _ _ (by omega) (k _ 4 0 _ _ (by omega) h4)))))
  · exact m _ 5 _ _ (k _ 5 4 _ _ (by omega) (k _ 5 3 _ _ (by omega) (k _ 5 2 _ _ (by omega) (k _ 5 1 _ _ (by omega) (k _ 5 0 _ _ (by omega) h5)))))

set_option maxRecDepth 100000 in
set_option maxHeartbeats 3200000 in
theorem ipParse_ok (xs : List UInt8) (n : Nat) (hl : xs.length = n) (b0 o0 : Nat) (c : Nat) (hnc : n ≤ c) (w : World) (hx : RB w w.heap.size (some ⟨b0, o0, none⟩) xs) (hn : n ≤ 140737488351232)
    (h20 : ¬ n < 20) (x0 : UInt8) (hx0 : xs[0]? = some x0) (h4 : x0.toNat / 16 = 4) (N : Nat) (hN : N = 4 * (x0.toNat % 16)) (hN20 : ¬ N < 20) (hnN : ¬ n < N) (L : Nat) (hL : num2 xs 2 2 = L) (hLN : ¬ L < N) (hnL : ¬ n < L)
    (hS0 : Sm.check (xs.take N) = 0) (hF0 : num2 xs 6 2 % 16384 = 0) (hcN : ¬ c = N) :
    Calls Try.prog 43 #[.slice (some ⟨b0, o0, none⟩) n c] w (Parsed w (parsed xs, 0)) := by
  have hbA := (Below.refl w.heap.size w).alloc (Nat.le_refl _) (.cells #[.int .i64 0, .int .i64 0, .int .i64 0, .int .i64 0, .int .i64 0, .slice none 0 0] 53)
  obtain ⟨b0', o0', x0', had0, hb, hx0', c0⟩ := hx.get (k := 0) (by omega)
  obtain ⟨rfl, rfl⟩ := RB.same_at rfl had0
  rw [hx0] at hx0'
  injection hx0' with hx0'
  subst hx0'
  simp only [Nat.add_zero] at c0
  have i0 : 0 < n := by omega
  have h20' : ¬ (n : Int) < 20 := by omega
  have cA := (hbA.cell (p := ⟨b0', o0', none⟩) hb).trans c0
  have hxA := hx.next hbA
  have e15 := u8_and15 x0
  have hb8 : b8 xs 0 = x0.toNat := b8_of hx0
  have hNI : 4 * ((x0.toNat : Int) % 16) = (N : Int) := by omega
  have hNx : ipN xs = N := by unfold ipN; rw [hb8]; exact hN.symm
  have HB := Lib.hid hbA
  have e4 : ((x0.toNat : Int) / 16 != 4) = false := by simp only [bne_eq_false_iff_eq]; omega
  have hN20' : ¬ (N : Int) < 20 := by omega
  have hnN' : ¬ (n : Int) < (N : Int) := by omega
  have KG2 := Lib.hid (getAt xs n hl b0' o0' (c - 2) _ hxA 2 2 (by omega) (by omega) (by omega) L hL)
  have hLN' : ¬ (L : Int) < (N : Int) := by omega
  have hnL' : ¬ (n : Int) < (L : Int) := by omega
  obtain ⟨S, hS⟩ : ∃ S, Sm.check (xs.take N) = S := ⟨_, rfl⟩
  have KC := Lib.hid (hS ▸ sumCheck (xs.take N) N (by rw [List.length_take]; omega) (some ⟨b0', o0', none⟩) c _ (hxA.take N) (by omega))
  rw [hS0] at hS
  have hSq : ((S : Int) != 0) = false := by rw [← hS]; rfl
  obtain ⟨F, hF⟩ : ∃ F, num2 xs 6 2 = F := ⟨_, rfl⟩
  have hFl : F < 65536 := by rw [← hF]; exact num2_lt xs 6
  have KG6 := Lib.hid (getAt xs n hl b0' o0' (c - 6) _ hxA 6 2 (by omega) (by omega) (by omega) F hF)
  have hFb := andNot_frag F hFl
  rw [hF] at hF0
  have hFq : (((F % 16384 : Nat) : Int) != 0) = false := by simp only [bne_eq_false_iff_eq]; omega
  obtain ⟨b8', o8, x8, ad8, hb8', hx8, c8⟩ := hxA.get (k := 8) (by omega)
  obtain ⟨rfl, rfl⟩ := RB.same_at rfl ad8
  obtain ⟨b9', o9, x9, ad9, hb9', hx9, c9⟩ := hxA.get (k := 9) (by omega)
  obtain ⟨rfl, rfl⟩ := RB.same_at rfl ad9
  have i8 : (8 : Int) < (n : Int) := by omega
  have i9 : (9 : Int) < (n : Int) := by omega
  have HXA := Lib.hid hxA
  have hl' := Lib.hid hl
  have hx8' := Lib.hid hx8
  have hx9' := Lib.hid hx9
  have hF' := Lib.hid hF
  have hL' := Lib.hid hL
  have hNx' := Lib.hid hNx
  have hb8h := Lib.hid hb8
  clear hx hxA hl hx8 hx9 hx0 hb8 hNx hN hbA c0 hL hS hF had0
  go_enter Try.func43, Try.ntmps43
  go_wp2
  refine wp_scope_fwd 0 rfl ?_
  go_wp2_with fail
  (with_reducible refine KG2.out.mono ?_)
  rintro e w' ⟨rfl, rfl⟩
  go_wp2_with fail
  (with_reducible refine KC.out.mono ?_)
  rintro e w' ⟨rfl, rfl⟩
  go_wp2_with fail
  (with_reducible refine KG6.out.mono ?_)
  rintro e w' ⟨rfl, rfl⟩
  clear KG2 KC KG6
  go_wp2_with fail
  have hz : PkAt (w.alloc (.cells #[.int .i64 0, .int .i64 0, .int .i64 0, .int .i64 0, .int .i64 0, .slice none 0 0] 53)) w.heap.size 0 0 0 0 0 (.slice none 0 0) := PkAt.box w 0 0 0 0 0 _ _
  have hfz : ∀ k, (w.alloc (.cells #[.int .i64 0, .int .i64 0, .int .i64 0, .int .i64 0, .int .i64 0, .slice none 0 0] 53)).frozen? ⟨w.heap.size, k, none⟩ = false := fun k => World.frozen?_alloc_at _ _ _ k rfl
  have hsA : (w.alloc (.cells #[.int .i64 0, .int .i64 0, .int .i64 0, .int .i64 0, .int .i64 0, .slice none 0 0] 53)).heap.size = w.heap.size + 1 := World.size_alloc _ _
  clear hb9' hb8' cA
  generalize w.alloc (.cells #[.int .i64 0, .int .i64 0, .int .i64 0, .int .i64 0, .int .i64 0, .slice none 0 0] 53) = w2 at HB HXA c8 c9 hz hfz hsA ⊢
  have s1 : (16 : Int) ≤ (c : Int) := by omega
  have s2 : (20 : Int) ≤ (c : Int) := by omega
  have s3 : (6 : Int) ≤ (c : Int) := by omega
  have s4 : (L : Int) ≤ (c : Int) := by omega
  have u1 : ¬ c = 12 := by omega
  have u2 : ¬ c = 16 := by omega
  have u3 : ¬ c = 4 := by omega
  have hzd : PkAt w2.drew w.heap.size 0 0 0 0 0 (.slice none 0 0) := hz
  have hfzd : ∀ k, w2.drew.frozen? ⟨w.heap.size, k, none⟩ = false := hfz
  have c8d : w2.drew.cell? ⟨b9', o9 + 8, none⟩ = some (.int .u8 (x8.toNat : Int)) := c8
  have c9d : w2.drew.cell? ⟨b9', o9 + 9, none⟩ = some (.int .u8 (x9.toNat : Int)) := c9
  have hsAd : w2.drew.heap.size = w.heap.size + 1 := hsA
  have HZ := Lib.hid (And.intro hzd (And.intro hfzd (And.intro c8d c9d)))
  clear hzd hfzd c8d c9d hz hfz
  have wr8 := wrap_byte x8
  have wr9 := wrap_byte x9
  have KS := Lib.hid (getAt xs n hl'.out b9' o9 (c - 12) w2.drew HXA.out 12 4 (by omega) (by omega) (by omega) _ rfl)
  have KD := Lib.hid (getAt xs n hl'.out b9' o9 (c - 16) w2.drew HXA.out 16 4 (by omega) (by omega) (by omega) _ rfl)
  have KI := Lib.hid (getAt xs n hl'.out b9' o9 (c - 4) w2.drew HXA.out 4 2 (by omega) (by omega) (by omega) _ rfl)
  have KL := Lib.hid (clone ((xs.take L).drop N) (L - N) (by rw [List.length_drop, List.length_take, hl'.out]; omega) (some ⟨b9', o9 + N, none⟩) (c - N) w2.drew (cutAt HXA.out N L (by have := hl'.out; omega) (by have := hl'.out; omega)) (by omega))
  have hne : b9' ≠ w.heap.size := by omega
  have hne' : w.heap.size ≠ b9' := by omega
  go_region_held3 (fun w' => w'.cell? ⟨b9', o9 + 8, none⟩ = some (.int .u8 (x8.toNat : Int)) ∧ w'.cell? ⟨b9', o9 + 9, none⟩ = some (.int .u8 (x9.toNat : Int))) (go_keep)
    (first
      | (go_at_call 63; (with_reducible refine KS.out.mono ?_); rintro e w' ⟨rfl, rfl⟩)
      | (go_at_call 63; (with_reducible refine KD.out.mono ?_); rintro e w' ⟨rfl, rfl⟩)
      | (go_at_call 63; (with_reducible refine KI.out.mono ?_); rintro e w' ⟨rfl, rfl⟩)
      | (go_at_call 57; (with_reducible refine KL.out.mono ?_); rintro e w3 ⟨A3, c3, rfl, hown3, hb3⟩; obtain ⟨z0, z1, z2, z3, z4, z5⟩ := HZ.out.1.below hb3 (by omega); have e8 := (cellB hb3 (by omega)).trans HZ.out.2.2.1; have e9 := (cellB hb3 (by omega)).trans HZ.out.2.2.2; have y0 := (frozB hb3 (by omega)).trans (HZ.out.2.1 0); have y1 := (frozB hb3 (by omega)).trans (HZ.out.2.1 1); have y2 := (frozB hb3 (by omega)).trans (HZ.out.2.1 2); have y3 := (frozB hb3 (by omega)).trans (HZ.out.2.1 3); have y4 := (frozB hb3 (by omega)).trans (HZ.out.2.1 4); have y5 := (frozB hb3 (by omega)).trans (HZ.out.2.1 5)))
  have hp4 := set6_at (w := w3) (g := w.heap.size) ⟨z0, z1, z2, z3, z4, z5⟩ (num2 xs 12 4) (num2 xs 16 4) (x9.toNat : Int) (x8.toNat : Int) (num2 xs 4 2) (.slice A3 (L - N) c3)
  have hg4 := set6_grown w3 w.heap.size (.int .i64 (num2 xs 12 4)) (.int .i64 (num2 xs 16 4)) (.int .i64 (x9.toNat : Int)) (.int .i64 (x8.toNat : Int)) (.int .i64 (num2 xs 4 2)) (.slice A3 (L - N) c3)
  have ho4 := set6_only w3 w.heap.size (.int .i64 (num2 xs 12 4)) (.int .i64 (num2 xs 16 4)) (.int .i64 (x9.toNat : Int)) (.int .i64 (x8.toNat : Int)) (.int .i64 (num2 xs 4 2)) (.slice A3 (L - N) c3)
  have hown4 := hown3.kept hg4 (by
    rcases hv : (Value.slice A3 (L - N) c3).ownBlock with _ | k
    · exact Or.inl rfl
    · right
      have := (hown3.lt k hv).1
      intro e
      injection e with e
      omega)
  have hb4 := ho4.below _ _ ((HB.out.drew).trans (hb3.mono (by omega))) (Nat.le_refl _)
  clear z0 z1 z2 z3 z4 z5 y0 y1 y2 y3 y4 y5 e8 e9 hown3 hb3 KS KD KI KL hg4 ho4
  show Exit.then _ _ _ _ (set6 w3 w.heap.size (.int .i64 (num2 xs 12 4)) (.int .i64 (num2 xs 16 4)) (.int .i64 (x9.toNat : Int)) (.int .i64 (x8.toNat : Int)) (.int .i64 (num2 xs 4 2)) (.slice A3 (L - N) c3))
  generalize set6 w3 w.heap.size (.int .i64 (num2 xs 12 4)) (.int .i64 (num2 xs 16 4)) (.int .i64 (x9.toNat : Int)) (.int .i64 (x8.toNat : Int)) (.int .i64 (num2 xs 4 2)) (.slice A3 (L - N) c3) = w4 at hp4 hown4 hb4 ⊢
  obtain ⟨z0, z1, z2, z3, z4, z5⟩ := hp4
  go_wp2
  simp only [Exit.jump]
  refine bodyPost_ret (v := .tuple #[.agg #[.int .i64 (num2 xs 12 4), .int .i64 (num2 xs 16 4), .int .i64 (x9.toNat : Int), .int .i64 (x8.toNat : Int), .int .i64 (num2 xs 4 2), .slice A3 (L - N) c3], .int .i64 0]) (by simp [results, Try.results43, go_sem, z0, z1, z2, z3, z4, z5]) rfl ?_
  have hlen : ((xs.take L).drop N).length = L - N := by rw [List.length_drop, List.length_take, hl'.out]; omega
  have hP : parsed xs = ⟨num2 xs 12 4, num2 xs 16 4, (x9.toNat : Int), (x8.toNat : Int), num2 xs 4 2, (xs.take L).drop N⟩ := by
    unfold parsed
    rw [hL'.out, hNx'.out, b8_of hx9'.out, b8_of hx8'.out]
  rw [hP]
  refine ⟨A3, c3, ?_, ?_, hb4⟩
  · simp only [hlen]
  · simp only [hlen]
    exact own_base hown4 (by omega)

set_option maxRecDepth 100000 in
set_option maxHeartbeats 3200000 in
theorem ipParse_ok0 (xs : List UInt8) (n : Nat) (hl : xs.length = n) (b0 o0 : Nat) (w : World) (hx : RB w w.heap.size (some ⟨b0, o0, none⟩) xs) (hn : n ≤ 140737488351232)
    (h20 : ¬ n < 20) (x0 : UInt8) (hx0 : xs[0]? = some x0) (h4 : x0.toNat / 16 = 4) (hN : n = 4 * (x0.toNat % 16)) (hL : num2 xs 2 2 = n)
    (hS0 : Sm.check (xs.take n) = 0) (hF0 : num2 xs 6 2 % 16384 = 0) :
    Calls Try.prog 43 #[.slice (some ⟨b0, o0, none⟩) n n] w (Parsed w (parsed xs, 0)) := by
  have hbA := (Below.refl w.heap.size w).alloc (Nat.le_refl _) (.cells #[.int .i64 0, .int .i64 0, .int .i64 0, .int .i64 0, .int .i64 0, .slice none 0 0] 53)
  obtain ⟨b0', o0', x0', had0, hb, hx0', c0⟩ := hx.get (k := 0) (by omega)
  obtain ⟨rfl, rfl⟩ := RB.same_at rfl had0
  rw [hx0] at hx0'
  injection hx0' with hx0'
  subst hx0'
  simp only [Nat.add_zero] at c0
  have i0 : 0 < n := by omega
  have h20' : ¬ (n : Int) < 20 := by omega
  have cA := (hbA.cell (p := ⟨b0', o0', none⟩) hb).trans c0
  have hxA := hx.next hbA
  have e15 := u8_and15 x0
  have hb8 : b8 xs 0 = x0.toNat := b8_of hx0
  have hNI : 4 * ((x0.toNat : Int) % 16) = (n : Int) := by omega
  have hNx : ipN xs = n := by unfold ipN; rw [hb8]; exact hN.symm
  have HB := Lib.hid hbA
  have e4 : ((x0.toNat : Int) / 16 != 4) = false := by simp only [bne_eq_false_iff_eq]; omega
  have hN20' : ¬ (n : Int) < 20 := by omega
  have hnN' : ¬ (n : Int) < (n : Int) := by omega
  have KG2 := Lib.hid (getAt xs n hl b0' o0' (n - 2) _ hxA 2 2 (by omega) (by omega) (by omega) n hL)
  have hLN' : ¬ (n : Int) < (n : Int) := by omega
  have hnL' : ¬ (n : Int) < (n : Int) := by omega
  obtain ⟨S, hS⟩ : ∃ S, Sm.check (xs.take n) = S := ⟨_, rfl⟩
  have KC := Lib.hid (hS ▸ sumCheck (xs.take n) n (by rw [List.length_take]; omega) (some ⟨b0', o0', none⟩) n _ (hxA.take n) (by omega))
  rw [hS0] at hS
  have hSq : ((S : Int) != 0) = false := by rw [← hS]; rfl
  obtain ⟨F, hF⟩ : ∃ F, num2 xs 6 2 = F := ⟨_, rfl⟩
  have hFl : F < 65536 := by rw [← hF]; exact num2_lt xs 6
  have KG6 := Lib.hid (getAt xs n hl b0' o0' (n - 6) _ hxA 6 2 (by omega) (by omega) (by omega) F hF)
  have hFb := andNot_frag F hFl
  rw [hF] at hF0
  have hFq : (((F % 16384 : Nat) : Int) != 0) = false := by simp only [bne_eq_false_iff_eq]; omega
  obtain ⟨b8', o8, x8, ad8, hb8', hx8, c8⟩ := hxA.get (k := 8) (by omega)
  obtain ⟨rfl, rfl⟩ := RB.same_at rfl ad8
  obtain ⟨b9', o9, x9, ad9, hb9', hx9, c9⟩ := hxA.get (k := 9) (by omega)
  obtain ⟨rfl, rfl⟩ := RB.same_at rfl ad9
  have i8 : (8 : Int) < (n : Int) := by omega
  have i9 : (9 : Int) < (n : Int) := by omega
  have HXA := Lib.hid hxA
  have hl' := Lib.hid hl
  have hx8' := Lib.hid hx8
  have hx9' := Lib.hid hx9
  have hF' := Lib.hid hF
  have hL' := Lib.hid hL
  have hNx' := Lib.hid hNx
  have hb8h := Lib.hid hb8
  clear hx hxA hl hx8 hx9 hx0 hb8 hNx hN hbA c0 hL hS hF had0
  go_enter Try.func43, Try.ntmps43
  go_wp2
  refine wp_scope_fwd 0 rfl ?_
  go_wp2_with fail
  (with_reducible refine KG2.out.mono ?_)
  rintro e w' ⟨rfl, rfl⟩
  go_wp2_with fail
  (with_reducible refine KC.out.mono ?_)
  rintro e w' ⟨rfl, rfl⟩
  go_wp2_with fail
  (with_reducible refine KG6.out.mono ?_)
  rintro e w' ⟨rfl, rfl⟩
  clear KG2 KC KG6
  go_wp2_with fail
  have hz : PkAt (w.alloc (.cells #[.int .i64 0, .int .i64 0, .int .i64 0, .int .i64 0, .int .i64 0, .slice none 0 0] 53)) w.heap.size 0 0 0 0 0 (.slice none 0 0) := PkAt.box w 0 0 0 0 0 _ _
  have hfz : ∀ k, (w.alloc (.cells #[.int .i64 0, .int .i64 0, .int .i64 0, .int .i64 0, .int .i64 0, .slice none 0 0] 53)).frozen? ⟨w.heap.size, k, none⟩ = false := fun k => World.frozen?_alloc_at _ _ _ k rfl
  have hsA : (w.alloc (.cells #[.int .i64 0, .int .i64 0, .int .i64 0, .int .i64 0, .int .i64 0, .slice none 0 0] 53)).heap.size = w.heap.size + 1 := World.size_alloc _ _
  clear hb9' hb8' cA
  generalize w.alloc (.cells #[.int .i64 0, .int .i64 0, .int .i64 0, .int .i64 0, .int .i64 0, .slice none 0 0] 53) = w2 at HB HXA c8 c9 hz hfz hsA ⊢
  have s1 : (16 : Int) ≤ (n : Int) := by omega
  have s2 : (20 : Int) ≤ (n : Int) := by omega
  have s3 : (6 : Int) ≤ (n : Int) := by omega
  have s4 : (n : Int) ≤ (n : Int) := by omega
  have u1 : ¬ n = 12 := by omega
  have u2 : ¬ n = 16 := by omega
  have u3 : ¬ n = 4 := by omega
  have hzd : PkAt w2.drew w.heap.size 0 0 0 0 0 (.slice none 0 0) := hz
  have hfzd : ∀ k, w2.drew.frozen? ⟨w.heap.size, k, none⟩ = false := hfz
  have c8d : w2.drew.cell? ⟨b9', o9 + 8, none⟩ = some (.int .u8 (x8.toNat : Int)) := c8
  have c9d : w2.drew.cell? ⟨b9', o9 + 9, none⟩ = some (.int .u8 (x9.toNat : Int)) := c9
  have hsAd : w2.drew.heap.size = w.heap.size + 1 := hsA
  have HZ := Lib.hid (And.intro hzd (And.intro hfzd (And.intro c8d c9d)))
  clear hzd hfzd c8d c9d hz hfz
  have wr8 := wrap_byte x8
  have wr9 := wrap_byte x9
  have KS := Lib.hid (getAt xs n hl'.out b9' o9 (n - 12) w2.drew HXA.out 12 4 (by omega) (by omega) (by omega) _ rfl)
  have KD := Lib.hid (getAt xs n hl'.out b9' o9 (n - 16) w2.drew HXA.out 16 4 (by omega) (by omega) (by omega) _ rfl)
  have KI := Lib.hid (getAt xs n hl'.out b9' o9 (n - 4) w2.drew HXA.out 4 2 (by omega) (by omega) (by omega) _ rfl)
  have KL := Lib.hid (clone [] 0 rfl (some ⟨b9', o9, none⟩) 0 w2.drew RB.nil (by omega))
  have hne : b9' ≠ w.heap.size := by omega
  have hne' : w.heap.size ≠ b9' := by omega
  go_region_held3 (fun w' => w'.cell? ⟨b9', o9 + 8, none⟩ = some (.int .u8 (x8.toNat : Int)) ∧ w'.cell? ⟨b9', o9 + 9, none⟩ = some (.int .u8 (x9.toNat : Int))) (go_keep)
    (first
      | (go_at_call 63; (with_reducible refine KS.out.mono ?_); rintro e w' ⟨rfl, rfl⟩)
      | (go_at_call 63; (with_reducible refine KD.out.mono ?_); rintro e w' ⟨rfl, rfl⟩)
      | (go_at_call 63; (with_reducible refine KI.out.mono ?_); rintro e w' ⟨rfl, rfl⟩)
      | (go_at_call 57; (with_reducible refine KL.out.mono ?_); rintro e w3 ⟨A3, c3, rfl, hown3, hb3⟩; obtain ⟨z0, z1, z2, z3, z4, z5⟩ := HZ.out.1.below hb3 (by omega); have e8 := (cellB hb3 (by omega)).trans HZ.out.2.2.1; have e9 := (cellB hb3 (by omega)).trans HZ.out.2.2.2; have y0 := (frozB hb3 (by omega)).trans (HZ.out.2.1 0); have y1 := (frozB hb3 (by omega)).trans (HZ.out.2.1 1); have y2 := (frozB hb3 (by omega)).trans (HZ.out.2.1 2); have y3 := (frozB hb3 (by omega)).trans (HZ.out.2.1 3); have y4 := (frozB hb3 (by omega)).trans (HZ.out.2.1 4); have y5 := (frozB hb3 (by omega)).trans (HZ.out.2.1 5)))
  have hp4 := set6_at (w := w3) (g := w.heap.size) ⟨z0, z1, z2, z3, z4, z5⟩ (num2 xs 12 4) (num2 xs 16 4) (x9.toNat : Int) (x8.toNat : Int) (num2 xs 4 2) (.slice A3 0 c3)
  have hg4 := set6_grown w3 w.heap.size (.int .i64 (num2 xs 12 4)) (.int .i64 (num2 xs 16 4)) (.int .i64 (x9.toNat : Int)) (.int .i64 (x8.toNat : Int)) (.int .i64 (num2 xs 4 2)) (.slice A3 0 c3)
  have ho4 := set6_only w3 w.heap.size (.int .i64 (num2 xs 12 4)) (.int .i64 (num2 xs 16 4)) (.int .i64 (x9.toNat : Int)) (.int .i64 (x8.toNat : Int)) (.int .i64 (num2 xs 4 2)) (.slice A3 0 c3)
  have hown4 := hown3.kept hg4 (by
    rcases hv : (Value.slice A3 0 c3).ownBlock with _ | k
    · exact Or.inl rfl
    · right
      have := (hown3.lt k hv).1
      intro e
      injection e with e
      omega)
  have hb4 := ho4.below _ _ ((HB.out.drew).trans (hb3.mono (by omega))) (Nat.le_refl _)
  clear z0 z1 z2 z3 z4 z5 y0 y1 y2 y3 y4 y5 e8 e9 hown3 hb3 KS KD KI KL hg4 ho4
  show Exit.then _ _ _ _ (set6 w3 w.heap.size (.int .i64 (num2 xs 12 4)) (.int .i64 (num2 xs 16 4)) (.int .i64 (x9.toNat : Int)) (.int .i64 (x8.toNat : Int)) (.int .i64 (num2 xs 4 2)) (.slice A3 0 c3))
  generalize set6 w3 w.heap.size (.int .i64 (num2 xs 12 4)) (.int .i64 (num2 xs 16 4)) (.int .i64 (x9.toNat : Int)) (.int .i64 (x8.toNat : Int)) (.int .i64 (num2 xs 4 2)) (.slice A3 0 c3) = w4 at hp4 hown4 hb4 ⊢
  obtain ⟨z0, z1, z2, z3, z4, z5⟩ := hp4
  go_wp2
  simp only [Exit.jump]
  refine bodyPost_ret (v := .tuple #[.agg #[.int .i64 (num2 xs 12 4), .int .i64 (num2 xs 16 4), .int .i64 (x9.toNat : Int), .int .i64 (x8.toNat : Int), .int .i64 (num2 xs 4 2), .slice A3 0 c3], .int .i64 0]) (by simp [results, Try.results43, go_sem, z0, z1, z2, z3, z4, z5]) rfl ?_
  have hlen : ((xs.take n).drop n).length = 0 := by rw [List.length_drop, List.length_take, hl'.out]; omega
  have hP : parsed xs = ⟨num2 xs 12 4, num2 xs 16 4, (x9.toNat : Int), (x8.toNat : Int), num2 xs 4 2, (xs.take n).drop n⟩ := by
    unfold parsed
    rw [hL'.out, hNx'.out, b8_of hx9'.out, b8_of hx8'.out]
  rw [hP]
  refine ⟨A3, c3, ?_, ?_, hb4⟩
  · simp only [hlen]
  · simp only [hlen]
    rw [List.eq_nil_of_length_eq_zero hlen]
    exact own_base hown4 (by omega)

set_option maxRecDepth 100000 in
set_option maxHeartbeats 3200000 in
theorem ipParse (xs : List UInt8) (n : Nat) (hl : xs.length = n) (A : Option Addr) (c : Nat) (hnc : n ≤ c) (w : World) (hx : RB w w.heap.size A xs) (hn : n ≤ 140737488351232) :
    Calls Try.prog 43 #[.slice A n c] w (Parsed w (parseOut xs)) := by
  have hbA := (Below.refl w.heap.size w).alloc (Nat.le_refl _) (.cells #[.int .i64 0, .int .i64 0, .int .i64 0, .int .i64 0, .int .i64 0, .slice none 0 0] 53)
  by_cases h20 : n < 20
  · have HR := Lib.hid (parse_1 (xs := xs) (by omega))
    have h20' : (n : Int) < 20 := by omega
    have HB := Lib.hid hbA
    clear hl hbA
    go_enter Try.func43, Try.ntmps43
    go_wp2
    refine wp_scope_fwd 0 rfl ?_
    go_wp2
    go_step3
    refine ⟨rfl, ?_⟩
    go_wp2
    simp only [Exit.jump]
    refine bodyPost_ret (v := .tuple #[.agg #[.int .i64 0, .int .i64 0, .int .i64 0, .int .i64 0, .int .i64 0, .slice none 0 0], .int .i64 7]) (by simp [results, Try.results43, go_sem]) rfl ?_
    rw [HR.out]
    exact parsed_none w 7 _ HB.out
  · obtain ⟨b0, o0, x0, rfl, hb, hx0, c0⟩ := hx.get (k := 0) (by omega)
    simp only [Nat.add_zero] at c0
    have i0 : 0 < n := by omega
    have h20' : ¬ (n : Int) < 20 := by omega
    have cA := (hbA.cell (p := ⟨b0, o0, none⟩) hb).trans c0
    have hxA := hx.next hbA
    have e15 := u8_and15 x0
    have hb8 : b8 xs 0 = x0.toNat := b8_of hx0
    obtain ⟨N, hN⟩ : ∃ N, N = 4 * (x0.toNat % 16) := ⟨_, rfl⟩
    have hNI : 4 * ((x0.toNat : Int) % 16) = (N : Int) := by omega
    have hNx : ipN xs = N := by unfold ipN; rw [hb8]; exact hN.symm
    have HB := Lib.hid hbA
    by_cases h4 : x0.toNat / 16 = 4
    · have e4 : ((x0.toNat : Int) / 16 != 4) = false := by simp only [bne_eq_false_iff_eq]; omega
      by_cases hN20 : N < 20
      · have hN20' : (N : Int) < 20 := by omega
        have HR : Hid (parseOut xs = (.zero, 1)) := by unfold Hid parseOut; rw [hb8, hNx, hl, if_neg (by omega), if_pos (by omega)]
        clear hl hx0 hb8 hNx hN hbA c0
        go_enter Try.func43, Try.ntmps43
        go_wp2
        refine wp_scope_fwd 0 rfl ?_
        go_wp2
        go_step3
        refine ⟨rfl, ?_⟩
        go_wp2
        simp only [Exit.jump]
        refine bodyPost_ret (v := .tuple #[.agg #[.int .i64 0, .int .i64 0, .int .i64 0, .int .i64 0, .int .i64 0, .slice none 0 0], .int .i64 1]) (by simp [results, Try.results43, go_sem]) rfl ?_
        rw [HR.out]
        exact parsed_none w 1 _ HB.out
      · have hN20' : ¬ (N : Int) < 20 := by omega
        by_cases hnN : n < N
        · have hnN' : (n : Int) < (N : Int) := by omega
          have HR : Hid (parseOut xs = (.zero, 7)) := by unfold Hid parseOut; rw [hb8, hNx, hl, if_neg (by omega), if_neg (by omega), if_pos (by omega)]
          clear hl hx0 hb8 hNx hN hbA c0
          go_enter Try.func43, Try.ntmps43
          go_wp2
          refine wp_scope_fwd 0 rfl ?_
          go_wp2
          go_step3
          refine ⟨rfl, ?_⟩
          go_wp2
          simp only [Exit.jump]
          refine bodyPost_ret (v := .tuple #[.agg #[.int .i64 0, .int .i64 0, .int .i64 0, .int .i64 0, .int .i64 0, .slice none 0 0], .int .i64 7]) (by simp [results, Try.results43, go_sem]) rfl ?_
          rw [HR.out]
          exact parsed_none w 7 _ HB.out
        · have hnN' : ¬ (n : Int) < (N : Int) := by omega
          obtain ⟨L, hL⟩ : ∃ L, num2 xs 2 2 = L := ⟨_, rfl⟩
          have KG2 := Lib.hid (getAt xs n hl b0 o0 (c - 2) _ hxA 2 2 (by omega) (by omega) (by omega) L hL)
          by_cases hLN : L < N
          · have hLN' : (L : Int) < (N : Int) := by omega
            have HR : Hid (parseOut xs = (.zero, 1)) := by unfold Hid parseOut; rw [hb8, hNx, hL, hl, if_neg (by omega), if_neg (by omega), if_neg (by omega), if_pos (by omega)]
            clear hl hx0 hb8 hNx hN hbA c0 hL
            go_enter Try.func43, Try.ntmps43
            go_wp2
            refine wp_scope_fwd 0 rfl ?_
            go_wp2_with fail
            (with_reducible refine KG2.out.mono ?_)
            rintro e w' ⟨rfl, rfl⟩
            go_wp2
            go_step3
            refine ⟨rfl, ?_⟩
            go_wp2
            simp only [Exit.jump]
            refine bodyPost_ret (v := .tuple #[.agg #[.int .i64 0, .int .i64 0, .int .i64 0, .int .i64 0, .int .i64 0, .slice none 0 0], .int .i64 1]) (by simp [results, Try.results43, go_sem]) rfl ?_
            rw [HR.out]
            exact parsed_none w 1 _ HB.out
          · have hLN' : ¬ (L : Int) < (N : Int) := by omega
            by_cases hnL : n < L
            · have hnL' : (n : Int) < (L : Int) := by omega
              have HR : Hid (parseOut xs = (.zero, 7)) := by unfold Hid parseOut; rw [hb8, hNx, hL, hl, if_neg (by omega), if_neg (by omega), if_neg (by omega), if_neg (by omega), if_pos (by omega)]
              clear hl hx0 hb8 hNx hN hbA c0 hL
              go_enter Try.func43, Try.ntmps43
              go_wp2
              refine wp_scope_fwd 0 rfl ?_
              go_wp2_with fail
              (with_reducible refine KG2.out.mono ?_)
              rintro e w' ⟨rfl, rfl⟩
              go_wp2
              go_step3
              refine ⟨rfl, ?_⟩
              go_wp2
              simp only [Exit.jump]
              refine bodyPost_ret (v := .tuple #[.agg #[.int .i64 0, .int .i64 0, .int .i64 0, .int .i64 0, .int .i64 0, .slice none 0 0], .int .i64 7]) (by simp [results, Try.results43, go_sem]) rfl ?_
              rw [HR.out]
              exact parsed_none w 7 _ HB.out
            · have hnL' : ¬ (n : Int) < (L : Int) := by omega
              obtain ⟨S, hS⟩ : ∃ S, Sm.check (xs.take N) = S := ⟨_, rfl⟩
              have KC := Lib.hid (hS ▸ sumCheck (xs.take N) N (by rw [List.length_take]; omega) (some ⟨b0, o0, none⟩) c _ (hxA.take N) (by omega))
              by_cases hS0 : S = 0
              · have hSq : ((S : Int) != 0) = false := by rw [hS0]; rfl
                obtain ⟨F, hF⟩ : ∃ F, num2 xs 6 2 = F := ⟨_, rfl⟩
                have hFl : F < 65536 := by rw [← hF]; exact num2_lt xs 6
                have KG6 := Lib.hid (getAt xs n hl b0 o0 (c - 6) _ hxA 6 2 (by omega) (by omega) (by omega) F hF)
                have hFb := andNot_frag F hFl
                by_cases hF0 : F % 16384 = 0
                · have hP : parseOut xs = (parsed xs, 0) := by
                    unfold parseOut
                    rw [hb8, hNx, hL, hS, hF, hl, if_neg (by omega), if_neg (by omega), if_neg (by omega), if_neg (by omega), if_neg (by omega), if_neg (by omega), if_neg (by omega)]
                  rw [hP]
                  by_cases hcN : c = N
                  · have e1 : L = N := by omega
                    have e2 : n = N := by omega
                    subst e1 hcN e2
                    exact ipParse_ok0 xs n hl b0 o0 w hx hn h20 x0 hx0 h4 hN hL (hS ▸ hS0) (hF ▸ hF0)
                  · exact ipParse_ok xs n hl b0 o0 c hnc w hx hn h20 x0 hx0 h4 N hN hN20 hnN L hL hLN hnL (hS ▸ hS0) (hF ▸ hF0) hcN
                · have hFq : (((F % 16384 : Nat) : Int) != 0) = true := by simp only [bne_iff_ne, ne_eq]; omega
                  have HR : Hid (parseOut xs = (.zero, 9)) := by unfold Hid parseOut; rw [hb8, hNx, hL, hS, hF, hl, if_neg (by omega), if_neg (by omega), if_neg (by omega), if_neg (by omega), if_neg (by omega), if_neg (by omega), if_pos (by omega)]
                  clear hl hx0 hb8 hNx hN hbA c0 hL hS hF
                  go_enter Try.func43, Try.ntmps43
                  go_wp2
                  refine wp_scope_fwd 0 rfl ?_
                  go_wp2_with fail
                  (with_reducible refine KG2.out.mono ?_)
                  rintro e w' ⟨rfl, rfl⟩
                  go_wp2_with fail
                  (with_reducible refine KC.out.mono ?_)
                  rintro e w' ⟨rfl, rfl⟩
                  go_wp2_with fail
                  (with_reducible refine KG6.out.mono ?_)
                  rintro e w' ⟨rfl, rfl⟩
                  go_wp2
                  go_step3
                  refine ⟨rfl, ?_⟩
                  go_wp2
                  simp only [Exit.jump]
                  refine bodyPost_ret (v := .tuple #[.agg #[.int .i64 0, .int .i64 0, .int .i64 0, .int .i64 0, .int .i64 0, .slice none 0 0], .int .i64 9]) (by simp [results, Try.results43, go_sem]) rfl ?_
                  rw [HR.out]
                  exact parsed_none w 9 _ HB.out
              · have hSq : ((S : Int) != 0) = true := by simp only [bne_iff_ne, ne_eq]; omega
                have HR : Hid (parseOut xs = (.zero, 8)) := by unfold Hid parseOut; rw [hb8, hNx, hL, hS, hl, if_neg (by omega), if_neg (by omega), if_neg (by omega), if_neg (by omega), if_neg (by omega), if_pos (by omega)]
                clear hl hx0 hb8 hNx hN hbA c0 hL hS
                go_enter Try.func43, Try.ntmps43
                go_wp2
                refine wp_scope_fwd 0 rfl ?_
                go_wp2_with fail
                (with_reducible refine KG2.out.mono ?_)
                rintro e w' ⟨rfl, rfl⟩
                go_wp2_with fail
                (with_reducible refine KC.out.mono ?_)
                rintro e w' ⟨rfl, rfl⟩
                go_wp2
                go_step3
                refine ⟨rfl, ?_⟩
                go_wp2
                simp only [Exit.jump]
                refine bodyPost_ret (v := .tuple #[.agg #[.int .i64 0, .int .i64 0, .int .i64 0, .int .i64 0, .int .i64 0, .slice none 0 0], .int .i64 8]) (by simp [results, Try.results43, go_sem]) rfl ?_
                rw [HR.out]
                exact parsed_none w 8 _ HB.out
    · have e4 : ((x0.toNat : Int) / 16 != 4) = true := by simp only [bne_iff_ne, ne_eq]; omega
      have HR : Hid (parseOut xs = (.zero, 1)) := by unfold Hid parseOut; rw [hb8, hNx, hl, if_neg (by omega), if_pos (by omega)]
      clear hl hx0 hb8 hNx hN hbA c0
      go_enter Try.func43, Try.ntmps43
      go_wp2
      refine wp_scope_fwd 0 rfl ?_
      go_wp2
      go_step3
      refine ⟨rfl, ?_⟩
      go_wp2
      simp only [Exit.jump]
      refine bodyPost_ret (v := .tuple #[.agg #[.int .i64 0, .int .i64 0, .int .i64 0, .int .i64 0, .int .i64 0, .slice none 0 0], .int .i64 1]) (by simp [results, Try.results43, go_sem]) rfl ?_
      rw [HR.out]
      exact parsed_none w 1 _ HB.out

end Go.Proofs.Ytjdokaiadljeeaa
