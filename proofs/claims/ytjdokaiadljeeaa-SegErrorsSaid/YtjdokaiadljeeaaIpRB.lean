/-
  The walk of the document's PacketBytes.
-/
import Derived.Test.YtjdokaiadljeeaaIpB
namespace Go.Proofs.Ytjdokaiadljeeaa
open Go.RowKit

theorem lit6 (t p : Nat) (ht : t ≤ 255) (hp : p ≤ 255) : (#[Value.int .u8 64, .int .u8 0, .int .u8 (t : Int), .int .u8 (p : Int), .int .u8 0, .int .u8 0] : Array Value).toList = ([0x40, 0, UInt8.ofNat t, UInt8.ofNat p, 0, 0] : List UInt8).map bv := by
  simp only [List.map, bv, byte_n t ht, byte_n p hp]
  rfl
theorem splice_at (xs : List UInt8) (p : Nat) (u v : UInt8) (h : p + 1 < xs.length) : xs.take p ++ [u, v] ++ xs.drop (p + 2) = (xs.set p u).set (p + 1) v := splice2 xs p u v h

set_option maxRecDepth 100000 in
set_option maxHeartbeats 3200000 in
theorem refPBytes (s d p t i : Nat) (xs : List UInt8) (n : Nat) (hl : xs.length = n) (A : Option Addr) (c : Nat) (h : Pk.ok ⟨s, d, p, t, i, xs⟩ = true) (w : World) (hx : RB w w.heap.size A xs) :
    Calls Try.prog 40 #[.agg #[.int .i64 s, .int .i64 d, .int .i64 p, .int .i64 t, .int .i64 i, .slice A n c]] w fun e w' => ∃ A' c', e = .returned (.slice A' (20 + n) c') ∧ w'.ownsRow w.heap.size 5 1 (.slice A' (20 + n) c') (20 + n) ((ipHead s d p t i n ++ xs).map bv) ∧ Below w.heap.size w w' := by
  obtain ⟨⟨_, hs⟩, ⟨_, hd⟩, ⟨_, hp⟩, ⟨_, ht⟩, ⟨_, hi⟩, hn⟩ := Pk.ok_iff.1 h
  simp only at hs hd hp ht hi hn
  have hb01 := (Below.refl w.heap.size w).alloc (Nat.le_refl _) (.cells #[.int .i64 s, .int .i64 d, .int .i64 p, .int .i64 t, .int .i64 i, .slice A n c] 53)
  have hp1 := PkAt.box w s d p t i (.slice A n c) 53
  have hx1 := hx.next hb01
  have hs1 : (w.alloc (.cells #[.int .i64 s, .int .i64 d, .int .i64 p, .int .i64 t, .int .i64 i, .slice A n c] 53)).heap.size = w.heap.size + 1 := World.size_alloc _ _
  have hl' := Lib.hid hl
  rw [hl] at hn
  clear h hx hl
  go_enter Try.func40, Try.ntmps40
  go_wp2_with fail
  generalize w.alloc (.cells #[.int .i64 s, .int .i64 d, .int .i64 p, .int .i64 t, .int .i64 i, .slice A n c] 53) = w2 at hb01 hp1 hx1 hs1 ⊢
  obtain ⟨B0, hB0⟩ : ∃ B0, B0 = w.heap.size + 1 := ⟨_, rfl⟩
  rw [← hB0] at hs1
  have hg : w.heap.size < B0 := by omega
  have hbL := (Below.refl B0 w2).alloc (by omega) (.cells #[.int .u8 69, .int .u8 0] 5)
  have hoL : (w2.alloc (.cells #[.int .u8 69, .int .u8 0] 5)).ownsRow B0 5 1 (.slice (some ⟨w.heap.size + 1, 0, none⟩) 2 2) 2 (([0x45, 0] : List UInt8).map bv) := by
    have := World.ownsRow_lit (base := B0) (e := 5) (size := 1) w2 #[.int .u8 69, .int .u8 0] 2 (by omega) (by decide) rfl
    rw [hs1, hB0] at this
    rw [hB0]
    exact this
  have hz : B0 ≤ (w2.alloc (.cells #[.int .u8 69, .int .u8 0] 5)).heap.size := by rw [World.size_alloc]; omega
  have K := Lib.hid (big_walk (20 + (n : Int)) 2 (20 + n) 2 rfl rfl (by omega) (by omega) (w2.alloc (.cells #[.int .u8 69, .int .u8 0] 5)))
  (with_reducible refine K.out.mono ?_)
  rintro e w3 ⟨C1, q1, rfl, hownB, hbB⟩
  have HO := Lib.hid (own_below hoL hbB)
  have HR := Lib.hid (Reads.of_own hownB)
  have HB := Lib.hid (hbL.trans (hbB.mono hz))
  have hsz := HB.out.size
  have hsz' : B0 ≤ w3.heap.size := by omega
  clear K hownB hbB hoL hbL hz
  go_wp2_with (at_builtin; refine wpList_append_bytes B0 HB.out rfl _ _ 24 rfl B0 5 Try.underlying24 info_u8 _ _ [0x45, 0] (by exact rfl) HO.out C1 2 q1 (big 2 (20 + n)) (big_length _ _) (by exact rfl) HR.out (by omega) hsz' (Nat.le_refl _) ?_; intro A4 p4 w4 hown4 hb4; obtain ⟨c0, c1, c2, c3, c4, c5⟩ := hp1.below hb4 hg)
  have hq4 : B0 ≤ w4.heap.size := by have := hb4.size; omega
  have K := Lib.hid (big_walk (i : Int) 2 i 2 rfl rfl (by omega) (by omega) w4)
  (with_reducible refine K.out.mono ?_)
  rintro e v4 ⟨C4, q4, rfl, hownB, hbB⟩
  have HO4 := Lib.hid (own_below hown4 hbB)
  have HR4 := Lib.hid (Reads.of_own hownB)
  have HB4 := Lib.hid (hb4.trans (hbB.mono hq4))
  have hsz4 : B0 ≤ v4.heap.size := by have := HB4.out.size; omega
  clear K hownB hbB hown4 hb4 c0 c1 c2 c3 c4 c5
  go_wp2_with (first
    | (at_builtin; refine wpList_append_bytes B0 HB4.out rfl _ _ 24 rfl B0 5 Try.underlying24 info_u8 _ _ ([0x45, 0] ++ big 2 (20 + n)) (by exact rfl) HO4.out C4 2 q4 (big 2 i) (big_length _ _) (by exact rfl) HR4.out (by omega) hsz4 (Nat.le_refl _) ?_; intro A5 p5 w5 hown5 hb5; obtain ⟨c0, c1, c2, c3, c4, c5⟩ := hp1.below hb5 hg; have hz5 : B0 ≤ w5.heap.size := (by have := hb5.size; omega); have HOL := Lib.hid (own_below hown5 ((Below.refl w5.heap.size w5).alloc (Nat.le_refl _) (.cells #[.int .u8 64, .int .u8 0, .int .u8 (t : Int), .int .u8 (p : Int), .int .u8 0, .int .u8 0] 5))); have HRL := Lib.hid (RB.lit w5 5 #[.int .u8 64, .int .u8 0, .int .u8 (t : Int), .int .u8 (p : Int), .int .u8 0, .int .u8 0] (0, 0) [0x40, 0, UInt8.ofNat t, UInt8.ofNat p, 0, 0] (lit6 t p (by omega) (by omega))); have HBL := Lib.hid (hb5.alloc hz5 (.cells #[.int .u8 64, .int .u8 0, .int .u8 (t : Int), .int .u8 (p : Int), .int .u8 0, .int .u8 0] 5)); clear hown5 hb5)
    | (at_builtin; refine wpList_append_bytes B0 HBL.out rfl _ _ 24 rfl B0 5 Try.underlying24 info_u8 _ _ ([0x45, 0] ++ big 2 (20 + n) ++ big 2 i) (by exact rfl) HOL.out (some ⟨w5.heap.size, 0, none⟩) 6 6 [0x40, 0, UInt8.ofNat t, UInt8.ofNat p, 0, 0] rfl (by exact rfl) HRL.out (by omega) (by simp; omega) (Nat.le_refl _) ?_; intro A6 p6 w6 hown6 hb6; clear c0 c1 c2 c3 c4 c5 HOL HRL HBL; obtain ⟨c0, c1, c2, c3, c4, c5⟩ := hp1.below hb6 hg))
  have hq6 : B0 ≤ w6.heap.size := by have := hb6.size; omega
  have K := Lib.hid (big_walk (s : Int) 4 s 4 rfl rfl (by omega) (by omega) w6)
  (with_reducible refine K.out.mono ?_)
  rintro e v6 ⟨C6, q6, rfl, hownB, hbB⟩
  have HO6 := Lib.hid (own_below hown6 hbB)
  have HR6 := Lib.hid (Reads.of_own hownB)
  have HB6 := Lib.hid (hb6.trans (hbB.mono hq6))
  have hsz6 : B0 ≤ v6.heap.size := by have := HB6.out.size; omega
  clear K hownB hbB hown6 hb6 c0 c1 c2 c3 c4 c5
  go_wp2_with (at_builtin; refine wpList_append_bytes B0 HB6.out rfl _ _ 24 rfl B0 5 Try.underlying24 info_u8 _ _ ([0x45, 0] ++ big 2 (20 + n) ++ big 2 i ++ [0x40, 0, UInt8.ofNat t, UInt8.ofNat p, 0, 0]) (by exact rfl) HO6.out C6 4 q6 (big 4 s) (big_length _ _) (by exact rfl) HR6.out (by omega) hsz6 (Nat.le_refl _) ?_; intro A7 p7 w7 hown7 hb7; obtain ⟨c0, c1, c2, c3, c4, c5⟩ := hp1.below hb7 hg)
  have hq7 : B0 ≤ w7.heap.size := by have := hb7.size; omega
  have K := Lib.hid (big_walk (d : Int) 4 d 4 rfl rfl (by omega) (by omega) w7)
  (with_reducible refine K.out.mono ?_)
  rintro e v7 ⟨C7, q7, rfl, hownB, hbB⟩
  have HO7 := Lib.hid (own_below hown7 hbB)
  have HR7 := Lib.hid (Reads.of_own hownB)
  have HB7 := Lib.hid (hb7.trans (hbB.mono hq7))
  have hsz7 : B0 ≤ v7.heap.size := by have := HB7.out.size; omega
  clear K hownB hbB hown7 hb7 c0 c1 c2 c3 c4 c5
  go_wp2_with (at_builtin; refine wpList_append_bytes B0 HB7.out rfl _ _ 24 rfl B0 5 Try.underlying24 info_u8 _ _ ([0x45, 0] ++ big 2 (20 + n) ++ big 2 i ++ [0x40, 0, UInt8.ofNat t, UInt8.ofNat p, 0, 0] ++ big 4 s) (by exact rfl) HO7.out C7 4 q7 (big 4 d) (big_length _ _) (by exact rfl) HR7.out (by omega) hsz7 (Nat.le_refl _) ?_; intro A8 p8 w8 hown8 hb8; obtain ⟨c0, c1, c2, c3, c4, c5⟩ := hp1.below hb8 hg)
  have hown8' : w8.ownsRow B0 5 1 (.slice A8 20 p8) 20 ((ipHead0 s d p t i n).map bv) := hown8
  have hsz8 : B0 ≤ w8.heap.size := by have := hb8.size; omega
  clear hown8 c0 c1 c2 c3 c4 c5
  obtain ⟨g, rfl, hg8, hg2⟩ := own_form hown8' (by omega)
  obtain ⟨hl8, hr8⟩ := own_read hown8'
  have hpc : 20 ≤ p8 := by
    obtain ⟨_, _, hA, h, _⟩ := own_shape hown8'
    injection hA with _ _ h2
    omega
  have hcl := Sm.check_le (ipHead0 s d p t i n)
  have HH := Lib.hid (show ((ipHead0 s d p t i n).set 10 (UInt8.ofNat (Sm.check (ipHead0 s d p t i n) / 256))).set (10 + 1) (UInt8.ofNat (Sm.check (ipHead0 s d p t i n))) = ipHead s d p t i n from rfl)
  have HO8 := Lib.hid hown8'
  have HB8 := Lib.hid hb8
  have K1 := Lib.hid (refCheck (ipHead0 s d p t i n) 20 hl8 (some ⟨g, 0, none⟩) p8 w8.drew hr8 (by omega))
  have hl8' := Lib.hid hl8
  generalize ipHead0 s d p t i n = zs at HH HO8 K1 hcl hl8'
  have K2 := Lib.hid (fun w : World => big_walk ((Sm.check zs : Nat) : Int) 2 (Sm.check zs) 2 rfl rfl (by omega) (by omega) w)
  have hc2 : ¬ p8 = 10 := by omega
  clear hown8' hb8 hl8 hr8
  go_region_law (first
    | (go_simp; go_at_call 27; (with_reducible refine K1.out.mono ?_); rintro e w' ⟨rfl, rfl⟩)
    | (go_simp; go_at_call 59; (with_reducible refine (K2.out _).mono ?_); rintro e w9 ⟨C9, q9, rfl, hown9, hb9⟩)
    | (refine step_copy_bytes rfl _ _ _ _ rfl 5 Try.underlying24 size_u8 g 10 (20 - 10) (p8 - 10) C9 2 q9 (by exact rfl) (by exact rfl) B0 20 p8 zs (big 2 (Sm.check zs)) (own_below HO8.out.drew hb9) (Reads.of_own hown9) rfl (by simp [big]) (by simp [big]) (by simp [big]) ?_; intro w10 hown10 O10))
  all_goals
    have hb10 := Lib.hid (O10.below _ _ ((HB8.out.drew).trans (hb9.mono hsz8)) hg8)
    have HO10 : Hid (w10.ownsRow B0 5 1 (.slice (some ⟨g, 0, none⟩) 20 p8) 20 ((ipHead s d p t i n).map bv)) := by
      unfold Hid
      have e := hown10
      rw [big_length, big2, splice_at zs 10 _ _ (by rw [hl8'.out]; omega), HH.out] at e
      exact e
    obtain ⟨c0, c1, c2, c3, c4, c5⟩ := hp1.below hb10.out hg
    have hx10 := Lib.hid (hx1.next (hs1.symm ▸ hb10.out))
    have hs10 : B0 ≤ w10.heap.size := by have := hb10.out.size; omega
    clear hown10 O10 hown9 hb9 K1 K2
    go_wp2_with (at_builtin; refine wpList_append_bytes B0 hb10.out rfl _ _ 24 rfl B0 5 Try.underlying24 info_u8 _ _ _ (by exact rfl) HO10.out A n c xs hl'.out (by exact rfl) hx10.out (by omega) hs10 (Nat.le_refl _) ?_; intro A11 p11 w11 hown11 hb11)
    go_ret
    exact ⟨A11, p11, rfl, own_base hown11 (by omega), hb01.trans (hb11.mono (by omega))⟩

end Go.Proofs.Ytjdokaiadljeeaa
