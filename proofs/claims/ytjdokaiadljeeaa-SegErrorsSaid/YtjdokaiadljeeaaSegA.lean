/-
  The sum of a segment between two addresses: seg.ahead, seg.check, the document's head.
-/
import Derived.Test.YtjdokaiadljeeaaSegW
namespace Go.Proofs.Ytjdokaiadljeeaa
open Go.RowKit

theorem sumAddN (s : Nat) (sI : Int) (hse : sI = (s : Int)) (hs : s ≤ 65535) (xs : List UInt8) (n : Nat) (hl : xs.length = n) (A : Option Addr) (c : Nat) (w : World) (hx : RB w w.heap.size A xs) (hn : n ≤ 1099511627776) :
    Calls Try.prog 24 #[.int .i64 sI, .slice A n c] w fun e w' => e = .returned (.int .i64 ((Sm.add s xs : Nat) : Int)) ∧ w = w' := by
  subst hse hl
  exact sumAdd s hs xs A c w hx hn
theorem refAddN (s : Nat) (sI : Int) (hse : sI = (s : Int)) (hs : s ≤ 65535) (xs : List UInt8) (n : Nat) (hl : xs.length = n) (A : Option Addr) (c : Nat) (w : World) (hx : RB w w.heap.size A xs) (hn : n ≤ 1099511627776) :
    Calls Try.prog 25 #[.int .i64 sI, .slice A n c] w fun e w' => e = .returned (.int .i64 ((Sm.add s xs : Nat) : Int)) ∧ w = w' := by
  subst hse hl
  exact refAdd s hs xs A c w hx hn
theorem segSum_add (src dst : Nat) (xs : List UInt8) : (65535 : Int) - ((Sm.add (Sm.add 0 (segHd src dst xs.length)) xs : Nat) : Int) = ((segSum src dst xs : Nat) : Int) := by
  unfold segSum
  rw [Sm.add_append _ _ _ (by rw [segHd_length])]
  exact check_int _

set_option maxRecDepth 100000 in
set_option maxHeartbeats 1600000 in
theorem segAhead (src dst n : Nat) (hs : src < 4294967296) (hd : dst < 4294967296) (hn : n < 4294967296) (w : World) :
    Calls Try.prog 72 #[.int .i64 src, .int .i64 dst, .int .i64 n] w fun e w' => e = .returned (.int .i64 ((Sm.add 0 (segHd src dst n) : Nat) : Int)) ∧ Below w.heap.size w w' := by
  have K1 := Lib.hid (sumPut w.heap.size w.heap.size w [] 0 rfl none 0 4 (src : Int) 4 src rfl rfl (by omega) (by omega) w (World.ownsRow_nil _ _ _ _) (Below.refl _ _) (Nat.le_refl _) (Nat.le_refl _) (by omega))
  go_enter Try.func72, Try.ntmps72
  go_wp2_with fail
  (with_reducible refine K1.out.mono ?_)
  rintro e w1 ⟨A1, p1, rfl, hown1, hb1, hs1⟩
  clear K1
  go_wp2_with fail
  ((with_reducible refine (sumPut w.heap.size w.heap.size w ([] ++ big 4 src) 4 rfl A1 p1 4 (dst : Int) 4 dst rfl rfl (by omega) (by omega) w1 hown1 hb1 (Nat.le_refl _) hs1 (by omega)).mono ?_))
  rintro e w2 ⟨A2, p2, rfl, hown2, hb2, hs2⟩
  have hbL' := Lib.hid (hb2.alloc hs2 (.cells #[.int .u8 0, .int .u8 6] 5))
  have hoL := Lib.hid (own_below hown2 (balloc w2 (.cells #[.int .u8 0, .int .u8 6] 5)))
  have hrL := Lib.hid (RB.lit w2 5 #[.int .u8 0, .int .u8 6] (0, 0) [0, 6] rfl)
  clear hown1 hb1 hs1 hown2 hb2
  go_wp2_with (at_builtin; refine wpList_append_bytes w.heap.size hbL'.out rfl _ _ 24 rfl w.heap.size 5 Try.underlying24 info_u8 _ _ ([] ++ big 4 src ++ big 4 dst) (by exact rfl) hoL.out (some ⟨w2.heap.size, 0, none⟩) 2 2 [0, 6] rfl (by exact rfl) hrL.out (by omega) (by simp; omega) (Nat.le_refl _) ?_; intro A6 p6 w6 hown6 hb6)
  have hs6 : w.heap.size ≤ w6.heap.size := hb6.size
  ((with_reducible refine (sumPut w.heap.size w.heap.size w ([] ++ big 4 src ++ big 4 dst ++ [0, 6]) 10 rfl A6 p6 2 (n : Int) 2 n rfl rfl (by omega) (by omega) w6 hown6 hb6 (Nat.le_refl _) hs6 (by omega)).mono ?_))
  rintro e w7 ⟨A7, p7, rfl, hown7, hb7, hs7⟩
  have hr7 : Hid (RB w7 w7.heap.size A7 (segHd src dst n)) := Lib.hid (RB.of_ownN hown7)
  have K2 := Lib.hid (sumAddN 0 0 rfl (by omega) (segHd src dst n) 12 (segHd_length _ _ _) A7 p7 w7 hr7.out (by omega))
  clear hown6 hb6 hown7 hoL hrL hbL'
  go_wp2_with fail
  (with_reducible refine K2.out.mono ?_)
  rintro e w' ⟨rfl, rfl⟩
  go_wp2
  go_ret
  exact ⟨rfl, hb7⟩

set_option maxRecDepth 100000 in
set_option maxHeartbeats 1600000 in
theorem segCheck (src dst : Nat) (hs : src < 4294967296) (hd : dst < 4294967296) (xs : List UInt8) (n : Nat) (hl : xs.length = n) (A : Option Addr) (c : Nat) (w : World) (hx : RB w w.heap.size A xs) (hn : n ≤ 1000000) :
    Calls Try.prog 67 #[.int .i64 src, .int .i64 dst, .slice A n c] w fun e w' => e = .returned (.int .i64 ((segSum src dst xs : Nat) : Int)) ∧ Below w.heap.size w w' := by
  have h1 := Sm.add_le 0 (segHd src dst n)
  have h2 := Sm.add_le (Sm.add 0 (segHd src dst n)) xs
  have HF := Lib.hid (segSum_add src dst xs)
  have K1 := Lib.hid (segAhead src dst n hs hd (by omega) w)
  have hx' := Lib.hid hx
  have hl' := Lib.hid hl
  clear hl hx
  go_enter Try.func67, Try.ntmps67
  go_wp2_with fail
  (with_reducible refine K1.out.mono ?_)
  rintro e w1 ⟨rfl, hb1⟩
  have K2 := Lib.hid (sumAddN (Sm.add 0 (segHd src dst n)) _ rfl h1 xs n hl'.out A c w1 (hx'.out.next hb1) (by omega))
  have HF' : Hid ((65535 : Int) - ((Sm.add (Sm.add 0 (segHd src dst n)) xs : Nat) : Int) = ((segSum src dst xs : Nat) : Int)) := by
    have := HF.out; rw [hl'.out] at this; exact this
  generalize Sm.add 0 (segHd src dst n) = a at h1 h2 K2 HF' ⊢
  generalize Sm.add a xs = z at h2 K2 HF'
  go_wp2_with fail
  (with_reducible refine K2.out.mono ?_)
  rintro e w' ⟨rfl, rfl⟩
  go_wp2
  go_ret
  exact ⟨by rw [← HF'.out]; rfl, hb1⟩

set_option maxRecDepth 100000 in
set_option maxHeartbeats 1600000 in
theorem refHead (src dst n : Nat) (hs : src < 4294967296) (hd : dst < 4294967296) (hn : n < 4294967296) (w : World) :
    Calls Try.prog 68 #[.int .i64 src, .int .i64 dst, .int .i64 n] w fun e w' => ∃ A' c', e = .returned (.slice A' 12 c') ∧ w'.ownsRow w.heap.size 5 1 (.slice A' 12 c') 12 ((segHd src dst n).map bv) ∧ Below w.heap.size w w' := by
  go_enter Try.func68, Try.ntmps68
  go_wp2_with fail
  ((with_reducible refine (big_walk (src : Int) 4 src 4 rfl rfl (by omega) (by omega) w).mono ?_))
  rintro e w1 ⟨A1, p1, rfl, hown1, hb1⟩
  go_wp2_with fail
  ((with_reducible refine (big_walk (dst : Int) 4 dst 4 rfl rfl (by omega) (by omega) w1).mono ?_))
  rintro e w2 ⟨A2, p2, rfl, hown2, hb2⟩
  have hb02 := Lib.hid (hb1.trans (hb2.mono hb1.size))
  have HO := Lib.hid (own_below hown1 hb2)
  have HR := Lib.hid (RB.of_ownN hown2)
  have hs2 := hb02.out.size
  clear hown1 hown2 hb1 hb2
  go_wp2_with (first
    | (at_builtin; refine wpList_append_bytes w.heap.size hb02.out rfl _ _ 24 rfl w.heap.size 5 Try.underlying24 info_u8 _ _ (big 4 src) (by exact rfl) HO.out A2 4 p2 (big 4 dst) rfl (by exact rfl) HR.out (by omega) hs2 (Nat.le_refl _) ?_; intro A3 p3 w3 hown3 hb3; have hz3 : w.heap.size ≤ w3.heap.size := hb3.size; have HOL := Lib.hid (own_below hown3 (balloc w3 (.cells #[.int .u8 0, .int .u8 6] 5))); have HRL := Lib.hid (RB.lit w3 5 #[.int .u8 0, .int .u8 6] (0, 0) [0, 6] rfl); have HBL := Lib.hid (hb3.alloc hz3 (.cells #[.int .u8 0, .int .u8 6] 5)); clear hown3 hb3 HO HR hb02)
    | (at_builtin; refine wpList_append_bytes w.heap.size HBL.out rfl _ _ 24 rfl w.heap.size 5 Try.underlying24 info_u8 _ _ (big 4 src ++ big 4 dst) (by exact rfl) HOL.out (some ⟨w3.heap.size, 0, none⟩) 2 2 [0, 6] rfl (by exact rfl) HRL.out (by omega) (by simp; omega) (Nat.le_refl _) ?_; intro A6 p6 w6 hown6 hb6; clear HOL HRL HBL))
  have hs6 : w.heap.size ≤ w6.heap.size := hb6.size
  ((with_reducible refine (big_walk (n : Int) 2 n 2 rfl rfl (by omega) (by omega) w6).mono ?_))
  rintro e w7 ⟨A7, p7, rfl, hown7, hb7⟩
  have hb07 := Lib.hid (hb6.trans (hb7.mono hs6))
  have hs7 := hb07.out.size
  have HO7 := Lib.hid (own_below hown6 hb7)
  have HR7 := Lib.hid (RB.of_ownN hown7)
  clear hown6 hown7 hb6 hb7
  go_wp2_with (at_builtin; refine wpList_append_bytes w.heap.size hb07.out rfl _ _ 24 rfl w.heap.size 5 Try.underlying24 info_u8 _ _ (big 4 src ++ big 4 dst ++ [0, 6]) (by exact rfl) HO7.out A7 2 p7 (big 2 n) rfl (by exact rfl) HR7.out (by omega) hs7 (Nat.le_refl _) ?_; intro A8 p8 w8 hown8 hb8)
  go_ret
  exact ⟨A8, p8, rfl, hown8, hb8⟩

end Go.Proofs.Ytjdokaiadljeeaa
