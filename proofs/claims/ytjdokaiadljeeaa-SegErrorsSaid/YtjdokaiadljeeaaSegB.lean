/-
  The walk of seg.Bytes.
-/
import Derived.Test.YtjdokaiadljeeaaSegA
namespace Go.Proofs.Ytjdokaiadljeeaa
open Go.RowKit

theorem lit2 (t : Nat) (ht : t ≤ 255) : (#[Value.int .u8 80, .int .u8 (t : Int)] : Array Value).toList = ([0x50, UInt8.ofNat t] : List UInt8).map bv := by
  simp only [List.map, bv, byte_n t ht]
  rfl
theorem u8_in (n : Nat) (h : n ≤ 255) : IntKind.u8.wrap (n : Int) = (n : Int) := by
  rw [IntKind.wrap_u8]; omega

theorem segMayV (sp dp sq ak fl wn : Int) (xs : List UInt8) (n : Nat) (hl : xs.length = n) (A : Option Addr) (c : Nat) (b : Bool) (h : Sg.ok ⟨sp, dp, sq, ak, fl, wn, xs⟩ = b) (w : World) :
    Calls Try.prog 65 #[.agg #[.int .i64 sp, .int .i64 dp, .int .i64 sq, .int .i64 ak, .int .i64 fl, .int .i64 wn, .slice A n c]] w fun e w' => e = .returned (.bool b) ∧ Below w.heap.size w w' := by
  subst h hl
  exact segMay sp dp sq ak fl wn xs.length c A _ _ _ _ _ _ rfl rfl rfl rfl rfl rfl w
theorem refSegV (sp dp sq ak fl wn : Int) (xs : List UInt8) (n : Nat) (hl : xs.length = n) (A : Option Addr) (c : Nat) (b : Bool) (h : Sg.ok ⟨sp, dp, sq, ak, fl, wn, xs⟩ = b) (w : World) :
    Calls Try.prog 49 #[.agg #[.int .i64 sp, .int .i64 dp, .int .i64 sq, .int .i64 ak, .int .i64 fl, .int .i64 wn, .slice A n c]] w fun e w' => e = .returned (.bool b) ∧ Below w.heap.size w w' := by
  subst h hl
  exact refSeg sp dp sq ak fl wn xs.length c A _ _ _ _ _ _ rfl rfl rfl rfl rfl rfl w
theorem segIPV (n : Int) (b : Bool) (h : wordB n = b) (w : World) : Calls Try.prog 66 #[.int .i64 n] w fun e w' => e = .returned (.bool b) ∧ w = w' := by
  subst h
  exact segIP n w

set_option maxRecDepth 100000 in
set_option maxHeartbeats 1600000 in
theorem segBytes_no (src dst sp dp sq ak fl wn : Int) (xs : List UInt8) (n : Nat) (hl : xs.length = n) (A : Option Addr) (c : Nat) (bo bs bd : Bool) (ho : Sg.ok ⟨sp, dp, sq, ak, fl, wn, xs⟩ = bo) (hs : wordB src = bs) (hd : wordB dst = bd) (h : (bo && (bs && bd)) = false) (w : World) :
    Calls Try.prog 48 #[.int .i64 src, .int .i64 dst, .agg #[.int .i64 sp, .int .i64 dp, .int .i64 sq, .int .i64 ak, .int .i64 fl, .int .i64 wn, .slice A n c]] w fun e w' => e = .returned (.tuple #[.slice none 0 0, .int .i64 1]) ∧ Below w.heap.size w w' := by
  have hb01 := Lib.hid (balloc w (.cells #[.int .i64 sp, .int .i64 dp, .int .i64 sq, .int .i64 ak, .int .i64 fl, .int .i64 wn, .slice A n c] 71))
  have KM := Lib.hid (fun w => segMayV sp dp sq ak fl wn xs n hl A c bo ho w)
  have K1 := Lib.hid (fun w => segIPV src bs hs w)
  have K2 := Lib.hid (fun w => segIPV dst bd hd w)
  clear ho hs hd hl
  have hc : bo = false ∨ (bo = true ∧ bs = false) ∨ (bo = true ∧ bs = true ∧ bd = false) := by
    cases bo <;> cases bs <;> cases bd <;> simp at h ⊢
  clear h
  rcases hc with rfl | ⟨rfl, rfl⟩ | ⟨rfl, rfl, rfl⟩
  all_goals
    go_enter Try.func48, Try.ntmps48
    go_wp2_with fail
    (with_reducible refine (KM.out _).mono ?_)
    rintro e w' ⟨rfl, hb⟩
    have hbb := Lib.hid (hb01.out.trans (hb.mono hb01.out.size))
    clear hb KM
    go_wp2_with (first
      | (go_at_call 66; (with_reducible refine (K1.out _).mono ?_); rintro e w' ⟨rfl, rfl⟩; clear K1)
      | (go_at_call 66; (with_reducible refine (K2.out _).mono ?_); rintro e w' ⟨rfl, rfl⟩; clear K2))
    go_ret2
    exact ⟨rfl, hbb.out⟩

set_option maxRecDepth 100000 in
set_option maxHeartbeats 3200000 in
theorem segBytes (src dst sp dp sq ak fl wn : Nat) (xs : List UInt8) (n : Nat) (hl : xs.length = n) (A : Option Addr) (c : Nat) (h : Sg.ok ⟨sp, dp, sq, ak, fl, wn, xs⟩ = true) (hs : src < 4294967296) (hd : dst < 4294967296) (w : World) (hx : RB w w.heap.size A xs) :
    Calls Try.prog 48 #[.int .i64 src, .int .i64 dst, .agg #[.int .i64 sp, .int .i64 dp, .int .i64 sq, .int .i64 ak, .int .i64 fl, .int .i64 wn, .slice A n c]] w fun e w' => ∃ A' c', e = .returned (.tuple #[.slice A' (20 + n) c', .int .i64 0]) ∧ w'.ownsRow w.heap.size 5 1 (.slice A' (20 + n) c') (20 + n) ((sgBytes src dst sp dp sq ak fl wn xs).map bv) ∧ Below w.heap.size w w' := by
  obtain ⟨⟨_, h1⟩, ⟨_, h2⟩, ⟨_, h3⟩, ⟨_, h4⟩, ⟨_, h5⟩, ⟨_, h6⟩, hn⟩ := Sg.ok_iff.1 h
  simp only at h1 h2 h3 h4 h5 h6 hn
  have hb01 := Lib.hid (balloc w (.cells #[.int .i64 sp, .int .i64 dp, .int .i64 sq, .int .i64 ak, .int .i64 fl, .int .i64 wn, .slice A n c] 71))
  have hp1 := Lib.hid (SgAt.box w (.int .i64 sp) (.int .i64 dp) (.int .i64 sq) (.int .i64 ak) (.int .i64 fl) (.int .i64 wn) (.slice A n c) 71)
  have hx1 := Lib.hid (hx.next hb01.out)
  have hs1 : (w.alloc (.cells #[.int .i64 sp, .int .i64 dp, .int .i64 sq, .int .i64 ak, .int .i64 fl, .int .i64 wn, .slice A n c] 71)).heap.size = w.heap.size + 1 := World.size_alloc _ _
  have KM := Lib.hid (segMayV sp dp sq ak fl wn xs n hl A c _ h (w.alloc (.cells #[.int .i64 sp, .int .i64 dp, .int .i64 sq, .int .i64 ak, .int .i64 fl, .int .i64 wn, .slice A n c] 71)))
  have KI1 := Lib.hid (fun w => segIPV (src : Int) true (word_nat src hs) w)
  have KI2 := Lib.hid (fun w => segIPV (dst : Int) true (word_nat dst hd) w)
  have hl' := Lib.hid hl
  rw [hl] at hn
  clear h hx hl
  go_enter Try.func48, Try.ntmps48
  go_wp2_with fail
  (with_reducible refine KM.out.mono ?_)
  rintro e w2 ⟨rfl, hb12⟩
  clear KM
  generalize w.alloc (.cells #[.int .i64 sp, .int .i64 dp, .int .i64 sq, .int .i64 ak, .int .i64 fl, .int .i64 wn, .slice A n c] 71) = w1 at hb01 hp1 hx1 hs1 hb12
  have hp2 := Lib.hid (hp1.out.below hb12 (by omega))
  have hx2 := Lib.hid (hx1.out.next hb12)
  have hb02 := Lib.hid (hb01.out.trans (hb12.mono hb01.out.size))
  have hs2 : w.heap.size < w2.heap.size := by have := hb12.size; omega
  clear hp1 hx1 hb12 hb01 hs1
  go_wp2_with fail
  (with_reducible refine (KI1.out _).mono ?_)
  rintro e w' ⟨rfl, rfl⟩
  go_wp2_with fail
  (with_reducible refine (KI2.out _).mono ?_)
  rintro e w' ⟨rfl, rfl⟩
  clear KI1 KI2
  obtain ⟨c0, c1, c2, c3, c4, c5, c6⟩ := hp2.out
  go_wp2_with fail
  have K1 := Lib.hid (sumPut w2.heap.size w2.heap.size w2 [] 0 rfl none 0 2 (sp : Int) 2 sp rfl rfl (by omega) (by omega) w2.drew (World.ownsRow_nil _ _ _ _) (Below.refl _ _).drew (Nat.le_refl _) (Nat.le_refl _) (by omega))
  go_region_held3 (fun w' => w'.cell? ⟨w.heap.size, 0, none⟩ = some (.int .i64 sp) ∧ w'.cell? ⟨w.heap.size, 1, none⟩ = some (.int .i64 dp) ∧ w'.cell? ⟨w.heap.size, 2, none⟩ = some (.int .i64 sq) ∧ w'.cell? ⟨w.heap.size, 3, none⟩ = some (.int .i64 ak) ∧ w'.cell? ⟨w.heap.size, 4, none⟩ = some (.int .i64 fl) ∧ w'.cell? ⟨w.heap.size, 5, none⟩ = some (.int .i64 wn) ∧ w'.cell? ⟨w.heap.size, 6, none⟩ = some (.slice A n c)) (go_keep)
    (first
      | (go_at_call 61; (with_reducible refine K1.out.mono ?_); rintro e w3 ⟨A3, p3, rfl, hown3, hb3, hs3⟩; obtain ⟨d0, d1, d2, d3, d4, d5, d6⟩ := hp2.out.below hb3 hs2)
      | (go_at_call 61; (with_reducible refine (sumPut w2.heap.size w2.heap.size w2 ([] ++ big 2 sp) 2 rfl A3 p3 2 (dp : Int) 2 dp rfl rfl (by omega) (by omega) w3 hown3 hb3 (Nat.le_refl _) hs3 (by omega)).mono ?_); rintro e w4 ⟨A4, p4, rfl, hown4, hb4, hs4⟩; obtain ⟨e0, e1, e2, e3, e4, e5, e6⟩ := hp2.out.below hb4 hs2))
  clear K1 c0 c1 c2 c3 c4 c5 c6 d0 d1 d2 d3 d4 d5 d6 hown3 hb3 hs3
  have HO4 := Lib.hid hown4
  have HB4 := Lib.hid hb4
  clear hown4 hb4
  go_wp2_with fail
  have K1 := Lib.hid (sumPut w2.heap.size w2.heap.size w2 ([] ++ big 2 sp ++ big 2 dp) 4 rfl A4 p4 4 (sq : Int) 4 sq rfl rfl (by omega) (by omega) w4.drew HO4.out.drew HB4.out.drew (Nat.le_refl _) hs4 (by omega))
  go_region_held3 (fun w' => w'.cell? ⟨w.heap.size, 0, none⟩ = some (.int .i64 sp) ∧ w'.cell? ⟨w.heap.size, 1, none⟩ = some (.int .i64 dp) ∧ w'.cell? ⟨w.heap.size, 2, none⟩ = some (.int .i64 sq) ∧ w'.cell? ⟨w.heap.size, 3, none⟩ = some (.int .i64 ak) ∧ w'.cell? ⟨w.heap.size, 4, none⟩ = some (.int .i64 fl) ∧ w'.cell? ⟨w.heap.size, 5, none⟩ = some (.int .i64 wn) ∧ w'.cell? ⟨w.heap.size, 6, none⟩ = some (.slice A n c)) (go_keep)
    (first
      | (go_at_call 61; (with_reducible refine K1.out.mono ?_); rintro e w5 ⟨A5, p5, rfl, hown5, hb5, hs5⟩; obtain ⟨d0, d1, d2, d3, d4, d5, d6⟩ := hp2.out.below hb5 hs2)
      | (go_at_call 61; (with_reducible refine (sumPut w2.heap.size w2.heap.size w2 ([] ++ big 2 sp ++ big 2 dp ++ big 4 sq) 8 rfl A5 p5 4 (ak : Int) 4 ak rfl rfl (by omega) (by omega) w5 hown5 hb5 (Nat.le_refl _) hs5 (by omega)).mono ?_); rintro e w6 ⟨A6, p6, rfl, hown6, hb6, hs6⟩; obtain ⟨c0, c1, c2, c3, c4, c5, c6⟩ := hp2.out.below hb6 hs2))
  clear K1 d0 d1 d2 d3 d4 d5 d6 e0 e1 e2 e3 e4 e5 e6 hown5 hb5 hs5 HO4 HB4 hs4
  have HO6 := Lib.hid hown6
  have HB6 := Lib.hid hb6
  clear hown6 hb6
  have hflb : (fl : Int) ≤ 255 := by omega
  have hfl256 : (fl : Int) < 256 := by omega
  have HOL := Lib.hid (own_below HO6.out.drew (balloc w6.drew (.cells #[.int .u8 80, .int .u8 (fl : Int)] 5)))
  have HRL := Lib.hid (RB.lit w6.drew 5 #[.int .u8 80, .int .u8 (fl : Int)] (0, 0) [0x50, UInt8.ofNat fl] (lit2 fl (by omega)))
  have HBL := Lib.hid (HB6.out.drew.alloc hs6 (.cells #[.int .u8 80, .int .u8 (fl : Int)] 5))
  have wfl : IntKind.u8.wrap (fl : Int) = (fl : Int) := u8_in fl (by omega)
  go_wp2_with fail
  go_region_held3 (fun w' => w'.cell? ⟨w.heap.size, 0, none⟩ = some (.int .i64 sp) ∧ w'.cell? ⟨w.heap.size, 1, none⟩ = some (.int .i64 dp) ∧ w'.cell? ⟨w.heap.size, 2, none⟩ = some (.int .i64 sq) ∧ w'.cell? ⟨w.heap.size, 3, none⟩ = some (.int .i64 ak) ∧ w'.cell? ⟨w.heap.size, 4, none⟩ = some (.int .i64 fl) ∧ w'.cell? ⟨w.heap.size, 5, none⟩ = some (.int .i64 wn) ∧ w'.cell? ⟨w.heap.size, 6, none⟩ = some (.slice A n c)) (go_keep)
    (first
      | (refine step_append_bytes rfl _ _ 24 rfl w2.heap.size 5 Try.underlying24 info_u8 _ _ ([] ++ big 2 sp ++ big 2 dp ++ big 4 sq ++ big 4 ak) (by exact rfl) HOL.out (some ⟨w6.heap.size, 0, none⟩) 2 2 [0x50, UInt8.ofNat fl] rfl (by exact rfl) HRL.out (by omega) HBL.out.size ?_; intro A7 p7 w7 hown7 hb7 hg7; have hb27 := Lib.hid (HBL.out.trans hb7); have hs7 : w2.heap.size ≤ w7.heap.size := hb27.out.size; obtain ⟨d0, d1, d2, d3, d4, d5, d6⟩ := hp2.out.below hb27.out hs2)
      | (go_at_call 61; (with_reducible refine (sumPut w2.heap.size w2.heap.size w2 ([] ++ big 2 sp ++ big 2 dp ++ big 4 sq ++ big 4 ak ++ [0x50, UInt8.ofNat fl]) 14 rfl A7 p7 2 (wn : Int) 2 wn rfl rfl (by omega) (by omega) w7 hown7 hb27.out (Nat.le_refl _) hs7 (by omega)).mono ?_); rintro e w8 ⟨A8, p8, rfl, hown8, hb8, hs8⟩; obtain ⟨e0, e1, e2, e3, e4, e5, e6⟩ := hp2.out.below hb8 hs2))
  clear c0 c1 c2 c3 c4 c5 c6 d0 d1 d2 d3 d4 d5 d6 hown7 hb7 hg7 hb27 hs7 HO6 HB6 hs6 HOL HRL HBL
  have HO8 := Lib.hid hown8
  have HB8 := Lib.hid hb8
  clear hown8 hb8
  have HOL := Lib.hid (own_below HO8.out.drew (balloc w8.drew (.cells #[.int .u8 0, .int .u8 0, .int .u8 0, .int .u8 0] 5)))
  have HRL := Lib.hid (RB.lit w8.drew 5 #[.int .u8 0, .int .u8 0, .int .u8 0, .int .u8 0] (0, 0) [0, 0, 0, 0] rfl)
  have HBL := Lib.hid (HB8.out.drew.alloc hs8 (.cells #[.int .u8 0, .int .u8 0, .int .u8 0, .int .u8 0] 5))
  go_wp2_with fail
  go_region_held3 (fun w' => w'.cell? ⟨w.heap.size, 0, none⟩ = some (.int .i64 sp) ∧ w'.cell? ⟨w.heap.size, 1, none⟩ = some (.int .i64 dp) ∧ w'.cell? ⟨w.heap.size, 2, none⟩ = some (.int .i64 sq) ∧ w'.cell? ⟨w.heap.size, 3, none⟩ = some (.int .i64 ak) ∧ w'.cell? ⟨w.heap.size, 4, none⟩ = some (.int .i64 fl) ∧ w'.cell? ⟨w.heap.size, 5, none⟩ = some (.int .i64 wn) ∧ w'.cell? ⟨w.heap.size, 6, none⟩ = some (.slice A n c)) (go_keep)
    (first
      | (refine step_append_bytes rfl _ _ 24 rfl w2.heap.size 5 Try.underlying24 info_u8 _ _ ([] ++ big 2 sp ++ big 2 dp ++ big 4 sq ++ big 4 ak ++ [0x50, UInt8.ofNat fl] ++ big 2 wn) (by exact rfl) HOL.out (some ⟨w8.heap.size, 0, none⟩) 4 4 [0, 0, 0, 0] rfl (by exact rfl) HRL.out (by omega) HBL.out.size ?_; intro A9 p9 w9 hown9 hb9 hg9; have hb29 := Lib.hid (HBL.out.trans hb9); have hs9 : w2.heap.size ≤ w9.heap.size := hb29.out.size; have hx9 := Lib.hid (hx2.out.next hb29.out); obtain ⟨d0, d1, d2, d3, d4, d5, d6⟩ := hp2.out.below hb29.out hs2)
      | (refine step_append_bytes rfl _ _ 24 rfl w2.heap.size 5 Try.underlying24 info_u8 _ _ ([] ++ big 2 sp ++ big 2 dp ++ big 4 sq ++ big 4 ak ++ [0x50, UInt8.ofNat fl] ++ big 2 wn ++ [0, 0, 0, 0]) (by exact rfl) hown9 A n c xs hl'.out (by exact rfl) hx9.out (by omega) hs9 ?_; intro A10 p10 w10 hown10 hb10 hg10; have hb210 := Lib.hid (hb29.out.trans hb10); have hs10 : w2.heap.size ≤ w10.heap.size := hb210.out.size; obtain ⟨c0, c1, c2, c3, c4, c5, c6⟩ := hp2.out.below hb210.out hs2))
  clear c0 c1 c2 c3 c4 c5 c6 d0 d1 d2 d3 d4 d5 d6 e0 e1 e2 e3 e4 e5 e6 hown9 hb9 hg9 hb29 hs9 HO8 HB8 hs8 HOL HRL HBL hb10 hg10
  have hown : w10.ownsRow w2.heap.size 5 1 (.slice A10 (20 + n) p10) (20 + n) ((sgHead0 sp dp sq ak fl wn ++ xs).map bv) := hown10
  have hlz : (sgHead0 sp dp sq ak fl wn ++ xs).length = 20 + n := by rw [List.length_append, sgHead0_length, hl'.out]
  clear hown10
  obtain ⟨g, rfl, hg, hg2⟩ := own_form hown (by omega)
  have hcl := segSum_le src dst (sgHead0 sp dp sq ak fl wn ++ xs)
  have HH := Lib.hid (show sgPut (sgHead0 sp dp sq ak fl wn ++ xs) (segSum src dst (sgHead0 sp dp sq ak fl wn ++ xs)) = sgBytes src dst sp dp sq ak fl wn xs from rfl)
  have K3 := Lib.hid (segCheck src dst hs hd (sgHead0 sp dp sq ak fl wn ++ xs) (20 + n) hlz (some ⟨g, 0, none⟩) p10 w10 (RB.of_ownN hown) (by omega))
  generalize segSum src dst (sgHead0 sp dp sq ak fl wn ++ xs) = z at hcl HH K3
  have HO := Lib.hid hown
  clear hown hlz
  go_wp2_with fail
  (with_reducible refine K3.out.mono ?_)
  rintro e w11 ⟨rfl, hb11⟩
  have HO11 := Lib.hid (own_below HO.out hb11)
  have K4 := Lib.hid (sumSet g (20 + n) p10 w2.heap.size (sgHead0 sp dp sq ak fl wn ++ xs) 16 z 16 z rfl rfl w11 HO11.out (by omega) hcl (by omega))
  have hb211 := Lib.hid (hb210.out.trans (hb11.mono hs10))
  clear K3 hb11
  go_wp2_with fail
  (with_reducible refine K4.out.mono ?_)
  rintro e w12 ⟨rfl, hown12, hO⟩
  have hb12 := Lib.hid (hO.below _ _ hb211.out hg)
  have HO12 := Lib.hid hown12
  clear K4 hown12 hO
  go_wp2
  go_ret2
  refine ⟨some ⟨g, 0, none⟩, p10, rfl, ?_, hb02.out.trans (hb12.out.mono hb02.out.size)⟩
  rw [← HH.out]
  exact own_base HO12.out hb02.out.size

end Go.Proofs.Ytjdokaiadljeeaa
