/-
  The walk of the document's SegBytes.
-/
import Derived.Test.YtjdokaiadljeeaaSegB
namespace Go.Proofs.Ytjdokaiadljeeaa
open Go.RowKit

theorem refHeadI (src dst n : Nat) (nI : Int) (hne : nI = (n : Int)) (hs : src < 4294967296) (hd : dst < 4294967296) (hn : n < 4294967296) (w : World) :
    Calls Try.prog 68 #[.int .i64 src, .int .i64 dst, .int .i64 nI] w fun e w' => ∃ A' c', e = .returned (.slice A' 12 c') ∧ w'.ownsRow w.heap.size 5 1 (.slice A' 12 c') 12 ((segHd src dst n).map bv) ∧ Below w.heap.size w w' := by
  subst hne
  exact refHead src dst n hs hd hn w

set_option maxRecDepth 100000 in
set_option maxHeartbeats 3200000 in
theorem refSegBytes (src dst sp dp sq ak fl wn : Nat) (xs : List UInt8) (n : Nat) (hl : xs.length = n) (A : Option Addr) (c : Nat) (h : Sg.ok ⟨sp, dp, sq, ak, fl, wn, xs⟩ = true) (hs : src < 4294967296) (hd : dst < 4294967296) (w : World) (hx : RB w w.heap.size A xs) :
    Calls Try.prog 52 #[.int .i64 src, .int .i64 dst, .agg #[.int .i64 sp, .int .i64 dp, .int .i64 sq, .int .i64 ak, .int .i64 fl, .int .i64 wn, .slice A n c]] w fun e w' => ∃ A' c', e = .returned (.slice A' (20 + n) c') ∧ w'.ownsRow w.heap.size 5 1 (.slice A' (20 + n) c') (20 + n) ((sgBytes src dst sp dp sq ak fl wn xs).map bv) ∧ Below w.heap.size w w' := by
  obtain ⟨⟨_, h1⟩, ⟨_, h2⟩, ⟨_, h3⟩, ⟨_, h4⟩, ⟨_, h5⟩, ⟨_, h6⟩, hn⟩ := Sg.ok_iff.1 h
  simp only at h1 h2 h3 h4 h5 h6 hn
  have hb01 := Lib.hid (balloc w (.cells #[.int .i64 sp, .int .i64 dp, .int .i64 sq, .int .i64 ak, .int .i64 fl, .int .i64 wn, .slice A n c] 71))
  have hp1 := Lib.hid (SgAt.box w (.int .i64 sp) (.int .i64 dp) (.int .i64 sq) (.int .i64 ak) (.int .i64 fl) (.int .i64 wn) (.slice A n c) 71)
  have hx1 := Lib.hid (hx.next hb01.out)
  have hs1 : w.heap.size < (w.alloc (.cells #[.int .i64 sp, .int .i64 dp, .int .i64 sq, .int .i64 ak, .int .i64 fl, .int .i64 wn, .slice A n c] 71)).heap.size := lt_alloc _ _
  have hl' := Lib.hid hl
  have hflb : (fl : Int) ≤ 255 := by omega
  have wfl : IntKind.u8.wrap (fl : Int) = (fl : Int) := u8_in fl (by omega)
  rw [hl] at hn
  clear h hx hl
  go_enter Try.func52, Try.ntmps52
  go_wp2_with fail
  obtain ⟨c0, c1, c2, c3, c4, c5, c6⟩ := hp1.out
  generalize w.alloc (.cells #[.int .i64 sp, .int .i64 dp, .int .i64 sq, .int .i64 ak, .int .i64 fl, .int .i64 wn, .slice A n c] 71) = w1 at hb01 hp1 hx1 hs1 c0 c1 c2 c3 c4 c5 c6 ⊢
  have K1 := Lib.hid (big_walk (sp : Int) 2 sp 2 rfl rfl (by omega) (by omega) w1.drew)
  go_region_held3 (fun w' => w'.cell? ⟨w.heap.size, 0, none⟩ = some (.int .i64 sp) ∧ w'.cell? ⟨w.heap.size, 1, none⟩ = some (.int .i64 dp) ∧ w'.cell? ⟨w.heap.size, 2, none⟩ = some (.int .i64 sq) ∧ w'.cell? ⟨w.heap.size, 3, none⟩ = some (.int .i64 ak) ∧ w'.cell? ⟨w.heap.size, 4, none⟩ = some (.int .i64 fl) ∧ w'.cell? ⟨w.heap.size, 5, none⟩ = some (.int .i64 wn) ∧ w'.cell? ⟨w.heap.size, 6, none⟩ = some (.slice A n c)) (go_keep)
    (first
      | (go_at_call 59; (with_reducible refine K1.out.mono ?_); rintro e w3 ⟨A3, p3, rfl, hown3, hb3⟩; have hb13 := Lib.hid ((Below.refl w1.heap.size w1).drew.trans (hb3.mono (Nat.le_refl _))); have hs3 : w1.heap.size ≤ w3.heap.size := hb13.out.size; obtain ⟨d0, d1, d2, d3, d4, d5, d6⟩ := hp1.out.below hb13.out hs1)
      | (go_at_call 59; (with_reducible refine (big_walk (dp : Int) 2 dp 2 rfl rfl (by omega) (by omega) w3).mono ?_); rintro e w4 ⟨A4, p4, rfl, hown4, hb4⟩; have hb14 := Lib.hid (hb13.out.trans (hb4.mono hs3)); have hs4 : w1.heap.size ≤ w4.heap.size := hb14.out.size; have HO4 := Lib.hid (own_below hown3 hb4); have HR4 := Lib.hid (RB.of_ownN hown4); obtain ⟨e0, e1, e2, e3, e4, e5, e6⟩ := hp1.out.below hb14.out hs1)
      | (refine step_append_bytes rfl _ _ 24 rfl w1.heap.size 5 Try.underlying24 info_u8 _ _ (big 2 sp) (by exact rfl) HO4.out A4 2 p4 (big 2 dp) rfl (by exact rfl) HR4.out (by omega) hs4 ?_; intro A5 p5 w5 hown5 hb5 hg5; have hb15 := Lib.hid (hb14.out.trans hb5); have hs5 : w1.heap.size ≤ w5.heap.size := hb15.out.size; obtain ⟨f0, f1, f2, f3, f4, f5, f6⟩ := hp1.out.below hb15.out hs1))
  clear c0 c1 c2 c3 c4 c5 c6 d0 d1 d2 d3 d4 d5 d6 e0 e1 e2 e3 e4 e5 e6 K1 hown3 hb3 hb13 hs3 hown4 hb4 hb14 hs4 HO4 HR4 hb5 hg5
  go_wp2_with fail
  have K := Lib.hid (big_walk (sq : Int) 4 sq 4 rfl rfl (by omega) (by omega) w5)
  (with_reducible refine K.out.mono ?_)
  rintro e v6 ⟨C6, q6, rfl, hownB, hbB⟩
  have HO6 := Lib.hid (own_below hown5 hbB)
  have HR6 := Lib.hid (RB.of_ownN hownB)
  have HB6 := Lib.hid (hb15.out.trans (hbB.mono hs5))
  have hsz6 : w1.heap.size ≤ v6.heap.size := HB6.out.size
  obtain ⟨c0, c1, c2, c3, c4, c5, c6⟩ := hp1.out.below HB6.out hs1
  clear K hownB hbB hown5 hb15 hs5 f0 f1 f2 f3 f4 f5 f6
  go_wp2_with (at_builtin; refine wpList_append_bytes w1.heap.size HB6.out rfl _ _ 24 rfl w1.heap.size 5 Try.underlying24 info_u8 _ _ (big 2 sp ++ big 2 dp) (by exact rfl) HO6.out C6 4 q6 (big 4 sq) rfl (by exact rfl) HR6.out (by omega) hsz6 (Nat.le_refl _) ?_; intro A7 p7 w7 hown7 hb7; obtain ⟨c0, c1, c2, c3, c4, c5, c6⟩ := hp1.out.below hb7 hs1)
  have hz7 : w1.heap.size ≤ w7.heap.size := hb7.size
  have K := Lib.hid (big_walk (ak : Int) 4 ak 4 rfl rfl (by omega) (by omega) w7)
  (with_reducible refine K.out.mono ?_)
  rintro e v8 ⟨C8, q8, rfl, hownB, hbB⟩
  have HO8 := Lib.hid (own_below hown7 hbB)
  have HR8 := Lib.hid (RB.of_ownN hownB)
  have HB8 := Lib.hid (hb7.trans (hbB.mono hz7))
  have hsz8 : w1.heap.size ≤ v8.heap.size := HB8.out.size
  obtain ⟨c0, c1, c2, c3, c4, c5, c6⟩ := hp1.out.below HB8.out hs1
  clear K hownB hbB hown7 hb7
  go_wp2_with (first
    | (at_builtin; refine wpList_append_bytes w1.heap.size HB8.out rfl _ _ 24 rfl w1.heap.size 5 Try.underlying24 info_u8 _ _ (big 2 sp ++ big 2 dp ++ big 4 sq) (by exact rfl) HO8.out C8 4 q8 (big 4 ak) rfl (by exact rfl) HR8.out (by omega) hsz8 (Nat.le_refl _) ?_; intro A9 p9 w9 hown9 hb9; obtain ⟨c0, c1, c2, c3, c4, c5, c6⟩ := hp1.out.below hb9 hs1; have hz9 : w1.heap.size ≤ w9.heap.size := (hb9).size; have HOL := Lib.hid (own_below hown9 (balloc w9 (.cells #[.int .u8 80, .int .u8 (fl : Int)] 5))); have HRL := Lib.hid (RB.lit w9 5 #[.int .u8 80, .int .u8 (fl : Int)] (0, 0) [0x50, UInt8.ofNat fl] (lit2 fl (by omega))); have HBL := Lib.hid (hb9.alloc hz9 (.cells #[.int .u8 80, .int .u8 (fl : Int)] 5)); clear hown9 hb9)
    | (at_builtin; refine wpList_append_bytes w1.heap.size HBL.out rfl _ _ 24 rfl w1.heap.size 5 Try.underlying24 info_u8 _ _ (big 2 sp ++ big 2 dp ++ big 4 sq ++ big 4 ak) (by exact rfl) HOL.out (some ⟨w9.heap.size, 0, none⟩) 2 2 [0x50, UInt8.ofNat fl] rfl (by exact rfl) HRL.out (by omega) (HBL.out.size) (Nat.le_refl _) ?_; intro A10 p10 w10 hown10 hb10; obtain ⟨c0, c1, c2, c3, c4, c5, c6⟩ := hp1.out.below hb10 hs1))
  have hz10 : w1.heap.size ≤ w10.heap.size := hb10.size
  clear HOL HRL HBL
  have K := Lib.hid (big_walk (wn : Int) 2 wn 2 rfl rfl (by omega) (by omega) w10)
  (with_reducible refine K.out.mono ?_)
  rintro e v11 ⟨C11, q11, rfl, hownB, hbB⟩
  have HO11 := Lib.hid (own_below hown10 hbB)
  have HR11 := Lib.hid (RB.of_ownN hownB)
  have HB11 := Lib.hid (hb10.trans (hbB.mono hz10))
  have hsz11 : w1.heap.size ≤ v11.heap.size := HB11.out.size
  obtain ⟨c0, c1, c2, c3, c4, c5, c6⟩ := hp1.out.below HB11.out hs1
  clear K hownB hbB hown10 hb10
  go_wp2_with (first
    | (at_builtin; refine wpList_append_bytes w1.heap.size HB11.out rfl _ _ 24 rfl w1.heap.size 5 Try.underlying24 info_u8 _ _ (big 2 sp ++ big 2 dp ++ big 4 sq ++ big 4 ak ++ [0x50, UInt8.ofNat fl]) (by exact rfl) HO11.out C11 2 q11 (big 2 wn) rfl (by exact rfl) HR11.out (by omega) hsz11 (Nat.le_refl _) ?_; intro A12 p12 w12 hown12 hb12; obtain ⟨c0, c1, c2, c3, c4, c5, c6⟩ := hp1.out.below hb12 hs1; have hz12 : w1.heap.size ≤ w12.heap.size := (hb12).size; have HOL := Lib.hid (own_below hown12 (balloc w12 (.cells #[.int .u8 0, .int .u8 0, .int .u8 0, .int .u8 0] 5))); have HRL := Lib.hid (RB.lit w12 5 #[.int .u8 0, .int .u8 0, .int .u8 0, .int .u8 0] (0, 0) [0, 0, 0, 0] rfl); have HBL := Lib.hid (hb12.alloc hz12 (.cells #[.int .u8 0, .int .u8 0, .int .u8 0, .int .u8 0] 5)); clear hown12 hb12)
    | (at_builtin; refine wpList_append_bytes w1.heap.size HBL.out rfl _ _ 24 rfl w1.heap.size 5 Try.underlying24 info_u8 _ _ (big 2 sp ++ big 2 dp ++ big 4 sq ++ big 4 ak ++ [0x50, UInt8.ofNat fl] ++ big 2 wn) (by exact rfl) HOL.out (some ⟨w12.heap.size, 0, none⟩) 4 4 [0, 0, 0, 0] rfl (by exact rfl) HRL.out (by omega) (HBL.out.size) (Nat.le_refl _) ?_; intro A13 p13 w13 hown13 hb13; obtain ⟨c0, c1, c2, c3, c4, c5, c6⟩ := hp1.out.below hb13 hs1; have hz13 : w1.heap.size ≤ w13.heap.size := hb13.size; have HO13 := Lib.hid hown13; have HB13 := Lib.hid hb13; have HX13 := Lib.hid (hx1.out.next hb13); clear HOL HRL HBL hown13 hb13)
    | (at_builtin; refine wpList_append_bytes w1.heap.size HB13.out rfl _ _ 24 rfl w1.heap.size 5 Try.underlying24 info_u8 _ _ (big 2 sp ++ big 2 dp ++ big 4 sq ++ big 4 ak ++ [0x50, UInt8.ofNat fl] ++ big 2 wn ++ [0, 0, 0, 0]) (by exact rfl) HO13.out A n c xs hl'.out (by exact rfl) HX13.out (by omega) hz13 (Nat.le_refl _) ?_; intro A14 p14 w14 hown14 hb14; obtain ⟨c0, c1, c2, c3, c4, c5, c6⟩ := hp1.out.below hb14 hs1))
  have hz14 : w1.heap.size ≤ w14.heap.size := hb14.size
  have hown : w14.ownsRow w1.heap.size 5 1 (.slice A14 (20 + n) p14) (20 + n) ((sgHead0 sp dp sq ak fl wn ++ xs).map bv) := hown14
  have hlz : (sgHead0 sp dp sq ak fl wn ++ xs).length = 20 + n := by rw [List.length_append, sgHead0_length, hl'.out]
  have HB14 := Lib.hid hb14
  have hpc : 20 + n ≤ p14 := by obtain ⟨_, _, hA, h, _⟩ := own_shape hown; injection hA with _ _ h2; omega
  clear hown14 hb14 HO13 HB13 HX13 c0 c1 c2 c3 c4 c5 c6
  obtain ⟨g, rfl, hg, hg2⟩ := own_form hown (by omega)
  have hcl := segSum_le src dst (sgHead0 sp dp sq ak fl wn ++ xs)
  have HH := Lib.hid (show sgPut (sgHead0 sp dp sq ak fl wn ++ xs) (segSum src dst (sgHead0 sp dp sq ak fl wn ++ xs)) = sgBytes src dst sp dp sq ak fl wn xs from rfl)
  have HF := Lib.hid (segSum_add src dst (sgHead0 sp dp sq ak fl wn ++ xs))
  have HRZ := Lib.hid (RB.of_ownN hown)
  have HO := Lib.hid hown
  have hlz' := Lib.hid hlz
  clear hown
  rw [hlz] at HF
  clear hlz
  generalize sgHead0 sp dp sq ak fl wn ++ xs = zs at hcl HH HF HRZ HO hlz'
  generalize segSum src dst zs = z at hcl HH HF
  have KH := Lib.hid (refHeadI src dst (20 + n) (20 + (n : Int)) (by omega) hs hd (by omega) w14.drew)
  have ha := Sm.add_le 0 (segHd src dst (20 + n))
  have haz := Sm.add_le (Sm.add 0 (segHd src dst (20 + n))) zs
  have HRZd : Hid (RB w14.drew w14.drew.heap.size (some ⟨g, 0, none⟩) zs) := Lib.hid HRZ.out
  have K1A := Lib.hid (fun A p (w : World) hr => refAddN 0 0 rfl (by omega) (segHd src dst (20 + n)) 12 (segHd_length _ _ _) A p w hr (by omega))
  have K2A := Lib.hid (fun (w : World) hr => refAddN (Sm.add 0 (segHd src dst (20 + n))) _ rfl ha zs (20 + n) hlz'.out (some ⟨g, 0, none⟩) p14 w hr (by omega))
  generalize Sm.add 0 (segHd src dst (20 + n)) = a at HF ha haz K1A K2A
  generalize Sm.add a zs = y at HF haz K2A
  have hF := HF.out
  have hFw : IntKind.i64.wrap (z : Int) = (z : Int) := IntWalk.i64_in _ (by omega)
  have KB := Lib.hid (fun w : World => big_walk (z : Int) 2 z 2 rfl rfl (by omega) (by omega) w)
  have hc2 : ¬ p14 = 16 := by omega
  have h16 : (16 : Int) ≤ 20 + (n : Int) := by omega
  have h16' : (16 : Int) ≤ ((20 + n : Nat) : Int) := by omega
  have hln : ((20 + n : Nat) : Int) = 20 + (n : Int) := by omega
  go_wp2_with fail
  go_region_law (first
    | (go_simp; go_at_call 68; (with_reducible refine KH.out.mono ?_); rintro e w15 ⟨A15, p15, rfl, hown15, hb15⟩)
    | (go_simp; go_at_call 25; (with_reducible refine (K1A.out A15 p15 w15 (RB.of_ownN hown15)).mono ?_); rintro e w' ⟨rfl, rfl⟩)
    | (go_simp; go_at_call 25; (with_reducible refine (K2A.out w15 (RB.next HRZd.out hb15)).mono ?_); rintro e w' ⟨rfl, rfl⟩)
    | (go_simp; go_at_call 59; (with_reducible refine (KB.out _).mono ?_); rintro e w16 ⟨A16, p16, rfl, hown16, hb16⟩)
    | (refine step_copy_bytes rfl _ _ _ _ rfl 5 Try.underlying24 size_u8 g 16 (20 + n - 16) (p14 - 16) A16 2 p16 (by exact rfl) (by exact rfl) w1.heap.size (20 + n) p14 zs (big 2 z) (own_below (own_below HO.out.drew hb15) hb16) (RB.of_ownN hown16) rfl (by rw [big_length]; omega) (by rw [big_length]; omega) (by rw [big_length]; omega) ?_; intro w17 hown17 O17))
  all_goals
    have hb16' := Lib.hid (O17.below _ _ ((HB14.out.drew.trans (hb15.mono hz14)).trans (hb16.mono (Nat.le_trans hz14 hb15.size))) hg)
    have HO17 : Hid (w17.ownsRow w1.heap.size 5 1 (.slice (some ⟨g, 0, none⟩) (20 + n) p14) (20 + n) ((sgBytes src dst sp dp sq ak fl wn xs).map bv)) := by
      unfold Hid
      have e := hown17
      rw [big_length, big2, splice2 zs 16 _ _ (by rw [hlz'.out]; omega)] at e
      rw [← HH.out]
      exact e
    clear hown17 O17 hown15 hb15 hown16 hb16 K1A K2A KB KH
    go_wp2
    go_ret
    exact ⟨some ⟨g, 0, none⟩, p14, rfl, own_base HO17.out (Nat.le_of_lt hs1), hb01.out.trans (hb16'.out.mono (Nat.le_of_lt hs1))⟩

end Go.Proofs.Ytjdokaiadljeeaa
