/-
  PROVED: 'A segment's bytes are read as it between the same addresses; with one bit turned, of them or of an address, they are none; the addresses may change places: without the page's own' (kiosklaw13.SegBack). CONDITIONS: none; for every argument.
-/
import Derived.Test.YtjdokaiadljeeaaSegL
import Derived.Deep.CutRange
import Derived.StillTailTactics
namespace Go.Proofs.Ytjdokaiadljeeaa
open Go.ChangeShapes Go.WideShapes Go.ChangeAt Go.RowKit Go.Deep

set_option maxRecDepth 100000 in
set_option maxHeartbeats 6400000 in
theorem segBack_walk (A : Option Addr) (len cap : Nat) (W : World) (_hl : len ≤ cap) (_hc : cap ≤ maxLen) (ha : SegAsk W A len) :
    Calls Try.prog 16 #[.slice A len cap] W fun e W' => e = .returned (.bool true) ∧ Below W.heap.size W W' := by
  unfold maxLen at _hc
  go_enter Try.func16, Try.ntmps16
  go_wp2
  go_loopw [3, 4, 5, 6, 7, 8, 9, 10, 11, 12, 13, 14, 15, 16] (fun i _ _ _ _ _ _ _ _ _ _ _ _ _ wr => ∃ k : Nat, k ≤ len ∧ i = .int .i64 k ∧ Below W.heap.size W wr) (fun i _ _ _ _ _ _ _ _ _ _ _ _ _ _ => len - (intOf i).toNat)
  case atStart => exact ⟨0, Nat.zero_le _, rfl, Below.refl _ _⟩
  case round =>
    obtain ⟨wq, rfl⟩ : ∃ wq : World, wq = wr := ⟨_, rfl⟩
    obtain ⟨k, hk, rfl, hb⟩ := hrel
    by_cases hin : k < len ∧ (k : Int) < 10
    · obtain ⟨hlt, h10⟩ := hin
      obtain ⟨b, o, n0, n1, n2, n3, n4, n5, xs6, B6, p6, n7, n8, xs9, B9, p9, rfl, hbl, c0, c1, c2, c3, c4, c5, c6, c7, c8, c9, r6, r9, q6, q6', q9, q9'⟩ := ha.row k hlt hb
      have hbA := balloc wq (.cells #[.int .i64 n0, .int .i64 n1, .int .i64 n2, .int .i64 n3, .int .i64 n4, .int .i64 n5, .slice B6 xs6.length p6, .int .i64 n7, .int .i64 n8, .slice B9 xs9.length p9] 73)
      have h0 := Lib.hid (hb.trans (hbA.mono hb.size))
      have hbx := Lib.hid (SaAt.box wq (.int .i64 n0) (.int .i64 n1) (.int .i64 n2) (.int .i64 n3) (.int .i64 n4) (.int .i64 n5) (.slice B6 xs6.length p6) (.int .i64 n7) (.int .i64 n8) (.slice B9 xs9.length p9) 73)
      have hr6 := Lib.hid (r6.next hbA)
      have hr9 := Lib.hid (r9.next hbA)
      have hs0 := lt_alloc wq (.cells #[.int .i64 n0, .int .i64 n1, .int .i64 n2, .int .i64 n3, .int .i64 n4, .int .i64 n5, .slice B6 xs6.length p6, .int .i64 n7, .int .i64 n8, .slice B9 xs9.length p9] 73)
      clear r6 r9 hbA ha hb
      go_wp2_with fail
      clear c0 c1 c2 c3 c4 c5 c6 c7 c8 c9 hbl
      generalize wq.alloc (.cells #[.int .i64 n0, .int .i64 n1, .int .i64 n2, .int .i64 n3, .int .i64 n4, .int .i64 n5, .slice B6 xs6.length p6, .int .i64 n7, .int .i64 n8, .slice B9 xs9.length p9] 73) = w0 at h0 hbx hr6 hr9 hs0 ⊢
      (with_reducible refine (heavy13 _ _ _ _ _ _ _ _ _ _ _ _ _ _ _).mono ?_)
      rintro e w1 ⟨hv, rfl, hsm, hb1⟩
      have h01 := Lib.hid hb1
      clear hb1
      rcases hv with _ | _
      · obtain ⟨h6, h9⟩ := hsm rfl
        clear hsm
        obtain ⟨c0, c1, c2, c3, c4, c5, c6, c7, c8, c9⟩ := hbx.out.below h01.out hs0
        by_cases hok : (Sg.ok ⟨n0, n1, n2, n3, n4, n5, xs6⟩ && (wordB n7 && wordB n8)) = true
        · simp only [Bool.and_eq_true] at hok
          obtain ⟨hok, hw7, hw8⟩ := hok
          obtain ⟨⟨i0, _⟩, ⟨i1, _⟩, ⟨i2, _⟩, ⟨i3, _⟩, ⟨i4, _⟩, ⟨i5, _⟩, _⟩ := Sg.ok_iff.1 hok
          simp only at i0 i1 i2 i3 i4 i5
          obtain ⟨i7, j7⟩ := inR_iff.1 hw7
          obtain ⟨i8, j8⟩ := inR_iff.1 hw8
          obtain ⟨sp, rfl⟩ := Int.eq_ofNat_of_zero_le i0
          obtain ⟨dp, rfl⟩ := Int.eq_ofNat_of_zero_le i1
          obtain ⟨sq, rfl⟩ := Int.eq_ofNat_of_zero_le i2
          obtain ⟨ak, rfl⟩ := Int.eq_ofNat_of_zero_le i3
          obtain ⟨fl, rfl⟩ := Int.eq_ofNat_of_zero_le i4
          obtain ⟨wn, rfl⟩ := Int.eq_ofNat_of_zero_le i5
          obtain ⟨src, rfl⟩ := Int.eq_ofNat_of_zero_le i7
          obtain ⟨dst, rfl⟩ := Int.eq_ofNat_of_zero_le i8
          have hok' := Lib.hid hok
          clear hok hw7 hw8
          have hzl : xs6.length ≤ 1460 := (Sg.ok_iff.1 hok'.out).2.2.2.2.2.2
          have hWs := h0.out.size
          have K := Lib.hid (segBytes src dst sp dp sq ak fl wn xs6 xs6.length rfl B6 p6 hok'.out (by omega) (by omega) w1 (hr6.out.next h01.out))
          go_wp2_with fail
          (with_reducible refine K.out.mono ?_)
          rintro e w2 ⟨A2, p2, rfl, hown2, hb2⟩
          have h02 := Lib.hid (h01.out.trans (hb2.mono h01.out.size))
          have hin2 : Hid (∀ w', Below w2.heap.size w2 w' → RB w' w'.heap.size A2 (sgBytes src dst sp dp sq ak fl wn xs6)) := Lib.hid (fun w' hw => (RB.of_ownN hown2).next hw)
          have hp2 : 20 + xs6.length ≤ p2 := by obtain ⟨_, _, hA, h, _⟩ := own_shape hown2; injection hA with _ _ h2; omega
          have hlen : Hid ((sgBytes src dst sp dp sq ak fl wn xs6).length = 20 + xs6.length) := Lib.hid (sgBytes_length ..)
          clear K hb2 hown2 c0 c1 c2 c3 c4 c5 c6 c7 c8 c9
          obtain ⟨c0, c1, c2, c3, c4, c5, c6, c7, c8, c9⟩ := hbx.out.below h02.out hs0
          go_wp2_with fail
          (with_reducible refine (num13 _ _).mono ?_)
          rintro e w' ⟨rfl, rfl⟩
          have hq1 : segOut src dst (sgBytes src dst sp dp sq ak fl wn xs6) = (⟨sp, dp, sq, ak, fl, wn, xs6⟩, 0) := seg_same src dst (by omega) (by omega) ⟨sp, dp, sq, ak, fl, wn, xs6⟩ hok'.out
          have K := Lib.hid (segParseQ src dst (sgBytes src dst sp dp sq ak fl wn xs6) (20 + xs6.length) hlen.out A2 p2 hp2 w2 (hin2.out _ (Below.refl _ _)) (by omega) sp dp sq ak fl wn 0 xs6 hq1)
          clear hq1
          go_wp2_with fail
          (with_reducible refine K.out.mono ?_)
          rintro e w3 ⟨A3, p3, rfl, hown3, hb3⟩
          have hb34 := balloc w3 (.cells #[.int .i64 sp, .int .i64 dp, .int .i64 sq, .int .i64 ak, .int .i64 fl, .int .i64 wn, .slice A3 xs6.length p3] 71)
          have h24 := Lib.hid (hb3.trans (hb34.mono hb3.size))
          have h04 := Lib.hid (h02.out.trans (h24.out.mono h02.out.size))
          have hp4 := Lib.hid (SgAt.box w3 (.int .i64 sp) (.int .i64 dp) (.int .i64 sq) (.int .i64 ak) (.int .i64 fl) (.int .i64 wn) (.slice A3 xs6.length p3) 71)
          have hs4 := lt_alloc w3 (.cells #[.int .i64 sp, .int .i64 dp, .int .i64 sq, .int .i64 ak, .int .i64 fl, .int .i64 wn, .slice A3 xs6.length p3] 71)
          have hr4 := Lib.hid ((RB.of_own hown3).next hb34)
          have e7 := (cellB (h02.out.trans (hb3.mono h02.out.size)) hs0).trans hbx.out.2.2.2.2.2.2.2.1
          have e8 := (cellB (h02.out.trans (hb3.mono h02.out.size)) hs0).trans hbx.out.2.2.2.2.2.2.2.2.1
          have hlt3 : wq.heap.size < w3.heap.size := Nat.lt_of_lt_of_le hs0 (Nat.le_trans h02.out.size hb3.size)
          have hg3 : w2.heap.size ≤ w3.heap.size := hb3.size
          clear K hb3 hown3 hb34 c0 c1 c2 c3 c4 c5 c6 c7 c8 c9
          obtain ⟨c0, c1, c2, c3, c4, c5, c6, c7, c8, c9⟩ := hbx.out.below h04.out hs0
          have hq2 : segOut dst src (sgBytes src dst sp dp sq ak fl wn xs6) = (⟨sp, dp, sq, ak, fl, wn, xs6⟩, 0) := seg_turned_round src dst (by omega) (by omega) ⟨sp, dp, sq, ak, fl, wn, xs6⟩ hok'.out
          have K := Lib.hid (segParseQ dst src (sgBytes src dst sp dp sq ak fl wn xs6) (20 + xs6.length) hlen.out A2 p2 hp2 _ (hin2.out _ h24.out) (by omega) sp dp sq ak fl wn 0 xs6 hq2)
          clear hq2
          go_wp2_with fail
          clear e7 e8 hlt3
          generalize w3.alloc (.cells #[.int .i64 sp, .int .i64 dp, .int .i64 sq, .int .i64 ak, .int .i64 fl, .int .i64 wn, .slice A3 xs6.length p3] 71) = w4 at h24 h04 hp4 hs4 hr4 K c0 c1 c2 c3 c4 c5 c6 c7 c8 c9 ⊢
          (with_reducible refine K.out.mono ?_)
          rintro e w5 ⟨A5, p5, rfl, hown5, hb5⟩
          have hb56 := balloc w5 (.cells #[.int .i64 sp, .int .i64 dp, .int .i64 sq, .int .i64 ak, .int .i64 fl, .int .i64 wn, .slice A5 xs6.length p5] 71)
          have hb46 := hb5.trans (hb56.mono hb5.size)
          have h26 := Lib.hid (h24.out.trans (hb46.mono h24.out.size))
          have h06 := Lib.hid (h02.out.trans (h26.out.mono h02.out.size))
          have hp6 := Lib.hid (hp4.out.below hb46 hs4)
          have hr6a := Lib.hid (hr4.out.next hb46)
          have hp6b := Lib.hid (SgAt.box w5 (.int .i64 sp) (.int .i64 dp) (.int .i64 sq) (.int .i64 ak) (.int .i64 fl) (.int .i64 wn) (.slice A5 xs6.length p5) 71)
          have hs6 := lt_alloc w5 (.cells #[.int .i64 sp, .int .i64 dp, .int .i64 sq, .int .i64 ak, .int .i64 fl, .int .i64 wn, .slice A5 xs6.length p5] 71)
          have hr6b := Lib.hid ((RB.of_own hown5).next hb56)
          have hs46 := hb46.size
          have hg5 : w4.heap.size ≤ w5.heap.size := hb5.size
          clear K hb5 hown5 hb56 hb46 hp4 hr4 c0 c1 c2 c3 c4 c5 c6 c7 c8 c9
          go_wp2_with fail
          generalize w5.alloc (.cells #[.int .i64 sp, .int .i64 dp, .int .i64 sq, .int .i64 ak, .int .i64 fl, .int .i64 wn, .slice A5 xs6.length p5] 71) = w6 at h26 h06 hp6 hr6a hp6b hs6 hr6b hs46 ⊢
          obtain ⟨c0, c1, c2, c3, c4, c5, c6, c7, c8, c9⟩ := hbx.out.below h06.out hs0
          obtain ⟨s0, s1, s2, s3, s4, s5, s6⟩ := hp6.out
          obtain ⟨t0, t1, t2, t3, t4, t5, t6⟩ := hp6b.out
          obtain ⟨r, hr⟩ : ∃ r, r = xs9.length % 32 := ⟨_, rfl⟩
          have hr32 : r < 32 := by omega
          have e1 : (xs9.length : Int).tmod 32 = (r : Int) := by rw [Int.tmod_eq_emod_of_nonneg (by omega)]; omega
          have e2 : (0 : Int) ≤ (r : Int) := by omega
          have e3 : (r : Int) < 32 := by omega
          have hrr := Lib.hid hr
          obtain ⟨src', hsrc'⟩ : ∃ s, s = src ^^^ 2 ^ r := ⟨_, rfl⟩
          have hx64 := i64_xor_bit src r (by omega) hr32
          rw [← hsrc'] at hx64
          have hq3 : segOut (src' : Int) dst (sgBytes src dst sp dp sq ak fl wn xs6) = (⟨0, 0, 0, 0, 0, 0, []⟩, 8) := by rw [hsrc']; exact seg_away src dst r (by omega) (by omega) hr32 ⟨sp, dp, sq, ak, fl, wn, xs6⟩ hok'.out
          have n6 : w6.heap.size ≠ wq.heap.size := by have := h06.out.size; omega
          have n6' : wq.heap.size ≠ w6.heap.size := by omega
          have h26d : Hid (Below w2.heap.size w2 w6.drew) := Lib.hid h26.out.drew
          have KP := Lib.hid (fun w' (hw : Below w2.heap.size w2 w') => segParseQ (src' : Int) dst (sgBytes src dst sp dp sq ak fl wn xs6) (20 + xs6.length) hlen.out A2 p2 hp2 w' (hin2.out _ hw) (by omega) 0 0 0 0 0 0 8 [] hq3)
          clear hr hsrc' hq3
          go_cut [11, 12] from 17 to 142 (fun s11 s12 wx => s12 = .int .i64 8 ∧ Hid (Below w6.heap.size w6 wx))
          case first =>
            go_region_held3 (fun w' => w'.cell? ⟨wq.heap.size, 7, none⟩ = some (.int .i64 src) ∧ w'.cell? ⟨wq.heap.size, 8, none⟩ = some (.int .i64 dst) ∧ w'.cell? ⟨wq.heap.size, 9, none⟩ = some (.slice B9 xs9.length p9)) (go_keep)
              (first
                | (go_at_call 55; (with_reducible refine (KP.out _ (by first | exact h26d.out | exact (h26.out.alloc h26.out.size _).drew | exact h26d.out.alloc h26d.out.size _)).mono ?_); rintro e w7 ⟨A7, p7, he, hown7, hb7⟩; have he' : e = .returned (.tuple #[.agg #[.int .i64 0, .int .i64 0, .int .i64 0, .int .i64 0, .int .i64 0, .int .i64 0, .slice A7 0 p7], .int .i64 8]) := he; subst he'; have hown7' : w7.ownsRow _ 5 1 (.slice A7 0 p7) 0 (([] : List UInt8).map bv) := hown7; have h67 : Hid (Below w6.heap.size w6 w7) := Lib.hid (by first | exact (Below.refl _ _).drew.trans (hb7.mono (Nat.le_refl _)) | exact ((Below.refl w6.heap.size w6).drew.alloc (Nat.le_refl _) _).trans (hb7.mono (balloc _ _).size)); have hs7 := h67.out.size; (try have bx7 := SgF.finBox hb7 hown7'); (try have bx7 := SgF.finBoxD hb7 hown7'); (try obtain ⟨⟨⟨z0, z1, z2, z3, z4, z5, z6⟩, hz7⟩, hgo, hgl⟩ := bx7); (try (have y0 := hz7 0; have y1 := hz7 1; have y2 := hz7 2; have y3 := hz7 3; have y4 := hz7 4; have y5 := hz7 5; have y6 := hz7 6; clear hz7)); clear he hb7; obtain ⟨d0, d1, d2, d3, d4, d5, d6, d7, d8, d9⟩ := hbx.out.below (h06.out.trans (h67.out.mono h06.out.size)) hs0))
            all_goals
              go_wp2_with fail
              go_meet
              case rel =>
                refine ⟨rfl, ?_⟩
                first
                  | (with_reducible exact Lib.hid (h67.out.alloc hs7 _))
                  | (with_reducible exact Lib.hid ((setSg_only w7 _ _ _ _ _ _ _ _).below _ _ h67.out (Nat.le_refl _)))
          case rest =>
            obtain ⟨rfl, h6c⟩ := hcut
            have h2c := Lib.hid (h26.out.trans (h6c.out.mono h26.out.size))
            have h0c := Lib.hid (h06.out.trans (h6c.out.mono h06.out.size))
            have hl36 : w3.heap.size < w6.heap.size := by omega
            have HS := Lib.hid (hp6.out.below h6c.out hl36)
            have HT := Lib.hid (hp6b.out.below h6c.out hs6)
            have hsc := h6c.out.size
            clear c0 c1 c2 c3 c4 c5 c6 c7 c8 c9 s0 s1 s2 s3 s4 s5 s6 t0 t1 t2 t3 t4 t5 t6 e1 e2 e3 hx64 KP n6 n6'
            obtain ⟨c0, c1, c2, c3, c4, c5, c6, c7, c8, c9⟩ := hbx.out.below h0c.out hs0
            obtain ⟨s0, s1, s2, s3, s4, s5, s6⟩ := HS.out
            obtain ⟨t0, t1, t2, t3, t4, t5, t6⟩ := HT.out
            go_wp2_with fail
            (with_reducible refine (num13 _ _).mono ?_)
            rintro e w' ⟨rfl, rfl⟩
            have K := Lib.hid (eqSeg sp dp sq ak fl wn xs6 xs6.length rfl A3 B6 p3 p6 wc (hr6a.out.next h6c.out) (hr6.out.next h0c.out) (by omega))
            go_wp2_with fail
            (with_reducible refine K.out.mono ?_)
            rintro e w8 ⟨rfl, hb8⟩
            have h68 := Lib.hid (h6c.out.trans (hb8.mono hsc))
            have HS8 := Lib.hid (HS.out.below hb8 (by omega))
            have HT8 := Lib.hid (HT.out.below hb8 (by omega))
            clear K c0 c1 c2 c3 c4 c5 c6 c7 c8 c9 s0 s1 s2 s3 s4 s5 s6 t0 t1 t2 t3 t4 t5 t6
            obtain ⟨s0, s1, s2, s3, s4, s5, s6⟩ := HS8.out
            obtain ⟨t0, t1, t2, t3, t4, t5, t6⟩ := HT8.out
            clear hb8
            go_wp2_with fail
            (with_reducible refine (num13 _ _).mono ?_)
            rintro e w' ⟨rfl, rfl⟩
            have K := Lib.hid (eqSeg sp dp sq ak fl wn xs6 xs6.length rfl A5 A3 p5 p3 w8 (hr6b.out.next h68.out) (hr6a.out.next h68.out) (by omega))
            go_wp2_with fail
            (with_reducible refine K.out.mono ?_)
            rintro e w9 ⟨rfl, hb9⟩
            have h29 := Lib.hid ((h26.out.trans (h68.out.mono h26.out.size)).trans (hb9.mono (Nat.le_trans h26.out.size h68.out.size)))
            clear K hb9 s0 s1 s2 s3 s4 s5 s6 t0 t1 t2 t3 t4 t5 t6
            go_wp2_with fail
            (with_reducible refine (num13 _ _).mono ?_)
            rintro e w' ⟨rfl, rfl⟩
            clear HS HT HS8 HT8 hp6 hp6b hr6a hr6b h68 h6c h0c h2c h26d hsc hl36 hs46 hs6 hg5 hg3 hs4 h24 h04
            go_wp2
            go_loopw [13, 14, 15, 16] (fun i _ _ _ wr3 => ∃ j : Nat, j ≤ 40000 ∧ i = .int .i64 j ∧ Hid (Below w2.heap.size w2 wr3)) (fun i _ _ _ _ => 8 * (20 + xs6.length) - (intOf i).toNat)
            case atStart => exact ⟨0, by omega, rfl, h29⟩
            case round =>
              clear h29
              obtain ⟨j, hj, rfl, h2r⟩ := hrel
              by_cases hjl : j < 8 * (20 + xs6.length)
              · have hjl' : (j : Int) < 8 * (20 + (xs6.length : Int)) := by omega
                go_wp2_with fail
                (with_reducible refine (copyN (sgBytes src dst sp dp sq ak fl wn xs6) (20 + xs6.length) hlen.out A2 p2 _ (hin2.out _ h2r.out) (by omega)).mono ?_)
                rintro e w9' ⟨A9, p9', rfl, hown9, hb9⟩
                have h29 := Lib.hid (h2r.out.trans (hb9.mono h2r.out.size))
                have hs9 := h2r.out.size
                have hp9c : 20 + xs6.length ≤ p9' := by obtain ⟨_, _, hA, h, _⟩ := own_shape hown9; injection hA with _ _ h2; omega
                obtain ⟨g9, rfl, hg9, hg9'⟩ := own_form hown9 (by omega)
                obtain ⟨q8, hq8⟩ : ∃ q8, q8 = j / 8 := ⟨_, rfl⟩
                obtain ⟨r8, hr8⟩ : ∃ r8, r8 = j % 8 := ⟨_, rfl⟩
                have hq8l : q8 < 20 + xs6.length := by omega
                have hr8l : r8 < 8 := by omega
                obtain ⟨x, hx, f, z⟩ := own_cell hown9 q8 (by omega)
                have hx' := Lib.hid hx
                have HO9 := Lib.hid hown9
                have e1 : IntKind.i64.wrap ((j : Int) / 8) = (q8 : Int) := by rw [IntWalk.i64_in _ (by omega)]; omega
                have e2 : (j : Int).tmod 8 = (r8 : Int) := by rw [Int.tmod_eq_emod_of_nonneg (by omega)]; omega
                have e3 : (0 : Int) ≤ (q8 : Int) := by omega
                have e4 : (q8 : Int) < 20 + (xs6.length : Int) := by omega
                have e5 : (0 : Int) ≤ (r8 : Int) := by omega
                have e6 : (q8 : Int) < ((20 + xs6.length : Nat) : Int) := by omega
                clear hown9 hb9 hx hq8 hr8
                go_wp2_with fail
                go_still_tail 12, (by kernel_rfl)
                repeat still_step
                try refine wpStill_nil ?_
                change wpList _ _ _ _ _ w9'.drew
                have h09 := Lib.hid (h02.out.trans (h29.out.mono h02.out.size))
                have h09d : Hid (Below w0.heap.size w0 w9'.drew) := Lib.hid h09.out.drew
                obtain ⟨c0, c1, c2, c3, c4, c5, c6, c7, c8, c9⟩ := hbx.out.below h09.out hs0
                have hng : g9 ≠ wq.heap.size := by have := h02.out.size; omega
                have hng' : wq.heap.size ≠ g9 := by omega
                obtain ⟨hown10, hcells10, hsize10, hbel10⟩ := store_byte HO9.out q8 hq8l (turnBit x r8) (congrArg _ (turn_val x hr8l))
                have k7 := (hcells10 wq.heap.size 7 hng').trans c7
                have k8 := (hcells10 wq.heap.size 8 hng').trans c8
                have m7 : (w9'.setCell ⟨g9, q8, none⟩ (Value.int .u8 (bits .xor .u8 (x.toNat : Int) (2 ^ r8 % 256)))).cell? ⟨wq.heap.size, 7, none⟩ = some (.int .i64 src) := k7
                have m8 : (w9'.setCell ⟨g9, q8, none⟩ (Value.int .u8 (bits .xor .u8 (x.toNat : Int) (2 ^ r8 % 256)))).cell? ⟨wq.heap.size, 8, none⟩ = some (.int .i64 dst) := k8
                have hle10 : w2.heap.size ≤ g9 := Nat.le_trans hs9 hg9
                clear hcells10
                go_wp2_with fail
                clear k7 k8 m7 m8
                generalize ((w9'.setCell ⟨g9, q8, none⟩ (Value.int .u8 (bits .xor .u8 (x.toNat : Int) (2 ^ r8 % 256)))).drew) = w10 at hown10 hsize10 hbel10 ⊢
                have h210 := Lib.hid (hbel10 _ _ h29.out hle10)
                obtain ⟨⟨⟨sp', dp', sq', ak', fl', wn', ys⟩, er⟩, hq⟩ : ∃ q, segOut (src : Int) dst ((sgBytes src dst sp dp sq ak fl wn xs6).set q8 (turnBit x r8)) = q := ⟨_, rfl⟩
                have hne : er ≠ 0 := by
                  have := seg_turned src dst ⟨sp, dp, sq, ak, fl, wn, xs6⟩ q8 r8 hr8l x hx'.out
                  rw [show (Sg.mk sp dp sq ak fl wn xs6).bytes src dst = (sgBytes src dst sp dp sq ak fl wn xs6) from rfl, hq] at this
                  exact this
                have hneq : (er == 0) = false := by simpa using hne
                have KP := Lib.hid (segParseQ src dst ((sgBytes src dst sp dp sq ak fl wn xs6).set q8 (turnBit x r8)) (20 + xs6.length) (by rw [List.length_set]; exact hlen.out) (some ⟨g9, 0, none⟩) p9' hp9c w10 (RB.of_ownN hown10) (by omega) sp' dp' sq' ak' fl' wn' er ys hq)
                clear hown10 hsize10 hbel10 hq HO9 f z e1 e2 e3 e4 e5 e6 h29 hne c0 c1 c2 c3 c4 c5 c6 c7 c8 c9 h09 h09d hng hng'
                (with_reducible refine KP.out.mono ?_)
                rintro e w11 ⟨A11, p11, rfl, _, hb11⟩
                have h211 := Lib.hid (h210.out.trans (hb11.mono h210.out.size))
                have h212 := Lib.hid (h211.out.alloc h211.out.size (.cells #[.int .i64 sp', .int .i64 dp', .int .i64 sq', .int .i64 ak', .int .i64 fl', .int .i64 wn', .slice A11 ys.length p11] 71))
                clear KP hb11 h210 h211
                go_wp2_with fail
                (with_reducible refine (num13 _ _).mono ?_)
                rintro e w' ⟨rfl, rfl⟩
                go_wp2
                go_roundw
                case rel => exact ⟨j + 1 + (20 + xs6.length) / 4, by omega, by congr 1, h212⟩
                case measure => simp [intOf]; omega
              · have hjl' : ¬ (j : Int) < 8 * (20 + (xs6.length : Int)) := by omega
                have hbbr := Lib.hid (h0.out.trans ((h02.out.trans (h2r.out.mono h02.out.size)).mono hWs))
                go_wp2
                go_roundw
                case rel => exact ⟨k + 1, by omega, by go_num, hbbr.out⟩
                case measure => simp [intOf]; omega
        · have hno := Bool.eq_false_iff.2 hok
          clear hok
          have K := Lib.hid (segBytes_no n7 n8 n0 n1 n2 n3 n4 n5 xs6 xs6.length rfl B6 p6 _ _ _ rfl rfl rfl hno w1)
          clear hno
          go_wp2_with fail
          (with_reducible refine K.out.mono ?_)
          rintro e w4 ⟨rfl, hb4⟩
          have hbb4 := Lib.hid ((h0.out.trans (h01.out.mono h0.out.size)).trans (hb4.mono (Nat.le_trans h0.out.size h01.out.size)))
          clear K hb4 c0 c1 c2 c3 c4 c5 c6 c7 c8 c9
          go_wp2_with fail
          (with_reducible refine (num13 _ _).mono ?_)
          rintro e w' ⟨rfl, rfl⟩
          go_wp2
          go_roundw
          case rel => exact ⟨k + 1, by omega, by go_num, hbb4.out⟩
          case measure => simp [intOf]; omega
      · have hbb := Lib.hid (h0.out.trans (h01.out.mono h0.out.size))
        go_wp2
        go_ret
        exact ⟨rfl, hbb.out⟩
    · by_cases hlt : k < len
      all_goals
        go_wp2_with (go_at_call 54; refine (wakes13 _).mono ?_; rintro e w' ⟨rfl, hb'⟩)
        go_ret
        exact ⟨rfl, hb.trans (hb'.mono hb.size)⟩

set_option maxRecDepth 100000 in
theorem segBack_lifted (os : Os) (started : os.Started) (H : Type) (enc : TypeId × Value → H) :
    ReturnsInHanded {} Try.checked os 16 .any (Rows.segBackSpec.pre6 enc Try.prog Try.f16 [] false) (Rows.segBackSpec.post enc Try.prog Try.f16 false true false false) := by
  refine law_lifted (T := 69) Try.func16 Try.params16 (by kernel_rfl) (by rw [Try.params16]; rfl) rfl (fun _ _ => rfl) (by kernel_rfl) (of_decide_eq_true (by kernel_rfl)) (by kernel_rfl) ?_ os started H enc
    (ChangeSpec.witness6 (enc := enc) (C := Try.checked) false ⟨#[], #[.slice none 0 0], []⟩ 8 (by kernel_rfl) (by kernel_rfl) (by kernel_rfl) (by kernel_rfl))
  intro H enc W v d p h
  obtain ⟨A, len, cap, rfl, hl, hc, ha⟩ := SegAsk.of h
  exact segBack_walk A len cap W hl hc ha

theorem segBack_holds : Rows.SegBackSaid :=
  OpenClaim.holds_of_wide 16 Try.f16 rfl rfl rfl rfl rfl rfl rfl ⟨rfl, rfl, rfl, rfl, rfl⟩ rfl rfl rfl rfl rfl (by kernel_rfl) Try.func16 (by kernel_rfl)
    (of_decide_eq_true (by kernel_rfl)) (by unfold Func.isWrapper; first | (rw [if_pos (by decide +kernel)]; kernel_rfl) | (rw [if_neg (by decide +kernel)]; exact ⟨rfl, rfl⟩))
    (fun os started H enc _ => segBack_lifted os started H enc)

end Go.Proofs.Ytjdokaiadljeeaa
