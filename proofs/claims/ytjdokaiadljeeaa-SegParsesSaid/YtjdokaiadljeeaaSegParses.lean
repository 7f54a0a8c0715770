/-
  PROVED: 'The segment that any bytes are, between any addresses, is the page's, or the error is' (kiosklaw13.SegParses). CONDITIONS: none; for every argument.
-/
import Derived.Test.YtjdokaiadljeeaaSegL
import Derived.Deep.CutRange
import Derived.StillTailTactics
namespace Go.Proofs.Ytjdokaiadljeeaa
open Go.ChangeShapes Go.WideShapes Go.ChangeAt Go.RowKit Go.Deep

set_option maxRecDepth 100000 in
set_option maxHeartbeats 6400000 in
theorem segParses_walk (A : Option Addr) (len cap : Nat) (W : World) (_hl : len ≤ cap) (_hc : cap ≤ maxLen) (ha : SegAsk W A len) :
    Calls Try.prog 15 #[.slice A len cap] W fun e W' => e = .returned (.bool true) ∧ Below W.heap.size W W' := by
  unfold maxLen at _hc
  go_enter Try.func15, Try.ntmps15
  go_wp2
  go_loopw [3, 4, 5, 6, 7, 8, 9] (fun i _ _ _ _ _ _ wr => ∃ k : Nat, k ≤ len ∧ i = .int .i64 k ∧ Below W.heap.size W wr) (fun i _ _ _ _ _ _ _ => len - (intOf i).toNat)
  case atStart => exact ⟨0, Nat.zero_le _, rfl, Below.refl _ _⟩
  case round =>
    obtain ⟨k, hk, rfl, hb⟩ := hrel
    by_cases hin : k < len ∧ (k : Int) < 10
    · obtain ⟨hlt, h10⟩ := hin
      obtain ⟨b, o, n0, n1, n2, n3, n4, n5, xs6, B6, p6, n7, n8, xs9, B9, p9, rfl, hbl, c0, c1, c2, c3, c4, c5, c6, c7, c8, c9, r6, r9, q6, q6', q9, q9'⟩ := ha.row k hlt hb
      have hbA := balloc wr (.cells #[.int .i64 n0, .int .i64 n1, .int .i64 n2, .int .i64 n3, .int .i64 n4, .int .i64 n5, .slice B6 xs6.length p6, .int .i64 n7, .int .i64 n8, .slice B9 xs9.length p9] 73)
      have h0 := Lib.hid (hb.trans (hbA.mono hb.size))
      have hbx := Lib.hid (SaAt.box wr (.int .i64 n0) (.int .i64 n1) (.int .i64 n2) (.int .i64 n3) (.int .i64 n4) (.int .i64 n5) (.slice B6 xs6.length p6) (.int .i64 n7) (.int .i64 n8) (.slice B9 xs9.length p9) 73)
      have hr6 := Lib.hid (r6.next hbA)
      have hr9 := Lib.hid (r9.next hbA)
      have hs0 := lt_alloc wr (.cells #[.int .i64 n0, .int .i64 n1, .int .i64 n2, .int .i64 n3, .int .i64 n4, .int .i64 n5, .slice B6 xs6.length p6, .int .i64 n7, .int .i64 n8, .slice B9 xs9.length p9] 73)
      clear r6 r9 hbA ha hb
      go_wp2_with fail
      clear c0 c1 c2 c3 c4 c5 c6 c7 c8 c9 hbl
      generalize wr.alloc (.cells #[.int .i64 n0, .int .i64 n1, .int .i64 n2, .int .i64 n3, .int .i64 n4, .int .i64 n5, .slice B6 xs6.length p6, .int .i64 n7, .int .i64 n8, .slice B9 xs9.length p9] 73) = w0 at h0 hbx hr6 hr9 hs0 ⊢
      (with_reducible refine (heavy13 _ _ _ _ _ _ _ _ _ _ _ _ _ _ _).mono ?_)
      rintro e w1 ⟨hv, rfl, hsm, hb1⟩
      have h01 := Lib.hid hb1
      clear hb1
      rcases hv with _ | _
      · obtain ⟨h6, h9⟩ := hsm rfl
        clear hsm
        obtain ⟨c0, c1, c2, c3, c4, c5, c6, c7, c8, c9⟩ := hbx.out.below h01.out hs0
        have K := Lib.hid (copyN xs9 xs9.length rfl B9 p9 w1 (hr9.out.next h01.out) (by omega))
        go_wp2_with fail
        (with_reducible refine K.out.mono ?_)
        rintro e w2 ⟨A2, p2, rfl, hown2, hb2⟩
        have h02 := Lib.hid (h01.out.trans (hb2.mono h01.out.size))
        have hp2 : xs9.length ≤ p2 := by obtain ⟨_, _, hA, h, _⟩ := own_shape hown2; injection hA with _ _ h2; omega
        have hin2 := Lib.hid (RB.of_ownN hown2)
        clear K hb2 hown2 c0 c1 c2 c3 c4 c5 c6 c7 c8 c9
        obtain ⟨c0, c1, c2, c3, c4, c5, c6, c7, c8, c9⟩ := hbx.out.below h02.out hs0
        obtain ⟨⟨⟨sp, dp, sq, ak, fl, wn, ys⟩, er⟩, hq⟩ : ∃ q, segOut n7 n8 xs9 = q := ⟨_, rfl⟩
        have hpl : ys.length ≤ xs9.length := by have := segOut_len n7 n8 xs9; rw [hq] at this; exact this
        have K := Lib.hid (segParseQ n7 n8 xs9 xs9.length rfl A2 p2 hp2 w2 hin2.out (by omega) sp dp sq ak fl wn er ys hq)
        have hq' := Lib.hid hq
        clear hq
        go_wp2_with fail
        (with_reducible refine K.out.mono ?_)
        rintro e w3 ⟨A3, p3, rfl, hown3, hb3⟩
        have h03 := Lib.hid (h02.out.trans (hb3.mono h02.out.size))
        have hs23 := hb3.size
        have hb34 := Lib.hid (balloc w3 (.cells #[.int .i64 sp, .int .i64 dp, .int .i64 sq, .int .i64 ak, .int .i64 fl, .int .i64 wn, .slice A3 ys.length p3] 71))
        have h04 := Lib.hid (h03.out.trans (hb34.out.mono h03.out.size))
        have h24 := Lib.hid (hb3.trans (hb34.out.mono hb3.size))
        have hp4 := Lib.hid (SgAt.box w3 (.int .i64 sp) (.int .i64 dp) (.int .i64 sq) (.int .i64 ak) (.int .i64 fl) (.int .i64 wn) (.slice A3 ys.length p3) 71)
        have hs4 := lt_alloc w3 (.cells #[.int .i64 sp, .int .i64 dp, .int .i64 sq, .int .i64 ak, .int .i64 fl, .int .i64 wn, .slice A3 ys.length p3] 71)
        have HO3 := Lib.hid (own_below hown3 hb34.out)
        have K2 := Lib.hid (refParseSegQ n7 n8 xs9 xs9.length rfl B9 p9 q9 _ (hr9.out.next h04.out) (by omega) sp dp sq ak fl wn er ys hq'.out)
        clear K hb3 hown3 c0 c1 c2 c3 c4 c5 c6 c7 c8 c9
        obtain ⟨c0, c1, c2, c3, c4, c5, c6, c7, c8, c9⟩ := hbx.out.below h04.out hs0
        have e7 := (cellB h03.out hs0).trans hbx.out.2.2.2.2.2.2.2.1
        have e8 := (cellB h03.out hs0).trans hbx.out.2.2.2.2.2.2.2.2.1
        have e9 := (cellB h03.out hs0).trans hbx.out.2.2.2.2.2.2.2.2.2
        have hlt3 : wr.heap.size < w3.heap.size := Nat.lt_of_lt_of_le hs0 h03.out.size
        go_wp2_with fail
        clear e7 e8 e9 hlt3
        generalize w3.alloc (.cells #[.int .i64 sp, .int .i64 dp, .int .i64 sq, .int .i64 ak, .int .i64 fl, .int .i64 wn, .slice A3 ys.length p3] 71) = w4 at hb34 h04 h24 hp4 HO3 K2 hs4 c0 c1 c2 c3 c4 c5 c6 c7 c8 c9 ⊢
        (with_reducible refine K2.out.mono ?_)
        rintro e w5 ⟨A5, p5', rfl, hown5, hb5⟩
        have h05 := Lib.hid (h04.out.trans (hb5.mono h04.out.size))
        have h25 := Lib.hid (h24.out.trans (hb5.mono h24.out.size))
        have hp5 := Lib.hid (hp4.out.below hb5 hs4)
        have HO5 := Lib.hid (own_below HO3.out hb5)
        have HQ5 := Lib.hid hown5
        have hs45 := hb5.size
        clear K2 hb5 hown5 HO3 hp4 hb34 c0 c1 c2 c3 c4 c5 c6 c7 c8 c9
        have hb56 := Lib.hid (balloc w5 (.cells #[.int .i64 sp, .int .i64 dp, .int .i64 sq, .int .i64 ak, .int .i64 fl, .int .i64 wn, .slice A5 ys.length p5'] 71))
        have h06 := Lib.hid (h05.out.trans (hb56.out.mono h05.out.size))
        have h26 := Lib.hid (h25.out.trans (hb56.out.mono h25.out.size))
        have hp6 := Lib.hid (hp5.out.below hb56.out (by omega))
        have hO6 := Lib.hid (own_below HO5.out hb56.out)
        have hr6' := Lib.hid (RB.of_own hO6.out)
        have hq6' := Lib.hid (RB.of_own (own_below HQ5.out hb56.out))
        have KE := Lib.hid (eqSeg sp dp sq ak fl wn ys ys.length rfl A3 A5 p3 p5' _ hr6'.out hq6'.out (by omega))
        obtain ⟨z0, z1, z2, z3, z4, z5, z6⟩ := hp6.out
        have hne : (er != er) = false := by simp
        have hs6 := hb56.out.size
        go_wp2_with fail
        (with_reducible refine (num13 _ _).mono ?_)
        rintro e w' ⟨rfl, rfl⟩
        go_wp2_with fail
        generalize w5.alloc (.cells #[.int .i64 sp, .int .i64 dp, .int .i64 sq, .int .i64 ak, .int .i64 fl, .int .i64 wn, .slice A5 ys.length p5'] 71) = w6 at hb56 h06 h26 z0 z1 z2 z3 z4 z5 z6 hr6' hq6' KE hp6 hO6 hs6 ⊢
        (with_reducible refine KE.out.mono ?_)
        rintro e w7 ⟨rfl, hb7⟩
        have h07 := Lib.hid (h06.out.trans (hb7.mono h06.out.size))
        have h27 := Lib.hid (h26.out.trans (hb7.mono h26.out.size))
        have hO7 := Lib.hid (own_below hO6.out hb7)
        clear z0 z1 z2 z3 z4 z5 z6 KE hr6' hq6' hO6 HO5 HQ5 hb56
        obtain ⟨z0, z1, z2, z3, z4, z5, z6⟩ := hp6.out.below hb7 (by omega)
        clear hb7
        have hs27 := h27.out.size
        have K8 := Lib.hid (spoilBytes w2.heap.size ys ys.length A3 p3 w7 hO7.out hs27 (by omega))
        go_wp2_with fail
        (with_reducible refine K8.out.mono ?_)
        rintro e w8 ⟨rfl, hb8⟩
        have h28 := Lib.hid (h27.out.trans hb8)
        have h08 := Lib.hid (h02.out.trans (h28.out.mono h02.out.size))
        clear hb8 K8 z0 z1 z2 z3 z4 z5 z6
        obtain ⟨c0, c1, c2, c3, c4, c5, c6, c7, c8, c9⟩ := hbx.out.below h08.out hs0
        have K9 := Lib.hid (eqBytesN xs9 xs9.length rfl A2 B9 p2 p9 w8 (hin2.out.next h28.out) (hr9.out.next h08.out) (by omega))
        go_wp2_with fail
        (with_reducible refine K9.out.mono ?_)
        rintro e w9 ⟨rfl, hb9⟩
        have hbb9 := Lib.hid ((h0.out.trans (h08.out.mono h0.out.size)).trans (hb9.mono (Nat.le_trans h0.out.size h08.out.size)))
        clear K9 hb9 c0 c1 c2 c3 c4 c5 c6 c7 c8 c9
        go_wp2
        go_roundw
        case rel => exact ⟨k + 1, by omega, by go_num, hbb9.out⟩
        case measure => simp [intOf]; omega
      · have hbb := Lib.hid (h0.out.trans (h01.out.mono h0.out.size))
        go_wp2
        go_ret
        exact ⟨rfl, hbb.out⟩
    · by_cases hlt : k < len
      all_goals
        go_wp2_with (go_at_call 54; refine (wakes13 _).mono ?_; rintro e w' ⟨rfl, hb'⟩)
        go_ret
        exact ⟨rfl, hb.trans (hb'.mono hb.size)⟩

set_option maxRecDepth 100000 in
theorem segParses_lifted (os : Os) (started : os.Started) (H : Type) (enc : TypeId × Value → H) :
    ReturnsInHanded {} Try.checked os 15 .any (Rows.segParsesSpec.pre6 enc Try.prog Try.f15 [] false) (Rows.segParsesSpec.post enc Try.prog Try.f15 false true false false) := by
  refine law_lifted (T := 69) Try.func15 Try.params15 (by kernel_rfl) (by rw [Try.params15]; rfl) rfl (fun _ _ => rfl) (by kernel_rfl) (of_decide_eq_true (by kernel_rfl)) (by kernel_rfl) ?_ os started H enc
    (ChangeSpec.witness6 (enc := enc) (C := Try.checked) false ⟨#[], #[.slice none 0 0], []⟩ 8 (by kernel_rfl) (by kernel_rfl) (by kernel_rfl) (by kernel_rfl))
  intro H enc W v d p h
  obtain ⟨A, len, cap, rfl, hl, hc, ha⟩ := SegAsk.of h
  exact segParses_walk A len cap W hl hc ha

theorem segParses_holds : Rows.SegParsesSaid :=
  OpenClaim.holds_of_wide 15 Try.f15 rfl rfl rfl rfl rfl rfl rfl ⟨rfl, rfl, rfl, rfl, rfl⟩ rfl rfl rfl rfl rfl (by kernel_rfl) Try.func15 (by kernel_rfl)
    (of_decide_eq_true (by kernel_rfl)) (by unfold Func.isWrapper; first | (rw [if_pos (by decide +kernel)]; kernel_rfl) | (rw [if_neg (by decide +kernel)]; exact ⟨rfl, rfl⟩))
    (fun os started H enc _ => segParses_lifted os started H enc)

end Go.Proofs.Ytjdokaiadljeeaa
