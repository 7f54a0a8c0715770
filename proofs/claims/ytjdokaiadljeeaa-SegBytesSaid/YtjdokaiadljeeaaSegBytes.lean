/-
  PROVED: 'Any segment's bytes are the page's, or refused' (kiosklaw13.SegBytes). CONDITIONS: none; for every argument.
-/
import Derived.Test.YtjdokaiadljeeaaSegL
import Derived.Deep.CutRange
import Derived.StillTailTactics
namespace Go.Proofs.Ytjdokaiadljeeaa
open Go.ChangeShapes Go.WideShapes Go.ChangeAt Go.RowKit Go.Deep

set_option maxRecDepth 100000 in
set_option maxHeartbeats 6400000 in
theorem segBytes_walk (A : Option Addr) (len cap : Nat) (W : World) (_hl : len ≤ cap) (_hc : cap ≤ maxLen) (ha : SegAsk W A len) :
    Calls Try.prog 14 #[.slice A len cap] W fun e W' => e = .returned (.bool true) ∧ Below W.heap.size W W' := by
  unfold maxLen at _hc
  go_enter Try.func14, Try.ntmps14
  go_wp2
  go_loopw [3, 4, 5, 6, 7] (fun i _ _ _ _ wr => ∃ k : Nat, k ≤ len ∧ i = .int .i64 k ∧ Below W.heap.size W wr) (fun i _ _ _ _ _ => len - (intOf i).toNat)
  case atStart => exact ⟨0, Nat.zero_le _, rfl, Below.refl _ _⟩
  case round =>
    obtain ⟨k, hk, rfl, hb⟩ := hrel
    by_cases hin : k < len ∧ (k : Int) < 10
    · obtain ⟨hlt, h10⟩ := hin
      obtain ⟨b, o, n0, n1, n2, n3, n4, n5, xs6, B6, p6, n7, n8, xs9, B9, p9, rfl, hbl, c0, c1, c2, c3, c4, c5, c6, c7, c8, c9, r6, r9, q6, q6', q9, q9'⟩ := ha.row k hlt hb
      have hbA := balloc wr (.cells #[.int .i64 n0, .int .i64 n1, .int .i64 n2, .int .i64 n3, .int .i64 n4, .int .i64 n5, .slice B6 xs6.length p6, .int .i64 n7, .int .i64 n8, .slice B9 xs9.length p9] 73)
      have h0 := Lib.hid (hb.trans (hbA.mono hb.size))
      have hbx := Lib.hid (SaAt.box wr (.int .i64 n0) (.int .i64 n1) (.int .i64 n2) (.int .i64 n3) (.int .i64 n4) (.int .i64 n5) (.slice B6 xs6.length p6) (.int .i64 n7) (.int .i64 n8) (.slice B9 xs9.length p9) 73)
      have hr6 := Lib.hid (r6.next hbA)
      have hr9 := Lib.hid (r9.next hbA)
      have hs0 := lt_alloc wr (.cells #[.int .i64 n0, .int .i64 n1, .int .i64 n2, .int .i64 n3, .int .i64 n4, .int .i64 n5, .slice B6 xs6.length p6, .int .i64 n7, .int .i64 n8, .slice B9 xs9.length p9] 73)
      clear r6 r9 hbA ha hb
      go_wp2_with fail
      clear c0 c1 c2 c3 c4 c5 c6 c7 c8 c9 hbl
      generalize wr.alloc (.cells #[.int .i64 n0, .int .i64 n1, .int .i64 n2, .int .i64 n3, .int .i64 n4, .int .i64 n5, .slice B6 xs6.length p6, .int .i64 n7, .int .i64 n8, .slice B9 xs9.length p9] 73) = w0 at h0 hbx hr6 hr9 hs0 ⊢
      (with_reducible refine (heavy13 _ _ _ _ _ _ _ _ _ _ _ _ _ _ _).mono ?_)
      rintro e w1 ⟨hv, rfl, hsm, hb1⟩
      have h01 := Lib.hid hb1
      clear hb1
      rcases hv with _ | _
      · obtain ⟨h6, h9⟩ := hsm rfl
        clear hsm
        obtain ⟨c0, c1, c2, c3, c4, c5, c6, c7, c8, c9⟩ := hbx.out.below h01.out hs0
        have K := Lib.hid (copySeg n0 n1 n2 n3 n4 n5 xs6 xs6.length rfl B6 p6 w1 (hr6.out.next h01.out) (by omega))
        go_wp2_with fail
        (with_reducible refine K.out.mono ?_)
        rintro e w2 ⟨A2, p2, rfl, hown2, hb2⟩
        have h02 := Lib.hid (h01.out.trans (hb2.mono h01.out.size))
        have hb23 := Lib.hid (balloc w2 (.cells #[.int .i64 n0, .int .i64 n1, .int .i64 n2, .int .i64 n3, .int .i64 n4, .int .i64 n5, .slice A2 xs6.length p2] 71))
        have h03 := Lib.hid (h02.out.trans (hb23.out.mono h02.out.size))
        have hp3 := Lib.hid (SgAt.box w2 (.int .i64 n0) (.int .i64 n1) (.int .i64 n2) (.int .i64 n3) (.int .i64 n4) (.int .i64 n5) (.slice A2 xs6.length p2) 71)
        have hs3 := lt_alloc w2 (.cells #[.int .i64 n0, .int .i64 n1, .int .i64 n2, .int .i64 n3, .int .i64 n4, .int .i64 n5, .slice A2 xs6.length p2] 71)
        have HO3 := Lib.hid (own_below hown2 hb23.out)
        have e7 := (cellB h02.out hs0).trans hbx.out.2.2.2.2.2.2.2.1
        have e8 := (cellB h02.out hs0).trans hbx.out.2.2.2.2.2.2.2.2.1
        have hlt2 : wr.heap.size < w2.heap.size := Nat.lt_of_lt_of_le hs0 h02.out.size
        have hWs := h0.out.size
        clear K hb2 hown2 c0 c1 c2 c3 c4 c5 c6 c7 c8 c9
        obtain ⟨c0, c1, c2, c3, c4, c5, c6, c7, c8, c9⟩ := hbx.out.below h03.out hs0
        obtain ⟨s0, s1, s2, s3, s4, s5, s6⟩ := hp3.out
        go_wp2_with fail
        clear e7 e8 hlt2
        generalize w2.alloc (.cells #[.int .i64 n0, .int .i64 n1, .int .i64 n2, .int .i64 n3, .int .i64 n4, .int .i64 n5, .slice A2 xs6.length p2] 71) = w3 at hb23 h03 hp3 hs3 HO3 c0 c1 c2 c3 c4 c5 c6 c7 c8 c9 s0 s1 s2 s3 s4 s5 s6 ⊢
        clear c0 c1 c2 c3 c4 c5 c6 c7 c8 c9 s0 s1 s2 s3 s4 s5 s6
        by_cases hok : (Sg.ok ⟨n0, n1, n2, n3, n4, n5, xs6⟩ && (wordB n7 && wordB n8)) = true
        · simp only [Bool.and_eq_true] at hok
          obtain ⟨hok, hw7, hw8⟩ := hok
          obtain ⟨⟨i0, _⟩, ⟨i1, _⟩, ⟨i2, _⟩, ⟨i3, _⟩, ⟨i4, _⟩, ⟨i5, _⟩, _⟩ := Sg.ok_iff.1 hok
          simp only at i0 i1 i2 i3 i4 i5
          obtain ⟨i7, j7⟩ := inR_iff.1 hw7
          obtain ⟨i8, j8⟩ := inR_iff.1 hw8
          obtain ⟨sp, rfl⟩ := Int.eq_ofNat_of_zero_le i0
          obtain ⟨dp, rfl⟩ := Int.eq_ofNat_of_zero_le i1
          obtain ⟨sq, rfl⟩ := Int.eq_ofNat_of_zero_le i2
          obtain ⟨ak, rfl⟩ := Int.eq_ofNat_of_zero_le i3
          obtain ⟨fl, rfl⟩ := Int.eq_ofNat_of_zero_le i4
          obtain ⟨wn, rfl⟩ := Int.eq_ofNat_of_zero_le i5
          obtain ⟨src, rfl⟩ := Int.eq_ofNat_of_zero_le i7
          obtain ⟨dst, rfl⟩ := Int.eq_ofNat_of_zero_le i8
          have hok' := Lib.hid hok
          have hw7' := Lib.hid hw7
          have hw8' := Lib.hid hw8
          clear hok hw7 hw8
          have hlen : Hid ((sgBytes src dst sp dp sq ak fl wn xs6).length = 20 + xs6.length) := Lib.hid (sgBytes_length ..)
          have K := Lib.hid (segBytes src dst sp dp sq ak fl wn xs6 xs6.length rfl A2 p2 hok'.out (by omega) (by omega) w3 (RB.of_own HO3.out))
          (with_reducible refine K.out.mono ?_)
          rintro e w4 ⟨A4, p4, rfl, hown4, hb4⟩
          have h04 := Lib.hid (h03.out.trans (hb4.mono h03.out.size))
          have hp4 := Lib.hid (hp3.out.below hb4 hs3)
          have HO4 := Lib.hid (own_below HO3.out hb4)
          have HR4 := Lib.hid (RB.of_ownN hown4)
          have hs4 := hb4.size
          clear K hown4 hb4 hp3 HO3
          obtain ⟨c0, c1, c2, c3, c4, c5, c6, c7, c8, c9⟩ := hbx.out.below h04.out hs0
          go_wp2_with fail
          (with_reducible refine (refSegV _ _ _ _ _ _ xs6 _ rfl _ _ true hok'.out _).mono ?_)
          rintro e w5 ⟨rfl, hb5⟩
          have h05 := Lib.hid (h04.out.trans (hb5.mono h04.out.size))
          have hp5 := Lib.hid (hp4.out.below hb5 (by omega))
          have HO5 := Lib.hid (own_below HO4.out hb5)
          have HR5 := Lib.hid (HR4.out.next hb5)
          have hs5 := hb5.size
          clear hb5 hp4 HO4 HR4 c0 c1 c2 c3 c4 c5 c6 c7 c8 c9
          obtain ⟨c0, c1, c2, c3, c4, c5, c6, c7, c8, c9⟩ := hbx.out.below h05.out hs0
          obtain ⟨s0, s1, s2, s3, s4, s5, s6⟩ := hp5.out
          go_wp2_with fail
          (with_reducible refine (refWordV _ true hw7'.out _).mono ?_)
          rintro e w' ⟨rfl, rfl⟩
          go_wp2_with fail
          (with_reducible refine (refWordV _ true hw8'.out _).mono ?_)
          rintro e w' ⟨rfl, rfl⟩
          go_wp2_with fail
          (with_reducible refine (num13 _ _).mono ?_)
          rintro e w' ⟨rfl, rfl⟩
          have K := Lib.hid (refSegBytes src dst sp dp sq ak fl wn xs6 xs6.length rfl B6 p6 hok'.out (by omega) (by omega) w5 (hr6.out.next h05.out))
          go_wp2_with fail
          (with_reducible refine K.out.mono ?_)
          rintro e w6 ⟨A6, p6', rfl, hown6, hb6⟩
          have h06 := Lib.hid (h05.out.trans (hb6.mono h05.out.size))
          have hp6 := Lib.hid (hp5.out.below hb6 (by omega))
          have HO6 := Lib.hid (own_below HO5.out hb6)
          have K := Lib.hid (eqBytesN (sgBytes src dst sp dp sq ak fl wn xs6) (20 + xs6.length) hlen.out A4 A6 p4 p6' w6 (HR5.out.next hb6) (RB.of_ownN hown6) (by omega))
          have hs6 := hb6.size
          clear hb6 hown6 hp5 HO5 HR5 c0 c1 c2 c3 c4 c5 c6 c7 c8 c9 s0 s1 s2 s3 s4 s5 s6
          go_wp2_with fail
          (with_reducible refine K.out.mono ?_)
          rintro e w7 ⟨rfl, hb7⟩
          have h07 := Lib.hid (h06.out.trans (hb7.mono h06.out.size))
          have HO7 := Lib.hid (own_below HO6.out hb7)
          have K := Lib.hid (eqSeg sp dp sq ak fl wn xs6 xs6.length rfl A2 B6 p2 p6 w7 (RB.of_own HO7.out) (hr6.out.next h07.out) (by omega))
          obtain ⟨c0, c1, c2, c3, c4, c5, c6, c7, c8, c9⟩ := hbx.out.below h07.out hs0
          obtain ⟨s0, s1, s2, s3, s4, s5, s6⟩ := hp6.out.below hb7 (by omega)
          clear hb7 hp6 HO6
          go_wp2_with fail
          (with_reducible refine K.out.mono ?_)
          rintro e w8 ⟨rfl, hb8⟩
          have hbb8 := Lib.hid ((h0.out.trans (h07.out.mono hWs)).trans (hb8.mono (Nat.le_trans hWs h07.out.size)))
          clear K hb8 c0 c1 c2 c3 c4 c5 c6 c7 c8 c9 s0 s1 s2 s3 s4 s5 s6
          go_wp2
          go_roundw
          case rel => exact ⟨k + 1, by omega, by go_num, hbb8.out⟩
          case measure => simp [intOf]; omega
        · have hno := Bool.eq_false_iff.2 hok
          clear hok
          obtain ⟨bo, hbo⟩ : ∃ bo, Sg.ok ⟨n0, n1, n2, n3, n4, n5, xs6⟩ = bo := ⟨_, rfl⟩
          obtain ⟨bs, hbs⟩ : ∃ bs, wordB n7 = bs := ⟨_, rfl⟩
          obtain ⟨bd, hbd⟩ : ∃ bd, wordB n8 = bd := ⟨_, rfl⟩
          rw [hbo, hbs, hbd] at hno
          have K := Lib.hid (segBytes_no n7 n8 n0 n1 n2 n3 n4 n5 xs6 xs6.length rfl A2 p2 bo bs bd hbo hbs hbd hno w3)
          have KS := Lib.hid (fun w => refSegV n0 n1 n2 n3 n4 n5 xs6 xs6.length rfl B6 p6 bo hbo w)
          have KW7 := Lib.hid (fun w => refWordV n7 bs hbs w)
          have KW8 := Lib.hid (fun w => refWordV n8 bd hbd w)
          clear hbo hbs hbd
          (with_reducible refine K.out.mono ?_)
          rintro e w4 ⟨rfl, hb4⟩
          have h04 := Lib.hid (h03.out.trans (hb4.mono h03.out.size))
          clear K hb4
          obtain ⟨c0, c1, c2, c3, c4, c5, c6, c7, c8, c9⟩ := hbx.out.below h04.out hs0
          go_wp2_with fail
          (with_reducible refine (KS.out _).mono ?_)
          rintro e w5 ⟨rfl, hb5⟩
          have h05 := Lib.hid (h04.out.trans (hb5.mono h04.out.size))
          have hbb5 := Lib.hid (h0.out.trans (h05.out.mono hWs))
          clear hb5 KS c0 c1 c2 c3 c4 c5 c6 c7 c8 c9
          obtain ⟨c0, c1, c2, c3, c4, c5, c6, c7, c8, c9⟩ := hbx.out.below h05.out hs0
          have hc3 : bo = false ∨ (bo = true ∧ bs = false) ∨ (bo = true ∧ bs = true ∧ bd = false) := by
            cases bo <;> cases bs <;> cases bd <;> simp at hno ⊢
          clear hno
          rcases hc3 with rfl | ⟨rfl, rfl⟩ | ⟨rfl, rfl, rfl⟩
          all_goals
            go_wp2_with (first
              | (go_at_call 50; (with_reducible refine (KW7.out _).mono ?_); rintro e w' ⟨rfl, rfl⟩; clear KW7)
              | (go_at_call 50; (with_reducible refine (KW8.out _).mono ?_); rintro e w' ⟨rfl, rfl⟩; clear KW8)
              | (go_at_call 51; (with_reducible refine (num13 _ _).mono ?_); rintro e w' ⟨rfl, rfl⟩))
            clear c0 c1 c2 c3 c4 c5 c6 c7 c8 c9
            go_roundw
            case rel => exact ⟨k + 1, by omega, by go_num, hbb5.out⟩
            case measure => simp [intOf]; omega
      · have hbb := Lib.hid (h0.out.trans (h01.out.mono h0.out.size))
        go_wp2
        go_ret
        exact ⟨rfl, hbb.out⟩
    · by_cases hlt : k < len
      all_goals
        go_wp2_with (go_at_call 54; refine (wakes13 _).mono ?_; rintro e w' ⟨rfl, hb'⟩)
        go_ret
        exact ⟨rfl, hb.trans (hb'.mono hb.size)⟩

set_option maxRecDepth 100000 in
theorem segBytesLaw_lifted (os : Os) (started : os.Started) (H : Type) (enc : TypeId × Value → H) :
    ReturnsInHanded {} Try.checked os 14 .any (Rows.segBytesSpec.pre6 enc Try.prog Try.f14 [] false) (Rows.segBytesSpec.post enc Try.prog Try.f14 false true false false) := by
  refine law_lifted (T := 69) Try.func14 Try.params14 (by kernel_rfl) (by rw [Try.params14]; rfl) rfl (fun _ _ => rfl) (by kernel_rfl) (of_decide_eq_true (by kernel_rfl)) (by kernel_rfl) ?_ os started H enc
    (ChangeSpec.witness6 (enc := enc) (C := Try.checked) false ⟨#[], #[.slice none 0 0], []⟩ 8 (by kernel_rfl) (by kernel_rfl) (by kernel_rfl) (by kernel_rfl))
  intro H enc W v d p h
  obtain ⟨A, len, cap, rfl, hl, hc, ha⟩ := SegAsk.of h
  exact segBytes_walk A len cap W hl hc ha

theorem segBytesLaw_holds : Rows.SegBytesSaid :=
  OpenClaim.holds_of_wide 14 Try.f14 rfl rfl rfl rfl rfl rfl rfl ⟨rfl, rfl, rfl, rfl, rfl⟩ rfl rfl rfl rfl rfl (by kernel_rfl) Try.func14 (by kernel_rfl)
    (of_decide_eq_true (by kernel_rfl)) (by unfold Func.isWrapper; first | (rw [if_pos (by decide +kernel)]; kernel_rfl) | (rw [if_neg (by decide +kernel)]; exact ⟨rfl, rfl⟩))
    (fun os started H enc _ => segBytesLaw_lifted os started H enc)

end Go.Proofs.Ytjdokaiadljeeaa
