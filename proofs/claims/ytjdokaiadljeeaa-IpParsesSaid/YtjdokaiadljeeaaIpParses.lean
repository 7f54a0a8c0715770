/-
  PROVED: 'The packet that any bytes are is the page's, or the error is' (kiosklaw10.IpParses). CONDITIONS: none; for every argument.
-/
import Derived.Test.YtjdokaiadljeeaaIpL
import Derived.Deep.CutRange
import Derived.StillTailTactics
namespace Go.Proofs.Ytjdokaiadljeeaa
open Go.ChangeShapes Go.WideShapes Go.ChangeAt Go.RowKit Go.Deep

set_option maxRecDepth 100000 in
set_option maxHeartbeats 3200000 in
theorem ipParses_walk (A : Option Addr) (len cap : Nat) (W : World) (_hl : len ≤ cap) (_hc : cap ≤ maxLen) (ha : IpAsk W A len) :
    Calls Try.prog 11 #[.slice A len cap] W fun e W' => e = .returned (.bool true) ∧ Below W.heap.size W W' := by
  unfold maxLen at _hc
  go_enter Try.func11, Try.ntmps11
  go_wp2
  go_loopw [3, 4, 5, 6, 7, 8] (fun i _ _ _ _ _ wr => ∃ k : Nat, k ≤ len ∧ i = .int .i64 k ∧ Below W.heap.size W wr) (fun i _ _ _ _ _ _ => len - (intOf i).toNat)
  case atStart => exact ⟨0, Nat.zero_le _, rfl, Below.refl _ _⟩
  case round =>
    obtain ⟨k, hk, rfl, hb⟩ := hrel
    by_cases hin : k < len ∧ (k : Int) < 10
    · obtain ⟨hlt, h10⟩ := hin
      obtain ⟨b, o, n0, n1, n2, n3, n4, xs5, B5, p5, xs6, B6, p6, rfl, hrow, q5, q5', q6, q6'⟩ := ha.row k hlt
      have HR := Lib.hid hrow
      clear hrow ha
      have hb' := Lib.hid hb
      obtain ⟨hbl, c0, c1, c2, c3, c4, c5, c6, r5, r6⟩ := HR.out.next hb
      clear r5 r6 hbl hb
      go_wp2_with fail
      (with_reducible refine (heavy10 _ _ _ _ _ _ _ _ _ _ _ _).mono ?_)
      rintro e w1 ⟨hv, rfl, hsm, hb1⟩
      have hbb1 := Lib.hid (hb'.out.trans (hb1.mono hb'.out.size))
      clear c0 c1 c2 c3 c4 c5 c6 hb1
      rcases hv with _ | _
      · obtain ⟨h5, h6⟩ := hsm rfl
        obtain ⟨hbl, c0, c1, c2, c3, c4, c5, c6, r5, r6⟩ := HR.out.next hbb1.out
        have K := Lib.hid (copyN xs6 xs6.length rfl B6 p6 w1 r6 (by omega))
        clear r5 r6 hbl
        go_wp2_with fail
        (with_reducible refine K.out.mono ?_)
        rintro e w2 ⟨A2, p2, rfl, hown2, hb2⟩
        have hbb2 := Lib.hid (hbb1.out.trans (hb2.mono hbb1.out.size))
        have hp2 : xs6.length ≤ p2 := by
          obtain ⟨_, _, hA, h, _⟩ := own_shape hown2
          injection hA with _ _ h2
          omega
        have hin2 := Lib.hid (RB.of_own hown2)
        clear K hb2 hown2 c0 c1 c2 c3 c4 c5 c6
        obtain ⟨⟨⟨s, d, p, t, i, ys⟩, er⟩, hq⟩ : ∃ q, parseOut xs6 = q := ⟨_, rfl⟩
        have hpl : ys.length ≤ xs6.length := by have := parseOut_len xs6; rw [hq] at this; exact this
        have K := Lib.hid (ipParseQ xs6 xs6.length rfl A2 p2 hp2 w2 hin2.out (by omega) s d p t i er ys hq)
        have hq' := Lib.hid hq
        clear hq
        go_wp2_with fail
        (with_reducible refine K.out.mono ?_)
        rintro e w3 ⟨A3, p3, rfl, hown3, hb3⟩
        have hbb3 := Lib.hid (hbb2.out.trans (hb3.mono hbb2.out.size))
        have hin3 := Lib.hid (hin2.out.below hb3)
        have hs3 := hb3.size
        have hbA := Lib.hid (hbb3.out.alloc hbb3.out.size (.cells #[.int .i64 s, .int .i64 d, .int .i64 p, .int .i64 t, .int .i64 i, .slice A3 ys.length p3] 53))
        have hb34 := Lib.hid ((Below.refl w3.heap.size w3).alloc (Nat.le_refl _) (.cells #[.int .i64 s, .int .i64 d, .int .i64 p, .int .i64 t, .int .i64 i, .slice A3 ys.length p3] 53))
        have hp4 := Lib.hid (PkAt.box w3 s d p t i (.slice A3 ys.length p3) 53)
        have hs4 : (w3.alloc (.cells #[.int .i64 s, .int .i64 d, .int .i64 p, .int .i64 t, .int .i64 i, .slice A3 ys.length p3] 53)).heap.size = w3.heap.size + 1 := World.size_alloc _ _
        have HO3 := Lib.hid (own_below hown3 hb34.out)
        obtain ⟨hbl, c0, c1, c2, c3, c4, c5, c6, r5, r6⟩ := HR.out.next hbb3.out
        have K2 := Lib.hid (refParseQ xs6 xs6.length rfl B6 p6 q6 _ (HR.out.next hbA.out).2.2.2.2.2.2.2.2.2 (by omega) s d p t i er ys hq'.out)
        have hin4 := Lib.hid (hin3.out.below (hb34.out.mono hs3))
        clear K hb3 hown3 r5 r6 hin3 hp2
        go_wp2_with fail
        generalize w3.alloc (.cells #[.int .i64 s, .int .i64 d, .int .i64 p, .int .i64 t, .int .i64 i, .slice A3 ys.length p3] 53) = w4 at hbA hb34 hp4 HO3 K2 hin4 hs4 ⊢
        (with_reducible refine K2.out.mono ?_)
        rintro e w5 ⟨A5, p5', rfl, hown5, hb5⟩
        have hbb5 := Lib.hid (hbA.out.trans (hb5.mono hbA.out.size))
        have hs5 := hb5.size
        have hin5 := Lib.hid (hin4.out.below (hb5.mono (by omega)))
        have hp5 := Lib.hid (hp4.out.below hb5 (by omega))
        have HO5 := Lib.hid (own_below HO3.out hb5)
        have HQ5 := Lib.hid hown5
        clear K2 hb5 hown5 HO3 hp4 hin4 hb34 hbl c0 c1 c2 c3 c4 c5 c6
        have hb56 := Lib.hid ((Below.refl w5.heap.size w5).alloc (Nat.le_refl _) (.cells #[.int .i64 s, .int .i64 d, .int .i64 p, .int .i64 t, .int .i64 i, .slice A5 ys.length p5'] 53))
        have hbb6 := Lib.hid (hbb5.out.trans (hb56.out.mono hbb5.out.size))
        obtain ⟨z0, z1, z2, z3, z4, z5⟩ := hp5.out.below hb56.out (by omega)
        have hr6 := Lib.hid (RB.of_own (own_below HO5.out hb56.out))
        have hq6 := Lib.hid (RB.of_own (own_below HQ5.out hb56.out))
        have KE := Lib.hid (eqPacket s d p t i ys ys.length rfl A3 A5 p3 p5' _ hr6.out hq6.out (by omega))
        have hne : (er != er) = false := by simp
        go_wp2_with fail
        (with_reducible refine (num10 _ _).mono ?_)
        rintro e w' ⟨rfl, rfl⟩
        go_wp2_with fail
        have hp6 := Lib.hid (hp5.out.below hb56.out (by omega))
        have hO6 := Lib.hid (own_below HO5.out hb56.out)
        have hin6 := Lib.hid (hin5.out.below (hb56.out.mono (by omega)))
        have hs6 := hb56.out.size
        generalize w5.alloc (.cells #[.int .i64 s, .int .i64 d, .int .i64 p, .int .i64 t, .int .i64 i, .slice A5 ys.length p5'] 53) = w6 at hb56 hbb6 z0 z1 z2 z3 z4 z5 hr6 hq6 KE hp6 hO6 hin6 hs6 ⊢
        (with_reducible refine KE.out.mono ?_)
        rintro e w7 ⟨rfl, hb7⟩
        have hbb7 := Lib.hid (hbb6.out.trans (hb7.mono hbb6.out.size))
        have hs7 := hb7.size
        have hin7 := Lib.hid (hin6.out.below (hb7.mono (by omega)))
        have hO7 := Lib.hid (own_below hO6.out hb7)
        clear z0 z1 z2 z3 z4 z5 KE hr6 hq6 hO6 hin6 HO5 HQ5 hin5 hb56 hbb5
        obtain ⟨z0, z1, z2, z3, z4, z5⟩ := hp6.out.below hb7 (by omega)
        clear hb7
        have K8 := Lib.hid (spoilBytes w2.heap.size ys ys.length A3 p3 w7 hO7.out (by omega) (by omega))
        go_wp2_with fail
        (with_reducible refine K8.out.mono ?_)
        rintro e w8 ⟨rfl, hb8⟩
        have hbb8 := Lib.hid (hbb7.out.trans (hb8.mono hbb2.out.size))
        have hin8 := Lib.hid (hin7.out.below hb8)
        have hs8 : w2.heap.size ≤ w8.heap.size := by have := hb8.size; omega
        clear hb8 K8 z0 z1 z2 z3 z4 z5
        obtain ⟨hbl, c0, c1, c2, c3, c4, c5, c6, r5, r6⟩ := HR.out.next hbb8.out
        have K9 := Lib.hid (eqBytes xs6 A2 B6 p2 p6 w8 (hin8.out.more hs8) r6 (by unfold maxLen; omega))
        clear r5 r6
        go_wp2_with fail
        (with_reducible refine K9.out.mono ?_)
        rintro e w9 ⟨rfl, hw9⟩
        have hbb9 := Lib.hid (hbb8.out.trans ((below_of_drewN hw9).mono hbb8.out.size))
        clear K9 hw9 c0 c1 c2 c3 c4 c5 c6
        go_wp2
        go_roundw
        case rel => exact ⟨k + 1, by omega, by go_num, hbb9.out⟩
        case measure => simp [intOf]; omega
      · go_wp2
        go_ret
        exact ⟨rfl, hbb1.out⟩
    · by_cases hlt : k < len
      all_goals
        go_wp2_with (go_at_call 42; refine (wakes10 _).mono ?_; rintro e w' ⟨rfl, hb'⟩)
        go_ret
        exact ⟨rfl, hb.trans (hb'.mono hb.size)⟩

set_option maxRecDepth 100000 in
theorem ipParses_lifted (os : Os) (started : os.Started) (H : Type) (enc : TypeId × Value → H) :
    ReturnsInHanded {} Try.checked os 11 .any (Rows.ipParsesSpec.pre6 enc Try.prog Try.f11 [] false) (Rows.ipParsesSpec.post enc Try.prog Try.f11 false true false false) := by
  refine law_lifted (T := 50) Try.func11 Try.params11 (by kernel_rfl) (by rw [Try.params11]; rfl) rfl (fun _ _ => rfl) (by kernel_rfl) (of_decide_eq_true (by kernel_rfl)) (by kernel_rfl) ?_ os started H enc
    (ChangeSpec.witness6 (enc := enc) (C := Try.checked) false ⟨#[], #[.slice none 0 0], []⟩ 8 (by kernel_rfl) (by kernel_rfl) (by kernel_rfl) (by kernel_rfl))
  intro H enc W v d p h
  obtain ⟨A, len, cap, rfl, hl, hc, ha⟩ := IpAsk.of h
  exact ipParses_walk A len cap W hl hc ha

theorem ipParses_holds : Rows.IpParsesSaid :=
  OpenClaim.holds_of_wide 11 Try.f11 rfl rfl rfl rfl rfl rfl rfl ⟨rfl, rfl, rfl, rfl, rfl⟩ rfl rfl rfl rfl rfl (by kernel_rfl) Try.func11 (by kernel_rfl)
    (of_decide_eq_true (by kernel_rfl)) (by unfold Func.isWrapper; first | (rw [if_pos (by decide +kernel)]; kernel_rfl) | (rw [if_neg (by decide +kernel)]; exact ⟨rfl, rfl⟩))
    (fun os started H enc _ => ipParses_lifted os started H enc)

end Go.Proofs.Ytjdokaiadljeeaa
