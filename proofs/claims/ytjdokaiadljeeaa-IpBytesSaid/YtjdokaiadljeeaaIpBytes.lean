/-
  PROVED: 'Any packet's bytes are the page's, or refused' (kiosklaw10.IpBytes). CONDITIONS: none; for every argument.
-/
import Derived.Test.YtjdokaiadljeeaaIpL
import Derived.Deep.CutRange
import Derived.StillTailTactics
namespace Go.Proofs.Ytjdokaiadljeeaa
open Go.ChangeShapes Go.WideShapes Go.ChangeAt Go.RowKit Go.Deep

set_option maxRecDepth 100000 in
set_option maxHeartbeats 3200000 in
theorem ipBytes_walk (A : Option Addr) (len cap : Nat) (W : World) (_hl : len ≤ cap) (_hc : cap ≤ maxLen) (ha : IpAsk W A len) :
    Calls Try.prog 10 #[.slice A len cap] W fun e W' => e = .returned (.bool true) ∧ Below W.heap.size W W' := by
  unfold maxLen at _hc
  go_enter Try.func10, Try.ntmps10
  go_wp2
  go_loopw [3, 4, 5, 6] (fun i _ _ _ wr => ∃ k : Nat, k ≤ len ∧ i = .int .i64 k ∧ Below W.heap.size W wr) (fun i _ _ _ _ => len - (intOf i).toNat)
  case atStart => exact ⟨0, Nat.zero_le _, rfl, Below.refl _ _⟩
  case round =>
    obtain ⟨k, hk, rfl, hb⟩ := hrel
    by_cases hin : k < len ∧ (k : Int) < 10
    · obtain ⟨hlt, h10⟩ := hin
      obtain ⟨b, o, n0, n1, n2, n3, n4, xs5, B5, p5, xs6, B6, p6, rfl, hrow, q5, q5', q6, q6'⟩ := ha.row k hlt
      have HR := Lib.hid hrow
      clear hrow ha
      have hb' := Lib.hid hb
      obtain ⟨hbl, c0, c1, c2, c3, c4, c5, c6, r5, r6⟩ := HR.out.next hb
      clear r5 r6 hbl hb
      go_wp2_with fail
      (with_reducible refine (heavy10 _ _ _ _ _ _ _ _ _ _ _ _).mono ?_)
      rintro e w1 ⟨hv, rfl, hsm, hb1⟩
      have hbb1 := Lib.hid (hb'.out.trans (hb1.mono hb'.out.size))
      clear c0 c1 c2 c3 c4 c5 c6 hb1
      rcases hv with _ | _
      · obtain ⟨h5, h6⟩ := hsm rfl
        clear hsm
        obtain ⟨hbl, c0, c1, c2, c3, c4, c5, c6, r5, r6⟩ := HR.out.next hbb1.out
        have K := Lib.hid (copyPacket n0 n1 n2 n3 n4 xs5 xs5.length rfl B5 p5 w1 r5 (by omega))
        clear r5 r6
        go_wp2_with fail
        (with_reducible refine K.out.mono ?_)
        rintro e w2 ⟨A2, p2, rfl, hown2, hb2⟩
        have hbb2 := Lib.hid (hbb1.out.trans (hb2.mono hbb1.out.size))
        clear K hb2 c0 c1 c2 c3 c4 c5 c6 hbl
        obtain ⟨hbl, c0, c1, c2, c3, c4, c5, c6, r5, r6⟩ := HR.out.next hbb2.out
        clear r5 r6
        have hb23 := Lib.hid ((Below.refl w2.heap.size w2).alloc (Nat.le_refl _) (.cells #[.int .i64 n0, .int .i64 n1, .int .i64 n2, .int .i64 n3, .int .i64 n4, .slice A2 xs5.length p2] 53))
        have hbb3 := Lib.hid (hbb2.out.trans (hb23.out.mono hbb2.out.size))
        have hp3 := Lib.hid (PkAt.box w2 n0 n1 n2 n3 n4 (.slice A2 xs5.length p2) 53)
        have hs3 : w2.heap.size < (w2.alloc (.cells #[.int .i64 n0, .int .i64 n1, .int .i64 n2, .int .i64 n3, .int .i64 n4, .slice A2 xs5.length p2] 53)).heap.size := by rw [World.size_alloc]; omega
        have HO3 := Lib.hid (own_below hown2 hb23.out)
        clear hown2
        go_wp2_with fail
        generalize w2.alloc (.cells #[.int .i64 n0, .int .i64 n1, .int .i64 n2, .int .i64 n3, .int .i64 n4, .slice A2 xs5.length p2] 53) = w3 at hb23 hbb3 hp3 HO3 hs3 ⊢
        clear c0 c1 c2 c3 c4 c5 c6 hbl hb23
        by_cases hok : Pk.ok ⟨n0, n1, n2, n3, n4, xs5⟩ = true
        · obtain ⟨s, d, p, t, i, rfl, rfl, rfl, rfl, rfl⟩ := pkOk_nat hok
          have hok' := Lib.hid hok
          clear hok
          have K := Lib.hid (ipBytes s d p t i xs5 xs5.length rfl A2 p2 hok'.out w3 (RB.of_own HO3.out))
          (with_reducible refine K.out.mono ?_)
          rintro e w4 ⟨A4, p4, rfl, hown4, hb4⟩
          have hbb4 := Lib.hid (hbb3.out.trans (hb4.mono hbb3.out.size))
          have hp4 := Lib.hid (hp3.out.below hb4 hs3)
          have hO4 := Lib.hid (own_below HO3.out hb4)
          have hs4 := hb4.size
          have HB4 := Lib.hid hown4
          clear K hown4 hb4 hp3
          obtain ⟨hbl, c0, c1, c2, c3, c4, c5, c6, r5, r6⟩ := HR.out.next hbb4.out
          clear r5 r6
          go_wp2_with fail
          (with_reducible refine (refPacketV _ _ _ _ _ xs5 _ rfl _ _ true hok'.out _).mono ?_)
          rintro e w5 ⟨rfl, hb5⟩
          have hbb5 := Lib.hid (hbb4.out.trans (hb5.mono hbb4.out.size))
          have hp5 := Lib.hid (hp4.out.below hb5 (by omega))
          have hO5 := Lib.hid (own_below hO4.out hb5)
          have HB5 := Lib.hid (own_below HB4.out hb5)
          have hs5 := hb5.size
          clear hb5 hp4 hO4 HB4 HO3 hbl c0 c1 c2 c3 c4 c5 c6
          have hlen : Hid ((ipHead s d p t i xs5.length ++ xs5).length = 20 + xs5.length) := by unfold Hid; rw [List.length_append, ipHead_length]
          obtain ⟨hbl, c0, c1, c2, c3, c4, c5, c6, r5, r6⟩ := HR.out.next hbb5.out
          have KP := Lib.hid (refPBytes s d p t i xs5 xs5.length rfl B5 p5 hok'.out w5.drew r5)
          obtain ⟨z0, z1, z2, z3, z4, z5⟩ := hp5.out
          clear r5 r6
          have hi1 : (0 : Int) ≤ (k : Int) := by omega
          go_wp2_with fail
          have hk0 : Hid (RB w5.drew w5.drew.heap.size A4 (ipHead s d p t i xs5.length ++ xs5)) := Lib.hid (RB.of_ownN HB5.out)
          go_region_held3 (fun w' => w'.cell? ⟨b, o + k * 7, none⟩ = some (.int .i64 s) ∧ w'.cell? ⟨b, o + k * 7 + 1, none⟩ = some (.int .i64 d) ∧ w'.cell? ⟨b, o + k * 7 + 2, none⟩ = some (.int .i64 p) ∧ w'.cell? ⟨b, o + k * 7 + 3, none⟩ = some (.int .i64 t) ∧ w'.cell? ⟨b, o + k * 7 + 4, none⟩ = some (.int .i64 i) ∧ w'.cell? ⟨b, o + k * 7 + 5, none⟩ = some (.slice B5 xs5.length p5) ∧ w'.cell? ⟨w2.heap.size, 0, none⟩ = some (.int .i64 s) ∧ w'.cell? ⟨w2.heap.size, 1, none⟩ = some (.int .i64 d) ∧ w'.cell? ⟨w2.heap.size, 2, none⟩ = some (.int .i64 p) ∧ w'.cell? ⟨w2.heap.size, 3, none⟩ = some (.int .i64 t) ∧ w'.cell? ⟨w2.heap.size, 4, none⟩ = some (.int .i64 i) ∧ w'.cell? ⟨w2.heap.size, 5, none⟩ = some (.slice A2 xs5.length p2)) (go_keep)
            (first
              | (go_at_call 39; (with_reducible refine (num10 _ _).mono ?_); rintro e w' ⟨rfl, rfl⟩)
              | (go_at_call 40; (with_reducible refine KP.out.mono ?_); rintro e w6 ⟨A6, p6', rfl, hown6, hb6⟩; have hbb6 := Lib.hid (hbb5.out.drew.trans (hb6.mono hbb5.out.size)); have hp6 := Lib.hid (PkAt.below (w := w5.drew) hp5.out hb6 (Nat.lt_of_lt_of_le hs3 (Nat.le_trans hs4 hs5))); have hO6 := Lib.hid (own_below (w := w5.drew) hO5.out hb6); have hE := Lib.hid (eqBytesN (ipHead s d p t i xs5.length ++ xs5) (20 + xs5.length) hlen.out A4 A6 p4 p6' w6 (hk0.out.next hb6) (RB.of_ownN hown6) (by omega)); have hs6 : w2.heap.size < w6.heap.size := Nat.lt_of_lt_of_le (Nat.lt_of_lt_of_le hs3 (Nat.le_trans hs4 hs5)) hb6.size; clear hown6 hb6; obtain ⟨hbl6, d0, d1, d2, d3, d4, d5, d6, r5, r6⟩ := HR.out.next hbb6.out; clear r5 r6; obtain ⟨y0, y1, y2, y3, y4, y5⟩ := hp6.out)
              | (go_at_call 21; (with_reducible refine hE.out.mono ?_); rintro e w7 ⟨rfl, hb7⟩; have hbb7 := Lib.hid (hbb6.out.trans (hb7.mono hbb6.out.size)); have hp7 := Lib.hid (hp6.out.below hb7 hs6); have hO7 := Lib.hid (own_below hO6.out hb7); have hs7 := hb7.size; clear hE hb7 d0 d1 d2 d3 d4 d5 d6 y0 y1 y2 y3 y4 y5 hbl6; obtain ⟨hbl6, d0, d1, d2, d3, d4, d5, d6, r5, r6⟩ := HR.out.next hbb7.out; have hE := Lib.hid (eqPacket s d p t i xs5 xs5.length rfl A2 B5 p2 p5 w7 (RB.of_ownN hO7.out) r5 (by omega)); clear r5 r6; obtain ⟨y0, y1, y2, y3, y4, y5⟩ := hp7.out)
              | (go_at_call 41; (with_reducible refine hE.out.mono ?_); rintro e w8 ⟨rfl, hb8⟩; have hbb8 := Lib.hid (hbb7.out.trans (hb8.mono hbb7.out.size)); have hp8 := Lib.hid (hp7.out.below hb8 (Nat.lt_of_lt_of_le hs6 hs7)); clear hE hb8 d0 d1 d2 d3 d4 d5 d6 y0 y1 y2 y3 y4 y5 hbl6; obtain ⟨hbl6, d0, d1, d2, d3, d4, d5, d6, r5, r6⟩ := HR.out.next hbb8.out; clear r5 r6; obtain ⟨y0, y1, y2, y3, y4, y5⟩ := hp8.out))
          all_goals
            clear c0 c1 c2 c3 c4 c5 c6 d0 d1 d2 d3 d4 d5 d6 y0 y1 y2 y3 y4 y5 z0 z1 z2 z3 z4 z5
            go_wp2
            go_roundw
            case rel => exact ⟨k + 1, by omega, by go_num, hbb8.out⟩
            case measure => simp [intOf]; omega
        · have hok' := Lib.hid (Bool.eq_false_iff.2 hok)
          clear hok
          have K := Lib.hid (ipBytes_no n0 n1 n2 n3 n4 xs5 xs5.length rfl A2 p2 hok'.out w3)
          (with_reducible refine K.out.mono ?_)
          rintro e w4 ⟨rfl, hb4⟩
          have hbb4 := Lib.hid (hbb3.out.trans (hb4.mono hbb3.out.size))
          clear K hb4
          obtain ⟨hbl, c0, c1, c2, c3, c4, c5, c6, r5, r6⟩ := HR.out.next hbb4.out
          clear r5 r6
          go_wp2_with fail
          (with_reducible refine (refPacketV _ _ _ _ _ xs5 _ rfl _ _ false hok'.out _).mono ?_)
          rintro e w5 ⟨rfl, hb5⟩
          have hbb5 := Lib.hid (hbb4.out.trans (hb5.mono hbb4.out.size))
          clear hb5 hbl c0 c1 c2 c3 c4 c5 c6
          go_wp2_with fail
          (with_reducible refine (num10 _ _).mono ?_)
          rintro e w' ⟨rfl, rfl⟩
          go_wp2
          go_roundw
          case rel => exact ⟨k + 1, by omega, by go_num, hbb5.out⟩
          case measure => simp [intOf]; omega
      · go_wp2
        go_ret
        exact ⟨rfl, hbb1.out⟩
    · by_cases hlt : k < len
      all_goals
        go_wp2_with (go_at_call 42; refine (wakes10 _).mono ?_; rintro e w' ⟨rfl, hb'⟩)
        go_ret
        exact ⟨rfl, hb.trans (hb'.mono hb.size)⟩

set_option maxRecDepth 100000 in
theorem ipBytesLaw_lifted (os : Os) (started : os.Started) (H : Type) (enc : TypeId × Value → H) :
    ReturnsInHanded {} Try.checked os 10 .any (Rows.ipBytesSpec.pre6 enc Try.prog Try.f10 [] false) (Rows.ipBytesSpec.post enc Try.prog Try.f10 false true false false) := by
  refine law_lifted (T := 50) Try.func10 Try.params10 (by kernel_rfl) (by rw [Try.params10]; rfl) rfl (fun _ _ => rfl) (by kernel_rfl) (of_decide_eq_true (by kernel_rfl)) (by kernel_rfl) ?_ os started H enc
    (ChangeSpec.witness6 (enc := enc) (C := Try.checked) false ⟨#[], #[.slice none 0 0], []⟩ 8 (by kernel_rfl) (by kernel_rfl) (by kernel_rfl) (by kernel_rfl))
  intro H enc W v d p h
  obtain ⟨A, len, cap, rfl, hl, hc, ha⟩ := IpAsk.of h
  exact ipBytes_walk A len cap W hl hc ha

theorem ipBytesLaw_holds : Rows.IpBytesSaid :=
  OpenClaim.holds_of_wide 10 Try.f10 rfl rfl rfl rfl rfl rfl rfl ⟨rfl, rfl, rfl, rfl, rfl⟩ rfl rfl rfl rfl rfl (by kernel_rfl) Try.func10 (by kernel_rfl)
    (of_decide_eq_true (by kernel_rfl)) (by unfold Func.isWrapper; first | (rw [if_pos (by decide +kernel)]; kernel_rfl) | (rw [if_neg (by decide +kernel)]; exact ⟨rfl, rfl⟩))
    (fun os started H enc _ => ipBytesLaw_lifted os started H enc)

end Go.Proofs.Ytjdokaiadljeeaa
