/-
  PROVED: 'A packet's bytes are read as it, whatever stands behind them; cut off anywhere they are cut; one bit of the head behind its first byte turned is an error: without the page's own' (kiosklaw10.IpBack). CONDITIONS: none; for every argument.
-/
import Derived.Test.YtjdokaiadljeeaaIpL
import Derived.Deep.CutRange
import Derived.StillTailTactics
namespace Go.Proofs.Ytjdokaiadljeeaa
open Go.ChangeShapes Go.WideShapes Go.ChangeAt Go.RowKit Go.Deep

set_option maxRecDepth 100000 in
set_option maxHeartbeats 6400000 in
theorem ipBack_walk (A : Option Addr) (len cap : Nat) (W : World) (_hl : len ≤ cap) (_hc : cap ≤ maxLen) (ha : IpAsk W A len) :
    Calls Try.prog 12 #[.slice A len cap] W fun e W' => e = .returned (.bool true) ∧ Below W.heap.size W W' := by
  unfold maxLen at _hc
  go_enter Try.func12, Try.ntmps12
  go_wp2
  go_loopw [3, 4, 5, 6, 7, 8, 9, 10, 11, 12, 13, 14] (fun i _ _ _ _ _ _ _ _ _ _ _ wr => ∃ k : Nat, k ≤ len ∧ i = .int .i64 k ∧ Below W.heap.size W wr) (fun i _ _ _ _ _ _ _ _ _ _ _ _ => len - (intOf i).toNat)
  case atStart => exact ⟨0, Nat.zero_le _, rfl, Below.refl _ _⟩
  case round =>
    obtain ⟨k, hk, rfl, hb⟩ := hrel
    by_cases hin : k < len ∧ (k : Int) < 10
    · obtain ⟨hlt, h10⟩ := hin
      obtain ⟨b, o, n0, n1, n2, n3, n4, xs5, B5, p5, xs6, B6, p6, rfl, hrow, q5, q5', q6, q6'⟩ := ha.row k hlt
      have HR := Lib.hid hrow
      clear hrow ha
      have hb' := Lib.hid hb
      obtain ⟨hbl, c0, c1, c2, c3, c4, c5, c6, r5, r6⟩ := HR.out.next hb
      clear r5 r6 hbl hb
      go_wp2_with fail
      (with_reducible refine (heavy10 _ _ _ _ _ _ _ _ _ _ _ _).mono ?_)
      rintro e w1 ⟨hv, rfl, hsm, hb1⟩
      have hbb1 := Lib.hid (hb'.out.trans (hb1.mono hb'.out.size))
      clear c0 c1 c2 c3 c4 c5 c6 hb1
      rcases hv with _ | _
      · obtain ⟨h5, h6⟩ := hsm rfl
        clear hsm
        obtain ⟨hbl, c0, c1, c2, c3, c4, c5, c6, r5, r6⟩ := HR.out.next hbb1.out
        by_cases hok : Pk.ok ⟨n0, n1, n2, n3, n4, xs5⟩ = true
        · obtain ⟨s, d, p, t, i, rfl, rfl, rfl, rfl, rfl⟩ := pkOk_nat hok
          have hok' := Lib.hid hok
          clear hok
          have K := Lib.hid (ipBytes s d p t i xs5 xs5.length rfl B5 p5 hok'.out w1 r5)
          clear r5 r6
          go_wp2_with fail
          (with_reducible refine K.out.mono ?_)
          rintro e w4 ⟨A4, p4, rfl, hown4, hb4⟩
          have hbb4 := Lib.hid (hbb1.out.trans (hb4.mono hbb1.out.size))
          have HB4 := Lib.hid hown4
          have hlen : Hid ((ipHead s d p t i xs5.length ++ xs5).length = 20 + xs5.length) := by unfold Hid; rw [List.length_append, ipHead_length]
          clear K hown4 hb4 hbl c0 c1 c2 c3 c4 c5 c6
          go_wp2_with fail
          (with_reducible refine (num10 _ _).mono ?_)
          rintro e w' ⟨rfl, rfl⟩
          obtain ⟨hbl, c0, c1, c2, c3, c4, c5, c6, r5, r6⟩ := HR.out.next hbb4.out
          have hin4 := Lib.hid (RB.of_ownN HB4.out)
          have hk1 : Hid (parseOut (ipHead s d p t i xs5.length ++ xs5 ++ xs6) = (⟨s, d, p, t, i, xs5⟩, 0)) := Lib.hid (parse_back ⟨s, d, p, t, i, xs5⟩ hok'.out xs6)
          have hi1 : (0 : Int) ≤ (k : Int) := by omega
          have hin4d : Hid (RB w4.drew w4.drew.heap.size A4 (ipHead s d p t i xs5.length ++ xs5)) := Lib.hid hin4.out
          have h4d : Hid (Below w4.heap.size w4 w4.drew) := Lib.hid (Below.refl _ _).drew
          have hs4d : w4.drew.heap.size = w4.heap.size := rfl
          have hW4 := hbb4.out.size
          have n4 : w4.heap.size ≠ b := by omega
          have n4' : b ≠ w4.heap.size := by omega
          clear r5 r6
          go_wp2_with fail
          go_cut [6, 7] from 15 to 121 (fun s6 s7 wx => s7 = .int .i64 0 ∧ ∃ (g : Nat) (A7 : Option Addr) (p7 : Nat), s6 = .pointer (some ⟨g, 0, none⟩) ∧ PkAt wx g s d p t i (.slice A7 xs5.length p7) ∧ w4.heap.size ≤ g ∧ g < wx.heap.size ∧ RB wx wx.heap.size A7 xs5 ∧ Below w4.heap.size w4 wx)
          case first =>
            go_region_held3 (fun w' => w'.cell? ⟨b, o + k * 7 + 6, none⟩ = some (.slice B6 xs6.length p6)) (go_keep)
              (first
                | (go_at_call 18; (with_reducible refine (copyN (ipHead s d p t i xs5.length ++ xs5) (20 + xs5.length) hlen.out A4 p4 _ (by first | exact hin4d.out | exact hin4d.out.next (balloc _ _)) (by omega)).mono ?_); rintro e w5 ⟨A5, p5', rfl, hown5, hb5⟩; have h45 : Hid (Below w4.heap.size w4 w5) := Lib.hid (by first | exact h4d.out.trans (hb5.mono (Nat.le_refl _)) | exact (h4d.out.alloc (Nat.le_refl _) _).trans (hb5.mono (balloc _ _).size)); have hO5 := Lib.hid hown5; have hs5 : w4.heap.size ≤ w5.heap.size := h45.out.size; have n5 : w5.heap.size ≠ b := (by omega); have n5' : b ≠ w5.heap.size := (by omega); (try have bx5 := PkF.nextBox hb5); (try have bx5 := PkF.nextBoxD hb5); have hsz5 := hb5.size; clear hown5 hb5; obtain ⟨hbl5, d0, d1, d2, d3, d4, d5, d6, r5, r6⟩ := HR.out.next (hbb4.out.trans (h45.out.mono hW4)); have R6 := Lib.hid r6; clear r5 r6)
                | (refine step_append_bytes rfl _ _ 24 rfl w4.heap.size 5 Try.underlying24 info_u8 _ _ (ipHead s d p t i xs5.length ++ xs5) (by exact rfl) (by first | exact own_base hO5.out (Nat.le_refl _) | exact own_base hO5.out (balloc _ _).size | exact own_base (hO5.out.alloc _) (Nat.le_refl _)) B6 xs6.length p6 xs6 rfl (by exact rfl) (by first | exact R6.out | exact R6.out.next (balloc _ _)) (by omega) (by first | exact hs5 | exact Nat.le_trans hs5 (balloc _ _).size) ?_; intro A6 p6' w6 hown6 hb6 hg6; have h46 : Hid (Below w4.heap.size w4 w6) := Lib.hid (by first | exact h45.out.trans hb6 | exact (h45.out.alloc hs5 _).trans hb6); have hs6 : w4.heap.size ≤ w6.heap.size := h46.out.size; have n6 : w6.heap.size ≠ b := (by omega); have n6' : b ≠ w6.heap.size := (by omega); have hP6 := Lib.hid (RB.of_ownN hown6); have hc6 : 20 + xs5.length + xs6.length ≤ p6' := (by obtain ⟨_, _, hA, h, _⟩ := own_shape hown6; injection hA with _ _ h2; omega); (try have bx6 := PkF.nextGrown hg6 (own_ne hO5.out (Or.inr (Nat.le_refl _)))); (try have bx6 := bx5.grown hg6 (Nat.lt_of_lt_of_le (by first | exact lt_alloc _ _ | exact lt_alloc_drew _ _) hsz5) (own_ne hO5.out (Or.inl (by first | exact lt_alloc _ _ | exact lt_alloc_drew _ _)))); have hsz6 := hb6.size; clear hown6 hb6 hg6 d0 d1 d2 d3 d4 d5 d6 hbl5; obtain ⟨hbl5, d0, d1, d2, d3, d4, d5, d6, r5, r6⟩ := HR.out.next (hbb4.out.trans (h46.out.mono hW4)); clear r5 r6)
                | (go_at_call 43; (with_reducible refine (ipParseQ (ipHead s d p t i xs5.length ++ xs5 ++ xs6) (20 + xs5.length + xs6.length) (by rw [List.length_append, hlen.out]) A6 p6' hc6 _ (by first | exact hP6.out | exact hP6.out.next (balloc _ _)) (by omega) s d p t i 0 xs5 hk1.out).mono ?_); rintro e w7 ⟨A7, p7, rfl, hown7, hb7⟩; have h47 : Hid (Below w4.heap.size w4 w7) := Lib.hid (by first | exact h46.out.trans (hb7.mono hs6) | exact (h46.out.alloc hs6 _).trans (hb7.mono (Nat.le_trans hs6 (balloc _ _).size))); have hs7 : w4.heap.size ≤ w7.heap.size := h47.out.size; have hO7 := Lib.hid hown7; (try have bx7 := PkF.finBox hb7 hown7); (try have bx7 := bx6.fin hb7 (by first | exact Nat.lt_of_lt_of_le (lt_alloc _ _) hsz6 | exact Nat.lt_of_lt_of_le (Nat.lt_of_lt_of_le (lt_alloc_drew _ _) hsz5) hsz6) hown7); (try obtain ⟨⟨⟨z0, z1, z2, z3, z4, z5⟩, hz7⟩, hgo, hgl⟩ := bx7); (try (have y0 := hz7 0; have y1 := hz7 1; have y2 := hz7 2; have y3 := hz7 3; have y4 := hz7 4; have y5 := hz7 5; clear hz7)); clear hsz5 hsz6; clear d0 d1 d2 d3 d4 d5 d6 hbl5; obtain ⟨hbl5, d0, d1, d2, d3, d4, d5, d6, r5, r6⟩ := HR.out.next (hbb4.out.trans (h47.out.mono hW4)); clear r5 r6))
            all_goals
              go_wp2_with fail
              go_meet
              case rel =>
                refine ⟨rfl, _, A7, p7, rfl, ?_⟩
                first
                  | (with_reducible exact box_fin s d p t i _ hO7.out h47.out hs7)
                  | (have hgB := hs7; with_reducible exact set6_fin (PkAt.of z0 z1 z2 z3 z4 z5) s d p t i hO7.out hgo h47.out (by omega) hgl)
          case rest =>
            obtain ⟨rfl, g, A7, p7, rfl, hp7, hg1, hg2, hr7, h47⟩ := hcut
            have HP7 := Lib.hid hp7
            have HR7 := Lib.hid hr7
            have H47 := Lib.hid h47
            have hbbc := Lib.hid (hbb4.out.trans (h47.mono hW4))
            clear hp7 hr7 h47 c0 c1 c2 c3 c4 c5 c6 n4 n4' hbl
            obtain ⟨hbl, c0, c1, c2, c3, c4, c5, c6, r5, r6⟩ := HR.out.next hbbc.out
            obtain ⟨z0, z1, z2, z3, z4, z5⟩ := HP7.out
            have KE := Lib.hid (eqPacket s d p t i xs5 xs5.length rfl A7 B5 p7 p5 wc.drew HR7.out r5 (by omega))
            clear r5 r6
            go_wp2_with fail
            go_region_held3 (fun w' => w'.cell? ⟨b, o + k * 7, none⟩ = some (.int .i64 s) ∧ w'.cell? ⟨b, o + k * 7 + 1, none⟩ = some (.int .i64 d) ∧ w'.cell? ⟨b, o + k * 7 + 2, none⟩ = some (.int .i64 p) ∧ w'.cell? ⟨b, o + k * 7 + 3, none⟩ = some (.int .i64 t) ∧ w'.cell? ⟨b, o + k * 7 + 4, none⟩ = some (.int .i64 i) ∧ w'.cell? ⟨b, o + k * 7 + 5, none⟩ = some (.slice B5 xs5.length p5) ∧ w'.cell? ⟨g, 0, none⟩ = some (.int .i64 s) ∧ w'.cell? ⟨g, 1, none⟩ = some (.int .i64 d) ∧ w'.cell? ⟨g, 2, none⟩ = some (.int .i64 p) ∧ w'.cell? ⟨g, 3, none⟩ = some (.int .i64 t) ∧ w'.cell? ⟨g, 4, none⟩ = some (.int .i64 i) ∧ w'.cell? ⟨g, 5, none⟩ = some (.slice A7 xs5.length p7)) (go_keep)
              (first
                | (go_at_call 39; (with_reducible refine (num10 _ _).mono ?_); rintro e w' ⟨rfl, rfl⟩)
                | (go_at_call 41; (with_reducible refine KE.out.mono ?_); rintro e w8 ⟨rfl, hb8⟩; have h48 := Lib.hid (H47.out.drew.trans (hb8.mono H47.out.size)); have hbb8 := Lib.hid (hbbc.out.drew.trans (hb8.mono hbbc.out.size)); have hp8 := PkAt.below (w := wc.drew) HP7.out hb8 hg2; clear hb8; obtain ⟨hbl8, d0, d1, d2, d3, d4, d5, d6, r5, r6⟩ := HR.out.next hbb8.out; clear r5 r6; obtain ⟨y0, y1, y2, y3, y4, y5⟩ := hp8))
            clear c0 c1 c2 c3 c4 c5 c6 d0 d1 d2 d3 d4 d5 d6 y0 y1 y2 y3 y4 y5 z0 z1 z2 z3 z4 z5 KE
            have hzl : xs5.length ≤ 1480 := (Pk.ok_iff.1 hok'.out).2.2.2.2.2
            have hp4c : 20 + xs5.length ≤ p4 := by obtain ⟨_, _, hA, h, _⟩ := own_shape HB4.out; injection hA with _ _ h2; omega
            have H48 := h48
            clear HP7 HR7 H47 hbbc hbl8 h48 h4d hin4d hk1
            go_wp2
            go_loopw [8, 9, 10] (fun i _ _ wr2 => ∃ j : Nat, j ≤ 10000 ∧ i = .int .i64 j ∧ Hid (Below w4.heap.size w4 wr2)) (fun i _ _ _ => (20 + xs5.length) - (intOf i).toNat)
            case atStart => exact ⟨0, Nat.zero_le _, rfl, H48⟩
            case round =>
              obtain ⟨j, hj, rfl, h4r⟩ := hrel
              by_cases hjl : j < 20 + xs5.length
              · have hjp : j ≤ p4 := by omega
                have hq : parseOut ((ipHead s d p t i xs5.length ++ xs5).take j) = (⟨0, 0, 0, 0, 0, []⟩, 7) := parse_cut ⟨s, d, p, t, i, xs5⟩ hok'.out j hjl
                have KP := Lib.hid (fun w' (hw : Below w4.heap.size w4 w') => ipParseQ ((ipHead s d p t i xs5.length ++ xs5).take j) j (by rw [List.length_take, hlen.out]; omega) A4 p4 hjp w' ((hin4.out.next hw).take j) (by omega) 0 0 0 0 0 7 [] hq)
                clear hq
                have hj1 : (j : Int) ≤ (p4 : Int) := by omega
                go_wp2_with fail
                (with_reducible refine (KP.out _ h4r.out).mono ?_)
                rintro e w9 ⟨A9, p9, he, _, hb9⟩
                have he' : e = .returned (.tuple #[.agg #[.int .i64 0, .int .i64 0, .int .i64 0, .int .i64 0, .int .i64 0, .slice A9 0 p9], .int .i64 7]) := he
                subst he'
                have h4r9 := Lib.hid ((h4r.out.trans (hb9.mono h4r.out.size)).alloc (Nat.le_trans h4r.out.size hb9.size) (.cells #[.int .i64 0, .int .i64 0, .int .i64 0, .int .i64 0, .int .i64 0, .slice A9 0 p9] 53))
                clear he hb9 KP
                go_wp2_with fail
                (with_reducible refine (num10 _ _).mono ?_)
                rintro e w' ⟨rfl, rfl⟩
                go_wp2
                go_roundw
                case rel => exact ⟨j + 1 + (20 + xs5.length) / 25, by omega, by congr 1, h4r9⟩
                case measure => simp [intOf]; omega
              · go_wp2
                clear hjl hj
                obtain ⟨wo, rfl⟩ : ∃ wo : World, wo = wr := ⟨_, rfl⟩
                go_loopw [11, 12, 13, 14] (fun i _ _ _ wr3 => ∃ j : Nat, 8 ≤ j ∧ j ≤ 10000 ∧ i = .int .i64 j ∧ Hid (Below w4.heap.size w4 wr3)) (fun i _ _ _ _ => 160 - (intOf i).toNat)
                case atStart => exact ⟨8, by omega, by omega, rfl, h4r⟩
                case round =>
                  clear h4r
                  obtain ⟨j, hj8, hj, rfl, h4r⟩ := hrel
                  by_cases hjl : j < 160
                  · have KC := Lib.hid (fun w' (hw : Below w4.heap.size w4 w') => copyN (ipHead s d p t i xs5.length ++ xs5) (20 + xs5.length) hlen.out A4 p4 w' (hin4.out.next hw) (by omega))
                    go_wp2_with fail
                    (with_reducible refine (KC.out _ h4r.out).mono ?_)
                    rintro e w9 ⟨A9, p9, rfl, hown9, hb9⟩
                    have h49 := Lib.hid (h4r.out.trans (hb9.mono h4r.out.size))
                    have hs9 := h4r.out.size
                    have hp9c : 20 + xs5.length ≤ p9 := by obtain ⟨_, _, hA, h, _⟩ := own_shape hown9; injection hA with _ _ h2; omega
                    obtain ⟨g9, rfl, hg9, hg9'⟩ := own_form hown9 (by omega)
                    obtain ⟨q8, hq8⟩ : ∃ q8, q8 = j / 8 := ⟨_, rfl⟩
                    obtain ⟨r8, hr8⟩ : ∃ r8, r8 = j % 8 := ⟨_, rfl⟩
                    have hq8l : q8 < 20 := by omega
                    have hr8l : r8 < 8 := by omega
                    obtain ⟨x, hx, f, z⟩ := own_cell hown9 q8 (by omega)
                    have hx' := Lib.hid hx
                    have HO9 := Lib.hid hown9
                    have e1 : IntKind.i64.wrap ((j : Int) / 8) = (q8 : Int) := by rw [IntWalk.i64_in _ (by omega)]; omega
                    have e2 : (j : Int).tmod 8 = (r8 : Int) := by rw [Int.tmod_eq_emod_of_nonneg (by omega)]; omega
                    have e3 : (0 : Int) ≤ (q8 : Int) := by omega
                    have e4 : (q8 : Int) < 20 + (xs5.length : Int) := by omega
                    have e5 : (0 : Int) ≤ (r8 : Int) := by omega
                    have e6 : (q8 : Int) < ((20 + xs5.length : Nat) : Int) := by omega
                    have hq8' := Lib.hid hq8
                    have hr8' := Lib.hid hr8
                    clear hown9 hb9 KC hx hq8 hr8
                    go_wp2_with fail
                    go_still_tail 12, (by kernel_rfl)
                    repeat still_step
                    try refine wpStill_nil ?_
                    change wpList _ _ _ _ _ w9.drew
                    go_wp2_with fail
                    obtain ⟨hown10, hcells10, hsize10, hbel10⟩ := store_byte HO9.out q8 (by omega) (turnBit x r8) (congrArg _ (turn_val x hr8l))
                    generalize ((w9.setCell ⟨g9, q8, none⟩ (Value.int .u8 (bits .xor .u8 (x.toNat : Int) (2 ^ r8 % 256)))).drew) = w10 at hown10 hcells10 hsize10 hbel10 ⊢
                    have h410 := Lib.hid (hbel10 _ _ h49.out (by omega))
                    obtain ⟨⟨⟨s', d', p', t', i', ys⟩, er⟩, hq⟩ : ∃ q, parseOut ((ipHead s d p t i xs5.length ++ xs5).set q8 (turnBit x r8)) = q := ⟨_, rfl⟩
                    have hne : er ≠ 0 := by
                      have := parse_turned ⟨s, d, p, t, i, xs5⟩ q8 r8 (by have := hq8'.out; omega) hq8l hr8l x hx'.out
                      rw [bytes_nat, hq] at this
                      exact this
                    have hneq : (er == 0) = false := by simpa using hne
                    have KP := Lib.hid (ipParseQ ((ipHead s d p t i xs5.length ++ xs5).set q8 (turnBit x r8)) (20 + xs5.length) (by rw [List.length_set]; exact hlen.out) (some ⟨g9, 0, none⟩) p9 hp9c w10 (RB.of_ownN hown10) (by omega) s' d' p' t' i' er ys hq)
                    clear hown10 hcells10 hsize10 hbel10 hq HO9 f z e1 e2 e3 e4 e5 e6 h49 hne
                    (with_reducible refine KP.out.mono ?_)
                    rintro e w11 ⟨A11, p11, rfl, _, hb11⟩
                    have h411 := Lib.hid (h410.out.trans (hb11.mono h410.out.size))
                    have h412 := Lib.hid (h411.out.alloc h411.out.size (.cells #[.int .i64 s', .int .i64 d', .int .i64 p', .int .i64 t', .int .i64 i', .slice A11 ys.length p11] 53))
                    have hbb12 := Lib.hid (hbb4.out.trans (h412.out.mono hW4))
                    obtain ⟨hbl, c0, c1, c2, c3, c4, c5, c6, r5, r6⟩ := HR.out.next hbb12.out
                    clear KP hb11 r5 r6 h410 h411
                    go_wp2_with fail
                    (with_reducible refine (num10 _ _).mono ?_)
                    rintro e w' ⟨rfl, rfl⟩
                    go_wp2
                    go_roundw
                    case rel => exact ⟨j + 1 + xs6.length % 5, by omega, by omega, by congr 1, h412⟩
                    case measure => simp [intOf]; omega
                  · have hbbr := Lib.hid (hbb4.out.trans (h4r.out.mono hW4))
                    go_wp2
                    go_roundw
                    case rel => exact ⟨k + 1, by omega, by go_num, hbbr.out⟩
                    case measure => simp [intOf]; omega
        · have hok' := Lib.hid (Bool.eq_false_iff.2 hok)
          clear hok
          have K := Lib.hid (ipBytes_no n0 n1 n2 n3 n4 xs5 xs5.length rfl B5 p5 hok'.out w1)
          clear r5 r6
          go_wp2_with fail
          (with_reducible refine K.out.mono ?_)
          rintro e w4 ⟨rfl, hb4⟩
          have hbb4 := Lib.hid (hbb1.out.trans (hb4.mono hbb1.out.size))
          clear K hb4 hbl c0 c1 c2 c3 c4 c5 c6
          go_wp2_with fail
          (with_reducible refine (num10 _ _).mono ?_)
          rintro e w' ⟨rfl, rfl⟩
          go_wp2
          go_roundw
          case rel => exact ⟨k + 1, by omega, by go_num, hbb4.out⟩
          case measure => simp [intOf]; omega
      · go_wp2
        go_ret
        exact ⟨rfl, hbb1.out⟩
    · by_cases hlt : k < len
      all_goals
        go_wp2_with (go_at_call 42; refine (wakes10 _).mono ?_; rintro e w' ⟨rfl, hb'⟩)
        go_ret
        exact ⟨rfl, hb.trans (hb'.mono hb.size)⟩

set_option maxRecDepth 100000 in
theorem ipBack_lifted (os : Os) (started : os.Started) (H : Type) (enc : TypeId × Value → H) :
    ReturnsInHanded {} Try.checked os 12 .any (Rows.ipBackSpec.pre6 enc Try.prog Try.f12 [] false) (Rows.ipBackSpec.post enc Try.prog Try.f12 false true false false) := by
  refine law_lifted (T := 50) Try.func12 Try.params12 (by kernel_rfl) (by rw [Try.params12]; rfl) rfl (fun _ _ => rfl) (by kernel_rfl) (of_decide_eq_true (by kernel_rfl)) (by kernel_rfl) ?_ os started H enc
    (ChangeSpec.witness6 (enc := enc) (C := Try.checked) false ⟨#[], #[.slice none 0 0], []⟩ 8 (by kernel_rfl) (by kernel_rfl) (by kernel_rfl) (by kernel_rfl))
  intro H enc W v d p h
  obtain ⟨A, len, cap, rfl, hl, hc, ha⟩ := IpAsk.of h
  exact ipBack_walk A len cap W hl hc ha

theorem ipBack_holds : Rows.IpBackSaid :=
  OpenClaim.holds_of_wide 12 Try.f12 rfl rfl rfl rfl rfl rfl rfl ⟨rfl, rfl, rfl, rfl, rfl⟩ rfl rfl rfl rfl rfl (by kernel_rfl) Try.func12 (by kernel_rfl)
    (of_decide_eq_true (by kernel_rfl)) (by unfold Func.isWrapper; first | (rw [if_pos (by decide +kernel)]; kernel_rfl) | (rw [if_neg (by decide +kernel)]; exact ⟨rfl, rfl⟩))
    (fun os started H enc _ => ipBack_lifted os started H enc)

end Go.Proofs.Ytjdokaiadljeeaa
