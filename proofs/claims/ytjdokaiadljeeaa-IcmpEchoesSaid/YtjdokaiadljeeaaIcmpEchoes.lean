/-
  PROVED: 'any bytes, made a question with the right sum, are answered with the same bytes, but for the first one and the sum, which is right again; the answer is not answered' (kiosklaw11.IcmpEchoes). CONDITIONS: none; for every argument.
-/
import Derived.Test.YtjdokaiadljeeaaIcmpAsk
import Derived.Test.YtjdokaiadljeeaaIcmpPlain
namespace Go.Proofs.Ytjdokaiadljeeaa
open Go.ChangeShapes Go.WideShapes Go.ChangeAt Go.RowKit Go.Deep

set_option maxRecDepth 100000 in
set_option maxHeartbeats 1600000 in
theorem icmpEchoes_walk (A : Option Addr) (len cap : Nat) (W : World) (hl : len ≤ cap) (hc : cap ≤ maxLen) (hlen : len ≤ 140737488351232) (ha : Cells W A len) :
    Calls Try.prog 9 #[.slice A len cap] W fun e W' => e = .returned (.bool true) ∧ Below W.heap.size W W' := by
  unfold maxLen at hc
  go_enter Try.func9, Try.ntmps9
  go_wp2_with fail
  (with_reducible refine (cellsWeight A len cap W hl ?_ hlen ha).mono ?_)
  · omega
  rintro e w' ⟨m, rfl, hsh, rfl⟩
  by_cases hm : m ≤ 20000
  · have hsh' := hsh hm
    have hmI : (m : Int) ≤ 20000 := by omega
    clear hsh
    go_wp2
    go_loopw [3, 4, 5, 6, 7, 8, 9, 10, 11] (fun i _ _ _ _ _ _ _ _ wr => ∃ k : Nat, k ≤ len ∧ i = .int .i64 k ∧ Below W.heap.size W wr) (fun i _ _ _ _ _ _ _ _ _ => len - (intOf i).toNat)
    case atStart => exact ⟨0, Nat.zero_le _, rfl, Below.refl _ _⟩
    case round =>
      obtain ⟨k, hk, rfl, hb⟩ := hrel
      by_cases hin : k < len ∧ (k : Int) < 15
      · obtain ⟨hlt, h15⟩ := hin
        obtain ⟨b, o, xs, B, c, rfl, hltW, c0W, hx1, hx2, hxW⟩ := ha k hlt
        have hxl : xs.length ≤ 20000 := hsh' k hlt b o _ B c rfl c0W
        have c0 := (hb.cell (p := ⟨b, o + k, none⟩) hltW).trans c0W
        have hlt2 : b < wr.heap.size := Nat.lt_of_lt_of_le hltW hb.size
        have hx : RB wr wr.heap.size B xs := (hxW.below hb).more hb.size
        clear c0W hxW
        have hbA : Below wr.heap.size wr (wr.alloc (.cells #[.int .u8 8, .int .u8 0, .int .u8 0, .int .u8 0, .int .u8 1, .int .u8 2, .int .u8 3, .int .u8 4] 5)) := (Below.refl _ _).alloc (Nat.le_refl _) _
        have hoA : (wr.alloc (.cells #[.int .u8 8, .int .u8 0, .int .u8 0, .int .u8 0, .int .u8 1, .int .u8 2, .int .u8 3, .int .u8 4] 5)).ownsRow wr.heap.size 5 1 (.slice (some ⟨wr.heap.size, 0, none⟩) 8 8) 8 (([8, 0, 0, 0, 1, 2, 3, 4] : List UInt8).map bv) :=
          World.ownsRow_lit wr #[.int .u8 8, .int .u8 0, .int .u8 0, .int .u8 0, .int .u8 1, .int .u8 2, .int .u8 3, .int .u8 4] 8 (Nat.le_refl _) (by decide) rfl
        have hrA := Lib.hid (hx.next hbA)
        have hbA' := Lib.hid hbA
        have hoA' := Lib.hid hoA
        have cA := (hbA.cell (p := ⟨b, o + k, none⟩) hlt2).trans c0
        clear hbA hoA c0 hx
        go_wp2_with (at_builtin; refine wpList_append_bytes wr.heap.size hbA'.out rfl _ _ 24 rfl wr.heap.size 5 Try.underlying24 info_u8 _ _ [8, 0, 0, 0, 1, 2, 3, 4] (by exact rfl) hoA'.out B xs.length c xs rfl (by exact rfl) hrA.out (by omega) (by simp) (Nat.le_refl _) ?_; intro A1 p1 w1 hown1 hb1)
        obtain ⟨n, hn⟩ : ∃ n, n = 8 + xs.length := ⟨_, rfl⟩
        have hn8 : 8 ≤ n := by omega
        have hnl : n ≤ 20008 := by omega
        have hown1' : w1.ownsRow wr.heap.size 5 1 (.slice A1 n p1) n ((quest xs).map bv) := by rw [hn]; exact hown1
        have hbb1 : Below W.heap.size W w1 := hb.trans (hb1.mono hb.size)
        have hs1 := hb1.size
        have hsW := hb.size
        rw [← hn]
        have hal : Hid ((asked xs).length = n) := by rw [asked_length, hn]; exact rfl
        have HASK := Lib.hid (show ((quest xs).set 2 (UInt8.ofNat (Sm.check (quest xs) / 256))).set 3 (UInt8.ofNat (Sm.check (quest xs))) = asked xs from rfl)
        have hO1 := Lib.hid (asked_out xs)
        have hO2 := Lib.hid (back_out xs)
        have hO3 := Lib.hid (turned_out xs)
        have hC := Lib.hid (answer_check (asked xs) (by rw [asked_length]; omega))
        have hA0 := Lib.hid (answer_0 (asked xs) (by rw [asked_length]; omega))
        have hA1 := Lib.hid ((answer_1 (asked xs)).trans (asked_1 xs))
        have hAD := Lib.hid (answer_drop (asked xs))
        have h5 := Lib.hid (asked_5 xs)
        have hanl : Hid ((answer (asked xs)).length = n) := by rw [answer_length]; exact hal.out
        clear hown1 hb1 hrA hbA' hoA' cA hn
        generalize quest xs = qs at hown1' HASK
        generalize asked xs = aq at hal HASK hO1 hO2 hO3 hC hA0 hA1 hAD h5 hanl
        generalize answer aq = rs at hO1 hO2 hC hA0 hA1 hAD hanl
        obtain ⟨g, rfl, hg, hg2⟩ := own_form hown1' (by omega)
        obtain ⟨hql, hqr⟩ := own_read hown1'
        have hcl := Sm.check_le qs
        obtain ⟨_, _, f2, z2⟩ := own_cell hown1' 2 (by omega)
        obtain ⟨_, _, f3, z3⟩ := own_cell hown1' 3 (by omega)
        have hpc : n ≤ p1 := by
          obtain ⟨_, _, hA, h, _⟩ := own_shape hown1'
          injection hA with _ _ h2
          omega
        have KC := Lib.hid (sumCheck qs n hql (some ⟨g, 0, none⟩) p1 w1 hqr (by omega))
        have HO2 := Lib.hid (own_setv (own_setv hown1' 2 (UInt8.ofNat (Sm.check qs / 256)) (congrArg _ (byte_hi _ hcl))) 3 (UInt8.ofNat (Sm.check qs)) (congrArg _ (byte_lo _)))
        have O2 := Lib.hid (((Only.refl g w1).set 2 (.int .u8 (((Sm.check qs : Nat) : Int) / 256))).set 3 (.int .u8 (((Sm.check qs : Nat) : Int) % 256)))
        rw [HASK.out] at HO2
        clear hown1' hqr hql HASK
        generalize Sm.check qs = cq at KC HO2 O2 hcl
        (with_reducible refine KC.out.mono ?_)
        rintro e w' ⟨rfl, rfl⟩
        have i3 : (3 : Int) < (n : Int) := by omega
        have i2 : (2 : Int) < (n : Int) := by omega
        have i5 : (5 : Int) < (n : Int) := by omega
        have i1 : (1 : Int) < (n : Int) := by omega
        have i4 : (4 : Int) ≤ (n : Int) := by omega
        have i0 : 0 < n := by omega
        clear KC
        go_wp2_with fail
        generalize (w1.setCell ⟨g, 2, none⟩ (Value.int .u8 ((cq : Int) / 256))).setCell ⟨g, 3, none⟩ (Value.int .u8 ((cq : Int) % 256)) = w2 at HO2 O2 ⊢
        have hbb2 := O2.out.below _ _ hbb1 (by omega)
        have hs2 := O2.out.size
        clear O2 f2 f3 z2 z3 hbb1
        obtain ⟨_, har⟩ := own_read HO2.out
        have KR := icmpReply aq n hal.out (some ⟨g, 0, none⟩) p1 w2 har (by omega)
        rw [hO1.out] at KR
        have KR' := Lib.hid KR
        clear KR
        (with_reducible refine KR'.out.mono ?_)
        rintro e w3 ⟨A3, p3, he, hown3, hb3⟩
        have he' : e = .returned (.tuple #[.slice A3 n p3, .int .i64 0]) := by rw [he]; simp only [hanl.out]
        have hown3' : w3.ownsRow w2.heap.size 5 1 (.slice A3 n p3) n (rs.map bv) := by have h := hown3; simp only [hanl.out] at h; exact h
        subst he'
        clear he hown3 KR'
        obtain ⟨g3, rfl, hg3, hg32⟩ := own_form hown3' (by omega)
        have hp3 : n ≤ p3 := by
          obtain ⟨_, _, hA, h, _⟩ := own_shape hown3'
          injection hA with _ _ h2
          omega
        have hrr := (own_read hown3').2
        have har3 := har.next hb3
        have HO3 := Lib.hid (own_below HO2.out hb3)
        have hbb3 : Below W.heap.size W w3 := hbb2.trans (hb3.mono hbb2.size)
        obtain ⟨r0, hr0, f0, z0⟩ := own_cell hown3' 0 (by omega)
        obtain ⟨r1, hr1, f1, z1⟩ := own_cell hown3' 1 (by omega)
        have hr0' : r0 = 0 := by rw [hA0.out] at hr0; simpa using hr0.symm
        have hr1' : r1 = 0 := by rw [hA1.out] at hr1; simpa using hr1.symm
        subst hr0' hr1'
        have f0' : w3.cell? ⟨g3, 0, none⟩ = some (.int .u8 0) := f0
        have f1' : w3.cell? ⟨g3, 1, none⟩ = some (.int .u8 0) := f1
        have K1 := Lib.hid (fun m : Nat => num11 0 (w3.drewN m))
        have K2 := Lib.hid (fun m : Nat => sumCheck rs n hanl.out (some ⟨g3, 0, none⟩) p3 (w3.drewN m) hrr (by omega))
        have hq2 : ((((Sm.check rs : Nat) : Int)) != 0) = false := by rw [hC.out]; rfl
        have hd1 : RB w3 w3.heap.size (some ⟨g3, 4, none⟩) (aq.drop 4) := by
          have := hrr.cut_at (k := 4) (by rw [hanl.out]; omega)
          rw [hAD.out] at this
          simpa using this
        have hd2 : RB w3 w3.heap.size (some ⟨g, 4, none⟩) (aq.drop 4) := by
          have := har3.cut_at (k := 4) (by rw [hal.out]; omega)
          simpa using this
        have hdl : (aq.drop 4).length = n - 4 := by rw [List.length_drop, hal.out]
        have K3 : Hid (∀ m : Nat, Calls Try.prog 21 #[.slice (some ⟨g3, 4, none⟩) (n - 4) (p3 - 4), .slice (some ⟨g, 4, none⟩) (n - 4) (p1 - 4)] (w3.drewN m) fun e w' => e = .returned (.bool true) ∧ ∃ j, w' = (w3.drewN m).drewN j) := by
          intro m
          have := eqBytes (aq.drop 4) (some ⟨g3, 4, none⟩) (some ⟨g, 4, none⟩) (p3 - 4) (p1 - 4) (w3.drewN m) hd1 hd2 (by unfold maxLen; omega)
          rwa [hdl] at this
        have hc3 : ¬ p3 = 4 := by omega
        have hc1 : ¬ p1 = 4 := by omega
        have HOR := Lib.hid hown3'
        have hs3 := hb3.size
        clear hdl hd1 hd2 hr0 hr1 f0 f1 z0 z1 hb3 har hown3' hrr
        go_wp2_with fail
        go_quiet (first
          | (go_at_call 32; (with_reducible exact quiet_left (K1.out _)))
          | (go_at_call 26; (with_reducible exact quiet_left (K2.out _)))
          | (go_at_call 21; (with_reducible exact Calls.quiet_of (K3.out _))))
        clear K1 K2 K3 f0' f1'
        have hw4 := below_of_drewN (w := w3) ⟨nq, rfl⟩
        have HOR4 := Lib.hid (show (w3.drewN nq).ownsRow w2.heap.size 5 1 (.slice (some ⟨g3, 0, none⟩) n p3) n (rs.map bv) from HOR.out)
        have HO4 := Lib.hid (show (w3.drewN nq).ownsRow wr.heap.size 5 1 (.slice (some ⟨g, 0, none⟩) n p1) n (aq.map bv) from HO3.out)
        generalize w3.drewN nq = w4 at hw4 HOR4 HO4 ⊢
        have hbb4 : Below W.heap.size W w4 := hbb3.trans (hw4.mono hbb3.size)
        have hs4 := hw4.size
        clear HOR HO3 hw4 hbb3 har3
        go_wp2_with fail
        have KR := icmpReply rs n hanl.out (some ⟨g3, 0, none⟩) p3 w4 (own_read HOR4.out).2 (by omega)
        rw [hO2.out] at KR
        have KR' := Lib.hid KR
        clear KR
        (with_reducible refine KR'.out.mono ?_)
        rintro e w5 ⟨A5, p5, he, hown5, hb5⟩
        have he' : e = .returned (.tuple #[.slice A5 0 p5, .int .i64 3]) := he
        subst he'
        have HO5 := Lib.hid (own_below HO4.out hb5)
        have hbb5 : Below W.heap.size W w5 := hbb4.trans (hb5.mono hbb4.size)
        clear he hown5 hb5 HOR4 HO4 KR' hbb4
        obtain ⟨q5, hq5, f5, z5⟩ := own_cell HO5.out 5 (by omega)
        have hq5' : q5 = 2 := by rw [h5.out] at hq5; simpa using hq5.symm
        subst hq5'
        have f5' : w5.cell? ⟨g, 5, none⟩ = some (.int .u8 2) := f5
        have HO6 := Lib.hid (own_setv HO5.out 5 3 (v := .int .u8 3) rfl)
        have O6 := Lib.hid ((Only.refl g w5).set 5 (.int .u8 3))
        have hx3 : bits .xor .u8 2 1 = 3 := by decide
        clear f5 hq5 HO5
        go_wp2_with fail
        generalize w5.setCell ⟨g, 5, none⟩ (Value.int .u8 3) = w6 at HO6 O6 ⊢
        have hbb6 := O6.out.below _ _ hbb5 (by omega)
        clear O6 f5' z5 hx3 hbb5
        have KR := icmpReply (aq.set 5 3) n (by rw [List.length_set]; exact hal.out) (some ⟨g, 0, none⟩) p1 w6 (own_read HO6.out).2 (by omega)
        rw [hO3.out] at KR
        have KR' := Lib.hid KR
        clear KR
        (with_reducible refine KR'.out.mono ?_)
        rintro e w7 ⟨A7, p7, he, hown7, hb7⟩
        have he' : e = .returned (.tuple #[.slice A7 0 p7, .int .i64 8]) := he
        subst he'
        have hbb7 : Below W.heap.size W w7 := hbb6.trans (hb7.mono hbb6.size)
        clear he hown7 hb7 HO6 KR' hbb6
        go_wp2_with fail
        (with_reducible refine (num11 3 w7).mono ?_)
        rintro e w' ⟨rfl, rfl⟩
        go_wp2_with fail
        (with_reducible refine (num11 8 w7).mono ?_)
        rintro e w' ⟨rfl, rfl⟩
        go_wp2
        go_roundw
        case rel => exact ⟨k + 1, by omega, by go_num, hbb7⟩
        case measure => simp [intOf]; omega
      · by_cases hlt : k < len
        all_goals
          go_wp2_with (go_at_call 34; refine (wakes11 _).mono ?_; rintro e w' ⟨rfl, hb'⟩)
          go_ret
          exact ⟨rfl, hb.trans (hb'.mono hb.size)⟩
  · have hmI : ¬ (m : Int) ≤ 20000 := by omega
    go_wp2
    go_ret
    exact ⟨rfl, Below.refl _ _⟩

set_option maxRecDepth 100000 in
theorem icmpEchoes_lifted (os : Os) (started : os.Started) (H : Type) (enc : TypeId × Value → H) :
    ReturnsInHanded {} Try.checked os 9 .any (Rows.icmpEchoesSpec.pre6 enc Try.prog Try.f9 [] false) (Rows.icmpEchoesSpec.post enc Try.prog Try.f9 false true false false) := by
  refine law_lifted (T := 40) Try.func9 Try.params9 (by kernel_rfl) (by rw [Try.params9]; rfl) rfl (fun _ _ => rfl) (by kernel_rfl) (of_decide_eq_true (by kernel_rfl)) (by kernel_rfl) ?_ os started H enc
    (ChangeSpec.witness6 (enc := enc) (C := Try.checked) false ⟨#[], #[.slice none 0 0], []⟩ 8 (by kernel_rfl) (by kernel_rfl) (by kernel_rfl) (by kernel_rfl))
  intro H enc W v d p h
  obtain ⟨A, len, cap, rfl, hl, hc, hlen, ha⟩ := Cells.of h
  exact icmpEchoes_walk A len cap W hl hc hlen ha

theorem icmpEchoes_holds : Rows.IcmpEchoesSaid :=
  OpenClaim.holds_of_wide 9 Try.f9 rfl rfl rfl rfl rfl rfl rfl ⟨rfl, rfl, rfl, rfl, rfl⟩ rfl rfl rfl rfl rfl (by kernel_rfl) Try.func9 (by kernel_rfl)
    (of_decide_eq_true (by kernel_rfl)) (by unfold Func.isWrapper; first | (rw [if_pos (by decide +kernel)]; kernel_rfl) | (rw [if_neg (by decide +kernel)]; exact ⟨rfl, rfl⟩))
    (fun os started H enc _ => icmpEchoes_lifted os started H enc)

end Go.Proofs.Ytjdokaiadljeeaa
