/-
  PROVED: 'what any bytes are answered is the page's, or the error is' (kiosklaw11.IcmpReplies). CONDITIONS: none; for every argument.
-/
import Derived.Test.YtjdokaiadljeeaaIcmpAsk
namespace Go.Proofs.Ytjdokaiadljeeaa
open Go.ChangeShapes Go.WideShapes Go.ChangeAt Go.RowKit Go.Deep

theorem replyOut_len (xs : List UInt8) : (replyOut xs).1.length ≤ xs.length := by
  unfold replyOut
  split
  · simp
  · split
    · simp
    · split
      · simp
      · simp [answer_length]

set_option maxRecDepth 100000 in
set_option maxHeartbeats 1600000 in
theorem icmpReplies_walk (A : Option Addr) (len cap : Nat) (W : World) (hl : len ≤ cap) (hc : cap ≤ maxLen) (hlen : len ≤ 140737488351232) (ha : Cells W A len) :
    Calls Try.prog 8 #[.slice A len cap] W fun e W' => e = .returned (.bool true) ∧ Below W.heap.size W W' := by
  unfold maxLen at hc
  go_enter Try.func8, Try.ntmps8
  go_wp2_with fail
  (with_reducible refine (cellsWeight A len cap W hl ?_ hlen ha).mono ?_)
  · omega
  rintro e w' ⟨m, rfl, hsh, rfl⟩
  by_cases hm : m ≤ 20000
  · have hsh' := hsh hm
    have hmI : (m : Int) ≤ 20000 := by omega
    clear hsh
    go_wp2
    go_loopw [3, 4, 5, 6, 7, 8] (fun i _ _ _ _ _ wr => ∃ k : Nat, k ≤ len ∧ i = .int .i64 k ∧ Below W.heap.size W wr) (fun i _ _ _ _ _ _ => len - (intOf i).toNat)
    case atStart => exact ⟨0, Nat.zero_le _, rfl, Below.refl _ _⟩
    case round =>
      obtain ⟨k, hk, rfl, hb⟩ := hrel
      by_cases hin : k < len ∧ (k : Int) < 15
      · obtain ⟨hlt, h15⟩ := hin
        obtain ⟨b, o, xs, B, c, rfl, hltW, c0W, hx1, hx2, hxW⟩ := ha k hlt
        have hxl : xs.length ≤ 20000 := hsh' k hlt b o _ B c rfl c0W
        have c0 := (hb.cell (p := ⟨b, o + k, none⟩) hltW).trans c0W
        have hlt2 : b < wr.heap.size := Nat.lt_of_lt_of_le hltW hb.size
        have hx : RB wr wr.heap.size B xs := (hxW.below hb).more hb.size
        clear c0W hxW
        go_wp2_with fail
        ((with_reducible refine (copyBytes xs B c _ hx ?_).mono ?_); omega)
        rintro e w1 ⟨A1, p1, rfl, hown1, hb1⟩
        have c1 := (hb1.cell (p := ⟨b, o + k, none⟩) hlt2).trans c0
        have hlt3 : b < w1.heap.size := Nat.lt_of_lt_of_le hlt2 hb1.size
        have hy1 := hx.next hb1
        have hin1 := RB.of_own hown1
        have hbb1 : Below W.heap.size W w1 := hb.trans (hb1.mono hb.size)
        clear c0 hx hown1 hb1
        go_wp2_with fail
        ((with_reducible refine (icmpReply xs xs.length rfl A1 p1 w1 hin1 ?_).mono ?_); omega)
        rintro e w2 ⟨A2, p2, rfl, hown2, hb2⟩
        have c2 := (hb2.cell (p := ⟨b, o + k, none⟩) hlt3).trans c1
        have hlt4 : b < w2.heap.size := Nat.lt_of_lt_of_le hlt3 hb2.size
        have hy2 := hy1.next hb2
        have hin2 := hin1.below hb2
        have hbb2 : Below W.heap.size W w2 := hbb1.trans (hb2.mono hbb1.size)
        have hs12 := hb2.size
        have hyb1 := hy1.below hb2
        clear c1 hy1 hin1 hb2
        go_wp2_with fail
        ((with_reducible refine (refReply xs xs.length rfl B c w2 hy2 ?_).mono ?_); omega)
        rintro e w3 ⟨A3, p3, rfl, hown3, hb3⟩
        have hrl := replyOut_len xs
        have c3 := (hb3.cell (p := ⟨b, o + k, none⟩) hlt4).trans c2
        have hlt5 : b < w3.heap.size := Nat.lt_of_lt_of_le hlt4 hb3.size
        have hbb3 : Below W.heap.size W w3 := hbb2.trans (hb3.mono hbb2.size)
        have hs23 := hb3.size
        have hown2' := own_below hown2 hb3
        have hin3 : RB w3 w1.heap.size A1 xs := hin2.below (hb3.mono hs12)
        have hy3 : RB w3 w1.heap.size B xs := hyb1.below (hb3.mono hs12)
        have hb2r : RB w3 w3.heap.size A2 (replyOut xs).1 := Reads.of_own hown2'
        have hwr3 : RB w3 w3.heap.size A3 (replyOut xs).1 := Reads.of_own hown3
        generalize (replyOut xs).1 = ys at hown2 hown3 hown2' hb2r hwr3 hrl ⊢
        generalize (replyOut xs).2 = er
        have KE1 := Lib.hid (eqBytes ys A2 A3 p2 p3 w3 hb2r hwr3 (by unfold maxLen; omega))
        have hq : (er != er) = false := by simp
        have HO := Lib.hid hown2'
        clear hown2 hown3 hown2' hb2r hwr3 hb3 c2 hy2 hin2 hyb1
        go_wp2_with fail
        (with_reducible refine (num11 er w3).mono ?_)
        rintro e w' ⟨rfl, rfl⟩
        go_wp2_with fail
        (with_reducible refine KE1.out.mono ?_)
        rintro e w4 ⟨rfl, hw4⟩
        have hb4 := below_of_drewN hw4
        have c4 := (hb4.cell (p := ⟨b, o + k, none⟩) hlt5).trans c3
        have hlt6 : b < w4.heap.size := Nat.lt_of_lt_of_le hlt5 hb4.size
        have hin4 : RB w4 w1.heap.size A1 xs := hin3.below (hb4.mono (by omega))
        have hy4 : RB w4 w1.heap.size B xs := hy3.below (hb4.mono (by omega))
        have hs34 := hb4.size
        have HO4 := Lib.hid (own_below HO.out hb4)
        have hbb4 : Below W.heap.size W w4 := hbb3.trans (hb4.mono hbb3.size)
        clear KE1 hw4 hb4 c3 hin3 hy3 HO hbb3
        go_wp2_with fail
        ((with_reducible refine (eqBytes xs A1 B p1 c w4 (hin4.more (by omega)) (hy4.more (by omega)) ?_).mono ?_); (unfold maxLen; omega))
        rintro e w5 ⟨rfl, hw5⟩
        have hb5 := below_of_drewN hw5
        have c5 := (hb5.cell (p := ⟨b, o + k, none⟩) hlt6).trans c4
        have hlt7 : b < w5.heap.size := Nat.lt_of_lt_of_le hlt6 hb5.size
        have hin5 : RB w5 w1.heap.size A1 xs := hin4.below (hb5.mono (by omega))
        have hy5 : RB w5 w1.heap.size B xs := hy4.below (hb5.mono (by omega))
        have hs45 := hb5.size
        have HO5 := Lib.hid (own_below HO4.out hb5)
        have hbb5 : Below W.heap.size W w5 := hbb4.trans (hb5.mono hbb4.size)
        clear hw5 hb5 c4 hin4 hy4 HO4 hbb4
        go_wp2_with fail
        ((with_reducible refine (spoilBytes w1.heap.size ys ys.length A2 p2 w5 HO5.out ?_ ?_).mono ?_) <;> first | omega | skip)
        rintro e w6 ⟨rfl, hb6⟩
        have hltW1 : b < w1.heap.size := hlt3
        have c6 := (hb6.cell (p := ⟨b, o + k, none⟩) hltW1).trans c5
        have hin6 := hin5.below hb6
        have hy6 := hy5.below hb6
        have hs56 := hb6.size
        have hbb6 : Below W.heap.size W w6 := hbb5.trans (hb6.mono hbb1.size)
        clear c5 hin5 hy5 HO5 hbb5 hb6
        go_wp2_with fail
        ((with_reducible refine (eqBytes xs A1 B p1 c w6 (hin6.more (by omega)) (hy6.more (by omega)) ?_).mono ?_); (unfold maxLen; omega))
        rintro e w7 ⟨rfl, hw7⟩
        have hbb7 : Below W.heap.size W w7 := hbb6.trans ((below_of_drewN hw7).mono hbb6.size)
        clear hw7 c6 hin6 hy6
        go_wp2
        go_roundw
        case rel => exact ⟨k + 1, by omega, by go_num, hbb7⟩
        case measure => simp [intOf]; omega
      · by_cases hlt : k < len
        all_goals
          go_wp2_with (go_at_call 34; refine (wakes11 _).mono ?_; rintro e w' ⟨rfl, hb'⟩)
          go_ret
          exact ⟨rfl, hb.trans (hb'.mono hb.size)⟩
  · have hmI : ¬ (m : Int) ≤ 20000 := by omega
    go_wp2
    go_ret
    exact ⟨rfl, Below.refl _ _⟩

set_option maxRecDepth 100000 in
theorem icmpReplies_lifted (os : Os) (started : os.Started) (H : Type) (enc : TypeId × Value → H) :
    ReturnsInHanded {} Try.checked os 8 .any (Rows.icmpRepliesSpec.pre6 enc Try.prog Try.f8 [] false) (Rows.icmpRepliesSpec.post enc Try.prog Try.f8 false true false false) := by
  refine law_lifted (T := 40) Try.func8 Try.params8 (by kernel_rfl) (by rw [Try.params8]; rfl) rfl (fun _ _ => rfl) (by kernel_rfl) (of_decide_eq_true (by kernel_rfl)) (by kernel_rfl) ?_ os started H enc
    (ChangeSpec.witness6 (enc := enc) (C := Try.checked) false ⟨#[], #[.slice none 0 0], []⟩ 8 (by kernel_rfl) (by kernel_rfl) (by kernel_rfl) (by kernel_rfl))
  intro H enc W v d p h
  obtain ⟨A, len, cap, rfl, hl, hc, hlen, ha⟩ := Cells.of h
  exact icmpReplies_walk A len cap W hl hc hlen ha

theorem icmpReplies_holds : Rows.IcmpRepliesSaid :=
  OpenClaim.holds_of_wide 8 Try.f8 rfl rfl rfl rfl rfl rfl rfl ⟨rfl, rfl, rfl, rfl, rfl⟩ rfl rfl rfl rfl rfl (by kernel_rfl) Try.func8 (by kernel_rfl)
    (of_decide_eq_true (by kernel_rfl)) (by unfold Func.isWrapper; first | (rw [if_pos (by decide +kernel)]; kernel_rfl) | (rw [if_neg (by decide +kernel)]; exact ⟨rfl, rfl⟩))
    (fun os started H enc _ => icmpReplies_lifted os started H enc)

end Go.Proofs.Ytjdokaiadljeeaa
