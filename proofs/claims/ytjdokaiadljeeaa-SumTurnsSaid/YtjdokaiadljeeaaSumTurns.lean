/-
  PROVED: 'one turned bit changes the sum; two bytes of one pair that change places do, unless they are the same, or 0 and 255' (kiosklaw7.SumTurns). CONDITIONS: none; for every argument.
-/
import Derived.Test.YtjdokaiadljeeaaSumAsk
import Derived.Test.YtjdokaiadljeeaaSumW
import Derived.Test.YtjdokaiadljeeaaSumMore
import Derived.StillTailTactics
namespace Go.Proofs.Ytjdokaiadljeeaa
open Go.ChangeShapes Go.WideShapes Go.ChangeAt Go.RowKit Go.Deep

theorem turnsEnd_checks : ((Sm.check [] : Nat) : Int) = 65535 ∧ ((Sm.check [1, 2] : Nat) : Int) = 65277 ∧ ((Sm.check [2, 1] : Nat) : Int) = 65022 ∧ ((Sm.check [5] : Nat) : Int) = 64255 ∧ ((Sm.check [5, 0] : Nat) : Int) = 64255 := by decide +kernel

set_option maxRecDepth 100000 in
set_option maxHeartbeats 1200000 in
theorem sumTurns_walk (A : Option Addr) (len cap : Nat) (W : World) (hl : len ≤ cap) (hc : cap ≤ maxLen) (ha : SumAsk W A len) :
    Calls Try.prog 7 #[.slice A len cap] W fun e W' => e = .returned (.bool true) ∧ Below W.heap.size W W' := by
  unfold maxLen at hc
  go_enter Try.func7, Try.ntmps7
  go_wp2
  go_loopw [3, 4, 5] (fun i _ _ wr => ∃ k : Nat, k ≤ len ∧ i = .int .i64 k ∧ Below W.heap.size W wr) (fun i _ _ _ => len - (intOf i).toNat)
  case atStart => exact ⟨0, Nat.zero_le _, rfl, Below.refl _ _⟩
  case round =>
    obtain ⟨k, hk, rfl, hb⟩ := hrel
    by_cases hin : k < len ∧ (k : Int) < 20
    · obtain ⟨hlt, h15⟩ := hin
      obtain ⟨b, o, n0, xs, B, c, n2, rfl, hlt2, _, _, _, c1, hx1, hx2, hx, c2, hn1, hn2⟩ := (ha.below hb) k hlt
      by_cases h3 : xs.length ≤ 3000
      · by_cases h0 : xs.length = 0
        · have he : ((xs.length : Int) == 0) = true := by simp [h0]
          have h0' := Lib.hid h0
          clear h0
          go_wp2
          go_roundw
          case rel => exact ⟨k + 1, by omega, by go_num, hb⟩
          case measure => simp [intOf]; omega
        · have he : ((xs.length : Int) == 0) = false := by simpa using h0
          unfold maxLen at hx2
          go_wp2_with fail
          ((with_reducible refine (copyBytes xs B c _ hx ?_).mono ?_); omega)
          rintro e w3 ⟨A', c', rfl, hown, hb3⟩
          obtain ⟨g, cap', hA, hg, hg2⟩ := hown.form (by omega)
          injection hA with hA _ _
          subst hA
          have d1 := (hb3.cell (p := ⟨b, o + k * 3 + 1, none⟩) hlt2).trans c1
          have d2 := (hb3.cell (p := ⟨b, o + k * 3 + 2, none⟩) hlt2).trans c2
          have hy3 : RB w3 wr.heap.size B xs := hx.below hb3
          have hb4 : Below W.heap.size W w3 := hb.trans (hb3.mono hb.size)
          have hgW : W.heap.size ≤ g := Nat.le_trans hb.size hg
          have hgb : b ≠ g := by omega
          have hlt4 : b < w3.heap.size := Nat.lt_of_lt_of_le hlt2 hb3.size
          clear c1 c2 hx hb3
          go_wp2_with fail
          (with_reducible refine (within n2 _ hn1 hn2 ?_ ?_ _).mono ?_)
          · omega
          · omega
          rintro e w' ⟨rfl, rfl⟩
          have hat := wth_lt n2 (xs.length : Int) (by omega)
          generalize wth n2 (xs.length : Int) = p at hat ⊢
          have hpl : p < xs.length := by omega
          obtain ⟨d7, hd7⟩ : ∃ d, IntKind.i64.wrap (n2.tdiv 7) = d := ⟨_, rfl⟩
          have hd1 : -9223372036854775808 ≤ d7 := by rw [← hd7, IntKind.wrap_i64]; omega
          have hd2 : d7 ≤ 9223372036854775807 := by rw [← hd7, IntKind.wrap_i64]; omega
          have hk8 := wth_lt d7 8 (by omega)
          have KW := Lib.hid (fun w : World => within d7 8 hd1 hd2 (by omega) (by omega) w)
          generalize wth d7 8 = k8 at hk8 KW
          obtain ⟨x, hx, hcell, hfz⟩ := own_cell hown p hpl
          have hxh := Lib.hid hx
          have HO := Lib.hid hown
          clear hx hown
          go_wp2_with fail
          go_still_tail 15, (by kernel_rfl)
          still_call ((KW.out _).mono fun _ _ h => ⟨h.1, h.2.symm⟩)
          repeat still_step
          refine wpStill_nil ?_
          change wpList _ _ _ _ _ w3.drew
          go_wp2_with fail
          have HO4 := Lib.hid (own_setv HO.out p (turnBit x k8) (congrArg _ (turn_val x (by omega)))).drew
          have O4 := Lib.hid ((Only.refl g w3).set p (Value.int .u8 (bits .xor .u8 (x.toNat : Int) (2 ^ k8 % 256)))).drew
          generalize ((w3.setCell ⟨g, p, none⟩ (Value.int .u8 (bits .xor .u8 (x.toNat : Int) (2 ^ k8 % 256)))).drew) = w4 at HO4 O4 ⊢
          have f1 := (O4.out.cell ⟨b, o + k * 3 + 1, none⟩ hgb).trans d1
          have hb5 := O4.out.below _ _ hb4 hgW
          have hyn := (hy3.only O4.out hg).more (show wr.heap.size ≤ w4.heap.size by have := O4.out.size; omega)
          obtain ⟨hl4, hr4⟩ := own_read HO4.out
          have q3 : ((((Sm.check (xs.set p (turnBit x k8)) : Nat) : Int)) == (((Sm.check xs : Nat) : Int))) = false := by
            simp only [beq_eq_false_iff_ne, ne_eq, Int.natCast_inj]; exact Sm.check_turn xs p x hxh.out (by omega)
          have K1 := Lib.hid (fun m : Nat => sumCheck (xs.set p (turnBit x k8)) xs.length hl4 (some ⟨g, 0, none⟩) cap' (w4.drewN m) hr4 (by omega))
          have K2 := Lib.hid (fun m : Nat => sumCheck xs xs.length rfl B c (w4.drewN m) hyn (by omega))
          clear HO HO4 O4 hcell hfz hb4 hy3 hyn hr4 hl4 KW d1 d2
          go_quiet (first
            | (go_at_call 26; (with_reducible exact quiet_left (K1.out _)))
            | (go_at_call 26; (with_reducible exact quiet_left (K2.out _))))
          clear K1 K2
          go_wp2
          go_roundw
          case rel => exact ⟨k + 1, by omega, by go_num, below_drewN hb5 _⟩
          case measure => simp [intOf]; omega
      · go_wp2
        go_roundw
        case rel => exact ⟨k + 1, by omega, by go_num, hb⟩
        case measure => simp [intOf]; omega
    · obtain ⟨t1, t2, t3, t4, t5⟩ := turnsEnd_checks
      by_cases hlt : k < len
      all_goals
        go_wp2_with fail
        ((with_reducible refine (sumCheck [] 0 rfl none 0 _ RB.nil ?_).mono ?_); omega)
        rintro e w' ⟨rfl, rfl⟩
        rw [t1]
        go_wp2_with fail
        ((with_reducible refine (sumCheck [1, 2] 2 rfl (some ⟨wr.heap.size, 0, none⟩) _ _ (RB.litn (wr) (wr.heap.size) (by simp) 5 #[Value.int .u8 1, Value.int .u8 2] (0, 0) [1, 2] rfl) ?_).mono ?_); omega)
        rintro e w' ⟨rfl, rfl⟩
        rw [t2]
        go_wp2_with fail
        ((with_reducible refine (sumCheck [2, 1] 2 rfl (some ⟨wr.heap.size + 1, 0, none⟩) _ _ (RB.litn ((wr.alloc (Obj.cells #[Value.int .u8 1, Value.int .u8 2] 5))) (wr.heap.size + 1) (by simp) 5 #[Value.int .u8 2, Value.int .u8 1] (0, 0) [2, 1] rfl) ?_).mono ?_); omega)
        rintro e w' ⟨rfl, rfl⟩
        rw [t3]
        go_wp2_with fail
        ((with_reducible refine (sumCheck [5] 1 rfl (some ⟨wr.heap.size + 2, 0, none⟩) _ _ (RB.litn (((wr.alloc (Obj.cells #[Value.int .u8 1, Value.int .u8 2] 5)).alloc (Obj.cells #[Value.int .u8 2, Value.int .u8 1] 5))) (wr.heap.size + 2) (by simp) 5 #[Value.int .u8 5] (0, 0) [5] rfl) ?_).mono ?_); omega)
        rintro e w' ⟨rfl, rfl⟩
        rw [t4]
        go_wp2_with fail
        ((with_reducible refine (sumCheck [5, 0] 2 rfl (some ⟨wr.heap.size + 3, 0, none⟩) _ _ (RB.litn ((((wr.alloc (Obj.cells #[Value.int .u8 1, Value.int .u8 2] 5)).alloc (Obj.cells #[Value.int .u8 2, Value.int .u8 1] 5)).alloc (Obj.cells #[Value.int .u8 5] 5))) (wr.heap.size + 3) (by simp) 5 #[Value.int .u8 5, Value.int .u8 0] (0, 0) [5, 0] rfl) ?_).mono ?_); omega)
        rintro e w' ⟨rfl, rfl⟩
        rw [t5]
        go_wp2_with fail
        refine (wakes7 _).mono ?_
        rintro e w' ⟨rfl, hb'⟩
        go_wp2
        go_ret
        have hb2 : Below W.heap.size W ((((wr.alloc (Obj.cells #[Value.int .u8 1, Value.int .u8 2] 5)).alloc (Obj.cells #[Value.int .u8 2, Value.int .u8 1] 5)).alloc (Obj.cells #[Value.int .u8 5] 5)).alloc (Obj.cells #[Value.int .u8 5, Value.int .u8 0] 5)) := (((hb.alloc hb.size _).alloc (by simp; have := hb.size; omega) _).alloc (by simp; have := hb.size; omega) _).alloc (by simp; have := hb.size; omega) _
        exact ⟨rfl, hb2.trans (hb'.mono hb2.size)⟩

set_option maxRecDepth 100000 in
theorem sumTurns_lifted (os : Os) (started : os.Started) (H : Type) (enc : TypeId × Value → H) :
    ReturnsInHanded {} Try.checked os 7 .any (Rows.sumTurnsSpec.pre6 enc Try.prog Try.f7 [] false) (Rows.sumTurnsSpec.post enc Try.prog Try.f7 false true false false) := by
  refine law_lifted (T := 33) Try.func7 Try.params7 (by kernel_rfl) (by rw [Try.params7]; rfl) rfl (fun _ _ => rfl) (by kernel_rfl) (of_decide_eq_true (by kernel_rfl)) (by kernel_rfl) ?_ os started H enc
    (ChangeSpec.witness6 (enc := enc) (C := Try.checked) false ⟨#[], #[.slice none 0 0], []⟩ 8 (by kernel_rfl) (by kernel_rfl) (by kernel_rfl) (by kernel_rfl))
  intro H enc W v d p h
  obtain ⟨A, len, cap, rfl, hl, hc, ha⟩ := SumAsk.of h
  exact sumTurns_walk A len cap W hl hc ha

theorem sumTurns_holds : Rows.SumTurnsSaid :=
  OpenClaim.holds_of_wide 7 Try.f7 rfl rfl rfl rfl rfl rfl rfl ⟨rfl, rfl, rfl, rfl, rfl⟩ rfl rfl rfl rfl rfl (by kernel_rfl) Try.func7 (by kernel_rfl)
    (of_decide_eq_true (by kernel_rfl)) (by unfold Func.isWrapper; first | (rw [if_pos (by decide +kernel)]; kernel_rfl) | (rw [if_neg (by decide +kernel)]; exact ⟨rfl, rfl⟩))
    (fun os started H enc _ => sumTurns_lifted os started H enc)

end Go.Proofs.Ytjdokaiadljeeaa
