/-
  PROVED: 'of two parts the second one's sum, behind the first one's, is that of both; one turned bit, or a few within four bytes, change it' (kiosklaw5.CrcParts). CONDITIONS: none; for every argument.
-/
import Derived.Test.YtjdokaiadljeeaaCrcTurn
import Derived.StillTailTactics
import Derived.Deep.RegionWith
namespace Go.Proofs.Ytjdokaiadljeeaa
open Go.ChangeShapes Go.WideShapes Go.ChangeAt Go.RowKit Go.Deep

theorem crcSumN (s : Nat) (hs : s < 4294967296) (xs : List UInt8) (n : Nat) (hl : xs.length = n) (A : Option Addr) (c : Nat) (w : World) (hx : RB w w.heap.size A xs) (hn : n ≤ 140737488351232) :
    Calls Try.prog 19 #[.int .u32 (s : Nat), .slice A n c] w fun e w' => e = .returned (.int .u32 ((Crc.sum s xs : Nat) : Int)) ∧ w = w' := by
  subst hl
  exact crcSum s hs xs A c w hx hn

set_option maxRecDepth 100000 in
set_option maxHeartbeats 1600000 in
theorem crcParts_walk (A : Option Addr) (len cap : Nat) (W : World) (hl : len ≤ cap) (hc : cap ≤ maxLen) (ha : CrcAsk W A len) :
    Calls Try.prog 4 #[.slice A len cap] W fun e W' => e = .returned (.bool true) ∧ Below W.heap.size W W' := by
  unfold maxLen at hc
  go_enter Try.func4, Try.ntmps4
  go_wp2
  go_loopw [3, 4, 5, 6, 7, 8] (fun i _ _ _ _ _ wr => ∃ k : Nat, k ≤ len ∧ i = .int .i64 k ∧ Below W.heap.size W wr) (fun i _ _ _ _ _ _ => len - (intOf i).toNat)
  case atStart => exact ⟨0, Nat.zero_le _, rfl, Below.refl _ _⟩
  case round =>
    obtain ⟨k, hk, rfl, hb⟩ := hrel
    by_cases hlt : k < len
    · by_cases h15 : (k : Int) < 15
      · obtain ⟨b, o, s, xs, B, c, n, rfl, hs, hx1, hx2, hn1, hn2, hlt2, c0, c1, c2, hx⟩ := (ha.below hb) k hlt
        by_cases h3 : xs.length ≤ 3000
        · unfold maxLen at hx2
          go_wp2_with fail
          refine (within n _ hn1 hn2 (by omega) (by omega) _).mono ?_
          rintro e w1 ⟨rfl, rfl⟩
          have hj := wth_lt n ((xs.length : Int) + 1) (by omega)
          generalize wth n ((xs.length : Int) + 1) = j at hj ⊢
          go_wp2_with fail
          refine (crcSum s hs xs B c _ hx (by omega)).mono ?_
          rintro e w1 ⟨rfl, rfl⟩
          go_wp2_with fail
          have hjn : j ≤ xs.length := by omega
          have hjc : j ≤ c := by omega
          have hs1 := Crc.sum_lt (xs.take j) hs
          have q1 : ((((Crc.sum (Crc.sum s (xs.take j)) (xs.drop j) : Nat) : Int)) != (((Crc.sum s xs : Nat) : Int))) = false := by rw [Crc.sum_parts, List.take_append_drop]; simp
          have q2 : ((((Crc.sum s [] : Nat) : Int)) != ((s : Nat) : Int)) = false := by rw [Crc.sum_nil]; simp
          have K1 := Lib.hid (fun m : Nat => crcSumN s hs (xs.take j) j (by rw [List.length_take]; omega) B c (wr.drewN m) (hx.take j) (by omega))
          have K2 := Lib.hid (fun m : Nat => crcSumN (Crc.sum s (xs.take j)) hs1 (xs.drop j) (xs.length - j) (by rw [List.length_drop]) (if c = j then B else B.map (·.add j)) (c - j) (wr.drewN m) (hx.cut hjn hx1) (by omega))
          have K3 := Lib.hid (fun m : Nat => crcSumN s hs [] 0 rfl none 0 (wr.drewN m) RB.nil (by omega))
          go_quiet (first
            | (go_at_call 19; (with_reducible exact quiet_left (K1.out _)))
            | (go_at_call 19; (with_reducible exact quiet_left (K2.out _)))
            | (go_at_call 19; (with_reducible exact quiet_left (K3.out _)))
            | fail)
          clear K1 K2 K3
          generalize (if c = j then B else Option.map (fun x => x.add j) B) = B2
          by_cases h0 : xs.length = 0
          · have he : ((xs.length : Int) == 0) = true := by simp [h0]
            have hh := Lib.hid h0
            clear h0
            go_wp2
            go_roundw
            case rel => exact ⟨k + 1, by omega, by go_num, below_drewN hb _⟩
            case measure => simp [intOf]; omega
          · have he : ((xs.length : Int) == 0) = false := by simpa using h0
            go_wp2_with fail
            have hwr := below_drewN (Below.refl wr.heap.size wr) nq
            generalize wr.drewN nq = w2 at hwr ⊢
            have hlt3 : b < w2.heap.size := Nat.lt_of_lt_of_le hlt2 hwr.size
            have d0 := (hwr.cell (p := ⟨b, o + k * 3, none⟩) hlt2).trans c0
            have d2 := (hwr.cell (p := ⟨b, o + k * 3 + 2, none⟩) hlt2).trans c2
            have hy := hx.next hwr
            have hb2 : Below W.heap.size W w2 := hb.trans (hwr.mono hb.size)
            clear c0 c1 c2 hx hb hwr hlt2
            go_wp2_with fail
            ((with_reducible refine (copyBytes xs B c _ hy ?_).mono ?_); omega)
            rintro e w3 ⟨A', c', rfl, hown, hb3⟩
            obtain ⟨g, cap', hA, hg, hg2⟩ := hown.form (by omega)
            injection hA with hA _ _
            subst hA
            have e0 := (hb3.cell (p := ⟨b, o + k * 3, none⟩) hlt3).trans d0
            have e2 := (hb3.cell (p := ⟨b, o + k * 3 + 2, none⟩) hlt3).trans d2
            have hlt4 : b < w3.heap.size := Nat.lt_of_lt_of_le hlt3 hb3.size
            have hb4 : Below W.heap.size W w3 := hb2.trans (hb3.mono hb2.size)
            clear d0 d2 hy
            go_wp2_with fail
            (with_reducible refine (within n _ hn1 hn2 ?_ ?_ _).mono ?_)
            · omega
            · omega
            rintro e w' ⟨rfl, rfl⟩
            have hat := wth_lt n (xs.length : Int) (by omega)
            generalize wth n (xs.length : Int) = p at hat ⊢
            have hk8 := wth_lt n 8 (by omega)
            have KW := Lib.hid (fun w : World => within n 8 hn1 hn2 (by omega) (by omega) w)
            generalize wth n 8 = k8 at hk8 KW
            have hpl : p < xs.length := by omega
            obtain ⟨x, hx⟩ : ∃ x, xs[p]? = some x := ⟨_, List.getElem?_eq_getElem hpl⟩
            have hcell : w3.cell? ⟨g, p, none⟩ = some (.int .u8 (x.toNat : Int)) := by rw [hown.cellAt p (by omega), List.getElem?_map, hx]; rfl
            have hfz := hown.frozenAt p
            have hxh := Lib.hid hx
            clear hx
            have HO := Lib.hid hown
            clear hown
            go_wp2_with fail
            go_still_tail 14, (by kernel_rfl)
            still_call ((KW.out _).mono fun _ _ h => ⟨h.1, h.2.symm⟩)
            repeat still_step
            refine wpStill_nil ?_
            change wpList _ _ _ _ _ w3.drew
            go_wp2_with fail
            obtain ⟨hown4, hcells4, hsize4, hbel4⟩ := store_byte HO.out p hpl (turnBit x k8) (congrArg _ (turn_val x (by omega)))
            generalize ((w3.setCell ⟨g, p, none⟩ (Value.int .u8 (bits .xor .u8 (x.toNat : Int) (2 ^ k8 % 256)))).drew) = w4 at hown4 hcells4 hsize4 hbel4 ⊢
            have f0 := (hcells4 b (o + k * 3) (by omega)).trans e0
            have f2 := (hcells4 b (o + k * 3 + 2) (by omega)).trans e2
            have hb5 := hbel4 _ _ hb4 (by have := hb2.size; omega)
            have hlt5 : b < w4.heap.size := by omega
            have hgb : g ≠ b := by omega
            have hne1 : Crc.sum s xs ≠ Crc.sum s (xs.set p (turnBit x k8)) := by
              have := Crc.sum_byte hs (xs.take p) (xs.drop (p + 1)) x (turnBit x k8) (turnBit_ne x (by omega))
              rw [← split_at hxh.out, ← set_at hxh.out] at this
              exact this
            have hr : RB w4 w4.heap.size (some ⟨g, 0, none⟩) (xs.set p (turnBit x k8)) := by
              have := Reads.of_own hown4
              unfold RB
              rw [List.length_set]
              exact this
            have q3 : ((((Crc.sum s (xs.set p (turnBit x k8)) : Nat) : Int)) == (((Crc.sum s xs : Nat) : Int))) = false := by
              simp only [beq_eq_false_iff_ne, ne_eq, Int.natCast_inj]; exact fun h => hne1 h.symm
            have KC := Lib.hid (crcSumN s hs (xs.set p (turnBit x k8)) xs.length (by simp) (some ⟨g, 0, none⟩) cap' w4 hr (by omega))
            have HO4 := Lib.hid hown4
            clear hown4 HO hcells4 hbel4 e0 e2 hcell hfz KW hr hne1 hb4 hb3
            (with_reducible refine KC.out.mono ?_)
            rintro e w' ⟨rfl, rfl⟩
            by_cases hp1 : p + 1 < xs.length
            · have hp1' : (p : Int) + 1 < (xs.length : Int) := by omega
              obtain ⟨x2, hx2⟩ : ∃ x2, xs[p + 1]? = some x2 := ⟨_, List.getElem?_eq_getElem hp1⟩
              have hcell : w4.cell? ⟨g, p + 1, none⟩ = some (.int .u8 (x2.toNat : Int)) := by rw [HO4.out.cellAt (p + 1) (by omega), List.getElem?_map, List.getElem?_set_ne (by omega), hx2]; rfl
              have hfz := HO4.out.frozenAt (p + 1)
              have hx2h := Lib.hid hx2
              clear hx2
              go_wp2_with fail
              have hw1 : IntKind.i64.wrap ((p : Int) + 1) = (p : Int) + 1 := IntWalk.i64_in _ (by omega)
              have hw2 : 0 ≤ (p : Int) + 1 := by omega
              have hw3 : ((p : Int) + 1).toNat = p + 1 := by omega
              go_still_tail 15, (by kernel_rfl)
              clear hw1 hw2 hw3
              change wpList _ _ _ _ _ w4.drew
              go_wp2_with fail
              obtain ⟨hown5, hcells5, hsize5, hbel5⟩ := store_byte HO4.out (p + 1) hp1 (xorByte x2 n) (congrArg _ (xor_val x2 n))
              generalize ((w4.setCell ⟨g, p + 1, none⟩ (Value.int .u8 (bits .xor .u8 (x2.toNat : Int) (n % 256)))).drew) = w5 at hown5 hcells5 hsize5 hbel5 ⊢
              have hb6 := hbel5 _ _ hb5 (by have := hb2.size; omega)
              have hne2 : Crc.sum s xs ≠ Crc.sum s ((xs.set p (turnBit x k8)).set (p + 1) (xorByte x2 n)) := by
                obtain ⟨e1, e2⟩ := set_two hxh.out hx2h.out (turnBit x k8) (xorByte x2 n)
                have := Crc.sum_two hs (xs.take p) (xs.drop (p + 2)) x x2 (turnBit x k8) (xorByte x2 n) k8 (by omega) (turnBit_nat x (by omega))
                rw [← e1, ← e2] at this
                exact this
              have hr : RB w5 w5.heap.size (some ⟨g, 0, none⟩) ((xs.set p (turnBit x k8)).set (p + 1) (xorByte x2 n)) := by
                have := Reads.of_own hown5
                unfold RB
                rw [List.length_set, List.length_set]
                exact this
              have q4 : ((((Crc.sum s ((xs.set p (turnBit x k8)).set (p + 1) (xorByte x2 n)) : Nat) : Int)) == (((Crc.sum s xs : Nat) : Int))) = false := by
                simp only [beq_eq_false_iff_ne, ne_eq, Int.natCast_inj]; exact fun h => hne2 h.symm
              (with_reducible refine (crcSumN s hs ((xs.set p (turnBit x k8)).set (p + 1) (xorByte x2 n)) xs.length ?_ (some ⟨g, 0, none⟩) cap' w5 hr ?_).mono ?_)
              · simp
              · omega
              rintro e w' ⟨rfl, rfl⟩
              clear hown5 hcells5 hbel5 hr hne2
              go_wp2
              go_roundw
              case rel => exact ⟨k + 1, by omega, by go_num, hb6⟩
              case measure => simp [intOf]; omega
            · have hp1' : ¬ (p : Int) + 1 < (xs.length : Int) := by omega
              go_wp2
              go_roundw
              case rel => exact ⟨k + 1, by omega, by go_num, hb5⟩
              case measure => simp [intOf]; omega
        · go_wp2
          go_ret
          exact ⟨rfl, hb⟩
      · go_wp2_with (go_at_call 22; refine (wakes5 _).mono ?_; rintro e w' ⟨rfl, hb'⟩)
        go_ret
        exact ⟨rfl, hb.trans (hb'.mono hb.size)⟩
    · go_wp2_with (go_at_call 22; refine (wakes5 _).mono ?_; rintro e w' ⟨rfl, hb'⟩)
      go_ret
      exact ⟨rfl, hb.trans (hb'.mono hb.size)⟩

set_option maxRecDepth 100000 in
theorem crcParts_lifted (os : Os) (started : os.Started) (H : Type) (enc : TypeId × Value → H) :
    ReturnsInHanded {} Try.checked os 4 .any (Rows.crcPartsSpec.pre6 enc Try.prog Try.f4 [] false) (Rows.crcPartsSpec.post enc Try.prog Try.f4 false true false false) := by
  refine law_lifted (T := 22) Try.func4 Try.params4 (by kernel_rfl) (by rw [Try.params4]; rfl) rfl (fun _ _ => rfl) (by kernel_rfl) (of_decide_eq_true (by kernel_rfl)) (by kernel_rfl) ?_ os started H enc
    (ChangeSpec.witness6 (enc := enc) (C := Try.checked) false ⟨#[], #[.slice none 0 0], []⟩ 8 (by kernel_rfl) (by kernel_rfl) (by kernel_rfl) (by kernel_rfl))
  intro H enc W v d p h
  obtain ⟨A, len, cap, rfl, hl, hc, ha⟩ := CrcAsk.of h
  exact crcParts_walk A len cap W hl hc ha

theorem crcParts_holds : Rows.CrcPartsSaid :=
  OpenClaim.holds_of_wide 4 Try.f4 rfl rfl rfl rfl rfl rfl rfl ⟨rfl, rfl, rfl, rfl, rfl⟩ rfl rfl rfl rfl rfl (by kernel_rfl) Try.func4 (by kernel_rfl)
    (of_decide_eq_true (by kernel_rfl)) (by unfold Func.isWrapper; first | (rw [if_pos (by decide +kernel)]; kernel_rfl) | (rw [if_neg (by decide +kernel)]; exact ⟨rfl, rfl⟩))
    (fun os started H enc _ => crcParts_lifted os started H enc)

end Go.Proofs.Ytjdokaiadljeeaa
