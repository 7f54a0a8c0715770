/-
  PROVED: 'of parts of even length it goes on; in whatever order pairs of bytes stand it is the same; with the sum in its place all is 0' (kiosklaw7.SumParts). CONDITIONS: none; for every argument.
-/
import Derived.Test.YtjdokaiadljeeaaSumAsk
import Derived.Test.YtjdokaiadljeeaaSumW
import Derived.Test.YtjdokaiadljeeaaSumMore
import Derived.BigRegion
namespace Go.Proofs.Ytjdokaiadljeeaa
open Go.ChangeShapes Go.WideShapes Go.ChangeAt Go.RowKit Go.Deep

theorem sumAddN (s : Nat) (hs : s ≤ 65535) (xs : List UInt8) (n : Nat) (hl : xs.length = n) (A : Option Addr) (c : Nat) (w : World) (hx : RB w w.heap.size A xs) (hn : n ≤ 1099511627776) :
    Calls Try.prog 24 #[.int .i64 (s : Nat), .slice A n c] w fun e w' => e = .returned (.int .i64 ((Sm.add s xs : Nat) : Int)) ∧ w = w' := by
  subst hl
  exact sumAdd s hs xs A c w hx hn

set_option maxRecDepth 100000 in
set_option maxHeartbeats 3200000 in
theorem sumParts_walk (A : Option Addr) (len cap : Nat) (W : World) (hl : len ≤ cap) (hc : cap ≤ maxLen) (ha : SumAsk W A len) :
    Calls Try.prog 6 #[.slice A len cap] W fun e W' => e = .returned (.bool true) ∧ Below W.heap.size W W' := by
  unfold maxLen at hc
  go_enter Try.func6, Try.ntmps6
  go_wp2
  go_loopw [3, 4, 5, 6, 7] (fun i _ _ _ _ wr => ∃ k : Nat, k ≤ len ∧ i = .int .i64 k ∧ Below W.heap.size W wr) (fun i _ _ _ _ _ => len - (intOf i).toNat)
  case atStart => exact ⟨0, Nat.zero_le _, rfl, Below.refl _ _⟩
  case round =>
    obtain ⟨k, hk, rfl, hb⟩ := hrel
    by_cases hlt : k < len
    · by_cases h15 : (k : Int) < 20
      · obtain ⟨b, o, n0, xs, B, c, n2, rfl, hlt2, _, _, _, c1, hx1, hx2, hx, c2, hn1, hn2⟩ := (ha.below hb) k hlt
        by_cases h3 : xs.length ≤ 3000
        · by_cases h4 : 4 ≤ xs.length
          · unfold maxLen at hx2
            have h4' : ¬ (xs.length : Int) < 4 := by omega
            go_wp2_with fail
            (with_reducible refine (within n2 _ hn1 hn2 ?_ ?_ _).mono ?_)
            · omega
            · omega
            rintro e w1 ⟨rfl, rfl⟩
            have hj := wth_lt n2 ((xs.length : Int) / 2) (by omega)
            generalize wth n2 ((xs.length : Int) / 2) = j at hj ⊢
            obtain ⟨p, hp⟩ : ∃ p : Nat, p = j * 2 := ⟨_, rfl⟩
            have hpi : ((j : Int) * 2) = (p : Int) := by omega
            have hp2 : p % 2 = 0 := by omega
            have hpl : p + 1 < xs.length := by omega
            have hpc : p ≤ c := by omega
            have hpI : (p : Int) < (xs.length : Int) := by omega
            have hpI2 : (p : Int) + 1 < (xs.length : Int) := by omega
            have hpc2 : (p : Int) ≤ (c : Int) := by omega
            clear hp
            go_wp2_with fail
            clear hpi
            have K1 := Lib.hid (fun m : Nat => sumAddN 0 (by omega) (xs.take p) p (by rw [List.length_take]; omega) B c (wr.drewN m) (hx.take p) (by omega))
            have hle1 := Sm.add_le 0 (xs.take p)
            have K2 := Lib.hid (fun m : Nat => sumAddN (Sm.add 0 (xs.take p)) hle1 (xs.drop p) (xs.length - p) (by rw [List.length_drop]) (B.map (·.add p)) (c - p) (wr.drewN m) (hx.cutlt (by omega)) (by omega))
            have K3 := Lib.hid (fun m : Nat => sumAddN 0 (by omega) xs xs.length rfl B c (wr.drewN m) hx (by omega))
            have q1 : ((((Sm.add (Sm.add 0 (xs.take p)) (xs.drop p) : Nat) : Int)) != (((Sm.add 0 xs : Nat) : Int))) = false := by rw [Sm.add_append 0 _ _ (by rw [List.length_take]; omega), List.take_append_drop]; simp
            go_quiet (first
              | (go_at_call 24; (with_reducible exact quiet_left (K1.out _)))
              | (go_at_call 24; (with_reducible exact quiet_left (K2.out _)))
              | (go_at_call 24; (with_reducible exact quiet_left (K3.out _))))
            clear K1 K2 K3
            go_wp2_with fail
            have hwr := below_drewN (Below.refl wr.heap.size wr) nq
            have hy := hx.next hwr
            have hb2 : Below W.heap.size W (wr.drewN nq) := hb.trans (hwr.mono hb.size)
            generalize wr.drewN nq = w2 at hwr hy hb2 ⊢
            clear c1 c2 hx hb hwr hlt2
            ((with_reducible refine (copyBytes xs B c _ hy ?_).mono ?_); omega)
            rintro e w3 ⟨A', c', rfl, hown, hb3⟩
            obtain ⟨g, cap', hA, hg, hg2⟩ := hown.form (by omega)
            injection hA with hA _ _
            subst hA
            have hy3 : RB w3 w2.heap.size B xs := hy.below hb3
            have hb4 : Below W.heap.size W w3 := hb2.trans (hb3.mono hb2.size)
            have hgW : W.heap.size ≤ g := Nat.le_trans hb2.size hg
            obtain ⟨x0, h0⟩ : ∃ x, xs[0]? = some x := ⟨_, List.getElem?_eq_getElem (by omega)⟩
            obtain ⟨x1, h1⟩ : ∃ x, xs[1]? = some x := ⟨_, List.getElem?_eq_getElem (by omega)⟩
            obtain ⟨x2, h2⟩ : ∃ x, xs[2]? = some x := ⟨_, List.getElem?_eq_getElem (by omega)⟩
            obtain ⟨x3, h3x⟩ : ∃ x, xs[3]? = some x := ⟨_, List.getElem?_eq_getElem (by omega)⟩
            have e0 : w3.cell? ⟨g, 0, none⟩ = some (.int .u8 (x0.toNat : Int)) := by rw [hown.cellAt 0 (by omega), List.getElem?_map, h0]; rfl
            have e1 : w3.cell? ⟨g, 1, none⟩ = some (.int .u8 (x1.toNat : Int)) := by rw [hown.cellAt 1 (by omega), List.getElem?_map, h1]; rfl
            have e2 : w3.cell? ⟨g, 2, none⟩ = some (.int .u8 (x2.toNat : Int)) := by rw [hown.cellAt 2 (by omega), List.getElem?_map, h2]; rfl
            have e3 : w3.cell? ⟨g, 3, none⟩ = some (.int .u8 (x3.toNat : Int)) := by rw [hown.cellAt 3 (by omega), List.getElem?_map, h3x]; rfl
            have z0 := hown.frozenAt 0
            have z1 := hown.frozenAt 1
            have z2 := hown.frozenAt 2
            have z3 := hown.frozenAt 3
            have HSW := Lib.hid (Sm.check_swap xs x0 x1 x2 x3 h0 h1 h2 h3x)
            have HO := Lib.hid (own_set (own_set (own_set (own_set hown 0 x2) 1 x3) 2 x0) 3 x1).drew
            have ON := Lib.hid (((((Only.refl g w3).set 0 (.int .u8 (x2.toNat : Int))).set 1 (.int .u8 (x3.toNat : Int))).set 2 (.int .u8 (x0.toNat : Int))).set 3 (.int .u8 (x1.toNat : Int))).drew
            clear h0 h1 h2 h3x hown hy hb3
            have i4 : (3 : Int) < (xs.length : Int) := by omega
            have i3 : (2 : Int) < (xs.length : Int) := by omega
            have i2 : (1 : Int) < (xs.length : Int) := by omega
            have i1 : 0 < xs.length := by omega
            go_wp2_with fail
            go_region
            go_wp2_with fail
            generalize ((((w3.setCell ⟨g, 0, none⟩ (Value.int .u8 (x2.toNat : Int))).setCell ⟨g, 1, none⟩ (Value.int .u8 (x3.toNat : Int))).setCell ⟨g, 2, none⟩ (Value.int .u8 (x0.toNat : Int))).setCell ⟨g, 3, none⟩ (Value.int .u8 (x1.toNat : Int))).drew = w4 at ON HO ⊢
            have HO2 := Lib.hid HO.out
            have hbn := ON.out.below _ _ hb4 hgW
            have hyn := (hy3.only ON.out hg).more (show w2.heap.size ≤ w4.heap.size by have := ON.out.size; omega)
            obtain ⟨hl4, hr4⟩ := own_read HO2.out
            have q2 : ((((Sm.check ((((xs.set 0 x2).set 1 x3).set 2 x0).set 3 x1) : Nat) : Int)) != (((Sm.check xs : Nat) : Int))) = false := by rw [HSW.out]; simp
            generalize (((xs.set 0 x2).set 1 x3).set 2 x0).set 3 x1 = ys at HO2 hl4 hr4 q2
            have hl4' := Lib.hid hl4
            clear hl4 e0 e1 e2 e3 z0 z1 z2 z3 HO hy3 hb4 HSW ON
            ((with_reducible refine (sumCheck ys xs.length hl4'.out _ _ _ hr4 ?_).mono ?_); omega)
            rintro e w' ⟨rfl, rfl⟩
            go_wp2_with fail
            ((with_reducible refine (sumCheck xs xs.length rfl _ _ _ hyn ?_).mono ?_); omega)
            rintro e w' ⟨rfl, rfl⟩
            clear hr4 hyn
            obtain ⟨y0, _, f0, z0⟩ := own_cell HO2.out p (by omega)
            obtain ⟨y1, _, f1, z1⟩ := own_cell HO2.out (p + 1) (by omega)
            have HO5 := Lib.hid (own_setv (own_setv HO2.out p 0 (v := .int .u8 0) rfl) (p + 1) 0 (v := .int .u8 0) rfl)
            have O5 := Lib.hid (((Only.refl g w4).set p (.int .u8 0)).set (p + 1) (.int .u8 0))
            go_wp2_with fail
            generalize (w4.setCell ⟨g, p, none⟩ (Value.int .u8 0)).setCell ⟨g, p + 1, none⟩ (Value.int .u8 0) = w5 at HO5 O5 ⊢
            have hbm := O5.out.below _ _ hbn hgW
            clear hbn f0 z0 f1 z1 HO2 O5
            obtain ⟨hl5, hr5⟩ := own_read HO5.out
            have HM := Lib.hid (fun u v => Sm.check_mend ys p hp2 (by rw [hl4'.out]; omega) u v)
            have hcl := Sm.check_le ((ys.set p 0).set (p + 1) 0)
            generalize hzs : (ys.set p 0).set (p + 1) 0 = zs at HO5 hl5 hr5 HM hcl
            clear hzs
            ((with_reducible refine (sumCheck zs xs.length hl5 _ _ _ hr5 ?_).mono ?_); omega)
            rintro e w' ⟨rfl, rfl⟩
            obtain ⟨nn, hnn⟩ : ∃ nn, nn = Sm.check zs := ⟨_, rfl⟩
            rw [← hnn] at HM hcl ⊢
            obtain ⟨y2, _, f2, z2⟩ := own_cell HO5.out p (by omega)
            obtain ⟨y3, _, f3, z3⟩ := own_cell HO5.out (p + 1) (by omega)
            have HO6 := Lib.hid (own_setv (own_setv HO5.out p (UInt8.ofNat (nn / 256)) (congrArg _ (byte_hi nn hcl))) (p + 1) (UInt8.ofNat nn) (congrArg _ (byte_lo nn)))
            have O6 := Lib.hid (((Only.refl g w5).set p (.int .u8 ((nn : Int) / 256))).set (p + 1) (.int .u8 ((nn : Int) % 256)))
            clear hr5 hl5 hnn
            go_wp2_with fail
            generalize (w5.setCell ⟨g, p, none⟩ (Value.int .u8 ((nn : Int) / 256))).setCell ⟨g, p + 1, none⟩ (Value.int .u8 ((nn : Int) % 256)) = w6 at HO6 O6 ⊢
            have hbz := O6.out.below _ _ hbm hgW
            obtain ⟨hl6, hr6⟩ := own_read HO6.out
            have hz0 := HM.out (UInt8.ofNat (nn / 256)) (UInt8.ofNat nn) (by rw [UInt8.toNat_ofNat']; omega) (by rw [UInt8.toNat_ofNat'])
            have q3 : ((((Sm.check ((zs.set p (UInt8.ofNat (nn / 256))).set (p + 1) (UInt8.ofNat nn)) : Nat) : Int)) != 0) = false := by rw [hz0]; rfl
            clear hz0 HM hbm f2 z2 f3 z3 HO5 O6
            ((with_reducible refine (sumCheck _ xs.length hl6 _ _ _ hr6 ?_).mono ?_); omega)
            rintro e w' ⟨rfl, rfl⟩
            clear hl6 hr6 HO6
            go_wp2
            go_roundw
            case rel => exact ⟨k + 1, by omega, by go_num, hbz⟩
            case measure => simp [intOf]; omega
          · have h4' : (xs.length : Int) < 4 := by omega
            go_wp2
            go_roundw
            case rel => exact ⟨k + 1, by omega, by go_num, hb⟩
            case measure => simp [intOf]; omega
        · go_wp2
          go_roundw
          case rel => exact ⟨k + 1, by omega, by go_num, hb⟩
          case measure => simp [intOf]; omega
      · go_wp2_with (go_at_call 28; refine (wakes7 _).mono ?_; rintro e w' ⟨rfl, hb'⟩)
        go_ret
        exact ⟨rfl, hb.trans (hb'.mono hb.size)⟩
    · go_wp2_with (go_at_call 28; refine (wakes7 _).mono ?_; rintro e w' ⟨rfl, hb'⟩)
      go_ret
      exact ⟨rfl, hb.trans (hb'.mono hb.size)⟩

set_option maxRecDepth 100000 in
theorem sumParts_lifted (os : Os) (started : os.Started) (H : Type) (enc : TypeId × Value → H) :
    ReturnsInHanded {} Try.checked os 6 .any (Rows.sumPartsSpec.pre6 enc Try.prog Try.f6 [] false) (Rows.sumPartsSpec.post enc Try.prog Try.f6 false true false false) := by
  refine law_lifted (T := 33) Try.func6 Try.params6 (by kernel_rfl) (by rw [Try.params6]; rfl) rfl (fun _ _ => rfl) (by kernel_rfl) (of_decide_eq_true (by kernel_rfl)) (by kernel_rfl) ?_ os started H enc
    (ChangeSpec.witness6 (enc := enc) (C := Try.checked) false ⟨#[], #[.slice none 0 0], []⟩ 8 (by kernel_rfl) (by kernel_rfl) (by kernel_rfl) (by kernel_rfl))
  intro H enc W v d p h
  obtain ⟨A, len, cap, rfl, hl, hc, ha⟩ := SumAsk.of h
  exact sumParts_walk A len cap W hl hc ha

theorem sumParts_holds : Rows.SumPartsSaid :=
  OpenClaim.holds_of_wide 6 Try.f6 rfl rfl rfl rfl rfl rfl rfl ⟨rfl, rfl, rfl, rfl, rfl⟩ rfl rfl rfl rfl rfl (by kernel_rfl) Try.func6 (by kernel_rfl)
    (of_decide_eq_true (by kernel_rfl)) (by unfold Func.isWrapper; first | (rw [if_pos (by decide +kernel)]; kernel_rfl) | (rw [if_neg (by decide +kernel)]; exact ⟨rfl, rfl⟩))
    (fun os started H enc _ => sumParts_lifted os started H enc)

end Go.Proofs.Ytjdokaiadljeeaa
