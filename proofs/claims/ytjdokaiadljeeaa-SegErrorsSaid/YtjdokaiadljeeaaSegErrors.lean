/-
  PROVED: 'Of what is wrong the first thing counts: too short, a head too short, cut off, a wrong sum; options are passed over: without the page's own order' (kiosklaw13.SegErrors). CONDITIONS: none; for every argument.
-/
import Derived.Test.YtjdokaiadljeeaaSegE
import Derived.Deep.CutBlock
import Derived.Deep.CutRange
import Derived.StillTailTactics
namespace Go.Proofs.Ytjdokaiadljeeaa
open Go.ChangeShapes Go.WideShapes Go.ChangeAt Go.RowKit Go.Deep

set_option maxRecDepth 100000 in
set_option maxHeartbeats 6400000 in
theorem segErrors_walk (A : Option Addr) (len cap : Nat) (W : World) (_hl : len ≤ cap) (_hc : cap ≤ maxLen) (_ha : SegAsk W A len) :
    Calls Try.prog 17 #[.slice A len cap] W fun e W' => e = .returned (.bool true) ∧ Below W.heap.size W W' := by
  have hbD := Lib.hid (balloc W (.cells #[.int .u8 1, .int .u8 2, .int .u8 3, .int .u8 4, .int .u8 5, .int .u8 6, .int .u8 7, .int .u8 8] 5))
  have hrD := Lib.hid (RB.lit W 5 #[.int .u8 1, .int .u8 2, .int .u8 3, .int .u8 4, .int .u8 5, .int .u8 6, .int .u8 7, .int .u8 8] (0, 0) [1, 2, 3, 4, 5, 6, 7, 8] rfl)
  have K : Calls Try.prog 52 #[.int .i64 1, .int .i64 2, .agg #[.int .i64 3, .int .i64 4, .int .i64 5, .int .i64 0, .int .i64 16, .int .i64 0, .slice (some ⟨W.heap.size, 0, none⟩) 8 8]] (W.alloc (.cells #[.int .u8 1, .int .u8 2, .int .u8 3, .int .u8 4, .int .u8 5, .int .u8 6, .int .u8 7, .int .u8 8] 5)) fun e w' => ∃ A' c', e = .returned (.slice A' 28 c') ∧ w'.ownsRow (W.alloc (.cells #[.int .u8 1, .int .u8 2, .int .u8 3, .int .u8 4, .int .u8 5, .int .u8 6, .int .u8 7, .int .u8 8] 5)).heap.size 5 1 (.slice A' 28 c') 28 (serrB.map bv) ∧ Below (W.alloc (.cells #[.int .u8 1, .int .u8 2, .int .u8 3, .int .u8 4, .int .u8 5, .int .u8 6, .int .u8 7, .int .u8 8] 5)).heap.size (W.alloc (.cells #[.int .u8 1, .int .u8 2, .int .u8 3, .int .u8 4, .int .u8 5, .int .u8 6, .int .u8 7, .int .u8 8] 5)) w' :=
    refSegBytes 1 2 3 4 5 0 16 0 [1, 2, 3, 4, 5, 6, 7, 8] 8 rfl (some ⟨W.heap.size, 0, none⟩) 8 (by decide) (by omega) (by omega) _ hrD.out
  have HK := Lib.hid K
  clear K hrD
  go_enter Try.func17, Try.ntmps17
  go_wp2_with fail
  generalize W.alloc (.cells #[.int .u8 1, .int .u8 2, .int .u8 3, .int .u8 4, .int .u8 5, .int .u8 6, .int .u8 7, .int .u8 8] 5) = w0 at hbD HK ⊢
  (with_reducible refine HK.out.mono ?_)
  rintro e w1 ⟨A1, p1, rfl, hown1, hb1⟩
  have hbb1 := Lib.hid (hbD.out.trans (hb1.mono hbD.out.size))
  have hin1 := Lib.hid (RB.of_ownN hown1)
  have HP1 : Hid (28 ≤ p1) := Lib.hid (by obtain ⟨_, _, hA, h, _⟩ := own_shape hown1; injection hA with _ _ h2; omega)
  clear HK hown1 hb1 hbD
  go_wp2
  have hcw : ∀ k v, serrW[k]? = some v → (w1.alloc (.cells #[.int .i64 7, .int .i64 1, .int .i64 7, .int .i64 8, .int .i64 0] 3)).cell? ⟨w1.heap.size, k, none⟩ = some (.int .i64 v) := by
    intro k v h
    rw [World.cell?_alloc_at _ _ _ _ rfl]
    have hk : k < 5 := by
      rcases Nat.lt_or_ge k 5 with hk | hk
      · exact hk
      · rw [List.getElem?_eq_none hk] at h; cases h
    have hk' : k = 0 ∨ k = 1 ∨ k = 2 ∨ k = 3 ∨ k = 4 := by omega
    rcases hk' with rfl | rfl | rfl | rfl | rfl <;> (simp [serrW] at h; subst h; rfl)
  have h12 := Lib.hid (balloc w1 (.cells #[.int .i64 7, .int .i64 1, .int .i64 7, .int .i64 8, .int .i64 0] 3))
  have HCW := Lib.hid hcw
  have hs2 : w1.heap.size < (w1.alloc (.cells #[.int .i64 7, .int .i64 1, .int .i64 7, .int .i64 8, .int .i64 0] 3)).heap.size := lt_alloc _ _
  clear hcw
  generalize w1.alloc (.cells #[.int .i64 7, .int .i64 1, .int .i64 7, .int .i64 8, .int .i64 0] 3) = w2 at h12 HCW hs2 ⊢
  have hbb2 := Lib.hid (hbb1.out.trans (h12.out.mono hbb1.out.size))
  have HI1 : Hid (∀ w', Below w1.heap.size w1 w' → RB w' w'.heap.size A1 serrB) := Lib.hid (fun w' hw => hin1.out.next hw)
  have hp1 : 28 ≤ p1 := HP1.out
  go_loopw [5, 6, 7, 8] (fun i _ _ _ wr => ∃ k : Nat, k ≤ 5 ∧ i = .int .i64 k ∧ Hid (Below w2.heap.size w2 wr)) (fun i _ _ _ _ => 5 - (intOf i).toNat)
  case atStart => exact ⟨0, Nat.zero_le _, rfl, Lib.hid (Below.refl _ _)⟩
  case round =>
    obtain ⟨k, hk, rfl, h2r⟩ := hrel
    have h1r := Lib.hid (h12.out.trans (h2r.out.mono (Nat.le_of_lt hs2)))
    by_cases hlt : k < 5
    · have hltI : (k : Int) < 5 := by omega
      go_wp2_with fail
      (with_reducible refine (copyN serrB 28 serrB_length A1 p1 wr (HI1.out _ h1r.out) (by omega)).mono ?_)
      rintro e w9 ⟨A9, p9, rfl, hown9, hb9⟩
      have H29 := Lib.hid (h2r.out.trans (hb9.mono h2r.out.size))
      have hc9 : 28 ≤ p9 := by obtain ⟨_, _, hA, h, _⟩ := own_shape hown9; injection hA with _ _ h2; omega
      have hsr := h2r.out.size
      obtain ⟨g, rfl, hgr, hg9'⟩ := own_form hown9 (by omega)
      have hg9 : w2.heap.size ≤ g := by omega
      obtain ⟨_, _, f0, z0⟩ := own_cell hown9 12 (by omega)
      obtain ⟨_, _, f3, z3⟩ := own_cell hown9 25 (by omega)
      obtain ⟨_, _, f4, z4⟩ := own_cell hown9 14 (by omega)
      obtain ⟨_, _, f5, z5⟩ := own_cell hown9 15 (by omega)
      have HO9 := Lib.hid hown9
      have HR9 := Lib.hid (RB.of_ownN hown9)
      have h19c : (19 : Int) ≤ (p9 : Int) := by omega
      clear hown9 hb9
      go_upto_block 2 with fail
      go_cut [6] from 17 to 86 (fun s6 wx => SErrRel k w2.heap.size w2 s6 wx)
      case first =>
        have hk' : k = 0 ∨ k = 1 ∨ k = 2 ∨ k = 3 ∨ k = 4 := by omega
        clear h2r h1r hsr hgr hg9' hk hlt hltI
        rcases hk' with rfl | rfl | rfl | rfl | rfl
        · go_wp2_with fail
          go_meet
          case rel => (with_reducible exact SErrRel.cut HR9.out hc9 H29.out)
        · go_wp2_with fail
          go_meet
          case rel => (with_reducible exact SErrRel.set 1 12 0x40 rfl rfl HO9.out hc9 H29.out hg9)
        · go_wp2_with fail
          go_meet
          case rel => (with_reducible exact SErrRel.set 2 12 0x80 rfl rfl HO9.out hc9 H29.out hg9)
        · go_wp2_with fail
          go_meet
          case rel => (with_reducible exact SErrRel.set 3 25 99 rfl rfl HO9.out hc9 H29.out hg9)
        · go_wp2_with fail
          go_meet
          case rel => (with_reducible exact SErrRel.three rfl rfl rfl HO9.out hc9 H29.out hg9)
      case rest =>
        obtain ⟨A7, n7, c7, ys, rfl, hyl, hnc, hn28, hr7, hys, h2c⟩ := hcut
        obtain ⟨⟨⟨sp, dp, sq, ak, fl, wn, zs⟩, er⟩, hq⟩ : ∃ q, segOut 1 2 ys = q := ⟨_, rfl⟩
        have hpo : er = serrW.getD k 0 := by have := serrX_get k hlt; rw [← hys, hq] at this; exact this
        have hwant := HCW.out k er (by
          rw [hpo, List.getD_eq_getElem?_getD]
          rw [List.getElem?_eq_getElem (show k < serrW.length from hlt)]; rfl)
        have hpe := seg_err 1 2 ys
        rw [hq] at hpe
        simp only at hpe
        have h4 : k = 4 → er = 0 ∧ wn = 57343 ∧ zs = [] := by
          intro h
          have := serr_4
          subst h
          rw [← hys, hq] at this
          exact this
        have hn4 : k < 4 → er ≠ 0 := by
          intro h
          have hk' : k = 0 ∨ k = 1 ∨ k = 2 ∨ k = 3 := by omega
          rw [hpo]
          rcases hk' with rfl | rfl | rfl | rfl <;> decide
        have hzl : zs.length ≤ 28 := by have := segOut_len 1 2 ys; rw [hq] at this; simp only at this; omega
        have K := Lib.hid (segParseQ 1 2 ys n7 hyl A7 c7 hnc wc hr7 (by omega) sp dp sq ak fl wn er zs hq)
        have h2c' := Lib.hid h2c
        clear h2c hr7 hq hpo hys h2r h1r hsr HO9 HR9 H29 f0 f3 f4 f5 z0 z3 z4 z5 hg9 hgr hg9' h19c hc9
        go_wp2_with fail
        (with_reducible refine K.out.mono ?_)
        rintro e w4 ⟨A3, p3, rfl, hown3, hb3⟩
        have h24 := Lib.hid (h2c'.out.trans (hb3.mono h2c'.out.size))
        have hs4 := h24.out.size
        have h25 := Lib.hid (h24.out.alloc h24.out.size (.cells #[.int .i64 sp, .int .i64 dp, .int .i64 sq, .int .i64 ak, .int .i64 fl, .int .i64 wn, .slice A3 zs.length p3] 71))
        have hp5 := Lib.hid (SgAt.box w4 (.int .i64 sp) (.int .i64 dp) (.int .i64 sq) (.int .i64 ak) (.int .i64 fl) (.int .i64 wn) (.slice A3 zs.length p3) 71)
        have hs5 := lt_alloc w4 (.cells #[.int .i64 sp, .int .i64 dp, .int .i64 sq, .int .i64 ak, .int .i64 fl, .int .i64 wn, .slice A3 zs.length p3] 71)
        have hr5 := Lib.hid ((RB.of_own hown3).next (balloc w4 (.cells #[.int .i64 sp, .int .i64 dp, .int .i64 sq, .int .i64 ak, .int .i64 fl, .int .i64 wn, .slice A3 zs.length p3] 71)))
        have cw5 := (cellB (balloc w4 (.cells #[.int .i64 sp, .int .i64 dp, .int .i64 sq, .int .i64 ak, .int .i64 fl, .int .i64 wn, .slice A3 zs.length p3] 71)) (b := w1.heap.size) (o := k) (by omega)).trans ((cellB h24.out hs2).trans hwant)
        clear hown3 hb3 K hwant h2c'
        go_wp2_with fail
        generalize w4.alloc (.cells #[.int .i64 sp, .int .i64 dp, .int .i64 sq, .int .i64 ak, .int .i64 fl, .int .i64 wn, .slice A3 zs.length p3] 71) = w5 at h25 hp5 hs5 hr5 cw5 ⊢
        have hk0 : (0 : Int) ≤ (k : Int) := by omega
        have hq1 : (er != er) = false := by simp
        by_cases hk4 : k = 4
        · obtain ⟨rfl, rfl, rfl⟩ := h4 hk4
          have hkI : ((k : Int) == 4) = true := by simp; omega
          have hkL : decide ((k : Int) < 4) = false := by simp; omega
          obtain ⟨z0, z1, z2, z3, z4, z5, z6⟩ := hp5.out
          have KN := Lib.hid (fun m : Nat => num13 0 (w5.drewN m))
          have KB := Lib.hid (fun m : Nat => eqNone A3 p3 (w5.drewN m))
          have hk4' := Lib.hid hk4
          clear hpe h4 hn4 hk4
          simp only [List.length_nil] at *
          go_quiet ((first
            | (go_at_call 51; (with_reducible exact quiet_left (KN.out _)))
            | (go_at_call 21; (with_reducible exact Calls.quiet_of (KB.out _)))))
          clear KN KB
          go_wp2
          go_roundw
          case rel => exact ⟨k + 1, by omega, by go_num, Lib.hid (below_drewN h25.out _)⟩
          case measure => simp [intOf]; omega
        · have he0 : er ≠ 0 := hn4 (by omega)
          have hz := hpe he0
          simp only [Sg.zero, Sg.mk.injEq] at hz
          obtain ⟨rfl, rfl, rfl, rfl, rfl, rfl, rfl⟩ := hz
          have hkI : ((k : Int) == 4) = false := by simp; omega
          have hkL : decide ((k : Int) < 4) = true := by simp; omega
          have hkL' : (k : Int) < 4 := by omega
          obtain ⟨z0, z1, z2, z3, z4, z5, z6⟩ := hp5.out
          have KE := Lib.hid (eqSeg 0 0 0 0 0 0 [] 0 rfl A3 none p3 0 w5.drew hr5.out RB.nil (by omega))
          clear he0 hpe h4 hn4 hk4
          simp only [List.length_nil] at *
          go_still_tail 13, (by kernel_rfl)
          repeat still_step
          still_call ((num13 er _).mono fun _ _ h => ⟨h.1, h.2.symm⟩)
          repeat still_step
          try refine wpStill_nil ?_
          change wpList _ _ _ _ _ w5.drew
          go_wp2_with fail
          (with_reducible refine KE.out.mono ?_)
          rintro e w8 ⟨rfl, hb8⟩
          have h28 := Lib.hid (h25.out.drew.trans (hb8.mono h25.out.size))
          clear z0 z1 z2 z3 z4 z5 z6 KE hb8
          go_wp2
          go_roundw
          case rel => exact ⟨k + 1, by omega, by go_num, h28⟩
          case measure => simp [intOf]; omega
    · have hbbr := Lib.hid (hbb2.out.trans (h2r.out.mono hbb2.out.size))
      have hge : (0 : Int) ≤ (len : Int) := by omega
      have K := Lib.hid (segParseQ (-1) 2 serrB 28 serrB_length A1 p1 hp1 wr (HI1.out _ h1r.out) (by omega) 0 0 0 0 0 0 1 [] (seg_far1 _))
      go_wp2_with fail
      (with_reducible refine K.out.mono ?_)
      rintro e w4 ⟨A3, p3, he, _, hb3⟩
      have he' : e = .returned (.tuple #[.agg #[.int .i64 0, .int .i64 0, .int .i64 0, .int .i64 0, .int .i64 0, .int .i64 0, .slice A3 0 p3], .int .i64 1]) := he
      subst he'
      have h14 := Lib.hid ((h1r.out.trans (hb3.mono h1r.out.size)).alloc (Nat.le_trans h1r.out.size hb3.size) (.cells #[.int .i64 0, .int .i64 0, .int .i64 0, .int .i64 0, .int .i64 0, .int .i64 0, .slice A3 0 p3] 71))
      clear he hb3 K
      have K := Lib.hid (segParseQ 1 4294967296 serrB 28 serrB_length A1 p1 hp1 _ (HI1.out _ h14.out) (by omega) 0 0 0 0 0 0 1 [] (seg_far2 _))
      go_wp2_with fail
      (with_reducible refine K.out.mono ?_)
      rintro e w6 ⟨A5, p5, he, _, hb5⟩
      have he' : e = .returned (.tuple #[.agg #[.int .i64 0, .int .i64 0, .int .i64 0, .int .i64 0, .int .i64 0, .int .i64 0, .slice A5 0 p5], .int .i64 1]) := he
      subst he'
      have h16 := Lib.hid ((h14.out.trans (hb5.mono h14.out.size)).alloc (Nat.le_trans h14.out.size hb5.size) (.cells #[.int .i64 0, .int .i64 0, .int .i64 0, .int .i64 0, .int .i64 0, .int .i64 0, .slice A5 0 p5] 71))
      have hbb6 := Lib.hid (hbb1.out.trans (h16.out.mono hbb1.out.size))
      clear he hb5 K h14 h16
      go_wp2_with fail
      (with_reducible refine (num13 _ _).mono ?_)
      rintro e w' ⟨rfl, rfl⟩
      go_wp2_with fail
      (with_reducible refine (num13 _ _).mono ?_)
      rintro e w' ⟨rfl, rfl⟩
      go_wp2_with (go_at_call 54; refine (wakes13 _).mono ?_; rintro e w' ⟨rfl, hb'⟩)
      go_ret
      exact ⟨rfl, hbb6.out.trans (hb'.mono hbb6.out.size)⟩

set_option maxRecDepth 100000 in
theorem segErrors_lifted (os : Os) (started : os.Started) (H : Type) (enc : TypeId × Value → H) :
    ReturnsInHanded {} Try.checked os 17 .any (Rows.segErrorsSpec.pre6 enc Try.prog Try.f17 [] false) (Rows.segErrorsSpec.post enc Try.prog Try.f17 false true false false) := by
  refine law_lifted (T := 69) Try.func17 Try.params17 (by kernel_rfl) (by rw [Try.params17]; rfl) rfl (fun _ _ => rfl) (by kernel_rfl) (of_decide_eq_true (by kernel_rfl)) (by kernel_rfl) ?_ os started H enc
    (ChangeSpec.witness6 (enc := enc) (C := Try.checked) false ⟨#[], #[.slice none 0 0], []⟩ 8 (by kernel_rfl) (by kernel_rfl) (by kernel_rfl) (by kernel_rfl))
  intro H enc W v d p h
  obtain ⟨A, len, cap, rfl, hl, hc, ha⟩ := SegAsk.of h
  exact segErrors_walk A len cap W hl hc ha

theorem segErrors_holds : Rows.SegErrorsSaid :=
  OpenClaim.holds_of_wide 17 Try.f17 rfl rfl rfl rfl rfl rfl rfl ⟨rfl, rfl, rfl, rfl, rfl⟩ rfl rfl rfl rfl rfl (by kernel_rfl) Try.func17 (by kernel_rfl)
    (of_decide_eq_true (by kernel_rfl)) (by unfold Func.isWrapper; first | (rw [if_pos (by decide +kernel)]; kernel_rfl) | (rw [if_neg (by decide +kernel)]; exact ⟨rfl, rfl⟩))
    (fun os started H enc _ => segErrors_lifted os started H enc)

end Go.Proofs.Ytjdokaiadljeeaa
