/-
  PROVED: 'Of what is wrong the first thing counts: too short, another version, a head too short, cut off, a length below its head, cut off, a wrong sum, a fragment: without the page's own order' (kiosklaw10.IpErrors). CONDITIONS: none; for every argument.
-/
import Derived.Test.YtjdokaiadljeeaaIpE
import Derived.Outline
import Derived.Deep.CutBlock
import Derived.Deep.CutRange
import Derived.Deep.CutRange
import Derived.StillTailTactics
namespace Go.Proofs.Ytjdokaiadljeeaa
open Go.ChangeShapes Go.WideShapes Go.ChangeAt Go.RowKit Go.Deep

set_option maxRecDepth 100000 in
set_option maxHeartbeats 6400000 in
theorem ipErrors_walk (A : Option Addr) (len cap : Nat) (W : World) (_hl : len ≤ cap) (_hc : cap ≤ maxLen) (_ha : IpAsk W A len) :
    Calls Try.prog 13 #[.slice A len cap] W fun e W' => e = .returned (.bool true) ∧ Below W.heap.size W W' := by
  unfold maxLen at _hc
  have hbD := Lib.hid (balloc W (.cells #[.int .u8 1, .int .u8 2, .int .u8 3, .int .u8 4] 5))
  have hrD := Lib.hid (RB.lit W 5 #[.int .u8 1, .int .u8 2, .int .u8 3, .int .u8 4] (0, 0) [1, 2, 3, 4] rfl)
  have K : Calls Try.prog 40 #[.agg #[.int .i64 1, .int .i64 2, .int .i64 6, .int .i64 9, .int .i64 0, .slice (some ⟨W.heap.size, 0, none⟩) 4 4]] (W.alloc (.cells #[.int .u8 1, .int .u8 2, .int .u8 3, .int .u8 4] 5)) fun e w' => ∃ A' c', e = .returned (.slice A' 24 c') ∧ w'.ownsRow (W.alloc (.cells #[.int .u8 1, .int .u8 2, .int .u8 3, .int .u8 4] 5)).heap.size 5 1 (.slice A' 24 c') 24 (errB.map bv) ∧ Below (W.alloc (.cells #[.int .u8 1, .int .u8 2, .int .u8 3, .int .u8 4] 5)).heap.size (W.alloc (.cells #[.int .u8 1, .int .u8 2, .int .u8 3, .int .u8 4] 5)) w' :=
    refPBytes 1 2 6 9 0 [1, 2, 3, 4] 4 rfl (some ⟨W.heap.size, 0, none⟩) 4 (by decide) _ hrD.out
  have HK := Lib.hid K
  clear K hrD
  go_enter Try.func13, Try.ntmps13
  go_wp2_with fail
  generalize W.alloc (.cells #[.int .u8 1, .int .u8 2, .int .u8 3, .int .u8 4] 5) = w0 at hbD HK ⊢
  (with_reducible refine HK.out.mono ?_)
  rintro e w1 ⟨A1, p1, rfl, hown1, hb1⟩
  have hbb1 := Lib.hid (hbD.out.trans (hb1.mono hbD.out.size))
  have hin1 := Lib.hid (RB.of_ownN hown1)
  have hW1 := hbb1.out.size
  have HP1 : Hid (24 ≤ p1) := Lib.hid (by obtain ⟨_, _, hA, h, _⟩ := own_shape hown1; injection hA with _ _ h2; omega)
  clear HK hown1 hb1 hbD
  go_wp2
  have hcw : ∀ k v, errW[k]? = some v → (w1.alloc (.cells #[.int .i64 7, .int .i64 1, .int .i64 1, .int .i64 7, .int .i64 1, .int .i64 7, .int .i64 8, .int .i64 9, .int .i64 9, .int .i64 0, .int .i64 0] 3)).cell? ⟨w1.heap.size, k, none⟩ = some (.int .i64 v) := by
    intro k v h
    rw [World.cell?_alloc_at _ _ _ _ rfl]
    have hk : k < 11 := by
      rcases Nat.lt_or_ge k 11 with hk | hk
      · exact hk
      · rw [List.getElem?_eq_none hk] at h; cases h
    have hk' : k = 0 ∨ k = 1 ∨ k = 2 ∨ k = 3 ∨ k = 4 ∨ k = 5 ∨ k = 6 ∨ k = 7 ∨ k = 8 ∨ k = 9 ∨ k = 10 := by omega
    rcases hk' with rfl | rfl | rfl | rfl | rfl | rfl | rfl | rfl | rfl | rfl | rfl <;> (simp [errW] at h; subst h; rfl)
  have h12 := Lib.hid (balloc w1 (.cells #[.int .i64 7, .int .i64 1, .int .i64 1, .int .i64 7, .int .i64 1, .int .i64 7, .int .i64 8, .int .i64 9, .int .i64 9, .int .i64 0, .int .i64 0] 3))
  have HCW := Lib.hid hcw
  have hs2 : w1.heap.size < (w1.alloc (.cells #[.int .i64 7, .int .i64 1, .int .i64 1, .int .i64 7, .int .i64 1, .int .i64 7, .int .i64 8, .int .i64 9, .int .i64 9, .int .i64 0, .int .i64 0] 3)).heap.size := lt_alloc _ _
  clear hcw
  generalize w1.alloc (.cells #[.int .i64 7, .int .i64 1, .int .i64 1, .int .i64 7, .int .i64 1, .int .i64 7, .int .i64 8, .int .i64 9, .int .i64 9, .int .i64 0, .int .i64 0] 3) = w2 at h12 HCW hs2 ⊢
  have hbb2 := Lib.hid (hbb1.out.trans (h12.out.mono hbb1.out.size))
  have HI1 : Hid (∀ w', Below w1.heap.size w1 w' → RB w' w'.heap.size A1 errB) := Lib.hid (fun w' hw => hin1.out.next hw)
  have hp1 : 24 ≤ p1 := HP1.out
  go_loopw [6, 7, 8, 9] (fun i _ _ _ wr => ∃ k : Nat, k ≤ 11 ∧ i = .int .i64 k ∧ Hid (Below w2.heap.size w2 wr)) (fun i _ _ _ _ => 11 - (intOf i).toNat)
  case atStart => exact ⟨0, Nat.zero_le _, rfl, Lib.hid (Below.refl _ _)⟩
  case round =>
    obtain ⟨k, hk, rfl, h2r⟩ := hrel
    have h1r := Lib.hid (h12.out.trans (h2r.out.mono (Nat.le_of_lt hs2)))
    by_cases hlt : k < 11
    · have hltI : (k : Int) < 11 := by omega
      go_wp2_with fail
      (with_reducible refine (copyN errB 24 errB_length A1 p1 wr (HI1.out _ h1r.out) (by omega)).mono ?_)
      rintro e w9 ⟨A9, p9, rfl, hown9, hb9⟩
      have H29 := Lib.hid (h2r.out.trans (hb9.mono h2r.out.size))
      have h19 := Lib.hid (h1r.out.trans (hb9.mono h1r.out.size))
      have hc9 : 24 ≤ p9 := by obtain ⟨_, _, hA, h, _⟩ := own_shape hown9; injection hA with _ _ h2; omega
      have hsr := h2r.out.size
      obtain ⟨g, rfl, hgr, hg9'⟩ := own_form hown9 (by omega)
      have hg9 : w2.heap.size ≤ g := by omega
      obtain ⟨_, _, f0, z0⟩ := own_cell hown9 0 (by omega)
      obtain ⟨_, _, f3, z3⟩ := own_cell hown9 3 (by omega)
      obtain ⟨_, _, f9, z9⟩ := own_cell hown9 9 (by omega)
      have HO9 := Lib.hid hown9
      have HR9 := Lib.hid (RB.of_ownN hown9)
      have h19c : (19 : Int) ≤ (p9 : Int) := by omega
      clear hown9 hb9
      go_upto_block 2 with fail
      go_cut [7] from 15 to 92 (fun s7 wx => ErrRel k w2.heap.size w2 s7 wx)
      case first =>
        have hk' : k = 0 ∨ k = 1 ∨ k = 2 ∨ k = 3 ∨ k = 4 ∨ k = 5 ∨ k = 6 ∨ k = 7 ∨ k = 8 ∨ k = 9 ∨ k = 10 := by omega
        clear h2r h1r hsr hgr hg9' hk hlt hltI
        rcases hk' with rfl | rfl | rfl | rfl | rfl | rfl | rfl | rfl | rfl | rfl | rfl
        · go_wp2_with fail
          go_meet
          case rel => (with_reducible exact ErrRel.cut HR9.out hc9 H29.out)
        · go_wp2_with fail
          go_meet
          case rel => (with_reducible exact ErrRel.set 1 0 0x65 rfl (by omega) rfl HO9.out hc9 H29.out hg9)
        · go_wp2_with fail
          go_meet
          case rel => (with_reducible exact ErrRel.set 2 0 0x44 rfl (by omega) rfl HO9.out hc9 H29.out hg9)
        · go_wp2_with fail
          go_meet
          case rel => (with_reducible exact ErrRel.set 3 0 0x4f rfl (by omega) rfl HO9.out hc9 H29.out hg9)
        · go_wp2_with fail
          go_meet
          case rel => (with_reducible exact ErrRel.set 4 3 19 rfl (by omega) rfl HO9.out hc9 H29.out hg9)
        · go_wp2_with fail
          go_meet
          case rel => (with_reducible exact ErrRel.set 5 3 25 rfl (by omega) rfl HO9.out hc9 H29.out hg9)
        · go_wp2_with fail
          go_meet
          case rel => (with_reducible exact ErrRel.set 6 9 7 rfl (by omega) rfl HO9.out hc9 H29.out hg9)
        · go_wp2_with fail
          (with_reducible refine (mendedPut errB 24 errB_length A1 p1 w9 (HI1.out _ h19.out) (by omega) (by omega) 6 (by omega) 6 rfl 0x20 32 rfl).mono ?_)
          rintro e w10 ⟨A10, p10, rfl, hown10, hb10⟩
          have h210 := H29.out.trans (hb10.mono H29.out.size)
          go_wp2_with fail
          go_meet
          case rel => (with_reducible exact ErrRel.put 7 6 0x20 (by omega) rfl hown10 h210)
        · go_wp2_with fail
          (with_reducible refine (mendedPut errB 24 errB_length A1 p1 w9 (HI1.out _ h19.out) (by omega) (by omega) 7 (by omega) 7 rfl 1 1 rfl).mono ?_)
          rintro e w10 ⟨A10, p10, rfl, hown10, hb10⟩
          have h210 := H29.out.trans (hb10.mono H29.out.size)
          go_wp2_with fail
          go_meet
          case rel => (with_reducible exact ErrRel.put 8 7 1 (by omega) rfl hown10 h210)
        · go_wp2_with fail
          (with_reducible refine (mendedPut errB 24 errB_length A1 p1 w9 (HI1.out _ h19.out) (by omega) (by omega) 6 (by omega) 6 rfl 0x80 128 rfl).mono ?_)
          rintro e w10 ⟨A10, p10, rfl, hown10, hb10⟩
          have h210 := H29.out.trans (hb10.mono H29.out.size)
          go_wp2_with fail
          go_meet
          case rel => (with_reducible exact ErrRel.put 9 6 0x80 (by omega) rfl hown10 h210)
        · go_wp2_with fail
          (with_reducible refine (mendedPut errB 24 errB_length A1 p1 w9 (HI1.out _ h19.out) (by omega) (by omega) 1 (by omega) 1 rfl 0xfc 252 rfl).mono ?_)
          rintro e w10 ⟨A10, p10, rfl, hown10, hb10⟩
          have h210 := H29.out.trans (hb10.mono H29.out.size)
          go_wp2_with fail
          go_meet
          case rel => (with_reducible exact ErrRel.put 10 1 0xfc (by omega) rfl hown10 h210)
      case rest =>
        obtain ⟨A7, n7, c7, ys, rfl, hyl, hnc, hn24, hr7, hpo, h2c⟩ := hcut
        obtain ⟨⟨⟨s, d, p, t, i, zs⟩, er⟩, hq⟩ : ∃ q, parseOut ys = q := ⟨_, rfl⟩
        have hwant := HCW.out k er (by
          rw [hq] at hpo
          simp only at hpo
          rw [hpo, List.getD_eq_getElem?_getD]
          rw [List.getElem?_eq_getElem (show k < errW.length from hlt)]; rfl)
        have hpe := parse_err ys
        rw [hq] at hpe
        simp only at hpe
        have hzl : zs.length ≤ 24 := by have := parseOut_len ys; rw [hq] at this; simp only at this; omega
        have K := Lib.hid (ipParseQ ys n7 hyl A7 c7 hnc wc hr7 (by omega) s d p t i er zs hq)
        have h2c' := Lib.hid h2c
        have hqq := Lib.hid hq
        clear h2c hr7 hq hpo h2r h1r hsr HO9 HR9 H29 h19 f0 f3 f9 z0 z3 z9 hg9 hgr hg9' h19c hc9
        go_wp2_with fail
        (with_reducible refine K.out.mono ?_)
        rintro e w4 ⟨A3, p3, rfl, hown3, hb3⟩
        have h24 := Lib.hid (h2c'.out.trans (hb3.mono h2c'.out.size))
        have hs4 := h24.out.size
        have h25 := Lib.hid (h24.out.alloc h24.out.size (.cells #[.int .i64 s, .int .i64 d, .int .i64 p, .int .i64 t, .int .i64 i, .slice A3 zs.length p3] 53))
        have hp5 := Lib.hid (PkAt.box w4 s d p t i (.slice A3 zs.length p3) 53)
        have hs5 := lt_alloc w4 (.cells #[.int .i64 s, .int .i64 d, .int .i64 p, .int .i64 t, .int .i64 i, .slice A3 zs.length p3] 53)
        have hr5 := Lib.hid ((RB.of_own hown3).next (balloc w4 (.cells #[.int .i64 s, .int .i64 d, .int .i64 p, .int .i64 t, .int .i64 i, .slice A3 zs.length p3] 53)))
        have cw5 := (cellB (balloc w4 (.cells #[.int .i64 s, .int .i64 d, .int .i64 p, .int .i64 t, .int .i64 i, .slice A3 zs.length p3] 53)) (b := w1.heap.size) (o := k) (by omega)).trans ((cellB h24.out hs2).trans hwant)
        clear hown3 hb3 K hwant h2c'
        go_wp2_with fail
        generalize w4.alloc (.cells #[.int .i64 s, .int .i64 d, .int .i64 p, .int .i64 t, .int .i64 i, .slice A3 zs.length p3] 53) = w5 at h25 hp5 hs5 hr5 cw5 ⊢
        have cw5d : w5.drew.cell? ⟨w1.heap.size, k, none⟩ = some (.int .i64 er) := cw5
        have hk0 : (0 : Int) ≤ (k : Int) := by omega
        by_cases he0 : er = 0
        · have hq1 : (er != er) = false := by simp
          have hq2 : (er != 0) = false := by simp [he0]
          obtain ⟨z0, z1, z2, z3, z4, z5⟩ := hp5.out
          have KN := Lib.hid (fun m : Nat => num10 er (w5.drewN m))
          clear he0 hpe
          go_quiet ((go_at_call 39; (with_reducible exact quiet_left (KN.out _))))
          clear KN
          go_wp2
          go_roundw
          case rel => exact ⟨k + 1, by omega, by go_num, Lib.hid (below_drewN h25.out _)⟩
          case measure => simp [intOf]; omega
        · have hz := hpe he0
          simp only [Pk.zero, Pk.mk.injEq] at hz
          obtain ⟨rfl, rfl, rfl, rfl, rfl, rfl⟩ := hz
          have hq1 : (er != er) = false := by simp
          have hq2 : (er != 0) = true := by simpa using he0
          obtain ⟨z0, z1, z2, z3, z4, z5⟩ := hp5.out
          have KE := Lib.hid (eqPacket 0 0 0 0 0 [] 0 rfl A3 none p3 0 w5.drew hr5.out RB.nil (by omega))
          clear he0 hpe
          simp only [List.length_nil] at *
          go_region_held3 (fun w' => w'.cell? ⟨w1.heap.size, k, none⟩ = some (.int .i64 er) ∧ w'.cell? ⟨w4.heap.size, 0, none⟩ = some (.int .i64 0) ∧ w'.cell? ⟨w4.heap.size, 1, none⟩ = some (.int .i64 0) ∧ w'.cell? ⟨w4.heap.size, 2, none⟩ = some (.int .i64 0) ∧ w'.cell? ⟨w4.heap.size, 3, none⟩ = some (.int .i64 0) ∧ w'.cell? ⟨w4.heap.size, 4, none⟩ = some (.int .i64 0) ∧ w'.cell? ⟨w4.heap.size, 5, none⟩ = some (.slice A3 0 p3)) (go_keep)
            (first
              | (go_at_call 39; (with_reducible refine (num10 _ _).mono ?_); rintro e w' ⟨rfl, rfl⟩)
              | (go_at_call 41; (with_reducible refine KE.out.mono ?_); rintro e w8 ⟨rfl, hb8⟩; have h28 := Lib.hid (h25.out.drew.trans (hb8.mono h25.out.size)); obtain ⟨y0, y1, y2, y3, y4, y5⟩ := PkAt.below (w := w5.drew) hp5.out hb8 hs5; have cw8 := (cellB hb8 (b := w1.heap.size) (o := k) (Nat.lt_of_lt_of_le hs2 h25.out.size)).trans cw5d))
          clear z0 z1 z2 z3 z4 z5 y0 y1 y2 y3 y4 y5 KE
          go_wp2
          go_roundw
          case rel => exact ⟨k + 1, by omega, by go_num, h28⟩
          case measure => simp [intOf]; omega
    · have hbbr := Lib.hid (hbb2.out.trans (h2r.out.mono hbb2.out.size))
      have hge : (0 : Int) ≤ (len : Int) := by omega
      go_wp2_with (go_at_call 42; refine (wakes10 _).mono ?_; rintro e w' ⟨rfl, hb'⟩)
      go_ret
      exact ⟨rfl, hbbr.out.trans (hb'.mono hbbr.out.size)⟩

set_option maxRecDepth 100000 in
theorem ipErrors_lifted (os : Os) (started : os.Started) (H : Type) (enc : TypeId × Value → H) :
    ReturnsInHanded {} Try.checked os 13 .any (Rows.ipErrorsSpec.pre6 enc Try.prog Try.f13 [] false) (Rows.ipErrorsSpec.post enc Try.prog Try.f13 false true false false) := by
  refine law_lifted (T := 50) Try.func13 Try.params13 (by kernel_rfl) (by rw [Try.params13]; rfl) rfl (fun _ _ => rfl) (by kernel_rfl) (of_decide_eq_true (by kernel_rfl)) (by kernel_rfl) ?_ os started H enc
    (ChangeSpec.witness6 (enc := enc) (C := Try.checked) false ⟨#[], #[.slice none 0 0], []⟩ 8 (by kernel_rfl) (by kernel_rfl) (by kernel_rfl) (by kernel_rfl))
  intro H enc W v d p h
  obtain ⟨A, len, cap, rfl, hl, hc, ha⟩ := IpAsk.of h
  exact ipErrors_walk A len cap W hl hc ha

theorem ipErrors_holds : Rows.IpErrorsSaid :=
  OpenClaim.holds_of_wide 13 Try.f13 rfl rfl rfl rfl rfl rfl rfl ⟨rfl, rfl, rfl, rfl, rfl⟩ rfl rfl rfl rfl rfl (by kernel_rfl) Try.func13 (by kernel_rfl)
    (of_decide_eq_true (by kernel_rfl)) (by unfold Func.isWrapper; first | (rw [if_pos (by decide +kernel)]; kernel_rfl) | (rw [if_neg (by decide +kernel)]; exact ⟨rfl, rfl⟩))
    (fun os started H enc _ => ipErrors_lifted os started H enc)

end Go.Proofs.Ytjdokaiadljeeaa
