/-
  PROVED: 'The packet with which any bytes begin, and how many bytes it has, is the page's, or the error is' (kiosklaw18.PackParses). CONDITIONS: none; for every argument.
-/
import Derived.Test.YtkcdkjpmbjcmdaaDoorTie
import Derived.Test.YtkcdkjpmbjcmdaaDoorCards
import Derived.Test.YtkcdkjpmbjcmdaaDoorCa5
import Derived.Test.YtkcdkjpmbjcmdaaDoorSp1
namespace Go.Proofs.YtkcdkjpmbjcmdaaDoor
open Go.ChangeShapes Go.WideShapes Go.ChangeAt Go.RowKit Go.Deep

set_option maxRecDepth 100000 in
set_option maxHeartbeats 6400000 in
theorem packParses_walk (A : Option Addr) (len cap : Nat) (w : World) (ha : AskMq w A len) (hT : Wd w) :
    Calls Tryd.prog 4 #[.slice A len cap] w fun e w' => e = .returned (.bool true) ∧ Below w.heap.size w w' := by
  go_enter Tryd.func4, Tryd.ntmps4
  refine Has.start 77 [(0, .slice A len cap)] rfl rfl ⟨rfl, trivial⟩ ?_
  intro a0 H0
  have O0 := Own.start w
  refine H0.rg 1 fun a1 H1 => nt ?_
  refine wp_seq_join (fun a w' => Has a 77 [(0, .slice A len cap)] ∧ Own w w.heap.size [] w') ?_ ?_
  · refine H1.rg 1 fun a2 H2 => nt ?_
    refine wp_block ?_
    refine wp_loop_up len (fun k a w' => Has a 77 [(0, .slice A len cap), (3, .int .i64 ((k : Nat) : Int))] ∧ Own w w.heap.size [] w') ⟨H2.keep ⟨rfl, rfl, trivial⟩, O0⟩ ?_
    rintro k a3 w1 hkn ⟨H3, O1⟩
    obtain ⟨b1, e1⟩ : ∃ b, decide ((k : Int) < (len : Int)) = b := ⟨_, rfl⟩
    obtain ⟨b2, e2⟩ : ∃ b, decide ((k : Int) < 10) = b := ⟨_, rfl⟩
    refine H3.tb (Own w w.heap.size []) (fun _ _ h hb => h.call hb) O1 [ec 0 11 (.int .i64 ((k : Nat) : Int)), ec 1 12 (.slice A len cap), ec 2 13 (.int .i64 ((len : Nat) : Int)), ec 3 14 (.bool b1), ec 4 15 (.bool b1), ec 5 16 (gv b1 (.int .i64 ((k : Nat) : Int))), ec 6 17 (gv b1 (.bool b2)), ec 7 18 (.bool (b1 && b2))] rfl ⟨jm, jm, jn Tryd.underlying22, jb fun _ => lss_i _ _ b1 e1 _ _ _, jm, (by cases b1; exact jo; exact jm), (by cases b1; exact jo; exact jb fun _ => lss_i _ _ b2 e2 _ _ _), (by (cases b1 <;> exact jp)), trivial⟩ ?_
    clear H3 O1 H1 H2
    intro a4 w1 H4 O1
    refine then_normal (H4.cond (t := b1 && b2) rfl ?_)
    cases hb : b1 && b2 with
    | false =>
      refine wp_exit ?_
      repeat (with_reducible refine then_exit ?_)
      exact block_leave (then_normal ⟨H4.keep ⟨rfl, trivial⟩, O1⟩)
    | true =>
    simp only [Bool.and_eq_true] at hb
    rw [hb.1] at e1
    rw [hb.2] at e2
    have hlt : k < len := by simpa using e1
    have h10 : k < 10 := by have : (k : Int) < 10 := of_decide_eq_true e2; omega
    clear e1 e2 hb
    refine skip_wp (then_normal ?_)
    refine wp_seq_join (fun a w' => Has a 77 [(0, .slice A len cap), (3, .int .i64 ((k : Nat) : Int))] ∧ Own w w.heap.size [] w') ?_ ?_
    rotate_left
    · rintro a5 w2 ⟨H5, O2⟩
      refine H5.rg 1 fun a6 H6 => ?_
      refine H6.bb 1 rfl rfl rfl rfl rfl rfl (succ_i k (by omega) _ _ _) rfl fun a7 H7 => nt ?_
      exact ⟨hlt, H7.keep ⟨rfl, rfl, trivial⟩, O2⟩
    refine wp_block ?_
    obtain ⟨b, o, m, vc, vw, vf, xs, AX, cX, hA, hblt, hrg, hL, hF, hx1, hx2, hx3⟩ := ha k hlt
    have hix : ∀ w', (Instr.indexAt 22 (.slice A len cap) (.int .i64 ((k : Nat) : Int))).run Tryd.prog w' = .ok (.pointer (some ⟨b, o + k * 25, none⟩)) w' := fun w' => by rw [hA]; exact index_m 22 Tryd.underlying22 25 (fun _ => by kernel_rfl) _ _ _ _ _ hlt _
    refine H4.rg 2 fun a5 H5 => ?_
    refine H5.index gz rfl rfl rfl rfl rfl (hix _) fun a6 H6 => ?_
    refine H6.ld 0 (load_ask (rangeB hrg O1.bel hblt)) fun a7 H7 => ?_
    refine H7.cl (heavy18 m vc vw vf xs AX cX _ (hL.next O1.bel) hF) ?_
    rintro a8 _ w2 ⟨bh, rfl, hsm, hb⟩ H8
    have O2 := O1.call hb
    clear hb O1 H4 H5 H6 H7
    refine nt (H8.cond (t := bh) rfl ?_)
    cases bh with
    | true =>
      refine H8.rg 1 fun a9 H9 => nt (wp_ret ?_)
      repeat (first | (with_reducible refine block_ret ?_) | (with_reducible refine then_ret ?_))
      exact bodyPost_ret (results_tmp rfl _ _ _) H9.df ⟨congrArg Ending.returned (H9.at_ 2 _ rfl), O2.bel⟩
    | false =>
    obtain ⟨hS0, hxl⟩ := hsm rfl
    have hS := short_of hS0
    refine skip_wp (then_normal ?_)
    replace H8 := H8.keep (l' := [(0, .slice A len cap), (3, .int .i64 ((k : Nat) : Int))]) ⟨rfl, rfl, trivial⟩
    refine H8.rg 2 fun a9 H9 => ?_
    refine H9.index gz rfl rfl rfl rfl rfl (hix _) fun a10 H10 => ?_
    refine H10.go gz rfl rfl _ (run_field rfl (H10.ev rfl) (fieldAo_1 (o + k * 25))) fun a11 H11 => ?_
    refine H11.ld 0 (load1_31 _ _ _ _ _ _ (cell24 hrg O2.bel hblt)) fun a12 H12 => ?_
    refine H12.cl (copyC xs AX cX _ (hx3.next O2.bel) (by omega)) ?_
    rintro a13 vin w3 ⟨hin, hb⟩ H13
    have O3 := O2.call hb
    refine H13.ms 1 fun a14 H14 => nt ?_
    clear hb H8 H9 H10 H11 H12 H13
    obtain ⟨Ai, ci, hvi, hown⟩ := id hin
    have hin := hin.read
    subst hvi
    obtain ⟨_, _, hve, hci, _⟩ := own_shape hown
    injection hve with _ _ hce
    subst hce
    refine H14.rg 1 fun a15 H15 => ?_
    refine H15.cl (parseC xs Ai ci hci _ (by obtain ⟨_, _, h, hr⟩ := hin; injection h with h1 _ h3; subst h1 h3; exact hr) (by omega) (hT.below O3.bel)) ?_
    rintro a16 _ w4 ⟨m1, n1, er1, vc1, vw1, vf1, rfl, hP1, ⟨hR1, hln⟩, hsm, hb⟩ H16
    have O4 := O3.call hb
    have hs34 := hb.size
    replace hin := hin.below hb
    have hM1 := MqL.of_rows hR1 hln (by decide)
    refine H16.ms 1 fun a17 H17 => ?_
    refine H17.ex (r := .agg (mqCells m1 vc1 vw1 vf1).toArray) 0 fun a18 H18 => ?_
    refine H18.ex (r := .int .i64 ((n1 : Nat) : Int)) 0 fun a19 H19 => ?_
    refine H19.ex (r := .int .i64 er1) 0 fun a20 H20 => ?_
    refine H20.nw O4 2 hM1.ones fun a21 w5 hb5 O5 H21 => nt ?_
    replace hin := hin.below hb5
    have hR1 := hR1.belowR hb5
    have hM1 := hM1.next hb5
    clear hb hb5 H14 H15 H16 H17 H18 H19 H20
    refine H21.rg 2 fun a9 H9 => ?_
    refine H9.index gz rfl rfl rfl rfl rfl (hix _) fun a10 H10 => ?_
    refine H10.go gz rfl rfl _ (run_field rfl (H10.ev rfl) (fieldAo_1 (o + k * 25))) fun a11 H11 => ?_
    refine H11.ld 0 (load1_31 _ _ _ _ _ _ (cell24 hrg O5.bel hblt)) fun a12 H12 => ?_
    refine H12.cl (refParseC xs AX cX hx1 _ (hx3.next O5.bel) (by omega) (hT.below O5.bel)) ?_
    rintro a13 _ w6 ⟨m2, n2, er2, vc2, vw2, vf2, rfl, hP2, hM2, hsm2, hb⟩ H13
    obtain ⟨rfl, rfl, rfl⟩ := parsed_one hP1 hP2
    have O6 := O5.call hb
    replace hin := hin.below hb
    have hR1 := hR1.belowR hb
    have hM1 := hM1.next hb
    refine H13.ms 1 fun a17 H17 => ?_
    refine H17.ex (r := .agg (mqCells m1 vc2 vw2 vf2).toArray) 0 fun a18 H18 => ?_
    refine H18.ex (r := .int .i64 ((n1 : Nat) : Int)) 0 fun a19 H19 => ?_
    refine H19.ex (r := .int .i64 er1) 0 fun a20 H20 => ?_
    refine H20.nw O6 2 hM2.ones fun a22 w7 hb7 O7 H22 => nt ?_
    replace hin := hin.below hb7
    have hR1 := hR1.belowR hb7
    have hM1 := hM1.next hb7
    have hM2 := hM2.next hb7
    obtain ⟨g5, hg5⟩ : ∃ g, w4.heap.size = g := ⟨_, rfl⟩
    obtain ⟨g8, hg8⟩ : ∃ g, w6.heap.size = g := ⟨_, rfl⟩
    obtain ⟨vin, hvin⟩ : ∃ v, Value.slice Ai xs.length ci = v := ⟨_, rfl⟩
    rw [hg5, hg8] at H22 O7
    rw [hvin] at H22 hin
    have H23 := H22.keep (l' := [(0, .slice A len cap), (3, .int .i64 ((k : Nat) : Int)), (4, vin), (5, .pointer (some ⟨g5, 0, none⟩)), (6, .int .i64 ((n1 : Nat) : Int)), (7, .int .i64 er1), (8, .pointer (some ⟨g8, 0, none⟩)), (9, .int .i64 ((n1 : Nat) : Int)), (10, .int .i64 er1)]) ⟨rfl, rfl, rfl, rfl, rfl, rfl, rfl, rfl, rfl, trivial⟩
    clear hb hb7 H9 H10 H11 H12 H13 H17 H18 H19 H20 H21 H22 hown hP1 hP2
    refine H23.tb (fun w' => Own w w.heap.size [(g8, mqCells m1 vc2 vw2 vf2), (g5, mqCells m1 vc1 vw1 vf1)] w' ∧ Below w7.heap.size w7 w') (fun _ _ h hb => ⟨h.1.call hb, h.2.trans (hb.mono h.2.size)⟩) ⟨O7, Below.refl _ _⟩ [ec 0 48 (.int .i64 er1), ec 1 49 (.int .i64 er1), ec 2 50 (.int .i64 er1), ec 3 51 (.bool false), ec 4 52 (.bool false), ec 5 53 (.int .i64 ((n1 : Nat) : Int)), ec 6 54 (.int .i64 ((n1 : Nat) : Int)), ec 7 55 (.bool false), ec 8 56 (.bool false), ec 9 57 (.bool false), ec 10 58 ((.agg (mqCells m1 vc1 vw1 vf1).toArray)), ec 11 59 ((.agg (mqCells m1 vc2 vw2 vf2).toArray)), eh 12 60 (.bool true), ec 13 61 (.bool false), ec 14 62 (.bool false), ec 15 63 (.bool false), ec 16 64 vin, ec 17 65 (.slice A len cap), ec 18 66 (.int .i64 ((k : Nat) : Int)), ec 19 67 ((.pointer (some ⟨b, o + k * 25, none⟩))), ec 20 68 ((.pointer (some ⟨b, o + k * 25 + 24, none⟩))), ec 21 69 ((.slice AX xs.length cX)), eh 22 70 (.bool true), ec 23 71 (.bool false), ec 24 72 (.bool false)] rfl ⟨jm, jq fun w' _ => num18 _ w', jm, jb fun _ => neq_3 er1 er1 false (by simp) _ _ _, jm, jm, jm, jb fun _ => neq_3 (n1 : Int) n1 false (by simp) _ _ _, jp, jm, jl fun _ h => loadS_run (h.1.get 1 rfl), jl fun _ h => loadS_run (h.1.get 0 rfl), kb fun w' h => eqMqS m1 _ _ _ _ _ _ w' (hM1.next h.2) (hM2.next h.2), ju (hq := run_not true), jp, jm, jm, jm, jm, jI rfl rfl rfl rfl rfl rfl hix, jf (fieldAo_1 (o + k * 25)), jl fun _ h => load1_31 _ _ _ _ _ _ (cell24 hrg h.1.bel hblt), kb fun w' h => eqBy xs vin _ w' (hin.below h.2) ⟨AX, cX, rfl, hx3.next h.1.bel⟩ (by unfold maxLen; omega), ju (hq := run_not true), jp, trivial⟩ ?_
    clear H23 O7
    intro a24 w8 H24 ⟨O8, hb⟩
    have hR1 := hR1.belowR hb
    clear hb hM1 hM2 hin
    refine then_normal (H24.condF rfl (skip_wp (then_normal ?_)))
    refine rl ?_
    refine H24.go gz rfl rfl _ (run_load rfl (H24.ev rfl) (loadS_run (O8.get 1 rfl))) fun a25 H25 => ?_
    refine H25.go (w' := w8.alloc (.cells (mqCells m1 vc1 vw1 vf1).toArray 30)) gz rfl rfl (.slice (some ⟨w8.heap.size, 0, none⟩) 1 1) (run_any H25 (by intro cs b h; cases h) (by kernel_rfl) (by kernel_rfl)) fun a26 H26 => ?_
    have hbA := balloc w8 (.cells (mqCells m1 vc1 vw1 vf1).toArray 30)
    have O9 := O8.call hbA
    have hR9 := hR1.belowR hbA
    refine H26.cl (R := fun _ w' => Below w3.heap.size _ w') ((spoilMq1 m1 vc1 vw1 vf1 w8.heap.size w3.heap.size _ (Cells.box _ _ _) (lt_alloc _ _) (Nat.le_trans hs34 (Nat.le_of_lt (hg5 ▸ O8.lt 1 rfl))) hR9 hln (own_ne hR1.1 (.inr (Nat.le_refl _))) (own_ne hR1.2.1 (.inr (Nat.le_refl _))) (own_ne hR1.2.2 (.inr (Nat.le_refl _)))).mono fun _ _ h => ⟨_, h.1, h.2⟩) ?_
    rintro a27 v27 w9 hb H27
    exact wpList_nil (block_normal (then_normal ⟨H27.keep ⟨rfl, rfl, trivial⟩, Own.bare (O9.bel.trans (hb.mono O3.le)) (Nat.le_trans O9.le hb.size)⟩))
  rintro a0 w1 ⟨H0, O1⟩
  refine H0.rg 0 fun a1 H1 => ?_
  refine H1.cl (belowC (wakes18 _ (hT.below O1.bel))) ?_
  rintro a2 _ w2 ⟨rfl, hb⟩ H2
  refine H2.ms 1 fun a3 H3 => nt (wp_ret ?_)
  repeat (first | (with_reducible refine block_ret ?_) | (with_reducible refine then_ret ?_))
  exact bodyPost_ret (results_tmp rfl _ _ _) H3.df ⟨congrArg Ending.returned (H3.at_ 2 _ rfl), (O1.call hb).bel⟩

set_option maxRecDepth 100000 in
theorem packParses_lifted (os : Os) (started : os.Started) (H : Type) (enc : TypeId × Value → H) :
    ReturnsInHanded {} Tryd.checked os 4 .any (fun w args => (Rows.packParsesSpec.pre enc Tryd.prog Tryd.f4 [] false w args ∧ laidMetH Tryd.prog lay2 w) ∧ sizedMet enc Tryd.prog Tryd.f4 (OpenSpec.ofChange Rows.packParsesSpec) false w args)
      (Rows.packParsesSpec.post enc Tryd.prog Tryd.f4 false true false false) :=
  laid_core (C := Tryd.checked) (T := 22) own_knob laid_out Tryd.func4 Tryd.params4 (by kernel_rfl) Tryd.underlying4 rfl (fun _ _ => rfl) (by kernel_rfl) (of_decide_eq_true (by kernel_rfl)) (by kernel_rfl)
    (fun H enc W v d p h0 hv hs hl => by
      obtain ⟨A, len, cap, rfl, _, _, ha⟩ := AskMq.of (enc := enc) ⟨h0, hv, hs⟩
      exact packParses_walk A len cap W ha (tabs_of hl)) os started H enc
    (ChangeSpec.witness_shaped (enc := enc) (C := Tryd.checked) (os := os) (X := fun w _ => laidMetH Tryd.prog lay2 w) false (laidWorld os) #[.slice none 0 0] 8 rfl (World.shaped_of_RefB (by kernel_rfl) (by kernel_rfl)) (by kernel_rfl) (by kernel_rfl) (by kernel_rfl) (laid_door os _))

theorem packParses_said : Rows.PackParsesSaid :=
  OpenClaim.holds_of_wide 4 Tryd.f4 rfl rfl rfl rfl rfl rfl rfl ⟨rfl, rfl, rfl, rfl, rfl⟩ rfl rfl rfl rfl rfl (by kernel_rfl) Tryd.func4 (by kernel_rfl)
    (of_decide_eq_true (by kernel_rfl)) (by unfold Func.isWrapper; first | (rw [if_pos (by decide +kernel)]; kernel_rfl) | (rw [if_neg (by decide +kernel)]; exact ⟨rfl, rfl⟩))
    (fun os started H enc _ => packParses_lifted os started H enc)

theorem packParses_holds : Rows.PackParsesCardSaid :=
  Claim7.holds_tied_plain_at .later [] [.data, .pinned] true (true, "6eb4556230c54d9426ff756d75c83868ab2ed26fface84207e726f9675facaca") false
    packParses_said (fun _ h => by cases h) (by kernel_rfl) (fun _ h => by cases h) packParses_row_tie rfl ⟨rfl, rfl⟩ (by kernel_rfl) rfl
    (fun f fn hf hfn => by
      obtain rfl : f = 4 := Option.some.inj ((show Tryd.prog.funcNamed "kiosk/kiosklaw18.PackParses" = some 4 by kernel_rfl).symm.trans hf) |>.symm
      obtain rfl : fn = Tryd.f4 := (Option.some.inj (Tryd.func4.symm.trans hfn)).symm
      exact ⟨by kernel_rfl, fun j t ht => by
        rw [Tryd.params4] at ht
        have hm : t ∈ [22] := by simpa using Array.mem_of_getElem? ht
        have hall : ([22].all fun u => !Tryd.prog.wantsStandIn u) = true := by kernel_rfl
        exact (show Tryd.prog.wantsStandIn t = false by simpa using List.all_eq_true.1 hall t hm)⟩)
    (by kernel_rfl)
end Go.Proofs.YtkcdkjpmbjcmdaaDoor
