/-
  PROVED: 'Whether any packet may be, and its bytes, are the page's, or it is refused' (kiosklaw18.PackBytes). CONDITIONS: none; for every argument.
-/
import Derived.Test.YtkcdkjpmbjcmdaaDoorTie
import Derived.Test.YtkcdkjpmbjcmdaaDoorCards
import Derived.Test.YtkcdkjpmbjcmdaaDoorBa6
namespace Go.Proofs.YtkcdkjpmbjcmdaaDoor
open Go.ChangeShapes Go.WideShapes Go.ChangeAt Go.RowKit Go.Deep

set_option maxRecDepth 100000 in
set_option maxHeartbeats 6400000 in
theorem packBytes_walk (A : Option Addr) (len cap : Nat) (w : World) (ha : AskMq w A len) (hT : Wd w) :
    Calls Tryd.prog 3 #[.slice A len cap] w fun e w' => e = .returned (.bool true) ∧ Below w.heap.size w w' := by
  go_enter Tryd.func3, Tryd.ntmps3
  refine Has.start 86 [(0, .slice A len cap)] rfl rfl ⟨rfl, trivial⟩ ?_
  intro a0 H0
  have O0 := Own.start w
  repeat (refine wp_seq ?_)
  refine wp_region_list ?_
  refine H0.move gz (.inr rfl) rfl rfl rfl ?_
  intro a1 H1
  refine nt ?_
  refine wp_seq_join (fun a w' => Has a 86 [(0, .slice A len cap)] ∧ Own w w.heap.size [] w') ?_ ?_
  · skip
    repeat (refine wp_seq ?_)
    refine wp_region_list ?_
    refine H1.move gz (.inr rfl) rfl rfl rfl ?_
    intro a2 H2
    refine nt ?_
    refine wp_block ?_
    refine wp_loop_up len (fun k a w' => Has a 86 [(0, .slice A len cap), (3, .int .i64 ((k : Nat) : Int))] ∧ Own w w.heap.size [] w') ?_ ?_
    · exact ⟨H2.keep ⟨rfl, rfl, trivial⟩, O0⟩
    · rintro k a3 w1 hkn ⟨H3, O1⟩
      repeat (refine wp_seq ?_)
      refine wp_region_list ?_
      refine wpList_cut 5 (fun a' w' => ∃ b, decide (k < len) = b ∧ Has a' 86 [(0, .slice A len cap), (3, .int .i64 ((k : Nat) : Int)), (12, .bool b)] ∧ Own w w.heap.size [] w') ?_ ?_
      · skip
        refine H3.move gz (.inl rfl) rfl rfl rfl ?_
        intro a4 H4
        refine H4.move gz (.inl rfl) rfl rfl rfl ?_
        intro a5 H5
        refine H5.len gz rfl rfl rfl rfl Tryd.underlying22 ?_
        intro a6 H6
        refine H6.bin gz rfl rfl rfl rfl rfl (lss_i _ _ (decide (k < len)) (by simp) _ _ _) ?_
        intro a7 H7
        refine H7.move gz (.inl rfl) rfl rfl rfl ?_
        intro a8 H8
        exact nt ⟨_, by rfl, H8.keep ⟨rfl, rfl, rfl, trivial⟩, O1⟩
      rintro a4 w2 ⟨v12, q12, H4, O2⟩
      refine wpList_cut 3 (fun a' w' => ∃ b, (decide (k < len) && decide ((k : Int) < 10)) = b ∧ Has a' 86 [(0, .slice A len cap), (3, .int .i64 ((k : Nat) : Int)), (15, .bool b)] ∧ Own w w.heap.size [] w') ?_ ?_
      · skip
        cases v12 with
        | false =>
          refine H4.offs 2 rfl ?_
          intro a5 H5
          refine H5.pick gz rfl rfl rfl rfl rfl ?_
          intro a6 H6
          exact nt ⟨_, by rw [q12] <;> rfl, H6.keep ⟨rfl, rfl, rfl, trivial⟩, O2⟩
        | true =>
          refine H4.move (H4.wt rfl rfl rfl) (.inl rfl) rfl rfl rfl ?_
          intro a5 H5
          refine H5.bin (H5.wt rfl rfl rfl) rfl rfl rfl rfl rfl (lss_i _ _ (decide ((k : Int) < 10)) rfl _ _ _) ?_
          intro a6 H6
          refine H6.pick gz rfl rfl rfl rfl rfl ?_
          intro a7 H7
          exact nt ⟨_, by rw [q12] <;> rfl, H7.keep ⟨rfl, rfl, rfl, trivial⟩, O2⟩
      rintro a5 w3 ⟨v15, q15, H5, O3⟩
      refine nt ?_
      cases v15 with
      | false =>
        refine H5.condF rfl ?_
        refine wp_exit ?_
        repeat (with_reducible refine then_exit ?_)
        refine block_leave ?_
        refine then_normal ?_
        exact ⟨H5.keep ⟨rfl, trivial⟩, O3⟩
      | true =>
        have hq15 := q15
        simp only [Bool.and_eq_true, decide_eq_true_eq] at hq15
        have hlt : k < len := hq15.1
        have h10 : k < 10 := by have := hq15.2; omega
        clear hq15
        obtain ⟨b, o, m, vc, vw, vf, xs, AX, cX, hA, hblt, hrg, hL, hF, hx1, hx2, hx3⟩ := ha k hlt
        refine H5.condT rfl ?_
        refine skip_wp ?_
        refine then_normal ?_
        repeat (refine wp_seq ?_)
        refine wp_block ?_
        repeat (refine wp_seq ?_)
        refine wp_region_list ?_
        refine H5.move gz (.inl rfl) rfl rfl rfl ?_
        intro a6 H6
        refine H6.move gz (.inl rfl) rfl rfl rfl ?_
        intro a7 H7
        refine H7.index gz rfl rfl rfl rfl rfl (show (Instr.indexAt 22 (.slice A len cap) (.int .i64 ((k : Nat) : Int))).run Tryd.prog _ = .ok (.pointer (some ⟨b, o + k * 25, none⟩)) _ by rw [hA]; exact index_m 22 Tryd.underlying22 25 (fun _ => by kernel_rfl) _ _ _ _ _ hlt _) ?_
        intro a8 H8
        refine H8.go gz rfl rfl _ (run_load rfl (H8.ev rfl) (load_ask (rangeB hrg O3.bel hblt))) ?_
        intro a9 H9
        refine H9.call gz rfl rfl rfl rfl (fun _ _ => by kernel_rfl) (heavy18 m vc vw vf xs AX cX _ (hL.next O3.bel) hF) ?_
        rintro a10 _ w4 ⟨bh, rfl, hsm, hb⟩ H10
        have O4 := O3.call hb
        clear hb
        refine nt ?_
        cases bh with
        | true =>
          refine H10.condT rfl ?_
          repeat (refine wp_seq ?_)
          refine wp_region_list ?_
          refine H10.move gz (.inr rfl) rfl rfl rfl ?_
          intro a11 H11
          refine nt ?_
          refine wp_ret ?_
          repeat (first | (with_reducible refine block_ret ?_) | (with_reducible refine then_ret ?_))
          exact bodyPost_ret (results_tmp rfl _ _ _) H11.df ⟨congrArg Ending.returned (H11.at_ 2 _ rfl), O4.bel⟩
        | false =>
          have hS := short_of (hsm rfl).1
          refine H10.condF rfl ?_
          refine skip_wp ?_
          refine then_normal ?_
          repeat (refine wp_seq ?_)
          refine wp_region_list ?_
          refine H10.move gz (.inl rfl) rfl rfl rfl ?_
          intro a11 H11
          refine H11.move gz (.inl rfl) rfl rfl rfl ?_
          intro a12 H12
          refine H12.index gz rfl rfl rfl rfl rfl (show (Instr.indexAt 22 (.slice A len cap) (.int .i64 ((k : Nat) : Int))).run Tryd.prog _ = .ok (.pointer (some ⟨b, o + k * 25, none⟩)) _ by rw [hA]; exact index_m 22 Tryd.underlying22 25 (fun _ => by kernel_rfl) _ _ _ _ _ hlt _) ?_
          intro a13 H13
          refine H13.go gz rfl rfl _ (run_field rfl (H13.ev rfl) (fun g w => fieldAo_0 (o + k * 25) g w)) ?_
          intro a14 H14
          refine H14.go gz rfl rfl _ (run_load rfl (H14.ev rfl) (load_mq (rangeF (rangeB hrg O4.bel hblt)))) ?_
          intro a15 H15
          refine H15.call gz rfl rfl rfl rfl (fun _ _ => by kernel_rfl) (refCopyMq m _ _ _ _ (hL.next O4.bel) hS) ?_
          rintro a16 _ w5 ⟨vc', vw', vf', rfl, h3, hb⟩ H16
          have O5 := O4.call hb
          clear hb
          obtain ⟨Ac, cc, rfl, _, _⟩ := own_shape h3.1
          obtain ⟨Aw, cw, rfl, _, _⟩ := own_shape h3.2.1
          obtain ⟨Af, cf, rfl, _, _⟩ := own_shape h3.2.2
          have hM := h3.lists hS (by decide)
          refine H16.alloc rfl rfl rfl rfl _ zero_mq ?_
          intro a17 w6 hb hs hC H17
          have O6 := O5.alloc hb hs hC
          have hbA := hb
          clear hb hs hC
          refine H17.storeS rfl rfl rfl rfl rfl (O6.get 0 rfl) size_mq rfl rfl rfl ?_
          intro a18 w7 H18 hg hs hC
          have O7 := O6.store 0 rfl hg hs hC
          have hgA := hg
          clear hg hs hC
          have hbm := hbA.grown hgA hbA.size (fun k hk => by injection hk with hk; rw [← hk]; exact Nat.le_refl _)
          have hM := hM.next hbm
          clear hbA hgA hbm h3
          refine nt ?_
          obtain ⟨bm, hmay⟩ : ∃ bm, mayBb m = bm := ⟨_, rfl⟩
          cases bm with
          | false =>
            have hm := mayB_not hmay
            repeat (refine wp_seq ?_)
            refine wp_region_list ?_
            refine H18.loadS rfl rfl rfl rfl rfl (O7.get 0 rfl) Tryd.underlying30 rfl size_mq rfl ?_
            intro a19 H19
            refine H19.call gz rfl rfl rfl rfl (fun _ _ => by kernel_rfl) (bytesNo m _ _ _ _ hm hM hF (hT.below O7.bel)) ?_
            rintro a20 _ w8 ⟨rfl, hb⟩ H20
            have O8 := O7.call hb
            have hM := hM.next hb
            clear hb
            refine H20.move gz (.inl rfl) rfl rfl rfl ?_
            intro a21 H21
            refine H21.extract (r := .slice none 0 0) gz rfl rfl rfl rfl (by rfl) ?_
            intro a22 H22
            refine H22.extract (r := .int .i64 1) gz rfl rfl rfl rfl (by rfl) ?_
            intro a23 H23
            refine H23.move gz (.inr rfl) rfl rfl rfl ?_
            intro a24 H24
            refine H24.move gz (.inr rfl) rfl rfl rfl ?_
            intro a25 H25
            refine nt ?_
            repeat (refine wp_seq ?_)
            refine wp_region_list ?_
            refine H25.move gz (.inr rfl) rfl rfl rfl ?_
            intro a26 H26
            refine nt ?_
            repeat (refine wp_seq ?_)
            refine wp_region_list ?_
            refine H26.move gz (.inl rfl) rfl rfl rfl ?_
            intro a27 H27
            refine H27.move gz (.inl rfl) rfl rfl rfl ?_
            intro a28 H28
            refine H28.index gz rfl rfl rfl rfl rfl (show (Instr.indexAt 22 (.slice A len cap) (.int .i64 ((k : Nat) : Int))).run Tryd.prog _ = .ok (.pointer (some ⟨b, o + k * 25, none⟩)) _ by rw [hA]; exact index_m 22 Tryd.underlying22 25 (fun _ => by kernel_rfl) _ _ _ _ _ hlt _) ?_
            intro a29 H29
            refine H29.go gz rfl rfl _ (run_field rfl (H29.ev rfl) (fun g w => fieldAo_0 (o + k * 25) g w)) ?_
            intro a30 H30
            refine H30.go gz rfl rfl _ (run_load rfl (H30.ev rfl) (load_mq (rangeF (rangeB hrg O8.bel hblt)))) ?_
            intro a31 H31
            refine H31.call gz rfl rfl rfl rfl (fun _ _ => by kernel_rfl) (belowC (mayC m _ _ _ false hmay _ (hL.next O8.bel) hF (hT.below O8.bel))) ?_
            rintro a32 _ w9 ⟨rfl, hb⟩ H32
            have O9 := O8.call hb
            have hM := hM.next hb
            clear hb
            refine nt ?_
            repeat (refine wp_seq ?_)
            refine H32.condF rfl ?_
            refine skip_wp ?_
            refine then_normal ?_
            have hT2 := hT.below O9.bel
            have hL2 := hL.next O9.bel
            have hr2 := rangeF (rangeB hrg O9.bel hblt)
            have hC4 := O9.get 0 rfl
            have hl4 := O9.lt 0 rfl
            have hbl2 := Nat.lt_of_lt_of_le hblt O9.bel.size
            have HB9 := Base.of (Own.start w9)
            obtain ⟨b0, hb0⟩ : ∃ b0, b0 = w9.heap.size := ⟨_, rfl⟩
            rw [← hb0] at HB9
            repeat (refine wp_seq ?_)
            refine wp_region_invB (by kernel_rfl) (InvB 86 [(0, .slice A len cap), (3, .int .i64 ((k : Nat) : Int)), (4, .pointer (some ⟨w5.heap.size, 0, none⟩)), (6, .int .i64 1), (7, .int .i64 1), (5, .slice none 0 0)] [⟨0, 40, [], fun v _ => v = .agg (mqCells m (.slice Ac m.codes.length cc) (.slice Aw m.wishes.length cw) (.slice Af m.filters.length cf)).toArray⟩, ⟨1, 41, [], fun v _ => v = .int .i64 1⟩, ⟨2, 42, [], fun v _ => v = .int .i64 1⟩, ⟨3, 43, [], fun v _ => v = .int .i64 1⟩, ⟨4, 44, [], fun v _ => v = .bool false⟩, ⟨5, 45, [], fun v _ => v = .bool false⟩, ⟨6, 46, [], fun v _ => v = .int .i64 1⟩, ⟨7, 47, [], fun v _ => v = .int .i64 1⟩, ⟨8, 48, [], fun v _ => v = .int .i64 1⟩, ⟨9, 49, [], fun v _ => v = .bool false⟩, ⟨10, 50, [], fun v _ => v = .bool false⟩, ⟨11, 51, [], fun v _ => v = .bool false⟩, ⟨12, 52, [], fun v _ => v = .int .i64 1⟩, ⟨13, 53, [], fun v _ => v = .bool true⟩, ⟨14, 54, [], fun v _ => v = .bool true⟩, ⟨15, 55, [], fun v _ => v = .slice none 0 0⟩, ⟨16, 56, [], fun v _ => v = .int .i64 ((0 : Nat) : Int)⟩, ⟨17, 57, [], fun v _ => v = .bool false⟩, ⟨18, 58, [], fun v _ => v = .bool false⟩, ⟨19, 59, [], fun v _ => v = .bool false⟩, ⟨20, 60, [], fun v _ => v = .bool false⟩, ⟨21, 61, [], fun v _ => v = .int .i64 1⟩, ⟨22, 62, [], fun v _ => v = .bool false⟩, ⟨23, 63, [], fun v _ => v = .bool false⟩, ⟨24, 64, [], fun v _ => v = undef⟩, ⟨25, 65, [], fun v _ => v = undef⟩, ⟨26, 66, [], fun v _ => v = undef⟩, ⟨27, 67, [], fun v _ => v = undef⟩, ⟨28, 68, [], fun v _ => v = undef⟩, ⟨29, 69, [], fun v _ => v = undef⟩, ⟨30, 70, [], fun v _ => v = undef⟩, ⟨31, 71, [], fun v _ => v = undef⟩, ⟨32, 72, [], fun v _ => v = undef⟩, ⟨33, 73, [], fun v _ => v = .bool false⟩, ⟨34, 74, [], fun v _ => v = .bool false⟩, ⟨35, 75, [], fun v _ => v = .bool false⟩, ⟨36, 76, [], fun v _ => v = .agg (mqCells m (.slice Ac m.codes.length cc) (.slice Aw m.wishes.length cw) (.slice Af m.filters.length cf)).toArray⟩, ⟨37, 77, [], fun v _ => v = .slice A len cap⟩, ⟨38, 78, [], fun v _ => v = .int .i64 ((k : Nat) : Int)⟩, ⟨39, 79, [], fun v _ => v = .pointer (some ⟨b, o + k * 25, none⟩)⟩, ⟨40, 80, [], fun v _ => v = .pointer (some ⟨b, o + k * 25, none⟩)⟩, ⟨41, 81, [], fun v _ => v = .agg (mqCells m vc vw vf).toArray⟩, ⟨42, 82, [], fun v _ => v = .bool true⟩, ⟨43, 83, [], fun v _ => v = .bool false⟩, ⟨44, 84, [], fun v _ => v = .bool false⟩] (Base w9 b0 [])) (back_of (by kernel_rfl)) ?_ ?_ ?_
            · intro listed aa ww i o hs hni hcl ho hd hI
              have hls : listed.size = 45 := hs
              have u_0 : aa.eval (.tmp 0) = .slice A len cap := hI.fx.1
              have u_3 : aa.eval (.tmp 3) = .int .i64 ((k : Nat) : Int) := hI.fx.2.1
              have u_4 : aa.eval (.tmp 4) = .pointer (some ⟨w5.heap.size, 0, none⟩) := hI.fx.2.2.1
              have u_6 : aa.eval (.tmp 6) = .int .i64 1 := hI.fx.2.2.2.1
              have u_7 : aa.eval (.tmp 7) = .int .i64 1 := hI.fx.2.2.2.2.1
              have u_5 : aa.eval (.tmp 5) = .slice none 0 0 := hI.fx.2.2.2.2.2.1
              match i, ho with
              | 0, ho =>
                obtain rfl := pick_op ho rfl
                have HH : Has aa 86 [(4, .pointer (some ⟨w5.heap.size, 0, none⟩))] := Has.of hI.sz hI.df ⟨u_4, trivial⟩
                refine wpOp_go ho gz 40 rfl (.agg (mqCells m (.slice Ac m.codes.length cc) (.slice Aw m.wishes.length cw) (.slice Af m.filters.length cf)).toArray) ww (run_load rfl (HH.ev rfl) (loadS_run (hC4.below hI.wp.own.bel hl4))) ?_
                exact hI.put (by kernel_rfl) _ (ma 0 rfl) (by rw [hls]; show 0 < 45; decide) (by rw [hls]; decide) (.agg (mqCells m (.slice Ac m.codes.length cc) (.slice Aw m.wishes.length cw) (.slice Af m.filters.length cf)).toArray) rfl hI.wp AllSt.same
              | 1, ho =>
                obtain rfl := pick_op ho rfl
                have r_40 := hI.vs _ (ma 0 rfl) (.inr (ran_of hd 0 (by kernel_rfl))) trivial
                have u_40 : aa.eval (.tmp 40) = .agg (mqCells m (.slice Ac m.codes.length cc) (.slice Aw m.wishes.length cw) (.slice Af m.filters.length cf)).toArray := r_40
                have HH : Has aa 86 [(40, .agg (mqCells m (.slice Ac m.codes.length cc) (.slice Aw m.wishes.length cw) (.slice Af m.filters.length cf)).toArray)] := Has.of hI.sz hI.df ⟨u_40, trivial⟩
                refine wpOp_enter ho gz 41 rfl 27 _ (run_callH HH rfl rfl (fun _ _ => by kernel_rfl)) _ (belowC (checkC m _ _ _ 1 (by rw [hmay]; rfl) ww (hM.next hI.wp.own.bel) hF (hT2.below hI.wp.own.bel))) ?_
                rintro _ w' ⟨rfl, hb⟩
                exact hI.put (by kernel_rfl) _ (ma 1 rfl) (by rw [hls]; show 1 < 45; decide) (by rw [hls]; decide) (.int .i64 1) rfl (hI.wp.call hb) ⟨fun _ _ _ _ _ h => h, fun h => absurd rfl h, fun _ _ _ _ _ h => h, fun _ _ _ _ _ h => h, fun _ _ _ _ _ h => h, fun _ _ _ _ _ h => h, fun _ _ _ _ _ h => h, fun _ _ _ _ _ h => h, fun _ _ _ _ _ h => h, fun _ _ _ _ _ h => h, fun _ _ _ _ _ h => h, fun _ _ _ _ _ h => h, fun _ _ _ _ _ h => h, fun _ _ _ _ _ h => h, fun _ _ _ _ _ h => h, fun _ _ _ _ _ h => h, fun _ _ _ _ _ h => h, fun _ _ _ _ _ h => h, fun _ _ _ _ _ h => h, fun _ _ _ _ _ h => h, fun _ _ _ _ _ h => h, fun _ _ _ _ _ h => h, fun _ _ _ _ _ h => h, fun _ _ _ _ _ h => h, fun _ _ _ _ _ h => h, fun _ _ _ _ _ h => h, fun _ _ _ _ _ h => h, fun _ _ _ _ _ h => h, fun _ _ _ _ _ h => h, fun _ _ _ _ _ h => h, fun _ _ _ _ _ h => h, fun _ _ _ _ _ h => h, fun _ _ _ _ _ h => h, fun _ _ _ _ _ h => h, fun _ _ _ _ _ h => h, fun _ _ _ _ _ h => h, fun _ _ _ _ _ h => h, fun _ _ _ _ _ h => h, fun _ _ _ _ _ h => h, fun _ _ _ _ _ h => h, fun _ _ _ _ _ h => h, fun _ _ _ _ _ h => h, fun _ _ _ _ _ h => h, fun _ _ _ _ _ h => h, fun _ _ _ _ _ h => h, trivial⟩
              | 2, ho =>
                obtain rfl := pick_op ho rfl
                have r_41 := hI.vs _ (ma 1 rfl) (.inr (ran_of hd 1 (by kernel_rfl))) trivial
                have u_41 : aa.eval (.tmp 41) = .int .i64 1 := r_41
                have HH : Has aa 86 [(41, .int .i64 1)] := Has.of hI.sz hI.df ⟨u_41, trivial⟩
                refine wpOp_enter ho gz 42 rfl 26 _ (run_callH HH rfl rfl (fun _ _ => by kernel_rfl)) _ (quietC (num18 1 ww)) ?_
                rintro _ _ ⟨rfl, rfl⟩
                exact hI.put (by kernel_rfl) _ (ma 2 rfl) (by rw [hls]; show 2 < 45; decide) (by rw [hls]; decide) (.int .i64 1) rfl hI.wp AllSt.same
              | 3, ho =>
                obtain rfl := pick_op ho rfl
                have HH : Has aa 86 [(7, .int .i64 1)] := Has.of hI.sz hI.df ⟨u_7, trivial⟩
                refine wpOp_go ho gz 43 rfl (.int .i64 1) ww (run_move (.inl rfl) (HH.ev rfl)) ?_
                exact hI.put (by kernel_rfl) _ (ma 3 rfl) (by rw [hls]; show 3 < 45; decide) (by rw [hls]; decide) (.int .i64 1) rfl hI.wp AllSt.same
              | 4, ho =>
                obtain rfl := pick_op ho rfl
                have r_42 := hI.vs _ (ma 2 rfl) (.inr (ran_of hd 2 (by kernel_rfl))) trivial
                have u_42 : aa.eval (.tmp 42) = .int .i64 1 := r_42
                have r_43 := hI.vs _ (ma 3 rfl) (.inr (ran_of hd 3 (by kernel_rfl))) trivial
                have u_43 : aa.eval (.tmp 43) = .int .i64 1 := r_43
                have HH : Has aa 86 [(42, .int .i64 1), (43, .int .i64 1)] := Has.of hI.sz hI.df ⟨u_42, u_43, trivial⟩
                refine wpOp_go ho gz 44 rfl (.bool false) ww (run_bin rfl (HH.ev rfl) (HH.ev rfl) (neq_3 _ _ false rfl _ _ _)) ?_
                exact hI.put (by kernel_rfl) _ (ma 4 rfl) (by rw [hls]; show 4 < 45; decide) (by rw [hls]; decide) (.bool false) rfl hI.wp AllSt.same
              | 5, ho =>
                obtain rfl := pick_op ho rfl
                have r_44 := hI.vs _ (ma 4 rfl) (.inr (ran_of hd 4 (by kernel_rfl))) trivial
                have u_44 : aa.eval (.tmp 44) = .bool false := r_44
                have HH : Has aa 86 [(44, .bool false)] := Has.of hI.sz hI.df ⟨u_44, trivial⟩
                refine wpOp_go ho gz 45 rfl (.bool false) ww (run_move (.inl rfl) (HH.ev rfl)) ?_
                exact hI.put (by kernel_rfl) _ (ma 5 rfl) (by rw [hls]; show 5 < 45; decide) (by rw [hls]; decide) (.bool false) rfl hI.wp AllSt.same
              | 6, ho =>
                obtain rfl := pick_op ho rfl
                have ug : aa.eval (.tmp 45) = .bool false := hI.vs _ (ma 5 rfl) (.inr (ran_of hd 5 (by kernel_rfl))) trivial
                have HH : Has aa 86 [(6, .int .i64 1)] := Has.of hI.sz hI.df ⟨u_6, trivial⟩
                refine wpOp_go ho (wt_of rfl rfl ug) 46 rfl (.int .i64 1) ww (run_move (.inl rfl) (HH.ev rfl)) ?_
                exact hI.put (by kernel_rfl) _ (ma 6 rfl) (by rw [hls]; show 6 < 45; decide) (by rw [hls]; decide) (.int .i64 1) rfl hI.wp AllSt.same
              | 7, ho =>
                obtain rfl := pick_op ho rfl
                have ug : aa.eval (.tmp 45) = .bool false := hI.vs _ (ma 5 rfl) (.inr (ran_of hd 5 (by kernel_rfl))) trivial
                have r_46 := hI.vs _ (ma 6 rfl) (.inr (ran_of hd 6 (by kernel_rfl))) trivial
                have u_46 : aa.eval (.tmp 46) = .int .i64 1 := r_46
                have HH : Has aa 86 [(46, .int .i64 1)] := Has.of hI.sz hI.df ⟨u_46, trivial⟩
                refine wpOp_enter ho (wt_of rfl rfl ug) 47 rfl 26 _ (run_callH HH rfl rfl (fun _ _ => by kernel_rfl)) _ (quietC (num18 1 ww)) ?_
                rintro _ _ ⟨rfl, rfl⟩
                exact hI.put (by kernel_rfl) _ (ma 7 rfl) (by rw [hls]; show 7 < 45; decide) (by rw [hls]; decide) (.int .i64 1) rfl hI.wp AllSt.same
              | 8, ho =>
                obtain rfl := pick_op ho rfl
                have ug : aa.eval (.tmp 45) = .bool false := hI.vs _ (ma 5 rfl) (.inr (ran_of hd 5 (by kernel_rfl))) trivial
                have HH : Has aa 86 [(7, .int .i64 1)] := Has.of hI.sz hI.df ⟨u_7, trivial⟩
                refine wpOp_go ho (wt_of rfl rfl ug) 48 rfl (.int .i64 1) ww (run_move (.inl rfl) (HH.ev rfl)) ?_
                exact hI.put (by kernel_rfl) _ (ma 8 rfl) (by rw [hls]; show 8 < 45; decide) (by rw [hls]; decide) (.int .i64 1) rfl hI.wp AllSt.same
              | 9, ho =>
                obtain rfl := pick_op ho rfl
                have ug : aa.eval (.tmp 45) = .bool false := hI.vs _ (ma 5 rfl) (.inr (ran_of hd 5 (by kernel_rfl))) trivial
                have r_47 := hI.vs _ (ma 7 rfl) (.inr (ran_of hd 7 (by kernel_rfl))) trivial
                have u_47 : aa.eval (.tmp 47) = .int .i64 1 := r_47
                have r_48 := hI.vs _ (ma 8 rfl) (.inr (ran_of hd 8 (by kernel_rfl))) trivial
                have u_48 : aa.eval (.tmp 48) = .int .i64 1 := r_48
                have HH : Has aa 86 [(47, .int .i64 1), (48, .int .i64 1)] := Has.of hI.sz hI.df ⟨u_47, u_48, trivial⟩
                refine wpOp_go ho (wt_of rfl rfl ug) 49 rfl (.bool false) ww (run_bin rfl (HH.ev rfl) (HH.ev rfl) (neq_3 _ _ false rfl _ _ _)) ?_
                exact hI.put (by kernel_rfl) _ (ma 9 rfl) (by rw [hls]; show 9 < 45; decide) (by rw [hls]; decide) (.bool false) rfl hI.wp AllSt.same
              | 10, ho =>
                obtain rfl := pick_op ho rfl
                have r_45 := hI.vs _ (ma 5 rfl) (.inr (ran_of hd 5 (by kernel_rfl))) trivial
                have u_45 : aa.eval (.tmp 45) = .bool false := r_45
                have r_49 := hI.vs _ (ma 9 rfl) (.inr (ran_of hd 9 (by kernel_rfl))) trivial
                have u_49 : aa.eval (.tmp 49) = .bool false := r_49
                have HH : Has aa 86 [(45, .bool false), (49, .bool false)] := Has.of hI.sz hI.df ⟨u_45, u_49, trivial⟩
                refine wpOp_go ho gz 50 rfl (.bool false) ww (run_any HH (by intro cs b h; cases h) (by kernel_rfl) (by kernel_rfl)) ?_
                exact hI.put (by kernel_rfl) _ (ma 10 rfl) (by rw [hls]; show 10 < 45; decide) (by rw [hls]; decide) (.bool false) rfl hI.wp AllSt.same
              | 11, ho =>
                obtain rfl := pick_op ho rfl
                have r_50 := hI.vs _ (ma 10 rfl) (.inr (ran_of hd 10 (by kernel_rfl))) trivial
                have u_50 : aa.eval (.tmp 50) = .bool false := r_50
                have HH : Has aa 86 [(50, .bool false)] := Has.of hI.sz hI.df ⟨u_50, trivial⟩
                refine wpOp_go ho gz 51 rfl (.bool false) ww (run_move (.inl rfl) (HH.ev rfl)) ?_
                exact hI.put (by kernel_rfl) _ (ma 11 rfl) (by rw [hls]; show 11 < 45; decide) (by rw [hls]; decide) (.bool false) rfl hI.wp AllSt.same
              | 12, ho =>
                obtain rfl := pick_op ho rfl
                have ug : aa.eval (.tmp 51) = .bool false := hI.vs _ (ma 11 rfl) (.inr (ran_of hd 11 (by kernel_rfl))) trivial
                have HH : Has aa 86 [(7, .int .i64 1)] := Has.of hI.sz hI.df ⟨u_7, trivial⟩
                refine wpOp_go ho (wt_of rfl rfl ug) 52 rfl (.int .i64 1) ww (run_move (.inl rfl) (HH.ev rfl)) ?_
                exact hI.put (by kernel_rfl) _ (ma 12 rfl) (by rw [hls]; show 12 < 45; decide) (by rw [hls]; decide) (.int .i64 1) rfl hI.wp AllSt.same
              | 13, ho =>
                obtain rfl := pick_op ho rfl
                have ug : aa.eval (.tmp 51) = .bool false := hI.vs _ (ma 11 rfl) (.inr (ran_of hd 11 (by kernel_rfl))) trivial
                have r_52 := hI.vs _ (ma 12 rfl) (.inr (ran_of hd 12 (by kernel_rfl))) trivial
                have u_52 : aa.eval (.tmp 52) = .int .i64 1 := r_52
                have HH : Has aa 86 [(52, .int .i64 1)] := Has.of hI.sz hI.df ⟨u_52, trivial⟩
                refine wpOp_go ho (wt_of rfl rfl ug) 53 rfl (.bool true) ww (run_bin rfl (HH.ev rfl) (HH.ev rfl) (neq_3 _ _ true rfl _ _ _)) ?_
                exact hI.put (by kernel_rfl) _ (ma 13 rfl) (by rw [hls]; show 13 < 45; decide) (by rw [hls]; decide) (.bool true) rfl hI.wp AllSt.same
              | 14, ho =>
                obtain rfl := pick_op ho rfl
                have ug : aa.eval (.tmp 51) = .bool false := hI.vs _ (ma 11 rfl) (.inr (ran_of hd 11 (by kernel_rfl))) trivial
                have r_53 := hI.vs _ (ma 13 rfl) (.inr (ran_of hd 13 (by kernel_rfl))) trivial
                have u_53 : aa.eval (.tmp 53) = .bool true := r_53
                have HH : Has aa 86 [(53, .bool true)] := Has.of hI.sz hI.df ⟨u_53, trivial⟩
                refine wpOp_go ho (wt_of rfl rfl ug) 54 rfl (.bool true) ww (run_move (.inl rfl) (HH.ev rfl)) ?_
                exact hI.put (by kernel_rfl) _ (ma 14 rfl) (by rw [hls]; show 14 < 45; decide) (by rw [hls]; decide) (.bool true) rfl hI.wp AllSt.same
              | 15, ho =>
                obtain rfl := pick_op ho rfl
                have ug : aa.eval (.tmp 54) = .bool true := hI.vs _ (ma 14 rfl) (.inr (ran_of hd 14 (by kernel_rfl))) trivial
                have HH : Has aa 86 [(5, .slice none 0 0)] := Has.of hI.sz hI.df ⟨u_5, trivial⟩
                refine wpOp_go ho (wt_of rfl rfl ug) 55 rfl (.slice none 0 0) ww (run_move (.inl rfl) (HH.ev rfl)) ?_
                exact hI.put (by kernel_rfl) _ (ma 15 rfl) (by rw [hls]; show 15 < 45; decide) (by rw [hls]; decide) (.slice none 0 0) rfl hI.wp AllSt.same
              | 16, ho =>
                obtain rfl := pick_op ho rfl
                have ug : aa.eval (.tmp 54) = .bool true := hI.vs _ (ma 14 rfl) (.inr (ran_of hd 14 (by kernel_rfl))) trivial
                have r_55 := hI.vs _ (ma 15 rfl) (.inr (ran_of hd 15 (by kernel_rfl))) trivial
                have u_55 : aa.eval (.tmp 55) = .slice none 0 0 := r_55
                have HH : Has aa 86 [(55, .slice none 0 0)] := Has.of hI.sz hI.df ⟨u_55, trivial⟩
                refine wpOp_go ho (wt_of rfl rfl ug) 56 rfl (.int .i64 ((0 : Nat) : Int)) ww (run_len rfl (HH.ev rfl) Tryd.underlying31) ?_
                exact hI.put (by kernel_rfl) _ (ma 16 rfl) (by rw [hls]; show 16 < 45; decide) (by rw [hls]; decide) (.int .i64 ((0 : Nat) : Int)) rfl hI.wp AllSt.same
              | 17, ho =>
                obtain rfl := pick_op ho rfl
                have ug : aa.eval (.tmp 54) = .bool true := hI.vs _ (ma 14 rfl) (.inr (ran_of hd 14 (by kernel_rfl))) trivial
                have r_56 := hI.vs _ (ma 16 rfl) (.inr (ran_of hd 16 (by kernel_rfl))) trivial
                have u_56 : aa.eval (.tmp 56) = .int .i64 ((0 : Nat) : Int) := r_56
                have HH : Has aa 86 [(56, .int .i64 ((0 : Nat) : Int))] := Has.of hI.sz hI.df ⟨u_56, trivial⟩
                refine wpOp_go ho (wt_of rfl rfl ug) 57 rfl (.bool false) ww (run_bin rfl (HH.ev rfl) (HH.ev rfl) (gtr_i _ _ false (by decide) _ _ _)) ?_
                exact hI.put (by kernel_rfl) _ (ma 17 rfl) (by rw [hls]; show 17 < 45; decide) (by rw [hls]; decide) (.bool false) rfl hI.wp AllSt.same
              | 18, ho =>
                obtain rfl := pick_op ho rfl
                have ug : aa.eval (.tmp 51) = .bool false := hI.vs _ (ma 11 rfl) (.inr (ran_of hd 11 (by kernel_rfl))) trivial
                have r_54 := hI.vs _ (ma 14 rfl) (.inr (ran_of hd 14 (by kernel_rfl))) trivial
                have u_54 : aa.eval (.tmp 54) = .bool true := r_54
                have r_57 := hI.vs _ (ma 17 rfl) (.inr (ran_of hd 17 (by kernel_rfl))) trivial
                have u_57 : aa.eval (.tmp 57) = .bool false := r_57
                have HH : Has aa 86 [(54, .bool true), (57, .bool false)] := Has.of hI.sz hI.df ⟨u_54, u_57, trivial⟩
                refine wpOp_go ho (wt_of rfl rfl ug) 58 rfl (.bool false) ww (run_any HH (by intro cs b h; cases h) (by kernel_rfl) (by kernel_rfl)) ?_
                exact hI.put (by kernel_rfl) _ (ma 18 rfl) (by rw [hls]; show 18 < 45; decide) (by rw [hls]; decide) (.bool false) rfl hI.wp AllSt.same
              | 19, ho =>
                obtain rfl := pick_op ho rfl
                have r_51 := hI.vs _ (ma 11 rfl) (.inr (ran_of hd 11 (by kernel_rfl))) trivial
                have u_51 : aa.eval (.tmp 51) = .bool false := r_51
                have r_58 := hI.vs _ (ma 18 rfl) (.inr (ran_of hd 18 (by kernel_rfl))) trivial
                have u_58 : aa.eval (.tmp 58) = .bool false := r_58
                have HH : Has aa 86 [(51, .bool false), (58, .bool false)] := Has.of hI.sz hI.df ⟨u_51, u_58, trivial⟩
                refine wpOp_go ho gz 59 rfl (.bool false) ww (run_any HH (by intro cs b h; cases h) (by kernel_rfl) (by kernel_rfl)) ?_
                exact hI.put (by kernel_rfl) _ (ma 19 rfl) (by rw [hls]; show 19 < 45; decide) (by rw [hls]; decide) (.bool false) rfl hI.wp AllSt.same
              | 20, ho =>
                obtain rfl := pick_op ho rfl
                have r_59 := hI.vs _ (ma 19 rfl) (.inr (ran_of hd 19 (by kernel_rfl))) trivial
                have u_59 : aa.eval (.tmp 59) = .bool false := r_59
                have HH : Has aa 86 [(59, .bool false)] := Has.of hI.sz hI.df ⟨u_59, trivial⟩
                refine wpOp_go ho gz 60 rfl (.bool false) ww (run_move (.inl rfl) (HH.ev rfl)) ?_
                exact hI.put (by kernel_rfl) _ (ma 20 rfl) (by rw [hls]; show 20 < 45; decide) (by rw [hls]; decide) (.bool false) rfl hI.wp AllSt.same
              | 21, ho =>
                obtain rfl := pick_op ho rfl
                have ug : aa.eval (.tmp 60) = .bool false := hI.vs _ (ma 20 rfl) (.inr (ran_of hd 20 (by kernel_rfl))) trivial
                have HH : Has aa 86 [(7, .int .i64 1)] := Has.of hI.sz hI.df ⟨u_7, trivial⟩
                refine wpOp_go ho (wt_of rfl rfl ug) 61 rfl (.int .i64 1) ww (run_move (.inl rfl) (HH.ev rfl)) ?_
                exact hI.put (by kernel_rfl) _ (ma 21 rfl) (by rw [hls]; show 21 < 45; decide) (by rw [hls]; decide) (.int .i64 1) rfl hI.wp AllSt.same
              | 22, ho =>
                obtain rfl := pick_op ho rfl
                have ug : aa.eval (.tmp 60) = .bool false := hI.vs _ (ma 20 rfl) (.inr (ran_of hd 20 (by kernel_rfl))) trivial
                have r_61 := hI.vs _ (ma 21 rfl) (.inr (ran_of hd 21 (by kernel_rfl))) trivial
                have u_61 : aa.eval (.tmp 61) = .int .i64 1 := r_61
                have HH : Has aa 86 [(61, .int .i64 1)] := Has.of hI.sz hI.df ⟨u_61, trivial⟩
                refine wpOp_go ho (wt_of rfl rfl ug) 62 rfl (.bool false) ww (run_bin rfl (HH.ev rfl) (HH.ev rfl) (eql_iB _ _ false rfl _ _ _)) ?_
                exact hI.put (by kernel_rfl) _ (ma 22 rfl) (by rw [hls]; show 22 < 45; decide) (by rw [hls]; decide) (.bool false) rfl hI.wp AllSt.same
              | 23, ho =>
                obtain rfl := pick_op ho rfl
                have ug : aa.eval (.tmp 60) = .bool false := hI.vs _ (ma 20 rfl) (.inr (ran_of hd 20 (by kernel_rfl))) trivial
                have r_62 := hI.vs _ (ma 22 rfl) (.inr (ran_of hd 22 (by kernel_rfl))) trivial
                have u_62 : aa.eval (.tmp 62) = .bool false := r_62
                have HH : Has aa 86 [(62, .bool false)] := Has.of hI.sz hI.df ⟨u_62, trivial⟩
                refine wpOp_go ho (wt_of rfl rfl ug) 63 rfl (.bool false) ww (run_move (.inl rfl) (HH.ev rfl)) ?_
                exact hI.put (by kernel_rfl) _ (ma 23 rfl) (by rw [hls]; show 23 < 45; decide) (by rw [hls]; decide) (.bool false) rfl hI.wp AllSt.same
              | 24, ho =>
                obtain rfl := pick_op ho rfl
                have ug : aa.eval (.tmp 63) = .bool false := hI.vs _ (ma 23 rfl) (.inr (ran_of hd 23 (by kernel_rfl))) trivial
                exact wpOp_off ho (wf_of rfl rfl ug) (hI.put (by kernel_rfl) _ (ma 24 rfl) (by rw [hls]; show 24 < 45; decide) (by rw [hls]; decide) undef rfl hI.wp AllSt.same)
              | 25, ho =>
                obtain rfl := pick_op ho rfl
                have ug : aa.eval (.tmp 63) = .bool false := hI.vs _ (ma 23 rfl) (.inr (ran_of hd 23 (by kernel_rfl))) trivial
                exact wpOp_off ho (wf_of rfl rfl ug) (hI.put (by kernel_rfl) _ (ma 25 rfl) (by rw [hls]; show 25 < 45; decide) (by rw [hls]; decide) undef rfl hI.wp AllSt.same)
              | 26, ho =>
                obtain rfl := pick_op ho rfl
                have ug : aa.eval (.tmp 63) = .bool false := hI.vs _ (ma 23 rfl) (.inr (ran_of hd 23 (by kernel_rfl))) trivial
                exact wpOp_off ho (wf_of rfl rfl ug) (hI.put (by kernel_rfl) _ (ma 26 rfl) (by rw [hls]; show 26 < 45; decide) (by rw [hls]; decide) undef rfl hI.wp AllSt.same)
              | 27, ho =>
                obtain rfl := pick_op ho rfl
                have ug : aa.eval (.tmp 63) = .bool false := hI.vs _ (ma 23 rfl) (.inr (ran_of hd 23 (by kernel_rfl))) trivial
                exact wpOp_off ho (wf_of rfl rfl ug) (hI.put (by kernel_rfl) _ (ma 27 rfl) (by rw [hls]; show 27 < 45; decide) (by rw [hls]; decide) undef rfl hI.wp AllSt.same)
              | 28, ho =>
                obtain rfl := pick_op ho rfl
                have ug : aa.eval (.tmp 63) = .bool false := hI.vs _ (ma 23 rfl) (.inr (ran_of hd 23 (by kernel_rfl))) trivial
                exact wpOp_off ho (wf_of rfl rfl ug) (hI.put (by kernel_rfl) _ (ma 28 rfl) (by rw [hls]; show 28 < 45; decide) (by rw [hls]; decide) undef rfl hI.wp AllSt.same)
              | 29, ho =>
                obtain rfl := pick_op ho rfl
                have ug : aa.eval (.tmp 63) = .bool false := hI.vs _ (ma 23 rfl) (.inr (ran_of hd 23 (by kernel_rfl))) trivial
                exact wpOp_off ho (wf_of rfl rfl ug) (hI.put (by kernel_rfl) _ (ma 29 rfl) (by rw [hls]; show 29 < 45; decide) (by rw [hls]; decide) undef rfl hI.wp AllSt.same)
              | 30, ho =>
                obtain rfl := pick_op ho rfl
                have ug : aa.eval (.tmp 63) = .bool false := hI.vs _ (ma 23 rfl) (.inr (ran_of hd 23 (by kernel_rfl))) trivial
                exact wpOp_off ho (wf_of rfl rfl ug) (hI.put (by kernel_rfl) _ (ma 30 rfl) (by rw [hls]; show 30 < 45; decide) (by rw [hls]; decide) undef rfl hI.wp AllSt.same)
              | 31, ho =>
                obtain rfl := pick_op ho rfl
                have ug : aa.eval (.tmp 63) = .bool false := hI.vs _ (ma 23 rfl) (.inr (ran_of hd 23 (by kernel_rfl))) trivial
                exact wpOp_off ho (wf_of rfl rfl ug) (hI.put (by kernel_rfl) _ (ma 31 rfl) (by rw [hls]; show 31 < 45; decide) (by rw [hls]; decide) undef rfl hI.wp AllSt.same)
              | 32, ho =>
                obtain rfl := pick_op ho rfl
                have ug : aa.eval (.tmp 63) = .bool false := hI.vs _ (ma 23 rfl) (.inr (ran_of hd 23 (by kernel_rfl))) trivial
                exact wpOp_off ho (wf_of rfl rfl ug) (hI.put (by kernel_rfl) _ (ma 32 rfl) (by rw [hls]; show 32 < 45; decide) (by rw [hls]; decide) undef rfl hI.wp AllSt.same)
              | 33, ho =>
                obtain rfl := pick_op ho rfl
                have ug : aa.eval (.tmp 60) = .bool false := hI.vs _ (ma 20 rfl) (.inr (ran_of hd 20 (by kernel_rfl))) trivial
                have r_63 := hI.vs _ (ma 23 rfl) (.inr (ran_of hd 23 (by kernel_rfl))) trivial
                have u_63 : aa.eval (.tmp 63) = .bool false := r_63
                have r_72 := hI.vs _ (ma 32 rfl) (.inr (ran_of hd 32 (by kernel_rfl))) trivial
                have u_72 : aa.eval (.tmp 72) = undef := r_72
                have HH : Has aa 86 [(63, .bool false), (72, undef)] := Has.of hI.sz hI.df ⟨u_63, u_72, trivial⟩
                refine wpOp_go ho (wt_of rfl rfl ug) 73 rfl (.bool false) ww (run_any HH (by intro cs b h; cases h) (by kernel_rfl) (by kernel_rfl)) ?_
                exact hI.put (by kernel_rfl) _ (ma 33 rfl) (by rw [hls]; show 33 < 45; decide) (by rw [hls]; decide) (.bool false) rfl hI.wp AllSt.same
              | 34, ho =>
                obtain rfl := pick_op ho rfl
                have r_60 := hI.vs _ (ma 20 rfl) (.inr (ran_of hd 20 (by kernel_rfl))) trivial
                have u_60 : aa.eval (.tmp 60) = .bool false := r_60
                have r_73 := hI.vs _ (ma 33 rfl) (.inr (ran_of hd 33 (by kernel_rfl))) trivial
                have u_73 : aa.eval (.tmp 73) = .bool false := r_73
                have HH : Has aa 86 [(60, .bool false), (73, .bool false)] := Has.of hI.sz hI.df ⟨u_60, u_73, trivial⟩
                refine wpOp_go ho gz 74 rfl (.bool false) ww (run_any HH (by intro cs b h; cases h) (by kernel_rfl) (by kernel_rfl)) ?_
                exact hI.put (by kernel_rfl) _ (ma 34 rfl) (by rw [hls]; show 34 < 45; decide) (by rw [hls]; decide) (.bool false) rfl hI.wp AllSt.same
              | 35, ho =>
                obtain rfl := pick_op ho rfl
                have r_74 := hI.vs _ (ma 34 rfl) (.inr (ran_of hd 34 (by kernel_rfl))) trivial
                have u_74 : aa.eval (.tmp 74) = .bool false := r_74
                have HH : Has aa 86 [(74, .bool false)] := Has.of hI.sz hI.df ⟨u_74, trivial⟩
                refine wpOp_go ho gz 75 rfl (.bool false) ww (run_move (.inl rfl) (HH.ev rfl)) ?_
                exact hI.put (by kernel_rfl) _ (ma 35 rfl) (by rw [hls]; show 35 < 45; decide) (by rw [hls]; decide) (.bool false) rfl hI.wp AllSt.same
              | 36, ho =>
                obtain rfl := pick_op ho rfl
                have ug : aa.eval (.tmp 75) = .bool false := hI.vs _ (ma 35 rfl) (.inr (ran_of hd 35 (by kernel_rfl))) trivial
                have HH : Has aa 86 [(4, .pointer (some ⟨w5.heap.size, 0, none⟩))] := Has.of hI.sz hI.df ⟨u_4, trivial⟩
                refine wpOp_go ho (wt_of rfl rfl ug) 76 rfl (.agg (mqCells m (.slice Ac m.codes.length cc) (.slice Aw m.wishes.length cw) (.slice Af m.filters.length cf)).toArray) ww (run_load rfl (HH.ev rfl) (loadS_run (hC4.below hI.wp.own.bel hl4))) ?_
                exact hI.put (by kernel_rfl) _ (ma 36 rfl) (by rw [hls]; show 36 < 45; decide) (by rw [hls]; decide) (.agg (mqCells m (.slice Ac m.codes.length cc) (.slice Aw m.wishes.length cw) (.slice Af m.filters.length cf)).toArray) rfl hI.wp AllSt.same
              | 37, ho =>
                obtain rfl := pick_op ho rfl
                have ug : aa.eval (.tmp 75) = .bool false := hI.vs _ (ma 35 rfl) (.inr (ran_of hd 35 (by kernel_rfl))) trivial
                have HH : Has aa 86 [(0, .slice A len cap)] := Has.of hI.sz hI.df ⟨u_0, trivial⟩
                refine wpOp_go ho (wt_of rfl rfl ug) 77 rfl (.slice A len cap) ww (run_move (.inl rfl) (HH.ev rfl)) ?_
                exact hI.put (by kernel_rfl) _ (ma 37 rfl) (by rw [hls]; show 37 < 45; decide) (by rw [hls]; decide) (.slice A len cap) rfl hI.wp AllSt.same
              | 38, ho =>
                obtain rfl := pick_op ho rfl
                have ug : aa.eval (.tmp 75) = .bool false := hI.vs _ (ma 35 rfl) (.inr (ran_of hd 35 (by kernel_rfl))) trivial
                have HH : Has aa 86 [(3, .int .i64 ((k : Nat) : Int))] := Has.of hI.sz hI.df ⟨u_3, trivial⟩
                refine wpOp_go ho (wt_of rfl rfl ug) 78 rfl (.int .i64 ((k : Nat) : Int)) ww (run_move (.inl rfl) (HH.ev rfl)) ?_
                exact hI.put (by kernel_rfl) _ (ma 38 rfl) (by rw [hls]; show 38 < 45; decide) (by rw [hls]; decide) (.int .i64 ((k : Nat) : Int)) rfl hI.wp AllSt.same
              | 39, ho =>
                obtain rfl := pick_op ho rfl
                have ug : aa.eval (.tmp 75) = .bool false := hI.vs _ (ma 35 rfl) (.inr (ran_of hd 35 (by kernel_rfl))) trivial
                have r_77 := hI.vs _ (ma 37 rfl) (.inr (ran_of hd 37 (by kernel_rfl))) trivial
                have u_77 : aa.eval (.tmp 77) = .slice A len cap := r_77
                have r_78 := hI.vs _ (ma 38 rfl) (.inr (ran_of hd 38 (by kernel_rfl))) trivial
                have u_78 : aa.eval (.tmp 78) = .int .i64 ((k : Nat) : Int) := r_78
                have HH : Has aa 86 [(77, .slice A len cap), (78, .int .i64 ((k : Nat) : Int))] := Has.of hI.sz hI.df ⟨u_77, u_78, trivial⟩
                refine wpOp_go ho (wt_of rfl rfl ug) 79 rfl (.pointer (some ⟨b, o + k * 25, none⟩)) ww (run_index rfl (HH.ev rfl) (HH.ev rfl) (show (Instr.indexAt 22 (.slice A len cap) (.int .i64 ((k : Nat) : Int))).run Tryd.prog _ = .ok (.pointer (some ⟨b, o + k * 25, none⟩)) _ by rw [hA]; exact index_m 22 Tryd.underlying22 25 (fun _ => by kernel_rfl) _ _ _ _ _ hlt _)) ?_
                exact hI.put (by kernel_rfl) _ (ma 39 rfl) (by rw [hls]; show 39 < 45; decide) (by rw [hls]; decide) (.pointer (some ⟨b, o + k * 25, none⟩)) rfl hI.wp AllSt.same
              | 40, ho =>
                obtain rfl := pick_op ho rfl
                have ug : aa.eval (.tmp 75) = .bool false := hI.vs _ (ma 35 rfl) (.inr (ran_of hd 35 (by kernel_rfl))) trivial
                have r_79 := hI.vs _ (ma 39 rfl) (.inr (ran_of hd 39 (by kernel_rfl))) trivial
                have u_79 : aa.eval (.tmp 79) = .pointer (some ⟨b, o + k * 25, none⟩) := r_79
                have HH : Has aa 86 [(79, .pointer (some ⟨b, o + k * 25, none⟩))] := Has.of hI.sz hI.df ⟨u_79, trivial⟩
                refine wpOp_go ho (wt_of rfl rfl ug) 80 rfl (.pointer (some ⟨b, o + k * 25, none⟩)) ww (run_field rfl (HH.ev rfl) (fun g w => fieldAo_0 (o + k * 25) g w)) ?_
                exact hI.put (by kernel_rfl) _ (ma 40 rfl) (by rw [hls]; show 40 < 45; decide) (by rw [hls]; decide) (.pointer (some ⟨b, o + k * 25, none⟩)) rfl hI.wp AllSt.same
              | 41, ho =>
                obtain rfl := pick_op ho rfl
                have ug : aa.eval (.tmp 75) = .bool false := hI.vs _ (ma 35 rfl) (.inr (ran_of hd 35 (by kernel_rfl))) trivial
                have r_80 := hI.vs _ (ma 40 rfl) (.inr (ran_of hd 40 (by kernel_rfl))) trivial
                have u_80 : aa.eval (.tmp 80) = .pointer (some ⟨b, o + k * 25, none⟩) := r_80
                have HH : Has aa 86 [(80, .pointer (some ⟨b, o + k * 25, none⟩))] := Has.of hI.sz hI.df ⟨u_80, trivial⟩
                refine wpOp_go ho (wt_of rfl rfl ug) 81 rfl (.agg (mqCells m vc vw vf).toArray) ww (run_load rfl (HH.ev rfl) (load_mq (rangeB hr2 hI.wp.own.bel hbl2))) ?_
                exact hI.put (by kernel_rfl) _ (ma 41 rfl) (by rw [hls]; show 41 < 45; decide) (by rw [hls]; decide) (.agg (mqCells m vc vw vf).toArray) rfl hI.wp AllSt.same
              | 42, ho =>
                obtain rfl := pick_op ho rfl
                have ug : aa.eval (.tmp 75) = .bool false := hI.vs _ (ma 35 rfl) (.inr (ran_of hd 35 (by kernel_rfl))) trivial
                have r_76 := hI.vs _ (ma 36 rfl) (.inr (ran_of hd 36 (by kernel_rfl))) trivial
                have u_76 : aa.eval (.tmp 76) = .agg (mqCells m (.slice Ac m.codes.length cc) (.slice Aw m.wishes.length cw) (.slice Af m.filters.length cf)).toArray := r_76
                have r_81 := hI.vs _ (ma 41 rfl) (.inr (ran_of hd 41 (by kernel_rfl))) trivial
                have u_81 : aa.eval (.tmp 81) = .agg (mqCells m vc vw vf).toArray := r_81
                have HH : Has aa 86 [(76, .agg (mqCells m (.slice Ac m.codes.length cc) (.slice Aw m.wishes.length cw) (.slice Af m.filters.length cf)).toArray), (81, .agg (mqCells m vc vw vf).toArray)] := Has.of hI.sz hI.df ⟨u_76, u_81, trivial⟩
                refine wpOp_enter ho (wt_of rfl rfl ug) 82 rfl 30 _ (run_callH HH rfl rfl (fun _ _ => by kernel_rfl)) _ (belowC (eqMqS m _ _ _ _ _ _ ww (hM.next hI.wp.own.bel) (hL2.next hI.wp.own.bel))) ?_
                rintro _ w' ⟨rfl, hb⟩
                exact hI.put (by kernel_rfl) _ (ma 42 rfl) (by rw [hls]; show 42 < 45; decide) (by rw [hls]; decide) (.bool true) rfl (hI.wp.call hb) ⟨fun _ _ _ _ _ h => h, fun _ _ _ _ _ h => h, fun _ _ _ _ _ h => h, fun _ _ _ _ _ h => h, fun _ _ _ _ _ h => h, fun _ _ _ _ _ h => h, fun _ _ _ _ _ h => h, fun _ _ _ _ _ h => h, fun _ _ _ _ _ h => h, fun _ _ _ _ _ h => h, fun _ _ _ _ _ h => h, fun _ _ _ _ _ h => h, fun _ _ _ _ _ h => h, fun _ _ _ _ _ h => h, fun _ _ _ _ _ h => h, fun _ _ _ _ _ h => h, fun _ _ _ _ _ h => h, fun _ _ _ _ _ h => h, fun _ _ _ _ _ h => h, fun _ _ _ _ _ h => h, fun _ _ _ _ _ h => h, fun _ _ _ _ _ h => h, fun _ _ _ _ _ h => h, fun _ _ _ _ _ h => h, fun _ _ _ _ _ h => h, fun _ _ _ _ _ h => h, fun _ _ _ _ _ h => h, fun _ _ _ _ _ h => h, fun _ _ _ _ _ h => h, fun _ _ _ _ _ h => h, fun _ _ _ _ _ h => h, fun _ _ _ _ _ h => h, fun _ _ _ _ _ h => h, fun _ _ _ _ _ h => h, fun _ _ _ _ _ h => h, fun _ _ _ _ _ h => h, fun _ _ _ _ _ h => h, fun _ _ _ _ _ h => h, fun _ _ _ _ _ h => h, fun _ _ _ _ _ h => h, fun _ _ _ _ _ h => h, fun _ _ _ _ _ h => h, fun h => absurd rfl h, fun _ _ _ _ _ h => h, fun _ _ _ _ _ h => h, trivial⟩
              | 43, ho =>
                obtain rfl := pick_op ho rfl
                have ug : aa.eval (.tmp 75) = .bool false := hI.vs _ (ma 35 rfl) (.inr (ran_of hd 35 (by kernel_rfl))) trivial
                have r_82 := hI.vs _ (ma 42 rfl) (.inr (ran_of hd 42 (by kernel_rfl))) trivial
                have u_82 : aa.eval (.tmp 82) = .bool true := r_82
                have HH : Has aa 86 [(82, .bool true)] := Has.of hI.sz hI.df ⟨u_82, trivial⟩
                refine wpOp_go ho (wt_of rfl rfl ug) 83 rfl (.bool false) ww (run_any HH (by intro cs b h; cases h) (by kernel_rfl) (by kernel_rfl)) ?_
                exact hI.put (by kernel_rfl) _ (ma 43 rfl) (by rw [hls]; show 43 < 45; decide) (by rw [hls]; decide) (.bool false) rfl hI.wp AllSt.same
              | 44, ho =>
                obtain rfl := pick_op ho rfl
                have r_75 := hI.vs _ (ma 35 rfl) (.inr (ran_of hd 35 (by kernel_rfl))) trivial
                have u_75 : aa.eval (.tmp 75) = .bool false := r_75
                have r_83 := hI.vs _ (ma 43 rfl) (.inr (ran_of hd 43 (by kernel_rfl))) trivial
                have u_83 : aa.eval (.tmp 83) = .bool false := r_83
                have HH : Has aa 86 [(75, .bool false), (83, .bool false)] := Has.of hI.sz hI.df ⟨u_75, u_83, trivial⟩
                refine wpOp_go ho gz 84 rfl (.bool false) ww (run_any HH (by intro cs b h; cases h) (by kernel_rfl) (by kernel_rfl)) ?_
                exact hI.put (by kernel_rfl) _ (ma 44 rfl) (by rw [hls]; show 44 < 45; decide) (by rw [hls]; decide) (.bool false) rfl hI.wp AllSt.same
              | (k + 45), ho => simp at ho
            · intro listed a33 w10 hall hI
              have r_84 := hI.vs _ (ma 44 rfl) (.inr (hall 44 (by decide))) trivial
              have H33 : Has a33 86 [(0, .slice A len cap), (3, .int .i64 ((k : Nat) : Int)), (4, .pointer (some ⟨w5.heap.size, 0, none⟩)), (6, .int .i64 1), (7, .int .i64 1), (5, .slice none 0 0), (84, .bool false)] := Has.of hI.sz hI.df ⟨hI.fx.1, hI.fx.2.1, hI.fx.2.2.1, hI.fx.2.2.2.1, hI.fx.2.2.2.2.1, hI.fx.2.2.2.2.2.1, r_84, trivial⟩
              have HB10 := hI.wp
              refine then_normal ?_
              refine H33.condF rfl ?_
              refine skip_wp ?_
              refine block_normal ?_
              refine then_normal ?_
              refine wp_region_list ?_
              refine H33.move gz (.inl rfl) rfl rfl rfl ?_
              intro a34 H34
              refine H34.bin gz rfl rfl rfl rfl rfl (succ_i _ (by omega) _ _ _) ?_
              intro a35 H35
              refine H35.move gz (.inr rfl) rfl rfl rfl ?_
              intro a36 H36
              refine nt ?_
              exact ⟨hlt, H36.keep ⟨rfl, rfl, trivial⟩, ⟨O9.bel.trans (HB10.own.bel.mono O9.bel.size), Nat.le_trans O9.bel.size HB10.own.bel.size, by simp, fun p hp => by cases hp⟩⟩
            · exact InvB.start H32.sz H32.df ⟨H32.at_ 0 _ rfl, H32.at_ 3 _ rfl, H32.at_ 4 _ rfl, H32.at_ 6 _ rfl, H32.at_ 7 _ rfl, H32.at_ 5 _ rfl, trivial⟩ ⟨fun h => absurd h (by show ¬ 45 ≤ 0; decide), fun h => absurd h (by show ¬ 45 ≤ 1; decide), fun h => absurd h (by show ¬ 45 ≤ 2; decide), fun h => absurd h (by show ¬ 45 ≤ 3; decide), fun h => absurd h (by show ¬ 45 ≤ 4; decide), fun h => absurd h (by show ¬ 45 ≤ 5; decide), fun h => absurd h (by show ¬ 45 ≤ 6; decide), fun h => absurd h (by show ¬ 45 ≤ 7; decide), fun h => absurd h (by show ¬ 45 ≤ 8; decide), fun h => absurd h (by show ¬ 45 ≤ 9; decide), fun h => absurd h (by show ¬ 45 ≤ 10; decide), fun h => absurd h (by show ¬ 45 ≤ 11; decide), fun h => absurd h (by show ¬ 45 ≤ 12; decide), fun h => absurd h (by show ¬ 45 ≤ 13; decide), fun h => absurd h (by show ¬ 45 ≤ 14; decide), fun h => absurd h (by show ¬ 45 ≤ 15; decide), fun h => absurd h (by show ¬ 45 ≤ 16; decide), fun h => absurd h (by show ¬ 45 ≤ 17; decide), fun h => absurd h (by show ¬ 45 ≤ 18; decide), fun h => absurd h (by show ¬ 45 ≤ 19; decide), fun h => absurd h (by show ¬ 45 ≤ 20; decide), fun h => absurd h (by show ¬ 45 ≤ 21; decide), fun h => absurd h (by show ¬ 45 ≤ 22; decide), fun h => absurd h (by show ¬ 45 ≤ 23; decide), fun h => absurd h (by show ¬ 45 ≤ 24; decide), fun h => absurd h (by show ¬ 45 ≤ 25; decide), fun h => absurd h (by show ¬ 45 ≤ 26; decide), fun h => absurd h (by show ¬ 45 ≤ 27; decide), fun h => absurd h (by show ¬ 45 ≤ 28; decide), fun h => absurd h (by show ¬ 45 ≤ 29; decide), fun h => absurd h (by show ¬ 45 ≤ 30; decide), fun h => absurd h (by show ¬ 45 ≤ 31; decide), fun h => absurd h (by show ¬ 45 ≤ 32; decide), fun h => absurd h (by show ¬ 45 ≤ 33; decide), fun h => absurd h (by show ¬ 45 ≤ 34; decide), fun h => absurd h (by show ¬ 45 ≤ 35; decide), fun h => absurd h (by show ¬ 45 ≤ 36; decide), fun h => absurd h (by show ¬ 45 ≤ 37; decide), fun h => absurd h (by show ¬ 45 ≤ 38; decide), fun h => absurd h (by show ¬ 45 ≤ 39; decide), fun h => absurd h (by show ¬ 45 ≤ 40; decide), fun h => absurd h (by show ¬ 45 ≤ 41; decide), fun h => absurd h (by show ¬ 45 ≤ 42; decide), fun h => absurd h (by show ¬ 45 ≤ 43; decide), fun h => absurd h (by show ¬ 45 ≤ 44; decide), trivial⟩ HB9.drew
          | true =>
            have hm := mayB_of hmay
            repeat (refine wp_seq ?_)
            refine wp_region_list ?_
            refine H18.loadS rfl rfl rfl rfl rfl (O7.get 0 rfl) Tryd.underlying30 rfl size_mq rfl ?_
            intro a19 H19
            refine H19.call gz rfl rfl rfl rfl (fun _ _ => by kernel_rfl) (bytesYes m _ _ _ _ hm hM hF (hT.below O7.bel)) ?_
            rintro a20 _ w8 ⟨vr, rfl, hR, hb⟩ H20
            have O8 := O7.call hb
            have hM := hM.next hb
            clear hb
            refine H20.move gz (.inl rfl) rfl rfl rfl ?_
            intro a21 H21
            refine H21.extract (r := vr) gz rfl rfl rfl rfl (by rfl) ?_
            intro a22 H22
            refine H22.extract (r := .int .i64 0) gz rfl rfl rfl rfl (by rfl) ?_
            intro a23 H23
            refine H23.move gz (.inr rfl) rfl rfl rfl ?_
            intro a24 H24
            refine H24.move gz (.inr rfl) rfl rfl rfl ?_
            intro a25 H25
            refine nt ?_
            repeat (refine wp_seq ?_)
            refine wp_region_list ?_
            refine H25.move gz (.inr rfl) rfl rfl rfl ?_
            intro a26 H26
            refine nt ?_
            repeat (refine wp_seq ?_)
            refine wp_region_list ?_
            refine H26.move gz (.inl rfl) rfl rfl rfl ?_
            intro a27 H27
            refine H27.move gz (.inl rfl) rfl rfl rfl ?_
            intro a28 H28
            refine H28.index gz rfl rfl rfl rfl rfl (show (Instr.indexAt 22 (.slice A len cap) (.int .i64 ((k : Nat) : Int))).run Tryd.prog _ = .ok (.pointer (some ⟨b, o + k * 25, none⟩)) _ by rw [hA]; exact index_m 22 Tryd.underlying22 25 (fun _ => by kernel_rfl) _ _ _ _ _ hlt _) ?_
            intro a29 H29
            refine H29.go gz rfl rfl _ (run_field rfl (H29.ev rfl) (fun g w => fieldAo_0 (o + k * 25) g w)) ?_
            intro a30 H30
            refine H30.go gz rfl rfl _ (run_load rfl (H30.ev rfl) (load_mq (rangeF (rangeB hrg O8.bel hblt)))) ?_
            intro a31 H31
            refine H31.call gz rfl rfl rfl rfl (fun _ _ => by kernel_rfl) (belowC (mayC m _ _ _ true hmay _ (hL.next O8.bel) hF (hT.below O8.bel))) ?_
            rintro a32 _ w9 ⟨rfl, hb⟩ H32
            have O9 := O8.call hb
            have hM := hM.next hb
            have hR := hR.below hb
            clear hb
            refine nt ?_
            repeat (refine wp_seq ?_)
            refine H32.condT rfl ?_
            refine wp_region_list ?_
            refine H32.move gz (.inr rfl) rfl rfl rfl ?_
            intro a33 H33
            refine nt ?_
            have hT2 := hT.below O9.bel
            have hL2 := hL.next O9.bel
            have hr2 := rangeF (rangeB hrg O9.bel hblt)
            have hC4 := O9.get 0 rfl
            have hl4 := O9.lt 0 rfl
            have hbl2 := Nat.lt_of_lt_of_le hblt O9.bel.size
            have HB9 := Base.of (Own.start w9)
            obtain ⟨b0, hb0⟩ : ∃ b0, b0 = w9.heap.size := ⟨_, rfl⟩
            rw [← hb0] at HB9
            have hR := hR.base (Nat.zero_le _)
            repeat (refine wp_seq ?_)
            refine wp_region_invB (by kernel_rfl) (InvB 86 [(0, .slice A len cap), (3, .int .i64 ((k : Nat) : Int)), (4, .pointer (some ⟨w5.heap.size, 0, none⟩)), (6, .int .i64 0), (7, .int .i64 0)] [⟨0, 40, [], fun v _ => v = .agg (mqCells m (.slice Ac m.codes.length cc) (.slice Aw m.wishes.length cw) (.slice Af m.filters.length cf)).toArray⟩, ⟨1, 41, [], fun v _ => v = .int .i64 0⟩, ⟨2, 42, [], fun v _ => v = .int .i64 0⟩, ⟨3, 43, [], fun v _ => v = .int .i64 0⟩, ⟨4, 44, [], fun v _ => v = .bool false⟩, ⟨5, 45, [], fun v _ => v = .bool false⟩, ⟨6, 46, [], fun v _ => v = .int .i64 0⟩, ⟨7, 47, [], fun v _ => v = .int .i64 0⟩, ⟨8, 48, [], fun v _ => v = .int .i64 0⟩, ⟨9, 49, [], fun v _ => v = .bool false⟩, ⟨10, 50, [], fun v _ => v = .bool false⟩, ⟨11, 51, [], fun v _ => v = .bool false⟩, ⟨12, 52, [], fun v _ => v = .int .i64 0⟩, ⟨13, 53, [], fun v _ => v = .bool false⟩, ⟨14, 54, [], fun v _ => v = .bool false⟩, ⟨15, 55, [], fun v _ => v = undef⟩, ⟨16, 56, [], fun v _ => v = undef⟩, ⟨17, 57, [], fun v _ => v = undef⟩, ⟨18, 58, [], fun v _ => v = .bool false⟩, ⟨19, 59, [], fun v _ => v = .bool false⟩, ⟨20, 60, [], fun v _ => v = .bool false⟩, ⟨21, 61, [], fun v _ => v = .int .i64 0⟩, ⟨22, 62, [], fun v _ => v = .bool true⟩, ⟨23, 63, [], fun v _ => v = .bool true⟩, ⟨24, 64, [], fun v w => RowIs 0 (layB m) v w⟩, ⟨25, 65, [], fun v _ => v = .slice A len cap⟩, ⟨26, 66, [], fun v _ => v = .int .i64 ((k : Nat) : Int)⟩, ⟨27, 67, [], fun v _ => v = .pointer (some ⟨b, o + k * 25, none⟩)⟩, ⟨28, 68, [], fun v _ => v = .pointer (some ⟨b, o + k * 25, none⟩)⟩, ⟨29, 69, [], fun v _ => v = .agg (mqCells m vc vw vf).toArray⟩, ⟨30, 70, [], fun v w => RowIs b0 (layB m) v w⟩, ⟨31, 71, [], fun v _ => v = .bool true⟩, ⟨32, 72, [], fun v _ => v = .bool false⟩, ⟨33, 73, [], fun v _ => v = .bool false⟩, ⟨34, 74, [], fun v _ => v = .bool false⟩, ⟨35, 75, [], fun v _ => v = .bool false⟩, ⟨36, 76, [], fun v _ => v = .agg (mqCells m (.slice Ac m.codes.length cc) (.slice Aw m.wishes.length cw) (.slice Af m.filters.length cf)).toArray⟩, ⟨37, 77, [], fun v _ => v = .slice A len cap⟩, ⟨38, 78, [], fun v _ => v = .int .i64 ((k : Nat) : Int)⟩, ⟨39, 79, [], fun v _ => v = .pointer (some ⟨b, o + k * 25, none⟩)⟩, ⟨40, 80, [], fun v _ => v = .pointer (some ⟨b, o + k * 25, none⟩)⟩, ⟨41, 81, [], fun v _ => v = .agg (mqCells m vc vw vf).toArray⟩, ⟨42, 82, [], fun v _ => v = .bool true⟩, ⟨43, 83, [], fun v _ => v = .bool false⟩, ⟨44, 84, [], fun v _ => v = .bool false⟩, ⟨1000, 5, [], fun v w => RowIs 0 (layB m) v w⟩] (Base w9 b0 [])) (back_of (by kernel_rfl)) ?_ ?_ ?_
            · intro listed aa ww i o hs hni hcl ho hd hI
              have hls : listed.size = 45 := hs
              have u_0 : aa.eval (.tmp 0) = .slice A len cap := hI.fx.1
              have u_3 : aa.eval (.tmp 3) = .int .i64 ((k : Nat) : Int) := hI.fx.2.1
              have u_4 : aa.eval (.tmp 4) = .pointer (some ⟨w5.heap.size, 0, none⟩) := hI.fx.2.2.1
              have u_6 : aa.eval (.tmp 6) = .int .i64 0 := hI.fx.2.2.2.1
              have u_7 : aa.eval (.tmp 7) = .int .i64 0 := hI.fx.2.2.2.2.1
              match i, ho with
              | 0, ho =>
                obtain rfl := pick_op ho rfl
                have HH : Has aa 86 [(4, .pointer (some ⟨w5.heap.size, 0, none⟩))] := Has.of hI.sz hI.df ⟨u_4, trivial⟩
                refine wpOp_go ho gz 40 rfl (.agg (mqCells m (.slice Ac m.codes.length cc) (.slice Aw m.wishes.length cw) (.slice Af m.filters.length cf)).toArray) ww (run_load rfl (HH.ev rfl) (loadS_run (hC4.below hI.wp.own.bel hl4))) ?_
                exact hI.put (by kernel_rfl) _ (ma 0 rfl) (by rw [hls]; show 0 < 45; decide) (by rw [hls]; decide) (.agg (mqCells m (.slice Ac m.codes.length cc) (.slice Aw m.wishes.length cw) (.slice Af m.filters.length cf)).toArray) rfl hI.wp AllSt.same
              | 1, ho =>
                obtain rfl := pick_op ho rfl
                have r_40 := hI.vs _ (ma 0 rfl) (.inr (ran_of hd 0 (by kernel_rfl))) trivial
                have u_40 : aa.eval (.tmp 40) = .agg (mqCells m (.slice Ac m.codes.length cc) (.slice Aw m.wishes.length cw) (.slice Af m.filters.length cf)).toArray := r_40
                have HH : Has aa 86 [(40, .agg (mqCells m (.slice Ac m.codes.length cc) (.slice Aw m.wishes.length cw) (.slice Af m.filters.length cf)).toArray)] := Has.of hI.sz hI.df ⟨u_40, trivial⟩
                refine wpOp_enter ho gz 41 rfl 27 _ (run_callH HH rfl rfl (fun _ _ => by kernel_rfl)) _ (belowC (checkC m _ _ _ 0 (by rw [hmay]; rfl) ww (hM.next hI.wp.own.bel) hF (hT2.below hI.wp.own.bel))) ?_
                rintro _ w' ⟨rfl, hb⟩
                exact hI.put (by kernel_rfl) _ (ma 1 rfl) (by rw [hls]; show 1 < 45; decide) (by rw [hls]; decide) (.int .i64 0) rfl (hI.wp.call hb) ⟨fun _ _ _ _ _ h => h, fun h => absurd rfl h, fun _ _ _ _ _ h => h, fun _ _ _ _ _ h => h, fun _ _ _ _ _ h => h, fun _ _ _ _ _ h => h, fun _ _ _ _ _ h => h, fun _ _ _ _ _ h => h, fun _ _ _ _ _ h => h, fun _ _ _ _ _ h => h, fun _ _ _ _ _ h => h, fun _ _ _ _ _ h => h, fun _ _ _ _ _ h => h, fun _ _ _ _ _ h => h, fun _ _ _ _ _ h => h, fun _ _ _ _ _ h => h, fun _ _ _ _ _ h => h, fun _ _ _ _ _ h => h, fun _ _ _ _ _ h => h, fun _ _ _ _ _ h => h, fun _ _ _ _ _ h => h, fun _ _ _ _ _ h => h, fun _ _ _ _ _ h => h, fun _ _ _ _ _ h => h, fun _ _ _ _ _ h => h.below hb, fun _ _ _ _ _ h => h, fun _ _ _ _ _ h => h, fun _ _ _ _ _ h => h, fun _ _ _ _ _ h => h, fun _ _ _ _ _ h => h, fun _ _ _ _ _ h => h.below hb, fun _ _ _ _ _ h => h, fun _ _ _ _ _ h => h, fun _ _ _ _ _ h => h, fun _ _ _ _ _ h => h, fun _ _ _ _ _ h => h, fun _ _ _ _ _ h => h, fun _ _ _ _ _ h => h, fun _ _ _ _ _ h => h, fun _ _ _ _ _ h => h, fun _ _ _ _ _ h => h, fun _ _ _ _ _ h => h, fun _ _ _ _ _ h => h, fun _ _ _ _ _ h => h, fun _ _ _ _ _ h => h, fun _ _ _ _ _ h => h.below hb, trivial⟩
              | 2, ho =>
                obtain rfl := pick_op ho rfl
                have r_41 := hI.vs _ (ma 1 rfl) (.inr (ran_of hd 1 (by kernel_rfl))) trivial
                have u_41 : aa.eval (.tmp 41) = .int .i64 0 := r_41
                have HH : Has aa 86 [(41, .int .i64 0)] := Has.of hI.sz hI.df ⟨u_41, trivial⟩
                refine wpOp_enter ho gz 42 rfl 26 _ (run_callH HH rfl rfl (fun _ _ => by kernel_rfl)) _ (quietC (num18 0 ww)) ?_
                rintro _ _ ⟨rfl, rfl⟩
                exact hI.put (by kernel_rfl) _ (ma 2 rfl) (by rw [hls]; show 2 < 45; decide) (by rw [hls]; decide) (.int .i64 0) rfl hI.wp AllSt.same
              | 3, ho =>
                obtain rfl := pick_op ho rfl
                have HH : Has aa 86 [(7, .int .i64 0)] := Has.of hI.sz hI.df ⟨u_7, trivial⟩
                refine wpOp_go ho gz 43 rfl (.int .i64 0) ww (run_move (.inl rfl) (HH.ev rfl)) ?_
                exact hI.put (by kernel_rfl) _ (ma 3 rfl) (by rw [hls]; show 3 < 45; decide) (by rw [hls]; decide) (.int .i64 0) rfl hI.wp AllSt.same
              | 4, ho =>
                obtain rfl := pick_op ho rfl
                have r_42 := hI.vs _ (ma 2 rfl) (.inr (ran_of hd 2 (by kernel_rfl))) trivial
                have u_42 : aa.eval (.tmp 42) = .int .i64 0 := r_42
                have r_43 := hI.vs _ (ma 3 rfl) (.inr (ran_of hd 3 (by kernel_rfl))) trivial
                have u_43 : aa.eval (.tmp 43) = .int .i64 0 := r_43
                have HH : Has aa 86 [(42, .int .i64 0), (43, .int .i64 0)] := Has.of hI.sz hI.df ⟨u_42, u_43, trivial⟩
                refine wpOp_go ho gz 44 rfl (.bool false) ww (run_bin rfl (HH.ev rfl) (HH.ev rfl) (neq_3 _ _ false rfl _ _ _)) ?_
                exact hI.put (by kernel_rfl) _ (ma 4 rfl) (by rw [hls]; show 4 < 45; decide) (by rw [hls]; decide) (.bool false) rfl hI.wp AllSt.same
              | 5, ho =>
                obtain rfl := pick_op ho rfl
                have r_44 := hI.vs _ (ma 4 rfl) (.inr (ran_of hd 4 (by kernel_rfl))) trivial
                have u_44 : aa.eval (.tmp 44) = .bool false := r_44
                have HH : Has aa 86 [(44, .bool false)] := Has.of hI.sz hI.df ⟨u_44, trivial⟩
                refine wpOp_go ho gz 45 rfl (.bool false) ww (run_move (.inl rfl) (HH.ev rfl)) ?_
                exact hI.put (by kernel_rfl) _ (ma 5 rfl) (by rw [hls]; show 5 < 45; decide) (by rw [hls]; decide) (.bool false) rfl hI.wp AllSt.same
              | 6, ho =>
                obtain rfl := pick_op ho rfl
                have ug : aa.eval (.tmp 45) = .bool false := hI.vs _ (ma 5 rfl) (.inr (ran_of hd 5 (by kernel_rfl))) trivial
                have HH : Has aa 86 [(6, .int .i64 0)] := Has.of hI.sz hI.df ⟨u_6, trivial⟩
                refine wpOp_go ho (wt_of rfl rfl ug) 46 rfl (.int .i64 0) ww (run_move (.inl rfl) (HH.ev rfl)) ?_
                exact hI.put (by kernel_rfl) _ (ma 6 rfl) (by rw [hls]; show 6 < 45; decide) (by rw [hls]; decide) (.int .i64 0) rfl hI.wp AllSt.same
              | 7, ho =>
                obtain rfl := pick_op ho rfl
                have ug : aa.eval (.tmp 45) = .bool false := hI.vs _ (ma 5 rfl) (.inr (ran_of hd 5 (by kernel_rfl))) trivial
                have r_46 := hI.vs _ (ma 6 rfl) (.inr (ran_of hd 6 (by kernel_rfl))) trivial
                have u_46 : aa.eval (.tmp 46) = .int .i64 0 := r_46
                have HH : Has aa 86 [(46, .int .i64 0)] := Has.of hI.sz hI.df ⟨u_46, trivial⟩
                refine wpOp_enter ho (wt_of rfl rfl ug) 47 rfl 26 _ (run_callH HH rfl rfl (fun _ _ => by kernel_rfl)) _ (quietC (num18 0 ww)) ?_
                rintro _ _ ⟨rfl, rfl⟩
                exact hI.put (by kernel_rfl) _ (ma 7 rfl) (by rw [hls]; show 7 < 45; decide) (by rw [hls]; decide) (.int .i64 0) rfl hI.wp AllSt.same
              | 8, ho =>
                obtain rfl := pick_op ho rfl
                have ug : aa.eval (.tmp 45) = .bool false := hI.vs _ (ma 5 rfl) (.inr (ran_of hd 5 (by kernel_rfl))) trivial
                have HH : Has aa 86 [(7, .int .i64 0)] := Has.of hI.sz hI.df ⟨u_7, trivial⟩
                refine wpOp_go ho (wt_of rfl rfl ug) 48 rfl (.int .i64 0) ww (run_move (.inl rfl) (HH.ev rfl)) ?_
                exact hI.put (by kernel_rfl) _ (ma 8 rfl) (by rw [hls]; show 8 < 45; decide) (by rw [hls]; decide) (.int .i64 0) rfl hI.wp AllSt.same
              | 9, ho =>
                obtain rfl := pick_op ho rfl
                have ug : aa.eval (.tmp 45) = .bool false := hI.vs _ (ma 5 rfl) (.inr (ran_of hd 5 (by kernel_rfl))) trivial
                have r_47 := hI.vs _ (ma 7 rfl) (.inr (ran_of hd 7 (by kernel_rfl))) trivial
                have u_47 : aa.eval (.tmp 47) = .int .i64 0 := r_47
                have r_48 := hI.vs _ (ma 8 rfl) (.inr (ran_of hd 8 (by kernel_rfl))) trivial
                have u_48 : aa.eval (.tmp 48) = .int .i64 0 := r_48
                have HH : Has aa 86 [(47, .int .i64 0), (48, .int .i64 0)] := Has.of hI.sz hI.df ⟨u_47, u_48, trivial⟩
                refine wpOp_go ho (wt_of rfl rfl ug) 49 rfl (.bool false) ww (run_bin rfl (HH.ev rfl) (HH.ev rfl) (neq_3 _ _ false rfl _ _ _)) ?_
                exact hI.put (by kernel_rfl) _ (ma 9 rfl) (by rw [hls]; show 9 < 45; decide) (by rw [hls]; decide) (.bool false) rfl hI.wp AllSt.same
              | 10, ho =>
                obtain rfl := pick_op ho rfl
                have r_45 := hI.vs _ (ma 5 rfl) (.inr (ran_of hd 5 (by kernel_rfl))) trivial
                have u_45 : aa.eval (.tmp 45) = .bool false := r_45
                have r_49 := hI.vs _ (ma 9 rfl) (.inr (ran_of hd 9 (by kernel_rfl))) trivial
                have u_49 : aa.eval (.tmp 49) = .bool false := r_49
                have HH : Has aa 86 [(45, .bool false), (49, .bool false)] := Has.of hI.sz hI.df ⟨u_45, u_49, trivial⟩
                refine wpOp_go ho gz 50 rfl (.bool false) ww (run_any HH (by intro cs b h; cases h) (by kernel_rfl) (by kernel_rfl)) ?_
                exact hI.put (by kernel_rfl) _ (ma 10 rfl) (by rw [hls]; show 10 < 45; decide) (by rw [hls]; decide) (.bool false) rfl hI.wp AllSt.same
              | 11, ho =>
                obtain rfl := pick_op ho rfl
                have r_50 := hI.vs _ (ma 10 rfl) (.inr (ran_of hd 10 (by kernel_rfl))) trivial
                have u_50 : aa.eval (.tmp 50) = .bool false := r_50
                have HH : Has aa 86 [(50, .bool false)] := Has.of hI.sz hI.df ⟨u_50, trivial⟩
                refine wpOp_go ho gz 51 rfl (.bool false) ww (run_move (.inl rfl) (HH.ev rfl)) ?_
                exact hI.put (by kernel_rfl) _ (ma 11 rfl) (by rw [hls]; show 11 < 45; decide) (by rw [hls]; decide) (.bool false) rfl hI.wp AllSt.same
              | 12, ho =>
                obtain rfl := pick_op ho rfl
                have ug : aa.eval (.tmp 51) = .bool false := hI.vs _ (ma 11 rfl) (.inr (ran_of hd 11 (by kernel_rfl))) trivial
                have HH : Has aa 86 [(7, .int .i64 0)] := Has.of hI.sz hI.df ⟨u_7, trivial⟩
                refine wpOp_go ho (wt_of rfl rfl ug) 52 rfl (.int .i64 0) ww (run_move (.inl rfl) (HH.ev rfl)) ?_
                exact hI.put (by kernel_rfl) _ (ma 12 rfl) (by rw [hls]; show 12 < 45; decide) (by rw [hls]; decide) (.int .i64 0) rfl hI.wp AllSt.same
              | 13, ho =>
                obtain rfl := pick_op ho rfl
                have ug : aa.eval (.tmp 51) = .bool false := hI.vs _ (ma 11 rfl) (.inr (ran_of hd 11 (by kernel_rfl))) trivial
                have r_52 := hI.vs _ (ma 12 rfl) (.inr (ran_of hd 12 (by kernel_rfl))) trivial
                have u_52 : aa.eval (.tmp 52) = .int .i64 0 := r_52
                have HH : Has aa 86 [(52, .int .i64 0)] := Has.of hI.sz hI.df ⟨u_52, trivial⟩
                refine wpOp_go ho (wt_of rfl rfl ug) 53 rfl (.bool false) ww (run_bin rfl (HH.ev rfl) (HH.ev rfl) (neq_3 _ _ false rfl _ _ _)) ?_
                exact hI.put (by kernel_rfl) _ (ma 13 rfl) (by rw [hls]; show 13 < 45; decide) (by rw [hls]; decide) (.bool false) rfl hI.wp AllSt.same
              | 14, ho =>
                obtain rfl := pick_op ho rfl
                have ug : aa.eval (.tmp 51) = .bool false := hI.vs _ (ma 11 rfl) (.inr (ran_of hd 11 (by kernel_rfl))) trivial
                have r_53 := hI.vs _ (ma 13 rfl) (.inr (ran_of hd 13 (by kernel_rfl))) trivial
                have u_53 : aa.eval (.tmp 53) = .bool false := r_53
                have HH : Has aa 86 [(53, .bool false)] := Has.of hI.sz hI.df ⟨u_53, trivial⟩
                refine wpOp_go ho (wt_of rfl rfl ug) 54 rfl (.bool false) ww (run_move (.inl rfl) (HH.ev rfl)) ?_
                exact hI.put (by kernel_rfl) _ (ma 14 rfl) (by rw [hls]; show 14 < 45; decide) (by rw [hls]; decide) (.bool false) rfl hI.wp AllSt.same
              | 15, ho =>
                obtain rfl := pick_op ho rfl
                have ug : aa.eval (.tmp 54) = .bool false := hI.vs _ (ma 14 rfl) (.inr (ran_of hd 14 (by kernel_rfl))) trivial
                exact wpOp_off ho (wf_of rfl rfl ug) (hI.put (by kernel_rfl) _ (ma 15 rfl) (by rw [hls]; show 15 < 45; decide) (by rw [hls]; decide) undef rfl hI.wp AllSt.same)
              | 16, ho =>
                obtain rfl := pick_op ho rfl
                have ug : aa.eval (.tmp 54) = .bool false := hI.vs _ (ma 14 rfl) (.inr (ran_of hd 14 (by kernel_rfl))) trivial
                exact wpOp_off ho (wf_of rfl rfl ug) (hI.put (by kernel_rfl) _ (ma 16 rfl) (by rw [hls]; show 16 < 45; decide) (by rw [hls]; decide) undef rfl hI.wp AllSt.same)
              | 17, ho =>
                obtain rfl := pick_op ho rfl
                have ug : aa.eval (.tmp 54) = .bool false := hI.vs _ (ma 14 rfl) (.inr (ran_of hd 14 (by kernel_rfl))) trivial
                exact wpOp_off ho (wf_of rfl rfl ug) (hI.put (by kernel_rfl) _ (ma 17 rfl) (by rw [hls]; show 17 < 45; decide) (by rw [hls]; decide) undef rfl hI.wp AllSt.same)
              | 18, ho =>
                obtain rfl := pick_op ho rfl
                have ug : aa.eval (.tmp 51) = .bool false := hI.vs _ (ma 11 rfl) (.inr (ran_of hd 11 (by kernel_rfl))) trivial
                have r_54 := hI.vs _ (ma 14 rfl) (.inr (ran_of hd 14 (by kernel_rfl))) trivial
                have u_54 : aa.eval (.tmp 54) = .bool false := r_54
                have r_57 := hI.vs _ (ma 17 rfl) (.inr (ran_of hd 17 (by kernel_rfl))) trivial
                have u_57 : aa.eval (.tmp 57) = undef := r_57
                have HH : Has aa 86 [(54, .bool false), (57, undef)] := Has.of hI.sz hI.df ⟨u_54, u_57, trivial⟩
                refine wpOp_go ho (wt_of rfl rfl ug) 58 rfl (.bool false) ww (run_any HH (by intro cs b h; cases h) (by kernel_rfl) (by kernel_rfl)) ?_
                exact hI.put (by kernel_rfl) _ (ma 18 rfl) (by rw [hls]; show 18 < 45; decide) (by rw [hls]; decide) (.bool false) rfl hI.wp AllSt.same
              | 19, ho =>
                obtain rfl := pick_op ho rfl
                have r_51 := hI.vs _ (ma 11 rfl) (.inr (ran_of hd 11 (by kernel_rfl))) trivial
                have u_51 : aa.eval (.tmp 51) = .bool false := r_51
                have r_58 := hI.vs _ (ma 18 rfl) (.inr (ran_of hd 18 (by kernel_rfl))) trivial
                have u_58 : aa.eval (.tmp 58) = .bool false := r_58
                have HH : Has aa 86 [(51, .bool false), (58, .bool false)] := Has.of hI.sz hI.df ⟨u_51, u_58, trivial⟩
                refine wpOp_go ho gz 59 rfl (.bool false) ww (run_any HH (by intro cs b h; cases h) (by kernel_rfl) (by kernel_rfl)) ?_
                exact hI.put (by kernel_rfl) _ (ma 19 rfl) (by rw [hls]; show 19 < 45; decide) (by rw [hls]; decide) (.bool false) rfl hI.wp AllSt.same
              | 20, ho =>
                obtain rfl := pick_op ho rfl
                have r_59 := hI.vs _ (ma 19 rfl) (.inr (ran_of hd 19 (by kernel_rfl))) trivial
                have u_59 : aa.eval (.tmp 59) = .bool false := r_59
                have HH : Has aa 86 [(59, .bool false)] := Has.of hI.sz hI.df ⟨u_59, trivial⟩
                refine wpOp_go ho gz 60 rfl (.bool false) ww (run_move (.inl rfl) (HH.ev rfl)) ?_
                exact hI.put (by kernel_rfl) _ (ma 20 rfl) (by rw [hls]; show 20 < 45; decide) (by rw [hls]; decide) (.bool false) rfl hI.wp AllSt.same
              | 21, ho =>
                obtain rfl := pick_op ho rfl
                have ug : aa.eval (.tmp 60) = .bool false := hI.vs _ (ma 20 rfl) (.inr (ran_of hd 20 (by kernel_rfl))) trivial
                have HH : Has aa 86 [(7, .int .i64 0)] := Has.of hI.sz hI.df ⟨u_7, trivial⟩
                refine wpOp_go ho (wt_of rfl rfl ug) 61 rfl (.int .i64 0) ww (run_move (.inl rfl) (HH.ev rfl)) ?_
                exact hI.put (by kernel_rfl) _ (ma 21 rfl) (by rw [hls]; show 21 < 45; decide) (by rw [hls]; decide) (.int .i64 0) rfl hI.wp AllSt.same
              | 22, ho =>
                obtain rfl := pick_op ho rfl
                have ug : aa.eval (.tmp 60) = .bool false := hI.vs _ (ma 20 rfl) (.inr (ran_of hd 20 (by kernel_rfl))) trivial
                have r_61 := hI.vs _ (ma 21 rfl) (.inr (ran_of hd 21 (by kernel_rfl))) trivial
                have u_61 : aa.eval (.tmp 61) = .int .i64 0 := r_61
                have HH : Has aa 86 [(61, .int .i64 0)] := Has.of hI.sz hI.df ⟨u_61, trivial⟩
                refine wpOp_go ho (wt_of rfl rfl ug) 62 rfl (.bool true) ww (run_bin rfl (HH.ev rfl) (HH.ev rfl) (eql_iB _ _ true rfl _ _ _)) ?_
                exact hI.put (by kernel_rfl) _ (ma 22 rfl) (by rw [hls]; show 22 < 45; decide) (by rw [hls]; decide) (.bool true) rfl hI.wp AllSt.same
              | 23, ho =>
                obtain rfl := pick_op ho rfl
                have ug : aa.eval (.tmp 60) = .bool false := hI.vs _ (ma 20 rfl) (.inr (ran_of hd 20 (by kernel_rfl))) trivial
                have r_62 := hI.vs _ (ma 22 rfl) (.inr (ran_of hd 22 (by kernel_rfl))) trivial
                have u_62 : aa.eval (.tmp 62) = .bool true := r_62
                have HH : Has aa 86 [(62, .bool true)] := Has.of hI.sz hI.df ⟨u_62, trivial⟩
                refine wpOp_go ho (wt_of rfl rfl ug) 63 rfl (.bool true) ww (run_move (.inl rfl) (HH.ev rfl)) ?_
                exact hI.put (by kernel_rfl) _ (ma 23 rfl) (by rw [hls]; show 23 < 45; decide) (by rw [hls]; decide) (.bool true) rfl hI.wp AllSt.same
              | 24, ho =>
                obtain rfl := pick_op ho rfl
                have ug : aa.eval (.tmp 63) = .bool true := hI.vs _ (ma 23 rfl) (.inr (ran_of hd 23 (by kernel_rfl))) trivial
                have r_5 := hI.vs _ (ma 45 rfl) (.inl (by rw [hls]; show 45 ≤ 1000; decide)) trivial
                have HH : Has aa 86 [(5, aa.eval (.tmp 5))] := Has.of hI.sz hI.df ⟨rfl, trivial⟩
                refine wpOp_go ho (wt_of rfl rfl ug) 64 rfl (aa.eval (.tmp 5)) ww (run_move (.inl rfl) (HH.ev rfl)) ?_
                exact hI.put (by kernel_rfl) _ (ma 24 rfl) (by rw [hls]; show 24 < 45; decide) (by rw [hls]; decide) (aa.eval (.tmp 5)) r_5 hI.wp AllSt.same
              | 25, ho =>
                obtain rfl := pick_op ho rfl
                have ug : aa.eval (.tmp 63) = .bool true := hI.vs _ (ma 23 rfl) (.inr (ran_of hd 23 (by kernel_rfl))) trivial
                have HH : Has aa 86 [(0, .slice A len cap)] := Has.of hI.sz hI.df ⟨u_0, trivial⟩
                refine wpOp_go ho (wt_of rfl rfl ug) 65 rfl (.slice A len cap) ww (run_move (.inl rfl) (HH.ev rfl)) ?_
                exact hI.put (by kernel_rfl) _ (ma 25 rfl) (by rw [hls]; show 25 < 45; decide) (by rw [hls]; decide) (.slice A len cap) rfl hI.wp AllSt.same
              | 26, ho =>
                obtain rfl := pick_op ho rfl
                have ug : aa.eval (.tmp 63) = .bool true := hI.vs _ (ma 23 rfl) (.inr (ran_of hd 23 (by kernel_rfl))) trivial
                have HH : Has aa 86 [(3, .int .i64 ((k : Nat) : Int))] := Has.of hI.sz hI.df ⟨u_3, trivial⟩
                refine wpOp_go ho (wt_of rfl rfl ug) 66 rfl (.int .i64 ((k : Nat) : Int)) ww (run_move (.inl rfl) (HH.ev rfl)) ?_
                exact hI.put (by kernel_rfl) _ (ma 26 rfl) (by rw [hls]; show 26 < 45; decide) (by rw [hls]; decide) (.int .i64 ((k : Nat) : Int)) rfl hI.wp AllSt.same
              | 27, ho =>
                obtain rfl := pick_op ho rfl
                have ug : aa.eval (.tmp 63) = .bool true := hI.vs _ (ma 23 rfl) (.inr (ran_of hd 23 (by kernel_rfl))) trivial
                have r_65 := hI.vs _ (ma 25 rfl) (.inr (ran_of hd 25 (by kernel_rfl))) trivial
                have u_65 : aa.eval (.tmp 65) = .slice A len cap := r_65
                have r_66 := hI.vs _ (ma 26 rfl) (.inr (ran_of hd 26 (by kernel_rfl))) trivial
                have u_66 : aa.eval (.tmp 66) = .int .i64 ((k : Nat) : Int) := r_66
                have HH : Has aa 86 [(65, .slice A len cap), (66, .int .i64 ((k : Nat) : Int))] := Has.of hI.sz hI.df ⟨u_65, u_66, trivial⟩
                refine wpOp_go ho (wt_of rfl rfl ug) 67 rfl (.pointer (some ⟨b, o + k * 25, none⟩)) ww (run_index rfl (HH.ev rfl) (HH.ev rfl) (show (Instr.indexAt 22 (.slice A len cap) (.int .i64 ((k : Nat) : Int))).run Tryd.prog _ = .ok (.pointer (some ⟨b, o + k * 25, none⟩)) _ by rw [hA]; exact index_m 22 Tryd.underlying22 25 (fun _ => by kernel_rfl) _ _ _ _ _ hlt _)) ?_
                exact hI.put (by kernel_rfl) _ (ma 27 rfl) (by rw [hls]; show 27 < 45; decide) (by rw [hls]; decide) (.pointer (some ⟨b, o + k * 25, none⟩)) rfl hI.wp AllSt.same
              | 28, ho =>
                obtain rfl := pick_op ho rfl
                have ug : aa.eval (.tmp 63) = .bool true := hI.vs _ (ma 23 rfl) (.inr (ran_of hd 23 (by kernel_rfl))) trivial
                have r_67 := hI.vs _ (ma 27 rfl) (.inr (ran_of hd 27 (by kernel_rfl))) trivial
                have u_67 : aa.eval (.tmp 67) = .pointer (some ⟨b, o + k * 25, none⟩) := r_67
                have HH : Has aa 86 [(67, .pointer (some ⟨b, o + k * 25, none⟩))] := Has.of hI.sz hI.df ⟨u_67, trivial⟩
                refine wpOp_go ho (wt_of rfl rfl ug) 68 rfl (.pointer (some ⟨b, o + k * 25, none⟩)) ww (run_field rfl (HH.ev rfl) (fun g w => fieldAo_0 (o + k * 25) g w)) ?_
                exact hI.put (by kernel_rfl) _ (ma 28 rfl) (by rw [hls]; show 28 < 45; decide) (by rw [hls]; decide) (.pointer (some ⟨b, o + k * 25, none⟩)) rfl hI.wp AllSt.same
              | 29, ho =>
                obtain rfl := pick_op ho rfl
                have ug : aa.eval (.tmp 63) = .bool true := hI.vs _ (ma 23 rfl) (.inr (ran_of hd 23 (by kernel_rfl))) trivial
                have r_68 := hI.vs _ (ma 28 rfl) (.inr (ran_of hd 28 (by kernel_rfl))) trivial
                have u_68 : aa.eval (.tmp 68) = .pointer (some ⟨b, o + k * 25, none⟩) := r_68
                have HH : Has aa 86 [(68, .pointer (some ⟨b, o + k * 25, none⟩))] := Has.of hI.sz hI.df ⟨u_68, trivial⟩
                refine wpOp_go ho (wt_of rfl rfl ug) 69 rfl (.agg (mqCells m vc vw vf).toArray) ww (run_load rfl (HH.ev rfl) (load_mq (rangeB hr2 hI.wp.own.bel hbl2))) ?_
                exact hI.put (by kernel_rfl) _ (ma 29 rfl) (by rw [hls]; show 29 < 45; decide) (by rw [hls]; decide) (.agg (mqCells m vc vw vf).toArray) rfl hI.wp AllSt.same
              | 30, ho =>
                obtain rfl := pick_op ho rfl
                have ug : aa.eval (.tmp 63) = .bool true := hI.vs _ (ma 23 rfl) (.inr (ran_of hd 23 (by kernel_rfl))) trivial
                have r_69 := hI.vs _ (ma 29 rfl) (.inr (ran_of hd 29 (by kernel_rfl))) trivial
                have u_69 : aa.eval (.tmp 69) = .agg (mqCells m vc vw vf).toArray := r_69
                have HH : Has aa 86 [(69, .agg (mqCells m vc vw vf).toArray)] := Has.of hI.sz hI.df ⟨u_69, trivial⟩
                refine wpOp_enter ho (wt_of rfl rfl ug) 70 rfl 29 _ (run_callH HH rfl rfl (fun _ _ => by kernel_rfl)) _ ((refBytes m _ _ _ ww hm (hL2.next hI.wp.own.bel)).mono fun _ _ h => h.row (Nat.le_refl _)) ?_
                rintro v' w' ⟨hrow, hb⟩
                exact hI.put (by kernel_rfl) _ (ma 30 rfl) (by rw [hls]; show 30 < 45; decide) (by rw [hls]; decide) (v') (hrow.base hI.wp.bw) (hI.wp.call hb) ⟨fun _ _ _ _ _ h => h, fun _ _ _ _ _ h => h, fun _ _ _ _ _ h => h, fun _ _ _ _ _ h => h, fun _ _ _ _ _ h => h, fun _ _ _ _ _ h => h, fun _ _ _ _ _ h => h, fun _ _ _ _ _ h => h, fun _ _ _ _ _ h => h, fun _ _ _ _ _ h => h, fun _ _ _ _ _ h => h, fun _ _ _ _ _ h => h, fun _ _ _ _ _ h => h, fun _ _ _ _ _ h => h, fun _ _ _ _ _ h => h, fun _ _ _ _ _ h => h, fun _ _ _ _ _ h => h, fun _ _ _ _ _ h => h, fun _ _ _ _ _ h => h, fun _ _ _ _ _ h => h, fun _ _ _ _ _ h => h, fun _ _ _ _ _ h => h, fun _ _ _ _ _ h => h, fun _ _ _ _ _ h => h, fun _ _ _ _ _ h => h.below hb, fun _ _ _ _ _ h => h, fun _ _ _ _ _ h => h, fun _ _ _ _ _ h => h, fun _ _ _ _ _ h => h, fun _ _ _ _ _ h => h, fun h => absurd rfl h, fun _ _ _ _ _ h => h, fun _ _ _ _ _ h => h, fun _ _ _ _ _ h => h, fun _ _ _ _ _ h => h, fun _ _ _ _ _ h => h, fun _ _ _ _ _ h => h, fun _ _ _ _ _ h => h, fun _ _ _ _ _ h => h, fun _ _ _ _ _ h => h, fun _ _ _ _ _ h => h, fun _ _ _ _ _ h => h, fun _ _ _ _ _ h => h, fun _ _ _ _ _ h => h, fun _ _ _ _ _ h => h, fun _ _ _ _ _ h => h.below hb, trivial⟩
              | 31, ho =>
                obtain rfl := pick_op ho rfl
                have ug : aa.eval (.tmp 63) = .bool true := hI.vs _ (ma 23 rfl) (.inr (ran_of hd 23 (by kernel_rfl))) trivial
                have r_64 := hI.vs _ (ma 24 rfl) (.inr (ran_of hd 24 (by kernel_rfl))) trivial
                have r_70 := hI.vs _ (ma 30 rfl) (.inr (ran_of hd 30 (by kernel_rfl))) trivial
                have HH : Has aa 86 [(64, aa.eval (.tmp 64)), (70, aa.eval (.tmp 70))] := Has.of hI.sz hI.df ⟨rfl, rfl, trivial⟩
                refine wpOp_enter ho (wt_of rfl rfl ug) 71 rfl 28 _ (run_callH HH rfl rfl (fun _ _ => by kernel_rfl)) _ (belowC (eqBy (layB m) _ _ ww r_64.read r_70.read (lay_maxLen hm))) ?_
                rintro _ w' ⟨rfl, hb⟩
                exact hI.put (by kernel_rfl) _ (ma 31 rfl) (by rw [hls]; show 31 < 45; decide) (by rw [hls]; decide) (.bool true) rfl (hI.wp.call hb) ⟨fun _ _ _ _ _ h => h, fun _ _ _ _ _ h => h, fun _ _ _ _ _ h => h, fun _ _ _ _ _ h => h, fun _ _ _ _ _ h => h, fun _ _ _ _ _ h => h, fun _ _ _ _ _ h => h, fun _ _ _ _ _ h => h, fun _ _ _ _ _ h => h, fun _ _ _ _ _ h => h, fun _ _ _ _ _ h => h, fun _ _ _ _ _ h => h, fun _ _ _ _ _ h => h, fun _ _ _ _ _ h => h, fun _ _ _ _ _ h => h, fun _ _ _ _ _ h => h, fun _ _ _ _ _ h => h, fun _ _ _ _ _ h => h, fun _ _ _ _ _ h => h, fun _ _ _ _ _ h => h, fun _ _ _ _ _ h => h, fun _ _ _ _ _ h => h, fun _ _ _ _ _ h => h, fun _ _ _ _ _ h => h, fun _ _ _ _ _ h => h.below hb, fun _ _ _ _ _ h => h, fun _ _ _ _ _ h => h, fun _ _ _ _ _ h => h, fun _ _ _ _ _ h => h, fun _ _ _ _ _ h => h, fun _ _ _ _ _ h => h.below hb, fun h => absurd rfl h, fun _ _ _ _ _ h => h, fun _ _ _ _ _ h => h, fun _ _ _ _ _ h => h, fun _ _ _ _ _ h => h, fun _ _ _ _ _ h => h, fun _ _ _ _ _ h => h, fun _ _ _ _ _ h => h, fun _ _ _ _ _ h => h, fun _ _ _ _ _ h => h, fun _ _ _ _ _ h => h, fun _ _ _ _ _ h => h, fun _ _ _ _ _ h => h, fun _ _ _ _ _ h => h, fun _ _ _ _ _ h => h.below hb, trivial⟩
              | 32, ho =>
                obtain rfl := pick_op ho rfl
                have ug : aa.eval (.tmp 63) = .bool true := hI.vs _ (ma 23 rfl) (.inr (ran_of hd 23 (by kernel_rfl))) trivial
                have r_71 := hI.vs _ (ma 31 rfl) (.inr (ran_of hd 31 (by kernel_rfl))) trivial
                have u_71 : aa.eval (.tmp 71) = .bool true := r_71
                have HH : Has aa 86 [(71, .bool true)] := Has.of hI.sz hI.df ⟨u_71, trivial⟩
                refine wpOp_go ho (wt_of rfl rfl ug) 72 rfl (.bool false) ww (run_any HH (by intro cs b h; cases h) (by kernel_rfl) (by kernel_rfl)) ?_
                exact hI.put (by kernel_rfl) _ (ma 32 rfl) (by rw [hls]; show 32 < 45; decide) (by rw [hls]; decide) (.bool false) rfl hI.wp AllSt.same
              | 33, ho =>
                obtain rfl := pick_op ho rfl
                have ug : aa.eval (.tmp 60) = .bool false := hI.vs _ (ma 20 rfl) (.inr (ran_of hd 20 (by kernel_rfl))) trivial
                have r_63 := hI.vs _ (ma 23 rfl) (.inr (ran_of hd 23 (by kernel_rfl))) trivial
                have u_63 : aa.eval (.tmp 63) = .bool true := r_63
                have r_72 := hI.vs _ (ma 32 rfl) (.inr (ran_of hd 32 (by kernel_rfl))) trivial
                have u_72 : aa.eval (.tmp 72) = .bool false := r_72
                have HH : Has aa 86 [(63, .bool true), (72, .bool false)] := Has.of hI.sz hI.df ⟨u_63, u_72, trivial⟩
                refine wpOp_go ho (wt_of rfl rfl ug) 73 rfl (.bool false) ww (run_any HH (by intro cs b h; cases h) (by kernel_rfl) (by kernel_rfl)) ?_
                exact hI.put (by kernel_rfl) _ (ma 33 rfl) (by rw [hls]; show 33 < 45; decide) (by rw [hls]; decide) (.bool false) rfl hI.wp AllSt.same
              | 34, ho =>
                obtain rfl := pick_op ho rfl
                have r_60 := hI.vs _ (ma 20 rfl) (.inr (ran_of hd 20 (by kernel_rfl))) trivial
                have u_60 : aa.eval (.tmp 60) = .bool false := r_60
                have r_73 := hI.vs _ (ma 33 rfl) (.inr (ran_of hd 33 (by kernel_rfl))) trivial
                have u_73 : aa.eval (.tmp 73) = .bool false := r_73
                have HH : Has aa 86 [(60, .bool false), (73, .bool false)] := Has.of hI.sz hI.df ⟨u_60, u_73, trivial⟩
                refine wpOp_go ho gz 74 rfl (.bool false) ww (run_any HH (by intro cs b h; cases h) (by kernel_rfl) (by kernel_rfl)) ?_
                exact hI.put (by kernel_rfl) _ (ma 34 rfl) (by rw [hls]; show 34 < 45; decide) (by rw [hls]; decide) (.bool false) rfl hI.wp AllSt.same
              | 35, ho =>
                obtain rfl := pick_op ho rfl
                have r_74 := hI.vs _ (ma 34 rfl) (.inr (ran_of hd 34 (by kernel_rfl))) trivial
                have u_74 : aa.eval (.tmp 74) = .bool false := r_74
                have HH : Has aa 86 [(74, .bool false)] := Has.of hI.sz hI.df ⟨u_74, trivial⟩
                refine wpOp_go ho gz 75 rfl (.bool false) ww (run_move (.inl rfl) (HH.ev rfl)) ?_
                exact hI.put (by kernel_rfl) _ (ma 35 rfl) (by rw [hls]; show 35 < 45; decide) (by rw [hls]; decide) (.bool false) rfl hI.wp AllSt.same
              | 36, ho =>
                obtain rfl := pick_op ho rfl
                have ug : aa.eval (.tmp 75) = .bool false := hI.vs _ (ma 35 rfl) (.inr (ran_of hd 35 (by kernel_rfl))) trivial
                have HH : Has aa 86 [(4, .pointer (some ⟨w5.heap.size, 0, none⟩))] := Has.of hI.sz hI.df ⟨u_4, trivial⟩
                refine wpOp_go ho (wt_of rfl rfl ug) 76 rfl (.agg (mqCells m (.slice Ac m.codes.length cc) (.slice Aw m.wishes.length cw) (.slice Af m.filters.length cf)).toArray) ww (run_load rfl (HH.ev rfl) (loadS_run (hC4.below hI.wp.own.bel hl4))) ?_
                exact hI.put (by kernel_rfl) _ (ma 36 rfl) (by rw [hls]; show 36 < 45; decide) (by rw [hls]; decide) (.agg (mqCells m (.slice Ac m.codes.length cc) (.slice Aw m.wishes.length cw) (.slice Af m.filters.length cf)).toArray) rfl hI.wp AllSt.same
              | 37, ho =>
                obtain rfl := pick_op ho rfl
                have ug : aa.eval (.tmp 75) = .bool false := hI.vs _ (ma 35 rfl) (.inr (ran_of hd 35 (by kernel_rfl))) trivial
                have HH : Has aa 86 [(0, .slice A len cap)] := Has.of hI.sz hI.df ⟨u_0, trivial⟩
                refine wpOp_go ho (wt_of rfl rfl ug) 77 rfl (.slice A len cap) ww (run_move (.inl rfl) (HH.ev rfl)) ?_
                exact hI.put (by kernel_rfl) _ (ma 37 rfl) (by rw [hls]; show 37 < 45; decide) (by rw [hls]; decide) (.slice A len cap) rfl hI.wp AllSt.same
              | 38, ho =>
                obtain rfl := pick_op ho rfl
                have ug : aa.eval (.tmp 75) = .bool false := hI.vs _ (ma 35 rfl) (.inr (ran_of hd 35 (by kernel_rfl))) trivial
                have HH : Has aa 86 [(3, .int .i64 ((k : Nat) : Int))] := Has.of hI.sz hI.df ⟨u_3, trivial⟩
                refine wpOp_go ho (wt_of rfl rfl ug) 78 rfl (.int .i64 ((k : Nat) : Int)) ww (run_move (.inl rfl) (HH.ev rfl)) ?_
                exact hI.put (by kernel_rfl) _ (ma 38 rfl) (by rw [hls]; show 38 < 45; decide) (by rw [hls]; decide) (.int .i64 ((k : Nat) : Int)) rfl hI.wp AllSt.same
              | 39, ho =>
                obtain rfl := pick_op ho rfl
                have ug : aa.eval (.tmp 75) = .bool false := hI.vs _ (ma 35 rfl) (.inr (ran_of hd 35 (by kernel_rfl))) trivial
                have r_77 := hI.vs _ (ma 37 rfl) (.inr (ran_of hd 37 (by kernel_rfl))) trivial
                have u_77 : aa.eval (.tmp 77) = .slice A len cap := r_77
                have r_78 := hI.vs _ (ma 38 rfl) (.inr (ran_of hd 38 (by kernel_rfl))) trivial
                have u_78 : aa.eval (.tmp 78) = .int .i64 ((k : Nat) : Int) := r_78
                have HH : Has aa 86 [(77, .slice A len cap), (78, .int .i64 ((k : Nat) : Int))] := Has.of hI.sz hI.df ⟨u_77, u_78, trivial⟩
                refine wpOp_go ho (wt_of rfl rfl ug) 79 rfl (.pointer (some ⟨b, o + k * 25, none⟩)) ww (run_index rfl (HH.ev rfl) (HH.ev rfl) (show (Instr.indexAt 22 (.slice A len cap) (.int .i64 ((k : Nat) : Int))).run Tryd.prog _ = .ok (.pointer (some ⟨b, o + k * 25, none⟩)) _ by rw [hA]; exact index_m 22 Tryd.underlying22 25 (fun _ => by kernel_rfl) _ _ _ _ _ hlt _)) ?_
                exact hI.put (by kernel_rfl) _ (ma 39 rfl) (by rw [hls]; show 39 < 45; decide) (by rw [hls]; decide) (.pointer (some ⟨b, o + k * 25, none⟩)) rfl hI.wp AllSt.same
              | 40, ho =>
                obtain rfl := pick_op ho rfl
                have ug : aa.eval (.tmp 75) = .bool false := hI.vs _ (ma 35 rfl) (.inr (ran_of hd 35 (by kernel_rfl))) trivial
                have r_79 := hI.vs _ (ma 39 rfl) (.inr (ran_of hd 39 (by kernel_rfl))) trivial
                have u_79 : aa.eval (.tmp 79) = .pointer (some ⟨b, o + k * 25, none⟩) := r_79
                have HH : Has aa 86 [(79, .pointer (some ⟨b, o + k * 25, none⟩))] := Has.of hI.sz hI.df ⟨u_79, trivial⟩
                refine wpOp_go ho (wt_of rfl rfl ug) 80 rfl (.pointer (some ⟨b, o + k * 25, none⟩)) ww (run_field rfl (HH.ev rfl) (fun g w => fieldAo_0 (o + k * 25) g w)) ?_
                exact hI.put (by kernel_rfl) _ (ma 40 rfl) (by rw [hls]; show 40 < 45; decide) (by rw [hls]; decide) (.pointer (some ⟨b, o + k * 25, none⟩)) rfl hI.wp AllSt.same
              | 41, ho =>
                obtain rfl := pick_op ho rfl
                have ug : aa.eval (.tmp 75) = .bool false := hI.vs _ (ma 35 rfl) (.inr (ran_of hd 35 (by kernel_rfl))) trivial
                have r_80 := hI.vs _ (ma 40 rfl) (.inr (ran_of hd 40 (by kernel_rfl))) trivial
                have u_80 : aa.eval (.tmp 80) = .pointer (some ⟨b, o + k * 25, none⟩) := r_80
                have HH : Has aa 86 [(80, .pointer (some ⟨b, o + k * 25, none⟩))] := Has.of hI.sz hI.df ⟨u_80, trivial⟩
                refine wpOp_go ho (wt_of rfl rfl ug) 81 rfl (.agg (mqCells m vc vw vf).toArray) ww (run_load rfl (HH.ev rfl) (load_mq (rangeB hr2 hI.wp.own.bel hbl2))) ?_
                exact hI.put (by kernel_rfl) _ (ma 41 rfl) (by rw [hls]; show 41 < 45; decide) (by rw [hls]; decide) (.agg (mqCells m vc vw vf).toArray) rfl hI.wp AllSt.same
              | 42, ho =>
                obtain rfl := pick_op ho rfl
                have ug : aa.eval (.tmp 75) = .bool false := hI.vs _ (ma 35 rfl) (.inr (ran_of hd 35 (by kernel_rfl))) trivial
                have r_76 := hI.vs _ (ma 36 rfl) (.inr (ran_of hd 36 (by kernel_rfl))) trivial
                have u_76 : aa.eval (.tmp 76) = .agg (mqCells m (.slice Ac m.codes.length cc) (.slice Aw m.wishes.length cw) (.slice Af m.filters.length cf)).toArray := r_76
                have r_81 := hI.vs _ (ma 41 rfl) (.inr (ran_of hd 41 (by kernel_rfl))) trivial
                have u_81 : aa.eval (.tmp 81) = .agg (mqCells m vc vw vf).toArray := r_81
                have HH : Has aa 86 [(76, .agg (mqCells m (.slice Ac m.codes.length cc) (.slice Aw m.wishes.length cw) (.slice Af m.filters.length cf)).toArray), (81, .agg (mqCells m vc vw vf).toArray)] := Has.of hI.sz hI.df ⟨u_76, u_81, trivial⟩
                refine wpOp_enter ho (wt_of rfl rfl ug) 82 rfl 30 _ (run_callH HH rfl rfl (fun _ _ => by kernel_rfl)) _ (belowC (eqMqS m _ _ _ _ _ _ ww (hM.next hI.wp.own.bel) (hL2.next hI.wp.own.bel))) ?_
                rintro _ w' ⟨rfl, hb⟩
                exact hI.put (by kernel_rfl) _ (ma 42 rfl) (by rw [hls]; show 42 < 45; decide) (by rw [hls]; decide) (.bool true) rfl (hI.wp.call hb) ⟨fun _ _ _ _ _ h => h, fun _ _ _ _ _ h => h, fun _ _ _ _ _ h => h, fun _ _ _ _ _ h => h, fun _ _ _ _ _ h => h, fun _ _ _ _ _ h => h, fun _ _ _ _ _ h => h, fun _ _ _ _ _ h => h, fun _ _ _ _ _ h => h, fun _ _ _ _ _ h => h, fun _ _ _ _ _ h => h, fun _ _ _ _ _ h => h, fun _ _ _ _ _ h => h, fun _ _ _ _ _ h => h, fun _ _ _ _ _ h => h, fun _ _ _ _ _ h => h, fun _ _ _ _ _ h => h, fun _ _ _ _ _ h => h, fun _ _ _ _ _ h => h, fun _ _ _ _ _ h => h, fun _ _ _ _ _ h => h, fun _ _ _ _ _ h => h, fun _ _ _ _ _ h => h, fun _ _ _ _ _ h => h, fun _ _ _ _ _ h => h.below hb, fun _ _ _ _ _ h => h, fun _ _ _ _ _ h => h, fun _ _ _ _ _ h => h, fun _ _ _ _ _ h => h, fun _ _ _ _ _ h => h, fun _ _ _ _ _ h => h.below hb, fun _ _ _ _ _ h => h, fun _ _ _ _ _ h => h, fun _ _ _ _ _ h => h, fun _ _ _ _ _ h => h, fun _ _ _ _ _ h => h, fun _ _ _ _ _ h => h, fun _ _ _ _ _ h => h, fun _ _ _ _ _ h => h, fun _ _ _ _ _ h => h, fun _ _ _ _ _ h => h, fun _ _ _ _ _ h => h, fun h => absurd rfl h, fun _ _ _ _ _ h => h, fun _ _ _ _ _ h => h, fun _ _ _ _ _ h => h.below hb, trivial⟩
              | 43, ho =>
                obtain rfl := pick_op ho rfl
                have ug : aa.eval (.tmp 75) = .bool false := hI.vs _ (ma 35 rfl) (.inr (ran_of hd 35 (by kernel_rfl))) trivial
                have r_82 := hI.vs _ (ma 42 rfl) (.inr (ran_of hd 42 (by kernel_rfl))) trivial
                have u_82 : aa.eval (.tmp 82) = .bool true := r_82
                have HH : Has aa 86 [(82, .bool true)] := Has.of hI.sz hI.df ⟨u_82, trivial⟩
                refine wpOp_go ho (wt_of rfl rfl ug) 83 rfl (.bool false) ww (run_any HH (by intro cs b h; cases h) (by kernel_rfl) (by kernel_rfl)) ?_
                exact hI.put (by kernel_rfl) _ (ma 43 rfl) (by rw [hls]; show 43 < 45; decide) (by rw [hls]; decide) (.bool false) rfl hI.wp AllSt.same
              | 44, ho =>
                obtain rfl := pick_op ho rfl
                have r_75 := hI.vs _ (ma 35 rfl) (.inr (ran_of hd 35 (by kernel_rfl))) trivial
                have u_75 : aa.eval (.tmp 75) = .bool false := r_75
                have r_83 := hI.vs _ (ma 43 rfl) (.inr (ran_of hd 43 (by kernel_rfl))) trivial
                have u_83 : aa.eval (.tmp 83) = .bool false := r_83
                have HH : Has aa 86 [(75, .bool false), (83, .bool false)] := Has.of hI.sz hI.df ⟨u_75, u_83, trivial⟩
                refine wpOp_go ho gz 84 rfl (.bool false) ww (run_any HH (by intro cs b h; cases h) (by kernel_rfl) (by kernel_rfl)) ?_
                exact hI.put (by kernel_rfl) _ (ma 44 rfl) (by rw [hls]; show 44 < 45; decide) (by rw [hls]; decide) (.bool false) rfl hI.wp AllSt.same
              | (k + 45), ho => simp at ho
            · intro listed a34 w10 hall hI
              have r_84 := hI.vs _ (ma 44 rfl) (.inr (hall 44 (by decide))) trivial
              have H34 : Has a34 86 [(0, .slice A len cap), (3, .int .i64 ((k : Nat) : Int)), (4, .pointer (some ⟨w5.heap.size, 0, none⟩)), (6, .int .i64 0), (7, .int .i64 0), (84, .bool false)] := Has.of hI.sz hI.df ⟨hI.fx.1, hI.fx.2.1, hI.fx.2.2.1, hI.fx.2.2.2.1, hI.fx.2.2.2.2.1, r_84, trivial⟩
              have HB10 := hI.wp
              refine then_normal ?_
              refine H34.condF rfl ?_
              refine skip_wp ?_
              refine block_normal ?_
              refine then_normal ?_
              refine wp_region_list ?_
              refine H34.move gz (.inl rfl) rfl rfl rfl ?_
              intro a35 H35
              refine H35.bin gz rfl rfl rfl rfl rfl (succ_i _ (by omega) _ _ _) ?_
              intro a36 H36
              refine H36.move gz (.inr rfl) rfl rfl rfl ?_
              intro a37 H37
              refine nt ?_
              exact ⟨hlt, H37.keep ⟨rfl, rfl, trivial⟩, ⟨O9.bel.trans (HB10.own.bel.mono O9.bel.size), Nat.le_trans O9.bel.size HB10.own.bel.size, by simp, fun p hp => by cases hp⟩⟩
            · exact InvB.start H33.sz H33.df ⟨H33.at_ 0 _ rfl, H33.at_ 3 _ rfl, H33.at_ 4 _ rfl, H33.at_ 6 _ rfl, H33.at_ 7 _ rfl, trivial⟩ ⟨fun h => absurd h (by show ¬ 45 ≤ 0; decide), fun h => absurd h (by show ¬ 45 ≤ 1; decide), fun h => absurd h (by show ¬ 45 ≤ 2; decide), fun h => absurd h (by show ¬ 45 ≤ 3; decide), fun h => absurd h (by show ¬ 45 ≤ 4; decide), fun h => absurd h (by show ¬ 45 ≤ 5; decide), fun h => absurd h (by show ¬ 45 ≤ 6; decide), fun h => absurd h (by show ¬ 45 ≤ 7; decide), fun h => absurd h (by show ¬ 45 ≤ 8; decide), fun h => absurd h (by show ¬ 45 ≤ 9; decide), fun h => absurd h (by show ¬ 45 ≤ 10; decide), fun h => absurd h (by show ¬ 45 ≤ 11; decide), fun h => absurd h (by show ¬ 45 ≤ 12; decide), fun h => absurd h (by show ¬ 45 ≤ 13; decide), fun h => absurd h (by show ¬ 45 ≤ 14; decide), fun h => absurd h (by show ¬ 45 ≤ 15; decide), fun h => absurd h (by show ¬ 45 ≤ 16; decide), fun h => absurd h (by show ¬ 45 ≤ 17; decide), fun h => absurd h (by show ¬ 45 ≤ 18; decide), fun h => absurd h (by show ¬ 45 ≤ 19; decide), fun h => absurd h (by show ¬ 45 ≤ 20; decide), fun h => absurd h (by show ¬ 45 ≤ 21; decide), fun h => absurd h (by show ¬ 45 ≤ 22; decide), fun h => absurd h (by show ¬ 45 ≤ 23; decide), fun h => absurd h (by show ¬ 45 ≤ 24; decide), fun h => absurd h (by show ¬ 45 ≤ 25; decide), fun h => absurd h (by show ¬ 45 ≤ 26; decide), fun h => absurd h (by show ¬ 45 ≤ 27; decide), fun h => absurd h (by show ¬ 45 ≤ 28; decide), fun h => absurd h (by show ¬ 45 ≤ 29; decide), fun h => absurd h (by show ¬ 45 ≤ 30; decide), fun h => absurd h (by show ¬ 45 ≤ 31; decide), fun h => absurd h (by show ¬ 45 ≤ 32; decide), fun h => absurd h (by show ¬ 45 ≤ 33; decide), fun h => absurd h (by show ¬ 45 ≤ 34; decide), fun h => absurd h (by show ¬ 45 ≤ 35; decide), fun h => absurd h (by show ¬ 45 ≤ 36; decide), fun h => absurd h (by show ¬ 45 ≤ 37; decide), fun h => absurd h (by show ¬ 45 ≤ 38; decide), fun h => absurd h (by show ¬ 45 ≤ 39; decide), fun h => absurd h (by show ¬ 45 ≤ 40; decide), fun h => absurd h (by show ¬ 45 ≤ 41; decide), fun h => absurd h (by show ¬ 45 ≤ 42; decide), fun h => absurd h (by show ¬ 45 ≤ 43; decide), fun h => absurd h (by show ¬ 45 ≤ 44; decide), fun _ => (by rw [H33.at_ 5 _ rfl]; exact hR.drew), trivial⟩ HB9.drew
  rintro a2 w1 ⟨H2, O1⟩
  repeat (refine wp_seq ?_)
  refine wp_region_list ?_
  refine H2.call gz rfl rfl rfl rfl (fun _ _ => by kernel_rfl) (belowC (wakes18 _ (hT.below O1.bel))) ?_
  rintro a3 _ w2 ⟨rfl, hb⟩ H3
  have O2 := O1.call hb
  clear hb
  refine H3.move gz (.inr rfl) rfl rfl rfl ?_
  intro a4 H4
  refine nt ?_
  refine wp_ret ?_
  repeat (first | (with_reducible refine block_ret ?_) | (with_reducible refine then_ret ?_))
  exact bodyPost_ret (results_tmp rfl _ _ _) H4.df ⟨congrArg Ending.returned (H4.at_ 2 _ rfl), O2.bel⟩

set_option maxRecDepth 100000 in
theorem packBytes_lifted (os : Os) (started : os.Started) (H : Type) (enc : TypeId × Value → H) :
    ReturnsInHanded {} Tryd.checked os 3 .any (fun w args => (Rows.packBytesSpec.pre enc Tryd.prog Tryd.f3 [] false w args ∧ laidMetH Tryd.prog lay2 w) ∧ sizedMet enc Tryd.prog Tryd.f3 (OpenSpec.ofChange Rows.packBytesSpec) false w args)
      (Rows.packBytesSpec.post enc Tryd.prog Tryd.f3 false true false false) :=
  laid_core (C := Tryd.checked) (T := 22) own_knob laid_out Tryd.func3 Tryd.params3 (by kernel_rfl) Tryd.underlying4 rfl (fun _ _ => rfl) (by kernel_rfl) (of_decide_eq_true (by kernel_rfl)) (by kernel_rfl)
    (fun H enc W v d p h0 hv hs hl => by
      obtain ⟨A, len, cap, rfl, _, _, ha⟩ := AskMq.of (enc := enc) ⟨h0, hv, hs⟩
      exact packBytes_walk A len cap W ha (tabs_of hl)) os started H enc
    (ChangeSpec.witness_shaped (enc := enc) (C := Tryd.checked) (os := os) (X := fun w _ => laidMetH Tryd.prog lay2 w) false (laidWorld os) #[.slice none 0 0] 8 rfl (World.shaped_of_RefB (by kernel_rfl) (by kernel_rfl)) (by kernel_rfl) (by kernel_rfl) (by kernel_rfl) (laid_door os _))

theorem packBytes_said : Rows.PackBytesSaid :=
  OpenClaim.holds_of_wide 3 Tryd.f3 rfl rfl rfl rfl rfl rfl rfl ⟨rfl, rfl, rfl, rfl, rfl⟩ rfl rfl rfl rfl rfl (by kernel_rfl) Tryd.func3 (by kernel_rfl)
    (of_decide_eq_true (by kernel_rfl)) (by unfold Func.isWrapper; first | (rw [if_pos (by decide +kernel)]; kernel_rfl) | (rw [if_neg (by decide +kernel)]; exact ⟨rfl, rfl⟩))
    (fun os started H enc _ => packBytes_lifted os started H enc)

theorem packBytes_holds : Rows.PackBytesCardSaid :=
  Claim7.holds_tied_plain_at .later [] [.data, .pinned] true (true, "6eb4556230c54d9426ff756d75c83868ab2ed26fface84207e726f9675facaca") false
    packBytes_said (fun _ h => by cases h) (by kernel_rfl) (fun _ h => by cases h) packBytes_row_tie rfl ⟨rfl, rfl⟩ (by kernel_rfl) rfl
    (fun f fn hf hfn => by
      obtain rfl : f = 3 := Option.some.inj ((show Tryd.prog.funcNamed "kiosk/kiosklaw18.PackBytes" = some 3 by kernel_rfl).symm.trans hf) |>.symm
      obtain rfl : fn = Tryd.f3 := (Option.some.inj (Tryd.func3.symm.trans hfn)).symm
      exact ⟨by kernel_rfl, fun j t ht => by
        rw [Tryd.params3] at ht
        have hm : t ∈ [22] := by simpa using Array.mem_of_getElem? ht
        have hall : ([22].all fun u => !Tryd.prog.wantsStandIn u) = true := by kernel_rfl
        exact (show Tryd.prog.wantsStandIn t = false by simpa using List.all_eq_true.1 hall t hm)⟩)
    (by kernel_rfl)
end Go.Proofs.YtkcdkjpmbjcmdaaDoor
