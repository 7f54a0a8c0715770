/-
  The page's May: which packets may be.
-/
import Derived.Test.YtkcdkjpmbjcmdaaDoorBa4
namespace Go.Proofs.YtkcdkjpmbjcmdaaDoor
open Go.RowKit

theorem conn7 (a b c d e f g : Bool) : ((((((a && b) && c) && d) && e) && f) && g) = (a && (b && (c && (d && (f && (e && g)))))) := by
  cases a <;> cases b <;> cases c <;> cases d <;> cases e <;> cases f <;> cases g <;> rfl
theorem same_symm (a b : Mq) : Mq.same a b = Mq.same b a := by
  rw [Bool.eq_iff_iff, same_iff, same_iff]
  exact eq_comm
theorem pub_zero (m : Mq) (h : (m.qos == 0) = true) : publishOk m = ((((((textOk m.topic 1 64 && plainOf (sb m.topic)) && inRB m.qos 0 2) && decide ((m.payload.size : Int) ≤ 128)) && !m.dup)) && (m.id == 0)) := by
  have h0 : m.qos = 0 := by simpa using h
  unfold publishOk topicOk
  rw [h0]
  cases textOk m.topic 1 64 <;> cases plainOf (sb m.topic) <;> cases decide ((m.payload.size : Int) ≤ 128) <;> cases m.dup <;> cases (m.id == 0) <;> rfl
theorem pub_more (m : Mq) (h : (m.qos == 0) = false) : publishOk m = ((((textOk m.topic 1 64 && plainOf (sb m.topic)) && inRB m.qos 0 2) && decide ((m.payload.size : Int) ≤ 128)) && inRB m.id 1 65535) := by
  have h0 : ¬ m.qos = 0 := by simpa using h
  unfold publishOk topicOk
  cases hq : inRB m.qos 0 2 with
  | false => cases textOk m.topic 1 64 <;> cases plainOf (sb m.topic) <;> rfl
  | true =>
    have := inRB_iff.1 hq
    have h1 : decide (0 < m.qos) = true := by simp; omega
    rw [h, h1]
    cases textOk m.topic 1 64 <;> cases plainOf (sb m.topic) <;> cases decide ((m.payload.size : Int) ≤ 128) <;> cases inRB m.id 1 65535 <;> rfl
theorem list_and (a : Bool) (n : Nat) (c : Bool) : (((a && decide ((1 : Int) ≤ n)) && decide ((n : Int) ≤ 8)) && c) = (a && (c && inRB n 1 8)) := by
  unfold inRB
  cases a <;> cases decide ((1 : Int) ≤ n) <;> cases decide ((n : Int) ≤ 8) <;> cases c <;> rfl
theorem codesAll_snoc (l : List Int) (x : Int) : codesAll (l ++ [x]) = (codesAll l && (inRB x 0 2 || (x == 128))) := by
  induction l with
  | nil => simp [codesAll]
  | cons y l ih => rw [List.cons_append, codesAll, codesAll, ih, Bool.and_assoc]
theorem filtersAll_snoc (l : List ByteArray) (x : ByteArray) : filtersAll (l ++ [x]) = (filtersAll l && textOk x 1 64) := by
  induction l with
  | nil => simp [filtersAll]
  | cons y l ih => rw [List.cons_append, filtersAll, filtersAll, ih, Bool.and_assoc]

set_option maxRecDepth 100000 in
set_option maxHeartbeats 6400000 in
theorem refMay (m : Mq) (vc vw vf : Value) (w : World) (hL : MqL w w.heap.size m vc vw vf) (hF : MqFit m) (hW : Wd w) :
    Calls Tryd.prog 25 #[.agg (mqCells m vc vw vf).toArray] w fun e w' => e = .returned (.bool (mayBb m)) ∧ Below w.heap.size w w' := by
  obtain ⟨A1, c1, A2, c2, A3, c3, rfl, rfl, rfl, l1, l2, l3, k1', k2', k3', r1, r2, r3⟩ := id hL
  go_enter Tryd.func25, Tryd.ntmps25
  refine Has.start 289 [(0, .agg (mqCells m (.slice A1 m.codes.length c1) (.slice A2 m.wishes.length c2) (.slice A3 m.filters.length c3)).toArray)] rfl rfl ⟨rfl, trivial⟩ ?_
  intro a0 H0
  have O0 := Own.start w
  repeat (refine wp_seq ?_)
  refine wp_region_list ?_
  refine H0.box rfl rfl rfl rfl rfl ?_
  intro a1 w1 hb hs hC H1
  have O1 := O0.alloc hb hs hC
  clear hb hs hC
  refine H1.move gz (.inr rfl) rfl rfl rfl ?_
  intro a2 H2
  refine nt ?_
  repeat (refine wp_seq ?_)
  refine wp_region_list ?_
  refine H2.field gz rfl rfl rfl rfl field_0 ?_
  intro a3 H3
  refine H3.load gz rfl rfl rfl rfl (load1_i _ _ _ _ ((O1.get 0 rfl).get 0 _ rfl)) ?_
  intro a4 H4
  refine H4.any (w' := w1) gz rfl rfl (.agg (mqCells (mq0 m.kind) nilV nilV nilV).toArray) (by intro cs b h; cases h) (by kernel_rfl) (by kernel_rfl) ?_
  intro a5 H5
  refine H5.alloc rfl rfl rfl rfl _ zero_mq ?_
  intro a6 w2 hb hs hC H6
  have O2 := O1.alloc hb hs hC
  clear hb hs hC
  refine H6.storeS rfl rfl rfl rfl rfl (O2.get 0 rfl) size_mq rfl rfl rfl ?_
  intro a7 w3 H7 hg hs hC
  have O3 := O2.store 0 rfl hg hs hC
  clear hg hs hC
  refine nt ?_
  repeat (refine wp_seq ?_)
  refine wp_region_list ?_
  refine H7.move gz (.inr rfl) rfl rfl rfl ?_
  intro a8 H8
  refine nt ?_
  refine wp_seq_join (fun a w' => ∃ vc' vw' vf', Has a 289 [(1, .pointer (some ⟨w.heap.size, 0, none⟩)), (3, .pointer (some ⟨w1.heap.size, 0, none⟩)), (4, .bool (okOf m))] ∧ MqL w' w'.heap.size (onlyOf m) vc' vw' vf' ∧ Own w w.heap.size [(w1.heap.size, mqCells (onlyOf m) vc' vw' vf'), (w.heap.size, (mqCells m (.slice A1 m.codes.length c1) (.slice A2 m.wishes.length c2) (.slice A3 m.filters.length c3)))] w') ?_ ?_
  · skip
    repeat (refine wp_seq ?_)
    refine wp_region_list ?_
    refine H8.field gz rfl rfl rfl rfl field_0 ?_
    intro a9 H9
    refine H9.load gz rfl rfl rfl rfl (load1_i _ _ _ _ ((O3.get 1 rfl).get 0 _ rfl)) ?_
    intro a10 H10
    refine nt ?_
    refine wp_block ?_
    have hk0 : True := trivial
    obtain ⟨b1, h1⟩ : ∃ b, (m.kind == 1) = b := ⟨_, rfl⟩
    cases b1 with
    | true =>
      have k1 : m.kind = 1 := by simpa using h1
      repeat (refine wp_seq ?_)
      refine wp_region_list ?_
      refine H10.bin gz rfl rfl rfl rfl rfl (eql_iB _ _ _ h1 _ _ _) ?_
      intro a11 H11
      refine H11.move gz (.inr rfl) rfl rfl rfl ?_
      intro a12 H12
      refine nt ?_
      refine H12.condT rfl ?_
      have ho : onlyOf m = { mq0 m.kind with client := m.client, clean := m.clean, keep := m.keep, won := m.won, wt := m.wt, wp := m.wp, wq := m.wq, wr := m.wr, user := m.user, hu := m.hu, pass := m.pass, hp := m.hp } := by unfold onlyOf; rw [if_pos k1]
      have hq : okOf m = connectOk m := by unfold okOf; rw [if_pos k1]
      repeat (refine wp_seq ?_)
      refine region_copy8 (n := 289) (s1 := 1) (s2 := 3) (s4 := 4) (g1 := w.heap.size) (g2 := w1.heap.size) (B := w.heap.size) (W := w) (L1 := (mqCells m (.slice A1 m.codes.length c1) (.slice A2 m.wishes.length c2) (.slice A3 m.filters.length c3))) (L2 := (mqCells (mq0 m.kind) nilV nilV nilV)) (c := .bool true) (by kernel_rfl) H12.sz H12.df (H12.at_ 1 _ rfl) (H12.at_ 3 _ rfl) (H12.at_ 4 _ rfl) O3.two rfl (back_of (by kernel_rfl)) (edge_of rfl) (edge_of rfl) (edge_of rfl) (edge_of rfl) (edge_of rfl) (edge_of rfl) (edge_of rfl) (edge_of rfl) (edge_of rfl) (edge_of rfl) (edge_of rfl) (edge_of rfl) (edge_of rfl) (edge_of rfl) (edge_of rfl) (edge_of rfl) (edge_of rfl) (edge_of rfl) (edge_of rfl) (edge_of rfl) (edge_of rfl) (edge_of rfl) (edge_of rfl) (edge_of rfl) field_1 field_2 field_3 field_4 field_5 field_6 field_7 field_8 (fun w' hC => load1_s _ _ _ _ (hC.get 1 _ rfl)) (fun w' hC => load1_b _ _ _ _ (hC.get 2 _ rfl)) (fun w' hC => load1_i _ _ _ _ (hC.get 3 _ rfl)) (fun w' hC => load_will _ _ _ _ _ _ _ _ hC rfl rfl rfl rfl rfl) (fun w' hC => load1_s _ _ _ _ (hC.get 9 _ rfl)) (fun w' hC => load1_b _ _ _ _ (hC.get 10 _ rfl)) (fun w' hC => load1_s _ _ _ _ (hC.get 11 _ rfl)) (fun w' hC => load1_b _ _ _ _ (hC.get 12 _ rfl)) (fun w' L hC hj => by obtain ⟨c1, c2⟩ := hC _ _ (List.getElem?_eq_getElem hj); exact store1_s _ _ _ _ _ c1 c2) (fun w' L hC hj => by obtain ⟨c1, c2⟩ := hC _ _ (List.getElem?_eq_getElem hj); exact store1_b _ _ _ _ _ c1 c2) (fun w' L hC hj => by obtain ⟨c1, c2⟩ := hC _ _ (List.getElem?_eq_getElem hj); exact store1_i _ _ _ _ _ c1 c2) (fun w' L hC hj => store_will _ _ _ _ _ _ _ _ hC hj) (fun w' L hC hj => by obtain ⟨c1, c2⟩ := hC _ _ (List.getElem?_eq_getElem hj); exact store1_s _ _ _ _ _ c1 c2) (fun w' L hC hj => by obtain ⟨c1, c2⟩ := hC _ _ (List.getElem?_eq_getElem hj); exact store1_b _ _ _ _ _ c1 c2) (fun w' L hC hj => by obtain ⟨c1, c2⟩ := hC _ _ (List.getElem?_eq_getElem hj); exact store1_s _ _ _ _ _ c1 c2) (fun w' L hC hj => by obtain ⟨c1, c2⟩ := hC _ _ (List.getElem?_eq_getElem hj); exact store1_b _ _ _ _ _ c1 c2) (by decide) (by simp) (by simp) (by simp) (by simp) (by simp) (by simp) (by simp) (by simp) (by simp) (by simp) (by simp) (by simp) ?_
      intro a13 w4 sz df e1 e2 e4 hT
      have H13 := Has.of (l := [(1, .pointer (some ⟨w.heap.size, 0, none⟩)), (3, .pointer (some ⟨w1.heap.size, 0, none⟩)), (4, .bool true)]) sz df ⟨e1, e2, e4, trivial⟩
      have O4 : Own w w.heap.size [(w1.heap.size, (mqCells (onlyOf m) nilV nilV nilV)), (w.heap.size, (mqCells m (.slice A1 m.codes.length c1) (.slice A2 m.wishes.length c2) (.slice A3 m.filters.length c3)))] w4 := by rw [ho]; exact hT.own
      clear sz df e1 e2 e4 hT
      refine then_normal ?_
      repeat (refine wp_seq ?_)
      refine wp_region_list ?_
      refine wpList_cut 4 (fun a' w' => ∃ b, textOk m.client 0 23 = b ∧ Has a' 289 [(1, .pointer (some ⟨w.heap.size, 0, none⟩)), (3, .pointer (some ⟨w1.heap.size, 0, none⟩)), (41, .bool b)] ∧ Own w w.heap.size [(w1.heap.size, (mqCells (onlyOf m) nilV nilV nilV)), (w.heap.size, (mqCells m (.slice A1 m.codes.length c1) (.slice A2 m.wishes.length c2) (.slice A3 m.filters.length c3)))] w') ?_ ?_
      · skip
        refine H13.field gz rfl rfl rfl rfl field_1 ?_
        intro a14 H14
        refine H14.load gz rfl rfl rfl rfl (load1_s _ _ _ _ ((O4.get 1 rfl).get 1 _ rfl)) ?_
        intro a15 H15
        refine H15.call gz rfl rfl rfl rfl (fun _ _ => by kernel_rfl) (belowC (refTextV m.client hF.client 0 23 _ (hW.below O4.bel))) ?_
        rintro a16 _ w5 ⟨rfl, hb⟩ H16
        have O5 := O4.call hb
        clear hb
        refine H16.move gz (.inl rfl) rfl rfl rfl ?_
        intro a17 H17
        exact nt ⟨_, by rfl, H17.keep ⟨rfl, rfl, rfl, trivial⟩, O5⟩
      rintro a14 w5 ⟨v41, q41, H14, O5⟩
      refine wpList_cut 5 (fun a' w' => ∃ b, (textOk m.client 0 23 && inRB m.keep 0 65535) = b ∧ Has a' 289 [(1, .pointer (some ⟨w.heap.size, 0, none⟩)), (3, .pointer (some ⟨w1.heap.size, 0, none⟩)), (46, .bool b)] ∧ Own w w.heap.size [(w1.heap.size, (mqCells (onlyOf m) nilV nilV nilV)), (w.heap.size, (mqCells m (.slice A1 m.codes.length c1) (.slice A2 m.wishes.length c2) (.slice A3 m.filters.length c3)))] w') ?_ ?_
      · skip
        cases v41 with
        | false =>
          refine H14.offs 3 rfl ?_
          intro a15 H15
          refine H15.pick gz rfl rfl rfl rfl rfl ?_
          intro a16 H16
          refine H16.move gz (.inl rfl) rfl rfl rfl ?_
          intro a17 H17
          exact nt ⟨_, by rw [q41] <;> rfl, H17.keep ⟨rfl, rfl, rfl, trivial⟩, O5⟩
        | true =>
          refine H14.field (H14.wt rfl rfl rfl) rfl rfl rfl rfl field_3 ?_
          intro a15 H15
          refine H15.load (H15.wt rfl rfl rfl) rfl rfl rfl rfl (load1_i _ _ _ _ ((O5.get 1 rfl).get 3 _ rfl)) ?_
          intro a16 H16
          refine H16.call (H16.wt rfl rfl rfl) rfl rfl rfl rfl (fun _ _ => by kernel_rfl) (quietC (refNumB m.keep 65535 _)) ?_
          rintro a17 _ _ ⟨rfl, rfl⟩ H17
          refine H17.pick gz rfl rfl rfl rfl rfl ?_
          intro a18 H18
          refine H18.move gz (.inl rfl) rfl rfl rfl ?_
          intro a19 H19
          exact nt ⟨_, by rw [q41] <;> rfl, H19.keep ⟨rfl, rfl, rfl, trivial⟩, O5⟩
      rintro a15 w6 ⟨v46, q46, H15, O6⟩
      refine wpList_cut 5 (fun a' w' => ∃ b, ((textOk m.client 0 23 && inRB m.keep 0 65535) && willB2 m.won m.wt m.wp m.wq m.wr) = b ∧ Has a' 289 [(1, .pointer (some ⟨w.heap.size, 0, none⟩)), (3, .pointer (some ⟨w1.heap.size, 0, none⟩)), (51, .bool b)] ∧ Own w w.heap.size [(w1.heap.size, (mqCells (onlyOf m) nilV nilV nilV)), (w.heap.size, (mqCells m (.slice A1 m.codes.length c1) (.slice A2 m.wishes.length c2) (.slice A3 m.filters.length c3)))] w') ?_ ?_
      · skip
        cases v46 with
        | false =>
          refine H15.offs 3 rfl ?_
          intro a16 H16
          refine H16.pick gz rfl rfl rfl rfl rfl ?_
          intro a17 H17
          refine H17.move gz (.inl rfl) rfl rfl rfl ?_
          intro a18 H18
          exact nt ⟨_, by rw [q46] <;> rfl, H18.keep ⟨rfl, rfl, rfl, trivial⟩, O6⟩
        | true =>
          refine H15.field (H15.wt rfl rfl rfl) rfl rfl rfl rfl field_4 ?_
          intro a16 H16
          refine H16.load (H16.wt rfl rfl rfl) rfl rfl rfl rfl (load_will _ _ _ _ _ _ _ _ (O6.get 1 rfl) rfl rfl rfl rfl rfl) ?_
          intro a17 H17
          refine H17.call (H17.wt rfl rfl rfl) rfl rfl rfl rfl (fun _ _ => by kernel_rfl) (belowC (refWillV m.won m.wt m.wp m.wq m.wr hF.wt _ (hW.below O6.bel))) ?_
          rintro a18 _ w7 ⟨rfl, hb⟩ H18
          have O7 := O6.call hb
          clear hb
          refine H18.pick gz rfl rfl rfl rfl rfl ?_
          intro a19 H19
          refine H19.move gz (.inl rfl) rfl rfl rfl ?_
          intro a20 H20
          exact nt ⟨_, by rw [q46] <;> rfl, H20.keep ⟨rfl, rfl, rfl, trivial⟩, O7⟩
      rintro a16 w7 ⟨v51, q51, H16, O7⟩
      refine wpList_cut 5 (fun a' w' => ∃ b, (((textOk m.client 0 23 && inRB m.keep 0 65535) && willB2 m.won m.wt m.wp m.wq m.wr) && textOk m.user 0 64) = b ∧ Has a' 289 [(1, .pointer (some ⟨w.heap.size, 0, none⟩)), (3, .pointer (some ⟨w1.heap.size, 0, none⟩)), (56, .bool b)] ∧ Own w w.heap.size [(w1.heap.size, (mqCells (onlyOf m) nilV nilV nilV)), (w.heap.size, (mqCells m (.slice A1 m.codes.length c1) (.slice A2 m.wishes.length c2) (.slice A3 m.filters.length c3)))] w') ?_ ?_
      · skip
        cases v51 with
        | false =>
          refine H16.offs 3 rfl ?_
          intro a17 H17
          refine H17.pick gz rfl rfl rfl rfl rfl ?_
          intro a18 H18
          refine H18.move gz (.inl rfl) rfl rfl rfl ?_
          intro a19 H19
          exact nt ⟨_, by rw [q51] <;> rfl, H19.keep ⟨rfl, rfl, rfl, trivial⟩, O7⟩
        | true =>
          refine H16.field (H16.wt rfl rfl rfl) rfl rfl rfl rfl field_5 ?_
          intro a17 H17
          refine H17.load (H17.wt rfl rfl rfl) rfl rfl rfl rfl (load1_s _ _ _ _ ((O7.get 1 rfl).get 9 _ rfl)) ?_
          intro a18 H18
          refine H18.call (H18.wt rfl rfl rfl) rfl rfl rfl rfl (fun _ _ => by kernel_rfl) (belowC (refTextV m.user hF.user 0 64 _ (hW.below O7.bel))) ?_
          rintro a19 _ w8 ⟨rfl, hb⟩ H19
          have O8 := O7.call hb
          clear hb
          refine H19.pick gz rfl rfl rfl rfl rfl ?_
          intro a20 H20
          refine H20.move gz (.inl rfl) rfl rfl rfl ?_
          intro a21 H21
          exact nt ⟨_, by rw [q51] <;> rfl, H21.keep ⟨rfl, rfl, rfl, trivial⟩, O8⟩
      rintro a17 w8 ⟨v56, q56, H17, O8⟩
      refine wpList_cut 14 (fun a' w' => ∃ b, ((((textOk m.client 0 23 && inRB m.keep 0 65535) && willB2 m.won m.wt m.wp m.wq m.wr) && textOk m.user 0 64) && (m.hu || (emp m.user && !m.hp))) = b ∧ Has a' 289 [(1, .pointer (some ⟨w.heap.size, 0, none⟩)), (3, .pointer (some ⟨w1.heap.size, 0, none⟩)), (70, .bool b)] ∧ Own w w.heap.size [(w1.heap.size, (mqCells (onlyOf m) nilV nilV nilV)), (w.heap.size, (mqCells m (.slice A1 m.codes.length c1) (.slice A2 m.wishes.length c2) (.slice A3 m.filters.length c3)))] w') ?_ ?_
      · skip
        cases v56 with
        | false =>
          refine H17.offs 12 rfl ?_
          intro a18 H18
          refine H18.pick gz rfl rfl rfl rfl rfl ?_
          intro a19 H19
          refine H19.move gz (.inl rfl) rfl rfl rfl ?_
          intro a20 H20
          exact nt ⟨_, by rw [q56] <;> rfl, H20.keep ⟨rfl, rfl, rfl, trivial⟩, O8⟩
        | true =>
          refine H17.field (H17.wt rfl rfl rfl) rfl rfl rfl rfl field_6 ?_
          intro a18 H18
          refine H18.load (H18.wt rfl rfl rfl) rfl rfl rfl rfl (load1_b _ _ _ _ ((O8.get 1 rfl).get 10 _ rfl)) ?_
          intro a19 H19
          refine H19.move (H19.wt rfl rfl rfl) (.inl rfl) rfl rfl rfl ?_
          intro a20 H20
          obtain ⟨v59, q59⟩ : ∃ b, m.hu = b := ⟨_, rfl⟩
          rw [q59] at H20
          cases v59 with
          | false =>
            refine H20.field (H20.wt rfl rfl rfl) rfl rfl rfl rfl field_5 ?_
            intro a21 H21
            refine H21.load (H21.wt rfl rfl rfl) rfl rfl rfl rfl (load1_s _ _ _ _ ((O8.get 1 rfl).get 9 _ rfl)) ?_
            intro a22 H22
            refine H22.bin (H22.wt rfl rfl rfl) rfl rfl rfl rfl rfl (eql_e _ _ _ _) ?_
            intro a23 H23
            refine H23.move (H23.wt rfl rfl rfl) (.inl rfl) rfl rfl rfl ?_
            intro a24 H24
            obtain ⟨v63, q63⟩ : ∃ b, emp m.user = b := ⟨_, rfl⟩
            rw [q63] at H24
            cases v63 with
            | false =>
              refine H24.offs 3 rfl ?_
              intro a25 H25
              refine H25.pick (H25.wt rfl rfl rfl) rfl rfl rfl rfl rfl ?_
              intro a26 H26
              refine H26.pick (H26.wt rfl rfl rfl) rfl rfl rfl rfl rfl ?_
              intro a27 H27
              refine H27.pick gz rfl rfl rfl rfl rfl ?_
              intro a28 H28
              refine H28.move gz (.inl rfl) rfl rfl rfl ?_
              intro a29 H29
              exact nt ⟨_, by rw [q56, q59, q63] <;> rfl, H29.keep ⟨rfl, rfl, rfl, trivial⟩, O8⟩
            | true =>
              refine H24.field (H24.wt rfl rfl rfl) rfl rfl rfl rfl field_8 ?_
              intro a25 H25
              refine H25.load (H25.wt rfl rfl rfl) rfl rfl rfl rfl (load1_b _ _ _ _ ((O8.get 1 rfl).get 12 _ rfl)) ?_
              intro a26 H26
              refine H26.un (H26.wt rfl rfl rfl) rfl rfl rfl rfl rfl ?_
              intro a27 H27
              refine H27.pick (H27.wt rfl rfl rfl) rfl rfl rfl rfl rfl ?_
              intro a28 H28
              refine H28.pick (H28.wt rfl rfl rfl) rfl rfl rfl rfl rfl ?_
              intro a29 H29
              refine H29.pick gz rfl rfl rfl rfl rfl ?_
              intro a30 H30
              refine H30.move gz (.inl rfl) rfl rfl rfl ?_
              intro a31 H31
              exact nt ⟨_, by rw [q56, q59, q63] <;> rfl, H31.keep ⟨rfl, rfl, rfl, trivial⟩, O8⟩
          | true =>
            refine H20.offs 8 rfl ?_
            intro a21 H21
            refine H21.pick (H21.wt rfl rfl rfl) rfl rfl rfl rfl rfl ?_
            intro a22 H22
            refine H22.pick gz rfl rfl rfl rfl rfl ?_
            intro a23 H23
            refine H23.move gz (.inl rfl) rfl rfl rfl ?_
            intro a24 H24
            exact nt ⟨_, by rw [q56, q59] <;> rfl, H24.keep ⟨rfl, rfl, rfl, trivial⟩, O8⟩
      rintro a18 w9 ⟨v70, q70, H18, O9⟩
      refine wpList_cut 6 (fun a' w' => ∃ b, (((((textOk m.client 0 23 && inRB m.keep 0 65535) && willB2 m.won m.wt m.wp m.wq m.wr) && textOk m.user 0 64) && (m.hu || (emp m.user && !m.hp))) && decide ((m.pass.size : Int) ≤ 64)) = b ∧ Has a' 289 [(1, .pointer (some ⟨w.heap.size, 0, none⟩)), (3, .pointer (some ⟨w1.heap.size, 0, none⟩)), (76, .bool b)] ∧ Own w w.heap.size [(w1.heap.size, (mqCells (onlyOf m) nilV nilV nilV)), (w.heap.size, (mqCells m (.slice A1 m.codes.length c1) (.slice A2 m.wishes.length c2) (.slice A3 m.filters.length c3)))] w') ?_ ?_
      · skip
        cases v70 with
        | false =>
          refine H18.offs 4 rfl ?_
          intro a19 H19
          refine H19.pick gz rfl rfl rfl rfl rfl ?_
          intro a20 H20
          refine H20.move gz (.inl rfl) rfl rfl rfl ?_
          intro a21 H21
          exact nt ⟨_, by rw [q70] <;> rfl, H21.keep ⟨rfl, rfl, rfl, trivial⟩, O9⟩
        | true =>
          refine H18.field (H18.wt rfl rfl rfl) rfl rfl rfl rfl field_7 ?_
          intro a19 H19
          refine H19.load (H19.wt rfl rfl rfl) rfl rfl rfl rfl (load1_s _ _ _ _ ((O9.get 1 rfl).get 11 _ rfl)) ?_
          intro a20 H20
          refine H20.lenS (H20.wt rfl rfl rfl) rfl rfl rfl rfl Tryd.underlying9 ?_
          intro a21 H21
          refine H21.bin (H21.wt rfl rfl rfl) rfl rfl rfl rfl rfl (leq_i _ _ _ rfl _ _ _) ?_
          intro a22 H22
          refine H22.pick gz rfl rfl rfl rfl rfl ?_
          intro a23 H23
          refine H23.move gz (.inl rfl) rfl rfl rfl ?_
          intro a24 H24
          exact nt ⟨_, by rw [q70] <;> rfl, H24.keep ⟨rfl, rfl, rfl, trivial⟩, O9⟩
      rintro a19 w10 ⟨v76, q76, H19, O10⟩
      refine wpList_cut 8 (fun a' w' => ∃ b, ((((((textOk m.client 0 23 && inRB m.keep 0 65535) && willB2 m.won m.wt m.wp m.wq m.wr) && textOk m.user 0 64) && (m.hu || (emp m.user && !m.hp))) && decide ((m.pass.size : Int) ≤ 64)) && (m.hp || emp m.pass)) = b ∧ Has a' 289 [(1, .pointer (some ⟨w.heap.size, 0, none⟩)), (3, .pointer (some ⟨w1.heap.size, 0, none⟩)), (84, .bool b)] ∧ Own w w.heap.size [(w1.heap.size, (mqCells (onlyOf m) nilV nilV nilV)), (w.heap.size, (mqCells m (.slice A1 m.codes.length c1) (.slice A2 m.wishes.length c2) (.slice A3 m.filters.length c3)))] w') ?_ ?_
      · skip
        cases v76 with
        | false =>
          refine H19.offs 7 rfl ?_
          intro a20 H20
          refine H20.pick gz rfl rfl rfl rfl rfl ?_
          intro a21 H21
          exact nt ⟨_, by rw [q76] <;> rfl, H21.keep ⟨rfl, rfl, rfl, trivial⟩, O10⟩
        | true =>
          refine H19.field (H19.wt rfl rfl rfl) rfl rfl rfl rfl field_8 ?_
          intro a20 H20
          refine H20.load (H20.wt rfl rfl rfl) rfl rfl rfl rfl (load1_b _ _ _ _ ((O10.get 1 rfl).get 12 _ rfl)) ?_
          intro a21 H21
          refine H21.move (H21.wt rfl rfl rfl) (.inl rfl) rfl rfl rfl ?_
          intro a22 H22
          obtain ⟨v79, q79⟩ : ∃ b, m.hp = b := ⟨_, rfl⟩
          rw [q79] at H22
          cases v79 with
          | false =>
            refine H22.field (H22.wt rfl rfl rfl) rfl rfl rfl rfl field_7 ?_
            intro a23 H23
            refine H23.load (H23.wt rfl rfl rfl) rfl rfl rfl rfl (load1_s _ _ _ _ ((O10.get 1 rfl).get 11 _ rfl)) ?_
            intro a24 H24
            refine H24.bin (H24.wt rfl rfl rfl) rfl rfl rfl rfl rfl (eql_e _ _ _ _) ?_
            intro a25 H25
            refine H25.pick (H25.wt rfl rfl rfl) rfl rfl rfl rfl rfl ?_
            intro a26 H26
            refine H26.pick gz rfl rfl rfl rfl rfl ?_
            intro a27 H27
            exact nt ⟨_, by rw [q76, q79] <;> rfl, H27.keep ⟨rfl, rfl, rfl, trivial⟩, O10⟩
          | true =>
            refine H22.offs 3 rfl ?_
            intro a23 H23
            refine H23.pick (H23.wt rfl rfl rfl) rfl rfl rfl rfl rfl ?_
            intro a24 H24
            refine H24.pick gz rfl rfl rfl rfl rfl ?_
            intro a25 H25
            exact nt ⟨_, by rw [q76, q79] <;> rfl, H25.keep ⟨rfl, rfl, rfl, trivial⟩, O10⟩
      rintro a20 w11 ⟨v84, q84, H20, O11⟩
      refine H20.move gz (.inr rfl) rfl rfl rfl ?_
      intro a21 H21
      refine wpList_nil ?_
      refine block_normal ?_
      refine then_normal ?_
      exact ⟨nilV, nilV, nilV, (by rw [hq, show connectOk m = v84 from (conn7 _ _ _ _ _ _ _).symm.trans q84]; exact H21.keep ⟨rfl, rfl, rfl, trivial⟩), MqL.nil (by rw [ho] <;> rfl) (by rw [ho] <;> rfl) (by rw [ho] <;> rfl), O11⟩
    | false =>
      have k1 : ¬ m.kind = 1 := by simpa using h1
      repeat (refine wp_seq ?_)
      refine wp_region_list ?_
      refine H10.bin gz rfl rfl rfl rfl rfl (eql_iB _ _ _ h1 _ _ _) ?_
      intro a11 H11
      refine H11.move gz (.inr rfl) rfl rfl rfl ?_
      intro a12 H12
      refine nt ?_
      refine H12.condF rfl ?_
      obtain ⟨b2, h2⟩ : ∃ b, (m.kind == 2) = b := ⟨_, rfl⟩
      cases b2 with
      | true =>
        have k2 : m.kind = 2 := by simpa using h2
        repeat (refine wp_seq ?_)
        refine wp_region_list ?_
        refine H12.bin gz rfl rfl rfl rfl rfl (eql_iB _ _ _ h2 _ _ _) ?_
        intro a13 H13
        refine H13.move gz (.inr rfl) rfl rfl rfl ?_
        intro a14 H14
        refine nt ?_
        refine H14.condT rfl ?_
        have ho : onlyOf m = { mq0 m.kind with present := m.present, code := m.code } := by unfold onlyOf; rw [if_neg k1, if_pos k2]
        have hq : okOf m = (inRB m.code 0 5 && (!m.present || m.code == 0)) := by unfold okOf; rw [if_neg k1, if_pos k2]
        repeat (refine wp_seq ?_)
        refine region_copy2 (n := 289) (s1 := 1) (s2 := 3) (s4 := 4) (g1 := w.heap.size) (g2 := w1.heap.size) (B := w.heap.size) (W := w) (L1 := (mqCells m (.slice A1 m.codes.length c1) (.slice A2 m.wishes.length c2) (.slice A3 m.filters.length c3))) (L2 := (mqCells (mq0 m.kind) nilV nilV nilV)) (c := .bool true) (by kernel_rfl) H14.sz H14.df (H14.at_ 1 _ rfl) (H14.at_ 3 _ rfl) (H14.at_ 4 _ rfl) O3.two rfl (back_of (by kernel_rfl)) (edge_of rfl) (edge_of rfl) (edge_of rfl) (edge_of rfl) (edge_of rfl) (edge_of rfl) field_9 field_10 (fun w' hC => load1_b _ _ _ _ (hC.get 13 _ rfl)) (fun w' hC => load1_i _ _ _ _ (hC.get 14 _ rfl)) (fun w' L hC hj => by obtain ⟨c1, c2⟩ := hC _ _ (List.getElem?_eq_getElem hj); exact store1_b _ _ _ _ _ c1 c2) (fun w' L hC hj => by obtain ⟨c1, c2⟩ := hC _ _ (List.getElem?_eq_getElem hj); exact store1_i _ _ _ _ _ c1 c2) (by decide) (by simp) (by simp) ?_
        intro a15 w4 sz df e1 e2 e4 hT
        have H15 := Has.of (l := [(1, .pointer (some ⟨w.heap.size, 0, none⟩)), (3, .pointer (some ⟨w1.heap.size, 0, none⟩)), (4, .bool true)]) sz df ⟨e1, e2, e4, trivial⟩
        have O4 : Own w w.heap.size [(w1.heap.size, (mqCells (onlyOf m) nilV nilV nilV)), (w.heap.size, (mqCells m (.slice A1 m.codes.length c1) (.slice A2 m.wishes.length c2) (.slice A3 m.filters.length c3)))] w4 := by rw [ho]; exact hT.own
        clear sz df e1 e2 e4 hT
        refine then_normal ?_
        repeat (refine wp_seq ?_)
        refine wp_region_list ?_
        refine wpList_cut 4 (fun a' w' => ∃ b, inRB m.code 0 5 = b ∧ Has a' 289 [(1, .pointer (some ⟨w.heap.size, 0, none⟩)), (3, .pointer (some ⟨w1.heap.size, 0, none⟩)), (96, .bool b)] ∧ Own w w.heap.size [(w1.heap.size, (mqCells (onlyOf m) nilV nilV nilV)), (w.heap.size, (mqCells m (.slice A1 m.codes.length c1) (.slice A2 m.wishes.length c2) (.slice A3 m.filters.length c3)))] w') ?_ ?_
        · skip
          refine H15.field gz rfl rfl rfl rfl field_10 ?_
          intro a16 H16
          refine H16.load gz rfl rfl rfl rfl (load1_i _ _ _ _ ((O4.get 1 rfl).get 14 _ rfl)) ?_
          intro a17 H17
          refine H17.call gz rfl rfl rfl rfl (fun _ _ => by kernel_rfl) (quietC (refNumB m.code 5 _)) ?_
          rintro a18 _ _ ⟨rfl, rfl⟩ H18
          refine H18.move gz (.inl rfl) rfl rfl rfl ?_
          intro a19 H19
          exact nt ⟨_, by rfl, H19.keep ⟨rfl, rfl, rfl, trivial⟩, O4⟩
        rintro a16 w5 ⟨v96, q96, H16, O5⟩
        refine wpList_cut 9 (fun a' w' => ∃ b, (inRB m.code 0 5 && ((m.code == 0) || !m.present)) = b ∧ Has a' 289 [(1, .pointer (some ⟨w.heap.size, 0, none⟩)), (3, .pointer (some ⟨w1.heap.size, 0, none⟩)), (105, .bool b)] ∧ Own w w.heap.size [(w1.heap.size, (mqCells (onlyOf m) nilV nilV nilV)), (w.heap.size, (mqCells m (.slice A1 m.codes.length c1) (.slice A2 m.wishes.length c2) (.slice A3 m.filters.length c3)))] w') ?_ ?_
        · skip
          cases v96 with
          | false =>
            refine H16.offs 8 rfl ?_
            intro a17 H17
            refine H17.pick gz rfl rfl rfl rfl rfl ?_
            intro a18 H18
            exact nt ⟨_, by rw [q96] <;> rfl, H18.keep ⟨rfl, rfl, rfl, trivial⟩, O5⟩
          | true =>
            refine H16.field (H16.wt rfl rfl rfl) rfl rfl rfl rfl field_10 ?_
            intro a17 H17
            refine H17.load (H17.wt rfl rfl rfl) rfl rfl rfl rfl (load1_i _ _ _ _ ((O5.get 1 rfl).get 14 _ rfl)) ?_
            intro a18 H18
            refine H18.bin (H18.wt rfl rfl rfl) rfl rfl rfl rfl rfl (eql_i _ _ _ _ _) ?_
            intro a19 H19
            refine H19.move (H19.wt rfl rfl rfl) (.inl rfl) rfl rfl rfl ?_
            intro a20 H20
            obtain ⟨v100, q100⟩ : ∃ b, (m.code == 0) = b := ⟨_, rfl⟩
            rw [q100] at H20
            cases v100 with
            | false =>
              refine H20.field (H20.wt rfl rfl rfl) rfl rfl rfl rfl field_9 ?_
              intro a21 H21
              refine H21.load (H21.wt rfl rfl rfl) rfl rfl rfl rfl (load1_b _ _ _ _ ((O5.get 1 rfl).get 13 _ rfl)) ?_
              intro a22 H22
              refine H22.un (H22.wt rfl rfl rfl) rfl rfl rfl rfl rfl ?_
              intro a23 H23
              refine H23.pick (H23.wt rfl rfl rfl) rfl rfl rfl rfl rfl ?_
              intro a24 H24
              refine H24.pick gz rfl rfl rfl rfl rfl ?_
              intro a25 H25
              exact nt ⟨_, by rw [q96, q100] <;> rfl, H25.keep ⟨rfl, rfl, rfl, trivial⟩, O5⟩
            | true =>
              refine H20.offs 3 rfl ?_
              intro a21 H21
              refine H21.pick (H21.wt rfl rfl rfl) rfl rfl rfl rfl rfl ?_
              intro a22 H22
              refine H22.pick gz rfl rfl rfl rfl rfl ?_
              intro a23 H23
              exact nt ⟨_, by rw [q96, q100] <;> rfl, H23.keep ⟨rfl, rfl, rfl, trivial⟩, O5⟩
        rintro a17 w6 ⟨v105, q105, H17, O6⟩
        refine H17.move gz (.inr rfl) rfl rfl rfl ?_
        intro a18 H18
        refine wpList_nil ?_
        refine block_normal ?_
        refine then_normal ?_
        exact ⟨nilV, nilV, nilV, (by rw [hq, show (inRB m.code 0 5 && (!m.present || m.code == 0)) = v105 from (by rw [Bool.or_comm (!m.present)]; exact q105)]; exact H18.keep ⟨rfl, rfl, rfl, trivial⟩), MqL.nil (by rw [ho] <;> rfl) (by rw [ho] <;> rfl) (by rw [ho] <;> rfl), O6⟩
      | false =>
        have k2 : ¬ m.kind = 2 := by simpa using h2
        repeat (refine wp_seq ?_)
        refine wp_region_list ?_
        refine H12.bin gz rfl rfl rfl rfl rfl (eql_iB _ _ _ h2 _ _ _) ?_
        intro a13 H13
        refine H13.move gz (.inr rfl) rfl rfl rfl ?_
        intro a14 H14
        refine nt ?_
        refine H14.condF rfl ?_
        obtain ⟨b3, h3⟩ : ∃ b, (m.kind == 3) = b := ⟨_, rfl⟩
        cases b3 with
        | true =>
          have k3 : m.kind = 3 := by simpa using h3
          repeat (refine wp_seq ?_)
          refine wp_region_list ?_
          refine H14.bin gz rfl rfl rfl rfl rfl (eql_iB _ _ _ h3 _ _ _) ?_
          intro a15 H15
          refine H15.move gz (.inr rfl) rfl rfl rfl ?_
          intro a16 H16
          refine nt ?_
          refine H16.condT rfl ?_
          have ho : onlyOf m = { mq0 m.kind with topic := m.topic, qos := m.qos, dup := m.dup, retain := m.retain, id := m.id, payload := m.payload } := by unfold onlyOf; rw [if_neg k1, if_neg k2, if_pos k3]
          have hq : okOf m = publishOk m := by unfold okOf; rw [if_neg k1, if_neg k2, if_pos k3]
          repeat (refine wp_seq ?_)
          refine region_copy6 (n := 289) (s1 := 1) (s2 := 3) (s4 := 4) (g1 := w.heap.size) (g2 := w1.heap.size) (B := w.heap.size) (W := w) (L1 := (mqCells m (.slice A1 m.codes.length c1) (.slice A2 m.wishes.length c2) (.slice A3 m.filters.length c3))) (L2 := (mqCells (mq0 m.kind) nilV nilV nilV)) (c := .bool true) (by kernel_rfl) H16.sz H16.df (H16.at_ 1 _ rfl) (H16.at_ 3 _ rfl) (H16.at_ 4 _ rfl) O3.two rfl (back_of (by kernel_rfl)) (edge_of rfl) (edge_of rfl) (edge_of rfl) (edge_of rfl) (edge_of rfl) (edge_of rfl) (edge_of rfl) (edge_of rfl) (edge_of rfl) (edge_of rfl) (edge_of rfl) (edge_of rfl) (edge_of rfl) (edge_of rfl) (edge_of rfl) (edge_of rfl) (edge_of rfl) (edge_of rfl) field_15 field_13 field_12 field_14 field_16 field_17 (fun w' hC => load1_s _ _ _ _ (hC.get 19 _ rfl)) (fun w' hC => load1_i _ _ _ _ (hC.get 17 _ rfl)) (fun w' hC => load1_b _ _ _ _ (hC.get 16 _ rfl)) (fun w' hC => load1_b _ _ _ _ (hC.get 18 _ rfl)) (fun w' hC => load1_i _ _ _ _ (hC.get 20 _ rfl)) (fun w' hC => load1_s _ _ _ _ (hC.get 21 _ rfl)) (fun w' L hC hj => by obtain ⟨c1, c2⟩ := hC _ _ (List.getElem?_eq_getElem hj); exact store1_s _ _ _ _ _ c1 c2) (fun w' L hC hj => by obtain ⟨c1, c2⟩ := hC _ _ (List.getElem?_eq_getElem hj); exact store1_i _ _ _ _ _ c1 c2) (fun w' L hC hj => by obtain ⟨c1, c2⟩ := hC _ _ (List.getElem?_eq_getElem hj); exact store1_b _ _ _ _ _ c1 c2) (fun w' L hC hj => by obtain ⟨c1, c2⟩ := hC _ _ (List.getElem?_eq_getElem hj); exact store1_b _ _ _ _ _ c1 c2) (fun w' L hC hj => by obtain ⟨c1, c2⟩ := hC _ _ (List.getElem?_eq_getElem hj); exact store1_i _ _ _ _ _ c1 c2) (fun w' L hC hj => by obtain ⟨c1, c2⟩ := hC _ _ (List.getElem?_eq_getElem hj); exact store1_s _ _ _ _ _ c1 c2) (by decide) (by decide) (by decide) (by decide) (by decide) (by decide) (by decide) (by decide) (by decide) (by decide) (by decide) (by decide) (by decide) (by decide) (by decide) (by simp) (by simp) (by simp) (by simp) (by simp) (by simp) ?_
          intro a17 w4 sz df e1 e2 e4 hT
          have H17 := Has.of (l := [(1, .pointer (some ⟨w.heap.size, 0, none⟩)), (3, .pointer (some ⟨w1.heap.size, 0, none⟩)), (4, .bool true)]) sz df ⟨e1, e2, e4, trivial⟩
          have O4 : Own w w.heap.size [(w1.heap.size, (mqCells (onlyOf m) nilV nilV nilV)), (w.heap.size, (mqCells m (.slice A1 m.codes.length c1) (.slice A2 m.wishes.length c2) (.slice A3 m.filters.length c3)))] w4 := by rw [ho]; exact hT.own
          clear sz df e1 e2 e4 hT
          refine then_normal ?_
          repeat (refine wp_seq ?_)
          refine wp_region_list ?_
          refine wpList_cut 4 (fun a' w' => ∃ b, textOk m.topic 1 64 = b ∧ Has a' 289 [(1, .pointer (some ⟨w.heap.size, 0, none⟩)), (3, .pointer (some ⟨w1.heap.size, 0, none⟩)), (129, .bool b)] ∧ Own w w.heap.size [(w1.heap.size, (mqCells (onlyOf m) nilV nilV nilV)), (w.heap.size, (mqCells m (.slice A1 m.codes.length c1) (.slice A2 m.wishes.length c2) (.slice A3 m.filters.length c3)))] w') ?_ ?_
          · skip
            refine H17.field gz rfl rfl rfl rfl field_15 ?_
            intro a18 H18
            refine H18.load gz rfl rfl rfl rfl (load1_s _ _ _ _ ((O4.get 1 rfl).get 19 _ rfl)) ?_
            intro a19 H19
            refine H19.call gz rfl rfl rfl rfl (fun _ _ => by kernel_rfl) (belowC (refTextV m.topic hF.topic 1 64 _ (hW.below O4.bel))) ?_
            rintro a20 _ w5 ⟨rfl, hb⟩ H20
            have O5 := O4.call hb
            clear hb
            refine H20.move gz (.inl rfl) rfl rfl rfl ?_
            intro a21 H21
            exact nt ⟨_, by rfl, H21.keep ⟨rfl, rfl, rfl, trivial⟩, O5⟩
          rintro a18 w5 ⟨v129, q129, H18, O5⟩
          refine wpList_cut 5 (fun a' w' => ∃ b, (textOk m.topic 1 64 && plainOf (sb m.topic)) = b ∧ Has a' 289 [(1, .pointer (some ⟨w.heap.size, 0, none⟩)), (3, .pointer (some ⟨w1.heap.size, 0, none⟩)), (134, .bool b)] ∧ Own w w.heap.size [(w1.heap.size, (mqCells (onlyOf m) nilV nilV nilV)), (w.heap.size, (mqCells m (.slice A1 m.codes.length c1) (.slice A2 m.wishes.length c2) (.slice A3 m.filters.length c3)))] w') ?_ ?_
          · skip
            cases v129 with
            | false =>
              refine H18.offs 3 rfl ?_
              intro a19 H19
              refine H19.pick gz rfl rfl rfl rfl rfl ?_
              intro a20 H20
              refine H20.move gz (.inl rfl) rfl rfl rfl ?_
              intro a21 H21
              exact nt ⟨_, by rw [q129] <;> rfl, H21.keep ⟨rfl, rfl, rfl, trivial⟩, O5⟩
            | true =>
              refine H18.field (H18.wt rfl rfl rfl) rfl rfl rfl rfl field_15 ?_
              intro a19 H19
              refine H19.load (H19.wt rfl rfl rfl) rfl rfl rfl rfl (load1_s _ _ _ _ ((O5.get 1 rfl).get 19 _ rfl)) ?_
              intro a20 H20
              refine H20.call (H20.wt rfl rfl rfl) rfl rfl rfl rfl (fun _ _ => by kernel_rfl) (quietC (refPlain m.topic hF.topic _)) ?_
              rintro a21 _ _ ⟨rfl, rfl⟩ H21
              refine H21.pick gz rfl rfl rfl rfl rfl ?_
              intro a22 H22
              refine H22.move gz (.inl rfl) rfl rfl rfl ?_
              intro a23 H23
              exact nt ⟨_, by rw [q129] <;> rfl, H23.keep ⟨rfl, rfl, rfl, trivial⟩, O5⟩
          rintro a19 w6 ⟨v134, q134, H19, O6⟩
          refine wpList_cut 5 (fun a' w' => ∃ b, ((textOk m.topic 1 64 && plainOf (sb m.topic)) && inRB m.qos 0 2) = b ∧ Has a' 289 [(1, .pointer (some ⟨w.heap.size, 0, none⟩)), (3, .pointer (some ⟨w1.heap.size, 0, none⟩)), (139, .bool b)] ∧ Own w w.heap.size [(w1.heap.size, (mqCells (onlyOf m) nilV nilV nilV)), (w.heap.size, (mqCells m (.slice A1 m.codes.length c1) (.slice A2 m.wishes.length c2) (.slice A3 m.filters.length c3)))] w') ?_ ?_
          · skip
            cases v134 with
            | false =>
              refine H19.offs 3 rfl ?_
              intro a20 H20
              refine H20.pick gz rfl rfl rfl rfl rfl ?_
              intro a21 H21
              refine H21.move gz (.inl rfl) rfl rfl rfl ?_
              intro a22 H22
              exact nt ⟨_, by rw [q134] <;> rfl, H22.keep ⟨rfl, rfl, rfl, trivial⟩, O6⟩
            | true =>
              refine H19.field (H19.wt rfl rfl rfl) rfl rfl rfl rfl field_13 ?_
              intro a20 H20
              refine H20.load (H20.wt rfl rfl rfl) rfl rfl rfl rfl (load1_i _ _ _ _ ((O6.get 1 rfl).get 17 _ rfl)) ?_
              intro a21 H21
              refine H21.call (H21.wt rfl rfl rfl) rfl rfl rfl rfl (fun _ _ => by kernel_rfl) (quietC (refNumB m.qos 2 _)) ?_
              rintro a22 _ _ ⟨rfl, rfl⟩ H22
              refine H22.pick gz rfl rfl rfl rfl rfl ?_
              intro a23 H23
              refine H23.move gz (.inl rfl) rfl rfl rfl ?_
              intro a24 H24
              exact nt ⟨_, by rw [q134] <;> rfl, H24.keep ⟨rfl, rfl, rfl, trivial⟩, O6⟩
          rintro a20 w7 ⟨v139, q139, H20, O7⟩
          refine wpList_cut 5 (fun a' w' => ∃ b, (((textOk m.topic 1 64 && plainOf (sb m.topic)) && inRB m.qos 0 2) && decide ((m.payload.size : Int) ≤ 128)) = b ∧ Has a' 289 [(1, .pointer (some ⟨w.heap.size, 0, none⟩)), (3, .pointer (some ⟨w1.heap.size, 0, none⟩)), (144, .bool b)] ∧ Own w w.heap.size [(w1.heap.size, (mqCells (onlyOf m) nilV nilV nilV)), (w.heap.size, (mqCells m (.slice A1 m.codes.length c1) (.slice A2 m.wishes.length c2) (.slice A3 m.filters.length c3)))] w') ?_ ?_
          · skip
            cases v139 with
            | false =>
              refine H20.offs 4 rfl ?_
              intro a21 H21
              refine H21.pick gz rfl rfl rfl rfl rfl ?_
              intro a22 H22
              exact nt ⟨_, by rw [q139] <;> rfl, H22.keep ⟨rfl, rfl, rfl, trivial⟩, O7⟩
            | true =>
              refine H20.field (H20.wt rfl rfl rfl) rfl rfl rfl rfl field_17 ?_
              intro a21 H21
              refine H21.load (H21.wt rfl rfl rfl) rfl rfl rfl rfl (load1_s _ _ _ _ ((O7.get 1 rfl).get 21 _ rfl)) ?_
              intro a22 H22
              refine H22.lenS (H22.wt rfl rfl rfl) rfl rfl rfl rfl Tryd.underlying9 ?_
              intro a23 H23
              refine H23.bin (H23.wt rfl rfl rfl) rfl rfl rfl rfl rfl (leq_i _ _ _ rfl _ _ _) ?_
              intro a24 H24
              refine H24.pick gz rfl rfl rfl rfl rfl ?_
              intro a25 H25
              exact nt ⟨_, by rw [q139] <;> rfl, H25.keep ⟨rfl, rfl, rfl, trivial⟩, O7⟩
          rintro a21 w8 ⟨v144, q144, H21, O8⟩
          refine H21.move gz (.inr rfl) rfl rfl rfl ?_
          intro a22 H22
          refine nt ?_
          obtain ⟨bq0, hq0⟩ : ∃ b, (m.qos == 0) = b := ⟨_, rfl⟩
          cases bq0 with
          | true =>
            repeat (refine wp_seq ?_)
            refine wp_region_list ?_
            refine H22.field gz rfl rfl rfl rfl field_13 ?_
            intro a23 H23
            refine H23.load gz rfl rfl rfl rfl (load1_i _ _ _ _ ((O8.get 1 rfl).get 17 _ rfl)) ?_
            intro a24 H24
            refine H24.bin gz rfl rfl rfl rfl rfl (eql_iB _ _ _ hq0 _ _ _) ?_
            intro a25 H25
            refine nt ?_
            refine H25.condT rfl ?_
            refine wp_region_list ?_
            refine wpList_cut 7 (fun a' w' => ∃ b, ((((textOk m.topic 1 64 && plainOf (sb m.topic)) && inRB m.qos 0 2) && decide ((m.payload.size : Int) ≤ 128)) && !m.dup) = b ∧ Has a' 289 [(1, .pointer (some ⟨w.heap.size, 0, none⟩)), (3, .pointer (some ⟨w1.heap.size, 0, none⟩)), (154, .bool b)] ∧ Own w w.heap.size [(w1.heap.size, (mqCells (onlyOf m) nilV nilV nilV)), (w.heap.size, (mqCells m (.slice A1 m.codes.length c1) (.slice A2 m.wishes.length c2) (.slice A3 m.filters.length c3)))] w') ?_ ?_
            · skip
              refine H25.move gz (.inl rfl) rfl rfl rfl ?_
              intro a26 H26
              refine H26.move gz (.inl rfl) rfl rfl rfl ?_
              intro a27 H27
              cases v144 with
              | false =>
                refine H27.offs 3 rfl ?_
                intro a28 H28
                refine H28.pick gz rfl rfl rfl rfl rfl ?_
                intro a29 H29
                refine H29.move gz (.inl rfl) rfl rfl rfl ?_
                intro a30 H30
                exact nt ⟨_, by rw [q144] <;> rfl, H30.keep ⟨rfl, rfl, rfl, trivial⟩, O8⟩
              | true =>
                refine H27.field (H27.wt rfl rfl rfl) rfl rfl rfl rfl field_12 ?_
                intro a28 H28
                refine H28.load (H28.wt rfl rfl rfl) rfl rfl rfl rfl (load1_b _ _ _ _ ((O8.get 1 rfl).get 16 _ rfl)) ?_
                intro a29 H29
                refine H29.un (H29.wt rfl rfl rfl) rfl rfl rfl rfl rfl ?_
                intro a30 H30
                refine H30.pick gz rfl rfl rfl rfl rfl ?_
                intro a31 H31
                refine H31.move gz (.inl rfl) rfl rfl rfl ?_
                intro a32 H32
                exact nt ⟨_, by rw [q144] <;> rfl, H32.keep ⟨rfl, rfl, rfl, trivial⟩, O8⟩
            rintro a26 w9 ⟨v154, q154, H26, O9⟩
            refine wpList_cut 4 (fun a' w' => ∃ b, (((((textOk m.topic 1 64 && plainOf (sb m.topic)) && inRB m.qos 0 2) && decide ((m.payload.size : Int) ≤ 128)) && !m.dup) && (m.id == 0)) = b ∧ Has a' 289 [(1, .pointer (some ⟨w.heap.size, 0, none⟩)), (3, .pointer (some ⟨w1.heap.size, 0, none⟩)), (158, .bool b)] ∧ Own w w.heap.size [(w1.heap.size, (mqCells (onlyOf m) nilV nilV nilV)), (w.heap.size, (mqCells m (.slice A1 m.codes.length c1) (.slice A2 m.wishes.length c2) (.slice A3 m.filters.length c3)))] w') ?_ ?_
            · skip
              cases v154 with
              | false =>
                refine H26.offs 3 rfl ?_
                intro a27 H27
                refine H27.pick gz rfl rfl rfl rfl rfl ?_
                intro a28 H28
                exact nt ⟨_, by rw [q154] <;> rfl, H28.keep ⟨rfl, rfl, rfl, trivial⟩, O9⟩
              | true =>
                refine H26.field (H26.wt rfl rfl rfl) rfl rfl rfl rfl field_16 ?_
                intro a27 H27
                refine H27.load (H27.wt rfl rfl rfl) rfl rfl rfl rfl (load1_i _ _ _ _ ((O9.get 1 rfl).get 20 _ rfl)) ?_
                intro a28 H28
                refine H28.bin (H28.wt rfl rfl rfl) rfl rfl rfl rfl rfl (eql_i _ _ _ _ _) ?_
                intro a29 H29
                refine H29.pick gz rfl rfl rfl rfl rfl ?_
                intro a30 H30
                exact nt ⟨_, by rw [q154] <;> rfl, H30.keep ⟨rfl, rfl, rfl, trivial⟩, O9⟩
            rintro a27 w10 ⟨v158, q158, H27, O10⟩
            refine H27.move gz (.inr rfl) rfl rfl rfl ?_
            intro a28 H28
            refine wpList_nil ?_
            refine block_normal ?_
            refine then_normal ?_
            exact ⟨nilV, nilV, nilV, (by rw [hq, show publishOk m = v158 from (pub_zero m hq0).trans q158]; exact H28.keep ⟨rfl, rfl, rfl, trivial⟩), MqL.nil (by rw [ho] <;> rfl) (by rw [ho] <;> rfl) (by rw [ho] <;> rfl), O10⟩
          | false =>
            repeat (refine wp_seq ?_)
            refine wp_region_list ?_
            refine H22.field gz rfl rfl rfl rfl field_13 ?_
            intro a23 H23
            refine H23.load gz rfl rfl rfl rfl (load1_i _ _ _ _ ((O8.get 1 rfl).get 17 _ rfl)) ?_
            intro a24 H24
            refine H24.bin gz rfl rfl rfl rfl rfl (eql_iB _ _ _ hq0 _ _ _) ?_
            intro a25 H25
            refine nt ?_
            refine H25.condF rfl ?_
            refine wp_region_list ?_
            refine wpList_cut 6 (fun a' w' => ∃ b, ((((textOk m.topic 1 64 && plainOf (sb m.topic)) && inRB m.qos 0 2) && decide ((m.payload.size : Int) ≤ 128)) && inRB m.id 1 65535) = b ∧ Has a' 289 [(1, .pointer (some ⟨w.heap.size, 0, none⟩)), (3, .pointer (some ⟨w1.heap.size, 0, none⟩)), (164, .bool b)] ∧ Own w w.heap.size [(w1.heap.size, (mqCells (onlyOf m) nilV nilV nilV)), (w.heap.size, (mqCells m (.slice A1 m.codes.length c1) (.slice A2 m.wishes.length c2) (.slice A3 m.filters.length c3)))] w') ?_ ?_
            · skip
              refine H25.move gz (.inl rfl) rfl rfl rfl ?_
              intro a26 H26
              refine H26.move gz (.inl rfl) rfl rfl rfl ?_
              intro a27 H27
              cases v144 with
              | false =>
                refine H27.offs 3 rfl ?_
                intro a28 H28
                refine H28.pick gz rfl rfl rfl rfl rfl ?_
                intro a29 H29
                exact nt ⟨_, by rw [q144] <;> rfl, H29.keep ⟨rfl, rfl, rfl, trivial⟩, O8⟩
              | true =>
                refine H27.field (H27.wt rfl rfl rfl) rfl rfl rfl rfl field_16 ?_
                intro a28 H28
                refine H28.load (H28.wt rfl rfl rfl) rfl rfl rfl rfl (load1_i _ _ _ _ ((O8.get 1 rfl).get 20 _ rfl)) ?_
                intro a29 H29
                refine H29.call (H29.wt rfl rfl rfl) rfl rfl rfl rfl (fun _ _ => by kernel_rfl) (quietC (refId m.id _)) ?_
                rintro a30 _ _ ⟨rfl, rfl⟩ H30
                refine H30.pick gz rfl rfl rfl rfl rfl ?_
                intro a31 H31
                exact nt ⟨_, by rw [q144] <;> rfl, H31.keep ⟨rfl, rfl, rfl, trivial⟩, O8⟩
            rintro a26 w9 ⟨v164, q164, H26, O9⟩
            refine H26.move gz (.inr rfl) rfl rfl rfl ?_
            intro a27 H27
            refine wpList_nil ?_
            refine block_normal ?_
            refine then_normal ?_
            exact ⟨nilV, nilV, nilV, (by rw [hq, show publishOk m = v164 from (pub_more m hq0).trans q164]; exact H27.keep ⟨rfl, rfl, rfl, trivial⟩), MqL.nil (by rw [ho] <;> rfl) (by rw [ho] <;> rfl) (by rw [ho] <;> rfl), O9⟩
        | false =>
          have k3 : ¬ m.kind = 3 := by simpa using h3
          repeat (refine wp_seq ?_)
          refine wp_region_list ?_
          refine H14.bin gz rfl rfl rfl rfl rfl (eql_iB _ _ _ h3 _ _ _) ?_
          intro a15 H15
          refine H15.move gz (.inr rfl) rfl rfl rfl ?_
          intro a16 H16
          refine nt ?_
          refine H16.condF rfl ?_
          refine wp_seq_join (fun a w' => ∃ b, idKind m.kind = b ∧ Has a 289 [(1, .pointer (some ⟨w.heap.size, 0, none⟩)), (3, .pointer (some ⟨w1.heap.size, 0, none⟩)), (4, .bool true), (11, .int .i64 m.kind), (165, .bool b)] ∧ Own w w.heap.size [(w1.heap.size, (mqCells (mq0 m.kind) nilV nilV nilV)), (w.heap.size, (mqCells m (.slice A1 m.codes.length c1) (.slice A2 m.wishes.length c2) (.slice A3 m.filters.length c3)))] w') ?_ ?_
          · skip
            obtain ⟨b4, h4⟩ : ∃ b, (m.kind == 4) = b := ⟨_, rfl⟩
            cases b4 with
            | true =>
              repeat (refine wp_seq ?_)
              refine wp_region_list ?_
              refine H16.bin gz rfl rfl rfl rfl rfl (eql_iB _ _ _ h4 _ _ _) ?_
              intro a17 H17
              refine H17.move gz (.inr rfl) rfl rfl rfl ?_
              intro a18 H18
              refine nt ?_
              refine H18.condT rfl ?_
              refine skip_wp ?_
              refine then_normal ?_
              exact ⟨_, (by unfold idKind; rw [h4] <;> rfl), H18.keep ⟨rfl, rfl, rfl, rfl, rfl, trivial⟩, O3⟩
            | false =>
              repeat (refine wp_seq ?_)
              refine wp_region_list ?_
              refine H16.bin gz rfl rfl rfl rfl rfl (eql_iB _ _ _ h4 _ _ _) ?_
              intro a17 H17
              refine H17.move gz (.inr rfl) rfl rfl rfl ?_
              intro a18 H18
              refine nt ?_
              refine H18.condF rfl ?_
              obtain ⟨b5, h5⟩ : ∃ b, (m.kind == 5) = b := ⟨_, rfl⟩
              cases b5 with
              | true =>
                repeat (refine wp_seq ?_)
                refine wp_region_list ?_
                refine H18.bin gz rfl rfl rfl rfl rfl (eql_iB _ _ _ h5 _ _ _) ?_
                intro a19 H19
                refine H19.move gz (.inr rfl) rfl rfl rfl ?_
                intro a20 H20
                refine nt ?_
                refine H20.condT rfl ?_
                refine skip_wp ?_
                refine then_normal ?_
                exact ⟨_, (by unfold idKind; rw [h4, h5] <;> rfl), H20.keep ⟨rfl, rfl, rfl, rfl, rfl, trivial⟩, O3⟩
              | false =>
                repeat (refine wp_seq ?_)
                refine wp_region_list ?_
                refine H18.bin gz rfl rfl rfl rfl rfl (eql_iB _ _ _ h5 _ _ _) ?_
                intro a19 H19
                refine H19.move gz (.inr rfl) rfl rfl rfl ?_
                intro a20 H20
                refine nt ?_
                refine H20.condF rfl ?_
                obtain ⟨b6, h6⟩ : ∃ b, (m.kind == 6) = b := ⟨_, rfl⟩
                cases b6 with
                | true =>
                  repeat (refine wp_seq ?_)
                  refine wp_region_list ?_
                  refine H20.bin gz rfl rfl rfl rfl rfl (eql_iB _ _ _ h6 _ _ _) ?_
                  intro a21 H21
                  refine H21.move gz (.inr rfl) rfl rfl rfl ?_
                  intro a22 H22
                  refine nt ?_
                  refine H22.condT rfl ?_
                  refine skip_wp ?_
                  refine then_normal ?_
                  exact ⟨_, (by unfold idKind; rw [h4, h5, h6] <;> rfl), H22.keep ⟨rfl, rfl, rfl, rfl, rfl, trivial⟩, O3⟩
                | false =>
                  repeat (refine wp_seq ?_)
                  refine wp_region_list ?_
                  refine H20.bin gz rfl rfl rfl rfl rfl (eql_iB _ _ _ h6 _ _ _) ?_
                  intro a21 H21
                  refine H21.move gz (.inr rfl) rfl rfl rfl ?_
                  intro a22 H22
                  refine nt ?_
                  refine H22.condF rfl ?_
                  obtain ⟨b7, h7⟩ : ∃ b, (m.kind == 7) = b := ⟨_, rfl⟩
                  cases b7 with
                  | true =>
                    repeat (refine wp_seq ?_)
                    refine wp_region_list ?_
                    refine H22.bin gz rfl rfl rfl rfl rfl (eql_iB _ _ _ h7 _ _ _) ?_
                    intro a23 H23
                    refine H23.move gz (.inr rfl) rfl rfl rfl ?_
                    intro a24 H24
                    refine nt ?_
                    refine H24.condT rfl ?_
                    refine skip_wp ?_
                    refine then_normal ?_
                    exact ⟨_, (by unfold idKind; rw [h4, h5, h6, h7] <;> rfl), H24.keep ⟨rfl, rfl, rfl, rfl, rfl, trivial⟩, O3⟩
                  | false =>
                    repeat (refine wp_seq ?_)
                    refine wp_region_list ?_
                    refine H22.bin gz rfl rfl rfl rfl rfl (eql_iB _ _ _ h7 _ _ _) ?_
                    intro a23 H23
                    refine H23.move gz (.inr rfl) rfl rfl rfl ?_
                    intro a24 H24
                    refine nt ?_
                    refine H24.condF rfl ?_
                    obtain ⟨b11, h11⟩ : ∃ b, (m.kind == 11) = b := ⟨_, rfl⟩
                    cases b11 with
                    | true =>
                      repeat (refine wp_seq ?_)
                      refine wp_region_list ?_
                      refine H24.bin gz rfl rfl rfl rfl rfl (eql_iB _ _ _ h11 _ _ _) ?_
                      intro a25 H25
                      refine H25.move gz (.inr rfl) rfl rfl rfl ?_
                      intro a26 H26
                      refine nt ?_
                      exact ⟨_, (by unfold idKind; rw [h4, h5, h6, h7, h11] <;> rfl), H26.keep ⟨rfl, rfl, rfl, rfl, rfl, trivial⟩, O3⟩
                    | false =>
                      repeat (refine wp_seq ?_)
                      refine wp_region_list ?_
                      refine H24.bin gz rfl rfl rfl rfl rfl (eql_iB _ _ _ h11 _ _ _) ?_
                      intro a25 H25
                      refine H25.move gz (.inr rfl) rfl rfl rfl ?_
                      intro a26 H26
                      refine nt ?_
                      exact ⟨_, (by unfold idKind; rw [h4, h5, h6, h7, h11] <;> rfl), H26.keep ⟨rfl, rfl, rfl, rfl, rfl, trivial⟩, O3⟩
          rintro a17 w4 ⟨v165, q165, H17, O4⟩
          cases v165 with
          | true =>
            have ki : idKind m.kind = true := q165
            refine H17.condT rfl ?_
            have ho : onlyOf m = { mq0 m.kind with id := m.id } := by unfold onlyOf; rw [if_neg k1, if_neg k2, if_neg k3, if_pos ki]
            have hq : okOf m = inRB m.id 1 65535 := by unfold okOf; rw [if_neg k1, if_neg k2, if_neg k3, if_pos ki]
            repeat (refine wp_seq ?_)
            refine wp_region_list ?_
            refine H17.field gz rfl rfl rfl rfl field_16 ?_
            intro a18 H18
            refine H18.load gz rfl rfl rfl rfl (load1_i _ _ _ _ ((O4.get 1 rfl).get 20 _ rfl)) ?_
            intro a19 H19
            refine H19.field gz rfl rfl rfl rfl field_16 ?_
            intro a20 H20
            refine H20.storeC O4 0 rfl gz rfl rfl rfl rfl rfl (fun u h f => store1_i _ _ _ u _ h f) ?_
            intro a21 w5 H21 O5
            refine nt ?_
            have O5' : Own w w.heap.size [(w1.heap.size, (mqCells (onlyOf m) nilV nilV nilV)), (w.heap.size, (mqCells m (.slice A1 m.codes.length c1) (.slice A2 m.wishes.length c2) (.slice A3 m.filters.length c3)))] w5 := by rw [ho]; exact O5
            have O5 := O5'
            refine wp_region_list ?_
            refine H21.field gz rfl rfl rfl rfl field_16 ?_
            intro a22 H22
            refine H22.load gz rfl rfl rfl rfl (load1_i _ _ _ _ ((O5.get 1 rfl).get 20 _ rfl)) ?_
            intro a23 H23
            refine H23.call gz rfl rfl rfl rfl (fun _ _ => by kernel_rfl) (quietC (refId m.id _)) ?_
            rintro a24 _ _ ⟨rfl, rfl⟩ H24
            refine H24.move gz (.inr rfl) rfl rfl rfl ?_
            intro a25 H25
            refine wpList_nil ?_
            refine block_normal ?_
            refine then_normal ?_
            exact ⟨nilV, nilV, nilV, (by rw [hq, show inRB m.id 1 65535 = inRB m.id 1 65535 from rfl]; exact H25.keep ⟨rfl, rfl, rfl, trivial⟩), MqL.nil (by rw [ho] <;> rfl) (by rw [ho] <;> rfl) (by rw [ho] <;> rfl), O5⟩
          | false =>
            have ki : ¬ idKind m.kind = true := by simp [q165]
            refine H17.condF rfl ?_
            obtain ⟨b8, h8⟩ : ∃ b, (m.kind == 8) = b := ⟨_, rfl⟩
            cases b8 with
            | true =>
              have k8 : m.kind = 8 := by simpa using h8
              repeat (refine wp_seq ?_)
              refine wp_region_list ?_
              refine H17.bin gz rfl rfl rfl rfl rfl (eql_iB _ _ _ h8 _ _ _) ?_
              intro a18 H18
              refine H18.move gz (.inr rfl) rfl rfl rfl ?_
              intro a19 H19
              refine nt ?_
              refine H19.condT rfl ?_
              have ho : onlyOf m = { mq0 m.kind with id := m.id, wishes := m.wishes } := by unfold onlyOf; rw [if_neg k1, if_neg k2, if_neg k3, if_neg ki, if_pos k8]
              have hq : okOf m = (inRB m.id 1 65535 && wishesOk m.wishes) := by unfold okOf; rw [if_neg k1, if_neg k2, if_neg k3, if_neg ki, if_pos k8]
              repeat (refine wp_seq ?_)
              refine region_copy2 (n := 289) (s1 := 1) (s2 := 3) (s4 := 4) (g1 := w.heap.size) (g2 := w1.heap.size) (B := w.heap.size) (W := w) (L1 := (mqCells m (.slice A1 m.codes.length c1) (.slice A2 m.wishes.length c2) (.slice A3 m.filters.length c3))) (L2 := (mqCells (mq0 m.kind) nilV nilV nilV)) (c := .bool true) (by kernel_rfl) H19.sz H19.df (H19.at_ 1 _ rfl) (H19.at_ 3 _ rfl) (H19.at_ 4 _ rfl) O4.two rfl (back_of (by kernel_rfl)) (edge_of rfl) (edge_of rfl) (edge_of rfl) (edge_of rfl) (edge_of rfl) (edge_of rfl) field_16 field_18 (fun w' hC => load1_i _ _ _ _ (hC.get 20 _ rfl)) (fun w' hC => load1_27 _ _ _ _ _ _ (hC.get 22 _ rfl)) (fun w' L hC hj => by obtain ⟨c1, c2⟩ := hC _ _ (List.getElem?_eq_getElem hj); exact store1_i _ _ _ _ _ c1 c2) (fun w' L hC hj => by obtain ⟨c1, c2⟩ := hC _ _ (List.getElem?_eq_getElem hj); exact store1_27 _ _ _ _ _ _ _ c1 c2) (by decide) (by simp) (by simp) ?_
              intro a20 w5 sz df e1 e2 e4 hT
              have H20 := Has.of (l := [(1, .pointer (some ⟨w.heap.size, 0, none⟩)), (3, .pointer (some ⟨w1.heap.size, 0, none⟩)), (4, .bool true)]) sz df ⟨e1, e2, e4, trivial⟩
              have O5 : Own w w.heap.size [(w1.heap.size, (mqCells (onlyOf m) nilV (.slice A2 m.wishes.length c2) nilV)), (w.heap.size, (mqCells m (.slice A1 m.codes.length c1) (.slice A2 m.wishes.length c2) (.slice A3 m.filters.length c3)))] w5 := by rw [ho]; exact hT.own
              clear sz df e1 e2 e4 hT
              refine then_normal ?_
              repeat (refine wp_seq ?_)
              refine wp_region_list ?_
              refine wpList_cut 4 (fun a' w' => ∃ b, inRB m.id 1 65535 = b ∧ Has a' 289 [(1, .pointer (some ⟨w.heap.size, 0, none⟩)), (3, .pointer (some ⟨w1.heap.size, 0, none⟩)), (188, .bool b)] ∧ Own w w.heap.size [(w1.heap.size, (mqCells (onlyOf m) nilV (.slice A2 m.wishes.length c2) nilV)), (w.heap.size, (mqCells m (.slice A1 m.codes.length c1) (.slice A2 m.wishes.length c2) (.slice A3 m.filters.length c3)))] w') ?_ ?_
              · skip
                refine H20.field gz rfl rfl rfl rfl field_16 ?_
                intro a21 H21
                refine H21.load gz rfl rfl rfl rfl (load1_i _ _ _ _ ((O5.get 1 rfl).get 20 _ rfl)) ?_
                intro a22 H22
                refine H22.call gz rfl rfl rfl rfl (fun _ _ => by kernel_rfl) (quietC (refId m.id _)) ?_
                rintro a23 _ _ ⟨rfl, rfl⟩ H23
                refine H23.move gz (.inl rfl) rfl rfl rfl ?_
                intro a24 H24
                exact nt ⟨_, by rfl, H24.keep ⟨rfl, rfl, rfl, trivial⟩, O5⟩
              rintro a21 w6 ⟨v188, q188, H21, O6⟩
              refine wpList_cut 4 (fun a' w' => ∃ b, (inRB m.id 1 65535 && wishesOk m.wishes) = b ∧ Has a' 289 [(1, .pointer (some ⟨w.heap.size, 0, none⟩)), (3, .pointer (some ⟨w1.heap.size, 0, none⟩)), (192, .bool b)] ∧ Own w w.heap.size [(w1.heap.size, (mqCells (onlyOf m) nilV (.slice A2 m.wishes.length c2) nilV)), (w.heap.size, (mqCells m (.slice A1 m.codes.length c1) (.slice A2 m.wishes.length c2) (.slice A3 m.filters.length c3)))] w') ?_ ?_
              · skip
                cases v188 with
                | false =>
                  refine H21.offs 3 rfl ?_
                  intro a22 H22
                  refine H22.pick gz rfl rfl rfl rfl rfl ?_
                  intro a23 H23
                  exact nt ⟨_, by rw [q188] <;> rfl, H23.keep ⟨rfl, rfl, rfl, trivial⟩, O6⟩
                | true =>
                  refine H21.field (H21.wt rfl rfl rfl) rfl rfl rfl rfl field_18 ?_
                  intro a22 H22
                  refine H22.load (H22.wt rfl rfl rfl) rfl rfl rfl rfl (load1_27 _ _ _ _ _ _ ((O6.get 1 rfl).get 22 _ rfl)) ?_
                  intro a23 H23
                  refine H23.call (H23.wt rfl rfl rfl) rfl rfl rfl rfl (fun _ _ => by kernel_rfl) (belowC (refWishes m.wishes _ rfl hF.wishes A2 c2 k2' _ (hW.below O6.bel) (r2.next O6.bel))) ?_
                  rintro a24 _ w7 ⟨rfl, hb⟩ H24
                  have O7 := O6.call hb
                  clear hb
                  refine H24.pick gz rfl rfl rfl rfl rfl ?_
                  intro a25 H25
                  exact nt ⟨_, by rw [q188] <;> rfl, H25.keep ⟨rfl, rfl, rfl, trivial⟩, O7⟩
              rintro a22 w7 ⟨v192, q192, H22, O7⟩
              refine H22.move gz (.inr rfl) rfl rfl rfl ?_
              intro a23 H23
              refine wpList_nil ?_
              refine block_normal ?_
              refine then_normal ?_
              exact ⟨nilV, (.slice A2 m.wishes.length c2), nilV, (by rw [hq, q192]; exact H23.keep ⟨rfl, rfl, rfl, trivial⟩), (hL.next O7.bel).onlyW (by rw [ho] <;> rfl) (by rw [ho] <;> rfl) (by rw [ho] <;> rfl), O7⟩
            | false =>
              have k8 : ¬ m.kind = 8 := by simpa using h8
              repeat (refine wp_seq ?_)
              refine wp_region_list ?_
              refine H17.bin gz rfl rfl rfl rfl rfl (eql_iB _ _ _ h8 _ _ _) ?_
              intro a18 H18
              refine H18.move gz (.inr rfl) rfl rfl rfl ?_
              intro a19 H19
              refine nt ?_
              refine H19.condF rfl ?_
              obtain ⟨b9, h9⟩ : ∃ b, (m.kind == 9) = b := ⟨_, rfl⟩
              cases b9 with
              | true =>
                have k9 : m.kind = 9 := by simpa using h9
                repeat (refine wp_seq ?_)
                refine wp_region_list ?_
                refine H19.bin gz rfl rfl rfl rfl rfl (eql_iB _ _ _ h9 _ _ _) ?_
                intro a20 H20
                refine H20.move gz (.inr rfl) rfl rfl rfl ?_
                intro a21 H21
                refine nt ?_
                refine H21.condT rfl ?_
                have ho : onlyOf m = { mq0 m.kind with id := m.id, codes := m.codes } := by unfold onlyOf; rw [if_neg k1, if_neg k2, if_neg k3, if_neg ki, if_neg k8, if_pos k9]
                have hq : okOf m = (inRB m.id 1 65535 && codesOk m.codes) := by unfold okOf; rw [if_neg k1, if_neg k2, if_neg k3, if_neg ki, if_neg k8, if_pos k9]
                repeat (refine wp_seq ?_)
                refine region_copy2 (n := 289) (s1 := 1) (s2 := 3) (s4 := 4) (g1 := w.heap.size) (g2 := w1.heap.size) (B := w.heap.size) (W := w) (L1 := (mqCells m (.slice A1 m.codes.length c1) (.slice A2 m.wishes.length c2) (.slice A3 m.filters.length c3))) (L2 := (mqCells (mq0 m.kind) nilV nilV nilV)) (c := .bool true) (by kernel_rfl) H21.sz H21.df (H21.at_ 1 _ rfl) (H21.at_ 3 _ rfl) (H21.at_ 4 _ rfl) O4.two rfl (back_of (by kernel_rfl)) (edge_of rfl) (edge_of rfl) (edge_of rfl) (edge_of rfl) (edge_of rfl) (edge_of rfl) field_16 field_11 (fun w' hC => load1_i _ _ _ _ (hC.get 20 _ rfl)) (fun w' hC => load1_26 _ _ _ _ _ _ (hC.get 15 _ rfl)) (fun w' L hC hj => by obtain ⟨c1, c2⟩ := hC _ _ (List.getElem?_eq_getElem hj); exact store1_i _ _ _ _ _ c1 c2) (fun w' L hC hj => by obtain ⟨c1, c2⟩ := hC _ _ (List.getElem?_eq_getElem hj); exact store1_26 _ _ _ _ _ _ _ c1 c2) (by decide) (by simp) (by simp) ?_
                intro a22 w5 sz df e1 e2 e4 hT
                have H22 := Has.of (l := [(1, .pointer (some ⟨w.heap.size, 0, none⟩)), (3, .pointer (some ⟨w1.heap.size, 0, none⟩)), (4, .bool true)]) sz df ⟨e1, e2, e4, trivial⟩
                have O5 : Own w w.heap.size [(w1.heap.size, (mqCells (onlyOf m) (.slice A1 m.codes.length c1) nilV nilV)), (w.heap.size, (mqCells m (.slice A1 m.codes.length c1) (.slice A2 m.wishes.length c2) (.slice A3 m.filters.length c3)))] w5 := by rw [ho]; exact hT.own
                clear sz df e1 e2 e4 hT
                refine then_normal ?_
                repeat (refine wp_seq ?_)
                refine wp_region_list ?_
                refine wpList_cut 4 (fun a' w' => ∃ b, inRB m.id 1 65535 = b ∧ Has a' 289 [(1, .pointer (some ⟨w.heap.size, 0, none⟩)), (3, .pointer (some ⟨w1.heap.size, 0, none⟩)), (204, .bool b)] ∧ Own w w.heap.size [(w1.heap.size, (mqCells (onlyOf m) (.slice A1 m.codes.length c1) nilV nilV)), (w.heap.size, (mqCells m (.slice A1 m.codes.length c1) (.slice A2 m.wishes.length c2) (.slice A3 m.filters.length c3)))] w') ?_ ?_
                · skip
                  refine H22.field gz rfl rfl rfl rfl field_16 ?_
                  intro a23 H23
                  refine H23.load gz rfl rfl rfl rfl (load1_i _ _ _ _ ((O5.get 1 rfl).get 20 _ rfl)) ?_
                  intro a24 H24
                  refine H24.call gz rfl rfl rfl rfl (fun _ _ => by kernel_rfl) (quietC (refId m.id _)) ?_
                  rintro a25 _ _ ⟨rfl, rfl⟩ H25
                  refine H25.move gz (.inl rfl) rfl rfl rfl ?_
                  intro a26 H26
                  exact nt ⟨_, by rfl, H26.keep ⟨rfl, rfl, rfl, trivial⟩, O5⟩
                rintro a23 w6 ⟨v204, q204, H23, O6⟩
                refine wpList_cut 6 (fun a' w' => ∃ b, (inRB m.id 1 65535 && decide ((1 : Int) ≤ m.codes.length)) = b ∧ Has a' 289 [(1, .pointer (some ⟨w.heap.size, 0, none⟩)), (3, .pointer (some ⟨w1.heap.size, 0, none⟩)), (210, .bool b)] ∧ Own w w.heap.size [(w1.heap.size, (mqCells (onlyOf m) (.slice A1 m.codes.length c1) nilV nilV)), (w.heap.size, (mqCells m (.slice A1 m.codes.length c1) (.slice A2 m.wishes.length c2) (.slice A3 m.filters.length c3)))] w') ?_ ?_
                · skip
                  cases v204 with
                  | false =>
                    refine H23.offs 4 rfl ?_
                    intro a24 H24
                    refine H24.pick gz rfl rfl rfl rfl rfl ?_
                    intro a25 H25
                    refine H25.move gz (.inl rfl) rfl rfl rfl ?_
                    intro a26 H26
                    exact nt ⟨_, by rw [q204] <;> rfl, H26.keep ⟨rfl, rfl, rfl, trivial⟩, O6⟩
                  | true =>
                    refine H23.field (H23.wt rfl rfl rfl) rfl rfl rfl rfl field_11 ?_
                    intro a24 H24
                    refine H24.load (H24.wt rfl rfl rfl) rfl rfl rfl rfl (load1_26 _ _ _ _ _ _ ((O6.get 1 rfl).get 15 _ rfl)) ?_
                    intro a25 H25
                    refine H25.len (H25.wt rfl rfl rfl) rfl rfl rfl rfl Tryd.underlying26 ?_
                    intro a26 H26
                    refine H26.bin (H26.wt rfl rfl rfl) rfl rfl rfl rfl rfl (geq_i _ _ _ rfl _ _ _) ?_
                    intro a27 H27
                    refine H27.pick gz rfl rfl rfl rfl rfl ?_
                    intro a28 H28
                    refine H28.move gz (.inl rfl) rfl rfl rfl ?_
                    intro a29 H29
                    exact nt ⟨_, by rw [q204] <;> rfl, H29.keep ⟨rfl, rfl, rfl, trivial⟩, O6⟩
                rintro a24 w7 ⟨v210, q210, H24, O7⟩
                refine wpList_cut 5 (fun a' w' => ∃ b, ((inRB m.id 1 65535 && decide ((1 : Int) ≤ m.codes.length)) && decide ((m.codes.length : Int) ≤ 8)) = b ∧ Has a' 289 [(1, .pointer (some ⟨w.heap.size, 0, none⟩)), (3, .pointer (some ⟨w1.heap.size, 0, none⟩)), (215, .bool b)] ∧ Own w w.heap.size [(w1.heap.size, (mqCells (onlyOf m) (.slice A1 m.codes.length c1) nilV nilV)), (w.heap.size, (mqCells m (.slice A1 m.codes.length c1) (.slice A2 m.wishes.length c2) (.slice A3 m.filters.length c3)))] w') ?_ ?_
                · skip
                  cases v210 with
                  | false =>
                    refine H24.offs 4 rfl ?_
                    intro a25 H25
                    refine H25.pick gz rfl rfl rfl rfl rfl ?_
                    intro a26 H26
                    exact nt ⟨_, by rw [q210] <;> rfl, H26.keep ⟨rfl, rfl, rfl, trivial⟩, O7⟩
                  | true =>
                    refine H24.field (H24.wt rfl rfl rfl) rfl rfl rfl rfl field_11 ?_
                    intro a25 H25
                    refine H25.load (H25.wt rfl rfl rfl) rfl rfl rfl rfl (load1_26 _ _ _ _ _ _ ((O7.get 1 rfl).get 15 _ rfl)) ?_
                    intro a26 H26
                    refine H26.len (H26.wt rfl rfl rfl) rfl rfl rfl rfl Tryd.underlying26 ?_
                    intro a27 H27
                    refine H27.bin (H27.wt rfl rfl rfl) rfl rfl rfl rfl rfl (leq_i _ _ _ rfl _ _ _) ?_
                    intro a28 H28
                    refine H28.pick gz rfl rfl rfl rfl rfl ?_
                    intro a29 H29
                    exact nt ⟨_, by rw [q210] <;> rfl, H29.keep ⟨rfl, rfl, rfl, trivial⟩, O7⟩
                rintro a25 w8 ⟨v215, q215, H25, O8⟩
                refine H25.move gz (.inr rfl) rfl rfl rfl ?_
                intro a26 H26
                refine nt ?_
                repeat (refine wp_seq ?_)
                refine wp_region_list ?_
                refine H26.move gz (.inr rfl) rfl rfl rfl ?_
                intro a27 H27
                refine nt ?_
                refine wp_block ?_
                refine wp_loop_up m.codes.length (fun k a w' => ∃ b, (((inRB m.id 1 65535 && decide ((1 : Int) ≤ m.codes.length)) && decide ((m.codes.length : Int) ≤ 8)) && codesAll (m.codes.take k)) = b ∧ Has a 289 [(1, .pointer (some ⟨w.heap.size, 0, none⟩)), (3, .pointer (some ⟨w1.heap.size, 0, none⟩)), (4, .bool b), (5, .int .i64 ((k : Nat) : Int))] ∧ Own w w.heap.size [(w1.heap.size, (mqCells (onlyOf m) (.slice A1 m.codes.length c1) nilV nilV)), (w.heap.size, (mqCells m (.slice A1 m.codes.length c1) (.slice A2 m.wishes.length c2) (.slice A3 m.filters.length c3)))] w') ?_ ?_
                · exact ⟨_, (by rw [List.take_zero, q215]; simp [codesAll]), H27.keep ⟨rfl, rfl, rfl, rfl, trivial⟩, O8⟩
                · rintro k a28 w9 hkn ⟨v4, q4, H28, O9⟩
                  by_cases hlt : k < m.codes.length
                  · skip
                    repeat (refine wp_seq ?_)
                    refine wp_region_list ?_
                    refine H28.move gz (.inl rfl) rfl rfl rfl ?_
                    intro a29 H29
                    refine H29.field gz rfl rfl rfl rfl field_11 ?_
                    intro a30 H30
                    refine H30.load gz rfl rfl rfl rfl (load1_26 _ _ _ _ _ _ ((O9.get 1 rfl).get 15 _ rfl)) ?_
                    intro a31 H31
                    refine H31.len gz rfl rfl rfl rfl Tryd.underlying26 ?_
                    intro a32 H32
                    refine H32.bin gz rfl rfl rfl rfl rfl (lss_i _ _ true (by simpa using hlt) _ _ _) ?_
                    intro a33 H33
                    refine nt ?_
                    refine H33.condT rfl ?_
                    refine skip_wp ?_
                    refine then_normal ?_
                    repeat (refine wp_seq ?_)
                    refine wp_block ?_
                    refine wp_region_list ?_
                    obtain ⟨b, o, v, hA, _, hv, hc⟩ := (r1.next O9.bel).get1 hlt
                    obtain ⟨x, hx⟩ : ∃ x, m.codes[k]? = some x := ⟨_, List.getElem?_eq_getElem hlt⟩
                    rw [List.getElem?_map, hx] at hv
                    injection hv with hv
                    subst hv
                    refine wpList_cut 17 (fun a' w' => ∃ b, ((((inRB m.id 1 65535 && decide ((1 : Int) ≤ m.codes.length)) && decide ((m.codes.length : Int) ≤ 8)) && codesAll (m.codes.take k)) && (inRB x 0 2 || (x == 128))) = b ∧ Has a' 289 [(1, .pointer (some ⟨w.heap.size, 0, none⟩)), (3, .pointer (some ⟨w1.heap.size, 0, none⟩)), (5, .int .i64 ((k : Nat) : Int)), (239, .bool b)] ∧ Own w w.heap.size [(w1.heap.size, (mqCells (onlyOf m) (.slice A1 m.codes.length c1) nilV nilV)), (w.heap.size, (mqCells m (.slice A1 m.codes.length c1) (.slice A2 m.wishes.length c2) (.slice A3 m.filters.length c3)))] w') ?_ ?_
                    · skip
                      refine H33.move gz (.inl rfl) rfl rfl rfl ?_
                      intro a34 H34
                      refine H34.move gz (.inl rfl) rfl rfl rfl ?_
                      intro a35 H35
                      cases v4 with
                      | false =>
                        refine H35.offs 14 rfl ?_
                        intro a36 H36
                        refine H36.pick gz rfl rfl rfl rfl rfl ?_
                        intro a37 H37
                        exact nt ⟨_, by rw [q4] <;> rfl, H37.keep ⟨rfl, rfl, rfl, rfl, trivial⟩, O9⟩
                      | true =>
                        refine H35.field (H35.wt rfl rfl rfl) rfl rfl rfl rfl field_11 ?_
                        intro a36 H36
                        refine H36.load (H36.wt rfl rfl rfl) rfl rfl rfl rfl (load1_26 _ _ _ _ _ _ ((O9.get 1 rfl).get 15 _ rfl)) ?_
                        intro a37 H37
                        refine H37.move (H37.wt rfl rfl rfl) (.inl rfl) rfl rfl rfl ?_
                        intro a38 H38
                        refine H38.index (H38.wt rfl rfl rfl) rfl rfl rfl rfl rfl (show (Instr.indexAt 26 (.slice A1 m.codes.length c1) (.int .i64 ((k : Nat) : Int))).run Tryd.prog _ = .ok (.pointer (some ⟨b, o + k, none⟩)) _ by rw [hA]; exact index_1 26 Tryd.underlying26 (fun _ => by kernel_rfl) _ _ _ _ _ hlt _) ?_
                        intro a39 H39
                        refine H39.load (H39.wt rfl rfl rfl) rfl rfl rfl rfl (load1_i _ _ _ _ hc) ?_
                        intro a40 H40
                        refine H40.call (H40.wt rfl rfl rfl) rfl rfl rfl rfl (fun _ _ => by kernel_rfl) (quietC (refNumB x 2 _)) ?_
                        rintro a41 _ _ ⟨rfl, rfl⟩ H41
                        refine H41.move (H41.wt rfl rfl rfl) (.inl rfl) rfl rfl rfl ?_
                        intro a42 H42
                        obtain ⟨v231, q231⟩ : ∃ b, inRB x 0 2 = b := ⟨_, rfl⟩
                        rw [q231] at H42
                        cases v231 with
                        | false =>
                          refine H42.field (H42.wt rfl rfl rfl) rfl rfl rfl rfl field_11 ?_
                          intro a43 H43
                          refine H43.load (H43.wt rfl rfl rfl) rfl rfl rfl rfl (load1_26 _ _ _ _ _ _ ((O9.get 1 rfl).get 15 _ rfl)) ?_
                          intro a44 H44
                          refine H44.move (H44.wt rfl rfl rfl) (.inl rfl) rfl rfl rfl ?_
                          intro a45 H45
                          refine H45.index (H45.wt rfl rfl rfl) rfl rfl rfl rfl rfl (show (Instr.indexAt 26 (.slice A1 m.codes.length c1) (.int .i64 ((k : Nat) : Int))).run Tryd.prog _ = .ok (.pointer (some ⟨b, o + k, none⟩)) _ by rw [hA]; exact index_1 26 Tryd.underlying26 (fun _ => by kernel_rfl) _ _ _ _ _ hlt _) ?_
                          intro a46 H46
                          refine H46.load (H46.wt rfl rfl rfl) rfl rfl rfl rfl (load1_i _ _ _ _ hc) ?_
                          intro a47 H47
                          refine H47.bin (H47.wt rfl rfl rfl) rfl rfl rfl rfl rfl (eql_i _ _ _ _ _) ?_
                          intro a48 H48
                          refine H48.pick (H48.wt rfl rfl rfl) rfl rfl rfl rfl rfl ?_
                          intro a49 H49
                          refine H49.pick gz rfl rfl rfl rfl rfl ?_
                          intro a50 H50
                          exact nt ⟨_, by rw [q4, q231] <;> rfl, H50.keep ⟨rfl, rfl, rfl, rfl, trivial⟩, O9⟩
                        | true =>
                          refine H42.offs 6 rfl ?_
                          intro a43 H43
                          refine H43.pick (H43.wt rfl rfl rfl) rfl rfl rfl rfl rfl ?_
                          intro a44 H44
                          refine H44.pick gz rfl rfl rfl rfl rfl ?_
                          intro a45 H45
                          exact nt ⟨_, by rw [q4, q231] <;> rfl, H45.keep ⟨rfl, rfl, rfl, rfl, trivial⟩, O9⟩
                    rintro a34 w10 ⟨v239, q239, H34, O10⟩
                    refine H34.move gz (.inr rfl) rfl rfl rfl ?_
                    intro a35 H35
                    refine wpList_nil ?_
                    refine block_normal ?_
                    refine then_normal ?_
                    refine wp_region_list ?_
                    refine H35.move gz (.inl rfl) rfl rfl rfl ?_
                    intro a36 H36
                    refine H36.bin gz rfl rfl rfl rfl rfl (succ_i _ (by omega) _ _ _) ?_
                    intro a37 H37
                    refine H37.move gz (.inr rfl) rfl rfl rfl ?_
                    intro a38 H38
                    refine nt ?_
                    exact ⟨hlt, _, (by rw [take_snoc? _ _ _ hx, codesAll_snoc, ← Bool.and_assoc]; exact q239), H38.keep ⟨rfl, rfl, rfl, rfl, trivial⟩, O10⟩
                  · skip
                    repeat (refine wp_seq ?_)
                    refine wp_region_list ?_
                    refine H28.move gz (.inl rfl) rfl rfl rfl ?_
                    intro a29 H29
                    refine H29.field gz rfl rfl rfl rfl field_11 ?_
                    intro a30 H30
                    refine H30.load gz rfl rfl rfl rfl (load1_26 _ _ _ _ _ _ ((O9.get 1 rfl).get 15 _ rfl)) ?_
                    intro a31 H31
                    refine H31.len gz rfl rfl rfl rfl Tryd.underlying26 ?_
                    intro a32 H32
                    refine H32.bin gz rfl rfl rfl rfl rfl (lss_i _ _ false (by simpa using hlt) _ _ _) ?_
                    intro a33 H33
                    refine nt ?_
                    refine H33.condF rfl ?_
                    refine wp_exit ?_
                    repeat (with_reducible refine then_exit ?_)
                    refine block_leave ?_
                    rw [List.take_of_length_le (by omega)] at q4
                    refine block_normal ?_
                    refine then_normal ?_
                    exact ⟨(.slice A1 m.codes.length c1), nilV, nilV, (by rw [hq, show (inRB m.id 1 65535 && codesOk m.codes) = v4 from (list_and _ _ _).symm.trans q4]; exact H33.keep ⟨rfl, rfl, rfl, trivial⟩), (hL.next O9.bel).onlyC (by rw [ho] <;> rfl) (by rw [ho] <;> rfl) (by rw [ho] <;> rfl), O9⟩
              | false =>
                have k9 : ¬ m.kind = 9 := by simpa using h9
                repeat (refine wp_seq ?_)
                refine wp_region_list ?_
                refine H19.bin gz rfl rfl rfl rfl rfl (eql_iB _ _ _ h9 _ _ _) ?_
                intro a20 H20
                refine H20.move gz (.inr rfl) rfl rfl rfl ?_
                intro a21 H21
                refine nt ?_
                refine H21.condF rfl ?_
                obtain ⟨b10, h10⟩ : ∃ b, (m.kind == 10) = b := ⟨_, rfl⟩
                cases b10 with
                | true =>
                  have k10 : m.kind = 10 := by simpa using h10
                  repeat (refine wp_seq ?_)
                  refine wp_region_list ?_
                  refine H21.bin gz rfl rfl rfl rfl rfl (eql_iB _ _ _ h10 _ _ _) ?_
                  intro a22 H22
                  refine H22.move gz (.inr rfl) rfl rfl rfl ?_
                  intro a23 H23
                  refine nt ?_
                  refine H23.condT rfl ?_
                  have ho : onlyOf m = { mq0 m.kind with id := m.id, filters := m.filters } := by unfold onlyOf; rw [if_neg k1, if_neg k2, if_neg k3, if_neg ki, if_neg k8, if_neg k9, if_pos k10]
                  have hq : okOf m = (inRB m.id 1 65535 && filtersOk m.filters) := by unfold okOf; rw [if_neg k1, if_neg k2, if_neg k3, if_neg ki, if_neg k8, if_neg k9, if_pos k10]
                  repeat (refine wp_seq ?_)
                  refine region_copy2 (n := 289) (s1 := 1) (s2 := 3) (s4 := 4) (g1 := w.heap.size) (g2 := w1.heap.size) (B := w.heap.size) (W := w) (L1 := (mqCells m (.slice A1 m.codes.length c1) (.slice A2 m.wishes.length c2) (.slice A3 m.filters.length c3))) (L2 := (mqCells (mq0 m.kind) nilV nilV nilV)) (c := .bool true) (by kernel_rfl) H23.sz H23.df (H23.at_ 1 _ rfl) (H23.at_ 3 _ rfl) (H23.at_ 4 _ rfl) O4.two rfl (back_of (by kernel_rfl)) (edge_of rfl) (edge_of rfl) (edge_of rfl) (edge_of rfl) (edge_of rfl) (edge_of rfl) field_16 field_19 (fun w' hC => load1_i _ _ _ _ (hC.get 20 _ rfl)) (fun w' hC => load1_28 _ _ _ _ _ _ (hC.get 23 _ rfl)) (fun w' L hC hj => by obtain ⟨c1, c2⟩ := hC _ _ (List.getElem?_eq_getElem hj); exact store1_i _ _ _ _ _ c1 c2) (fun w' L hC hj => by obtain ⟨c1, c2⟩ := hC _ _ (List.getElem?_eq_getElem hj); exact store1_28 _ _ _ _ _ _ _ c1 c2) (by decide) (by simp) (by simp) ?_
                  intro a24 w5 sz df e1 e2 e4 hT
                  have H24 := Has.of (l := [(1, .pointer (some ⟨w.heap.size, 0, none⟩)), (3, .pointer (some ⟨w1.heap.size, 0, none⟩)), (4, .bool true)]) sz df ⟨e1, e2, e4, trivial⟩
                  have O5 : Own w w.heap.size [(w1.heap.size, (mqCells (onlyOf m) nilV nilV (.slice A3 m.filters.length c3))), (w.heap.size, (mqCells m (.slice A1 m.codes.length c1) (.slice A2 m.wishes.length c2) (.slice A3 m.filters.length c3)))] w5 := by rw [ho]; exact hT.own
                  clear sz df e1 e2 e4 hT
                  refine then_normal ?_
                  repeat (refine wp_seq ?_)
                  refine wp_region_list ?_
                  refine wpList_cut 4 (fun a' w' => ∃ b, inRB m.id 1 65535 = b ∧ Has a' 289 [(1, .pointer (some ⟨w.heap.size, 0, none⟩)), (3, .pointer (some ⟨w1.heap.size, 0, none⟩)), (251, .bool b)] ∧ Own w w.heap.size [(w1.heap.size, (mqCells (onlyOf m) nilV nilV (.slice A3 m.filters.length c3))), (w.heap.size, (mqCells m (.slice A1 m.codes.length c1) (.slice A2 m.wishes.length c2) (.slice A3 m.filters.length c3)))] w') ?_ ?_
                  · skip
                    refine H24.field gz rfl rfl rfl rfl field_16 ?_
                    intro a25 H25
                    refine H25.load gz rfl rfl rfl rfl (load1_i _ _ _ _ ((O5.get 1 rfl).get 20 _ rfl)) ?_
                    intro a26 H26
                    refine H26.call gz rfl rfl rfl rfl (fun _ _ => by kernel_rfl) (quietC (refId m.id _)) ?_
                    rintro a27 _ _ ⟨rfl, rfl⟩ H27
                    refine H27.move gz (.inl rfl) rfl rfl rfl ?_
                    intro a28 H28
                    exact nt ⟨_, by rfl, H28.keep ⟨rfl, rfl, rfl, trivial⟩, O5⟩
                  rintro a25 w6 ⟨v251, q251, H25, O6⟩
                  refine wpList_cut 6 (fun a' w' => ∃ b, (inRB m.id 1 65535 && decide ((1 : Int) ≤ m.filters.length)) = b ∧ Has a' 289 [(1, .pointer (some ⟨w.heap.size, 0, none⟩)), (3, .pointer (some ⟨w1.heap.size, 0, none⟩)), (257, .bool b)] ∧ Own w w.heap.size [(w1.heap.size, (mqCells (onlyOf m) nilV nilV (.slice A3 m.filters.length c3))), (w.heap.size, (mqCells m (.slice A1 m.codes.length c1) (.slice A2 m.wishes.length c2) (.slice A3 m.filters.length c3)))] w') ?_ ?_
                  · skip
                    cases v251 with
                    | false =>
                      refine H25.offs 4 rfl ?_
                      intro a26 H26
                      refine H26.pick gz rfl rfl rfl rfl rfl ?_
                      intro a27 H27
                      refine H27.move gz (.inl rfl) rfl rfl rfl ?_
                      intro a28 H28
                      exact nt ⟨_, by rw [q251] <;> rfl, H28.keep ⟨rfl, rfl, rfl, trivial⟩, O6⟩
                    | true =>
                      refine H25.field (H25.wt rfl rfl rfl) rfl rfl rfl rfl field_19 ?_
                      intro a26 H26
                      refine H26.load (H26.wt rfl rfl rfl) rfl rfl rfl rfl (load1_28 _ _ _ _ _ _ ((O6.get 1 rfl).get 23 _ rfl)) ?_
                      intro a27 H27
                      refine H27.len (H27.wt rfl rfl rfl) rfl rfl rfl rfl Tryd.underlying28 ?_
                      intro a28 H28
                      refine H28.bin (H28.wt rfl rfl rfl) rfl rfl rfl rfl rfl (geq_i _ _ _ rfl _ _ _) ?_
                      intro a29 H29
                      refine H29.pick gz rfl rfl rfl rfl rfl ?_
                      intro a30 H30
                      refine H30.move gz (.inl rfl) rfl rfl rfl ?_
                      intro a31 H31
                      exact nt ⟨_, by rw [q251] <;> rfl, H31.keep ⟨rfl, rfl, rfl, trivial⟩, O6⟩
                  rintro a26 w7 ⟨v257, q257, H26, O7⟩
                  refine wpList_cut 5 (fun a' w' => ∃ b, ((inRB m.id 1 65535 && decide ((1 : Int) ≤ m.filters.length)) && decide ((m.filters.length : Int) ≤ 8)) = b ∧ Has a' 289 [(1, .pointer (some ⟨w.heap.size, 0, none⟩)), (3, .pointer (some ⟨w1.heap.size, 0, none⟩)), (262, .bool b)] ∧ Own w w.heap.size [(w1.heap.size, (mqCells (onlyOf m) nilV nilV (.slice A3 m.filters.length c3))), (w.heap.size, (mqCells m (.slice A1 m.codes.length c1) (.slice A2 m.wishes.length c2) (.slice A3 m.filters.length c3)))] w') ?_ ?_
                  · skip
                    cases v257 with
                    | false =>
                      refine H26.offs 4 rfl ?_
                      intro a27 H27
                      refine H27.pick gz rfl rfl rfl rfl rfl ?_
                      intro a28 H28
                      exact nt ⟨_, by rw [q257] <;> rfl, H28.keep ⟨rfl, rfl, rfl, trivial⟩, O7⟩
                    | true =>
                      refine H26.field (H26.wt rfl rfl rfl) rfl rfl rfl rfl field_19 ?_
                      intro a27 H27
                      refine H27.load (H27.wt rfl rfl rfl) rfl rfl rfl rfl (load1_28 _ _ _ _ _ _ ((O7.get 1 rfl).get 23 _ rfl)) ?_
                      intro a28 H28
                      refine H28.len (H28.wt rfl rfl rfl) rfl rfl rfl rfl Tryd.underlying28 ?_
                      intro a29 H29
                      refine H29.bin (H29.wt rfl rfl rfl) rfl rfl rfl rfl rfl (leq_i _ _ _ rfl _ _ _) ?_
                      intro a30 H30
                      refine H30.pick gz rfl rfl rfl rfl rfl ?_
                      intro a31 H31
                      exact nt ⟨_, by rw [q257] <;> rfl, H31.keep ⟨rfl, rfl, rfl, trivial⟩, O7⟩
                  rintro a27 w8 ⟨v262, q262, H27, O8⟩
                  refine H27.move gz (.inr rfl) rfl rfl rfl ?_
                  intro a28 H28
                  refine nt ?_
                  repeat (refine wp_seq ?_)
                  refine wp_region_list ?_
                  refine H28.move gz (.inr rfl) rfl rfl rfl ?_
                  intro a29 H29
                  refine nt ?_
                  refine wp_block ?_
                  refine wp_loop_up m.filters.length (fun k a w' => ∃ b, (((inRB m.id 1 65535 && decide ((1 : Int) ≤ m.filters.length)) && decide ((m.filters.length : Int) ≤ 8)) && filtersAll (m.filters.take k)) = b ∧ Has a 289 [(1, .pointer (some ⟨w.heap.size, 0, none⟩)), (3, .pointer (some ⟨w1.heap.size, 0, none⟩)), (4, .bool b), (6, .int .i64 ((k : Nat) : Int))] ∧ Own w w.heap.size [(w1.heap.size, (mqCells (onlyOf m) nilV nilV (.slice A3 m.filters.length c3))), (w.heap.size, (mqCells m (.slice A1 m.codes.length c1) (.slice A2 m.wishes.length c2) (.slice A3 m.filters.length c3)))] w') ?_ ?_
                  · exact ⟨_, (by rw [List.take_zero, q262]; simp [filtersAll]), H29.keep ⟨rfl, rfl, rfl, rfl, trivial⟩, O8⟩
                  · rintro k a30 w9 hkn ⟨v4, q4, H30, O9⟩
                    by_cases hlt : k < m.filters.length
                    · skip
                      repeat (refine wp_seq ?_)
                      refine wp_region_list ?_
                      refine H30.move gz (.inl rfl) rfl rfl rfl ?_
                      intro a31 H31
                      refine H31.field gz rfl rfl rfl rfl field_19 ?_
                      intro a32 H32
                      refine H32.load gz rfl rfl rfl rfl (load1_28 _ _ _ _ _ _ ((O9.get 1 rfl).get 23 _ rfl)) ?_
                      intro a33 H33
                      refine H33.len gz rfl rfl rfl rfl Tryd.underlying28 ?_
                      intro a34 H34
                      refine H34.bin gz rfl rfl rfl rfl rfl (lss_i _ _ true (by simpa using hlt) _ _ _) ?_
                      intro a35 H35
                      refine nt ?_
                      refine H35.condT rfl ?_
                      refine skip_wp ?_
                      refine then_normal ?_
                      repeat (refine wp_seq ?_)
                      refine wp_block ?_
                      refine wp_region_list ?_
                      obtain ⟨b, o, v, hA, _, hv, hc⟩ := (r3.next O9.bel).get1 hlt
                      obtain ⟨x, hx⟩ : ∃ x, m.filters[k]? = some x := ⟨_, List.getElem?_eq_getElem hlt⟩
                      rw [List.getElem?_map, hx] at hv
                      injection hv with hv
                      subst hv
                      refine wpList_cut 9 (fun a' w' => ∃ b, ((((inRB m.id 1 65535 && decide ((1 : Int) ≤ m.filters.length)) && decide ((m.filters.length : Int) ≤ 8)) && filtersAll (m.filters.take k)) && textOk x 1 64) = b ∧ Has a' 289 [(1, .pointer (some ⟨w.heap.size, 0, none⟩)), (3, .pointer (some ⟨w1.heap.size, 0, none⟩)), (6, .int .i64 ((k : Nat) : Int)), (278, .bool b)] ∧ Own w w.heap.size [(w1.heap.size, (mqCells (onlyOf m) nilV nilV (.slice A3 m.filters.length c3))), (w.heap.size, (mqCells m (.slice A1 m.codes.length c1) (.slice A2 m.wishes.length c2) (.slice A3 m.filters.length c3)))] w') ?_ ?_
                      · skip
                        refine H35.move gz (.inl rfl) rfl rfl rfl ?_
                        intro a36 H36
                        refine H36.move gz (.inl rfl) rfl rfl rfl ?_
                        intro a37 H37
                        cases v4 with
                        | false =>
                          refine H37.offs 6 rfl ?_
                          intro a38 H38
                          refine H38.pick gz rfl rfl rfl rfl rfl ?_
                          intro a39 H39
                          exact nt ⟨_, by rw [q4] <;> rfl, H39.keep ⟨rfl, rfl, rfl, rfl, trivial⟩, O9⟩
                        | true =>
                          refine H37.field (H37.wt rfl rfl rfl) rfl rfl rfl rfl field_19 ?_
                          intro a38 H38
                          refine H38.load (H38.wt rfl rfl rfl) rfl rfl rfl rfl (load1_28 _ _ _ _ _ _ ((O9.get 1 rfl).get 23 _ rfl)) ?_
                          intro a39 H39
                          refine H39.move (H39.wt rfl rfl rfl) (.inl rfl) rfl rfl rfl ?_
                          intro a40 H40
                          refine H40.index (H40.wt rfl rfl rfl) rfl rfl rfl rfl rfl (show (Instr.indexAt 28 (.slice A3 m.filters.length c3) (.int .i64 ((k : Nat) : Int))).run Tryd.prog _ = .ok (.pointer (some ⟨b, o + k, none⟩)) _ by rw [hA]; exact index_1 28 Tryd.underlying28 (fun _ => by kernel_rfl) _ _ _ _ _ hlt _) ?_
                          intro a41 H41
                          refine H41.load (H41.wt rfl rfl rfl) rfl rfl rfl rfl (load1_s _ _ _ _ hc) ?_
                          intro a42 H42
                          refine H42.call (H42.wt rfl rfl rfl) rfl rfl rfl rfl (fun _ _ => by kernel_rfl) (belowC (refTextV x (hF.filters x (List.mem_of_getElem? hx)) 1 64 _ (hW.below O9.bel))) ?_
                          rintro a43 _ w10 ⟨rfl, hb⟩ H43
                          have O10 := O9.call hb
                          clear hb
                          refine H43.pick gz rfl rfl rfl rfl rfl ?_
                          intro a44 H44
                          exact nt ⟨_, by rw [q4] <;> rfl, H44.keep ⟨rfl, rfl, rfl, rfl, trivial⟩, O10⟩
                      rintro a36 w10 ⟨v278, q278, H36, O10⟩
                      refine H36.move gz (.inr rfl) rfl rfl rfl ?_
                      intro a37 H37
                      refine wpList_nil ?_
                      refine block_normal ?_
                      refine then_normal ?_
                      refine wp_region_list ?_
                      refine H37.move gz (.inl rfl) rfl rfl rfl ?_
                      intro a38 H38
                      refine H38.bin gz rfl rfl rfl rfl rfl (succ_i _ (by omega) _ _ _) ?_
                      intro a39 H39
                      refine H39.move gz (.inr rfl) rfl rfl rfl ?_
                      intro a40 H40
                      refine nt ?_
                      exact ⟨hlt, _, (by rw [take_snoc? _ _ _ hx, filtersAll_snoc, ← Bool.and_assoc]; exact q278), H40.keep ⟨rfl, rfl, rfl, rfl, trivial⟩, O10⟩
                    · skip
                      repeat (refine wp_seq ?_)
                      refine wp_region_list ?_
                      refine H30.move gz (.inl rfl) rfl rfl rfl ?_
                      intro a31 H31
                      refine H31.field gz rfl rfl rfl rfl field_19 ?_
                      intro a32 H32
                      refine H32.load gz rfl rfl rfl rfl (load1_28 _ _ _ _ _ _ ((O9.get 1 rfl).get 23 _ rfl)) ?_
                      intro a33 H33
                      refine H33.len gz rfl rfl rfl rfl Tryd.underlying28 ?_
                      intro a34 H34
                      refine H34.bin gz rfl rfl rfl rfl rfl (lss_i _ _ false (by simpa using hlt) _ _ _) ?_
                      intro a35 H35
                      refine nt ?_
                      refine H35.condF rfl ?_
                      refine wp_exit ?_
                      repeat (with_reducible refine then_exit ?_)
                      refine block_leave ?_
                      rw [List.take_of_length_le (by omega)] at q4
                      refine block_normal ?_
                      refine then_normal ?_
                      exact ⟨nilV, nilV, (.slice A3 m.filters.length c3), (by rw [hq, show (inRB m.id 1 65535 && filtersOk m.filters) = v4 from (list_and _ _ _).symm.trans q4]; exact H35.keep ⟨rfl, rfl, rfl, trivial⟩), (hL.next O9.bel).onlyF (by rw [ho] <;> rfl) (by rw [ho] <;> rfl) (by rw [ho] <;> rfl), O9⟩
                | false =>
                  have k10 : ¬ m.kind = 10 := by simpa using h10
                  repeat (refine wp_seq ?_)
                  refine wp_region_list ?_
                  refine H21.bin gz rfl rfl rfl rfl rfl (eql_iB _ _ _ h10 _ _ _) ?_
                  intro a22 H22
                  refine H22.move gz (.inr rfl) rfl rfl rfl ?_
                  intro a23 H23
                  refine nt ?_
                  refine H23.condF rfl ?_
                  refine wp_seq_join (fun a w' => ∃ b, bareKind m.kind = b ∧ Has a 289 [(1, .pointer (some ⟨w.heap.size, 0, none⟩)), (3, .pointer (some ⟨w1.heap.size, 0, none⟩)), (4, .bool true), (11, .int .i64 m.kind), (279, .bool b)] ∧ Own w w.heap.size [(w1.heap.size, (mqCells (mq0 m.kind) nilV nilV nilV)), (w.heap.size, (mqCells m (.slice A1 m.codes.length c1) (.slice A2 m.wishes.length c2) (.slice A3 m.filters.length c3)))] w') ?_ ?_
                  · skip
                    obtain ⟨b12, h12⟩ : ∃ b, (m.kind == 12) = b := ⟨_, rfl⟩
                    cases b12 with
                    | true =>
                      repeat (refine wp_seq ?_)
                      refine wp_region_list ?_
                      refine H23.bin gz rfl rfl rfl rfl rfl (eql_iB _ _ _ h12 _ _ _) ?_
                      intro a24 H24
                      refine H24.move gz (.inr rfl) rfl rfl rfl ?_
                      intro a25 H25
                      refine nt ?_
                      refine H25.condT rfl ?_
                      refine skip_wp ?_
                      refine then_normal ?_
                      exact ⟨_, (by unfold bareKind; rw [h12] <;> rfl), H25.keep ⟨rfl, rfl, rfl, rfl, rfl, trivial⟩, O4⟩
                    | false =>
                      repeat (refine wp_seq ?_)
                      refine wp_region_list ?_
                      refine H23.bin gz rfl rfl rfl rfl rfl (eql_iB _ _ _ h12 _ _ _) ?_
                      intro a24 H24
                      refine H24.move gz (.inr rfl) rfl rfl rfl ?_
                      intro a25 H25
                      refine nt ?_
                      refine H25.condF rfl ?_
                      obtain ⟨b13, h13⟩ : ∃ b, (m.kind == 13) = b := ⟨_, rfl⟩
                      cases b13 with
                      | true =>
                        repeat (refine wp_seq ?_)
                        refine wp_region_list ?_
                        refine H25.bin gz rfl rfl rfl rfl rfl (eql_iB _ _ _ h13 _ _ _) ?_
                        intro a26 H26
                        refine H26.move gz (.inr rfl) rfl rfl rfl ?_
                        intro a27 H27
                        refine nt ?_
                        refine H27.condT rfl ?_
                        refine skip_wp ?_
                        refine then_normal ?_
                        exact ⟨_, (by unfold bareKind; rw [h12, h13] <;> rfl), H27.keep ⟨rfl, rfl, rfl, rfl, rfl, trivial⟩, O4⟩
                      | false =>
                        repeat (refine wp_seq ?_)
                        refine wp_region_list ?_
                        refine H25.bin gz rfl rfl rfl rfl rfl (eql_iB _ _ _ h13 _ _ _) ?_
                        intro a26 H26
                        refine H26.move gz (.inr rfl) rfl rfl rfl ?_
                        intro a27 H27
                        refine nt ?_
                        refine H27.condF rfl ?_
                        obtain ⟨b14, h14⟩ : ∃ b, (m.kind == 14) = b := ⟨_, rfl⟩
                        cases b14 with
                        | true =>
                          repeat (refine wp_seq ?_)
                          refine wp_region_list ?_
                          refine H27.bin gz rfl rfl rfl rfl rfl (eql_iB _ _ _ h14 _ _ _) ?_
                          intro a28 H28
                          refine H28.move gz (.inr rfl) rfl rfl rfl ?_
                          intro a29 H29
                          refine nt ?_
                          exact ⟨_, (by unfold bareKind; rw [h12, h13, h14] <;> rfl), H29.keep ⟨rfl, rfl, rfl, rfl, rfl, trivial⟩, O4⟩
                        | false =>
                          repeat (refine wp_seq ?_)
                          refine wp_region_list ?_
                          refine H27.bin gz rfl rfl rfl rfl rfl (eql_iB _ _ _ h14 _ _ _) ?_
                          intro a28 H28
                          refine H28.move gz (.inr rfl) rfl rfl rfl ?_
                          intro a29 H29
                          refine nt ?_
                          exact ⟨_, (by unfold bareKind; rw [h12, h13, h14] <;> rfl), H29.keep ⟨rfl, rfl, rfl, rfl, rfl, trivial⟩, O4⟩
                  rintro a24 w5 ⟨v279, q279, H24, O5⟩
                  cases v279 with
                  | true =>
                    refine H24.condT rfl ?_
                    refine skip_wp ?_
                    have ho : onlyOf m = mq0 m.kind := by unfold onlyOf; rw [if_neg k1, if_neg k2, if_neg k3, if_neg ki, if_neg k8, if_neg k9, if_neg k10]
                    have hq : okOf m = bareKind m.kind := by unfold okOf; rw [if_neg k1, if_neg k2, if_neg k3, if_neg ki, if_neg k8, if_neg k9, if_neg k10]
                    have O5 : Own w w.heap.size [(w1.heap.size, (mqCells (onlyOf m) nilV nilV nilV)), (w.heap.size, (mqCells m (.slice A1 m.codes.length c1) (.slice A2 m.wishes.length c2) (.slice A3 m.filters.length c3)))] w5 := by rw [ho]; exact O5
                    refine block_normal ?_
                    refine then_normal ?_
                    exact ⟨nilV, nilV, nilV, (by rw [hq, q279]; exact H24.keep ⟨rfl, rfl, rfl, trivial⟩), MqL.nil (by rw [ho] <;> rfl) (by rw [ho] <;> rfl) (by rw [ho] <;> rfl), O5⟩
                  | false =>
                    refine H24.condF rfl ?_
                    have ho : onlyOf m = mq0 m.kind := by unfold onlyOf; rw [if_neg k1, if_neg k2, if_neg k3, if_neg ki, if_neg k8, if_neg k9, if_neg k10]
                    have hq : okOf m = bareKind m.kind := by unfold okOf; rw [if_neg k1, if_neg k2, if_neg k3, if_neg ki, if_neg k8, if_neg k9, if_neg k10]
                    repeat (refine wp_seq ?_)
                    refine wp_region_list ?_
                    refine H24.move gz (.inr rfl) rfl rfl rfl ?_
                    intro a25 H25
                    refine nt ?_
                    refine wp_ret ?_
                    repeat (first | (with_reducible refine block_ret ?_) | (with_reducible refine then_ret ?_))
                    refine bodyPost_ret (results_tmp rfl _ _ _) H25.df ⟨?_, O5.bel⟩
                    have hm : mayBb m = false := by unfold mayBb; rw [hq, q279]; rfl
                    rw [hm]
                    exact congrArg Ending.returned (H25.at_ 2 _ rfl)
  rintro a9 w4 ⟨vc', vw', vf', H9, hM, O4⟩
  obtain ⟨vo, qo⟩ : ∃ b, okOf m = b := ⟨_, rfl⟩
  rw [qo] at H9
  have hm : mayBb m = (vo && Mq.same m (onlyOf m)) := by unfold mayBb; rw [qo]
  repeat (refine wp_seq ?_)
  refine wp_region_list ?_
  cases vo with
  | false =>
    refine H9.move gz (.inl rfl) rfl rfl rfl ?_
    intro a10 H10
    refine H10.move gz (.inl rfl) rfl rfl rfl ?_
    intro a11 H11
    refine H11.offs 3 rfl ?_
    intro a12 H12
    refine H12.pick gz rfl rfl rfl rfl rfl ?_
    intro a13 H13
    refine H13.move gz (.inr rfl) rfl rfl rfl ?_
    intro a14 H14
    refine nt ?_
    refine wp_ret ?_
    repeat (first | (with_reducible refine block_ret ?_) | (with_reducible refine then_ret ?_))
    refine bodyPost_ret (results_tmp rfl _ _ _) H14.df ⟨?_, O4.bel⟩
    rw [hm]
    exact congrArg Ending.returned (H14.at_ 2 _ rfl)
  | true =>
    refine H9.move gz (.inl rfl) rfl rfl rfl ?_
    intro a10 H10
    refine H10.move gz (.inl rfl) rfl rfl rfl ?_
    intro a11 H11
    refine H11.go (H11.wt rfl rfl rfl) rfl rfl _ (run_load rfl (H11.ev rfl) (loadS_run (O4.get 0 rfl))) ?_
    intro a12 H12
    refine H12.go (H12.wt rfl rfl rfl) rfl rfl _ (run_load rfl (H12.ev rfl) (loadS_run (O4.get 1 rfl))) ?_
    intro a13 H13
    refine H13.call (H13.wt rfl rfl rfl) rfl rfl rfl rfl (fun _ _ => by kernel_rfl) (belowC (refEqMq (onlyOf m) m _ _ _ _ _ _ _ hM (hL.next O4.bel))) ?_
    rintro a14 _ w5 ⟨rfl, hb⟩ H14
    have O5 := O4.call hb
    clear hb
    refine H14.pick gz rfl rfl rfl rfl rfl ?_
    intro a15 H15
    refine H15.move gz (.inr rfl) rfl rfl rfl ?_
    intro a16 H16
    refine nt ?_
    refine wp_ret ?_
    repeat (first | (with_reducible refine block_ret ?_) | (with_reducible refine then_ret ?_))
    refine bodyPost_ret (results_tmp rfl _ _ _) H16.df ⟨?_, O5.bel⟩
    rw [hm]
    rw [same_symm m (onlyOf m)]
    exact congrArg Ending.returned (H16.at_ 2 _ rfl)
end Go.Proofs.YtkcdkjpmbjcmdaaDoor

/-
  pack.Lay, pack.Bytes.
-/
namespace Go.Proofs.YtkcdkjpmbjcmdaaDoor
open Go.RowKit

theorem or16 (k f : Nat) (hf : f < 16) : (16 * k ||| f) = 16 * k + f := (Nat.two_pow_add_eq_or_of_lt (i := 4) (by omega) k).symm
theorem shl4 (k : Int) (h0 : 0 ≤ k) (h1 : k ≤ 14) (x y : Operand) (w : World) : (do eqGuard .shl 3 x y (.int .i64 k) (.int .u64 4); binOp .shl 3 (.int .i64 k) (.int .u64 4) : Sem Value).run Tryd.prog w = .ok (.int .i64 ((16 * k.toNat : Nat) : Int)) w := by
  have e : IntKind.i64.wrap (k * 16) = ((16 * k.toNat : Nat) : Int) := by rw [IntWalk.i64_in _ (by omega)]; omega
  simp [go_sem]
  rw [e]
  omega
theorem shr7 (n : Nat) (_h : n < 16384) (x y : Operand) (w : World) : (do eqGuard .shr 3 x y (.int .i64 (n : Int)) (.int .u64 7); binOp .shr 3 (.int .i64 (n : Int)) (.int .u64 7) : Sem Value).run Tryd.prog w = .ok (.int .i64 ((n / 128 : Nat) : Int)) w := by
  simp [go_sem]
set_option maxRecDepth 100000 in
theorem or128_u8 (x : Fin 256) : bits .or .u8 (x.val : Int) 128 = ((x.val % 128 + 128 : Nat) : Int) := by
  revert x
  decide
theorem or128 (n : Nat) (x y : Operand) (w : World) : (do eqGuard .or 5 x y (.int .u8 ((n : Int) % 256)) (.int .u8 128); binOp .or 5 (.int .u8 ((n : Int) % 256)) (.int .u8 128) : Sem Value).run Tryd.prog w = .ok (.int .u8 ((n % 128 + 128 : Nat) : Int)) w := by
  have e := or128_u8 ⟨n % 256, by omega⟩
  have e2 : (((⟨n % 256, by omega⟩ : Fin 256).val : Nat) : Int) = (n : Int) % 256 := by simp
  have e3 : n % 256 % 128 = n % 128 := by omega
  simp only [e3] at e
  rw [← e]
  simp [go_sem]
theorem bv_nat (n : Nat) (h : n < 256) : Value.int .u8 (n : Int) = bv (UInt8.ofNat n) := by
  unfold bv
  rw [UInt8.toNat_ofNat', Nat.mod_eq_of_lt (by simpa using h)]
theorem vlen_step (n : Nat) (h : 128 ≤ n) : vlen n = UInt8.ofNat (n % 128 + 128) :: vlen (n / 128) := by
  conv => lhs; unfold vlen
  rw [if_neg (by omega)]
theorem vlen_pos (n : Nat) : 0 < (vlen n).length := by
  unfold vlen
  split <;> simp
/-- a literal of bytes is a row of one's own. -/
theorem row_lit (w : World) (b : Nat) (hb : b ≤ w.heap.size) (xs : List UInt8) (vs : List Value) (h : vs = xs.map bv) (k : Nat) (hk : xs.length = k) (hm : k ≤ 1000) : RowIs b xs (.slice (some ⟨w.heap.size, 0, none⟩) k k) (w.alloc (.cells vs.toArray 5)) := by
  subst hk h
  refine ⟨_, _, rfl, by simp, .inr ⟨w.heap.size, xs.length, _, rfl, hb, heap_alloc_new w _, Nat.le_refl _, ?_, by simp, ?_⟩⟩
  · unfold maxLen; omega
  · rw [Nat.mul_one, List.take_of_length_le (by simp)]
theorem Has.lit {P : Program} {ops : Array Oper} {rest : List Oper} {o : Oper} {a : Act} {w : World} {Q : Exit → Act → World → Prop} {n : Nat} {l : List (Nat × Value)} (H : Has a n l) (hw : Region.wanted o (yielded ops a.tmps) = true) {d k : Nat} (hd : o.dst = some d) (hn : Nat.blt d n = true) (xs : List UInt8) (vs : List Value) (hxs : vs = xs.map bv) (hk : xs.length = k) (_e : TypeId) (hs : ∀ cs b, o.op ≠ .select cs b) (hops : o.op.operands.all (fun x => (evL l x).isSome) = true)
    (hrun : (execOp (fun x => (evL l x).getD undef) o).run P w = .ok (.value (.slice (some ⟨w.heap.size, 0, none⟩) k k)) (w.alloc (.cells vs.toArray 5))) {b : Nat} (hb : b ≤ w.heap.size) (h : ∀ a' v w', Has a' n ((d, v) :: l) → RowIs b xs v w' → Below w.heap.size w w' → wpList P ops Q rest a' w') (hm : k ≤ 1000 := by decide) : wpList P ops Q (o :: rest) a w :=
  H.go hw hd hn _ (run_any H hs hops hrun) (fun a' H' => h a' _ _ H' (row_lit w b hb xs vs hxs k hk hm) (balloc w _))
theorem bodyC (m : Mq) (vc vw vf : Value) (w : World) (hm : mayB m) (hL : MqL w w.heap.size m vc vw vf) :
    Calls Tryd.prog 74 #[.agg (mqCells m vc vw vf).toArray] w fun e w' => ∃ v, e = .returned v ∧ (∃ vb, v = .tuple #[.int .i64 ((flagsBy m : Nat) : Int), vb] ∧ BytesAre (bodyBy m) vb w' ∧ Below w.heap.size w w') := by
  refine (packBody m vc vw vf w hm hL).mono ?_
  rintro e w' ⟨v, rfl, hB, hb⟩
  exact ⟨_, rfl, v, rfl, hB, hb⟩
set_option maxRecDepth 100000 in
set_option maxHeartbeats 3200000 in
theorem packLay (m : Mq) (vc vw vf : Value) (w : World) (hm : mayB m) (hL : MqL w w.heap.size m vc vw vf) :
    Calls Tryd.prog 49 #[.agg (mqCells m vc vw vf).toArray] w (Laid (layB m) w) := by
  have hbl := body_le hm.1
  have hfl := flagsBy_le hm.1
  have hkk := may_kind hm.1
  have hor : ((16 * m.kind.toNat : Nat) ||| flagsBy m) = 16 * m.kind.toNat + flagsBy m := or16 _ _ (by omega)
  go_enter Tryd.func49, Tryd.ntmps49
  refine Has.start 38 [(0, .agg (mqCells m vc vw vf).toArray)] rfl rfl ⟨rfl, trivial⟩ ?_
  intro a0 H0
  have O0 := Own.start w
  repeat (refine wp_seq ?_)
  refine wp_region_list ?_
  refine H0.box rfl rfl rfl rfl rfl ?_
  intro a1 w1 hb hs hC H1
  have O1 := O0.alloc hb hs hC
  clear hb hs hC
  refine H1.move gz (.inr rfl) rfl rfl rfl ?_
  intro a2 H2
  refine nt ?_
  repeat (refine wp_seq ?_)
  refine wp_region_list ?_
  refine H2.loadS rfl rfl rfl rfl rfl (O1.get 0 rfl) Tryd.underlying30 rfl size_mq rfl ?_
  intro a3 H3
  refine H3.call gz rfl rfl rfl rfl (fun _ _ => by kernel_rfl) (bodyC m _ _ _ _ hm (hL.next O1.bel)) ?_
  rintro a4 _ w2 ⟨vb, rfl, hB, hb⟩ H4
  have O2 := O1.call hb
  clear hb
  obtain ⟨Ab, cb', rfl, hrb⟩ := hB
  have HB2 := Base.of O2
  obtain ⟨b0, hb0⟩ : ∃ b0, b0 = w2.heap.size := ⟨_, rfl⟩
  rw [← hb0] at HB2
  have hb0' := hb0
  clear hb0
  rw [← hb0'] at hrb
  refine H4.move gz (.inl rfl) rfl rfl rfl ?_
  intro a5 H5
  refine H5.extract (r := .int .i64 ((flagsBy m : Nat) : Int)) gz rfl rfl rfl rfl (by rfl) ?_
  intro a6 H6
  refine H6.extract (r := .slice Ab (bodyBy m).length cb') gz rfl rfl rfl rfl (by rfl) ?_
  intro a7 H7
  refine H7.move gz (.inr rfl) rfl rfl rfl ?_
  intro a8 H8
  refine H8.move gz (.inr rfl) rfl rfl rfl ?_
  intro a9 H9
  refine nt ?_
  repeat (refine wp_seq ?_)
  refine wp_region_list ?_
  refine H9.field gz rfl rfl rfl rfl field_0 ?_
  intro a10 H10
  refine H10.load gz rfl rfl rfl rfl (load1_i _ _ _ _ ((HB2.get 0 rfl).get 0 _ rfl)) ?_
  intro a11 H11
  refine H11.bin gz rfl rfl rfl rfl rfl (shl4 _ (by omega) (by omega) _ _ _) ?_
  intro a12 H12
  refine H12.move gz (.inl rfl) rfl rfl rfl ?_
  intro a13 H13
  refine H13.bin gz rfl rfl rfl rfl rfl (or_i _ _ (by omega) (by omega) _ _ _) ?_
  intro a14 H14
  refine H14.conv gz rfl rfl rfl rfl (conv_u8 _ _) ?_
  intro a15 H15
  refine H15.lit gz rfl rfl [UInt8.ofNat (16 * m.kind.toNat + flagsBy m)] [.int .u8 ((((16 * m.kind.toNat : Nat) ||| flagsBy m : Nat) : Int) % 256)] (by rw [hor, byte_of_int _ (by omega)]; rfl) (k := 1) rfl 5 (by intro cs b h; cases h) (by kernel_rfl) (by kernel_rfl) HB2.bw ?_
  intro a16 v18 w3 H16 R18 hb
  have HB3 := HB2.call hb
  have hrb := hrb.below (hb.mono HB2.bw)
  clear hb
  refine H16.move gz (.inr rfl) rfl rfl rfl ?_
  intro a17 H17
  refine nt ?_
  repeat (refine wp_seq ?_)
  refine wp_region_list ?_
  refine H17.move gz (.inl rfl) rfl rfl rfl ?_
  intro a18 H18
  refine H18.len gz rfl rfl rfl rfl Tryd.underlying31 ?_
  intro a19 H19
  refine H19.move gz (.inr rfl) rfl rfl rfl ?_
  intro a20 H20
  refine nt ?_
  repeat (refine wp_seq ?_)
  refine wp_block ?_
  refine wp_loop_up 2 (fun k a w' => ∃ n pre v, k < 2 ∧ n < 128 ^ (2 - k) ∧ vlen (bodyBy m).length = pre ++ vlen n ∧ pre.length ≤ 2 ∧ Has a 38 [(1, .pointer (some ⟨w.heap.size, 0, none⟩)), (4, .slice Ab (bodyBy m).length cb'), (5, v), (6, .int .i64 ((n : Nat) : Int))] ∧ RowIs b0 ([UInt8.ofNat (16 * m.kind.toNat + flagsBy m)] ++ pre) v w' ∧ RB w' b0 Ab (bodyBy m) ∧ Base w b0 [(w.heap.size, (mqCells m vc vw vf))] w') ?_ ?_
  · exact ⟨_, [], _, by omega, by omega, rfl, by simp, H20.keep ⟨rfl, rfl, rfl, rfl, trivial⟩, by simpa using R18, hrb, HB3⟩
  · rintro k a21 w4 hkn ⟨n, pre, v5, hk2, hn, hpre, hpl, H21, R5, hrb, HB4⟩
    have hn2 : n < 16384 := by
      rcases Nat.lt_or_ge k 1 with h | h
      · obtain rfl : k = 0 := by omega
        omega
      · obtain rfl : k = 1 := by omega
        omega
    by_cases hlt : 128 ≤ n
    · skip
      have hk0 : k = 0 := by
        rcases Nat.lt_or_ge k 1 with h | h
        · omega
        · obtain rfl : k = 1 := by omega
          omega
      subst hk0
      repeat (refine wp_seq ?_)
      refine wp_region_list ?_
      refine H21.move gz (.inl rfl) rfl rfl rfl ?_
      intro a22 H22
      refine H22.bin gz rfl rfl rfl rfl rfl (geq_i _ _ true (by simp; omega) _ _ _) ?_
      intro a23 H23
      refine nt ?_
      repeat (refine wp_seq ?_)
      refine H23.condT rfl ?_
      refine skip_wp ?_
      refine then_normal ?_
      repeat (refine wp_seq ?_)
      refine wp_block ?_
      refine wp_region_list ?_
      refine H23.move gz (.inl rfl) rfl rfl rfl ?_
      intro a24 H24
      refine H24.move gz (.inl rfl) rfl rfl rfl ?_
      intro a25 H25
      refine H25.conv gz rfl rfl rfl rfl (conv_u8 _ _) ?_
      intro a26 H26
      refine H26.bin gz rfl rfl rfl rfl rfl (or128 n _ _ _) ?_
      intro a27 H27
      refine H27.lit gz rfl rfl [UInt8.ofNat (n % 128 + 128)] [.int .u8 ((n % 128 + 128 : Nat) : Int)] (by rw [bv_nat _ (by omega)]; rfl) (k := 1) rfl 5 (by intro cs b h; cases h) (by kernel_rfl) (by kernel_rfl) HB4.bw ?_
      intro a28 v29 w5 H28 R29 hb
      have HB5 := HB4.call hb
      have R5 := R5.below hb
      have hrb := hrb.below (hb.mono HB4.bw)
      clear hb
      refine H28.appendRow Tryd.underlying31 info_u8 gz rfl rfl rfl rfl rfl R5 R29.read (by simp; omega) HB5.bw ?_
      intro a29 v30 w6 H29 R30 hb _
      have HB6 := HB5.step hb
      have hrb := hrb.below hb
      clear hb
      refine H29.move gz (.inr rfl) rfl rfl rfl ?_
      intro a30 H30
      refine wpList_nil ?_
      refine block_normal ?_
      refine then_normal ?_
      refine wp_region_list ?_
      refine H30.move gz (.inl rfl) rfl rfl rfl ?_
      intro a31 H31
      refine H31.bin gz rfl rfl rfl rfl rfl (shr7 n hn2 _ _ _) ?_
      intro a32 H32
      refine H32.move gz (.inr rfl) rfl rfl rfl ?_
      intro a33 H33
      refine nt ?_
      refine ⟨by omega, n / 128, pre ++ [UInt8.ofNat (n % 128 + 128)], _, by omega, by omega, ?_, ?_, H33.keep ⟨rfl, rfl, rfl, rfl, trivial⟩, (by rw [← List.append_assoc]; exact R30), hrb, HB6⟩
      · rw [hpre, vlen_step _ hlt, List.append_assoc]; rfl
      · have : pre = [] := by
          have h1 := congrArg List.length hpre
          rw [vlen_step _ hlt] at h1
          have h2 := vlen_le (bodyBy m).length (by omega)
          have h3 := vlen_pos (n / 128)
          simp only [List.length_append, List.length_cons] at h1
          exact List.eq_nil_of_length_eq_zero (by omega)
        rw [this]; simp
    · skip
      repeat (refine wp_seq ?_)
      refine wp_region_list ?_
      refine H21.move gz (.inl rfl) rfl rfl rfl ?_
      intro a22 H22
      refine H22.bin gz rfl rfl rfl rfl rfl (geq_i _ _ false (by simp; omega) _ _ _) ?_
      intro a23 H23
      refine nt ?_
      repeat (refine wp_seq ?_)
      refine H23.condF rfl ?_
      refine wp_exit ?_
      repeat (with_reducible refine then_exit ?_)
      refine block_leave ?_
      refine then_normal ?_
      repeat (refine wp_seq ?_)
      refine wp_region_list ?_
      refine H23.move gz (.inl rfl) rfl rfl rfl ?_
      intro a24 H24
      refine H24.move gz (.inl rfl) rfl rfl rfl ?_
      intro a25 H25
      refine H25.conv gz rfl rfl rfl rfl (conv_u8 _ _) ?_
      intro a26 H26
      refine H26.lit gz rfl rfl [UInt8.ofNat n] [.int .u8 ((n : Int) % 256)] (by rw [byte_of_int _ (by omega)]; rfl) (k := 1) rfl 5 (by intro cs b h; cases h) (by kernel_rfl) (by kernel_rfl) HB4.bw ?_
      intro a27 v34 w5 H27 R34 hb
      have HB5 := HB4.call hb
      have R5 := R5.below hb
      have hrb := hrb.below (hb.mono HB4.bw)
      clear hb
      refine H27.appendRow Tryd.underlying31 info_u8 gz rfl rfl rfl rfl rfl R5 R34.read (by simp; omega) HB5.bw ?_
      intro a28 v35 w6 H28 R35 hb _
      have HB6 := HB5.step hb
      have hrb := hrb.below hb
      clear hb
      refine H28.move gz (.inl rfl) rfl rfl rfl ?_
      intro a29 H29
      refine H29.appendRow Tryd.underlying31 info_u8 gz rfl rfl rfl rfl rfl R35 ⟨_, _, rfl, hrb.more HB6.bw⟩ (by simp; omega) HB6.bw ?_
      intro a30 v37 w7 H30 R37 hb _
      have HB7 := HB6.step hb
      have hrb := hrb.below hb
      clear hb
      refine H30.move gz (.inr rfl) rfl rfl rfl ?_
      intro a31 H31
      refine nt ?_
      refine wp_ret ?_
      repeat (first | (with_reducible refine block_ret ?_) | (with_reducible refine then_ret ?_))
      refine bodyPost_ret (results_tmp rfl _ _ _) H31.df ⟨_, congrArg Ending.returned (H31.at_ 2 _ rfl), ?_, HB7.own.bel⟩
      have e : layB m = (([UInt8.ofNat (16 * m.kind.toNat + flagsBy m)] ++ pre) ++ [UInt8.ofNat n]) ++ bodyBy m := by
        unfold layB; rw [hpre, vlen_short _ (by omega)]; simp
      rw [e]; exact R37.base HB7.hb
/-- what 'Bytes' answers. -/
def BytesSaid (m : Mq) (w : World) (e : Ending) (w' : World) : Prop :=
  (mayB m ∧ ∃ v, e = .returned (.tuple #[v, .int .i64 0]) ∧ RowIs w.heap.size (layB m) v w' ∧ Below w.heap.size w w') ∨ (¬ mayB m ∧ e = .returned (.tuple #[.slice none 0 0, .int .i64 1]) ∧ Below w.heap.size w w')
set_option maxRecDepth 100000 in
set_option maxHeartbeats 3200000 in
theorem packBytes (m : Mq) (vc vw vf : Value) (w : World) (hL : MqL w w.heap.size m vc vw vf) (hF : MqFit m) (hW : Wd w) :
    Calls Tryd.prog 24 #[.agg (mqCells m vc vw vf).toArray] w (BytesSaid m w) := by
  cases hb : mayBb m
  · go_enter Tryd.func24, Tryd.ntmps24
    refine Has.start 9 [(0, .agg (mqCells m vc vw vf).toArray)] rfl rfl ⟨rfl, trivial⟩ ?_
    intro a0 H0
    have O0 := Own.start w
    repeat (refine wp_seq ?_)
    refine wp_region_list ?_
    refine H0.box rfl rfl rfl rfl rfl ?_
    intro a1 w1 hb hs hC H1
    have O1 := O0.alloc hb hs hC
    clear hb hs hC
    refine H1.move gz (.inr rfl) rfl rfl rfl ?_
    intro a2 H2
    refine H2.move gz (.inr rfl) rfl rfl rfl ?_
    intro a3 H3
    refine nt ?_
    repeat (refine wp_seq ?_)
    refine wp_region_list ?_
    refine H3.loadS rfl rfl rfl rfl rfl (O1.get 0 rfl) Tryd.underlying30 rfl size_mq rfl ?_
    intro a4 H4
    refine H4.call gz rfl rfl rfl rfl (fun _ _ => by kernel_rfl) (belowC (hb ▸ packMay m _ _ _ _ (hL.next O1.bel) hF (hW.below O1.bel))) ?_
    rintro a5 _ w2 ⟨rfl, hb⟩ H5
    have O2 := O1.call hb
    clear hb
    refine H5.un gz rfl rfl rfl rfl rfl ?_
    intro a6 H6
    refine nt ?_
    repeat (refine wp_seq ?_)
    refine H6.condT rfl ?_
    repeat (refine wp_seq ?_)
    refine wp_region_list ?_
    refine H6.move gz (.inr rfl) rfl rfl rfl ?_
    intro a7 H7
    refine H7.move gz (.inr rfl) rfl rfl rfl ?_
    intro a8 H8
    refine nt ?_
    refine wp_ret ?_
    repeat (first | (with_reducible refine block_ret ?_) | (with_reducible refine then_ret ?_))
    exact bodyPost_ret (results_pair rfl _ _ _ (H8.at_ 2 _ rfl) (H8.at_ 3 _ rfl)) H8.df (.inr ⟨(fun h => by rw [(mayBb_iff m).2 h] at hb; cases hb), rfl, O2.bel⟩)
  · go_enter Tryd.func24, Tryd.ntmps24
    refine Has.start 9 [(0, .agg (mqCells m vc vw vf).toArray)] rfl rfl ⟨rfl, trivial⟩ ?_
    intro a0 H0
    have O0 := Own.start w
    repeat (refine wp_seq ?_)
    refine wp_region_list ?_
    refine H0.box rfl rfl rfl rfl rfl ?_
    intro a1 w1 hb hs hC H1
    have O1 := O0.alloc hb hs hC
    clear hb hs hC
    refine H1.move gz (.inr rfl) rfl rfl rfl ?_
    intro a2 H2
    refine H2.move gz (.inr rfl) rfl rfl rfl ?_
    intro a3 H3
    refine nt ?_
    repeat (refine wp_seq ?_)
    refine wp_region_list ?_
    refine H3.loadS rfl rfl rfl rfl rfl (O1.get 0 rfl) Tryd.underlying30 rfl size_mq rfl ?_
    intro a4 H4
    refine H4.call gz rfl rfl rfl rfl (fun _ _ => by kernel_rfl) (belowC (hb ▸ packMay m _ _ _ _ (hL.next O1.bel) hF (hW.below O1.bel))) ?_
    rintro a5 _ w2 ⟨rfl, hb⟩ H5
    have O2 := O1.call hb
    clear hb
    refine H5.un gz rfl rfl rfl rfl rfl ?_
    intro a6 H6
    refine nt ?_
    repeat (refine wp_seq ?_)
    have hmay := (mayBb_iff m).1 hb
    refine H6.condF rfl ?_
    refine skip_wp ?_
    refine then_normal ?_
    repeat (refine wp_seq ?_)
    refine wp_region_list ?_
    refine H6.loadS rfl rfl rfl rfl rfl (O2.get 0 rfl) Tryd.underlying30 rfl size_mq rfl ?_
    intro a7 H7
    refine H7.call gz rfl rfl rfl rfl (fun _ _ => by kernel_rfl) ((packLay m _ _ _ _ hmay (hL.next O2.bel)).mono fun _ _ h => h.row (Nat.le_refl _)) ?_
    rintro a8 vr w3 ⟨hR, hb2⟩ H8
    have O3 := O2.call hb2
    refine H8.move gz (.inr rfl) rfl rfl rfl ?_
    intro a9 H9
    refine H9.move gz (.inr rfl) rfl rfl rfl ?_
    intro a10 H10
    refine nt ?_
    refine wp_ret ?_
    repeat (first | (with_reducible refine block_ret ?_) | (with_reducible refine then_ret ?_))
    exact bodyPost_ret (results_pair rfl _ _ _ (H10.at_ 2 _ rfl) (H10.at_ 3 _ rfl)) H10.df (.inl ⟨hmay, vr, rfl, hR.base O2.le, O3.bel⟩)
end Go.Proofs.YtkcdkjpmbjcmdaaDoor

/-
  The page's bytes of a packet behind its length.
-/
namespace Go.Proofs.YtkcdkjpmbjcmdaaDoor
open Go.RowKit

/-- a will's cells. -/
abbrev willL (m : Mq) : List Value := [.bool m.won, .string m.wt, .string m.wp, .int .i64 m.wq, .bool m.wr]
theorem zero_will (w : World) : (zeroValue 25).run Tryd.prog w = .ok (.agg ([.bool false, .string nos, .string nos, .int .i64 0, .bool false] : List Value).toArray) w := by kernel_rfl
theorem size_will : (Tryd.prog.info? 25).map (·.size) = some 5 := by kernel_rfl
theorem fieldV_0 (g : Nat) (w : World) : (Instr.fieldAt 25 (.pointer (some ⟨g, 0, none⟩)) 0).run Tryd.prog w = .ok (.pointer (some ⟨g, 0, none⟩)) w := by kernel_rfl
theorem fieldV_1 (g : Nat) (w : World) : (Instr.fieldAt 25 (.pointer (some ⟨g, 0, none⟩)) 1).run Tryd.prog w = .ok (.pointer (some ⟨g, 1, none⟩)) w := by kernel_rfl
theorem fieldV_2 (g : Nat) (w : World) : (Instr.fieldAt 25 (.pointer (some ⟨g, 0, none⟩)) 2).run Tryd.prog w = .ok (.pointer (some ⟨g, 2, none⟩)) w := by kernel_rfl
theorem fieldV_3 (g : Nat) (w : World) : (Instr.fieldAt 25 (.pointer (some ⟨g, 0, none⟩)) 3).run Tryd.prog w = .ok (.pointer (some ⟨g, 3, none⟩)) w := by kernel_rfl
theorem fieldV_4 (g : Nat) (w : World) : (Instr.fieldAt 25 (.pointer (some ⟨g, 0, none⟩)) 4).run Tryd.prog w = .ok (.pointer (some ⟨g, 4, none⟩)) w := by kernel_rfl
theorem fieldO_0 (o g : Nat) (w : World) : (Instr.fieldAt 95 (.pointer (some ⟨g, o, none⟩)) 0).run Tryd.prog w = .ok (.pointer (some ⟨g, o, none⟩)) w := by
  simp [go_sem]
theorem fieldO_1 (o g : Nat) (w : World) : (Instr.fieldAt 95 (.pointer (some ⟨g, o, none⟩)) 1).run Tryd.prog w = .ok (.pointer (some ⟨g, o + 1, none⟩)) w := by
  simp [go_sem]
theorem refBitN (b : Bool) (nI : Int) (n : Nat) (h : nI = (n : Int)) (w : World) : Calls Tryd.prog 56 #[.bool b, .int .u8 nI] w fun e w' => e = .returned (.int .u8 ((cb b n : Nat) : Int)) ∧ w = w' := by
  refine (refBit b nI w).mono ?_
  rintro e w' ⟨rfl, rfl⟩
  refine ⟨?_, rfl⟩
  subst h
  cases b <;> rfl
theorem ofInt_u8 (a : Nat) (ha : a < 256) : (BitVec.ofInt 8 (a : Int)).toNat = a := by
  rw [BitVec.toNat_ofInt]; omega
theorem or_u (a b : Nat) (ha : a < 256) (hb : b < 256) (x y : Operand) (w : World) : (do eqGuard .or 5 x y (.int .u8 (a : Int)) (.int .u8 (b : Int)); binOp .or 5 (.int .u8 (a : Int)) (.int .u8 (b : Int)) : Sem Value).run Tryd.prog w = .ok (.int .u8 ((a ||| b : Nat) : Int)) w := by
  have hx : a ||| b < 256 := or_lt8 ha hb
  have e : bits .or .u8 (a : Int) (b : Int) = ((a ||| b : Nat) : Int) := by
    show IntKind.u8.wrap ((BitVec.ofInt 8 (a : Int) ||| BitVec.ofInt 8 (b : Int)).toNat : Int) = _
    rw [BitVec.toNat_or, ofInt_u8 a ha, ofInt_u8 b hb]
    show ((a ||| b : Nat) : Int) % 256 = _
    omega
  simp [go_sem, e]
theorem shl3_u8 (k : Int) (h0 : 0 ≤ k) (h2 : k ≤ 2) (x y : Operand) (w : World) : (do eqGuard .shl 5 x y (.int .u8 (k % 256)) (.int .u64 3); binOp .shl 5 (.int .u8 (k % 256)) (.int .u64 3) : Sem Value).run Tryd.prog w = .ok (.int .u8 ((k.toNat * 8 : Nat) : Int)) w := by
  have : k = 0 ∨ k = 1 ∨ k = 2 := by omega
  rcases this with rfl | rfl | rfl <;> simp [go_sem] <;> rfl
theorem Base.low {W w w1 : World} {b b' : Nat} {bs : List (Nat × List Value)} (h : Base W b bs w) (hb : b' ≤ b) (O : Own W W.heap.size bs w1) (hs : w1.heap.size = b' := by rfl) : Base W b' bs w :=
  ⟨h.own, Nat.le_trans hb h.bw, hs ▸ O.le, fun p hp => hs ▸ (O.mem p hp).2.1⟩
theorem Base.low2 {W w w1 : World} {b b' : Nat} {x : Nat × List Value} {bs : List (Nat × List Value)} (h : Base W b (x :: bs) w) (hb : b' ≤ b) (O : Own W W.heap.size bs w1) (hs : w1.heap.size = b' := by rfl) : Base W b' bs w := by
  refine ⟨⟨h.own.bel, h.own.le, ?_, fun p hp => h.own.mem p (List.mem_cons_of_mem _ hp)⟩, Nat.le_trans hb h.bw, hs ▸ O.le, fun p hp => hs ▸ (O.mem p hp).2.1⟩
  have := h.own.nd
  rw [List.map_cons, List.nodup_cons] at this
  exact this.2
/-! what a packet that may be has -/
theorem may_conn {m : Mq} (h : okOf m = true) (k1 : m.kind = 1) : m.client.size ≤ 65535 ∧ m.wt.size ≤ 65535 ∧ m.wp.size ≤ 65535 ∧ m.user.size ≤ 65535 ∧ m.pass.size ≤ 65535 ∧ 0 ≤ m.keep ∧ m.keep ≤ 65535 ∧ 0 ≤ m.wq ∧ m.wq ≤ 2 := by
  have hc : connectOk m = true := by unfold okOf at h; rw [if_pos k1] at h; exact h
  simp only [connectOk, Bool.and_eq_true, decide_eq_true_eq] at hc
  obtain ⟨hc, hkp, hw, hu, hps, h1, h2⟩ := hc
  have hc' := textOk_size hc
  have hu' := textOk_size hu
  have hkp := inRB_iff.1 hkp
  have hwq : m.wt.size ≤ 64 ∧ m.wp.size ≤ 128 ∧ 0 ≤ m.wq ∧ m.wq ≤ 2 := by
    unfold willOk at hw
    cases hwon : m.won with
    | true =>
      rw [hwon, if_pos rfl] at hw
      simp only [Bool.and_eq_true, decide_eq_true_eq] at hw
      obtain ⟨a, b, c⟩ := hw
      have := textOk_size a
      have := inRB_iff.1 c
      exact ⟨by omega, by omega, by omega, by omega⟩
    | false =>
      rw [hwon, if_neg (by simp)] at hw
      simp only [Bool.and_eq_true, beq_iff_eq, Bool.not_eq_true'] at hw
      obtain ⟨a, b, c, d⟩ := hw
      rw [emp_nos a, emp_nos b, c]
      exact ⟨by decide, by decide, by decide, by decide⟩
  exact ⟨by omega, by omega, by omega, by omega, by omega, by omega, by omega, by omega, by omega⟩
theorem may_ack {m : Mq} (h : okOf m = true) (k1 : ¬ m.kind = 1) (k2 : m.kind = 2) : 0 ≤ m.code := by
  have hc : (inRB m.code 0 5 && (!m.present || m.code == 0)) = true := by unfold okOf at h; rw [if_neg k1, if_pos k2] at h; exact h
  simp only [Bool.and_eq_true] at hc
  exact (inRB_iff.1 hc.1).1
theorem may_pub {m : Mq} (h : okOf m = true) (k1 : ¬ m.kind = 1) (k2 : ¬ m.kind = 2) (k3 : m.kind = 3) : m.topic.size ≤ 65535 ∧ m.payload.size ≤ 65535 ∧ 0 ≤ m.id ∧ m.id ≤ 65535 := by
  have hc : publishOk m = true := by unfold okOf at h; rw [if_neg k1, if_neg k2, if_pos k3] at h; exact h
  obtain ⟨ht, hq0, hq2, hi, hz, hp⟩ := publish_facts hc
  have : 0 ≤ m.id ∧ m.id ≤ 65535 := by
    by_cases hq : 0 < m.qos
    · have := hi hq; omega
    · have := hz (by omega); omega
  exact ⟨by omega, by omega, this.1, this.2⟩
theorem may_id {m : Mq} (h : okOf m = true) (k1 : ¬ m.kind = 1) (k2 : ¬ m.kind = 2) (k3 : ¬ m.kind = 3) (kb : bareKind m.kind = false) : 0 ≤ m.id ∧ m.id ≤ 65535 := by
  unfold okOf at h
  rw [if_neg k1, if_neg k2, if_neg k3, kb] at h
  have ids : ∀ {n : Int}, inRB n 1 65535 = true → 0 ≤ n ∧ n ≤ 65535 := fun h => by have := inRB_iff.1 h; omega
  split at h
  · exact ids h
  · split at h
    · exact ids (Bool.and_eq_true _ _ ▸ h).1
    · split at h
      · exact ids (Bool.and_eq_true _ _ ▸ h).1
      · split at h
        · exact ids (Bool.and_eq_true _ _ ▸ h).1
        · cases h
/-- what stands ahead of the lists. -/
def preBy (m : Mq) : List UInt8 :=
  if m.kind = 1 then connectBy m
  else if m.kind = 2 then [UInt8.ofNat (cb m.present 1), UInt8.ofNat m.code.toNat]
  else if m.kind = 3 then publishBy m
  else if bareKind m.kind then [] else big 2 m.id.toNat
theorem pre_1 {m : Mq} (k1 : m.kind = 1) : preBy m = connectBy m := by unfold preBy; rw [if_pos k1]
theorem pre_2 {m : Mq} (k2 : m.kind = 2) : preBy m = [UInt8.ofNat (cb m.present 1), UInt8.ofNat m.code.toNat] := by unfold preBy; rw [if_neg (by omega), if_pos k2]
theorem pre_3 {m : Mq} (k3 : m.kind = 3) : preBy m = publishBy m := by unfold preBy; rw [if_neg (by omega), if_neg (by omega), if_pos k3]
theorem pre_b {m : Mq} (k1 : ¬ m.kind = 1) (k2 : ¬ m.kind = 2) (k3 : ¬ m.kind = 3) (kb : bareKind m.kind = true) : preBy m = [] := by unfold preBy; rw [if_neg k1, if_neg k2, if_neg k3, if_pos kb]
theorem pre_i {m : Mq} (k1 : ¬ m.kind = 1) (k2 : ¬ m.kind = 2) (k3 : ¬ m.kind = 3) (kb : bareKind m.kind = false) : preBy m = big 2 m.id.toNat := by unfold preBy; rw [if_neg k1, if_neg k2, if_neg k3, if_neg (by simp [kb])]
/-- the lists of a packet that may be. -/
theorem may_lists {m : Mq} (hm : mayB m) : wishesAll m.wishes = true ∧ m.wishes.length ≤ 8 ∧ codesAll m.codes = true ∧ m.codes.length ≤ 8 ∧ filtersAll m.filters = true ∧ m.filters.length ≤ 8 := by
  obtain ⟨h, ho⟩ := hm
  unfold okOf at h
  unfold onlyOf at ho
  have hw := congrArg Mq.wishes ho
  have hc := congrArg Mq.codes ho
  have hf := congrArg Mq.filters ho
  by_cases k1 : m.kind = 1
  · simp only [if_pos k1] at hw hc hf
    rw [hw, hc, hf]; exact ⟨rfl, Nat.zero_le 8, rfl, Nat.zero_le 8, rfl, Nat.zero_le 8⟩
  by_cases k2 : m.kind = 2
  · simp only [if_neg k1, if_pos k2] at hw hc hf
    rw [hw, hc, hf]; exact ⟨rfl, Nat.zero_le 8, rfl, Nat.zero_le 8, rfl, Nat.zero_le 8⟩
  by_cases k3 : m.kind = 3
  · simp only [if_neg k1, if_neg k2, if_pos k3] at hw hc hf
    rw [hw, hc, hf]; exact ⟨rfl, Nat.zero_le 8, rfl, Nat.zero_le 8, rfl, Nat.zero_le 8⟩
  by_cases ki : idKind m.kind = true
  · simp only [if_neg k1, if_neg k2, if_neg k3, if_pos ki] at hw hc hf
    rw [hw, hc, hf]; exact ⟨rfl, Nat.zero_le 8, rfl, Nat.zero_le 8, rfl, Nat.zero_le 8⟩
  by_cases k8 : m.kind = 8
  · simp only [if_neg k1, if_neg k2, if_neg k3, if_neg ki, if_pos k8, Bool.and_eq_true, wishesOk] at h hw hc hf
    have := inRB_iff.1 h.2.2
    rw [hc, hf]; exact ⟨h.2.1, by omega, rfl, Nat.zero_le 8, rfl, Nat.zero_le 8⟩
  by_cases k9 : m.kind = 9
  · simp only [if_neg k1, if_neg k2, if_neg k3, if_neg ki, if_neg k8, if_pos k9, Bool.and_eq_true, codesOk] at h hw hc hf
    have := inRB_iff.1 h.2.2
    rw [hw, hf]; exact ⟨rfl, Nat.zero_le 8, h.2.1, by omega, rfl, Nat.zero_le 8⟩
  by_cases k10 : m.kind = 10
  · simp only [if_neg k1, if_neg k2, if_neg k3, if_neg ki, if_neg k8, if_neg k9, if_pos k10, Bool.and_eq_true, filtersOk] at h hw hc hf
    have := inRB_iff.1 h.2.2
    rw [hw, hc]; exact ⟨rfl, Nat.zero_le 8, rfl, Nat.zero_le 8, h.2.1, by omega⟩
  simp only [if_neg k1, if_neg k2, if_neg k3, if_neg ki, if_neg k8, if_neg k9, if_neg k10] at hw hc hf
  rw [hw, hc, hf]; exact ⟨rfl, Nat.zero_le 8, rfl, Nat.zero_le 8, rfl, Nat.zero_le 8⟩
theorem body_pre {m : Mq} (hm : mayB m) : bodyBy m = (((preBy m) ++ wishesBy m.wishes) ++ codesBy m.codes) ++ filtersBy m.filters := by
  obtain ⟨h, ho⟩ := hm
  unfold okOf at h
  unfold onlyOf at ho
  have hw := congrArg Mq.wishes ho
  have hc := congrArg Mq.codes ho
  have hf := congrArg Mq.filters ho
  unfold bodyBy preBy
  by_cases k1 : m.kind = 1
  · simp only [if_pos k1] at hw hc hf
    rw [hw, hc, hf, if_pos k1, if_pos k1]; simp [mq0, wishesBy, codesBy, filtersBy]
  by_cases k2 : m.kind = 2
  · simp only [if_neg k1, if_pos k2] at hw hc hf
    rw [hw, hc, hf, if_neg k1, if_pos k2, if_neg k1, if_pos k2]; simp [mq0, wishesBy, codesBy, filtersBy]
  by_cases k3 : m.kind = 3
  · simp only [if_neg k1, if_neg k2, if_pos k3] at hw hc hf
    rw [hw, hc, hf, if_neg k1, if_neg k2, if_pos k3, if_neg k1, if_neg k2, if_pos k3]; simp [mq0, wishesBy, codesBy, filtersBy]
  by_cases ki : idKind m.kind = true
  · simp only [if_neg k1, if_neg k2, if_neg k3, if_pos ki] at hw hc hf
    have hb : ¬ bareKind m.kind = true := by
      simp only [idKind, bareKind, Bool.or_eq_true, beq_iff_eq] at ki ⊢
      omega
    have n8 : ¬ m.kind = 8 := by simp only [idKind, Bool.or_eq_true, beq_iff_eq] at ki; omega
    have n9 : ¬ m.kind = 9 := by simp only [idKind, Bool.or_eq_true, beq_iff_eq] at ki; omega
    have n10 : ¬ m.kind = 10 := by simp only [idKind, Bool.or_eq_true, beq_iff_eq] at ki; omega
    rw [hw, hc, hf, if_neg k1, if_neg k2, if_neg k3, if_neg n8, if_neg n9, if_neg n10, if_neg hb, if_neg k1, if_neg k2, if_neg k3]; simp [mq0, wishesBy, codesBy, filtersBy]
  by_cases k8 : m.kind = 8
  · simp only [if_neg k1, if_neg k2, if_neg k3, if_neg ki, if_pos k8] at hw hc hf
    rw [hc, hf, if_neg k1, if_neg k2, if_neg k3, if_pos k8, if_neg k1, if_neg k2, if_neg k3, if_neg (by rw [k8]; decide)]; simp [mq0, codesBy, filtersBy]
  by_cases k9 : m.kind = 9
  · simp only [if_neg k1, if_neg k2, if_neg k3, if_neg ki, if_neg k8, if_pos k9] at hw hc hf
    rw [hw, hf, if_neg k1, if_neg k2, if_neg k3, if_neg k8, if_pos k9, if_neg k1, if_neg k2, if_neg k3, if_neg (by rw [k9]; decide)]; simp [mq0, wishesBy, filtersBy]
  by_cases k10 : m.kind = 10
  · simp only [if_neg k1, if_neg k2, if_neg k3, if_neg ki, if_neg k8, if_neg k9, if_pos k10] at hw hc hf
    rw [hw, hc, if_neg k1, if_neg k2, if_neg k3, if_neg k8, if_neg k9, if_pos k10, if_neg k1, if_neg k2, if_neg k3, if_neg (by rw [k10]; decide)]; simp [mq0, wishesBy, codesBy]
  simp only [if_neg k1, if_neg k2, if_neg k3, if_neg ki, if_neg k8, if_neg k9, if_neg k10] at hw hc hf h
  rw [hw, hc, hf, if_neg k1, if_neg k2, if_neg k3, if_neg k8, if_neg k9, if_neg k10, if_pos h, if_neg k1, if_neg k2, if_neg k3]; simp [mq0, wishesBy, codesBy, filtersBy]
theorem pre_le {m : Mq} (hm : mayB m) : (preBy m).length ≤ 540 := by
  have h := body_le hm.1
  rw [body_pre hm] at h
  simp only [List.length_append] at h
  omega
/-- Big of a number that two bytes hold: where its bytes lie. -/
theorem bigG (k : Nat) (hk : k ≤ 65535) (w : World) :
    Calls Tryd.prog 77 #[.int .i64 (k : Int), .int .i64 2] w fun e w' => ∃ v', e = .returned v' ∧ (∃ q c, v' = .slice (some ⟨q, 0, none⟩) 2 c ∧ w.heap.size ≤ q ∧ RB w' w'.heap.size (some ⟨q, 0, none⟩) (big 2 k) ∧ Below w.heap.size w w') := by
  refine (big_walk k 2 k 2 rfl rfl (by decide) (by omega) w).mono ?_
  rintro e w' ⟨A', c', rfl, ho, hb⟩
  obtain ⟨g, rfl, hg, _⟩ := own_form ho (by decide)
  exact ⟨_, rfl, g, c', rfl, hg, RB.of_ownN ho, hb⟩
theorem rowBig (b : Nat) (k : Int) (h0 : 0 ≤ k) (h1 : k ≤ 65535) (w : World) (hb : b ≤ w.heap.size) :
    Calls Tryd.prog 77 #[.int .i64 k, .int .i64 2] w fun e w' => ∃ v', e = .returned v' ∧ (RowIs b (big 2 k.toNat) v' w' ∧ Below w.heap.size w w') := by
  refine (big_walk k 2 k.toNat 2 (by omega) rfl (by decide) (by omega) w).mono ?_
  rintro e w' ⟨A', c', rfl, ho, hb'⟩
  exact ⟨_, rfl, ⟨A', c', by rw [big_length], by rw [big_length]; exact own_base ho hb⟩, hb'⟩
set_option maxRecDepth 100000 in
set_option maxHeartbeats 800000 in
theorem rowTextRG (b : Nat) (xs : List UInt8) (v : Value) (s : ByteArray) (hs : s.size ≤ 65535) (w : World) (hv : RowIs b xs v w) (hb : b ≤ w.heap.size) (hn : xs.length ≤ 140737488251232) :
    Calls Tryd.prog 76 #[v, .string s] w fun e w' => ∃ v', e = .returned v' ∧ (RowIs b (xs ++ strB s) v' w' ∧ Below b w w' ∧ (∀ g, g < w.heap.size → some g ≠ v.ownBlock → w'.heap[g]? = w.heap[g]?)) := by
  go_enter Tryd.func76, Tryd.ntmps76
  refine Has.start 13 [(0, v), (1, .string s)] rfl rfl ⟨rfl, rfl, trivial⟩ ?_
  intro a0 H0
  repeat (refine wp_seq ?_)
  refine wp_region_list ?_
  refine H0.move gz (.inr rfl) rfl rfl rfl ?_
  intro a1 H1
  refine nt ?_
  repeat (refine wp_seq ?_)
  refine wp_region_list ?_
  refine H1.move gz (.inl rfl) rfl rfl rfl ?_
  intro a2 H2
  refine H2.move gz (.inl rfl) rfl rfl rfl ?_
  intro a3 H3
  refine H3.lenS gz rfl rfl rfl rfl Tryd.underlying9 ?_
  intro a4 H4
  refine H4.call gz rfl rfl rfl rfl (fun _ _ => by kernel_rfl) (bigG s.size (by omega) w) ?_
  rintro a5 _ w1 ⟨q, c, rfl, hq, hrb, hb1⟩ H5
  obtain ⟨v', w', hrun, hrow, hb2, hg, hob⟩ := run_append_rowG (P := Tryd.prog) (a := a5) (w := w1) Tryd.underlying31 info_u8 (o := ⟨some 9, _, _, _, _, none⟩) (b := b) (xs := xs) (ys := big 2 s.size) (v := v) (c := c) rfl (H5.at_ 5 _ rfl) ((H5.at_ 8 _ rfl).trans (by rw [big_length])) (hv.below hb1) hrb (by rw [big_length]; decide) (by rw [big_length]; omega) (Nat.le_trans hb hb1.size)
  refine H5.go gz rfl rfl _ hrun ?_
  intro a6 H6
  refine H6.move gz (.inr rfl) rfl rfl rfl ?_
  intro a7 H7
  refine nt ?_
  repeat (refine wp_seq ?_)
  refine wp_region_list ?_
  refine H7.move gz (.inl rfl) rfl rfl rfl ?_
  intro a8 H8
  refine H8.move gz (.inl rfl) rfl rfl rfl ?_
  intro a9 H9
  obtain ⟨v2, w2, hrun2, hrow2, hb3, hg2⟩ := run_append_strR (P := Tryd.prog) (a := a9) (w := w') Tryd.underlying31 Tryd.underlying9 info_u8 (o := ⟨some 12, _, _, _, _, none⟩) rfl rfl (H9.at_ 11 _ rfl) ((H9.at_ 10 _ rfl).symm ▸ hrow) (by rw [List.length_append, big_length]; omega) (Nat.le_trans (Nat.le_trans hb hb1.size) hb2.size)
  refine H9.go gz rfl rfl _ hrun2 ?_
  intro a10 H10
  refine H10.move gz (.inr rfl) rfl rfl rfl ?_
  intro a11 H11
  refine nt ?_
  refine wp_ret ?_
  refine bodyPost_ret (results_tmp rfl _ _ _) H11.df ⟨_, congrArg Ending.returned (H11.at_ 4 _ rfl), (by unfold strB; rw [← List.append_assoc]; exact hrow2), ((hb1.mono hb).trans hb2).trans hb3, fun g hlt hne => ((hg2.block g (Nat.lt_of_lt_of_le (Nat.lt_of_lt_of_le hlt hb1.size) hb2.size) ?_).trans (hg.block g (Nat.lt_of_lt_of_le hlt hb1.size) hne)).trans (hb1.block g hlt)⟩
  rw [H9.at_ 10 _ rfl]
  rcases hob with h | h
  · rw [h]; exact hne
  · rw [h]; intro e; injection e with e; have := hb1.size; omega
theorem rowTextR (b : Nat) (xs : List UInt8) (v : Value) (s : ByteArray) (hs : s.size ≤ 65535) (w : World) (hv : RowIs b xs v w) (hb : b ≤ w.heap.size) (hn : xs.length ≤ 140737488251232) :
    Calls Tryd.prog 76 #[v, .string s] w fun e w' => ∃ v', e = .returned v' ∧ (RowIs b (xs ++ strB s) v' w' ∧ Below b w w') :=
  (rowTextRG b xs v s hs w hv hb hn).mono fun _ _ ⟨v', e, h1, h2, _⟩ => ⟨v', e, h1, h2⟩
set_option maxRecDepth 100000 in
set_option maxHeartbeats 6400000 in
theorem refBody (m : Mq) (vc vw vf : Value) (w : World) (hm : mayB m) (hL : MqL w w.heap.size m vc vw vf) :
    Calls Tryd.prog 57 #[.agg (mqCells m vc vw vf).toArray] w (Laid (bodyBy m) w) := by
  obtain ⟨A1, c1, A2, c2, A3, c3, rfl, rfl, rfl, l1, l2, l3, k1', k2', k3', r1, r2, r3⟩ := id hL
  obtain ⟨hwa, hwl, hca, hcl, hfa, hfl⟩ := may_lists hm
  have hpl := pre_le hm
  have hwb := wishesBy_le _ hwa
  have hfb := filtersBy_le _ hfa
  have hcb := codesBy_le m.codes
  go_enter Tryd.func57, Tryd.ntmps57
  refine Has.start 159 [(0, .agg (mqCells m (.slice A1 m.codes.length c1) (.slice A2 m.wishes.length c2) (.slice A3 m.filters.length c3)).toArray)] rfl rfl ⟨rfl, trivial⟩ ?_
  intro a0 H0
  have O0 := Own.start w
  repeat (refine wp_seq ?_)
  refine wp_region_list ?_
  refine H0.box rfl rfl rfl rfl rfl ?_
  intro a1 w1 hb hs hC H1
  have O1 := O0.alloc hb hs hC
  clear hb hs hC
  refine H1.move gz (.inr rfl) rfl rfl rfl ?_
  intro a2 H2
  refine nt ?_
  have hw1 : w.heap.size < w1.heap.size := O1.lt 0 rfl
  repeat (refine wp_seq ?_)
  refine wp_region_list ?_
  refine H2.move gz (.inr rfl) rfl rfl rfl ?_
  intro a3 H3
  refine nt ?_
  refine wp_seq_join (fun a w' => ∃ v, Has a 159 [(1, .pointer (some ⟨w.heap.size, 0, none⟩)), (3, v)] ∧ RowIs w1.heap.size (preBy m) v w' ∧ Base w w1.heap.size [(w.heap.size, (mqCells m (.slice A1 m.codes.length c1) (.slice A2 m.wishes.length c2) (.slice A3 m.filters.length c3)))] w') ?_ ?_
  · skip
    repeat (refine wp_seq ?_)
    refine wp_region_list ?_
    refine H3.field gz rfl rfl rfl rfl field_0 ?_
    intro a4 H4
    refine H4.load gz rfl rfl rfl rfl (load1_i _ _ _ _ ((O1.get 0 rfl).get 0 _ rfl)) ?_
    intro a5 H5
    refine nt ?_
    refine wp_block ?_
    obtain ⟨b1, h1⟩ : ∃ b, (m.kind == 1) = b := ⟨_, rfl⟩
    cases b1 with
    | true =>
      have k1 : m.kind = 1 := by simpa using h1
      repeat (refine wp_seq ?_)
      refine wp_region_list ?_
      refine H5.bin gz rfl rfl rfl rfl rfl (eql_iB _ _ _ h1 _ _ _) ?_
      intro a6 H6
      refine H6.move gz (.inr rfl) rfl rfl rfl ?_
      intro a7 H7
      refine nt ?_
      refine H7.condT rfl ?_
      obtain ⟨hc, ht, hp, hu', hp', hk0, hk1, hq0, hq2⟩ := may_conn hm.1 k1
      repeat (refine wp_seq ?_)
      refine wp_region_list ?_
      refine H7.field gz rfl rfl rfl rfl field_4 ?_
      intro a8 H8
      refine H8.load gz rfl rfl rfl rfl (load_will _ _ _ _ _ _ _ _ (O1.get 0 rfl) rfl rfl rfl rfl rfl) ?_
      intro a9 H9
      refine H9.alloc rfl rfl rfl rfl _ zero_will ?_
      intro a10 w2 hb hs hC H10
      have O2 := O1.alloc hb hs hC
      clear hb hs hC
      refine H10.storeS rfl rfl rfl rfl (L := (willL m)) rfl (O2.get 0 rfl) size_will rfl rfl rfl ?_
      intro a11 w3 H11 hg hs hC
      have O3 := O2.store 0 rfl hg hs hC
      clear hg hs hC
      refine nt ?_
      have HB3 := Base.of O3
      obtain ⟨b0, hb0⟩ : ∃ b0, b0 = w3.heap.size := ⟨_, rfl⟩
      rw [← hb0] at HB3
      have hb0' := hb0
      clear hb0
      have hw3 : w1.heap.size ≤ b0 := by rw [hb0']; exact Nat.le_of_lt (O3.lt 0 rfl)
      have H12 := H11.keep (l' := [(1, .pointer (some ⟨w.heap.size, 0, none⟩)), (4, .pointer (some ⟨w1.heap.size, 0, none⟩))]) ⟨rfl, rfl, trivial⟩
      repeat (refine wp_seq ?_)
      have h24a : cb m.clean 2 < 256 := cb_lt _ _ (by decide)
      have h24b : cb m.won 4 < 256 := cb_lt _ _ (by decide)
      have h29a : (cb m.clean 2 ||| cb m.won 4) < 256 := or_lt8 h24a h24b
      have h29b : m.wq.toNat * 8 < 256 := by omega
      have h33a : ((cb m.clean 2 ||| cb m.won 4) ||| m.wq.toNat * 8) < 256 := or_lt8 h29a h29b
      have h33b : cb m.wr 32 < 256 := cb_lt _ _ (by decide)
      have h37a : (((cb m.clean 2 ||| cb m.won 4) ||| m.wq.toNat * 8) ||| cb m.wr 32) < 256 := or_lt8 h33a h33b
      have h37b : cb m.hp 64 < 256 := cb_lt _ _ (by decide)
      have h41a : ((((cb m.clean 2 ||| cb m.won 4) ||| m.wq.toNat * 8) ||| cb m.wr 32) ||| cb m.hp 64) < 256 := or_lt8 h37a h37b
      have h41b : cb m.hu 128 < 256 := cb_lt _ _ (by decide)
      have h41 : (((((cb m.clean 2 ||| cb m.won 4) ||| m.wq.toNat * 8) ||| cb m.wr 32) ||| cb m.hp 64) ||| cb m.hu 128) < 256 := or_lt8 h41a h41b
      have hflags : (((((cb m.clean 2 ||| cb m.won 4) ||| m.wq.toNat * 8) ||| cb m.wr 32) ||| cb m.hp 64) ||| cb m.hu 128) = flagsC m := flags_or _ _ _ _ _ _ (by omega)
      refine wp_region_invB (by kernel_rfl) (InvB 159 [(1, .pointer (some ⟨w.heap.size, 0, none⟩)), (4, .pointer (some ⟨w1.heap.size, 0, none⟩))] [⟨0, 17, [26], fun v w => RowIs b0 [0, 4, 77, 81, 84, 84] v w⟩, ⟨1, 18, [], fun v _ => v = .pointer (some ⟨w.heap.size, 2, none⟩)⟩, ⟨2, 19, [], fun v _ => v = .bool m.clean⟩, ⟨3, 20, [], fun v _ => v = .int .u8 ((cb m.clean 2 : Nat) : Int)⟩, ⟨4, 21, [], fun v _ => v = .pointer (some ⟨w1.heap.size, 0, none⟩)⟩, ⟨5, 22, [], fun v _ => v = .bool m.won⟩, ⟨6, 23, [], fun v _ => v = .int .u8 ((cb m.won 4 : Nat) : Int)⟩, ⟨7, 24, [], fun v _ => v = .int .u8 (((cb m.clean 2 ||| cb m.won 4) : Nat) : Int)⟩, ⟨8, 25, [], fun v _ => v = .pointer (some ⟨w1.heap.size, 3, none⟩)⟩, ⟨9, 26, [], fun v _ => v = .int .i64 m.wq⟩, ⟨10, 27, [], fun v _ => v = .int .u8 (m.wq % 256)⟩, ⟨11, 28, [], fun v _ => v = .int .u8 ((m.wq.toNat * 8 : Nat) : Int)⟩, ⟨12, 29, [], fun v _ => v = .int .u8 ((((cb m.clean 2 ||| cb m.won 4) ||| m.wq.toNat * 8) : Nat) : Int)⟩, ⟨13, 30, [], fun v _ => v = .pointer (some ⟨w1.heap.size, 4, none⟩)⟩, ⟨14, 31, [], fun v _ => v = .bool m.wr⟩, ⟨15, 32, [], fun v _ => v = .int .u8 ((cb m.wr 32 : Nat) : Int)⟩, ⟨16, 33, [], fun v _ => v = .int .u8 (((((cb m.clean 2 ||| cb m.won 4) ||| m.wq.toNat * 8) ||| cb m.wr 32) : Nat) : Int)⟩, ⟨17, 34, [], fun v _ => v = .pointer (some ⟨w.heap.size, 12, none⟩)⟩, ⟨18, 35, [], fun v _ => v = .bool m.hp⟩, ⟨19, 36, [], fun v _ => v = .int .u8 ((cb m.hp 64 : Nat) : Int)⟩, ⟨20, 37, [], fun v _ => v = .int .u8 ((((((cb m.clean 2 ||| cb m.won 4) ||| m.wq.toNat * 8) ||| cb m.wr 32) ||| cb m.hp 64) : Nat) : Int)⟩, ⟨21, 38, [], fun v _ => v = .pointer (some ⟨w.heap.size, 10, none⟩)⟩, ⟨22, 39, [], fun v _ => v = .bool m.hu⟩, ⟨23, 40, [], fun v _ => v = .int .u8 ((cb m.hu 128 : Nat) : Int)⟩, ⟨24, 41, [], fun v _ => v = .int .u8 (((((((cb m.clean 2 ||| cb m.won 4) ||| m.wq.toNat * 8) ||| cb m.wr 32) ||| cb m.hp 64) ||| cb m.hu 128) : Nat) : Int)⟩, ⟨25, 42, [26], fun v w => BytesAre [4, UInt8.ofNat (flagsC m)] v w⟩, ⟨26, 43, [], fun v w => RowIs b0 ([0, 4, 77, 81, 84, 84] ++ [4, UInt8.ofNat (flagsC m)]) v w⟩, ⟨27, 3, [], fun v w => RowIs b0 ([0, 4, 77, 81, 84, 84] ++ [4, UInt8.ofNat (flagsC m)]) v w⟩] (Base w b0 [(w1.heap.size, (willL m)), (w.heap.size, (mqCells m (.slice A1 m.codes.length c1) (.slice A2 m.wishes.length c2) (.slice A3 m.filters.length c3)))])) (back_of (by kernel_rfl)) ?_ ?_ ?_
      · intro listed aa ww i o hs hni hcl ho hd hI
        have hls : listed.size = 28 := hs
        have u_1 : aa.eval (.tmp 1) = .pointer (some ⟨w.heap.size, 0, none⟩) := hI.fx.1
        have u_4 : aa.eval (.tmp 4) = .pointer (some ⟨w1.heap.size, 0, none⟩) := hI.fx.2.1
        match i, ho with
        | 0, ho =>
          obtain rfl := pick_op ho rfl
          have HH : Has aa 159 [] := Has.of hI.sz hI.df trivial
          refine wpOp_enter ho gz 17 rfl 76 _ (run_callH HH rfl rfl (fun _ _ => by kernel_rfl)) _ (rowTextR ww.heap.size [] (.slice none 0 0) ({ data := #[77, 81, 84, 84] } : ByteArray) (by decide) ww (RowIs.nil _ _) (Nat.le_refl _) (by simp)) ?_
          rintro v' w' ⟨hrow, hb⟩
          exact hI.put (by kernel_rfl) _ (ma 0 rfl) (by rw [hls]; show 0 < 28; decide) (by rw [hls]; decide) (v') (by rw [show ([0, 4, 77, 81, 84, 84] : List UInt8) = [] ++ strB ({ data := #[77, 81, 84, 84] } : ByteArray) by decide]; exact hrow.base hI.wp.bw) (hI.wp.call hb) ⟨fun h => absurd rfl h, fun _ _ _ _ _ h => h, fun _ _ _ _ _ h => h, fun _ _ _ _ _ h => h, fun _ _ _ _ _ h => h, fun _ _ _ _ _ h => h, fun _ _ _ _ _ h => h, fun _ _ _ _ _ h => h, fun _ _ _ _ _ h => h, fun _ _ _ _ _ h => h, fun _ _ _ _ _ h => h, fun _ _ _ _ _ h => h, fun _ _ _ _ _ h => h, fun _ _ _ _ _ h => h, fun _ _ _ _ _ h => h, fun _ _ _ _ _ h => h, fun _ _ _ _ _ h => h, fun _ _ _ _ _ h => h, fun _ _ _ _ _ h => h, fun _ _ _ _ _ h => h, fun _ _ _ _ _ h => h, fun _ _ _ _ _ h => h, fun _ _ _ _ _ h => h, fun _ _ _ _ _ h => h, fun _ _ _ _ _ h => h, fun _ _ _ _ _ h => h.below hb, fun _ _ _ _ _ h => h.below hb, fun _ _ _ _ _ h => h.below hb, trivial⟩
        | 1, ho =>
          obtain rfl := pick_op ho rfl
          have HH : Has aa 159 [(1, .pointer (some ⟨w.heap.size, 0, none⟩))] := Has.of hI.sz hI.df ⟨u_1, trivial⟩
          refine wpOp_go ho gz 18 rfl (.pointer (some ⟨w.heap.size, 2, none⟩)) ww (run_field rfl (HH.ev rfl) field_2) ?_
          exact hI.put (by kernel_rfl) _ (ma 1 rfl) (by rw [hls]; show 1 < 28; decide) (by rw [hls]; decide) (.pointer (some ⟨w.heap.size, 2, none⟩)) rfl hI.wp AllSt.same
        | 2, ho =>
          obtain rfl := pick_op ho rfl
          have r_18 := hI.vs _ (ma 1 rfl) (.inr (ran_of hd 1 (by kernel_rfl))) trivial
          have u_18 : aa.eval (.tmp 18) = .pointer (some ⟨w.heap.size, 2, none⟩) := r_18
          have HH : Has aa 159 [(18, .pointer (some ⟨w.heap.size, 2, none⟩))] := Has.of hI.sz hI.df ⟨u_18, trivial⟩
          refine wpOp_go ho gz 19 rfl (.bool m.clean) ww (run_load rfl (HH.ev rfl) (load1_b _ _ _ _ ((hI.wp.get 1 rfl).get 2 _ rfl))) ?_
          exact hI.put (by kernel_rfl) _ (ma 2 rfl) (by rw [hls]; show 2 < 28; decide) (by rw [hls]; decide) (.bool m.clean) rfl hI.wp AllSt.same
        | 3, ho =>
          obtain rfl := pick_op ho rfl
          have r_19 := hI.vs _ (ma 2 rfl) (.inr (ran_of hd 2 (by kernel_rfl))) trivial
          have u_19 : aa.eval (.tmp 19) = .bool m.clean := r_19
          have HH : Has aa 159 [(19, .bool m.clean)] := Has.of hI.sz hI.df ⟨u_19, trivial⟩
          refine wpOp_enter ho gz 20 rfl 56 _ (run_callH HH rfl rfl (fun _ _ => by kernel_rfl)) _ (quietC (refBitN m.clean 2 2 rfl ww)) ?_
          rintro _ _ ⟨rfl, rfl⟩
          exact hI.put (by kernel_rfl) _ (ma 3 rfl) (by rw [hls]; show 3 < 28; decide) (by rw [hls]; decide) (.int .u8 ((cb m.clean 2 : Nat) : Int)) rfl hI.wp AllSt.same
        | 4, ho =>
          obtain rfl := pick_op ho rfl
          have HH : Has aa 159 [(4, .pointer (some ⟨w1.heap.size, 0, none⟩))] := Has.of hI.sz hI.df ⟨u_4, trivial⟩
          refine wpOp_go ho gz 21 rfl (.pointer (some ⟨w1.heap.size, 0, none⟩)) ww (run_field rfl (HH.ev rfl) fieldV_0) ?_
          exact hI.put (by kernel_rfl) _ (ma 4 rfl) (by rw [hls]; show 4 < 28; decide) (by rw [hls]; decide) (.pointer (some ⟨w1.heap.size, 0, none⟩)) rfl hI.wp AllSt.same
        | 5, ho =>
          obtain rfl := pick_op ho rfl
          have r_21 := hI.vs _ (ma 4 rfl) (.inr (ran_of hd 4 (by kernel_rfl))) trivial
          have u_21 : aa.eval (.tmp 21) = .pointer (some ⟨w1.heap.size, 0, none⟩) := r_21
          have HH : Has aa 159 [(21, .pointer (some ⟨w1.heap.size, 0, none⟩))] := Has.of hI.sz hI.df ⟨u_21, trivial⟩
          refine wpOp_go ho gz 22 rfl (.bool m.won) ww (run_load rfl (HH.ev rfl) (load1_b _ _ _ _ ((hI.wp.get 0 rfl).get 0 _ rfl))) ?_
          exact hI.put (by kernel_rfl) _ (ma 5 rfl) (by rw [hls]; show 5 < 28; decide) (by rw [hls]; decide) (.bool m.won) rfl hI.wp AllSt.same
        | 6, ho =>
          obtain rfl := pick_op ho rfl
          have r_22 := hI.vs _ (ma 5 rfl) (.inr (ran_of hd 5 (by kernel_rfl))) trivial
          have u_22 : aa.eval (.tmp 22) = .bool m.won := r_22
          have HH : Has aa 159 [(22, .bool m.won)] := Has.of hI.sz hI.df ⟨u_22, trivial⟩
          refine wpOp_enter ho gz 23 rfl 56 _ (run_callH HH rfl rfl (fun _ _ => by kernel_rfl)) _ (quietC (refBitN m.won 4 4 rfl ww)) ?_
          rintro _ _ ⟨rfl, rfl⟩
          exact hI.put (by kernel_rfl) _ (ma 6 rfl) (by rw [hls]; show 6 < 28; decide) (by rw [hls]; decide) (.int .u8 ((cb m.won 4 : Nat) : Int)) rfl hI.wp AllSt.same
        | 7, ho =>
          obtain rfl := pick_op ho rfl
          have r_20 := hI.vs _ (ma 3 rfl) (.inr (ran_of hd 3 (by kernel_rfl))) trivial
          have u_20 : aa.eval (.tmp 20) = .int .u8 ((cb m.clean 2 : Nat) : Int) := r_20
          have r_23 := hI.vs _ (ma 6 rfl) (.inr (ran_of hd 6 (by kernel_rfl))) trivial
          have u_23 : aa.eval (.tmp 23) = .int .u8 ((cb m.won 4 : Nat) : Int) := r_23
          have HH : Has aa 159 [(20, .int .u8 ((cb m.clean 2 : Nat) : Int)), (23, .int .u8 ((cb m.won 4 : Nat) : Int))] := Has.of hI.sz hI.df ⟨u_20, u_23, trivial⟩
          refine wpOp_go ho gz 24 rfl (.int .u8 (((cb m.clean 2 ||| cb m.won 4) : Nat) : Int)) ww (run_bin rfl (HH.ev rfl) (HH.ev rfl) (or_u _ _ h24a h24b _ _ _)) ?_
          exact hI.put (by kernel_rfl) _ (ma 7 rfl) (by rw [hls]; show 7 < 28; decide) (by rw [hls]; decide) (.int .u8 (((cb m.clean 2 ||| cb m.won 4) : Nat) : Int)) rfl hI.wp AllSt.same
        | 8, ho =>
          obtain rfl := pick_op ho rfl
          have HH : Has aa 159 [(4, .pointer (some ⟨w1.heap.size, 0, none⟩))] := Has.of hI.sz hI.df ⟨u_4, trivial⟩
          refine wpOp_go ho gz 25 rfl (.pointer (some ⟨w1.heap.size, 3, none⟩)) ww (run_field rfl (HH.ev rfl) fieldV_3) ?_
          exact hI.put (by kernel_rfl) _ (ma 8 rfl) (by rw [hls]; show 8 < 28; decide) (by rw [hls]; decide) (.pointer (some ⟨w1.heap.size, 3, none⟩)) rfl hI.wp AllSt.same
        | 9, ho =>
          obtain rfl := pick_op ho rfl
          have r_25 := hI.vs _ (ma 8 rfl) (.inr (ran_of hd 8 (by kernel_rfl))) trivial
          have u_25 : aa.eval (.tmp 25) = .pointer (some ⟨w1.heap.size, 3, none⟩) := r_25
          have HH : Has aa 159 [(25, .pointer (some ⟨w1.heap.size, 3, none⟩))] := Has.of hI.sz hI.df ⟨u_25, trivial⟩
          refine wpOp_go ho gz 26 rfl (.int .i64 m.wq) ww (run_load rfl (HH.ev rfl) (load1_i _ _ _ _ ((hI.wp.get 0 rfl).get 3 _ rfl))) ?_
          exact hI.put (by kernel_rfl) _ (ma 9 rfl) (by rw [hls]; show 9 < 28; decide) (by rw [hls]; decide) (.int .i64 m.wq) rfl hI.wp AllSt.same
        | 10, ho =>
          obtain rfl := pick_op ho rfl
          have r_26 := hI.vs _ (ma 9 rfl) (.inr (ran_of hd 9 (by kernel_rfl))) trivial
          have u_26 : aa.eval (.tmp 26) = .int .i64 m.wq := r_26
          have HH : Has aa 159 [(26, .int .i64 m.wq)] := Has.of hI.sz hI.df ⟨u_26, trivial⟩
          refine wpOp_go ho gz 27 rfl (.int .u8 (m.wq % 256)) ww (run_conv rfl (HH.ev rfl) (conv_u8 _ _)) ?_
          exact hI.put (by kernel_rfl) _ (ma 10 rfl) (by rw [hls]; show 10 < 28; decide) (by rw [hls]; decide) (.int .u8 (m.wq % 256)) rfl hI.wp AllSt.same
        | 11, ho =>
          obtain rfl := pick_op ho rfl
          have r_27 := hI.vs _ (ma 10 rfl) (.inr (ran_of hd 10 (by kernel_rfl))) trivial
          have u_27 : aa.eval (.tmp 27) = .int .u8 (m.wq % 256) := r_27
          have HH : Has aa 159 [(27, .int .u8 (m.wq % 256))] := Has.of hI.sz hI.df ⟨u_27, trivial⟩
          refine wpOp_go ho gz 28 rfl (.int .u8 ((m.wq.toNat * 8 : Nat) : Int)) ww (run_bin rfl (HH.ev rfl) (HH.ev rfl) (shl3_u8 _ hq0 hq2 _ _ _)) ?_
          exact hI.put (by kernel_rfl) _ (ma 11 rfl) (by rw [hls]; show 11 < 28; decide) (by rw [hls]; decide) (.int .u8 ((m.wq.toNat * 8 : Nat) : Int)) rfl hI.wp AllSt.same
        | 12, ho =>
          obtain rfl := pick_op ho rfl
          have r_24 := hI.vs _ (ma 7 rfl) (.inr (ran_of hd 7 (by kernel_rfl))) trivial
          have u_24 : aa.eval (.tmp 24) = .int .u8 (((cb m.clean 2 ||| cb m.won 4) : Nat) : Int) := r_24
          have r_28 := hI.vs _ (ma 11 rfl) (.inr (ran_of hd 11 (by kernel_rfl))) trivial
          have u_28 : aa.eval (.tmp 28) = .int .u8 ((m.wq.toNat * 8 : Nat) : Int) := r_28
          have HH : Has aa 159 [(24, .int .u8 (((cb m.clean 2 ||| cb m.won 4) : Nat) : Int)), (28, .int .u8 ((m.wq.toNat * 8 : Nat) : Int))] := Has.of hI.sz hI.df ⟨u_24, u_28, trivial⟩
          refine wpOp_go ho gz 29 rfl (.int .u8 ((((cb m.clean 2 ||| cb m.won 4) ||| m.wq.toNat * 8) : Nat) : Int)) ww (run_bin rfl (HH.ev rfl) (HH.ev rfl) (or_u _ _ h29a h29b _ _ _)) ?_
          exact hI.put (by kernel_rfl) _ (ma 12 rfl) (by rw [hls]; show 12 < 28; decide) (by rw [hls]; decide) (.int .u8 ((((cb m.clean 2 ||| cb m.won 4) ||| m.wq.toNat * 8) : Nat) : Int)) rfl hI.wp AllSt.same
        | 13, ho =>
          obtain rfl := pick_op ho rfl
          have HH : Has aa 159 [(4, .pointer (some ⟨w1.heap.size, 0, none⟩))] := Has.of hI.sz hI.df ⟨u_4, trivial⟩
          refine wpOp_go ho gz 30 rfl (.pointer (some ⟨w1.heap.size, 4, none⟩)) ww (run_field rfl (HH.ev rfl) fieldV_4) ?_
          exact hI.put (by kernel_rfl) _ (ma 13 rfl) (by rw [hls]; show 13 < 28; decide) (by rw [hls]; decide) (.pointer (some ⟨w1.heap.size, 4, none⟩)) rfl hI.wp AllSt.same
        | 14, ho =>
          obtain rfl := pick_op ho rfl
          have r_30 := hI.vs _ (ma 13 rfl) (.inr (ran_of hd 13 (by kernel_rfl))) trivial
          have u_30 : aa.eval (.tmp 30) = .pointer (some ⟨w1.heap.size, 4, none⟩) := r_30
          have HH : Has aa 159 [(30, .pointer (some ⟨w1.heap.size, 4, none⟩))] := Has.of hI.sz hI.df ⟨u_30, trivial⟩
          refine wpOp_go ho gz 31 rfl (.bool m.wr) ww (run_load rfl (HH.ev rfl) (load1_b _ _ _ _ ((hI.wp.get 0 rfl).get 4 _ rfl))) ?_
          exact hI.put (by kernel_rfl) _ (ma 14 rfl) (by rw [hls]; show 14 < 28; decide) (by rw [hls]; decide) (.bool m.wr) rfl hI.wp AllSt.same
        | 15, ho =>
          obtain rfl := pick_op ho rfl
          have r_31 := hI.vs _ (ma 14 rfl) (.inr (ran_of hd 14 (by kernel_rfl))) trivial
          have u_31 : aa.eval (.tmp 31) = .bool m.wr := r_31
          have HH : Has aa 159 [(31, .bool m.wr)] := Has.of hI.sz hI.df ⟨u_31, trivial⟩
          refine wpOp_enter ho gz 32 rfl 56 _ (run_callH HH rfl rfl (fun _ _ => by kernel_rfl)) _ (quietC (refBitN m.wr 32 32 rfl ww)) ?_
          rintro _ _ ⟨rfl, rfl⟩
          exact hI.put (by kernel_rfl) _ (ma 15 rfl) (by rw [hls]; show 15 < 28; decide) (by rw [hls]; decide) (.int .u8 ((cb m.wr 32 : Nat) : Int)) rfl hI.wp AllSt.same
        | 16, ho =>
          obtain rfl := pick_op ho rfl
          have r_29 := hI.vs _ (ma 12 rfl) (.inr (ran_of hd 12 (by kernel_rfl))) trivial
          have u_29 : aa.eval (.tmp 29) = .int .u8 ((((cb m.clean 2 ||| cb m.won 4) ||| m.wq.toNat * 8) : Nat) : Int) := r_29
          have r_32 := hI.vs _ (ma 15 rfl) (.inr (ran_of hd 15 (by kernel_rfl))) trivial
          have u_32 : aa.eval (.tmp 32) = .int .u8 ((cb m.wr 32 : Nat) : Int) := r_32
          have HH : Has aa 159 [(29, .int .u8 ((((cb m.clean 2 ||| cb m.won 4) ||| m.wq.toNat * 8) : Nat) : Int)), (32, .int .u8 ((cb m.wr 32 : Nat) : Int))] := Has.of hI.sz hI.df ⟨u_29, u_32, trivial⟩
          refine wpOp_go ho gz 33 rfl (.int .u8 (((((cb m.clean 2 ||| cb m.won 4) ||| m.wq.toNat * 8) ||| cb m.wr 32) : Nat) : Int)) ww (run_bin rfl (HH.ev rfl) (HH.ev rfl) (or_u _ _ h33a h33b _ _ _)) ?_
          exact hI.put (by kernel_rfl) _ (ma 16 rfl) (by rw [hls]; show 16 < 28; decide) (by rw [hls]; decide) (.int .u8 (((((cb m.clean 2 ||| cb m.won 4) ||| m.wq.toNat * 8) ||| cb m.wr 32) : Nat) : Int)) rfl hI.wp AllSt.same
        | 17, ho =>
          obtain rfl := pick_op ho rfl
          have HH : Has aa 159 [(1, .pointer (some ⟨w.heap.size, 0, none⟩))] := Has.of hI.sz hI.df ⟨u_1, trivial⟩
          refine wpOp_go ho gz 34 rfl (.pointer (some ⟨w.heap.size, 12, none⟩)) ww (run_field rfl (HH.ev rfl) field_8) ?_
          exact hI.put (by kernel_rfl) _ (ma 17 rfl) (by rw [hls]; show 17 < 28; decide) (by rw [hls]; decide) (.pointer (some ⟨w.heap.size, 12, none⟩)) rfl hI.wp AllSt.same
        | 18, ho =>
          obtain rfl := pick_op ho rfl
          have r_34 := hI.vs _ (ma 17 rfl) (.inr (ran_of hd 17 (by kernel_rfl))) trivial
          have u_34 : aa.eval (.tmp 34) = .pointer (some ⟨w.heap.size, 12, none⟩) := r_34
          have HH : Has aa 159 [(34, .pointer (some ⟨w.heap.size, 12, none⟩))] := Has.of hI.sz hI.df ⟨u_34, trivial⟩
          refine wpOp_go ho gz 35 rfl (.bool m.hp) ww (run_load rfl (HH.ev rfl) (load1_b _ _ _ _ ((hI.wp.get 1 rfl).get 12 _ rfl))) ?_
          exact hI.put (by kernel_rfl) _ (ma 18 rfl) (by rw [hls]; show 18 < 28; decide) (by rw [hls]; decide) (.bool m.hp) rfl hI.wp AllSt.same
        | 19, ho =>
          obtain rfl := pick_op ho rfl
          have r_35 := hI.vs _ (ma 18 rfl) (.inr (ran_of hd 18 (by kernel_rfl))) trivial
          have u_35 : aa.eval (.tmp 35) = .bool m.hp := r_35
          have HH : Has aa 159 [(35, .bool m.hp)] := Has.of hI.sz hI.df ⟨u_35, trivial⟩
          refine wpOp_enter ho gz 36 rfl 56 _ (run_callH HH rfl rfl (fun _ _ => by kernel_rfl)) _ (quietC (refBitN m.hp 64 64 rfl ww)) ?_
          rintro _ _ ⟨rfl, rfl⟩
          exact hI.put (by kernel_rfl) _ (ma 19 rfl) (by rw [hls]; show 19 < 28; decide) (by rw [hls]; decide) (.int .u8 ((cb m.hp 64 : Nat) : Int)) rfl hI.wp AllSt.same
        | 20, ho =>
          obtain rfl := pick_op ho rfl
          have r_33 := hI.vs _ (ma 16 rfl) (.inr (ran_of hd 16 (by kernel_rfl))) trivial
          have u_33 : aa.eval (.tmp 33) = .int .u8 (((((cb m.clean 2 ||| cb m.won 4) ||| m.wq.toNat * 8) ||| cb m.wr 32) : Nat) : Int) := r_33
          have r_36 := hI.vs _ (ma 19 rfl) (.inr (ran_of hd 19 (by kernel_rfl))) trivial
          have u_36 : aa.eval (.tmp 36) = .int .u8 ((cb m.hp 64 : Nat) : Int) := r_36
          have HH : Has aa 159 [(33, .int .u8 (((((cb m.clean 2 ||| cb m.won 4) ||| m.wq.toNat * 8) ||| cb m.wr 32) : Nat) : Int)), (36, .int .u8 ((cb m.hp 64 : Nat) : Int))] := Has.of hI.sz hI.df ⟨u_33, u_36, trivial⟩
          refine wpOp_go ho gz 37 rfl (.int .u8 ((((((cb m.clean 2 ||| cb m.won 4) ||| m.wq.toNat * 8) ||| cb m.wr 32) ||| cb m.hp 64) : Nat) : Int)) ww (run_bin rfl (HH.ev rfl) (HH.ev rfl) (or_u _ _ h37a h37b _ _ _)) ?_
          exact hI.put (by kernel_rfl) _ (ma 20 rfl) (by rw [hls]; show 20 < 28; decide) (by rw [hls]; decide) (.int .u8 ((((((cb m.clean 2 ||| cb m.won 4) ||| m.wq.toNat * 8) ||| cb m.wr 32) ||| cb m.hp 64) : Nat) : Int)) rfl hI.wp AllSt.same
        | 21, ho =>
          obtain rfl := pick_op ho rfl
          have HH : Has aa 159 [(1, .pointer (some ⟨w.heap.size, 0, none⟩))] := Has.of hI.sz hI.df ⟨u_1, trivial⟩
          refine wpOp_go ho gz 38 rfl (.pointer (some ⟨w.heap.size, 10, none⟩)) ww (run_field rfl (HH.ev rfl) field_6) ?_
          exact hI.put (by kernel_rfl) _ (ma 21 rfl) (by rw [hls]; show 21 < 28; decide) (by rw [hls]; decide) (.pointer (some ⟨w.heap.size, 10, none⟩)) rfl hI.wp AllSt.same
        | 22, ho =>
          obtain rfl := pick_op ho rfl
          have r_38 := hI.vs _ (ma 21 rfl) (.inr (ran_of hd 21 (by kernel_rfl))) trivial
          have u_38 : aa.eval (.tmp 38) = .pointer (some ⟨w.heap.size, 10, none⟩) := r_38
          have HH : Has aa 159 [(38, .pointer (some ⟨w.heap.size, 10, none⟩))] := Has.of hI.sz hI.df ⟨u_38, trivial⟩
          refine wpOp_go ho gz 39 rfl (.bool m.hu) ww (run_load rfl (HH.ev rfl) (load1_b _ _ _ _ ((hI.wp.get 1 rfl).get 10 _ rfl))) ?_
          exact hI.put (by kernel_rfl) _ (ma 22 rfl) (by rw [hls]; show 22 < 28; decide) (by rw [hls]; decide) (.bool m.hu) rfl hI.wp AllSt.same
        | 23, ho =>
          obtain rfl := pick_op ho rfl
          have r_39 := hI.vs _ (ma 22 rfl) (.inr (ran_of hd 22 (by kernel_rfl))) trivial
          have u_39 : aa.eval (.tmp 39) = .bool m.hu := r_39
          have HH : Has aa 159 [(39, .bool m.hu)] := Has.of hI.sz hI.df ⟨u_39, trivial⟩
          refine wpOp_enter ho gz 40 rfl 56 _ (run_callH HH rfl rfl (fun _ _ => by kernel_rfl)) _ (quietC (refBitN m.hu 128 128 rfl ww)) ?_
          rintro _ _ ⟨rfl, rfl⟩
          exact hI.put (by kernel_rfl) _ (ma 23 rfl) (by rw [hls]; show 23 < 28; decide) (by rw [hls]; decide) (.int .u8 ((cb m.hu 128 : Nat) : Int)) rfl hI.wp AllSt.same
        | 24, ho =>
          obtain rfl := pick_op ho rfl
          have r_37 := hI.vs _ (ma 20 rfl) (.inr (ran_of hd 20 (by kernel_rfl))) trivial
          have u_37 : aa.eval (.tmp 37) = .int .u8 ((((((cb m.clean 2 ||| cb m.won 4) ||| m.wq.toNat * 8) ||| cb m.wr 32) ||| cb m.hp 64) : Nat) : Int) := r_37
          have r_40 := hI.vs _ (ma 23 rfl) (.inr (ran_of hd 23 (by kernel_rfl))) trivial
          have u_40 : aa.eval (.tmp 40) = .int .u8 ((cb m.hu 128 : Nat) : Int) := r_40
          have HH : Has aa 159 [(37, .int .u8 ((((((cb m.clean 2 ||| cb m.won 4) ||| m.wq.toNat * 8) ||| cb m.wr 32) ||| cb m.hp 64) : Nat) : Int)), (40, .int .u8 ((cb m.hu 128 : Nat) : Int))] := Has.of hI.sz hI.df ⟨u_37, u_40, trivial⟩
          refine wpOp_go ho gz 41 rfl (.int .u8 (((((((cb m.clean 2 ||| cb m.won 4) ||| m.wq.toNat * 8) ||| cb m.wr 32) ||| cb m.hp 64) ||| cb m.hu 128) : Nat) : Int)) ww (run_bin rfl (HH.ev rfl) (HH.ev rfl) (or_u _ _ h41a h41b _ _ _)) ?_
          exact hI.put (by kernel_rfl) _ (ma 24 rfl) (by rw [hls]; show 24 < 28; decide) (by rw [hls]; decide) (.int .u8 (((((((cb m.clean 2 ||| cb m.won 4) ||| m.wq.toNat * 8) ||| cb m.wr 32) ||| cb m.hp 64) ||| cb m.hu 128) : Nat) : Int)) rfl hI.wp AllSt.same
        | 25, ho =>
          obtain rfl := pick_op ho rfl
          have r_41 := hI.vs _ (ma 24 rfl) (.inr (ran_of hd 24 (by kernel_rfl))) trivial
          have u_41 : aa.eval (.tmp 41) = .int .u8 (((((((cb m.clean 2 ||| cb m.won 4) ||| m.wq.toNat * 8) ||| cb m.wr 32) ||| cb m.hp 64) ||| cb m.hu 128) : Nat) : Int) := r_41
          have HH : Has aa 159 [(41, .int .u8 (((((((cb m.clean 2 ||| cb m.won 4) ||| m.wq.toNat * 8) ||| cb m.wr 32) ||| cb m.hp 64) ||| cb m.hu 128) : Nat) : Int))] := Has.of hI.sz hI.df ⟨u_41, trivial⟩
          obtain ⟨hby, hb⟩ := bytes_lit ww [4, UInt8.ofNat (flagsC m)] [.int .u8 4, .int .u8 (((((((cb m.clean 2 ||| cb m.won 4) ||| m.wq.toNat * 8) ||| cb m.wr 32) ||| cb m.hp 64) ||| cb m.hu 128) : Nat) : Int)] (by rw [hflags] at h41 ⊢; rw [bv_nat _ h41]; rfl) 5 2 rfl
          refine wpOp_go ho gz 42 rfl (.slice (some ⟨ww.heap.size, 0, none⟩) 2 2) (ww.alloc (.cells ([.int .u8 4, .int .u8 (((((((cb m.clean 2 ||| cb m.won 4) ||| m.wq.toNat * 8) ||| cb m.wr 32) ||| cb m.hp 64) ||| cb m.hu 128) : Nat) : Int)] : List Value).toArray 5)) (run_any HH (by intro cs b h; cases h) (by kernel_rfl) (by kernel_rfl)) ?_
          exact hI.put (by kernel_rfl) _ (ma 25 rfl) (by rw [hls]; show 25 < 28; decide) (by rw [hls]; decide) (.slice (some ⟨ww.heap.size, 0, none⟩) 2 2) hby (hI.wp.call hb) ⟨fun _ _ _ _ _ h => h.below hb, fun _ _ _ _ _ h => h, fun _ _ _ _ _ h => h, fun _ _ _ _ _ h => h, fun _ _ _ _ _ h => h, fun _ _ _ _ _ h => h, fun _ _ _ _ _ h => h, fun _ _ _ _ _ h => h, fun _ _ _ _ _ h => h, fun _ _ _ _ _ h => h, fun _ _ _ _ _ h => h, fun _ _ _ _ _ h => h, fun _ _ _ _ _ h => h, fun _ _ _ _ _ h => h, fun _ _ _ _ _ h => h, fun _ _ _ _ _ h => h, fun _ _ _ _ _ h => h, fun _ _ _ _ _ h => h, fun _ _ _ _ _ h => h, fun _ _ _ _ _ h => h, fun _ _ _ _ _ h => h, fun _ _ _ _ _ h => h, fun _ _ _ _ _ h => h, fun _ _ _ _ _ h => h, fun _ _ _ _ _ h => h, fun h => absurd rfl h, fun _ _ _ _ _ h => h.below hb, fun _ _ _ _ _ h => h.below hb, trivial⟩
        | 26, ho =>
          obtain rfl := pick_op ho rfl
          have r_17 := hI.vs _ (ma 0 rfl) (.inr (ran_of hd 0 (by kernel_rfl))) ⟨hni, trivial⟩
          have r_42 := hI.vs _ (ma 25 rfl) (.inr (ran_of hd 25 (by kernel_rfl))) ⟨hni, trivial⟩
          have HH : Has aa 159 [(17, aa.eval (.tmp 17)), (42, aa.eval (.tmp 42))] := Has.of hI.sz hI.df ⟨rfl, rfl, trivial⟩
          obtain ⟨v', w', hrun, hrow, hb0, hg⟩ := run_append_row (P := Tryd.prog) (a := aa) (w := ww) Tryd.underlying31 info_u8 (o := ⟨some 43, _, _, _, _, none⟩) rfl rfl rfl r_17 r_42 (by simp only [List.length_cons, List.length_nil]; omega) hI.wp.bw
          refine wpOp_go ho gz 43 rfl v' w' hrun ?_
          exact hI.put (by kernel_rfl) _ (ma 26 rfl) (by rw [hls]; show 26 < 28; decide) (by rw [hls]; decide) (v') hrow (hI.wp.step hb0) ⟨fun _ h => absurd (by show 26 ∈ ([26] : List Nat); decide) h, fun _ _ _ _ _ h => h, fun _ _ _ _ _ h => h, fun _ _ _ _ _ h => h, fun _ _ _ _ _ h => h, fun _ _ _ _ _ h => h, fun _ _ _ _ _ h => h, fun _ _ _ _ _ h => h, fun _ _ _ _ _ h => h, fun _ _ _ _ _ h => h, fun _ _ _ _ _ h => h, fun _ _ _ _ _ h => h, fun _ _ _ _ _ h => h, fun _ _ _ _ _ h => h, fun _ _ _ _ _ h => h, fun _ _ _ _ _ h => h, fun _ _ _ _ _ h => h, fun _ _ _ _ _ h => h, fun _ _ _ _ _ h => h, fun _ _ _ _ _ h => h, fun _ _ _ _ _ h => h, fun _ _ _ _ _ h => h, fun _ _ _ _ _ h => h, fun _ _ _ _ _ h => h, fun _ _ _ _ _ h => h, fun _ h => absurd (by show 26 ∈ ([26] : List Nat); decide) h, fun h => absurd rfl h, fun _ _ h => absurd (hni.symm.trans (ran_of (hcl 27 _ rfl (h.resolve_left (by rw [hls]; show ¬ 28 ≤ 27; decide))) 26 (by kernel_rfl))) (by decide), trivial⟩
        | 27, ho =>
          obtain rfl := pick_op ho rfl
          have r_43 := hI.vs _ (ma 26 rfl) (.inr (ran_of hd 26 (by kernel_rfl))) trivial
          have HH : Has aa 159 [(43, aa.eval (.tmp 43))] := Has.of hI.sz hI.df ⟨rfl, trivial⟩
          refine wpOp_go ho gz 3 rfl (aa.eval (.tmp 43)) ww (run_move (.inr rfl) (HH.ev rfl)) ?_
          exact hI.put (by kernel_rfl) _ (ma 27 rfl) (by rw [hls]; show 27 < 28; decide) (by rw [hls]; decide) (aa.eval (.tmp 43)) r_43 hI.wp AllSt.same
        | (k + 28), ho => simp at ho
      · intro listed a13 w4 hall hI
        have r_3 := hI.vs _ (ma 27 rfl) (.inr (hall 27 (by decide))) trivial
        have H13 : Has a13 159 [(1, .pointer (some ⟨w.heap.size, 0, none⟩)), (4, .pointer (some ⟨w1.heap.size, 0, none⟩)), (3, a13.eval (.tmp 3))] := Has.of hI.sz hI.df ⟨hI.fx.1, hI.fx.2.1, rfl, trivial⟩
        have HB4 := hI.wp
        have R3_4 : RowIs b0 ([0, 4, 77, 81, 84, 84] ++ [4, UInt8.ofNat (flagsC m)]) (a13.eval (.tmp 3)) w4 := r_3
        refine then_normal ?_
        repeat (refine wp_seq ?_)
        have R3 := R3_4
        refine wp_region_list ?_
        refine H13.move gz (.inl rfl) rfl rfl rfl ?_
        intro a14 H14
        refine H14.field gz rfl rfl rfl rfl field_3 ?_
        intro a15 H15
        refine H15.load gz rfl rfl rfl rfl (load1_i _ _ _ _ ((HB4.get 1 rfl).get 3 _ rfl)) ?_
        intro a16 H16
        refine H16.call gz rfl rfl rfl rfl (fun _ _ => by kernel_rfl) (rowBig b0 m.keep hk0 hk1 _ HB4.bw) ?_
        rintro a17 v47 w5 ⟨R47, hb⟩ H17
        have HB5 := HB4.call hb
        have R3 := R3.below hb
        clear hb
        refine H17.appendRow Tryd.underlying31 info_u8 gz rfl rfl rfl rfl rfl R3 R47.read (by simp only [List.length_append, big_length, List.length_cons, List.length_nil]; omega) HB5.bw ?_
        intro a18 v48 w6 H18 R48 hb _
        have HB6 := HB5.step hb
        clear hb
        refine H18.move gz (.inr rfl) rfl rfl rfl ?_
        intro a19 H19
        refine nt ?_
        repeat (refine wp_seq ?_)
        refine wp_region_list ?_
        refine H19.move gz (.inl rfl) rfl rfl rfl ?_
        intro a20 H20
        refine H20.field gz rfl rfl rfl rfl field_1 ?_
        intro a21 H21
        refine H21.load gz rfl rfl rfl rfl (load1_s _ _ _ _ ((HB6.get 1 rfl).get 1 _ rfl)) ?_
        intro a22 H22
        refine H22.call gz rfl rfl rfl rfl (fun _ _ => by kernel_rfl) (rowTextR b0 (([0, 4, 77, 81, 84, 84] ++ [4, UInt8.ofNat (flagsC m)]) ++ big 2 m.keep.toNat) _ m.client hc _ R48 HB6.bw (by simp only [List.length_append, big_length, List.length_cons, List.length_nil]; omega)) ?_
        rintro a23 v52 w7 ⟨R52, hb⟩ H23
        have HB7 := HB6.step hb
        clear hb
        refine H23.move gz (.inr rfl) rfl rfl rfl ?_
        intro a24 H24
        refine nt ?_
        refine wp_seq_join (fun a w' => ∃ v, Has a 159 [(1, .pointer (some ⟨w.heap.size, 0, none⟩)), (4, .pointer (some ⟨w1.heap.size, 0, none⟩)), (3, v)] ∧ RowIs b0 (((([0, 4, 77, 81, 84, 84] ++ [4, UInt8.ofNat (flagsC m)]) ++ big 2 m.keep.toNat) ++ strB m.client) ++ (if m.won then strB m.wt ++ strB m.wp else [])) v w' ∧ Base w b0 [(w1.heap.size, (willL m)), (w.heap.size, (mqCells m (.slice A1 m.codes.length c1) (.slice A2 m.wishes.length c2) (.slice A3 m.filters.length c3)))] w') ?_ ?_
        · cases hb54 : m.won with
          | true =>
            repeat (refine wp_seq ?_)
            refine wp_region_list ?_
            refine H24.go gz rfl rfl _ (run_field rfl (H24.ev rfl) fieldV_0) ?_
            intro a25 H25
            refine H25.load gz rfl rfl rfl rfl (load1_b _ _ _ _ ((HB7.get 0 rfl).get 0 _ rfl)) ?_
            intro a26 H26
            refine nt ?_
            have H26b := H26.keep (l' := [(1, .pointer (some ⟨w.heap.size, 0, none⟩)), (4, .pointer (some ⟨w1.heap.size, 0, none⟩)), (3, v52), (54, .bool true)]) ⟨rfl, rfl, rfl, by first | exact congrArg (fun x => some (Value.bool x)) hb54, trivial⟩
            refine H26b.condT rfl ?_
            have H27 := H26b
            refine wp_region_invB (by kernel_rfl) (InvB 159 [(1, .pointer (some ⟨w.heap.size, 0, none⟩)), (4, .pointer (some ⟨w1.heap.size, 0, none⟩))] [⟨0, 55, [3], fun v w => RowIs b0 ((([0, 4, 77, 81, 84, 84] ++ [4, UInt8.ofNat (flagsC m)]) ++ big 2 m.keep.toNat) ++ strB m.client) v w⟩, ⟨1, 56, [], fun v _ => v = .pointer (some ⟨w1.heap.size, 1, none⟩)⟩, ⟨2, 57, [], fun v _ => v = .string m.wt⟩, ⟨3, 58, [6], fun v w => RowIs b0 (((([0, 4, 77, 81, 84, 84] ++ [4, UInt8.ofNat (flagsC m)]) ++ big 2 m.keep.toNat) ++ strB m.client) ++ strB m.wt) v w⟩, ⟨4, 59, [], fun v _ => v = .pointer (some ⟨w1.heap.size, 2, none⟩)⟩, ⟨5, 60, [], fun v _ => v = .string m.wp⟩, ⟨6, 61, [], fun v w => RowIs b0 (((([0, 4, 77, 81, 84, 84] ++ [4, UInt8.ofNat (flagsC m)]) ++ big 2 m.keep.toNat) ++ strB m.client) ++ strB m.wt ++ strB m.wp) v w⟩, ⟨7, 3, [], fun v w => RowIs b0 (((([0, 4, 77, 81, 84, 84] ++ [4, UInt8.ofNat (flagsC m)]) ++ big 2 m.keep.toNat) ++ strB m.client) ++ strB m.wt ++ strB m.wp) v w⟩, ⟨1000, 3, [3, 7], fun v w => RowIs b0 ((([0, 4, 77, 81, 84, 84] ++ [4, UInt8.ofNat (flagsC m)]) ++ big 2 m.keep.toNat) ++ strB m.client) v w⟩] (Base w b0 [(w1.heap.size, (willL m)), (w.heap.size, (mqCells m (.slice A1 m.codes.length c1) (.slice A2 m.wishes.length c2) (.slice A3 m.filters.length c3)))])) (back_of (by kernel_rfl)) ?_ ?_ ?_
            · intro listed aa ww i o hs hni hcl ho hd hI
              have hls : listed.size = 8 := hs
              have u_1 : aa.eval (.tmp 1) = .pointer (some ⟨w.heap.size, 0, none⟩) := hI.fx.1
              have u_4 : aa.eval (.tmp 4) = .pointer (some ⟨w1.heap.size, 0, none⟩) := hI.fx.2.1
              match i, ho with
              | 0, ho =>
                obtain rfl := pick_op ho rfl
                have r_3 := hI.vs _ (ma 8 rfl) (.inl (by rw [hls]; show 8 ≤ 1000; decide)) ⟨(Bool.eq_false_iff.2 fun h => absurd (hni.symm.trans (ran_of (hcl 3 _ rfl h) 0 (by kernel_rfl))) (by decide)), (Bool.eq_false_iff.2 fun h => absurd (hni.symm.trans (ran_of (hcl 3 _ rfl (ran_of (hcl 6 _ rfl (ran_of (hcl 7 _ rfl h) 6 (by kernel_rfl))) 3 (by kernel_rfl))) 0 (by kernel_rfl))) (by decide)), trivial⟩
                have HH : Has aa 159 [(3, aa.eval (.tmp 3))] := Has.of hI.sz hI.df ⟨rfl, trivial⟩
                refine wpOp_go ho gz 55 rfl (aa.eval (.tmp 3)) ww (run_move (.inl rfl) (HH.ev rfl)) ?_
                exact hI.put (by kernel_rfl) _ (ma 0 rfl) (by rw [hls]; show 0 < 8; decide) (by rw [hls]; decide) (aa.eval (.tmp 3)) r_3 hI.wp AllSt.same
              | 1, ho =>
                obtain rfl := pick_op ho rfl
                have HH : Has aa 159 [(4, .pointer (some ⟨w1.heap.size, 0, none⟩))] := Has.of hI.sz hI.df ⟨u_4, trivial⟩
                refine wpOp_go ho gz 56 rfl (.pointer (some ⟨w1.heap.size, 1, none⟩)) ww (run_field rfl (HH.ev rfl) fieldV_1) ?_
                exact hI.put (by kernel_rfl) _ (ma 1 rfl) (by rw [hls]; show 1 < 8; decide) (by rw [hls]; decide) (.pointer (some ⟨w1.heap.size, 1, none⟩)) rfl hI.wp AllSt.same
              | 2, ho =>
                obtain rfl := pick_op ho rfl
                have r_56 := hI.vs _ (ma 1 rfl) (.inr (ran_of hd 1 (by kernel_rfl))) trivial
                have u_56 : aa.eval (.tmp 56) = .pointer (some ⟨w1.heap.size, 1, none⟩) := r_56
                have HH : Has aa 159 [(56, .pointer (some ⟨w1.heap.size, 1, none⟩))] := Has.of hI.sz hI.df ⟨u_56, trivial⟩
                refine wpOp_go ho gz 57 rfl (.string m.wt) ww (run_load rfl (HH.ev rfl) (load1_s _ _ _ _ ((hI.wp.get 0 rfl).get 1 _ rfl))) ?_
                exact hI.put (by kernel_rfl) _ (ma 2 rfl) (by rw [hls]; show 2 < 8; decide) (by rw [hls]; decide) (.string m.wt) rfl hI.wp AllSt.same
              | 3, ho =>
                obtain rfl := pick_op ho rfl
                have r_55 := hI.vs _ (ma 0 rfl) (.inr (ran_of hd 0 (by kernel_rfl))) ⟨hni, trivial⟩
                have r_57 := hI.vs _ (ma 2 rfl) (.inr (ran_of hd 2 (by kernel_rfl))) trivial
                have u_57 : aa.eval (.tmp 57) = .string m.wt := r_57
                have HH : Has aa 159 [(55, aa.eval (.tmp 55)), (57, .string m.wt)] := Has.of hI.sz hI.df ⟨rfl, u_57, trivial⟩
                refine wpOp_enter ho gz 58 rfl 76 _ (run_callH HH rfl rfl (fun _ _ => by kernel_rfl)) _ (rowTextR b0 ((([0, 4, 77, 81, 84, 84] ++ [4, UInt8.ofNat (flagsC m)]) ++ big 2 m.keep.toNat) ++ strB m.client) (aa.eval (.tmp 55)) m.wt ht ww r_55 hI.wp.bw (by simp only [List.length_append, strB_length, big_length, List.length_cons, List.length_nil]; omega)) ?_
                rintro v' w' ⟨hrow, hb0⟩
                exact hI.put (by kernel_rfl) _ (ma 3 rfl) (by rw [hls]; show 3 < 8; decide) (by rw [hls]; decide) (v') hrow (hI.wp.step hb0) ⟨fun _ h => absurd (by show 3 ∈ ([3] : List Nat); decide) h, fun _ _ _ _ _ h => h, fun _ _ _ _ _ h => h, fun h => absurd rfl h, fun _ _ _ _ _ h => h, fun _ _ _ _ _ h => h, fun _ _ h => absurd (hni.symm.trans (ran_of (hcl 6 _ rfl (h.resolve_left (by rw [hls]; show ¬ 8 ≤ 6; decide))) 3 (by kernel_rfl))) (by decide), fun _ _ h => absurd (hni.symm.trans (ran_of (hcl 6 _ rfl (ran_of (hcl 7 _ rfl (h.resolve_left (by rw [hls]; show ¬ 8 ≤ 7; decide))) 6 (by kernel_rfl))) 3 (by kernel_rfl))) (by decide), fun _ h => absurd (by show 3 ∈ ([3, 7] : List Nat); decide) h, trivial⟩
              | 4, ho =>
                obtain rfl := pick_op ho rfl
                have HH : Has aa 159 [(4, .pointer (some ⟨w1.heap.size, 0, none⟩))] := Has.of hI.sz hI.df ⟨u_4, trivial⟩
                refine wpOp_go ho gz 59 rfl (.pointer (some ⟨w1.heap.size, 2, none⟩)) ww (run_field rfl (HH.ev rfl) fieldV_2) ?_
                exact hI.put (by kernel_rfl) _ (ma 4 rfl) (by rw [hls]; show 4 < 8; decide) (by rw [hls]; decide) (.pointer (some ⟨w1.heap.size, 2, none⟩)) rfl hI.wp AllSt.same
              | 5, ho =>
                obtain rfl := pick_op ho rfl
                have r_59 := hI.vs _ (ma 4 rfl) (.inr (ran_of hd 4 (by kernel_rfl))) trivial
                have u_59 : aa.eval (.tmp 59) = .pointer (some ⟨w1.heap.size, 2, none⟩) := r_59
                have HH : Has aa 159 [(59, .pointer (some ⟨w1.heap.size, 2, none⟩))] := Has.of hI.sz hI.df ⟨u_59, trivial⟩
                refine wpOp_go ho gz 60 rfl (.string m.wp) ww (run_load rfl (HH.ev rfl) (load1_s _ _ _ _ ((hI.wp.get 0 rfl).get 2 _ rfl))) ?_
                exact hI.put (by kernel_rfl) _ (ma 5 rfl) (by rw [hls]; show 5 < 8; decide) (by rw [hls]; decide) (.string m.wp) rfl hI.wp AllSt.same
              | 6, ho =>
                obtain rfl := pick_op ho rfl
                have r_58 := hI.vs _ (ma 3 rfl) (.inr (ran_of hd 3 (by kernel_rfl))) ⟨hni, trivial⟩
                have r_60 := hI.vs _ (ma 5 rfl) (.inr (ran_of hd 5 (by kernel_rfl))) trivial
                have u_60 : aa.eval (.tmp 60) = .string m.wp := r_60
                have HH : Has aa 159 [(58, aa.eval (.tmp 58)), (60, .string m.wp)] := Has.of hI.sz hI.df ⟨rfl, u_60, trivial⟩
                refine wpOp_enter ho gz 61 rfl 76 _ (run_callH HH rfl rfl (fun _ _ => by kernel_rfl)) _ (rowTextR b0 (((([0, 4, 77, 81, 84, 84] ++ [4, UInt8.ofNat (flagsC m)]) ++ big 2 m.keep.toNat) ++ strB m.client) ++ strB m.wt) (aa.eval (.tmp 58)) m.wp hp ww r_58 hI.wp.bw (by simp only [List.length_append, strB_length, big_length, List.length_cons, List.length_nil]; omega)) ?_
                rintro v' w' ⟨hrow, hb0⟩
                exact hI.put (by kernel_rfl) _ (ma 6 rfl) (by rw [hls]; show 6 < 8; decide) (by rw [hls]; decide) (v') hrow (hI.wp.step hb0) ⟨fun _ _ _ hk => absurd (hk.1.symm.trans (ran_of hd 3 (by kernel_rfl))) (by decide), fun _ _ _ _ _ h => h, fun _ _ _ _ _ h => h, fun _ h => absurd (by show 6 ∈ ([6] : List Nat); decide) h, fun _ _ _ _ _ h => h, fun _ _ _ _ _ h => h, fun h => absurd rfl h, fun _ _ h => absurd (hni.symm.trans (ran_of (hcl 7 _ rfl (h.resolve_left (by rw [hls]; show ¬ 8 ≤ 7; decide))) 6 (by kernel_rfl))) (by decide), fun _ _ _ hk => absurd (hk.1.symm.trans (ran_of hd 3 (by kernel_rfl))) (by decide), trivial⟩
              | 7, ho =>
                obtain rfl := pick_op ho rfl
                have r_61 := hI.vs _ (ma 6 rfl) (.inr (ran_of hd 6 (by kernel_rfl))) trivial
                have HH : Has aa 159 [(61, aa.eval (.tmp 61))] := Has.of hI.sz hI.df ⟨rfl, trivial⟩
                refine wpOp_go ho gz 3 rfl (aa.eval (.tmp 61)) ww (run_move (.inr rfl) (HH.ev rfl)) ?_
                exact hI.put (by kernel_rfl) _ (ma 7 rfl) (by rw [hls]; show 7 < 8; decide) (by rw [hls]; decide) (aa.eval (.tmp 61)) r_61 hI.wp AllSt.same
              | (k + 8), ho => simp at ho
            · intro listed a28 w8 hall hI
              have r_3 := hI.vs _ (ma 7 rfl) (.inr (hall 7 (by decide))) trivial
              have H28 : Has a28 159 [(1, .pointer (some ⟨w.heap.size, 0, none⟩)), (4, .pointer (some ⟨w1.heap.size, 0, none⟩)), (3, a28.eval (.tmp 3))] := Has.of hI.sz hI.df ⟨hI.fx.1, hI.fx.2.1, rfl, trivial⟩
              have HB8 := hI.wp
              have R3_8 : RowIs b0 (((([0, 4, 77, 81, 84, 84] ++ [4, UInt8.ofNat (flagsC m)]) ++ big 2 m.keep.toNat) ++ strB m.client) ++ strB m.wt ++ strB m.wp) (a28.eval (.tmp 3)) w8 := r_3
              refine then_normal ?_
              exact ⟨_, H28.keep ⟨rfl, rfl, rfl, trivial⟩, (by rw [if_pos rfl, ← List.append_assoc]; exact R3_8), HB8⟩
            · exact InvB.start H27.sz H27.df ⟨H27.at_ 1 _ rfl, H27.at_ 4 _ rfl, trivial⟩ ⟨fun h => absurd h (by show ¬ 8 ≤ 0; decide), fun h => absurd h (by show ¬ 8 ≤ 1; decide), fun h => absurd h (by show ¬ 8 ≤ 2; decide), fun h => absurd h (by show ¬ 8 ≤ 3; decide), fun h => absurd h (by show ¬ 8 ≤ 4; decide), fun h => absurd h (by show ¬ 8 ≤ 5; decide), fun h => absurd h (by show ¬ 8 ≤ 6; decide), fun h => absurd h (by show ¬ 8 ≤ 7; decide), fun _ => (by rw [H27.at_ 3 _ rfl]; exact R52.drew), trivial⟩ HB7.drew
          | false =>
            repeat (refine wp_seq ?_)
            refine wp_region_list ?_
            refine H24.go gz rfl rfl _ (run_field rfl (H24.ev rfl) fieldV_0) ?_
            intro a25 H25
            refine H25.load gz rfl rfl rfl rfl (load1_b _ _ _ _ ((HB7.get 0 rfl).get 0 _ rfl)) ?_
            intro a26 H26
            refine nt ?_
            have H26b := H26.keep (l' := [(1, .pointer (some ⟨w.heap.size, 0, none⟩)), (4, .pointer (some ⟨w1.heap.size, 0, none⟩)), (3, v52), (54, .bool false)]) ⟨rfl, rfl, rfl, by first | exact congrArg (fun x => some (Value.bool x)) hb54, trivial⟩
            refine H26b.condF rfl ?_
            refine skip_wp ?_
            refine then_normal ?_
            exact ⟨_, H26b.keep ⟨rfl, rfl, rfl, trivial⟩, (by rw [if_neg (show ¬ (false = true) by decide), List.append_nil]; exact R52), HB7⟩
        · rintro a64 w27 ⟨v3_27, H64, R3_27, HB27⟩
          have hl1 : (if m.won then strB m.wt ++ strB m.wp else []).length ≤ 200000 := by split <;> simp [strB_length] <;> omega
          refine wp_seq_join (fun a w' => ∃ v, Has a 159 [(1, .pointer (some ⟨w.heap.size, 0, none⟩)), (4, .pointer (some ⟨w1.heap.size, 0, none⟩)), (3, v)] ∧ RowIs b0 ((((([0, 4, 77, 81, 84, 84] ++ [4, UInt8.ofNat (flagsC m)]) ++ big 2 m.keep.toNat) ++ strB m.client) ++ (if m.won then strB m.wt ++ strB m.wp else [])) ++ (if m.hu then strB m.user else [])) v w' ∧ Base w b0 [(w1.heap.size, (willL m)), (w.heap.size, (mqCells m (.slice A1 m.codes.length c1) (.slice A2 m.wishes.length c2) (.slice A3 m.filters.length c3)))] w') ?_ ?_
          · cases hb63 : m.hu with
            | true =>
              repeat (refine wp_seq ?_)
              refine wp_region_list ?_
              refine H64.field gz rfl rfl rfl rfl field_6 ?_
              intro a65 H65
              refine H65.load gz rfl rfl rfl rfl (load1_b _ _ _ _ ((HB27.get 1 rfl).get 10 _ rfl)) ?_
              intro a66 H66
              refine nt ?_
              have H66b := H66.keep (l' := [(1, .pointer (some ⟨w.heap.size, 0, none⟩)), (4, .pointer (some ⟨w1.heap.size, 0, none⟩)), (3, v3_27), (63, .bool true)]) ⟨rfl, rfl, rfl, by first | exact congrArg (fun x => some (Value.bool x)) hb63, trivial⟩
              refine H66b.condT rfl ?_
              have H67 := H66b
              refine wp_region_list ?_
              refine H67.move gz (.inl rfl) rfl rfl rfl ?_
              intro a68 H68
              refine H68.field gz rfl rfl rfl rfl field_5 ?_
              intro a69 H69
              refine H69.load gz rfl rfl rfl rfl (load1_s _ _ _ _ ((HB27.get 1 rfl).get 9 _ rfl)) ?_
              intro a70 H70
              refine H70.call gz rfl rfl rfl rfl (fun _ _ => by kernel_rfl) (rowTextR b0 (((([0, 4, 77, 81, 84, 84] ++ [4, UInt8.ofNat (flagsC m)]) ++ big 2 m.keep.toNat) ++ strB m.client) ++ (if m.won then strB m.wt ++ strB m.wp else [])) _ m.user hu' _ R3_27 HB27.bw (by simp only [List.length_append, strB_length, big_length, List.length_cons, List.length_nil]; omega)) ?_
              rintro a71 v67 w28 ⟨R67, hb⟩ H71
              have HB28 := HB27.step hb
              clear hb
              refine H71.move gz (.inr rfl) rfl rfl rfl ?_
              intro a72 H72
              refine nt ?_
              exact ⟨_, H72.keep ⟨rfl, rfl, rfl, trivial⟩, (by rw [if_pos rfl]; exact R67), HB28⟩
            | false =>
              repeat (refine wp_seq ?_)
              refine wp_region_list ?_
              refine H64.field gz rfl rfl rfl rfl field_6 ?_
              intro a65 H65
              refine H65.load gz rfl rfl rfl rfl (load1_b _ _ _ _ ((HB27.get 1 rfl).get 10 _ rfl)) ?_
              intro a66 H66
              refine nt ?_
              have H66b := H66.keep (l' := [(1, .pointer (some ⟨w.heap.size, 0, none⟩)), (4, .pointer (some ⟨w1.heap.size, 0, none⟩)), (3, v3_27), (63, .bool false)]) ⟨rfl, rfl, rfl, by first | exact congrArg (fun x => some (Value.bool x)) hb63, trivial⟩
              refine H66b.condF rfl ?_
              refine skip_wp ?_
              refine then_normal ?_
              exact ⟨_, H66b.keep ⟨rfl, rfl, rfl, trivial⟩, (by rw [if_neg (show ¬ (false = true) by decide), List.append_nil]; exact R3_27), HB27⟩
          · rintro a104 w47 ⟨v3_47, H104, R3_47, HB47⟩
            have hl2 : (if m.hu then strB m.user else []).length ≤ 200000 := by split <;> simp [strB_length] <;> omega
            cases hb69 : m.hp with
            | true =>
              repeat (refine wp_seq ?_)
              refine wp_region_list ?_
              refine H104.field gz rfl rfl rfl rfl field_8 ?_
              intro a105 H105
              refine H105.load gz rfl rfl rfl rfl (load1_b _ _ _ _ ((HB47.get 1 rfl).get 12 _ rfl)) ?_
              intro a106 H106
              refine nt ?_
              have H106b := H106.keep (l' := [(1, .pointer (some ⟨w.heap.size, 0, none⟩)), (4, .pointer (some ⟨w1.heap.size, 0, none⟩)), (3, v3_47), (69, .bool true)]) ⟨rfl, rfl, rfl, by first | exact congrArg (fun x => some (Value.bool x)) hb69, trivial⟩
              refine H106b.condT rfl ?_
              have H107 := H106b
              refine wp_region_list ?_
              refine H107.move gz (.inl rfl) rfl rfl rfl ?_
              intro a108 H108
              refine H108.field gz rfl rfl rfl rfl field_7 ?_
              intro a109 H109
              refine H109.load gz rfl rfl rfl rfl (load1_s _ _ _ _ ((HB47.get 1 rfl).get 11 _ rfl)) ?_
              intro a110 H110
              refine H110.call gz rfl rfl rfl rfl (fun _ _ => by kernel_rfl) (rowTextR b0 ((((([0, 4, 77, 81, 84, 84] ++ [4, UInt8.ofNat (flagsC m)]) ++ big 2 m.keep.toNat) ++ strB m.client) ++ (if m.won then strB m.wt ++ strB m.wp else [])) ++ (if m.hu then strB m.user else [])) _ m.pass hp' _ R3_47 HB47.bw (by simp only [List.length_append, strB_length, big_length, List.length_cons, List.length_nil]; omega)) ?_
              rintro a111 v73 w48 ⟨R73, hb⟩ H111
              have HB48 := HB47.step hb
              clear hb
              refine H111.move gz (.inr rfl) rfl rfl rfl ?_
              intro a112 H112
              refine wpList_nil ?_
              refine block_normal ?_
              refine then_normal ?_
              exact ⟨_, H112.keep ⟨rfl, rfl, trivial⟩, (by rw [pre_1 k1, connect_spell, hb69]; exact RowIs.base (by rw [if_pos rfl]; exact R73) hw3), HB48.low2 hw3 O1⟩
            | false =>
              repeat (refine wp_seq ?_)
              refine wp_region_list ?_
              refine H104.field gz rfl rfl rfl rfl field_8 ?_
              intro a105 H105
              refine H105.load gz rfl rfl rfl rfl (load1_b _ _ _ _ ((HB47.get 1 rfl).get 12 _ rfl)) ?_
              intro a106 H106
              refine nt ?_
              have H106b := H106.keep (l' := [(1, .pointer (some ⟨w.heap.size, 0, none⟩)), (4, .pointer (some ⟨w1.heap.size, 0, none⟩)), (3, v3_47), (69, .bool false)]) ⟨rfl, rfl, rfl, by first | exact congrArg (fun x => some (Value.bool x)) hb69, trivial⟩
              refine H106b.condF rfl ?_
              have H107 := H106b
              refine skip_wp ?_
              refine block_normal ?_
              refine then_normal ?_
              exact ⟨_, H107.keep ⟨rfl, rfl, trivial⟩, (by rw [pre_1 k1, connect_spell, hb69]; exact RowIs.base (by rw [if_neg (show ¬ (false = true) by decide), List.append_nil]; exact R3_47) hw3), HB47.low2 hw3 O1⟩
      · exact InvB.start H12.sz H12.df ⟨H12.at_ 1 _ rfl, H12.at_ 4 _ rfl, trivial⟩ ⟨fun h => absurd h (by show ¬ 28 ≤ 0; decide), fun h => absurd h (by show ¬ 28 ≤ 1; decide), fun h => absurd h (by show ¬ 28 ≤ 2; decide), fun h => absurd h (by show ¬ 28 ≤ 3; decide), fun h => absurd h (by show ¬ 28 ≤ 4; decide), fun h => absurd h (by show ¬ 28 ≤ 5; decide), fun h => absurd h (by show ¬ 28 ≤ 6; decide), fun h => absurd h (by show ¬ 28 ≤ 7; decide), fun h => absurd h (by show ¬ 28 ≤ 8; decide), fun h => absurd h (by show ¬ 28 ≤ 9; decide), fun h => absurd h (by show ¬ 28 ≤ 10; decide), fun h => absurd h (by show ¬ 28 ≤ 11; decide), fun h => absurd h (by show ¬ 28 ≤ 12; decide), fun h => absurd h (by show ¬ 28 ≤ 13; decide), fun h => absurd h (by show ¬ 28 ≤ 14; decide), fun h => absurd h (by show ¬ 28 ≤ 15; decide), fun h => absurd h (by show ¬ 28 ≤ 16; decide), fun h => absurd h (by show ¬ 28 ≤ 17; decide), fun h => absurd h (by show ¬ 28 ≤ 18; decide), fun h => absurd h (by show ¬ 28 ≤ 19; decide), fun h => absurd h (by show ¬ 28 ≤ 20; decide), fun h => absurd h (by show ¬ 28 ≤ 21; decide), fun h => absurd h (by show ¬ 28 ≤ 22; decide), fun h => absurd h (by show ¬ 28 ≤ 23; decide), fun h => absurd h (by show ¬ 28 ≤ 24; decide), fun h => absurd h (by show ¬ 28 ≤ 25; decide), fun h => absurd h (by show ¬ 28 ≤ 26; decide), fun h => absurd h (by show ¬ 28 ≤ 27; decide), trivial⟩ HB3.drew
    | false =>
      have k1 : ¬ m.kind = 1 := by simpa using h1
      repeat (refine wp_seq ?_)
      refine wp_region_list ?_
      refine H5.bin gz rfl rfl rfl rfl rfl (eql_iB _ _ _ h1 _ _ _) ?_
      intro a6 H6
      refine H6.move gz (.inr rfl) rfl rfl rfl ?_
      intro a7 H7
      refine nt ?_
      refine H7.condF rfl ?_
      obtain ⟨b2, h2⟩ : ∃ b, (m.kind == 2) = b := ⟨_, rfl⟩
      cases b2 with
      | true =>
        have k2 : m.kind = 2 := by simpa using h2
        repeat (refine wp_seq ?_)
        refine wp_region_list ?_
        refine H7.bin gz rfl rfl rfl rfl rfl (eql_iB _ _ _ h2 _ _ _) ?_
        intro a8 H8
        refine H8.move gz (.inr rfl) rfl rfl rfl ?_
        intro a9 H9
        refine nt ?_
        refine H9.condT rfl ?_
        have HB1 := Base.of O1
        obtain ⟨b0, hb0⟩ : ∃ b0, b0 = w1.heap.size := ⟨_, rfl⟩
        rw [← hb0] at HB1
        have hb0' := hb0
        clear hb0
        have H10 := H9.keep (l' := [(1, .pointer (some ⟨w.heap.size, 0, none⟩))]) ⟨rfl, trivial⟩
        have hc0 := may_ack hm.1 k1 k2
        repeat (refine wp_seq ?_)
        have hb1 : cb m.present 1 < 256 := cb_lt _ _ (by decide)
        refine wp_region_invB (by kernel_rfl) (InvB 159 [(1, .pointer (some ⟨w.heap.size, 0, none⟩))] [⟨0, 76, [], fun v _ => v = .pointer (some ⟨w.heap.size, 13, none⟩)⟩, ⟨1, 77, [], fun v _ => v = .bool m.present⟩, ⟨2, 78, [], fun v _ => v = .int .u8 ((cb m.present 1 : Nat) : Int)⟩, ⟨3, 79, [], fun v _ => v = .pointer (some ⟨w.heap.size, 14, none⟩)⟩, ⟨4, 80, [], fun v _ => v = .int .i64 m.code⟩, ⟨5, 81, [], fun v _ => v = .int .u8 (m.code % 256)⟩, ⟨6, 82, [], fun v w => RowIs b0 [UInt8.ofNat (cb m.present 1), UInt8.ofNat m.code.toNat] v w⟩, ⟨7, 3, [], fun v w => RowIs b0 [UInt8.ofNat (cb m.present 1), UInt8.ofNat m.code.toNat] v w⟩] (Base w b0 [(w.heap.size, (mqCells m (.slice A1 m.codes.length c1) (.slice A2 m.wishes.length c2) (.slice A3 m.filters.length c3)))])) (back_of (by kernel_rfl)) ?_ ?_ ?_
        · intro listed aa ww i o hs hni hcl ho hd hI
          have hls : listed.size = 8 := hs
          have u_1 : aa.eval (.tmp 1) = .pointer (some ⟨w.heap.size, 0, none⟩) := hI.fx.1
          match i, ho with
          | 0, ho =>
            obtain rfl := pick_op ho rfl
            have HH : Has aa 159 [(1, .pointer (some ⟨w.heap.size, 0, none⟩))] := Has.of hI.sz hI.df ⟨u_1, trivial⟩
            refine wpOp_go ho gz 76 rfl (.pointer (some ⟨w.heap.size, 13, none⟩)) ww (run_field rfl (HH.ev rfl) field_9) ?_
            exact hI.put (by kernel_rfl) _ (ma 0 rfl) (by rw [hls]; show 0 < 8; decide) (by rw [hls]; decide) (.pointer (some ⟨w.heap.size, 13, none⟩)) rfl hI.wp AllSt.same
          | 1, ho =>
            obtain rfl := pick_op ho rfl
            have r_76 := hI.vs _ (ma 0 rfl) (.inr (ran_of hd 0 (by kernel_rfl))) trivial
            have u_76 : aa.eval (.tmp 76) = .pointer (some ⟨w.heap.size, 13, none⟩) := r_76
            have HH : Has aa 159 [(76, .pointer (some ⟨w.heap.size, 13, none⟩))] := Has.of hI.sz hI.df ⟨u_76, trivial⟩
            refine wpOp_go ho gz 77 rfl (.bool m.present) ww (run_load rfl (HH.ev rfl) (load1_b _ _ _ _ ((hI.wp.get 0 rfl).get 13 _ rfl))) ?_
            exact hI.put (by kernel_rfl) _ (ma 1 rfl) (by rw [hls]; show 1 < 8; decide) (by rw [hls]; decide) (.bool m.present) rfl hI.wp AllSt.same
          | 2, ho =>
            obtain rfl := pick_op ho rfl
            have r_77 := hI.vs _ (ma 1 rfl) (.inr (ran_of hd 1 (by kernel_rfl))) trivial
            have u_77 : aa.eval (.tmp 77) = .bool m.present := r_77
            have HH : Has aa 159 [(77, .bool m.present)] := Has.of hI.sz hI.df ⟨u_77, trivial⟩
            refine wpOp_enter ho gz 78 rfl 56 _ (run_callH HH rfl rfl (fun _ _ => by kernel_rfl)) _ (quietC (refBitN m.present 1 1 rfl ww)) ?_
            rintro _ _ ⟨rfl, rfl⟩
            exact hI.put (by kernel_rfl) _ (ma 2 rfl) (by rw [hls]; show 2 < 8; decide) (by rw [hls]; decide) (.int .u8 ((cb m.present 1 : Nat) : Int)) rfl hI.wp AllSt.same
          | 3, ho =>
            obtain rfl := pick_op ho rfl
            have HH : Has aa 159 [(1, .pointer (some ⟨w.heap.size, 0, none⟩))] := Has.of hI.sz hI.df ⟨u_1, trivial⟩
            refine wpOp_go ho gz 79 rfl (.pointer (some ⟨w.heap.size, 14, none⟩)) ww (run_field rfl (HH.ev rfl) field_10) ?_
            exact hI.put (by kernel_rfl) _ (ma 3 rfl) (by rw [hls]; show 3 < 8; decide) (by rw [hls]; decide) (.pointer (some ⟨w.heap.size, 14, none⟩)) rfl hI.wp AllSt.same
          | 4, ho =>
            obtain rfl := pick_op ho rfl
            have r_79 := hI.vs _ (ma 3 rfl) (.inr (ran_of hd 3 (by kernel_rfl))) trivial
            have u_79 : aa.eval (.tmp 79) = .pointer (some ⟨w.heap.size, 14, none⟩) := r_79
            have HH : Has aa 159 [(79, .pointer (some ⟨w.heap.size, 14, none⟩))] := Has.of hI.sz hI.df ⟨u_79, trivial⟩
            refine wpOp_go ho gz 80 rfl (.int .i64 m.code) ww (run_load rfl (HH.ev rfl) (load1_i _ _ _ _ ((hI.wp.get 0 rfl).get 14 _ rfl))) ?_
            exact hI.put (by kernel_rfl) _ (ma 4 rfl) (by rw [hls]; show 4 < 8; decide) (by rw [hls]; decide) (.int .i64 m.code) rfl hI.wp AllSt.same
          | 5, ho =>
            obtain rfl := pick_op ho rfl
            have r_80 := hI.vs _ (ma 4 rfl) (.inr (ran_of hd 4 (by kernel_rfl))) trivial
            have u_80 : aa.eval (.tmp 80) = .int .i64 m.code := r_80
            have HH : Has aa 159 [(80, .int .i64 m.code)] := Has.of hI.sz hI.df ⟨u_80, trivial⟩
            refine wpOp_go ho gz 81 rfl (.int .u8 (m.code % 256)) ww (run_conv rfl (HH.ev rfl) (conv_u8 _ _)) ?_
            exact hI.put (by kernel_rfl) _ (ma 5 rfl) (by rw [hls]; show 5 < 8; decide) (by rw [hls]; decide) (.int .u8 (m.code % 256)) rfl hI.wp AllSt.same
          | 6, ho =>
            obtain rfl := pick_op ho rfl
            have u_78 := hI.vs _ (ma 2 rfl) (.inr (ran_of hd 2 (by kernel_rfl))) trivial
            have u_81 := hI.vs _ (ma 5 rfl) (.inr (ran_of hd 5 (by kernel_rfl))) trivial
            have HH : Has aa 159 [(78, .int .u8 ((cb m.present 1 : Nat) : Int)), (81, .int .u8 (m.code % 256))] := Has.of hI.sz hI.df ⟨u_78, u_81, trivial⟩
            have hrw := row_lit ww b0 hI.wp.bw [UInt8.ofNat (cb m.present 1), UInt8.ofNat m.code.toNat] [.int .u8 ((cb m.present 1 : Nat) : Int), .int .u8 (m.code % 256)] (by rw [bv_nat _ hb1, byte_of_int _ hc0]; rfl) 2 rfl (by decide)
            have hb := balloc ww (.cells ([.int .u8 ((cb m.present 1 : Nat) : Int), .int .u8 (m.code % 256)] : List Value).toArray 5)
            refine wpOp_go ho gz 82 rfl (.slice (some ⟨ww.heap.size, 0, none⟩) 2 2) (ww.alloc (.cells ([.int .u8 ((cb m.present 1 : Nat) : Int), .int .u8 (m.code % 256)] : List Value).toArray 5)) (run_any HH (by intro cs b h; cases h) (by kernel_rfl) (by kernel_rfl)) ?_
            exact hI.put (by kernel_rfl) _ (ma 6 rfl) (by rw [hls]; show 6 < 8; decide) (by rw [hls]; decide) (.slice (some ⟨ww.heap.size, 0, none⟩) 2 2) hrw (hI.wp.call hb) ⟨fun _ _ _ _ _ h => h, fun _ _ _ _ _ h => h, fun _ _ _ _ _ h => h, fun _ _ _ _ _ h => h, fun _ _ _ _ _ h => h, fun _ _ _ _ _ h => h, fun h => absurd rfl h, fun _ _ _ _ _ h => h.below hb, trivial⟩
          | 7, ho =>
            obtain rfl := pick_op ho rfl
            have r_82 := hI.vs _ (ma 6 rfl) (.inr (ran_of hd 6 (by kernel_rfl))) trivial
            have HH : Has aa 159 [(82, aa.eval (.tmp 82))] := Has.of hI.sz hI.df ⟨rfl, trivial⟩
            refine wpOp_go ho gz 3 rfl (aa.eval (.tmp 82)) ww (run_move (.inr rfl) (HH.ev rfl)) ?_
            exact hI.put (by kernel_rfl) _ (ma 7 rfl) (by rw [hls]; show 7 < 8; decide) (by rw [hls]; decide) (aa.eval (.tmp 82)) r_82 hI.wp AllSt.same
          | (k + 8), ho => simp at ho
        · intro listed a11 w2 hall hI
          have r_3 := hI.vs _ (ma 7 rfl) (.inr (hall 7 (by decide))) trivial
          have H11 : Has a11 159 [(1, .pointer (some ⟨w.heap.size, 0, none⟩)), (3, a11.eval (.tmp 3))] := Has.of hI.sz hI.df ⟨hI.fx.1, rfl, trivial⟩
          have HB2 := hI.wp
          have R3_2 : RowIs b0 [UInt8.ofNat (cb m.present 1), UInt8.ofNat m.code.toNat] (a11.eval (.tmp 3)) w2 := r_3
          refine block_normal ?_
          refine then_normal ?_
          exact ⟨_, H11.keep ⟨rfl, rfl, trivial⟩, (by rw [pre_2 k2]; exact R3_2.base (Nat.le_of_eq hb0'.symm)), HB2.low (Nat.le_of_eq hb0'.symm) O1⟩
        · exact InvB.start H10.sz H10.df ⟨H10.at_ 1 _ rfl, trivial⟩ ⟨fun h => absurd h (by show ¬ 8 ≤ 0; decide), fun h => absurd h (by show ¬ 8 ≤ 1; decide), fun h => absurd h (by show ¬ 8 ≤ 2; decide), fun h => absurd h (by show ¬ 8 ≤ 3; decide), fun h => absurd h (by show ¬ 8 ≤ 4; decide), fun h => absurd h (by show ¬ 8 ≤ 5; decide), fun h => absurd h (by show ¬ 8 ≤ 6; decide), fun h => absurd h (by show ¬ 8 ≤ 7; decide), trivial⟩ HB1.drew
      | false =>
        have k2 : ¬ m.kind = 2 := by simpa using h2
        repeat (refine wp_seq ?_)
        refine wp_region_list ?_
        refine H7.bin gz rfl rfl rfl rfl rfl (eql_iB _ _ _ h2 _ _ _) ?_
        intro a8 H8
        refine H8.move gz (.inr rfl) rfl rfl rfl ?_
        intro a9 H9
        refine nt ?_
        refine H9.condF rfl ?_
        obtain ⟨b3, h3⟩ : ∃ b, (m.kind == 3) = b := ⟨_, rfl⟩
        cases b3 with
        | true =>
          have k3 : m.kind = 3 := by simpa using h3
          repeat (refine wp_seq ?_)
          refine wp_region_list ?_
          refine H9.bin gz rfl rfl rfl rfl rfl (eql_iB _ _ _ h3 _ _ _) ?_
          intro a10 H10
          refine H10.move gz (.inr rfl) rfl rfl rfl ?_
          intro a11 H11
          refine nt ?_
          refine H11.condT rfl ?_
          have HB1 := Base.of O1
          obtain ⟨b0, hb0⟩ : ∃ b0, b0 = w1.heap.size := ⟨_, rfl⟩
          rw [← hb0] at HB1
          have hb0' := hb0
          clear hb0
          have H12 := H11.keep (l' := [(1, .pointer (some ⟨w.heap.size, 0, none⟩))]) ⟨rfl, trivial⟩
          obtain ⟨ht, hp, hi0, hi1⟩ := may_pub hm.1 k1 k2 k3
          repeat (refine wp_seq ?_)
          refine wp_region_list ?_
          refine H12.field gz rfl rfl rfl rfl field_15 ?_
          intro a13 H13
          refine H13.load gz rfl rfl rfl rfl (load1_s _ _ _ _ ((HB1.get 0 rfl).get 19 _ rfl)) ?_
          intro a14 H14
          refine H14.call gz rfl rfl rfl rfl (fun _ _ => by kernel_rfl) (rowTextR b0 [] _ m.topic ht _ (RowIs.nil _ _) HB1.bw (by simp)) ?_
          rintro a15 v87 w2 ⟨R87, hb⟩ H15
          have HB2 := HB1.step hb
          clear hb
          refine H15.move gz (.inr rfl) rfl rfl rfl ?_
          intro a16 H16
          refine nt ?_
          refine wp_seq_join (fun a w' => ∃ v, Has a 159 [(1, .pointer (some ⟨w.heap.size, 0, none⟩)), (3, v)] ∧ RowIs b0 (([] ++ strB m.topic) ++ (if 0 < m.qos then big 2 m.id.toNat else [])) v w' ∧ Base w b0 [(w.heap.size, (mqCells m (.slice A1 m.codes.length c1) (.slice A2 m.wishes.length c2) (.slice A3 m.filters.length c3)))] w') ?_ ?_
          · skip
            by_cases hq : 0 < m.qos
            · skip
              repeat (refine wp_seq ?_)
              refine wp_region_list ?_
              refine H16.field gz rfl rfl rfl rfl field_13 ?_
              intro a17 H17
              refine H17.load gz rfl rfl rfl rfl (load1_i _ _ _ _ ((HB2.get 0 rfl).get 17 _ rfl)) ?_
              intro a18 H18
              refine H18.bin gz rfl rfl rfl rfl rfl (gtr_i _ _ true (by simpa using hq) _ _ _) ?_
              intro a19 H19
              refine nt ?_
              refine H19.condT rfl ?_
              have R3 := R87
              refine wp_region_list ?_
              refine H19.move gz (.inl rfl) rfl rfl rfl ?_
              intro a20 H20
              refine H20.field gz rfl rfl rfl rfl field_16 ?_
              intro a21 H21
              refine H21.load gz rfl rfl rfl rfl (load1_i _ _ _ _ ((HB2.get 0 rfl).get 20 _ rfl)) ?_
              intro a22 H22
              refine H22.call gz rfl rfl rfl rfl (fun _ _ => by kernel_rfl) (rowBig b0 m.id hi0 hi1 _ HB2.bw) ?_
              rintro a23 v94 w3 ⟨R94, hb⟩ H23
              have HB3 := HB2.call hb
              have R3 := R3.below hb
              clear hb
              refine H23.appendRow Tryd.underlying31 info_u8 gz rfl rfl rfl rfl rfl R3 R94.read (by simp only [List.length_append, strB_length, big_length, List.length_nil]; omega) HB3.bw ?_
              intro a24 v95 w4 H24 R95 hb _
              have HB4 := HB3.step hb
              clear hb
              refine H24.move gz (.inr rfl) rfl rfl rfl ?_
              intro a25 H25
              refine nt ?_
              exact ⟨_, H25.keep ⟨rfl, rfl, trivial⟩, (by rw [if_pos hq]; exact R95), HB4⟩
            · skip
              repeat (refine wp_seq ?_)
              refine wp_region_list ?_
              refine H16.field gz rfl rfl rfl rfl field_13 ?_
              intro a17 H17
              refine H17.load gz rfl rfl rfl rfl (load1_i _ _ _ _ ((HB2.get 0 rfl).get 17 _ rfl)) ?_
              intro a18 H18
              refine H18.bin gz rfl rfl rfl rfl rfl (gtr_i _ _ false (by simpa using hq) _ _ _) ?_
              intro a19 H19
              refine nt ?_
              refine H19.condF rfl ?_
              refine skip_wp ?_
              refine then_normal ?_
              exact ⟨_, H19.keep ⟨rfl, rfl, trivial⟩, (by rw [if_neg hq, List.append_nil]; exact R87), HB2⟩
          · rintro a46 w12 ⟨v3, H46, R3, HB12⟩
            have hl1 : (if 0 < m.qos then big 2 m.id.toNat else []).length ≤ 2 := by split <;> simp [big_length]
            refine wp_region_list ?_
            refine H46.move gz (.inl rfl) rfl rfl rfl ?_
            intro a47 H47
            refine H47.field gz rfl rfl rfl rfl field_17 ?_
            intro a48 H48
            refine H48.load gz rfl rfl rfl rfl (load1_s _ _ _ _ ((HB12.get 0 rfl).get 21 _ rfl)) ?_
            intro a49 H49
            refine H49.appendStr Tryd.underlying31 Tryd.underlying9 info_u8 gz rfl rfl rfl rfl rfl R3 (by simp only [List.length_append, strB_length, List.length_nil]; omega) HB12.bw ?_
            intro a50 v99 w13 H50 R99 hb _
            have HB13 := HB12.step hb
            clear hb
            refine H50.move gz (.inr rfl) rfl rfl rfl ?_
            intro a51 H51
            refine wpList_nil ?_
            refine block_normal ?_
            refine then_normal ?_
            exact ⟨_, H51.keep ⟨rfl, rfl, trivial⟩, (by rw [pre_3 k3, publishBy]; exact R99.base (Nat.le_of_eq hb0'.symm)), HB13.low (Nat.le_of_eq hb0'.symm) O1⟩
        | false =>
          have k3 : ¬ m.kind = 3 := by simpa using h3
          repeat (refine wp_seq ?_)
          refine wp_region_list ?_
          refine H9.bin gz rfl rfl rfl rfl rfl (eql_iB _ _ _ h3 _ _ _) ?_
          intro a10 H10
          refine H10.move gz (.inr rfl) rfl rfl rfl ?_
          intro a11 H11
          refine nt ?_
          refine H11.condF rfl ?_
          refine wp_seq_join (fun a w' => ∃ b, bareKind m.kind = b ∧ Has a 159 [(1, .pointer (some ⟨w.heap.size, 0, none⟩)), (3, .slice none 0 0), (100, .bool b)] ∧ w1 = w') ?_ ?_
          · skip
            obtain ⟨b12, h12⟩ : ∃ b, (m.kind == 12) = b := ⟨_, rfl⟩
            cases b12 with
            | true =>
              repeat (refine wp_seq ?_)
              refine wp_region_list ?_
              refine H11.bin gz rfl rfl rfl rfl rfl (eql_iB _ _ _ h12 _ _ _) ?_
              intro a12 H12
              refine H12.move gz (.inr rfl) rfl rfl rfl ?_
              intro a13 H13
              refine nt ?_
              refine H13.condT rfl ?_
              refine skip_wp ?_
              refine then_normal ?_
              exact ⟨_, (by unfold bareKind; rw [h12] <;> rfl), H13.keep ⟨rfl, rfl, rfl, trivial⟩, rfl⟩
            | false =>
              repeat (refine wp_seq ?_)
              refine wp_region_list ?_
              refine H11.bin gz rfl rfl rfl rfl rfl (eql_iB _ _ _ h12 _ _ _) ?_
              intro a12 H12
              refine H12.move gz (.inr rfl) rfl rfl rfl ?_
              intro a13 H13
              refine nt ?_
              refine H13.condF rfl ?_
              obtain ⟨b13, h13⟩ : ∃ b, (m.kind == 13) = b := ⟨_, rfl⟩
              cases b13 with
              | true =>
                repeat (refine wp_seq ?_)
                refine wp_region_list ?_
                refine H13.bin gz rfl rfl rfl rfl rfl (eql_iB _ _ _ h13 _ _ _) ?_
                intro a14 H14
                refine H14.move gz (.inr rfl) rfl rfl rfl ?_
                intro a15 H15
                refine nt ?_
                refine H15.condT rfl ?_
                refine skip_wp ?_
                refine then_normal ?_
                exact ⟨_, (by unfold bareKind; rw [h12, h13] <;> rfl), H15.keep ⟨rfl, rfl, rfl, trivial⟩, rfl⟩
              | false =>
                repeat (refine wp_seq ?_)
                refine wp_region_list ?_
                refine H13.bin gz rfl rfl rfl rfl rfl (eql_iB _ _ _ h13 _ _ _) ?_
                intro a14 H14
                refine H14.move gz (.inr rfl) rfl rfl rfl ?_
                intro a15 H15
                refine nt ?_
                refine H15.condF rfl ?_
                obtain ⟨b14, h14⟩ : ∃ b, (m.kind == 14) = b := ⟨_, rfl⟩
                cases b14 with
                | true =>
                  repeat (refine wp_seq ?_)
                  refine wp_region_list ?_
                  refine H15.bin gz rfl rfl rfl rfl rfl (eql_iB _ _ _ h14 _ _ _) ?_
                  intro a16 H16
                  refine H16.move gz (.inr rfl) rfl rfl rfl ?_
                  intro a17 H17
                  refine nt ?_
                  exact ⟨_, (by unfold bareKind; rw [h12, h13, h14] <;> rfl), H17.keep ⟨rfl, rfl, rfl, trivial⟩, rfl⟩
                | false =>
                  repeat (refine wp_seq ?_)
                  refine wp_region_list ?_
                  refine H15.bin gz rfl rfl rfl rfl rfl (eql_iB _ _ _ h14 _ _ _) ?_
                  intro a16 H16
                  refine H16.move gz (.inr rfl) rfl rfl rfl ?_
                  intro a17 H17
                  refine nt ?_
                  exact ⟨_, (by unfold bareKind; rw [h12, h13, h14] <;> rfl), H17.keep ⟨rfl, rfl, rfl, trivial⟩, rfl⟩
          rintro a12 _ ⟨v100, q100, H12, rfl⟩
          cases v100 with
          | true =>
            have HB1 := Base.of O1
            obtain ⟨b0, hb0⟩ : ∃ b0, b0 = w1.heap.size := ⟨_, rfl⟩
            rw [← hb0] at HB1
            have hb0' := hb0
            clear hb0
            refine H12.condT rfl ?_
            refine skip_wp ?_
            refine block_normal ?_
            refine then_normal ?_
            exact ⟨_, H12.keep ⟨rfl, rfl, trivial⟩, (by rw [pre_b k1 k2 k3 q100]; exact (RowIs.nil b0 _).base (Nat.le_of_eq hb0'.symm)), HB1.low (Nat.le_of_eq hb0'.symm) O1⟩
          | false =>
            have hi := may_id hm.1 k1 k2 k3 q100
            have HB1 := Base.of O1
            obtain ⟨b0, hb0⟩ : ∃ b0, b0 = w1.heap.size := ⟨_, rfl⟩
            rw [← hb0] at HB1
            have hb0' := hb0
            clear hb0
            refine H12.condF rfl ?_
            refine wp_region_list ?_
            refine H12.field gz rfl rfl rfl rfl field_16 ?_
            intro a13 H13
            refine H13.load gz rfl rfl rfl rfl (load1_i _ _ _ _ ((HB1.get 0 rfl).get 20 _ rfl)) ?_
            intro a14 H14
            refine H14.call gz rfl rfl rfl rfl (fun _ _ => by kernel_rfl) (rowBig b0 m.id hi.1 hi.2 _ HB1.bw) ?_
            rintro a15 v12 w2 ⟨R12, hb⟩ H15
            have HB2 := HB1.call hb
            clear hb
            refine H15.move gz (.inr rfl) rfl rfl rfl ?_
            intro a16 H16
            refine wpList_nil ?_
            refine block_normal ?_
            refine then_normal ?_
            exact ⟨_, H16.keep ⟨rfl, rfl, trivial⟩, (by rw [pre_i k1 k2 k3 q100]; exact R12.base (Nat.le_of_eq hb0'.symm)), HB2.low (Nat.le_of_eq hb0'.symm) O1⟩
  rintro a4 w2 ⟨v3, H4, R3, HB2⟩
  obtain ⟨b0, hb0'⟩ : ∃ b0, b0 = w1.heap.size := ⟨_, rfl⟩
  rw [← hb0'] at R3 HB2
  refine wp_seq_join (fun a w' => ∃ v, Has a 159 [(1, .pointer (some ⟨w.heap.size, 0, none⟩)), (3, v)] ∧ RowIs b0 ((preBy m) ++ wishesBy m.wishes) v w' ∧ Base w b0 [(w.heap.size, (mqCells m (.slice A1 m.codes.length c1) (.slice A2 m.wishes.length c2) (.slice A3 m.filters.length c3)))] w') ?_ ?_
  · skip
    repeat (refine wp_seq ?_)
    refine wp_region_list ?_
    refine H4.move gz (.inr rfl) rfl rfl rfl ?_
    intro a5 H5
    refine nt ?_
    refine wp_block ?_
    refine wp_loop_up m.wishes.length (fun k a w' => ∃ v, Has a 159 [(1, .pointer (some ⟨w.heap.size, 0, none⟩)), (3, v), (5, .int .i64 ((k : Nat) : Int))] ∧ RowIs b0 ((preBy m) ++ wishesBy (m.wishes.take k)) v w' ∧ Base w b0 [(w.heap.size, (mqCells m (.slice A1 m.codes.length c1) (.slice A2 m.wishes.length c2) (.slice A3 m.filters.length c3)))] w') ?_ ?_
    · exact ⟨_, H5.keep ⟨rfl, rfl, rfl, trivial⟩, (by rw [List.take_zero]; simpa [wishesBy] using R3), HB2⟩
    · rintro k a6 w3 hkn ⟨v3, H6, R3, HB3⟩
      have hlb : (wishesBy (m.wishes.take k)).length ≤ 1000 := by
        have := wishesBy_le _ (wishesAll_take k hwa); rw [List.length_take] at this; omega
      by_cases hlt : k < m.wishes.length
      · skip
        repeat (refine wp_seq ?_)
        refine wp_region_list ?_
        refine H6.move gz (.inl rfl) rfl rfl rfl ?_
        intro a7 H7
        refine H7.field gz rfl rfl rfl rfl field_18 ?_
        intro a8 H8
        refine H8.load gz rfl rfl rfl rfl (load1_27 _ _ _ _ _ _ ((HB3.get 0 rfl).get 22 _ rfl)) ?_
        intro a9 H9
        refine H9.len gz rfl rfl rfl rfl Tryd.underlying27 ?_
        intro a10 H10
        refine H10.bin gz rfl rfl rfl rfl rfl (lss_i _ _ true (by simpa using hlt) _ _ _) ?_
        intro a11 H11
        refine nt ?_
        refine H11.condT rfl ?_
        refine skip_wp ?_
        refine then_normal ?_
        repeat (refine wp_seq ?_)
        refine wp_block ?_
        obtain ⟨gb, go, x, hA, hgb, hx, hc0, hc1⟩ := Reads.wish r2 rfl hlt
        obtain ⟨hxs, hx0, hx1⟩ := wishesAll_get hwa hx
        obtain ⟨g5, hg5⟩ : ∃ g5, g5 = w3.heap.size := ⟨_, rfl⟩
        have hfar : ∀ g, g5 ≤ g → some g ≠ v3.ownBlock := fun g hg => R3.away (.inr (hg5 ▸ hg))
        refine wp_region_invB (by kernel_rfl) (InvB 159 [(1, .pointer (some ⟨w.heap.size, 0, none⟩)), (5, .int .i64 ((k : Nat) : Int))] [⟨0, 111, [7], fun v w => v = v3 ∧ RowIs b0 ((preBy m) ++ wishesBy (m.wishes.take k)) v w⟩, ⟨1, 112, [], fun v _ => v = .pointer (some ⟨w.heap.size, 22, none⟩)⟩, ⟨2, 113, [], fun v _ => v = (.slice A2 m.wishes.length c2)⟩, ⟨3, 114, [], fun v _ => v = .int .i64 ((k : Nat) : Int)⟩, ⟨4, 115, [], fun v _ => v = .pointer (some ⟨gb, go + k * 2, none⟩)⟩, ⟨5, 116, [], fun v _ => v = .pointer (some ⟨gb, go + k * 2, none⟩)⟩, ⟨6, 117, [], fun v _ => v = .string x.1⟩, ⟨7, 118, [16], fun v w => RowIs b0 (((preBy m) ++ wishesBy (m.wishes.take k)) ++ strB x.1) v w⟩, ⟨8, 119, [], fun v _ => v = .pointer (some ⟨w.heap.size, 22, none⟩)⟩, ⟨9, 120, [], fun v _ => v = (.slice A2 m.wishes.length c2)⟩, ⟨10, 121, [], fun v _ => v = .int .i64 ((k : Nat) : Int)⟩, ⟨11, 122, [], fun v _ => v = .pointer (some ⟨gb, go + k * 2, none⟩)⟩, ⟨12, 123, [], fun v _ => v = .pointer (some ⟨gb, go + k * 2 + 1, none⟩)⟩, ⟨13, 124, [], fun v _ => v = .int .i64 x.2⟩, ⟨14, 125, [], fun v _ => v = .int .u8 (x.2 % 256)⟩, ⟨15, 126, [16], fun v w => ∃ g, v = .slice (some ⟨g, 0, none⟩) 1 1 ∧ g5 ≤ g ∧ g < w.heap.size ∧ BytesAre [UInt8.ofNat x.2.toNat] v w⟩, ⟨16, 127, [], fun v w => RowIs b0 ((((preBy m) ++ wishesBy (m.wishes.take k)) ++ strB x.1) ++ [UInt8.ofNat x.2.toNat]) v w⟩, ⟨17, 3, [], fun v w => RowIs b0 ((((preBy m) ++ wishesBy (m.wishes.take k)) ++ strB x.1) ++ [UInt8.ofNat x.2.toNat]) v w⟩, ⟨1000, 3, [7, 17], fun v w => v = v3 ∧ RowIs b0 ((preBy m) ++ wishesBy (m.wishes.take k)) v w⟩, ⟨1001, 158, [], fun _ w => g5 ≤ w.heap.size⟩] (Base w b0 [(w.heap.size, (mqCells m (.slice A1 m.codes.length c1) (.slice A2 m.wishes.length c2) (.slice A3 m.filters.length c3)))])) (back_of (by kernel_rfl)) ?_ ?_ ?_
        · intro listed aa ww i o hs hni hcl ho hd hI
          have hls : listed.size = 18 := hs
          have u_1 : aa.eval (.tmp 1) = .pointer (some ⟨w.heap.size, 0, none⟩) := hI.fx.1
          have u_5 : aa.eval (.tmp 5) = .int .i64 ((k : Nat) : Int) := hI.fx.2.1
          match i, ho with
          | 0, ho =>
            obtain rfl := pick_op ho rfl
            have r3 := hI.vs _ (ma 18 rfl) (.inl (by rw [hls]; show 18 ≤ 1000; decide)) ⟨(Bool.eq_false_iff.2 fun h => absurd (hni.symm.trans (ran_of (hcl 7 _ rfl h) 0 (by kernel_rfl))) (by decide)), (Bool.eq_false_iff.2 fun h => absurd (hni.symm.trans (ran_of (hcl 7 _ rfl (ran_of (hcl 16 _ rfl (ran_of (hcl 17 _ rfl h) 16 (by kernel_rfl))) 7 (by kernel_rfl))) 0 (by kernel_rfl))) (by decide)), trivial⟩
            refine wpOp_go ho gz 111 rfl (aa.eval (.tmp 3)) ww (run_move (.inl rfl) rfl) ?_
            exact hI.put (by kernel_rfl) _ (ma 0 rfl) (by rw [hls]; show 0 < 18; decide) (by rw [hls]; decide) (aa.eval (.tmp 3)) r3 hI.wp AllSt.same
          | 1, ho =>
            obtain rfl := pick_op ho rfl
            have HH : Has aa 159 [(1, .pointer (some ⟨w.heap.size, 0, none⟩))] := Has.of hI.sz hI.df ⟨u_1, trivial⟩
            refine wpOp_go ho gz 112 rfl (.pointer (some ⟨w.heap.size, 22, none⟩)) ww (run_field rfl (HH.ev rfl) field_18) ?_
            exact hI.put (by kernel_rfl) _ (ma 1 rfl) (by rw [hls]; show 1 < 18; decide) (by rw [hls]; decide) (.pointer (some ⟨w.heap.size, 22, none⟩)) rfl hI.wp AllSt.same
          | 2, ho =>
            obtain rfl := pick_op ho rfl
            have r_112 := hI.vs _ (ma 1 rfl) (.inr (ran_of hd 1 (by kernel_rfl))) trivial
            have u_112 : aa.eval (.tmp 112) = .pointer (some ⟨w.heap.size, 22, none⟩) := r_112
            have HH : Has aa 159 [(112, .pointer (some ⟨w.heap.size, 22, none⟩))] := Has.of hI.sz hI.df ⟨u_112, trivial⟩
            refine wpOp_go ho gz 113 rfl ((.slice A2 m.wishes.length c2)) ww (run_load rfl (HH.ev rfl) (load1_27 _ _ _ _ _ _ ((hI.wp.get 0 rfl).get 22 _ rfl))) ?_
            exact hI.put (by kernel_rfl) _ (ma 2 rfl) (by rw [hls]; show 2 < 18; decide) (by rw [hls]; decide) ((.slice A2 m.wishes.length c2)) rfl hI.wp AllSt.same
          | 3, ho =>
            obtain rfl := pick_op ho rfl
            have HH : Has aa 159 [(5, .int .i64 ((k : Nat) : Int))] := Has.of hI.sz hI.df ⟨u_5, trivial⟩
            refine wpOp_go ho gz 114 rfl (.int .i64 ((k : Nat) : Int)) ww (run_move (.inl rfl) (HH.ev rfl)) ?_
            exact hI.put (by kernel_rfl) _ (ma 3 rfl) (by rw [hls]; show 3 < 18; decide) (by rw [hls]; decide) (.int .i64 ((k : Nat) : Int)) rfl hI.wp AllSt.same
          | 4, ho =>
            obtain rfl := pick_op ho rfl
            have r_113 := hI.vs _ (ma 2 rfl) (.inr (ran_of hd 2 (by kernel_rfl))) trivial
            have u_113 : aa.eval (.tmp 113) = (.slice A2 m.wishes.length c2) := r_113
            have r_114 := hI.vs _ (ma 3 rfl) (.inr (ran_of hd 3 (by kernel_rfl))) trivial
            have u_114 : aa.eval (.tmp 114) = .int .i64 ((k : Nat) : Int) := r_114
            have HH : Has aa 159 [(113, (.slice A2 m.wishes.length c2)), (114, .int .i64 ((k : Nat) : Int))] := Has.of hI.sz hI.df ⟨u_113, u_114, trivial⟩
            refine wpOp_go ho gz 115 rfl (.pointer (some ⟨gb, go + k * 2, none⟩)) ww (run_index rfl (HH.ev rfl) (HH.ev rfl) (show (Instr.indexAt 27 (.slice A2 m.wishes.length c2) (.int .i64 ((k : Nat) : Int))).run Tryd.prog ww = .ok (.pointer (some ⟨gb, go + k * 2, none⟩)) ww by rw [hA]; exact index_2 27 Tryd.underlying27 (fun _ => by kernel_rfl) _ _ _ _ _ hlt _)) ?_
            exact hI.put (by kernel_rfl) _ (ma 4 rfl) (by rw [hls]; show 4 < 18; decide) (by rw [hls]; decide) (.pointer (some ⟨gb, go + k * 2, none⟩)) rfl hI.wp AllSt.same
          | 5, ho =>
            obtain rfl := pick_op ho rfl
            have rp := hI.vs _ (ma 4 rfl) (.inr (ran_of hd 4 (by kernel_rfl))) trivial
            refine wpOp_go ho gz 116 rfl (.pointer (some ⟨gb, go + k * 2, none⟩)) ww (run_field rfl rp (fun g w => fieldO_0 (go + k * 2) g w)) ?_
            exact hI.put (by kernel_rfl) _ (ma 5 rfl) (by rw [hls]; show 5 < 18; decide) (by rw [hls]; decide) (.pointer (some ⟨gb, go + k * 2, none⟩)) rfl hI.wp AllSt.same
          | 6, ho =>
            obtain rfl := pick_op ho rfl
            have r_116 := hI.vs _ (ma 5 rfl) (.inr (ran_of hd 5 (by kernel_rfl))) trivial
            have u_116 : aa.eval (.tmp 116) = .pointer (some ⟨gb, go + k * 2, none⟩) := r_116
            have HH : Has aa 159 [(116, .pointer (some ⟨gb, go + k * 2, none⟩))] := Has.of hI.sz hI.df ⟨u_116, trivial⟩
            refine wpOp_go ho gz 117 rfl (.string x.1) ww (run_load rfl (HH.ev rfl) (load1_s _ _ _ _ ((cellB hI.wp.own.bel hgb).trans hc0))) ?_
            exact hI.put (by kernel_rfl) _ (ma 6 rfl) (by rw [hls]; show 6 < 18; decide) (by rw [hls]; decide) (.string x.1) rfl hI.wp AllSt.same
          | 7, ho =>
            obtain rfl := pick_op ho rfl
            have r111 := hI.vs _ (ma 0 rfl) (.inr (ran_of hd 0 (by kernel_rfl))) ⟨hni, trivial⟩
            obtain ⟨e111, hR⟩ := r111
            have r117 := hI.vs _ (ma 6 rfl) (.inr (ran_of hd 6 (by kernel_rfl))) trivial
            have HH : Has aa 159 [(111, v3), (117, .string x.1)] := Has.of hI.sz hI.df ⟨e111, r117, trivial⟩
            rw [e111] at hR
            refine wpOp_enter ho gz 118 rfl 76 _ (run_callH HH rfl rfl (fun _ _ => by kernel_rfl)) _ (rowTextRG b0 ((preBy m) ++ wishesBy (m.wishes.take k)) v3 x.1 (by omega) ww hR hI.wp.bw (by simp only [List.length_append]; omega)) ?_
            rintro v' w' ⟨hrow, hb0, hK⟩
            exact hI.put (by kernel_rfl) _ (ma 7 rfl) (by rw [hls]; show 7 < 18; decide) (by rw [hls]; decide) (v') hrow (hI.wp.step hb0) ⟨fun _ h => absurd (by show 7 ∈ ([7] : List Nat); decide) h, fun _ _ _ _ _ h => h, fun _ _ _ _ _ h => h, fun _ _ _ _ _ h => h, fun _ _ _ _ _ h => h, fun _ _ _ _ _ h => h, fun _ _ _ _ _ h => h, fun h => absurd rfl h, fun _ _ _ _ _ h => h, fun _ _ _ _ _ h => h, fun _ _ _ _ _ h => h, fun _ _ _ _ _ h => h, fun _ _ _ _ _ h => h, fun _ _ _ _ _ h => h, fun _ _ _ _ _ h => h, fun _ _ _ _ _ h => lit_keep hK hfar hb0.size h, fun _ _ h => absurd (hni.symm.trans (ran_of (hcl 16 _ rfl (h.resolve_left (by rw [hls]; show ¬ 18 ≤ 16; decide))) 7 (by kernel_rfl))) (by decide), fun _ _ h => absurd (hni.symm.trans (ran_of (hcl 16 _ rfl (ran_of (hcl 17 _ rfl (h.resolve_left (by rw [hls]; show ¬ 18 ≤ 17; decide))) 16 (by kernel_rfl))) 7 (by kernel_rfl))) (by decide), fun _ h => absurd (by show 7 ∈ ([7, 17] : List Nat); decide) h, fun _ _ _ _ _ h => Nat.le_trans h hb0.size, trivial⟩
          | 8, ho =>
            obtain rfl := pick_op ho rfl
            have HH : Has aa 159 [(1, .pointer (some ⟨w.heap.size, 0, none⟩))] := Has.of hI.sz hI.df ⟨u_1, trivial⟩
            refine wpOp_go ho gz 119 rfl (.pointer (some ⟨w.heap.size, 22, none⟩)) ww (run_field rfl (HH.ev rfl) field_18) ?_
            exact hI.put (by kernel_rfl) _ (ma 8 rfl) (by rw [hls]; show 8 < 18; decide) (by rw [hls]; decide) (.pointer (some ⟨w.heap.size, 22, none⟩)) rfl hI.wp AllSt.same
          | 9, ho =>
            obtain rfl := pick_op ho rfl
            have r_119 := hI.vs _ (ma 8 rfl) (.inr (ran_of hd 8 (by kernel_rfl))) trivial
            have u_119 : aa.eval (.tmp 119) = .pointer (some ⟨w.heap.size, 22, none⟩) := r_119
            have HH : Has aa 159 [(119, .pointer (some ⟨w.heap.size, 22, none⟩))] := Has.of hI.sz hI.df ⟨u_119, trivial⟩
            refine wpOp_go ho gz 120 rfl ((.slice A2 m.wishes.length c2)) ww (run_load rfl (HH.ev rfl) (load1_27 _ _ _ _ _ _ ((hI.wp.get 0 rfl).get 22 _ rfl))) ?_
            exact hI.put (by kernel_rfl) _ (ma 9 rfl) (by rw [hls]; show 9 < 18; decide) (by rw [hls]; decide) ((.slice A2 m.wishes.length c2)) rfl hI.wp AllSt.same
          | 10, ho =>
            obtain rfl := pick_op ho rfl
            have HH : Has aa 159 [(5, .int .i64 ((k : Nat) : Int))] := Has.of hI.sz hI.df ⟨u_5, trivial⟩
            refine wpOp_go ho gz 121 rfl (.int .i64 ((k : Nat) : Int)) ww (run_move (.inl rfl) (HH.ev rfl)) ?_
            exact hI.put (by kernel_rfl) _ (ma 10 rfl) (by rw [hls]; show 10 < 18; decide) (by rw [hls]; decide) (.int .i64 ((k : Nat) : Int)) rfl hI.wp AllSt.same
          | 11, ho =>
            obtain rfl := pick_op ho rfl
            have r_120 := hI.vs _ (ma 9 rfl) (.inr (ran_of hd 9 (by kernel_rfl))) trivial
            have u_120 : aa.eval (.tmp 120) = (.slice A2 m.wishes.length c2) := r_120
            have r_121 := hI.vs _ (ma 10 rfl) (.inr (ran_of hd 10 (by kernel_rfl))) trivial
            have u_121 : aa.eval (.tmp 121) = .int .i64 ((k : Nat) : Int) := r_121
            have HH : Has aa 159 [(120, (.slice A2 m.wishes.length c2)), (121, .int .i64 ((k : Nat) : Int))] := Has.of hI.sz hI.df ⟨u_120, u_121, trivial⟩
            refine wpOp_go ho gz 122 rfl (.pointer (some ⟨gb, go + k * 2, none⟩)) ww (run_index rfl (HH.ev rfl) (HH.ev rfl) (show (Instr.indexAt 27 (.slice A2 m.wishes.length c2) (.int .i64 ((k : Nat) : Int))).run Tryd.prog ww = .ok (.pointer (some ⟨gb, go + k * 2, none⟩)) ww by rw [hA]; exact index_2 27 Tryd.underlying27 (fun _ => by kernel_rfl) _ _ _ _ _ hlt _)) ?_
            exact hI.put (by kernel_rfl) _ (ma 11 rfl) (by rw [hls]; show 11 < 18; decide) (by rw [hls]; decide) (.pointer (some ⟨gb, go + k * 2, none⟩)) rfl hI.wp AllSt.same
          | 12, ho =>
            obtain rfl := pick_op ho rfl
            have rp := hI.vs _ (ma 11 rfl) (.inr (ran_of hd 11 (by kernel_rfl))) trivial
            refine wpOp_go ho gz 123 rfl (.pointer (some ⟨gb, go + k * 2 + 1, none⟩)) ww (run_field rfl rp (fun g w => fieldO_1 (go + k * 2) g w)) ?_
            exact hI.put (by kernel_rfl) _ (ma 12 rfl) (by rw [hls]; show 12 < 18; decide) (by rw [hls]; decide) (.pointer (some ⟨gb, go + k * 2 + 1, none⟩)) rfl hI.wp AllSt.same
          | 13, ho =>
            obtain rfl := pick_op ho rfl
            have r_123 := hI.vs _ (ma 12 rfl) (.inr (ran_of hd 12 (by kernel_rfl))) trivial
            have u_123 : aa.eval (.tmp 123) = .pointer (some ⟨gb, go + k * 2 + 1, none⟩) := r_123
            have HH : Has aa 159 [(123, .pointer (some ⟨gb, go + k * 2 + 1, none⟩))] := Has.of hI.sz hI.df ⟨u_123, trivial⟩
            refine wpOp_go ho gz 124 rfl (.int .i64 x.2) ww (run_load rfl (HH.ev rfl) (load1_i _ _ _ _ ((cellB hI.wp.own.bel hgb).trans hc1))) ?_
            exact hI.put (by kernel_rfl) _ (ma 13 rfl) (by rw [hls]; show 13 < 18; decide) (by rw [hls]; decide) (.int .i64 x.2) rfl hI.wp AllSt.same
          | 14, ho =>
            obtain rfl := pick_op ho rfl
            have r_124 := hI.vs _ (ma 13 rfl) (.inr (ran_of hd 13 (by kernel_rfl))) trivial
            have u_124 : aa.eval (.tmp 124) = .int .i64 x.2 := r_124
            have HH : Has aa 159 [(124, .int .i64 x.2)] := Has.of hI.sz hI.df ⟨u_124, trivial⟩
            refine wpOp_go ho gz 125 rfl (.int .u8 (x.2 % 256)) ww (run_conv rfl (HH.ev rfl) (conv_u8 _ _)) ?_
            exact hI.put (by kernel_rfl) _ (ma 14 rfl) (by rw [hls]; show 14 < 18; decide) (by rw [hls]; decide) (.int .u8 (x.2 % 256)) rfl hI.wp AllSt.same
          | 15, ho =>
            obtain rfl := pick_op ho rfl
            have r125 := hI.vs _ (ma 14 rfl) (.inr (ran_of hd 14 (by kernel_rfl))) trivial
            have rbox := hI.vs _ (ma 19 rfl) (.inl (by rw [hls]; show 18 ≤ 1001; decide)) trivial
            have hg5 : g5 ≤ ww.heap.size := rbox
            have HH : Has aa 159 [(125, .int .u8 (x.2 % 256))] := Has.of hI.sz hI.df ⟨r125, trivial⟩
            obtain ⟨hby, hb⟩ := bytes_lit ww [UInt8.ofNat x.2.toNat] [.int .u8 (x.2 % 256)] (by rw [byte_of_int _ hx0]; rfl) 5 1 rfl
            refine wpOp_go ho gz 126 rfl (.slice (some ⟨ww.heap.size, 0, none⟩) 1 1) (ww.alloc (.cells ([.int .u8 (x.2 % 256)] : List Value).toArray 5)) (run_any HH (by intro cs b h; cases h) (by kernel_rfl) (by kernel_rfl)) ?_
            exact hI.put (by kernel_rfl) _ (ma 15 rfl) (by rw [hls]; show 15 < 18; decide) (by rw [hls]; decide) (.slice (some ⟨ww.heap.size, 0, none⟩) 1 1) ⟨_, rfl, hg5, lt_alloc ww _, hby⟩ (hI.wp.call hb) ⟨fun _ _ _ _ _ h => ⟨h.1, h.2.below hb⟩, fun _ _ _ _ _ h => h, fun _ _ _ _ _ h => h, fun _ _ _ _ _ h => h, fun _ _ _ _ _ h => h, fun _ _ _ _ _ h => h, fun _ _ _ _ _ h => h, fun _ _ _ _ _ h => h.below hb, fun _ _ _ _ _ h => h, fun _ _ _ _ _ h => h, fun _ _ _ _ _ h => h, fun _ _ _ _ _ h => h, fun _ _ _ _ _ h => h, fun _ _ _ _ _ h => h, fun _ _ _ _ _ h => h, fun h => absurd rfl h, fun _ _ _ _ _ h => h.below hb, fun _ _ _ _ _ h => h.below hb, fun _ _ _ _ _ h => ⟨h.1, h.2.below hb⟩, fun _ _ _ _ _ h => Nat.le_trans h hb.size, trivial⟩
          | 16, ho =>
            obtain rfl := pick_op ho rfl
            have r118 := hI.vs _ (ma 7 rfl) (.inr (ran_of hd 7 (by kernel_rfl))) ⟨hni, trivial⟩
            have r126 := hI.vs _ (ma 15 rfl) (.inr (ran_of hd 15 (by kernel_rfl))) ⟨hni, trivial⟩
            obtain ⟨_, _, _, _, hby⟩ := r126
            obtain ⟨v', w', hrun, hrow, hb0, hg⟩ := run_append_row (P := Tryd.prog) (a := aa) (w := ww) Tryd.underlying31 info_u8 (o := ⟨some 127, _, _, _, _, none⟩) rfl rfl rfl r118 hby (by simp only [List.length_append, strB_length, List.length_cons, List.length_nil]; omega) hI.wp.bw
            refine wpOp_go ho gz 127 rfl v' w' hrun ?_
            exact hI.put (by kernel_rfl) _ (ma 16 rfl) (by rw [hls]; show 16 < 18; decide) (by rw [hls]; decide) (v') hrow (hI.wp.step hb0) ⟨fun _ _ _ hk => absurd (hk.1.symm.trans (ran_of hd 7 (by kernel_rfl))) (by decide), fun _ _ _ _ _ h => h, fun _ _ _ _ _ h => h, fun _ _ _ _ _ h => h, fun _ _ _ _ _ h => h, fun _ _ _ _ _ h => h, fun _ _ _ _ _ h => h, fun _ h => absurd (by show 16 ∈ ([16] : List Nat); decide) h, fun _ _ _ _ _ h => h, fun _ _ _ _ _ h => h, fun _ _ _ _ _ h => h, fun _ _ _ _ _ h => h, fun _ _ _ _ _ h => h, fun _ _ _ _ _ h => h, fun _ _ _ _ _ h => h, fun _ h => absurd (by show 16 ∈ ([16] : List Nat); decide) h, fun h => absurd rfl h, fun _ _ h => absurd (hni.symm.trans (ran_of (hcl 17 _ rfl (h.resolve_left (by rw [hls]; show ¬ 18 ≤ 17; decide))) 16 (by kernel_rfl))) (by decide), fun _ _ _ hk => absurd (hk.1.symm.trans (ran_of hd 7 (by kernel_rfl))) (by decide), fun _ _ _ _ _ h => Nat.le_trans h hb0.size, trivial⟩
          | 17, ho =>
            obtain rfl := pick_op ho rfl
            have r_127 := hI.vs _ (ma 16 rfl) (.inr (ran_of hd 16 (by kernel_rfl))) trivial
            have HH : Has aa 159 [(127, aa.eval (.tmp 127))] := Has.of hI.sz hI.df ⟨rfl, trivial⟩
            refine wpOp_go ho gz 3 rfl (aa.eval (.tmp 127)) ww (run_move (.inr rfl) (HH.ev rfl)) ?_
            exact hI.put (by kernel_rfl) _ (ma 17 rfl) (by rw [hls]; show 17 < 18; decide) (by rw [hls]; decide) (aa.eval (.tmp 127)) r_127 hI.wp AllSt.same
          | (k + 18), ho => simp at ho
        · intro listed a12 w4 hall hI
          have r_3 := hI.vs _ (ma 17 rfl) (.inr (hall 17 (by decide))) trivial
          have H12 : Has a12 159 [(1, .pointer (some ⟨w.heap.size, 0, none⟩)), (5, .int .i64 ((k : Nat) : Int)), (3, a12.eval (.tmp 3))] := Has.of hI.sz hI.df ⟨hI.fx.1, hI.fx.2.1, rfl, trivial⟩
          have HB4 := hI.wp
          have R3_4 : RowIs b0 ((((preBy m) ++ wishesBy (m.wishes.take k)) ++ strB x.1) ++ [UInt8.ofNat x.2.toNat]) (a12.eval (.tmp 3)) w4 := r_3
          refine block_normal ?_
          refine then_normal ?_
          refine wp_region_list ?_
          refine H12.move gz (.inl rfl) rfl rfl rfl ?_
          intro a13 H13
          refine H13.bin gz rfl rfl rfl rfl rfl (succ_i _ (by omega) _ _ _) ?_
          intro a14 H14
          refine H14.move gz (.inr rfl) rfl rfl rfl ?_
          intro a15 H15
          refine nt ?_
          exact ⟨hlt, _, H15.keep ⟨rfl, rfl, rfl, trivial⟩, (by rw [take_snoc? _ _ _ hx, wishesBy_app, ← List.append_assoc, ← List.append_assoc]; exact R3_4), HB4⟩
        · exact InvB.start H11.sz H11.df ⟨H11.at_ 1 _ rfl, H11.at_ 5 _ rfl, trivial⟩ ⟨fun h => absurd h (by show ¬ 18 ≤ 0; decide), fun h => absurd h (by show ¬ 18 ≤ 1; decide), fun h => absurd h (by show ¬ 18 ≤ 2; decide), fun h => absurd h (by show ¬ 18 ≤ 3; decide), fun h => absurd h (by show ¬ 18 ≤ 4; decide), fun h => absurd h (by show ¬ 18 ≤ 5; decide), fun h => absurd h (by show ¬ 18 ≤ 6; decide), fun h => absurd h (by show ¬ 18 ≤ 7; decide), fun h => absurd h (by show ¬ 18 ≤ 8; decide), fun h => absurd h (by show ¬ 18 ≤ 9; decide), fun h => absurd h (by show ¬ 18 ≤ 10; decide), fun h => absurd h (by show ¬ 18 ≤ 11; decide), fun h => absurd h (by show ¬ 18 ≤ 12; decide), fun h => absurd h (by show ¬ 18 ≤ 13; decide), fun h => absurd h (by show ¬ 18 ≤ 14; decide), fun h => absurd h (by show ¬ 18 ≤ 15; decide), fun h => absurd h (by show ¬ 18 ≤ 16; decide), fun h => absurd h (by show ¬ 18 ≤ 17; decide), fun _ => (by rw [H11.at_ 3 _ rfl]; exact ⟨rfl, R3.drew⟩), fun _ => (Nat.le_of_eq hg5), trivial⟩ HB3.drew
      · skip
        repeat (refine wp_seq ?_)
        refine wp_region_list ?_
        refine H6.move gz (.inl rfl) rfl rfl rfl ?_
        intro a7 H7
        refine H7.field gz rfl rfl rfl rfl field_18 ?_
        intro a8 H8
        refine H8.load gz rfl rfl rfl rfl (load1_27 _ _ _ _ _ _ ((HB3.get 0 rfl).get 22 _ rfl)) ?_
        intro a9 H9
        refine H9.len gz rfl rfl rfl rfl Tryd.underlying27 ?_
        intro a10 H10
        refine H10.bin gz rfl rfl rfl rfl rfl (lss_i _ _ false (by simpa using hlt) _ _ _) ?_
        intro a11 H11
        refine nt ?_
        refine H11.condF rfl ?_
        refine wp_exit ?_
        repeat (with_reducible refine then_exit ?_)
        refine block_leave ?_
        refine then_normal ?_
        rw [List.take_of_length_le (by omega)] at R3
        exact ⟨_, H11.keep ⟨rfl, rfl, trivial⟩, R3, HB3⟩
  rintro a5 w3 ⟨v3, H5, R3, HB3⟩
  refine wp_seq_join (fun a w' => ∃ v, Has a 159 [(1, .pointer (some ⟨w.heap.size, 0, none⟩)), (3, v)] ∧ RowIs b0 (((preBy m) ++ wishesBy m.wishes) ++ codesBy m.codes) v w' ∧ Base w b0 [(w.heap.size, (mqCells m (.slice A1 m.codes.length c1) (.slice A2 m.wishes.length c2) (.slice A3 m.filters.length c3)))] w') ?_ ?_
  · skip
    repeat (refine wp_seq ?_)
    refine wp_region_list ?_
    refine H5.move gz (.inr rfl) rfl rfl rfl ?_
    intro a6 H6
    refine nt ?_
    refine wp_block ?_
    refine wp_loop_up m.codes.length (fun k a w' => ∃ v, Has a 159 [(1, .pointer (some ⟨w.heap.size, 0, none⟩)), (3, v), (6, .int .i64 ((k : Nat) : Int))] ∧ RowIs b0 (((preBy m) ++ wishesBy m.wishes) ++ codesBy (m.codes.take k)) v w' ∧ Base w b0 [(w.heap.size, (mqCells m (.slice A1 m.codes.length c1) (.slice A2 m.wishes.length c2) (.slice A3 m.filters.length c3)))] w') ?_ ?_
    · exact ⟨_, H6.keep ⟨rfl, rfl, rfl, trivial⟩, (by rw [List.take_zero]; simpa [codesBy] using R3), HB3⟩
    · rintro k a7 w4 hkn ⟨v3, H7, R3, HB4⟩
      have hlb : (codesBy (m.codes.take k)).length ≤ 1000 := by
        rw [codesBy_le, List.length_take]; omega
      by_cases hlt : k < m.codes.length
      · skip
        repeat (refine wp_seq ?_)
        refine wp_region_list ?_
        refine H7.move gz (.inl rfl) rfl rfl rfl ?_
        intro a8 H8
        refine H8.field gz rfl rfl rfl rfl field_11 ?_
        intro a9 H9
        refine H9.load gz rfl rfl rfl rfl (load1_26 _ _ _ _ _ _ ((HB4.get 0 rfl).get 15 _ rfl)) ?_
        intro a10 H10
        refine H10.len gz rfl rfl rfl rfl Tryd.underlying26 ?_
        intro a11 H11
        refine H11.bin gz rfl rfl rfl rfl rfl (lss_i _ _ true (by simpa using hlt) _ _ _) ?_
        intro a12 H12
        refine nt ?_
        refine H12.condT rfl ?_
        refine skip_wp ?_
        refine then_normal ?_
        repeat (refine wp_seq ?_)
        refine wp_block ?_
        obtain ⟨gb, go, x, hA, hgb, hx, hcell⟩ := Reads.int (r1.below HB4.own.bel) rfl hlt
        obtain ⟨hx0, hx1⟩ := codesAll_get hca hx
        refine wp_region_list ?_
        refine H12.move gz (.inl rfl) rfl rfl rfl ?_
        intro a13 H13
        refine H13.field gz rfl rfl rfl rfl field_11 ?_
        intro a14 H14
        refine H14.load gz rfl rfl rfl rfl (load1_26 _ _ _ _ _ _ ((HB4.get 0 rfl).get 15 _ rfl)) ?_
        intro a15 H15
        refine H15.move gz (.inl rfl) rfl rfl rfl ?_
        intro a16 H16
        refine H16.index gz rfl rfl rfl rfl rfl (show (Instr.indexAt 26 (.slice A1 m.codes.length c1) (.int .i64 ((k : Nat) : Int))).run Tryd.prog _ = .ok (.pointer (some ⟨gb, go + k, none⟩)) _ by rw [hA]; exact index_1 26 Tryd.underlying26 (fun _ => by kernel_rfl) _ _ _ _ _ hlt _) ?_
        intro a17 H17
        refine H17.load gz rfl rfl rfl rfl (load1_i _ _ _ _ hcell) ?_
        intro a18 H18
        refine H18.conv gz rfl rfl rfl rfl (conv_u8 _ _) ?_
        intro a19 H19
        refine H19.bytes gz rfl rfl [UInt8.ofNat x.toNat] [.int .u8 (x % 256)] (by rw [byte_of_int _ hx0]; rfl) (k := 1) rfl 5 (by intro cs b h; cases h) (by kernel_rfl) (by kernel_rfl) ?_
        intro a20 v142 w5 H20 B142 hb
        have HB5 := HB4.call hb
        have R3 := R3.below hb
        clear hb
        refine H20.appendRow Tryd.underlying31 info_u8 gz rfl rfl rfl rfl rfl R3 B142 (by simp only [List.length_append, List.length_cons, List.length_nil]; omega) HB5.bw ?_
        intro a21 v143 w6 H21 R143 hb _
        have HB6 := HB5.step hb
        clear hb
        refine H21.move gz (.inr rfl) rfl rfl rfl ?_
        intro a22 H22
        refine wpList_nil ?_
        refine block_normal ?_
        refine then_normal ?_
        refine wp_region_list ?_
        refine H22.move gz (.inl rfl) rfl rfl rfl ?_
        intro a23 H23
        refine H23.bin gz rfl rfl rfl rfl rfl (succ_i _ (by omega) _ _ _) ?_
        intro a24 H24
        refine H24.move gz (.inr rfl) rfl rfl rfl ?_
        intro a25 H25
        refine nt ?_
        exact ⟨hlt, _, H25.keep ⟨rfl, rfl, rfl, trivial⟩, (by rw [take_snoc? _ _ _ hx, codesBy_app, ← List.append_assoc]; exact R143), HB6⟩
      · skip
        repeat (refine wp_seq ?_)
        refine wp_region_list ?_
        refine H7.move gz (.inl rfl) rfl rfl rfl ?_
        intro a8 H8
        refine H8.field gz rfl rfl rfl rfl field_11 ?_
        intro a9 H9
        refine H9.load gz rfl rfl rfl rfl (load1_26 _ _ _ _ _ _ ((HB4.get 0 rfl).get 15 _ rfl)) ?_
        intro a10 H10
        refine H10.len gz rfl rfl rfl rfl Tryd.underlying26 ?_
        intro a11 H11
        refine H11.bin gz rfl rfl rfl rfl rfl (lss_i _ _ false (by simpa using hlt) _ _ _) ?_
        intro a12 H12
        refine nt ?_
        refine H12.condF rfl ?_
        refine wp_exit ?_
        repeat (with_reducible refine then_exit ?_)
        refine block_leave ?_
        refine then_normal ?_
        rw [List.take_of_length_le (by omega)] at R3
        exact ⟨_, H12.keep ⟨rfl, rfl, trivial⟩, R3, HB4⟩
  rintro a6 w4 ⟨v3, H6, R3, HB4⟩
  refine wp_seq_join (fun a w' => ∃ v, Has a 159 [(1, .pointer (some ⟨w.heap.size, 0, none⟩)), (3, v)] ∧ RowIs b0 ((((preBy m) ++ wishesBy m.wishes) ++ codesBy m.codes) ++ filtersBy m.filters) v w' ∧ Base w b0 [(w.heap.size, (mqCells m (.slice A1 m.codes.length c1) (.slice A2 m.wishes.length c2) (.slice A3 m.filters.length c3)))] w') ?_ ?_
  · skip
    repeat (refine wp_seq ?_)
    refine wp_region_list ?_
    refine H6.move gz (.inr rfl) rfl rfl rfl ?_
    intro a7 H7
    refine nt ?_
    refine wp_block ?_
    refine wp_loop_up m.filters.length (fun k a w' => ∃ v, Has a 159 [(1, .pointer (some ⟨w.heap.size, 0, none⟩)), (3, v), (7, .int .i64 ((k : Nat) : Int))] ∧ RowIs b0 ((((preBy m) ++ wishesBy m.wishes) ++ codesBy m.codes) ++ filtersBy (m.filters.take k)) v w' ∧ Base w b0 [(w.heap.size, (mqCells m (.slice A1 m.codes.length c1) (.slice A2 m.wishes.length c2) (.slice A3 m.filters.length c3)))] w') ?_ ?_
    · exact ⟨_, H7.keep ⟨rfl, rfl, rfl, trivial⟩, (by rw [List.take_zero]; simpa [filtersBy] using R3), HB4⟩
    · rintro k a8 w5 hkn ⟨v3, H8, R3, HB5⟩
      have hlb : (filtersBy (m.filters.take k)).length ≤ 1000 := by
        have := filtersBy_le _ (filtersAll_take k hfa); rw [List.length_take] at this; omega
      by_cases hlt : k < m.filters.length
      · skip
        repeat (refine wp_seq ?_)
        refine wp_region_list ?_
        refine H8.move gz (.inl rfl) rfl rfl rfl ?_
        intro a9 H9
        refine H9.field gz rfl rfl rfl rfl field_19 ?_
        intro a10 H10
        refine H10.load gz rfl rfl rfl rfl (load1_28 _ _ _ _ _ _ ((HB5.get 0 rfl).get 23 _ rfl)) ?_
        intro a11 H11
        refine H11.len gz rfl rfl rfl rfl Tryd.underlying28 ?_
        intro a12 H12
        refine H12.bin gz rfl rfl rfl rfl rfl (lss_i _ _ true (by simpa using hlt) _ _ _) ?_
        intro a13 H13
        refine nt ?_
        refine H13.condT rfl ?_
        refine skip_wp ?_
        refine then_normal ?_
        repeat (refine wp_seq ?_)
        refine wp_block ?_
        obtain ⟨gb, go, x, hA, hgb, hx, hcell⟩ := Reads.str (r3.below HB5.own.bel) rfl hlt
        have hxs := filtersAll_get hfa hx
        refine wp_region_list ?_
        refine H13.move gz (.inl rfl) rfl rfl rfl ?_
        intro a14 H14
        refine H14.field gz rfl rfl rfl rfl field_19 ?_
        intro a15 H15
        refine H15.load gz rfl rfl rfl rfl (load1_28 _ _ _ _ _ _ ((HB5.get 0 rfl).get 23 _ rfl)) ?_
        intro a16 H16
        refine H16.move gz (.inl rfl) rfl rfl rfl ?_
        intro a17 H17
        refine H17.index gz rfl rfl rfl rfl rfl (show (Instr.indexAt 28 (.slice A3 m.filters.length c3) (.int .i64 ((k : Nat) : Int))).run Tryd.prog _ = .ok (.pointer (some ⟨gb, go + k, none⟩)) _ by rw [hA]; exact index_1 28 Tryd.underlying28 (fun _ => by kernel_rfl) _ _ _ _ _ hlt _) ?_
        intro a18 H18
        refine H18.load gz rfl rfl rfl rfl (load1_s _ _ _ _ hcell) ?_
        intro a19 H19
        refine H19.call gz rfl rfl rfl rfl (fun _ _ => by kernel_rfl) (rowTextR b0 ((((preBy m) ++ wishesBy m.wishes) ++ codesBy m.codes) ++ filtersBy (m.filters.take k)) _ x (by omega) _ R3 HB5.bw (by simp only [List.length_append]; omega)) ?_
        rintro a20 v157 w6 ⟨R157, hb⟩ H20
        have HB6 := HB5.step hb
        clear hb
        refine H20.move gz (.inr rfl) rfl rfl rfl ?_
        intro a21 H21
        refine wpList_nil ?_
        refine block_normal ?_
        refine then_normal ?_
        refine wp_region_list ?_
        refine H21.move gz (.inl rfl) rfl rfl rfl ?_
        intro a22 H22
        refine H22.bin gz rfl rfl rfl rfl rfl (succ_i _ (by omega) _ _ _) ?_
        intro a23 H23
        refine H23.move gz (.inr rfl) rfl rfl rfl ?_
        intro a24 H24
        refine nt ?_
        exact ⟨hlt, _, H24.keep ⟨rfl, rfl, rfl, trivial⟩, (by rw [take_snoc? _ _ _ hx, filtersBy_app, ← List.append_assoc]; exact R157), HB6⟩
      · skip
        repeat (refine wp_seq ?_)
        refine wp_region_list ?_
        refine H8.move gz (.inl rfl) rfl rfl rfl ?_
        intro a9 H9
        refine H9.field gz rfl rfl rfl rfl field_19 ?_
        intro a10 H10
        refine H10.load gz rfl rfl rfl rfl (load1_28 _ _ _ _ _ _ ((HB5.get 0 rfl).get 23 _ rfl)) ?_
        intro a11 H11
        refine H11.len gz rfl rfl rfl rfl Tryd.underlying28 ?_
        intro a12 H12
        refine H12.bin gz rfl rfl rfl rfl rfl (lss_i _ _ false (by simpa using hlt) _ _ _) ?_
        intro a13 H13
        refine nt ?_
        refine H13.condF rfl ?_
        refine wp_exit ?_
        repeat (with_reducible refine then_exit ?_)
        refine block_leave ?_
        refine then_normal ?_
        rw [List.take_of_length_le (by omega)] at R3
        exact ⟨_, H13.keep ⟨rfl, rfl, trivial⟩, R3, HB5⟩
  rintro a7 w5 ⟨v3, H7, R3, HB5⟩
  repeat (refine wp_seq ?_)
  refine wp_region_list ?_
  refine H7.move gz (.inl rfl) rfl rfl rfl ?_
  intro a8 H8
  refine H8.move gz (.inr rfl) rfl rfl rfl ?_
  intro a9 H9
  refine nt ?_
  refine wp_ret ?_
  repeat (first | (with_reducible refine block_ret ?_) | (with_reducible refine then_ret ?_))
  refine bodyPost_ret (results_tmp rfl _ _ _) H9.df ⟨_, congrArg Ending.returned (H9.at_ 2 _ rfl), ?_, HB5.own.bel⟩
  rw [body_pre hm]
  exact R3.base (by rw [hb0']; omega)
end Go.Proofs.YtkcdkjpmbjcmdaaDoor

/-
  The page's Bytes.
-/
namespace Go.Proofs.YtkcdkjpmbjcmdaaDoor
open Go.RowKit

theorem Laid.bytes {xs : List UInt8} {w w' : World} {e : Ending} (h : Laid xs w e w') : ∃ v', e = .returned v' ∧ (BytesAre xs v' w' ∧ Below w.heap.size w w') := by
  obtain ⟨v, rfl, hr, hbl⟩ := h
  exact ⟨v, rfl, hr.read, hbl⟩
theorem shl1_u8 (k : Int) (h0 : 0 ≤ k) (h2 : k ≤ 2) (x y : Operand) (w : World) : (do eqGuard .shl 5 x y (.int .u8 (k % 256)) (.int .u64 1); binOp .shl 5 (.int .u8 (k % 256)) (.int .u64 1) : Sem Value).run Tryd.prog w = .ok (.int .u8 ((2 * k.toNat : Nat) : Int)) w := by
  have : k = 0 ∨ k = 1 ∨ k = 2 := by omega
  rcases this with rfl | rfl | rfl <;> simp [go_sem] <;> rfl
theorem shl4_u8 (k : Int) (h0 : 0 ≤ k) (h2 : k ≤ 14) (x y : Operand) (w : World) : (do eqGuard .shl 5 x y (.int .u8 (k % 256)) (.int .u64 4); binOp .shl 5 (.int .u8 (k % 256)) (.int .u64 4) : Sem Value).run Tryd.prog w = .ok (.int .u8 ((16 * k.toNat : Nat) : Int)) w := by
  obtain ⟨n, rfl⟩ : ∃ n : Nat, k = n := ⟨k.toNat, by omega⟩
  have e : IntKind.u8.wrap ((n : Int) % 256 * 16) = ((16 * n : Nat) : Int) := by
    show ((n : Int) % 256 * 16) % 256 = _
    omega
  simp [go_sem]
  rw [e]
  omega
theorem rem128 (n : Nat) (x y : Operand) (w : World) : (do eqGuard .rem 3 x y (.int .i64 (n : Int)) (.int .i64 128); binOp .rem 3 (.int .i64 (n : Int)) (.int .i64 128) : Sem Value).run Tryd.prog w = .ok (.int .i64 ((n % 128 : Nat) : Int)) w := by
  simp [go_sem]
  rw [Int.tmod_eq_emod_of_nonneg (by omega)]
theorem quo128 (n : Nat) (h : n < 16384) (x y : Operand) (w : World) : (do eqGuard .quo 3 x y (.int .i64 (n : Int)) (.int .i64 128); binOp .quo 3 (.int .i64 (n : Int)) (.int .i64 128) : Sem Value).run Tryd.prog w = .ok (.int .i64 ((n / 128 : Nat) : Int)) w := by
  simp [go_sem]
  exact IntWalk.i64_in _ (by omega)
theorem conv_u8n (n : Nat) (h : n < 256) (w : World) : (convert 3 5 (.int .i64 (n : Int))).run Tryd.prog w = .ok (.int .u8 (n : Int)) w := by
  rw [conv_u8]
  congr 2
  omega
theorem or128n (n : Nat) : (n % 128 ||| 128) = n % 128 + 128 := by
  have h : (128 ||| n % 128) = 128 + n % 128 := (Nat.two_pow_add_eq_or_of_lt (i := 7) (show n % 128 < 2 ^ 7 by omega) 1).symm
  rw [Nat.or_comm, h, Nat.add_comm]
set_option maxRecDepth 100000 in
set_option maxHeartbeats 3200000 in
theorem refBytes (m : Mq) (vc vw vf : Value) (w : World) (hm : mayB m) (hL : MqL w w.heap.size m vc vw vf) :
    Calls Tryd.prog 29 #[.agg (mqCells m vc vw vf).toArray] w (Laid (layB m) w) := by
  have hbl := body_le hm.1
  have hfl := flagsBy_le hm.1
  have hkk := may_kind hm.1
  have hor : ((16 * m.kind.toNat : Nat) ||| flagsBy m) = 16 * m.kind.toNat + flagsBy m := or16 _ _ (by omega)
  go_enter Tryd.func29, Tryd.ntmps29
  refine Has.start 57 [(0, .agg (mqCells m vc vw vf).toArray)] rfl rfl ⟨rfl, trivial⟩ ?_
  intro a0 H0
  have O0 := Own.start w
  repeat (refine wp_seq ?_)
  refine wp_region_list ?_
  refine H0.box rfl rfl rfl rfl rfl ?_
  intro a1 w1 hb hs hC H1
  have O1 := O0.alloc hb hs hC
  clear hb hs hC
  refine H1.move gz (.inr rfl) rfl rfl rfl ?_
  intro a2 H2
  refine nt ?_
  have HB1 := Base.of O1
  obtain ⟨b0, hb0⟩ : ∃ b0, b0 = w1.heap.size := ⟨_, rfl⟩
  rw [← hb0] at HB1
  have hb0' := hb0
  clear hb0
  repeat (refine wp_seq ?_)
  refine wp_region_list ?_
  refine H2.move gz (.inr rfl) rfl rfl rfl ?_
  intro a3 H3
  refine nt ?_
  refine wp_seq_join (fun a w' => Has a 57 [(1, .pointer (some ⟨w.heap.size, 0, none⟩)), (3, .int .u8 ((flagsBy m : Nat) : Int))] ∧ Base w b0 [(w.heap.size, (mqCells m vc vw vf))] w') ?_ ?_
  · skip
    repeat (refine wp_seq ?_)
    refine wp_region_list ?_
    refine H3.field gz rfl rfl rfl rfl field_0 ?_
    intro a4 H4
    refine H4.load gz rfl rfl rfl rfl (load1_i _ _ _ _ ((HB1.get 0 rfl).get 0 _ rfl)) ?_
    intro a5 H5
    refine nt ?_
    refine wp_block ?_
    obtain ⟨b3, h3⟩ : ∃ b, (m.kind == 3) = b := ⟨_, rfl⟩
    cases b3 with
    | true =>
      have k3 : m.kind = 3 := by simpa using h3
      repeat (refine wp_seq ?_)
      refine wp_region_list ?_
      refine H5.bin gz rfl rfl rfl rfl rfl (eql_iB _ _ _ h3 _ _ _) ?_
      intro a6 H6
      refine H6.move gz (.inr rfl) rfl rfl rfl ?_
      intro a7 H7
      refine nt ?_
      refine H7.condT rfl ?_
      have hp3 : publishOk m = true := by have h := hm.1; unfold okOf at h; rw [if_neg (by omega), if_neg (by omega), if_pos k3] at h; exact h
      obtain ⟨_, hq0, hq2, _, _, _⟩ := publish_facts hp3
      have H8 := H7.keep (l' := [(1, .pointer (some ⟨w.heap.size, 0, none⟩))]) ⟨rfl, trivial⟩
      have g1 : cb m.dup 8 < 256 := cb_lt _ _ (by decide)
      have g2 : 2 * m.qos.toNat < 256 := by omega
      have g3 : (cb m.dup 8 ||| 2 * m.qos.toNat) < 256 := or_lt8 g1 g2
      have g4 : cb m.retain 1 < 256 := cb_lt _ _ (by decide)
      have gf : ((cb m.dup 8 ||| 2 * m.qos.toNat) ||| cb m.retain 1) = cb m.dup 8 + 2 * m.qos.toNat + cb m.retain 1 := pub_or _ _ _ (by omega)
      refine wp_region_invB (by kernel_rfl) (InvB 57 [(1, .pointer (some ⟨w.heap.size, 0, none⟩))] [⟨0, 11, [], fun v _ => v = .pointer (some ⟨w.heap.size, 16, none⟩)⟩, ⟨1, 12, [], fun v _ => v = .bool m.dup⟩, ⟨2, 13, [], fun v _ => v = .int .u8 ((cb m.dup 8 : Nat) : Int)⟩, ⟨3, 14, [], fun v _ => v = .pointer (some ⟨w.heap.size, 17, none⟩)⟩, ⟨4, 15, [], fun v _ => v = .int .i64 m.qos⟩, ⟨5, 16, [], fun v _ => v = .int .u8 (m.qos % 256)⟩, ⟨6, 17, [], fun v _ => v = .int .u8 ((2 * m.qos.toNat : Nat) : Int)⟩, ⟨7, 18, [], fun v _ => v = .int .u8 (((cb m.dup 8 ||| 2 * m.qos.toNat) : Nat) : Int)⟩, ⟨8, 19, [], fun v _ => v = .pointer (some ⟨w.heap.size, 18, none⟩)⟩, ⟨9, 20, [], fun v _ => v = .bool m.retain⟩, ⟨10, 21, [], fun v _ => v = .int .u8 ((cb m.retain 1 : Nat) : Int)⟩, ⟨11, 22, [], fun v _ => v = .int .u8 ((((cb m.dup 8 ||| 2 * m.qos.toNat) ||| cb m.retain 1) : Nat) : Int)⟩, ⟨12, 3, [], fun v _ => v = .int .u8 ((((cb m.dup 8 ||| 2 * m.qos.toNat) ||| cb m.retain 1) : Nat) : Int)⟩] (Base w b0 [(w.heap.size, (mqCells m vc vw vf))])) (back_of (by kernel_rfl)) ?_ ?_ ?_
      · intro listed aa ww i o hs hni hcl ho hd hI
        have hls : listed.size = 13 := hs
        have u_1 : aa.eval (.tmp 1) = .pointer (some ⟨w.heap.size, 0, none⟩) := hI.fx.1
        match i, ho with
        | 0, ho =>
          obtain rfl := pick_op ho rfl
          have HH : Has aa 57 [(1, .pointer (some ⟨w.heap.size, 0, none⟩))] := Has.of hI.sz hI.df ⟨u_1, trivial⟩
          refine wpOp_go ho gz 11 rfl (.pointer (some ⟨w.heap.size, 16, none⟩)) ww (run_field rfl (HH.ev rfl) field_12) ?_
          exact hI.put (by kernel_rfl) _ (ma 0 rfl) (by rw [hls]; show 0 < 13; decide) (by rw [hls]; decide) (.pointer (some ⟨w.heap.size, 16, none⟩)) rfl hI.wp AllSt.same
        | 1, ho =>
          obtain rfl := pick_op ho rfl
          have r_11 := hI.vs _ (ma 0 rfl) (.inr (ran_of hd 0 (by kernel_rfl))) trivial
          have u_11 : aa.eval (.tmp 11) = .pointer (some ⟨w.heap.size, 16, none⟩) := r_11
          have HH : Has aa 57 [(11, .pointer (some ⟨w.heap.size, 16, none⟩))] := Has.of hI.sz hI.df ⟨u_11, trivial⟩
          refine wpOp_go ho gz 12 rfl (.bool m.dup) ww (run_load rfl (HH.ev rfl) (load1_b _ _ _ _ ((hI.wp.get 0 rfl).get 16 _ rfl))) ?_
          exact hI.put (by kernel_rfl) _ (ma 1 rfl) (by rw [hls]; show 1 < 13; decide) (by rw [hls]; decide) (.bool m.dup) rfl hI.wp AllSt.same
        | 2, ho =>
          obtain rfl := pick_op ho rfl
          have r_12 := hI.vs _ (ma 1 rfl) (.inr (ran_of hd 1 (by kernel_rfl))) trivial
          have u_12 : aa.eval (.tmp 12) = .bool m.dup := r_12
          have HH : Has aa 57 [(12, .bool m.dup)] := Has.of hI.sz hI.df ⟨u_12, trivial⟩
          refine wpOp_enter ho gz 13 rfl 56 _ (run_callH HH rfl rfl (fun _ _ => by kernel_rfl)) _ (quietC (refBitN m.dup 8 8 rfl ww)) ?_
          rintro _ _ ⟨rfl, rfl⟩
          exact hI.put (by kernel_rfl) _ (ma 2 rfl) (by rw [hls]; show 2 < 13; decide) (by rw [hls]; decide) (.int .u8 ((cb m.dup 8 : Nat) : Int)) rfl hI.wp AllSt.same
        | 3, ho =>
          obtain rfl := pick_op ho rfl
          have HH : Has aa 57 [(1, .pointer (some ⟨w.heap.size, 0, none⟩))] := Has.of hI.sz hI.df ⟨u_1, trivial⟩
          refine wpOp_go ho gz 14 rfl (.pointer (some ⟨w.heap.size, 17, none⟩)) ww (run_field rfl (HH.ev rfl) field_13) ?_
          exact hI.put (by kernel_rfl) _ (ma 3 rfl) (by rw [hls]; show 3 < 13; decide) (by rw [hls]; decide) (.pointer (some ⟨w.heap.size, 17, none⟩)) rfl hI.wp AllSt.same
        | 4, ho =>
          obtain rfl := pick_op ho rfl
          have r_14 := hI.vs _ (ma 3 rfl) (.inr (ran_of hd 3 (by kernel_rfl))) trivial
          have u_14 : aa.eval (.tmp 14) = .pointer (some ⟨w.heap.size, 17, none⟩) := r_14
          have HH : Has aa 57 [(14, .pointer (some ⟨w.heap.size, 17, none⟩))] := Has.of hI.sz hI.df ⟨u_14, trivial⟩
          refine wpOp_go ho gz 15 rfl (.int .i64 m.qos) ww (run_load rfl (HH.ev rfl) (load1_i _ _ _ _ ((hI.wp.get 0 rfl).get 17 _ rfl))) ?_
          exact hI.put (by kernel_rfl) _ (ma 4 rfl) (by rw [hls]; show 4 < 13; decide) (by rw [hls]; decide) (.int .i64 m.qos) rfl hI.wp AllSt.same
        | 5, ho =>
          obtain rfl := pick_op ho rfl
          have r_15 := hI.vs _ (ma 4 rfl) (.inr (ran_of hd 4 (by kernel_rfl))) trivial
          have u_15 : aa.eval (.tmp 15) = .int .i64 m.qos := r_15
          have HH : Has aa 57 [(15, .int .i64 m.qos)] := Has.of hI.sz hI.df ⟨u_15, trivial⟩
          refine wpOp_go ho gz 16 rfl (.int .u8 (m.qos % 256)) ww (run_conv rfl (HH.ev rfl) (conv_u8 _ _)) ?_
          exact hI.put (by kernel_rfl) _ (ma 5 rfl) (by rw [hls]; show 5 < 13; decide) (by rw [hls]; decide) (.int .u8 (m.qos % 256)) rfl hI.wp AllSt.same
        | 6, ho =>
          obtain rfl := pick_op ho rfl
          have r_16 := hI.vs _ (ma 5 rfl) (.inr (ran_of hd 5 (by kernel_rfl))) trivial
          have u_16 : aa.eval (.tmp 16) = .int .u8 (m.qos % 256) := r_16
          have HH : Has aa 57 [(16, .int .u8 (m.qos % 256))] := Has.of hI.sz hI.df ⟨u_16, trivial⟩
          refine wpOp_go ho gz 17 rfl (.int .u8 ((2 * m.qos.toNat : Nat) : Int)) ww (run_bin rfl (HH.ev rfl) (HH.ev rfl) (shl1_u8 _ hq0 hq2 _ _ _)) ?_
          exact hI.put (by kernel_rfl) _ (ma 6 rfl) (by rw [hls]; show 6 < 13; decide) (by rw [hls]; decide) (.int .u8 ((2 * m.qos.toNat : Nat) : Int)) rfl hI.wp AllSt.same
        | 7, ho =>
          obtain rfl := pick_op ho rfl
          have r_13 := hI.vs _ (ma 2 rfl) (.inr (ran_of hd 2 (by kernel_rfl))) trivial
          have u_13 : aa.eval (.tmp 13) = .int .u8 ((cb m.dup 8 : Nat) : Int) := r_13
          have r_17 := hI.vs _ (ma 6 rfl) (.inr (ran_of hd 6 (by kernel_rfl))) trivial
          have u_17 : aa.eval (.tmp 17) = .int .u8 ((2 * m.qos.toNat : Nat) : Int) := r_17
          have HH : Has aa 57 [(13, .int .u8 ((cb m.dup 8 : Nat) : Int)), (17, .int .u8 ((2 * m.qos.toNat : Nat) : Int))] := Has.of hI.sz hI.df ⟨u_13, u_17, trivial⟩
          refine wpOp_go ho gz 18 rfl (.int .u8 (((cb m.dup 8 ||| 2 * m.qos.toNat) : Nat) : Int)) ww (run_bin rfl (HH.ev rfl) (HH.ev rfl) (or_u _ _ g1 g2 _ _ _)) ?_
          exact hI.put (by kernel_rfl) _ (ma 7 rfl) (by rw [hls]; show 7 < 13; decide) (by rw [hls]; decide) (.int .u8 (((cb m.dup 8 ||| 2 * m.qos.toNat) : Nat) : Int)) rfl hI.wp AllSt.same
        | 8, ho =>
          obtain rfl := pick_op ho rfl
          have HH : Has aa 57 [(1, .pointer (some ⟨w.heap.size, 0, none⟩))] := Has.of hI.sz hI.df ⟨u_1, trivial⟩
          refine wpOp_go ho gz 19 rfl (.pointer (some ⟨w.heap.size, 18, none⟩)) ww (run_field rfl (HH.ev rfl) field_14) ?_
          exact hI.put (by kernel_rfl) _ (ma 8 rfl) (by rw [hls]; show 8 < 13; decide) (by rw [hls]; decide) (.pointer (some ⟨w.heap.size, 18, none⟩)) rfl hI.wp AllSt.same
        | 9, ho =>
          obtain rfl := pick_op ho rfl
          have r_19 := hI.vs _ (ma 8 rfl) (.inr (ran_of hd 8 (by kernel_rfl))) trivial
          have u_19 : aa.eval (.tmp 19) = .pointer (some ⟨w.heap.size, 18, none⟩) := r_19
          have HH : Has aa 57 [(19, .pointer (some ⟨w.heap.size, 18, none⟩))] := Has.of hI.sz hI.df ⟨u_19, trivial⟩
          refine wpOp_go ho gz 20 rfl (.bool m.retain) ww (run_load rfl (HH.ev rfl) (load1_b _ _ _ _ ((hI.wp.get 0 rfl).get 18 _ rfl))) ?_
          exact hI.put (by kernel_rfl) _ (ma 9 rfl) (by rw [hls]; show 9 < 13; decide) (by rw [hls]; decide) (.bool m.retain) rfl hI.wp AllSt.same
        | 10, ho =>
          obtain rfl := pick_op ho rfl
          have r_20 := hI.vs _ (ma 9 rfl) (.inr (ran_of hd 9 (by kernel_rfl))) trivial
          have u_20 : aa.eval (.tmp 20) = .bool m.retain := r_20
          have HH : Has aa 57 [(20, .bool m.retain)] := Has.of hI.sz hI.df ⟨u_20, trivial⟩
          refine wpOp_enter ho gz 21 rfl 56 _ (run_callH HH rfl rfl (fun _ _ => by kernel_rfl)) _ (quietC (refBitN m.retain 1 1 rfl ww)) ?_
          rintro _ _ ⟨rfl, rfl⟩
          exact hI.put (by kernel_rfl) _ (ma 10 rfl) (by rw [hls]; show 10 < 13; decide) (by rw [hls]; decide) (.int .u8 ((cb m.retain 1 : Nat) : Int)) rfl hI.wp AllSt.same
        | 11, ho =>
          obtain rfl := pick_op ho rfl
          have r_18 := hI.vs _ (ma 7 rfl) (.inr (ran_of hd 7 (by kernel_rfl))) trivial
          have u_18 : aa.eval (.tmp 18) = .int .u8 (((cb m.dup 8 ||| 2 * m.qos.toNat) : Nat) : Int) := r_18
          have r_21 := hI.vs _ (ma 10 rfl) (.inr (ran_of hd 10 (by kernel_rfl))) trivial
          have u_21 : aa.eval (.tmp 21) = .int .u8 ((cb m.retain 1 : Nat) : Int) := r_21
          have HH : Has aa 57 [(18, .int .u8 (((cb m.dup 8 ||| 2 * m.qos.toNat) : Nat) : Int)), (21, .int .u8 ((cb m.retain 1 : Nat) : Int))] := Has.of hI.sz hI.df ⟨u_18, u_21, trivial⟩
          refine wpOp_go ho gz 22 rfl (.int .u8 ((((cb m.dup 8 ||| 2 * m.qos.toNat) ||| cb m.retain 1) : Nat) : Int)) ww (run_bin rfl (HH.ev rfl) (HH.ev rfl) (or_u _ _ g3 g4 _ _ _)) ?_
          exact hI.put (by kernel_rfl) _ (ma 11 rfl) (by rw [hls]; show 11 < 13; decide) (by rw [hls]; decide) (.int .u8 ((((cb m.dup 8 ||| 2 * m.qos.toNat) ||| cb m.retain 1) : Nat) : Int)) rfl hI.wp AllSt.same
        | 12, ho =>
          obtain rfl := pick_op ho rfl
          have r_22 := hI.vs _ (ma 11 rfl) (.inr (ran_of hd 11 (by kernel_rfl))) trivial
          have u_22 : aa.eval (.tmp 22) = .int .u8 ((((cb m.dup 8 ||| 2 * m.qos.toNat) ||| cb m.retain 1) : Nat) : Int) := r_22
          have HH : Has aa 57 [(22, .int .u8 ((((cb m.dup 8 ||| 2 * m.qos.toNat) ||| cb m.retain 1) : Nat) : Int))] := Has.of hI.sz hI.df ⟨u_22, trivial⟩
          refine wpOp_go ho gz 3 rfl (.int .u8 ((((cb m.dup 8 ||| 2 * m.qos.toNat) ||| cb m.retain 1) : Nat) : Int)) ww (run_move (.inr rfl) (HH.ev rfl)) ?_
          exact hI.put (by kernel_rfl) _ (ma 12 rfl) (by rw [hls]; show 12 < 13; decide) (by rw [hls]; decide) (.int .u8 ((((cb m.dup 8 ||| 2 * m.qos.toNat) ||| cb m.retain 1) : Nat) : Int)) rfl hI.wp AllSt.same
        | (k + 13), ho => simp at ho
      · intro listed a9 w2 hall hI
        have r_3 := hI.vs _ (ma 12 rfl) (.inr (hall 12 (by decide))) trivial
        have H9 : Has a9 57 [(1, .pointer (some ⟨w.heap.size, 0, none⟩)), (3, .int .u8 ((((cb m.dup 8 ||| 2 * m.qos.toNat) ||| cb m.retain 1) : Nat) : Int))] := Has.of hI.sz hI.df ⟨hI.fx.1, r_3, trivial⟩
        have HB2 := hI.wp
        refine block_normal ?_
        refine then_normal ?_
        exact ⟨(by rw [show flagsBy m = _ from (by unfold flagsBy; rw [if_pos k3]; exact gf.symm : flagsBy m = ((cb m.dup 8 ||| 2 * m.qos.toNat) ||| cb m.retain 1))]; exact H9.keep ⟨rfl, rfl, trivial⟩), HB2⟩
      · exact InvB.start H8.sz H8.df ⟨H8.at_ 1 _ rfl, trivial⟩ ⟨fun h => absurd h (by show ¬ 13 ≤ 0; decide), fun h => absurd h (by show ¬ 13 ≤ 1; decide), fun h => absurd h (by show ¬ 13 ≤ 2; decide), fun h => absurd h (by show ¬ 13 ≤ 3; decide), fun h => absurd h (by show ¬ 13 ≤ 4; decide), fun h => absurd h (by show ¬ 13 ≤ 5; decide), fun h => absurd h (by show ¬ 13 ≤ 6; decide), fun h => absurd h (by show ¬ 13 ≤ 7; decide), fun h => absurd h (by show ¬ 13 ≤ 8; decide), fun h => absurd h (by show ¬ 13 ≤ 9; decide), fun h => absurd h (by show ¬ 13 ≤ 10; decide), fun h => absurd h (by show ¬ 13 ≤ 11; decide), fun h => absurd h (by show ¬ 13 ≤ 12; decide), trivial⟩ HB1.drew
    | false =>
      have k3 : ¬ m.kind = 3 := by simpa using h3
      repeat (refine wp_seq ?_)
      refine wp_region_list ?_
      refine H5.bin gz rfl rfl rfl rfl rfl (eql_iB _ _ _ h3 _ _ _) ?_
      intro a6 H6
      refine H6.move gz (.inr rfl) rfl rfl rfl ?_
      intro a7 H7
      refine nt ?_
      refine H7.condF rfl ?_
      repeat (refine wp_seq ?_)
      obtain ⟨b6, h6⟩ : ∃ b, (m.kind == 6) = b := ⟨_, rfl⟩
      cases b6 with
      | true =>
        have k6 : m.kind = 6 := by simpa using h6
        repeat (refine wp_seq ?_)
        refine wp_region_list ?_
        refine H7.bin gz rfl rfl rfl rfl rfl (eql_iB _ _ _ h6 _ _ _) ?_
        intro a8 H8
        refine H8.move gz (.inr rfl) rfl rfl rfl ?_
        intro a9 H9
        refine nt ?_
        refine H9.condT rfl ?_
        refine skip_wp ?_
        refine then_normal ?_
        refine H9.condT rfl ?_
        refine wp_region_list ?_
        refine H9.move gz (.inr rfl) rfl rfl rfl ?_
        intro a10 H10
        refine wpList_nil ?_
        refine block_normal ?_
        refine then_normal ?_
        exact ⟨(by rw [show flagsBy m = _ from (by unfold flagsBy; rw [if_neg k3]; simp [k6] : flagsBy m = 2)]; exact H10.keep ⟨rfl, rfl, trivial⟩), HB1⟩
      | false =>
        have k6 : ¬ m.kind = 6 := by simpa using h6
        repeat (refine wp_seq ?_)
        refine wp_region_list ?_
        refine H7.bin gz rfl rfl rfl rfl rfl (eql_iB _ _ _ h6 _ _ _) ?_
        intro a8 H8
        refine H8.move gz (.inr rfl) rfl rfl rfl ?_
        intro a9 H9
        refine nt ?_
        refine H9.condF rfl ?_
        obtain ⟨b8, h8⟩ : ∃ b, (m.kind == 8) = b := ⟨_, rfl⟩
        cases b8 with
        | true =>
          have k8 : m.kind = 8 := by simpa using h8
          repeat (refine wp_seq ?_)
          refine wp_region_list ?_
          refine H9.bin gz rfl rfl rfl rfl rfl (eql_iB _ _ _ h8 _ _ _) ?_
          intro a10 H10
          refine H10.move gz (.inr rfl) rfl rfl rfl ?_
          intro a11 H11
          refine nt ?_
          refine H11.condT rfl ?_
          refine skip_wp ?_
          refine then_normal ?_
          refine H11.condT rfl ?_
          refine wp_region_list ?_
          refine H11.move gz (.inr rfl) rfl rfl rfl ?_
          intro a12 H12
          refine wpList_nil ?_
          refine block_normal ?_
          refine then_normal ?_
          exact ⟨(by rw [show flagsBy m = _ from (by unfold flagsBy; rw [if_neg k3]; simp [k8] : flagsBy m = 2)]; exact H12.keep ⟨rfl, rfl, trivial⟩), HB1⟩
        | false =>
          have k8 : ¬ m.kind = 8 := by simpa using h8
          repeat (refine wp_seq ?_)
          refine wp_region_list ?_
          refine H9.bin gz rfl rfl rfl rfl rfl (eql_iB _ _ _ h8 _ _ _) ?_
          intro a10 H10
          refine H10.move gz (.inr rfl) rfl rfl rfl ?_
          intro a11 H11
          refine nt ?_
          refine H11.condF rfl ?_
          obtain ⟨b10, h10⟩ : ∃ b, (m.kind == 10) = b := ⟨_, rfl⟩
          cases b10 with
          | true =>
            have k10 : m.kind = 10 := by simpa using h10
            repeat (refine wp_seq ?_)
            refine wp_region_list ?_
            refine H11.bin gz rfl rfl rfl rfl rfl (eql_iB _ _ _ h10 _ _ _) ?_
            intro a12 H12
            refine H12.move gz (.inr rfl) rfl rfl rfl ?_
            intro a13 H13
            refine nt ?_
            refine H13.condT rfl ?_
            refine wp_region_list ?_
            refine H13.move gz (.inr rfl) rfl rfl rfl ?_
            intro a14 H14
            refine wpList_nil ?_
            refine block_normal ?_
            refine then_normal ?_
            exact ⟨(by rw [show flagsBy m = _ from (by unfold flagsBy; rw [if_neg k3]; simp [k10] : flagsBy m = 2)]; exact H14.keep ⟨rfl, rfl, trivial⟩), HB1⟩
          | false =>
            have k10 : ¬ m.kind = 10 := by simpa using h10
            repeat (refine wp_seq ?_)
            refine wp_region_list ?_
            refine H11.bin gz rfl rfl rfl rfl rfl (eql_iB _ _ _ h10 _ _ _) ?_
            intro a12 H12
            refine H12.move gz (.inr rfl) rfl rfl rfl ?_
            intro a13 H13
            refine nt ?_
            refine H13.condF rfl ?_
            refine skip_wp ?_
            refine block_normal ?_
            refine then_normal ?_
            exact ⟨(by rw [show flagsBy m = _ from (by unfold flagsBy; simp [k3, k6, k8, k10] : flagsBy m = 0)]; exact H13.keep ⟨rfl, rfl, trivial⟩), HB1⟩
  rintro a4 w2 ⟨H4, HB2⟩
  have O2 := HB2.own
  repeat (refine wp_seq ?_)
  refine wp_region_list ?_
  refine H4.loadS rfl rfl rfl rfl rfl (O2.get 0 rfl) Tryd.underlying30 rfl size_mq rfl ?_
  intro a5 H5
  refine H5.call gz rfl rfl rfl rfl (fun _ _ => by kernel_rfl) ((refBody m _ _ _ _ hm (hL.next O2.bel)).mono fun _ _ h => h.bytes) ?_
  rintro a6 vb w3 ⟨hB, hb⟩ H6
  have O3 := O2.call hb
  clear hb
  obtain ⟨Ab, cb', rfl, hrb⟩ := hB
  have HB3 := Base.of O3
  obtain ⟨b0, hb0⟩ : ∃ b0, b0 = w3.heap.size := ⟨_, rfl⟩
  rw [← hb0] at HB3
  have hb0' := hb0
  clear hb0
  rw [← hb0'] at hrb
  refine H6.move gz (.inr rfl) rfl rfl rfl ?_
  intro a7 H7
  refine nt ?_
  repeat (refine wp_seq ?_)
  refine wp_region_list ?_
  refine H7.field gz rfl rfl rfl rfl field_0 ?_
  intro a8 H8
  refine H8.load gz rfl rfl rfl rfl (load1_i _ _ _ _ ((HB3.get 0 rfl).get 0 _ rfl)) ?_
  intro a9 H9
  refine H9.conv gz rfl rfl rfl rfl (conv_u8 _ _) ?_
  intro a10 H10
  refine H10.bin gz rfl rfl rfl rfl rfl (shl4_u8 _ (by omega) (by omega) _ _ _) ?_
  intro a11 H11
  refine H11.move gz (.inl rfl) rfl rfl rfl ?_
  intro a12 H12
  refine H12.bin gz rfl rfl rfl rfl rfl (or_u _ _ (by omega) (by omega) _ _ _) ?_
  intro a13 H13
  refine H13.lit gz rfl rfl [UInt8.ofNat (16 * m.kind.toNat + flagsBy m)] [.int .u8 ((16 * m.kind.toNat ||| flagsBy m : Nat) : Int)] (by rw [hor, bv_nat _ (by omega)]; rfl) (k := 1) rfl 5 (by intro cs b h; cases h) (by kernel_rfl) (by kernel_rfl) HB3.bw ?_
  intro a14 v35 w4 H14 R35 hb
  have HB4 := HB3.call hb
  have hrb := hrb.below (hb.mono HB3.bw)
  clear hb
  refine H14.move gz (.inr rfl) rfl rfl rfl ?_
  intro a15 H15
  refine nt ?_
  repeat (refine wp_seq ?_)
  refine wp_region_list ?_
  refine H15.move gz (.inl rfl) rfl rfl rfl ?_
  intro a16 H16
  refine H16.len gz rfl rfl rfl rfl Tryd.underlying31 ?_
  intro a17 H17
  refine H17.move gz (.inr rfl) rfl rfl rfl ?_
  intro a18 H18
  refine nt ?_
  repeat (refine wp_seq ?_)
  refine wp_block ?_
  refine wp_loop_up 2 (fun k a w' => ∃ n pre v, k < 2 ∧ n < 128 ^ (2 - k) ∧ vlen (bodyBy m).length = pre ++ vlen n ∧ pre.length ≤ 2 ∧ Has a 57 [(1, .pointer (some ⟨w.heap.size, 0, none⟩)), (4, .slice Ab (bodyBy m).length cb'), (5, v), (6, .int .i64 ((n : Nat) : Int))] ∧ RowIs b0 ([UInt8.ofNat (16 * m.kind.toNat + flagsBy m)] ++ pre) v w' ∧ RB w' b0 Ab (bodyBy m) ∧ Base w b0 [(w.heap.size, (mqCells m vc vw vf))] w') ?_ ?_
  · exact ⟨_, [], _, by omega, by omega, rfl, by simp, H18.keep ⟨rfl, rfl, rfl, rfl, trivial⟩, by simpa using R35, hrb, HB4⟩
  · rintro k a19 w5 hkn ⟨n, pre, v5, hk2, hn, hpre, hpl, H19, R5, hrb, HB5⟩
    have hn2 : n < 16384 := by
      rcases Nat.lt_or_ge k 1 with h | h
      · obtain rfl : k = 0 := by omega
        omega
      · obtain rfl : k = 1 := by omega
        omega
    by_cases hlt : 128 ≤ n
    · skip
      have hk0 : k = 0 := by
        rcases Nat.lt_or_ge k 1 with h | h
        · omega
        · obtain rfl : k = 1 := by omega
          omega
      subst hk0
      repeat (refine wp_seq ?_)
      refine wp_region_list ?_
      refine H19.move gz (.inl rfl) rfl rfl rfl ?_
      intro a20 H20
      refine H20.bin gz rfl rfl rfl rfl rfl (geq_i _ _ true (by simp; omega) _ _ _) ?_
      intro a21 H21
      refine nt ?_
      repeat (refine wp_seq ?_)
      refine H21.condT rfl ?_
      refine skip_wp ?_
      refine then_normal ?_
      repeat (refine wp_seq ?_)
      refine wp_block ?_
      repeat (refine wp_seq ?_)
      refine wp_region_list ?_
      refine H21.move gz (.inl rfl) rfl rfl rfl ?_
      intro a22 H22
      refine H22.move gz (.inl rfl) rfl rfl rfl ?_
      intro a23 H23
      refine H23.bin gz rfl rfl rfl rfl rfl (rem128 n _ _ _) ?_
      intro a24 H24
      refine H24.conv gz rfl rfl rfl rfl (conv_u8n _ (by omega) _) ?_
      intro a25 H25
      refine H25.bin gz rfl rfl rfl rfl rfl (or_u _ _ (by omega) (by decide) _ _ _) ?_
      intro a26 H26
      refine H26.lit gz rfl rfl [UInt8.ofNat (n % 128 + 128)] [.int .u8 ((n % 128 ||| 128 : Nat) : Int)] (by rw [or128n, bv_nat _ (by omega)]; rfl) (k := 1) rfl 5 (by intro cs b h; cases h) (by kernel_rfl) (by kernel_rfl) HB5.bw ?_
      intro a27 v45 w6 H27 R45 hb
      have R5 := R5.below hb
      have HB6 := HB5.call hb
      have hrb := hrb.below (hb.mono HB5.bw)
      clear hb
      refine H27.appendRow Tryd.underlying31 info_u8 gz rfl rfl rfl rfl rfl R5 R45.read (by simp; omega) HB6.bw ?_
      intro a28 v46 w7 H28 R46 hb _
      have HB7 := HB6.step hb
      have hrb := hrb.below hb
      clear hb
      refine H28.move gz (.inr rfl) rfl rfl rfl ?_
      intro a29 H29
      refine nt ?_
      refine wp_region_list ?_
      refine H29.move gz (.inl rfl) rfl rfl rfl ?_
      intro a30 H30
      refine H30.bin gz rfl rfl rfl rfl rfl (quo128 n hn2 _ _ _) ?_
      intro a31 H31
      refine H31.move gz (.inr rfl) rfl rfl rfl ?_
      intro a32 H32
      refine wpList_nil ?_
      refine block_normal ?_
      refine then_normal ?_
      refine ⟨by omega, n / 128, pre ++ [UInt8.ofNat (n % 128 + 128)], _, by omega, by omega, ?_, ?_, H32.keep ⟨rfl, rfl, rfl, rfl, trivial⟩, (by rw [← List.append_assoc]; exact R46), hrb, HB7⟩
      · rw [hpre, vlen_step _ hlt, List.append_assoc]; rfl
      · have : pre = [] := by
          have h1 := congrArg List.length hpre
          rw [vlen_step _ hlt] at h1
          have h2 := vlen_le (bodyBy m).length (by omega)
          have h3 := vlen_pos (n / 128)
          simp only [List.length_append, List.length_cons] at h1
          exact List.eq_nil_of_length_eq_zero (by omega)
        rw [this]; simp
    · skip
      repeat (refine wp_seq ?_)
      refine wp_region_list ?_
      refine H19.move gz (.inl rfl) rfl rfl rfl ?_
      intro a20 H20
      refine H20.bin gz rfl rfl rfl rfl rfl (geq_i _ _ false (by simp; omega) _ _ _) ?_
      intro a21 H21
      refine nt ?_
      repeat (refine wp_seq ?_)
      refine H21.condF rfl ?_
      refine wp_exit ?_
      repeat (with_reducible refine then_exit ?_)
      refine block_leave ?_
      refine then_normal ?_
      repeat (refine wp_seq ?_)
      refine wp_region_list ?_
      refine H21.move gz (.inl rfl) rfl rfl rfl ?_
      intro a22 H22
      refine H22.move gz (.inl rfl) rfl rfl rfl ?_
      intro a23 H23
      refine H23.conv gz rfl rfl rfl rfl (conv_u8 _ _) ?_
      intro a24 H24
      refine H24.lit gz rfl rfl [UInt8.ofNat n] [.int .u8 ((n : Int) % 256)] (by rw [byte_of_int _ (by omega)]; rfl) (k := 1) rfl 5 (by intro cs b h; cases h) (by kernel_rfl) (by kernel_rfl) HB5.bw ?_
      intro a25 v52 w6 H25 R52 hb
      have R5 := R5.below hb
      have HB6 := HB5.call hb
      have hrb := hrb.below (hb.mono HB5.bw)
      clear hb
      refine H25.appendRow Tryd.underlying31 info_u8 gz rfl rfl rfl rfl rfl R5 R52.read (by simp; omega) HB6.bw ?_
      intro a26 v53 w7 H26 R53 hb _
      have HB7 := HB6.step hb
      have hrb := hrb.below hb
      clear hb
      refine H26.move gz (.inr rfl) rfl rfl rfl ?_
      intro a27 H27
      refine nt ?_
      repeat (refine wp_seq ?_)
      refine wp_region_list ?_
      refine H27.move gz (.inl rfl) rfl rfl rfl ?_
      intro a28 H28
      refine H28.move gz (.inl rfl) rfl rfl rfl ?_
      intro a29 H29
      refine H29.appendRow Tryd.underlying31 info_u8 gz rfl rfl rfl rfl rfl R53 ⟨_, _, rfl, hrb.more HB7.bw⟩ (by simp; omega) HB7.bw ?_
      intro a30 v56 w8 H30 R56 hb _
      have HB8 := HB7.step hb
      have hrb := hrb.below hb
      clear hb
      refine H30.move gz (.inr rfl) rfl rfl rfl ?_
      intro a31 H31
      refine nt ?_
      refine wp_ret ?_
      repeat (first | (with_reducible refine block_ret ?_) | (with_reducible refine then_ret ?_))
      refine bodyPost_ret (results_tmp rfl _ _ _) H31.df ⟨_, congrArg Ending.returned (H31.at_ 2 _ rfl), ?_, HB8.own.bel⟩
      have e : layB m = (([UInt8.ofNat (16 * m.kind.toNat + flagsBy m)] ++ pre) ++ [UInt8.ofNat n]) ++ bodyBy m := by
        unfold layB; rw [hpre, vlen_short _ (by omega)]; simp
      rw [e]; exact R56.base HB8.hb
end Go.Proofs.YtkcdkjpmbjcmdaaDoor

/-
  Words that the laws of chapter 18 share.
-/
namespace Go.Proofs.YtkcdkjpmbjcmdaaDoor
open Go.RowKit

theorem index_m (T : TypeId) (hT : Tryd.prog.underlying T = some (.slice (Tryd.prog.elem T))) (m : Nat) (hs : ∀ w, (sizeOf (Tryd.prog.elem T)).run Tryd.prog w = .ok m w) (b o n c k : Nat) (hk : k < n) (w : World) : (Instr.indexAt T (.slice (some ⟨b, o, none⟩) n c) (.int .i64 k)).run Tryd.prog w = .ok (.pointer (some ⟨b, o + k * m, none⟩)) w := by
  rw [run_indexAt_slice (h := hT), if_pos ⟨by omega, by omega⟩, hs]
  have e : (Addr.mk b o none).add ((k : Int).toNat * m) = ⟨b, o + k * m, none⟩ := by
    rw [Int.toNat_natCast]
    unfold Addr.add
    by_cases h : k * m = 0
    · rw [if_pos h, h]; rfl
    · rw [if_neg h]
  rw [Result.andThen_ok, e]
theorem fieldAo_0 (o g : Nat) (w : World) : (Instr.fieldAt 33 (.pointer (some ⟨g, o, none⟩)) 0).run Tryd.prog w = .ok (.pointer (some ⟨g, o, none⟩)) w := by
  simp [go_sem]
theorem fieldAo_1 (o g : Nat) (w : World) : (Instr.fieldAt 33 (.pointer (some ⟨g, o, none⟩)) 1).run Tryd.prog w = .ok (.pointer (some ⟨g, o + 24, none⟩)) w := by
  simp [go_sem]
theorem rangeB {w w' : World} {B b o : Nat} {l : List Value} (h : w.rangeAt b o l) (hb : Below B w w') (hlt : b < B) : w'.rangeAt b o l := fun j v hv => (cellB hb hlt).trans (h j v hv)
theorem rangeF {w : World} {b o : Nat} {l1 l2 : List Value} (h : w.rangeAt b o (l1 ++ l2)) : w.rangeAt b o l1 := fun j v hv => h j v (by rw [List.getElem?_append_left (List.getElem?_eq_some_iff.1 hv).1]; exact hv)
theorem load_mq {w : World} {b o : Nat} {m : Mq} {vc vw vf : Value} (h : w.rangeAt b o (mqCells m vc vw vf)) : (Instr.loadAt 30 (.pointer (some ⟨b, o, none⟩))).run Tryd.prog w = .ok (.agg (mqCells m vc vw vf).toArray) w :=
  run_loadAt_mid w b o 30 _ _ h Tryd.underlying30 rfl size_mq
theorem size_ask : (Tryd.prog.info? 33).map (·.size) = some 25 := by kernel_rfl
theorem load_ask {w : World} {b o : Nat} {m : Mq} {vc vw vf v : Value} (h : w.rangeAt b o (mqCells m vc vw vf ++ [v])) : (Instr.loadAt 33 (.pointer (some ⟨b, o, none⟩))).run Tryd.prog w = .ok (.agg (mqCells m vc vw vf ++ [v]).toArray) w :=
  run_loadAt_mid w b o 33 _ _ h Tryd.underlying33 rfl size_ask
theorem neq_3 (u v : Int) (b : Bool) (h : (u != v) = b) (x y : Operand) (w : World) : (do eqGuard .neq 3 x y (.int .i64 u) (.int .i64 v); binOp .neq 3 (.int .i64 u) (.int .i64 v) : Sem Value).run Tryd.prog w = .ok (.bool b) w := by
  rw [← h]
  simp [go_sem]
theorem short_of {m : Mq} (h : mqW m ≤ 3000) : Short m 1000000 := by
  have h1 := wgt_ge (m.wishes.map (·.1.size)) m.wishes.length
  have h2 := wgt_ge (m.filters.map (·.size)) m.filters.length
  unfold mqW wishW filtW at h
  exact ⟨by omega, by omega, by omega⟩
theorem mayC (m : Mq) (vc vw vf : Value) (b : Bool) (hb : mayBb m = b) (w : World) (hL : MqL w w.heap.size m vc vw vf) (hF : MqFit m) (hW : Wd w) :
    Calls Tryd.prog 25 #[.agg (mqCells m vc vw vf).toArray] w fun e w' => e = .returned (.bool b) ∧ Below w.heap.size w w' := by
  rw [← hb]
  exact refMay m vc vw vf w hL hF hW
theorem checkC (m : Mq) (vc vw vf : Value) (n : Int) (hn : (if mayBb m then 0 else 1) = n) (w : World) (hL : MqL w w.heap.size m vc vw vf) (hF : MqFit m) (hW : Wd w) :
    Calls Tryd.prog 27 #[.agg (mqCells m vc vw vf).toArray] w fun e w' => e = .returned (.int .i64 n) ∧ Below w.heap.size w w' := by
  rw [← hn]
  exact packCheck m vc vw vf w hL hF hW
theorem bytesYes (m : Mq) (vc vw vf : Value) (w : World) (hm : mayB m) (hL : MqL w w.heap.size m vc vw vf) (hF : MqFit m) (hW : Wd w) :
    Calls Tryd.prog 24 #[.agg (mqCells m vc vw vf).toArray] w fun e w' => ∃ v, e = .returned v ∧ (∃ vr, v = .tuple #[vr, .int .i64 0] ∧ RowIs w.heap.size (layB m) vr w' ∧ Below w.heap.size w w') := by
  refine (packBytes m vc vw vf w hL hF hW).mono ?_
  rintro e w' (⟨_, v, rfl, hr, hb⟩ | ⟨hn, _⟩)
  · exact ⟨_, rfl, v, rfl, hr, hb⟩
  · exact absurd hm hn
theorem bytesNo (m : Mq) (vc vw vf : Value) (w : World) (hm : ¬ mayB m) (hL : MqL w w.heap.size m vc vw vf) (hF : MqFit m) (hW : Wd w) :
    Calls Tryd.prog 24 #[.agg (mqCells m vc vw vf).toArray] w fun e w' => ∃ v, e = .returned v ∧ (v = .tuple #[.slice none 0 0, .int .i64 1] ∧ Below w.heap.size w w') := by
  refine (packBytes m vc vw vf w hL hF hW).mono ?_
  rintro e w' (⟨hn, _⟩ | ⟨_, rfl, hb⟩)
  · exact absurd hn hm
  · exact ⟨_, rfl, rfl, hb⟩
theorem eqBy (xs : List UInt8) (u v : Value) (w : World) (hu : BytesAre xs u w) (hv : BytesAre xs v w) (hn : xs.length ≤ maxLen) :
    Calls Tryd.prog 28 #[u, v] w fun e w' => e = .returned (.bool true) ∧ Below w.heap.size w w' := by
  obtain ⟨A, c, rfl, ha⟩ := hu
  obtain ⟨B, d, rfl, hb⟩ := hv
  refine (eqBytes xs A B c d w ha hb hn).mono ?_
  rintro e w' ⟨rfl, n, rfl⟩
  exact ⟨rfl, below_drewN (Below.refl _ _) n⟩
theorem eqMqS (m : Mq) (vc vw vf vc' vw' vf' : Value) (w : World) (ha : MqL w w.heap.size m vc vw vf) (hb : MqL w w.heap.size m vc' vw' vf') :
    Calls Tryd.prog 30 #[.agg (mqCells m vc vw vf).toArray, .agg (mqCells m vc' vw' vf').toArray] w fun e w' => e = .returned (.bool true) ∧ Below w.heap.size w w' := by
  have h := refEqMq m m vc vw vf vc' vw' vf' w ha hb
  rw [(same_iff m m).2 rfl] at h
  exact h
theorem lay_maxLen {m : Mq} (h : mayB m) : (layB m).length ≤ maxLen := by
  have := lay_le h
  unfold maxLen
  omega
theorem mayB_of {m : Mq} (h : mayBb m = true) : mayB m := (mayBb_iff m).1 h
theorem mayB_not {m : Mq} (h : mayBb m = false) : ¬ mayB m := fun h2 => by rw [(mayBb_iff m).2 h2] at h; cases h
/-! are you there -/
theorem ping_may : mayB (mq0 12) := ⟨rfl, rfl⟩
theorem ping_lay : layB (mq0 12) = [192, 0] := by
  have h : bodyBy (mq0 12) = [] := rfl
  unfold layB
  rw [h, vlen_short _ (by decide)]
  rfl
theorem ping_fit : MqFit (mq0 12) := ⟨by unfold Fits; decide, by unfold Fits; decide, by unfold Fits; decide, by unfold Fits; decide, by unfold Fits; decide, by unfold Fits; decide, by unfold Fits; decide, (fun s hs => by cases hs), (fun s hs => by cases hs)⟩
set_option maxRecDepth 100000 in
set_option maxHeartbeats 1600000 in
theorem wakes18 (w : World) (hT : Wd w) : Calls Tryd.prog 31 #[] w fun e w' => e = .returned (.bool true) ∧ Below w.heap.size w w' := by
  go_enter Tryd.func31, Tryd.ntmps31
  refine Has.start 16 [] rfl rfl trivial ?_
  intro a0 H0
  have O0 := Own.start w
  repeat (refine wp_seq ?_)
  refine wp_region_list ?_
  refine H0.move gz (.inr rfl) rfl rfl rfl ?_
  intro a1 H1
  refine nt ?_
  repeat (refine wp_seq ?_)
  refine wp_region_list ?_
  refine H1.any (w' := w) gz rfl rfl (.agg (mqCells (mq0 12) nilV nilV nilV).toArray) (by intro cs b h; cases h) (by kernel_rfl) (by kernel_rfl) ?_
  intro a2 H2
  refine H2.call gz rfl rfl rfl rfl (fun _ _ => by kernel_rfl) (bytesYes (mq0 12) nilV nilV nilV _ ping_may (MqL.nil rfl rfl rfl) ping_fit hT) ?_
  rintro a3 _ w1 ⟨vr, rfl, hR, hb⟩ H3
  have O1 := O0.call hb
  clear hb
  rw [ping_lay] at hR
  refine H3.move gz (.inl rfl) rfl rfl rfl ?_
  intro a4 H4
  refine H4.extract (r := vr) gz rfl rfl rfl rfl (by rfl) ?_
  intro a5 H5
  refine H5.extract (r := .int .i64 0) gz rfl rfl rfl rfl (by rfl) ?_
  intro a6 H6
  refine H6.move gz (.inr rfl) rfl rfl rfl ?_
  intro a7 H7
  refine H7.move gz (.inr rfl) rfl rfl rfl ?_
  intro a8 H8
  refine nt ?_
  repeat (refine wp_seq ?_)
  refine wp_region_list ?_
  refine H8.move gz (.inl rfl) rfl rfl rfl ?_
  intro a9 H9
  refine H9.call gz rfl rfl rfl rfl (fun _ _ => by kernel_rfl) (quietC (num18 0 _)) ?_
  rintro a10 _ _ ⟨rfl, rfl⟩ H10
  refine H10.bin gz rfl rfl rfl rfl rfl (eql_iB _ _ true rfl _ _ _) ?_
  intro a11 H11
  refine H11.move gz (.inl rfl) rfl rfl rfl ?_
  intro a12 H12
  refine H12.move (H12.wt rfl rfl rfl) (.inl rfl) rfl rfl rfl ?_
  intro a13 H13
  obtain ⟨hby, hb⟩ := bytes_lit w1 [192, 0] [.int .u8 192, .int .u8 0] rfl 5 2 rfl
  refine H13.go (H13.wt rfl rfl rfl) rfl rfl (.slice (some ⟨w1.heap.size, 0, none⟩) 2 2) (w' := w1.alloc (.cells ([.int .u8 192, .int .u8 0] : List Value).toArray 5)) (run_any H13 (by intro cs b h; cases h) (by kernel_rfl) (by kernel_rfl)) ?_
  intro a14 H14
  have hR := hR.below hb
  have O2 := O1.call hb
  refine H14.call (H14.wt rfl rfl rfl) rfl rfl rfl rfl (fun _ _ => by kernel_rfl) (belowC (eqBy [192, 0] vr _ _ hR.read hby (by decide))) ?_
  rintro a15 _ w2 ⟨rfl, hb⟩ H15
  have O3 := O2.call hb
  refine H15.pick gz rfl rfl rfl rfl rfl ?_
  intro a16 H16
  refine H16.move gz (.inr rfl) rfl rfl rfl ?_
  intro a17 H17
  refine nt ?_
  refine wp_ret ?_
  repeat (first | (with_reducible refine block_ret ?_) | (with_reducible refine then_ret ?_))
  exact bodyPost_ret (results_tmp rfl _ _ _) H17.df ⟨congrArg Ending.returned (H17.at_ 0 _ rfl), O3.bel⟩
end Go.Proofs.YtkcdkjpmbjcmdaaDoor
