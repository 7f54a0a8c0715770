/-
  The page's May: which packets may be.
-/
import Derived.Lib.LaidIn
import Derived.Lib.LaidU8T
import Derived.Test.YtkcdkjpmbjcmdaaDoorDa4
namespace Go.Proofs.YtkcdkjpmbjcmdaaDoor
open Go.RowKit

theorem conn7 (a b c d e f g : Bool) : ((((((a && b) && c) && d) && e) && f) && g) = (a && (b && (c && (d && (f && (e && g)))))) := by
  cases a <;> cases b <;> cases c <;> cases d <;> cases e <;> cases f <;> cases g <;> rfl
theorem same_symm (a b : Mq) : Mq.same a b = Mq.same b a := by
  rw [Bool.eq_iff_iff, same_iff, same_iff]
  exact eq_comm
theorem pub_zero (m : Mq) (h : (m.qos == 0) = true) : publishOk m = ((((((textOk m.topic 1 64 && plainOf (sb m.topic)) && inRB m.qos 0 2) && decide ((m.payload.size : Int) ≤ 128)) && !m.dup)) && (m.id == 0)) := by
  have h0 : m.qos = 0 := by simpa using h
  unfold publishOk topicOk
  rw [h0]
  cases textOk m.topic 1 64 <;> cases plainOf (sb m.topic) <;> cases decide ((m.payload.size : Int) ≤ 128) <;> cases m.dup <;> cases (m.id == 0) <;> rfl
theorem pub_more (m : Mq) (h : (m.qos == 0) = false) : publishOk m = ((((textOk m.topic 1 64 && plainOf (sb m.topic)) && inRB m.qos 0 2) && decide ((m.payload.size : Int) ≤ 128)) && inRB m.id 1 65535) := by
  have h0 : ¬ m.qos = 0 := by simpa using h
  unfold publishOk topicOk
  cases hq : inRB m.qos 0 2 with
  | false => cases textOk m.topic 1 64 <;> cases plainOf (sb m.topic) <;> rfl
  | true =>
    have := inRB_iff.1 hq
    have h1 : decide (0 < m.qos) = true := by simp; omega
    rw [h, h1]
    cases textOk m.topic 1 64 <;> cases plainOf (sb m.topic) <;> cases decide ((m.payload.size : Int) ≤ 128) <;> cases inRB m.id 1 65535 <;> rfl
theorem list_and (a : Bool) (n : Nat) (c : Bool) : (((a && decide ((1 : Int) ≤ n)) && decide ((n : Int) ≤ 8)) && c) = (a && (c && inRB n 1 8)) := by
  unfold inRB
  cases a <;> cases decide ((1 : Int) ≤ n) <;> cases decide ((n : Int) ≤ 8) <;> cases c <;> rfl
theorem codesAll_snoc (l : List Int) (x : Int) : codesAll (l ++ [x]) = (codesAll l && (inRB x 0 2 || (x == 128))) := by
  induction l with
  | nil => simp [codesAll]
  | cons y l ih => rw [List.cons_append, codesAll, codesAll, ih, Bool.and_assoc]
theorem filtersAll_snoc (l : List ByteArray) (x : ByteArray) : filtersAll (l ++ [x]) = (filtersAll l && textOk x 1 64) := by
  induction l with
  | nil => simp [filtersAll]
  | cons y l ih => rw [List.cons_append, filtersAll, filtersAll, ih, Bool.and_assoc]

set_option maxRecDepth 100000 in
set_option maxHeartbeats 6400000 in
theorem refMay (m : Mq) (vc vw vf : Value) (w : World) (hL : MqL w w.heap.size m vc vw vf) (hF : MqFit m) (hW : Wd w) :
    Calls Tryd.prog 25 #[.agg (mqCells m vc vw vf).toArray] w fun e w' => e = .returned (.bool (mayBb m)) ∧ Below w.heap.size w w' := by
  obtain ⟨A1, c1, A2, c2, A3, c3, rfl, rfl, rfl, l1, l2, l3, k1', k2', k3', r1, r2, r3⟩ := id hL
  go_enter Tryd.func25, Tryd.ntmps25
  refine Has.start 289 [(0, .agg (mqCells m (.slice A1 m.codes.length c1) (.slice A2 m.wishes.length c2) (.slice A3 m.filters.length c3)).toArray)] rfl rfl ⟨rfl, trivial⟩ ?_
  intro a0 H0
  have O0 := Own.start w
  refine rl ?_
  refine H0.bx O0 1 fun a2 w1 O1 H2 => nt ?_
  refine H2.rg 1 fun a3 H3 => ?_
  refine H3.ld 0 (O1.li 0 0) fun a4 H4 => ?_
  refine H4.any (w' := w1) gz rfl rfl (.agg (mqCells (mq0 m.kind) nilV nilV nilV).toArray) (by intro cs b h; cases h) (by kernel_rfl) (by kernel_rfl) ?_
  intro a5 H5
  refine H5.al O1 0 zero_mq fun a6 w2 O2 H6 => ?_
  refine H6.st O2 0 0 (hi := size_mq) fun a7 w3 O3 H7 => nt ?_
  refine H7.rg 1 fun a8 H8 => nt ?_
  refine wp_seq_join (fun a w' => ∃ vc' vw' vf', Has a 289 [(1, .pointer (some ⟨w.heap.size, 0, none⟩)), (3, .pointer (some ⟨w1.heap.size, 0, none⟩)), (4, .bool (okOf m))] ∧ MqL w' w'.heap.size (onlyOf m) vc' vw' vf' ∧ Own w w.heap.size [(w1.heap.size, mqCells (onlyOf m) vc' vw' vf'), (w.heap.size, (mqCells m (.slice A1 m.codes.length c1) (.slice A2 m.wishes.length c2) (.slice A3 m.filters.length c3)))] w') ?_ ?_
  · skip
    refine H8.rg 1 fun a9 H9 => ?_
    refine H9.ld 0 (O3.li 1 0) fun a10 H10 => nt ?_
    refine wp_block ?_
    have hk0 : True := trivial
    obtain ⟨b1, h1⟩ : ∃ b, (m.kind == 1) = b := ⟨_, rfl⟩
    cases b1 with
    | true =>
      have k1 : m.kind = 1 := by simpa using h1
      refine rl ?_
      refine H10.bn 1 (eql_iB _ _ _ h1 _ _ _) fun a12 H12 => nt ?_
      refine H12.condT rfl ?_
      have ho : onlyOf m = { mq0 m.kind with client := m.client, clean := m.clean, keep := m.keep, won := m.won, wt := m.wt, wp := m.wp, wq := m.wq, wr := m.wr, user := m.user, hu := m.hu, pass := m.pass, hp := m.hp } := by unfold onlyOf; rw [if_pos k1]
      have hq : okOf m = connectOk m := by unfold okOf; rw [if_pos k1]
      repeat (refine wp_seq ?_)
      refine H12.ds O3 0 [1, 3, 4] rfl [ec 0 14 (.pointer (some ⟨w.heap.size, 1, none⟩)), ec 1 15 (.string m.client), ec 2 16 (.pointer (some ⟨w.heap.size, 2, none⟩)), ec 3 17 (.bool m.clean), ec 4 18 (.pointer (some ⟨w.heap.size, 3, none⟩)), ec 5 19 (.int .i64 m.keep), ec 6 20 (.pointer (some ⟨w.heap.size, 4, none⟩)), ec 7 21 (.agg #[.bool m.won, .string m.wt, .string m.wp, .int .i64 m.wq, .bool m.wr]), ec 8 22 (.pointer (some ⟨w.heap.size, 9, none⟩)), ec 9 23 (.string m.user), ec 10 24 (.pointer (some ⟨w.heap.size, 10, none⟩)), ec 11 25 (.bool m.hu), ec 12 26 (.pointer (some ⟨w.heap.size, 11, none⟩)), ec 13 27 (.string m.pass), ec 14 28 (.pointer (some ⟨w.heap.size, 12, none⟩)), ec 15 29 (.bool m.hp), ec 16 30 (.pointer (some ⟨w1.heap.size, 1, none⟩)), ec 18 31 (.pointer (some ⟨w1.heap.size, 2, none⟩)), ec 20 32 (.pointer (some ⟨w1.heap.size, 3, none⟩)), ec 22 33 (.pointer (some ⟨w1.heap.size, 4, none⟩)), ec 24 34 (.pointer (some ⟨w1.heap.size, 9, none⟩)), ec 26 35 (.pointer (some ⟨w1.heap.size, 10, none⟩)), ec 28 36 (.pointer (some ⟨w1.heap.size, 11, none⟩)), ec 30 37 (.pointer (some ⟨w1.heap.size, 12, none⟩))] [⟨31, 12, [(.bool m.hp)]⟩, ⟨29, 11, [(.string m.pass)]⟩, ⟨27, 10, [(.bool m.hu)]⟩, ⟨25, 9, [(.string m.user)]⟩, ⟨23, 4, [.bool m.won, .string m.wt, .string m.wp, .int .i64 m.wq, .bool m.wr]⟩, ⟨21, 3, [(.int .i64 m.keep)]⟩, ⟨19, 2, [(.bool m.clean)]⟩, ⟨17, 1, [(.string m.client)]⟩] rfl rfl ⟨jm, jl fun _ ⟨_, _, h⟩ => load1_s _ _ _ _ ((h.get 1 rfl).get 1 _ rfl), jm, jl fun _ ⟨_, _, h⟩ => load1_b _ _ _ _ ((h.get 1 rfl).get 2 _ rfl), jm, jl fun _ ⟨_, _, h⟩ => load1_i _ _ _ _ ((h.get 1 rfl).get 3 _ rfl), jm, jl fun _ ⟨_, _, h⟩ => load_will _ _ _ _ _ _ _ _ (h.get 1 rfl) rfl rfl rfl rfl rfl, jm, jl fun _ ⟨_, _, h⟩ => load1_s _ _ _ _ ((h.get 1 rfl).get 9 _ rfl), jm, jl fun _ ⟨_, _, h⟩ => load1_b _ _ _ _ ((h.get 1 rfl).get 10 _ rfl), jm, jl fun _ ⟨_, _, h⟩ => load1_s _ _ _ _ ((h.get 1 rfl).get 11 _ rfl), jm, jl fun _ ⟨_, _, h⟩ => load1_b _ _ _ _ ((h.get 1 rfl).get 12 _ rfl), jm, jm, jm, jm, jm, jm, jm, jm, trivial⟩ ⟨q1 fun _ u h f => store1_b _ _ _ u _ h f, q1 fun _ u h f => store1_s _ _ _ u _ h f, q1 fun _ u h f => store1_b _ _ _ u _ h f, q1 fun _ u h f => store1_s _ _ _ u _ h f, q5, q1 fun _ u h f => store1_i _ _ _ u _ h f, q1 fun _ u h f => store1_b _ _ _ u _ h f, q1 fun _ u h f => store1_s _ _ _ u _ h f, trivial⟩ ?_
      intro a13 w4 H13 O4
      have O4 : Own w w.heap.size [(w1.heap.size, (mqCells (onlyOf m) nilV nilV nilV)), (w.heap.size, (mqCells m (.slice A1 m.codes.length c1) (.slice A2 m.wishes.length c2) (.slice A3 m.filters.length c3)))] w4 := by rw [ho]; exact O4
      refine then_normal ?_
      refine rl ?_
      refine wpList_cut 4 (fun a' w' => ∃ b, textOk m.client 0 23 = b ∧ Has a' 289 [(1, .pointer (some ⟨w.heap.size, 0, none⟩)), (3, .pointer (some ⟨w1.heap.size, 0, none⟩)), (41, .bool b)] ∧ Own w w.heap.size [(w1.heap.size, (mqCells (onlyOf m) nilV nilV nilV)), (w.heap.size, (mqCells m (.slice A1 m.codes.length c1) (.slice A2 m.wishes.length c2) (.slice A3 m.filters.length c3)))] w') ?_ ?_
      · skip
        refine H13.ms 1 fun a14 H14 => ?_
        refine H14.ld 0 (O4.ls 1 1) fun a15 H15 => ?_
        refine H15.cl (belowC (refTextV m.client hF.client 0 23 _ (hW.below O4.bel))) ?_
        rintro a16 _ w5 ⟨rfl, hb⟩ H16
        have O5 := O4.call hb
        clear hb
        refine H16.ms 1 fun a17 H17 => ?_
        exact nt ⟨_, by rfl, H17.keep ⟨rfl, rfl, rfl, trivial⟩, O5⟩
      rintro a14 w5 ⟨v41, q41, H14, O5⟩
      refine wpList_cut 5 (fun a' w' => ∃ b, (textOk m.client 0 23 && inRB m.keep 0 65535) = b ∧ Has a' 289 [(1, .pointer (some ⟨w.heap.size, 0, none⟩)), (3, .pointer (some ⟨w1.heap.size, 0, none⟩)), (46, .bool b)] ∧ Own w w.heap.size [(w1.heap.size, (mqCells (onlyOf m) nilV nilV nilV)), (w.heap.size, (mqCells m (.slice A1 m.codes.length c1) (.slice A2 m.wishes.length c2) (.slice A3 m.filters.length c3)))] w') ?_ ?_
      · skip
        cases v41 with
        | false =>
          refine H14.offs 3 rfl ?_
          intro a15 H15
          refine H15.pick gz rfl rfl rfl rfl rfl ?_
          intro a16 H16
          refine H16.ms 1 fun a17 H17 => ?_
          exact nt ⟨_, by rw [q41] <;> rfl, H17.keep ⟨rfl, rfl, rfl, trivial⟩, O5⟩
        | true =>
          refine H14.field (H14.wt rfl rfl rfl) rfl rfl rfl rfl field_3 ?_
          intro a15 H15
          refine H15.load (H15.wt rfl rfl rfl) rfl rfl rfl rfl (load1_i _ _ _ _ ((O5.get 1 rfl).get 3 _ rfl)) ?_
          intro a16 H16
          refine H16.call (H16.wt rfl rfl rfl) rfl rfl rfl rfl (fun _ _ => by kernel_rfl) (quietC (refNumB m.keep 65535 _)) ?_
          rintro a17 _ _ ⟨rfl, rfl⟩ H17
          refine H17.pick gz rfl rfl rfl rfl rfl ?_
          intro a18 H18
          refine H18.ms 1 fun a19 H19 => ?_
          exact nt ⟨_, by rw [q41] <;> rfl, H19.keep ⟨rfl, rfl, rfl, trivial⟩, O5⟩
      rintro a15 w6 ⟨v46, q46, H15, O6⟩
      refine wpList_cut 5 (fun a' w' => ∃ b, ((textOk m.client 0 23 && inRB m.keep 0 65535) && willB2 m.won m.wt m.wp m.wq m.wr) = b ∧ Has a' 289 [(1, .pointer (some ⟨w.heap.size, 0, none⟩)), (3, .pointer (some ⟨w1.heap.size, 0, none⟩)), (51, .bool b)] ∧ Own w w.heap.size [(w1.heap.size, (mqCells (onlyOf m) nilV nilV nilV)), (w.heap.size, (mqCells m (.slice A1 m.codes.length c1) (.slice A2 m.wishes.length c2) (.slice A3 m.filters.length c3)))] w') ?_ ?_
      · skip
        cases v46 with
        | false =>
          refine H15.offs 3 rfl ?_
          intro a16 H16
          refine H16.pick gz rfl rfl rfl rfl rfl ?_
          intro a17 H17
          refine H17.ms 1 fun a18 H18 => ?_
          exact nt ⟨_, by rw [q46] <;> rfl, H18.keep ⟨rfl, rfl, rfl, trivial⟩, O6⟩
        | true =>
          refine H15.field (H15.wt rfl rfl rfl) rfl rfl rfl rfl field_4 ?_
          intro a16 H16
          refine H16.load (H16.wt rfl rfl rfl) rfl rfl rfl rfl (load_will _ _ _ _ _ _ _ _ (O6.get 1 rfl) rfl rfl rfl rfl rfl) ?_
          intro a17 H17
          refine H17.call (H17.wt rfl rfl rfl) rfl rfl rfl rfl (fun _ _ => by kernel_rfl) (belowC (refWillV m.won m.wt m.wp m.wq m.wr hF.wt _ (hW.below O6.bel))) ?_
          rintro a18 _ w7 ⟨rfl, hb⟩ H18
          have O7 := O6.call hb
          clear hb
          refine H18.pick gz rfl rfl rfl rfl rfl ?_
          intro a19 H19
          refine H19.ms 1 fun a20 H20 => ?_
          exact nt ⟨_, by rw [q46] <;> rfl, H20.keep ⟨rfl, rfl, rfl, trivial⟩, O7⟩
      rintro a16 w7 ⟨v51, q51, H16, O7⟩
      refine wpList_cut 5 (fun a' w' => ∃ b, (((textOk m.client 0 23 && inRB m.keep 0 65535) && willB2 m.won m.wt m.wp m.wq m.wr) && textOk m.user 0 64) = b ∧ Has a' 289 [(1, .pointer (some ⟨w.heap.size, 0, none⟩)), (3, .pointer (some ⟨w1.heap.size, 0, none⟩)), (56, .bool b)] ∧ Own w w.heap.size [(w1.heap.size, (mqCells (onlyOf m) nilV nilV nilV)), (w.heap.size, (mqCells m (.slice A1 m.codes.length c1) (.slice A2 m.wishes.length c2) (.slice A3 m.filters.length c3)))] w') ?_ ?_
      · skip
        cases v51 with
        | false =>
          refine H16.offs 3 rfl ?_
          intro a17 H17
          refine H17.pick gz rfl rfl rfl rfl rfl ?_
          intro a18 H18
          refine H18.ms 1 fun a19 H19 => ?_
          exact nt ⟨_, by rw [q51] <;> rfl, H19.keep ⟨rfl, rfl, rfl, trivial⟩, O7⟩
        | true =>
          refine H16.field (H16.wt rfl rfl rfl) rfl rfl rfl rfl field_5 ?_
          intro a17 H17
          refine H17.load (H17.wt rfl rfl rfl) rfl rfl rfl rfl (load1_s _ _ _ _ ((O7.get 1 rfl).get 9 _ rfl)) ?_
          intro a18 H18
          refine H18.call (H18.wt rfl rfl rfl) rfl rfl rfl rfl (fun _ _ => by kernel_rfl) (belowC (refTextV m.user hF.user 0 64 _ (hW.below O7.bel))) ?_
          rintro a19 _ w8 ⟨rfl, hb⟩ H19
          have O8 := O7.call hb
          clear hb
          refine H19.pick gz rfl rfl rfl rfl rfl ?_
          intro a20 H20
          refine H20.ms 1 fun a21 H21 => ?_
          exact nt ⟨_, by rw [q51] <;> rfl, H21.keep ⟨rfl, rfl, rfl, trivial⟩, O8⟩
      rintro a17 w8 ⟨v56, q56, H17, O8⟩
      refine wpList_cut 14 (fun a' w' => ∃ b, ((((textOk m.client 0 23 && inRB m.keep 0 65535) && willB2 m.won m.wt m.wp m.wq m.wr) && textOk m.user 0 64) && (m.hu || (emp m.user && !m.hp))) = b ∧ Has a' 289 [(1, .pointer (some ⟨w.heap.size, 0, none⟩)), (3, .pointer (some ⟨w1.heap.size, 0, none⟩)), (70, .bool b)] ∧ Own w w.heap.size [(w1.heap.size, (mqCells (onlyOf m) nilV nilV nilV)), (w.heap.size, (mqCells m (.slice A1 m.codes.length c1) (.slice A2 m.wishes.length c2) (.slice A3 m.filters.length c3)))] w') ?_ ?_
      · skip
        cases v56 with
        | false =>
          refine H17.offs 12 rfl ?_
          intro a18 H18
          refine H18.pick gz rfl rfl rfl rfl rfl ?_
          intro a19 H19
          refine H19.ms 1 fun a20 H20 => ?_
          exact nt ⟨_, by rw [q56] <;> rfl, H20.keep ⟨rfl, rfl, rfl, trivial⟩, O8⟩
        | true =>
          refine H17.field (H17.wt rfl rfl rfl) rfl rfl rfl rfl field_6 ?_
          intro a18 H18
          refine H18.load (H18.wt rfl rfl rfl) rfl rfl rfl rfl (load1_b _ _ _ _ ((O8.get 1 rfl).get 10 _ rfl)) ?_
          intro a19 H19
          refine H19.move (H19.wt rfl rfl rfl) (.inl rfl) rfl rfl rfl ?_
          intro a20 H20
          obtain ⟨v59, q59⟩ : ∃ b, m.hu = b := ⟨_, rfl⟩
          rw [q59] at H20
          cases v59 with
          | false =>
            refine H20.field (H20.wt rfl rfl rfl) rfl rfl rfl rfl field_5 ?_
            intro a21 H21
            refine H21.load (H21.wt rfl rfl rfl) rfl rfl rfl rfl (load1_s _ _ _ _ ((O8.get 1 rfl).get 9 _ rfl)) ?_
            intro a22 H22
            refine H22.bin (H22.wt rfl rfl rfl) rfl rfl rfl rfl rfl (eql_e _ _ _ _) ?_
            intro a23 H23
            refine H23.move (H23.wt rfl rfl rfl) (.inl rfl) rfl rfl rfl ?_
            intro a24 H24
            obtain ⟨v63, q63⟩ : ∃ b, emp m.user = b := ⟨_, rfl⟩
            rw [q63] at H24
            cases v63 with
            | false =>
              refine H24.offs 3 rfl ?_
              intro a25 H25
              refine H25.pick (H25.wt rfl rfl rfl) rfl rfl rfl rfl rfl ?_
              intro a26 H26
              refine H26.pick (H26.wt rfl rfl rfl) rfl rfl rfl rfl rfl ?_
              intro a27 H27
              refine H27.pick gz rfl rfl rfl rfl rfl ?_
              intro a28 H28
              refine H28.ms 1 fun a29 H29 => ?_
              exact nt ⟨_, by rw [q56, q59, q63] <;> rfl, H29.keep ⟨rfl, rfl, rfl, trivial⟩, O8⟩
            | true =>
              refine H24.field (H24.wt rfl rfl rfl) rfl rfl rfl rfl field_8 ?_
              intro a25 H25
              refine H25.load (H25.wt rfl rfl rfl) rfl rfl rfl rfl (load1_b _ _ _ _ ((O8.get 1 rfl).get 12 _ rfl)) ?_
              intro a26 H26
              refine H26.un (H26.wt rfl rfl rfl) rfl rfl rfl rfl rfl ?_
              intro a27 H27
              refine H27.pick (H27.wt rfl rfl rfl) rfl rfl rfl rfl rfl ?_
              intro a28 H28
              refine H28.pick (H28.wt rfl rfl rfl) rfl rfl rfl rfl rfl ?_
              intro a29 H29
              refine H29.pick gz rfl rfl rfl rfl rfl ?_
              intro a30 H30
              refine H30.ms 1 fun a31 H31 => ?_
              exact nt ⟨_, by rw [q56, q59, q63] <;> rfl, H31.keep ⟨rfl, rfl, rfl, trivial⟩, O8⟩
          | true =>
            refine H20.offs 8 rfl ?_
            intro a21 H21
            refine H21.pick (H21.wt rfl rfl rfl) rfl rfl rfl rfl rfl ?_
            intro a22 H22
            refine H22.pick gz rfl rfl rfl rfl rfl ?_
            intro a23 H23
            refine H23.ms 1 fun a24 H24 => ?_
            exact nt ⟨_, by rw [q56, q59] <;> rfl, H24.keep ⟨rfl, rfl, rfl, trivial⟩, O8⟩
      rintro a18 w9 ⟨v70, q70, H18, O9⟩
      refine wpList_cut 6 (fun a' w' => ∃ b, (((((textOk m.client 0 23 && inRB m.keep 0 65535) && willB2 m.won m.wt m.wp m.wq m.wr) && textOk m.user 0 64) && (m.hu || (emp m.user && !m.hp))) && decide ((m.pass.size : Int) ≤ 64)) = b ∧ Has a' 289 [(1, .pointer (some ⟨w.heap.size, 0, none⟩)), (3, .pointer (some ⟨w1.heap.size, 0, none⟩)), (76, .bool b)] ∧ Own w w.heap.size [(w1.heap.size, (mqCells (onlyOf m) nilV nilV nilV)), (w.heap.size, (mqCells m (.slice A1 m.codes.length c1) (.slice A2 m.wishes.length c2) (.slice A3 m.filters.length c3)))] w') ?_ ?_
      · skip
        cases v70 with
        | false =>
          refine H18.offs 4 rfl ?_
          intro a19 H19
          refine H19.pick gz rfl rfl rfl rfl rfl ?_
          intro a20 H20
          refine H20.ms 1 fun a21 H21 => ?_
          exact nt ⟨_, by rw [q70] <;> rfl, H21.keep ⟨rfl, rfl, rfl, trivial⟩, O9⟩
        | true =>
          refine H18.field (H18.wt rfl rfl rfl) rfl rfl rfl rfl field_7 ?_
          intro a19 H19
          refine H19.load (H19.wt rfl rfl rfl) rfl rfl rfl rfl (load1_s _ _ _ _ ((O9.get 1 rfl).get 11 _ rfl)) ?_
          intro a20 H20
          refine H20.lenS (H20.wt rfl rfl rfl) rfl rfl rfl rfl Tryd.underlying9 ?_
          intro a21 H21
          refine H21.bin (H21.wt rfl rfl rfl) rfl rfl rfl rfl rfl (leq_i _ _ _ rfl _ _ _) ?_
          intro a22 H22
          refine H22.pick gz rfl rfl rfl rfl rfl ?_
          intro a23 H23
          refine H23.ms 1 fun a24 H24 => ?_
          exact nt ⟨_, by rw [q70] <;> rfl, H24.keep ⟨rfl, rfl, rfl, trivial⟩, O9⟩
      rintro a19 w10 ⟨v76, q76, H19, O10⟩
      refine wpList_cut 8 (fun a' w' => ∃ b, ((((((textOk m.client 0 23 && inRB m.keep 0 65535) && willB2 m.won m.wt m.wp m.wq m.wr) && textOk m.user 0 64) && (m.hu || (emp m.user && !m.hp))) && decide ((m.pass.size : Int) ≤ 64)) && (m.hp || emp m.pass)) = b ∧ Has a' 289 [(1, .pointer (some ⟨w.heap.size, 0, none⟩)), (3, .pointer (some ⟨w1.heap.size, 0, none⟩)), (84, .bool b)] ∧ Own w w.heap.size [(w1.heap.size, (mqCells (onlyOf m) nilV nilV nilV)), (w.heap.size, (mqCells m (.slice A1 m.codes.length c1) (.slice A2 m.wishes.length c2) (.slice A3 m.filters.length c3)))] w') ?_ ?_
      · skip
        cases v76 with
        | false =>
          refine H19.offs 7 rfl ?_
          intro a20 H20
          refine H20.pick gz rfl rfl rfl rfl rfl ?_
          intro a21 H21
          exact nt ⟨_, by rw [q76] <;> rfl, H21.keep ⟨rfl, rfl, rfl, trivial⟩, O10⟩
        | true =>
          refine H19.field (H19.wt rfl rfl rfl) rfl rfl rfl rfl field_8 ?_
          intro a20 H20
          refine H20.load (H20.wt rfl rfl rfl) rfl rfl rfl rfl (load1_b _ _ _ _ ((O10.get 1 rfl).get 12 _ rfl)) ?_
          intro a21 H21
          refine H21.move (H21.wt rfl rfl rfl) (.inl rfl) rfl rfl rfl ?_
          intro a22 H22
          obtain ⟨v79, q79⟩ : ∃ b, m.hp = b := ⟨_, rfl⟩
          rw [q79] at H22
          cases v79 with
          | false =>
            refine H22.field (H22.wt rfl rfl rfl) rfl rfl rfl rfl field_7 ?_
            intro a23 H23
            refine H23.load (H23.wt rfl rfl rfl) rfl rfl rfl rfl (load1_s _ _ _ _ ((O10.get 1 rfl).get 11 _ rfl)) ?_
            intro a24 H24
            refine H24.bin (H24.wt rfl rfl rfl) rfl rfl rfl rfl rfl (eql_e _ _ _ _) ?_
            intro a25 H25
            refine H25.pick (H25.wt rfl rfl rfl) rfl rfl rfl rfl rfl ?_
            intro a26 H26
            refine H26.pick gz rfl rfl rfl rfl rfl ?_
            intro a27 H27
            exact nt ⟨_, by rw [q76, q79] <;> rfl, H27.keep ⟨rfl, rfl, rfl, trivial⟩, O10⟩
          | true =>
            refine H22.offs 3 rfl ?_
            intro a23 H23
            refine H23.pick (H23.wt rfl rfl rfl) rfl rfl rfl rfl rfl ?_
            intro a24 H24
            refine H24.pick gz rfl rfl rfl rfl rfl ?_
            intro a25 H25
            exact nt ⟨_, by rw [q76, q79] <;> rfl, H25.keep ⟨rfl, rfl, rfl, trivial⟩, O10⟩
      rintro a20 w11 ⟨v84, q84, H20, O11⟩
      refine H20.ms 1 fun a21 H21 => ?_
      refine wpList_nil ?_
      refine block_normal ?_
      refine then_normal ?_
      exact ⟨nilV, nilV, nilV, (by rw [hq, show connectOk m = v84 from (conn7 _ _ _ _ _ _ _).symm.trans q84]; exact H21.keep ⟨rfl, rfl, rfl, trivial⟩), MqL.nil (by rw [ho] <;> rfl) (by rw [ho] <;> rfl) (by rw [ho] <;> rfl), O11⟩
    | false =>
      have k1 : ¬ m.kind = 1 := by simpa using h1
      refine rl ?_
      refine H10.bn 1 (eql_iB _ _ _ h1 _ _ _) fun a12 H12 => nt ?_
      refine H12.condF rfl ?_
      obtain ⟨b2, h2⟩ : ∃ b, (m.kind == 2) = b := ⟨_, rfl⟩
      cases b2 with
      | true =>
        have k2 : m.kind = 2 := by simpa using h2
        refine rl ?_
        refine H12.bn 1 (eql_iB _ _ _ h2 _ _ _) fun a14 H14 => nt ?_
        refine H14.condT rfl ?_
        have ho : onlyOf m = { mq0 m.kind with present := m.present, code := m.code } := by unfold onlyOf; rw [if_neg k1, if_pos k2]
        have hq : okOf m = (inRB m.code 0 5 && (!m.present || m.code == 0)) := by unfold okOf; rw [if_neg k1, if_pos k2]
        repeat (refine wp_seq ?_)
        refine H14.ds O3 0 [1, 3, 4] rfl [ec 0 87 (.pointer (some ⟨w.heap.size, 13, none⟩)), ec 1 88 (.bool m.present), ec 2 89 (.pointer (some ⟨w.heap.size, 14, none⟩)), ec 3 90 (.int .i64 m.code), ec 4 91 (.pointer (some ⟨w1.heap.size, 13, none⟩)), ec 6 92 (.pointer (some ⟨w1.heap.size, 14, none⟩))] [⟨7, 14, [(.int .i64 m.code)]⟩, ⟨5, 13, [(.bool m.present)]⟩] rfl rfl ⟨jm, jl fun _ ⟨_, _, h⟩ => load1_b _ _ _ _ ((h.get 1 rfl).get 13 _ rfl), jm, jl fun _ ⟨_, _, h⟩ => load1_i _ _ _ _ ((h.get 1 rfl).get 14 _ rfl), jm, jm, trivial⟩ ⟨q1 fun _ u h f => store1_i _ _ _ u _ h f, q1 fun _ u h f => store1_b _ _ _ u _ h f, trivial⟩ ?_
        intro a15 w4 H15 O4
        have O4 : Own w w.heap.size [(w1.heap.size, (mqCells (onlyOf m) nilV nilV nilV)), (w.heap.size, (mqCells m (.slice A1 m.codes.length c1) (.slice A2 m.wishes.length c2) (.slice A3 m.filters.length c3)))] w4 := by rw [ho]; exact O4
        refine then_normal ?_
        refine rl ?_
        refine wpList_cut 4 (fun a' w' => ∃ b, inRB m.code 0 5 = b ∧ Has a' 289 [(1, .pointer (some ⟨w.heap.size, 0, none⟩)), (3, .pointer (some ⟨w1.heap.size, 0, none⟩)), (96, .bool b)] ∧ Own w w.heap.size [(w1.heap.size, (mqCells (onlyOf m) nilV nilV nilV)), (w.heap.size, (mqCells m (.slice A1 m.codes.length c1) (.slice A2 m.wishes.length c2) (.slice A3 m.filters.length c3)))] w') ?_ ?_
        · skip
          refine H15.ms 1 fun a16 H16 => ?_
          refine H16.ld 0 (O4.li 1 14) fun a17 H17 => ?_
          refine H17.cq 1 (refNumB m.code 5 _) fun a19 H19 => ?_
          exact nt ⟨_, by rfl, H19.keep ⟨rfl, rfl, rfl, trivial⟩, O4⟩
        rintro a16 w5 ⟨v96, q96, H16, O5⟩
        refine wpList_cut 9 (fun a' w' => ∃ b, (inRB m.code 0 5 && ((m.code == 0) || !m.present)) = b ∧ Has a' 289 [(1, .pointer (some ⟨w.heap.size, 0, none⟩)), (3, .pointer (some ⟨w1.heap.size, 0, none⟩)), (105, .bool b)] ∧ Own w w.heap.size [(w1.heap.size, (mqCells (onlyOf m) nilV nilV nilV)), (w.heap.size, (mqCells m (.slice A1 m.codes.length c1) (.slice A2 m.wishes.length c2) (.slice A3 m.filters.length c3)))] w') ?_ ?_
        · skip
          cases v96 with
          | false =>
            refine H16.offs 8 rfl ?_
            intro a17 H17
            refine H17.pick gz rfl rfl rfl rfl rfl ?_
            intro a18 H18
            exact nt ⟨_, by rw [q96] <;> rfl, H18.keep ⟨rfl, rfl, rfl, trivial⟩, O5⟩
          | true =>
            refine H16.field (H16.wt rfl rfl rfl) rfl rfl rfl rfl field_10 ?_
            intro a17 H17
            refine H17.load (H17.wt rfl rfl rfl) rfl rfl rfl rfl (load1_i _ _ _ _ ((O5.get 1 rfl).get 14 _ rfl)) ?_
            intro a18 H18
            refine H18.bin (H18.wt rfl rfl rfl) rfl rfl rfl rfl rfl (eql_i _ _ _ _ _) ?_
            intro a19 H19
            refine H19.move (H19.wt rfl rfl rfl) (.inl rfl) rfl rfl rfl ?_
            intro a20 H20
            obtain ⟨v100, q100⟩ : ∃ b, (m.code == 0) = b := ⟨_, rfl⟩
            rw [q100] at H20
            cases v100 with
            | false =>
              refine H20.field (H20.wt rfl rfl rfl) rfl rfl rfl rfl field_9 ?_
              intro a21 H21
              refine H21.load (H21.wt rfl rfl rfl) rfl rfl rfl rfl (load1_b _ _ _ _ ((O5.get 1 rfl).get 13 _ rfl)) ?_
              intro a22 H22
              refine H22.un (H22.wt rfl rfl rfl) rfl rfl rfl rfl rfl ?_
              intro a23 H23
              refine H23.pick (H23.wt rfl rfl rfl) rfl rfl rfl rfl rfl ?_
              intro a24 H24
              refine H24.pick gz rfl rfl rfl rfl rfl ?_
              intro a25 H25
              exact nt ⟨_, by rw [q96, q100] <;> rfl, H25.keep ⟨rfl, rfl, rfl, trivial⟩, O5⟩
            | true =>
              refine H20.offs 3 rfl ?_
              intro a21 H21
              refine H21.pick (H21.wt rfl rfl rfl) rfl rfl rfl rfl rfl ?_
              intro a22 H22
              refine H22.pick gz rfl rfl rfl rfl rfl ?_
              intro a23 H23
              exact nt ⟨_, by rw [q96, q100] <;> rfl, H23.keep ⟨rfl, rfl, rfl, trivial⟩, O5⟩
        rintro a17 w6 ⟨v105, q105, H17, O6⟩
        refine H17.ms 1 fun a18 H18 => ?_
        refine wpList_nil ?_
        refine block_normal ?_
        refine then_normal ?_
        exact ⟨nilV, nilV, nilV, (by rw [hq, show (inRB m.code 0 5 && (!m.present || m.code == 0)) = v105 from (by rw [Bool.or_comm (!m.present)]; exact q105)]; exact H18.keep ⟨rfl, rfl, rfl, trivial⟩), MqL.nil (by rw [ho] <;> rfl) (by rw [ho] <;> rfl) (by rw [ho] <;> rfl), O6⟩
      | false =>
        have k2 : ¬ m.kind = 2 := by simpa using h2
        refine rl ?_
        refine H12.bn 1 (eql_iB _ _ _ h2 _ _ _) fun a14 H14 => nt ?_
        refine H14.condF rfl ?_
        obtain ⟨b3, h3⟩ : ∃ b, (m.kind == 3) = b := ⟨_, rfl⟩
        cases b3 with
        | true =>
          have k3 : m.kind = 3 := by simpa using h3
          refine rl ?_
          refine H14.bn 1 (eql_iB _ _ _ h3 _ _ _) fun a16 H16 => nt ?_
          refine H16.condT rfl ?_
          have ho : onlyOf m = { mq0 m.kind with topic := m.topic, qos := m.qos, dup := m.dup, retain := m.retain, id := m.id, payload := m.payload } := by unfold onlyOf; rw [if_neg k1, if_neg k2, if_pos k3]
          have hq : okOf m = publishOk m := by unfold okOf; rw [if_neg k1, if_neg k2, if_pos k3]
          repeat (refine wp_seq ?_)
          refine H16.ds O3 0 [1, 3, 4] rfl [ec 0 108 (.pointer (some ⟨w.heap.size, 19, none⟩)), ec 1 109 (.string m.topic), ec 2 110 (.pointer (some ⟨w.heap.size, 17, none⟩)), ec 3 111 (.int .i64 m.qos), ec 4 112 (.pointer (some ⟨w.heap.size, 16, none⟩)), ec 5 113 (.bool m.dup), ec 6 114 (.pointer (some ⟨w.heap.size, 18, none⟩)), ec 7 115 (.bool m.retain), ec 8 116 (.pointer (some ⟨w.heap.size, 20, none⟩)), ec 9 117 (.int .i64 m.id), ec 10 118 (.pointer (some ⟨w.heap.size, 21, none⟩)), ec 11 119 (.string m.payload), ec 12 120 (.pointer (some ⟨w1.heap.size, 19, none⟩)), ec 14 121 (.pointer (some ⟨w1.heap.size, 17, none⟩)), ec 16 122 (.pointer (some ⟨w1.heap.size, 16, none⟩)), ec 18 123 (.pointer (some ⟨w1.heap.size, 18, none⟩)), ec 20 124 (.pointer (some ⟨w1.heap.size, 20, none⟩)), ec 22 125 (.pointer (some ⟨w1.heap.size, 21, none⟩))] [⟨23, 21, [(.string m.payload)]⟩, ⟨21, 20, [(.int .i64 m.id)]⟩, ⟨19, 18, [(.bool m.retain)]⟩, ⟨17, 16, [(.bool m.dup)]⟩, ⟨15, 17, [(.int .i64 m.qos)]⟩, ⟨13, 19, [(.string m.topic)]⟩] rfl rfl ⟨jm, jl fun _ ⟨_, _, h⟩ => load1_s _ _ _ _ ((h.get 1 rfl).get 19 _ rfl), jm, jl fun _ ⟨_, _, h⟩ => load1_i _ _ _ _ ((h.get 1 rfl).get 17 _ rfl), jm, jl fun _ ⟨_, _, h⟩ => load1_b _ _ _ _ ((h.get 1 rfl).get 16 _ rfl), jm, jl fun _ ⟨_, _, h⟩ => load1_b _ _ _ _ ((h.get 1 rfl).get 18 _ rfl), jm, jl fun _ ⟨_, _, h⟩ => load1_i _ _ _ _ ((h.get 1 rfl).get 20 _ rfl), jm, jl fun _ ⟨_, _, h⟩ => load1_s _ _ _ _ ((h.get 1 rfl).get 21 _ rfl), jm, jm, jm, jm, jm, jm, trivial⟩ ⟨q1 fun _ u h f => store1_s _ _ _ u _ h f, q1 fun _ u h f => store1_i _ _ _ u _ h f, q1 fun _ u h f => store1_b _ _ _ u _ h f, q1 fun _ u h f => store1_b _ _ _ u _ h f, q1 fun _ u h f => store1_i _ _ _ u _ h f, q1 fun _ u h f => store1_s _ _ _ u _ h f, trivial⟩ ?_
          intro a17 w4 H17 O4
          have O4 : Own w w.heap.size [(w1.heap.size, (mqCells (onlyOf m) nilV nilV nilV)), (w.heap.size, (mqCells m (.slice A1 m.codes.length c1) (.slice A2 m.wishes.length c2) (.slice A3 m.filters.length c3)))] w4 := by rw [ho]; exact O4
          refine then_normal ?_
          refine rl ?_
          refine wpList_cut 4 (fun a' w' => ∃ b, textOk m.topic 1 64 = b ∧ Has a' 289 [(1, .pointer (some ⟨w.heap.size, 0, none⟩)), (3, .pointer (some ⟨w1.heap.size, 0, none⟩)), (129, .bool b)] ∧ Own w w.heap.size [(w1.heap.size, (mqCells (onlyOf m) nilV nilV nilV)), (w.heap.size, (mqCells m (.slice A1 m.codes.length c1) (.slice A2 m.wishes.length c2) (.slice A3 m.filters.length c3)))] w') ?_ ?_
          · skip
            refine H17.ms 1 fun a18 H18 => ?_
            refine H18.ld 0 (O4.ls 1 19) fun a19 H19 => ?_
            refine H19.cl (belowC (refTextV m.topic hF.topic 1 64 _ (hW.below O4.bel))) ?_
            rintro a20 _ w5 ⟨rfl, hb⟩ H20
            have O5 := O4.call hb
            clear hb
            refine H20.ms 1 fun a21 H21 => ?_
            exact nt ⟨_, by rfl, H21.keep ⟨rfl, rfl, rfl, trivial⟩, O5⟩
          rintro a18 w5 ⟨v129, q129, H18, O5⟩
          refine wpList_cut 5 (fun a' w' => ∃ b, (textOk m.topic 1 64 && plainOf (sb m.topic)) = b ∧ Has a' 289 [(1, .pointer (some ⟨w.heap.size, 0, none⟩)), (3, .pointer (some ⟨w1.heap.size, 0, none⟩)), (134, .bool b)] ∧ Own w w.heap.size [(w1.heap.size, (mqCells (onlyOf m) nilV nilV nilV)), (w.heap.size, (mqCells m (.slice A1 m.codes.length c1) (.slice A2 m.wishes.length c2) (.slice A3 m.filters.length c3)))] w') ?_ ?_
          · skip
            cases v129 with
            | false =>
              refine H18.offs 3 rfl ?_
              intro a19 H19
              refine H19.pick gz rfl rfl rfl rfl rfl ?_
              intro a20 H20
              refine H20.ms 1 fun a21 H21 => ?_
              exact nt ⟨_, by rw [q129] <;> rfl, H21.keep ⟨rfl, rfl, rfl, trivial⟩, O5⟩
            | true =>
              refine H18.field (H18.wt rfl rfl rfl) rfl rfl rfl rfl field_15 ?_
              intro a19 H19
              refine H19.load (H19.wt rfl rfl rfl) rfl rfl rfl rfl (load1_s _ _ _ _ ((O5.get 1 rfl).get 19 _ rfl)) ?_
              intro a20 H20
              refine H20.call (H20.wt rfl rfl rfl) rfl rfl rfl rfl (fun _ _ => by kernel_rfl) (quietC (refPlain m.topic hF.topic _)) ?_
              rintro a21 _ _ ⟨rfl, rfl⟩ H21
              refine H21.pick gz rfl rfl rfl rfl rfl ?_
              intro a22 H22
              refine H22.ms 1 fun a23 H23 => ?_
              exact nt ⟨_, by rw [q129] <;> rfl, H23.keep ⟨rfl, rfl, rfl, trivial⟩, O5⟩
          rintro a19 w6 ⟨v134, q134, H19, O6⟩
          refine wpList_cut 5 (fun a' w' => ∃ b, ((textOk m.topic 1 64 && plainOf (sb m.topic)) && inRB m.qos 0 2) = b ∧ Has a' 289 [(1, .pointer (some ⟨w.heap.size, 0, none⟩)), (3, .pointer (some ⟨w1.heap.size, 0, none⟩)), (139, .bool b)] ∧ Own w w.heap.size [(w1.heap.size, (mqCells (onlyOf m) nilV nilV nilV)), (w.heap.size, (mqCells m (.slice A1 m.codes.length c1) (.slice A2 m.wishes.length c2) (.slice A3 m.filters.length c3)))] w') ?_ ?_
          · skip
            cases v134 with
            | false =>
              refine H19.offs 3 rfl ?_
              intro a20 H20
              refine H20.pick gz rfl rfl rfl rfl rfl ?_
              intro a21 H21
              refine H21.ms 1 fun a22 H22 => ?_
              exact nt ⟨_, by rw [q134] <;> rfl, H22.keep ⟨rfl, rfl, rfl, trivial⟩, O6⟩
            | true =>
              refine H19.field (H19.wt rfl rfl rfl) rfl rfl rfl rfl field_13 ?_
              intro a20 H20
              refine H20.load (H20.wt rfl rfl rfl) rfl rfl rfl rfl (load1_i _ _ _ _ ((O6.get 1 rfl).get 17 _ rfl)) ?_
              intro a21 H21
              refine H21.call (H21.wt rfl rfl rfl) rfl rfl rfl rfl (fun _ _ => by kernel_rfl) (quietC (refNumB m.qos 2 _)) ?_
              rintro a22 _ _ ⟨rfl, rfl⟩ H22
              refine H22.pick gz rfl rfl rfl rfl rfl ?_
              intro a23 H23
              refine H23.ms 1 fun a24 H24 => ?_
              exact nt ⟨_, by rw [q134] <;> rfl, H24.keep ⟨rfl, rfl, rfl, trivial⟩, O6⟩
          rintro a20 w7 ⟨v139, q139, H20, O7⟩
          refine wpList_cut 5 (fun a' w' => ∃ b, (((textOk m.topic 1 64 && plainOf (sb m.topic)) && inRB m.qos 0 2) && decide ((m.payload.size : Int) ≤ 128)) = b ∧ Has a' 289 [(1, .pointer (some ⟨w.heap.size, 0, none⟩)), (3, .pointer (some ⟨w1.heap.size, 0, none⟩)), (144, .bool b)] ∧ Own w w.heap.size [(w1.heap.size, (mqCells (onlyOf m) nilV nilV nilV)), (w.heap.size, (mqCells m (.slice A1 m.codes.length c1) (.slice A2 m.wishes.length c2) (.slice A3 m.filters.length c3)))] w') ?_ ?_
          · skip
            cases v139 with
            | false =>
              refine H20.offs 4 rfl ?_
              intro a21 H21
              refine H21.pick gz rfl rfl rfl rfl rfl ?_
              intro a22 H22
              exact nt ⟨_, by rw [q139] <;> rfl, H22.keep ⟨rfl, rfl, rfl, trivial⟩, O7⟩
            | true =>
              refine H20.field (H20.wt rfl rfl rfl) rfl rfl rfl rfl field_17 ?_
              intro a21 H21
              refine H21.load (H21.wt rfl rfl rfl) rfl rfl rfl rfl (load1_s _ _ _ _ ((O7.get 1 rfl).get 21 _ rfl)) ?_
              intro a22 H22
              refine H22.lenS (H22.wt rfl rfl rfl) rfl rfl rfl rfl Tryd.underlying9 ?_
              intro a23 H23
              refine H23.bin (H23.wt rfl rfl rfl) rfl rfl rfl rfl rfl (leq_i _ _ _ rfl _ _ _) ?_
              intro a24 H24
              refine H24.pick gz rfl rfl rfl rfl rfl ?_
              intro a25 H25
              exact nt ⟨_, by rw [q139] <;> rfl, H25.keep ⟨rfl, rfl, rfl, trivial⟩, O7⟩
          rintro a21 w8 ⟨v144, q144, H21, O8⟩
          refine H21.ms 1 fun a22 H22 => nt ?_
          obtain ⟨bq0, hq0⟩ : ∃ b, (m.qos == 0) = b := ⟨_, rfl⟩
          cases bq0 with
          | true =>
            refine H22.rg 1 fun a23 H23 => ?_
            refine H23.ld 0 (O8.li 1 17) fun a24 H24 => ?_
            refine H24.bn 0 (eql_iB _ _ _ hq0 _ _ _) fun a25 H25 => nt ?_
            refine H25.condT rfl ?_
            refine rl ?_
            refine wpList_cut 7 (fun a' w' => ∃ b, ((((textOk m.topic 1 64 && plainOf (sb m.topic)) && inRB m.qos 0 2) && decide ((m.payload.size : Int) ≤ 128)) && !m.dup) = b ∧ Has a' 289 [(1, .pointer (some ⟨w.heap.size, 0, none⟩)), (3, .pointer (some ⟨w1.heap.size, 0, none⟩)), (154, .bool b)] ∧ Own w w.heap.size [(w1.heap.size, (mqCells (onlyOf m) nilV nilV nilV)), (w.heap.size, (mqCells m (.slice A1 m.codes.length c1) (.slice A2 m.wishes.length c2) (.slice A3 m.filters.length c3)))] w') ?_ ?_
            · skip
              refine H25.ms 2 fun a27 H27 => ?_
              cases v144 with
              | false =>
                refine H27.offs 3 rfl ?_
                intro a28 H28
                refine H28.pick gz rfl rfl rfl rfl rfl ?_
                intro a29 H29
                refine H29.ms 1 fun a30 H30 => ?_
                exact nt ⟨_, by rw [q144] <;> rfl, H30.keep ⟨rfl, rfl, rfl, trivial⟩, O8⟩
              | true =>
                refine H27.field (H27.wt rfl rfl rfl) rfl rfl rfl rfl field_12 ?_
                intro a28 H28
                refine H28.load (H28.wt rfl rfl rfl) rfl rfl rfl rfl (load1_b _ _ _ _ ((O8.get 1 rfl).get 16 _ rfl)) ?_
                intro a29 H29
                refine H29.un (H29.wt rfl rfl rfl) rfl rfl rfl rfl rfl ?_
                intro a30 H30
                refine H30.pick gz rfl rfl rfl rfl rfl ?_
                intro a31 H31
                refine H31.ms 1 fun a32 H32 => ?_
                exact nt ⟨_, by rw [q144] <;> rfl, H32.keep ⟨rfl, rfl, rfl, trivial⟩, O8⟩
            rintro a26 w9 ⟨v154, q154, H26, O9⟩
            refine wpList_cut 4 (fun a' w' => ∃ b, (((((textOk m.topic 1 64 && plainOf (sb m.topic)) && inRB m.qos 0 2) && decide ((m.payload.size : Int) ≤ 128)) && !m.dup) && (m.id == 0)) = b ∧ Has a' 289 [(1, .pointer (some ⟨w.heap.size, 0, none⟩)), (3, .pointer (some ⟨w1.heap.size, 0, none⟩)), (158, .bool b)] ∧ Own w w.heap.size [(w1.heap.size, (mqCells (onlyOf m) nilV nilV nilV)), (w.heap.size, (mqCells m (.slice A1 m.codes.length c1) (.slice A2 m.wishes.length c2) (.slice A3 m.filters.length c3)))] w') ?_ ?_
            · skip
              cases v154 with
              | false =>
                refine H26.offs 3 rfl ?_
                intro a27 H27
                refine H27.pick gz rfl rfl rfl rfl rfl ?_
                intro a28 H28
                exact nt ⟨_, by rw [q154] <;> rfl, H28.keep ⟨rfl, rfl, rfl, trivial⟩, O9⟩
              | true =>
                refine H26.field (H26.wt rfl rfl rfl) rfl rfl rfl rfl field_16 ?_
                intro a27 H27
                refine H27.load (H27.wt rfl rfl rfl) rfl rfl rfl rfl (load1_i _ _ _ _ ((O9.get 1 rfl).get 20 _ rfl)) ?_
                intro a28 H28
                refine H28.bin (H28.wt rfl rfl rfl) rfl rfl rfl rfl rfl (eql_i _ _ _ _ _) ?_
                intro a29 H29
                refine H29.pick gz rfl rfl rfl rfl rfl ?_
                intro a30 H30
                exact nt ⟨_, by rw [q154] <;> rfl, H30.keep ⟨rfl, rfl, rfl, trivial⟩, O9⟩
            rintro a27 w10 ⟨v158, q158, H27, O10⟩
            refine H27.ms 1 fun a28 H28 => ?_
            refine wpList_nil ?_
            refine block_normal ?_
            refine then_normal ?_
            exact ⟨nilV, nilV, nilV, (by rw [hq, show publishOk m = v158 from (pub_zero m hq0).trans q158]; exact H28.keep ⟨rfl, rfl, rfl, trivial⟩), MqL.nil (by rw [ho] <;> rfl) (by rw [ho] <;> rfl) (by rw [ho] <;> rfl), O10⟩
          | false =>
            refine H22.rg 1 fun a23 H23 => ?_
            refine H23.ld 0 (O8.li 1 17) fun a24 H24 => ?_
            refine H24.bn 0 (eql_iB _ _ _ hq0 _ _ _) fun a25 H25 => nt ?_
            refine H25.condF rfl ?_
            refine rl ?_
            refine wpList_cut 6 (fun a' w' => ∃ b, ((((textOk m.topic 1 64 && plainOf (sb m.topic)) && inRB m.qos 0 2) && decide ((m.payload.size : Int) ≤ 128)) && inRB m.id 1 65535) = b ∧ Has a' 289 [(1, .pointer (some ⟨w.heap.size, 0, none⟩)), (3, .pointer (some ⟨w1.heap.size, 0, none⟩)), (164, .bool b)] ∧ Own w w.heap.size [(w1.heap.size, (mqCells (onlyOf m) nilV nilV nilV)), (w.heap.size, (mqCells m (.slice A1 m.codes.length c1) (.slice A2 m.wishes.length c2) (.slice A3 m.filters.length c3)))] w') ?_ ?_
            · skip
              refine H25.ms 2 fun a27 H27 => ?_
              cases v144 with
              | false =>
                refine H27.offs 3 rfl ?_
                intro a28 H28
                refine H28.pick gz rfl rfl rfl rfl rfl ?_
                intro a29 H29
                exact nt ⟨_, by rw [q144] <;> rfl, H29.keep ⟨rfl, rfl, rfl, trivial⟩, O8⟩
              | true =>
                refine H27.field (H27.wt rfl rfl rfl) rfl rfl rfl rfl field_16 ?_
                intro a28 H28
                refine H28.load (H28.wt rfl rfl rfl) rfl rfl rfl rfl (load1_i _ _ _ _ ((O8.get 1 rfl).get 20 _ rfl)) ?_
                intro a29 H29
                refine H29.call (H29.wt rfl rfl rfl) rfl rfl rfl rfl (fun _ _ => by kernel_rfl) (quietC (refId m.id _)) ?_
                rintro a30 _ _ ⟨rfl, rfl⟩ H30
                refine H30.pick gz rfl rfl rfl rfl rfl ?_
                intro a31 H31
                exact nt ⟨_, by rw [q144] <;> rfl, H31.keep ⟨rfl, rfl, rfl, trivial⟩, O8⟩
            rintro a26 w9 ⟨v164, q164, H26, O9⟩
            refine H26.ms 1 fun a27 H27 => ?_
            refine wpList_nil ?_
            refine block_normal ?_
            refine then_normal ?_
            exact ⟨nilV, nilV, nilV, (by rw [hq, show publishOk m = v164 from (pub_more m hq0).trans q164]; exact H27.keep ⟨rfl, rfl, rfl, trivial⟩), MqL.nil (by rw [ho] <;> rfl) (by rw [ho] <;> rfl) (by rw [ho] <;> rfl), O9⟩
        | false =>
          have k3 : ¬ m.kind = 3 := by simpa using h3
          refine rl ?_
          refine H14.bn 1 (eql_iB _ _ _ h3 _ _ _) fun a16 H16 => nt ?_
          refine H16.condF rfl ?_
          refine wp_seq_join (fun a w' => ∃ b, idKind m.kind = b ∧ Has a 289 [(1, .pointer (some ⟨w.heap.size, 0, none⟩)), (3, .pointer (some ⟨w1.heap.size, 0, none⟩)), (4, .bool true), (11, .int .i64 m.kind), (165, .bool b)] ∧ Own w w.heap.size [(w1.heap.size, (mqCells (mq0 m.kind) nilV nilV nilV)), (w.heap.size, (mqCells m (.slice A1 m.codes.length c1) (.slice A2 m.wishes.length c2) (.slice A3 m.filters.length c3)))] w') ?_ ?_
          · skip
            obtain ⟨b4, h4⟩ : ∃ b, (m.kind == 4) = b := ⟨_, rfl⟩
            cases b4 with
            | true =>
              refine rl ?_
              refine H16.bn 1 (eql_iB _ _ _ h4 _ _ _) fun a18 H18 => nt ?_
              refine H18.condT rfl ?_
              refine skip_wp ?_
              refine then_normal ?_
              exact ⟨_, (by unfold idKind; rw [h4] <;> rfl), H18.keep ⟨rfl, rfl, rfl, rfl, rfl, trivial⟩, O3⟩
            | false =>
              refine rl ?_
              refine H16.bn 1 (eql_iB _ _ _ h4 _ _ _) fun a18 H18 => nt ?_
              refine H18.condF rfl ?_
              obtain ⟨b5, h5⟩ : ∃ b, (m.kind == 5) = b := ⟨_, rfl⟩
              cases b5 with
              | true =>
                refine rl ?_
                refine H18.bn 1 (eql_iB _ _ _ h5 _ _ _) fun a20 H20 => nt ?_
                refine H20.condT rfl ?_
                refine skip_wp ?_
                refine then_normal ?_
                exact ⟨_, (by unfold idKind; rw [h4, h5] <;> rfl), H20.keep ⟨rfl, rfl, rfl, rfl, rfl, trivial⟩, O3⟩
              | false =>
                refine rl ?_
                refine H18.bn 1 (eql_iB _ _ _ h5 _ _ _) fun a20 H20 => nt ?_
                refine H20.condF rfl ?_
                obtain ⟨b6, h6⟩ : ∃ b, (m.kind == 6) = b := ⟨_, rfl⟩
                cases b6 with
                | true =>
                  refine rl ?_
                  refine H20.bn 1 (eql_iB _ _ _ h6 _ _ _) fun a22 H22 => nt ?_
                  refine H22.condT rfl ?_
                  refine skip_wp ?_
                  refine then_normal ?_
                  exact ⟨_, (by unfold idKind; rw [h4, h5, h6] <;> rfl), H22.keep ⟨rfl, rfl, rfl, rfl, rfl, trivial⟩, O3⟩
                | false =>
                  refine rl ?_
                  refine H20.bn 1 (eql_iB _ _ _ h6 _ _ _) fun a22 H22 => nt ?_
                  refine H22.condF rfl ?_
                  obtain ⟨b7, h7⟩ : ∃ b, (m.kind == 7) = b := ⟨_, rfl⟩
                  cases b7 with
                  | true =>
                    refine rl ?_
                    refine H22.bn 1 (eql_iB _ _ _ h7 _ _ _) fun a24 H24 => nt ?_
                    refine H24.condT rfl ?_
                    refine skip_wp ?_
                    refine then_normal ?_
                    exact ⟨_, (by unfold idKind; rw [h4, h5, h6, h7] <;> rfl), H24.keep ⟨rfl, rfl, rfl, rfl, rfl, trivial⟩, O3⟩
                  | false =>
                    refine rl ?_
                    refine H22.bn 1 (eql_iB _ _ _ h7 _ _ _) fun a24 H24 => nt ?_
                    refine H24.condF rfl ?_
                    obtain ⟨b11, h11⟩ : ∃ b, (m.kind == 11) = b := ⟨_, rfl⟩
                    cases b11 with
                    | true =>
                      refine rl ?_
                      refine H24.bn 1 (eql_iB _ _ _ h11 _ _ _) fun a26 H26 => nt ?_
                      exact ⟨_, (by unfold idKind; rw [h4, h5, h6, h7, h11] <;> rfl), H26.keep ⟨rfl, rfl, rfl, rfl, rfl, trivial⟩, O3⟩
                    | false =>
                      refine rl ?_
                      refine H24.bn 1 (eql_iB _ _ _ h11 _ _ _) fun a26 H26 => nt ?_
                      exact ⟨_, (by unfold idKind; rw [h4, h5, h6, h7, h11] <;> rfl), H26.keep ⟨rfl, rfl, rfl, rfl, rfl, trivial⟩, O3⟩
          rintro a17 w4 ⟨v165, q165, H17, O4⟩
          cases v165 with
          | true =>
            have ki : idKind m.kind = true := q165
            refine H17.condT rfl ?_
            have ho : onlyOf m = { mq0 m.kind with id := m.id } := by unfold onlyOf; rw [if_neg k1, if_neg k2, if_neg k3, if_pos ki]
            have hq : okOf m = inRB m.id 1 65535 := by unfold okOf; rw [if_neg k1, if_neg k2, if_neg k3, if_pos ki]
            refine H17.rg 1 fun a18 H18 => ?_
            refine H18.ld 1 (O4.li 1 20) fun a20 H20 => ?_
            refine H20.sc O4 0 0 (fun u h f => store1_i _ _ _ u _ h f) fun a21 w5 O5 H21 => nt ?_
            have O5' : Own w w.heap.size [(w1.heap.size, (mqCells (onlyOf m) nilV nilV nilV)), (w.heap.size, (mqCells m (.slice A1 m.codes.length c1) (.slice A2 m.wishes.length c2) (.slice A3 m.filters.length c3)))] w5 := by rw [ho]; exact O5
            have O5 := O5'
            refine H21.rg 1 fun a22 H22 => ?_
            refine H22.ld 0 (O5.li 1 20) fun a23 H23 => ?_
            refine H23.cq 1 (refId m.id _) fun a25 H25 => ?_
            refine wpList_nil ?_
            refine block_normal ?_
            refine then_normal ?_
            exact ⟨nilV, nilV, nilV, (by rw [hq, show inRB m.id 1 65535 = inRB m.id 1 65535 from rfl]; exact H25.keep ⟨rfl, rfl, rfl, trivial⟩), MqL.nil (by rw [ho] <;> rfl) (by rw [ho] <;> rfl) (by rw [ho] <;> rfl), O5⟩
          | false =>
            have ki : ¬ idKind m.kind = true := by simp [q165]
            refine H17.condF rfl ?_
            obtain ⟨b8, h8⟩ : ∃ b, (m.kind == 8) = b := ⟨_, rfl⟩
            cases b8 with
            | true =>
              have k8 : m.kind = 8 := by simpa using h8
              refine rl ?_
              refine H17.bn 1 (eql_iB _ _ _ h8 _ _ _) fun a19 H19 => nt ?_
              refine H19.condT rfl ?_
              have ho : onlyOf m = { mq0 m.kind with id := m.id, wishes := m.wishes } := by unfold onlyOf; rw [if_neg k1, if_neg k2, if_neg k3, if_neg ki, if_pos k8]
              have hq : okOf m = (inRB m.id 1 65535 && wishesOk m.wishes) := by unfold okOf; rw [if_neg k1, if_neg k2, if_neg k3, if_neg ki, if_pos k8]
              repeat (refine wp_seq ?_)
              refine H19.ds O4 0 [1, 3, 4] rfl [ec 0 179 (.pointer (some ⟨w.heap.size, 20, none⟩)), ec 1 180 (.int .i64 m.id), ec 2 181 (.pointer (some ⟨w.heap.size, 22, none⟩)), ec 3 182 (.slice A2 m.wishes.length c2), ec 4 183 (.pointer (some ⟨w1.heap.size, 20, none⟩)), ec 6 184 (.pointer (some ⟨w1.heap.size, 22, none⟩))] [⟨7, 22, [(.slice A2 m.wishes.length c2)]⟩, ⟨5, 20, [(.int .i64 m.id)]⟩] rfl rfl ⟨jm, jl fun _ ⟨_, _, h⟩ => load1_i _ _ _ _ ((h.get 1 rfl).get 20 _ rfl), jm, jl fun _ ⟨_, _, h⟩ => load1_27 _ _ _ _ _ _ ((h.get 1 rfl).get 22 _ rfl), jm, jm, trivial⟩ ⟨q1 fun _ u h f => store1_27 _ _ _ _ _ u _ h f, q1 fun _ u h f => store1_i _ _ _ u _ h f, trivial⟩ ?_
              intro a20 w5 H20 O5
              have O5 : Own w w.heap.size [(w1.heap.size, (mqCells (onlyOf m) nilV (.slice A2 m.wishes.length c2) nilV)), (w.heap.size, (mqCells m (.slice A1 m.codes.length c1) (.slice A2 m.wishes.length c2) (.slice A3 m.filters.length c3)))] w5 := by rw [ho]; exact O5
              refine then_normal ?_
              refine rl ?_
              refine wpList_cut 4 (fun a' w' => ∃ b, inRB m.id 1 65535 = b ∧ Has a' 289 [(1, .pointer (some ⟨w.heap.size, 0, none⟩)), (3, .pointer (some ⟨w1.heap.size, 0, none⟩)), (188, .bool b)] ∧ Own w w.heap.size [(w1.heap.size, (mqCells (onlyOf m) nilV (.slice A2 m.wishes.length c2) nilV)), (w.heap.size, (mqCells m (.slice A1 m.codes.length c1) (.slice A2 m.wishes.length c2) (.slice A3 m.filters.length c3)))] w') ?_ ?_
              · skip
                refine H20.ms 1 fun a21 H21 => ?_
                refine H21.ld 0 (O5.li 1 20) fun a22 H22 => ?_
                refine H22.cq 1 (refId m.id _) fun a24 H24 => ?_
                exact nt ⟨_, by rfl, H24.keep ⟨rfl, rfl, rfl, trivial⟩, O5⟩
              rintro a21 w6 ⟨v188, q188, H21, O6⟩
              refine wpList_cut 4 (fun a' w' => ∃ b, (inRB m.id 1 65535 && wishesOk m.wishes) = b ∧ Has a' 289 [(1, .pointer (some ⟨w.heap.size, 0, none⟩)), (3, .pointer (some ⟨w1.heap.size, 0, none⟩)), (192, .bool b)] ∧ Own w w.heap.size [(w1.heap.size, (mqCells (onlyOf m) nilV (.slice A2 m.wishes.length c2) nilV)), (w.heap.size, (mqCells m (.slice A1 m.codes.length c1) (.slice A2 m.wishes.length c2) (.slice A3 m.filters.length c3)))] w') ?_ ?_
              · skip
                cases v188 with
                | false =>
                  refine H21.offs 3 rfl ?_
                  intro a22 H22
                  refine H22.pick gz rfl rfl rfl rfl rfl ?_
                  intro a23 H23
                  exact nt ⟨_, by rw [q188] <;> rfl, H23.keep ⟨rfl, rfl, rfl, trivial⟩, O6⟩
                | true =>
                  refine H21.field (H21.wt rfl rfl rfl) rfl rfl rfl rfl field_18 ?_
                  intro a22 H22
                  refine H22.load (H22.wt rfl rfl rfl) rfl rfl rfl rfl (load1_27 _ _ _ _ _ _ ((O6.get 1 rfl).get 22 _ rfl)) ?_
                  intro a23 H23
                  refine H23.call (H23.wt rfl rfl rfl) rfl rfl rfl rfl (fun _ _ => by kernel_rfl) (belowC (refWishes m.wishes _ rfl hF.wishes A2 c2 k2' _ (hW.below O6.bel) (r2.next O6.bel))) ?_
                  rintro a24 _ w7 ⟨rfl, hb⟩ H24
                  have O7 := O6.call hb
                  clear hb
                  refine H24.pick gz rfl rfl rfl rfl rfl ?_
                  intro a25 H25
                  exact nt ⟨_, by rw [q188] <;> rfl, H25.keep ⟨rfl, rfl, rfl, trivial⟩, O7⟩
              rintro a22 w7 ⟨v192, q192, H22, O7⟩
              refine H22.ms 1 fun a23 H23 => ?_
              refine wpList_nil ?_
              refine block_normal ?_
              refine then_normal ?_
              exact ⟨nilV, (.slice A2 m.wishes.length c2), nilV, (by rw [hq, q192]; exact H23.keep ⟨rfl, rfl, rfl, trivial⟩), (hL.next O7.bel).onlyW (by rw [ho] <;> rfl) (by rw [ho] <;> rfl) (by rw [ho] <;> rfl), O7⟩
            | false =>
              have k8 : ¬ m.kind = 8 := by simpa using h8
              refine rl ?_
              refine H17.bn 1 (eql_iB _ _ _ h8 _ _ _) fun a19 H19 => nt ?_
              refine H19.condF rfl ?_
              obtain ⟨b9, h9⟩ : ∃ b, (m.kind == 9) = b := ⟨_, rfl⟩
              cases b9 with
              | true =>
                have k9 : m.kind = 9 := by simpa using h9
                refine rl ?_
                refine H19.bn 1 (eql_iB _ _ _ h9 _ _ _) fun a21 H21 => nt ?_
                refine H21.condT rfl ?_
                have ho : onlyOf m = { mq0 m.kind with id := m.id, codes := m.codes } := by unfold onlyOf; rw [if_neg k1, if_neg k2, if_neg k3, if_neg ki, if_neg k8, if_pos k9]
                have hq : okOf m = (inRB m.id 1 65535 && codesOk m.codes) := by unfold okOf; rw [if_neg k1, if_neg k2, if_neg k3, if_neg ki, if_neg k8, if_pos k9]
                repeat (refine wp_seq ?_)
                refine H21.ds O4 0 [1, 3, 4] rfl [ec 0 195 (.pointer (some ⟨w.heap.size, 20, none⟩)), ec 1 196 (.int .i64 m.id), ec 2 197 (.pointer (some ⟨w.heap.size, 15, none⟩)), ec 3 198 (.slice A1 m.codes.length c1), ec 4 199 (.pointer (some ⟨w1.heap.size, 20, none⟩)), ec 6 200 (.pointer (some ⟨w1.heap.size, 15, none⟩))] [⟨7, 15, [(.slice A1 m.codes.length c1)]⟩, ⟨5, 20, [(.int .i64 m.id)]⟩] rfl rfl ⟨jm, jl fun _ ⟨_, _, h⟩ => load1_i _ _ _ _ ((h.get 1 rfl).get 20 _ rfl), jm, jl fun _ ⟨_, _, h⟩ => load1_26 _ _ _ _ _ _ ((h.get 1 rfl).get 15 _ rfl), jm, jm, trivial⟩ ⟨q1 fun _ u h f => store1_26 _ _ _ _ _ u _ h f, q1 fun _ u h f => store1_i _ _ _ u _ h f, trivial⟩ ?_
                intro a22 w5 H22 O5
                have O5 : Own w w.heap.size [(w1.heap.size, (mqCells (onlyOf m) (.slice A1 m.codes.length c1) nilV nilV)), (w.heap.size, (mqCells m (.slice A1 m.codes.length c1) (.slice A2 m.wishes.length c2) (.slice A3 m.filters.length c3)))] w5 := by rw [ho]; exact O5
                refine then_normal ?_
                refine rl ?_
                refine wpList_cut 4 (fun a' w' => ∃ b, inRB m.id 1 65535 = b ∧ Has a' 289 [(1, .pointer (some ⟨w.heap.size, 0, none⟩)), (3, .pointer (some ⟨w1.heap.size, 0, none⟩)), (204, .bool b)] ∧ Own w w.heap.size [(w1.heap.size, (mqCells (onlyOf m) (.slice A1 m.codes.length c1) nilV nilV)), (w.heap.size, (mqCells m (.slice A1 m.codes.length c1) (.slice A2 m.wishes.length c2) (.slice A3 m.filters.length c3)))] w') ?_ ?_
                · skip
                  refine H22.ms 1 fun a23 H23 => ?_
                  refine H23.ld 0 (O5.li 1 20) fun a24 H24 => ?_
                  refine H24.cq 1 (refId m.id _) fun a26 H26 => ?_
                  exact nt ⟨_, by rfl, H26.keep ⟨rfl, rfl, rfl, trivial⟩, O5⟩
                rintro a23 w6 ⟨v204, q204, H23, O6⟩
                refine wpList_cut 6 (fun a' w' => ∃ b, (inRB m.id 1 65535 && decide ((1 : Int) ≤ m.codes.length)) = b ∧ Has a' 289 [(1, .pointer (some ⟨w.heap.size, 0, none⟩)), (3, .pointer (some ⟨w1.heap.size, 0, none⟩)), (210, .bool b)] ∧ Own w w.heap.size [(w1.heap.size, (mqCells (onlyOf m) (.slice A1 m.codes.length c1) nilV nilV)), (w.heap.size, (mqCells m (.slice A1 m.codes.length c1) (.slice A2 m.wishes.length c2) (.slice A3 m.filters.length c3)))] w') ?_ ?_
                · skip
                  cases v204 with
                  | false =>
                    refine H23.offs 4 rfl ?_
                    intro a24 H24
                    refine H24.pick gz rfl rfl rfl rfl rfl ?_
                    intro a25 H25
                    refine H25.ms 1 fun a26 H26 => ?_
                    exact nt ⟨_, by rw [q204] <;> rfl, H26.keep ⟨rfl, rfl, rfl, trivial⟩, O6⟩
                  | true =>
                    refine H23.field (H23.wt rfl rfl rfl) rfl rfl rfl rfl field_11 ?_
                    intro a24 H24
                    refine H24.load (H24.wt rfl rfl rfl) rfl rfl rfl rfl (load1_26 _ _ _ _ _ _ ((O6.get 1 rfl).get 15 _ rfl)) ?_
                    intro a25 H25
                    refine H25.len (H25.wt rfl rfl rfl) rfl rfl rfl rfl Tryd.underlying26 ?_
                    intro a26 H26
                    refine H26.bin (H26.wt rfl rfl rfl) rfl rfl rfl rfl rfl (geq_i _ _ _ rfl _ _ _) ?_
                    intro a27 H27
                    refine H27.pick gz rfl rfl rfl rfl rfl ?_
                    intro a28 H28
                    refine H28.ms 1 fun a29 H29 => ?_
                    exact nt ⟨_, by rw [q204] <;> rfl, H29.keep ⟨rfl, rfl, rfl, trivial⟩, O6⟩
                rintro a24 w7 ⟨v210, q210, H24, O7⟩
                refine wpList_cut 5 (fun a' w' => ∃ b, ((inRB m.id 1 65535 && decide ((1 : Int) ≤ m.codes.length)) && decide ((m.codes.length : Int) ≤ 8)) = b ∧ Has a' 289 [(1, .pointer (some ⟨w.heap.size, 0, none⟩)), (3, .pointer (some ⟨w1.heap.size, 0, none⟩)), (215, .bool b)] ∧ Own w w.heap.size [(w1.heap.size, (mqCells (onlyOf m) (.slice A1 m.codes.length c1) nilV nilV)), (w.heap.size, (mqCells m (.slice A1 m.codes.length c1) (.slice A2 m.wishes.length c2) (.slice A3 m.filters.length c3)))] w') ?_ ?_
                · skip
                  cases v210 with
                  | false =>
                    refine H24.offs 4 rfl ?_
                    intro a25 H25
                    refine H25.pick gz rfl rfl rfl rfl rfl ?_
                    intro a26 H26
                    exact nt ⟨_, by rw [q210] <;> rfl, H26.keep ⟨rfl, rfl, rfl, trivial⟩, O7⟩
                  | true =>
                    refine H24.field (H24.wt rfl rfl rfl) rfl rfl rfl rfl field_11 ?_
                    intro a25 H25
                    refine H25.load (H25.wt rfl rfl rfl) rfl rfl rfl rfl (load1_26 _ _ _ _ _ _ ((O7.get 1 rfl).get 15 _ rfl)) ?_
                    intro a26 H26
                    refine H26.len (H26.wt rfl rfl rfl) rfl rfl rfl rfl Tryd.underlying26 ?_
                    intro a27 H27
                    refine H27.bin (H27.wt rfl rfl rfl) rfl rfl rfl rfl rfl (leq_i _ _ _ rfl _ _ _) ?_
                    intro a28 H28
                    refine H28.pick gz rfl rfl rfl rfl rfl ?_
                    intro a29 H29
                    exact nt ⟨_, by rw [q210] <;> rfl, H29.keep ⟨rfl, rfl, rfl, trivial⟩, O7⟩
                rintro a25 w8 ⟨v215, q215, H25, O8⟩
                refine H25.ms 1 fun a26 H26 => nt ?_
                refine H26.rg 1 fun a27 H27 => nt ?_
                refine wp_block ?_
                refine wp_loop_up m.codes.length (fun k a w' => ∃ b, (((inRB m.id 1 65535 && decide ((1 : Int) ≤ m.codes.length)) && decide ((m.codes.length : Int) ≤ 8)) && codesAll (m.codes.take k)) = b ∧ Has a 289 [(1, .pointer (some ⟨w.heap.size, 0, none⟩)), (3, .pointer (some ⟨w1.heap.size, 0, none⟩)), (4, .bool b), (5, .int .i64 ((k : Nat) : Int))] ∧ Own w w.heap.size [(w1.heap.size, (mqCells (onlyOf m) (.slice A1 m.codes.length c1) nilV nilV)), (w.heap.size, (mqCells m (.slice A1 m.codes.length c1) (.slice A2 m.wishes.length c2) (.slice A3 m.filters.length c3)))] w') ?_ ?_
                · exact ⟨_, (by rw [List.take_zero, q215]; simp [codesAll]), H27.keep ⟨rfl, rfl, rfl, rfl, trivial⟩, O8⟩
                · rintro k a28 w9 hkn ⟨v4, q4, H28, O9⟩
                  by_cases hlt : k < m.codes.length
                  · skip
                    refine H28.rg 2 fun a30 H30 => ?_
                    refine H30.ld 0 (O9.l6 1 15) fun a31 H31 => ?_
                    refine H31.len gz rfl rfl rfl rfl Tryd.underlying26 ?_
                    intro a32 H32
                    refine H32.bb 0 rfl rfl rfl rfl rfl rfl (lss_i _ _ true (by simpa using hlt) _ _ _) rfl fun a33 H33 => nt ?_
                    refine H33.condT rfl ?_
                    refine skip_wp ?_
                    refine then_normal ?_
                    repeat (refine wp_seq ?_)
                    refine wp_block ?_
                    refine rl ?_
                    obtain ⟨b, o, v, hA, _, hv, hc⟩ := (r1.next O9.bel).get1 hlt
                    obtain ⟨x, hx⟩ : ∃ x, m.codes[k]? = some x := ⟨_, List.getElem?_eq_getElem hlt⟩
                    rw [List.getElem?_map, hx] at hv
                    injection hv with hv
                    subst hv
                    refine wpList_cut 17 (fun a' w' => ∃ b, ((((inRB m.id 1 65535 && decide ((1 : Int) ≤ m.codes.length)) && decide ((m.codes.length : Int) ≤ 8)) && codesAll (m.codes.take k)) && (inRB x 0 2 || (x == 128))) = b ∧ Has a' 289 [(1, .pointer (some ⟨w.heap.size, 0, none⟩)), (3, .pointer (some ⟨w1.heap.size, 0, none⟩)), (5, .int .i64 ((k : Nat) : Int)), (239, .bool b)] ∧ Own w w.heap.size [(w1.heap.size, (mqCells (onlyOf m) (.slice A1 m.codes.length c1) nilV nilV)), (w.heap.size, (mqCells m (.slice A1 m.codes.length c1) (.slice A2 m.wishes.length c2) (.slice A3 m.filters.length c3)))] w') ?_ ?_
                    · skip
                      refine H33.ms 2 fun a35 H35 => ?_
                      cases v4 with
                      | false =>
                        refine H35.offs 14 rfl ?_
                        intro a36 H36
                        refine H36.pick gz rfl rfl rfl rfl rfl ?_
                        intro a37 H37
                        exact nt ⟨_, by rw [q4] <;> rfl, H37.keep ⟨rfl, rfl, rfl, rfl, trivial⟩, O9⟩
                      | true =>
                        refine H35.field (H35.wt rfl rfl rfl) rfl rfl rfl rfl field_11 ?_
                        intro a36 H36
                        refine H36.load (H36.wt rfl rfl rfl) rfl rfl rfl rfl (load1_26 _ _ _ _ _ _ ((O9.get 1 rfl).get 15 _ rfl)) ?_
                        intro a37 H37
                        refine H37.move (H37.wt rfl rfl rfl) (.inl rfl) rfl rfl rfl ?_
                        intro a38 H38
                        refine H38.index (H38.wt rfl rfl rfl) rfl rfl rfl rfl rfl (show (Instr.indexAt 26 (.slice A1 m.codes.length c1) (.int .i64 ((k : Nat) : Int))).run Tryd.prog _ = .ok (.pointer (some ⟨b, o + k, none⟩)) _ by rw [hA]; exact index_1 26 Tryd.underlying26 (fun _ => by kernel_rfl) _ _ _ _ _ hlt _) ?_
                        intro a39 H39
                        refine H39.load (H39.wt rfl rfl rfl) rfl rfl rfl rfl (load1_i _ _ _ _ hc) ?_
                        intro a40 H40
                        refine H40.call (H40.wt rfl rfl rfl) rfl rfl rfl rfl (fun _ _ => by kernel_rfl) (quietC (refNumB x 2 _)) ?_
                        rintro a41 _ _ ⟨rfl, rfl⟩ H41
                        refine H41.move (H41.wt rfl rfl rfl) (.inl rfl) rfl rfl rfl ?_
                        intro a42 H42
                        obtain ⟨v231, q231⟩ : ∃ b, inRB x 0 2 = b := ⟨_, rfl⟩
                        rw [q231] at H42
                        cases v231 with
                        | false =>
                          refine H42.field (H42.wt rfl rfl rfl) rfl rfl rfl rfl field_11 ?_
                          intro a43 H43
                          refine H43.load (H43.wt rfl rfl rfl) rfl rfl rfl rfl (load1_26 _ _ _ _ _ _ ((O9.get 1 rfl).get 15 _ rfl)) ?_
                          intro a44 H44
                          refine H44.move (H44.wt rfl rfl rfl) (.inl rfl) rfl rfl rfl ?_
                          intro a45 H45
                          refine H45.index (H45.wt rfl rfl rfl) rfl rfl rfl rfl rfl (show (Instr.indexAt 26 (.slice A1 m.codes.length c1) (.int .i64 ((k : Nat) : Int))).run Tryd.prog _ = .ok (.pointer (some ⟨b, o + k, none⟩)) _ by rw [hA]; exact index_1 26 Tryd.underlying26 (fun _ => by kernel_rfl) _ _ _ _ _ hlt _) ?_
                          intro a46 H46
                          refine H46.load (H46.wt rfl rfl rfl) rfl rfl rfl rfl (load1_i _ _ _ _ hc) ?_
                          intro a47 H47
                          refine H47.bin (H47.wt rfl rfl rfl) rfl rfl rfl rfl rfl (eql_i _ _ _ _ _) ?_
                          intro a48 H48
                          refine H48.pick (H48.wt rfl rfl rfl) rfl rfl rfl rfl rfl ?_
                          intro a49 H49
                          refine H49.pick gz rfl rfl rfl rfl rfl ?_
                          intro a50 H50
                          exact nt ⟨_, by rw [q4, q231] <;> rfl, H50.keep ⟨rfl, rfl, rfl, rfl, trivial⟩, O9⟩
                        | true =>
                          refine H42.offs 6 rfl ?_
                          intro a43 H43
                          refine H43.pick (H43.wt rfl rfl rfl) rfl rfl rfl rfl rfl ?_
                          intro a44 H44
                          refine H44.pick gz rfl rfl rfl rfl rfl ?_
                          intro a45 H45
                          exact nt ⟨_, by rw [q4, q231] <;> rfl, H45.keep ⟨rfl, rfl, rfl, rfl, trivial⟩, O9⟩
                    rintro a34 w10 ⟨v239, q239, H34, O10⟩
                    refine H34.ms 1 fun a35 H35 => ?_
                    refine wpList_nil ?_
                    refine block_normal ?_
                    refine then_normal ?_
                    refine H35.rg 1 fun a36 H36 => ?_
                    refine H36.bb 1 rfl rfl rfl rfl rfl rfl (succ_i _ (by omega) _ _ _) rfl fun a38 H38 => nt ?_
                    exact ⟨hlt, _, (by rw [take_snoc? _ _ _ hx, codesAll_snoc, ← Bool.and_assoc]; exact q239), H38.keep ⟨rfl, rfl, rfl, rfl, trivial⟩, O10⟩
                  · skip
                    refine H28.rg 2 fun a30 H30 => ?_
                    refine H30.ld 0 (O9.l6 1 15) fun a31 H31 => ?_
                    refine H31.len gz rfl rfl rfl rfl Tryd.underlying26 ?_
                    intro a32 H32
                    refine H32.bb 0 rfl rfl rfl rfl rfl rfl (lss_i _ _ false (by simpa using hlt) _ _ _) rfl fun a33 H33 => nt ?_
                    refine H33.condF rfl ?_
                    refine wp_exit ?_
                    repeat (with_reducible refine then_exit ?_)
                    refine block_leave ?_
                    rw [List.take_of_length_le (by omega)] at q4
                    refine block_normal ?_
                    refine then_normal ?_
                    exact ⟨(.slice A1 m.codes.length c1), nilV, nilV, (by rw [hq, show (inRB m.id 1 65535 && codesOk m.codes) = v4 from (list_and _ _ _).symm.trans q4]; exact H33.keep ⟨rfl, rfl, rfl, trivial⟩), (hL.next O9.bel).onlyC (by rw [ho] <;> rfl) (by rw [ho] <;> rfl) (by rw [ho] <;> rfl), O9⟩
              | false =>
                have k9 : ¬ m.kind = 9 := by simpa using h9
                refine rl ?_
                refine H19.bn 1 (eql_iB _ _ _ h9 _ _ _) fun a21 H21 => nt ?_
                refine H21.condF rfl ?_
                obtain ⟨b10, h10⟩ : ∃ b, (m.kind == 10) = b := ⟨_, rfl⟩
                cases b10 with
                | true =>
                  have k10 : m.kind = 10 := by simpa using h10
                  refine rl ?_
                  refine H21.bn 1 (eql_iB _ _ _ h10 _ _ _) fun a23 H23 => nt ?_
                  refine H23.condT rfl ?_
                  have ho : onlyOf m = { mq0 m.kind with id := m.id, filters := m.filters } := by unfold onlyOf; rw [if_neg k1, if_neg k2, if_neg k3, if_neg ki, if_neg k8, if_neg k9, if_pos k10]
                  have hq : okOf m = (inRB m.id 1 65535 && filtersOk m.filters) := by unfold okOf; rw [if_neg k1, if_neg k2, if_neg k3, if_neg ki, if_neg k8, if_neg k9, if_pos k10]
                  repeat (refine wp_seq ?_)
                  refine H23.ds O4 0 [1, 3, 4] rfl [ec 0 242 (.pointer (some ⟨w.heap.size, 20, none⟩)), ec 1 243 (.int .i64 m.id), ec 2 244 (.pointer (some ⟨w.heap.size, 23, none⟩)), ec 3 245 (.slice A3 m.filters.length c3), ec 4 246 (.pointer (some ⟨w1.heap.size, 20, none⟩)), ec 6 247 (.pointer (some ⟨w1.heap.size, 23, none⟩))] [⟨7, 23, [(.slice A3 m.filters.length c3)]⟩, ⟨5, 20, [(.int .i64 m.id)]⟩] rfl rfl ⟨jm, jl fun _ ⟨_, _, h⟩ => load1_i _ _ _ _ ((h.get 1 rfl).get 20 _ rfl), jm, jl fun _ ⟨_, _, h⟩ => load1_28 _ _ _ _ _ _ ((h.get 1 rfl).get 23 _ rfl), jm, jm, trivial⟩ ⟨q1 fun _ u h f => store1_28 _ _ _ _ _ u _ h f, q1 fun _ u h f => store1_i _ _ _ u _ h f, trivial⟩ ?_
                  intro a24 w5 H24 O5
                  have O5 : Own w w.heap.size [(w1.heap.size, (mqCells (onlyOf m) nilV nilV (.slice A3 m.filters.length c3))), (w.heap.size, (mqCells m (.slice A1 m.codes.length c1) (.slice A2 m.wishes.length c2) (.slice A3 m.filters.length c3)))] w5 := by rw [ho]; exact O5
                  refine then_normal ?_
                  refine rl ?_
                  refine wpList_cut 4 (fun a' w' => ∃ b, inRB m.id 1 65535 = b ∧ Has a' 289 [(1, .pointer (some ⟨w.heap.size, 0, none⟩)), (3, .pointer (some ⟨w1.heap.size, 0, none⟩)), (251, .bool b)] ∧ Own w w.heap.size [(w1.heap.size, (mqCells (onlyOf m) nilV nilV (.slice A3 m.filters.length c3))), (w.heap.size, (mqCells m (.slice A1 m.codes.length c1) (.slice A2 m.wishes.length c2) (.slice A3 m.filters.length c3)))] w') ?_ ?_
                  · skip
                    refine H24.ms 1 fun a25 H25 => ?_
                    refine H25.ld 0 (O5.li 1 20) fun a26 H26 => ?_
                    refine H26.cq 1 (refId m.id _) fun a28 H28 => ?_
                    exact nt ⟨_, by rfl, H28.keep ⟨rfl, rfl, rfl, trivial⟩, O5⟩
                  rintro a25 w6 ⟨v251, q251, H25, O6⟩
                  refine wpList_cut 6 (fun a' w' => ∃ b, (inRB m.id 1 65535 && decide ((1 : Int) ≤ m.filters.length)) = b ∧ Has a' 289 [(1, .pointer (some ⟨w.heap.size, 0, none⟩)), (3, .pointer (some ⟨w1.heap.size, 0, none⟩)), (257, .bool b)] ∧ Own w w.heap.size [(w1.heap.size, (mqCells (onlyOf m) nilV nilV (.slice A3 m.filters.length c3))), (w.heap.size, (mqCells m (.slice A1 m.codes.length c1) (.slice A2 m.wishes.length c2) (.slice A3 m.filters.length c3)))] w') ?_ ?_
                  · skip
                    cases v251 with
                    | false =>
                      refine H25.offs 4 rfl ?_
                      intro a26 H26
                      refine H26.pick gz rfl rfl rfl rfl rfl ?_
                      intro a27 H27
                      refine H27.ms 1 fun a28 H28 => ?_
                      exact nt ⟨_, by rw [q251] <;> rfl, H28.keep ⟨rfl, rfl, rfl, trivial⟩, O6⟩
                    | true =>
                      refine H25.field (H25.wt rfl rfl rfl) rfl rfl rfl rfl field_19 ?_
                      intro a26 H26
                      refine H26.load (H26.wt rfl rfl rfl) rfl rfl rfl rfl (load1_28 _ _ _ _ _ _ ((O6.get 1 rfl).get 23 _ rfl)) ?_
                      intro a27 H27
                      refine H27.len (H27.wt rfl rfl rfl) rfl rfl rfl rfl Tryd.underlying28 ?_
                      intro a28 H28
                      refine H28.bin (H28.wt rfl rfl rfl) rfl rfl rfl rfl rfl (geq_i _ _ _ rfl _ _ _) ?_
                      intro a29 H29
                      refine H29.pick gz rfl rfl rfl rfl rfl ?_
                      intro a30 H30
                      refine H30.ms 1 fun a31 H31 => ?_
                      exact nt ⟨_, by rw [q251] <;> rfl, H31.keep ⟨rfl, rfl, rfl, trivial⟩, O6⟩
                  rintro a26 w7 ⟨v257, q257, H26, O7⟩
                  refine wpList_cut 5 (fun a' w' => ∃ b, ((inRB m.id 1 65535 && decide ((1 : Int) ≤ m.filters.length)) && decide ((m.filters.length : Int) ≤ 8)) = b ∧ Has a' 289 [(1, .pointer (some ⟨w.heap.size, 0, none⟩)), (3, .pointer (some ⟨w1.heap.size, 0, none⟩)), (262, .bool b)] ∧ Own w w.heap.size [(w1.heap.size, (mqCells (onlyOf m) nilV nilV (.slice A3 m.filters.length c3))), (w.heap.size, (mqCells m (.slice A1 m.codes.length c1) (.slice A2 m.wishes.length c2) (.slice A3 m.filters.length c3)))] w') ?_ ?_
                  · skip
                    cases v257 with
                    | false =>
                      refine H26.offs 4 rfl ?_
                      intro a27 H27
                      refine H27.pick gz rfl rfl rfl rfl rfl ?_
                      intro a28 H28
                      exact nt ⟨_, by rw [q257] <;> rfl, H28.keep ⟨rfl, rfl, rfl, trivial⟩, O7⟩
                    | true =>
                      refine H26.field (H26.wt rfl rfl rfl) rfl rfl rfl rfl field_19 ?_
                      intro a27 H27
                      refine H27.load (H27.wt rfl rfl rfl) rfl rfl rfl rfl (load1_28 _ _ _ _ _ _ ((O7.get 1 rfl).get 23 _ rfl)) ?_
                      intro a28 H28
                      refine H28.len (H28.wt rfl rfl rfl) rfl rfl rfl rfl Tryd.underlying28 ?_
                      intro a29 H29
                      refine H29.bin (H29.wt rfl rfl rfl) rfl rfl rfl rfl rfl (leq_i _ _ _ rfl _ _ _) ?_
                      intro a30 H30
                      refine H30.pick gz rfl rfl rfl rfl rfl ?_
                      intro a31 H31
                      exact nt ⟨_, by rw [q257] <;> rfl, H31.keep ⟨rfl, rfl, rfl, trivial⟩, O7⟩
                  rintro a27 w8 ⟨v262, q262, H27, O8⟩
                  refine H27.ms 1 fun a28 H28 => nt ?_
                  refine H28.rg 1 fun a29 H29 => nt ?_
                  refine wp_block ?_
                  refine wp_loop_up m.filters.length (fun k a w' => ∃ b, (((inRB m.id 1 65535 && decide ((1 : Int) ≤ m.filters.length)) && decide ((m.filters.length : Int) ≤ 8)) && filtersAll (m.filters.take k)) = b ∧ Has a 289 [(1, .pointer (some ⟨w.heap.size, 0, none⟩)), (3, .pointer (some ⟨w1.heap.size, 0, none⟩)), (4, .bool b), (6, .int .i64 ((k : Nat) : Int))] ∧ Own w w.heap.size [(w1.heap.size, (mqCells (onlyOf m) nilV nilV (.slice A3 m.filters.length c3))), (w.heap.size, (mqCells m (.slice A1 m.codes.length c1) (.slice A2 m.wishes.length c2) (.slice A3 m.filters.length c3)))] w') ?_ ?_
                  · exact ⟨_, (by rw [List.take_zero, q262]; simp [filtersAll]), H29.keep ⟨rfl, rfl, rfl, rfl, trivial⟩, O8⟩
                  · rintro k a30 w9 hkn ⟨v4, q4, H30, O9⟩
                    by_cases hlt : k < m.filters.length
                    · skip
                      refine H30.rg 2 fun a32 H32 => ?_
                      refine H32.ld 0 (O9.l8 1 23) fun a33 H33 => ?_
                      refine H33.len gz rfl rfl rfl rfl Tryd.underlying28 ?_
                      intro a34 H34
                      refine H34.bb 0 rfl rfl rfl rfl rfl rfl (lss_i _ _ true (by simpa using hlt) _ _ _) rfl fun a35 H35 => nt ?_
                      refine H35.condT rfl ?_
                      refine skip_wp ?_
                      refine then_normal ?_
                      repeat (refine wp_seq ?_)
                      refine wp_block ?_
                      refine rl ?_
                      obtain ⟨b, o, v, hA, _, hv, hc⟩ := (r3.next O9.bel).get1 hlt
                      obtain ⟨x, hx⟩ : ∃ x, m.filters[k]? = some x := ⟨_, List.getElem?_eq_getElem hlt⟩
                      rw [List.getElem?_map, hx] at hv
                      injection hv with hv
                      subst hv
                      refine wpList_cut 9 (fun a' w' => ∃ b, ((((inRB m.id 1 65535 && decide ((1 : Int) ≤ m.filters.length)) && decide ((m.filters.length : Int) ≤ 8)) && filtersAll (m.filters.take k)) && textOk x 1 64) = b ∧ Has a' 289 [(1, .pointer (some ⟨w.heap.size, 0, none⟩)), (3, .pointer (some ⟨w1.heap.size, 0, none⟩)), (6, .int .i64 ((k : Nat) : Int)), (278, .bool b)] ∧ Own w w.heap.size [(w1.heap.size, (mqCells (onlyOf m) nilV nilV (.slice A3 m.filters.length c3))), (w.heap.size, (mqCells m (.slice A1 m.codes.length c1) (.slice A2 m.wishes.length c2) (.slice A3 m.filters.length c3)))] w') ?_ ?_
                      · skip
                        refine H35.ms 2 fun a37 H37 => ?_
                        cases v4 with
                        | false =>
                          refine H37.offs 6 rfl ?_
                          intro a38 H38
                          refine H38.pick gz rfl rfl rfl rfl rfl ?_
                          intro a39 H39
                          exact nt ⟨_, by rw [q4] <;> rfl, H39.keep ⟨rfl, rfl, rfl, rfl, trivial⟩, O9⟩
                        | true =>
                          refine H37.field (H37.wt rfl rfl rfl) rfl rfl rfl rfl field_19 ?_
                          intro a38 H38
                          refine H38.load (H38.wt rfl rfl rfl) rfl rfl rfl rfl (load1_28 _ _ _ _ _ _ ((O9.get 1 rfl).get 23 _ rfl)) ?_
                          intro a39 H39
                          refine H39.move (H39.wt rfl rfl rfl) (.inl rfl) rfl rfl rfl ?_
                          intro a40 H40
                          refine H40.index (H40.wt rfl rfl rfl) rfl rfl rfl rfl rfl (show (Instr.indexAt 28 (.slice A3 m.filters.length c3) (.int .i64 ((k : Nat) : Int))).run Tryd.prog _ = .ok (.pointer (some ⟨b, o + k, none⟩)) _ by rw [hA]; exact index_1 28 Tryd.underlying28 (fun _ => by kernel_rfl) _ _ _ _ _ hlt _) ?_
                          intro a41 H41
                          refine H41.load (H41.wt rfl rfl rfl) rfl rfl rfl rfl (load1_s _ _ _ _ hc) ?_
                          intro a42 H42
                          refine H42.call (H42.wt rfl rfl rfl) rfl rfl rfl rfl (fun _ _ => by kernel_rfl) (belowC (refTextV x (hF.filters x (List.mem_of_getElem? hx)) 1 64 _ (hW.below O9.bel))) ?_
                          rintro a43 _ w10 ⟨rfl, hb⟩ H43
                          have O10 := O9.call hb
                          clear hb
                          refine H43.pick gz rfl rfl rfl rfl rfl ?_
                          intro a44 H44
                          exact nt ⟨_, by rw [q4] <;> rfl, H44.keep ⟨rfl, rfl, rfl, rfl, trivial⟩, O10⟩
                      rintro a36 w10 ⟨v278, q278, H36, O10⟩
                      refine H36.ms 1 fun a37 H37 => ?_
                      refine wpList_nil ?_
                      refine block_normal ?_
                      refine then_normal ?_
                      refine H37.rg 1 fun a38 H38 => ?_
                      refine H38.bb 1 rfl rfl rfl rfl rfl rfl (succ_i _ (by omega) _ _ _) rfl fun a40 H40 => nt ?_
                      exact ⟨hlt, _, (by rw [take_snoc? _ _ _ hx, filtersAll_snoc, ← Bool.and_assoc]; exact q278), H40.keep ⟨rfl, rfl, rfl, rfl, trivial⟩, O10⟩
                    · skip
                      refine H30.rg 2 fun a32 H32 => ?_
                      refine H32.ld 0 (O9.l8 1 23) fun a33 H33 => ?_
                      refine H33.len gz rfl rfl rfl rfl Tryd.underlying28 ?_
                      intro a34 H34
                      refine H34.bb 0 rfl rfl rfl rfl rfl rfl (lss_i _ _ false (by simpa using hlt) _ _ _) rfl fun a35 H35 => nt ?_
                      refine H35.condF rfl ?_
                      refine wp_exit ?_
                      repeat (with_reducible refine then_exit ?_)
                      refine block_leave ?_
                      rw [List.take_of_length_le (by omega)] at q4
                      refine block_normal ?_
                      refine then_normal ?_
                      exact ⟨nilV, nilV, (.slice A3 m.filters.length c3), (by rw [hq, show (inRB m.id 1 65535 && filtersOk m.filters) = v4 from (list_and _ _ _).symm.trans q4]; exact H35.keep ⟨rfl, rfl, rfl, trivial⟩), (hL.next O9.bel).onlyF (by rw [ho] <;> rfl) (by rw [ho] <;> rfl) (by rw [ho] <;> rfl), O9⟩
                | false =>
                  have k10 : ¬ m.kind = 10 := by simpa using h10
                  refine rl ?_
                  refine H21.bn 1 (eql_iB _ _ _ h10 _ _ _) fun a23 H23 => nt ?_
                  refine H23.condF rfl ?_
                  refine wp_seq_join (fun a w' => ∃ b, bareKind m.kind = b ∧ Has a 289 [(1, .pointer (some ⟨w.heap.size, 0, none⟩)), (3, .pointer (some ⟨w1.heap.size, 0, none⟩)), (4, .bool true), (11, .int .i64 m.kind), (279, .bool b)] ∧ Own w w.heap.size [(w1.heap.size, (mqCells (mq0 m.kind) nilV nilV nilV)), (w.heap.size, (mqCells m (.slice A1 m.codes.length c1) (.slice A2 m.wishes.length c2) (.slice A3 m.filters.length c3)))] w') ?_ ?_
                  · skip
                    obtain ⟨b12, h12⟩ : ∃ b, (m.kind == 12) = b := ⟨_, rfl⟩
                    cases b12 with
                    | true =>
                      refine rl ?_
                      refine H23.bn 1 (eql_iB _ _ _ h12 _ _ _) fun a25 H25 => nt ?_
                      refine H25.condT rfl ?_
                      refine skip_wp ?_
                      refine then_normal ?_
                      exact ⟨_, (by unfold bareKind; rw [h12] <;> rfl), H25.keep ⟨rfl, rfl, rfl, rfl, rfl, trivial⟩, O4⟩
                    | false =>
                      refine rl ?_
                      refine H23.bn 1 (eql_iB _ _ _ h12 _ _ _) fun a25 H25 => nt ?_
                      refine H25.condF rfl ?_
                      obtain ⟨b13, h13⟩ : ∃ b, (m.kind == 13) = b := ⟨_, rfl⟩
                      cases b13 with
                      | true =>
                        refine rl ?_
                        refine H25.bn 1 (eql_iB _ _ _ h13 _ _ _) fun a27 H27 => nt ?_
                        refine H27.condT rfl ?_
                        refine skip_wp ?_
                        refine then_normal ?_
                        exact ⟨_, (by unfold bareKind; rw [h12, h13] <;> rfl), H27.keep ⟨rfl, rfl, rfl, rfl, rfl, trivial⟩, O4⟩
                      | false =>
                        refine rl ?_
                        refine H25.bn 1 (eql_iB _ _ _ h13 _ _ _) fun a27 H27 => nt ?_
                        refine H27.condF rfl ?_
                        obtain ⟨b14, h14⟩ : ∃ b, (m.kind == 14) = b := ⟨_, rfl⟩
                        cases b14 with
                        | true =>
                          refine rl ?_
                          refine H27.bn 1 (eql_iB _ _ _ h14 _ _ _) fun a29 H29 => nt ?_
                          exact ⟨_, (by unfold bareKind; rw [h12, h13, h14] <;> rfl), H29.keep ⟨rfl, rfl, rfl, rfl, rfl, trivial⟩, O4⟩
                        | false =>
                          refine rl ?_
                          refine H27.bn 1 (eql_iB _ _ _ h14 _ _ _) fun a29 H29 => nt ?_
                          exact ⟨_, (by unfold bareKind; rw [h12, h13, h14] <;> rfl), H29.keep ⟨rfl, rfl, rfl, rfl, rfl, trivial⟩, O4⟩
                  rintro a24 w5 ⟨v279, q279, H24, O5⟩
                  cases v279 with
                  | true =>
                    refine H24.condT rfl ?_
                    refine skip_wp ?_
                    have ho : onlyOf m = mq0 m.kind := by unfold onlyOf; rw [if_neg k1, if_neg k2, if_neg k3, if_neg ki, if_neg k8, if_neg k9, if_neg k10]
                    have hq : okOf m = bareKind m.kind := by unfold okOf; rw [if_neg k1, if_neg k2, if_neg k3, if_neg ki, if_neg k8, if_neg k9, if_neg k10]
                    have O5 : Own w w.heap.size [(w1.heap.size, (mqCells (onlyOf m) nilV nilV nilV)), (w.heap.size, (mqCells m (.slice A1 m.codes.length c1) (.slice A2 m.wishes.length c2) (.slice A3 m.filters.length c3)))] w5 := by rw [ho]; exact O5
                    refine block_normal ?_
                    refine then_normal ?_
                    exact ⟨nilV, nilV, nilV, (by rw [hq, q279]; exact H24.keep ⟨rfl, rfl, rfl, trivial⟩), MqL.nil (by rw [ho] <;> rfl) (by rw [ho] <;> rfl) (by rw [ho] <;> rfl), O5⟩
                  | false =>
                    refine H24.condF rfl ?_
                    have ho : onlyOf m = mq0 m.kind := by unfold onlyOf; rw [if_neg k1, if_neg k2, if_neg k3, if_neg ki, if_neg k8, if_neg k9, if_neg k10]
                    have hq : okOf m = bareKind m.kind := by unfold okOf; rw [if_neg k1, if_neg k2, if_neg k3, if_neg ki, if_neg k8, if_neg k9, if_neg k10]
                    refine H24.rg 1 fun a25 H25 => nt ?_
                    refine wp_ret ?_
                    repeat (first | (with_reducible refine block_ret ?_) | (with_reducible refine then_ret ?_))
                    refine bodyPost_ret (results_tmp rfl _ _ _) H25.df ⟨?_, O5.bel⟩
                    have hm : mayBb m = false := by unfold mayBb; rw [hq, q279]; rfl
                    rw [hm]
                    exact congrArg Ending.returned (H25.at_ 2 _ rfl)
  rintro a9 w4 ⟨vc', vw', vf', H9, hM, O4⟩
  obtain ⟨vo, qo⟩ : ∃ b, okOf m = b := ⟨_, rfl⟩
  rw [qo] at H9
  have hm : mayBb m = (vo && Mq.same m (onlyOf m)) := by unfold mayBb; rw [qo]
  refine rl ?_
  cases vo with
  | false =>
    refine H9.ms 2 fun a11 H11 => ?_
    refine H11.offs 3 rfl ?_
    intro a12 H12
    refine H12.pick gz rfl rfl rfl rfl rfl ?_
    intro a13 H13
    refine H13.ms 1 fun a14 H14 => nt ?_
    refine wp_ret ?_
    repeat (first | (with_reducible refine block_ret ?_) | (with_reducible refine then_ret ?_))
    refine bodyPost_ret (results_tmp rfl _ _ _) H14.df ⟨?_, O4.bel⟩
    rw [hm]
    exact congrArg Ending.returned (H14.at_ 2 _ rfl)
  | true =>
    refine H9.ms 2 fun a11 H11 => ?_
    refine H11.go (H11.wt rfl rfl rfl) rfl rfl _ (run_load rfl (H11.ev rfl) (loadS_run (O4.get 0 rfl))) ?_
    intro a12 H12
    refine H12.go (H12.wt rfl rfl rfl) rfl rfl _ (run_load rfl (H12.ev rfl) (loadS_run (O4.get 1 rfl))) ?_
    intro a13 H13
    refine H13.call (H13.wt rfl rfl rfl) rfl rfl rfl rfl (fun _ _ => by kernel_rfl) (belowC (refEqMq (onlyOf m) m _ _ _ _ _ _ _ hM (hL.next O4.bel))) ?_
    rintro a14 _ w5 ⟨rfl, hb⟩ H14
    have O5 := O4.call hb
    clear hb
    refine H14.pick gz rfl rfl rfl rfl rfl ?_
    intro a15 H15
    refine H15.ms 1 fun a16 H16 => nt ?_
    refine wp_ret ?_
    repeat (first | (with_reducible refine block_ret ?_) | (with_reducible refine then_ret ?_))
    refine bodyPost_ret (results_tmp rfl _ _ _) H16.df ⟨?_, O5.bel⟩
    rw [hm]
    rw [same_symm m (onlyOf m)]
    exact congrArg Ending.returned (H16.at_ 2 _ rfl)
end Go.Proofs.YtkcdkjpmbjcmdaaDoor

/-
  The page's bytes of a packet behind its length.
-/
namespace Go.Proofs.YtkcdkjpmbjcmdaaDoor
open Go.RowKit

/-- a will's cells. -/
abbrev willL (m : Mq) : List Value := [.bool m.won, .string m.wt, .string m.wp, .int .i64 m.wq, .bool m.wr]
theorem zero_will (w : World) : (zeroValue 25).run Tryd.prog w = .ok (.agg ([.bool false, .string nos, .string nos, .int .i64 0, .bool false] : List Value).toArray) w := by kernel_rfl
theorem size_will : (Tryd.prog.info? 25).map (·.size) = some 5 := by kernel_rfl
theorem fieldV_0 (g : Nat) (w : World) : (Instr.fieldAt 25 (.pointer (some ⟨g, 0, none⟩)) 0).run Tryd.prog w = .ok (.pointer (some ⟨g, 0, none⟩)) w := by kernel_rfl
theorem fieldV_1 (g : Nat) (w : World) : (Instr.fieldAt 25 (.pointer (some ⟨g, 0, none⟩)) 1).run Tryd.prog w = .ok (.pointer (some ⟨g, 1, none⟩)) w := by kernel_rfl
theorem fieldV_2 (g : Nat) (w : World) : (Instr.fieldAt 25 (.pointer (some ⟨g, 0, none⟩)) 2).run Tryd.prog w = .ok (.pointer (some ⟨g, 2, none⟩)) w := by kernel_rfl
theorem fieldV_3 (g : Nat) (w : World) : (Instr.fieldAt 25 (.pointer (some ⟨g, 0, none⟩)) 3).run Tryd.prog w = .ok (.pointer (some ⟨g, 3, none⟩)) w := by kernel_rfl
theorem fieldV_4 (g : Nat) (w : World) : (Instr.fieldAt 25 (.pointer (some ⟨g, 0, none⟩)) 4).run Tryd.prog w = .ok (.pointer (some ⟨g, 4, none⟩)) w := by kernel_rfl
theorem fieldO_0 (o g : Nat) (w : World) : (Instr.fieldAt 95 (.pointer (some ⟨g, o, none⟩)) 0).run Tryd.prog w = .ok (.pointer (some ⟨g, o, none⟩)) w := by
  simp [go_sem]
theorem fieldO_1 (o g : Nat) (w : World) : (Instr.fieldAt 95 (.pointer (some ⟨g, o, none⟩)) 1).run Tryd.prog w = .ok (.pointer (some ⟨g, o + 1, none⟩)) w := by
  simp [go_sem]
theorem refBitN (b : Bool) (nI : Int) (n : Nat) (h : nI = (n : Int)) (w : World) : Calls Tryd.prog 56 #[.bool b, .int .u8 nI] w fun e w' => e = .returned (.int .u8 ((cb b n : Nat) : Int)) ∧ w = w' := by
  refine (refBit b nI w).mono ?_
  rintro e w' ⟨rfl, rfl⟩
  refine ⟨?_, rfl⟩
  subst h
  cases b <;> rfl
theorem ofInt_u8 (a : Nat) (ha : a < 256) : (BitVec.ofInt 8 (a : Int)).toNat = a := by
  rw [BitVec.toNat_ofInt]; omega
theorem or_u (a b : Nat) (ha : a < 256) (hb : b < 256) (x y : Operand) (w : World) : (do eqGuard .or 5 x y (.int .u8 (a : Int)) (.int .u8 (b : Int)); binOp .or 5 (.int .u8 (a : Int)) (.int .u8 (b : Int)) : Sem Value).run Tryd.prog w = .ok (.int .u8 ((a ||| b : Nat) : Int)) w := by
  have hx : a ||| b < 256 := or_lt8 ha hb
  have e : bits .or .u8 (a : Int) (b : Int) = ((a ||| b : Nat) : Int) := by
    show IntKind.u8.wrap ((BitVec.ofInt 8 (a : Int) ||| BitVec.ofInt 8 (b : Int)).toNat : Int) = _
    rw [BitVec.toNat_or, ofInt_u8 a ha, ofInt_u8 b hb]
    show ((a ||| b : Nat) : Int) % 256 = _
    omega
  simp [go_sem, e]
theorem shl3_u8 (k : Int) (h0 : 0 ≤ k) (h2 : k ≤ 2) (x y : Operand) (w : World) : (do eqGuard .shl 5 x y (.int .u8 (k % 256)) (.int .u64 3); binOp .shl 5 (.int .u8 (k % 256)) (.int .u64 3) : Sem Value).run Tryd.prog w = .ok (.int .u8 ((k.toNat * 8 : Nat) : Int)) w := by
  have : k = 0 ∨ k = 1 ∨ k = 2 := by omega
  rcases this with rfl | rfl | rfl <;> simp [go_sem] <;> rfl
theorem Base.low {W w w1 : World} {b b' : Nat} {bs : List (Nat × List Value)} (h : Base W b bs w) (hb : b' ≤ b) (O : Own W W.heap.size bs w1) (hs : w1.heap.size = b' := by rfl) : Base W b' bs w :=
  ⟨h.own, Nat.le_trans hb h.bw, hs ▸ O.le, fun p hp => hs ▸ (O.mem p hp).2.1⟩
theorem Base.low2 {W w w1 : World} {b b' : Nat} {x : Nat × List Value} {bs : List (Nat × List Value)} (h : Base W b (x :: bs) w) (hb : b' ≤ b) (O : Own W W.heap.size bs w1) (hs : w1.heap.size = b' := by rfl) : Base W b' bs w := by
  refine ⟨⟨h.own.bel, h.own.le, ?_, fun p hp => h.own.mem p (List.mem_cons_of_mem _ hp)⟩, Nat.le_trans hb h.bw, hs ▸ O.le, fun p hp => hs ▸ (O.mem p hp).2.1⟩
  have := h.own.nd
  rw [List.map_cons, List.nodup_cons] at this
  exact this.2
/-! what a packet that may be has -/
theorem may_conn {m : Mq} (h : okOf m = true) (k1 : m.kind = 1) : m.client.size ≤ 65535 ∧ m.wt.size ≤ 65535 ∧ m.wp.size ≤ 65535 ∧ m.user.size ≤ 65535 ∧ m.pass.size ≤ 65535 ∧ 0 ≤ m.keep ∧ m.keep ≤ 65535 ∧ 0 ≤ m.wq ∧ m.wq ≤ 2 := by
  have hc : connectOk m = true := by unfold okOf at h; rw [if_pos k1] at h; exact h
  simp only [connectOk, Bool.and_eq_true, decide_eq_true_eq] at hc
  obtain ⟨hc, hkp, hw, hu, hps, h1, h2⟩ := hc
  have hc' := textOk_size hc
  have hu' := textOk_size hu
  have hkp := inRB_iff.1 hkp
  have hwq : m.wt.size ≤ 64 ∧ m.wp.size ≤ 128 ∧ 0 ≤ m.wq ∧ m.wq ≤ 2 := by
    unfold willOk at hw
    cases hwon : m.won with
    | true =>
      rw [hwon, if_pos rfl] at hw
      simp only [Bool.and_eq_true, decide_eq_true_eq] at hw
      obtain ⟨a, b, c⟩ := hw
      have := textOk_size a
      have := inRB_iff.1 c
      exact ⟨by omega, by omega, by omega, by omega⟩
    | false =>
      rw [hwon, if_neg (by simp)] at hw
      simp only [Bool.and_eq_true, beq_iff_eq, Bool.not_eq_true'] at hw
      obtain ⟨a, b, c, d⟩ := hw
      rw [emp_nos a, emp_nos b, c]
      exact ⟨by decide, by decide, by decide, by decide⟩
  exact ⟨by omega, by omega, by omega, by omega, by omega, by omega, by omega, by omega, by omega⟩
theorem may_ack {m : Mq} (h : okOf m = true) (k1 : ¬ m.kind = 1) (k2 : m.kind = 2) : 0 ≤ m.code := by
  have hc : (inRB m.code 0 5 && (!m.present || m.code == 0)) = true := by unfold okOf at h; rw [if_neg k1, if_pos k2] at h; exact h
  simp only [Bool.and_eq_true] at hc
  exact (inRB_iff.1 hc.1).1
theorem may_pub {m : Mq} (h : okOf m = true) (k1 : ¬ m.kind = 1) (k2 : ¬ m.kind = 2) (k3 : m.kind = 3) : m.topic.size ≤ 65535 ∧ m.payload.size ≤ 65535 ∧ 0 ≤ m.id ∧ m.id ≤ 65535 := by
  have hc : publishOk m = true := by unfold okOf at h; rw [if_neg k1, if_neg k2, if_pos k3] at h; exact h
  obtain ⟨ht, hq0, hq2, hi, hz, hp⟩ := publish_facts hc
  have : 0 ≤ m.id ∧ m.id ≤ 65535 := by
    by_cases hq : 0 < m.qos
    · have := hi hq; omega
    · have := hz (by omega); omega
  exact ⟨by omega, by omega, this.1, this.2⟩
theorem may_id {m : Mq} (h : okOf m = true) (k1 : ¬ m.kind = 1) (k2 : ¬ m.kind = 2) (k3 : ¬ m.kind = 3) (kb : bareKind m.kind = false) : 0 ≤ m.id ∧ m.id ≤ 65535 := by
  unfold okOf at h
  rw [if_neg k1, if_neg k2, if_neg k3, kb] at h
  have ids : ∀ {n : Int}, inRB n 1 65535 = true → 0 ≤ n ∧ n ≤ 65535 := fun h => by have := inRB_iff.1 h; omega
  split at h
  · exact ids h
  · split at h
    · exact ids (Bool.and_eq_true _ _ ▸ h).1
    · split at h
      · exact ids (Bool.and_eq_true _ _ ▸ h).1
      · split at h
        · exact ids (Bool.and_eq_true _ _ ▸ h).1
        · cases h
/-- what stands ahead of the lists. -/
def preBy (m : Mq) : List UInt8 :=
  if m.kind = 1 then connectBy m
  else if m.kind = 2 then [UInt8.ofNat (cb m.present 1), UInt8.ofNat m.code.toNat]
  else if m.kind = 3 then publishBy m
  else if bareKind m.kind then [] else big 2 m.id.toNat
theorem pre_1 {m : Mq} (k1 : m.kind = 1) : preBy m = connectBy m := by unfold preBy; rw [if_pos k1]
theorem pre_2 {m : Mq} (k2 : m.kind = 2) : preBy m = [UInt8.ofNat (cb m.present 1), UInt8.ofNat m.code.toNat] := by unfold preBy; rw [if_neg (by omega), if_pos k2]
theorem pre_3 {m : Mq} (k3 : m.kind = 3) : preBy m = publishBy m := by unfold preBy; rw [if_neg (by omega), if_neg (by omega), if_pos k3]
theorem pre_b {m : Mq} (k1 : ¬ m.kind = 1) (k2 : ¬ m.kind = 2) (k3 : ¬ m.kind = 3) (kb : bareKind m.kind = true) : preBy m = [] := by unfold preBy; rw [if_neg k1, if_neg k2, if_neg k3, if_pos kb]
theorem pre_i {m : Mq} (k1 : ¬ m.kind = 1) (k2 : ¬ m.kind = 2) (k3 : ¬ m.kind = 3) (kb : bareKind m.kind = false) : preBy m = big 2 m.id.toNat := by unfold preBy; rw [if_neg k1, if_neg k2, if_neg k3, if_neg (by simp [kb])]
/-- the lists of a packet that may be. -/
theorem may_lists {m : Mq} (hm : mayB m) : wishesAll m.wishes = true ∧ m.wishes.length ≤ 8 ∧ codesAll m.codes = true ∧ m.codes.length ≤ 8 ∧ filtersAll m.filters = true ∧ m.filters.length ≤ 8 := by
  obtain ⟨h, ho⟩ := hm
  unfold okOf at h
  unfold onlyOf at ho
  have hw := congrArg Mq.wishes ho
  have hc := congrArg Mq.codes ho
  have hf := congrArg Mq.filters ho
  by_cases k1 : m.kind = 1
  · simp only [if_pos k1] at hw hc hf
    rw [hw, hc, hf]; exact ⟨rfl, Nat.zero_le 8, rfl, Nat.zero_le 8, rfl, Nat.zero_le 8⟩
  by_cases k2 : m.kind = 2
  · simp only [if_neg k1, if_pos k2] at hw hc hf
    rw [hw, hc, hf]; exact ⟨rfl, Nat.zero_le 8, rfl, Nat.zero_le 8, rfl, Nat.zero_le 8⟩
  by_cases k3 : m.kind = 3
  · simp only [if_neg k1, if_neg k2, if_pos k3] at hw hc hf
    rw [hw, hc, hf]; exact ⟨rfl, Nat.zero_le 8, rfl, Nat.zero_le 8, rfl, Nat.zero_le 8⟩
  by_cases ki : idKind m.kind = true
  · simp only [if_neg k1, if_neg k2, if_neg k3, if_pos ki] at hw hc hf
    rw [hw, hc, hf]; exact ⟨rfl, Nat.zero_le 8, rfl, Nat.zero_le 8, rfl, Nat.zero_le 8⟩
  by_cases k8 : m.kind = 8
  · simp only [if_neg k1, if_neg k2, if_neg k3, if_neg ki, if_pos k8, Bool.and_eq_true, wishesOk] at h hw hc hf
    have := inRB_iff.1 h.2.2
    rw [hc, hf]; exact ⟨h.2.1, by omega, rfl, Nat.zero_le 8, rfl, Nat.zero_le 8⟩
  by_cases k9 : m.kind = 9
  · simp only [if_neg k1, if_neg k2, if_neg k3, if_neg ki, if_neg k8, if_pos k9, Bool.and_eq_true, codesOk] at h hw hc hf
    have := inRB_iff.1 h.2.2
    rw [hw, hf]; exact ⟨rfl, Nat.zero_le 8, h.2.1, by omega, rfl, Nat.zero_le 8⟩
  by_cases k10 : m.kind = 10
  · simp only [if_neg k1, if_neg k2, if_neg k3, if_neg ki, if_neg k8, if_neg k9, if_pos k10, Bool.and_eq_true, filtersOk] at h hw hc hf
    have := inRB_iff.1 h.2.2
    rw [hw, hc]; exact ⟨rfl, Nat.zero_le 8, rfl, Nat.zero_le 8, h.2.1, by omega⟩
  simp only [if_neg k1, if_neg k2, if_neg k3, if_neg ki, if_neg k8, if_neg k9, if_neg k10] at hw hc hf
  rw [hw, hc, hf]; exact ⟨rfl, Nat.zero_le 8, rfl, Nat.zero_le 8, rfl, Nat.zero_le 8⟩
theorem body_pre {m : Mq} (hm : mayB m) : bodyBy m = (((preBy m) ++ wishesBy m.wishes) ++ codesBy m.codes) ++ filtersBy m.filters := by
  obtain ⟨h, ho⟩ := hm
  unfold okOf at h
  unfold onlyOf at ho
  have hw := congrArg Mq.wishes ho
  have hc := congrArg Mq.codes ho
  have hf := congrArg Mq.filters ho
  unfold bodyBy preBy
  by_cases k1 : m.kind = 1
  · simp only [if_pos k1] at hw hc hf
    rw [hw, hc, hf, if_pos k1, if_pos k1]; simp [mq0, wishesBy, codesBy, filtersBy]
  by_cases k2 : m.kind = 2
  · simp only [if_neg k1, if_pos k2] at hw hc hf
    rw [hw, hc, hf, if_neg k1, if_pos k2, if_neg k1, if_pos k2]; simp [mq0, wishesBy, codesBy, filtersBy]
  by_cases k3 : m.kind = 3
  · simp only [if_neg k1, if_neg k2, if_pos k3] at hw hc hf
    rw [hw, hc, hf, if_neg k1, if_neg k2, if_pos k3, if_neg k1, if_neg k2, if_pos k3]; simp [mq0, wishesBy, codesBy, filtersBy]
  by_cases ki : idKind m.kind = true
  · simp only [if_neg k1, if_neg k2, if_neg k3, if_pos ki] at hw hc hf
    have hb : ¬ bareKind m.kind = true := by
      simp only [idKind, bareKind, Bool.or_eq_true, beq_iff_eq] at ki ⊢
      omega
    have n8 : ¬ m.kind = 8 := by simp only [idKind, Bool.or_eq_true, beq_iff_eq] at ki; omega
    have n9 : ¬ m.kind = 9 := by simp only [idKind, Bool.or_eq_true, beq_iff_eq] at ki; omega
    have n10 : ¬ m.kind = 10 := by simp only [idKind, Bool.or_eq_true, beq_iff_eq] at ki; omega
    rw [hw, hc, hf, if_neg k1, if_neg k2, if_neg k3, if_neg n8, if_neg n9, if_neg n10, if_neg hb, if_neg k1, if_neg k2, if_neg k3]; simp [mq0, wishesBy, codesBy, filtersBy]
  by_cases k8 : m.kind = 8
  · simp only [if_neg k1, if_neg k2, if_neg k3, if_neg ki, if_pos k8] at hw hc hf
    rw [hc, hf, if_neg k1, if_neg k2, if_neg k3, if_pos k8, if_neg k1, if_neg k2, if_neg k3, if_neg (by rw [k8]; decide)]; simp [mq0, codesBy, filtersBy]
  by_cases k9 : m.kind = 9
  · simp only [if_neg k1, if_neg k2, if_neg k3, if_neg ki, if_neg k8, if_pos k9] at hw hc hf
    rw [hw, hf, if_neg k1, if_neg k2, if_neg k3, if_neg k8, if_pos k9, if_neg k1, if_neg k2, if_neg k3, if_neg (by rw [k9]; decide)]; simp [mq0, wishesBy, filtersBy]
  by_cases k10 : m.kind = 10
  · simp only [if_neg k1, if_neg k2, if_neg k3, if_neg ki, if_neg k8, if_neg k9, if_pos k10] at hw hc hf
    rw [hw, hc, if_neg k1, if_neg k2, if_neg k3, if_neg k8, if_neg k9, if_pos k10, if_neg k1, if_neg k2, if_neg k3, if_neg (by rw [k10]; decide)]; simp [mq0, wishesBy, codesBy]
  simp only [if_neg k1, if_neg k2, if_neg k3, if_neg ki, if_neg k8, if_neg k9, if_neg k10] at hw hc hf h
  rw [hw, hc, hf, if_neg k1, if_neg k2, if_neg k3, if_neg k8, if_neg k9, if_neg k10, if_pos h, if_neg k1, if_neg k2, if_neg k3]; simp [mq0, wishesBy, codesBy, filtersBy]
theorem pre_le {m : Mq} (hm : mayB m) : (preBy m).length ≤ 540 := by
  have h := body_le hm.1
  rw [body_pre hm] at h
  simp only [List.length_append] at h
  omega
/-- Big of a number that two bytes hold: where its bytes lie. -/
theorem bigG (k : Nat) (hk : k ≤ 65535) (w : World) :
    Calls Tryd.prog 77 #[.int .i64 (k : Int), .int .i64 2] w fun e w' => ∃ v', e = .returned v' ∧ (∃ q c, v' = .slice (some ⟨q, 0, none⟩) 2 c ∧ w.heap.size ≤ q ∧ RB w' w'.heap.size (some ⟨q, 0, none⟩) (big 2 k) ∧ Below w.heap.size w w') := by
  refine (big_walk k 2 k 2 rfl rfl (by decide) (by omega) w).mono ?_
  rintro e w' ⟨A', c', rfl, ho, hb⟩
  obtain ⟨g, rfl, hg, _⟩ := own_form ho (by decide)
  exact ⟨_, rfl, g, c', rfl, hg, RB.of_ownN ho, hb⟩
theorem rowBig (b : Nat) (k : Int) (h0 : 0 ≤ k) (h1 : k ≤ 65535) (w : World) (hb : b ≤ w.heap.size) :
    Calls Tryd.prog 77 #[.int .i64 k, .int .i64 2] w fun e w' => ∃ v', e = .returned v' ∧ (RowIs b (big 2 k.toNat) v' w' ∧ Below w.heap.size w w') := by
  refine (big_walk k 2 k.toNat 2 (by omega) rfl (by decide) (by omega) w).mono ?_
  rintro e w' ⟨A', c', rfl, ho, hb'⟩
  exact ⟨_, rfl, ⟨A', c', by rw [big_length], by rw [big_length]; exact own_base ho hb⟩, hb'⟩
set_option maxRecDepth 100000 in
set_option maxHeartbeats 800000 in
theorem rowTextRG (b : Nat) (xs : List UInt8) (v : Value) (s : ByteArray) (hs : s.size ≤ 65535) (w : World) (hv : RowIs b xs v w) (hb : b ≤ w.heap.size) (hn : xs.length ≤ 140737488251232) :
    Calls Tryd.prog 76 #[v, .string s] w fun e w' => ∃ v', e = .returned v' ∧ (RowIs b (xs ++ strB s) v' w' ∧ Below b w w' ∧ (∀ g, g < w.heap.size → some g ≠ v.ownBlock → w'.heap[g]? = w.heap[g]?)) := by
  go_enter Tryd.func76, Tryd.ntmps76
  refine Has.start 13 [(0, v), (1, .string s)] rfl rfl ⟨rfl, rfl, trivial⟩ ?_
  intro a0 H0
  refine H0.rg 1 fun a1 H1 => nt ?_
  refine H1.rg 2 fun a3 H3 => ?_
  refine H3.lenS gz rfl rfl rfl rfl Tryd.underlying9 ?_
  intro a4 H4
  refine H4.cl (bigG s.size (by omega) w) ?_
  rintro a5 _ w1 ⟨q, c, rfl, hq, hrb, hb1⟩ H5
  obtain ⟨v', w', hrun, hrow, hb2, hg, hob⟩ := run_append_rowG (P := Tryd.prog) (a := a5) (w := w1) Tryd.underlying31 info_u8 (o := ⟨some 9, _, _, _, _, none⟩) (b := b) (xs := xs) (ys := big 2 s.size) (v := v) (c := c) rfl (H5.at_ 5 _ rfl) ((H5.at_ 8 _ rfl).trans (by rw [big_length])) (hv.below hb1) hrb (by rw [big_length]; decide) (by rw [big_length]; omega) (Nat.le_trans hb hb1.size)
  refine H5.go gz rfl rfl _ hrun ?_
  intro a6 H6
  refine H6.ms 1 fun a7 H7 => nt ?_
  refine H7.rg 2 fun a9 H9 => ?_
  obtain ⟨v2, w2, hrun2, hrow2, hb3, hg2⟩ := run_append_strR (P := Tryd.prog) (a := a9) (w := w') Tryd.underlying31 Tryd.underlying9 info_u8 (o := ⟨some 12, _, _, _, _, none⟩) rfl rfl (H9.at_ 11 _ rfl) ((H9.at_ 10 _ rfl).symm ▸ hrow) (by rw [List.length_append, big_length]; omega) (Nat.le_trans (Nat.le_trans hb hb1.size) hb2.size)
  refine H9.go gz rfl rfl _ hrun2 ?_
  intro a10 H10
  refine H10.ms 1 fun a11 H11 => nt ?_
  refine wp_ret ?_
  refine bodyPost_ret (results_tmp rfl _ _ _) H11.df ⟨_, congrArg Ending.returned (H11.at_ 4 _ rfl), (by unfold strB; rw [← List.append_assoc]; exact hrow2), ((hb1.mono hb).trans hb2).trans hb3, fun g hlt hne => ((hg2.block g (Nat.lt_of_lt_of_le (Nat.lt_of_lt_of_le hlt hb1.size) hb2.size) ?_).trans (hg.block g (Nat.lt_of_lt_of_le hlt hb1.size) hne)).trans (hb1.block g hlt)⟩
  rw [H9.at_ 10 _ rfl]
  rcases hob with h | h
  · rw [h]; exact hne
  · rw [h]; intro e; injection e with e; have := hb1.size; omega
theorem rowTextR (b : Nat) (xs : List UInt8) (v : Value) (s : ByteArray) (hs : s.size ≤ 65535) (w : World) (hv : RowIs b xs v w) (hb : b ≤ w.heap.size) (hn : xs.length ≤ 140737488251232) :
    Calls Tryd.prog 76 #[v, .string s] w fun e w' => ∃ v', e = .returned v' ∧ (RowIs b (xs ++ strB s) v' w' ∧ Below b w w') :=
  (rowTextRG b xs v s hs w hv hb hn).mono fun _ _ ⟨v', e, h1, h2, _⟩ => ⟨v', e, h1, h2⟩
set_option maxRecDepth 100000 in
set_option maxHeartbeats 6400000 in
theorem refBody (m : Mq) (vc vw vf : Value) (w : World) (hm : mayB m) (hL : MqL w w.heap.size m vc vw vf) :
    Calls Tryd.prog 57 #[.agg (mqCells m vc vw vf).toArray] w (Laid (bodyBy m) w) := by
  obtain ⟨A1, c1, A2, c2, A3, c3, rfl, rfl, rfl, l1, l2, l3, k1', k2', k3', r1, r2, r3⟩ := id hL
  obtain ⟨hwa, hwl, hca, hcl, hfa, hfl⟩ := may_lists hm
  have hpl := pre_le hm
  have hwb := wishesBy_le _ hwa
  have hfb := filtersBy_le _ hfa
  have hcb := codesBy_le m.codes
  go_enter Tryd.func57, Tryd.ntmps57
  refine Has.start 159 [(0, .agg (mqCells m (.slice A1 m.codes.length c1) (.slice A2 m.wishes.length c2) (.slice A3 m.filters.length c3)).toArray)] rfl rfl ⟨rfl, trivial⟩ ?_
  intro a0 H0
  have O0 := Own.start w
  refine rl ?_
  refine H0.bx O0 1 fun a2 w1 O1 H2 => nt ?_
  have hw1 : w.heap.size < w1.heap.size := O1.lt 0 rfl
  refine H2.rg 1 fun a3 H3 => nt ?_
  refine wp_seq_join (fun a w' => ∃ v, Has a 159 [(1, .pointer (some ⟨w.heap.size, 0, none⟩)), (3, v)] ∧ RowIs w1.heap.size (preBy m) v w' ∧ Base w w1.heap.size [(w.heap.size, (mqCells m (.slice A1 m.codes.length c1) (.slice A2 m.wishes.length c2) (.slice A3 m.filters.length c3)))] w') ?_ ?_
  · skip
    refine H3.rg 1 fun a4 H4 => ?_
    refine H4.ld 0 (O1.li 0 0) fun a5 H5 => nt ?_
    refine wp_block ?_
    obtain ⟨b1, h1⟩ : ∃ b, (m.kind == 1) = b := ⟨_, rfl⟩
    cases b1 with
    | true =>
      have k1 : m.kind = 1 := by simpa using h1
      refine rl ?_
      refine H5.bn 1 (eql_iB _ _ _ h1 _ _ _) fun a7 H7 => nt ?_
      refine H7.condT rfl ?_
      obtain ⟨hc, ht, hp, hu', hp', hk0, hk1, hq0, hq2⟩ := may_conn hm.1 k1
      refine H7.rg 1 fun a8 H8 => ?_
      refine H8.ld 0 (load_will _ _ _ _ _ _ _ _ (O1.get 0 rfl) rfl rfl rfl rfl rfl) fun a9 H9 => ?_
      refine H9.al O1 0 zero_will fun a10 w2 O2 H10 => ?_
      refine H10.st (L := (willL m)) O2 0 0 (hi := size_will) fun a11 w3 O3 H11 => nt ?_
      have HB3 := Base.of O3
      obtain ⟨b0, hb0⟩ : ∃ b0, b0 = w3.heap.size := ⟨_, rfl⟩
      rw [← hb0] at HB3
      have hb0' := hb0
      clear hb0
      have hw3 : w1.heap.size ≤ b0 := by rw [hb0']; exact Nat.le_of_lt (O3.lt 0 rfl)
      have H12 := H11.keep (l' := [(1, .pointer (some ⟨w.heap.size, 0, none⟩)), (4, .pointer (some ⟨w1.heap.size, 0, none⟩))]) ⟨rfl, rfl, trivial⟩
      repeat (refine wp_seq ?_)
      have h24a : cb m.clean 2 < 256 := cb_lt _ _ (by decide)
      have h24b : cb m.won 4 < 256 := cb_lt _ _ (by decide)
      have h29a : (cb m.clean 2 ||| cb m.won 4) < 256 := or_lt8 h24a h24b
      have h29b : m.wq.toNat * 8 < 256 := by omega
      have h33a : ((cb m.clean 2 ||| cb m.won 4) ||| m.wq.toNat * 8) < 256 := or_lt8 h29a h29b
      have h33b : cb m.wr 32 < 256 := cb_lt _ _ (by decide)
      have h37a : (((cb m.clean 2 ||| cb m.won 4) ||| m.wq.toNat * 8) ||| cb m.wr 32) < 256 := or_lt8 h33a h33b
      have h37b : cb m.hp 64 < 256 := cb_lt _ _ (by decide)
      have h41a : ((((cb m.clean 2 ||| cb m.won 4) ||| m.wq.toNat * 8) ||| cb m.wr 32) ||| cb m.hp 64) < 256 := or_lt8 h37a h37b
      have h41b : cb m.hu 128 < 256 := cb_lt _ _ (by decide)
      have h41 : (((((cb m.clean 2 ||| cb m.won 4) ||| m.wq.toNat * 8) ||| cb m.wr 32) ||| cb m.hp 64) ||| cb m.hu 128) < 256 := or_lt8 h41a h41b
      have hflags : (((((cb m.clean 2 ||| cb m.won 4) ||| m.wq.toNat * 8) ||| cb m.wr 32) ||| cb m.hp 64) ||| cb m.hu 128) = flagsC m := flags_or _ _ _ _ _ _ (by omega)
      refine H12.dr HB3 [1, 4] rfl [er 0 17 [26] (fun v w => RowIs b0 [0, 4, 77, 81, 84, 84] v w), ec 1 18 (.pointer (some ⟨w.heap.size, 2, none⟩)), ec 2 19 (.bool m.clean), ec 3 20 (.int .u8 ((cb m.clean 2 : Nat) : Int)), ec 4 21 (.pointer (some ⟨w1.heap.size, 0, none⟩)), ec 5 22 (.bool m.won), ec 6 23 (.int .u8 ((cb m.won 4 : Nat) : Int)), ec 7 24 (.int .u8 (((cb m.clean 2 ||| cb m.won 4) : Nat) : Int)), ec 8 25 (.pointer (some ⟨w1.heap.size, 3, none⟩)), ec 9 26 (.int .i64 m.wq), ec 10 27 (.int .u8 (m.wq % 256)), ec 11 28 (.int .u8 ((m.wq.toNat * 8 : Nat) : Int)), ec 12 29 (.int .u8 ((((cb m.clean 2 ||| cb m.won 4) ||| m.wq.toNat * 8) : Nat) : Int)), ec 13 30 (.pointer (some ⟨w1.heap.size, 4, none⟩)), ec 14 31 (.bool m.wr), ec 15 32 (.int .u8 ((cb m.wr 32 : Nat) : Int)), ec 16 33 (.int .u8 (((((cb m.clean 2 ||| cb m.won 4) ||| m.wq.toNat * 8) ||| cb m.wr 32) : Nat) : Int)), ec 17 34 (.pointer (some ⟨w.heap.size, 12, none⟩)), ec 18 35 (.bool m.hp), ec 19 36 (.int .u8 ((cb m.hp 64 : Nat) : Int)), ec 20 37 (.int .u8 ((((((cb m.clean 2 ||| cb m.won 4) ||| m.wq.toNat * 8) ||| cb m.wr 32) ||| cb m.hp 64) : Nat) : Int)), ec 21 38 (.pointer (some ⟨w.heap.size, 10, none⟩)), ec 22 39 (.bool m.hu), ec 23 40 (.int .u8 ((cb m.hu 128 : Nat) : Int)), ec 24 41 (.int .u8 (((((((cb m.clean 2 ||| cb m.won 4) ||| m.wq.toNat * 8) ||| cb m.wr 32) ||| cb m.hp 64) ||| cb m.hu 128) : Nat) : Int)), er 25 42 [26] (fun v w => BytesAre [4, UInt8.ofNat (flagsC m)] v w), er 26 43 [] (fun v w => RowIs b0 ([0, 4, 77, 81, 84, 84] ++ [4, UInt8.ofNat (flagsC m)]) v w), er 27 3 [] (fun v w => RowIs b0 ([0, 4, 77, 81, 84, 84] ++ [4, UInt8.ofNat (flagsC m)]) v w)] rfl ⟨jm, (jl fun _ h => h.own.lb 1 2), (jq fun ww _ => (refBitN m.clean 2 2 rfl ww)), jm, (jl fun _ h => h.own.lb 0 0), (jq fun ww _ => (refBitN m.won 4 4 rfl ww)), (jb fun _ => (or_u _ _ h24a h24b _ _ _)), jm, (jl fun _ h => h.own.li 0 3), (jc fun _ => (conv_u8 _ _)), (jb fun _ => (shl3_u8 _ hq0 hq2 _ _ _)), (jb fun _ => (or_u _ _ h29a h29b _ _ _)), jm, (jl fun _ h => h.own.lb 0 4), (jq fun ww _ => (refBitN m.wr 32 32 rfl ww)), (jb fun _ => (or_u _ _ h33a h33b _ _ _)), jm, (jl fun _ h => h.own.lb 1 12), (jq fun ww _ => (refBitN m.hp 64 64 rfl ww)), (jb fun _ => (or_u _ _ h37a h37b _ _ _)), jm, (jl fun _ h => h.own.lb 1 10), (jq fun ww _ => (refBitN m.hu 128 128 rfl ww)), (jb fun _ => (or_u _ _ h41a h41b _ _ _)), trivial⟩ trivial ?_ ?_
      · intro listed aa ww i o hs hni hcl ho hd hI hh
        have hls : listed.size = 28 := hs
        rcases hh with rfl | rfl | rfl | rfl | hh
        · obtain rfl := pick_op ho rfl
          have HH : Has aa 159 [] := Has.of hI.sz hI.df trivial
          refine wpOp_enter ho gz 17 rfl 76 _ (run_callH HH rfl rfl (fun _ _ => by kernel_rfl)) _ (rowTextR ww.heap.size [] (.slice none 0 0) ({ data := #[77, 81, 84, 84] } : ByteArray) (by decide) ww (RowIs.nil _ _) (Nat.le_refl _) (by simp)) ?_
          rintro v' w' ⟨hrow, hb⟩
          exact hI.ph hls 0 rfl (v') (by rw [show ([0, 4, 77, 81, 84, 84] : List UInt8) = [] ++ strB ({ data := #[77, 81, 84, 84] } : ByteArray) by decide]; exact hrow.base hI.wp.bw) (hI.wp.call hb) ⟨fun h => absurd rfl h, fun _ _ _ _ _ h => h.below hb, fun _ _ _ _ _ h => h.below hb, fun _ _ _ _ _ h => h.below hb, trivial⟩
        · obtain rfl := pick_op ho rfl
          have r_41 := hI.vs _ (ma 24 rfl) (.inr (ran_of hd 24 (by kernel_rfl))) trivial
          have u_41 : aa.eval (.tmp 41) = .int .u8 (((((((cb m.clean 2 ||| cb m.won 4) ||| m.wq.toNat * 8) ||| cb m.wr 32) ||| cb m.hp 64) ||| cb m.hu 128) : Nat) : Int) := r_41
          have HH : Has aa 159 [(41, .int .u8 (((((((cb m.clean 2 ||| cb m.won 4) ||| m.wq.toNat * 8) ||| cb m.wr 32) ||| cb m.hp 64) ||| cb m.hu 128) : Nat) : Int))] := Has.of hI.sz hI.df ⟨u_41, trivial⟩
          obtain ⟨hby, hb⟩ := bytes_lit ww [4, UInt8.ofNat (flagsC m)] [.int .u8 4, .int .u8 (((((((cb m.clean 2 ||| cb m.won 4) ||| m.wq.toNat * 8) ||| cb m.wr 32) ||| cb m.hp 64) ||| cb m.hu 128) : Nat) : Int)] (by rw [hflags] at h41 ⊢; rw [bv_nat _ h41]; rfl) 5 2 rfl
          refine wpOp_go ho gz 42 rfl (.slice (some ⟨ww.heap.size, 0, none⟩) 2 2) (ww.alloc (.cells ([.int .u8 4, .int .u8 (((((((cb m.clean 2 ||| cb m.won 4) ||| m.wq.toNat * 8) ||| cb m.wr 32) ||| cb m.hp 64) ||| cb m.hu 128) : Nat) : Int)] : List Value).toArray 5)) (run_any HH (by intro cs b h; cases h) (by kernel_rfl) (by kernel_rfl)) ?_
          exact hI.ph hls 25 rfl (.slice (some ⟨ww.heap.size, 0, none⟩) 2 2) hby (hI.wp.call hb) ⟨fun _ _ _ _ _ h => h.below hb, fun h => absurd rfl h, fun _ _ _ _ _ h => h.below hb, fun _ _ _ _ _ h => h.below hb, trivial⟩
        · obtain rfl := pick_op ho rfl
          have r_17 := hI.vs _ (ma 0 rfl) (.inr (ran_of hd 0 (by kernel_rfl))) ⟨hni, trivial⟩
          have r_42 := hI.vs _ (ma 25 rfl) (.inr (ran_of hd 25 (by kernel_rfl))) ⟨hni, trivial⟩
          have HH : Has aa 159 [(17, aa.eval (.tmp 17)), (42, aa.eval (.tmp 42))] := Has.of hI.sz hI.df ⟨rfl, rfl, trivial⟩
          obtain ⟨v', w', hrun, hrow, hb0, hg⟩ := run_append_row (P := Tryd.prog) (a := aa) (w := ww) Tryd.underlying31 info_u8 (o := ⟨some 43, _, _, _, _, none⟩) rfl rfl rfl r_17 r_42 (by simp only [List.length_cons, List.length_nil]; omega) hI.wp.bw
          refine wpOp_go ho gz 43 rfl v' w' hrun ?_
          exact hI.ph hls 26 rfl (v') hrow (hI.wp.step hb0) ⟨fun _ h => absurd (by show 26 ∈ ([26] : List Nat); decide) h, fun _ h => absurd (by show 26 ∈ ([26] : List Nat); decide) h, fun h => absurd rfl h, fun _ _ h => absurd (hni.symm.trans (ran_of (hcl 27 _ rfl (h.resolve_left (by rw [hls]; show ¬ 28 ≤ 27; decide))) 26 (by kernel_rfl))) (by decide), trivial⟩
        · obtain rfl := pick_op ho rfl
          have r_43 := hI.vs _ (ma 26 rfl) (.inr (ran_of hd 26 (by kernel_rfl))) trivial
          have HH : Has aa 159 [(43, aa.eval (.tmp 43))] := Has.of hI.sz hI.df ⟨rfl, trivial⟩
          refine wpOp_go ho gz 3 rfl (aa.eval (.tmp 43)) ww (run_move (.inr rfl) (HH.ev rfl)) ?_
          exact hI.ph hls 27 rfl (aa.eval (.tmp 43)) r_43 hI.wp AllC.same
        · exact False.elim hh
      · intro listed a13 w4 hall hI
        have r_3 := hI.vs _ (ma 27 rfl) (.inr (hall 27 (by decide))) trivial
        have H13 : Has a13 159 [(1, .pointer (some ⟨w.heap.size, 0, none⟩)), (4, .pointer (some ⟨w1.heap.size, 0, none⟩)), (3, a13.eval (.tmp 3))] := Has.of hI.sz hI.df ⟨hI.fx.1, hI.fx.2.1, rfl, trivial⟩
        have HB4 := hI.wp
        have R3_4 : RowIs b0 ([0, 4, 77, 81, 84, 84] ++ [4, UInt8.ofNat (flagsC m)]) (a13.eval (.tmp 3)) w4 := r_3
        refine then_normal ?_
        repeat (refine wp_seq ?_)
        have R3 := R3_4
        refine H13.rg 2 fun a15 H15 => ?_
        refine H15.ld 0 (HB4.own.li 1 3) fun a16 H16 => ?_
        refine H16.cl (rowBig b0 m.keep hk0 hk1 _ HB4.bw) ?_
        rintro a17 v47 w5 ⟨R47, hb⟩ H17
        have HB5 := HB4.call hb
        have R3 := R3.below hb
        clear hb
        refine H17.appendRow Tryd.underlying31 info_u8 gz rfl rfl rfl rfl rfl R3 R47.read (by simp only [List.length_append, big_length, List.length_cons, List.length_nil]; omega) HB5.bw ?_
        intro a18 v48 w6 H18 R48 hb _
        have HB6 := HB5.step hb
        clear hb
        refine H18.ms 1 fun a19 H19 => nt ?_
        refine H19.rg 2 fun a21 H21 => ?_
        refine H21.ld 0 (HB6.own.ls 1 1) fun a22 H22 => ?_
        refine H22.cl (rowTextR b0 (([0, 4, 77, 81, 84, 84] ++ [4, UInt8.ofNat (flagsC m)]) ++ big 2 m.keep.toNat) _ m.client hc _ R48 HB6.bw (by simp only [List.length_append, big_length, List.length_cons, List.length_nil]; omega)) ?_
        rintro a23 v52 w7 ⟨R52, hb⟩ H23
        have HB7 := HB6.step hb
        clear hb
        refine H23.ms 1 fun a24 H24 => nt ?_
        refine wp_seq_join (fun a w' => ∃ v, Has a 159 [(1, .pointer (some ⟨w.heap.size, 0, none⟩)), (4, .pointer (some ⟨w1.heap.size, 0, none⟩)), (3, v)] ∧ RowIs b0 (((([0, 4, 77, 81, 84, 84] ++ [4, UInt8.ofNat (flagsC m)]) ++ big 2 m.keep.toNat) ++ strB m.client) ++ (if m.won then strB m.wt ++ strB m.wp else [])) v w' ∧ Base w b0 [(w1.heap.size, (willL m)), (w.heap.size, (mqCells m (.slice A1 m.codes.length c1) (.slice A2 m.wishes.length c2) (.slice A3 m.filters.length c3)))] w') ?_ ?_
        · cases hb54 : m.won with
          | true =>
            refine H24.rg 1 fun a25 H25 => ?_
            refine H25.ld 0 (HB7.own.lb 0 0) fun a26 H26 => nt ?_
            have H26b := H26.keep (l' := [(1, .pointer (some ⟨w.heap.size, 0, none⟩)), (4, .pointer (some ⟨w1.heap.size, 0, none⟩)), (3, v52), (54, .bool true)]) ⟨rfl, rfl, rfl, by first | exact congrArg (fun x => some (Value.bool x)) hb54, trivial⟩
            refine H26b.condT rfl ?_
            have H27 := H26b
            refine H27.dr HB7 [1, 4] rfl [er 0 55 [3] (fun v w => RowIs b0 ((([0, 4, 77, 81, 84, 84] ++ [4, UInt8.ofNat (flagsC m)]) ++ big 2 m.keep.toNat) ++ strB m.client) v w), ec 1 56 (.pointer (some ⟨w1.heap.size, 1, none⟩)), ec 2 57 (.string m.wt), er 3 58 [6] (fun v w => RowIs b0 (((([0, 4, 77, 81, 84, 84] ++ [4, UInt8.ofNat (flagsC m)]) ++ big 2 m.keep.toNat) ++ strB m.client) ++ strB m.wt) v w), ec 4 59 (.pointer (some ⟨w1.heap.size, 2, none⟩)), ec 5 60 (.string m.wp), er 6 61 [] (fun v w => RowIs b0 (((([0, 4, 77, 81, 84, 84] ++ [4, UInt8.ofNat (flagsC m)]) ++ big 2 m.keep.toNat) ++ strB m.client) ++ strB m.wt ++ strB m.wp) v w), er 7 3 [] (fun v w => RowIs b0 (((([0, 4, 77, 81, 84, 84] ++ [4, UInt8.ofNat (flagsC m)]) ++ big 2 m.keep.toNat) ++ strB m.client) ++ strB m.wt ++ strB m.wp) v w), er 1000 3 [3, 7] (fun v w => RowIs b0 ((([0, 4, 77, 81, 84, 84] ++ [4, UInt8.ofNat (flagsC m)]) ++ big 2 m.keep.toNat) ++ strB m.client) v w)] rfl ⟨jm, (jl fun _ h => h.own.ls 0 1), jm, (jl fun _ h => h.own.ls 0 2), trivial⟩ ⟨(by rw [H27.at_ 3 _ rfl]; exact R52.drew), trivial⟩ ?_ ?_
            · intro listed aa ww i o hs hni hcl ho hd hI hh
              have hls : listed.size = 8 := hs
              rcases hh with rfl | rfl | rfl | rfl | hh
              · obtain rfl := pick_op ho rfl
                have r_3 := hI.vs _ (ma 8 rfl) (.inl (by rw [hls]; show 8 ≤ 1000; decide)) ⟨(Bool.eq_false_iff.2 fun h => absurd (hni.symm.trans (ran_of (hcl 3 _ rfl h) 0 (by kernel_rfl))) (by decide)), (Bool.eq_false_iff.2 fun h => absurd (hni.symm.trans (ran_of (hcl 3 _ rfl (ran_of (hcl 6 _ rfl (ran_of (hcl 7 _ rfl h) 6 (by kernel_rfl))) 3 (by kernel_rfl))) 0 (by kernel_rfl))) (by decide)), trivial⟩
                have HH : Has aa 159 [(3, aa.eval (.tmp 3))] := Has.of hI.sz hI.df ⟨rfl, trivial⟩
                refine wpOp_go ho gz 55 rfl (aa.eval (.tmp 3)) ww (run_move (.inl rfl) (HH.ev rfl)) ?_
                exact hI.ph hls 0 rfl (aa.eval (.tmp 3)) r_3 hI.wp AllC.same
              · obtain rfl := pick_op ho rfl
                have r_55 := hI.vs _ (ma 0 rfl) (.inr (ran_of hd 0 (by kernel_rfl))) ⟨hni, trivial⟩
                have r_57 := hI.vs _ (ma 2 rfl) (.inr (ran_of hd 2 (by kernel_rfl))) trivial
                have u_57 : aa.eval (.tmp 57) = .string m.wt := r_57
                have HH : Has aa 159 [(55, aa.eval (.tmp 55)), (57, .string m.wt)] := Has.of hI.sz hI.df ⟨rfl, u_57, trivial⟩
                refine wpOp_enter ho gz 58 rfl 76 _ (run_callH HH rfl rfl (fun _ _ => by kernel_rfl)) _ (rowTextR b0 ((([0, 4, 77, 81, 84, 84] ++ [4, UInt8.ofNat (flagsC m)]) ++ big 2 m.keep.toNat) ++ strB m.client) (aa.eval (.tmp 55)) m.wt ht ww r_55 hI.wp.bw (by simp only [List.length_append, strB_length, big_length, List.length_cons, List.length_nil]; omega)) ?_
                rintro v' w' ⟨hrow, hb0⟩
                exact hI.ph hls 3 rfl (v') hrow (hI.wp.step hb0) ⟨fun _ h => absurd (by show 3 ∈ ([3] : List Nat); decide) h, fun h => absurd rfl h, fun _ _ h => absurd (hni.symm.trans (ran_of (hcl 6 _ rfl (h.resolve_left (by rw [hls]; show ¬ 8 ≤ 6; decide))) 3 (by kernel_rfl))) (by decide), fun _ _ h => absurd (hni.symm.trans (ran_of (hcl 6 _ rfl (ran_of (hcl 7 _ rfl (h.resolve_left (by rw [hls]; show ¬ 8 ≤ 7; decide))) 6 (by kernel_rfl))) 3 (by kernel_rfl))) (by decide), fun _ h => absurd (by show 3 ∈ ([3, 7] : List Nat); decide) h, trivial⟩
              · obtain rfl := pick_op ho rfl
                have r_58 := hI.vs _ (ma 3 rfl) (.inr (ran_of hd 3 (by kernel_rfl))) ⟨hni, trivial⟩
                have r_60 := hI.vs _ (ma 5 rfl) (.inr (ran_of hd 5 (by kernel_rfl))) trivial
                have u_60 : aa.eval (.tmp 60) = .string m.wp := r_60
                have HH : Has aa 159 [(58, aa.eval (.tmp 58)), (60, .string m.wp)] := Has.of hI.sz hI.df ⟨rfl, u_60, trivial⟩
                refine wpOp_enter ho gz 61 rfl 76 _ (run_callH HH rfl rfl (fun _ _ => by kernel_rfl)) _ (rowTextR b0 (((([0, 4, 77, 81, 84, 84] ++ [4, UInt8.ofNat (flagsC m)]) ++ big 2 m.keep.toNat) ++ strB m.client) ++ strB m.wt) (aa.eval (.tmp 58)) m.wp hp ww r_58 hI.wp.bw (by simp only [List.length_append, strB_length, big_length, List.length_cons, List.length_nil]; omega)) ?_
                rintro v' w' ⟨hrow, hb0⟩
                exact hI.ph hls 6 rfl (v') hrow (hI.wp.step hb0) ⟨fun _ _ _ hk => absurd (hk.1.symm.trans (ran_of hd 3 (by kernel_rfl))) (by decide), fun _ h => absurd (by show 6 ∈ ([6] : List Nat); decide) h, fun h => absurd rfl h, fun _ _ h => absurd (hni.symm.trans (ran_of (hcl 7 _ rfl (h.resolve_left (by rw [hls]; show ¬ 8 ≤ 7; decide))) 6 (by kernel_rfl))) (by decide), fun _ _ _ hk => absurd (hk.1.symm.trans (ran_of hd 3 (by kernel_rfl))) (by decide), trivial⟩
              · obtain rfl := pick_op ho rfl
                have r_61 := hI.vs _ (ma 6 rfl) (.inr (ran_of hd 6 (by kernel_rfl))) trivial
                have HH : Has aa 159 [(61, aa.eval (.tmp 61))] := Has.of hI.sz hI.df ⟨rfl, trivial⟩
                refine wpOp_go ho gz 3 rfl (aa.eval (.tmp 61)) ww (run_move (.inr rfl) (HH.ev rfl)) ?_
                exact hI.ph hls 7 rfl (aa.eval (.tmp 61)) r_61 hI.wp AllC.same
              · exact False.elim hh
            · intro listed a28 w8 hall hI
              have r_3 := hI.vs _ (ma 7 rfl) (.inr (hall 7 (by decide))) trivial
              have H28 : Has a28 159 [(1, .pointer (some ⟨w.heap.size, 0, none⟩)), (4, .pointer (some ⟨w1.heap.size, 0, none⟩)), (3, a28.eval (.tmp 3))] := Has.of hI.sz hI.df ⟨hI.fx.1, hI.fx.2.1, rfl, trivial⟩
              have HB8 := hI.wp
              have R3_8 : RowIs b0 (((([0, 4, 77, 81, 84, 84] ++ [4, UInt8.ofNat (flagsC m)]) ++ big 2 m.keep.toNat) ++ strB m.client) ++ strB m.wt ++ strB m.wp) (a28.eval (.tmp 3)) w8 := r_3
              refine then_normal ?_
              exact ⟨_, H28.keep ⟨rfl, rfl, rfl, trivial⟩, (by rw [if_pos rfl, ← List.append_assoc]; exact R3_8), HB8⟩
          | false =>
            refine H24.rg 1 fun a25 H25 => ?_
            refine H25.ld 0 (HB7.own.lb 0 0) fun a26 H26 => nt ?_
            have H26b := H26.keep (l' := [(1, .pointer (some ⟨w.heap.size, 0, none⟩)), (4, .pointer (some ⟨w1.heap.size, 0, none⟩)), (3, v52), (54, .bool false)]) ⟨rfl, rfl, rfl, by first | exact congrArg (fun x => some (Value.bool x)) hb54, trivial⟩
            refine H26b.condF rfl ?_
            refine skip_wp ?_
            refine then_normal ?_
            exact ⟨_, H26b.keep ⟨rfl, rfl, rfl, trivial⟩, (by rw [if_neg (show ¬ (false = true) by decide), List.append_nil]; exact R52), HB7⟩
        · rintro a64 w27 ⟨v3_27, H64, R3_27, HB27⟩
          have hl1 : (if m.won then strB m.wt ++ strB m.wp else []).length ≤ 200000 := by split <;> simp [strB_length] <;> omega
          refine wp_seq_join (fun a w' => ∃ v, Has a 159 [(1, .pointer (some ⟨w.heap.size, 0, none⟩)), (4, .pointer (some ⟨w1.heap.size, 0, none⟩)), (3, v)] ∧ RowIs b0 ((((([0, 4, 77, 81, 84, 84] ++ [4, UInt8.ofNat (flagsC m)]) ++ big 2 m.keep.toNat) ++ strB m.client) ++ (if m.won then strB m.wt ++ strB m.wp else [])) ++ (if m.hu then strB m.user else [])) v w' ∧ Base w b0 [(w1.heap.size, (willL m)), (w.heap.size, (mqCells m (.slice A1 m.codes.length c1) (.slice A2 m.wishes.length c2) (.slice A3 m.filters.length c3)))] w') ?_ ?_
          · cases hb63 : m.hu with
            | true =>
              refine H64.rg 1 fun a65 H65 => ?_
              refine H65.ld 0 (HB27.own.lb 1 10) fun a66 H66 => nt ?_
              have H66b := H66.keep (l' := [(1, .pointer (some ⟨w.heap.size, 0, none⟩)), (4, .pointer (some ⟨w1.heap.size, 0, none⟩)), (3, v3_27), (63, .bool true)]) ⟨rfl, rfl, rfl, by first | exact congrArg (fun x => some (Value.bool x)) hb63, trivial⟩
              refine H66b.condT rfl ?_
              have H67 := H66b
              refine H67.rg 2 fun a69 H69 => ?_
              refine H69.ld 0 (HB27.own.ls 1 9) fun a70 H70 => ?_
              refine H70.cl (rowTextR b0 (((([0, 4, 77, 81, 84, 84] ++ [4, UInt8.ofNat (flagsC m)]) ++ big 2 m.keep.toNat) ++ strB m.client) ++ (if m.won then strB m.wt ++ strB m.wp else [])) _ m.user hu' _ R3_27 HB27.bw (by simp only [List.length_append, strB_length, big_length, List.length_cons, List.length_nil]; omega)) ?_
              rintro a71 v67 w28 ⟨R67, hb⟩ H71
              have HB28 := HB27.step hb
              clear hb
              refine H71.ms 1 fun a72 H72 => nt ?_
              exact ⟨_, H72.keep ⟨rfl, rfl, rfl, trivial⟩, (by rw [if_pos rfl]; exact R67), HB28⟩
            | false =>
              refine H64.rg 1 fun a65 H65 => ?_
              refine H65.ld 0 (HB27.own.lb 1 10) fun a66 H66 => nt ?_
              have H66b := H66.keep (l' := [(1, .pointer (some ⟨w.heap.size, 0, none⟩)), (4, .pointer (some ⟨w1.heap.size, 0, none⟩)), (3, v3_27), (63, .bool false)]) ⟨rfl, rfl, rfl, by first | exact congrArg (fun x => some (Value.bool x)) hb63, trivial⟩
              refine H66b.condF rfl ?_
              refine skip_wp ?_
              refine then_normal ?_
              exact ⟨_, H66b.keep ⟨rfl, rfl, rfl, trivial⟩, (by rw [if_neg (show ¬ (false = true) by decide), List.append_nil]; exact R3_27), HB27⟩
          · rintro a104 w47 ⟨v3_47, H104, R3_47, HB47⟩
            have hl2 : (if m.hu then strB m.user else []).length ≤ 200000 := by split <;> simp [strB_length] <;> omega
            cases hb69 : m.hp with
            | true =>
              refine H104.rg 1 fun a105 H105 => ?_
              refine H105.ld 0 (HB47.own.lb 1 12) fun a106 H106 => nt ?_
              have H106b := H106.keep (l' := [(1, .pointer (some ⟨w.heap.size, 0, none⟩)), (4, .pointer (some ⟨w1.heap.size, 0, none⟩)), (3, v3_47), (69, .bool true)]) ⟨rfl, rfl, rfl, by first | exact congrArg (fun x => some (Value.bool x)) hb69, trivial⟩
              refine H106b.condT rfl ?_
              have H107 := H106b
              refine H107.rg 2 fun a109 H109 => ?_
              refine H109.ld 0 (HB47.own.ls 1 11) fun a110 H110 => ?_
              refine H110.cl (rowTextR b0 ((((([0, 4, 77, 81, 84, 84] ++ [4, UInt8.ofNat (flagsC m)]) ++ big 2 m.keep.toNat) ++ strB m.client) ++ (if m.won then strB m.wt ++ strB m.wp else [])) ++ (if m.hu then strB m.user else [])) _ m.pass hp' _ R3_47 HB47.bw (by simp only [List.length_append, strB_length, big_length, List.length_cons, List.length_nil]; omega)) ?_
              rintro a111 v73 w48 ⟨R73, hb⟩ H111
              have HB48 := HB47.step hb
              clear hb
              refine H111.ms 1 fun a112 H112 => ?_
              refine wpList_nil ?_
              refine block_normal ?_
              refine then_normal ?_
              exact ⟨_, H112.keep ⟨rfl, rfl, trivial⟩, (by rw [pre_1 k1, connect_spell, hb69]; exact RowIs.base (by rw [if_pos rfl]; exact R73) hw3), HB48.low2 hw3 O1⟩
            | false =>
              refine H104.rg 1 fun a105 H105 => ?_
              refine H105.ld 0 (HB47.own.lb 1 12) fun a106 H106 => nt ?_
              have H106b := H106.keep (l' := [(1, .pointer (some ⟨w.heap.size, 0, none⟩)), (4, .pointer (some ⟨w1.heap.size, 0, none⟩)), (3, v3_47), (69, .bool false)]) ⟨rfl, rfl, rfl, by first | exact congrArg (fun x => some (Value.bool x)) hb69, trivial⟩
              refine H106b.condF rfl ?_
              have H107 := H106b
              refine skip_wp ?_
              refine block_normal ?_
              refine then_normal ?_
              exact ⟨_, H107.keep ⟨rfl, rfl, trivial⟩, (by rw [pre_1 k1, connect_spell, hb69]; exact RowIs.base (by rw [if_neg (show ¬ (false = true) by decide), List.append_nil]; exact R3_47) hw3), HB47.low2 hw3 O1⟩
    | false =>
      have k1 : ¬ m.kind = 1 := by simpa using h1
      refine rl ?_
      refine H5.bn 1 (eql_iB _ _ _ h1 _ _ _) fun a7 H7 => nt ?_
      refine H7.condF rfl ?_
      obtain ⟨b2, h2⟩ : ∃ b, (m.kind == 2) = b := ⟨_, rfl⟩
      cases b2 with
      | true =>
        have k2 : m.kind = 2 := by simpa using h2
        refine rl ?_
        refine H7.bn 1 (eql_iB _ _ _ h2 _ _ _) fun a9 H9 => nt ?_
        refine H9.condT rfl ?_
        have HB1 := Base.of O1
        obtain ⟨b0, hb0⟩ : ∃ b0, b0 = w1.heap.size := ⟨_, rfl⟩
        rw [← hb0] at HB1
        have hb0' := hb0
        clear hb0
        have H10 := H9.keep (l' := [(1, .pointer (some ⟨w.heap.size, 0, none⟩))]) ⟨rfl, trivial⟩
        have hc0 := may_ack hm.1 k1 k2
        repeat (refine wp_seq ?_)
        have hb1 : cb m.present 1 < 256 := cb_lt _ _ (by decide)
        refine H10.dr HB1 [1] rfl [ec 0 76 (.pointer (some ⟨w.heap.size, 13, none⟩)), ec 1 77 (.bool m.present), ec 2 78 (.int .u8 ((cb m.present 1 : Nat) : Int)), ec 3 79 (.pointer (some ⟨w.heap.size, 14, none⟩)), ec 4 80 (.int .i64 m.code), ec 5 81 (.int .u8 (m.code % 256)), er 6 82 [] (fun v w => RowIs b0 [UInt8.ofNat (cb m.present 1), UInt8.ofNat m.code.toNat] v w), er 7 3 [] (fun v w => RowIs b0 [UInt8.ofNat (cb m.present 1), UInt8.ofNat m.code.toNat] v w)] rfl ⟨jm, (jl fun _ h => h.own.lb 0 13), (jq fun ww _ => (refBitN m.present 1 1 rfl ww)), jm, (jl fun _ h => h.own.li 0 14), (jc fun _ => (conv_u8 _ _)), trivial⟩ trivial ?_ ?_
        · intro listed aa ww i o hs hni hcl ho hd hI hh
          have hls : listed.size = 8 := hs
          rcases hh with rfl | rfl | hh
          · obtain rfl := pick_op ho rfl
            have u_78 := hI.vs _ (ma 2 rfl) (.inr (ran_of hd 2 (by kernel_rfl))) trivial
            have u_81 := hI.vs _ (ma 5 rfl) (.inr (ran_of hd 5 (by kernel_rfl))) trivial
            have HH : Has aa 159 [(78, .int .u8 ((cb m.present 1 : Nat) : Int)), (81, .int .u8 (m.code % 256))] := Has.of hI.sz hI.df ⟨u_78, u_81, trivial⟩
            have hrw := row_lit ww b0 hI.wp.bw [UInt8.ofNat (cb m.present 1), UInt8.ofNat m.code.toNat] [.int .u8 ((cb m.present 1 : Nat) : Int), .int .u8 (m.code % 256)] (by rw [bv_nat _ hb1, byte_of_int _ hc0]; rfl) 2 rfl (by decide)
            have hb := balloc ww (.cells ([.int .u8 ((cb m.present 1 : Nat) : Int), .int .u8 (m.code % 256)] : List Value).toArray 5)
            refine wpOp_go ho gz 82 rfl (.slice (some ⟨ww.heap.size, 0, none⟩) 2 2) (ww.alloc (.cells ([.int .u8 ((cb m.present 1 : Nat) : Int), .int .u8 (m.code % 256)] : List Value).toArray 5)) (run_any HH (by intro cs b h; cases h) (by kernel_rfl) (by kernel_rfl)) ?_
            exact hI.ph hls 6 rfl (.slice (some ⟨ww.heap.size, 0, none⟩) 2 2) hrw (hI.wp.call hb) ⟨fun h => absurd rfl h, fun _ _ _ _ _ h => h.below hb, trivial⟩
          · obtain rfl := pick_op ho rfl
            have r_82 := hI.vs _ (ma 6 rfl) (.inr (ran_of hd 6 (by kernel_rfl))) trivial
            have HH : Has aa 159 [(82, aa.eval (.tmp 82))] := Has.of hI.sz hI.df ⟨rfl, trivial⟩
            refine wpOp_go ho gz 3 rfl (aa.eval (.tmp 82)) ww (run_move (.inr rfl) (HH.ev rfl)) ?_
            exact hI.ph hls 7 rfl (aa.eval (.tmp 82)) r_82 hI.wp AllC.same
          · exact False.elim hh
        · intro listed a11 w2 hall hI
          have r_3 := hI.vs _ (ma 7 rfl) (.inr (hall 7 (by decide))) trivial
          have H11 : Has a11 159 [(1, .pointer (some ⟨w.heap.size, 0, none⟩)), (3, a11.eval (.tmp 3))] := Has.of hI.sz hI.df ⟨hI.fx.1, rfl, trivial⟩
          have HB2 := hI.wp
          have R3_2 : RowIs b0 [UInt8.ofNat (cb m.present 1), UInt8.ofNat m.code.toNat] (a11.eval (.tmp 3)) w2 := r_3
          refine block_normal ?_
          refine then_normal ?_
          exact ⟨_, H11.keep ⟨rfl, rfl, trivial⟩, (by rw [pre_2 k2]; exact R3_2.base (Nat.le_of_eq hb0'.symm)), HB2.low (Nat.le_of_eq hb0'.symm) O1⟩
      | false =>
        have k2 : ¬ m.kind = 2 := by simpa using h2
        refine rl ?_
        refine H7.bn 1 (eql_iB _ _ _ h2 _ _ _) fun a9 H9 => nt ?_
        refine H9.condF rfl ?_
        obtain ⟨b3, h3⟩ : ∃ b, (m.kind == 3) = b := ⟨_, rfl⟩
        cases b3 with
        | true =>
          have k3 : m.kind = 3 := by simpa using h3
          refine rl ?_
          refine H9.bn 1 (eql_iB _ _ _ h3 _ _ _) fun a11 H11 => nt ?_
          refine H11.condT rfl ?_
          have HB1 := Base.of O1
          obtain ⟨b0, hb0⟩ : ∃ b0, b0 = w1.heap.size := ⟨_, rfl⟩
          rw [← hb0] at HB1
          have hb0' := hb0
          clear hb0
          have H12 := H11.keep (l' := [(1, .pointer (some ⟨w.heap.size, 0, none⟩))]) ⟨rfl, trivial⟩
          obtain ⟨ht, hp, hi0, hi1⟩ := may_pub hm.1 k1 k2 k3
          refine H12.rg 1 fun a13 H13 => ?_
          refine H13.ld 0 (HB1.own.ls 0 19) fun a14 H14 => ?_
          refine H14.cl (rowTextR b0 [] _ m.topic ht _ (RowIs.nil _ _) HB1.bw (by simp)) ?_
          rintro a15 v87 w2 ⟨R87, hb⟩ H15
          have HB2 := HB1.step hb
          clear hb
          refine H15.ms 1 fun a16 H16 => nt ?_
          refine wp_seq_join (fun a w' => ∃ v, Has a 159 [(1, .pointer (some ⟨w.heap.size, 0, none⟩)), (3, v)] ∧ RowIs b0 (([] ++ strB m.topic) ++ (if 0 < m.qos then big 2 m.id.toNat else [])) v w' ∧ Base w b0 [(w.heap.size, (mqCells m (.slice A1 m.codes.length c1) (.slice A2 m.wishes.length c2) (.slice A3 m.filters.length c3)))] w') ?_ ?_
          · skip
            by_cases hq : 0 < m.qos
            · skip
              refine H16.rg 1 fun a17 H17 => ?_
              refine H17.ld 0 (HB2.own.li 0 17) fun a18 H18 => ?_
              refine H18.bb 0 rfl rfl rfl rfl rfl rfl (gtr_i _ _ true (by simpa using hq) _ _ _) rfl fun a19 H19 => nt ?_
              refine H19.condT rfl ?_
              have R3 := R87
              refine H19.rg 2 fun a21 H21 => ?_
              refine H21.ld 0 (HB2.own.li 0 20) fun a22 H22 => ?_
              refine H22.cl (rowBig b0 m.id hi0 hi1 _ HB2.bw) ?_
              rintro a23 v94 w3 ⟨R94, hb⟩ H23
              have HB3 := HB2.call hb
              have R3 := R3.below hb
              clear hb
              refine H23.appendRow Tryd.underlying31 info_u8 gz rfl rfl rfl rfl rfl R3 R94.read (by simp only [List.length_append, strB_length, big_length, List.length_nil]; omega) HB3.bw ?_
              intro a24 v95 w4 H24 R95 hb _
              have HB4 := HB3.step hb
              clear hb
              refine H24.ms 1 fun a25 H25 => nt ?_
              exact ⟨_, H25.keep ⟨rfl, rfl, trivial⟩, (by rw [if_pos hq]; exact R95), HB4⟩
            · skip
              refine H16.rg 1 fun a17 H17 => ?_
              refine H17.ld 0 (HB2.own.li 0 17) fun a18 H18 => ?_
              refine H18.bb 0 rfl rfl rfl rfl rfl rfl (gtr_i _ _ false (by simpa using hq) _ _ _) rfl fun a19 H19 => nt ?_
              refine H19.condF rfl ?_
              refine skip_wp ?_
              refine then_normal ?_
              exact ⟨_, H19.keep ⟨rfl, rfl, trivial⟩, (by rw [if_neg hq, List.append_nil]; exact R87), HB2⟩
          · rintro a46 w12 ⟨v3, H46, R3, HB12⟩
            have hl1 : (if 0 < m.qos then big 2 m.id.toNat else []).length ≤ 2 := by split <;> simp [big_length]
            refine H46.rg 2 fun a48 H48 => ?_
            refine H48.ld 0 (HB12.own.ls 0 21) fun a49 H49 => ?_
            refine H49.appendStr Tryd.underlying31 Tryd.underlying9 info_u8 gz rfl rfl rfl rfl rfl R3 (by simp only [List.length_append, strB_length, List.length_nil]; omega) HB12.bw ?_
            intro a50 v99 w13 H50 R99 hb _
            have HB13 := HB12.step hb
            clear hb
            refine H50.ms 1 fun a51 H51 => ?_
            refine wpList_nil ?_
            refine block_normal ?_
            refine then_normal ?_
            exact ⟨_, H51.keep ⟨rfl, rfl, trivial⟩, (by rw [pre_3 k3, publishBy]; exact R99.base (Nat.le_of_eq hb0'.symm)), HB13.low (Nat.le_of_eq hb0'.symm) O1⟩
        | false =>
          have k3 : ¬ m.kind = 3 := by simpa using h3
          refine rl ?_
          refine H9.bn 1 (eql_iB _ _ _ h3 _ _ _) fun a11 H11 => nt ?_
          refine H11.condF rfl ?_
          refine wp_seq_join (fun a w' => ∃ b, bareKind m.kind = b ∧ Has a 159 [(1, .pointer (some ⟨w.heap.size, 0, none⟩)), (3, .slice none 0 0), (100, .bool b)] ∧ w1 = w') ?_ ?_
          · skip
            obtain ⟨b12, h12⟩ : ∃ b, (m.kind == 12) = b := ⟨_, rfl⟩
            cases b12 with
            | true =>
              refine rl ?_
              refine H11.bn 1 (eql_iB _ _ _ h12 _ _ _) fun a13 H13 => nt ?_
              refine H13.condT rfl ?_
              refine skip_wp ?_
              refine then_normal ?_
              exact ⟨_, (by unfold bareKind; rw [h12] <;> rfl), H13.keep ⟨rfl, rfl, rfl, trivial⟩, rfl⟩
            | false =>
              refine rl ?_
              refine H11.bn 1 (eql_iB _ _ _ h12 _ _ _) fun a13 H13 => nt ?_
              refine H13.condF rfl ?_
              obtain ⟨b13, h13⟩ : ∃ b, (m.kind == 13) = b := ⟨_, rfl⟩
              cases b13 with
              | true =>
                refine rl ?_
                refine H13.bn 1 (eql_iB _ _ _ h13 _ _ _) fun a15 H15 => nt ?_
                refine H15.condT rfl ?_
                refine skip_wp ?_
                refine then_normal ?_
                exact ⟨_, (by unfold bareKind; rw [h12, h13] <;> rfl), H15.keep ⟨rfl, rfl, rfl, trivial⟩, rfl⟩
              | false =>
                refine rl ?_
                refine H13.bn 1 (eql_iB _ _ _ h13 _ _ _) fun a15 H15 => nt ?_
                refine H15.condF rfl ?_
                obtain ⟨b14, h14⟩ : ∃ b, (m.kind == 14) = b := ⟨_, rfl⟩
                cases b14 with
                | true =>
                  refine rl ?_
                  refine H15.bn 1 (eql_iB _ _ _ h14 _ _ _) fun a17 H17 => nt ?_
                  exact ⟨_, (by unfold bareKind; rw [h12, h13, h14] <;> rfl), H17.keep ⟨rfl, rfl, rfl, trivial⟩, rfl⟩
                | false =>
                  refine rl ?_
                  refine H15.bn 1 (eql_iB _ _ _ h14 _ _ _) fun a17 H17 => nt ?_
                  exact ⟨_, (by unfold bareKind; rw [h12, h13, h14] <;> rfl), H17.keep ⟨rfl, rfl, rfl, trivial⟩, rfl⟩
          rintro a12 _ ⟨v100, q100, H12, rfl⟩
          cases v100 with
          | true =>
            have HB1 := Base.of O1
            obtain ⟨b0, hb0⟩ : ∃ b0, b0 = w1.heap.size := ⟨_, rfl⟩
            rw [← hb0] at HB1
            have hb0' := hb0
            clear hb0
            refine H12.condT rfl ?_
            refine skip_wp ?_
            refine block_normal ?_
            refine then_normal ?_
            exact ⟨_, H12.keep ⟨rfl, rfl, trivial⟩, (by rw [pre_b k1 k2 k3 q100]; exact (RowIs.nil b0 _).base (Nat.le_of_eq hb0'.symm)), HB1.low (Nat.le_of_eq hb0'.symm) O1⟩
          | false =>
            have hi := may_id hm.1 k1 k2 k3 q100
            have HB1 := Base.of O1
            obtain ⟨b0, hb0⟩ : ∃ b0, b0 = w1.heap.size := ⟨_, rfl⟩
            rw [← hb0] at HB1
            have hb0' := hb0
            clear hb0
            refine H12.condF rfl ?_
            refine H12.rg 1 fun a13 H13 => ?_
            refine H13.ld 0 (HB1.own.li 0 20) fun a14 H14 => ?_
            refine H14.cl (rowBig b0 m.id hi.1 hi.2 _ HB1.bw) ?_
            rintro a15 v12 w2 ⟨R12, hb⟩ H15
            have HB2 := HB1.call hb
            clear hb
            refine H15.ms 1 fun a16 H16 => ?_
            refine wpList_nil ?_
            refine block_normal ?_
            refine then_normal ?_
            exact ⟨_, H16.keep ⟨rfl, rfl, trivial⟩, (by rw [pre_i k1 k2 k3 q100]; exact R12.base (Nat.le_of_eq hb0'.symm)), HB2.low (Nat.le_of_eq hb0'.symm) O1⟩
  rintro a4 w2 ⟨v3, H4, R3, HB2⟩
  obtain ⟨b0, hb0'⟩ : ∃ b0, b0 = w1.heap.size := ⟨_, rfl⟩
  rw [← hb0'] at R3 HB2
  refine wp_seq_join (fun a w' => ∃ v, Has a 159 [(1, .pointer (some ⟨w.heap.size, 0, none⟩)), (3, v)] ∧ RowIs b0 ((preBy m) ++ wishesBy m.wishes) v w' ∧ Base w b0 [(w.heap.size, (mqCells m (.slice A1 m.codes.length c1) (.slice A2 m.wishes.length c2) (.slice A3 m.filters.length c3)))] w') ?_ ?_
  · skip
    refine H4.rg 1 fun a5 H5 => nt ?_
    refine wp_block ?_
    refine wp_loop_up m.wishes.length (fun k a w' => ∃ v, Has a 159 [(1, .pointer (some ⟨w.heap.size, 0, none⟩)), (3, v), (5, .int .i64 ((k : Nat) : Int))] ∧ RowIs b0 ((preBy m) ++ wishesBy (m.wishes.take k)) v w' ∧ Base w b0 [(w.heap.size, (mqCells m (.slice A1 m.codes.length c1) (.slice A2 m.wishes.length c2) (.slice A3 m.filters.length c3)))] w') ?_ ?_
    · exact ⟨_, H5.keep ⟨rfl, rfl, rfl, trivial⟩, (by rw [List.take_zero]; simpa [wishesBy] using R3), HB2⟩
    · rintro k a6 w3 hkn ⟨v3, H6, R3, HB3⟩
      have hlb : (wishesBy (m.wishes.take k)).length ≤ 1000 := by
        have := wishesBy_le _ (wishesAll_take k hwa); rw [List.length_take] at this; omega
      by_cases hlt : k < m.wishes.length
      · skip
        refine H6.rg 2 fun a8 H8 => ?_
        refine H8.ld 0 (HB3.own.l7 0 22) fun a9 H9 => ?_
        refine H9.len gz rfl rfl rfl rfl Tryd.underlying27 ?_
        intro a10 H10
        refine H10.bb 0 rfl rfl rfl rfl rfl rfl (lss_i _ _ true (by simpa using hlt) _ _ _) rfl fun a11 H11 => nt ?_
        refine H11.condT rfl ?_
        refine skip_wp ?_
        refine then_normal ?_
        repeat (refine wp_seq ?_)
        refine wp_block ?_
        obtain ⟨gb, go, x, hA, hgb, hx, hc0, hc1⟩ := Reads.wish r2 rfl hlt
        obtain ⟨hxs, hx0, hx1⟩ := wishesAll_get hwa hx
        obtain ⟨g5, hg5⟩ : ∃ g5, g5 = w3.heap.size := ⟨_, rfl⟩
        have hfar : ∀ g, g5 ≤ g → some g ≠ v3.ownBlock := fun g hg => R3.away (.inr (hg5 ▸ hg))
        refine H11.dr HB3 [1, 5] rfl [er 0 111 [7] (fun v w => v = v3 ∧ RowIs b0 ((preBy m) ++ wishesBy (m.wishes.take k)) v w), ec 1 112 (.pointer (some ⟨w.heap.size, 22, none⟩)), ec 2 113 (.slice A2 m.wishes.length c2), ec 3 114 (.int .i64 ((k : Nat) : Int)), ec 4 115 (.pointer (some ⟨gb, go + k * 2, none⟩)), ec 5 116 (.pointer (some ⟨gb, go + k * 2, none⟩)), ec 6 117 (.string x.1), er 7 118 [16] (fun v w => RowIs b0 (((preBy m) ++ wishesBy (m.wishes.take k)) ++ strB x.1) v w), ec 8 119 (.pointer (some ⟨w.heap.size, 22, none⟩)), ec 9 120 (.slice A2 m.wishes.length c2), ec 10 121 (.int .i64 ((k : Nat) : Int)), ec 11 122 (.pointer (some ⟨gb, go + k * 2, none⟩)), ec 12 123 (.pointer (some ⟨gb, go + k * 2 + 1, none⟩)), ec 13 124 (.int .i64 x.2), ec 14 125 (.int .u8 (x.2 % 256)), er 15 126 [16] (fun v w => ∃ g, v = .slice (some ⟨g, 0, none⟩) 1 1 ∧ g5 ≤ g ∧ g < w.heap.size ∧ BytesAre [UInt8.ofNat x.2.toNat] v w), er 16 127 [] (fun v w => RowIs b0 ((((preBy m) ++ wishesBy (m.wishes.take k)) ++ strB x.1) ++ [UInt8.ofNat x.2.toNat]) v w), er 17 3 [] (fun v w => RowIs b0 ((((preBy m) ++ wishesBy (m.wishes.take k)) ++ strB x.1) ++ [UInt8.ofNat x.2.toNat]) v w), er 1000 3 [7, 17] (fun v w => v = v3 ∧ RowIs b0 ((preBy m) ++ wishesBy (m.wishes.take k)) v w), er 1001 158 [] (fun _ w => g5 ≤ w.heap.size)] rfl ⟨jm, (jl fun _ h => h.own.l7 0 22), jm, (jI rfl rfl rfl rfl rfl rfl fun ww => (show (Instr.indexAt 27 (.slice A2 m.wishes.length c2) (.int .i64 ((k : Nat) : Int))).run Tryd.prog ww = .ok (.pointer (some ⟨gb, go + k * 2, none⟩)) ww by rw [hA]; exact index_2 27 Tryd.underlying27 (fun _ => by kernel_rfl) _ _ _ _ _ hlt _)), (jf (fun g w => fieldO_0 (go + k * 2) g w)), (jl fun _ h => (load1_s _ _ _ _ ((cellB h.own.bel hgb).trans hc0))), jm, (jl fun _ h => h.own.l7 0 22), jm, (jI rfl rfl rfl rfl rfl rfl fun ww => (show (Instr.indexAt 27 (.slice A2 m.wishes.length c2) (.int .i64 ((k : Nat) : Int))).run Tryd.prog ww = .ok (.pointer (some ⟨gb, go + k * 2, none⟩)) ww by rw [hA]; exact index_2 27 Tryd.underlying27 (fun _ => by kernel_rfl) _ _ _ _ _ hlt _)), (jf (fun g w => fieldO_1 (go + k * 2) g w)), (jl fun _ h => (load1_i _ _ _ _ ((cellB h.own.bel hgb).trans hc1))), (jc fun _ => (conv_u8 _ _)), trivial⟩ ⟨(by rw [H11.at_ 3 _ rfl]; exact ⟨rfl, R3.drew⟩), (Nat.le_of_eq hg5), trivial⟩ ?_ ?_
        · intro listed aa ww i o hs hni hcl ho hd hI hh
          have hls : listed.size = 18 := hs
          rcases hh with rfl | rfl | rfl | rfl | rfl | hh
          · obtain rfl := pick_op ho rfl
            have r3 := hI.vs _ (ma 18 rfl) (.inl (by rw [hls]; show 18 ≤ 1000; decide)) ⟨(Bool.eq_false_iff.2 fun h => absurd (hni.symm.trans (ran_of (hcl 7 _ rfl h) 0 (by kernel_rfl))) (by decide)), (Bool.eq_false_iff.2 fun h => absurd (hni.symm.trans (ran_of (hcl 7 _ rfl (ran_of (hcl 16 _ rfl (ran_of (hcl 17 _ rfl h) 16 (by kernel_rfl))) 7 (by kernel_rfl))) 0 (by kernel_rfl))) (by decide)), trivial⟩
            refine wpOp_go ho gz 111 rfl (aa.eval (.tmp 3)) ww (run_move (.inl rfl) rfl) ?_
            exact hI.ph hls 0 rfl (aa.eval (.tmp 3)) r3 hI.wp AllC.same
          · obtain rfl := pick_op ho rfl
            have r111 := hI.vs _ (ma 0 rfl) (.inr (ran_of hd 0 (by kernel_rfl))) ⟨hni, trivial⟩
            obtain ⟨e111, hR⟩ := r111
            have r117 := hI.vs _ (ma 6 rfl) (.inr (ran_of hd 6 (by kernel_rfl))) trivial
            have HH : Has aa 159 [(111, v3), (117, .string x.1)] := Has.of hI.sz hI.df ⟨e111, r117, trivial⟩
            rw [e111] at hR
            refine wpOp_enter ho gz 118 rfl 76 _ (run_callH HH rfl rfl (fun _ _ => by kernel_rfl)) _ (rowTextRG b0 ((preBy m) ++ wishesBy (m.wishes.take k)) v3 x.1 (by omega) ww hR hI.wp.bw (by simp only [List.length_append]; omega)) ?_
            rintro v' w' ⟨hrow, hb0, hK⟩
            exact hI.ph hls 7 rfl (v') hrow (hI.wp.step hb0) ⟨fun _ h => absurd (by show 7 ∈ ([7] : List Nat); decide) h, fun h => absurd rfl h, fun _ _ _ _ _ h => lit_keep hK hfar hb0.size h, fun _ _ h => absurd (hni.symm.trans (ran_of (hcl 16 _ rfl (h.resolve_left (by rw [hls]; show ¬ 18 ≤ 16; decide))) 7 (by kernel_rfl))) (by decide), fun _ _ h => absurd (hni.symm.trans (ran_of (hcl 16 _ rfl (ran_of (hcl 17 _ rfl (h.resolve_left (by rw [hls]; show ¬ 18 ≤ 17; decide))) 16 (by kernel_rfl))) 7 (by kernel_rfl))) (by decide), fun _ h => absurd (by show 7 ∈ ([7, 17] : List Nat); decide) h, fun _ _ _ _ _ h => Nat.le_trans h hb0.size, trivial⟩
          · obtain rfl := pick_op ho rfl
            have r125 := hI.vs _ (ma 14 rfl) (.inr (ran_of hd 14 (by kernel_rfl))) trivial
            have rbox := hI.vs _ (ma 19 rfl) (.inl (by rw [hls]; show 18 ≤ 1001; decide)) trivial
            have hg5 : g5 ≤ ww.heap.size := rbox
            have HH : Has aa 159 [(125, .int .u8 (x.2 % 256))] := Has.of hI.sz hI.df ⟨r125, trivial⟩
            obtain ⟨hby, hb⟩ := bytes_lit ww [UInt8.ofNat x.2.toNat] [.int .u8 (x.2 % 256)] (by rw [byte_of_int _ hx0]; rfl) 5 1 rfl
            refine wpOp_go ho gz 126 rfl (.slice (some ⟨ww.heap.size, 0, none⟩) 1 1) (ww.alloc (.cells ([.int .u8 (x.2 % 256)] : List Value).toArray 5)) (run_any HH (by intro cs b h; cases h) (by kernel_rfl) (by kernel_rfl)) ?_
            exact hI.ph hls 15 rfl (.slice (some ⟨ww.heap.size, 0, none⟩) 1 1) ⟨_, rfl, hg5, lt_alloc ww _, hby⟩ (hI.wp.call hb) ⟨fun _ _ _ _ _ h => ⟨h.1, h.2.below hb⟩, fun _ _ _ _ _ h => h.below hb, fun h => absurd rfl h, fun _ _ _ _ _ h => h.below hb, fun _ _ _ _ _ h => h.below hb, fun _ _ _ _ _ h => ⟨h.1, h.2.below hb⟩, fun _ _ _ _ _ h => Nat.le_trans h hb.size, trivial⟩
          · obtain rfl := pick_op ho rfl
            have r118 := hI.vs _ (ma 7 rfl) (.inr (ran_of hd 7 (by kernel_rfl))) ⟨hni, trivial⟩
            have r126 := hI.vs _ (ma 15 rfl) (.inr (ran_of hd 15 (by kernel_rfl))) ⟨hni, trivial⟩
            obtain ⟨_, _, _, _, hby⟩ := r126
            obtain ⟨v', w', hrun, hrow, hb0, hg⟩ := run_append_row (P := Tryd.prog) (a := aa) (w := ww) Tryd.underlying31 info_u8 (o := ⟨some 127, _, _, _, _, none⟩) rfl rfl rfl r118 hby (by simp only [List.length_append, strB_length, List.length_cons, List.length_nil]; omega) hI.wp.bw
            refine wpOp_go ho gz 127 rfl v' w' hrun ?_
            exact hI.ph hls 16 rfl (v') hrow (hI.wp.step hb0) ⟨fun _ _ _ hk => absurd (hk.1.symm.trans (ran_of hd 7 (by kernel_rfl))) (by decide), fun _ h => absurd (by show 16 ∈ ([16] : List Nat); decide) h, fun _ h => absurd (by show 16 ∈ ([16] : List Nat); decide) h, fun h => absurd rfl h, fun _ _ h => absurd (hni.symm.trans (ran_of (hcl 17 _ rfl (h.resolve_left (by rw [hls]; show ¬ 18 ≤ 17; decide))) 16 (by kernel_rfl))) (by decide), fun _ _ _ hk => absurd (hk.1.symm.trans (ran_of hd 7 (by kernel_rfl))) (by decide), fun _ _ _ _ _ h => Nat.le_trans h hb0.size, trivial⟩
          · obtain rfl := pick_op ho rfl
            have r_127 := hI.vs _ (ma 16 rfl) (.inr (ran_of hd 16 (by kernel_rfl))) trivial
            have HH : Has aa 159 [(127, aa.eval (.tmp 127))] := Has.of hI.sz hI.df ⟨rfl, trivial⟩
            refine wpOp_go ho gz 3 rfl (aa.eval (.tmp 127)) ww (run_move (.inr rfl) (HH.ev rfl)) ?_
            exact hI.ph hls 17 rfl (aa.eval (.tmp 127)) r_127 hI.wp AllC.same
          · exact False.elim hh
        · intro listed a12 w4 hall hI
          have r_3 := hI.vs _ (ma 17 rfl) (.inr (hall 17 (by decide))) trivial
          have H12 : Has a12 159 [(1, .pointer (some ⟨w.heap.size, 0, none⟩)), (5, .int .i64 ((k : Nat) : Int)), (3, a12.eval (.tmp 3))] := Has.of hI.sz hI.df ⟨hI.fx.1, hI.fx.2.1, rfl, trivial⟩
          have HB4 := hI.wp
          have R3_4 : RowIs b0 ((((preBy m) ++ wishesBy (m.wishes.take k)) ++ strB x.1) ++ [UInt8.ofNat x.2.toNat]) (a12.eval (.tmp 3)) w4 := r_3
          refine block_normal ?_
          refine then_normal ?_
          refine H12.rg 1 fun a13 H13 => ?_
          refine H13.bb 1 rfl rfl rfl rfl rfl rfl (succ_i _ (by omega) _ _ _) rfl fun a15 H15 => nt ?_
          exact ⟨hlt, _, H15.keep ⟨rfl, rfl, rfl, trivial⟩, (by rw [take_snoc? _ _ _ hx, wishesBy_app, ← List.append_assoc, ← List.append_assoc]; exact R3_4), HB4⟩
      · skip
        refine H6.rg 2 fun a8 H8 => ?_
        refine H8.ld 0 (HB3.own.l7 0 22) fun a9 H9 => ?_
        refine H9.len gz rfl rfl rfl rfl Tryd.underlying27 ?_
        intro a10 H10
        refine H10.bb 0 rfl rfl rfl rfl rfl rfl (lss_i _ _ false (by simpa using hlt) _ _ _) rfl fun a11 H11 => nt ?_
        refine H11.condF rfl ?_
        refine wp_exit ?_
        repeat (with_reducible refine then_exit ?_)
        refine block_leave ?_
        refine then_normal ?_
        rw [List.take_of_length_le (by omega)] at R3
        exact ⟨_, H11.keep ⟨rfl, rfl, trivial⟩, R3, HB3⟩
  rintro a5 w3 ⟨v3, H5, R3, HB3⟩
  refine wp_seq_join (fun a w' => ∃ v, Has a 159 [(1, .pointer (some ⟨w.heap.size, 0, none⟩)), (3, v)] ∧ RowIs b0 (((preBy m) ++ wishesBy m.wishes) ++ codesBy m.codes) v w' ∧ Base w b0 [(w.heap.size, (mqCells m (.slice A1 m.codes.length c1) (.slice A2 m.wishes.length c2) (.slice A3 m.filters.length c3)))] w') ?_ ?_
  · skip
    refine H5.rg 1 fun a6 H6 => nt ?_
    refine wp_block ?_
    refine wp_loop_up m.codes.length (fun k a w' => ∃ v, Has a 159 [(1, .pointer (some ⟨w.heap.size, 0, none⟩)), (3, v), (6, .int .i64 ((k : Nat) : Int))] ∧ RowIs b0 (((preBy m) ++ wishesBy m.wishes) ++ codesBy (m.codes.take k)) v w' ∧ Base w b0 [(w.heap.size, (mqCells m (.slice A1 m.codes.length c1) (.slice A2 m.wishes.length c2) (.slice A3 m.filters.length c3)))] w') ?_ ?_
    · exact ⟨_, H6.keep ⟨rfl, rfl, rfl, trivial⟩, (by rw [List.take_zero]; simpa [codesBy] using R3), HB3⟩
    · rintro k a7 w4 hkn ⟨v3, H7, R3, HB4⟩
      have hlb : (codesBy (m.codes.take k)).length ≤ 1000 := by
        rw [codesBy_le, List.length_take]; omega
      by_cases hlt : k < m.codes.length
      · skip
        refine H7.rg 2 fun a9 H9 => ?_
        refine H9.ld 0 (HB4.own.l6 0 15) fun a10 H10 => ?_
        refine H10.len gz rfl rfl rfl rfl Tryd.underlying26 ?_
        intro a11 H11
        refine H11.bb 0 rfl rfl rfl rfl rfl rfl (lss_i _ _ true (by simpa using hlt) _ _ _) rfl fun a12 H12 => nt ?_
        refine H12.condT rfl ?_
        refine skip_wp ?_
        refine then_normal ?_
        repeat (refine wp_seq ?_)
        refine wp_block ?_
        obtain ⟨gb, go, x, hA, hgb, hx, hcell⟩ := Reads.int (r1.below HB4.own.bel) rfl hlt
        obtain ⟨hx0, hx1⟩ := codesAll_get hca hx
        refine H12.rg 2 fun a14 H14 => ?_
        refine H14.ld 1 (HB4.own.l6 0 15) fun a16 H16 => ?_
        refine H16.index gz rfl rfl rfl rfl rfl (show (Instr.indexAt 26 (.slice A1 m.codes.length c1) (.int .i64 ((k : Nat) : Int))).run Tryd.prog _ = .ok (.pointer (some ⟨gb, go + k, none⟩)) _ by rw [hA]; exact index_1 26 Tryd.underlying26 (fun _ => by kernel_rfl) _ _ _ _ _ hlt _) ?_
        intro a17 H17
        refine H17.ld 0 (load1_i _ _ _ _ hcell) fun a18 H18 => ?_
        refine H18.cv 0 (conv_u8 _ _) fun a19 H19 => ?_
        refine H19.bytes gz rfl rfl [UInt8.ofNat x.toNat] [.int .u8 (x % 256)] (by rw [byte_of_int _ hx0]; rfl) (k := 1) rfl 5 (by intro cs b h; cases h) (by kernel_rfl) (by kernel_rfl) ?_
        intro a20 v142 w5 H20 B142 hb
        have HB5 := HB4.call hb
        have R3 := R3.below hb
        clear hb
        refine H20.appendRow Tryd.underlying31 info_u8 gz rfl rfl rfl rfl rfl R3 B142 (by simp only [List.length_append, List.length_cons, List.length_nil]; omega) HB5.bw ?_
        intro a21 v143 w6 H21 R143 hb _
        have HB6 := HB5.step hb
        clear hb
        refine H21.ms 1 fun a22 H22 => ?_
        refine wpList_nil ?_
        refine block_normal ?_
        refine then_normal ?_
        refine H22.rg 1 fun a23 H23 => ?_
        refine H23.bb 1 rfl rfl rfl rfl rfl rfl (succ_i _ (by omega) _ _ _) rfl fun a25 H25 => nt ?_
        exact ⟨hlt, _, H25.keep ⟨rfl, rfl, rfl, trivial⟩, (by rw [take_snoc? _ _ _ hx, codesBy_app, ← List.append_assoc]; exact R143), HB6⟩
      · skip
        refine H7.rg 2 fun a9 H9 => ?_
        refine H9.ld 0 (HB4.own.l6 0 15) fun a10 H10 => ?_
        refine H10.len gz rfl rfl rfl rfl Tryd.underlying26 ?_
        intro a11 H11
        refine H11.bb 0 rfl rfl rfl rfl rfl rfl (lss_i _ _ false (by simpa using hlt) _ _ _) rfl fun a12 H12 => nt ?_
        refine H12.condF rfl ?_
        refine wp_exit ?_
        repeat (with_reducible refine then_exit ?_)
        refine block_leave ?_
        refine then_normal ?_
        rw [List.take_of_length_le (by omega)] at R3
        exact ⟨_, H12.keep ⟨rfl, rfl, trivial⟩, R3, HB4⟩
  rintro a6 w4 ⟨v3, H6, R3, HB4⟩
  refine wp_seq_join (fun a w' => ∃ v, Has a 159 [(1, .pointer (some ⟨w.heap.size, 0, none⟩)), (3, v)] ∧ RowIs b0 ((((preBy m) ++ wishesBy m.wishes) ++ codesBy m.codes) ++ filtersBy m.filters) v w' ∧ Base w b0 [(w.heap.size, (mqCells m (.slice A1 m.codes.length c1) (.slice A2 m.wishes.length c2) (.slice A3 m.filters.length c3)))] w') ?_ ?_
  · skip
    refine H6.rg 1 fun a7 H7 => nt ?_
    refine wp_block ?_
    refine wp_loop_up m.filters.length (fun k a w' => ∃ v, Has a 159 [(1, .pointer (some ⟨w.heap.size, 0, none⟩)), (3, v), (7, .int .i64 ((k : Nat) : Int))] ∧ RowIs b0 ((((preBy m) ++ wishesBy m.wishes) ++ codesBy m.codes) ++ filtersBy (m.filters.take k)) v w' ∧ Base w b0 [(w.heap.size, (mqCells m (.slice A1 m.codes.length c1) (.slice A2 m.wishes.length c2) (.slice A3 m.filters.length c3)))] w') ?_ ?_
    · exact ⟨_, H7.keep ⟨rfl, rfl, rfl, trivial⟩, (by rw [List.take_zero]; simpa [filtersBy] using R3), HB4⟩
    · rintro k a8 w5 hkn ⟨v3, H8, R3, HB5⟩
      have hlb : (filtersBy (m.filters.take k)).length ≤ 1000 := by
        have := filtersBy_le _ (filtersAll_take k hfa); rw [List.length_take] at this; omega
      by_cases hlt : k < m.filters.length
      · skip
        refine H8.rg 2 fun a10 H10 => ?_
        refine H10.ld 0 (HB5.own.l8 0 23) fun a11 H11 => ?_
        refine H11.len gz rfl rfl rfl rfl Tryd.underlying28 ?_
        intro a12 H12
        refine H12.bb 0 rfl rfl rfl rfl rfl rfl (lss_i _ _ true (by simpa using hlt) _ _ _) rfl fun a13 H13 => nt ?_
        refine H13.condT rfl ?_
        refine skip_wp ?_
        refine then_normal ?_
        repeat (refine wp_seq ?_)
        refine wp_block ?_
        obtain ⟨gb, go, x, hA, hgb, hx, hcell⟩ := Reads.str (r3.below HB5.own.bel) rfl hlt
        have hxs := filtersAll_get hfa hx
        refine H13.rg 2 fun a15 H15 => ?_
        refine H15.ld 1 (HB5.own.l8 0 23) fun a17 H17 => ?_
        refine H17.index gz rfl rfl rfl rfl rfl (show (Instr.indexAt 28 (.slice A3 m.filters.length c3) (.int .i64 ((k : Nat) : Int))).run Tryd.prog _ = .ok (.pointer (some ⟨gb, go + k, none⟩)) _ by rw [hA]; exact index_1 28 Tryd.underlying28 (fun _ => by kernel_rfl) _ _ _ _ _ hlt _) ?_
        intro a18 H18
        refine H18.ld 0 (load1_s _ _ _ _ hcell) fun a19 H19 => ?_
        refine H19.cl (rowTextR b0 ((((preBy m) ++ wishesBy m.wishes) ++ codesBy m.codes) ++ filtersBy (m.filters.take k)) _ x (by omega) _ R3 HB5.bw (by simp only [List.length_append]; omega)) ?_
        rintro a20 v157 w6 ⟨R157, hb⟩ H20
        have HB6 := HB5.step hb
        clear hb
        refine H20.ms 1 fun a21 H21 => ?_
        refine wpList_nil ?_
        refine block_normal ?_
        refine then_normal ?_
        refine H21.rg 1 fun a22 H22 => ?_
        refine H22.bb 1 rfl rfl rfl rfl rfl rfl (succ_i _ (by omega) _ _ _) rfl fun a24 H24 => nt ?_
        exact ⟨hlt, _, H24.keep ⟨rfl, rfl, rfl, trivial⟩, (by rw [take_snoc? _ _ _ hx, filtersBy_app, ← List.append_assoc]; exact R157), HB6⟩
      · skip
        refine H8.rg 2 fun a10 H10 => ?_
        refine H10.ld 0 (HB5.own.l8 0 23) fun a11 H11 => ?_
        refine H11.len gz rfl rfl rfl rfl Tryd.underlying28 ?_
        intro a12 H12
        refine H12.bb 0 rfl rfl rfl rfl rfl rfl (lss_i _ _ false (by simpa using hlt) _ _ _) rfl fun a13 H13 => nt ?_
        refine H13.condF rfl ?_
        refine wp_exit ?_
        repeat (with_reducible refine then_exit ?_)
        refine block_leave ?_
        refine then_normal ?_
        rw [List.take_of_length_le (by omega)] at R3
        exact ⟨_, H13.keep ⟨rfl, rfl, trivial⟩, R3, HB5⟩
  rintro a7 w5 ⟨v3, H7, R3, HB5⟩
  refine H7.rg 2 fun a9 H9 => nt ?_
  refine wp_ret ?_
  repeat (first | (with_reducible refine block_ret ?_) | (with_reducible refine then_ret ?_))
  refine bodyPost_ret (results_tmp rfl _ _ _) H9.df ⟨_, congrArg Ending.returned (H9.at_ 2 _ rfl), ?_, HB5.own.bel⟩
  rw [body_pre hm]
  exact R3.base (by rw [hb0']; omega)
end Go.Proofs.YtkcdkjpmbjcmdaaDoor

/-
  The page's Bytes.
-/
namespace Go.Proofs.YtkcdkjpmbjcmdaaDoor
open Go.RowKit

theorem Laid.bytes {xs : List UInt8} {w w' : World} {e : Ending} (h : Laid xs w e w') : ∃ v', e = .returned v' ∧ (BytesAre xs v' w' ∧ Below w.heap.size w w') := by
  obtain ⟨v, rfl, hr, hbl⟩ := h
  exact ⟨v, rfl, hr.read, hbl⟩
theorem shl1_u8 (k : Int) (h0 : 0 ≤ k) (h2 : k ≤ 2) (x y : Operand) (w : World) : (do eqGuard .shl 5 x y (.int .u8 (k % 256)) (.int .u64 1); binOp .shl 5 (.int .u8 (k % 256)) (.int .u64 1) : Sem Value).run Tryd.prog w = .ok (.int .u8 ((2 * k.toNat : Nat) : Int)) w := by
  have : k = 0 ∨ k = 1 ∨ k = 2 := by omega
  rcases this with rfl | rfl | rfl <;> simp [go_sem] <;> rfl
theorem shl4_u8 (k : Int) (h0 : 0 ≤ k) (h2 : k ≤ 14) (x y : Operand) (w : World) : (do eqGuard .shl 5 x y (.int .u8 (k % 256)) (.int .u64 4); binOp .shl 5 (.int .u8 (k % 256)) (.int .u64 4) : Sem Value).run Tryd.prog w = .ok (.int .u8 ((16 * k.toNat : Nat) : Int)) w := by
  obtain ⟨n, rfl⟩ : ∃ n : Nat, k = n := ⟨k.toNat, by omega⟩
  have e : IntKind.u8.wrap ((n : Int) % 256 * 16) = ((16 * n : Nat) : Int) := by
    show ((n : Int) % 256 * 16) % 256 = _
    omega
  simp [go_sem]
  rw [e]
  omega
theorem rem128 (n : Nat) (x y : Operand) (w : World) : (do eqGuard .rem 3 x y (.int .i64 (n : Int)) (.int .i64 128); binOp .rem 3 (.int .i64 (n : Int)) (.int .i64 128) : Sem Value).run Tryd.prog w = .ok (.int .i64 ((n % 128 : Nat) : Int)) w := by
  simp [go_sem]
  rw [Int.tmod_eq_emod_of_nonneg (by omega)]
theorem quo128 (n : Nat) (h : n < 16384) (x y : Operand) (w : World) : (do eqGuard .quo 3 x y (.int .i64 (n : Int)) (.int .i64 128); binOp .quo 3 (.int .i64 (n : Int)) (.int .i64 128) : Sem Value).run Tryd.prog w = .ok (.int .i64 ((n / 128 : Nat) : Int)) w := by
  simp [go_sem]
  exact IntWalk.i64_in _ (by omega)
theorem conv_u8n (n : Nat) (h : n < 256) (w : World) : (convert 3 5 (.int .i64 (n : Int))).run Tryd.prog w = .ok (.int .u8 (n : Int)) w := by
  rw [conv_u8]
  congr 2
  omega
theorem or128n (n : Nat) : (n % 128 ||| 128) = n % 128 + 128 := by
  have h : (128 ||| n % 128) = 128 + n % 128 := (Nat.two_pow_add_eq_or_of_lt (i := 7) (show n % 128 < 2 ^ 7 by omega) 1).symm
  rw [Nat.or_comm, h, Nat.add_comm]
set_option maxRecDepth 100000 in
set_option maxHeartbeats 3200000 in
theorem refBytes (m : Mq) (vc vw vf : Value) (w : World) (hm : mayB m) (hL : MqL w w.heap.size m vc vw vf) :
    Calls Tryd.prog 29 #[.agg (mqCells m vc vw vf).toArray] w (Laid (layB m) w) := by
  have hbl := body_le hm.1
  have hfl := flagsBy_le hm.1
  have hkk := may_kind hm.1
  have hor : ((16 * m.kind.toNat : Nat) ||| flagsBy m) = 16 * m.kind.toNat + flagsBy m := or16 _ _ (by omega)
  go_enter Tryd.func29, Tryd.ntmps29
  refine Has.start 57 [(0, .agg (mqCells m vc vw vf).toArray)] rfl rfl ⟨rfl, trivial⟩ ?_
  intro a0 H0
  have O0 := Own.start w
  refine rl ?_
  refine H0.bx O0 1 fun a2 w1 O1 H2 => nt ?_
  have HB1 := Base.of O1
  obtain ⟨b0, hb0⟩ : ∃ b0, b0 = w1.heap.size := ⟨_, rfl⟩
  rw [← hb0] at HB1
  have hb0' := hb0
  clear hb0
  refine H2.rg 1 fun a3 H3 => nt ?_
  refine wp_seq_join (fun a w' => Has a 57 [(1, .pointer (some ⟨w.heap.size, 0, none⟩)), (3, .int .u8 ((flagsBy m : Nat) : Int))] ∧ Base w b0 [(w.heap.size, (mqCells m vc vw vf))] w') ?_ ?_
  · skip
    refine H3.rg 1 fun a4 H4 => ?_
    refine H4.ld 0 (HB1.own.li 0 0) fun a5 H5 => nt ?_
    refine wp_block ?_
    obtain ⟨b3, h3⟩ : ∃ b, (m.kind == 3) = b := ⟨_, rfl⟩
    cases b3 with
    | true =>
      have k3 : m.kind = 3 := by simpa using h3
      refine rl ?_
      refine H5.bn 1 (eql_iB _ _ _ h3 _ _ _) fun a7 H7 => nt ?_
      refine H7.condT rfl ?_
      have hp3 : publishOk m = true := by have h := hm.1; unfold okOf at h; rw [if_neg (by omega), if_neg (by omega), if_pos k3] at h; exact h
      obtain ⟨_, hq0, hq2, _, _, _⟩ := publish_facts hp3
      have H8 := H7.keep (l' := [(1, .pointer (some ⟨w.heap.size, 0, none⟩))]) ⟨rfl, trivial⟩
      have g1 : cb m.dup 8 < 256 := cb_lt _ _ (by decide)
      have g2 : 2 * m.qos.toNat < 256 := by omega
      have g3 : (cb m.dup 8 ||| 2 * m.qos.toNat) < 256 := or_lt8 g1 g2
      have g4 : cb m.retain 1 < 256 := cb_lt _ _ (by decide)
      have gf : ((cb m.dup 8 ||| 2 * m.qos.toNat) ||| cb m.retain 1) = cb m.dup 8 + 2 * m.qos.toNat + cb m.retain 1 := pub_or _ _ _ (by omega)
      refine H8.dr HB1 [1] rfl [ec 0 11 (.pointer (some ⟨w.heap.size, 16, none⟩)), ec 1 12 (.bool m.dup), ec 2 13 (.int .u8 ((cb m.dup 8 : Nat) : Int)), ec 3 14 (.pointer (some ⟨w.heap.size, 17, none⟩)), ec 4 15 (.int .i64 m.qos), ec 5 16 (.int .u8 (m.qos % 256)), ec 6 17 (.int .u8 ((2 * m.qos.toNat : Nat) : Int)), ec 7 18 (.int .u8 (((cb m.dup 8 ||| 2 * m.qos.toNat) : Nat) : Int)), ec 8 19 (.pointer (some ⟨w.heap.size, 18, none⟩)), ec 9 20 (.bool m.retain), ec 10 21 (.int .u8 ((cb m.retain 1 : Nat) : Int)), ec 11 22 (.int .u8 ((((cb m.dup 8 ||| 2 * m.qos.toNat) ||| cb m.retain 1) : Nat) : Int)), ec 12 3 (.int .u8 ((((cb m.dup 8 ||| 2 * m.qos.toNat) ||| cb m.retain 1) : Nat) : Int))] rfl ⟨jm, (jl fun _ h => h.own.lb 0 16), (jq fun ww _ => (refBitN m.dup 8 8 rfl ww)), jm, (jl fun _ h => h.own.li 0 17), (jc fun _ => (conv_u8 _ _)), (jb fun _ => (shl1_u8 _ hq0 hq2 _ _ _)), (jb fun _ => (or_u _ _ g1 g2 _ _ _)), jm, (jl fun _ h => h.own.lb 0 18), (jq fun ww _ => (refBitN m.retain 1 1 rfl ww)), (jb fun _ => (or_u _ _ g3 g4 _ _ _)), jm, trivial⟩ trivial ?_ ?_
      · exact fun _ _ _ _ _ _ _ _ _ _ _ hh => False.elim hh
      · intro listed a9 w2 hall hI
        have r_3 := hI.vs _ (ma 12 rfl) (.inr (hall 12 (by decide))) trivial
        have H9 : Has a9 57 [(1, .pointer (some ⟨w.heap.size, 0, none⟩)), (3, .int .u8 ((((cb m.dup 8 ||| 2 * m.qos.toNat) ||| cb m.retain 1) : Nat) : Int))] := Has.of hI.sz hI.df ⟨hI.fx.1, r_3, trivial⟩
        have HB2 := hI.wp
        refine block_normal ?_
        refine then_normal ?_
        exact ⟨(by rw [show flagsBy m = _ from (by unfold flagsBy; rw [if_pos k3]; exact gf.symm : flagsBy m = ((cb m.dup 8 ||| 2 * m.qos.toNat) ||| cb m.retain 1))]; exact H9.keep ⟨rfl, rfl, trivial⟩), HB2⟩
    | false =>
      have k3 : ¬ m.kind = 3 := by simpa using h3
      refine rl ?_
      refine H5.bn 1 (eql_iB _ _ _ h3 _ _ _) fun a7 H7 => nt ?_
      refine H7.condF rfl ?_
      repeat (refine wp_seq ?_)
      obtain ⟨b6, h6⟩ : ∃ b, (m.kind == 6) = b := ⟨_, rfl⟩
      cases b6 with
      | true =>
        have k6 : m.kind = 6 := by simpa using h6
        refine rl ?_
        refine H7.bn 1 (eql_iB _ _ _ h6 _ _ _) fun a9 H9 => nt ?_
        refine H9.condT rfl ?_
        refine skip_wp ?_
        refine then_normal ?_
        refine H9.condT rfl ?_
        refine H9.rg 1 fun a10 H10 => ?_
        refine wpList_nil ?_
        refine block_normal ?_
        refine then_normal ?_
        exact ⟨(by rw [show flagsBy m = _ from (by unfold flagsBy; rw [if_neg k3]; simp [k6] : flagsBy m = 2)]; exact H10.keep ⟨rfl, rfl, trivial⟩), HB1⟩
      | false =>
        have k6 : ¬ m.kind = 6 := by simpa using h6
        refine rl ?_
        refine H7.bn 1 (eql_iB _ _ _ h6 _ _ _) fun a9 H9 => nt ?_
        refine H9.condF rfl ?_
        obtain ⟨b8, h8⟩ : ∃ b, (m.kind == 8) = b := ⟨_, rfl⟩
        cases b8 with
        | true =>
          have k8 : m.kind = 8 := by simpa using h8
          refine rl ?_
          refine H9.bn 1 (eql_iB _ _ _ h8 _ _ _) fun a11 H11 => nt ?_
          refine H11.condT rfl ?_
          refine skip_wp ?_
          refine then_normal ?_
          refine H11.condT rfl ?_
          refine H11.rg 1 fun a12 H12 => ?_
          refine wpList_nil ?_
          refine block_normal ?_
          refine then_normal ?_
          exact ⟨(by rw [show flagsBy m = _ from (by unfold flagsBy; rw [if_neg k3]; simp [k8] : flagsBy m = 2)]; exact H12.keep ⟨rfl, rfl, trivial⟩), HB1⟩
        | false =>
          have k8 : ¬ m.kind = 8 := by simpa using h8
          refine rl ?_
          refine H9.bn 1 (eql_iB _ _ _ h8 _ _ _) fun a11 H11 => nt ?_
          refine H11.condF rfl ?_
          obtain ⟨b10, h10⟩ : ∃ b, (m.kind == 10) = b := ⟨_, rfl⟩
          cases b10 with
          | true =>
            have k10 : m.kind = 10 := by simpa using h10
            refine rl ?_
            refine H11.bn 1 (eql_iB _ _ _ h10 _ _ _) fun a13 H13 => nt ?_
            refine H13.condT rfl ?_
            refine H13.rg 1 fun a14 H14 => ?_
            refine wpList_nil ?_
            refine block_normal ?_
            refine then_normal ?_
            exact ⟨(by rw [show flagsBy m = _ from (by unfold flagsBy; rw [if_neg k3]; simp [k10] : flagsBy m = 2)]; exact H14.keep ⟨rfl, rfl, trivial⟩), HB1⟩
          | false =>
            have k10 : ¬ m.kind = 10 := by simpa using h10
            refine rl ?_
            refine H11.bn 1 (eql_iB _ _ _ h10 _ _ _) fun a13 H13 => nt ?_
            refine H13.condF rfl ?_
            refine skip_wp ?_
            refine block_normal ?_
            refine then_normal ?_
            exact ⟨(by rw [show flagsBy m = _ from (by unfold flagsBy; simp [k3, k6, k8, k10] : flagsBy m = 0)]; exact H13.keep ⟨rfl, rfl, trivial⟩), HB1⟩
  rintro a4 w2 ⟨H4, HB2⟩
  have O2 := HB2.own
  refine rl ?_
  refine H4.lm O2 0 0 fun a5 H5 => ?_
  refine H5.cl ((refBody m _ _ _ _ hm (hL.next O2.bel)).mono fun _ _ h => h.bytes) ?_
  rintro a6 vb w3 ⟨hB, hb⟩ H6
  have O3 := O2.call hb
  clear hb
  obtain ⟨Ab, cb', rfl, hrb⟩ := hB
  have HB3 := Base.of O3
  obtain ⟨b0, hb0⟩ : ∃ b0, b0 = w3.heap.size := ⟨_, rfl⟩
  rw [← hb0] at HB3
  have hb0' := hb0
  clear hb0
  rw [← hb0'] at hrb
  refine H6.ms 1 fun a7 H7 => nt ?_
  refine H7.rg 1 fun a8 H8 => ?_
  refine H8.ld 0 (HB3.own.li 0 0) fun a9 H9 => ?_
  refine H9.cv 0 (conv_u8 _ _) fun a10 H10 => ?_
  refine H10.bb 1 rfl rfl rfl rfl rfl rfl (shl4_u8 _ (by omega) (by omega) _ _ _) rfl fun a12 H12 => ?_
  refine H12.bb 0 rfl rfl rfl rfl rfl rfl (or_u _ _ (by omega) (by omega) _ _ _) rfl fun a13 H13 => ?_
  refine H13.lit gz rfl rfl [UInt8.ofNat (16 * m.kind.toNat + flagsBy m)] [.int .u8 ((16 * m.kind.toNat ||| flagsBy m : Nat) : Int)] (by rw [hor, bv_nat _ (by omega)]; rfl) (k := 1) rfl 5 (by intro cs b h; cases h) (by kernel_rfl) (by kernel_rfl) HB3.bw ?_
  intro a14 v35 w4 H14 R35 hb
  have HB4 := HB3.call hb
  have hrb := hrb.below (hb.mono HB3.bw)
  clear hb
  refine H14.ms 1 fun a15 H15 => nt ?_
  refine H15.rg 1 fun a16 H16 => ?_
  refine H16.len gz rfl rfl rfl rfl Tryd.underlying31 ?_
  intro a17 H17
  refine H17.ms 1 fun a18 H18 => nt ?_
  repeat (refine wp_seq ?_)
  refine wp_block ?_
  refine wp_loop_up 2 (fun k a w' => ∃ n pre v, k < 2 ∧ n < 128 ^ (2 - k) ∧ vlen (bodyBy m).length = pre ++ vlen n ∧ pre.length ≤ 2 ∧ Has a 57 [(1, .pointer (some ⟨w.heap.size, 0, none⟩)), (4, .slice Ab (bodyBy m).length cb'), (5, v), (6, .int .i64 ((n : Nat) : Int))] ∧ RowIs b0 ([UInt8.ofNat (16 * m.kind.toNat + flagsBy m)] ++ pre) v w' ∧ RB w' b0 Ab (bodyBy m) ∧ Base w b0 [(w.heap.size, (mqCells m vc vw vf))] w') ?_ ?_
  · exact ⟨_, [], _, by omega, by omega, rfl, by simp, H18.keep ⟨rfl, rfl, rfl, rfl, trivial⟩, by simpa using R35, hrb, HB4⟩
  · rintro k a19 w5 hkn ⟨n, pre, v5, hk2, hn, hpre, hpl, H19, R5, hrb, HB5⟩
    have hn2 : n < 16384 := by
      rcases Nat.lt_or_ge k 1 with h | h
      · obtain rfl : k = 0 := by omega
        omega
      · obtain rfl : k = 1 := by omega
        omega
    by_cases hlt : 128 ≤ n
    · skip
      have hk0 : k = 0 := by
        rcases Nat.lt_or_ge k 1 with h | h
        · omega
        · obtain rfl : k = 1 := by omega
          omega
      subst hk0
      refine H19.rg 1 fun a20 H20 => ?_
      refine H20.bb 0 rfl rfl rfl rfl rfl rfl (geq_i _ _ true (by simp; omega) _ _ _) rfl fun a21 H21 => nt ?_
      repeat (refine wp_seq ?_)
      refine H21.condT rfl ?_
      refine skip_wp ?_
      refine then_normal ?_
      repeat (refine wp_seq ?_)
      refine wp_block ?_
      refine H21.rg 2 fun a23 H23 => ?_
      refine H23.bn 0 (rem128 n _ _ _) fun a24 H24 => ?_
      refine H24.conv gz rfl rfl rfl rfl (conv_u8n _ (by omega) _) ?_
      intro a25 H25
      refine H25.bb 0 rfl rfl rfl rfl rfl rfl (or_u _ _ (by omega) (by decide) _ _ _) rfl fun a26 H26 => ?_
      refine H26.lit gz rfl rfl [UInt8.ofNat (n % 128 + 128)] [.int .u8 ((n % 128 ||| 128 : Nat) : Int)] (by rw [or128n, bv_nat _ (by omega)]; rfl) (k := 1) rfl 5 (by intro cs b h; cases h) (by kernel_rfl) (by kernel_rfl) HB5.bw ?_
      intro a27 v45 w6 H27 R45 hb
      have R5 := R5.below hb
      have HB6 := HB5.call hb
      have hrb := hrb.below (hb.mono HB5.bw)
      clear hb
      refine H27.appendRow Tryd.underlying31 info_u8 gz rfl rfl rfl rfl rfl R5 R45.read (by simp; omega) HB6.bw ?_
      intro a28 v46 w7 H28 R46 hb _
      have HB7 := HB6.step hb
      have hrb := hrb.below hb
      clear hb
      refine H28.ms 1 fun a29 H29 => nt ?_
      refine H29.rg 1 fun a30 H30 => ?_
      refine H30.bn 1 (quo128 n hn2 _ _ _) fun a32 H32 => ?_
      refine wpList_nil ?_
      refine block_normal ?_
      refine then_normal ?_
      refine ⟨by omega, n / 128, pre ++ [UInt8.ofNat (n % 128 + 128)], _, by omega, by omega, ?_, ?_, H32.keep ⟨rfl, rfl, rfl, rfl, trivial⟩, (by rw [← List.append_assoc]; exact R46), hrb, HB7⟩
      · rw [hpre, vlen_step _ hlt, List.append_assoc]; rfl
      · have : pre = [] := by
          have h1 := congrArg List.length hpre
          rw [vlen_step _ hlt] at h1
          have h2 := vlen_le (bodyBy m).length (by omega)
          have h3 := vlen_pos (n / 128)
          simp only [List.length_append, List.length_cons] at h1
          exact List.eq_nil_of_length_eq_zero (by omega)
        rw [this]; simp
    · skip
      refine H19.rg 1 fun a20 H20 => ?_
      refine H20.bb 0 rfl rfl rfl rfl rfl rfl (geq_i _ _ false (by simp; omega) _ _ _) rfl fun a21 H21 => nt ?_
      repeat (refine wp_seq ?_)
      refine H21.condF rfl ?_
      refine wp_exit ?_
      repeat (with_reducible refine then_exit ?_)
      refine block_leave ?_
      refine then_normal ?_
      refine H21.rg 2 fun a23 H23 => ?_
      refine H23.cv 0 (conv_u8 _ _) fun a24 H24 => ?_
      refine H24.lit gz rfl rfl [UInt8.ofNat n] [.int .u8 ((n : Int) % 256)] (by rw [byte_of_int _ (by omega)]; rfl) (k := 1) rfl 5 (by intro cs b h; cases h) (by kernel_rfl) (by kernel_rfl) HB5.bw ?_
      intro a25 v52 w6 H25 R52 hb
      have R5 := R5.below hb
      have HB6 := HB5.call hb
      have hrb := hrb.below (hb.mono HB5.bw)
      clear hb
      refine H25.appendRow Tryd.underlying31 info_u8 gz rfl rfl rfl rfl rfl R5 R52.read (by simp; omega) HB6.bw ?_
      intro a26 v53 w7 H26 R53 hb _
      have HB7 := HB6.step hb
      have hrb := hrb.below hb
      clear hb
      refine H26.ms 1 fun a27 H27 => nt ?_
      refine H27.rg 2 fun a29 H29 => ?_
      refine H29.appendRow Tryd.underlying31 info_u8 gz rfl rfl rfl rfl rfl R53 ⟨_, _, rfl, hrb.more HB7.bw⟩ (by simp; omega) HB7.bw ?_
      intro a30 v56 w8 H30 R56 hb _
      have HB8 := HB7.step hb
      have hrb := hrb.below hb
      clear hb
      refine H30.ms 1 fun a31 H31 => nt ?_
      refine wp_ret ?_
      repeat (first | (with_reducible refine block_ret ?_) | (with_reducible refine then_ret ?_))
      refine bodyPost_ret (results_tmp rfl _ _ _) H31.df ⟨_, congrArg Ending.returned (H31.at_ 2 _ rfl), ?_, HB8.own.bel⟩
      have e : layB m = (([UInt8.ofNat (16 * m.kind.toNat + flagsBy m)] ++ pre) ++ [UInt8.ofNat n]) ++ bodyBy m := by
        unfold layB; rw [hpre, vlen_short _ (by omega)]; simp
      rw [e]; exact R56.base HB8.hb
end Go.Proofs.YtkcdkjpmbjcmdaaDoor

/-
  Words that the laws of chapter 18 share.
-/
namespace Go.Proofs.YtkcdkjpmbjcmdaaDoor
open Go.RowKit

theorem index_m (T : TypeId) (hT : Tryd.prog.underlying T = some (.slice (Tryd.prog.elem T))) (m : Nat) (hs : ∀ w, (sizeOf (Tryd.prog.elem T)).run Tryd.prog w = .ok m w) (b o n c k : Nat) (hk : k < n) (w : World) : (Instr.indexAt T (.slice (some ⟨b, o, none⟩) n c) (.int .i64 k)).run Tryd.prog w = .ok (.pointer (some ⟨b, o + k * m, none⟩)) w := by
  rw [run_indexAt_slice (h := hT), if_pos ⟨by omega, by omega⟩, hs]
  have e : (Addr.mk b o none).add ((k : Int).toNat * m) = ⟨b, o + k * m, none⟩ := by
    rw [Int.toNat_natCast]
    unfold Addr.add
    by_cases h : k * m = 0
    · rw [if_pos h, h]; rfl
    · rw [if_neg h]
  rw [Result.andThen_ok, e]
theorem fieldAo_0 (o g : Nat) (w : World) : (Instr.fieldAt 33 (.pointer (some ⟨g, o, none⟩)) 0).run Tryd.prog w = .ok (.pointer (some ⟨g, o, none⟩)) w := by
  simp [go_sem]
theorem fieldAo_1 (o g : Nat) (w : World) : (Instr.fieldAt 33 (.pointer (some ⟨g, o, none⟩)) 1).run Tryd.prog w = .ok (.pointer (some ⟨g, o + 24, none⟩)) w := by
  simp [go_sem]
theorem rangeB {w w' : World} {B b o : Nat} {l : List Value} (h : w.rangeAt b o l) (hb : Below B w w') (hlt : b < B) : w'.rangeAt b o l := fun j v hv => (cellB hb hlt).trans (h j v hv)
theorem rangeF {w : World} {b o : Nat} {l1 l2 : List Value} (h : w.rangeAt b o (l1 ++ l2)) : w.rangeAt b o l1 := fun j v hv => h j v (by rw [List.getElem?_append_left (List.getElem?_eq_some_iff.1 hv).1]; exact hv)
theorem load_mq {w : World} {b o : Nat} {m : Mq} {vc vw vf : Value} (h : w.rangeAt b o (mqCells m vc vw vf)) : (Instr.loadAt 30 (.pointer (some ⟨b, o, none⟩))).run Tryd.prog w = .ok (.agg (mqCells m vc vw vf).toArray) w :=
  run_loadAt_mid w b o 30 _ _ h Tryd.underlying30 rfl size_mq
theorem size_ask : (Tryd.prog.info? 33).map (·.size) = some 25 := by kernel_rfl
theorem load_ask {w : World} {b o : Nat} {m : Mq} {vc vw vf v : Value} (h : w.rangeAt b o (mqCells m vc vw vf ++ [v])) : (Instr.loadAt 33 (.pointer (some ⟨b, o, none⟩))).run Tryd.prog w = .ok (.agg (mqCells m vc vw vf ++ [v]).toArray) w :=
  run_loadAt_mid w b o 33 _ _ h Tryd.underlying33 rfl size_ask
theorem neq_3 (u v : Int) (b : Bool) (h : (u != v) = b) (x y : Operand) (w : World) : (do eqGuard .neq 3 x y (.int .i64 u) (.int .i64 v); binOp .neq 3 (.int .i64 u) (.int .i64 v) : Sem Value).run Tryd.prog w = .ok (.bool b) w := by
  rw [← h]
  simp [go_sem]
theorem short_of {m : Mq} (h : mqW m ≤ 3000) : Short m 1000000 := by
  have h1 := wgt_ge (m.wishes.map (·.1.size)) m.wishes.length
  have h2 := wgt_ge (m.filters.map (·.size)) m.filters.length
  unfold mqW wishW filtW at h
  exact ⟨by omega, by omega, by omega⟩
theorem mayC (m : Mq) (vc vw vf : Value) (b : Bool) (hb : mayBb m = b) (w : World) (hL : MqL w w.heap.size m vc vw vf) (hF : MqFit m) (hW : Wd w) :
    Calls Tryd.prog 25 #[.agg (mqCells m vc vw vf).toArray] w fun e w' => e = .returned (.bool b) ∧ Below w.heap.size w w' := by
  rw [← hb]
  exact refMay m vc vw vf w hL hF hW
theorem checkC (m : Mq) (vc vw vf : Value) (n : Int) (hn : (if mayBb m then 0 else 1) = n) (w : World) (hL : MqL w w.heap.size m vc vw vf) (hF : MqFit m) (hW : Wd w) :
    Calls Tryd.prog 27 #[.agg (mqCells m vc vw vf).toArray] w fun e w' => e = .returned (.int .i64 n) ∧ Below w.heap.size w w' := by
  rw [← hn]
  exact packCheck m vc vw vf w hL hF hW
theorem bytesYes (m : Mq) (vc vw vf : Value) (w : World) (hm : mayB m) (hL : MqL w w.heap.size m vc vw vf) (hF : MqFit m) (hW : Wd w) :
    Calls Tryd.prog 24 #[.agg (mqCells m vc vw vf).toArray] w fun e w' => ∃ v, e = .returned v ∧ (∃ vr, v = .tuple #[vr, .int .i64 0] ∧ RowIs w.heap.size (layB m) vr w' ∧ Below w.heap.size w w') := by
  refine (packBytes m vc vw vf w hL hF hW).mono ?_
  rintro e w' (⟨_, v, rfl, hr, hb⟩ | ⟨hn, _⟩)
  · exact ⟨_, rfl, v, rfl, hr, hb⟩
  · exact absurd hm hn
theorem bytesNo (m : Mq) (vc vw vf : Value) (w : World) (hm : ¬ mayB m) (hL : MqL w w.heap.size m vc vw vf) (hF : MqFit m) (hW : Wd w) :
    Calls Tryd.prog 24 #[.agg (mqCells m vc vw vf).toArray] w fun e w' => ∃ v, e = .returned v ∧ (v = .tuple #[.slice none 0 0, .int .i64 1] ∧ Below w.heap.size w w') := by
  refine (packBytes m vc vw vf w hL hF hW).mono ?_
  rintro e w' (⟨hn, _⟩ | ⟨_, rfl, hb⟩)
  · exact absurd hn hm
  · exact ⟨_, rfl, rfl, hb⟩
theorem eqBy (xs : List UInt8) (u v : Value) (w : World) (hu : BytesAre xs u w) (hv : BytesAre xs v w) (hn : xs.length ≤ maxLen) :
    Calls Tryd.prog 28 #[u, v] w fun e w' => e = .returned (.bool true) ∧ Below w.heap.size w w' := by
  obtain ⟨A, c, rfl, ha⟩ := hu
  obtain ⟨B, d, rfl, hb⟩ := hv
  refine (eqBytes xs A B c d w ha hb hn).mono ?_
  rintro e w' ⟨rfl, n, rfl⟩
  exact ⟨rfl, below_drewN (Below.refl _ _) n⟩
theorem eqMqS (m : Mq) (vc vw vf vc' vw' vf' : Value) (w : World) (ha : MqL w w.heap.size m vc vw vf) (hb : MqL w w.heap.size m vc' vw' vf') :
    Calls Tryd.prog 30 #[.agg (mqCells m vc vw vf).toArray, .agg (mqCells m vc' vw' vf').toArray] w fun e w' => e = .returned (.bool true) ∧ Below w.heap.size w w' := by
  have h := refEqMq m m vc vw vf vc' vw' vf' w ha hb
  rw [(same_iff m m).2 rfl] at h
  exact h
theorem lay_maxLen {m : Mq} (h : mayB m) : (layB m).length ≤ maxLen := by
  have := lay_le h
  unfold maxLen
  omega
theorem mayB_of {m : Mq} (h : mayBb m = true) : mayB m := (mayBb_iff m).1 h
theorem mayB_not {m : Mq} (h : mayBb m = false) : ¬ mayB m := fun h2 => by rw [(mayBb_iff m).2 h2] at h; cases h
/-! are you there -/
theorem ping_may : mayB (mq0 12) := ⟨rfl, rfl⟩
theorem ping_lay : layB (mq0 12) = [192, 0] := by
  have h : bodyBy (mq0 12) = [] := rfl
  unfold layB
  rw [h, vlen_short _ (by decide)]
  rfl
theorem ping_fit : MqFit (mq0 12) := ⟨by unfold Fits; decide, by unfold Fits; decide, by unfold Fits; decide, by unfold Fits; decide, by unfold Fits; decide, by unfold Fits; decide, by unfold Fits; decide, (fun s hs => by cases hs), (fun s hs => by cases hs)⟩
set_option maxRecDepth 100000 in
set_option maxHeartbeats 1600000 in
theorem wakes18 (w : World) (hT : Wd w) : Calls Tryd.prog 31 #[] w fun e w' => e = .returned (.bool true) ∧ Below w.heap.size w w' := by
  go_enter Tryd.func31, Tryd.ntmps31
  refine Has.start 16 [] rfl rfl trivial ?_
  intro a0 H0
  have O0 := Own.start w
  refine H0.rg 1 fun a1 H1 => nt ?_
  refine rl ?_
  refine H1.any (w' := w) gz rfl rfl (.agg (mqCells (mq0 12) nilV nilV nilV).toArray) (by intro cs b h; cases h) (by kernel_rfl) (by kernel_rfl) ?_
  intro a2 H2
  refine H2.cl (bytesYes (mq0 12) nilV nilV nilV _ ping_may (MqL.nil rfl rfl rfl) ping_fit hT) ?_
  rintro a3 _ w1 ⟨vr, rfl, hR, hb⟩ H3
  have O1 := O0.call hb
  clear hb
  rw [ping_lay] at hR
  refine H3.ms 1 fun a4 H4 => ?_
  refine H4.ex (r := vr) 0 fun a5 H5 => ?_
  refine H5.ex (r := .int .i64 0) 2 fun a8 H8 => nt ?_
  refine H8.rg 1 fun a9 H9 => ?_
  refine H9.cq 0 (num18 0 _) fun a10 H10 => ?_
  refine H10.bn 1 (eql_iB _ _ true rfl _ _ _) fun a12 H12 => ?_
  refine H12.move (H12.wt rfl rfl rfl) (.inl rfl) rfl rfl rfl ?_
  intro a13 H13
  obtain ⟨hby, hb⟩ := bytes_lit w1 [192, 0] [.int .u8 192, .int .u8 0] rfl 5 2 rfl
  refine H13.go (H13.wt rfl rfl rfl) rfl rfl (.slice (some ⟨w1.heap.size, 0, none⟩) 2 2) (w' := w1.alloc (.cells ([.int .u8 192, .int .u8 0] : List Value).toArray 5)) (run_any H13 (by intro cs b h; cases h) (by kernel_rfl) (by kernel_rfl)) ?_
  intro a14 H14
  have hR := hR.below hb
  have O2 := O1.call hb
  refine H14.call (H14.wt rfl rfl rfl) rfl rfl rfl rfl (fun _ _ => by kernel_rfl) (belowC (eqBy [192, 0] vr _ _ hR.read hby (by decide))) ?_
  rintro a15 _ w2 ⟨rfl, hb⟩ H15
  have O3 := O2.call hb
  refine H15.pick gz rfl rfl rfl rfl rfl ?_
  intro a16 H16
  refine H16.ms 1 fun a17 H17 => nt ?_
  refine wp_ret ?_
  repeat (first | (with_reducible refine block_ret ?_) | (with_reducible refine then_ret ?_))
  exact bodyPost_ret (results_tmp rfl _ _ _) H17.df ⟨congrArg Ending.returned (H17.at_ 0 _ rfl), O3.bel⟩
end Go.Proofs.YtkcdkjpmbjcmdaaDoor

/-
  The page's Parse.
-/
namespace Go.Proofs.YtkcdkjpmbjcmdaaDoor
open Go.RowKit

theorem numR_left (s : Rd) : (numR s).2.1.length ≤ s.1.length := takeR_left s 2
theorem textR_left (s : Rd) : (textR s).2.1.length ≤ s.1.length := Nat.le_trans (takeR_left _ _) (numR_left s)
theorem small_readR (k : Int) (f : UInt8) (s : Rd) (h : s.1.length ≤ 1000000) : Small (readR k f s).1 := by
  unfold readR
  split
  · exact small_conn shortsR _
  · split
    · exact ⟨nosz, nosz, nosz, nosz, nosz, nosz, nosz, (fun s hs => by cases hs), (fun s hs => by cases hs)⟩
    · split
      · have h1 := numR_left (textR s).2
        have h2 := textR_left s
        refine ⟨nosz, nosz, nosz, nosz, nosz, shortsR s, ?_, (fun s hs => by cases hs), (fun s hs => by cases hs)⟩
        show (mkS _).size ≤ _
        rw [mkS_size]
        split <;> omega
      · split
        · exact small0 k
        · exact small_loopR k 8 _ _ ⟨nosz, nosz, nosz, nosz, nosz, nosz, nosz, (fun s hs => by cases hs), (fun s hs => by cases hs)⟩
theorem lens_readR (k : Int) (f : UInt8) (s : Rd) : Lens (readR k f s).1 8 := by
  have z : ∀ m : Mq, m.codes = [] → m.wishes = [] → m.filters = [] → Lens m 8 := fun m a b c => by unfold Lens; rw [a, b, c]; exact ⟨Nat.zero_le _, Nat.zero_le _, Nat.zero_le _⟩
  unfold readR
  split
  · exact z _ rfl rfl rfl
  · split
    · exact z _ rfl rfl rfl
    · split
      · exact z _ rfl rfl rfl
      · split
        · exact z _ rfl rfl rfl
        · have := lens_loopR k 8 { mq0 k with id := ((numR s).1 : Int) } (numR s).2 0 ⟨Nat.zero_le _, Nat.zero_le _, Nat.zero_le _⟩
          rw [Nat.zero_add] at this
          exact this
/-- what the page's parser answers. -/
def ParseSaidR (xs : List UInt8) (w : World) (e : Ending) (w' : World) : Prop :=
  ∃ m n er vc vw vf, Parsed xs m n er ∧ e = .returned (.tuple #[.agg (mqCells m vc vw vf).toArray, .int .i64 ((n : Nat) : Int), .int .i64 er]) ∧ MqL w' w'.heap.size m vc vw vf ∧ Small m ∧ Below w.heap.size w w'
abbrev zC : List Value := mqCells (mq0 0) nilV nilV nilV
def Far (g : Nat) (vc vw vf : Value) : Prop := some g ≠ vc.ownBlock ∧ some g ≠ vw.ownBlock ∧ some g ≠ vf.ownBlock
/-- 'p, ok := read(..)': how far it is. -/
structure RPS (W : World) (r : Mq × Rd) (listed : Array Bool) (a : Act) (w : World) : Prop where
  base : Base W W.heap.size [] w
  pre : listed.getD 9 false = false → listed.getD 13 false = true → ∃ g, a.eval (.tmp 7) = .pointer (some ⟨g, 0, none⟩) ∧ W.heap.size ≤ g ∧ g < w.heap.size ∧ Cells w g zC
  post : listed.getD 9 false = true → ∃ vc vw vf, a.eval (.tmp 74) = .tuple #[.agg (mqCells r.1 vc vw vf).toArray, .bool (!r.2.2)] ∧ (listed.getD 10 false = true → a.eval (.tmp 64) = .tuple #[.agg (mqCells r.1 vc vw vf).toArray, .bool (!r.2.2)]) ∧
    (listed.getD 11 false = true → a.eval (.tmp 75) = .agg (mqCells r.1 vc vw vf).toArray) ∧ Rows3 w W.heap.size r.1 vc vw vf ∧
    (listed.getD 13 false = true → ∃ g, a.eval (.tmp 7) = .pointer (some ⟨g, 0, none⟩) ∧ W.heap.size ≤ g ∧ g < w.heap.size ∧ Cells w g (if listed.getD 14 false = true then mqCells r.1 vc vw vf else zC) ∧ Far g vc vw vf)
section
variable {W w w' : World} {r : Mq × Rd} {listed : Array Bool} {a : Act} {n : Nat}
theorem put_eq {d k : Nat} {v : Value} (h : d ≠ k) : (a.put (some d) v).eval (.tmp k) = a.eval (.tmp k) := Act.eval_put_ne _ _ _ _ h
theorem RPS.pure (h : RPS W r listed a w) (i d : Nat) (v : Value) (hi : i ≠ 9 ∧ i ≠ 10 ∧ i ≠ 11 ∧ i ≠ 13 ∧ i ≠ 14) (hd : d ≠ 74 ∧ d ≠ 64 ∧ d ≠ 75 ∧ d ≠ 7) : RPS W r (listed.setIfInBounds i true) (a.put (some d) v) w := by
  obtain ⟨i9, i10, i11, i13, i14⟩ := hi
  obtain ⟨d74, d64, d75, d7⟩ := hd
  refine ⟨h.base, ?_, ?_⟩
  · rw [ran_ne listed i9, ran_ne listed i13, put_eq d7]; exact h.pre
  · rw [ran_ne listed i9, ran_ne listed i10, ran_ne listed i11, ran_ne listed i13, ran_ne listed i14, put_eq d74, put_eq d64, put_eq d75, put_eq d7]; exact h.post
theorem Rows3.belowR {b : Nat} {m : Mq} {vc vw vf : Value} (h : Rows3 w b m vc vw vf) (hb : Below w.heap.size w w') : Rows3 w' b m vc vw vf := ⟨own_below h.1 hb, own_below h.2.1 hb, own_below h.2.2 hb⟩
theorem Rows3.keptR {b g : Nat} {m : Mq} {vc vw vf : Value} (h : Rows3 w b m vc vw vf) (hg : w.grownBy w' (some g)) (hf : Far g vc vw vf) : Rows3 w' b m vc vw vf :=
  ⟨h.1.kept hg (.inr hf.1.symm), h.2.1.kept hg (.inr hf.2.1.symm), h.2.2.kept hg (.inr hf.2.2.symm)⟩
theorem Rows3.far {b g : Nat} {m : Mq} {vc vw vf : Value} (h : Rows3 w b m vc vw vf) (hg : g < b ∨ w.heap.size ≤ g) : Far g vc vw vf := ⟨own_ne h.1 hg, own_ne h.2.1 hg, own_ne h.2.2 hg⟩
/-- the call. -/
theorem RPS.call (h : RPS W r listed a w) (hs : listed.size = 16) (hz : a.tmps.size = 100) (h9 : listed.getD 9 false = false) (h10 : listed.getD 10 false = false) (h11 : listed.getD 11 false = false) (h14 : listed.getD 14 false = false) {vc vw vf : Value} (hb : Below w.heap.size w w') (hr : Rows3 w' w.heap.size r.1 vc vw vf) :
    RPS W r (listed.setIfInBounds 9 true) (a.put (some 74) (.tuple #[.agg (mqCells r.1 vc vw vf).toArray, .bool (!r.2.2)])) w' := by
  have hle := h.base.own.bel.size
  refine ⟨h.base.call hb, fun h0 => ?_, fun _ => ⟨vc, vw, vf, Act.eval_put_same _ _ _ (by rw [hz]; decide), ?_, ?_, ⟨own_base hr.1 hle, own_base hr.2.1 hle, own_base hr.2.2 hle⟩, fun h13 => ?_⟩⟩
  · rw [ran_same listed (by omega)] at h0; cases h0
  · rw [ran_ne listed (by decide), h10]; intro h; cases h
  · rw [ran_ne listed (by decide), h11]; intro h; cases h
  · rw [ran_ne listed (by decide)] at h13
    obtain ⟨g, e7, hg, hlt, hC⟩ := h.pre h9 h13
    refine ⟨g, (put_eq (by decide)).trans e7, hg, Nat.lt_of_lt_of_le hlt hb.size, ?_, hr.far (.inl hlt)⟩
    rw [ran_ne listed (by decide), h14, if_neg (by decide)]
    exact hC.below hb hlt
theorem RPS.move (h : RPS W r listed a w) (_hs : listed.size = 16) (hz : a.tmps.size = 100) (h9 : listed.getD 9 false = true) : RPS W r (listed.setIfInBounds 10 true) (a.put (some 64) (a.eval (.tmp 74))) w := by
  refine ⟨h.base, ?_, fun _ => ?_⟩
  · rw [ran_ne listed (by decide), h9]; intro h; cases h
  · obtain ⟨vc, vw, vf, e74, _, k11, hr, k13⟩ := h.post h9
    refine ⟨vc, vw, vf, (put_eq (by decide)).trans e74, fun _ => (Act.eval_put_same _ _ _ (by rw [hz]; decide)).trans e74, ?_, hr, ?_⟩
    · rw [ran_ne listed (by decide), put_eq (by decide)]; exact k11
    · rw [ran_ne listed (by decide), ran_ne listed (by decide), put_eq (by decide)]; exact k13
theorem RPS.first (h : RPS W r listed a w) (_hs : listed.size = 16) (hz : a.tmps.size = 100) (h9 : listed.getD 9 false = true) {v : Value} (hv : ∀ vc vw vf, a.eval (.tmp 74) = .tuple #[.agg (mqCells r.1 vc vw vf).toArray, .bool (!r.2.2)] → v = .agg (mqCells r.1 vc vw vf).toArray) : RPS W r (listed.setIfInBounds 11 true) (a.put (some 75) v) w := by
  refine ⟨h.base, ?_, fun _ => ?_⟩
  · rw [ran_ne listed (by decide), h9]; intro h; cases h
  · obtain ⟨vc, vw, vf, e74, k10, _, hr, k13⟩ := h.post h9
    refine ⟨vc, vw, vf, (put_eq (by decide)).trans e74, ?_, fun _ => (Act.eval_put_same _ _ _ (by rw [hz]; decide)).trans (hv _ _ _ e74), hr, ?_⟩
    · rw [ran_ne listed (by decide), put_eq (by decide)]; exact k10
    · rw [ran_ne listed (by decide), ran_ne listed (by decide), put_eq (by decide)]; exact k13
theorem RPS.made (h : RPS W r listed a w) (_hs : listed.size = 16) (hz : a.tmps.size = 100) (h14 : listed.getD 14 false = false) (hb : Below w.heap.size w w') (hw : w'.heap.size = w.heap.size + 1) (hC : Cells w' w.heap.size zC) : RPS W r (listed.setIfInBounds 13 true) (a.put (some 7) (.pointer (some ⟨w.heap.size, 0, none⟩))) w' := by
  have e7 : (a.put (some 7) (.pointer (some ⟨w.heap.size, 0, none⟩))).eval (.tmp 7) = .pointer (some ⟨w.heap.size, 0, none⟩) := Act.eval_put_same _ _ _ (by rw [hz]; decide)
  refine ⟨h.base.call hb, fun _ _ => ⟨_, e7, h.base.own.bel.size, by omega, hC⟩, fun h9 => ?_⟩
  rw [ran_ne listed (by decide)] at h9
  obtain ⟨vc, vw, vf, e74, k10, k11, hr, _⟩ := h.post h9
  refine ⟨vc, vw, vf, (put_eq (by decide)).trans e74, ?_, ?_, hr.belowR hb, fun _ => ⟨_, e7, h.base.own.bel.size, by omega, ?_, hr.far (.inr (Nat.le_refl _))⟩⟩
  · rw [ran_ne listed (by decide), put_eq (by decide)]; exact k10
  · rw [ran_ne listed (by decide), put_eq (by decide)]; exact k11
  · rw [ran_ne listed (by decide), h14, if_neg (by decide)]; exact hC
theorem RPS.stored (h : RPS W r listed a w) (hs : listed.size = 16) (h9 : listed.getD 9 false = true) (_h13 : listed.getD 13 false = true) {g : Nat} {vc vw vf : Value} (e7 : a.eval (.tmp 7) = .pointer (some ⟨g, 0, none⟩)) (e74 : a.eval (.tmp 74) = .tuple #[.agg (mqCells r.1 vc vw vf).toArray, .bool (!r.2.2)]) (k10 : listed.getD 10 false = true → a.eval (.tmp 64) = .tuple #[.agg (mqCells r.1 vc vw vf).toArray, .bool (!r.2.2)]) (k11 : listed.getD 11 false = true → a.eval (.tmp 75) = .agg (mqCells r.1 vc vw vf).toArray)
    (hr : Rows3 w W.heap.size r.1 vc vw vf) (hg : W.heap.size ≤ g) (hlt : g < w.heap.size) (hf : Far g vc vw vf) (hgr : w.grownBy w' (some g)) (hw : w'.heap.size = w.heap.size) (hC : Cells w' g (mqCells r.1 vc vw vf)) : RPS W r (listed.setIfInBounds 14 true) a w' := by
  refine ⟨h.base.step ((Below.refl _ _).grown hgr h.base.bw (fun k hk => by injection hk with hk; rw [← hk]; exact hg)), ?_, fun _ => ⟨vc, vw, vf, e74, ?_, ?_, hr.keptR hgr hf, fun _ => ⟨g, e7, hg, by omega, ?_, hf⟩⟩⟩
  · rw [ran_ne listed (by decide), h9]; intro h; cases h
  · rw [ran_ne listed (by decide)]; exact k10
  · rw [ran_ne listed (by decide)]; exact k11
  · rw [ran_same listed (by omega), if_pos rfl]; exact hC
theorem RPS.start (hb : Base W W.heap.size [] w) : RPS W r (Array.replicate 16 false) a w := ⟨hb, fun _ h => (by rw [none_ran] at h; cases h), fun h => (by rw [none_ran] at h; cases h)⟩
end
theorem eqBy2 (xs ys : List UInt8) (u v : Value) (b : Bool) (h : decide (xs = ys) = b) (w : World) (hu : BytesAre xs u w) (hv : BytesAre ys v w) (hn : xs.length ≤ maxLen) :
    Calls Tryd.prog 28 #[u, v] w fun e w' => e = .returned (.bool b) ∧ Below w.heap.size w w' := by
  obtain ⟨A, c, rfl, ha⟩ := hu
  obtain ⟨B, d, rfl, hb⟩ := hv
  subst h
  refine (eqBytes_any xs ys A B c d w ha hb hn).mono ?_
  rintro e w' ⟨rfl, n, rfl⟩
  exact ⟨rfl, below_drewN (Below.refl _ _) n⟩
theorem refReadC (f : UInt8) (ys : List UInt8) (n c : Nat) (A : Option Addr) (hl : ys.length = n) (hc : n ≤ c) (r : Mq × Rd) (hr : r = readR ((f.toNat / 16 : Nat) : Int) f (ys, false)) (w : World) (hx : RB w w.heap.size A ys) :
    Calls Tryd.prog 64 #[.int .u8 (f.toNat : Int), .slice A n c] w fun e w' => ∃ v, e = .returned v ∧ (∃ vc vw vf, v = .tuple #[.agg (mqCells r.1 vc vw vf).toArray, .bool (!r.2.2)] ∧ Below w.heap.size w w' ∧ Rows3 w' w.heap.size r.1 vc vw vf) := by
  have e16 : ((f.toNat / 16 : Nat) : Int) = (f.toNat : Int) / 16 := by omega
  rw [e16] at hr
  subst hr
  refine (refRead f ys n c A hl hc w hx).mono ?_
  rintro e w' ⟨vc, vw, vf, rfl, hb, h3⟩
  exact ⟨_, rfl, vc, vw, vf, rfl, hb, h3⟩
theorem wpOp_alloc {P : Program} {ops : Array Oper} {Q : Exit → Act → World → Prop} {i : Nat} {o : Oper} {a : Act} {w : World} {K : Act → World → Prop} (hi : ops[i]? = some o) (hw : Region.wanted o (yielded ops a.tmps) = true) (d : Nat) (hd : o.dst = some d) {T : TypeId} (ho : o.op = .alloc T) (l : List Value) (hz : ∀ w, (zeroValue T).run P w = .ok (.agg l.toArray) w)
    (h : ∀ w', Below w.heap.size w w' → w'.heap.size = w.heap.size + 1 → Cells w' w.heap.size l → K (a.put (some d) (.pointer (some ⟨w.heap.size, 0, none⟩))) w') : wpOp P ops Q i K a w := by
  refine wpOp_go hi hw d hd (.pointer (some ⟨w.heap.size, 0, none⟩)) (w.alloc (.cells l.toArray T)) ?_ (h _ (balloc w _) (by simp) (Cells.of_heap (heap_alloc_new w _)))
  unfold execOp
  simp only [ho]
  simp [Instr.alloc, hz, Sem.run_bind, Result.andThen, newVar, newRow, Value.cells, newObj]
  rfl
theorem lss_u (u v : Int) (b : Bool) (h : decide (u < v) = b) (x y : Operand) (w : World) : (do eqGuard .lss 5 x y (.int .u8 u) (.int .u8 v); binOp .lss 5 (.int .u8 u) (.int .u8 v) : Sem Value).run Tryd.prog w = .ok (.bool b) w := by
  subst h
  simp [go_sem]
theorem beqN0 (n : Nat) : ((n : Int) == 0) = decide (n = 0) := by
  rw [Bool.eq_iff_iff, beq_iff_eq, decide_eq_true_eq]
  omega
set_option maxRecDepth 100000 in
set_option maxHeartbeats 6400000 in
theorem refParse (xs : List UInt8) (A : Option Addr) (c : Nat) (hc : xs.length ≤ c) (w : World) (hr : RB w w.heap.size A xs) (hl : xs.length ≤ 140737488351232) (hT : Wd w) :
    Calls Tryd.prog 34 #[.slice A xs.length c] w (ParseSaidR xs w) := by
  go_enter Tryd.func34, Tryd.ntmps34
  refine Has.start 100 [(0, .slice A xs.length c)] rfl rfl ⟨rfl, trivial⟩ ?_
  intro a0 H0
  have O0 := Own.start w
  refine rl ?_
  refine H0.al O0 2 zero_mq fun a3 w1 O1 H3 => nt ?_
  by_cases h0 : xs.length = 0
  · skip
    refine H3.rg 1 fun a4 H4 => ?_
    refine H4.len gz rfl rfl rfl rfl Tryd.underlying31 ?_
    intro a5 H5
    refine H5.bb 0 rfl rfl rfl rfl rfl rfl (eql_iB _ _ true (by rw [h0]; rfl) _ _ _) rfl fun a6 H6 => nt ?_
    refine H6.condT rfl ?_
    refine rl ?_
    refine H6.any (w' := w1) gz rfl rfl (.agg (mqCells (mq0 0) nilV nilV nilV).toArray) (by intro cs b h; cases h) (by kernel_rfl) (by kernel_rfl) ?_
    intro a7 H7
    refine H7.st O1 0 2 (hi := size_mq) fun a10 w2 O2 H10 => nt ?_
    refine wp_ret ?_
    repeat (first | (with_reducible refine block_ret ?_) | (with_reducible refine then_ret ?_))
    refine bodyPost_ret (results_m2 Tryd.results34 _ (H10.at_ 2 _ rfl) (H10.at_ 3 _ rfl) (H10.at_ 4 _ rfl) (O2.get 0 rfl) Tryd.underlying30 rfl size_mq rfl) H10.df ?_
    exact ⟨mq0 0, 0, 7, nilV, nilV, nilV, parsed_err (by rw [List.eq_nil_of_length_eq_zero h0] <;> rfl), rfl, MqL.nil rfl rfl rfl, small0 0, O2.bel⟩
  refine H3.rg 1 fun a4 H4 => ?_
  refine H4.len gz rfl rfl rfl rfl Tryd.underlying31 ?_
  intro a5 H5
  refine H5.bb 0 rfl rfl rfl rfl rfl rfl (eql_iB _ _ false (by rw [beq_eq_false_iff_ne]; omega) _ _ _) rfl fun a6 H6 => nt ?_
  refine H6.condF rfl ?_
  refine skip_wp ?_
  refine then_normal ?_
  refine H6.rg 2 fun a8 H8 => nt ?_
  refine wp_seq_join (fun a w' => ∃ (k n : Nat) (x : UInt8), k ≤ 3 ∧ k + 1 < xs.length ∧ xs[k + 1]? = some x ∧ n < 268435456 ∧ sizeD xs = (if x.toNat = 0 ∧ 1 < k + 1 then .error 1 else if 1024 < n + (k + 1 + 1) then .error 2 else if (xs.drop (k + 2)).length < n then .error 7 else .ok (n + (k + 1 + 1), k + 1 + 1)) ∧ Has a 100 [(0, .slice A xs.length c), (2, .pointer (some ⟨w.heap.size, 0, none⟩)), (5, .int .i64 (n : Int)), (6, .int .i64 ((k + 2 : Nat) : Int))] ∧ Own w w.heap.size [(w.heap.size, (mqCells (mq0 0) nilV nilV nilV))] w') ?_ ?_
  · skip
    refine wp_block ?_
    refine wp_loop_up 3 (fun k a w' => ∃ n : Nat, n < 128 ^ k ∧ sizeD xs = sizeGo (4 - k) (k + 1) n (xs.drop (k + 1)) ∧ Has a 100 [(0, .slice A xs.length c), (2, .pointer (some ⟨w.heap.size, 0, none⟩)), (5, .int .i64 (n : Int)), (6, .int .i64 ((k + 1 : Nat) : Int))] ∧ Own w w.heap.size [(w.heap.size, (mqCells (mq0 0) nilV nilV nilV))] w') ?_ ?_
    · refine ⟨0, by decide, ?_, H8.keep ⟨rfl, rfl, rfl, rfl, trivial⟩, O1⟩
      cases xs with
      | nil => exact absurd rfl h0
      | cons y ys => rfl
    · rintro k a9 w2 hk ⟨n, hn, hs, H9, O2⟩
      have hp : (128 : Nat) ^ k ≤ 2097152 := Nat.le_trans (Nat.pow_le_pow_right (by decide) hk) (by decide)
      repeat (refine wp_seq ?_)
      refine wp_block ?_
      by_cases hlt : k + 1 < xs.length
      · skip
        obtain ⟨gb, go, x, hA, hgb, hx, hcell⟩ := RB.get (hr.below O2.bel) (k := k + 1) hlt
        have hd := drop_get' xs (k + 1) x hx
        rw [hd] at hs
        obtain ⟨f, hf⟩ : ∃ f, 4 - k = f + 1 := ⟨3 - k, by omega⟩
        rw [hf, sizeGo] at hs
        have hxb := x.toNat_lt
        have hv : x.toNat % 128 * 128 ^ k < 128 ^ (k + 1) := by rw [Nat.pow_succ, Nat.mul_comm]; exact Nat.mul_lt_mul_of_pos_left (by omega) (Nat.pow_pos (by decide))
        have hn2 : n + x.toNat % 128 * 128 ^ k < 128 ^ (k + 1) := by
          have h1 : n + x.toNat % 128 * 128 ^ k < (x.toNat % 128 + 1) * 128 ^ k := by rw [Nat.add_mul, Nat.one_mul]; omega
          have h2 : (x.toNat % 128 + 1) * 128 ^ k ≤ 128 * 128 ^ k := Nat.mul_le_mul_right _ (by omega)
          rw [Nat.pow_succ]; omega
        have hp2 : (128 : Nat) ^ (k + 1) ≤ 268435456 := Nat.le_trans (Nat.pow_le_pow_right (by decide) (Nat.succ_le_succ hk)) (by decide)
        have hk1 : k + 1 - 1 = k := rfl
        rw [hk1] at hs
        refine H9.rg 2 fun a11 H11 => ?_
        refine H11.len gz rfl rfl rfl rfl Tryd.underlying31 ?_
        intro a12 H12
        refine H12.bb 0 rfl rfl rfl rfl rfl rfl (geq_i _ _ false (by simp; omega) _ _ _) rfl fun a13 H13 => nt ?_
        refine H13.condF rfl ?_
        refine skip_wp ?_
        refine then_normal ?_
        refine H13.rg 3 fun a16 H16 => ?_
        refine H16.index gz rfl rfl rfl rfl rfl (show (Instr.indexAt 31 (.slice A xs.length c) (.int .i64 ((k + 1 : Nat) : Int))).run Tryd.prog _ = .ok (.pointer (some ⟨gb, go + (k + 1), none⟩)) _ by rw [hA]; exact index_1 31 Tryd.underlying31 (fun _ => by kernel_rfl) _ _ _ _ _ hlt _) ?_
        intro a17 H17
        refine H17.ld 0 (load1_u _ _ _ _ hcell) fun a18 H18 => ?_
        refine H18.bn 0 (and127 x _ _ _) fun a19 H19 => ?_
        refine H19.conv gz rfl rfl rfl rfl (conv_58 _ (by omega) _) ?_
        intro a20 H20
        refine H20.ms 1 fun a21 H21 => ?_
        refine H21.bn 0 (pred_i k _ _ _) fun a22 H22 => ?_
        refine H22.bn 0 (mul7 k hk _ _ _) fun a23 H23 => ?_
        refine H23.bb 0 rfl rfl rfl rfl rfl rfl (shlK _ k (by omega) hk _ _ _) rfl fun a24 H24 => ?_
        refine H24.bb 1 rfl rfl rfl rfl rfl rfl (or_i _ _ (by omega) (by omega) _ _ _) rfl fun a26 H26 => nt ?_
        rw [or_pow n _ k hn] at H26
        refine H26.rg 1 fun a27 H27 => ?_
        refine H27.bb 1 rfl rfl rfl rfl rfl rfl (succ_i _ (by omega) _ _ _) rfl fun a29 H29 => nt ?_
        by_cases hge : 128 ≤ x.toNat
        · skip
          rw [if_pos hge] at hs
          refine H29.rg 2 fun a31 H31 => ?_
          refine H31.bn 0 (pred_i (k + 1) _ _ _) fun a32 H32 => ?_
          refine H32.index gz rfl rfl rfl rfl rfl (show (Instr.indexAt 31 (.slice A xs.length c) (.int .i64 (IntKind.i64.wrap ((k + 1 : Nat) : Int)))).run Tryd.prog _ = .ok (.pointer (some ⟨gb, go + (k + 1), none⟩)) _ by rw [IntWalk.i64_in _ (by omega), hA]; exact index_1 31 Tryd.underlying31 (fun _ => by kernel_rfl) _ _ _ _ _ hlt _) ?_
          intro a33 H33
          refine H33.ld 0 (load1_u _ _ _ _ hcell) fun a34 H34 => ?_
          refine H34.bb 0 rfl rfl rfl rfl rfl rfl (lss_u _ _ false (by simp; omega) _ _ _) rfl fun a35 H35 => nt ?_
          refine H35.condF rfl ?_
          refine skip_wp ?_
          refine then_normal ?_
          by_cases h4 : k = 3
          · skip
            rw [if_pos (by omega)] at hs
            refine H35.rg 1 fun a36 H36 => ?_
            refine H36.bb 0 rfl rfl rfl rfl rfl rfl (eql_iB _ _ true (by subst h4; rfl) _ _ _) rfl fun a37 H37 => nt ?_
            refine H37.condT rfl ?_
            refine rl ?_
            refine H37.any (w' := w2) gz rfl rfl (.agg (mqCells (mq0 0) nilV nilV nilV).toArray) (by intro cs b h; cases h) (by kernel_rfl) (by kernel_rfl) ?_
            intro a38 H38
            refine H38.st O2 0 2 (hi := size_mq) fun a41 w3 O3 H41 => nt ?_
            refine wp_ret ?_
            repeat (first | (with_reducible refine block_ret ?_) | (with_reducible refine then_ret ?_))
            refine bodyPost_ret (results_m2 Tryd.results34 _ (H41.at_ 2 _ rfl) (H41.at_ 3 _ rfl) (H41.at_ 4 _ rfl) (O3.get 0 rfl) Tryd.underlying30 rfl size_mq rfl) H41.df ?_
            exact ⟨mq0 0, 0, 1, nilV, nilV, nilV, parsed_err (hs), rfl, MqL.nil rfl rfl rfl, small0 0, O3.bel⟩
          · skip
            rw [if_neg (by omega)] at hs
            refine H35.rg 1 fun a36 H36 => ?_
            refine H36.bb 0 rfl rfl rfl rfl rfl rfl (eql_iB _ _ false (by rw [beq_eq_false_iff_ne]; omega) _ _ _) rfl fun a37 H37 => nt ?_
            refine H37.condF rfl ?_
            refine skip_wp ?_
            refine block_normal ?_
            exact ⟨by omega, _, hn2, (by rw [hs, show 4 - (k + 1) = f by omega]), H37.keep ⟨rfl, rfl, rfl, rfl, trivial⟩, O2⟩
        · skip
          rw [if_neg hge] at hs
          refine H29.rg 2 fun a31 H31 => ?_
          refine H31.bn 0 (pred_i (k + 1) _ _ _) fun a32 H32 => ?_
          refine H32.index gz rfl rfl rfl rfl rfl (show (Instr.indexAt 31 (.slice A xs.length c) (.int .i64 (IntKind.i64.wrap ((k + 1 : Nat) : Int)))).run Tryd.prog _ = .ok (.pointer (some ⟨gb, go + (k + 1), none⟩)) _ by rw [IntWalk.i64_in _ (by omega), hA]; exact index_1 31 Tryd.underlying31 (fun _ => by kernel_rfl) _ _ _ _ _ hlt _) ?_
          intro a33 H33
          refine H33.ld 0 (load1_u _ _ _ _ hcell) fun a34 H34 => ?_
          refine H34.bb 0 rfl rfl rfl rfl rfl rfl (lss_u _ _ true (by simp; omega) _ _ _) rfl fun a35 H35 => nt ?_
          refine H35.condT rfl ?_
          refine wp_exit ?_
          repeat (with_reducible refine then_exit ?_)
          refine block_pass rfl ?_
          repeat (with_reducible refine then_exit ?_)
          refine block_leave ?_
          refine then_normal ?_
          exact ⟨k, _, x, hk, hlt, hx, by omega, hs, H35.keep ⟨rfl, rfl, rfl, rfl, trivial⟩, O2⟩
      · skip
        rw [List.drop_eq_nil_of_le (by omega)] at hs
        have hs7 : sizeD xs = .error 7 := by rw [hs]; cases (4 - k) <;> rfl
        refine H9.rg 2 fun a11 H11 => ?_
        refine H11.len gz rfl rfl rfl rfl Tryd.underlying31 ?_
        intro a12 H12
        refine H12.bb 0 rfl rfl rfl rfl rfl rfl (geq_i _ _ true (by simp; omega) _ _ _) rfl fun a13 H13 => nt ?_
        refine H13.condT rfl ?_
        refine rl ?_
        refine H13.any (w' := w2) gz rfl rfl (.agg (mqCells (mq0 0) nilV nilV nilV).toArray) (by intro cs b h; cases h) (by kernel_rfl) (by kernel_rfl) ?_
        intro a14 H14
        refine H14.st O2 0 2 (hi := size_mq) fun a17 w3 O3 H17 => nt ?_
        refine wp_ret ?_
        repeat (first | (with_reducible refine block_ret ?_) | (with_reducible refine then_ret ?_))
        refine bodyPost_ret (results_m2 Tryd.results34 _ (H17.at_ 2 _ rfl) (H17.at_ 3 _ rfl) (H17.at_ 4 _ rfl) (O3.get 0 rfl) Tryd.underlying30 rfl size_mq rfl) H17.df ?_
        exact ⟨mq0 0, 0, 7, nilV, nilV, nilV, parsed_err (hs7), rfl, MqL.nil rfl rfl rfl, small0 0, O3.bel⟩
  rintro a9 w2 ⟨k, n, x, hk, hlt, hx, hnb, hs, H9, O2⟩
  obtain ⟨gb, go, x', hA, hgb, hx', hcell⟩ := RB.get (hr.below O2.bel) (k := k + 1) hlt
  rw [hx] at hx'
  injection hx' with hx'
  subst hx'
  refine rl ?_
  refine wpList_cut 3 (fun a' w' => ∃ b, decide (2 < k + 2) = b ∧ Has a' 100 [(0, .slice A xs.length c), (2, .pointer (some ⟨w.heap.size, 0, none⟩)), (5, .int .i64 (n : Int)), (6, .int .i64 ((k + 2 : Nat) : Int)), (43, .bool b)] ∧ Own w w.heap.size [(w.heap.size, (mqCells (mq0 0) nilV nilV nilV))] w') ?_ ?_
  · skip
    refine H9.ms 1 fun a10 H10 => ?_
    refine H10.bb 1 rfl rfl rfl rfl rfl rfl (gtr_i _ _ (decide (2 < k + 2)) (by simp; omega) _ _ _) rfl fun a12 H12 => ?_
    exact nt ⟨_, by rfl, H12.keep ⟨rfl, rfl, rfl, rfl, rfl, trivial⟩, O2⟩
  rintro a10 w3 ⟨v43, q43, H10, O3⟩
  refine wpList_cut 7 (fun a' w' => ∃ b, (decide (2 < k + 2) && decide (x.toNat = 0)) = b ∧ Has a' 100 [(0, .slice A xs.length c), (2, .pointer (some ⟨w.heap.size, 0, none⟩)), (5, .int .i64 (n : Int)), (6, .int .i64 ((k + 2 : Nat) : Int)), (50, .bool b)] ∧ Own w w.heap.size [(w.heap.size, (mqCells (mq0 0) nilV nilV nilV))] w') ?_ ?_
  · skip
    cases v43 with
    | false =>
      refine H10.offs 6 rfl ?_
      intro a11 H11
      refine H11.pick gz rfl rfl rfl rfl rfl ?_
      intro a12 H12
      exact nt ⟨_, by rw [q43] <;> rfl, H12.keep ⟨rfl, rfl, rfl, rfl, rfl, trivial⟩, O3⟩
    | true =>
      refine H10.move (H10.wt rfl rfl rfl) (.inl rfl) rfl rfl rfl ?_
      intro a11 H11
      refine H11.move (H11.wt rfl rfl rfl) (.inl rfl) rfl rfl rfl ?_
      intro a12 H12
      refine H12.bin (H12.wt rfl rfl rfl) rfl rfl rfl rfl rfl (pred_i (k + 1) _ _ _) ?_
      intro a13 H13
      refine H13.index (H13.wt rfl rfl rfl) rfl rfl rfl rfl rfl (show (Instr.indexAt 31 (.slice A xs.length c) (.int .i64 (IntKind.i64.wrap ((k + 1 : Nat) : Int)))).run Tryd.prog _ = .ok (.pointer (some ⟨gb, go + (k + 1), none⟩)) _ by rw [IntWalk.i64_in _ (by omega), hA]; exact index_1 31 Tryd.underlying31 (fun _ => by kernel_rfl) _ _ _ _ _ hlt _) ?_
      intro a14 H14
      refine H14.load (H14.wt rfl rfl rfl) rfl rfl rfl rfl (load1_u _ _ _ _ ((cellB O3.bel hgb).trans ((cellB O2.bel hgb).symm.trans hcell))) ?_
      intro a15 H15
      refine H15.bin (H15.wt rfl rfl rfl) rfl rfl rfl rfl rfl (eql_u _ _ (decide (x.toNat = 0)) (beqN0 _) _ _ _) ?_
      intro a16 H16
      refine H16.pick gz rfl rfl rfl rfl rfl ?_
      intro a17 H17
      exact nt ⟨_, by rw [q43] <;> rfl, H17.keep ⟨rfl, rfl, rfl, rfl, rfl, trivial⟩, O3⟩
  rintro a11 w4 ⟨v50, q50, H11, O4⟩
  refine nt ?_
  cases v50 with
  | true =>
    simp only [Bool.and_eq_true, decide_eq_true_eq] at q50
    rw [if_pos ⟨q50.2, by omega⟩] at hs
    refine H11.condT rfl ?_
    refine rl ?_
    refine H11.any (w' := w4) gz rfl rfl (.agg (mqCells (mq0 0) nilV nilV nilV).toArray) (by intro cs b h; cases h) (by kernel_rfl) (by kernel_rfl) ?_
    intro a12 H12
    refine H12.st O4 0 2 (hi := size_mq) fun a15 w5 O5 H15 => nt ?_
    refine wp_ret ?_
    repeat (first | (with_reducible refine block_ret ?_) | (with_reducible refine then_ret ?_))
    refine bodyPost_ret (results_m2 Tryd.results34 _ (H15.at_ 2 _ rfl) (H15.at_ 3 _ rfl) (H15.at_ 4 _ rfl) (O5.get 0 rfl) Tryd.underlying30 rfl size_mq rfl) H15.df ?_
    exact ⟨mq0 0, 0, 1, nilV, nilV, nilV, parsed_err (hs), rfl, MqL.nil rfl rfl rfl, small0 0, O5.bel⟩
  | false =>
    simp only [Bool.and_eq_false_imp, decide_eq_true_eq, decide_eq_false_iff_not] at q50
    rw [if_neg (fun h => q50 (by omega) h.1)] at hs
    refine H11.condF rfl ?_
    refine skip_wp ?_
    refine then_normal ?_
    by_cases hbig : 1024 < n + (k + 1 + 1)
    · skip
      rw [if_pos hbig] at hs
      refine H11.rg 2 fun a13 H13 => ?_
      refine H13.bb 0 rfl rfl rfl rfl rfl rfl (add_i _ _ (by omega) _ _ _) rfl fun a14 H14 => ?_
      refine H14.bb 0 rfl rfl rfl rfl rfl rfl (gtr_i _ _ true (by simp; omega) _ _ _) rfl fun a15 H15 => nt ?_
      refine H15.condT rfl ?_
      refine rl ?_
      refine H15.any (w' := w4) gz rfl rfl (.agg (mqCells (mq0 0) nilV nilV nilV).toArray) (by intro cs b h; cases h) (by kernel_rfl) (by kernel_rfl) ?_
      intro a16 H16
      refine H16.st O4 0 2 (hi := size_mq) fun a19 w5 O5 H19 => nt ?_
      refine wp_ret ?_
      repeat (first | (with_reducible refine block_ret ?_) | (with_reducible refine then_ret ?_))
      refine bodyPost_ret (results_m2 Tryd.results34 _ (H19.at_ 2 _ rfl) (H19.at_ 3 _ rfl) (H19.at_ 4 _ rfl) (O5.get 0 rfl) Tryd.underlying30 rfl size_mq rfl) H19.df ?_
      exact ⟨mq0 0, 0, 2, nilV, nilV, nilV, parsed_err (hs), rfl, MqL.nil rfl rfl rfl, small0 0, O5.bel⟩
    rw [if_neg hbig] at hs
    refine H11.rg 2 fun a13 H13 => ?_
    refine H13.bb 0 rfl rfl rfl rfl rfl rfl (add_i _ _ (by omega) _ _ _) rfl fun a14 H14 => ?_
    refine H14.bb 0 rfl rfl rfl rfl rfl rfl (gtr_i _ _ false (by simp; omega) _ _ _) rfl fun a15 H15 => nt ?_
    refine H15.condF rfl ?_
    refine skip_wp ?_
    refine then_normal ?_
    by_cases hcut : xs.length < n + (k + 2)
    · skip
      rw [if_pos (by rw [List.length_drop]; omega)] at hs
      refine H15.rg 1 fun a16 H16 => ?_
      refine H16.len gz rfl rfl rfl rfl Tryd.underlying31 ?_
      intro a17 H17
      refine H17.ms 2 fun a19 H19 => ?_
      refine H19.bb 0 rfl rfl rfl rfl rfl rfl (add_i _ _ (by omega) _ _ _) rfl fun a20 H20 => ?_
      refine H20.bb 0 rfl rfl rfl rfl rfl rfl (lss_i _ _ true (by simp; omega) _ _ _) rfl fun a21 H21 => nt ?_
      refine H21.condT rfl ?_
      refine rl ?_
      refine H21.any (w' := w4) gz rfl rfl (.agg (mqCells (mq0 0) nilV nilV nilV).toArray) (by intro cs b h; cases h) (by kernel_rfl) (by kernel_rfl) ?_
      intro a22 H22
      refine H22.st O4 0 2 (hi := size_mq) fun a25 w5 O5 H25 => nt ?_
      refine wp_ret ?_
      repeat (first | (with_reducible refine block_ret ?_) | (with_reducible refine then_ret ?_))
      refine bodyPost_ret (results_m2 Tryd.results34 _ (H25.at_ 2 _ rfl) (H25.at_ 3 _ rfl) (H25.at_ 4 _ rfl) (O5.get 0 rfl) Tryd.underlying30 rfl size_mq rfl) H25.df ?_
      exact ⟨mq0 0, 0, 7, nilV, nilV, nilV, parsed_err (hs), rfl, MqL.nil rfl rfl rfl, small0 0, O5.bel⟩
    rw [if_neg (by rw [List.length_drop]; omega)] at hs
    refine H15.rg 1 fun a16 H16 => ?_
    refine H16.len gz rfl rfl rfl rfl Tryd.underlying31 ?_
    intro a17 H17
    refine H17.ms 2 fun a19 H19 => ?_
    refine H19.bb 0 rfl rfl rfl rfl rfl rfl (add_i _ _ (by omega) _ _ _) rfl fun a20 H20 => ?_
    refine H20.bb 0 rfl rfl rfl rfl rfl rfl (lss_i _ _ false (by simp; omega) _ _ _) rfl fun a21 H21 => nt ?_
    refine H21.condF rfl ?_
    refine skip_wp ?_
    refine then_normal ?_
    obtain ⟨t, ht⟩ : ∃ t, k + 2 + n = t := ⟨_, rfl⟩
    obtain ⟨i, hi⟩ : ∃ i, k + 2 = i := ⟨_, rfl⟩
    rw [show n + (k + 1 + 1) = t by omega, show k + 1 + 1 = i by omega] at hs
    rw [hi] at H21
    have hti : i + n = t := by omega
    have hg := sizeD_ge hs
    obtain ⟨gb0, go0, y, hA0, hgb0, hy, hcell0⟩ := RB.get (hr.below O4.bel) (k := 0) (by omega)
    rw [Nat.add_zero] at hcell0
    have hy0 : xs.headD 0 = y := head_of hy
    obtain ⟨r, hrd⟩ : ∃ r, r = readR ((y.toNat / 16 : Nat) : Int) y ((xs.take t).drop i, false) := ⟨_, rfl⟩
    have hyl : ((xs.take t).drop i).length = t - i := by simp; omega
    have hsm : Small r.1 := by rw [hrd]; exact small_readR _ _ _ (by show ((xs.take t).drop i).length ≤ _; omega)
    have hln : Lens r.1 8 := by rw [hrd]; exact lens_readR _ _ _
    have hP := parsed_readR hs r (by rw [hy0]; exact hrd)
    have hrS : RB w4 w4.heap.size A xs := hr.next O4.bel
    have hTS := hT.below O4.bel
    have hC2 := O4.get 0 rfl
    have hl2 := O4.lt 0 rfl
    have hgbS : gb0 < w4.heap.size := Nat.lt_of_lt_of_le hgb0 O4.bel.size
    have H22 := H21.keep (l' := [(0, .slice A xs.length c), (2, .pointer (some ⟨w.heap.size, 0, none⟩)), (5, .int .i64 (n : Int)), (6, .int .i64 (i : Int))]) ⟨rfl, rfl, rfl, rfl, trivial⟩
    repeat (refine wp_seq ?_)
    refine wp_region_invB (by kernel_rfl) (fun listed a w' => InvB 100 [(0, .slice A xs.length c), (2, .pointer (some ⟨w.heap.size, 0, none⟩)), (5, .int .i64 (n : Int)), (6, .int .i64 (i : Int))] [⟨0, 65, [], fun v _ => v = .slice A xs.length c⟩, ⟨1, 66, [], fun v _ => v = .pointer (some ⟨gb0, go0, none⟩)⟩, ⟨2, 67, [], fun v _ => v = .int .u8 (y.toNat : Int)⟩, ⟨3, 68, [], fun v _ => v = .slice A xs.length c⟩, ⟨4, 69, [], fun v _ => v = .int .i64 (i : Int)⟩, ⟨5, 70, [], fun v _ => v = .int .i64 (i : Int)⟩, ⟨6, 71, [], fun v _ => v = .int .i64 (n : Int)⟩, ⟨7, 72, [], fun v _ => v = .int .i64 ((i + n : Nat) : Int)⟩, ⟨8, 73, [], fun v _ => v = .slice (if c = i then A else A.map (·.add i)) (t - i) (c - i)⟩, ⟨9, 74, [], fun _ _ => True⟩, ⟨10, 64, [], fun _ _ => True⟩, ⟨11, 75, [], fun _ _ => True⟩, ⟨12, 76, [], fun v _ => v = .bool (!r.2.2)⟩, ⟨13, 7, [], fun _ _ => True⟩, ⟨15, 8, [], fun v _ => v = .bool (!r.2.2)⟩] (fun _ => True) listed a w' ∧ RPS w4 r listed a w') (back_of (by kernel_rfl)) ?_ ?_ ?_
    · intro listed aa ww i' o hs' hni hcl ho hd hIX
      obtain ⟨hI, hX⟩ := hIX
      have hls : listed.size = 16 := hs'
      have u_0 : aa.eval (.tmp 0) = .slice A xs.length c := hI.fx.1
      have u_2 : aa.eval (.tmp 2) = .pointer (some ⟨w.heap.size, 0, none⟩) := hI.fx.2.1
      have u_5 : aa.eval (.tmp 5) = .int .i64 (n : Int) := hI.fx.2.2.1
      have u_6 : aa.eval (.tmp 6) = .int .i64 (i : Int) := hI.fx.2.2.2.1
      match i', ho with
      | 0, ho =>
        obtain rfl := pick_op ho rfl
        have HH : Has aa 100 [(0, .slice A xs.length c)] := Has.of hI.sz hI.df ⟨u_0, trivial⟩
        refine wpOp_go ho gz 65 rfl (.slice A xs.length c) ww (run_move (.inl rfl) (HH.ev rfl)) ?_
        exact ⟨hI.put (by kernel_rfl) _ (ma 0 rfl) (by rw [hls]; show 0 < 16; decide) (by rw [hls]; decide) (.slice A xs.length c) rfl trivial AllSt.same, hX.pure 0 65 _ (by decide) (by decide)⟩
      | 1, ho =>
        obtain rfl := pick_op ho rfl
        have u_65 : aa.eval (.tmp 65) = .slice A xs.length c := hI.vs _ (ma 0 rfl) (.inr (ran_of hd 0 (by kernel_rfl))) trivial
        have HH : Has aa 100 [(65, .slice A xs.length c)] := Has.of hI.sz hI.df ⟨u_65, trivial⟩
        refine wpOp_go ho gz 66 rfl (.pointer (some ⟨gb0, go0, none⟩)) ww (run_index rfl (HH.ev rfl) rfl (show (Instr.indexAt 31 (.slice A xs.length c) (.int .i64 0)).run Tryd.prog ww = .ok (.pointer (some ⟨gb0, go0, none⟩)) ww by rw [hA0]; exact index_0 _ _ _ _ (by omega) _)) ?_
        exact ⟨hI.put (by kernel_rfl) _ (ma 1 rfl) (by rw [hls]; show 1 < 16; decide) (by rw [hls]; decide) (.pointer (some ⟨gb0, go0, none⟩)) rfl trivial AllSt.same, hX.pure 1 66 _ (by decide) (by decide)⟩
      | 2, ho =>
        obtain rfl := pick_op ho rfl
        have u_66 : aa.eval (.tmp 66) = .pointer (some ⟨gb0, go0, none⟩) := hI.vs _ (ma 1 rfl) (.inr (ran_of hd 1 (by kernel_rfl))) trivial
        have HH : Has aa 100 [(66, .pointer (some ⟨gb0, go0, none⟩))] := Has.of hI.sz hI.df ⟨u_66, trivial⟩
        refine wpOp_go ho gz 67 rfl (.int .u8 (y.toNat : Int)) ww (run_load rfl (HH.ev rfl) (load1_u _ _ _ _ ((cellB hX.base.own.bel hgbS).trans hcell0))) ?_
        exact ⟨hI.put (by kernel_rfl) _ (ma 2 rfl) (by rw [hls]; show 2 < 16; decide) (by rw [hls]; decide) (.int .u8 (y.toNat : Int)) rfl trivial AllSt.same, hX.pure 2 67 _ (by decide) (by decide)⟩
      | 3, ho =>
        obtain rfl := pick_op ho rfl
        have HH : Has aa 100 [(0, .slice A xs.length c)] := Has.of hI.sz hI.df ⟨u_0, trivial⟩
        refine wpOp_go ho gz 68 rfl (.slice A xs.length c) ww (run_move (.inl rfl) (HH.ev rfl)) ?_
        exact ⟨hI.put (by kernel_rfl) _ (ma 3 rfl) (by rw [hls]; show 3 < 16; decide) (by rw [hls]; decide) (.slice A xs.length c) rfl trivial AllSt.same, hX.pure 3 68 _ (by decide) (by decide)⟩
      | 4, ho =>
        obtain rfl := pick_op ho rfl
        have HH : Has aa 100 [(6, .int .i64 (i : Int))] := Has.of hI.sz hI.df ⟨u_6, trivial⟩
        refine wpOp_go ho gz 69 rfl (.int .i64 (i : Int)) ww (run_move (.inl rfl) (HH.ev rfl)) ?_
        exact ⟨hI.put (by kernel_rfl) _ (ma 4 rfl) (by rw [hls]; show 4 < 16; decide) (by rw [hls]; decide) (.int .i64 (i : Int)) rfl trivial AllSt.same, hX.pure 4 69 _ (by decide) (by decide)⟩
      | 5, ho =>
        obtain rfl := pick_op ho rfl
        have HH : Has aa 100 [(6, .int .i64 (i : Int))] := Has.of hI.sz hI.df ⟨u_6, trivial⟩
        refine wpOp_go ho gz 70 rfl (.int .i64 (i : Int)) ww (run_move (.inl rfl) (HH.ev rfl)) ?_
        exact ⟨hI.put (by kernel_rfl) _ (ma 5 rfl) (by rw [hls]; show 5 < 16; decide) (by rw [hls]; decide) (.int .i64 (i : Int)) rfl trivial AllSt.same, hX.pure 5 70 _ (by decide) (by decide)⟩
      | 6, ho =>
        obtain rfl := pick_op ho rfl
        have HH : Has aa 100 [(5, .int .i64 (n : Int))] := Has.of hI.sz hI.df ⟨u_5, trivial⟩
        refine wpOp_go ho gz 71 rfl (.int .i64 (n : Int)) ww (run_move (.inl rfl) (HH.ev rfl)) ?_
        exact ⟨hI.put (by kernel_rfl) _ (ma 6 rfl) (by rw [hls]; show 6 < 16; decide) (by rw [hls]; decide) (.int .i64 (n : Int)) rfl trivial AllSt.same, hX.pure 6 71 _ (by decide) (by decide)⟩
      | 7, ho =>
        obtain rfl := pick_op ho rfl
        have u_70 : aa.eval (.tmp 70) = .int .i64 (i : Int) := hI.vs _ (ma 5 rfl) (.inr (ran_of hd 5 (by kernel_rfl))) trivial
        have u_71 : aa.eval (.tmp 71) = .int .i64 (n : Int) := hI.vs _ (ma 6 rfl) (.inr (ran_of hd 6 (by kernel_rfl))) trivial
        have HH : Has aa 100 [(70, .int .i64 (i : Int)), (71, .int .i64 (n : Int))] := Has.of hI.sz hI.df ⟨u_70, u_71, trivial⟩
        refine wpOp_go ho gz 72 rfl (.int .i64 ((i + n : Nat) : Int)) ww (run_bin rfl (HH.ev rfl) (HH.ev rfl) (add_i _ _ (by omega) _ _ _)) ?_
        exact ⟨hI.put (by kernel_rfl) _ (ma 7 rfl) (by rw [hls]; show 7 < 16; decide) (by rw [hls]; decide) (.int .i64 ((i + n : Nat) : Int)) rfl trivial AllSt.same, hX.pure 7 72 _ (by decide) (by decide)⟩
      | 8, ho =>
        obtain rfl := pick_op ho rfl
        have u_68 : aa.eval (.tmp 68) = .slice A xs.length c := hI.vs _ (ma 3 rfl) (.inr (ran_of hd 3 (by kernel_rfl))) trivial
        have u_69 : aa.eval (.tmp 69) = .int .i64 (i : Int) := hI.vs _ (ma 4 rfl) (.inr (ran_of hd 4 (by kernel_rfl))) trivial
        have u_72 : aa.eval (.tmp 72) = .int .i64 ((i + n : Nat) : Int) := hI.vs _ (ma 7 rfl) (.inr (ran_of hd 7 (by kernel_rfl))) trivial
        have HH : Has aa 100 [(68, .slice A xs.length c), (69, .int .i64 (i : Int)), (72, .int .i64 ((i + n : Nat) : Int))] := Has.of hI.sz hI.df ⟨u_68, u_69, u_72, trivial⟩
        refine wpOp_go ho gz 73 rfl (.slice (if c = i then A else A.map (·.add i)) (t - i) (c - i)) ww (run_slice rfl (HH.ev rfl) (HH.ev rfl) (HH.ev rfl) (show (Instr.sliceAt 31 (.slice A xs.length c) (some (.int .i64 (i : Int))) (some (.int .i64 ((i + n : Nat) : Int))) none).run Tryd.prog ww = .ok _ ww by rw [hti]; exact slice_lh _ _ _ _ _ hg.2.1 hg.2.2.1 hc _)) ?_
        exact ⟨hI.put (by kernel_rfl) _ (ma 8 rfl) (by rw [hls]; show 8 < 16; decide) (by rw [hls]; decide) (.slice (if c = i then A else A.map (·.add i)) (t - i) (c - i)) rfl trivial AllSt.same, hX.pure 8 73 _ (by decide) (by decide)⟩
      | 9, ho =>
        obtain rfl := pick_op ho rfl
        have u_67 : aa.eval (.tmp 67) = .int .u8 (y.toNat : Int) := hI.vs _ (ma 2 rfl) (.inr (ran_of hd 2 (by kernel_rfl))) trivial
        have u_73 : aa.eval (.tmp 73) = .slice (if c = i then A else A.map (·.add i)) (t - i) (c - i) := hI.vs _ (ma 8 rfl) (.inr (ran_of hd 8 (by kernel_rfl))) trivial
        have HH : Has aa 100 [(67, .int .u8 (y.toNat : Int)), (73, .slice (if c = i then A else A.map (·.add i)) (t - i) (c - i))] := Has.of hI.sz hI.df ⟨u_67, u_73, trivial⟩
        refine wpOp_enter ho gz 74 rfl 64 _ (run_callH HH rfl rfl (fun _ _ => by kernel_rfl)) _ (refReadC y _ _ _ _ hyl (by omega) r hrd ww ((((hrS.below hX.base.own.bel).take t).cut (by simp; omega) (by simp; omega)).more hX.base.own.bel.size)) ?_
        rintro _ w' ⟨vc, vw, vf, rfl, hb, h3⟩
        exact ⟨hI.put (by kernel_rfl) _ (ma 9 rfl) (by rw [hls]; show 9 < 16; decide) (by rw [hls]; decide) (_) trivial trivial ⟨fun _ _ _ _ _ h => h, fun _ _ _ _ _ h => h, fun _ _ _ _ _ h => h, fun _ _ _ _ _ h => h, fun _ _ _ _ _ h => h, fun _ _ _ _ _ h => h, fun _ _ _ _ _ h => h, fun _ _ _ _ _ h => h, fun _ _ _ _ _ h => h, fun _ _ _ _ _ h => h, fun _ _ _ _ _ h => h, fun _ _ _ _ _ h => h, fun _ _ _ _ _ h => h, fun _ _ _ _ _ h => h, fun _ _ _ _ _ h => h, trivial⟩, hX.call hls hI.sz hni (Bool.eq_false_iff.2 fun h => absurd (hni.symm.trans (ran_of (hcl 10 _ rfl h) 9 (by kernel_rfl))) (by decide)) (Bool.eq_false_iff.2 fun h => absurd (hni.symm.trans (ran_of (hcl 10 _ rfl (ran_of (hcl 11 _ rfl h) 10 (by kernel_rfl))) 9 (by kernel_rfl))) (by decide)) (Bool.eq_false_iff.2 fun h => absurd (hni.symm.trans (ran_of (hcl 10 _ rfl (ran_of (hcl 11 _ rfl (ran_of (hcl 14 _ rfl h) 11 (by kernel_rfl))) 10 (by kernel_rfl))) 9 (by kernel_rfl))) (by decide)) hb h3⟩
      | 10, ho =>
        obtain rfl := pick_op ho rfl
        have HH : Has aa 100 [] := Has.of hI.sz hI.df trivial
        have h9 := ran_of hd 9 (by kernel_rfl)
        refine wpOp_go ho gz 64 rfl (aa.eval (.tmp 74)) ww (run_move (.inl rfl) rfl) ?_
        exact ⟨hI.put (by kernel_rfl) _ (ma 10 rfl) (by rw [hls]; show 10 < 16; decide) (by rw [hls]; decide) (_) trivial trivial AllSt.same, hX.move hls hI.sz h9⟩
      | 11, ho =>
        obtain rfl := pick_op ho rfl
        have HH : Has aa 100 [] := Has.of hI.sz hI.df trivial
        have h10 := ran_of hd 10 (by kernel_rfl)
        have h9 : listed.getD 9 false = true := ran_of (hcl 10 _ rfl h10) 9 (by kernel_rfl)
        obtain ⟨vc, vw, vf, e74, k10, k11, h3, k13⟩ := hX.post h9
        refine wpOp_go ho gz 75 rfl (.agg (mqCells r.1 vc vw vf).toArray) ww (run_extract rfl (k10 h10) (by rfl)) ?_
        exact ⟨hI.put (by kernel_rfl) _ (ma 11 rfl) (by rw [hls]; show 11 < 16; decide) (by rw [hls]; decide) (_) trivial trivial AllSt.same, hX.first hls hI.sz h9 (fun _ _ _ e => by rw [e74] at e; injection e with e; injection e with e; injection e with e1 _)⟩
      | 12, ho =>
        obtain rfl := pick_op ho rfl
        have HH : Has aa 100 [] := Has.of hI.sz hI.df trivial
        have h10 := ran_of hd 10 (by kernel_rfl)
        have h9 : listed.getD 9 false = true := ran_of (hcl 10 _ rfl h10) 9 (by kernel_rfl)
        obtain ⟨vc, vw, vf, e74, k10, k11, h3, k13⟩ := hX.post h9
        refine wpOp_go ho gz 76 rfl (.bool (!r.2.2)) ww (run_extract rfl (k10 h10) (by rfl)) ?_
        exact ⟨hI.put (by kernel_rfl) _ (ma 12 rfl) (by rw [hls]; show 12 < 16; decide) (by rw [hls]; decide) (.bool (!r.2.2)) rfl trivial AllSt.same, hX.pure 12 76 _ (by decide) (by decide)⟩
      | 13, ho =>
        obtain rfl := pick_op ho rfl
        have HH : Has aa 100 [] := Has.of hI.sz hI.df trivial
        refine wpOp_alloc ho gz 7 rfl rfl _ zero_mq (fun w' hb hs hC => ?_)
        exact ⟨hI.put (by kernel_rfl) _ (ma 13 rfl) (by rw [hls]; show 13 < 16; decide) (by rw [hls]; decide) (_) trivial trivial ⟨fun _ _ _ _ _ h => h, fun _ _ _ _ _ h => h, fun _ _ _ _ _ h => h, fun _ _ _ _ _ h => h, fun _ _ _ _ _ h => h, fun _ _ _ _ _ h => h, fun _ _ _ _ _ h => h, fun _ _ _ _ _ h => h, fun _ _ _ _ _ h => h, fun _ _ _ _ _ h => h, fun _ _ _ _ _ h => h, fun _ _ _ _ _ h => h, fun _ _ _ _ _ h => h, fun _ _ _ _ _ h => h, fun _ _ _ _ _ h => h, trivial⟩, hX.made hls hI.sz (Bool.eq_false_iff.2 fun h => absurd (hni.symm.trans (ran_of (hcl 14 _ rfl h) 13 (by kernel_rfl))) (by decide)) hb hs hC⟩
      | 14, ho =>
        obtain rfl := pick_op ho rfl
        have HH : Has aa 100 [] := Has.of hI.sz hI.df trivial
        have h11 := ran_of hd 11 (by kernel_rfl)
        have h13 := ran_of hd 13 (by kernel_rfl)
        have h9 : listed.getD 9 false = true := ran_of (hcl 10 _ rfl (ran_of (hcl 11 _ rfl h11) 10 (by kernel_rfl))) 9 (by kernel_rfl)
        obtain ⟨vc, vw, vf, e74, k10, k11, h3, k13⟩ := hX.post h9
        obtain ⟨g, e7, hgW, hglt, hCg, hfar⟩ := k13 h13
        rw [hni, if_neg (by decide)] at hCg
        refine wpOp_store_cells ho gz rfl 30 _ _ rfl g e7 (mqCells r.1 vc vw vf) (k11 h11) hCg 24 size_mq rfl rfl (mq_one _ (own_one h3.1) (own_one h3.2.1) (own_one h3.2.2)) (fun w' hg' hs2 hC' => ?_)
        exact ⟨hI.done 14 (by rw [hls]; decide) rfl trivial ⟨fun _ _ _ _ _ h => h, fun _ _ _ _ _ h => h, fun _ _ _ _ _ h => h, fun _ _ _ _ _ h => h, fun _ _ _ _ _ h => h, fun _ _ _ _ _ h => h, fun _ _ _ _ _ h => h, fun _ _ _ _ _ h => h, fun _ _ _ _ _ h => h, fun _ _ _ _ _ h => h, fun _ _ _ _ _ h => h, fun _ _ _ _ _ h => h, fun _ _ _ _ _ h => h, fun _ _ _ _ _ h => h, fun _ _ _ _ _ h => h, trivial⟩, hX.stored hls h9 h13 e7 e74 k10 k11 h3 hgW hglt hfar hg' hs2 hC'⟩
      | 15, ho =>
        obtain rfl := pick_op ho rfl
        have u_76 : aa.eval (.tmp 76) = .bool (!r.2.2) := hI.vs _ (ma 12 rfl) (.inr (ran_of hd 12 (by kernel_rfl))) trivial
        have HH : Has aa 100 [(76, .bool (!r.2.2))] := Has.of hI.sz hI.df ⟨u_76, trivial⟩
        refine wpOp_go ho gz 8 rfl (.bool (!r.2.2)) ww (run_move (.inr rfl) (HH.ev rfl)) ?_
        exact ⟨hI.put (by kernel_rfl) _ (ma 14 rfl) (by rw [hls]; show 15 < 16; decide) (by rw [hls]; decide) (.bool (!r.2.2)) rfl trivial AllSt.same, hX.pure 15 8 _ (by decide) (by decide)⟩
      | (k' + 16), ho => simp at ho
    · intro listed a23 w5 hall hIX
      obtain ⟨hI, hX⟩ := hIX
      obtain ⟨vc, vw, vf, _, _, _, hR3, k13⟩ := hX.post (hall 9 (by decide))
      obtain ⟨g7, e7, hgW, hglt, hCg, _⟩ := k13 (hall 13 (by decide))
      rw [hall 14 (by decide), if_pos rfl] at hCg
      have r_8 : a23.eval (.tmp 8) = .bool (!r.2.2) := hI.vs _ (ma 14 rfl) (.inr (hall 15 (by decide))) trivial
      have H23 : Has a23 100 [(0, .slice A xs.length c), (2, .pointer (some ⟨w.heap.size, 0, none⟩)), (5, .int .i64 (n : Int)), (6, .int .i64 (i : Int)), (7, .pointer (some ⟨g7, 0, none⟩)), (8, .bool (!r.2.2))] := Has.of hI.sz hI.df ⟨hI.fx.1, hI.fx.2.1, hI.fx.2.2.1, hI.fx.2.2.2.1, e7, r_8, trivial⟩
      have hbS := hX.base.own.bel
      clear hI hX k13 hall
      refine then_normal ?_
      obtain ⟨vo, ho⟩ : ∃ v, (!r.2.2) = v := ⟨_, rfl⟩
      obtain ⟨vm, hvm⟩ : ∃ v, mayBb r.1 = v := ⟨_, rfl⟩
      obtain ⟨ve, hve⟩ : ∃ v, decide (layB r.1 = xs.take t) = v := ⟨_, rfl⟩
      obtain ⟨v2, h2⟩ : ∃ v, (vo && vm) = v := ⟨_, rfl⟩
      obtain ⟨v3, h3⟩ : ∃ v, (v2 && ve) = v := ⟨_, rfl⟩
      have hm2 : v2 = true → mayB r.1 := fun h => mayB_of (by rw [hvm]; rw [h, Bool.and_eq_true] at h2; exact h2.2)
      rw [ho] at H23
      have hrT : RB w5 w5.heap.size A xs := hrS.next hbS
      have hTT := hTS.below hbS
      have hMT : MqL w5 w5.heap.size r.1 vc vw vf := MqL.of_rows hR3 hln (by decide)
      have hC2T := hC2.below hbS hl2
      have hl2T := Nat.lt_of_lt_of_le hl2 hbS.size
      repeat (refine wp_seq ?_)
      refine wp_region_invB (by kernel_rfl) (InvB 100 [(0, .slice A xs.length c), (2, .pointer (some ⟨w.heap.size, 0, none⟩)), (5, .int .i64 (n : Int)), (6, .int .i64 (i : Int)), (7, .pointer (some ⟨g7, 0, none⟩)), (8, .bool vo)] [⟨0, 77, [], fun v _ => v = .bool vo⟩, ⟨1, 78, [], fun v _ => v = .bool (!vo)⟩, ⟨2, 79, [], fun v _ => v = .bool (!vo)⟩, ⟨3, 80, [], fun v _ => vo = true → v = .agg (mqCells r.1 vc vw vf).toArray⟩, ⟨4, 81, [], fun v _ => vo = true → v = .bool vm⟩, ⟨5, 82, [], fun v _ => vo = true → v = .bool (!vm)⟩, ⟨6, 83, [], fun v _ => v = .bool (!v2)⟩, ⟨7, 84, [], fun v _ => v = .bool (!v2)⟩, ⟨8, 85, [], fun v _ => v2 = true → v = .agg (mqCells r.1 vc vw vf).toArray⟩, ⟨9, 86, [], fun v w => v2 = true → BytesAre (layB r.1) v w⟩, ⟨10, 87, [], fun v _ => v2 = true → v = .slice A xs.length c⟩, ⟨11, 88, [], fun v _ => v2 = true → v = .int .i64 (i : Int)⟩, ⟨12, 89, [], fun v _ => v2 = true → v = .int .i64 (n : Int)⟩, ⟨13, 90, [], fun v _ => v2 = true → v = .int .i64 (t : Int)⟩, ⟨14, 91, [], fun v _ => v2 = true → v = .slice A t c⟩, ⟨15, 92, [], fun v _ => v2 = true → v = .bool ve⟩, ⟨16, 93, [], fun v _ => v2 = true → v = .bool (!ve)⟩, ⟨17, 94, [], fun v _ => v = .bool (!v3)⟩] (Base w5 w5.heap.size [])) (back_of (by kernel_rfl)) ?_ ?_ ?_
      · intro listed aa ww ii o hs hni hcl ho hd hI
        have hls : listed.size = 18 := hs
        have u_0 : aa.eval (.tmp 0) = .slice A xs.length c := hI.fx.1
        have u_2 : aa.eval (.tmp 2) = .pointer (some ⟨w.heap.size, 0, none⟩) := hI.fx.2.1
        have u_5 : aa.eval (.tmp 5) = .int .i64 (n : Int) := hI.fx.2.2.1
        have u_6 : aa.eval (.tmp 6) = .int .i64 (i : Int) := hI.fx.2.2.2.1
        have u_7 : aa.eval (.tmp 7) = .pointer (some ⟨g7, 0, none⟩) := hI.fx.2.2.2.2.1
        have u_8 : aa.eval (.tmp 8) = .bool vo := hI.fx.2.2.2.2.2.1
        match ii, ho with
        | 0, ho =>
          obtain rfl := pick_op ho rfl
          have HH : Has aa 100 [(8, .bool vo)] := Has.of hI.sz hI.df ⟨u_8, trivial⟩
          refine wpOp_go ho gz 77 rfl (.bool vo) ww (run_move (.inl rfl) (HH.ev rfl)) ?_
          exact hI.put (by kernel_rfl) _ (ma 0 rfl) (by rw [hls]; show 0 < 18; decide) (by rw [hls]; decide) (.bool vo) rfl hI.wp AllSt.same
        | 1, ho =>
          obtain rfl := pick_op ho rfl
          have r_77 := hI.vs _ (ma 0 rfl) (.inr (ran_of hd 0 (by kernel_rfl))) trivial
          have u_77 : aa.eval (.tmp 77) = .bool vo := r_77
          have HH : Has aa 100 [(77, .bool vo)] := Has.of hI.sz hI.df ⟨u_77, trivial⟩
          refine wpOp_go ho gz 78 rfl (.bool (!vo)) ww (run_any HH (by intro cs b h; cases h) (by kernel_rfl) (by kernel_rfl)) ?_
          exact hI.put (by kernel_rfl) _ (ma 1 rfl) (by rw [hls]; show 1 < 18; decide) (by rw [hls]; decide) (.bool (!vo)) rfl hI.wp AllSt.same
        | 2, ho =>
          obtain rfl := pick_op ho rfl
          have r_78 := hI.vs _ (ma 1 rfl) (.inr (ran_of hd 1 (by kernel_rfl))) trivial
          have u_78 : aa.eval (.tmp 78) = .bool (!vo) := r_78
          have HH : Has aa 100 [(78, .bool (!vo))] := Has.of hI.sz hI.df ⟨u_78, trivial⟩
          refine wpOp_go ho gz 79 rfl (.bool (!vo)) ww (run_move (.inl rfl) (HH.ev rfl)) ?_
          exact hI.put (by kernel_rfl) _ (ma 2 rfl) (by rw [hls]; show 2 < 18; decide) (by rw [hls]; decide) (.bool (!vo)) rfl hI.wp AllSt.same
        | 3, ho =>
          obtain rfl := pick_op ho rfl
          have ug : aa.eval (.tmp 79) = .bool (!vo) := hI.vs _ (ma 2 rfl) (.inr (ran_of hd 2 (by kernel_rfl))) trivial
          rcases Bool.eq_false_or_eq_true vo with hG | hG
          · skip
            rw [hG] at ug
            have HH : Has aa 100 [(7, .pointer (some ⟨g7, 0, none⟩))] := Has.of hI.sz hI.df ⟨u_7, trivial⟩
            refine wpOp_go ho (wt_of rfl rfl ug) 80 rfl (.agg (mqCells r.1 vc vw vf).toArray) ww (run_load rfl (HH.ev rfl) (loadS_run (hCg.below hI.wp.own.bel hglt))) ?_
            exact hI.put (by kernel_rfl) _ (ma 3 rfl) (by rw [hls]; show 3 < 18; decide) (by rw [hls]; decide) (.agg (mqCells r.1 vc vw vf).toArray) (fun _ => rfl) hI.wp AllSt.same
          · skip
            rw [hG] at ug
            exact wpOp_off ho (wf_of rfl rfl ug) (hI.put (by kernel_rfl) _ (ma 3 rfl) (by rw [hls]; show 3 < 18; decide) (by rw [hls]; decide) (undef) (fun h => absurd (hG.symm.trans h) (by decide)) hI.wp AllSt.same)
        | 4, ho =>
          obtain rfl := pick_op ho rfl
          have ug : aa.eval (.tmp 79) = .bool (!vo) := hI.vs _ (ma 2 rfl) (.inr (ran_of hd 2 (by kernel_rfl))) trivial
          rcases Bool.eq_false_or_eq_true vo with hG | hG
          · skip
            rw [hG] at ug
            have r_80 := hI.vs _ (ma 3 rfl) (.inr (ran_of hd 3 (by kernel_rfl))) trivial hG
            have u_80 : aa.eval (.tmp 80) = .agg (mqCells r.1 vc vw vf).toArray := r_80
            have HH : Has aa 100 [(80, .agg (mqCells r.1 vc vw vf).toArray)] := Has.of hI.sz hI.df ⟨u_80, trivial⟩
            refine wpOp_enter ho (wt_of rfl rfl ug) 81 rfl 25 _ (run_callH HH rfl rfl (fun _ _ => by kernel_rfl)) _ (belowC (mayC r.1 _ _ _ vm hvm ww (hMT.next hI.wp.own.bel) hsm.fit (hTT.below hI.wp.own.bel))) ?_
            rintro _ w' ⟨rfl, hb⟩
            exact hI.put (by kernel_rfl) _ (ma 4 rfl) (by rw [hls]; show 4 < 18; decide) (by rw [hls]; decide) (.bool vm) (fun _ => rfl) (hI.wp.call hb) ⟨fun _ _ _ _ _ h => h, fun _ _ _ _ _ h => h, fun _ _ _ _ _ h => h, fun _ _ _ _ _ h => h, fun _ _ _ _ _ h => h, fun _ _ _ _ _ h => h, fun _ _ _ _ _ h => h, fun _ _ _ _ _ h => h, fun _ _ _ _ _ h => h, fun _ _ _ _ _ h hg => (h hg).below hb, fun _ _ _ _ _ h => h, fun _ _ _ _ _ h => h, fun _ _ _ _ _ h => h, fun _ _ _ _ _ h => h, fun _ _ _ _ _ h => h, fun _ _ _ _ _ h => h, fun _ _ _ _ _ h => h, fun _ _ _ _ _ h => h, trivial⟩
          · skip
            rw [hG] at ug
            exact wpOp_off ho (wf_of rfl rfl ug) (hI.put (by kernel_rfl) _ (ma 4 rfl) (by rw [hls]; show 4 < 18; decide) (by rw [hls]; decide) (undef) (fun h => absurd (hG.symm.trans h) (by decide)) hI.wp AllSt.same)
        | 5, ho =>
          obtain rfl := pick_op ho rfl
          have ug : aa.eval (.tmp 79) = .bool (!vo) := hI.vs _ (ma 2 rfl) (.inr (ran_of hd 2 (by kernel_rfl))) trivial
          rcases Bool.eq_false_or_eq_true vo with hG | hG
          · skip
            rw [hG] at ug
            have r_81 := hI.vs _ (ma 4 rfl) (.inr (ran_of hd 4 (by kernel_rfl))) trivial hG
            have u_81 : aa.eval (.tmp 81) = .bool vm := r_81
            have HH : Has aa 100 [(81, .bool vm)] := Has.of hI.sz hI.df ⟨u_81, trivial⟩
            refine wpOp_go ho (wt_of rfl rfl ug) 82 rfl (.bool (!vm)) ww (run_any HH (by intro cs b h; cases h) (by kernel_rfl) (by kernel_rfl)) ?_
            exact hI.put (by kernel_rfl) _ (ma 5 rfl) (by rw [hls]; show 5 < 18; decide) (by rw [hls]; decide) (.bool (!vm)) (fun _ => rfl) hI.wp AllSt.same
          · skip
            rw [hG] at ug
            exact wpOp_off ho (wf_of rfl rfl ug) (hI.put (by kernel_rfl) _ (ma 5 rfl) (by rw [hls]; show 5 < 18; decide) (by rw [hls]; decide) (undef) (fun h => absurd (hG.symm.trans h) (by decide)) hI.wp AllSt.same)
        | 6, ho =>
          obtain rfl := pick_op ho rfl
          have r_79 := hI.vs _ (ma 2 rfl) (.inr (ran_of hd 2 (by kernel_rfl))) trivial
          have u_79 : aa.eval (.tmp 79) = .bool (!vo) := r_79
          rcases Bool.eq_false_or_eq_true vo with hG | hG
          · skip
            rw [hG] at u_79
            have u_82 : aa.eval (.tmp 82) = .bool (!vm) := hI.vs _ (ma 5 rfl) (.inr (ran_of hd 5 (by kernel_rfl))) trivial hG
            have HH : Has aa 100 [(79, .bool (!true)), (82, .bool (!vm))] := Has.of hI.sz hI.df ⟨u_79, u_82, trivial⟩
            refine wpOp_go ho gz 83 rfl (.bool (!vm)) ww (run_any HH (by intro cs b h; cases h) (by kernel_rfl) (by rfl)) ?_
            exact hI.put (by kernel_rfl) _ (ma 6 rfl) (by rw [hls]; show 6 < 18; decide) (by rw [hls]; decide) (.bool (!vm)) (by rw [← h2, hG] <;> rfl) hI.wp AllSt.same
          · skip
            rw [hG] at u_79
            have HH : Has aa 100 [(79, .bool (!false)), (82, aa.eval (.tmp 82))] := Has.of hI.sz hI.df ⟨u_79, rfl, trivial⟩
            refine wpOp_go ho gz 83 rfl (.bool true) ww (run_any HH (by intro cs b h; cases h) (by kernel_rfl) (by rfl)) ?_
            exact hI.put (by kernel_rfl) _ (ma 6 rfl) (by rw [hls]; show 6 < 18; decide) (by rw [hls]; decide) (.bool true) (by rw [← h2, hG] <;> rfl) hI.wp AllSt.same
        | 7, ho =>
          obtain rfl := pick_op ho rfl
          have r_83 := hI.vs _ (ma 6 rfl) (.inr (ran_of hd 6 (by kernel_rfl))) trivial
          have u_83 : aa.eval (.tmp 83) = .bool (!v2) := r_83
          have HH : Has aa 100 [(83, .bool (!v2))] := Has.of hI.sz hI.df ⟨u_83, trivial⟩
          refine wpOp_go ho gz 84 rfl (.bool (!v2)) ww (run_move (.inl rfl) (HH.ev rfl)) ?_
          exact hI.put (by kernel_rfl) _ (ma 7 rfl) (by rw [hls]; show 7 < 18; decide) (by rw [hls]; decide) (.bool (!v2)) rfl hI.wp AllSt.same
        | 8, ho =>
          obtain rfl := pick_op ho rfl
          have ug : aa.eval (.tmp 84) = .bool (!v2) := hI.vs _ (ma 7 rfl) (.inr (ran_of hd 7 (by kernel_rfl))) trivial
          rcases Bool.eq_false_or_eq_true v2 with hG | hG
          · skip
            rw [hG] at ug
            have HH : Has aa 100 [(7, .pointer (some ⟨g7, 0, none⟩))] := Has.of hI.sz hI.df ⟨u_7, trivial⟩
            refine wpOp_go ho (wt_of rfl rfl ug) 85 rfl (.agg (mqCells r.1 vc vw vf).toArray) ww (run_load rfl (HH.ev rfl) (loadS_run (hCg.below hI.wp.own.bel hglt))) ?_
            exact hI.put (by kernel_rfl) _ (ma 8 rfl) (by rw [hls]; show 8 < 18; decide) (by rw [hls]; decide) (.agg (mqCells r.1 vc vw vf).toArray) (fun _ => rfl) hI.wp AllSt.same
          · skip
            rw [hG] at ug
            exact wpOp_off ho (wf_of rfl rfl ug) (hI.put (by kernel_rfl) _ (ma 8 rfl) (by rw [hls]; show 8 < 18; decide) (by rw [hls]; decide) (undef) (fun h => absurd (hG.symm.trans h) (by decide)) hI.wp AllSt.same)
        | 9, ho =>
          obtain rfl := pick_op ho rfl
          have ug : aa.eval (.tmp 84) = .bool (!v2) := hI.vs _ (ma 7 rfl) (.inr (ran_of hd 7 (by kernel_rfl))) trivial
          rcases Bool.eq_false_or_eq_true v2 with hG | hG
          · skip
            rw [hG] at ug
            have r_85 := hI.vs _ (ma 8 rfl) (.inr (ran_of hd 8 (by kernel_rfl))) trivial hG
            have u_85 : aa.eval (.tmp 85) = .agg (mqCells r.1 vc vw vf).toArray := r_85
            have HH : Has aa 100 [(85, .agg (mqCells r.1 vc vw vf).toArray)] := Has.of hI.sz hI.df ⟨u_85, trivial⟩
            refine wpOp_enter ho (wt_of rfl rfl ug) 86 rfl 29 _ (run_callH HH rfl rfl (fun _ _ => by kernel_rfl)) _ ((refBytes r.1 _ _ _ ww (hm2 hG) (hMT.next hI.wp.own.bel)).mono fun _ _ h => h.bytes) ?_
            rintro v' w' ⟨hrow, hb⟩
            exact hI.put (by kernel_rfl) _ (ma 9 rfl) (by rw [hls]; show 9 < 18; decide) (by rw [hls]; decide) (v') (fun _ => hrow) (hI.wp.call hb) ⟨fun _ _ _ _ _ h => h, fun _ _ _ _ _ h => h, fun _ _ _ _ _ h => h, fun _ _ _ _ _ h => h, fun _ _ _ _ _ h => h, fun _ _ _ _ _ h => h, fun _ _ _ _ _ h => h, fun _ _ _ _ _ h => h, fun _ _ _ _ _ h => h, fun _ _ _ _ _ h hg => (h hg).below hb, fun _ _ _ _ _ h => h, fun _ _ _ _ _ h => h, fun _ _ _ _ _ h => h, fun _ _ _ _ _ h => h, fun _ _ _ _ _ h => h, fun _ _ _ _ _ h => h, fun _ _ _ _ _ h => h, fun _ _ _ _ _ h => h, trivial⟩
          · skip
            rw [hG] at ug
            exact wpOp_off ho (wf_of rfl rfl ug) (hI.put (by kernel_rfl) _ (ma 9 rfl) (by rw [hls]; show 9 < 18; decide) (by rw [hls]; decide) (undef) (fun h => absurd (hG.symm.trans h) (by decide)) hI.wp AllSt.same)
        | 10, ho =>
          obtain rfl := pick_op ho rfl
          have ug : aa.eval (.tmp 84) = .bool (!v2) := hI.vs _ (ma 7 rfl) (.inr (ran_of hd 7 (by kernel_rfl))) trivial
          rcases Bool.eq_false_or_eq_true v2 with hG | hG
          · skip
            rw [hG] at ug
            have HH : Has aa 100 [(0, .slice A xs.length c)] := Has.of hI.sz hI.df ⟨u_0, trivial⟩
            refine wpOp_go ho (wt_of rfl rfl ug) 87 rfl (.slice A xs.length c) ww (run_move (.inl rfl) (HH.ev rfl)) ?_
            exact hI.put (by kernel_rfl) _ (ma 10 rfl) (by rw [hls]; show 10 < 18; decide) (by rw [hls]; decide) (.slice A xs.length c) (fun _ => rfl) hI.wp AllSt.same
          · skip
            rw [hG] at ug
            exact wpOp_off ho (wf_of rfl rfl ug) (hI.put (by kernel_rfl) _ (ma 10 rfl) (by rw [hls]; show 10 < 18; decide) (by rw [hls]; decide) (undef) (fun h => absurd (hG.symm.trans h) (by decide)) hI.wp AllSt.same)
        | 11, ho =>
          obtain rfl := pick_op ho rfl
          have ug : aa.eval (.tmp 84) = .bool (!v2) := hI.vs _ (ma 7 rfl) (.inr (ran_of hd 7 (by kernel_rfl))) trivial
          rcases Bool.eq_false_or_eq_true v2 with hG | hG
          · skip
            rw [hG] at ug
            have HH : Has aa 100 [(6, .int .i64 (i : Int))] := Has.of hI.sz hI.df ⟨u_6, trivial⟩
            refine wpOp_go ho (wt_of rfl rfl ug) 88 rfl (.int .i64 (i : Int)) ww (run_move (.inl rfl) (HH.ev rfl)) ?_
            exact hI.put (by kernel_rfl) _ (ma 11 rfl) (by rw [hls]; show 11 < 18; decide) (by rw [hls]; decide) (.int .i64 (i : Int)) (fun _ => rfl) hI.wp AllSt.same
          · skip
            rw [hG] at ug
            exact wpOp_off ho (wf_of rfl rfl ug) (hI.put (by kernel_rfl) _ (ma 11 rfl) (by rw [hls]; show 11 < 18; decide) (by rw [hls]; decide) (undef) (fun h => absurd (hG.symm.trans h) (by decide)) hI.wp AllSt.same)
        | 12, ho =>
          obtain rfl := pick_op ho rfl
          have ug : aa.eval (.tmp 84) = .bool (!v2) := hI.vs _ (ma 7 rfl) (.inr (ran_of hd 7 (by kernel_rfl))) trivial
          rcases Bool.eq_false_or_eq_true v2 with hG | hG
          · skip
            rw [hG] at ug
            have HH : Has aa 100 [(5, .int .i64 (n : Int))] := Has.of hI.sz hI.df ⟨u_5, trivial⟩
            refine wpOp_go ho (wt_of rfl rfl ug) 89 rfl (.int .i64 (n : Int)) ww (run_move (.inl rfl) (HH.ev rfl)) ?_
            exact hI.put (by kernel_rfl) _ (ma 12 rfl) (by rw [hls]; show 12 < 18; decide) (by rw [hls]; decide) (.int .i64 (n : Int)) (fun _ => rfl) hI.wp AllSt.same
          · skip
            rw [hG] at ug
            exact wpOp_off ho (wf_of rfl rfl ug) (hI.put (by kernel_rfl) _ (ma 12 rfl) (by rw [hls]; show 12 < 18; decide) (by rw [hls]; decide) (undef) (fun h => absurd (hG.symm.trans h) (by decide)) hI.wp AllSt.same)
        | 13, ho =>
          obtain rfl := pick_op ho rfl
          have ug : aa.eval (.tmp 84) = .bool (!v2) := hI.vs _ (ma 7 rfl) (.inr (ran_of hd 7 (by kernel_rfl))) trivial
          rcases Bool.eq_false_or_eq_true v2 with hG | hG
          · skip
            rw [hG] at ug
            have r_88 := hI.vs _ (ma 11 rfl) (.inr (ran_of hd 11 (by kernel_rfl))) trivial hG
            have u_88 : aa.eval (.tmp 88) = .int .i64 (i : Int) := r_88
            have r_89 := hI.vs _ (ma 12 rfl) (.inr (ran_of hd 12 (by kernel_rfl))) trivial hG
            have u_89 : aa.eval (.tmp 89) = .int .i64 (n : Int) := r_89
            have HH : Has aa 100 [(88, .int .i64 (i : Int)), (89, .int .i64 (n : Int))] := Has.of hI.sz hI.df ⟨u_88, u_89, trivial⟩
            refine wpOp_go ho (wt_of rfl rfl ug) 90 rfl (.int .i64 (t : Int)) ww (run_bin rfl (HH.ev rfl) (HH.ev rfl) (by rw [← hti]; exact add_i _ _ (by omega) _ _ _)) ?_
            exact hI.put (by kernel_rfl) _ (ma 13 rfl) (by rw [hls]; show 13 < 18; decide) (by rw [hls]; decide) (.int .i64 (t : Int)) (fun _ => rfl) hI.wp AllSt.same
          · skip
            rw [hG] at ug
            exact wpOp_off ho (wf_of rfl rfl ug) (hI.put (by kernel_rfl) _ (ma 13 rfl) (by rw [hls]; show 13 < 18; decide) (by rw [hls]; decide) (undef) (fun h => absurd (hG.symm.trans h) (by decide)) hI.wp AllSt.same)
        | 14, ho =>
          obtain rfl := pick_op ho rfl
          have ug : aa.eval (.tmp 84) = .bool (!v2) := hI.vs _ (ma 7 rfl) (.inr (ran_of hd 7 (by kernel_rfl))) trivial
          rcases Bool.eq_false_or_eq_true v2 with hG | hG
          · skip
            rw [hG] at ug
            have r_87 := hI.vs _ (ma 10 rfl) (.inr (ran_of hd 10 (by kernel_rfl))) trivial hG
            have u_87 : aa.eval (.tmp 87) = .slice A xs.length c := r_87
            have r_90 := hI.vs _ (ma 13 rfl) (.inr (ran_of hd 13 (by kernel_rfl))) trivial hG
            have u_90 : aa.eval (.tmp 90) = .int .i64 (t : Int) := r_90
            have HH : Has aa 100 [(87, .slice A xs.length c), (90, .int .i64 (t : Int))] := Has.of hI.sz hI.df ⟨u_87, u_90, trivial⟩
            refine wpOp_go ho (wt_of rfl rfl ug) 91 rfl (.slice A t c) ww (run_slice_h rfl (HH.ev rfl) (HH.ev rfl) (slice_h _ _ _ _ hg.2.2.1 hc _)) ?_
            exact hI.put (by kernel_rfl) _ (ma 14 rfl) (by rw [hls]; show 14 < 18; decide) (by rw [hls]; decide) (.slice A t c) (fun _ => rfl) hI.wp AllSt.same
          · skip
            rw [hG] at ug
            exact wpOp_off ho (wf_of rfl rfl ug) (hI.put (by kernel_rfl) _ (ma 14 rfl) (by rw [hls]; show 14 < 18; decide) (by rw [hls]; decide) (undef) (fun h => absurd (hG.symm.trans h) (by decide)) hI.wp AllSt.same)
        | 15, ho =>
          obtain rfl := pick_op ho rfl
          have ug : aa.eval (.tmp 84) = .bool (!v2) := hI.vs _ (ma 7 rfl) (.inr (ran_of hd 7 (by kernel_rfl))) trivial
          rcases Bool.eq_false_or_eq_true v2 with hG | hG
          · skip
            rw [hG] at ug
            have r_86 := hI.vs _ (ma 9 rfl) (.inr (ran_of hd 9 (by kernel_rfl))) trivial hG
            have r_91 := hI.vs _ (ma 14 rfl) (.inr (ran_of hd 14 (by kernel_rfl))) trivial hG
            have u_91 : aa.eval (.tmp 91) = .slice A t c := r_91
            have HH : Has aa 100 [(86, aa.eval (.tmp 86)), (91, .slice A t c)] := Has.of hI.sz hI.df ⟨rfl, u_91, trivial⟩
            refine wpOp_enter ho (wt_of rfl rfl ug) 92 rfl 28 _ (run_callH HH rfl rfl (fun _ _ => by kernel_rfl)) _ (belowC (eqBy2 (layB r.1) (xs.take t) _ _ ve hve ww r_86 ⟨A, c, by rw [List.length_take, Nat.min_eq_left hg.2.2.1], ((hrT.below hI.wp.own.bel).take t).more hI.wp.own.bel.size⟩ (lay_maxLen (hm2 hG)))) ?_
            rintro _ w' ⟨rfl, hb⟩
            exact hI.put (by kernel_rfl) _ (ma 15 rfl) (by rw [hls]; show 15 < 18; decide) (by rw [hls]; decide) (.bool ve) (fun _ => rfl) (hI.wp.call hb) ⟨fun _ _ _ _ _ h => h, fun _ _ _ _ _ h => h, fun _ _ _ _ _ h => h, fun _ _ _ _ _ h => h, fun _ _ _ _ _ h => h, fun _ _ _ _ _ h => h, fun _ _ _ _ _ h => h, fun _ _ _ _ _ h => h, fun _ _ _ _ _ h => h, fun _ _ _ _ _ h hg => (h hg).below hb, fun _ _ _ _ _ h => h, fun _ _ _ _ _ h => h, fun _ _ _ _ _ h => h, fun _ _ _ _ _ h => h, fun _ _ _ _ _ h => h, fun _ _ _ _ _ h => h, fun _ _ _ _ _ h => h, fun _ _ _ _ _ h => h, trivial⟩
          · skip
            rw [hG] at ug
            exact wpOp_off ho (wf_of rfl rfl ug) (hI.put (by kernel_rfl) _ (ma 15 rfl) (by rw [hls]; show 15 < 18; decide) (by rw [hls]; decide) (undef) (fun h => absurd (hG.symm.trans h) (by decide)) hI.wp AllSt.same)
        | 16, ho =>
          obtain rfl := pick_op ho rfl
          have ug : aa.eval (.tmp 84) = .bool (!v2) := hI.vs _ (ma 7 rfl) (.inr (ran_of hd 7 (by kernel_rfl))) trivial
          rcases Bool.eq_false_or_eq_true v2 with hG | hG
          · skip
            rw [hG] at ug
            have r_92 := hI.vs _ (ma 15 rfl) (.inr (ran_of hd 15 (by kernel_rfl))) trivial hG
            have u_92 : aa.eval (.tmp 92) = .bool ve := r_92
            have HH : Has aa 100 [(92, .bool ve)] := Has.of hI.sz hI.df ⟨u_92, trivial⟩
            refine wpOp_go ho (wt_of rfl rfl ug) 93 rfl (.bool (!ve)) ww (run_any HH (by intro cs b h; cases h) (by kernel_rfl) (by kernel_rfl)) ?_
            exact hI.put (by kernel_rfl) _ (ma 16 rfl) (by rw [hls]; show 16 < 18; decide) (by rw [hls]; decide) (.bool (!ve)) (fun _ => rfl) hI.wp AllSt.same
          · skip
            rw [hG] at ug
            exact wpOp_off ho (wf_of rfl rfl ug) (hI.put (by kernel_rfl) _ (ma 16 rfl) (by rw [hls]; show 16 < 18; decide) (by rw [hls]; decide) (undef) (fun h => absurd (hG.symm.trans h) (by decide)) hI.wp AllSt.same)
        | 17, ho =>
          obtain rfl := pick_op ho rfl
          have r_84 := hI.vs _ (ma 7 rfl) (.inr (ran_of hd 7 (by kernel_rfl))) trivial
          have u_84 : aa.eval (.tmp 84) = .bool (!v2) := r_84
          rcases Bool.eq_false_or_eq_true v2 with hG | hG
          · skip
            rw [hG] at u_84
            have u_93 : aa.eval (.tmp 93) = .bool (!ve) := hI.vs _ (ma 16 rfl) (.inr (ran_of hd 16 (by kernel_rfl))) trivial hG
            have HH : Has aa 100 [(84, .bool (!true)), (93, .bool (!ve))] := Has.of hI.sz hI.df ⟨u_84, u_93, trivial⟩
            refine wpOp_go ho gz 94 rfl (.bool (!ve)) ww (run_any HH (by intro cs b h; cases h) (by kernel_rfl) (by rfl)) ?_
            exact hI.put (by kernel_rfl) _ (ma 17 rfl) (by rw [hls]; show 17 < 18; decide) (by rw [hls]; decide) (.bool (!ve)) (by rw [← h3, hG] <;> rfl) hI.wp AllSt.same
          · skip
            rw [hG] at u_84
            have HH : Has aa 100 [(84, .bool (!false)), (93, aa.eval (.tmp 93))] := Has.of hI.sz hI.df ⟨u_84, rfl, trivial⟩
            refine wpOp_go ho gz 94 rfl (.bool true) ww (run_any HH (by intro cs b h; cases h) (by kernel_rfl) (by rfl)) ?_
            exact hI.put (by kernel_rfl) _ (ma 17 rfl) (by rw [hls]; show 17 < 18; decide) (by rw [hls]; decide) (.bool true) (by rw [← h3, hG] <;> rfl) hI.wp AllSt.same
        | (k + 18), ho => simp at ho
      · intro listed a24 w6 hall hI
        have r_94 := hI.vs _ (ma 17 rfl) (.inr (hall 17 (by decide))) trivial
        have H24 : Has a24 100 [(0, .slice A xs.length c), (2, .pointer (some ⟨w.heap.size, 0, none⟩)), (5, .int .i64 (n : Int)), (6, .int .i64 (i : Int)), (7, .pointer (some ⟨g7, 0, none⟩)), (8, .bool vo), (94, .bool (!v3))] := Has.of hI.sz hI.df ⟨hI.fx.1, hI.fx.2.1, hI.fx.2.2.1, hI.fx.2.2.2.1, hI.fx.2.2.2.2.1, hI.fx.2.2.2.2.2.1, r_94, trivial⟩
        have HB6 := hI.wp
        refine then_normal ?_
        have hbU := HB6.own.bel
        have hC2U := hC2T.below hbU hl2T
        have hR3U := hR3.belowR hbU
        have hCgU := hCg.below hbU hglt
        have hW : Below w.heap.size w w6 := O4.bel.trans ((hbS.mono O4.bel.size).trans (hbU.mono (Nat.le_trans O4.bel.size hbS.size)))
        have hl2U := Nat.lt_of_lt_of_le hl2T hbU.size
        cases v3 with
        | false =>
          refine H24.condT rfl ?_
          refine rl ?_
          refine H24.any (w' := w6) gz rfl rfl (.agg (mqCells (mq0 0) nilV nilV nilV).toArray) (by intro cs b h; cases h) (by kernel_rfl) (by kernel_rfl) ?_
          intro a25 H25
          refine H25.storeS rfl rfl rfl rfl (L := (mqCells (mq0 0) nilV nilV nilV)) rfl hC2U size_mq rfl rfl rfl ?_
          intro a26 w7 H26 hg2 hs2 hC3
          refine H26.ms 2 fun a28 H28 => nt ?_
          refine wp_ret ?_
          repeat (first | (with_reducible refine block_ret ?_) | (with_reducible refine then_ret ?_))
          refine bodyPost_ret (results_m2 Tryd.results34 _ (H28.at_ 2 _ rfl) (H28.at_ 3 _ rfl) (H28.at_ 4 _ rfl) hC3 Tryd.underlying30 rfl size_mq rfl) H28.df ?_
          exact ⟨mq0 0, 0, 1, nilV, nilV, nilV, hP.2 (fun h => by rw [h.1] at ho; rw [(mayBb_iff _).2 h.2.1] at hvm; rw [decide_eq_true h.2.2] at hve; subst ho; subst hvm; subst hve; subst h2; cases h3), rfl, MqL.nil rfl rfl rfl, small0 0, (hW.grown hg2 hW.size (fun k hk => by injection hk with hk; rw [← hk]; exact Nat.le_refl _))⟩
        | true =>
          rw [Bool.and_eq_true] at h3
          obtain ⟨h3a, h3b⟩ := h3
          subst h3a; subst h3b
          rw [Bool.and_eq_true] at h2
          refine H24.condF rfl ?_
          refine skip_wp ?_
          refine then_normal ?_
          refine rl ?_
          refine H24.loadS rfl rfl rfl rfl rfl hCgU Tryd.underlying30 rfl size_mq rfl ?_
          intro a25 H25
          refine H25.ms 2 fun a27 H27 => ?_
          refine H27.bb 0 rfl rfl rfl rfl rfl rfl (add_i _ _ (by omega) _ _ _) rfl fun a28 H28 => ?_
          refine H28.storeS rfl rfl rfl rfl rfl hC2U size_mq rfl rfl (mq_one _ (own_one hR3U.1) (own_one hR3U.2.1) (own_one hR3U.2.2)) ?_
          intro a29 w7 H29 hg2 hs2 hC3
          refine H29.ms 2 fun a31 H31 => nt ?_
          refine wp_ret ?_
          repeat (first | (with_reducible refine block_ret ?_) | (with_reducible refine then_ret ?_))
          refine bodyPost_ret (results_m2 Tryd.results34 _ (H31.at_ 2 _ rfl) (H31.at_ 3 _ rfl) (H31.at_ 4 _ rfl) hC3 Tryd.underlying30 rfl size_mq rfl) H31.df ?_
          exact ⟨r.1, i + n, 0, vc, vw, vf, (by rw [hti]; exact hP.1 ⟨by simpa using ho.trans h2.1, hm2 rfl, of_decide_eq_true hve⟩), rfl, MqL.of_rows (hR3U.keptR hg2 (hR3U.far (.inl hl2))) hln (by decide), hsm, (hW.grown hg2 hW.size (fun k hk => by injection hk with hk; rw [← hk]; exact Nat.le_refl _))⟩
      · exact InvB.start H23.sz H23.df ⟨H23.at_ 0 _ rfl, H23.at_ 2 _ rfl, H23.at_ 5 _ rfl, H23.at_ 6 _ rfl, H23.at_ 7 _ rfl, H23.at_ 8 _ rfl, trivial⟩ ⟨fun h => absurd h (by show ¬ 18 ≤ 0; decide), fun h => absurd h (by show ¬ 18 ≤ 1; decide), fun h => absurd h (by show ¬ 18 ≤ 2; decide), fun h => absurd h (by show ¬ 18 ≤ 3; decide), fun h => absurd h (by show ¬ 18 ≤ 4; decide), fun h => absurd h (by show ¬ 18 ≤ 5; decide), fun h => absurd h (by show ¬ 18 ≤ 6; decide), fun h => absurd h (by show ¬ 18 ≤ 7; decide), fun h => absurd h (by show ¬ 18 ≤ 8; decide), fun h => absurd h (by show ¬ 18 ≤ 9; decide), fun h => absurd h (by show ¬ 18 ≤ 10; decide), fun h => absurd h (by show ¬ 18 ≤ 11; decide), fun h => absurd h (by show ¬ 18 ≤ 12; decide), fun h => absurd h (by show ¬ 18 ≤ 13; decide), fun h => absurd h (by show ¬ 18 ≤ 14; decide), fun h => absurd h (by show ¬ 18 ≤ 15; decide), fun h => absurd h (by show ¬ 18 ≤ 16; decide), fun h => absurd h (by show ¬ 18 ≤ 17; decide), trivial⟩ (Base.of (Own.start w5)).drew
    · exact ⟨InvB.start H22.sz H22.df ⟨H22.at_ 0 _ rfl, H22.at_ 2 _ rfl, H22.at_ 5 _ rfl, H22.at_ 6 _ rfl, trivial⟩ ⟨fun h => absurd h (by show ¬ 16 ≤ 0; decide), fun h => absurd h (by show ¬ 16 ≤ 1; decide), fun h => absurd h (by show ¬ 16 ≤ 2; decide), fun h => absurd h (by show ¬ 16 ≤ 3; decide), fun h => absurd h (by show ¬ 16 ≤ 4; decide), fun h => absurd h (by show ¬ 16 ≤ 5; decide), fun h => absurd h (by show ¬ 16 ≤ 6; decide), fun h => absurd h (by show ¬ 16 ≤ 7; decide), fun h => absurd h (by show ¬ 16 ≤ 8; decide), fun h => absurd h (by show ¬ 16 ≤ 9; decide), fun h => absurd h (by show ¬ 16 ≤ 10; decide), fun h => absurd h (by show ¬ 16 ≤ 11; decide), fun h => absurd h (by show ¬ 16 ≤ 12; decide), fun h => absurd h (by show ¬ 16 ≤ 13; decide), fun h => absurd h (by show ¬ 16 ≤ 15; decide), trivial⟩ trivial, RPS.start (Base.of (Own.start w4)).drew⟩
end Go.Proofs.YtkcdkjpmbjcmdaaDoor

/-
  Words that the laws of chapter 18 share which read packets.
-/
namespace Go.Proofs.YtkcdkjpmbjcmdaaDoor
open Go.RowKit

/-- 'x := ..' of a packet: a new box, and what it is. -/
theorem Has.nw {ops : Array Oper} {rest rest' : List Oper} {o1 o2 : Oper} {a : Act} {w W : World} {B : Nat} {bs : List (Nat × List Value)} {Q : Exit → Act → World → Prop} {n : Nat} {l l' : List (Nat × Value)} (H : Has a n l) (O : Own W B bs w) (k : Nat) {d : Nat} {y : Operand} {L : List Value} (h1 : L.all (·.oneCell') = true)
    (h : ∀ a' w', Below w.heap.size w w' → Own W B ((w.heap.size, L) :: bs) w' → Has a' n l' → wpList Tryd.prog ops Q rest' a' w') (ho : o1.op = .alloc 30 := by rfl) (hd : o1.dst = some d := by rfl) (hn : Nat.blt d n = true := by rfl) (hg : o1.guard = none := by rfl)
    (ho2 : o2.op = .store 30 (.tmp d) y := by rfl) (hd2 : o2.dst = none := by rfl) (hg2 : o2.guard = none := by rfl) (hy : evL ((d, .pointer (some ⟨w.heap.size, 0, none⟩)) :: l) y = some (.agg L.toArray) := by rfl) (hl : L.length = 24 := by rfl)
    (hr : runM n k rest ((d, .pointer (some ⟨w.heap.size, 0, none⟩)) :: l) = some (rest', l') := by rfl) : wpList Tryd.prog ops Q (o1 :: o2 :: rest) a w := by
  refine H.alloc hg ho hd hn _ zero_mq ?_
  intro a1 w1 hb hs hC H1
  have O1 := O.alloc hb hs hC
  refine H1.storeS hg2 ho2 hd2 (by show (bif Nat.beq d d then _ else _) = _; rw [Nat.beq_refl, cond_true]) hy hC size_mq rfl hl h1 ?_
  intro a2 w2 H2 hgr hs2 hC2
  exact runM_ok k H2 hr fun a3 H3 => h a3 w2 (hb.grown hgr hb.size (fun k hk => by injection hk with hk; rw [← hk]; exact Nat.le_refl _)) (O1.store 0 rfl hgr hs2 hC2) H3
theorem parseC (xs : List UInt8) (A : Option Addr) (c : Nat) (hc : xs.length ≤ c) (w : World) (hr : RB w w.heap.size A xs) (hl : xs.length ≤ 140737488351232) (hT : Wd w) :
    Calls Tryd.prog 33 #[.slice A xs.length c] w fun e w' => ∃ v, e = .returned v ∧ ∃ m n er vc vw vf, v = .tuple #[.agg (mqCells m vc vw vf).toArray, .int .i64 ((n : Nat) : Int), .int .i64 er] ∧ Parsed xs m n er ∧ (Rows3 w' w.heap.size m vc vw vf ∧ Lens m 1000001) ∧ Small m ∧ Below w.heap.size w w' :=
  (packParse xs A c hc w hr hl hT).mono fun _ _ ⟨m, n, er, vc, vw, vf, h1, h2, h3⟩ => ⟨_, h2, m, n, er, vc, vw, vf, rfl, h1, h3⟩
theorem refParseC (xs : List UInt8) (A : Option Addr) (c : Nat) (hc : xs.length ≤ c) (w : World) (hr : RB w w.heap.size A xs) (hl : xs.length ≤ 140737488351232) (hT : Wd w) :
    Calls Tryd.prog 34 #[.slice A xs.length c] w fun e w' => ∃ v, e = .returned v ∧ ∃ m n er vc vw vf, v = .tuple #[.agg (mqCells m vc vw vf).toArray, .int .i64 ((n : Nat) : Int), .int .i64 er] ∧ Parsed xs m n er ∧ MqL w' w'.heap.size m vc vw vf ∧ Small m ∧ Below w.heap.size w w' :=
  (refParse xs A c hc w hr hl hT).mono fun _ _ ⟨m, n, er, vc, vw, vf, h1, h2, h3⟩ => ⟨_, h2, m, n, er, vc, vw, vf, rfl, h1, h3⟩
theorem copyC (xs : List UInt8) (A : Option Addr) (c : Nat) (w : World) (hx : RB w w.heap.size A xs) (hn : xs.length ≤ 140737488351232) :
    Calls Tryd.prog 32 #[.slice A xs.length c] w fun e w' => ∃ v, e = .returned v ∧ RowIs w.heap.size xs v w' ∧ Below w.heap.size w w' :=
  (copyBytes xs A c w hx hn).mono fun _ _ ⟨A', c', h1, h2, h3⟩ => ⟨_, h1, ⟨A', c', rfl, h2⟩, h3⟩
theorem cell24 {W w : World} {b o : Nat} {m : Mq} {vc vw vf v : Value} (hrg : W.rangeAt b o (mqCells m vc vw vf ++ [v])) (hb : Below W.heap.size W w) (hlt : b < W.heap.size) : w.cell? ⟨b, o + 24, none⟩ = some v := (cellB hb hlt).trans (hrg 24 v rfl)
theorem Own.bare {W w : World} {B : Nat} (hb : Below B W w) (hl : B ≤ w.heap.size) : Own W B [] w := ⟨hb, hl, by simp, fun p hp => by cases hp⟩
theorem MqL.ones {w : World} {B : Nat} {m : Mq} {vc vw vf : Value} (h : MqL w B m vc vw vf) : (mqCells m vc vw vf).all (·.oneCell') = true := by
  obtain ⟨A1, c1, A2, c2, A3, c3, rfl, rfl, rfl, _⟩ := h
  exact mq_one _ rfl rfl rfl
end Go.Proofs.YtkcdkjpmbjcmdaaDoor

/-
  What the listed tables give the walks, and a start at which they read so.
-/
namespace Go.Proofs.YtkcdkjpmbjcmdaaDoor
open Go.ChangeShapes Go.WideShapes Go.ChangeAt Go.RowKit Go.Deep

abbrev lay2 : List (String × DataW Unit) := [("unicode/utf8.acceptRanges", Rows.laid_unicode_utf8_acceptRanges), ("unicode/utf8.first", Rows.laid_unicode_utf8_first)]
set_option maxRecDepth 100000 in
theorem lay_first : (Rows.laid_unicode_utf8_first : DataW Unit) = Lib.firstData := by rfl
set_option maxRecDepth 100000 in
theorem lay_accept : (Rows.laid_unicode_utf8_acceptRanges : DataW Unit) = Lib.acceptData := by rfl
theorem plain_lay : (lay2.all fun x => x.2.handleName?.isNone) = true := by kernel_rfl
theorem tabs_of {W : World} (h : laidMetH Tryd.prog lay2 W) : Wd W := by
  rw [MakeChecks.laidMetH_plain _ _ _ plain_lay] at h
  have h1 := Lib.laidMet.reads h (n := "unicode/utf8.acceptRanges") (d := Rows.laid_unicode_utf8_acceptRanges) (.head _)
  have h2 := Lib.laidMet.reads h (n := "unicode/utf8.first") (d := Rows.laid_unicode_utf8_first) (.tail _ (.head _))
  rw [lay_accept] at h1
  rw [lay_first] at h2
  exact utf8Tabs_of_readsT (U8Types.of196 Sh.lays196) ⟨by kernel_rfl, by kernel_rfl, by kernel_rfl, by kernel_rfl, by kernel_rfl, by kernel_rfl, by kernel_rfl⟩ h2 h1
noncomputable def laidWorld (os : Os) : World :=
  let w0 := World.holding Tryd.prog os ⟨#[], #[], []⟩
  let put (h : Array Obj) (g : Nat) (cs : Array Value) : Array Obj := h.modify g fun
    | .cells _ t frozen => .cells cs t frozen
    | o => o
  let h1 := put w0.heap 0 (Lib.firstTab.map fun z => Value.int .u8 z).toArray
  let h2 := put h1 1 ((List.range 16).flatMap fun i => [Value.int .u8 (Lib.accLo i), Value.int .u8 (Lib.accHi i)]).toArray
  { w0 with heap := h2 }
theorem laid_door (os : Os) (args : Array Value) : laidMetH Tryd.prog lay2 ((laidWorld os).forCall (fun _ _ => 0) ⟨#[], args, []⟩).memory := by
  rw [MakeChecks.laidMetH_plain _ _ _ plain_lay]
  exact (LaidIn.of_run (l := lay2) [0, 1] 8 (by kernel_rfl) (by kernel_rfl) (by kernel_rfl) (by kernel_rfl)).met
end Go.Proofs.YtkcdkjpmbjcmdaaDoor
