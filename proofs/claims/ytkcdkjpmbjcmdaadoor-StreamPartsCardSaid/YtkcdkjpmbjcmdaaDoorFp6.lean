/-
  However the bytes of packets are parted: the walk.
-/
import Derived.Lib.LaidIn
import Derived.Lib.LaidU8T
import Derived.Test.YtkcdkjpmbjcmdaaDoorFp5
namespace Go.Proofs.YtkcdkjpmbjcmdaaDoor
open Go.RowKit

theorem fieldL_0 (g : Nat) (w : World) : (Instr.fieldAt 65 (.pointer (some ⟨g, 0, none⟩)) 0).run Tryd.prog w = .ok (.pointer (some ⟨g, 0, none⟩)) w := by kernel_rfl
theorem fieldL_1 (g : Nat) (w : World) : (Instr.fieldAt 65 (.pointer (some ⟨g, 0, none⟩)) 1).run Tryd.prog w = .ok (.pointer (some ⟨g, 1, none⟩)) w := by kernel_rfl
theorem fieldL_2 (g : Nat) (w : World) : (Instr.fieldAt 65 (.pointer (some ⟨g, 0, none⟩)) 2).run Tryd.prog w = .ok (.pointer (some ⟨g, 2, none⟩)) w := by kernel_rfl
theorem load1_q (g o n c : Nat) (A : Option Addr) (w : World) (h : w.cell? ⟨g, o, none⟩ = some (.slice A n c)) : (Instr.loadAt 52 (.pointer (some ⟨g, o, none⟩))).run Tryd.prog w = .ok (.slice A n c) w := by
  simp [go_sem, h]
theorem Gath.wk {W w : World} {g k k' : Nat} {want : List Mq} {vA vP : Value} {cs : List Value} (h : Gath W g k want vA vP cs w) (hk : k ≤ k') : Gath W g k' want vA vP cs w :=
  ⟨h.byt, h.row, h.may, h.at_, Nat.le_trans h.le hk, Nat.le_trans h.len (Nat.mul_le_mul_right _ hk)⟩
set_option maxRecDepth 100000 in
set_option maxHeartbeats 6400000 in
theorem streamParts_walk (A : Option Addr) (len cap : Nat) (AX : Option Addr) (xs : List UInt8) (cX : Nat) (AS : Option Addr) (sz : List Int) (cS : Nat) (w : World) (ha : FlowAt w A len AX xs cX AS sz cS) (hT : Wd w) :
    Calls Tryd.prog 21 #[.agg #[.slice A len cap, .slice AX xs.length cX, .slice AS sz.length cS]] w fun e w' => e = .returned (.bool true) ∧ Below w.heap.size w w' := by
  go_enter Tryd.func21, Tryd.ntmps21
  refine Has.start 159 [(0, .agg #[.slice A len cap, .slice AX xs.length cX, .slice AS sz.length cS])] rfl rfl ⟨rfl, trivial⟩ ?_
  intro a0 H0
  have O0 := Own.start w
  refine rl ?_
  refine H0.bx O0 1 (L := [.slice A len cap, .slice AX xs.length cX, .slice AS sz.length cS]) fun a1 w1 O1 H1 => nt ?_
  refine H1.rg 1 fun a2 H2 => nt ?_
  refine H2.rg 1 fun a3 H3 => nt ?_
  generalize hgw : w.heap.size = g at O1 H1 H2 H3
  replace H3 := H3.keep (l' := [(1, .pointer (some ⟨g, 0, none⟩)), (3, nilV), (4, nilV)]) ⟨rfl, rfl, rfl, trivial⟩
  have c0 : ∀ {w' : World}, Own w g [(g, [.slice A len cap, .slice AX xs.length cX, .slice AS sz.length cS])] w' → w'.cell? ⟨g, 0, none⟩ = some (.slice A len cap) := fun h => (h.get 0 rfl).get 0 _ rfl
  have c1 : ∀ {w' : World}, Own w g [(g, [.slice A len cap, .slice AX xs.length cX, .slice AS sz.length cS])] w' → w'.cell? ⟨g, 1, none⟩ = some (.slice AX xs.length cX) := fun h => (h.get 0 rfl).get 1 _ rfl
  have c2 : ∀ {w' : World}, Own w g [(g, [.slice A len cap, .slice AX xs.length cX, .slice AS sz.length cS])] w' → w'.cell? ⟨g, 2, none⟩ = some (.slice AS sz.length cS) := fun h => (h.get 0 rfl).get 2 _ rfl
  obtain ⟨b1, e1⟩ : ∃ b, decide ((2000 : Int) < (xs.length : Int)) = b := ⟨_, rfl⟩
  obtain ⟨b2, e2⟩ : ∃ b, decide ((500 : Int) < (sz.length : Int)) = b := ⟨_, rfl⟩
  refine H3.tb (Own w g [(g, [.slice A len cap, .slice AX xs.length cX, .slice AS sz.length cS])]) (fun _ _ h hb => h.call hb) O1 [ec 0 18 (.pointer (some ⟨g, 1, none⟩)), ec 1 19 (.slice AX xs.length cX), ec 2 20 (.int .i64 ((xs.length : Nat) : Int)), ec 3 21 (.bool b1), ec 4 22 (.bool b1), ec 5 23 (gv (!b1) (.pointer (some ⟨g, 2, none⟩))), ec 6 24 (gv (!b1) (.slice AS sz.length cS)), ec 7 25 (gv (!b1) (.int .i64 ((sz.length : Nat) : Int))), ec 8 26 (gv (!b1) (.bool b2)), ec 9 27 (.bool (b1 || b2))] rfl ⟨jf fieldL_1, jl fun _ h => load1_31 _ _ _ _ _ _ (c1 h), jn Tryd.underlying31, jb fun _ => gtr_i _ _ b1 e1 _ _ _, jm, (by cases b1; exact jf fieldL_2; exact jo), (by cases b1; exact jl fun _ h => load1_26 _ _ _ _ _ _ (c2 h); exact jo), (by cases b1; exact jn Tryd.underlying26; exact jo), (by cases b1; exact jb fun _ => gtr_i _ _ b2 e2 _ _ _; exact jo), (by cases b1 <;> exact jp), trivial⟩ ?_
  clear H3 H2 H1 O1 H0 O0
  intro a4 w4 H4 O4
  refine then_normal (H4.cond (t := b1 || b2) rfl ?_)
  cases hb : b1 || b2 with
  | true =>
    refine H4.rg 1 fun a11 H11 => nt (wp_ret ?_)
    repeat (first | (with_reducible refine block_ret ?_) | (with_reducible refine then_ret ?_))
    exact bodyPost_ret (results_tmp rfl _ _ _) H11.df ⟨congrArg Ending.returned (H11.at_ 2 _ rfl), hgw ▸ O4.bel⟩
  | false =>
  simp only [Bool.or_eq_false_iff] at hb
  rw [hb.1] at e1
  rw [hb.2] at e2
  have hxl : xs.length ≤ 2000 := by have : ¬ ((2000 : Int) < (xs.length : Int)) := of_decide_eq_false e1; omega
  have hsl : sz.length ≤ 500 := by have : ¬ ((500 : Int) < (sz.length : Int)) := of_decide_eq_false e2; omega
  clear e1 e2 hb
  refine skip_wp (then_normal ?_)
  replace H4 := H4.keep (l' := [(1, .pointer (some ⟨g, 0, none⟩)), (3, nilV), (4, nilV)]) ⟨rfl, rfl, rfl, trivial⟩
  refine wp_seq_join (fun a w' => ∃ want vA vP cs, Has a 159 [(1, .pointer (some ⟨g, 0, none⟩)), (3, vA), (4, vP)] ∧ Own w g [(g, [.slice A len cap, .slice AX xs.length cX, .slice AS sz.length cS])] w' ∧ Gath w g 12 want vA vP cs w') ?_ ?_
  · refine H4.rg 1 fun a5 H5 => nt ?_
    replace H5 := H5.keep (l' := [(1, .pointer (some ⟨g, 0, none⟩)), (3, nilV), (4, nilV), (5, .int .i64 ((0 : Nat) : Int))]) ⟨rfl, rfl, rfl, rfl, trivial⟩
    refine wp_block ?_
    refine wp_loop_up 12 (fun k a w' => ∃ want vA vP cs, Has a 159 [(1, .pointer (some ⟨g, 0, none⟩)), (3, vA), (4, vP), (5, .int .i64 ((k : Nat) : Int))] ∧ Own w g [(g, [.slice A len cap, .slice AX xs.length cX, .slice AS sz.length cS])] w' ∧ Gath w g k want vA vP cs w') ⟨[], nilV, nilV, [], H5, O4, ⟨none, 0, rfl, World.ownsRow_nil _ _ _ _⟩, World.ownsRow_nil _ _ _ _, by simp, by simp, Nat.le_refl _, Nat.le_refl _⟩ ?_
    clear H4 H5 O4
    rintro k a6 w5 hk12 ⟨want, vA, vP, cs, H6, O5, G5⟩
    obtain ⟨b1, e1⟩ : ∃ b, decide ((k : Int) < (len : Int)) = b := ⟨_, rfl⟩
    obtain ⟨b2, e2⟩ : ∃ b, decide ((k : Int) < 12) = b := ⟨_, rfl⟩
    refine H6.tb (fun w' => Own w g [(g, [.slice A len cap, .slice AX xs.length cX, .slice AS sz.length cS])] w' ∧ Gath w g k want vA vP cs w') (fun _ _ h hb => ⟨h.1.call hb, h.2.next hb⟩) ⟨O5, G5⟩ [ec 0 28 (.int .i64 ((k : Nat) : Int)), ec 1 29 (.pointer (some ⟨g, 0, none⟩)), ec 2 30 (.slice A len cap), ec 3 31 (.int .i64 ((len : Nat) : Int)), ec 4 32 (.bool b1), ec 5 33 (.bool b1), ec 6 34 (gv b1 (.int .i64 ((k : Nat) : Int))), ec 7 35 (gv b1 (.bool b2)), ec 8 36 (.bool (b1 && b2))] rfl ⟨jm, jf fieldL_0, jl fun _ h => load1_q _ _ _ _ _ _ (c0 h.1), jn Tryd.underlying52, jb fun _ => lss_i _ _ b1 e1 _ _ _, jm, (by cases b1; exact jo; exact jm), (by cases b1; exact jo; exact jb fun _ => lss_i _ _ b2 e2 _ _ _), (by cases b1 <;> exact jp), trivial⟩ ?_
    clear H6 O5 G5
    rintro a7 w6 H7 ⟨O6, G6⟩
    refine then_normal (H7.cond (t := b1 && b2) rfl ?_)
    cases hb : b1 && b2 with
    | false =>
      refine wp_exit ?_
      repeat (with_reducible refine then_exit ?_)
      refine block_leave ?_
      exact ⟨want, vA, vP, cs, H7.keep ⟨rfl, rfl, rfl, trivial⟩, O6, G6.wk hk12⟩
    | true =>
    simp only [Bool.and_eq_true] at hb
    rw [hb.1] at e1
    rw [hb.2] at e2
    have hlt : k < len := by simpa using e1
    have h12 : k < 12 := by have : (k : Int) < 12 := of_decide_eq_true e2; omega
    clear e1 e2 hb
    refine skip_wp (then_normal ?_)
    refine wp_seq_join (fun a w' => ∃ want vA vP cs, Has a 159 [(1, .pointer (some ⟨g, 0, none⟩)), (3, vA), (4, vP), (5, .int .i64 ((k : Nat) : Int))] ∧ Own w g [(g, [.slice A len cap, .slice AX xs.length cX, .slice AS sz.length cS])] w' ∧ Gath w g (k + 1) want vA vP cs w') ?_ ?_
    rotate_left
    · rintro a8 w7 ⟨want, vA, vP, cs, H8, O7, G7⟩
      refine H8.rg 1 fun a9 H9 => ?_
      refine H9.bb 1 rfl rfl rfl rfl rfl rfl (succ_i k (by omega) _ _ _) rfl fun a10 H10 => nt ?_
      exact ⟨h12, want, vA, vP, cs, H10.keep ⟨rfl, rfl, rfl, rfl, trivial⟩, O7, G7⟩
    refine wp_block ?_
    replace H7 := H7.keep (l' := [(1, .pointer (some ⟨g, 0, none⟩)), (3, vA), (4, vP), (5, .int .i64 ((k : Nat) : Int))]) ⟨rfl, rfl, rfl, rfl, trivial⟩
    obtain ⟨b, o, m, vc, vw, vf, hA, hblt, hrg, hM, hF⟩ := ha.1 k hlt
    have hix : ∀ w', (Instr.indexAt 52 (.slice A len cap) (.int .i64 ((k : Nat) : Int))).run Tryd.prog w' = .ok (.pointer (some ⟨b, o + k * 24, none⟩)) w' := fun w' => by rw [hA]; exact index_m 52 Tryd.underlying52 24 (fun _ => by kernel_rfl) _ _ _ _ _ hlt _
    have hr : ∀ {w' : World}, Own w g [(g, [.slice A len cap, .slice AX xs.length cX, .slice AS sz.length cS])] w' → w'.rangeAt b (o + k * 24) (mqCells m vc vw vf) := fun h => rangeB hrg (hgw ▸ h.bel) (hgw ▸ hblt)
    have hMn : ∀ {w' : World}, Own w g [(g, [.slice A len cap, .slice AX xs.length cX, .slice AS sz.length cS])] w' → MqL w' w'.heap.size m vc vw vf := fun h => hM.next (hgw ▸ h.bel)
    have hTn : ∀ {w' : World}, Own w g [(g, [.slice A len cap, .slice AX xs.length cX, .slice AS sz.length cS])] w' → Wd w' := fun h => hT.below (hgw ▸ h.bel)
    obtain ⟨b3, e3⟩ : ∃ b, decide ((2000 : Int) < ((mqW m : Nat) : Int)) = b := ⟨_, rfl⟩
    refine rl ?_
    refine H7.go gz rfl rfl _ (run_field rfl (H7.ev rfl) fieldL_0) fun a H => ?_
    refine H.ld 1 (load1_q _ _ _ _ _ _ (c0 O6)) fun a H => ?_
    refine H.index gz rfl rfl rfl rfl rfl (hix _) fun a H => ?_
    refine H.ld 0 (load_mq (hr O6)) fun a H => ?_
    refine H.cl (belowC (weighMq m vc vw vf _ (hMn O6) hF)) ?_
    rintro a8 _ w7 ⟨rfl, hb7⟩ H8
    have O7 := O6.call hb7
    have G7 := G6.next hb7
    refine H8.bb 0 rfl rfl rfl rfl rfl rfl (gtr_i _ _ b3 e3 _ _ _) rfl fun a9 H9 => nt (H9.cond (t := b3) rfl ?_)
    cases b3 with
    | true =>
      refine H9.rg 1 fun a11 H11 => nt (wp_ret ?_)
      repeat (first | (with_reducible refine block_ret ?_) | (with_reducible refine then_ret ?_))
      exact bodyPost_ret (results_tmp rfl _ _ _) H11.df ⟨congrArg Ending.returned (H11.at_ 2 _ rfl), hgw ▸ O7.bel⟩
    | false =>
    refine skip_wp (then_normal ?_)
    replace H9 := H9.keep (l' := [(1, .pointer (some ⟨g, 0, none⟩)), (3, vA), (4, vP), (5, .int .i64 ((k : Nat) : Int))]) ⟨rfl, rfl, rfl, rfl, trivial⟩
    clear e3 O6 G6 H7 H8 H hb7
    obtain ⟨bm, hbm⟩ : ∃ b, mayBb m = b := ⟨_, rfl⟩
    refine rl ?_
    refine H9.go gz rfl rfl _ (run_field rfl (H9.ev rfl) fieldL_0) fun a H => ?_
    refine H.ld 1 (load1_q _ _ _ _ _ _ (c0 O7)) fun a H => ?_
    refine H.index gz rfl rfl rfl rfl rfl (hix _) fun a H => ?_
    refine H.ld 0 (load_mq (hr O7)) fun a H => ?_
    refine H.cl (bytesL m vc vw vf _ bm hbm (hMn O7) hF (hTn O7)) ?_
    rintro a10 _ w8 ⟨vr, rfl, hvr, hb8⟩ H10
    have O8 := O7.call hb8
    refine H10.ms 1 fun a11 H11 => ?_
    refine H11.ex (r := vr) 0 fun a12 H12 => ?_
    refine H12.ex (r := .int .i64 (if bm then 0 else 1)) 2 fun a13 H13 => nt ?_
    replace H13 := H13.keep (l' := [(1, .pointer (some ⟨g, 0, none⟩)), (3, vA), (4, vP), (5, .int .i64 ((k : Nat) : Int)), (6, vr), (7, .int .i64 (if bm then 0 else 1))]) ⟨rfl, rfl, rfl, rfl, rfl, rfl, trivial⟩
    clear H9 H10 H11 H12 H
    refine H13.rg 1 fun a14 H14 => ?_
    refine H14.cq 0 (num19 _ _) fun a15 H15 => ?_
    refine H15.bb 0 rfl rfl rfl rfl rfl rfl (eql_iB _ _ bm (by cases bm <;> rfl) _ _ _) rfl fun a16 H16 => nt (H16.cond (t := bm) rfl ?_)
    clear H13 H14 H15
    cases bm with
    | false =>
      refine skip_wp (block_normal ?_)
      exact ⟨want, vA, vP, cs, H16.keep ⟨rfl, rfl, rfl, rfl, trivial⟩, O8, G7.up hb8⟩
    | true =>
    have G8 := G7.next hb8
    have hvr := hvr rfl
    have hmay := mayB_of hbm
    have hll := lay_le hmay
    have hl8 := G8.len
    have hle8 := G8.le
    refine H16.rg 2 fun a17 H17 => ?_
    refine H17.appendRow Tryd.underlying31 info_u8 (gz rfl) rfl rfl rfl rfl rfl G8.byt hvr.read (by omega) (O8.lt 0 rfl) ?_
    intro a18 v' w9 H18 hv9 hb9 hg9
    obtain ⟨A8, c8, hv8, hO8⟩ := G8.byt
    have O9 := O8.row hO8 (Nat.le_succ _) hg9 (fun p hp => by
      rw [List.mem_singleton.1 hp]
      exact own_ne hO8 (.inl (Nat.lt_succ_self _)))
    have hP9 := G8.row.kept hg9 (own_apart G8.row hO8 rfl)
    refine H18.ms 1 fun a19 H19 => nt ?_
    replace H19 := H19.keep (l' := [(1, .pointer (some ⟨g, 0, none⟩)), (3, v'), (4, vP), (5, .int .i64 ((k : Nat) : Int))]) ⟨rfl, rfl, rfl, rfl, trivial⟩
    clear H16 H17 H18
    refine H19.rg 1 fun a20 H20 => ?_
    refine H20.go gz rfl rfl _ (run_field rfl (H20.ev rfl) fieldL_0) fun a H => ?_
    refine H.ld 1 (load1_q _ _ _ _ _ _ (c0 O9)) fun a H => ?_
    refine H.index gz rfl rfl rfl rfl rfl (hix _) fun a H => ?_
    refine H.ld 0 (load_mq (hr O9)) fun a H => ?_
    refine H.any (w' := w9.alloc (.cells (mqCells m vc vw vf).toArray 30)) gz rfl rfl (.slice (some ⟨w9.heap.size, 0, none⟩) 1 1) (by intro cs b h; cases h) (by kernel_rfl) (by kernel_rfl) fun a H => ?_
    have hl10 := Reads.lit w9 30 (mqCells m vc vw vf) (0, 0) 24 1 rfl
    have hb10 : Below w9.heap.size w9 (w9.alloc (.cells (mqCells m vc vw vf).toArray 30)) := balloc _ _
    generalize w9.alloc (.cells (mqCells m vc vw vf).toArray 30) = w10 at *
    obtain ⟨BB, hBB, hinf⟩ := info_mqx
    have O10 := O9.call hb10
    have hP10 := own_below hP9 hb10
    obtain ⟨A9, c9, hv9e, hO9⟩ := hv9
    have hO10 := own_below hO9 hb10
    refine H.app hP10 hinf hl10 (fun u hu => List.all_eq_true.1 (hMn O9).ones u hu) (by unfold maxLen; omega) (Nat.le_trans (Nat.mul_le_mul (show want.length + 1 ≤ 80000 by omega) hBB) (by decide)) (O10.lt 0 rfl) fun a A' c' w11 hP11 hg11 H => ?_
    have O11 := O10.row hP10 (Nat.le_succ _) hg11 (fun p hp => by
      rw [List.mem_singleton.1 hp]
      exact own_ne hP10 (.inl (Nat.lt_succ_self _)))
    have hO11 := hO10.kept hg11 (own_apart hO10 hP10 rfl)
    refine H.ms 1 fun a H => wpList_nil (block_normal ?_)
    exact ⟨want ++ [m], v', _, cs ++ mqCells m vc vw vf, H.keep ⟨rfl, rfl, rfl, rfl, trivial⟩, O11, G8.more hmay hM ⟨A9, c9, hv9e, hO11⟩ hP11 G8.row.1 (by omega)⟩
  · rintro a6 w5 ⟨want, vA, vP, cs, H6, O5, G5⟩
    have hl5 := G5.len
    have hw5 := G5.le
    obtain ⟨_, _, _, hxB, _, hsR⟩ := ha
    have hbel : ∀ {w' : World}, Own w g [(g, [.slice A len cap, .slice AX xs.length cX, .slice AS sz.length cS])] w' → Below w.heap.size w w' := fun h => hgw ▸ h.bel
    have hTn : ∀ {w' : World}, Own w g [(g, [.slice A len cap, .slice AX xs.length cX, .slice AS sz.length cS])] w' → Wd w' := fun h => hT.below (hbel h)
    refine H6.rg 1 fun a7 H7 => ?_
    refine H7.go gz rfl rfl _ (run_field rfl (H7.ev rfl) fieldL_1) fun a H => ?_
    refine H.ld 0 (load1_31 _ _ _ _ _ _ (c1 O5)) fun a H => ?_
    refine H.appendRow Tryd.underlying31 info_u8 (gz rfl) rfl rfl rfl rfl rfl G5.byt ⟨AX, cX, rfl, hxB.next (hbel O5)⟩ (by omega) (O5.lt 0 rfl) ?_
    intro a8 v' w6 H8 hv6 hb6 hg6
    obtain ⟨A5, c5, hv5, hO5⟩ := G5.byt
    have O6 := O5.row hO5 (Nat.le_succ _) hg6 (fun p hp => by
      rw [List.mem_singleton.1 hp]
      exact own_ne hO5 (.inl (Nat.lt_succ_self _)))
    have hP6 := G5.row.kept hg6 (own_apart G5.row hO5 rfl)
    obtain ⟨AP, cP, rfl, _, _⟩ := own_shape hP6
    have G6 : ∀ {w' : World}, Below w6.heap.size w6 w' → Below w.heap.size w w' → MqsAt w' AP want := fun hb hb2 =>
      mqs_row (own_below hP6 hb) G5.at_ hb2
    refine H8.ms 1 fun a9 H9 => nt ?_
    obtain ⟨AA, cA, rfl, hA6⟩ := hv6
    have hal : ((want.map layB).flatten ++ xs).length ≤ 14288 := by rw [List.length_append]; omega
    have hfr : ∀ {l : List Mq} {left : List UInt8} {e : Int}, Fed ((want.map layB).flatten ++ xs) l left e → ∃ l', l = want ++ l' := fun h => by
      obtain ⟨l', h1, _⟩ := fed_front want G5.may h
      exact ⟨l', h1⟩
    generalize (want.map layB).flatten ++ xs = all at *
    replace H9 := H9.keep (l' := [(1, .pointer (some ⟨g, 0, none⟩)), (3, .slice AA all.length cA), (4, .slice AP want.length cP)]) ⟨rfl, rfl, rfl, trivial⟩
    clear H6 H7 H8 H hO5 hg6 hb6 hv5
    have hcA := own_cap hA6
    have hA6r := rb_of_own (xs := all) rfl hA6 (O6.lt 0 rfl)
    refine H9.rg 1 fun a10 H10 => ?_
    refine H10.cl (feedC [] all none AA 0 cA w6 RB.nil hA6r (by decide) (by omega) (hTn O6)) ?_
    rintro a11 _ w7 ⟨l, left, er, vW, AL, cL, csW, rfl, hF, hW, hWR, hL, hb7⟩ H11
    rw [List.nil_append] at hF
    have O7 := O6.call hb7
    refine H11.ms 1 fun a12 H12 => ?_
    refine H12.ex (r := vW) 0 fun a13 H13 => ?_
    refine H13.ex (r := .slice AL left.length cL) 0 fun a14 H14 => ?_
    refine H14.ex (r := .int .i64 er) 3 fun a15 H15 => nt ?_
    obtain ⟨AW, cW, rfl, _, _⟩ := own_shape hW
    have hcW := own_cap hW
    obtain ⟨hiW, _, hWr⟩ := hWR
    have mW := hWr.at_ hW
    have hll := fed_left hF
    obtain ⟨l2, rfl⟩ := hfr hF
    have hwl : want.length ≤ (want ++ l2).length := by rw [List.length_append]; omega
    replace H15 := H15.keep (l' := [(1, .pointer (some ⟨g, 0, none⟩)), (3, .slice AA all.length cA), (4, .slice AP want.length cP), (8, .slice AW (want ++ l2).length cW), (9, .slice AL left.length cL), (10, .int .i64 er)]) ⟨rfl, rfl, rfl, rfl, rfl, rfl, trivial⟩
    clear H9 H10 H11 H12 H13 H14
    refine H15.rg 1 fun a H => ?_
    refine H.len gz rfl rfl rfl rfl Tryd.underlying52 fun a H => ?_
    refine H.ms 1 fun a H => ?_
    refine H.len gz rfl rfl rfl rfl Tryd.underlying52 fun a H => ?_
    refine H.bb 1 rfl rfl rfl rfl rfl rfl (lss_i _ _ false (by rw [decide_eq_false_iff_not]; omega) _ _ _) rfl fun a H => ?_
    refine H.move (H.wt rfl rfl rfl) (.inl rfl) rfl rfl rfl fun a H => ?_
    refine H.move (H.wt rfl rfl rfl) (.inl rfl) rfl rfl rfl fun a H => ?_
    refine H.len (H.wt rfl rfl rfl) rfl rfl rfl rfl Tryd.underlying52 fun a H => ?_
    refine H.go (H.wt rfl rfl rfl) rfl rfl _ (run_slice_h rfl (H.ev rfl) (H.ev rfl) (slice_hq AW _ cW want.length hwl hcW _)) fun a H => ?_
    refine H.move (H.wt rfl rfl rfl) (.inl rfl) rfl rfl rfl fun a H => ?_
    refine H.call (H.wt rfl rfl rfl) rfl rfl rfl rfl (fun _ _ => by kernel_rfl) (belowC (eqMqsS want AW AP want.length cW cP rfl (by omega) w7 mW.front (G6 hb7 (hbel O7)))) ?_
    rintro a _ w8 ⟨rfl, hb8⟩ H
    refine H.un (H.wt rfl rfl rfl) rfl rfl rfl rfl (run_not true _) fun a H => ?_
    refine H.pick gz rfl rfl rfl rfl rfl fun a H => ?_
    refine nt (H.condF rfl (skip_wp (then_normal ?_)))
    have O8 := O7.call hb8
    have hA8 := hA6r.next (hb7.trans (hb8.mono hb7.size))
    have m8 := mW.next hb8
    have hL8 := own_below hL hb8
    refine H.rg 1 fun a H => nt ?_
    refine H.rg 1 fun a H => nt ?_
    refine H.rg 1 fun a H => nt ?_
    refine H.rg 1 fun a H => nt ?_
    refine H.rg 1 fun a H => nt ?_
    replace H := H.keep (l' := [(1, .pointer (some ⟨g, 0, none⟩)), (3, .slice AA all.length cA), (8, .slice AW (want ++ l2).length cW), (9, .slice AL left.length cL), (10, .int .i64 er), (11, nilV), (12, nilV), (13, .int .i64 ((0 : Nat) : Int)), (14, .int .i64 0), (15, .int .i64 ((0 : Nat) : Int))]) ⟨rfl, rfl, rfl, rfl, rfl, rfl, rfl, rfl, rfl, rfl, trivial⟩
    generalize want ++ l2 = whole at *
    clear H15 mW hW hWr hL hb8 O7 hwl hfr G6 hP6 hA6 hA6r O6 hb7 O5 G5 hl5 hw5
    refine wp_block ?_
    refine wp_loop_up all.length (fun k a w' => ∃ t got rest er2 vG AR cR csG, Has a 159 [(1, .pointer (some ⟨g, 0, none⟩)), (3, .slice AA all.length cA), (8, .slice AW whole.length cW), (9, .slice AL left.length cL), (10, .int .i64 er), (11, vG), (12, .slice AR rest.length cR), (13, .int .i64 ((t : Nat) : Int)), (14, .int .i64 er2), (15, .int .i64 ((k : Nat) : Int))] ∧ Own w g [(g, [.slice A len cap, .slice AX xs.length cX, .slice AS sz.length cS])] w' ∧ Below w8.heap.size w8 w' ∧ Pieces w8.heap.size all t got rest er2 vG (.slice AR rest.length cR) csG w' ∧ k ≤ t ∧ t ≤ 30000) ⟨0, [], [], 0, nilV, none, 0, [], H, O8, Below.refl _ _, ⟨World.ownsRow_nil _ _ _ _, ⟨w8.heap.size, Nat.le_refl _, .nil (Nat.le_refl _)⟩, World.ownsRow_nil _ _ _ _, .inl ⟨rfl, .done⟩⟩, Nat.le_refl _, by decide⟩ ?_
    clear H
    rintro k a1 w9 hkn ⟨t, got, rest, er2, vG, AR, cR, csG, H1, O9, hb9, P9, hkt, ht⟩
    obtain ⟨b1, e1⟩ : ∃ b, decide ((t : Int) < ((all.length : Nat) : Int)) = b := ⟨_, rfl⟩
    obtain ⟨b2, e2⟩ : ∃ b, (er2 == 0) = b := ⟨_, rfl⟩
    refine H1.tb (fun w' => Own w g [(g, [.slice A len cap, .slice AX xs.length cX, .slice AS sz.length cS])] w' ∧ Below w8.heap.size w8 w' ∧ Pieces w8.heap.size all t got rest er2 vG (.slice AR rest.length cR) csG w') (fun _ _ h hb => ⟨h.1.call hb, h.2.1.trans (hb.mono h.2.1.size), h.2.2.next hb⟩) ⟨O9, hb9, P9⟩ [ec 0 93 (.int .i64 ((t : Nat) : Int)), ec 1 94 (.slice AA all.length cA), ec 2 95 (.int .i64 ((all.length : Nat) : Int)), ec 3 96 (.bool b1), ec 4 97 (.bool b1), ec 5 98 (gv b1 (.int .i64 er2)), ec 6 99 (gv b1 (.int .i64 er2)), ec 7 100 (gv b1 (.bool b2)), ec 8 101 (.bool (b1 && b2))] rfl ⟨jm, jm, jn Tryd.underlying31, jb fun _ => lss_i _ _ b1 e1 _ _ _, jm, (by cases b1; exact jo; exact jm), (by cases b1; exact jo; exact jq fun w' _ => num19 er2 w'), (by cases b1; exact jo; exact jb fun _ => eql_iB _ _ b2 e2 _ _ _), (by cases b1 <;> exact jp), trivial⟩ ?_
    clear H1 O9 hb9 P9
    rintro a2 w10 H2 ⟨O10, hb10, P10⟩
    refine then_normal (H2.cond (t := b1 && b2) rfl ?_)
    replace H2 := H2.keep (l' := [(1, .pointer (some ⟨g, 0, none⟩)), (3, .slice AA all.length cA), (8, .slice AW whole.length cW), (9, .slice AL left.length cL), (10, .int .i64 er), (11, vG), (12, .slice AR rest.length cR), (13, .int .i64 ((t : Nat) : Int)), (14, .int .i64 er2), (15, .int .i64 ((k : Nat) : Int))]) ⟨rfl, rfl, rfl, rfl, rfl, rfl, rfl, rfl, rfl, rfl, trivial⟩
    have hA10 := hA8.next hb10
    have hg8 : g < w8.heap.size := O8.lt 0 rfl
    have hs10 := hb10.size
    obtain ⟨AG, cG, rfl, _, _⟩ := own_shape P10.row
    obtain ⟨hiG, hhiG, hGr⟩ := P10.pr
    have hR10 := rb_of_own (xs := rest) rfl P10.byt hs10
    cases hb : b1 && b2 with
    | false =>
      refine wp_exit ?_
      repeat (with_reducible refine then_exit ?_)
      refine block_leave (then_normal ?_)
      have mG := hGr.at_ P10.row
      have mW := m8.next hb10
      have hL10 := own_below hL8 hb10
      have hLq := rb_of_own (xs := left) rfl (own_base hL10 (Nat.zero_le _)) (Nat.zero_le _)
      obtain ⟨rfl, rfl, rfl⟩ := fed_out P10.fed (fun h0 => by
        subst h0
        rw [show b2 = true from e2.symm, Bool.and_true] at hb
        rw [hb] at e1
        have := of_decide_eq_false e1
        omega) hF
      refine H2.rg 1 fun a H => ?_
      refine H.cq 1 (num19 er2 _) fun a H => ?_
      refine H.cq 0 (num19 er2 _) fun a H => ?_
      refine H.bn 1 (eql_iB er2 er2 true (by simp) _ _ _) fun a H => ?_
      refine H.move (H.wt rfl rfl rfl) (.inl rfl) rfl rfl rfl fun a H => ?_
      refine H.move (H.wt rfl rfl rfl) (.inl rfl) rfl rfl rfl fun a H => ?_
      refine H.call (H.wt rfl rfl rfl) rfl rfl rfl rfl (fun _ _ => by kernel_rfl) (belowC (eqMqsS got AG AW got.length cG cW rfl (by omega) w10 mG mW)) ?_
      rintro a _ w11 ⟨rfl, hb11⟩ H
      refine H.pick gz rfl rfl rfl rfl rfl fun a H => ?_
      refine H.ms 1 fun a H => ?_
      refine H.move (H.wt rfl rfl rfl) (.inl rfl) rfl rfl rfl fun a H => ?_
      refine H.move (H.wt rfl rfl rfl) (.inl rfl) rfl rfl rfl fun a H => ?_
      refine H.call (H.wt rfl rfl rfl) rfl rfl rfl rfl (fun _ _ => by kernel_rfl) (belowC (eqBy rest _ _ w11 ⟨AR, cR, rfl, hR10.next hb11⟩ ⟨AL, cL, rfl, hLq.next hb11⟩ (by unfold maxLen; omega))) ?_
      rintro a _ w12 ⟨rfl, hb12⟩ H
      refine H.pick gz rfl rfl rfl rfl rfl fun a H => ?_
      refine H.ms 1 fun a H => ?_
      refine H.call (H.wt rfl rfl rfl) rfl rfl rfl rfl (fun _ _ => by kernel_rfl) (belowC (wakes19 w12 (hTn ((O10.call hb11).call hb12)))) ?_
      rintro a _ w13 ⟨rfl, hb13⟩ H
      refine H.pick gz rfl rfl rfl rfl rfl fun a H => ?_
      refine H.ms 1 fun a H => nt (wp_ret ?_)
      repeat (first | (with_reducible refine block_ret ?_) | (with_reducible refine then_ret ?_))
      exact bodyPost_ret (results_tmp rfl _ _ _) H.df ⟨congrArg Ending.returned (H.at_ 2 _ rfl), (((O10.call hb11).call hb12).call hb13).bel⟩
    | true =>
    simp only [Bool.and_eq_true] at hb
    rw [hb.1] at e1
    rw [hb.2] at e2
    have htl : t < all.length := by have := of_decide_eq_true e1; omega
    have hklt : k < all.length := by omega
    have h0 : er2 = 0 := by simpa using e2
    subst h0
    clear e1 e2 hb
    refine skip_wp (then_normal ?_)
    have hfd : Fed (all.take t) got rest 0 := by
      rcases P10.fed with ⟨_, h⟩ | ⟨h, _⟩
      · exact h
      · exact absurd rfl h
    have hfl := fed_left hfd
    rw [List.length_take] at hfl
    refine wp_seq_join (fun a w' => ∃ t got rest er2 vG AR cR csG, Has a 159 [(1, .pointer (some ⟨g, 0, none⟩)), (3, .slice AA all.length cA), (8, .slice AW whole.length cW), (9, .slice AL left.length cL), (10, .int .i64 er), (11, vG), (12, .slice AR rest.length cR), (13, .int .i64 ((t : Nat) : Int)), (14, .int .i64 er2), (15, .int .i64 ((k : Nat) : Int))] ∧ Own w g [(g, [.slice A len cap, .slice AX xs.length cX, .slice AS sz.length cS])] w' ∧ Below w8.heap.size w8 w' ∧ Pieces w8.heap.size all t got rest er2 vG (.slice AR rest.length cR) csG w' ∧ k + 1 ≤ t ∧ t ≤ 30000) ?_ ?_
    rotate_left
    · rintro a3 w11 ⟨t, got, rest, er2, vG, AR, cR, csG, H3, O11, hb11, P11, hkt, ht⟩
      refine H3.rg 1 fun a4 H4 => ?_
      refine H4.bb 1 rfl rfl rfl rfl rfl rfl (succ_i k (by omega) _ _ _) rfl fun a5 H5 => nt ?_
      exact ⟨hklt, t, got, rest, er2, vG, AR, cR, csG, H5.keep ⟨rfl, rfl, rfl, rfl, rfl, rfl, rfl, rfl, rfl, rfl, trivial⟩, O11, hb11, P11, hkt, ht⟩
    refine wp_block ?_
    refine H2.rg 1 fun a H => ?_
    refine H.len gz rfl rfl rfl rfl Tryd.underlying31 fun a H => ?_
    refine H.bn 0 (quo8 all.length _ _ (by omega) _) fun a H => ?_
    refine H.bn 1 (add_nn 1 (all.length / 8) (by omega) _ _ _) fun a H => nt ?_
    replace H := H.keep (l' := [(1, .pointer (some ⟨g, 0, none⟩)), (3, .slice AA all.length cA), (8, .slice AW whole.length cW), (9, .slice AL left.length cL), (10, .int .i64 er), (11, .slice AG got.length cG), (12, .slice AR rest.length cR), (13, .int .i64 ((t : Nat) : Int)), (14, .int .i64 0), (15, .int .i64 ((k : Nat) : Int)), (16, .int .i64 ((1 + all.length / 8 : Nat) : Int))]) ⟨rfl, rfl, rfl, rfl, rfl, rfl, rfl, rfl, rfl, rfl, rfl, trivial⟩
    clear H2
    refine wp_seq_join (fun a w' => ∃ n : Nat, 1 ≤ n ∧ n ≤ 2000 ∧ w' = w10 ∧ Has a 159 [(1, .pointer (some ⟨g, 0, none⟩)), (3, .slice AA all.length cA), (8, .slice AW whole.length cW), (9, .slice AL left.length cL), (10, .int .i64 er), (11, .slice AG got.length cG), (12, .slice AR rest.length cR), (13, .int .i64 ((t : Nat) : Int)), (14, .int .i64 0), (15, .int .i64 ((k : Nat) : Int)), (16, .int .i64 ((n : Nat) : Int))]) ?_ ?_
    · obtain ⟨b3, e3⟩ : ∃ b, decide ((k : Int) < ((sz.length : Nat) : Int)) = b := ⟨_, rfl⟩
      refine H.rg 1 fun a H => ?_
      refine H.go gz rfl rfl _ (run_field rfl (H.ev rfl) fieldL_2) fun a H => ?_
      refine H.ld 0 (load1_26 _ _ _ _ _ _ (c2 O10)) fun a H => ?_
      refine H.len gz rfl rfl rfl rfl Tryd.underlying26 fun a H => ?_
      refine H.bb 0 rfl rfl rfl rfl rfl rfl (lss_i _ _ b3 e3 _ _ _) rfl fun a H => nt (H.cond (t := b3) rfl ?_)
      cases b3 with
      | false => exact skip_wp ⟨_, Nat.le_add_right _ _, by omega, rfl, H.keep ⟨rfl, rfl, rfl, rfl, rfl, rfl, rfl, rfl, rfl, rfl, rfl, trivial⟩⟩
      | true =>
        have hks : k < sz.length := by have := of_decide_eq_true e3; omega
        obtain ⟨bs, os, x, hAS, hbs, hx, hcx⟩ := Reads.int (hsR.next (hbel O10)) rfl hks
        have hwl := wth_lt x 60 (by decide)
        have hix : ∀ w', (Instr.indexAt 26 (.slice AS sz.length cS) (.int .i64 ((k : Nat) : Int))).run Tryd.prog w' = .ok (.pointer (some ⟨bs, os + k, none⟩)) w' := fun w' => by rw [hAS]; exact index_1 26 Tryd.underlying26 (fun _ => by kernel_rfl) _ _ _ _ _ hks _
        refine rl ?_
        refine H.go gz rfl rfl _ (run_field rfl (H.ev rfl) fieldL_2) fun a H => ?_
        refine H.ld 1 (load1_26 _ _ _ _ _ _ (c2 O10)) fun a H => ?_
        refine H.index gz rfl rfl rfl rfl rfl (hix _) fun a H => ?_
        refine H.ld 0 (load1_i _ _ _ _ hcx) fun a H => ?_
        refine H.cq 0 (withinN x 60 (by decide) (by decide) _) fun a H => ?_
        refine H.bn 1 (add_nn 1 (wth x 60) (by omega) _ _ _) fun a H => wpList_nil ?_
        exact ⟨_, Nat.le_add_right _ _, by omega, rfl, H.keep ⟨rfl, rfl, rfl, rfl, rfl, rfl, rfl, rfl, rfl, rfl, rfl, trivial⟩⟩
    · clear H
      rintro a3 w11 ⟨n, hn1, hn2, hw, H3⟩
      subst hw
      refine H3.rg 1 fun a H => nt ?_
      refine H.rg 5 fun a H => ?_
      refine H.bn 1 (add_nn t n (by omega) _ _ _) fun a H => ?_
      refine H.len gz rfl rfl rfl rfl Tryd.underlying31 fun a H => ?_
      obtain ⟨hi, hhi⟩ : ∃ hi : Nat, min (t + n) all.length = hi := ⟨_, rfl⟩
      have hmin : min ((t + n : Nat) : Int) ((all.length : Nat) : Int) = ((hi : Nat) : Int) := by omega
      refine H.go gz rfl rfl (.int .i64 ((hi : Nat) : Int)) (by rw [← hmin]; exact run_minI rfl (H.ev rfl) (H.ev rfl)) fun a H => ?_
      refine H.go gz rfl rfl _ (run_slice rfl (H.ev rfl) (H.ev rfl) (H.ev rfl) (slice_lh AA all.length cA t hi (by omega) (by omega) hcA _)) fun a H => ?_
      have hyl : ((all.take hi).drop t).length = hi - t := by rw [List.length_drop, List.length_take]; omega
      refine H.cl (feedCn rest ((all.take hi).drop t) rest.length (hi - t) rfl hyl AR _ cR _ w11 hR10 ((hA10.take hi).cut (k := t) (cap := cA) (by rw [List.length_take]; omega) (by rw [List.length_take]; omega)) (by omega) (by omega) (hTn O10)) ?_
      rintro a _ w12 ⟨l3, left3, er3, vM, AL3, cL3, cs3, rfl, hF3, hM, hMR, hL3, hb12⟩ H
      refine H.ms 1 fun a H => ?_
      refine H.ex (r := vM) 0 fun a H => ?_
      refine H.ex (r := .slice AL3 left3.length cL3) 0 fun a H => ?_
      refine H.ex (r := .int .i64 er3) 3 fun a H => nt ?_
      obtain ⟨AM, cM, rfl, _, _⟩ := own_shape hM
      obtain ⟨hiM, hhiM, hMr⟩ := hMR
      have hfl3 := fed_left hF3
      rw [List.length_append, hyl] at hfl3
      have hG12 := own_below P10.row hb12
      have O12 := O10.call hb12
      have hs12 := hb12.size
      obtain ⟨BB, hBB, hinf⟩ := info_mqx
      refine H.rg 2 fun a H => ?_
      refine H.app hG12 hinf (Reads.of_own hM) hMr.ones (by unfold maxLen; omega) (Nat.le_trans (Nat.mul_le_mul (show got.length + l3.length ≤ 80000 by omega) hBB) (by decide)) (by omega) fun a A' c' w13 hG13 hg13 H => ?_
      have O13 := O12.row hG12 (Nat.le_of_lt hg8) hg13 (fun p hp => by
        rw [List.mem_singleton.1 hp]
        exact own_ne hG12 (.inl hg8))
      refine H.ms 1 fun a H => nt ?_
      refine H.rg 2 fun a H => ?_
      refine H.bn 1 (add_nn t n (by omega) _ _ _) fun a H => wpList_nil (block_normal ?_)
      refine ⟨t + n, got ++ l3, left3, er3, _, AL3, cL3, csG ++ cs3, H.keep ⟨rfl, rfl, rfl, rfl, rfl, rfl, rfl, rfl, rfl, rfl, trivial⟩, O13, (hb10.trans (hb12.mono hs10)).grown hg13 (by omega) (fun q hq => (hG12.lt q hq).1), ⟨by rw [List.length_append]; exact hG13, ⟨hiM, Nat.le_trans hhiM hg13.size, ((hGr.next hb12).row hG12 hg13 rfl).cat (hMr.row hG12 hg13 rfl) hhiG⟩, own_base (hL3.kept hg13 (own_apart hL3 hG12 rfl)) hs10, ?_⟩, by omega, by omega⟩
      refine fed_piece hfd (by omega) ?_ hF3
      rw [← hhi]
      by_cases hc : t + n ≤ all.length
      · rw [Nat.min_eq_left hc]
      · rw [Nat.min_eq_right (by omega), List.take_length, List.take_of_length_le (by omega)]
end Go.Proofs.YtkcdkjpmbjcmdaaDoor

/-
  What the listed tables give the walks, and a start at which they read so.
-/
namespace Go.Proofs.YtkcdkjpmbjcmdaaDoor
open Go.ChangeShapes Go.WideShapes Go.ChangeAt Go.RowKit Go.Deep

abbrev lay2 : List (String × DataW Unit) := [("unicode/utf8.acceptRanges", Rows.laid_unicode_utf8_acceptRanges), ("unicode/utf8.first", Rows.laid_unicode_utf8_first)]
set_option maxRecDepth 100000 in
theorem lay_first : (Rows.laid_unicode_utf8_first : DataW Unit) = Lib.firstData := by rfl
set_option maxRecDepth 100000 in
theorem lay_accept : (Rows.laid_unicode_utf8_acceptRanges : DataW Unit) = Lib.acceptData := by rfl
theorem plain_lay : (lay2.all fun x => x.2.handleName?.isNone) = true := by kernel_rfl
theorem tabs_of {W : World} (h : laidMetH Tryd.prog lay2 W) : Wd W := by
  rw [MakeChecks.laidMetH_plain _ _ _ plain_lay] at h
  have h1 := Lib.laidMet.reads h (n := "unicode/utf8.acceptRanges") (d := Rows.laid_unicode_utf8_acceptRanges) (.head _)
  have h2 := Lib.laidMet.reads h (n := "unicode/utf8.first") (d := Rows.laid_unicode_utf8_first) (.tail _ (.head _))
  rw [lay_accept] at h1
  rw [lay_first] at h2
  exact utf8Tabs_of_readsT (U8Types.of196 Sh.lays196) ⟨by kernel_rfl, by kernel_rfl, by kernel_rfl, by kernel_rfl, by kernel_rfl, by kernel_rfl, by kernel_rfl⟩ h2 h1
noncomputable def laidWorld (os : Os) : World :=
  let w0 := World.holding Tryd.prog os ⟨#[], #[], []⟩
  let put (h : Array Obj) (g : Nat) (cs : Array Value) : Array Obj := h.modify g fun
    | .cells _ t frozen => .cells cs t frozen
    | o => o
  let h1 := put w0.heap 0 (Lib.firstTab.map fun z => Value.int .u8 z).toArray
  let h2 := put h1 1 ((List.range 16).flatMap fun i => [Value.int .u8 (Lib.accLo i), Value.int .u8 (Lib.accHi i)]).toArray
  { w0 with heap := h2 }
theorem laid_door (os : Os) (args : Array Value) : laidMetH Tryd.prog lay2 ((laidWorld os).forCall (fun _ _ => 0) ⟨#[], args, []⟩).memory := by
  rw [MakeChecks.laidMetH_plain _ _ _ plain_lay]
  exact (LaidIn.of_run (l := lay2) [0, 1] 8 (by kernel_rfl) (by kernel_rfl) (by kernel_rfl) (by kernel_rfl)).met
end Go.Proofs.YtkcdkjpmbjcmdaaDoor
