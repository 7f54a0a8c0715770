/-
  pack.layConnect: the bytes of a packet that wants to be connected.
-/
import Derived.Maps.AppendAt
import Derived.Deep.LoopGhost
import Derived.Test.YtkcdkjpmbjcmdaaDoorFp2
namespace Go.Proofs.YtkcdkjpmbjcmdaaDoor
open Go.RowKit

theorem packBitN (b : Bool) (nI : Int) (n : Nat) (h : nI = (n : Int)) (w : World) : Calls Tryd.prog 98 #[.bool b, .int .i64 nI] w fun e w' => e = .returned (.int .i64 ((cb b n : Nat) : Int)) ∧ w = w' := by
  refine (packBit b nI w).mono ?_
  rintro e w' ⟨rfl, rfl⟩
  refine ⟨?_, rfl⟩
  subst h
  cases b <;> rfl
theorem cb_lt (b : Bool) (n : Nat) (h : n < 256) : cb b n < 256 := by unfold cb; split <;> omega
theorem or_lt8 {a b : Nat} (ha : a < 256) (hb : b < 256) : (a ||| b) < 256 := Nat.or_lt_two_pow (n := 8) ha hb
theorem lt8 {a : Nat} (h : a < 256) : a < 9223372036854775808 := by omega
theorem shl3 (k : Int) (h0 : 0 ≤ k) (h2 : k ≤ 2) (x y : Operand) (w : World) : (do eqGuard .shl 3 x y (.int .i64 k) (.int .u64 3); binOp .shl 3 (.int .i64 k) (.int .u64 3) : Sem Value).run Tryd.prog w = .ok (.int .i64 ((k.toNat * 8 : Nat) : Int)) w := by
  have : k = 0 ∨ k = 1 ∨ k = 2 := by omega
  rcases this with rfl | rfl | rfl <;> simp [go_sem] <;> rfl
theorem flags_or (a b c d e : Bool) (q : Nat) (hq : q ≤ 2) : (((((cb a 2 ||| cb b 4) ||| q * 8) ||| cb c 32) ||| cb d 64) ||| cb e 128) = cb a 2 + cb b 4 + 8 * q + cb c 32 + cb d 64 + cb e 128 := by
  obtain ⟨q', rfl⟩ : ∃ q' : Fin 3, q = q'.val := ⟨⟨q, by omega⟩, rfl⟩
  revert a b c d e q'
  decide
/-- what a function that lays bytes answers. -/
def Laid (xs : List UInt8) (w : World) (e : Ending) (w' : World) : Prop := ∃ v, e = .returned v ∧ RowIs w.heap.size xs v w' ∧ Below w.heap.size w w'
theorem connect_spell (m : Mq) : connectBy m = ((((((([0, 4, 77, 81, 84, 84] : List UInt8) ++ [4, UInt8.ofNat (flagsC m)]) ++ big 2 m.keep.toNat) ++ strB m.client) ++ (if m.won then strB m.wt ++ strB m.wp else [])) ++ (if m.hu then strB m.user else [])) ++ (if m.hp then strB m.pass else [])) := rfl
set_option maxRecDepth 100000 in
set_option maxHeartbeats 3200000 in
theorem layConnectW (m : Mq) (vc vw vf : Value) (w : World) (hc : m.client.size ≤ 65535) (ht : m.wt.size ≤ 65535) (hp : m.wp.size ≤ 65535) (hu' : m.user.size ≤ 65535) (hp' : m.pass.size ≤ 65535) (hk0 : 0 ≤ m.keep) (hk1 : m.keep ≤ 65535) (hq0 : 0 ≤ m.wq) (hq2 : m.wq ≤ 2) :
    Calls Tryd.prog 97 #[.agg (mqCells m vc vw vf).toArray] w (Laid (connectBy m) w) := by
  go_enter Tryd.func97, Tryd.ntmps97
  refine Has.start 68 [(0, .agg (mqCells m vc vw vf).toArray)] rfl rfl ⟨rfl, trivial⟩ ?_
  intro a0 H0
  have O0 := Own.start w
  refine rl ?_
  refine H0.bx O0 1 fun a2 w1 O1 H2 => nt ?_
  have H3 := H2.keep (l' := [(1, .pointer (some ⟨w.heap.size, 0, none⟩))]) ⟨rfl, trivial⟩
  have HB1 := Base.of O1
  obtain ⟨b0, hb0⟩ : ∃ b0, b0 = w1.heap.size := ⟨_, rfl⟩
  rw [← hb0] at HB1
  have hb0' := hb0
  clear hb0
  repeat (refine wp_seq ?_)
  have h12a : cb m.clean 2 < 256 := cb_lt _ _ (by decide)
  have h12b : cb m.won 4 < 256 := cb_lt _ _ (by decide)
  have h17a : (cb m.clean 2 ||| cb m.won 4) < 256 := or_lt8 h12a h12b
  have h17b : m.wq.toNat * 8 < 256 := by omega
  have h22a : ((cb m.clean 2 ||| cb m.won 4) ||| m.wq.toNat * 8) < 256 := or_lt8 h17a h17b
  have h22b : cb m.wr 32 < 256 := cb_lt _ _ (by decide)
  have h26a : (((cb m.clean 2 ||| cb m.won 4) ||| m.wq.toNat * 8) ||| cb m.wr 32) < 256 := or_lt8 h22a h22b
  have h26b : cb m.hp 64 < 256 := cb_lt _ _ (by decide)
  have h30a : ((((cb m.clean 2 ||| cb m.won 4) ||| m.wq.toNat * 8) ||| cb m.wr 32) ||| cb m.hp 64) < 256 := or_lt8 h26a h26b
  have h30b : cb m.hu 128 < 256 := cb_lt _ _ (by decide)
  have hflags : (((((cb m.clean 2 ||| cb m.won 4) ||| m.wq.toNat * 8) ||| cb m.wr 32) ||| cb m.hp 64) ||| cb m.hu 128) = flagsC m := flags_or _ _ _ _ _ _ (by omega)
  refine H3.dr HB1 [1] rfl [ec 0 5 (.pointer (some ⟨w.heap.size, 2, none⟩)), ec 1 6 (.bool m.clean), ec 2 7 (.int .i64 ((cb m.clean 2 : Nat) : Int)), ec 3 8 (.pointer (some ⟨w.heap.size, 4, none⟩)), ec 4 9 (.pointer (some ⟨w.heap.size, 4, none⟩)), ec 5 10 (.bool m.won), ec 6 11 (.int .i64 ((cb m.won 4 : Nat) : Int)), ec 7 12 (.int .i64 (((cb m.clean 2 ||| cb m.won 4) : Nat) : Int)), ec 8 13 (.pointer (some ⟨w.heap.size, 4, none⟩)), ec 9 14 (.pointer (some ⟨w.heap.size, 7, none⟩)), ec 10 15 (.int .i64 m.wq), ec 11 16 (.int .i64 ((m.wq.toNat * 8 : Nat) : Int)), ec 12 17 (.int .i64 ((((cb m.clean 2 ||| cb m.won 4) ||| m.wq.toNat * 8) : Nat) : Int)), ec 13 18 (.pointer (some ⟨w.heap.size, 4, none⟩)), ec 14 19 (.pointer (some ⟨w.heap.size, 8, none⟩)), ec 15 20 (.bool m.wr), ec 16 21 (.int .i64 ((cb m.wr 32 : Nat) : Int)), ec 17 22 (.int .i64 (((((cb m.clean 2 ||| cb m.won 4) ||| m.wq.toNat * 8) ||| cb m.wr 32) : Nat) : Int)), ec 18 23 (.pointer (some ⟨w.heap.size, 12, none⟩)), ec 19 24 (.bool m.hp), ec 20 25 (.int .i64 ((cb m.hp 64 : Nat) : Int)), ec 21 26 (.int .i64 ((((((cb m.clean 2 ||| cb m.won 4) ||| m.wq.toNat * 8) ||| cb m.wr 32) ||| cb m.hp 64) : Nat) : Int)), ec 22 27 (.pointer (some ⟨w.heap.size, 10, none⟩)), ec 23 28 (.bool m.hu), ec 24 29 (.int .i64 ((cb m.hu 128 : Nat) : Int)), ec 25 30 (.int .i64 (((((((cb m.clean 2 ||| cb m.won 4) ||| m.wq.toNat * 8) ||| cb m.wr 32) ||| cb m.hp 64) ||| cb m.hu 128) : Nat) : Int)), ec 26 3 (.int .i64 (((((((cb m.clean 2 ||| cb m.won 4) ||| m.wq.toNat * 8) ||| cb m.wr 32) ||| cb m.hp 64) ||| cb m.hu 128) : Nat) : Int))] rfl ⟨jm, (jl fun _ h => h.own.lb 0 2), (jq fun ww _ => (packBitN m.clean 2 2 rfl ww)), jm, jm, (jl fun _ h => h.own.lb 0 4), (jq fun ww _ => (packBitN m.won 4 4 rfl ww)), (jB rfl rfl rfl rfl rfl rfl fun _ => (or_i _ _ (by first | exact lt8 h12a | omega) (by first | exact lt8 h12b | omega) _ _ _)), jm, jm, (jl fun _ h => h.own.li 0 7), (jb fun _ => (shl3 _ hq0 hq2 _ _ _)), (jB rfl rfl rfl rfl rfl rfl fun _ => (or_i _ _ (by first | exact lt8 h17a | omega) (by first | exact lt8 h17b | omega) _ _ _)), jm, jm, (jl fun _ h => h.own.lb 0 8), (jq fun ww _ => (packBitN m.wr 32 32 rfl ww)), (jB rfl rfl rfl rfl rfl rfl fun _ => (or_i _ _ (by first | exact lt8 h22a | omega) (by first | exact lt8 h22b | omega) _ _ _)), jm, (jl fun _ h => h.own.lb 0 12), (jq fun ww _ => (packBitN m.hp 64 64 rfl ww)), (jB rfl rfl rfl rfl rfl rfl fun _ => (or_i _ _ (by first | exact lt8 h26a | omega) (by first | exact lt8 h26b | omega) _ _ _)), jm, (jl fun _ h => h.own.lb 0 10), (jq fun ww _ => (packBitN m.hu 128 128 rfl ww)), (jB rfl rfl rfl rfl rfl rfl fun _ => (or_i _ _ (by first | exact lt8 h30a | omega) (by first | exact lt8 h30b | omega) _ _ _)), jm, trivial⟩ trivial ?_ ?_
  · exact fun _ _ _ _ _ _ _ _ _ _ _ hh => False.elim hh
  · intro listed a4 w2 hall hI
    have r_3 := hI.vs _ (ma 26 rfl) (.inr (hall 26 (by decide))) trivial
    have H4 : Has a4 68 [(1, .pointer (some ⟨w.heap.size, 0, none⟩)), (3, .int .i64 (((((((cb m.clean 2 ||| cb m.won 4) ||| m.wq.toNat * 8) ||| cb m.wr 32) ||| cb m.hp 64) ||| cb m.hu 128) : Nat) : Int))] := Has.of hI.sz hI.df ⟨hI.fx.1, r_3, trivial⟩
    have HB2 := hI.wp
    refine then_normal ?_
    refine H4.dr HB2 [1, 3] rfl [er 0 31 [4] (fun v w => RowIs b0 [0, 4, 77, 81, 84, 84] v w), ec 1 32 (.int .i64 (((((((cb m.clean 2 ||| cb m.won 4) ||| m.wq.toNat * 8) ||| cb m.wr 32) ||| cb m.hp 64) ||| cb m.hu 128) : Nat) : Int)), ec 2 33 (.int .u8 ((((((((cb m.clean 2 ||| cb m.won 4) ||| m.wq.toNat * 8) ||| cb m.wr 32) ||| cb m.hp 64) ||| cb m.hu 128) : Nat) : Int) % 256)), er 3 34 [4] (fun v w => BytesAre [4, UInt8.ofNat (flagsC m)] v w), er 4 35 [7] (fun v w => RowIs b0 ([0, 4, 77, 81, 84, 84] ++ [4, UInt8.ofNat (flagsC m)]) v w), ec 5 36 (.pointer (some ⟨w.heap.size, 3, none⟩)), ec 6 37 (.int .i64 m.keep), er 7 38 [] (fun v w => RowIs b0 (([0, 4, 77, 81, 84, 84] ++ [4, UInt8.ofNat (flagsC m)]) ++ big 2 m.keep.toNat) v w), er 8 4 [] (fun v w => RowIs b0 (([0, 4, 77, 81, 84, 84] ++ [4, UInt8.ofNat (flagsC m)]) ++ big 2 m.keep.toNat) v w)] rfl ⟨jm, (jc fun _ => (conv_u8 _ _)), jm, (jl fun _ h => h.own.li 0 3), trivial⟩ trivial ?_ ?_
    · intro listed aa ww i o hs hni hcl ho hd hI hh
      have hls : listed.size = 9 := hs
      rcases hh with rfl | rfl | rfl | rfl | rfl | hh
      · obtain rfl := pick_op ho rfl
        have HH : Has aa 68 [] := Has.of hI.sz hI.df trivial
        refine wpOp_enter ho gz 31 rfl 99 _ (run_callH HH rfl rfl (fun _ _ => by kernel_rfl)) _ (rowText ww.heap.size [] (.slice none 0 0) ({ data := #[77, 81, 84, 84] } : ByteArray) (by decide) ww (RowIs.nil _ _) (Nat.le_refl _) (by simp)) ?_
        rintro v' w' ⟨hrow, hb⟩
        exact hI.ph hls 0 rfl (v') (by rw [show ([0, 4, 77, 81, 84, 84] : List UInt8) = [] ++ strB ({ data := #[77, 81, 84, 84] } : ByteArray) by decide]; exact hrow.base hI.wp.bw) (hI.wp.call hb) ⟨fun h => absurd rfl h, fun _ _ _ _ _ h => h.below hb, fun _ _ _ _ _ h => h.below hb, fun _ _ _ _ _ h => h.below hb, fun _ _ _ _ _ h => h.below hb, trivial⟩
      · obtain rfl := pick_op ho rfl
        have r_33 := hI.vs _ (ma 2 rfl) (.inr (ran_of hd 2 (by kernel_rfl))) trivial
        have u_33 : aa.eval (.tmp 33) = .int .u8 ((((((((cb m.clean 2 ||| cb m.won 4) ||| m.wq.toNat * 8) ||| cb m.wr 32) ||| cb m.hp 64) ||| cb m.hu 128) : Nat) : Int) % 256) := r_33
        have HH : Has aa 68 [(33, .int .u8 ((((((((cb m.clean 2 ||| cb m.won 4) ||| m.wq.toNat * 8) ||| cb m.wr 32) ||| cb m.hp 64) ||| cb m.hu 128) : Nat) : Int) % 256))] := Has.of hI.sz hI.df ⟨u_33, trivial⟩
        obtain ⟨hby, hb⟩ := bytes_lit ww [4, UInt8.ofNat (flagsC m)] [.int .u8 4, .int .u8 ((((((((cb m.clean 2 ||| cb m.won 4) ||| m.wq.toNat * 8) ||| cb m.wr 32) ||| cb m.hp 64) ||| cb m.hu 128) : Nat) : Int) % 256)] (by rw [hflags, byte_of_int _ (by omega)]; rfl) 5 2 rfl
        refine wpOp_go ho gz 34 rfl (.slice (some ⟨ww.heap.size, 0, none⟩) 2 2) (ww.alloc (.cells ([.int .u8 4, .int .u8 ((((((((cb m.clean 2 ||| cb m.won 4) ||| m.wq.toNat * 8) ||| cb m.wr 32) ||| cb m.hp 64) ||| cb m.hu 128) : Nat) : Int) % 256)] : List Value).toArray 5)) (run_any HH (by intro cs b h; cases h) (by kernel_rfl) (by kernel_rfl)) ?_
        exact hI.ph hls 3 rfl (.slice (some ⟨ww.heap.size, 0, none⟩) 2 2) hby (hI.wp.call hb) ⟨fun _ _ _ _ _ h => h.below hb, fun h => absurd rfl h, fun _ _ _ _ _ h => h.below hb, fun _ _ _ _ _ h => h.below hb, fun _ _ _ _ _ h => h.below hb, trivial⟩
      · obtain rfl := pick_op ho rfl
        have r_31 := hI.vs _ (ma 0 rfl) (.inr (ran_of hd 0 (by kernel_rfl))) ⟨hni, trivial⟩
        have r_34 := hI.vs _ (ma 3 rfl) (.inr (ran_of hd 3 (by kernel_rfl))) ⟨hni, trivial⟩
        have HH : Has aa 68 [(31, aa.eval (.tmp 31)), (34, aa.eval (.tmp 34))] := Has.of hI.sz hI.df ⟨rfl, rfl, trivial⟩
        obtain ⟨v', w', hrun, hrow, hb0, hg⟩ := run_append_row (P := Tryd.prog) (a := aa) (w := ww) Tryd.underlying31 info_u8 (o := ⟨some 35, _, _, _, _, none⟩) rfl rfl rfl r_31 r_34 (by simp only [List.length_cons, List.length_nil]; omega) hI.wp.bw
        refine wpOp_go ho gz 35 rfl v' w' hrun ?_
        exact hI.ph hls 4 rfl (v') hrow (hI.wp.step hb0) ⟨fun _ h => absurd (by show 4 ∈ ([4] : List Nat); decide) h, fun _ h => absurd (by show 4 ∈ ([4] : List Nat); decide) h, fun h => absurd rfl h, fun _ _ h => absurd (hni.symm.trans (ran_of (hcl 7 _ rfl (h.resolve_left (by rw [hls]; show ¬ 9 ≤ 7; decide))) 4 (by kernel_rfl))) (by decide), fun _ _ h => absurd (hni.symm.trans (ran_of (hcl 7 _ rfl (ran_of (hcl 8 _ rfl (h.resolve_left (by rw [hls]; show ¬ 9 ≤ 8; decide))) 7 (by kernel_rfl))) 4 (by kernel_rfl))) (by decide), trivial⟩
      · obtain rfl := pick_op ho rfl
        have r_35 := hI.vs _ (ma 4 rfl) (.inr (ran_of hd 4 (by kernel_rfl))) ⟨hni, trivial⟩
        have r_37 := hI.vs _ (ma 6 rfl) (.inr (ran_of hd 6 (by kernel_rfl))) trivial
        have u_37 : aa.eval (.tmp 37) = .int .i64 m.keep := r_37
        have HH : Has aa 68 [(35, aa.eval (.tmp 35)), (37, .int .i64 m.keep)] := Has.of hI.sz hI.df ⟨rfl, u_37, trivial⟩
        refine wpOp_enter ho gz 38 rfl 100 _ (run_callH HH rfl rfl (fun _ _ => by kernel_rfl)) _ (rowTwo b0 ([0, 4, 77, 81, 84, 84] ++ [4, UInt8.ofNat (flagsC m)]) (aa.eval (.tmp 35)) m.keep hk0 hk1 ww r_35 hI.wp.bw (by simp only [List.length_append, List.length_cons, List.length_nil]; omega)) ?_
        rintro v' w' ⟨hrow, hb0⟩
        exact hI.ph hls 7 rfl (v') hrow (hI.wp.step hb0) ⟨fun _ _ _ hk => absurd (hk.1.symm.trans (ran_of hd 4 (by kernel_rfl))) (by decide), fun _ _ _ hk => absurd (hk.1.symm.trans (ran_of hd 4 (by kernel_rfl))) (by decide), fun _ h => absurd (by show 7 ∈ ([7] : List Nat); decide) h, fun h => absurd rfl h, fun _ _ h => absurd (hni.symm.trans (ran_of (hcl 8 _ rfl (h.resolve_left (by rw [hls]; show ¬ 9 ≤ 8; decide))) 7 (by kernel_rfl))) (by decide), trivial⟩
      · obtain rfl := pick_op ho rfl
        have r_38 := hI.vs _ (ma 7 rfl) (.inr (ran_of hd 7 (by kernel_rfl))) trivial
        have HH : Has aa 68 [(38, aa.eval (.tmp 38))] := Has.of hI.sz hI.df ⟨rfl, trivial⟩
        refine wpOp_go ho gz 4 rfl (aa.eval (.tmp 38)) ww (run_move (.inr rfl) (HH.ev rfl)) ?_
        exact hI.ph hls 8 rfl (aa.eval (.tmp 38)) r_38 hI.wp AllC.same
      · exact False.elim hh
    · intro listed a5 w3 hall hI
      have r_4 := hI.vs _ (ma 8 rfl) (.inr (hall 8 (by decide))) trivial
      have H5 : Has a5 68 [(1, .pointer (some ⟨w.heap.size, 0, none⟩)), (3, .int .i64 (((((((cb m.clean 2 ||| cb m.won 4) ||| m.wq.toNat * 8) ||| cb m.wr 32) ||| cb m.hp 64) ||| cb m.hu 128) : Nat) : Int)), (4, a5.eval (.tmp 4))] := Has.of hI.sz hI.df ⟨hI.fx.1, hI.fx.2.1, rfl, trivial⟩
      have HB3 := hI.wp
      have R4_3 : RowIs b0 (([0, 4, 77, 81, 84, 84] ++ [4, UInt8.ofNat (flagsC m)]) ++ big 2 m.keep.toNat) (a5.eval (.tmp 4)) w3 := r_4
      refine then_normal ?_
      have H6 := H5.keep (l' := [(1, .pointer (some ⟨w.heap.size, 0, none⟩)), (4, a5.eval (.tmp 4))]) ⟨rfl, rfl, trivial⟩
      refine H6.rg 2 fun a8 H8 => ?_
      refine H8.ld 0 (HB3.own.ls 0 1) fun a9 H9 => ?_
      refine H9.cl (rowText b0 (([0, 4, 77, 81, 84, 84] ++ [4, UInt8.ofNat (flagsC m)]) ++ big 2 m.keep.toNat) _ m.client hc _ R4_3 HB3.bw (by simp only [List.length_append, big_length, List.length_cons, List.length_nil]; omega)) ?_
      rintro a10 v42 w4 ⟨R42, hb⟩ H10
      have HB4 := HB3.step hb
      clear hb
      refine H10.ms 1 fun a11 H11 => nt ?_
      refine wp_seq_join (fun a w' => ∃ v, Has a 68 [(1, .pointer (some ⟨w.heap.size, 0, none⟩)), (4, v)] ∧ RowIs b0 (((([0, 4, 77, 81, 84, 84] ++ [4, UInt8.ofNat (flagsC m)]) ++ big 2 m.keep.toNat) ++ strB m.client) ++ (if m.won then strB m.wt ++ strB m.wp else [])) v w' ∧ Base w b0 [(w.heap.size, (mqCells m vc vw vf))] w') ?_ ?_
      · cases hb45 : m.won with
        | true =>
          refine H11.rg 2 fun a13 H13 => ?_
          refine H13.ld 0 (HB4.own.lb 0 4) fun a14 H14 => nt ?_
          have H14b := H14.keep (l' := [(1, .pointer (some ⟨w.heap.size, 0, none⟩)), (4, v42), (45, .bool true)]) ⟨rfl, rfl, by first | exact congrArg (fun x => some (Value.bool x)) hb45, trivial⟩
          refine H14b.condT rfl ?_
          have H15 := H14b
          refine H15.dr HB4 [1] rfl [er 0 46 [4] (fun v w => RowIs b0 ((([0, 4, 77, 81, 84, 84] ++ [4, UInt8.ofNat (flagsC m)]) ++ big 2 m.keep.toNat) ++ strB m.client) v w), ec 1 47 (.pointer (some ⟨w.heap.size, 4, none⟩)), ec 2 48 (.pointer (some ⟨w.heap.size, 5, none⟩)), ec 3 49 (.string m.wt), er 4 50 [8] (fun v w => RowIs b0 (((([0, 4, 77, 81, 84, 84] ++ [4, UInt8.ofNat (flagsC m)]) ++ big 2 m.keep.toNat) ++ strB m.client) ++ strB m.wt) v w), ec 5 51 (.pointer (some ⟨w.heap.size, 4, none⟩)), ec 6 52 (.pointer (some ⟨w.heap.size, 6, none⟩)), ec 7 53 (.string m.wp), er 8 54 [] (fun v w => RowIs b0 (((([0, 4, 77, 81, 84, 84] ++ [4, UInt8.ofNat (flagsC m)]) ++ big 2 m.keep.toNat) ++ strB m.client) ++ strB m.wt ++ strB m.wp) v w), er 9 4 [] (fun v w => RowIs b0 (((([0, 4, 77, 81, 84, 84] ++ [4, UInt8.ofNat (flagsC m)]) ++ big 2 m.keep.toNat) ++ strB m.client) ++ strB m.wt ++ strB m.wp) v w), er 1000 4 [4, 9] (fun v w => RowIs b0 ((([0, 4, 77, 81, 84, 84] ++ [4, UInt8.ofNat (flagsC m)]) ++ big 2 m.keep.toNat) ++ strB m.client) v w)] rfl ⟨jm, jm, (jl fun _ h => h.own.ls 0 5), jm, jm, (jl fun _ h => h.own.ls 0 6), trivial⟩ ⟨(by rw [H15.at_ 4 _ rfl]; exact R42.drew), trivial⟩ ?_ ?_
          · intro listed aa ww i o hs hni hcl ho hd hI hh
            have hls : listed.size = 10 := hs
            rcases hh with rfl | rfl | rfl | rfl | hh
            · obtain rfl := pick_op ho rfl
              have r_4 := hI.vs _ (ma 10 rfl) (.inl (by rw [hls]; show 10 ≤ 1000; decide)) ⟨(Bool.eq_false_iff.2 fun h => absurd (hni.symm.trans (ran_of (hcl 4 _ rfl h) 0 (by kernel_rfl))) (by decide)), (Bool.eq_false_iff.2 fun h => absurd (hni.symm.trans (ran_of (hcl 4 _ rfl (ran_of (hcl 8 _ rfl (ran_of (hcl 9 _ rfl h) 8 (by kernel_rfl))) 4 (by kernel_rfl))) 0 (by kernel_rfl))) (by decide)), trivial⟩
              have HH : Has aa 68 [(4, aa.eval (.tmp 4))] := Has.of hI.sz hI.df ⟨rfl, trivial⟩
              refine wpOp_go ho gz 46 rfl (aa.eval (.tmp 4)) ww (run_move (.inl rfl) (HH.ev rfl)) ?_
              exact hI.ph hls 0 rfl (aa.eval (.tmp 4)) r_4 hI.wp AllC.same
            · obtain rfl := pick_op ho rfl
              have r_46 := hI.vs _ (ma 0 rfl) (.inr (ran_of hd 0 (by kernel_rfl))) ⟨hni, trivial⟩
              have r_49 := hI.vs _ (ma 3 rfl) (.inr (ran_of hd 3 (by kernel_rfl))) trivial
              have u_49 : aa.eval (.tmp 49) = .string m.wt := r_49
              have HH : Has aa 68 [(46, aa.eval (.tmp 46)), (49, .string m.wt)] := Has.of hI.sz hI.df ⟨rfl, u_49, trivial⟩
              refine wpOp_enter ho gz 50 rfl 99 _ (run_callH HH rfl rfl (fun _ _ => by kernel_rfl)) _ (rowText b0 ((([0, 4, 77, 81, 84, 84] ++ [4, UInt8.ofNat (flagsC m)]) ++ big 2 m.keep.toNat) ++ strB m.client) (aa.eval (.tmp 46)) m.wt ht ww r_46 hI.wp.bw (by simp only [List.length_append, strB_length, big_length, List.length_cons, List.length_nil]; omega)) ?_
              rintro v' w' ⟨hrow, hb0⟩
              exact hI.ph hls 4 rfl (v') hrow (hI.wp.step hb0) ⟨fun _ h => absurd (by show 4 ∈ ([4] : List Nat); decide) h, fun h => absurd rfl h, fun _ _ h => absurd (hni.symm.trans (ran_of (hcl 8 _ rfl (h.resolve_left (by rw [hls]; show ¬ 10 ≤ 8; decide))) 4 (by kernel_rfl))) (by decide), fun _ _ h => absurd (hni.symm.trans (ran_of (hcl 8 _ rfl (ran_of (hcl 9 _ rfl (h.resolve_left (by rw [hls]; show ¬ 10 ≤ 9; decide))) 8 (by kernel_rfl))) 4 (by kernel_rfl))) (by decide), fun _ h => absurd (by show 4 ∈ ([4, 9] : List Nat); decide) h, trivial⟩
            · obtain rfl := pick_op ho rfl
              have r_50 := hI.vs _ (ma 4 rfl) (.inr (ran_of hd 4 (by kernel_rfl))) ⟨hni, trivial⟩
              have r_53 := hI.vs _ (ma 7 rfl) (.inr (ran_of hd 7 (by kernel_rfl))) trivial
              have u_53 : aa.eval (.tmp 53) = .string m.wp := r_53
              have HH : Has aa 68 [(50, aa.eval (.tmp 50)), (53, .string m.wp)] := Has.of hI.sz hI.df ⟨rfl, u_53, trivial⟩
              refine wpOp_enter ho gz 54 rfl 99 _ (run_callH HH rfl rfl (fun _ _ => by kernel_rfl)) _ (rowText b0 (((([0, 4, 77, 81, 84, 84] ++ [4, UInt8.ofNat (flagsC m)]) ++ big 2 m.keep.toNat) ++ strB m.client) ++ strB m.wt) (aa.eval (.tmp 50)) m.wp hp ww r_50 hI.wp.bw (by simp only [List.length_append, strB_length, big_length, List.length_cons, List.length_nil]; omega)) ?_
              rintro v' w' ⟨hrow, hb0⟩
              exact hI.ph hls 8 rfl (v') hrow (hI.wp.step hb0) ⟨fun _ _ _ hk => absurd (hk.1.symm.trans (ran_of hd 4 (by kernel_rfl))) (by decide), fun _ h => absurd (by show 8 ∈ ([8] : List Nat); decide) h, fun h => absurd rfl h, fun _ _ h => absurd (hni.symm.trans (ran_of (hcl 9 _ rfl (h.resolve_left (by rw [hls]; show ¬ 10 ≤ 9; decide))) 8 (by kernel_rfl))) (by decide), fun _ _ _ hk => absurd (hk.1.symm.trans (ran_of hd 4 (by kernel_rfl))) (by decide), trivial⟩
            · obtain rfl := pick_op ho rfl
              have r_54 := hI.vs _ (ma 8 rfl) (.inr (ran_of hd 8 (by kernel_rfl))) trivial
              have HH : Has aa 68 [(54, aa.eval (.tmp 54))] := Has.of hI.sz hI.df ⟨rfl, trivial⟩
              refine wpOp_go ho gz 4 rfl (aa.eval (.tmp 54)) ww (run_move (.inr rfl) (HH.ev rfl)) ?_
              exact hI.ph hls 9 rfl (aa.eval (.tmp 54)) r_54 hI.wp AllC.same
            · exact False.elim hh
          · intro listed a16 w5 hall hI
            have r_4 := hI.vs _ (ma 9 rfl) (.inr (hall 9 (by decide))) trivial
            have H16 : Has a16 68 [(1, .pointer (some ⟨w.heap.size, 0, none⟩)), (4, a16.eval (.tmp 4))] := Has.of hI.sz hI.df ⟨hI.fx.1, rfl, trivial⟩
            have HB5 := hI.wp
            have R4_5 : RowIs b0 (((([0, 4, 77, 81, 84, 84] ++ [4, UInt8.ofNat (flagsC m)]) ++ big 2 m.keep.toNat) ++ strB m.client) ++ strB m.wt ++ strB m.wp) (a16.eval (.tmp 4)) w5 := r_4
            refine then_normal ?_
            exact ⟨_, H16.keep ⟨rfl, rfl, trivial⟩, (by rw [if_pos rfl, ← List.append_assoc]; exact R4_5), HB5⟩
        | false =>
          refine H11.rg 2 fun a13 H13 => ?_
          refine H13.ld 0 (HB4.own.lb 0 4) fun a14 H14 => nt ?_
          have H14b := H14.keep (l' := [(1, .pointer (some ⟨w.heap.size, 0, none⟩)), (4, v42), (45, .bool false)]) ⟨rfl, rfl, by first | exact congrArg (fun x => some (Value.bool x)) hb45, trivial⟩
          refine H14b.condF rfl ?_
          refine skip_wp ?_
          refine then_normal ?_
          exact ⟨_, H14b.keep ⟨rfl, rfl, trivial⟩, (by rw [if_neg (show ¬ (false = true) by decide), List.append_nil]; exact R42), HB4⟩
      · rintro a51 w24 ⟨v4_24, H51, R4_24, HB24⟩
        have hl1 : (if m.won then strB m.wt ++ strB m.wp else []).length ≤ 200000 := by split <;> simp [strB_length] <;> omega
        refine wp_seq_join (fun a w' => ∃ v, Has a 68 [(1, .pointer (some ⟨w.heap.size, 0, none⟩)), (4, v)] ∧ RowIs b0 ((((([0, 4, 77, 81, 84, 84] ++ [4, UInt8.ofNat (flagsC m)]) ++ big 2 m.keep.toNat) ++ strB m.client) ++ (if m.won then strB m.wt ++ strB m.wp else [])) ++ (if m.hu then strB m.user else [])) v w' ∧ Base w b0 [(w.heap.size, (mqCells m vc vw vf))] w') ?_ ?_
        · cases hb56 : m.hu with
          | true =>
            refine H51.rg 1 fun a52 H52 => ?_
            refine H52.ld 0 (HB24.own.lb 0 10) fun a53 H53 => nt ?_
            have H53b := H53.keep (l' := [(1, .pointer (some ⟨w.heap.size, 0, none⟩)), (4, v4_24), (56, .bool true)]) ⟨rfl, rfl, by first | exact congrArg (fun x => some (Value.bool x)) hb56, trivial⟩
            refine H53b.condT rfl ?_
            have H54 := H53b
            refine H54.rg 2 fun a56 H56 => ?_
            refine H56.ld 0 (HB24.own.ls 0 9) fun a57 H57 => ?_
            refine H57.cl (rowText b0 (((([0, 4, 77, 81, 84, 84] ++ [4, UInt8.ofNat (flagsC m)]) ++ big 2 m.keep.toNat) ++ strB m.client) ++ (if m.won then strB m.wt ++ strB m.wp else [])) _ m.user hu' _ R4_24 HB24.bw (by simp only [List.length_append, strB_length, big_length, List.length_cons, List.length_nil]; omega)) ?_
            rintro a58 v60 w25 ⟨R60, hb⟩ H58
            have HB25 := HB24.step hb
            clear hb
            refine H58.ms 1 fun a59 H59 => nt ?_
            exact ⟨_, H59.keep ⟨rfl, rfl, trivial⟩, (by rw [if_pos rfl]; exact R60), HB25⟩
          | false =>
            refine H51.rg 1 fun a52 H52 => ?_
            refine H52.ld 0 (HB24.own.lb 0 10) fun a53 H53 => nt ?_
            have H53b := H53.keep (l' := [(1, .pointer (some ⟨w.heap.size, 0, none⟩)), (4, v4_24), (56, .bool false)]) ⟨rfl, rfl, by first | exact congrArg (fun x => some (Value.bool x)) hb56, trivial⟩
            refine H53b.condF rfl ?_
            refine skip_wp ?_
            refine then_normal ?_
            exact ⟨_, H53b.keep ⟨rfl, rfl, trivial⟩, (by rw [if_neg (show ¬ (false = true) by decide), List.append_nil]; exact R4_24), HB24⟩
        · rintro a91 w44 ⟨v4_44, H91, R4_44, HB44⟩
          have hl2 : (if m.hu then strB m.user else []).length ≤ 200000 := by split <;> simp [strB_length] <;> omega
          refine wp_seq_join (fun a w' => ∃ v, Has a 68 [(1, .pointer (some ⟨w.heap.size, 0, none⟩)), (4, v)] ∧ RowIs b0 (((((([0, 4, 77, 81, 84, 84] ++ [4, UInt8.ofNat (flagsC m)]) ++ big 2 m.keep.toNat) ++ strB m.client) ++ (if m.won then strB m.wt ++ strB m.wp else [])) ++ (if m.hu then strB m.user else [])) ++ (if m.hp then strB m.pass else [])) v w' ∧ Base w b0 [(w.heap.size, (mqCells m vc vw vf))] w') ?_ ?_
          · cases hb62 : m.hp with
            | true =>
              refine H91.rg 1 fun a92 H92 => ?_
              refine H92.ld 0 (HB44.own.lb 0 12) fun a93 H93 => nt ?_
              have H93b := H93.keep (l' := [(1, .pointer (some ⟨w.heap.size, 0, none⟩)), (4, v4_44), (62, .bool true)]) ⟨rfl, rfl, by first | exact congrArg (fun x => some (Value.bool x)) hb62, trivial⟩
              refine H93b.condT rfl ?_
              have H94 := H93b
              refine H94.rg 2 fun a96 H96 => ?_
              refine H96.ld 0 (HB44.own.ls 0 11) fun a97 H97 => ?_
              refine H97.cl (rowText b0 ((((([0, 4, 77, 81, 84, 84] ++ [4, UInt8.ofNat (flagsC m)]) ++ big 2 m.keep.toNat) ++ strB m.client) ++ (if m.won then strB m.wt ++ strB m.wp else [])) ++ (if m.hu then strB m.user else [])) _ m.pass hp' _ R4_44 HB44.bw (by simp only [List.length_append, strB_length, big_length, List.length_cons, List.length_nil]; omega)) ?_
              rintro a98 v66 w45 ⟨R66, hb⟩ H98
              have HB45 := HB44.step hb
              clear hb
              refine H98.ms 1 fun a99 H99 => nt ?_
              exact ⟨_, H99.keep ⟨rfl, rfl, trivial⟩, (by rw [if_pos rfl]; exact R66), HB45⟩
            | false =>
              refine H91.rg 1 fun a92 H92 => ?_
              refine H92.ld 0 (HB44.own.lb 0 12) fun a93 H93 => nt ?_
              have H93b := H93.keep (l' := [(1, .pointer (some ⟨w.heap.size, 0, none⟩)), (4, v4_44), (62, .bool false)]) ⟨rfl, rfl, by first | exact congrArg (fun x => some (Value.bool x)) hb62, trivial⟩
              refine H93b.condF rfl ?_
              refine skip_wp ?_
              refine then_normal ?_
              exact ⟨_, H93b.keep ⟨rfl, rfl, trivial⟩, (by rw [if_neg (show ¬ (false = true) by decide), List.append_nil]; exact R4_44), HB44⟩
          · rintro a131 w64 ⟨v4_64, H131, R4_64, HB64⟩
            refine H131.rg 2 fun a133 H133 => nt ?_
            refine wp_ret ?_
            repeat (first | (with_reducible refine block_ret ?_) | (with_reducible refine then_ret ?_))
            refine bodyPost_ret (results_tmp rfl _ _ _) H133.df ?_
            refine ⟨_, congrArg Ending.returned (H133.at_ 2 _ rfl), ?_, HB64.own.bel⟩
            rw [connect_spell]; exact R4_64.base HB64.hb
end Go.Proofs.YtkcdkjpmbjcmdaaDoor

/-
  Loops at a frame that is a letter; 'two' and 'text' once more: which block is written.
-/
namespace Go.Proofs.YtkcdkjpmbjcmdaaDoor
open Go.RowKit

section
variable {P : Program} {Q : Exit → Act → World → Prop} {a : Act} {w : World}
/-- a loop whose rounds are counted: k of N are done. -/
theorem wp_loop_up {c : Code} (N : Nat) (J : Nat → Act → World → Prop) (h0 : J 0 a w) (round : ∀ k a w, k ≤ N → J k a w → c.wp P (Exit.then (fun a' w' => k < N ∧ J (k + 1) a' w') Q) a w) : (Code.loop c).wp P Q a w := by
  have key : ∀ n k a w, N - k = n → k ≤ N → J k a w → Code.rounds P c Q (n + 1) a w := by
    intro n
    induction n with
    | zero =>
      intro k a w hn hk hJ
      rw [rounds_succ]
      refine wp_mono (round k a w hk hJ) ?_
      intro e a' w' he
      cases e with
      | normal => exact absurd he.1 (by omega)
      | _ => exact he
    | succ n ih =>
      intro k a w hn hk hJ
      rw [rounds_succ]
      refine wp_mono (round k a w hk hJ) ?_
      intro e a' w' he
      cases e with
      | normal => exact ih (k + 1) a' w' (by omega) he.1 he.2
      | _ => exact he
  exact wp_loop_rounds (N + 1) (key N 0 a w (by omega) (Nat.zero_le _) h0)
theorem then_exit {next : Act → World → Prop} {id : Nat} (h : Q (.exit id) a w) : Exit.then next Q (.exit id) a w := h
theorem block_leave {id : Nat} (h : Q .normal a w) : Exit.inBlock id Q (.exit id) a w := by
  simp only [Exit.inBlock, if_true]
  exact h
theorem block_pass {id id' : Nat} (hne : Nat.beq id' id = false) (h : Q (.exit id') a w) : Exit.inBlock id Q (.exit id') a w := by
  have hn : id' ≠ id := by intro e; subst e; rw [Nat.beq_refl] at hne; cases hne
  simp only [Exit.inBlock, hn, if_false]
  exact h
end
theorem shr8 (k : Int) (_h0 : 0 ≤ k) (_h1 : k ≤ 65535) (x y : Operand) (w : World) : (do eqGuard .shr 3 x y (.int .i64 k) (.int .u64 8); binOp .shr 3 (.int .i64 k) (.int .u64 8) : Sem Value).run Tryd.prog w = .ok (.int .i64 (k / 256)) w := by
  simp [go_sem]
theorem lss_i (u v : Int) (b : Bool) (h : decide (u < v) = b) (x y : Operand) (w : World) : (do eqGuard .lss 3 x y (.int .i64 u) (.int .i64 v); binOp .lss 3 (.int .i64 u) (.int .i64 v) : Sem Value).run Tryd.prog w = .ok (.bool b) w := by
  subst h
  simp [go_sem]
theorem gtr_i (u v : Int) (b : Bool) (h : decide (v < u) = b) (x y : Operand) (w : World) : (do eqGuard .gtr 3 x y (.int .i64 u) (.int .i64 v); binOp .gtr 3 (.int .i64 u) (.int .i64 v) : Sem Value).run Tryd.prog w = .ok (.bool b) w := by
  subst h
  simp [go_sem]
theorem geq_i (u v : Int) (b : Bool) (h : decide (v ≤ u) = b) (x y : Operand) (w : World) : (do eqGuard .geq 3 x y (.int .i64 u) (.int .i64 v); binOp .geq 3 (.int .i64 u) (.int .i64 v) : Sem Value).run Tryd.prog w = .ok (.bool b) w := by
  subst h
  simp [go_sem]
theorem succ_i (k : Nat) (h : k < 9223372036854775807) (x y : Operand) (w : World) : (do eqGuard .add 3 x y (.int .i64 k) (.int .i64 1); binOp .add 3 (.int .i64 k) (.int .i64 1) : Sem Value).run Tryd.prog w = .ok (.int .i64 ((k + 1 : Nat) : Int)) w := by
  simp [go_sem]
  exact IntWalk.i64_in _ (by omega)
theorem index_1 (T : TypeId) (hT : Tryd.prog.underlying T = some (.slice (Tryd.prog.elem T))) (hs : ∀ w, (sizeOf (Tryd.prog.elem T)).run Tryd.prog w = .ok 1 w) (b o n c k : Nat) (hk : k < n) (w : World) : (Instr.indexAt T (.slice (some ⟨b, o, none⟩) n c) (.int .i64 k)).run Tryd.prog w = .ok (.pointer (some ⟨b, o + k, none⟩)) w := by
  rw [run_indexAt_slice (h := hT), if_pos ⟨by omega, by omega⟩, hs]
  have e : (Addr.mk b o none).add ((k : Int).toNat * 1) = ⟨b, o + k, none⟩ := by
    rw [Int.toNat_natCast, Nat.mul_one]
    unfold Addr.add
    by_cases h : k = 0 <;> simp [h]
  rw [Result.andThen_ok, e]
theorem index_2 (T : TypeId) (hT : Tryd.prog.underlying T = some (.slice (Tryd.prog.elem T))) (hs : ∀ w, (sizeOf (Tryd.prog.elem T)).run Tryd.prog w = .ok 2 w) (b o n c k : Nat) (hk : k < n) (w : World) : (Instr.indexAt T (.slice (some ⟨b, o, none⟩) n c) (.int .i64 k)).run Tryd.prog w = .ok (.pointer (some ⟨b, o + k * 2, none⟩)) w := by
  rw [run_indexAt_slice (h := hT), if_pos ⟨by omega, by omega⟩, hs]
  have e : (Addr.mk b o none).add ((k : Int).toNat * 2) = ⟨b, o + k * 2, none⟩ := by
    rw [Int.toNat_natCast]
    unfold Addr.add
    by_cases h : k = 0
    · simp [h]
    · rw [if_neg (by omega)]
  rw [Result.andThen_ok, e]
section
variable {P : Program} {ops : Array Oper} {rest : List Oper} {o : Oper} {a : Act} {w : World} {Q : Exit → Act → World → Prop} {n : Nat} {l : List (Nat × Value)}
theorem Has.index (H : Has a n l) (hw : Region.wanted o (yielded ops a.tmps) = true) {T d : Nat} {x i : Operand} {u v r : Value} (ho : o.op = .indexAddr T x i) (hd : o.dst = some d) (hn : Nat.blt d n = true) (hx : evL l x = some u) (hi : evL l i = some v)
    (hq : (Instr.indexAt T u v).run P w = .ok r w) (h : ∀ a', Has a' n ((d, r) :: l) → wpList P ops Q rest a' w) : wpList P ops Q (o :: rest) a w := by
  refine H.go hw hd hn _ ?_ h
  unfold execOp
  simp only [ho, H.ev hx, H.ev hi, Sem.run_bind, hq, Result.andThen_ok, Sem.run_pure]
theorem Has.len (H : Has a n l) (hw : Region.wanted o (yielded ops a.tmps) = true) {d : Nat} {s : Operand} {t : TypeId} {A : Option Addr} {m c : Nat} (ho : o.op = .call { callee := .builtin .len, args := #[s], argTypes := #[t] }) (hd : o.dst = some d) (hn : Nat.blt d n = true) (hs : evL l s = some (.slice A m c)) {e : TypeId} (ht : P.underlying t = some (.slice e))
    (h : ∀ a', Has a' n ((d, .int .i64 m) :: l) → wpList P ops Q rest a' w) : wpList P ops Q (o :: rest) a w :=
  H.go hw hd hn _ (run_len ho (H.ev hs) ht) h
theorem Has.bytes (H : Has a n l) (hw : Region.wanted o (yielded ops a.tmps) = true) {d k : Nat} (hd : o.dst = some d) (hn : Nat.blt d n = true) (xs : List UInt8) (vs : List Value) (hxs : vs = xs.map bv) (hk : xs.length = k) (e : TypeId) (hs : ∀ cs b, o.op ≠ .select cs b) (hops : o.op.operands.all (fun x => (evL l x).isSome) = true)
    (hrun : (execOp (fun x => (evL l x).getD undef) o).run P w = .ok (.value (.slice (some ⟨w.heap.size, 0, none⟩) k k)) (w.alloc (.cells vs.toArray e)))
    (h : ∀ a' v w', Has a' n ((d, v) :: l) → BytesAre xs v w' → Below w.heap.size w w' → wpList P ops Q rest a' w') : wpList P ops Q (o :: rest) a w := by
  obtain ⟨h1, h2⟩ := bytes_lit w xs vs hxs e k hk
  exact H.go hw hd hn _ (run_any H hs hops hrun) (fun a' H' => h a' _ _ H' h1 h2)
theorem Has.appendRow (H : Has a n l) (hgb : P.underlying 31 = some (.slice 5)) (hi : (P.info? 5).map (fun i => (i.zero, i.size, i.bytes)) = some (some (.int .u8 0), 1, 1)) (hw : Region.wanted o (yielded ops a.tmps) = true) {d : Nat} {s x : Operand}
    (ho : o.op = .call { callee := .builtin .append, args := #[s, x], argTypes := #[31, 31] }) (hd : o.dst = some d) (hn : Nat.blt d n = true) {b : Nat} {xs ys : List UInt8} {v u : Value} (hs : evL l s = some v) (hx : evL l x = some u) (hv : RowIs b xs v w) (hu : BytesAre ys u w)
    (hl : xs.length + ys.length ≤ 140737488355328) (hb : b ≤ w.heap.size) (h : ∀ a' v' w', Has a' n ((d, v') :: l) → RowIs b (xs ++ ys) v' w' → Below b w w' → w.grownBy w' v.ownBlock → wpList P ops Q rest a' w') : wpList P ops Q (o :: rest) a w := by
  obtain ⟨v', w', hrun, h1, h2, h3⟩ := run_append_row (P := P) (a := a) (w := w) hgb hi (o := o) ho (H.ev hs) (H.ev hx) hv hu hl hb
  exact H.go hw hd hn v' hrun (fun a' H' => h a' v' w' H' h1 h2 h3)
theorem Has.appendStr (H : Has a n l) (hgb : P.underlying 31 = some (.slice 5)) (hst : P.underlying 9 = some .string) (hi : (P.info? 5).map (fun i => (i.zero, i.size, i.bytes)) = some (some (.int .u8 0), 1, 1)) (hw : Region.wanted o (yielded ops a.tmps) = true) {d : Nat} {s x : Operand}
    (ho : o.op = .call { callee := .builtin .append, args := #[s, x], argTypes := #[31, 9] }) (hd : o.dst = some d) (hn : Nat.blt d n = true) {b : Nat} {xs : List UInt8} {v : Value} {str : ByteArray} (hs : evL l s = some v) (hx : evL l x = some (.string str)) (hv : RowIs b xs v w)
    (hl : xs.length + str.size ≤ 140737488355328) (hb : b ≤ w.heap.size) (h : ∀ a' v' w', Has a' n ((d, v') :: l) → RowIs b (xs ++ sb str) v' w' → Below b w w' → w.grownBy w' v.ownBlock → wpList P ops Q rest a' w') : wpList P ops Q (o :: rest) a w := by
  obtain ⟨v', w', hrun, h1, h2, h3⟩ := run_append_strR (P := P) (a := a) (w := w) hgb hst hi (o := o) ho (H.ev hs) (H.ev hx) hv hl hb
  exact H.go hw hd hn v' hrun (fun a' H' => h a' v' w' H' h1 h2 h3)
end
section
variable {P : Program} {o : Oper} {a : Act} {w : World}
end
theorem lit_two (k : Int) (h0 : 0 ≤ k) (h1 : k ≤ 65535) : [Value.int .u8 (k / 256 % 256), .int .u8 (k % 256)] = (big 2 k.toNat).map bv := by
  rw [big2]
  simp only [List.map_cons, List.map_nil, bv, UInt8.toNat_ofNat']
  congr 2
  · congr 1; omega
  · congr 2; omega
end Go.Proofs.YtkcdkjpmbjcmdaaDoor

/-
  pack.body: a packet's bytes behind its length.
-/
namespace Go.Proofs.YtkcdkjpmbjcmdaaDoor
open Go.RowKit

theorem RowIs.read {b : Nat} {xs : List UInt8} {v : Value} {w : World} (h : RowIs b xs v w) : BytesAre xs v w := by
  obtain ⟨A, c, rfl, ho⟩ := h
  exact ⟨A, c, rfl, RB.of_ownN ho⟩
/-- what 'body' answers. -/
def Bodied (m : Mq) (w : World) (e : Ending) (w' : World) : Prop := ∃ v, e = .returned (.tuple #[.int .i64 ((flagsBy m : Nat) : Int), v]) ∧ BytesAre (bodyBy m) v w' ∧ Below w.heap.size w w'
theorem bodied_of {m : Mq} {w w' : World} {b : Nat} {bs : List (Nat × List Value)} {f : Int} {xs : List UInt8} {v : Value} (hf : f = ((flagsBy m : Nat) : Int)) (hx : bodyBy m = xs) (hv : BytesAre xs v w') (hb : Base w b bs w') :
    Bodied m w (.returned (.tuple #[.int .i64 f, v])) w' := by
  subst hf hx
  exact ⟨v, rfl, hv, hb.own.bel⟩
theorem results_pair {P : Program} {fn : Func} {p q : Tmp} (h : fn.results = #[.tmp p, .tmp q]) (tmps : Array Value) (u v : Value) {w : World} (hp : tmps.getD p undef = u) (hq : tmps.getD q undef = v) : (results fn tmps).run P w = .ok (.tuple #[u, v]) w := by
  have hp' : tmps[p]?.getD undef = u := by simpa using hp
  have hq' : tmps[q]?.getD undef = v := by simpa using hq
  simp [results, h, hp', hq']
theorem Laid.row {xs : List UInt8} {w w' : World} {e : Ending} {b : Nat} (h : Laid xs w e w') (hb : b ≤ w.heap.size) : ∃ v', e = .returned v' ∧ (RowIs b xs v' w' ∧ Below b w w') := by
  obtain ⟨v, rfl, hr, hbl⟩ := h
  exact ⟨v, rfl, hr.base hb, hbl.mono hb⟩
theorem mul2 (k : Int) (h0 : 0 ≤ k) (h2 : k ≤ 2) (x y : Operand) (w : World) : (do eqGuard .mul 3 x y (.int .i64 2) (.int .i64 k); binOp .mul 3 (.int .i64 2) (.int .i64 k) : Sem Value).run Tryd.prog w = .ok (.int .i64 ((2 * k.toNat : Nat) : Int)) w := by
  have : k = 0 ∨ k = 1 ∨ k = 2 := by omega
  rcases this with rfl | rfl | rfl <;> simp [go_sem] <;> rfl
theorem pub_or (a b : Bool) (q : Nat) (hq : q ≤ 2) : ((cb a 8 ||| 2 * q) ||| cb b 1) = cb a 8 + 2 * q + cb b 1 := by
  obtain ⟨q', rfl⟩ : ∃ q' : Fin 3, q = q'.val := ⟨⟨q, by omega⟩, rfl⟩
  revert a b q'
  decide
theorem Reads.int {w : World} {B n k : Nat} {A : Option Addr} {l : List Int} (h : Reads w B 1 A n (l.map iv)) (hl : l.length = n) (hk : k < n) : ∃ b o x, A = some ⟨b, o, none⟩ ∧ b < B ∧ l[k]? = some x ∧ w.cell? ⟨b, o + k, none⟩ = some (.int .i64 x) := by
  obtain ⟨b, o, v, hA, hb, hv, hc⟩ := h.get1 hk
  have hx : l[k]? = some l[k] := List.getElem?_eq_getElem (by omega)
  rw [List.getElem?_map, hx] at hv
  injection hv with hv
  exact ⟨b, o, _, hA, hb, hx, by rw [hc, ← hv]⟩
theorem Reads.str {w : World} {B n k : Nat} {A : Option Addr} {l : List ByteArray} (h : Reads w B 1 A n (l.map sv)) (hl : l.length = n) (hk : k < n) : ∃ b o x, A = some ⟨b, o, none⟩ ∧ b < B ∧ l[k]? = some x ∧ w.cell? ⟨b, o + k, none⟩ = some (.string x) := by
  obtain ⟨b, o, v, hA, hb, hv, hc⟩ := h.get1 hk
  have hx : l[k]? = some l[k] := List.getElem?_eq_getElem (by omega)
  rw [List.getElem?_map, hx] at hv
  injection hv with hv
  exact ⟨b, o, _, hA, hb, hx, by rw [hc, ← hv]⟩
theorem codesAll_get : ∀ {l : List Int} {k : Nat} {x : Int}, codesAll l = true → l[k]? = some x → 0 ≤ x ∧ x ≤ 128
  | y :: l, 0, x, h, hx => by
    simp only [List.getElem?_cons_zero, Option.some.injEq] at hx
    subst hx
    obtain ⟨a, b, _⟩ := codesAll_mem rfl h
    exact ⟨a, b⟩
  | y :: l, k + 1, x, h, hx => codesAll_get (codesAll_mem rfl h).2.2 (by simpa using hx)
theorem filtersAll_get : ∀ {l : List ByteArray} {k : Nat} {x : ByteArray}, filtersAll l = true → l[k]? = some x → x.size ≤ 64
  | y :: l, 0, x, h, hx => by
    simp only [List.getElem?_cons_zero, Option.some.injEq] at hx
    subst hx
    exact (filtersAll_mem rfl h).1
  | y :: l, k + 1, x, h, hx => filtersAll_get (filtersAll_mem rfl h).2 (by simpa using hx)
theorem filtersAll_take : ∀ {l : List ByteArray} (k : Nat), filtersAll l = true → filtersAll (l.take k) = true
  | _, 0, _ => by simp [filtersAll]
  | [], k + 1, _ => by simp [filtersAll]
  | y :: l, k + 1, h => by
    simp only [filtersAll, Bool.and_eq_true] at h
    simp only [List.take_succ_cons, filtersAll, Bool.and_eq_true]
    exact ⟨h.1, filtersAll_take k h.2⟩
theorem wishesAll_get : ∀ {l : List (ByteArray × Int)} {k : Nat} {x : ByteArray × Int}, wishesAll l = true → l[k]? = some x → x.1.size ≤ 64 ∧ 0 ≤ x.2 ∧ x.2 ≤ 2
  | y :: l, 0, x, h, hx => by
    simp only [List.getElem?_cons_zero, Option.some.injEq] at hx
    subst hx
    obtain ⟨a, b, c, _⟩ := wishesAll_mem rfl h
    exact ⟨a, b, c⟩
  | y :: l, k + 1, x, h, hx => wishesAll_get (wishesAll_mem rfl h).2.2.2 (by simpa using hx)
theorem wishesAll_take : ∀ {l : List (ByteArray × Int)} (k : Nat), wishesAll l = true → wishesAll (l.take k) = true
  | _, 0, _ => by simp [wishesAll]
  | [], k + 1, _ => by simp [wishesAll]
  | y :: l, k + 1, h => by
    simp only [wishesAll, Bool.and_eq_true] at h
    simp only [List.take_succ_cons, wishesAll, Bool.and_eq_true]
    exact ⟨h.1, wishesAll_take k h.2⟩
theorem codesBy_app : ∀ (a : List Int) (x : Int), codesBy (a ++ [x]) = codesBy a ++ [UInt8.ofNat x.toNat]
  | [], _ => rfl
  | y :: a, x => by simp [codesBy, codesBy_app a x]
theorem filtersBy_app : ∀ (a : List ByteArray) (x : ByteArray), filtersBy (a ++ [x]) = filtersBy a ++ strB x
  | [], x => by simp [filtersBy]
  | y :: a, x => by simp [filtersBy, filtersBy_app a x]
theorem wishesBy_app : ∀ (a : List (ByteArray × Int)) (x : ByteArray × Int), wishesBy (a ++ [x]) = wishesBy a ++ (strB x.1 ++ [UInt8.ofNat x.2.toNat])
  | [], x => by simp [wishesBy]
  | y :: a, x => by simp [wishesBy, wishesBy_app a x]

set_option maxRecDepth 100000 in
set_option maxHeartbeats 3200000 in
theorem body_1 (m : Mq) (vc vw vf : Value) (w : World) (hk : m.kind = 1) (hc : m.client.size ≤ 65535) (ht : m.wt.size ≤ 65535) (hp : m.wp.size ≤ 65535) (hu' : m.user.size ≤ 65535) (hp' : m.pass.size ≤ 65535) (hk0 : 0 ≤ m.keep) (hk1 : m.keep ≤ 65535) (hq0 : 0 ≤ m.wq) (hq2 : m.wq ≤ 2) :
    Calls Tryd.prog 74 #[.agg (mqCells m vc vw vf).toArray] w (Bodied m w) := by
  have b1 : (m.kind == 1) = true := kind_eq hk
  go_enter Tryd.func74, Tryd.ntmps74
  refine Has.start 123 [(0, .agg (mqCells m vc vw vf).toArray)] rfl rfl ⟨rfl, trivial⟩ ?_
  intro a0 H0
  have O0 := Own.start w
  refine rl ?_
  refine H0.bx O0 2 fun a3 w1 O1 H3 => nt ?_
  have HB1 := Base.of O1
  obtain ⟨b0, hb0⟩ : ∃ b0, b0 = w1.heap.size := ⟨_, rfl⟩
  rw [← hb0] at HB1
  have hb0' := hb0
  clear hb0
  refine H3.rg 1 fun a4 H4 => ?_
  refine H4.ld 0 (HB1.own.li 0 0) fun a5 H5 => nt ?_
  have H6 := H5.keep (l' := [(1, .pointer (some ⟨w.heap.size, 0, none⟩)), (2, .int .i64 0), (3, .slice none 0 0), (11, .int .i64 m.kind)]) ⟨rfl, rfl, rfl, rfl, trivial⟩
  repeat (refine wp_seq ?_)
  refine wp_block ?_
  refine rl ?_
  refine H6.bn 1 (eql_iB _ _ _ b1 _ _ _) fun a8 H8 => nt ?_
  refine H8.condT rfl ?_
  refine rl ?_
  refine H8.lm HB1.own 0 0 fun a9 H9 => ?_
  refine H9.cl (((layConnectW m _ _ _ _ hc ht hp hu' hp' hk0 hk1 hq0 hq2).mono fun _ _ h => h.row HB1.bw)) ?_
  rintro a10 v15 w2 ⟨R15, hb⟩ H10
  have HB2 := HB1.step hb
  clear hb
  refine H10.ms 2 fun a12 H12 => nt ?_
  refine wp_ret ?_
  repeat (first | (with_reducible refine block_ret ?_) | (with_reducible refine then_ret ?_))
  refine bodyPost_ret (results_pair rfl _ _ _ (H12.at_ 2 _ rfl) (H12.at_ 3 _ rfl)) H12.df ?_
  refine bodied_of (by unfold flagsBy; simp [hk]) ?_ R15.read HB2
  unfold bodyBy; rw [if_pos hk]

set_option maxRecDepth 100000 in
set_option maxHeartbeats 3200000 in
theorem body_2 (m : Mq) (vc vw vf : Value) (w : World) (hk : m.kind = 2) (hc0 : 0 ≤ m.code) :
    Calls Tryd.prog 74 #[.agg (mqCells m vc vw vf).toArray] w (Bodied m w) := by
  have b1 : (m.kind == 1) = false := kind_ne hk rfl
  have b2 : (m.kind == 2) = true := kind_eq hk
  go_enter Tryd.func74, Tryd.ntmps74
  refine Has.start 123 [(0, .agg (mqCells m vc vw vf).toArray)] rfl rfl ⟨rfl, trivial⟩ ?_
  intro a0 H0
  have O0 := Own.start w
  refine rl ?_
  refine H0.bx O0 2 fun a3 w1 O1 H3 => nt ?_
  have HB1 := Base.of O1
  obtain ⟨b0, hb0⟩ : ∃ b0, b0 = w1.heap.size := ⟨_, rfl⟩
  rw [← hb0] at HB1
  have hb0' := hb0
  clear hb0
  refine H3.rg 1 fun a4 H4 => ?_
  refine H4.ld 0 (HB1.own.li 0 0) fun a5 H5 => nt ?_
  have H6 := H5.keep (l' := [(1, .pointer (some ⟨w.heap.size, 0, none⟩)), (2, .int .i64 0), (3, .slice none 0 0), (11, .int .i64 m.kind)]) ⟨rfl, rfl, rfl, rfl, trivial⟩
  repeat (refine wp_seq ?_)
  refine wp_block ?_
  refine rl ?_
  refine H6.bn 1 (eql_iB _ _ _ b1 _ _ _) fun a8 H8 => nt ?_
  refine H8.condF rfl ?_
  refine rl ?_
  refine H8.bn 1 (eql_iB _ _ _ b2 _ _ _) fun a10 H10 => nt ?_
  refine H10.condT rfl ?_
  refine H10.dr HB1 [1] rfl [ec 0 18 (.pointer (some ⟨w.heap.size, 13, none⟩)), ec 1 19 (.bool m.present), ec 2 20 (.int .i64 ((cb m.present 1 : Nat) : Int)), ec 3 21 (.int .u8 (((cb m.present 1 : Nat) : Int) % 256)), ec 4 22 (.pointer (some ⟨w.heap.size, 14, none⟩)), ec 5 23 (.int .i64 m.code), ec 6 24 (.int .u8 (m.code % 256)), er 7 25 [] (fun v w => BytesAre [UInt8.ofNat (cb m.present 1), UInt8.ofNat m.code.toNat] v w), ec 8 2 (.int .i64 0), er 9 3 [] (fun v w => BytesAre [UInt8.ofNat (cb m.present 1), UInt8.ofNat m.code.toNat] v w)] rfl ⟨jm, (jl fun _ h => h.own.lb 0 13), (jq fun ww _ => (packBitN m.present 1 1 rfl ww)), (jc fun _ => (conv_u8 _ _)), jm, (jl fun _ h => h.own.li 0 14), (jc fun _ => (conv_u8 _ _)), jm, trivial⟩ trivial ?_ ?_
  · intro listed aa ww i o hs hni hcl ho hd hI hh
    have hls : listed.size = 10 := hs
    rcases hh with rfl | rfl | hh
    · obtain rfl := pick_op ho rfl
      have r_21 := hI.vs _ (ma 3 rfl) (.inr (ran_of hd 3 (by kernel_rfl))) trivial
      have u_21 : aa.eval (.tmp 21) = .int .u8 (((cb m.present 1 : Nat) : Int) % 256) := r_21
      have r_24 := hI.vs _ (ma 6 rfl) (.inr (ran_of hd 6 (by kernel_rfl))) trivial
      have u_24 : aa.eval (.tmp 24) = .int .u8 (m.code % 256) := r_24
      have HH : Has aa 123 [(21, .int .u8 (((cb m.present 1 : Nat) : Int) % 256)), (24, .int .u8 (m.code % 256))] := Has.of hI.sz hI.df ⟨u_21, u_24, trivial⟩
      obtain ⟨hby, hb⟩ := bytes_lit ww [UInt8.ofNat (cb m.present 1), UInt8.ofNat m.code.toNat] [.int .u8 (((cb m.present 1 : Nat) : Int) % 256), .int .u8 (m.code % 256)] (by rw [byte_of_int _ (by omega), byte_of_int _ hc0]; rfl) 5 2 rfl
      refine wpOp_go ho gz 25 rfl (.slice (some ⟨ww.heap.size, 0, none⟩) 2 2) (ww.alloc (.cells ([.int .u8 (((cb m.present 1 : Nat) : Int) % 256), .int .u8 (m.code % 256)] : List Value).toArray 5)) (run_any HH (by intro cs b h; cases h) (by kernel_rfl) (by kernel_rfl)) ?_
      exact hI.ph hls 7 rfl (.slice (some ⟨ww.heap.size, 0, none⟩) 2 2) hby (hI.wp.call hb) ⟨fun h => absurd rfl h, fun _ _ _ _ _ h => h.below hb, trivial⟩
    · obtain rfl := pick_op ho rfl
      have r_25 := hI.vs _ (ma 7 rfl) (.inr (ran_of hd 7 (by kernel_rfl))) trivial
      have HH : Has aa 123 [(25, aa.eval (.tmp 25))] := Has.of hI.sz hI.df ⟨rfl, trivial⟩
      refine wpOp_go ho gz 3 rfl (aa.eval (.tmp 25)) ww (run_move (.inr rfl) (HH.ev rfl)) ?_
      exact hI.ph hls 9 rfl (aa.eval (.tmp 25)) r_25 hI.wp AllC.same
    · exact False.elim hh
  · intro listed a11 w2 hall hI
    have r_2 := hI.vs _ (ma 8 rfl) (.inr (hall 8 (by decide))) trivial
    have r_3 := hI.vs _ (ma 9 rfl) (.inr (hall 9 (by decide))) trivial
    have H11 : Has a11 123 [(1, .pointer (some ⟨w.heap.size, 0, none⟩)), (2, .int .i64 0), (3, a11.eval (.tmp 3))] := Has.of hI.sz hI.df ⟨hI.fx.1, r_2, rfl, trivial⟩
    have HB2 := hI.wp
    have R3_2 : BytesAre [UInt8.ofNat (cb m.present 1), UInt8.ofNat m.code.toNat] (a11.eval (.tmp 3)) w2 := r_3
    refine then_normal ?_
    refine wp_ret ?_
    repeat (first | (with_reducible refine block_ret ?_) | (with_reducible refine then_ret ?_))
    refine bodyPost_ret (results_pair rfl _ _ _ (H11.at_ 2 _ rfl) (H11.at_ 3 _ rfl)) H11.df ?_
    refine bodied_of (by unfold flagsBy; simp [hk]) ?_ R3_2 HB2
    unfold bodyBy; simp [hk]

set_option maxRecDepth 100000 in
set_option maxHeartbeats 3200000 in
theorem body_3 (m : Mq) (vc vw vf : Value) (w : World) (hk : m.kind = 3) (ht : m.topic.size ≤ 65535) (hp : m.payload.size ≤ 65535) (hq0 : 0 ≤ m.qos) (hq2 : m.qos ≤ 2) (hi0 : 0 ≤ m.id) (hi1 : m.id ≤ 65535) :
    Calls Tryd.prog 74 #[.agg (mqCells m vc vw vf).toArray] w (Bodied m w) := by
  have b1 : (m.kind == 1) = false := kind_ne hk rfl
  have b2 : (m.kind == 2) = false := kind_ne hk rfl
  have b3 : (m.kind == 3) = true := kind_eq hk
  go_enter Tryd.func74, Tryd.ntmps74
  refine Has.start 123 [(0, .agg (mqCells m vc vw vf).toArray)] rfl rfl ⟨rfl, trivial⟩ ?_
  intro a0 H0
  have O0 := Own.start w
  refine rl ?_
  refine H0.bx O0 2 fun a3 w1 O1 H3 => nt ?_
  have HB1 := Base.of O1
  obtain ⟨b0, hb0⟩ : ∃ b0, b0 = w1.heap.size := ⟨_, rfl⟩
  rw [← hb0] at HB1
  have hb0' := hb0
  clear hb0
  refine H3.rg 1 fun a4 H4 => ?_
  refine H4.ld 0 (HB1.own.li 0 0) fun a5 H5 => nt ?_
  have H6 := H5.keep (l' := [(1, .pointer (some ⟨w.heap.size, 0, none⟩)), (2, .int .i64 0), (3, .slice none 0 0), (11, .int .i64 m.kind)]) ⟨rfl, rfl, rfl, rfl, trivial⟩
  repeat (refine wp_seq ?_)
  refine wp_block ?_
  refine rl ?_
  refine H6.bn 1 (eql_iB _ _ _ b1 _ _ _) fun a8 H8 => nt ?_
  refine H8.condF rfl ?_
  refine rl ?_
  refine H8.bn 1 (eql_iB _ _ _ b2 _ _ _) fun a10 H10 => nt ?_
  refine H10.condF rfl ?_
  refine rl ?_
  refine H10.bn 1 (eql_iB _ _ _ b3 _ _ _) fun a12 H12 => nt ?_
  refine H12.condT rfl ?_
  refine wp_seq_join (fun a w' => ∃ v, Has a 123 [(1, .pointer (some ⟨w.heap.size, 0, none⟩)), (3, v)] ∧ RowIs b0 (([] ++ strB m.topic) ++ (if 0 < m.qos then big 2 m.id.toNat else [])) v w' ∧ Base w b0 [(w.heap.size, (mqCells m vc vw vf))] w') ?_ ?_
  · skip
    refine H12.rg 1 fun a13 H13 => ?_
    refine H13.ld 0 (HB1.own.ls 0 19) fun a14 H14 => ?_
    refine H14.cl (rowText b0 [] _ m.topic ht _ (RowIs.nil _ _) HB1.bw (by simp)) ?_
    rintro a15 v30 w2 ⟨R30, hb⟩ H15
    have HB2 := HB1.step hb
    clear hb
    refine H15.ms 1 fun a16 H16 => nt ?_
    by_cases hq : 0 < m.qos
    · skip
      refine H16.rg 1 fun a17 H17 => ?_
      refine H17.ld 0 (HB2.own.li 0 17) fun a18 H18 => ?_
      refine H18.bb 0 rfl rfl rfl rfl rfl rfl (gtr_i _ _ true (by simpa using hq) _ _ _) rfl fun a19 H19 => nt ?_
      refine H19.condT rfl ?_
      refine H19.rg 2 fun a21 H21 => ?_
      refine H21.ld 0 (HB2.own.li 0 20) fun a22 H22 => ?_
      refine H22.cl (rowTwo b0 ([] ++ strB m.topic) _ m.id hi0 hi1 _ R30 HB2.bw (by simp only [List.length_append, strB_length, List.length_nil]; omega)) ?_
      rintro a23 v37 w3 ⟨R37, hb⟩ H23
      have HB3 := HB2.step hb
      clear hb
      refine H23.ms 1 fun a24 H24 => nt ?_
      exact ⟨_, H24.keep ⟨rfl, rfl, trivial⟩, (by rw [if_pos hq]; exact R37), HB3⟩
    · skip
      refine H16.rg 1 fun a17 H17 => ?_
      refine H17.ld 0 (HB2.own.li 0 17) fun a18 H18 => ?_
      refine H18.bb 0 rfl rfl rfl rfl rfl rfl (gtr_i _ _ false (by simpa using hq) _ _ _) rfl fun a19 H19 => nt ?_
      refine H19.condF rfl ?_
      refine skip_wp ?_
      refine then_normal ?_
      exact ⟨_, H19.keep ⟨rfl, rfl, trivial⟩, (by rw [if_neg hq, List.append_nil]; exact R30), HB2⟩
  · rintro a46 w12 ⟨v3, H46, R3, HB12⟩
    have hl1 : (if 0 < m.qos then big 2 m.id.toNat else []).length ≤ 2 := by split <;> simp [big_length]
    have g1 : cb m.dup 8 < 256 := cb_lt _ _ (by decide)
    have g2 : 2 * m.qos.toNat < 256 := by omega
    have g3 : (cb m.dup 8 ||| 2 * m.qos.toNat) < 256 := or_lt8 g1 g2
    have g4 : cb m.retain 1 < 256 := cb_lt _ _ (by decide)
    have gf : ((cb m.dup 8 ||| 2 * m.qos.toNat) ||| cb m.retain 1) = cb m.dup 8 + 2 * m.qos.toNat + cb m.retain 1 := pub_or _ _ _ (by omega)
    refine H46.dr HB12 [1] rfl [ec 0 38 (.pointer (some ⟨w.heap.size, 16, none⟩)), ec 1 39 (.bool m.dup), ec 2 40 (.int .i64 ((cb m.dup 8 : Nat) : Int)), ec 3 41 (.pointer (some ⟨w.heap.size, 17, none⟩)), ec 4 42 (.int .i64 m.qos), ec 5 43 (.int .i64 ((2 * m.qos.toNat : Nat) : Int)), ec 6 44 (.int .i64 (((cb m.dup 8 ||| 2 * m.qos.toNat) : Nat) : Int)), ec 7 45 (.pointer (some ⟨w.heap.size, 18, none⟩)), ec 8 46 (.bool m.retain), ec 9 47 (.int .i64 ((cb m.retain 1 : Nat) : Int)), ec 10 48 (.int .i64 ((((cb m.dup 8 ||| 2 * m.qos.toNat) ||| cb m.retain 1) : Nat) : Int)), er 11 49 [14] (fun v w => RowIs b0 (([] ++ strB m.topic) ++ (if 0 < m.qos then big 2 m.id.toNat else [])) v w), ec 12 50 (.pointer (some ⟨w.heap.size, 21, none⟩)), ec 13 51 (.string m.payload), er 14 52 [] (fun v w => RowIs b0 ((([] ++ strB m.topic) ++ (if 0 < m.qos then big 2 m.id.toNat else [])) ++ sb m.payload) v w), ec 15 2 (.int .i64 ((((cb m.dup 8 ||| 2 * m.qos.toNat) ||| cb m.retain 1) : Nat) : Int)), er 16 3 [] (fun v w => RowIs b0 ((([] ++ strB m.topic) ++ (if 0 < m.qos then big 2 m.id.toNat else [])) ++ sb m.payload) v w), er 1000 3 [14, 16] (fun v w => RowIs b0 (([] ++ strB m.topic) ++ (if 0 < m.qos then big 2 m.id.toNat else [])) v w)] rfl ⟨jm, (jl fun _ h => h.own.lb 0 16), (jq fun ww _ => (packBitN m.dup 8 8 rfl ww)), jm, (jl fun _ h => h.own.li 0 17), (jb fun _ => (mul2 _ hq0 hq2 _ _ _)), (jb fun _ => (or_i _ _ (lt8 g1) (lt8 g2) _ _ _)), jm, (jl fun _ h => h.own.lb 0 18), (jq fun ww _ => (packBitN m.retain 1 1 rfl ww)), (jb fun _ => (or_i _ _ (lt8 g3) (lt8 g4) _ _ _)), jm, (jl fun _ h => h.own.ls 0 21), jm, trivial⟩ ⟨(by rw [H46.at_ 3 _ rfl]; exact R3.drew), trivial⟩ ?_ ?_
    · intro listed aa ww i o hs hni hcl ho hd hI hh
      have hls : listed.size = 17 := hs
      rcases hh with rfl | rfl | rfl | hh
      · obtain rfl := pick_op ho rfl
        have r_3 := hI.vs _ (ma 17 rfl) (.inl (by rw [hls]; show 17 ≤ 1000; decide)) ⟨(Bool.eq_false_iff.2 fun h => absurd (hni.symm.trans (ran_of (hcl 14 _ rfl h) 11 (by kernel_rfl))) (by decide)), (Bool.eq_false_iff.2 fun h => absurd (hni.symm.trans (ran_of (hcl 14 _ rfl (ran_of (hcl 16 _ rfl h) 14 (by kernel_rfl))) 11 (by kernel_rfl))) (by decide)), trivial⟩
        have HH : Has aa 123 [(3, aa.eval (.tmp 3))] := Has.of hI.sz hI.df ⟨rfl, trivial⟩
        refine wpOp_go ho gz 49 rfl (aa.eval (.tmp 3)) ww (run_move (.inl rfl) (HH.ev rfl)) ?_
        exact hI.ph hls 11 rfl (aa.eval (.tmp 3)) r_3 hI.wp AllC.same
      · obtain rfl := pick_op ho rfl
        have r_49 := hI.vs _ (ma 11 rfl) (.inr (ran_of hd 11 (by kernel_rfl))) ⟨hni, trivial⟩
        have r_51 := hI.vs _ (ma 13 rfl) (.inr (ran_of hd 13 (by kernel_rfl))) trivial
        have u_51 : aa.eval (.tmp 51) = .string m.payload := r_51
        have HH : Has aa 123 [(49, aa.eval (.tmp 49)), (51, .string m.payload)] := Has.of hI.sz hI.df ⟨rfl, u_51, trivial⟩
        obtain ⟨v', w', hrun, hrow, hb0, hg⟩ := run_append_strR (P := Tryd.prog) (a := aa) (w := ww) Tryd.underlying31 Tryd.underlying9 info_u8 (o := ⟨some 52, _, _, _, _, none⟩) rfl rfl u_51 r_49 (by simp only [List.length_append, strB_length, List.length_nil]; omega) hI.wp.bw
        refine wpOp_go ho gz 52 rfl v' w' hrun ?_
        exact hI.ph hls 14 rfl (v') hrow (hI.wp.step hb0) ⟨fun _ h => absurd (by show 14 ∈ ([14] : List Nat); decide) h, fun h => absurd rfl h, fun _ _ h => absurd (hni.symm.trans (ran_of (hcl 16 _ rfl (h.resolve_left (by rw [hls]; show ¬ 17 ≤ 16; decide))) 14 (by kernel_rfl))) (by decide), fun _ h => absurd (by show 14 ∈ ([14, 16] : List Nat); decide) h, trivial⟩
      · obtain rfl := pick_op ho rfl
        have r_52 := hI.vs _ (ma 14 rfl) (.inr (ran_of hd 14 (by kernel_rfl))) trivial
        have HH : Has aa 123 [(52, aa.eval (.tmp 52))] := Has.of hI.sz hI.df ⟨rfl, trivial⟩
        refine wpOp_go ho gz 3 rfl (aa.eval (.tmp 52)) ww (run_move (.inr rfl) (HH.ev rfl)) ?_
        exact hI.ph hls 16 rfl (aa.eval (.tmp 52)) r_52 hI.wp AllC.same
      · exact False.elim hh
    · intro listed a47 w13 hall hI
      have r_2 := hI.vs _ (ma 15 rfl) (.inr (hall 15 (by decide))) trivial
      have r_3 := hI.vs _ (ma 16 rfl) (.inr (hall 16 (by decide))) trivial
      have H47 : Has a47 123 [(1, .pointer (some ⟨w.heap.size, 0, none⟩)), (2, .int .i64 ((((cb m.dup 8 ||| 2 * m.qos.toNat) ||| cb m.retain 1) : Nat) : Int)), (3, a47.eval (.tmp 3))] := Has.of hI.sz hI.df ⟨hI.fx.1, r_2, rfl, trivial⟩
      have HB13 := hI.wp
      have R3_13 : RowIs b0 ((([] ++ strB m.topic) ++ (if 0 < m.qos then big 2 m.id.toNat else [])) ++ sb m.payload) (a47.eval (.tmp 3)) w13 := r_3
      refine then_normal ?_
      refine wp_ret ?_
      repeat (first | (with_reducible refine block_ret ?_) | (with_reducible refine then_ret ?_))
      refine bodyPost_ret (results_pair rfl _ _ _ (H47.at_ 2 _ rfl) (H47.at_ 3 _ rfl)) H47.df ?_
      refine bodied_of (by rw [gf]; unfold flagsBy; rw [if_pos hk]) ?_ R3_13.read HB13
      unfold bodyBy; rw [if_neg (by rw [hk]; decide), if_neg (by rw [hk]; decide), if_pos hk]; rfl

set_option maxRecDepth 100000 in
set_option maxHeartbeats 3200000 in
theorem body_i (m : Mq) (vc vw vf : Value) (w : World) (b1 : (m.kind == 1) = false) (b2 : (m.kind == 2) = false) (b3 : (m.kind == 3) = false) (b8 : (m.kind == 8) = false) (b9 : (m.kind == 9) = false) (b10 : (m.kind == 10) = false) (b12 : (m.kind == 12) = false) (b13 : (m.kind == 13) = false) (b14 : (m.kind == 14) = false) (kb : Bool) (bk : (m.kind == 6) = kb) (hi0 : 0 ≤ m.id) (hi1 : m.id ≤ 65535) :
    Calls Tryd.prog 74 #[.agg (mqCells m vc vw vf).toArray] w (Bodied m w) := by
  go_enter Tryd.func74, Tryd.ntmps74
  refine Has.start 123 [(0, .agg (mqCells m vc vw vf).toArray)] rfl rfl ⟨rfl, trivial⟩ ?_
  intro a0 H0
  have O0 := Own.start w
  refine rl ?_
  refine H0.bx O0 2 fun a3 w1 O1 H3 => nt ?_
  have HB1 := Base.of O1
  obtain ⟨b0, hb0⟩ : ∃ b0, b0 = w1.heap.size := ⟨_, rfl⟩
  rw [← hb0] at HB1
  have hb0' := hb0
  clear hb0
  refine H3.rg 1 fun a4 H4 => ?_
  refine H4.ld 0 (HB1.own.li 0 0) fun a5 H5 => nt ?_
  have H6 := H5.keep (l' := [(1, .pointer (some ⟨w.heap.size, 0, none⟩)), (2, .int .i64 0), (3, .slice none 0 0), (11, .int .i64 m.kind)]) ⟨rfl, rfl, rfl, rfl, trivial⟩
  repeat (refine wp_seq ?_)
  refine wp_block ?_
  refine rl ?_
  refine H6.bn 1 (eql_iB _ _ _ b1 _ _ _) fun a8 H8 => nt ?_
  refine H8.condF rfl ?_
  refine rl ?_
  refine H8.bn 1 (eql_iB _ _ _ b2 _ _ _) fun a10 H10 => nt ?_
  refine H10.condF rfl ?_
  refine rl ?_
  refine H10.bn 1 (eql_iB _ _ _ b3 _ _ _) fun a12 H12 => nt ?_
  refine H12.condF rfl ?_
  refine rl ?_
  refine H12.bn 1 (eql_iB _ _ _ b8 _ _ _) fun a14 H14 => nt ?_
  refine H14.condF rfl ?_
  refine rl ?_
  refine H14.bn 1 (eql_iB _ _ _ b9 _ _ _) fun a16 H16 => nt ?_
  refine H16.condF rfl ?_
  refine rl ?_
  refine H16.bn 1 (eql_iB _ _ _ b10 _ _ _) fun a18 H18 => nt ?_
  refine H18.condF rfl ?_
  repeat (refine wp_seq ?_)
  refine rl ?_
  refine H18.bn 1 (eql_iB _ _ _ b12 _ _ _) fun a20 H20 => nt ?_
  refine H20.condF rfl ?_
  refine rl ?_
  refine H20.bn 1 (eql_iB _ _ _ b13 _ _ _) fun a22 H22 => nt ?_
  refine H22.condF rfl ?_
  refine rl ?_
  refine H22.bn 1 (eql_iB _ _ _ b14 _ _ _) fun a24 H24 => nt ?_
  refine H24.condF rfl ?_
  refine skip_wp ?_
  refine block_normal ?_
  refine then_normal ?_
  refine H24.dr HB1 [1] rfl [ec 0 116 (.pointer (some ⟨w.heap.size, 0, none⟩)), ec 1 117 (.int .i64 m.kind), ec 2 118 (.bool kb), ec 3 119 (.int .i64 ((cb kb 2 : Nat) : Int)), ec 4 120 (.pointer (some ⟨w.heap.size, 20, none⟩)), ec 5 121 (.int .i64 m.id), er 6 122 [] (fun v w => RowIs b0 ([] ++ big 2 m.id.toNat) v w), ec 7 2 (.int .i64 ((cb kb 2 : Nat) : Int)), er 8 3 [] (fun v w => RowIs b0 ([] ++ big 2 m.id.toNat) v w)] rfl ⟨jm, (jl fun _ h => h.own.li 0 0), (jb fun _ => (eql_iB _ _ _ bk _ _ _)), (jq fun ww _ => (packBitN kb 2 2 rfl ww)), jm, (jl fun _ h => h.own.li 0 20), jm, trivial⟩ trivial ?_ ?_
  · intro listed aa ww i o hs hni hcl ho hd hI hh
    have hls : listed.size = 9 := hs
    rcases hh with rfl | rfl | hh
    · obtain rfl := pick_op ho rfl
      have r_121 := hI.vs _ (ma 5 rfl) (.inr (ran_of hd 5 (by kernel_rfl))) trivial
      have u_121 : aa.eval (.tmp 121) = .int .i64 m.id := r_121
      have HH : Has aa 123 [(121, .int .i64 m.id)] := Has.of hI.sz hI.df ⟨u_121, trivial⟩
      refine wpOp_enter ho gz 122 rfl 100 _ (run_callH HH rfl rfl (fun _ _ => by kernel_rfl)) _ (rowTwo ww.heap.size [] (.slice none 0 0) m.id hi0 hi1 ww (RowIs.nil _ _) (Nat.le_refl _) (by simp)) ?_
      rintro v' w' ⟨hrow, hb⟩
      exact hI.ph hls 6 rfl (v') (hrow.base hI.wp.bw) (hI.wp.call hb) ⟨fun h => absurd rfl h, fun _ _ _ _ _ h => h.below hb, trivial⟩
    · obtain rfl := pick_op ho rfl
      have r_122 := hI.vs _ (ma 6 rfl) (.inr (ran_of hd 6 (by kernel_rfl))) trivial
      have HH : Has aa 123 [(122, aa.eval (.tmp 122))] := Has.of hI.sz hI.df ⟨rfl, trivial⟩
      refine wpOp_go ho gz 3 rfl (aa.eval (.tmp 122)) ww (run_move (.inr rfl) (HH.ev rfl)) ?_
      exact hI.ph hls 8 rfl (aa.eval (.tmp 122)) r_122 hI.wp AllC.same
    · exact False.elim hh
  · intro listed a25 w2 hall hI
    have r_2 := hI.vs _ (ma 7 rfl) (.inr (hall 7 (by decide))) trivial
    have r_3 := hI.vs _ (ma 8 rfl) (.inr (hall 8 (by decide))) trivial
    have H25 : Has a25 123 [(1, .pointer (some ⟨w.heap.size, 0, none⟩)), (2, .int .i64 ((cb kb 2 : Nat) : Int)), (3, a25.eval (.tmp 3))] := Has.of hI.sz hI.df ⟨hI.fx.1, r_2, rfl, trivial⟩
    have HB2 := hI.wp
    have R3_2 : RowIs b0 ([] ++ big 2 m.id.toNat) (a25.eval (.tmp 3)) w2 := r_3
    refine then_normal ?_
    refine wp_ret ?_
    repeat (first | (with_reducible refine block_ret ?_) | (with_reducible refine then_ret ?_))
    refine bodyPost_ret (results_pair rfl _ _ _ (H25.at_ 2 _ rfl) (H25.at_ 3 _ rfl)) H25.df ?_
    refine bodied_of (by simp only [beq_eq_false_iff_ne] at b3 b8 b10; unfold flagsBy; subst bk; simp [b3, b8, b10, cb]) ?_ R3_2.read HB2
    simp only [beq_eq_false_iff_ne] at b1 b2 b3 b8 b9 b10 b12 b13 b14; unfold bodyBy; simp [b1, b2, b3, b8, b9, b10, b12, b13, b14, bareKind]

set_option maxRecDepth 100000 in
set_option maxHeartbeats 3200000 in
theorem body_9 (m : Mq) (vw vf : Value) (w : World) (hk : m.kind = 9) (hi0 : 0 ≤ m.id) (hi1 : m.id ≤ 65535) (A : Option Addr) (c : Nat) (hr : Reads w w.heap.size 1 A m.codes.length (m.codes.map iv)) (hw : codesAll m.codes = true) (hl : m.codes.length ≤ 8) :
    Calls Tryd.prog 74 #[.agg (mqCells m (.slice A m.codes.length c) vw vf).toArray] w (Bodied m w) := by
  have b1 : (m.kind == 1) = false := kind_ne hk rfl
  have b2 : (m.kind == 2) = false := kind_ne hk rfl
  have b3 : (m.kind == 3) = false := kind_ne hk rfl
  have b8 : (m.kind == 8) = false := kind_ne hk rfl
  have b9 : (m.kind == 9) = true := kind_eq hk
  go_enter Tryd.func74, Tryd.ntmps74
  refine Has.start 123 [(0, .agg (mqCells m (.slice A m.codes.length c) vw vf).toArray)] rfl rfl ⟨rfl, trivial⟩ ?_
  intro a0 H0
  have O0 := Own.start w
  refine rl ?_
  refine H0.bx O0 2 fun a3 w1 O1 H3 => nt ?_
  have HB1 := Base.of O1
  obtain ⟨b0, hb0⟩ : ∃ b0, b0 = w1.heap.size := ⟨_, rfl⟩
  rw [← hb0] at HB1
  have hb0' := hb0
  clear hb0
  refine H3.rg 1 fun a4 H4 => ?_
  refine H4.ld 0 (HB1.own.li 0 0) fun a5 H5 => nt ?_
  have H6 := H5.keep (l' := [(1, .pointer (some ⟨w.heap.size, 0, none⟩)), (2, .int .i64 0), (3, .slice none 0 0), (11, .int .i64 m.kind)]) ⟨rfl, rfl, rfl, rfl, trivial⟩
  repeat (refine wp_seq ?_)
  refine wp_block ?_
  refine rl ?_
  refine H6.bn 1 (eql_iB _ _ _ b1 _ _ _) fun a8 H8 => nt ?_
  refine H8.condF rfl ?_
  refine rl ?_
  refine H8.bn 1 (eql_iB _ _ _ b2 _ _ _) fun a10 H10 => nt ?_
  refine H10.condF rfl ?_
  refine rl ?_
  refine H10.bn 1 (eql_iB _ _ _ b3 _ _ _) fun a12 H12 => nt ?_
  refine H12.condF rfl ?_
  refine rl ?_
  refine H12.bn 1 (eql_iB _ _ _ b8 _ _ _) fun a14 H14 => nt ?_
  refine H14.condF rfl ?_
  refine rl ?_
  refine H14.bn 1 (eql_iB _ _ _ b9 _ _ _) fun a16 H16 => nt ?_
  refine H16.condT rfl ?_
  refine H16.rg 1 fun a17 H17 => ?_
  refine H17.ld 0 (HB1.own.li 0 20) fun a18 H18 => ?_
  refine H18.cl (rowTwo b0 [] _ m.id hi0 hi1 _ (RowIs.nil _ _) HB1.bw (by simp)) ?_
  rintro a19 v80 w2 ⟨R80, hb⟩ H19
  have HB2 := HB1.step hb
  clear hb
  refine H19.ms 1 fun a20 H20 => nt ?_
  refine H20.rg 1 fun a21 H21 => ?_
  refine H21.ld 0 (HB2.own.l6 0 15) fun a22 H22 => ?_
  refine H22.len gz rfl rfl rfl rfl Tryd.underlying26 ?_
  intro a23 H23
  refine H23.ms 1 fun a24 H24 => nt ?_
  repeat (refine wp_seq ?_)
  refine wp_block ?_
  refine wp_loop_up m.codes.length (fun k a w' => ∃ v, Has a 123 [(1, .pointer (some ⟨w.heap.size, 0, none⟩)), (3, v), (82, .slice A m.codes.length c), (83, .int .i64 (m.codes.length : Int)), (84, .int .i64 (k : Int))] ∧ RowIs b0 (([] ++ big 2 m.id.toNat) ++ codesBy (m.codes.take k)) v w' ∧ Base w b0 [(w.heap.size, (mqCells m (.slice A m.codes.length c) vw vf))] w') ?_ ?_
  · exact ⟨_, H24.keep ⟨rfl, rfl, rfl, rfl, rfl, trivial⟩, (by rw [List.take_zero]; simpa [codesBy] using R80), HB2⟩
  · rintro k a25 w3 hkn ⟨v3, H25, R3, HB3⟩
    have hlb : (codesBy (m.codes.take k)).length ≤ 1000 := by
      rw [codesBy_le, List.length_take]; omega
    by_cases hlt : k < m.codes.length
    · skip
      obtain ⟨gb, go, x, rfl, hgb, hx, hcell⟩ := Reads.int (hr.below HB3.own.bel) rfl hlt
      obtain ⟨hx0, hx1⟩ := codesAll_get hw hx
      refine rl ?_
      refine H25.bb 0 rfl rfl rfl rfl rfl rfl (lss_i _ _ true (by simp; omega) _ _ _) rfl fun a26 H26 => nt ?_
      repeat (refine wp_seq ?_)
      refine H26.condT rfl ?_
      refine skip_wp ?_
      refine then_normal ?_
      repeat (refine wp_seq ?_)
      refine wp_block ?_
      refine rl ?_
      refine H26.index gz rfl rfl rfl rfl rfl (index_1 26 Tryd.underlying26 (fun _ => by kernel_rfl) _ _ _ _ _ hlt _) ?_
      intro a27 H27
      refine H27.ld 1 (load1_i _ _ _ _ hcell) fun a29 H29 => nt ?_
      refine H29.rg 2 fun a31 H31 => ?_
      refine H31.cv 0 (conv_u8 _ _) fun a32 H32 => ?_
      refine H32.bytes gz rfl rfl [UInt8.ofNat x.toNat] [.int .u8 (x % 256)] (by rw [byte_of_int _ hx0]; rfl) (k := 1) rfl 5 (by intro cs b h; cases h) (by kernel_rfl) (by kernel_rfl) ?_
      intro a33 v91 w4 H33 B91 hb
      have HB4 := HB3.call hb
      have R3 := R3.below hb
      clear hb
      refine H33.appendRow Tryd.underlying31 info_u8 gz rfl rfl rfl rfl rfl R3 B91 (by simp only [List.length_append, big_length, List.length_cons, List.length_nil]; omega) HB4.bw ?_
      intro a34 v92 w5 H34 R92 hb _
      have HB5 := HB4.step hb
      clear hb
      refine H34.ms 1 fun a35 H35 => ?_
      refine wpList_nil ?_
      refine block_normal ?_
      refine then_normal ?_
      refine rl ?_
      refine H35.bb 1 rfl rfl rfl rfl rfl rfl (succ_i _ (by omega) _ _ _) rfl fun a37 H37 => nt ?_
      exact ⟨hlt, _, H37.keep ⟨rfl, rfl, rfl, rfl, rfl, trivial⟩, (by rw [take_snoc? _ _ _ hx, codesBy_app, ← List.append_assoc]; exact R92), HB5⟩
    · skip
      obtain rfl : k = m.codes.length := by omega
      refine rl ?_
      refine H25.bb 0 rfl rfl rfl rfl rfl rfl (lss_i _ _ false (by simp) _ _ _) rfl fun a26 H26 => nt ?_
      repeat (refine wp_seq ?_)
      refine H26.condF rfl ?_
      refine wp_exit ?_
      repeat (with_reducible refine then_exit ?_)
      refine block_leave ?_
      refine then_normal ?_
      refine H26.rg 3 fun a29 H29 => nt ?_
      rw [List.take_length] at R3
      refine wp_ret ?_
      repeat (first | (with_reducible refine block_ret ?_) | (with_reducible refine then_ret ?_))
      refine bodyPost_ret (results_pair rfl _ _ _ (H29.at_ 2 _ rfl) (H29.at_ 3 _ rfl)) H29.df ?_
      refine bodied_of (by unfold flagsBy; simp [hk]) ?_ R3.read HB3
      unfold bodyBy; simp [hk]

set_option maxRecDepth 100000 in
set_option maxHeartbeats 3200000 in
theorem body_10 (m : Mq) (vc vw : Value) (w : World) (hk : m.kind = 10) (hi0 : 0 ≤ m.id) (hi1 : m.id ≤ 65535) (A : Option Addr) (c : Nat) (hr : Reads w w.heap.size 1 A m.filters.length (m.filters.map sv)) (hw : filtersAll m.filters = true) (hl : m.filters.length ≤ 8) :
    Calls Tryd.prog 74 #[.agg (mqCells m vc vw (.slice A m.filters.length c)).toArray] w (Bodied m w) := by
  have b1 : (m.kind == 1) = false := kind_ne hk rfl
  have b2 : (m.kind == 2) = false := kind_ne hk rfl
  have b3 : (m.kind == 3) = false := kind_ne hk rfl
  have b8 : (m.kind == 8) = false := kind_ne hk rfl
  have b9 : (m.kind == 9) = false := kind_ne hk rfl
  have b10 : (m.kind == 10) = true := kind_eq hk
  go_enter Tryd.func74, Tryd.ntmps74
  refine Has.start 123 [(0, .agg (mqCells m vc vw (.slice A m.filters.length c)).toArray)] rfl rfl ⟨rfl, trivial⟩ ?_
  intro a0 H0
  have O0 := Own.start w
  refine rl ?_
  refine H0.bx O0 2 fun a3 w1 O1 H3 => nt ?_
  have HB1 := Base.of O1
  obtain ⟨b0, hb0⟩ : ∃ b0, b0 = w1.heap.size := ⟨_, rfl⟩
  rw [← hb0] at HB1
  have hb0' := hb0
  clear hb0
  refine H3.rg 1 fun a4 H4 => ?_
  refine H4.ld 0 (HB1.own.li 0 0) fun a5 H5 => nt ?_
  have H6 := H5.keep (l' := [(1, .pointer (some ⟨w.heap.size, 0, none⟩)), (2, .int .i64 0), (3, .slice none 0 0), (11, .int .i64 m.kind)]) ⟨rfl, rfl, rfl, rfl, trivial⟩
  repeat (refine wp_seq ?_)
  refine wp_block ?_
  refine rl ?_
  refine H6.bn 1 (eql_iB _ _ _ b1 _ _ _) fun a8 H8 => nt ?_
  refine H8.condF rfl ?_
  refine rl ?_
  refine H8.bn 1 (eql_iB _ _ _ b2 _ _ _) fun a10 H10 => nt ?_
  refine H10.condF rfl ?_
  refine rl ?_
  refine H10.bn 1 (eql_iB _ _ _ b3 _ _ _) fun a12 H12 => nt ?_
  refine H12.condF rfl ?_
  refine rl ?_
  refine H12.bn 1 (eql_iB _ _ _ b8 _ _ _) fun a14 H14 => nt ?_
  refine H14.condF rfl ?_
  refine rl ?_
  refine H14.bn 1 (eql_iB _ _ _ b9 _ _ _) fun a16 H16 => nt ?_
  refine H16.condF rfl ?_
  refine rl ?_
  refine H16.bn 1 (eql_iB _ _ _ b10 _ _ _) fun a18 H18 => nt ?_
  refine H18.condT rfl ?_
  refine H18.rg 1 fun a19 H19 => ?_
  refine H19.ld 0 (HB1.own.li 0 20) fun a20 H20 => ?_
  refine H20.cl (rowTwo b0 [] _ m.id hi0 hi1 _ (RowIs.nil _ _) HB1.bw (by simp)) ?_
  rintro a21 v99 w2 ⟨R99, hb⟩ H21
  have HB2 := HB1.step hb
  clear hb
  refine H21.ms 1 fun a22 H22 => nt ?_
  refine H22.rg 1 fun a23 H23 => ?_
  refine H23.ld 0 (HB2.own.l8 0 23) fun a24 H24 => ?_
  refine H24.len gz rfl rfl rfl rfl Tryd.underlying28 ?_
  intro a25 H25
  refine H25.ms 1 fun a26 H26 => nt ?_
  repeat (refine wp_seq ?_)
  refine wp_block ?_
  refine wp_loop_up m.filters.length (fun k a w' => ∃ v, Has a 123 [(1, .pointer (some ⟨w.heap.size, 0, none⟩)), (3, v), (101, .slice A m.filters.length c), (102, .int .i64 (m.filters.length : Int)), (103, .int .i64 (k : Int))] ∧ RowIs b0 (([] ++ big 2 m.id.toNat) ++ filtersBy (m.filters.take k)) v w' ∧ Base w b0 [(w.heap.size, (mqCells m vc vw (.slice A m.filters.length c)))] w') ?_ ?_
  · exact ⟨_, H26.keep ⟨rfl, rfl, rfl, rfl, rfl, trivial⟩, (by rw [List.take_zero]; simpa [filtersBy] using R99), HB2⟩
  · rintro k a27 w3 hkn ⟨v3, H27, R3, HB3⟩
    have hlb : (filtersBy (m.filters.take k)).length ≤ 1000 := by
      have := filtersBy_le _ (filtersAll_take k hw); rw [List.length_take] at this; omega
    by_cases hlt : k < m.filters.length
    · skip
      obtain ⟨gb, go, x, rfl, hgb, hx, hcell⟩ := Reads.str (hr.below HB3.own.bel) rfl hlt
      have hxs := filtersAll_get hw hx
      refine rl ?_
      refine H27.bb 0 rfl rfl rfl rfl rfl rfl (lss_i _ _ true (by simp; omega) _ _ _) rfl fun a28 H28 => nt ?_
      repeat (refine wp_seq ?_)
      refine H28.condT rfl ?_
      refine skip_wp ?_
      refine then_normal ?_
      repeat (refine wp_seq ?_)
      refine wp_block ?_
      refine rl ?_
      refine H28.index gz rfl rfl rfl rfl rfl (index_1 28 Tryd.underlying28 (fun _ => by kernel_rfl) _ _ _ _ _ hlt _) ?_
      intro a29 H29
      refine H29.ld 1 (load1_s _ _ _ _ hcell) fun a31 H31 => nt ?_
      refine H31.rg 2 fun a33 H33 => ?_
      refine H33.cl (rowText b0 (([] ++ big 2 m.id.toNat) ++ filtersBy (m.filters.take k)) _ x (by omega) _ R3 HB3.bw (by simp only [List.length_append, big_length, List.length_nil]; omega)) ?_
      rintro a34 v109 w4 ⟨R109, hb⟩ H34
      have HB4 := HB3.step hb
      clear hb
      refine H34.ms 1 fun a35 H35 => ?_
      refine wpList_nil ?_
      refine block_normal ?_
      refine then_normal ?_
      refine rl ?_
      refine H35.bb 1 rfl rfl rfl rfl rfl rfl (succ_i _ (by omega) _ _ _) rfl fun a37 H37 => nt ?_
      exact ⟨hlt, _, H37.keep ⟨rfl, rfl, rfl, rfl, rfl, trivial⟩, (by rw [take_snoc? _ _ _ hx, filtersBy_app, ← List.append_assoc]; exact R109), HB4⟩
    · skip
      obtain rfl : k = m.filters.length := by omega
      refine rl ?_
      refine H27.bb 0 rfl rfl rfl rfl rfl rfl (lss_i _ _ false (by simp) _ _ _) rfl fun a28 H28 => nt ?_
      repeat (refine wp_seq ?_)
      refine H28.condF rfl ?_
      refine wp_exit ?_
      repeat (with_reducible refine then_exit ?_)
      refine block_leave ?_
      refine then_normal ?_
      refine H28.rg 3 fun a31 H31 => nt ?_
      rw [List.take_length] at R3
      refine wp_ret ?_
      repeat (first | (with_reducible refine block_ret ?_) | (with_reducible refine then_ret ?_))
      refine bodyPost_ret (results_pair rfl _ _ _ (H31.at_ 2 _ rfl) (H31.at_ 3 _ rfl)) H31.df ?_
      refine bodied_of (by unfold flagsBy; simp [hk]) ?_ R3.read HB3
      unfold bodyBy; simp [hk]

set_option maxRecDepth 100000 in
set_option maxHeartbeats 3200000 in
theorem body_12 (m : Mq) (vc vw vf : Value) (w : World) (hk : m.kind = 12)  :
    Calls Tryd.prog 74 #[.agg (mqCells m vc vw vf).toArray] w (Bodied m w) := by
  have b1 : (m.kind == 1) = false := kind_ne hk rfl
  have b2 : (m.kind == 2) = false := kind_ne hk rfl
  have b3 : (m.kind == 3) = false := kind_ne hk rfl
  have b8 : (m.kind == 8) = false := kind_ne hk rfl
  have b9 : (m.kind == 9) = false := kind_ne hk rfl
  have b10 : (m.kind == 10) = false := kind_ne hk rfl
  have b12 : (m.kind == 12) = true := kind_eq hk
  go_enter Tryd.func74, Tryd.ntmps74
  refine Has.start 123 [(0, .agg (mqCells m vc vw vf).toArray)] rfl rfl ⟨rfl, trivial⟩ ?_
  intro a0 H0
  have O0 := Own.start w
  refine rl ?_
  refine H0.bx O0 2 fun a3 w1 O1 H3 => nt ?_
  have HB1 := Base.of O1
  obtain ⟨b0, hb0⟩ : ∃ b0, b0 = w1.heap.size := ⟨_, rfl⟩
  rw [← hb0] at HB1
  have hb0' := hb0
  clear hb0
  refine H3.rg 1 fun a4 H4 => ?_
  refine H4.ld 0 (HB1.own.li 0 0) fun a5 H5 => nt ?_
  have H6 := H5.keep (l' := [(1, .pointer (some ⟨w.heap.size, 0, none⟩)), (2, .int .i64 0), (3, .slice none 0 0), (11, .int .i64 m.kind)]) ⟨rfl, rfl, rfl, rfl, trivial⟩
  repeat (refine wp_seq ?_)
  refine wp_block ?_
  refine rl ?_
  refine H6.bn 1 (eql_iB _ _ _ b1 _ _ _) fun a8 H8 => nt ?_
  refine H8.condF rfl ?_
  refine rl ?_
  refine H8.bn 1 (eql_iB _ _ _ b2 _ _ _) fun a10 H10 => nt ?_
  refine H10.condF rfl ?_
  refine rl ?_
  refine H10.bn 1 (eql_iB _ _ _ b3 _ _ _) fun a12 H12 => nt ?_
  refine H12.condF rfl ?_
  refine rl ?_
  refine H12.bn 1 (eql_iB _ _ _ b8 _ _ _) fun a14 H14 => nt ?_
  refine H14.condF rfl ?_
  refine rl ?_
  refine H14.bn 1 (eql_iB _ _ _ b9 _ _ _) fun a16 H16 => nt ?_
  refine H16.condF rfl ?_
  refine rl ?_
  refine H16.bn 1 (eql_iB _ _ _ b10 _ _ _) fun a18 H18 => nt ?_
  refine H18.condF rfl ?_
  repeat (refine wp_seq ?_)
  refine rl ?_
  refine H18.bn 1 (eql_iB _ _ _ b12 _ _ _) fun a20 H20 => nt ?_
  refine H20.condT rfl ?_
  refine skip_wp ?_
  refine then_normal ?_
  refine H20.condT rfl ?_
  refine H20.rg 2 fun a22 H22 => nt ?_
  refine wp_ret ?_
  repeat (first | (with_reducible refine block_ret ?_) | (with_reducible refine then_ret ?_))
  refine bodyPost_ret (results_pair rfl _ _ _ (H22.at_ 2 _ rfl) (H22.at_ 3 _ rfl)) H22.df ?_
  refine bodied_of (by unfold flagsBy; simp [hk]) ?_ (RowIs.nil b0 _).read HB1
  unfold bodyBy; simp [hk, bareKind]

set_option maxRecDepth 100000 in
set_option maxHeartbeats 3200000 in
theorem body_13 (m : Mq) (vc vw vf : Value) (w : World) (hk : m.kind = 13)  :
    Calls Tryd.prog 74 #[.agg (mqCells m vc vw vf).toArray] w (Bodied m w) := by
  have b1 : (m.kind == 1) = false := kind_ne hk rfl
  have b2 : (m.kind == 2) = false := kind_ne hk rfl
  have b3 : (m.kind == 3) = false := kind_ne hk rfl
  have b8 : (m.kind == 8) = false := kind_ne hk rfl
  have b9 : (m.kind == 9) = false := kind_ne hk rfl
  have b10 : (m.kind == 10) = false := kind_ne hk rfl
  have b12 : (m.kind == 12) = false := kind_ne hk rfl
  have b13 : (m.kind == 13) = true := kind_eq hk
  go_enter Tryd.func74, Tryd.ntmps74
  refine Has.start 123 [(0, .agg (mqCells m vc vw vf).toArray)] rfl rfl ⟨rfl, trivial⟩ ?_
  intro a0 H0
  have O0 := Own.start w
  refine rl ?_
  refine H0.bx O0 2 fun a3 w1 O1 H3 => nt ?_
  have HB1 := Base.of O1
  obtain ⟨b0, hb0⟩ : ∃ b0, b0 = w1.heap.size := ⟨_, rfl⟩
  rw [← hb0] at HB1
  have hb0' := hb0
  clear hb0
  refine H3.rg 1 fun a4 H4 => ?_
  refine H4.ld 0 (HB1.own.li 0 0) fun a5 H5 => nt ?_
  have H6 := H5.keep (l' := [(1, .pointer (some ⟨w.heap.size, 0, none⟩)), (2, .int .i64 0), (3, .slice none 0 0), (11, .int .i64 m.kind)]) ⟨rfl, rfl, rfl, rfl, trivial⟩
  repeat (refine wp_seq ?_)
  refine wp_block ?_
  refine rl ?_
  refine H6.bn 1 (eql_iB _ _ _ b1 _ _ _) fun a8 H8 => nt ?_
  refine H8.condF rfl ?_
  refine rl ?_
  refine H8.bn 1 (eql_iB _ _ _ b2 _ _ _) fun a10 H10 => nt ?_
  refine H10.condF rfl ?_
  refine rl ?_
  refine H10.bn 1 (eql_iB _ _ _ b3 _ _ _) fun a12 H12 => nt ?_
  refine H12.condF rfl ?_
  refine rl ?_
  refine H12.bn 1 (eql_iB _ _ _ b8 _ _ _) fun a14 H14 => nt ?_
  refine H14.condF rfl ?_
  refine rl ?_
  refine H14.bn 1 (eql_iB _ _ _ b9 _ _ _) fun a16 H16 => nt ?_
  refine H16.condF rfl ?_
  refine rl ?_
  refine H16.bn 1 (eql_iB _ _ _ b10 _ _ _) fun a18 H18 => nt ?_
  refine H18.condF rfl ?_
  repeat (refine wp_seq ?_)
  refine rl ?_
  refine H18.bn 1 (eql_iB _ _ _ b12 _ _ _) fun a20 H20 => nt ?_
  refine H20.condF rfl ?_
  refine rl ?_
  refine H20.bn 1 (eql_iB _ _ _ b13 _ _ _) fun a22 H22 => nt ?_
  refine H22.condT rfl ?_
  refine skip_wp ?_
  refine then_normal ?_
  refine H22.condT rfl ?_
  refine H22.rg 2 fun a24 H24 => nt ?_
  refine wp_ret ?_
  repeat (first | (with_reducible refine block_ret ?_) | (with_reducible refine then_ret ?_))
  refine bodyPost_ret (results_pair rfl _ _ _ (H24.at_ 2 _ rfl) (H24.at_ 3 _ rfl)) H24.df ?_
  refine bodied_of (by unfold flagsBy; simp [hk]) ?_ (RowIs.nil b0 _).read HB1
  unfold bodyBy; simp [hk, bareKind]

set_option maxRecDepth 100000 in
set_option maxHeartbeats 3200000 in
theorem body_14 (m : Mq) (vc vw vf : Value) (w : World) (hk : m.kind = 14)  :
    Calls Tryd.prog 74 #[.agg (mqCells m vc vw vf).toArray] w (Bodied m w) := by
  have b1 : (m.kind == 1) = false := kind_ne hk rfl
  have b2 : (m.kind == 2) = false := kind_ne hk rfl
  have b3 : (m.kind == 3) = false := kind_ne hk rfl
  have b8 : (m.kind == 8) = false := kind_ne hk rfl
  have b9 : (m.kind == 9) = false := kind_ne hk rfl
  have b10 : (m.kind == 10) = false := kind_ne hk rfl
  have b12 : (m.kind == 12) = false := kind_ne hk rfl
  have b13 : (m.kind == 13) = false := kind_ne hk rfl
  have b14 : (m.kind == 14) = true := kind_eq hk
  go_enter Tryd.func74, Tryd.ntmps74
  refine Has.start 123 [(0, .agg (mqCells m vc vw vf).toArray)] rfl rfl ⟨rfl, trivial⟩ ?_
  intro a0 H0
  have O0 := Own.start w
  refine rl ?_
  refine H0.bx O0 2 fun a3 w1 O1 H3 => nt ?_
  have HB1 := Base.of O1
  obtain ⟨b0, hb0⟩ : ∃ b0, b0 = w1.heap.size := ⟨_, rfl⟩
  rw [← hb0] at HB1
  have hb0' := hb0
  clear hb0
  refine H3.rg 1 fun a4 H4 => ?_
  refine H4.ld 0 (HB1.own.li 0 0) fun a5 H5 => nt ?_
  have H6 := H5.keep (l' := [(1, .pointer (some ⟨w.heap.size, 0, none⟩)), (2, .int .i64 0), (3, .slice none 0 0), (11, .int .i64 m.kind)]) ⟨rfl, rfl, rfl, rfl, trivial⟩
  repeat (refine wp_seq ?_)
  refine wp_block ?_
  refine rl ?_
  refine H6.bn 1 (eql_iB _ _ _ b1 _ _ _) fun a8 H8 => nt ?_
  refine H8.condF rfl ?_
  refine rl ?_
  refine H8.bn 1 (eql_iB _ _ _ b2 _ _ _) fun a10 H10 => nt ?_
  refine H10.condF rfl ?_
  refine rl ?_
  refine H10.bn 1 (eql_iB _ _ _ b3 _ _ _) fun a12 H12 => nt ?_
  refine H12.condF rfl ?_
  refine rl ?_
  refine H12.bn 1 (eql_iB _ _ _ b8 _ _ _) fun a14 H14 => nt ?_
  refine H14.condF rfl ?_
  refine rl ?_
  refine H14.bn 1 (eql_iB _ _ _ b9 _ _ _) fun a16 H16 => nt ?_
  refine H16.condF rfl ?_
  refine rl ?_
  refine H16.bn 1 (eql_iB _ _ _ b10 _ _ _) fun a18 H18 => nt ?_
  refine H18.condF rfl ?_
  repeat (refine wp_seq ?_)
  refine rl ?_
  refine H18.bn 1 (eql_iB _ _ _ b12 _ _ _) fun a20 H20 => nt ?_
  refine H20.condF rfl ?_
  refine rl ?_
  refine H20.bn 1 (eql_iB _ _ _ b13 _ _ _) fun a22 H22 => nt ?_
  refine H22.condF rfl ?_
  refine rl ?_
  refine H22.bn 1 (eql_iB _ _ _ b14 _ _ _) fun a24 H24 => nt ?_
  refine H24.condT rfl ?_
  refine H24.rg 2 fun a26 H26 => nt ?_
  refine wp_ret ?_
  repeat (first | (with_reducible refine block_ret ?_) | (with_reducible refine then_ret ?_))
  refine bodyPost_ret (results_pair rfl _ _ _ (H26.at_ 2 _ rfl) (H26.at_ 3 _ rfl)) H26.df ?_
  refine bodied_of (by unfold flagsBy; simp [hk]) ?_ (RowIs.nil b0 _).read HB1
  unfold bodyBy; simp [hk, bareKind]

end Go.Proofs.YtkcdkjpmbjcmdaaDoor

/-
  pack.body at wishes.
-/
namespace Go.Proofs.YtkcdkjpmbjcmdaaDoor
open Go.RowKit

theorem load_wish (g o : Nat) (f : ByteArray) (q : Int) (w : World) (h0 : w.cell? ⟨g, o, none⟩ = some (.string f)) (h1 : w.cell? ⟨g, o + 1, none⟩ = some (.int .i64 q)) : (Instr.loadAt 95 (.pointer (some ⟨g, o, none⟩))).run Tryd.prog w = .ok (.agg #[.string f, .int .i64 q]) w := by
  simp [go_sem, h0, h1]
theorem zero_wish (w : World) : (zeroValue 95).run Tryd.prog w = .ok (.agg ([.string nos, .int .i64 0] : List Value).toArray) w := by kernel_rfl
theorem size_wish : (Tryd.prog.info? 95).map (·.size) = some 2 := by kernel_rfl
theorem fieldS_0 (g : Nat) (w : World) : (Instr.fieldAt 95 (.pointer (some ⟨g, 0, none⟩)) 0).run Tryd.prog w = .ok (.pointer (some ⟨g, 0, none⟩)) w := by kernel_rfl
theorem fieldS_1 (g : Nat) (w : World) : (Instr.fieldAt 95 (.pointer (some ⟨g, 0, none⟩)) 1).run Tryd.prog w = .ok (.pointer (some ⟨g, 1, none⟩)) w := by kernel_rfl
theorem Reads.wish {w : World} {B n k : Nat} {A : Option Addr} {l : List (ByteArray × Int)} (h : Reads w B 2 A n (wv l)) (hl : l.length = n) (hk : k < n) : ∃ b o x, A = some ⟨b, o, none⟩ ∧ b < B ∧ l[k]? = some x ∧ w.cell? ⟨b, o + k * 2, none⟩ = some (.string x.1) ∧ w.cell? ⟨b, o + k * 2 + 1, none⟩ = some (.int .i64 x.2) := by
  obtain ⟨b, o, hA, hb, hc⟩ := h.get2 hk
  have hx : l[k]? = some l[k] := List.getElem?_eq_getElem (by omega)
  obtain ⟨h0, h1⟩ := wv_get l k _ hx
  exact ⟨b, o, _, hA, hb, hx, hc 0 _ (by omega) h0, hc 1 _ (by omega) h1⟩
theorem RowIs.away {b : Nat} {xs : List UInt8} {v : Value} {w : World} (h : RowIs b xs v w) {g : Nat} (hg : g < b ∨ w.heap.size ≤ g) : some g ≠ v.ownBlock := by
  obtain ⟨A, c, rfl, ho⟩ := h
  exact own_ne ho hg
theorem Cells.onBlock {w w' : World} {g : Nat} {L : List Value} (h : Cells w g L) (hb : w'.heap[g]? = w.heap[g]?) : Cells w' g L := fun j v hv =>
  ⟨(World.cell?_of_block (a := ⟨g, j, none⟩) hb).trans (h j v hv).1, (World.frozen?_of_block (a := ⟨g, j, none⟩) hb).trans (h j v hv).2⟩
theorem lit_keep {w w' : World} {g5 : Nat} {v3 : Value} {ys : List UInt8} {k : Nat} (hK : ∀ g, g < w.heap.size → some g ≠ v3.ownBlock → w'.heap[g]? = w.heap[g]?) (hfar : ∀ g, g5 ≤ g → some g ≠ v3.ownBlock) (hs : w.heap.size ≤ w'.heap.size) {v : Value}
    (h : ∃ g, v = .slice (some ⟨g, 0, none⟩) k k ∧ g5 ≤ g ∧ g < w.heap.size ∧ BytesAre ys v w) : ∃ g, v = .slice (some ⟨g, 0, none⟩) k k ∧ g5 ≤ g ∧ g < w'.heap.size ∧ BytesAre ys v w' := by
  obtain ⟨g, rfl, hg, hlt, A, c, e, hr⟩ := h
  refine ⟨g, rfl, hg, Nat.lt_of_lt_of_le hlt hs, A, c, e, ?_⟩
  injection e with e1 e2 e3
  subst e1
  refine ⟨hr.1, fun hn => ?_⟩
  obtain ⟨ad, hA, hbl, hc⟩ := hr.2 hn
  injection hA with hA
  subst hA
  refine ⟨_, rfl, Nat.lt_of_lt_of_le hbl hs, fun j u hu => ?_⟩
  rw [← hc j u hu]
  refine World.cell?_of_block ?_
  rw [block_of_add]
  exact hK g hlt (hfar g hg)
/-- append(row, bytes..), and which block the row lies in. -/
theorem run_append_rowG {P : Program} {o : Oper} {a : Act} {w : World} (hgb : P.underlying 31 = some (.slice 5)) (hi : (P.info? 5).map (fun i => (i.zero, i.size, i.bytes)) = some (some (.int .u8 0), 1, 1)) {s x : Operand}
    (ho : o.op = .call { callee := .builtin .append, args := #[s, x], argTypes := #[31, 31] }) {b : Nat} {xs ys : List UInt8} {v : Value} {ad : Addr} {c : Nat} (hs : a.eval s = v) (hx : a.eval x = .slice (some ad) ys.length c) (hv : RowIs b xs v w) (hu : RB w w.heap.size (some ad) ys) (hy : 0 < ys.length)
    (hn : xs.length + ys.length ≤ 140737488355328) (hb : b ≤ w.heap.size) : ∃ v' w', (execOp a.eval o).run P w = .ok (.value v') w' ∧ RowIs b (xs ++ ys) v' w' ∧ Below b w w' ∧ w.grownBy w' v.ownBlock ∧ (v'.ownBlock = v.ownBlock ∨ v'.ownBlock = some w.heap.size) := by
  obtain ⟨A, cc, rfl, hown⟩ := hv
  obtain ⟨i, hi0, hz0, hz1, hz2⟩ := info_parts hi
  have hcells : ∀ j u, (ys.map bv)[j]? = some u → w.cell? (ad.add j) = some u := by
    intro j u hu'
    obtain ⟨ad', h, _, hc⟩ := hu.2 hy
    injection h with h
    subst h
    exact hc j u hu'
  obtain ⟨v', w', hrun, h2, h3, _, h5⟩ := run_append_own_at (P := P) w b 31 o.type 5 i (.int .u8 0) 1 1 hgb hi0 hz0 hz1 hz2 rfl (by decide) _ xs.length (xs.map bv) hown ad ys.length c (ys.map bv) (by simp) hcells (bv_one ys) (by unfold maxLen; omega) (by omega) hb
  obtain ⟨A', c', rfl, _, _⟩ := own_shape h2
  refine ⟨_, w', ?_, ⟨A', c', by rw [List.length_append], by rw [List.length_append, List.map_append]; exact h2⟩, (Below.refl _ _).grown h3 hb fun k hk => (hown.lt k hk).1, h3, h5⟩
  unfold execOp
  simp only [ho, resolve, invoke, builtin, Sem.run_bind, Sem.run_pure, Result.andThen_ok, List.map_toArray, List.map_cons, List.map_nil, hs, hx, hrun]
set_option maxRecDepth 100000 in
set_option maxHeartbeats 800000 in
theorem rowTwoG (b : Nat) (xs : List UInt8) (v : Value) (k : Int) (h0 : 0 ≤ k) (h1 : k ≤ 65535) (w : World) (hv : RowIs b xs v w) (hb : b ≤ w.heap.size) (hn : xs.length ≤ 140737488251232) :
    Calls Tryd.prog 100 #[v, .int .i64 k] w fun e w' => ∃ v', e = .returned v' ∧ (RowIs b (xs ++ big 2 k.toNat) v' w' ∧ Below b w w' ∧ (∀ g, g < w.heap.size → some g ≠ v.ownBlock → w'.heap[g]? = w.heap[g]?) ∧ (v'.ownBlock = v.ownBlock ∨ ∃ q, v'.ownBlock = some q ∧ w.heap.size ≤ q)) := by
  go_enter Tryd.func100, Tryd.ntmps100
  refine Has.start 13 [(0, v), (1, .int .i64 k)] rfl rfl ⟨rfl, rfl, trivial⟩ ?_
  intro a0 H0
  refine H0.rg 1 fun a1 H1 => nt ?_
  refine H1.rg 2 fun a3 H3 => ?_
  refine H3.bn 0 (shr8 _ h0 h1 _ _ _) fun a4 H4 => ?_
  refine H4.cv 1 (conv_u8 _ _) fun a6 H6 => ?_
  refine H6.cv 0 (conv_u8 _ _) fun a7 H7 => ?_
  obtain ⟨⟨A1, c1, e1, hrb⟩, hb1⟩ := bytes_lit w (big 2 k.toNat) [.int .u8 (k / 256 % 256), .int .u8 (k % 256)] (lit_two k h0 h1) 5 2 (big_length 2 _)
  rw [big_length] at e1
  injection e1 with e1 _ _
  subst e1
  refine H7.go gz rfl rfl _ (run_any H7 (by intro cs b h; cases h) (by kernel_rfl) (x := .value (.slice (some ⟨w.heap.size, 0, none⟩) 2 2)) (w' := w.alloc (.cells ([.int .u8 (k / 256 % 256), .int .u8 (k % 256)] : List Value).toArray 5)) (by kernel_rfl)) ?_
  intro a8 H8
  obtain ⟨v', w', hrun, hrow, hb2, hg, hob⟩ := run_append_rowG (P := Tryd.prog) (a := a8) (w := w.alloc (.cells ([.int .u8 (k / 256 % 256), .int .u8 (k % 256)] : List Value).toArray 5)) Tryd.underlying31 info_u8 (o := ⟨some 12, _, _, _, _, none⟩) (b := b) (xs := xs) (ys := big 2 k.toNat) (v := v) rfl (H8.at_ 5 _ rfl) (by rw [big_length]; exact H8.at_ 11 _ rfl) (hv.below hb1) hrb (by rw [big_length]; omega) (by rw [big_length]; omega) (Nat.le_trans hb hb1.size)
  refine H8.go gz rfl rfl _ hrun ?_
  intro a9 H9
  refine H9.ms 1 fun a10 H10 => nt ?_
  refine wp_ret ?_
  refine bodyPost_ret (results_tmp rfl _ _ _) H10.df ⟨_, congrArg Ending.returned (H10.at_ 4 _ rfl), hrow, (hb1.mono hb).trans hb2, fun g hlt hne => (hg.block g (Nat.lt_of_lt_of_le hlt hb1.size) hne).trans (hb1.block g hlt), ?_⟩
  rcases hob with h | h
  · exact .inl h
  · exact .inr ⟨_, h, hb1.size⟩
set_option maxRecDepth 100000 in
set_option maxHeartbeats 800000 in
theorem rowTextG (b : Nat) (xs : List UInt8) (v : Value) (s : ByteArray) (hs : s.size ≤ 65535) (w : World) (hv : RowIs b xs v w) (hb : b ≤ w.heap.size) (hn : xs.length ≤ 140737488251232) :
    Calls Tryd.prog 99 #[v, .string s] w fun e w' => ∃ v', e = .returned v' ∧ (RowIs b (xs ++ strB s) v' w' ∧ Below b w w' ∧ (∀ g, g < w.heap.size → some g ≠ v.ownBlock → w'.heap[g]? = w.heap[g]?)) := by
  go_enter Tryd.func99, Tryd.ntmps99
  refine Has.start 11 [(0, v), (1, .string s)] rfl rfl ⟨rfl, rfl, trivial⟩ ?_
  intro a0 H0
  refine H0.rg 1 fun a1 H1 => nt ?_
  refine H1.rg 2 fun a3 H3 => ?_
  refine H3.go gz rfl rfl (.int .i64 (s.size : Int)) (w' := w) (run_any H3 (by intro cs b h; cases h) (by kernel_rfl) (by kernel_rfl)) ?_
  intro a4 H4
  refine H4.cl (rowTwoG b xs v (s.size : Int) (by omega) (by omega) w hv hb hn) ?_
  rintro a5 v8 w1 ⟨R8, hb1, hK1, hob⟩ H5
  refine H5.ms 1 fun a6 H6 => ?_
  rw [show ((s.size : Int)).toNat = s.size from rfl] at R8
  obtain ⟨v', w', hrun, hrow, hb2, hg⟩ := run_append_strR (P := Tryd.prog) (a := a6) (w := w1) Tryd.underlying31 Tryd.underlying9 info_u8 (o := ⟨some 10, _, _, _, _, none⟩) rfl rfl (H6.at_ 9 _ rfl) ((H6.at_ 8 _ rfl).symm ▸ R8) (by rw [List.length_append, big_length]; omega) (Nat.le_trans hb hb1.size)
  refine H6.go gz rfl rfl _ hrun ?_
  intro a7 H7
  refine H7.ms 1 fun a8 H8 => nt ?_
  refine wp_ret ?_
  refine bodyPost_ret (results_tmp rfl _ _ _) H8.df ⟨_, congrArg Ending.returned (H8.at_ 4 _ rfl), (by unfold strB; rw [← List.append_assoc]; exact hrow), hb1.trans hb2, fun g hlt hne => (hg.block g (Nat.lt_of_lt_of_le hlt hb1.size) ?_).trans (hK1 g hlt hne)⟩
  rw [H6.at_ 8 _ rfl]
  rcases hob with h | ⟨q, h, hq⟩
  · rw [h]; exact hne
  · rw [h]; intro e; injection e with e; omega
set_option maxRecDepth 100000 in
set_option maxHeartbeats 3200000 in
theorem body_8 (m : Mq) (vc vf : Value) (w : World) (hk : m.kind = 8) (hi0 : 0 ≤ m.id) (hi1 : m.id ≤ 65535) (A : Option Addr) (c : Nat) (hr : Reads w w.heap.size 2 A m.wishes.length (wv m.wishes)) (hw : wishesAll m.wishes = true) (hl : m.wishes.length ≤ 8) :
    Calls Tryd.prog 74 #[.agg (mqCells m vc (.slice A m.wishes.length c) vf).toArray] w (Bodied m w) := by
  have b1 : (m.kind == 1) = false := kind_ne hk rfl
  have b2 : (m.kind == 2) = false := kind_ne hk rfl
  have b3 : (m.kind == 3) = false := kind_ne hk rfl
  have b8 : (m.kind == 8) = true := kind_eq hk
  go_enter Tryd.func74, Tryd.ntmps74
  refine Has.start 123 [(0, .agg (mqCells m vc (.slice A m.wishes.length c) vf).toArray)] rfl rfl ⟨rfl, trivial⟩ ?_
  intro a0 H0
  have O0 := Own.start w
  refine rl ?_
  refine H0.bx O0 2 fun a3 w1 O1 H3 => nt ?_
  have HB1 := Base.of O1
  obtain ⟨b0, hb0⟩ : ∃ b0, b0 = w1.heap.size := ⟨_, rfl⟩
  rw [← hb0] at HB1
  have hb0' := hb0
  clear hb0
  refine H3.rg 1 fun a4 H4 => ?_
  refine H4.ld 0 (HB1.own.li 0 0) fun a5 H5 => nt ?_
  have H6 := H5.keep (l' := [(1, .pointer (some ⟨w.heap.size, 0, none⟩)), (2, .int .i64 0), (3, .slice none 0 0), (11, .int .i64 m.kind)]) ⟨rfl, rfl, rfl, rfl, trivial⟩
  repeat (refine wp_seq ?_)
  refine wp_block ?_
  refine rl ?_
  refine H6.bn 1 (eql_iB _ _ _ b1 _ _ _) fun a8 H8 => nt ?_
  refine H8.condF rfl ?_
  refine rl ?_
  refine H8.bn 1 (eql_iB _ _ _ b2 _ _ _) fun a10 H10 => nt ?_
  refine H10.condF rfl ?_
  refine rl ?_
  refine H10.bn 1 (eql_iB _ _ _ b3 _ _ _) fun a12 H12 => nt ?_
  refine H12.condF rfl ?_
  refine rl ?_
  refine H12.bn 1 (eql_iB _ _ _ b8 _ _ _) fun a14 H14 => nt ?_
  refine H14.condT rfl ?_
  refine H14.rg 1 fun a15 H15 => ?_
  refine H15.ld 0 (HB1.own.li 0 20) fun a16 H16 => ?_
  refine H16.cl (rowTwo b0 [] _ m.id hi0 hi1 _ (RowIs.nil _ _) HB1.bw (by simp)) ?_
  rintro a17 v57 w2 ⟨R57, hb⟩ H17
  have HB2 := HB1.step hb
  clear hb
  refine H17.ms 1 fun a18 H18 => nt ?_
  refine H18.rg 1 fun a19 H19 => ?_
  refine H19.ld 0 (HB2.own.l7 0 22) fun a20 H20 => ?_
  refine H20.len gz rfl rfl rfl rfl Tryd.underlying27 ?_
  intro a21 H21
  refine H21.ms 1 fun a22 H22 => nt ?_
  repeat (refine wp_seq ?_)
  refine wp_block ?_
  refine wp_loop_up m.wishes.length (fun k a w' => ∃ v, Has a 123 [(1, .pointer (some ⟨w.heap.size, 0, none⟩)), (3, v), (59, .slice A m.wishes.length c), (60, .int .i64 (m.wishes.length : Int)), (61, .int .i64 (k : Int))] ∧ RowIs b0 (([] ++ big 2 m.id.toNat) ++ wishesBy (m.wishes.take k)) v w' ∧ Base w b0 [(w.heap.size, (mqCells m vc (.slice A m.wishes.length c) vf))] w') ?_ ?_
  · exact ⟨_, H22.keep ⟨rfl, rfl, rfl, rfl, rfl, trivial⟩, (by rw [List.take_zero]; simpa [wishesBy] using R57), HB2⟩
  · rintro k a23 w3 hkn ⟨v3, H23, R3, HB3⟩
    have hlb : (wishesBy (m.wishes.take k)).length ≤ 1000 := by
      have := wishesBy_le _ (wishesAll_take k hw); rw [List.length_take] at this; omega
    by_cases hlt : k < m.wishes.length
    · skip
      obtain ⟨gb, go, x, rfl, hgb, hx, hc0, hc1⟩ := Reads.wish (hr.below HB3.own.bel) rfl hlt
      obtain ⟨hxs, hx0, hx1⟩ := wishesAll_get hw hx
      refine rl ?_
      refine H23.bb 0 rfl rfl rfl rfl rfl rfl (lss_i _ _ true (by simp; omega) _ _ _) rfl fun a24 H24 => nt ?_
      repeat (refine wp_seq ?_)
      refine H24.condT rfl ?_
      refine skip_wp ?_
      refine then_normal ?_
      repeat (refine wp_seq ?_)
      refine wp_block ?_
      refine rl ?_
      refine H24.index gz rfl rfl rfl rfl rfl (index_2 27 Tryd.underlying27 (fun _ => by kernel_rfl) _ _ _ _ _ hlt _) ?_
      intro a25 H25
      refine H25.ld 0 (load_wish _ _ _ _ _ hc0 hc1) fun a26 H26 => ?_
      refine H26.alloc rfl rfl rfl rfl _ zero_wish ?_
      intro a27 w4 hbA hsA hCA H27
      refine H27.storeS rfl rfl rfl rfl (L := [.string x.1, .int .i64 x.2]) rfl hCA size_wish rfl rfl rfl ?_
      intro a28 w5 H28 hgS hsS hC5
      have hb5 : Below w3.heap.size w3 w5 := hbA.grown hgS hbA.size (fun k hk => by injection hk with hk; rw [← hk]; exact Nat.le_refl _)
      have hlt5 : w3.heap.size < w5.heap.size := by rw [hsS, hsA]; exact Nat.lt_succ_self _
      have hfar : ∀ g, w3.heap.size ≤ g → some g ≠ v3.ownBlock := fun g hg => R3.away (.inr hg)
      generalize w3.heap.size = g5 at hC5 hlt5 hfar H28
      have R3 := R3.below hb5
      have HB5 := HB3.call hb5
      clear hbA hsA hCA hgS hsS hb5
      refine nt ?_
      have H29 := H28.keep (l' := [(1, .pointer (some ⟨w.heap.size, 0, none⟩)), (3, v3), (5, .pointer (some ⟨g5, 0, none⟩)), (59, .slice (some ⟨gb, go, none⟩) m.wishes.length c), (60, .int .i64 (m.wishes.length : Int)), (61, .int .i64 (k : Int))]) ⟨rfl, rfl, rfl, rfl, rfl, rfl, trivial⟩
      refine H29.dr HB5 [1, 5, 59, 60, 61] rfl [er 0 65 [3] (fun v w => v = v3 ∧ RowIs b0 (([] ++ big 2 m.id.toNat) ++ wishesBy (m.wishes.take k)) v w), ec 1 66 (.pointer (some ⟨g5, 0, none⟩)), eh 2 67 (.string x.1), er 3 68 [8] (fun v w => RowIs b0 ((([] ++ big 2 m.id.toNat) ++ wishesBy (m.wishes.take k)) ++ strB x.1) v w), ec 4 69 (.pointer (some ⟨g5, 1, none⟩)), eh 5 70 (.int .i64 x.2), ec 6 71 (.int .u8 (x.2 % 256)), er 7 72 [8] (fun v w => ∃ g, v = .slice (some ⟨g, 0, none⟩) 1 1 ∧ g5 ≤ g ∧ g < w.heap.size ∧ BytesAre [UInt8.ofNat x.2.toNat] v w), er 8 73 [] (fun v w => RowIs b0 (((([] ++ big 2 m.id.toNat) ++ wishesBy (m.wishes.take k)) ++ strB x.1) ++ [UInt8.ofNat x.2.toNat]) v w), er 9 3 [] (fun v w => RowIs b0 (((([] ++ big 2 m.id.toNat) ++ wishesBy (m.wishes.take k)) ++ strB x.1) ++ [UInt8.ofNat x.2.toNat]) v w), er 1000 3 [3, 9] (fun v w => v = v3 ∧ RowIs b0 (([] ++ big 2 m.id.toNat) ++ wishesBy (m.wishes.take k)) v w), er 1001 121 [8] (fun _ w => Cells w g5 [.string x.1, .int .i64 x.2] ∧ g5 < w.heap.size)] rfl ⟨jm, jm, (jc fun _ => (conv_u8 _ _)), trivial⟩ ⟨(by rw [H29.at_ 3 _ rfl]; exact ⟨rfl, R3.drew⟩), ⟨hC5.below (Below.drew (Below.refl _ _)) hlt5, hlt5⟩, trivial⟩ ?_ ?_
      · intro listed aa ww i o hs hni hcl ho hd hI hh
        have hls : listed.size = 10 := hs
        rcases hh with rfl | rfl | rfl | rfl | rfl | rfl | rfl | hh
        · obtain rfl := pick_op ho rfl
          have r3 := hI.vs _ (ma 10 rfl) (.inl (by rw [hls]; show 10 ≤ 1000; decide)) ⟨(Bool.eq_false_iff.2 fun h => absurd (hni.symm.trans (ran_of (hcl 3 _ rfl h) 0 (by kernel_rfl))) (by decide)), (Bool.eq_false_iff.2 fun h => absurd (hni.symm.trans (ran_of (hcl 3 _ rfl (ran_of (hcl 8 _ rfl (ran_of (hcl 9 _ rfl h) 8 (by kernel_rfl))) 3 (by kernel_rfl))) 0 (by kernel_rfl))) (by decide)), trivial⟩
          obtain ⟨e3, hR⟩ : aa.eval (.tmp 3) = v3 ∧ RowIs b0 (([] ++ big 2 m.id.toNat) ++ wishesBy (m.wishes.take k)) (aa.eval (.tmp 3)) ww := r3
          refine wpOp_go ho gz 65 rfl (aa.eval (.tmp 3)) ww (run_move (.inl rfl) rfl) ?_
          exact hI.ph hls 0 rfl (aa.eval (.tmp 3)) ⟨e3, hR⟩ hI.wp AllC.same
        · obtain rfl := pick_op ho rfl
          have rp := hI.vs _ (ma 1 rfl) (.inr (ran_of hd 1 (by kernel_rfl))) trivial
          have up : aa.eval (.tmp 66) = .pointer (some ⟨g5, 0, none⟩) := rp
          have rbox := hI.vs _ (ma 11 rfl) (.inl (by rw [hls]; show 10 ≤ 1001; decide)) ⟨(Bool.eq_false_iff.2 fun h => absurd (hni.symm.trans (ran_of (hcl 3 _ rfl (ran_of (hcl 8 _ rfl h) 3 (by kernel_rfl))) 2 (by kernel_rfl))) (by decide)), trivial⟩
          refine wpOp_go ho gz 67 rfl (.string x.1) ww (run_load rfl up (load1_s _ _ _ _ (rbox.1.get 0 _ rfl))) ?_
          exact hI.ph hls 2 rfl (.string x.1) rfl hI.wp AllC.same
        · obtain rfl := pick_op ho rfl
          have r65 := hI.vs _ (ma 0 rfl) (.inr (ran_of hd 0 (by kernel_rfl))) ⟨hni, trivial⟩
          obtain ⟨e65, hR⟩ : aa.eval (.tmp 65) = v3 ∧ RowIs b0 (([] ++ big 2 m.id.toNat) ++ wishesBy (m.wishes.take k)) (aa.eval (.tmp 65)) ww := r65
          have r67 := hI.vs _ (ma 2 rfl) (.inr (ran_of hd 2 (by kernel_rfl))) trivial
          have u67 : aa.eval (.tmp 67) = .string x.1 := r67
          have HH : Has aa 123 [(65, v3), (67, .string x.1)] := Has.of hI.sz hI.df ⟨e65, u67, trivial⟩
          rw [e65] at hR
          refine wpOp_enter ho gz 68 rfl 99 _ (run_callH HH rfl rfl (fun _ _ => by kernel_rfl)) _ (rowTextG b0 (([] ++ big 2 m.id.toNat) ++ wishesBy (m.wishes.take k)) v3 x.1 (by omega) ww hR hI.wp.bw (by simp only [List.length_append, big_length, List.length_nil]; omega)) ?_
          rintro v' w' ⟨hrow, hb0, hK⟩
          exact hI.ph hls 3 rfl (v') hrow (hI.wp.step hb0) ⟨fun _ h => absurd (by show 3 ∈ ([3] : List Nat); decide) h, fun h => absurd rfl h, fun _ _ _ _ _ h => lit_keep hK hfar hb0.size h, fun _ _ h => absurd (hni.symm.trans (ran_of (hcl 8 _ rfl (h.resolve_left (by rw [hls]; show ¬ 10 ≤ 8; decide))) 3 (by kernel_rfl))) (by decide), fun _ _ h => absurd (hni.symm.trans (ran_of (hcl 8 _ rfl (ran_of (hcl 9 _ rfl (h.resolve_left (by rw [hls]; show ¬ 10 ≤ 9; decide))) 8 (by kernel_rfl))) 3 (by kernel_rfl))) (by decide), fun _ h => absurd (by show 3 ∈ ([3, 9] : List Nat); decide) h, fun _ _ _ _ _ h => ⟨h.1.onBlock (hK g5 h.2 (hfar g5 (Nat.le_refl _))), Nat.lt_of_lt_of_le h.2 hb0.size⟩, trivial⟩
        · obtain rfl := pick_op ho rfl
          have rp := hI.vs _ (ma 4 rfl) (.inr (ran_of hd 4 (by kernel_rfl))) trivial
          have up : aa.eval (.tmp 69) = .pointer (some ⟨g5, 1, none⟩) := rp
          have rbox := hI.vs _ (ma 11 rfl) (.inl (by rw [hls]; show 10 ≤ 1001; decide)) ⟨(Bool.eq_false_iff.2 fun h => absurd (hni.symm.trans (ran_of (hcl 6 _ rfl (ran_of (hcl 7 _ rfl (ran_of (hcl 8 _ rfl h) 7 (by kernel_rfl))) 6 (by kernel_rfl))) 5 (by kernel_rfl))) (by decide)), trivial⟩
          refine wpOp_go ho gz 70 rfl (.int .i64 x.2) ww (run_load rfl up (load1_i _ _ _ _ (rbox.1.get 1 _ rfl))) ?_
          exact hI.ph hls 5 rfl (.int .i64 x.2) rfl hI.wp AllC.same
        · obtain rfl := pick_op ho rfl
          have r71 := hI.vs _ (ma 6 rfl) (.inr (ran_of hd 6 (by kernel_rfl))) trivial
          have u71 : aa.eval (.tmp 71) = .int .u8 (x.2 % 256) := r71
          have rbox := hI.vs _ (ma 11 rfl) (.inl (by rw [hls]; show 10 ≤ 1001; decide)) ⟨(Bool.eq_false_iff.2 fun h => absurd (hni.symm.trans (ran_of (hcl 8 _ rfl h) 7 (by kernel_rfl))) (by decide)), trivial⟩
          have hg5 : g5 < ww.heap.size := rbox.2
          have HH : Has aa 123 [(71, .int .u8 (x.2 % 256))] := Has.of hI.sz hI.df ⟨u71, trivial⟩
          obtain ⟨hby, hb⟩ := bytes_lit ww [UInt8.ofNat x.2.toNat] [.int .u8 (x.2 % 256)] (by rw [byte_of_int _ hx0]; rfl) 5 1 rfl
          refine wpOp_go ho gz 72 rfl (.slice (some ⟨ww.heap.size, 0, none⟩) 1 1) (ww.alloc (.cells ([.int .u8 (x.2 % 256)] : List Value).toArray 5)) (run_any HH (by intro cs b h; cases h) (by kernel_rfl) (by kernel_rfl)) ?_
          exact hI.ph hls 7 rfl (.slice (some ⟨ww.heap.size, 0, none⟩) 1 1) ⟨_, rfl, Nat.le_of_lt hg5, lt_alloc ww _, hby⟩ (hI.wp.call hb) ⟨fun _ _ _ _ _ h => ⟨h.1, h.2.below hb⟩, fun _ _ _ _ _ h => h.below hb, fun h => absurd rfl h, fun _ _ _ _ _ h => h.below hb, fun _ _ _ _ _ h => h.below hb, fun _ _ _ _ _ h => ⟨h.1, h.2.below hb⟩, fun _ _ _ _ _ h => ⟨h.1.below hb h.2, Nat.lt_of_lt_of_le h.2 hb.size⟩, trivial⟩
        · obtain rfl := pick_op ho rfl
          have r68 := hI.vs _ (ma 3 rfl) (.inr (ran_of hd 3 (by kernel_rfl))) ⟨hni, trivial⟩
          have r72 := hI.vs _ (ma 7 rfl) (.inr (ran_of hd 7 (by kernel_rfl))) ⟨hni, trivial⟩
          obtain ⟨_, _, _, _, hby⟩ := r72
          obtain ⟨v', w', hrun, hrow, hb0, hg⟩ := run_append_row (P := Tryd.prog) (a := aa) (w := ww) Tryd.underlying31 info_u8 (o := ⟨some 73, _, _, _, _, none⟩) rfl rfl rfl r68 hby (by simp only [List.length_append, strB_length, big_length, List.length_cons, List.length_nil]; omega) hI.wp.bw
          refine wpOp_go ho gz 73 rfl v' w' hrun ?_
          exact hI.ph hls 8 rfl (v') hrow (hI.wp.step hb0) ⟨fun _ _ _ hk => absurd (hk.1.symm.trans (ran_of hd 3 (by kernel_rfl))) (by decide), fun _ h => absurd (by show 8 ∈ ([8] : List Nat); decide) h, fun _ h => absurd (by show 8 ∈ ([8] : List Nat); decide) h, fun h => absurd rfl h, fun _ _ h => absurd (hni.symm.trans (ran_of (hcl 9 _ rfl (h.resolve_left (by rw [hls]; show ¬ 10 ≤ 9; decide))) 8 (by kernel_rfl))) (by decide), fun _ _ _ hk => absurd (hk.1.symm.trans (ran_of hd 3 (by kernel_rfl))) (by decide), fun _ h => absurd (by show 8 ∈ ([8] : List Nat); decide) h, trivial⟩
        · obtain rfl := pick_op ho rfl
          have r_73 := hI.vs _ (ma 8 rfl) (.inr (ran_of hd 8 (by kernel_rfl))) trivial
          have HH : Has aa 123 [(73, aa.eval (.tmp 73))] := Has.of hI.sz hI.df ⟨rfl, trivial⟩
          refine wpOp_go ho gz 3 rfl (aa.eval (.tmp 73)) ww (run_move (.inr rfl) (HH.ev rfl)) ?_
          exact hI.ph hls 9 rfl (aa.eval (.tmp 73)) r_73 hI.wp AllC.same
        · exact False.elim hh
      · intro listed a30 w6 hall hI
        have r_3 := hI.vs _ (ma 9 rfl) (.inr (hall 9 (by decide))) trivial
        have H30 : Has a30 123 [(1, .pointer (some ⟨w.heap.size, 0, none⟩)), (5, .pointer (some ⟨g5, 0, none⟩)), (59, .slice (some ⟨gb, go, none⟩) m.wishes.length c), (60, .int .i64 (m.wishes.length : Int)), (61, .int .i64 (k : Int)), (3, a30.eval (.tmp 3))] := Has.of hI.sz hI.df ⟨hI.fx.1, hI.fx.2.1, hI.fx.2.2.1, hI.fx.2.2.2.1, hI.fx.2.2.2.2.1, rfl, trivial⟩
        have HB6 := hI.wp
        have R3_6 : RowIs b0 (((([] ++ big 2 m.id.toNat) ++ wishesBy (m.wishes.take k)) ++ strB x.1) ++ [UInt8.ofNat x.2.toNat]) (a30.eval (.tmp 3)) w6 := r_3
        refine block_normal ?_
        refine then_normal ?_
        refine rl ?_
        refine H30.bb 1 rfl rfl rfl rfl rfl rfl (succ_i _ (by omega) _ _ _) rfl fun a32 H32 => nt ?_
        exact ⟨hlt, _, H32.keep ⟨rfl, rfl, rfl, rfl, rfl, trivial⟩, (by rw [take_snoc? _ _ _ hx, wishesBy_app, ← List.append_assoc, ← List.append_assoc]; exact R3_6), HB6⟩
    · skip
      obtain rfl : k = m.wishes.length := by omega
      refine rl ?_
      refine H23.bb 0 rfl rfl rfl rfl rfl rfl (lss_i _ _ false (by simp) _ _ _) rfl fun a24 H24 => nt ?_
      repeat (refine wp_seq ?_)
      refine H24.condF rfl ?_
      refine wp_exit ?_
      repeat (with_reducible refine then_exit ?_)
      refine block_leave ?_
      refine then_normal ?_
      refine H24.rg 3 fun a27 H27 => nt ?_
      rw [List.take_length] at R3
      refine wp_ret ?_
      repeat (first | (with_reducible refine block_ret ?_) | (with_reducible refine then_ret ?_))
      refine bodyPost_ret (results_pair rfl _ _ _ (H27.at_ 2 _ rfl) (H27.at_ 3 _ rfl)) H27.df ?_
      refine bodied_of (by unfold flagsBy; simp [hk]) ?_ R3.read HB3
      unfold bodyBy; simp [hk]
end Go.Proofs.YtkcdkjpmbjcmdaaDoor

/-
  pack.body at every packet that may be.
-/
namespace Go.Proofs.YtkcdkjpmbjcmdaaDoor
open Go.RowKit

theorem packBody (m : Mq) (vc vw vf : Value) (w : World) (hm : mayB m) (hL : MqL w w.heap.size m vc vw vf) :
    Calls Tryd.prog 74 #[.agg (mqCells m vc vw vf).toArray] w (Bodied m w) := by
  obtain ⟨h, ho⟩ := hm
  have hkk := may_kind h
  have ids : ∀ {n : Int}, inRB n 1 65535 = true → 0 ≤ n ∧ n ≤ 65535 := fun h => by have := inRB_iff.1 h; omega
  by_cases k1 : m.kind = 1
  · have hc : connectOk m = true := by unfold okOf at h; rw [if_pos k1] at h; exact h
    simp only [connectOk, Bool.and_eq_true, decide_eq_true_eq] at hc
    obtain ⟨hc, hkp, hw, hu, hps, h1, h2⟩ := hc
    have hc' := textOk_size hc
    have hu' := textOk_size hu
    have hkp := inRB_iff.1 hkp
    have hwq : m.wt.size ≤ 64 ∧ m.wp.size ≤ 128 ∧ 0 ≤ m.wq ∧ m.wq ≤ 2 := by
      unfold willOk at hw
      cases hwon : m.won with
      | true =>
        rw [hwon, if_pos rfl] at hw
        simp only [Bool.and_eq_true, decide_eq_true_eq] at hw
        obtain ⟨a, b, c⟩ := hw
        have := textOk_size a
        have := inRB_iff.1 c
        exact ⟨by omega, by omega, by omega, by omega⟩
      | false =>
        rw [hwon, if_neg (by simp)] at hw
        simp only [Bool.and_eq_true, beq_iff_eq, Bool.not_eq_true'] at hw
        obtain ⟨a, b, c, d⟩ := hw
        rw [emp_nos a, emp_nos b, c]
        exact ⟨by decide, by decide, by decide, by decide⟩
    exact body_1 m vc vw vf w k1 (by omega) (by omega) (by omega) (by omega) (by omega) (by omega) (by omega) (by omega) (by omega)
  by_cases k2 : m.kind = 2
  · have hc : (inRB m.code 0 5 && (!m.present || m.code == 0)) = true := by unfold okOf at h; rw [if_neg k1, if_pos k2] at h; exact h
    simp only [Bool.and_eq_true] at hc
    exact body_2 m vc vw vf w k2 (inRB_iff.1 hc.1).1
  by_cases k3 : m.kind = 3
  · have hc : publishOk m = true := by unfold okOf at h; rw [if_neg k1, if_neg k2, if_pos k3] at h; exact h
    obtain ⟨ht, hq0, hq2, hi, hz, hp⟩ := publish_facts hc
    have : 0 ≤ m.id ∧ m.id ≤ 65535 := by
      by_cases hq : 0 < m.qos
      · have := hi hq; omega
      · have := hz (by omega); omega
    exact body_3 m vc vw vf w k3 (by omega) (by omega) hq0 hq2 this.1 this.2
  by_cases k8 : m.kind = 8
  · have hc : (inRB m.id 1 65535 && wishesOk m.wishes) = true := by
      unfold okOf at h; rw [if_neg k1, if_neg k2, if_neg k3, if_neg (by simp [idKind, k8]), if_pos k8] at h; exact h
    simp only [Bool.and_eq_true, wishesOk] at hc
    obtain ⟨i0, i1⟩ := ids hc.1
    have hl := inRB_iff.1 hc.2.2
    obtain ⟨A1, c1, A2, c2, A3, c3, rfl, rfl, rfl, l1, l2, l3, k1', k2', k3', r1, r2, r3⟩ := hL
    exact body_8 m _ _ w k8 i0 i1 A2 c2 r2 hc.2.1 (by omega)
  by_cases k9 : m.kind = 9
  · have hc : (inRB m.id 1 65535 && codesOk m.codes) = true := by
      unfold okOf at h; rw [if_neg k1, if_neg k2, if_neg k3, if_neg (by simp [idKind, k9]), if_neg k8, if_pos k9] at h; exact h
    simp only [Bool.and_eq_true, codesOk] at hc
    obtain ⟨i0, i1⟩ := ids hc.1
    have hl := inRB_iff.1 hc.2.2
    obtain ⟨A1, c1, A2, c2, A3, c3, rfl, rfl, rfl, l1, l2, l3, k1', k2', k3', r1, r2, r3⟩ := hL
    exact body_9 m _ _ w k9 i0 i1 A1 c1 r1 hc.2.1 (by omega)
  by_cases k10 : m.kind = 10
  · have hc : (inRB m.id 1 65535 && filtersOk m.filters) = true := by
      unfold okOf at h; rw [if_neg k1, if_neg k2, if_neg k3, if_neg (by simp [idKind, k10]), if_neg k8, if_neg k9, if_pos k10] at h; exact h
    simp only [Bool.and_eq_true, filtersOk] at hc
    obtain ⟨i0, i1⟩ := ids hc.1
    have hl := inRB_iff.1 hc.2.2
    obtain ⟨A1, c1, A2, c2, A3, c3, rfl, rfl, rfl, l1, l2, l3, k1', k2', k3', r1, r2, r3⟩ := hL
    exact body_10 m _ _ w k10 i0 i1 A3 c3 r3 hc.2.1 (by omega)
  by_cases ki : idKind m.kind = true
  · have hc : inRB m.id 1 65535 = true := by
      unfold okOf at h; rw [if_neg k1, if_neg k2, if_neg k3, if_pos ki] at h; exact h
    obtain ⟨i0, i1⟩ := ids hc
    simp only [idKind, Bool.or_eq_true, beq_iff_eq] at ki
    exact body_i m vc vw vf w (by simpa using k1) (by simpa using k2) (by simpa using k3) (by simpa using k8) (by simpa using k9) (by simpa using k10) (by simp; omega) (by simp; omega) (by simp; omega) _ rfl i0 i1
  have kb : bareKind m.kind = true := by
    unfold okOf at h; rw [if_neg k1, if_neg k2, if_neg k3, if_neg ki, if_neg k8, if_neg k9, if_neg k10] at h; exact h
  simp only [bareKind, Bool.or_eq_true, beq_iff_eq] at kb
  rcases kb with k | k | k
  · exact body_12 m vc vw vf w k
  · exact body_13 m vc vw vf w k
  · exact body_14 m vc vw vf w k
end Go.Proofs.YtkcdkjpmbjcmdaaDoor

/-
  Where the ways of a guarded operation meet again: a list of operations in two parts.
-/
namespace Go.Proofs.YtkcdkjpmbjcmdaaDoor
open Go.RowKit

section
variable {P : Program} {ops : Array Oper} {Q : Exit → Act → World → Prop}
theorem upon_then {o : Oper} {a : Act} {K : Act → World → Prop} {St : Act → World → Prop} {r : Result Next} (h : o.upon P a K (Exit.then St Q) r) : o.upon P a K Q r := by
  cases r with
  | ok n w' =>
    cases n with
    | enter f args =>
      refine Calls.mono h ?_
      intro e w'' he
      cases e with
      | returned v => exact he
      | panicked c => exact he
      | outgrown => exact he
    | _ => exact h
  | halt x w' =>
    cases x <;> exact h
theorem wpList_join {St : Act → World → Prop} (h2 : List Oper) (h : ∀ a w, St a w → wpList P ops Q h2 a w) : ∀ (l : List Oper) (a : Act) (w : World), wpList P ops (Exit.then St Q) l a w → wpList P ops Q (l ++ h2) a w
  | [], a, w, hl => h a w hl
  | o :: l, a, w, hl => by
    rw [List.cons_append]
    unfold wpList at hl ⊢
    split at hl
    · next hw =>
      rw [if_pos hw]
      rcases hl with hl | ⟨h1, h3⟩
      · left
        exact upon_then (Oper.wp_mono (fun a w hh => wpList_join h2 h l a w hh) hl)
      · exact .inr ⟨h1, h3⟩
    · next hw =>
      rw [if_neg hw]
      exact wpList_join h2 h l _ _ hl
/-- the first k operations lead to St, the others go on from there. -/
theorem wpList_cut {l : List Oper} {a : Act} {w : World} (k : Nat) (St : Act → World → Prop) (h1 : wpList P ops (Exit.then St Q) (l.take k) a w) (h2 : ∀ a w, St a w → wpList P ops Q (l.drop k) a w) : wpList P ops Q l a w := by
  rw [← List.take_append_drop k l]
  exact wpList_join _ h2 _ _ _ h1
end
theorem leq_i (u v : Int) (b : Bool) (h : decide (u ≤ v) = b) (x y : Operand) (w : World) : (do eqGuard .leq 3 x y (.int .i64 u) (.int .i64 v); binOp .leq 3 (.int .i64 u) (.int .i64 v) : Sem Value).run Tryd.prog w = .ok (.bool b) w := by
  subst h
  simp [go_sem]
end Go.Proofs.YtkcdkjpmbjcmdaaDoor

/-
  Guarded operations that are not wanted: many at once.
-/
namespace Go.Proofs.YtkcdkjpmbjcmdaaDoor
open Go.RowKit

theorem kind_not {a b : Int} (h : (a == b) = false) : ¬ a = b := by simpa using h
/-- the first m operations are guarded by slots that do not meet the guard. -/
def offL (ops : Array Oper) (n : Nat) : Nat → List Oper → List (Nat × Value) → Option (List (Nat × Value))
  | 0, _, l => some l
  | _ + 1, [], _ => none
  | m + 1, o :: os, l => match o.guard, o.dst with
    | some (j, b), some k => match (ops[j]?).bind (·.dst) with
      | some d => match look l d with
        | some v => bif noB v b && Nat.blt k n then offL ops n m os ((k, undef) :: l) else none
        | none => none
      | none => none
    | _, _ => none
section
variable {P : Program} {ops : Array Oper} {a : Act} {w : World} {Q : Exit → Act → World → Prop} {n : Nat}
theorem Has.offs : ∀ (m : Nat) {L : List Oper} {l l' : List (Nat × Value)} {a : Act}, Has a n l → offL ops n m L l = some l' → (∀ a', Has a' n l' → wpList P ops Q (L.drop m) a' w) → wpList P ops Q L a w
  | 0, L, l, l', a, H, h0, h => by
    simp only [offL, Option.some.injEq] at h0
    subst h0
    exact h a H
  | m + 1, [], l, l', a, H, h0, h => by cases h0
  | m + 1, o :: os, l, l', a, H, h0, h => by
    unfold offL at h0
    split at h0
    · next j b k hg hd =>
      split at h0
      · next d hj =>
        split at h0
        · next v hv =>
          cases hb : (noB v b && Nat.blt k n) with
          | false => rw [hb, cond_false] at h0; cases h0
          | true =>
            rw [hb, cond_true] at h0
            rw [Bool.and_eq_true] at hb
            have hw : Region.wanted o (yielded ops a.tmps) = false := by
              unfold Region.wanted
              rw [hg]
              have := yielded_not hj (H.at_ d v hv) hb.1
              simpa using this
            exact wpList_off hw k hd (Has.offs m (H.put hb.2 undef) h0 h)
        · cases h0
      · cases h0
    · cases h0
end
section
variable {P : Program} {ops : Array Oper} {rest : List Oper} {o : Oper} {a : Act} {w : World} {Q : Exit → Act → World → Prop} {n : Nat} {l : List (Nat × Value)}
theorem Has.lenS (H : Has a n l) (hw : Region.wanted o (yielded ops a.tmps) = true) {d : Nat} {s : Operand} {t : TypeId} {u : ByteArray} (ho : o.op = .call { callee := .builtin .len, args := #[s], argTypes := #[t] }) (hd : o.dst = some d) (hn : Nat.blt d n = true) (hs : evL l s = some (.string u)) (ht : P.underlying t = some .string)
    (h : ∀ a', Has a' n ((d, .int .i64 u.size) :: l) → wpList P ops Q rest a' w) : wpList P ops Q (o :: rest) a w :=
  H.go hw hd hn _ (run_lenS ho (H.ev hs) ht) h
end
theorem eql_e (u : ByteArray) (x y : Operand) (w : World) : (do eqGuard .eql 9 x y (.string u) (.string { data := #[] }); binOp .eql 9 (.string u) (.string { data := #[] }) : Sem Value).run Tryd.prog w = .ok (.bool (emp u)) w := by
  have e : (u.toList == (⟨#[]⟩ : ByteArray).toList) = emp u := by
    have h2 : (⟨#[]⟩ : ByteArray).toList = [] := by simp
    by_cases h : u.toList = []
    · rw [emp_true h, h, h2]; rfl
    · rw [emp_false h, h2]
      simpa using h
  rw [eql_s, e]
theorem store_will (g : Nat) (L : List Value) (a : Bool) (b c : ByteArray) (d : Int) (e : Bool) (w : World) (hC : Cells w g L) (hl : 8 < L.length) :
    (Instr.storeAt 25 (.pointer (some ⟨g, 4, none⟩)) (.agg #[.bool a, .string b, .string c, .int .i64 d, .bool e])).run Tryd.prog w = .ok () (w.setCell ⟨g, 4, none⟩ (.bool a) |>.setCell ⟨g, 5, none⟩ (.string b) |>.setCell ⟨g, 6, none⟩ (.string c) |>.setCell ⟨g, 7, none⟩ (.int .i64 d) |>.setCell ⟨g, 8, none⟩ (.bool e)) := by
  have ht : w.there g 4 5 := fun j hj => by
    obtain ⟨c1, c2⟩ := hC (4 + j) _ (List.getElem?_eq_getElem (by omega))
    exact ⟨by rw [c1]; rfl, c2⟩
  exact run_storeAt_mid w g 4 25 #[.bool a, .string b, .string c, .int .i64 d, .bool e] ht (by kernel_rfl) (all_oneCell_toArray (by intro v hv; simp only [List.mem_cons, List.not_mem_nil, or_false] at hv; rcases hv with rfl | rfl | rfl | rfl | rfl <;> rfl))
end Go.Proofs.YtkcdkjpmbjcmdaaDoor

/-
  A region that draws its order and stores into one block of one's own: whatever store comes up first.
-/
namespace Go.Proofs.YtkcdkjpmbjcmdaaDoor
open Go.RowKit

/-- cells are written over, from one on. -/
def setR : Nat → List Value → List Value → List Value
  | _, [], L => L
  | o, v :: vs, L => setR (o + 1) vs (L.set o v)
/-- a store: its operation, where, what. -/
structure StE where
  op : Nat
  off : Nat
  vs : List Value
def setsF (listed : Array Bool) : List StE → List Value → List Value
  | [], L => L
  | j :: js, L => bif listed.getD j.op false then setR j.off j.vs (setsF listed js L) else setsF listed js L
def setsA : List StE → List Value → List Value
  | [], L => L
  | j :: js, L => setR j.off j.vs (setsA js L)
theorem setR_length : ∀ (vs : List Value) (o : Nat) (L : List Value), (setR o vs L).length = L.length
  | [], _, _ => rfl
  | v :: vs, o, L => by rw [setR, setR_length vs, List.length_set]
theorem setR_set : ∀ (vs : List Value) (o k : Nat) (u : Value) (L : List Value), (k < o ∨ o + vs.length ≤ k) → setR o vs (L.set k u) = (setR o vs L).set k u
  | [], _, _, _, _, _ => rfl
  | v :: vs, o, k, u, L, h => by
    simp only [List.length_cons] at h
    rw [setR, setR, List.set_comm _ _ (show k ≠ o by omega), setR_set vs (o + 1) k u _ (by omega)]
theorem setR_comm : ∀ (vs us : List Value) (o k : Nat) (L : List Value), (o + vs.length ≤ k ∨ k + us.length ≤ o) → setR o vs (setR k us L) = setR k us (setR o vs L)
  | [], _, _, _, _, _ => rfl
  | v :: vs, us, o, k, L, h => by
    simp only [List.length_cons] at h
    rw [setR, setR, ← setR_set us k o v L (by omega), setR_comm vs us (o + 1) k _ (by omega)]
theorem setsF_length (listed : Array Bool) (L : List Value) : ∀ js : List StE, (setsF listed js L).length = L.length
  | [] => rfl
  | j :: js => by
    unfold setsF
    cases listed.getD j.op false with
    | true => rw [cond_true, setR_length]; exact setsF_length listed L js
    | false => rw [cond_false]; exact setsF_length listed L js
theorem setsF_other {listed : Array Bool} {i : Nat} {L : List Value} : ∀ {js : List StE}, (∀ j ∈ js, j.op ≠ i) → setsF (listed.setIfInBounds i true) js L = setsF listed js L
  | [], _ => rfl
  | j :: js, h => by
    rw [setsF, setsF, ran_ne listed (Ne.symm (h j List.mem_cons_self)), setsF_other fun u hu => h u (List.mem_cons_of_mem _ hu)]
def apartB (js : List StE) : Bool := js.all fun j => js.all fun k => Nat.beq j.op k.op || (Nat.ble (j.off + j.vs.length) k.off || Nat.ble (k.off + k.vs.length) j.off)
theorem setsF_set {listed : Array Bool} {L : List Value} {j0 : StE} (hi : j0.op < listed.size) (h0 : listed.getD j0.op false = false) : ∀ {js : List StE}, (js.map (·.op)).Nodup → j0 ∈ js → (∀ k ∈ js, k.op = j0.op ∨ j0.off + j0.vs.length ≤ k.off ∨ k.off + k.vs.length ≤ j0.off) →
    setsF (listed.setIfInBounds j0.op true) js L = setR j0.off j0.vs (setsF listed js L)
  | j :: js, hn, hm, ha => by
    rw [List.map_cons, List.nodup_cons] at hn
    rcases List.mem_cons.1 hm with rfl | hm
    · rw [setsF, setsF, ran_same listed hi, h0, cond_true, cond_false, setsF_other fun u hu e => hn.1 (by rw [← e]; exact List.mem_map_of_mem hu)]
    · have hne : j0.op ≠ j.op := fun e => hn.1 (by rw [← e]; exact List.mem_map_of_mem hm)
      rw [setsF, setsF, ran_ne listed hne, setsF_set hi h0 hn.2 hm fun k hk => ha k (List.mem_cons_of_mem _ hk)]
      cases listed.getD j.op false with
      | true =>
        rw [cond_true, cond_true]
        refine setR_comm _ _ _ _ _ ?_
        rcases ha j List.mem_cons_self with h | h | h
        · exact absurd h.symm hne
        · exact .inr h
        · exact .inl h
      | false => rfl
theorem setsF_none {N : Nat} {L : List Value} : ∀ {js : List StE}, setsF (Array.replicate N false) js L = L
  | [] => rfl
  | j :: js => by rw [setsF, none_ran, cond_false, setsF_none]
theorem setsF_all {listed : Array Bool} {L : List Value} : ∀ {js : List StE}, (∀ j ∈ js, listed.getD j.op false = true) → setsF listed js L = setsA js L
  | [], _ => rfl
  | j :: js, h => by rw [setsF, setsA, h j List.mem_cons_self, cond_true, setsF_all fun u hu => h u (List.mem_cons_of_mem _ hu)]
/-- what a store must do. -/
def StoreE (ops : Array Oper) (n : Nat) (l : List (Nat × Value)) (g m : Nat) (j : StE) : Prop :=
  ∃ o, ops[j.op]? = some o ∧ o.dst = none ∧ ∀ (a : Act) (w : World) (L : List Value), Has a n l → Cells w g L → L.length = m → Region.wanted o (yielded ops a.tmps) = true ∧ ∃ w', (execOp a.eval o).run Tryd.prog w = .ok .skip w' ∧ w.grownBy w' (some g) ∧ w'.heap.size = w.heap.size ∧ Cells w' g (setR j.off j.vs L)
def StoreAll (ops : Array Oper) (n : Nat) (fixed : List (Nat × Value)) (es : List EntC) (g m : Nat) : List StE → Prop
  | [] => True
  | ⟨op, off, vs⟩ :: js => StoreE ops n (fixed ++ knownE (afts ops op) es) g m ⟨op, off, vs⟩ ∧ StoreAll ops n fixed es g m js
theorem store_at {ops : Array Oper} {n : Nat} {fixed : List (Nat × Value)} {es : List EntC} {g m : Nat} : ∀ {js : List StE}, StoreAll ops n fixed es g m js → ∀ j ∈ js, StoreE ops n (fixed ++ knownE (afts ops j.op) es) g m j
  | k :: js, h, j, hj => by
    rcases List.mem_cons.1 hj with rfl | hj
    · exact h.1
    · exact store_at h.2 j hj
section
variable {ops : Array Oper} {Q : Exit → Act → World → Prop} {n : Nat} {l fixed : List (Nat × Value)} {es : List EntC}
/-- the others' values, and what holds of the block. -/
theorem Has.ds {a : Act} {w W : World} {B : Nat} {bs : List (Nat × List Value)} {c : Code} {id : Nat} {Q' : Exit → Act → World → Prop} (H : Has a n l) (O : Own W B bs w) (i : Nat) {g : Nat} {L : List Value} (ss : List Nat) (hs : sel l ss = some fixed) (es : List EntC) (js : List StE) (hc : peel Tryd.prog c Q' = (.region id ops true, Q)) (hi : bs[i]? = some (g, L))
    (hp : PureAll ops Q n fixed (fun w => ∃ L', L'.length = L.length ∧ Own W B (bs.set i (g, L')) w) es es) (hst : StoreAll ops n fixed es g L.length js) (hfin : ∀ (a : Act) (w : World), Has a n (fixed ++ finV es) → Own W B (bs.set i (g, setsA js L)) w → Q .normal a w)
    (hf : (fitsB n fixed (es.map EntC.e) && (es.all plainB && (coverD ops.size es (js.map (·.op)) && Nat.ble ops.size 1000))) = true := by kernel_rfl) (hj : (apartB js && (decide (js.map (·.op)).Nodup && (js.all (fun j => Nat.blt j.op ops.size && es.all (fun t => t.op != j.op)) && es.all (fun t => Nat.blt t.op ops.size)))) = true := by kernel_rfl)
    (hback : (List.range ops.size).all (fun i => match ops[i]? with | some o => o.after.all (fun e => !Region.binds .any e || decide (e.on < i)) | none => true) = true := by kernel_rfl) (hm : Tryd.prog.follows .mixedOrders = true := by kernel_rfl) : c.wp Tryd.prog Q' a w := by
  simp only [Bool.and_eq_true, decide_eq_true_eq] at hf hj
  obtain ⟨hf, hpl, hcv, hN⟩ := hf
  obtain ⟨hap, hnd, hjl, hel⟩ := hj
  have hN : ops.size ≤ 1000 := by simpa using hN
  have hlt : ∀ j ∈ js, j.op < ops.size ∧ es.all (fun t => t.op != j.op) = true := fun j hj => by
    have := List.all_eq_true.1 hjl j hj
    simpa [Nat.blt_eq] using this
  have hel : ∀ t ∈ es, t.op < ops.size := fun t ht => by simpa [Nat.blt_eq] using List.all_eq_true.1 hel t ht
  have hpure : ∀ t ∈ es, ∃ v, t.c = some v ∧ t.arm = false := fun t ht => by
    have := List.all_eq_true.1 hpl t ht
    simp only [plainB, Bool.and_eq_true, Bool.not_eq_true'] at this
    obtain ⟨v, hv⟩ := Option.isSome_iff_exists.1 this.1
    exact ⟨v, hv, this.2⟩
  have hst' : ∀ {k : Nat} {listed : Array Bool} {w w' : World} {ts : List EntC}, (∀ t ∈ ts, t ∈ es) → AllC k listed w w' ts := by
    intro k listed w w' ts hts
    induction ts with
    | nil => trivial
    | cons t ts ih =>
      obtain ⟨v, hv, _⟩ := hpure t (hts t List.mem_cons_self)
      unfold AllC
      rw [hv]
      exact ih fun u hu => hts u (List.mem_cons_of_mem _ hu)
  have hli : i < bs.length := (List.getElem?_eq_some_iff.1 hi).1
  refine peel_wp c Q' ?_
  rw [hc]
  refine wp_region_invB hm (fun listed => InvB n fixed (es.map EntC.e) (fun w => Own W B (bs.set i (g, setsF listed js L)) w) listed) (back_of hback) ?_ ?_ ⟨H.sz, H.df, sel_ok H hs, ?_, ?_⟩
  · intro listed a w k o hsz hni hcl ho hd hI
    have hk : k < ops.size := (Array.getElem?_eq_some_iff.1 ho).1
    have hkk : afts ops k = o.after.toList := by unfold afts; rw [ho]
    have HH := Has.of hI.sz hI.df (AllEv.app hI.fx (known_ok hI hd fun _ h => h))
    by_cases hmem : k ∈ es.map (·.op)
    · obtain ⟨t, ht, he⟩ := List.mem_map.1 hmem
      subst he
      obtain ⟨v, hv, hm⟩ := hpure t ht
      have hO : Own W B (bs.set i (g, setsF (listed.setIfInBounds t.op true) js L)) w := by
        rw [setsF_other]
        · exact hI.wp
        · intro j hj e
          have := List.all_eq_true.1 (hlt j hj).2 t ht
          simp [e] at this
      have hK := hI.put (Wp' := fun w => Own W B (bs.set i (g, setsF (listed.setIfInBounds t.op true) js L)) w) hf t.e (List.mem_map_of_mem ht) (by rw [EntC.e_op, hsz]; exact hk) (by rw [hsz]; exact hN) v (by simp only [EntC.e, hv]) hO AllSt.same
      rw [EntC.e_op] at hK
      have hsl : t.e.slot = t.slot := by simp only [EntC.e, hv]
      rw [hsl] at hK
      have hp' := pure_at hp t ht v hv hm
      rw [hkk] at hp'
      exact hp' _ a w HH ⟨_, setsF_length _ _ _, hI.wp⟩ hK
    · have hkj : k ∈ js.map (·.op) := by
        have := List.all_eq_true.1 hcv k (List.mem_range.2 hk)
        simp only [Bool.or_eq_true] at this
        rcases this with h | h
        · obtain ⟨t, ht, he⟩ := List.any_eq_true.1 h
          exact absurd (List.mem_map.2 ⟨t, ht, by simpa using he⟩) hmem
        · simpa using h
      obtain ⟨j, hj, he⟩ := List.mem_map.1 hkj
      subst he
      obtain ⟨o', ho', hdst, hrun⟩ := store_at hst j hj
      rw [ho] at ho'
      injection ho' with ho'
      subst ho'
      rw [hkk] at hrun
      have hgi : (bs.set i (g, setsF listed js L))[i]? = some (g, setsF listed js L) := by simp [hli]
      obtain ⟨hwt, w', hr, hg, hs', hC⟩ := hrun a w _ HH (hI.wp.get i hgi) (setsF_length _ _ _)
      refine wpOp_do ho hwt hdst w' hr ?_
      refine hI.done j.op (by rw [hsz]; exact hk) ?_ ?_ (hst' fun _ h => h).all
      · refine List.all_eq_true.2 fun t ht => ?_
        obtain ⟨u, hu, rfl⟩ := List.mem_map.1 ht
        rw [EntC.e_op]
        exact List.all_eq_true.1 (hlt j hj).2 u hu
      · have := hI.wp.store i hgi hg hs' hC
        rw [List.set_set] at this
        rw [setsF_set (by rw [hsz]; exact hk) hni hnd hj]
        · exact this
        · intro k hk'
          have := List.all_eq_true.1 (List.all_eq_true.1 hap j hj) k hk'
          simp only [Bool.or_eq_true, Nat.ble_eq] at this
          rcases this with h | h | h
          · exact .inl (Nat.eq_of_beq_eq_true h).symm
          · exact .inr (.inl h)
          · exact .inr (.inr h)
  · intro listed a w hall hI
    have hO := hI.wp
    rw [setsF_all fun j hj => hall j.op (hlt j hj).1] at hO
    exact hfin a w (Has.of hI.sz hI.df (AllEv.app hI.fx (finV_ok hI (fun t ht => hall t.op (hel t ht)) fun _ h => h))) hO
  · intro u hu hl _
    obtain ⟨t, ht, rfl⟩ := List.mem_map.1 hu
    rw [EntC.e_op] at hl
    have := hel t ht
    rcases hl with hl | hl
    · rw [Array.size_replicate] at hl; omega
    · rw [none_ran] at hl; cases hl
  · rw [setsF_none]
    have : bs.set i (g, L) = bs := by
      refine List.ext_getElem? fun k => ?_
      rw [List.getElem?_set]
      by_cases e : i = k
      · subst e
        rw [if_pos rfl, if_pos hli, hi]
      · rw [if_neg e]
    rw [this]
    exact O.drew
/-- one cell is stored. -/
theorem q1 {T i off g m : Nat} {x y : Operand} {v : Value} {o : Oper} (hst : ∀ (w : World) (u : Value), w.cell? ⟨g, off, none⟩ = some u → w.frozen? ⟨g, off, none⟩ = false → (Instr.storeAt T (.pointer (some ⟨g, off, none⟩)) v).run Tryd.prog w = .ok () (w.setCell ⟨g, off, none⟩ v)) (ho : ops[i]? = some o := by rfl) (hp : o.op = .store T x y := by rfl)
    (hd : o.dst = none := by rfl) (hg : okG ops l o = true := by rfl) (hx : evL l x = some (.pointer (some ⟨g, off, none⟩)) := by rfl) (hy : evL l y = some v := by rfl) (hj : Nat.blt off m = true := by rfl) : StoreE ops n l g m ⟨i, off, [v]⟩ := by
  refine ⟨o, ho, hd, fun a w L H hC hl => ⟨okG_w H hg, ?_⟩⟩
  have hj' : off < L.length := by rw [hl]; simpa [Nat.blt_eq] using hj
  obtain ⟨c1, c2⟩ := hC off _ (List.getElem?_eq_getElem hj')
  exact ⟨_, run_store hp (H.ev hx) (H.ev hy) (hst w _ c1 c2), grown_setCell w g off v, size_setCell' _ _ _, hC.set off v hj'⟩
theorem q5 {i g m : Nat} {x y : Operand} {b c : Bool} {t u : ByteArray} {q : Int} {o : Oper} (ho : ops[i]? = some o := by rfl) (hp : o.op = .store 25 x y := by rfl) (hd : o.dst = none := by rfl) (hg : okG ops l o = true := by rfl) (hx : evL l x = some (.pointer (some ⟨g, 4, none⟩)) := by rfl)
    (hy : evL l y = some (.agg #[.bool b, .string t, .string u, .int .i64 q, .bool c]) := by rfl) (hj : Nat.blt 8 m = true := by rfl) : StoreE ops n l g m ⟨i, 4, [.bool b, .string t, .string u, .int .i64 q, .bool c]⟩ := by
  refine ⟨o, ho, hd, fun a w L H hC hl => ⟨okG_w H hg, ?_⟩⟩
  have hj' : 8 < L.length := by rw [hl]; simpa [Nat.blt_eq] using hj
  refine ⟨_, run_store hp (H.ev hx) (H.ev hy) (store_will g L b t u q c w hC hj'), ?_, ?_, ?_⟩
  · exact ((((grown_setCell w g 4 _).trans (grown_setCell _ g 5 _)).trans (grown_setCell _ g 6 _)).trans (grown_setCell _ g 7 _)).trans (grown_setCell _ g 8 _)
  · simp only [size_setCell']
  · exact ((((hC.set 4 _ (by omega)).set 5 _ (by simp only [List.length_set]; omega)).set 6 _ (by simp only [List.length_set]; omega)).set 7 _ (by simp only [List.length_set]; omega)).set 8 _ (by simp only [List.length_set]; omega)
/-- a whole struct is stored. -/
theorem q24 {i g : Nat} {x y : Operand} {L' : List Value} {T m : Nat} {o : Oper} (hm : (Tryd.prog.info? T).map (·.size) = some m) (h1 : L'.all (·.oneCell') = true := by rfl) (ho : ops[i]? = some o := by rfl) (hp : o.op = .store T x y := by rfl) (hd : o.dst = none := by rfl) (hg : okG ops l o = true := by rfl) (hx : evL l x = some (.pointer (some ⟨g, 0, none⟩)) := by rfl)
    (hy : evL l y = some (.agg L'.toArray) := by rfl) (hl' : L'.length = m := by rfl) : StoreE ops n l g m ⟨i, 0, L'⟩ := by
  refine ⟨o, ho, hd, fun a w L H hC hl => ⟨okG_w H hg, ?_⟩⟩
  have e : ∀ (vs L : List Value) (k : Nat), k + vs.length = L.length → setR k vs L = L.take k ++ vs := by
    intro vs
    induction vs with
    | nil => intro L k h; simp only [List.length_nil, Nat.add_zero] at h; rw [setR, h, List.take_length, List.append_nil]
    | cons v vs ih =>
      intro L k h
      simp only [List.length_cons] at h
      rw [setR, ih _ (k + 1) (by rw [List.length_set]; omega), List.take_set, List.take_succ_eq_append_getElem (by omega), List.set_append_right _ _ (by rw [List.length_take]; omega), List.length_take, Nat.min_eq_left (by omega), Nat.sub_self]
      simp
  have hs : setR 0 L' L = L' := by rw [e L' L 0 (by omega)]; rfl
  have ht : w.there g 0 L'.toArray.size := by
    have := hC.there
    rw [hl, ← hl'] at this
    simpa using this
  have hr := run_storeAt_mid w g 0 T L'.toArray ht (by rw [hm, ← hl']; simp) (all_oneCell_toArray fun v hv => List.all_eq_true.1 h1 v hv)
  refine ⟨_, run_store hp (H.ev hx) (H.ev hy) hr, (setCells_only g _ 0 w).2, ?_, ?_⟩
  · exact (setCells_only g L' 0 w).1.size
  · rw [hs]
    intro j v hv
    have hj := (List.getElem?_eq_some_iff.1 hv).1
    have a := World.rangeAt_setCells_same w g 0 L' (by simpa using ht) j v hv
    have b := (World.there_setCells (by simpa using ht) g 0 L' j hj).2
    rw [Nat.zero_add] at a b
    exact ⟨a, b⟩
end
end Go.Proofs.YtkcdkjpmbjcmdaaDoor

/-
  pack.only: what it answers at every packet.
-/
namespace Go.Proofs.YtkcdkjpmbjcmdaaDoor
open Go.RowKit

theorem Own.sto {W w : World} {B : Nat} {bs : List (Nat × List Value)} (O : Own W B bs w) (i : Nat) {g : Nat} {L0 L : List Value} {T m : Nat} (hi : bs[i]? = some (g, L0)) (hm : (Tryd.prog.info? T).map (·.size) = some m) (h0 : L0.length = m) (h1 : L.length = m) (hc : L.all (·.oneCell') = true) :
    ∃ w', (Instr.storeAt T (.pointer (some ⟨g, 0, none⟩)) (.agg L.toArray)).run Tryd.prog w = .ok () w' ∧ Own W B (bs.set i (g, L)) w' := by
  have hC := O.get i hi
  have ht : w.there g 0 L.toArray.size := by
    have := hC.there
    rw [h0, ← h1] at this
    simpa using this
  refine ⟨_, run_storeAt_mid w g 0 T L.toArray ht (by rw [hm, ← h1]; simp) (all_oneCell_toArray fun v hv => List.all_eq_true.1 hc v hv), O.store i hi (setCells_only g _ 0 w).2 (setCells_only g _ 0 w).1.size ?_⟩
  intro j v hv
  have hj := (List.getElem?_eq_some_iff.1 hv).1
  have a := World.rangeAt_setCells_same w g 0 L (by simpa using ht) j v hv
  have b := (World.there_setCells (by simpa using ht) g 0 L j hj).2
  rw [Nat.zero_add] at a b
  exact ⟨a, b⟩
theorem run_not (b : Bool) (w : World) : (Op.unary .not (.bool b)).run Tryd.prog w = .ok (.bool !b) w := by
  cases b <;> rfl
set_option maxRecDepth 100000 in
set_option maxHeartbeats 3200000 in
theorem packOnly (m : Mq) (vc vw vf : Value) (w : World) (hL : MqL w w.heap.size m vc vw vf) (hF : MqFit m) (hW : Wd w) :
    Calls Tryd.prog 72 #[.agg (mqCells m vc vw vf).toArray] w (Onlied m w) := by
  go_enter Tryd.func72, Tryd.ntmps72
  refine Has.start 144 [(0, .agg (mqCells m vc vw vf).toArray)] rfl rfl ⟨rfl, trivial⟩ ?_
  intro a0 H0
  have O0 := Own.start w
  refine rl ?_
  refine H0.bx O0 0 fun a1 w1 O1 H1 => ?_
  refine H1.al O1 1 zero_mq fun a3 w2 O2 H3 => nt ?_
  refine H3.rg 1 fun a4 H4 => ?_
  refine H4.ld 1 (O2.li 1 0) fun a6 H6 => ?_
  refine H6.sc O2 0 0 (fun u h f => store1_i _ _ _ u _ h f) fun a7 w3 O3 H7 => nt ?_
  refine H7.rg 1 fun a8 H8 => ?_
  refine H8.ld 0 (O3.li 1 20) fun a9 H9 => ?_
  refine H9.cq 1 (packWithin m.id 1 65535 _) fun a11 H11 => nt ?_
  refine H11.rg 1 fun a12 H12 => ?_
  refine H12.ld 0 (O3.li 1 0) fun a13 H13 => nt ?_
  obtain ⟨g1, hg1⟩ : ∃ g, w.heap.size = g := ⟨_, rfl⟩
  obtain ⟨g2, hg2⟩ : ∃ g, w1.heap.size = g := ⟨_, rfl⟩
  obtain ⟨i, hi⟩ : ∃ i, inRB m.id 1 65535 = i := ⟨_, rfl⟩
  have hE : ∀ (a : Act) (w' : World) (m' : Mq) (vc' vw' vf' : Value) (b : Bool) (L1 : List Value), Has a 144 [(2, .pointer (some ⟨g2, 0, none⟩)), (3, .bool b)] → Own w g1 [(g2, mqCells m' vc' vw' vf'), (g1, L1)] w' → onlyOf m = m' → okOf m = b → MqL w' w'.heap.size m' vc' vw' vf' →
      (results Tryd.f72 a.tmps).run Tryd.prog w' = .ok (.tuple #[.agg (mqCells m' vc' vw' vf').toArray, .bool b]) w' ∧ a.defers = [] ∧ Onlied m w (.returned (.tuple #[.agg (mqCells m' vc' vw' vf').toArray, .bool b])) w' := by
    intro a w' m' vc' vw' vf' b L1 H O ho hq hM
    exact ⟨results_two Tryd.results72 _ _ _ (H.at_ 2 _ rfl) (H.at_ 3 _ rfl) (O.get 0 rfl) Tryd.underlying30 rfl 24 size_mq rfl, H.df, onlied_of (by rw [ho]) hq.symm (by rw [ho]; exact hM) (hg1 ▸ O.bel)⟩
  have H14 := H13.keep (l' := [(1, .pointer (some ⟨w.heap.size, 0, none⟩)), (2, .pointer (some ⟨w1.heap.size, 0, none⟩)), (3, .bool false), (4, .bool (inRB m.id 1 65535)), (12, .int .i64 m.kind)]) ⟨rfl, rfl, rfl, rfl, rfl, trivial⟩
  have O := O3
  rw [hg1, hg2] at H14 O
  rw [hi] at H14
  clear H0 H1 H3 H4 H6 H7 H8 H9 H11 H12 H13 O0 O1 O2 O3
  refine wp_block ?_
  refine H14.rg 0 fun a1 H1 => ?_
  refine H1.bn 1 (eql_i _ _ _ _ _) fun a2 H2 => nt ?_
  refine H2.cond (t := m.kind == 1) rfl ?_
  cases b1 : (m.kind == 1) with
  | true =>
    have k1 : m.kind = 1 := by simpa using b1
    refine H2.rg 1 fun a17 H17 => ?_
    refine H17.ld 1 (O.li 1 0) fun a19 H19 => ?_
    refine H19.ld 1 (O.ls 1 1) fun a21 H21 => ?_
    refine H21.ld 1 (O.lb 1 2) fun a23 H23 => ?_
    refine H23.ld 1 (O.li 1 3) fun a25 H25 => ?_
    refine H25.ld 1 (load_will _ _ _ _ _ _ _ _ (O.get 1 rfl) rfl rfl rfl rfl rfl) fun a27 H27 => ?_
    refine H27.ld 1 (O.ls 1 9) fun a29 H29 => ?_
    refine H29.ld 1 (O.lb 1 10) fun a31 H31 => ?_
    refine H31.ld 1 (O.ls 1 11) fun a33 H33 => ?_
    refine H33.ld 0 (O.lb 1 12) fun a34 H34 => ?_
    obtain ⟨m', hm'⟩ : ∃ m', m' = { mq0 m.kind with client := m.client, clean := m.clean, keep := m.keep, won := m.won, wt := m.wt, wp := m.wp, wq := m.wq, wr := m.wr, user := m.user, hu := m.hu, pass := m.pass, hp := m.hp } := ⟨_, rfl⟩
    refine H34.any (w' := w3) gz rfl rfl (.agg (mqCells m' nilV nilV nilV).toArray) (by intro cs b h; cases h) (by kernel_rfl) (by rw [hm']; kernel_rfl) ?_
    intro a35 H35
    refine H35.st O 0 0 (hi := size_mq) fun a36 w4 O4 H36 => nt ?_
    refine H36.sg (fun w' => Own w g1 [(g2, mqCells m' nilV nilV nilV), (g1, mqCells m vc vw vf)] w') O4.drew [1, 2] [ec 0 34 (.agg (mqCells m' nilV nilV nilV).toArray), ec 1 35 (.agg (mqCells m vc vw vf).toArray), eh 2 36 (.bool (connectOk m))] rfl ?_
    refine St.sto 3 ⟨jl fun _ h => loadS_run (h.get 0 rfl), jl fun _ h => loadS_run (h.get 1 rfl), kb fun w' h => packConnectV m _ _ _ hF.client hF.wt hF.user w' (hW.below (hg1 ▸ h.bel)), trivial⟩ (hF := .inr fun _ _ h hb => h.call hb) ?_
    intro a wx H _ h
    obtain ⟨w', hr, hO⟩ := h.sto 0 (L := mqCells m' nilV nilV nilV) rfl size_mq rfl rfl rfl
    refine ⟨w', run_store rfl (H.ev rfl) (H.ev rfl) hr, nx0 (fun w' => Own w g1 [(g2, mqCells m' nilV nilV nilV), (g1, mqCells m vc vw vf)] w') [ec 4 3 (.bool (connectOk m))] [] hO ?_⟩
    refine St.fin ⟨jm, trivial⟩ (hF := .inr fun _ _ h hb => h.call hb) ?_
    intro a wx H _ h
    obtain ⟨q1, q2, q3⟩ := hE a wx m' _ _ _ _ _ (H.keep ⟨rfl, rfl, trivial⟩) h (by rw [hm']; unfold onlyOf; rw [if_pos k1]) (by unfold okOf; rw [if_pos k1]) (by subst hm'; exact MqL.nil rfl rfl rfl)
    refine then_normal (wp_ret ?_)
    repeat (first | (with_reducible refine block_ret ?_) | (with_reducible refine then_ret ?_))
    exact bodyPost_ret q1 q2 q3
  | false =>
  have n1 := kind_not b1
  refine H2.rg 0 fun a1 H1 => ?_
  refine H1.bn 1 (eql_i _ _ _ _ _) fun a2 H2 => nt ?_
  refine H2.cond (t := m.kind == 2) rfl ?_
  cases b2 : (m.kind == 2) with
  | true =>
    have k2 : m.kind = 2 := by simpa using b2
    refine H2.ds O 0 [1, 2] rfl [ec 0 39 (.pointer (some ⟨g1, 13, none⟩)), ec 1 40 (.bool m.present), ec 2 41 (.pointer (some ⟨g1, 14, none⟩)), ec 3 42 (.int .i64 m.code), ec 4 43 (.pointer (some ⟨g2, 13, none⟩)), ec 6 44 (.pointer (some ⟨g2, 14, none⟩))] [⟨7, 14, [(.int .i64 m.code)]⟩, ⟨5, 13, [(.bool m.present)]⟩] rfl rfl ⟨jm, jl fun _ ⟨_, _, h⟩ => load1_b _ _ _ _ ((h.get 1 rfl).get 13 _ rfl), jm, jl fun _ ⟨_, _, h⟩ => load1_i _ _ _ _ ((h.get 1 rfl).get 14 _ rfl), jm, jm, trivial⟩ ⟨q1 fun _ u h f => store1_i _ _ _ u _ h f, q1 fun _ u h f => store1_b _ _ _ u _ h f, trivial⟩ ?_
    intro a3 w4 H3 O4
    refine then_normal ?_
    obtain ⟨m', hm'⟩ : ∃ m', m' = { mq0 m.kind with present := m.present, code := m.code } := ⟨_, rfl⟩
    have O5 : Own w g1 [(g2, mqCells m' nilV nilV nilV), (g1, mqCells m vc vw vf)] w4 := by subst hm'; exact O4
    obtain ⟨i5, hi5⟩ : ∃ i, inRB m.code 0 5 = i := ⟨_, rfl⟩
    obtain ⟨p, hp⟩ : ∃ p, m.present = p := ⟨_, rfl⟩
    obtain ⟨z, hz⟩ : ∃ z, (m.code == 0) = z := ⟨_, rfl⟩
    refine H3.sg (fun w' => Own w g1 [(g2, mqCells m' nilV nilV nilV), (g1, mqCells m vc vw vf)] w') O5.drew [1, 2] [ec 0 45 (.agg (mqCells m' nilV nilV nilV).toArray), ec 1 46 (.pointer (some ⟨g1, 14, none⟩)), ec 2 47 (.int .i64 m.code), ec 3 48 (.bool i5), ec 4 49 (.bool i5), ec 5 50 (gv i5 (.pointer (some ⟨g1, 13, none⟩))), ec 6 51 (gv i5 (.bool p)), ec 7 52 (gv i5 (.bool !p)), ec 8 53 (gv i5 (.bool !p)), ec 9 54 (gv (i5 && p) (.pointer (some ⟨g1, 14, none⟩))), ec 10 55 (gv (i5 && p) (.int .i64 m.code)), ec 11 56 (gv (i5 && p) (.bool z)), ec 12 57 (gv i5 (.bool (!p || z))), ec 13 58 (.bool (i5 && (!p || z)))] rfl ?_
    refine St.sto 14 ⟨jl fun _ h => loadS_run (h.get 0 rfl), jm, jl fun _ h => load1_i _ _ _ _ ((h.get 1 rfl).get 14 _ rfl), jq fun w' _ => hi5 ▸ packWithin m.code 0 5 w', jm, (by cases i5; exact jo; exact jm), (by cases i5; exact jo; exact jl fun _ h => load1_b _ _ _ _ (hp ▸ (h.get 1 rfl).get 13 _ rfl)), (by cases i5; exact jo; exact ju (hq := run_not p)), (by cases i5; exact jo; exact jm), (by cases i5; exact jo; cases p; exact jo; exact jm), (by cases i5; exact jo; cases p; exact jo; exact jl fun _ h => load1_i _ _ _ _ ((h.get 1 rfl).get 14 _ rfl)), (by cases i5; exact jo; cases p; exact jo; exact jb fun _ => eql_iB _ _ _ hz _ _ _), (by cases i5; exact jo; cases p <;> exact jp), (by cases i5 <;> exact jp), trivial⟩ (hF := .inr fun _ _ h hb => h.call hb) ?_
    intro a wx H _ h
    obtain ⟨w', hr, hO⟩ := h.sto 0 (L := mqCells m' nilV nilV nilV) rfl size_mq rfl rfl rfl
    refine ⟨w', run_store rfl (H.ev rfl) (H.ev rfl) hr, nx0 (fun w' => Own w g1 [(g2, mqCells m' nilV nilV nilV), (g1, mqCells m vc vw vf)] w') [ec 15 3 (.bool (i5 && (!p || z)))] [] hO ?_⟩
    refine St.fin ⟨jm, (by cases i5; exact jo; cases p; exact jo; exact jm), (by cases i5; exact jo; cases p; exact jo; exact jl fun _ h => load1_i _ _ _ _ ((h.get 1 rfl).get 14 _ rfl)), (by cases i5; exact jo; cases p; exact jo; exact jb fun _ => eql_iB _ _ _ hz _ _ _), (by cases i5; exact jo; cases p <;> exact jp), (by cases i5 <;> exact jp), trivial⟩ (hF := .inr fun _ _ h hb => h.call hb) ?_
    intro a wx H _ h
    obtain ⟨q1, q2, q3⟩ := hE a wx m' _ _ _ _ _ (H.keep ⟨rfl, rfl, trivial⟩) h (by rw [hm']; unfold onlyOf; rw [if_neg n1, if_pos k2]) (by unfold okOf; rw [if_neg n1, if_pos k2, hi5, hp, hz]) (by subst hm'; exact MqL.nil rfl rfl rfl)
    refine then_normal (wp_ret ?_)
    repeat (first | (with_reducible refine block_ret ?_) | (with_reducible refine then_ret ?_))
    exact bodyPost_ret q1 q2 q3
  | false =>
  have n2 := kind_not b2
  refine H2.rg 0 fun a1 H1 => ?_
  refine H1.bn 1 (eql_i _ _ _ _ _) fun a2 H2 => nt ?_
  refine H2.cond (t := m.kind == 3) rfl ?_
  cases b3 : (m.kind == 3) with
  | true =>
    have k3 : m.kind = 3 := by simpa using b3
    refine H2.ds O 0 [1, 2] rfl [ec 0 61 (.pointer (some ⟨g1, 19, none⟩)), ec 1 62 (.string m.topic), ec 2 63 (.pointer (some ⟨g1, 17, none⟩)), ec 3 64 (.int .i64 m.qos), ec 4 65 (.pointer (some ⟨g1, 16, none⟩)), ec 5 66 (.bool m.dup), ec 6 67 (.pointer (some ⟨g1, 18, none⟩)), ec 7 68 (.bool m.retain), ec 8 69 (.pointer (some ⟨g1, 20, none⟩)), ec 9 70 (.int .i64 m.id), ec 10 71 (.pointer (some ⟨g1, 21, none⟩)), ec 11 72 (.string m.payload), ec 12 73 (.pointer (some ⟨g2, 19, none⟩)), ec 14 74 (.pointer (some ⟨g2, 17, none⟩)), ec 16 75 (.pointer (some ⟨g2, 16, none⟩)), ec 18 76 (.pointer (some ⟨g2, 18, none⟩)), ec 20 77 (.pointer (some ⟨g2, 20, none⟩)), ec 22 78 (.pointer (some ⟨g2, 21, none⟩))] [⟨23, 21, [(.string m.payload)]⟩, ⟨21, 20, [(.int .i64 m.id)]⟩, ⟨19, 18, [(.bool m.retain)]⟩, ⟨17, 16, [(.bool m.dup)]⟩, ⟨15, 17, [(.int .i64 m.qos)]⟩, ⟨13, 19, [(.string m.topic)]⟩] rfl rfl ⟨jm, jl fun _ ⟨_, _, h⟩ => load1_s _ _ _ _ ((h.get 1 rfl).get 19 _ rfl), jm, jl fun _ ⟨_, _, h⟩ => load1_i _ _ _ _ ((h.get 1 rfl).get 17 _ rfl), jm, jl fun _ ⟨_, _, h⟩ => load1_b _ _ _ _ ((h.get 1 rfl).get 16 _ rfl), jm, jl fun _ ⟨_, _, h⟩ => load1_b _ _ _ _ ((h.get 1 rfl).get 18 _ rfl), jm, jl fun _ ⟨_, _, h⟩ => load1_i _ _ _ _ ((h.get 1 rfl).get 20 _ rfl), jm, jl fun _ ⟨_, _, h⟩ => load1_s _ _ _ _ ((h.get 1 rfl).get 21 _ rfl), jm, jm, jm, jm, jm, jm, trivial⟩ ⟨q1 fun _ u h f => store1_s _ _ _ u _ h f, q1 fun _ u h f => store1_i _ _ _ u _ h f, q1 fun _ u h f => store1_b _ _ _ u _ h f, q1 fun _ u h f => store1_b _ _ _ u _ h f, q1 fun _ u h f => store1_i _ _ _ u _ h f, q1 fun _ u h f => store1_s _ _ _ u _ h f, trivial⟩ ?_
    intro a3 w4 H3 O4
    refine then_normal ?_
    obtain ⟨m', hm'⟩ : ∃ m', m' = { mq0 m.kind with topic := m.topic, qos := m.qos, dup := m.dup, retain := m.retain, id := m.id, payload := m.payload } := ⟨_, rfl⟩
    have O5 : Own w g1 [(g2, mqCells m' nilV nilV nilV), (g1, mqCells m vc vw vf)] w4 := by subst hm'; exact O4
    refine H3.sg (fun w' => Own w g1 [(g2, mqCells m' nilV nilV nilV), (g1, mqCells m vc vw vf)] w') O5.drew [1, 2] [ec 0 79 (.agg (mqCells m' nilV nilV nilV).toArray), ec 1 80 (.agg (mqCells m vc vw vf).toArray), eh 2 81 (.bool (publishOk m))] rfl ?_
    refine St.sto 3 ⟨jl fun _ h => loadS_run (h.get 0 rfl), jl fun _ h => loadS_run (h.get 1 rfl), kb fun w' h => packPublishV m _ _ _ hF.topic w' (hW.below (hg1 ▸ h.bel)), trivial⟩ (hF := .inr fun _ _ h hb => h.call hb) ?_
    intro a wx H _ h
    obtain ⟨w', hr, hO⟩ := h.sto 0 (L := mqCells m' nilV nilV nilV) rfl size_mq rfl rfl rfl
    refine ⟨w', run_store rfl (H.ev rfl) (H.ev rfl) hr, nx0 (fun w' => Own w g1 [(g2, mqCells m' nilV nilV nilV), (g1, mqCells m vc vw vf)] w') [ec 4 3 (.bool (publishOk m))] [] hO ?_⟩
    refine St.fin ⟨jm, trivial⟩ (hF := .inr fun _ _ h hb => h.call hb) ?_
    intro a wx H _ h
    obtain ⟨q1, q2, q3⟩ := hE a wx m' _ _ _ _ _ (H.keep ⟨rfl, rfl, trivial⟩) h (by rw [hm']; unfold onlyOf; rw [if_neg n1, if_neg n2, if_pos k3]) (by unfold okOf; rw [if_neg n1, if_neg n2, if_pos k3]) (by subst hm'; exact MqL.nil rfl rfl rfl)
    refine then_normal (wp_ret ?_)
    repeat (first | (with_reducible refine block_ret ?_) | (with_reducible refine then_ret ?_))
    exact bodyPost_ret q1 q2 q3
  | false =>
  have n3 := kind_not b3
  refine wp_seq_join (fun a w' => Has a 144 [(1, .pointer (some ⟨g1, 0, none⟩)), (2, .pointer (some ⟨g2, 0, none⟩)), (4, .bool i), (12, .int .i64 m.kind), (82, .bool (idKind m.kind))] ∧ w3 = w') ?_ ?_
  · refine H2.rg 0 fun a1 H1 => ?_
    refine H1.bn 1 (eql_i _ _ _ _ _) fun a2 H2 => nt ?_
    refine H2.cond (t := m.kind == 4) rfl ?_
    cases c4 : (m.kind == 4) with
    | true => exact skip_wp (then_normal ⟨H2.keep ⟨rfl, rfl, rfl, rfl, congrArg (fun b => some (Value.bool b)) (show (m.kind == 4) = idKind m.kind by unfold idKind; rw [c4]; rfl), trivial⟩, rfl⟩)
    | false =>
    refine H2.rg 0 fun a1 H1 => ?_
    refine H1.bn 1 (eql_i _ _ _ _ _) fun a2 H2 => nt ?_
    refine H2.cond (t := m.kind == 5) rfl ?_
    cases c5 : (m.kind == 5) with
    | true => exact skip_wp (then_normal ⟨H2.keep ⟨rfl, rfl, rfl, rfl, congrArg (fun b => some (Value.bool b)) (show (m.kind == 5) = idKind m.kind by unfold idKind; rw [c4, c5]; rfl), trivial⟩, rfl⟩)
    | false =>
    refine H2.rg 0 fun a1 H1 => ?_
    refine H1.bn 1 (eql_i _ _ _ _ _) fun a2 H2 => nt ?_
    refine H2.cond (t := m.kind == 6) rfl ?_
    cases c6 : (m.kind == 6) with
    | true => exact skip_wp (then_normal ⟨H2.keep ⟨rfl, rfl, rfl, rfl, congrArg (fun b => some (Value.bool b)) (show (m.kind == 6) = idKind m.kind by unfold idKind; rw [c4, c5, c6]; rfl), trivial⟩, rfl⟩)
    | false =>
    refine H2.rg 0 fun a1 H1 => ?_
    refine H1.bn 1 (eql_i _ _ _ _ _) fun a2 H2 => nt ?_
    refine H2.cond (t := m.kind == 7) rfl ?_
    cases c7 : (m.kind == 7) with
    | true => exact skip_wp (then_normal ⟨H2.keep ⟨rfl, rfl, rfl, rfl, congrArg (fun b => some (Value.bool b)) (show (m.kind == 7) = idKind m.kind by unfold idKind; rw [c4, c5, c6, c7]; rfl), trivial⟩, rfl⟩)
    | false =>
    refine H2.rg 0 fun a1 H1 => ?_
    refine H1.bn 1 (eql_i _ _ _ _ _) fun a2 H2 => nt ?_
    exact ⟨H2.keep ⟨rfl, rfl, rfl, rfl, congrArg (fun b => some (Value.bool b)) (by unfold idKind; rw [c4, c5, c6, c7]; rfl), trivial⟩, rfl⟩
  rintro a0 _ ⟨H0, rfl⟩
  clear H1 H2
  refine H0.cond (t := idKind m.kind) rfl ?_
  cases bi : idKind m.kind with
  | true =>
    refine H0.rg 1 fun a1 H1 => ?_
    refine H1.ld 1 (O.li 1 20) fun a2 H2 => ?_
    refine H2.sc O 0 0 (fun u h f => store1_i _ _ _ u _ h f) fun a3 w4 O4 H3 => nt ?_
    obtain ⟨m', hm'⟩ : ∃ m', m' = { mq0 m.kind with id := m.id } := ⟨_, rfl⟩
    have O5 : Own w g1 [(g2, mqCells m' nilV nilV nilV), (g1, mqCells m vc vw vf)] w4 := by subst hm'; exact O4
    refine rl ?_
    refine H3.lm O5 0 1 fun a4 H4 => ?_
    refine H4.st O5 0 1 (hi := size_mq) fun a5 w5 O6 H5 => nt ?_
    obtain ⟨q1, q2, q3⟩ := hE a5 w5 m' _ _ _ _ _ (H5.keep ⟨rfl, rfl, trivial⟩) O6 (by rw [hm']; unfold onlyOf; rw [if_neg n1, if_neg n2, if_neg n3, if_pos bi]) (by unfold okOf; rw [if_neg n1, if_neg n2, if_neg n3, if_pos bi, hi]) (by subst hm'; exact MqL.nil rfl rfl rfl)
    refine wp_ret ?_
    repeat (first | (with_reducible refine block_ret ?_) | (with_reducible refine then_ret ?_))
    exact bodyPost_ret q1 q2 q3
  | false =>
  have ni : ¬ idKind m.kind = true := by rw [bi]; decide
  refine H0.rg 0 fun a1 H1 => ?_
  refine H1.bn 1 (eql_i _ _ _ _ _) fun a2 H2 => nt ?_
  refine H2.cond (t := m.kind == 8) rfl ?_
  cases b8 : (m.kind == 8) with
  | true =>
    have k8 : m.kind = 8 := by simpa using b8
    obtain ⟨A1, c1, A2, c2, A3, c3, rfl, rfl, rfl, l1, l2, l3, k1', k2', k3', r1, r2, r3⟩ := id hL
    refine H2.ds O 0 [1, 2, 4] rfl [ec 0 95 (.pointer (some ⟨g1, 20, none⟩)), ec 1 96 (.int .i64 m.id), ec 2 97 (.pointer (some ⟨g1, 22, none⟩)), ec 3 98 (.slice A2 m.wishes.length c2), ec 4 99 (.pointer (some ⟨g2, 20, none⟩)), ec 6 100 (.pointer (some ⟨g2, 22, none⟩))] [⟨7, 22, [(.slice A2 m.wishes.length c2)]⟩, ⟨5, 20, [(.int .i64 m.id)]⟩] rfl rfl ⟨jm, jl fun _ ⟨_, _, h⟩ => load1_i _ _ _ _ ((h.get 1 rfl).get 20 _ rfl), jm, jl fun _ ⟨_, _, h⟩ => load1_27 _ _ _ _ _ _ ((h.get 1 rfl).get 22 _ rfl), jm, jm, trivial⟩ ⟨q1 fun _ u h f => store1_27 _ _ _ _ _ u _ h f, q1 fun _ u h f => store1_i _ _ _ u _ h f, trivial⟩ ?_
    intro a3 w4 H3 O4
    refine then_normal ?_
    obtain ⟨m', hm'⟩ : ∃ m', m' = { mq0 m.kind with id := m.id, wishes := m.wishes } := ⟨_, rfl⟩
    have O5 : Own w g1 [(g2, mqCells m' nilV (.slice A2 m.wishes.length c2) nilV), (g1, mqCells m (.slice A1 m.codes.length c1) (.slice A2 m.wishes.length c2) (.slice A3 m.filters.length c3))] w4 := by subst hm'; exact O4
    refine H3.sg (fun w' => Own w g1 [(g2, mqCells m' nilV (.slice A2 m.wishes.length c2) nilV), (g1, mqCells m (.slice A1 m.codes.length c1) (.slice A2 m.wishes.length c2) (.slice A3 m.filters.length c3))] w') O5.drew [1, 2, 4] [ec 0 101 (.agg (mqCells m' nilV (.slice A2 m.wishes.length c2) nilV).toArray), ec 1 102 (.bool i), ec 2 103 (.bool i), ec 3 104 (gv i (.pointer (some ⟨g1, 22, none⟩))), ec 4 105 (gv i (.slice A2 m.wishes.length c2)), eh 5 106 (gv i (.bool (wishesOk m.wishes))), ec 6 107 (.bool (i && wishesOk m.wishes))] rfl ?_
    refine St.sto 7 ⟨jl fun _ h => loadS_run (h.get 0 rfl), jm, jm, (by cases i; exact jo; exact jm), (by cases i; exact jo; exact jl fun _ h => load1_27 _ _ _ _ _ _ ((h.get 1 rfl).get 22 _ rfl)), (by cases i; exact ko; exact kb fun w' h => packWishes m.wishes _ rfl hF.wishes A2 c2 k2' w' (hW.below (hg1 ▸ h.bel)) (r2.next (hg1 ▸ h.bel))), (by cases i <;> exact jp), trivial⟩ (hF := .inr fun _ _ h hb => h.call hb) ?_
    intro a wx H _ h
    obtain ⟨w', hr, hO⟩ := h.sto 0 (L := mqCells m' nilV (.slice A2 m.wishes.length c2) nilV) rfl size_mq rfl rfl rfl
    refine ⟨w', run_store rfl (H.ev rfl) (H.ev rfl) hr, nx0 (fun w' => Own w g1 [(g2, mqCells m' nilV (.slice A2 m.wishes.length c2) nilV), (g1, mqCells m (.slice A1 m.codes.length c1) (.slice A2 m.wishes.length c2) (.slice A3 m.filters.length c3))] w') [ec 8 3 (.bool (i && wishesOk m.wishes))] [] hO ?_⟩
    refine St.fin ⟨jm, (by cases i <;> exact jp), trivial⟩ (hF := .inr fun _ _ h hb => h.call hb) ?_
    intro a wx H _ h
    obtain ⟨q1, q2, q3⟩ := hE a wx m' _ _ _ _ _ (H.keep ⟨rfl, rfl, trivial⟩) h (by rw [hm']; unfold onlyOf; rw [if_neg n1, if_neg n2, if_neg n3, if_neg ni, if_pos k8]) (by unfold okOf; rw [if_neg n1, if_neg n2, if_neg n3, if_neg ni, if_pos k8, hi]) (by subst hm'; exact (hL.next (hg1 ▸ h.bel)).onlyW rfl rfl rfl)
    refine then_normal (wp_ret ?_)
    repeat (first | (with_reducible refine block_ret ?_) | (with_reducible refine then_ret ?_))
    exact bodyPost_ret q1 q2 q3
  | false =>
  have n8 := kind_not b8
  replace H0 := H2
  clear H1 H2
  refine H0.rg 0 fun a1 H1 => ?_
  refine H1.bn 1 (eql_i _ _ _ _ _) fun a2 H2 => nt ?_
  refine H2.cond (t := m.kind == 9) rfl ?_
  cases b9 : (m.kind == 9) with
  | true =>
    have k9 : m.kind = 9 := by simpa using b9
    obtain ⟨A1, c1, A2, c2, A3, c3, rfl, rfl, rfl, l1, l2, l3, k1', k2', k3', r1, r2, r3⟩ := id hL
    refine H2.ds O 0 [1, 2, 4] rfl [ec 0 110 (.pointer (some ⟨g1, 20, none⟩)), ec 1 111 (.int .i64 m.id), ec 2 112 (.pointer (some ⟨g1, 15, none⟩)), ec 3 113 (.slice A1 m.codes.length c1), ec 4 114 (.pointer (some ⟨g2, 20, none⟩)), ec 6 115 (.pointer (some ⟨g2, 15, none⟩))] [⟨7, 15, [(.slice A1 m.codes.length c1)]⟩, ⟨5, 20, [(.int .i64 m.id)]⟩] rfl rfl ⟨jm, jl fun _ ⟨_, _, h⟩ => load1_i _ _ _ _ ((h.get 1 rfl).get 20 _ rfl), jm, jl fun _ ⟨_, _, h⟩ => load1_26 _ _ _ _ _ _ ((h.get 1 rfl).get 15 _ rfl), jm, jm, trivial⟩ ⟨q1 fun _ u h f => store1_26 _ _ _ _ _ u _ h f, q1 fun _ u h f => store1_i _ _ _ u _ h f, trivial⟩ ?_
    intro a3 w4 H3 O4
    refine then_normal ?_
    obtain ⟨m', hm'⟩ : ∃ m', m' = { mq0 m.kind with id := m.id, codes := m.codes } := ⟨_, rfl⟩
    have O5 : Own w g1 [(g2, mqCells m' (.slice A1 m.codes.length c1) nilV nilV), (g1, mqCells m (.slice A1 m.codes.length c1) (.slice A2 m.wishes.length c2) (.slice A3 m.filters.length c3))] w4 := by subst hm'; exact O4
    refine H3.sg (fun w' => Own w g1 [(g2, mqCells m' (.slice A1 m.codes.length c1) nilV nilV), (g1, mqCells m (.slice A1 m.codes.length c1) (.slice A2 m.wishes.length c2) (.slice A3 m.filters.length c3))] w') O5.drew [1, 2, 4] [ec 0 116 (.agg (mqCells m' (.slice A1 m.codes.length c1) nilV nilV).toArray), ec 1 117 (.bool i), ec 2 118 (.bool i), ec 3 119 (gv i (.pointer (some ⟨g1, 15, none⟩))), ec 4 120 (gv i (.slice A1 m.codes.length c1)), eh 5 121 (gv i (.bool (codesOk m.codes))), ec 6 122 (.bool (i && codesOk m.codes))] rfl ?_
    refine St.sto 7 ⟨jl fun _ h => loadS_run (h.get 0 rfl), jm, jm, (by cases i; exact jo; exact jm), (by cases i; exact jo; exact jl fun _ h => load1_26 _ _ _ _ _ _ ((h.get 1 rfl).get 15 _ rfl)), (by cases i; exact ko; exact kb fun w' h => (packCodes m.codes _ rfl A1 c1 k1' w' (r1.next (hg1 ▸ h.bel))).mono fun _ _ h => ⟨h.1, h.2 ▸ Below.refl _ _⟩), (by cases i <;> exact jp), trivial⟩ (hF := .inr fun _ _ h hb => h.call hb) ?_
    intro a wx H _ h
    obtain ⟨w', hr, hO⟩ := h.sto 0 (L := mqCells m' (.slice A1 m.codes.length c1) nilV nilV) rfl size_mq rfl rfl rfl
    refine ⟨w', run_store rfl (H.ev rfl) (H.ev rfl) hr, nx0 (fun w' => Own w g1 [(g2, mqCells m' (.slice A1 m.codes.length c1) nilV nilV), (g1, mqCells m (.slice A1 m.codes.length c1) (.slice A2 m.wishes.length c2) (.slice A3 m.filters.length c3))] w') [ec 8 3 (.bool (i && codesOk m.codes))] [] hO ?_⟩
    refine St.fin ⟨jm, (by cases i <;> exact jp), trivial⟩ (hF := .inr fun _ _ h hb => h.call hb) ?_
    intro a wx H _ h
    obtain ⟨q1, q2, q3⟩ := hE a wx m' _ _ _ _ _ (H.keep ⟨rfl, rfl, trivial⟩) h (by rw [hm']; unfold onlyOf; rw [if_neg n1, if_neg n2, if_neg n3, if_neg ni, if_neg n8, if_pos k9]) (by unfold okOf; rw [if_neg n1, if_neg n2, if_neg n3, if_neg ni, if_neg n8, if_pos k9, hi]) (by subst hm'; exact (hL.next (hg1 ▸ h.bel)).onlyC rfl rfl rfl)
    refine then_normal (wp_ret ?_)
    repeat (first | (with_reducible refine block_ret ?_) | (with_reducible refine then_ret ?_))
    exact bodyPost_ret q1 q2 q3
  | false =>
  have n9 := kind_not b9
  replace H0 := H2
  clear H1 H2
  refine H0.rg 0 fun a1 H1 => ?_
  refine H1.bn 1 (eql_i _ _ _ _ _) fun a2 H2 => nt ?_
  refine H2.cond (t := m.kind == 10) rfl ?_
  cases b10 : (m.kind == 10) with
  | true =>
    have k10 : m.kind = 10 := by simpa using b10
    obtain ⟨A1, c1, A2, c2, A3, c3, rfl, rfl, rfl, l1, l2, l3, k1', k2', k3', r1, r2, r3⟩ := id hL
    refine H2.ds O 0 [1, 2, 4] rfl [ec 0 125 (.pointer (some ⟨g1, 20, none⟩)), ec 1 126 (.int .i64 m.id), ec 2 127 (.pointer (some ⟨g1, 23, none⟩)), ec 3 128 (.slice A3 m.filters.length c3), ec 4 129 (.pointer (some ⟨g2, 20, none⟩)), ec 6 130 (.pointer (some ⟨g2, 23, none⟩))] [⟨7, 23, [(.slice A3 m.filters.length c3)]⟩, ⟨5, 20, [(.int .i64 m.id)]⟩] rfl rfl ⟨jm, jl fun _ ⟨_, _, h⟩ => load1_i _ _ _ _ ((h.get 1 rfl).get 20 _ rfl), jm, jl fun _ ⟨_, _, h⟩ => load1_28 _ _ _ _ _ _ ((h.get 1 rfl).get 23 _ rfl), jm, jm, trivial⟩ ⟨q1 fun _ u h f => store1_28 _ _ _ _ _ u _ h f, q1 fun _ u h f => store1_i _ _ _ u _ h f, trivial⟩ ?_
    intro a3 w4 H3 O4
    refine then_normal ?_
    obtain ⟨m', hm'⟩ : ∃ m', m' = { mq0 m.kind with id := m.id, filters := m.filters } := ⟨_, rfl⟩
    have O5 : Own w g1 [(g2, mqCells m' nilV nilV (.slice A3 m.filters.length c3)), (g1, mqCells m (.slice A1 m.codes.length c1) (.slice A2 m.wishes.length c2) (.slice A3 m.filters.length c3))] w4 := by subst hm'; exact O4
    refine H3.sg (fun w' => Own w g1 [(g2, mqCells m' nilV nilV (.slice A3 m.filters.length c3)), (g1, mqCells m (.slice A1 m.codes.length c1) (.slice A2 m.wishes.length c2) (.slice A3 m.filters.length c3))] w') O5.drew [1, 2, 4] [ec 0 131 (.agg (mqCells m' nilV nilV (.slice A3 m.filters.length c3)).toArray), ec 1 132 (.bool i), ec 2 133 (.bool i), ec 3 134 (gv i (.pointer (some ⟨g1, 23, none⟩))), ec 4 135 (gv i (.slice A3 m.filters.length c3)), eh 5 136 (gv i (.bool (filtersOk m.filters))), ec 6 137 (.bool (i && filtersOk m.filters))] rfl ?_
    refine St.sto 7 ⟨jl fun _ h => loadS_run (h.get 0 rfl), jm, jm, (by cases i; exact jo; exact jm), (by cases i; exact jo; exact jl fun _ h => load1_28 _ _ _ _ _ _ ((h.get 1 rfl).get 23 _ rfl)), (by cases i; exact ko; exact kb fun w' h => packFilters m.filters _ rfl hF.filters A3 c3 k3' w' (hW.below (hg1 ▸ h.bel)) (r3.next (hg1 ▸ h.bel))), (by cases i <;> exact jp), trivial⟩ (hF := .inr fun _ _ h hb => h.call hb) ?_
    intro a wx H _ h
    obtain ⟨w', hr, hO⟩ := h.sto 0 (L := mqCells m' nilV nilV (.slice A3 m.filters.length c3)) rfl size_mq rfl rfl rfl
    refine ⟨w', run_store rfl (H.ev rfl) (H.ev rfl) hr, nx0 (fun w' => Own w g1 [(g2, mqCells m' nilV nilV (.slice A3 m.filters.length c3)), (g1, mqCells m (.slice A1 m.codes.length c1) (.slice A2 m.wishes.length c2) (.slice A3 m.filters.length c3))] w') [ec 8 3 (.bool (i && filtersOk m.filters))] [] hO ?_⟩
    refine St.fin ⟨jm, (by cases i <;> exact jp), trivial⟩ (hF := .inr fun _ _ h hb => h.call hb) ?_
    intro a wx H _ h
    obtain ⟨q1, q2, q3⟩ := hE a wx m' _ _ _ _ _ (H.keep ⟨rfl, rfl, trivial⟩) h (by rw [hm']; unfold onlyOf; rw [if_neg n1, if_neg n2, if_neg n3, if_neg ni, if_neg n8, if_neg n9, if_pos k10]) (by unfold okOf; rw [if_neg n1, if_neg n2, if_neg n3, if_neg ni, if_neg n8, if_neg n9, if_pos k10, hi]) (by subst hm'; exact (hL.next (hg1 ▸ h.bel)).onlyF rfl rfl rfl)
    refine then_normal (wp_ret ?_)
    repeat (first | (with_reducible refine block_ret ?_) | (with_reducible refine then_ret ?_))
    exact bodyPost_ret q1 q2 q3
  | false =>
  have n10 := kind_not b10
  replace H0 := H2
  clear H1 H2
  refine wp_seq_join (fun a w' => Has a 144 [(1, .pointer (some ⟨g1, 0, none⟩)), (2, .pointer (some ⟨g2, 0, none⟩)), (138, .bool (bareKind m.kind))] ∧ w3 = w') ?_ ?_
  · refine H0.rg 0 fun a1 H1 => ?_
    refine H1.bn 1 (eql_i _ _ _ _ _) fun a2 H2 => nt ?_
    refine H2.cond (t := m.kind == 12) rfl ?_
    cases c12 : (m.kind == 12) with
    | true => exact skip_wp (then_normal ⟨H2.keep ⟨rfl, rfl, congrArg (fun b => some (Value.bool b)) (show (m.kind == 12) = bareKind m.kind by unfold bareKind; rw [c12]; rfl), trivial⟩, rfl⟩)
    | false =>
    refine H2.rg 0 fun a1 H1 => ?_
    refine H1.bn 1 (eql_i _ _ _ _ _) fun a2 H2 => nt ?_
    refine H2.cond (t := m.kind == 13) rfl ?_
    cases c13 : (m.kind == 13) with
    | true => exact skip_wp (then_normal ⟨H2.keep ⟨rfl, rfl, congrArg (fun b => some (Value.bool b)) (show (m.kind == 13) = bareKind m.kind by unfold bareKind; rw [c12, c13]; rfl), trivial⟩, rfl⟩)
    | false =>
    refine H2.rg 0 fun a1 H1 => ?_
    refine H1.bn 1 (eql_i _ _ _ _ _) fun a2 H2 => nt ?_
    exact ⟨H2.keep ⟨rfl, rfl, congrArg (fun b => some (Value.bool b)) (by unfold bareKind; rw [c12, c13]; rfl), trivial⟩, rfl⟩
  rintro a0 _ ⟨H0, rfl⟩
  obtain ⟨m', hm'⟩ : ∃ m', m' = mq0 m.kind := ⟨_, rfl⟩
  have O5 : Own w g1 [(g2, mqCells m' nilV nilV nilV), (g1, mqCells m vc vw vf)] w3 := by subst hm'; exact O
  refine H0.cond (t := bareKind m.kind) rfl ?_
  cases bb : bareKind m.kind with
  | true =>
    refine rl ?_
    refine H0.lm O5 0 0 fun a4 H4 => ?_
    refine H4.st O5 0 1 (hi := size_mq) fun a5 w5 O6 H5 => nt ?_
    obtain ⟨q1, q2, q3⟩ := hE a5 w5 m' _ _ _ _ _ (H5.keep ⟨rfl, rfl, trivial⟩) O6 (by rw [hm']; unfold onlyOf; rw [if_neg n1, if_neg n2, if_neg n3, if_neg ni, if_neg n8, if_neg n9, if_neg n10]) (by unfold okOf; rw [if_neg n1, if_neg n2, if_neg n3, if_neg ni, if_neg n8, if_neg n9, if_neg n10, bb]) (by subst hm'; exact MqL.nil rfl rfl rfl)
    refine wp_ret ?_
    repeat (first | (with_reducible refine block_ret ?_) | (with_reducible refine then_ret ?_))
    exact bodyPost_ret q1 q2 q3
  | false =>
    refine skip_wp (block_normal (then_normal ?_))
    refine rl ?_
    refine H0.lm O5 0 0 fun a4 H4 => ?_
    refine H4.st O5 0 1 (hi := size_mq) fun a5 w5 O6 H5 => nt ?_
    obtain ⟨q1, q2, q3⟩ := hE a5 w5 m' _ _ _ _ _ (H5.keep ⟨rfl, rfl, trivial⟩) O6 (by rw [hm']; unfold onlyOf; rw [if_neg n1, if_neg n2, if_neg n3, if_neg ni, if_neg n8, if_neg n9, if_neg n10]) (by unfold okOf; rw [if_neg n1, if_neg n2, if_neg n3, if_neg ni, if_neg n8, if_neg n9, if_neg n10, bb]) (by subst hm'; exact MqL.nil rfl rfl rfl)
    refine wp_ret ?_
    repeat (first | (with_reducible refine block_ret ?_) | (with_reducible refine then_ret ?_))
    exact bodyPost_ret q1 q2 q3
end Go.Proofs.YtkcdkjpmbjcmdaaDoor

/-
  pack.May, pack.Check.
-/
namespace Go.Proofs.YtkcdkjpmbjcmdaaDoor
open Go.RowKit

/-- may a packet be? -/
def mayBb (m : Mq) : Bool := okOf m && Mq.same m (onlyOf m)
theorem mayBb_iff (m : Mq) : mayBb m = true ↔ mayB m := by
  unfold mayBb mayB
  rw [Bool.and_eq_true, same_iff]
theorem onlyC (m : Mq) (vc vw vf : Value) (w : World) (b : Bool) (hb : okOf m = b) (hL : MqL w w.heap.size m vc vw vf) (hF : MqFit m) (hW : Wd w) :
    Calls Tryd.prog 72 #[.agg (mqCells m vc vw vf).toArray] w fun e w' => ∃ v, e = .returned v ∧ (∃ vc' vw' vf', v = .tuple #[.agg (mqCells (onlyOf m) vc' vw' vf').toArray, .bool b] ∧ MqL w' w'.heap.size (onlyOf m) vc' vw' vf' ∧ Below w.heap.size w w') := by
  subst hb
  refine (packOnly m vc vw vf w hL hF hW).mono ?_
  rintro e w' ⟨vc', vw', vf', rfl, hM, hB⟩
  exact ⟨_, rfl, vc', vw', vf', rfl, hM, hB⟩
set_option maxRecDepth 100000 in
set_option maxHeartbeats 1600000 in
theorem may_true (m : Mq) (vc vw vf : Value) (w : World) (hL : MqL w w.heap.size m vc vw vf) (hF : MqFit m) (hW : Wd w) (hb0 : okOf m = true) :
    Calls Tryd.prog 48 #[.agg (mqCells m vc vw vf).toArray] w fun e w' => e = .returned (.bool (mayBb m)) ∧ Below w.heap.size w w' := by
  have hm : mayBb m = Mq.same m (onlyOf m) := by unfold mayBb; rw [hb0]; rfl
  go_enter Tryd.func48, Tryd.ntmps48
  refine Has.start 16 [(0, .agg (mqCells m vc vw vf).toArray)] rfl rfl ⟨rfl, trivial⟩ ?_
  intro a0 H0
  have O0 := Own.start w
  refine rl ?_
  refine H0.bx O0 1 fun a2 w1 O1 H2 => nt ?_
  refine rl ?_
  refine H2.lm O1 0 0 fun a3 H3 => ?_
  refine H3.cl (onlyC m _ _ _ _ true hb0 (hL.next O1.bel) hF (hW.below O1.bel)) ?_
  rintro a4 _ w2 ⟨vc', vw', vf', rfl, hM, hb⟩ H4
  have O2 := O1.call hb
  clear hb
  refine H4.ms 1 fun a5 H5 => ?_
  refine H5.ex 0 fun a6 H6 => ?_
  refine H6.ex 0 fun a7 H7 => ?_
  have hM1 := hM
  refine H7.alloc rfl rfl rfl rfl _ zero_mq ?_
  intro a8 w3 hb hs hC H8
  have O3 := O2.alloc hb hs hC
  have hbA := hb
  clear hb hs hC
  obtain ⟨_, _, _, _, _, _, e1, e2, e3, _⟩ := id hM
  refine H8.storeS rfl rfl rfl rfl rfl (O3.get 0 rfl) size_mq rfl rfl (by subst e1 e2 e3; rfl) ?_
  intro a9 w4 H9 hg hs hC
  have O4 := O3.store 0 rfl hg hs hC
  have hgA := hg
  clear hg hs hC
  have hbm := hbA.grown hgA hbA.size (fun k hk => by injection hk with hk; rw [← hk]; exact Nat.le_refl _)
  refine H9.ms 1 fun a10 H10 => nt ?_
  refine H10.rg 2 fun a12 H12 => ?_
  refine H12.go (H12.wt rfl rfl rfl) rfl rfl _ (run_load rfl (H12.ev rfl) (loadS_run ((O4.get 1 rfl)))) ?_
  intro a13 H13
  refine H13.go (H13.wt rfl rfl rfl) rfl rfl _ (run_load rfl (H13.ev rfl) (loadS_run ((O4.get 0 rfl)))) ?_
  intro a14 H14
  refine H14.call (H14.wt rfl rfl rfl) rfl rfl rfl rfl (fun _ _ => by kernel_rfl) (belowC (packSame m (onlyOf m) _ _ _ _ _ _ _ (hL.next O4.bel) (hM.next hbm))) ?_
  rintro a15 _ w5 ⟨rfl, hb⟩ H15
  have O5 := O4.call hb
  clear hb
  refine H15.pick gz rfl rfl rfl rfl rfl ?_
  intro a16 H16
  refine H16.ms 1 fun a17 H17 => nt ?_
  refine wp_ret ?_
  repeat (first | (with_reducible refine block_ret ?_) | (with_reducible refine then_ret ?_))
  refine bodyPost_ret (results_tmp rfl _ _ _) H17.df ⟨?_, O5.bel⟩
  rw [hm]
  exact congrArg Ending.returned (H17.at_ 2 _ rfl)
set_option maxRecDepth 100000 in
set_option maxHeartbeats 1600000 in
theorem may_false (m : Mq) (vc vw vf : Value) (w : World) (hL : MqL w w.heap.size m vc vw vf) (hF : MqFit m) (hW : Wd w) (hb0 : okOf m = false) :
    Calls Tryd.prog 48 #[.agg (mqCells m vc vw vf).toArray] w fun e w' => e = .returned (.bool (mayBb m)) ∧ Below w.heap.size w w' := by
  have hm : mayBb m = false := by unfold mayBb; rw [hb0]; rfl
  go_enter Tryd.func48, Tryd.ntmps48
  refine Has.start 16 [(0, .agg (mqCells m vc vw vf).toArray)] rfl rfl ⟨rfl, trivial⟩ ?_
  intro a0 H0
  have O0 := Own.start w
  refine rl ?_
  refine H0.bx O0 1 fun a2 w1 O1 H2 => nt ?_
  refine rl ?_
  refine H2.lm O1 0 0 fun a3 H3 => ?_
  refine H3.cl (onlyC m _ _ _ _ false hb0 (hL.next O1.bel) hF (hW.below O1.bel)) ?_
  rintro a4 _ w2 ⟨vc', vw', vf', rfl, hM, hb⟩ H4
  have O2 := O1.call hb
  clear hb
  refine H4.ms 1 fun a5 H5 => ?_
  refine H5.ex 0 fun a6 H6 => ?_
  refine H6.ex 0 fun a7 H7 => ?_
  have hM1 := hM
  refine H7.alloc rfl rfl rfl rfl _ zero_mq ?_
  intro a8 w3 hb hs hC H8
  have O3 := O2.alloc hb hs hC
  have hbA := hb
  clear hb hs hC
  obtain ⟨_, _, _, _, _, _, e1, e2, e3, _⟩ := id hM
  refine H8.storeS rfl rfl rfl rfl rfl (O3.get 0 rfl) size_mq rfl rfl (by subst e1 e2 e3; rfl) ?_
  intro a9 w4 H9 hg hs hC
  have O4 := O3.store 0 rfl hg hs hC
  have hgA := hg
  clear hg hs hC
  have hbm := hbA.grown hgA hbA.size (fun k hk => by injection hk with hk; rw [← hk]; exact Nat.le_refl _)
  refine H9.ms 1 fun a10 H10 => nt ?_
  refine H10.rg 2 fun a12 H12 => ?_
  refine H12.off rfl rfl rfl rfl rfl ?_
  intro a13 H13
  refine H13.off rfl rfl rfl rfl rfl ?_
  intro a14 H14
  refine H14.off rfl rfl rfl rfl rfl ?_
  intro a15 H15
  refine H15.pick gz rfl rfl rfl rfl rfl ?_
  intro a16 H16
  refine H16.ms 1 fun a17 H17 => nt ?_
  refine wp_ret ?_
  repeat (first | (with_reducible refine block_ret ?_) | (with_reducible refine then_ret ?_))
  refine bodyPost_ret (results_tmp rfl _ _ _) H17.df ⟨?_, O4.bel⟩
  rw [hm]
  exact congrArg Ending.returned (H17.at_ 2 _ rfl)
theorem packMay (m : Mq) (vc vw vf : Value) (w : World) (hL : MqL w w.heap.size m vc vw vf) (hF : MqFit m) (hW : Wd w) :
    Calls Tryd.prog 48 #[.agg (mqCells m vc vw vf).toArray] w fun e w' => e = .returned (.bool (mayBb m)) ∧ Below w.heap.size w w' := by
  cases hb : okOf m
  · exact may_false m vc vw vf w hL hF hW hb
  · exact may_true m vc vw vf w hL hF hW hb
set_option maxRecDepth 100000 in
set_option maxHeartbeats 1600000 in
theorem packCheck (m : Mq) (vc vw vf : Value) (w : World) (hL : MqL w w.heap.size m vc vw vf) (hF : MqFit m) (hW : Wd w) :
    Calls Tryd.prog 27 #[.agg (mqCells m vc vw vf).toArray] w fun e w' => e = .returned (.int .i64 (if mayBb m then 0 else 1)) ∧ Below w.heap.size w w' := by
  cases hb : mayBb m
  · go_enter Tryd.func27, Tryd.ntmps27
    refine Has.start 6 [(0, .agg (mqCells m vc vw vf).toArray)] rfl rfl ⟨rfl, trivial⟩ ?_
    intro a0 H0
    have O0 := Own.start w
    refine rl ?_
    refine H0.bx O0 1 fun a2 w1 O1 H2 => nt ?_
    refine rl ?_
    refine H2.lm O1 0 0 fun a3 H3 => ?_
    refine H3.cl (belowC (hb ▸ packMay m _ _ _ _ (hL.next O1.bel) hF (hW.below O1.bel))) ?_
    rintro a4 _ w2 ⟨rfl, hb⟩ H4
    have O2 := O1.call hb
    clear hb
    refine H4.uo 0 fun a5 H5 => nt ?_
    repeat (refine wp_seq ?_)
    refine H5.condT rfl ?_
    refine H5.rg 1 fun a6 H6 => nt ?_
    refine wp_ret ?_
    repeat (first | (with_reducible refine block_ret ?_) | (with_reducible refine then_ret ?_))
    exact bodyPost_ret (results_tmp rfl _ _ _) H6.df ⟨congrArg Ending.returned (H6.at_ 2 _ rfl), O2.bel⟩
  · go_enter Tryd.func27, Tryd.ntmps27
    refine Has.start 6 [(0, .agg (mqCells m vc vw vf).toArray)] rfl rfl ⟨rfl, trivial⟩ ?_
    intro a0 H0
    have O0 := Own.start w
    refine rl ?_
    refine H0.bx O0 1 fun a2 w1 O1 H2 => nt ?_
    refine rl ?_
    refine H2.lm O1 0 0 fun a3 H3 => ?_
    refine H3.cl (belowC (hb ▸ packMay m _ _ _ _ (hL.next O1.bel) hF (hW.below O1.bel))) ?_
    rintro a4 _ w2 ⟨rfl, hb⟩ H4
    have O2 := O1.call hb
    clear hb
    refine H4.uo 0 fun a5 H5 => nt ?_
    repeat (refine wp_seq ?_)
    refine H5.condF rfl ?_
    refine skip_wp ?_
    refine then_normal ?_
    refine H5.rg 1 fun a6 H6 => nt ?_
    refine wp_ret ?_
    repeat (first | (with_reducible refine block_ret ?_) | (with_reducible refine then_ret ?_))
    exact bodyPost_ret (results_tmp rfl _ _ _) H6.df ⟨congrArg Ending.returned (H6.at_ 2 _ rfl), O2.bel⟩
end Go.Proofs.YtkcdkjpmbjcmdaaDoor

/-
  pack.Lay, pack.Bytes.
-/
namespace Go.Proofs.YtkcdkjpmbjcmdaaDoor
open Go.RowKit

theorem or16 (k f : Nat) (hf : f < 16) : (16 * k ||| f) = 16 * k + f := (Nat.two_pow_add_eq_or_of_lt (i := 4) (by omega) k).symm
theorem shl4 (k : Int) (h0 : 0 ≤ k) (h1 : k ≤ 14) (x y : Operand) (w : World) : (do eqGuard .shl 3 x y (.int .i64 k) (.int .u64 4); binOp .shl 3 (.int .i64 k) (.int .u64 4) : Sem Value).run Tryd.prog w = .ok (.int .i64 ((16 * k.toNat : Nat) : Int)) w := by
  have e : IntKind.i64.wrap (k * 16) = ((16 * k.toNat : Nat) : Int) := by rw [IntWalk.i64_in _ (by omega)]; omega
  simp [go_sem]
  rw [e]
  omega
theorem shr7 (n : Nat) (_h : n < 16384) (x y : Operand) (w : World) : (do eqGuard .shr 3 x y (.int .i64 (n : Int)) (.int .u64 7); binOp .shr 3 (.int .i64 (n : Int)) (.int .u64 7) : Sem Value).run Tryd.prog w = .ok (.int .i64 ((n / 128 : Nat) : Int)) w := by
  simp [go_sem]
set_option maxRecDepth 100000 in
theorem or128_u8 (x : Fin 256) : bits .or .u8 (x.val : Int) 128 = ((x.val % 128 + 128 : Nat) : Int) := by
  revert x
  decide
theorem or128 (n : Nat) (x y : Operand) (w : World) : (do eqGuard .or 5 x y (.int .u8 ((n : Int) % 256)) (.int .u8 128); binOp .or 5 (.int .u8 ((n : Int) % 256)) (.int .u8 128) : Sem Value).run Tryd.prog w = .ok (.int .u8 ((n % 128 + 128 : Nat) : Int)) w := by
  have e := or128_u8 ⟨n % 256, by omega⟩
  have e2 : (((⟨n % 256, by omega⟩ : Fin 256).val : Nat) : Int) = (n : Int) % 256 := by simp
  have e3 : n % 256 % 128 = n % 128 := by omega
  simp only [e3] at e
  rw [← e]
  simp [go_sem]
theorem bv_nat (n : Nat) (h : n < 256) : Value.int .u8 (n : Int) = bv (UInt8.ofNat n) := by
  unfold bv
  rw [UInt8.toNat_ofNat', Nat.mod_eq_of_lt (by simpa using h)]
theorem vlen_step (n : Nat) (h : 128 ≤ n) : vlen n = UInt8.ofNat (n % 128 + 128) :: vlen (n / 128) := by
  conv => lhs; unfold vlen
  rw [if_neg (by omega)]
theorem vlen_pos (n : Nat) : 0 < (vlen n).length := by
  unfold vlen
  split <;> simp
/-- a literal of bytes is a row of one's own. -/
theorem row_lit (w : World) (b : Nat) (hb : b ≤ w.heap.size) (xs : List UInt8) (vs : List Value) (h : vs = xs.map bv) (k : Nat) (hk : xs.length = k) (hm : k ≤ 1000) : RowIs b xs (.slice (some ⟨w.heap.size, 0, none⟩) k k) (w.alloc (.cells vs.toArray 5)) := by
  subst hk h
  refine ⟨_, _, rfl, by simp, .inr ⟨w.heap.size, xs.length, _, rfl, hb, heap_alloc_new w _, Nat.le_refl _, ?_, by simp, ?_⟩⟩
  · unfold maxLen; omega
  · rw [Nat.mul_one, List.take_of_length_le (by simp)]
theorem Has.lit {P : Program} {ops : Array Oper} {rest : List Oper} {o : Oper} {a : Act} {w : World} {Q : Exit → Act → World → Prop} {n : Nat} {l : List (Nat × Value)} (H : Has a n l) (hw : Region.wanted o (yielded ops a.tmps) = true) {d k : Nat} (hd : o.dst = some d) (hn : Nat.blt d n = true) (xs : List UInt8) (vs : List Value) (hxs : vs = xs.map bv) (hk : xs.length = k) (_e : TypeId) (hs : ∀ cs b, o.op ≠ .select cs b) (hops : o.op.operands.all (fun x => (evL l x).isSome) = true)
    (hrun : (execOp (fun x => (evL l x).getD undef) o).run P w = .ok (.value (.slice (some ⟨w.heap.size, 0, none⟩) k k)) (w.alloc (.cells vs.toArray 5))) {b : Nat} (hb : b ≤ w.heap.size) (h : ∀ a' v w', Has a' n ((d, v) :: l) → RowIs b xs v w' → Below w.heap.size w w' → wpList P ops Q rest a' w') (hm : k ≤ 1000 := by decide) : wpList P ops Q (o :: rest) a w :=
  H.go hw hd hn _ (run_any H hs hops hrun) (fun a' H' => h a' _ _ H' (row_lit w b hb xs vs hxs k hk hm) (balloc w _))
theorem bodyC (m : Mq) (vc vw vf : Value) (w : World) (hm : mayB m) (hL : MqL w w.heap.size m vc vw vf) :
    Calls Tryd.prog 74 #[.agg (mqCells m vc vw vf).toArray] w fun e w' => ∃ v, e = .returned v ∧ (∃ vb, v = .tuple #[.int .i64 ((flagsBy m : Nat) : Int), vb] ∧ BytesAre (bodyBy m) vb w' ∧ Below w.heap.size w w') := by
  refine (packBody m vc vw vf w hm hL).mono ?_
  rintro e w' ⟨v, rfl, hB, hb⟩
  exact ⟨_, rfl, v, rfl, hB, hb⟩
set_option maxRecDepth 100000 in
set_option maxHeartbeats 3200000 in
theorem packLay (m : Mq) (vc vw vf : Value) (w : World) (hm : mayB m) (hL : MqL w w.heap.size m vc vw vf) :
    Calls Tryd.prog 49 #[.agg (mqCells m vc vw vf).toArray] w (Laid (layB m) w) := by
  have hbl := body_le hm.1
  have hfl := flagsBy_le hm.1
  have hkk := may_kind hm.1
  have hor : ((16 * m.kind.toNat : Nat) ||| flagsBy m) = 16 * m.kind.toNat + flagsBy m := or16 _ _ (by omega)
  go_enter Tryd.func49, Tryd.ntmps49
  refine Has.start 38 [(0, .agg (mqCells m vc vw vf).toArray)] rfl rfl ⟨rfl, trivial⟩ ?_
  intro a0 H0
  have O0 := Own.start w
  refine rl ?_
  refine H0.bx O0 1 fun a2 w1 O1 H2 => nt ?_
  refine rl ?_
  refine H2.lm O1 0 0 fun a3 H3 => ?_
  refine H3.cl (bodyC m _ _ _ _ hm (hL.next O1.bel)) ?_
  rintro a4 _ w2 ⟨vb, rfl, hB, hb⟩ H4
  have O2 := O1.call hb
  clear hb
  obtain ⟨Ab, cb', rfl, hrb⟩ := hB
  have HB2 := Base.of O2
  obtain ⟨b0, hb0⟩ : ∃ b0, b0 = w2.heap.size := ⟨_, rfl⟩
  rw [← hb0] at HB2
  have hb0' := hb0
  clear hb0
  rw [← hb0'] at hrb
  refine H4.ms 1 fun a5 H5 => ?_
  refine H5.ex (r := .int .i64 ((flagsBy m : Nat) : Int)) 0 fun a6 H6 => ?_
  refine H6.ex (r := .slice Ab (bodyBy m).length cb') 2 fun a9 H9 => nt ?_
  refine H9.rg 1 fun a10 H10 => ?_
  refine H10.ld 0 (HB2.own.li 0 0) fun a11 H11 => ?_
  refine H11.bb 1 rfl rfl rfl rfl rfl rfl (shl4 _ (by omega) (by omega) _ _ _) rfl fun a13 H13 => ?_
  refine H13.bb 0 rfl rfl rfl rfl rfl rfl (or_i _ _ (by omega) (by omega) _ _ _) rfl fun a14 H14 => ?_
  refine H14.cv 0 (conv_u8 _ _) fun a15 H15 => ?_
  refine H15.lit gz rfl rfl [UInt8.ofNat (16 * m.kind.toNat + flagsBy m)] [.int .u8 ((((16 * m.kind.toNat : Nat) ||| flagsBy m : Nat) : Int) % 256)] (by rw [hor, byte_of_int _ (by omega)]; rfl) (k := 1) rfl 5 (by intro cs b h; cases h) (by kernel_rfl) (by kernel_rfl) HB2.bw ?_
  intro a16 v18 w3 H16 R18 hb
  have HB3 := HB2.call hb
  have hrb := hrb.below (hb.mono HB2.bw)
  clear hb
  refine H16.ms 1 fun a17 H17 => nt ?_
  refine H17.rg 1 fun a18 H18 => ?_
  refine H18.len gz rfl rfl rfl rfl Tryd.underlying31 ?_
  intro a19 H19
  refine H19.ms 1 fun a20 H20 => nt ?_
  repeat (refine wp_seq ?_)
  refine wp_block ?_
  refine wp_loop_up 2 (fun k a w' => ∃ n pre v, k < 2 ∧ n < 128 ^ (2 - k) ∧ vlen (bodyBy m).length = pre ++ vlen n ∧ pre.length ≤ 2 ∧ Has a 38 [(1, .pointer (some ⟨w.heap.size, 0, none⟩)), (4, .slice Ab (bodyBy m).length cb'), (5, v), (6, .int .i64 ((n : Nat) : Int))] ∧ RowIs b0 ([UInt8.ofNat (16 * m.kind.toNat + flagsBy m)] ++ pre) v w' ∧ RB w' b0 Ab (bodyBy m) ∧ Base w b0 [(w.heap.size, (mqCells m vc vw vf))] w') ?_ ?_
  · exact ⟨_, [], _, by omega, by omega, rfl, by simp, H20.keep ⟨rfl, rfl, rfl, rfl, trivial⟩, by simpa using R18, hrb, HB3⟩
  · rintro k a21 w4 hkn ⟨n, pre, v5, hk2, hn, hpre, hpl, H21, R5, hrb, HB4⟩
    have hn2 : n < 16384 := by
      rcases Nat.lt_or_ge k 1 with h | h
      · obtain rfl : k = 0 := by omega
        omega
      · obtain rfl : k = 1 := by omega
        omega
    by_cases hlt : 128 ≤ n
    · skip
      have hk0 : k = 0 := by
        rcases Nat.lt_or_ge k 1 with h | h
        · omega
        · obtain rfl : k = 1 := by omega
          omega
      subst hk0
      refine H21.rg 1 fun a22 H22 => ?_
      refine H22.bb 0 rfl rfl rfl rfl rfl rfl (geq_i _ _ true (by simp; omega) _ _ _) rfl fun a23 H23 => nt ?_
      repeat (refine wp_seq ?_)
      refine H23.condT rfl ?_
      refine skip_wp ?_
      refine then_normal ?_
      repeat (refine wp_seq ?_)
      refine wp_block ?_
      refine H23.rg 2 fun a25 H25 => ?_
      refine H25.cv 0 (conv_u8 _ _) fun a26 H26 => ?_
      refine H26.bn 0 (or128 n _ _ _) fun a27 H27 => ?_
      refine H27.lit gz rfl rfl [UInt8.ofNat (n % 128 + 128)] [.int .u8 ((n % 128 + 128 : Nat) : Int)] (by rw [bv_nat _ (by omega)]; rfl) (k := 1) rfl 5 (by intro cs b h; cases h) (by kernel_rfl) (by kernel_rfl) HB4.bw ?_
      intro a28 v29 w5 H28 R29 hb
      have HB5 := HB4.call hb
      have R5 := R5.below hb
      have hrb := hrb.below (hb.mono HB4.bw)
      clear hb
      refine H28.appendRow Tryd.underlying31 info_u8 gz rfl rfl rfl rfl rfl R5 R29.read (by simp; omega) HB5.bw ?_
      intro a29 v30 w6 H29 R30 hb _
      have HB6 := HB5.step hb
      have hrb := hrb.below hb
      clear hb
      refine H29.ms 1 fun a30 H30 => ?_
      refine wpList_nil ?_
      refine block_normal ?_
      refine then_normal ?_
      refine H30.rg 1 fun a31 H31 => ?_
      refine H31.bn 1 (shr7 n hn2 _ _ _) fun a33 H33 => nt ?_
      refine ⟨by omega, n / 128, pre ++ [UInt8.ofNat (n % 128 + 128)], _, by omega, by omega, ?_, ?_, H33.keep ⟨rfl, rfl, rfl, rfl, trivial⟩, (by rw [← List.append_assoc]; exact R30), hrb, HB6⟩
      · rw [hpre, vlen_step _ hlt, List.append_assoc]; rfl
      · have : pre = [] := by
          have h1 := congrArg List.length hpre
          rw [vlen_step _ hlt] at h1
          have h2 := vlen_le (bodyBy m).length (by omega)
          have h3 := vlen_pos (n / 128)
          simp only [List.length_append, List.length_cons] at h1
          exact List.eq_nil_of_length_eq_zero (by omega)
        rw [this]; simp
    · skip
      refine H21.rg 1 fun a22 H22 => ?_
      refine H22.bb 0 rfl rfl rfl rfl rfl rfl (geq_i _ _ false (by simp; omega) _ _ _) rfl fun a23 H23 => nt ?_
      repeat (refine wp_seq ?_)
      refine H23.condF rfl ?_
      refine wp_exit ?_
      repeat (with_reducible refine then_exit ?_)
      refine block_leave ?_
      refine then_normal ?_
      refine H23.rg 2 fun a25 H25 => ?_
      refine H25.cv 0 (conv_u8 _ _) fun a26 H26 => ?_
      refine H26.lit gz rfl rfl [UInt8.ofNat n] [.int .u8 ((n : Int) % 256)] (by rw [byte_of_int _ (by omega)]; rfl) (k := 1) rfl 5 (by intro cs b h; cases h) (by kernel_rfl) (by kernel_rfl) HB4.bw ?_
      intro a27 v34 w5 H27 R34 hb
      have HB5 := HB4.call hb
      have R5 := R5.below hb
      have hrb := hrb.below (hb.mono HB4.bw)
      clear hb
      refine H27.appendRow Tryd.underlying31 info_u8 gz rfl rfl rfl rfl rfl R5 R34.read (by simp; omega) HB5.bw ?_
      intro a28 v35 w6 H28 R35 hb _
      have HB6 := HB5.step hb
      have hrb := hrb.below hb
      clear hb
      refine H28.ms 1 fun a29 H29 => ?_
      refine H29.appendRow Tryd.underlying31 info_u8 gz rfl rfl rfl rfl rfl R35 ⟨_, _, rfl, hrb.more HB6.bw⟩ (by simp; omega) HB6.bw ?_
      intro a30 v37 w7 H30 R37 hb _
      have HB7 := HB6.step hb
      have hrb := hrb.below hb
      clear hb
      refine H30.ms 1 fun a31 H31 => nt ?_
      refine wp_ret ?_
      repeat (first | (with_reducible refine block_ret ?_) | (with_reducible refine then_ret ?_))
      refine bodyPost_ret (results_tmp rfl _ _ _) H31.df ⟨_, congrArg Ending.returned (H31.at_ 2 _ rfl), ?_, HB7.own.bel⟩
      have e : layB m = (([UInt8.ofNat (16 * m.kind.toNat + flagsBy m)] ++ pre) ++ [UInt8.ofNat n]) ++ bodyBy m := by
        unfold layB; rw [hpre, vlen_short _ (by omega)]; simp
      rw [e]; exact R37.base HB7.hb
/-- what 'Bytes' answers. -/
def BytesSaid (m : Mq) (w : World) (e : Ending) (w' : World) : Prop :=
  (mayB m ∧ ∃ v, e = .returned (.tuple #[v, .int .i64 0]) ∧ RowIs w.heap.size (layB m) v w' ∧ Below w.heap.size w w') ∨ (¬ mayB m ∧ e = .returned (.tuple #[.slice none 0 0, .int .i64 1]) ∧ Below w.heap.size w w')
set_option maxRecDepth 100000 in
set_option maxHeartbeats 3200000 in
theorem packBytes (m : Mq) (vc vw vf : Value) (w : World) (hL : MqL w w.heap.size m vc vw vf) (hF : MqFit m) (hW : Wd w) :
    Calls Tryd.prog 24 #[.agg (mqCells m vc vw vf).toArray] w (BytesSaid m w) := by
  cases hb : mayBb m
  · go_enter Tryd.func24, Tryd.ntmps24
    refine Has.start 9 [(0, .agg (mqCells m vc vw vf).toArray)] rfl rfl ⟨rfl, trivial⟩ ?_
    intro a0 H0
    have O0 := Own.start w
    refine rl ?_
    refine H0.bx O0 2 fun a3 w1 O1 H3 => nt ?_
    refine rl ?_
    refine H3.lm O1 0 0 fun a4 H4 => ?_
    refine H4.cl (belowC (hb ▸ packMay m _ _ _ _ (hL.next O1.bel) hF (hW.below O1.bel))) ?_
    rintro a5 _ w2 ⟨rfl, hb⟩ H5
    have O2 := O1.call hb
    clear hb
    refine H5.uo 0 fun a6 H6 => nt ?_
    repeat (refine wp_seq ?_)
    refine H6.condT rfl ?_
    refine H6.rg 2 fun a8 H8 => nt ?_
    refine wp_ret ?_
    repeat (first | (with_reducible refine block_ret ?_) | (with_reducible refine then_ret ?_))
    exact bodyPost_ret (results_pair rfl _ _ _ (H8.at_ 2 _ rfl) (H8.at_ 3 _ rfl)) H8.df (.inr ⟨(fun h => by rw [(mayBb_iff m).2 h] at hb; cases hb), rfl, O2.bel⟩)
  · go_enter Tryd.func24, Tryd.ntmps24
    refine Has.start 9 [(0, .agg (mqCells m vc vw vf).toArray)] rfl rfl ⟨rfl, trivial⟩ ?_
    intro a0 H0
    have O0 := Own.start w
    refine rl ?_
    refine H0.bx O0 2 fun a3 w1 O1 H3 => nt ?_
    refine rl ?_
    refine H3.lm O1 0 0 fun a4 H4 => ?_
    refine H4.cl (belowC (hb ▸ packMay m _ _ _ _ (hL.next O1.bel) hF (hW.below O1.bel))) ?_
    rintro a5 _ w2 ⟨rfl, hb⟩ H5
    have O2 := O1.call hb
    clear hb
    refine H5.uo 0 fun a6 H6 => nt ?_
    repeat (refine wp_seq ?_)
    have hmay := (mayBb_iff m).1 hb
    refine H6.condF rfl ?_
    refine skip_wp ?_
    refine then_normal ?_
    refine rl ?_
    refine H6.lm O2 0 0 fun a7 H7 => ?_
    refine H7.cl ((packLay m _ _ _ _ hmay (hL.next O2.bel)).mono fun _ _ h => h.row (Nat.le_refl _)) ?_
    rintro a8 vr w3 ⟨hR, hb2⟩ H8
    have O3 := O2.call hb2
    refine H8.ms 2 fun a10 H10 => nt ?_
    refine wp_ret ?_
    repeat (first | (with_reducible refine block_ret ?_) | (with_reducible refine then_ret ?_))
    exact bodyPost_ret (results_pair rfl _ _ _ (H10.at_ 2 _ rfl) (H10.at_ 3 _ rfl)) H10.df (.inl ⟨hmay, vr, rfl, hR.base O2.le, O3.bel⟩)
end Go.Proofs.YtkcdkjpmbjcmdaaDoor

/-
  pack.size: how long a packet is.
-/
namespace Go.Proofs.YtkcdkjpmbjcmdaaDoor
open Go.RowKit

/-- a scope with two labels, 0 that is jumped back to, and 1. -/
def Exit.two (J0 J1 : Act → World → Prop) (Q : Exit → Act → World → Prop) : Exit → Act → World → Prop
  | .goto l, a, w => (l = 0 ∧ J0 a w) ∨ (l = 1 ∧ J1 a w)
  | e, a, w => Q e a w
section
variable {P : Program} {a : Act} {w : World} {Q : Exit → Act → World → Prop} {J0 J1 : Act → World → Prop}
theorem two_ret (h : Q .ret a w) : Exit.two J0 J1 Q .ret a w := h
theorem two_goto0 (h : J0 a w) : Exit.two J0 J1 Q (.goto 0) a w := .inl ⟨rfl, h⟩
theorem two_goto1 (h : J1 a w) : Exit.two J0 J1 Q (.goto 1) a w := .inr ⟨rfl, h⟩
theorem then_goto {next : Act → World → Prop} {l : Nat} (h : Q (.goto l) a w) : Exit.then next Q (.goto l) a w := h
theorem label_wp {l : Nat} (h : Q .normal a w) : (Code.label l).wp P Q a w := wp_label h
theorem wp_scope_two {c r0 r1 : Code} (hf0 : findLabel c 0 = some (.seq .skip r0)) (hf1 : findLabel c 1 = some (.seq .skip r1)) (N : Nat) (J : Nat → Act → World → Prop) (J1 : Act → World → Prop)
    (first : (∀ k a w, k ≤ N → J k a w → r0.wp P (Exit.two (fun a w => ∃ k, k ≤ N ∧ J k a w) J1 Q) a w) → c.wp P (Exit.two (fun a w => ∃ k, k ≤ N ∧ J k a w) J1 Q) a w)
    (pass : ∀ k a w, k ≤ N → J k a w → r0.wp P (Exit.two (fun a w => k < N ∧ J (k + 1) a w) J1 Q) a w)
    (last : ∀ a w, J1 a w → r1.wp P (Exit.two (fun _ _ => False) (fun _ _ => False) Q) a w) : (Code.scope c).wp P Q a w := by
  have hp0 := pass
  have pass : ∀ k a w, k ≤ N → J k a w → (Code.seq .skip r0).wp P (Exit.two (fun a w => k < N ∧ J (k + 1) a w) J1 Q) a w := fun k a w hk hJ => wp_seq (wp_skip (then_normal (pass k a w hk hJ)))
  have last : ∀ a w, J1 a w → (Code.seq .skip r1).wp P (Exit.two (fun _ _ => False) (fun _ _ => False) Q) a w := fun a w hJ => wp_seq (wp_skip (then_normal (last a w hJ)))
  intro b k cs
  have hg0 : gotoIn 0 (.inScope c :: k) = some (.code (.seq .skip r0) :: .inScope c :: k) := by simp [gotoIn, hf0]
  have hg1 : gotoIn 1 (.inScope c :: k) = some (.code (.seq .skip r1) :: .inScope c :: k) := by simp [gotoIn, hf1]
  have key1 : ∀ a w, J1 a w → ∃ e a' w', Q e a' w' ∧ Arrives P (lone (b.at a (.code (.seq .skip r1) :: .inScope c :: k)) cs w) b k cs e a' w' := by
    intro a w hJ
    obtain ⟨e, a₁, w₁, hq, harr⟩ := last a w hJ b (.inScope c :: k) cs
    cases e with
    | normal => exact ⟨.normal, a₁, w₁, hq, Steps.trans harr (.one step_inScope)⟩
    | exit id => exact ⟨.exit id, a₁, w₁, hq, fun k' hk => harr k' (by simp [exitTo, hk])⟩
    | goto l' => rcases hq with ⟨_, h⟩ | ⟨_, h⟩ <;> exact h.elim
    | ret => exact ⟨_, a₁, w₁, hq, harr⟩
    | panic ch => exact ⟨_, a₁, w₁, hq, harr⟩
    | outgrown => exact ⟨_, a₁, w₁, hq, harr⟩
  have key0 : ∀ n i a w, N - i = n → i ≤ N → J i a w → ∃ e a' w', Q e a' w' ∧ Arrives P (lone (b.at a (.code (.seq .skip r0) :: .inScope c :: k)) cs w) b k cs e a' w' := by
    intro n
    induction n using Nat.strongRecOn with
    | _ n ih =>
      intro i a w hn hi hJ
      obtain ⟨e, a₁, w₁, hq, harr⟩ := pass i a w hi hJ b (.inScope c :: k) cs
      cases e with
      | normal => exact ⟨.normal, a₁, w₁, hq, Steps.trans harr (.one step_inScope)⟩
      | exit id => exact ⟨.exit id, a₁, w₁, hq, fun k' hk => harr k' (by simp [exitTo, hk])⟩
      | goto l' =>
        rcases hq with ⟨rfl, hlt, hJ'⟩ | ⟨rfl, hJ'⟩
        · obtain ⟨e₂, a₂, w₂, hq₂, harr₂⟩ := ih (N - (i + 1)) (by omega) (i + 1) a₁ w₁ rfl (by omega) hJ'
          exact ⟨e₂, a₂, w₂, hq₂, .of_steps (harr _ hg0) harr₂⟩
        · obtain ⟨e₂, a₂, w₂, hq₂, harr₂⟩ := key1 a₁ w₁ hJ'
          exact ⟨e₂, a₂, w₂, hq₂, .of_steps (harr _ hg1) harr₂⟩
      | ret => exact ⟨_, a₁, w₁, hq, harr⟩
      | panic ch => exact ⟨_, a₁, w₁, hq, harr⟩
      | outgrown => exact ⟨_, a₁, w₁, hq, harr⟩
  have hp : ∀ k a w, k ≤ N → J k a w → r0.wp P (Exit.two (fun a w => ∃ k, k ≤ N ∧ J k a w) J1 Q) a w := fun i a w hi hJ => wp_mono (hp0 i a w hi hJ) (by
    intro e a w h
    cases e with
    | goto l =>
      rcases h with ⟨e, h1, h2⟩ | h
      · exact .inl ⟨e, i + 1, h1, h2⟩
      · exact .inr h
    | _ => exact h)
  obtain ⟨e, a₁, w₁, hq, harr⟩ := first hp b (.inScope c :: k) cs
  cases e with
  | normal => exact ⟨.normal, a₁, w₁, hq, .head step_scope (Steps.trans harr (.one step_inScope))⟩
  | exit id => exact ⟨.exit id, a₁, w₁, hq, fun k' hk => .head step_scope (harr k' (by simp [exitTo, hk]))⟩
  | goto l' =>
    rcases hq with ⟨rfl, i, hi, hJ'⟩ | ⟨rfl, hJ'⟩
    · obtain ⟨e₂, a₂, w₂, hq₂, harr₂⟩ := key0 _ i a₁ w₁ rfl hi hJ'
      exact ⟨e₂, a₂, w₂, hq₂, .of_steps (.head step_scope (harr _ hg0)) harr₂⟩
    · obtain ⟨e₂, a₂, w₂, hq₂, harr₂⟩ := key1 a₁ w₁ hJ'
      exact ⟨e₂, a₂, w₂, hq₂, .of_steps (.head step_scope (harr _ hg1)) harr₂⟩
  | ret => exact ⟨_, a₁, w₁, hq, .of_steps (.one step_scope) harr⟩
  | panic ch => exact ⟨_, a₁, w₁, hq, .of_steps (.one step_scope) harr⟩
  | outgrown => exact ⟨_, a₁, w₁, hq, .of_steps (.one step_scope) harr⟩
end
theorem results_three {P : Program} {fn : Func} {p q r : Tmp} (h : fn.results = #[.tmp p, .tmp q, .tmp r]) (tmps : Array Value) (u v x : Value) {w : World} (hp : tmps.getD p undef = u) (hq : tmps.getD q undef = v) (hr : tmps.getD r undef = x) : (results fn tmps).run P w = .ok (.tuple #[u, v, x]) w := by
  have hp' : tmps[p]?.getD undef = u := by simpa using hp
  have hq' : tmps[q]?.getD undef = v := by simpa using hq
  have hr' : tmps[r]?.getD undef = x := by simpa using hr
  simp [results, h, hp', hq', hr']
set_option maxRecDepth 100000 in
theorem and127_u8 (x : Fin 256) : bits .and .u8 (x.val : Int) 127 = ((x.val % 128 : Nat) : Int) := by
  revert x
  decide
theorem and127 (x : UInt8) (a b : Operand) (w : World) : (do eqGuard .and 5 a b (.int .u8 (x.toNat : Int)) (.int .u8 127); binOp .and 5 (.int .u8 (x.toNat : Int)) (.int .u8 127) : Sem Value).run Tryd.prog w = .ok (.int .u8 ((x.toNat % 128 : Nat) : Int)) w := by
  have e := and127_u8 ⟨x.toNat, x.toNat_lt⟩
  simp only [] at e
  rw [← e]
  simp [go_sem]
theorem conv_58 (k : Nat) (h : k < 256) (w : World) : (convert 5 3 (.int .u8 (k : Int))).run Tryd.prog w = .ok (.int .i64 (k : Int)) w := by
  simp [go_sem]
  exact IntWalk.i64_in _ (by omega)
theorem pred_i (k : Nat) (x y : Operand) (w : World) : (do eqGuard .sub 3 x y (.int .i64 ((k + 1 : Nat) : Int)) (.int .i64 1); binOp .sub 3 (.int .i64 ((k + 1 : Nat) : Int)) (.int .i64 1) : Sem Value).run Tryd.prog w = .ok (.int .i64 (IntKind.i64.wrap (k : Int))) w := by
  have e : ((k + 1 : Nat) : Int) - 1 = (k : Int) := by omega
  simp [go_sem]
theorem mul7 (k : Nat) (hk : k ≤ 3) (x y : Operand) (w : World) : (do eqGuard .mul 3 x y (.int .i64 7) (.int .i64 (IntKind.i64.wrap (k : Int))); binOp .mul 3 (.int .i64 7) (.int .i64 (IntKind.i64.wrap (k : Int))) : Sem Value).run Tryd.prog w = .ok (.int .i64 ((7 * k : Nat) : Int)) w := by
  have : k = 0 ∨ k = 1 ∨ k = 2 ∨ k = 3 := by omega
  rcases this with rfl | rfl | rfl | rfl <;> simp [go_sem] <;> rfl
theorem shlK (v k : Nat) (hv : v < 128) (hk : k ≤ 3) (x y : Operand) (w : World) : (do eqGuard .shl 3 x y (.int .i64 (v : Int)) (.int .i64 ((7 * k : Nat) : Int)); binOp .shl 3 (.int .i64 (v : Int)) (.int .i64 ((7 * k : Nat) : Int)) : Sem Value).run Tryd.prog w = .ok (.int .i64 ((v * 128 ^ k : Nat) : Int)) w := by
  have : k = 0 ∨ k = 1 ∨ k = 2 ∨ k = 3 := by omega
  rcases this with rfl | rfl | rfl | rfl <;> simp [go_sem] <;> exact IntWalk.i64_in _ (by omega)
theorem or_pow (n v k : Nat) (hn : n < 128 ^ k) : (n ||| v * 128 ^ k) = n + v * 128 ^ k := by
  have e : (128 : Nat) ^ k = 2 ^ (7 * k) := by rw [Nat.pow_mul]
  rw [e] at hn ⊢
  rw [Nat.or_comm, Nat.mul_comm v, ← Nat.two_pow_add_eq_or_of_lt hn, Nat.add_comm]
theorem geq_u (u v : Int) (b : Bool) (h : decide (v ≤ u) = b) (x y : Operand) (w : World) : (do eqGuard .geq 5 x y (.int .u8 u) (.int .u8 v); binOp .geq 5 (.int .u8 u) (.int .u8 v) : Sem Value).run Tryd.prog w = .ok (.bool b) w := by
  subst h
  simp [go_sem]
theorem eql_u (u v : Int) (b : Bool) (h : (u == v) = b) (x y : Operand) (w : World) : (do eqGuard .eql 5 x y (.int .u8 u) (.int .u8 v); binOp .eql 5 (.int .u8 u) (.int .u8 v) : Sem Value).run Tryd.prog w = .ok (.bool b) w := by
  rw [← h]
  simp [go_sem]
theorem sub1024 (k : Nat) (hk : k ≤ 1024) (x y : Operand) (w : World) : (do eqGuard .sub 3 x y (.int .i64 1024) (.int .i64 (k : Int)); binOp .sub 3 (.int .i64 1024) (.int .i64 (k : Int)) : Sem Value).run Tryd.prog w = .ok (.int .i64 (1024 - (k : Int))) w := by
  simp [go_sem]
  exact IntWalk.i64_in _ (by omega)
theorem add_i (u v : Nat) (h : u + v ≤ 1000000000) (x y : Operand) (w : World) : (do eqGuard .add 3 x y (.int .i64 (u : Int)) (.int .i64 (v : Int)); binOp .add 3 (.int .i64 (u : Int)) (.int .i64 (v : Int)) : Sem Value).run Tryd.prog w = .ok (.int .i64 ((u + v : Nat) : Int)) w := by
  simp [go_sem]
  exact IntWalk.i64_in _ (by omega)
/-- what 'size' answers. -/
def sized : Except Int (Nat × Nat) → Value
  | .ok (t, i) => .tuple #[.int .i64 (t : Int), .int .i64 (i : Int), .int .i64 0]
  | .error e => .tuple #[.int .i64 0, .int .i64 0, .int .i64 e]
set_option maxRecDepth 100000 in
set_option maxHeartbeats 3200000 in
theorem packSize (xs : List UInt8) (A : Option Addr) (c : Nat) (w : World) (hr : RB w w.heap.size A xs) (hl : xs.length ≤ 140737488351232) :
    Calls Tryd.prog 61 #[.slice A xs.length c] w fun e w' => e = .returned (sized (sizeD xs)) ∧ w' = w := by
  go_enter Tryd.func61, Tryd.ntmps61
  refine Has.start 60 [(0, .slice A xs.length c)] rfl rfl ⟨rfl, trivial⟩ ?_
  intro a0 H0
  refine H0.rg 3 fun a3 H3 => nt ?_
  refine wp_scope_two rfl rfl 3 (fun k a w' => ∃ n, w' = w ∧ Has a 60 [(0, .slice A xs.length c), (5, .int .i64 ((n : Nat) : Int)), (6, .int .i64 ((k + 1 : Nat) : Int))] ∧ n < 128 ^ k ∧ sizeD xs = sizeGo (4 - k) (k + 1) n (xs.drop (k + 1)) ∧ k + 1 ≤ xs.length) (fun a w' => w' = w ∧ Has a 60 [(0, .slice A xs.length c)] ∧ sizeD xs = .error 1) ?_ ?_ ?_
  · intro hpass
    refine H3.rg 2 fun a5 H5 => nt ?_
    rcases Nat.eq_zero_or_pos xs.length with hz | hz
    · skip
      refine H5.rg 1 fun a6 H6 => ?_
      refine H6.len gz rfl rfl rfl rfl Tryd.underlying31 ?_
      intro a7 H7
      refine H7.bb 0 rfl rfl rfl rfl rfl rfl (eql_iB _ _ true (by rw [beq_iff_eq]; omega) _ _ _) rfl fun a8 H8 => nt ?_
      refine H8.condT rfl ?_
      refine H8.rg 3 fun a11 H11 => nt ?_
      refine wp_ret ?_
      repeat (first | (with_reducible refine block_ret ?_) | (with_reducible refine then_ret ?_) | (with_reducible refine two_ret ?_))
      refine bodyPost_ret (results_three rfl _ _ _ _ (H11.at_ 2 _ rfl) (H11.at_ 3 _ rfl) (H11.at_ 4 _ rfl)) H11.df ?_
      exact ⟨by rw [show sizeD xs = .error 7 by rw [List.eq_nil_of_length_eq_zero hz]; rfl] <;> rfl, rfl⟩
    · skip
      refine H5.rg 1 fun a6 H6 => ?_
      refine H6.len gz rfl rfl rfl rfl Tryd.underlying31 ?_
      intro a7 H7
      refine H7.bb 0 rfl rfl rfl rfl rfl rfl (eql_iB _ _ false (by rw [beq_eq_false_iff_ne]; omega) _ _ _) rfl fun a8 H8 => nt ?_
      refine H8.condF rfl ?_
      refine skip_wp ?_
      refine then_normal ?_
      refine wp_seq (label_wp (then_normal ?_))
      refine hpass 0 _ _ (by omega) ⟨0, rfl, H8.keep ⟨rfl, rfl, rfl, trivial⟩, by decide, ?_, hz⟩
      cases xs with
      | nil => simp at hz
      | cons y r => rfl
  · rintro k a43 _ hk ⟨n, rfl, H43, hn, hs, hz⟩
    have hn28 : n < 2097152 := Nat.lt_of_lt_of_le hn (Nat.pow_le_pow_right (n := 128) (by decide) hk)
    have hxl : xs.length ≤ 140737488351232 := hl
    rcases Nat.lt_or_ge (k + 1) xs.length with hlt | hge
    · skip
      obtain ⟨gb, go, x, rfl, hgb, hx, hcell⟩ := RB.get hr hlt
      have hdr : xs.drop (k + 1) = x :: xs.drop (k + 1 + 1) := drop_get' _ _ _ hx
      rw [hdr, show 4 - k = (3 - k) + 1 by omega, sizeGo, show k + 1 - 1 = k by omega] at hs
      have hxb := x.toNat_lt
      obtain ⟨n', hn'⟩ : ∃ n' : Nat, n' = n + x.toNat % 128 * 128 ^ k := ⟨_, rfl⟩
      rw [← hn'] at hs
      have hor : (n ||| x.toNat % 128 * 128 ^ k) = n' := by rw [hn', or_pow _ _ _ hn]
      have hp21 : 128 ^ k ≤ 2097152 := Nat.pow_le_pow_right (n := 128) (by decide) hk
      have hn1 : n' < 128 ^ (k + 1) := by
        rw [hn', Nat.pow_succ]
        have : x.toNat % 128 * 128 ^ k ≤ 127 * 128 ^ k := Nat.mul_le_mul_right _ (by omega)
        omega
      have hnb : n' < 268435456 := by
        rw [Nat.pow_succ] at hn1
        omega
      have hvb : x.toNat % 128 * 128 ^ k < 268435456 := by omega
      refine H43.rg 2 fun a45 H45 => ?_
      refine H45.len gz rfl rfl rfl rfl Tryd.underlying31 ?_
      intro a46 H46
      refine H46.bb 0 rfl rfl rfl rfl rfl rfl (eql_iB _ _ false (by rw [beq_eq_false_iff_ne]; omega) _ _ _) rfl fun a47 H47 => nt ?_
      refine H47.condF rfl ?_
      refine skip_wp ?_
      refine then_normal ?_
      refine H47.rg 3 fun a50 H50 => ?_
      refine H50.index gz rfl rfl rfl rfl rfl (index_1 31 Tryd.underlying31 (fun _ => by kernel_rfl) _ _ _ _ _ hlt _) ?_
      intro a51 H51
      refine H51.ld 0 (load1_u _ _ _ _ hcell) fun a52 H52 => ?_
      refine H52.bn 0 (and127 x _ _ _) fun a53 H53 => ?_
      refine H53.conv gz rfl rfl rfl rfl (conv_58 _ (by omega) _) ?_
      intro a54 H54
      refine H54.ms 1 fun a55 H55 => ?_
      refine H55.bn 0 (pred_i _ _ _ _) fun a56 H56 => ?_
      refine H56.bn 0 (mul7 _ hk _ _ _) fun a57 H57 => ?_
      refine H57.bb 0 rfl rfl rfl rfl rfl rfl (shlK _ _ (by omega) hk _ _ _) rfl fun a58 H58 => ?_
      refine H58.bb 1 rfl rfl rfl rfl rfl rfl (or_i _ _ (by omega) (by omega) _ _ _) rfl fun a60 H60 => nt ?_
      rw [hor] at H60
      have H61 := H60.keep (l' := [(0, .slice (some ⟨gb, go, none⟩) xs.length c), (5, .int .i64 ((n' : Nat) : Int)), (6, .int .i64 ((k + 1 : Nat) : Int))]) ⟨rfl, rfl, rfl, trivial⟩
      by_cases h128 : 128 ≤ x.toNat
      · skip
        rw [if_pos h128] at hs
        refine H61.rg 2 fun a63 H63 => ?_
        refine H63.index gz rfl rfl rfl rfl rfl (index_1 31 Tryd.underlying31 (fun _ => by kernel_rfl) _ _ _ _ _ hlt _) ?_
        intro a64 H64
        refine H64.ld 0 (load1_u _ _ _ _ hcell) fun a65 H65 => ?_
        refine H65.bb 0 rfl rfl rfl rfl rfl rfl (geq_u _ _ true (by simp; omega) _ _ _) rfl fun a66 H66 => nt ?_
        refine H66.condT rfl ?_
        by_cases h4 : k = 3
        · skip
          rw [if_pos (by omega)] at hs
          refine H66.rg 1 fun a67 H67 => ?_
          refine H67.bb 0 rfl rfl rfl rfl rfl rfl (eql_iB _ _ true (by subst h4; rfl) _ _ _) rfl fun a68 H68 => nt ?_
          refine H68.condT rfl ?_
          refine wp_goto ?_
          repeat (first | (with_reducible refine then_goto ?_))
          exact two_goto1 ⟨rfl, H68.keep ⟨rfl, trivial⟩, hs⟩
        · skip
          rw [if_neg (by omega)] at hs
          refine H66.rg 1 fun a67 H67 => ?_
          refine H67.bb 0 rfl rfl rfl rfl rfl rfl (eql_iB _ _ false (by rw [beq_eq_false_iff_ne]; omega) _ _ _) rfl fun a68 H68 => nt ?_
          refine H68.condF rfl ?_
          refine skip_wp ?_
          refine then_normal ?_
          refine H68.rg 1 fun a69 H69 => ?_
          refine H69.bb 1 rfl rfl rfl rfl rfl rfl (succ_i _ (by omega) _ _ _) rfl fun a71 H71 => nt ?_
          refine wp_goto ?_
          repeat (first | (with_reducible refine then_goto ?_))
          exact two_goto0 ⟨by omega, n', rfl, H71.keep ⟨rfl, rfl, rfl, trivial⟩, hn1, by rw [hs, show 3 - k = 4 - (k + 1) by omega], by omega⟩
      · skip
        rw [if_neg h128] at hs
        refine H61.rg 2 fun a63 H63 => ?_
        refine H63.index gz rfl rfl rfl rfl rfl (index_1 31 Tryd.underlying31 (fun _ => by kernel_rfl) _ _ _ _ _ hlt _) ?_
        intro a64 H64
        refine H64.ld 0 (load1_u _ _ _ _ hcell) fun a65 H65 => ?_
        refine H65.bb 0 rfl rfl rfl rfl rfl rfl (geq_u _ _ false (by simp; omega) _ _ _) rfl fun a66 H66 => nt ?_
        refine H66.condF rfl ?_
        refine skip_wp ?_
        refine then_normal ?_
        by_cases h0 : x.toNat = 0
        · skip
          by_cases h1 : 1 < k + 1
          · skip
            rw [if_pos ⟨h0, h1⟩] at hs
            refine H66.rg 2 fun a68 H68 => ?_
            refine H68.index gz rfl rfl rfl rfl rfl (index_1 31 Tryd.underlying31 (fun _ => by kernel_rfl) _ _ _ _ _ hlt _) ?_
            intro a69 H69
            refine H69.ld 0 (load1_u _ _ _ _ hcell) fun a70 H70 => ?_
            refine H70.bb 1 rfl rfl rfl rfl rfl rfl (eql_u _ _ true (by simpa using h0) _ _ _) rfl fun a72 H72 => ?_
            refine H72.move (H72.wt rfl rfl rfl) (.inl rfl) rfl rfl rfl ?_
            intro a73 H73
            refine H73.bin (H73.wt rfl rfl rfl) rfl rfl rfl rfl rfl (gtr_i _ _ true (by simp; omega) _ _ _) ?_
            intro a74 H74
            refine H74.pick gz rfl rfl rfl rfl rfl ?_
            intro a75 H75
            refine nt ?_
            refine H75.condT rfl ?_
            refine wp_goto ?_
            repeat (first | (with_reducible refine then_goto ?_))
            exact two_goto1 ⟨rfl, H75.keep ⟨rfl, trivial⟩, hs⟩
          · skip
            rw [if_neg (fun h => h1 h.2)] at hs
            refine H66.rg 2 fun a68 H68 => ?_
            refine H68.index gz rfl rfl rfl rfl rfl (index_1 31 Tryd.underlying31 (fun _ => by kernel_rfl) _ _ _ _ _ hlt _) ?_
            intro a69 H69
            refine H69.ld 0 (load1_u _ _ _ _ hcell) fun a70 H70 => ?_
            refine H70.bb 1 rfl rfl rfl rfl rfl rfl (eql_u _ _ true (by simpa using h0) _ _ _) rfl fun a72 H72 => ?_
            refine H72.move (H72.wt rfl rfl rfl) (.inl rfl) rfl rfl rfl ?_
            intro a73 H73
            refine H73.bin (H73.wt rfl rfl rfl) rfl rfl rfl rfl rfl (gtr_i _ _ false (by simp; omega) _ _ _) ?_
            intro a74 H74
            refine H74.pick gz rfl rfl rfl rfl rfl ?_
            intro a75 H75
            refine nt ?_
            refine H75.condF rfl ?_
            refine skip_wp ?_
            refine then_normal ?_
            refine H75.rg 1 fun a76 H76 => ?_
            refine H76.bb 1 rfl rfl rfl rfl rfl rfl (succ_i _ (by omega) _ _ _) rfl fun a78 H78 => nt ?_
            by_cases hb : 1024 < n' + (k + 2)
            · skip
              rw [if_pos (by omega)] at hs
              refine H78.rg 2 fun a80 H80 => ?_
              refine H80.bb 0 rfl rfl rfl rfl rfl rfl (sub1024 _ (by omega) _ _ _) rfl fun a81 H81 => ?_
              refine H81.bb 0 rfl rfl rfl rfl rfl rfl (gtr_i _ _ true (by simp; omega) _ _ _) rfl fun a82 H82 => nt ?_
              refine H82.condT rfl ?_
              refine H82.rg 3 fun a85 H85 => nt ?_
              refine wp_ret ?_
              repeat (first | (with_reducible refine block_ret ?_) | (with_reducible refine then_ret ?_) | (with_reducible refine two_ret ?_))
              refine bodyPost_ret (results_three rfl _ _ _ _ (H85.at_ 2 _ rfl) (H85.at_ 3 _ rfl) (H85.at_ 4 _ rfl)) H85.df ?_
              exact ⟨by rw [hs] <;> rfl, rfl⟩
            · skip
              rw [if_neg (by omega)] at hs
              refine H78.rg 2 fun a80 H80 => ?_
              refine H80.bb 0 rfl rfl rfl rfl rfl rfl (sub1024 _ (by omega) _ _ _) rfl fun a81 H81 => ?_
              refine H81.bb 0 rfl rfl rfl rfl rfl rfl (gtr_i _ _ false (by simp; omega) _ _ _) rfl fun a82 H82 => nt ?_
              refine H82.condF rfl ?_
              refine skip_wp ?_
              refine then_normal ?_
              by_cases hc2 : xs.length < n' + (k + 2)
              · skip
                rw [if_pos (by rw [List.length_drop]; omega)] at hs
                refine H82.rg 1 fun a83 H83 => ?_
                refine H83.len gz rfl rfl rfl rfl Tryd.underlying31 ?_
                intro a84 H84
                refine H84.ms 2 fun a86 H86 => ?_
                refine H86.bb 0 rfl rfl rfl rfl rfl rfl (add_i _ _ (by omega) _ _ _) rfl fun a87 H87 => ?_
                refine H87.bb 0 rfl rfl rfl rfl rfl rfl (lss_i _ _ true (by simp; omega) _ _ _) rfl fun a88 H88 => nt ?_
                refine H88.condT rfl ?_
                refine H88.rg 3 fun a91 H91 => nt ?_
                refine wp_ret ?_
                repeat (first | (with_reducible refine block_ret ?_) | (with_reducible refine then_ret ?_) | (with_reducible refine two_ret ?_))
                refine bodyPost_ret (results_three rfl _ _ _ _ (H91.at_ 2 _ rfl) (H91.at_ 3 _ rfl) (H91.at_ 4 _ rfl)) H91.df ?_
                exact ⟨by rw [hs] <;> rfl, rfl⟩
              · skip
                rw [if_neg (by rw [List.length_drop]; omega)] at hs
                refine H82.rg 1 fun a83 H83 => ?_
                refine H83.len gz rfl rfl rfl rfl Tryd.underlying31 ?_
                intro a84 H84
                refine H84.ms 2 fun a86 H86 => ?_
                refine H86.bb 0 rfl rfl rfl rfl rfl rfl (add_i _ _ (by omega) _ _ _) rfl fun a87 H87 => ?_
                refine H87.bb 0 rfl rfl rfl rfl rfl rfl (lss_i _ _ false (by simp; omega) _ _ _) rfl fun a88 H88 => nt ?_
                refine H88.condF rfl ?_
                refine skip_wp ?_
                refine then_normal ?_
                refine H88.rg 2 fun a90 H90 => ?_
                refine H90.bb 4 rfl rfl rfl rfl rfl rfl (add_i _ _ (by omega) _ _ _) rfl fun a95 H95 => nt ?_
                refine wp_ret ?_
                repeat (first | (with_reducible refine block_ret ?_) | (with_reducible refine then_ret ?_) | (with_reducible refine two_ret ?_))
                refine bodyPost_ret (results_three rfl _ _ _ _ (H95.at_ 2 _ rfl) (H95.at_ 3 _ rfl) (H95.at_ 4 _ rfl)) H95.df ?_
                exact ⟨by rw [hs] <;> rfl, rfl⟩
        · skip
          rw [if_neg (fun h => h0 h.1)] at hs
          refine H66.rg 2 fun a68 H68 => ?_
          refine H68.index gz rfl rfl rfl rfl rfl (index_1 31 Tryd.underlying31 (fun _ => by kernel_rfl) _ _ _ _ _ hlt _) ?_
          intro a69 H69
          refine H69.ld 0 (load1_u _ _ _ _ hcell) fun a70 H70 => ?_
          refine H70.bb 1 rfl rfl rfl rfl rfl rfl (eql_u _ _ false (by simpa using h0) _ _ _) rfl fun a72 H72 => ?_
          refine H72.off rfl rfl rfl rfl rfl ?_
          intro a73 H73
          refine H73.off rfl rfl rfl rfl rfl ?_
          intro a74 H74
          refine H74.pick gz rfl rfl rfl rfl rfl ?_
          intro a75 H75
          refine nt ?_
          refine H75.condF rfl ?_
          refine skip_wp ?_
          refine then_normal ?_
          refine H75.rg 1 fun a76 H76 => ?_
          refine H76.bb 1 rfl rfl rfl rfl rfl rfl (succ_i _ (by omega) _ _ _) rfl fun a78 H78 => nt ?_
          by_cases hb : 1024 < n' + (k + 2)
          · skip
            rw [if_pos (by omega)] at hs
            refine H78.rg 2 fun a80 H80 => ?_
            refine H80.bb 0 rfl rfl rfl rfl rfl rfl (sub1024 _ (by omega) _ _ _) rfl fun a81 H81 => ?_
            refine H81.bb 0 rfl rfl rfl rfl rfl rfl (gtr_i _ _ true (by simp; omega) _ _ _) rfl fun a82 H82 => nt ?_
            refine H82.condT rfl ?_
            refine H82.rg 3 fun a85 H85 => nt ?_
            refine wp_ret ?_
            repeat (first | (with_reducible refine block_ret ?_) | (with_reducible refine then_ret ?_) | (with_reducible refine two_ret ?_))
            refine bodyPost_ret (results_three rfl _ _ _ _ (H85.at_ 2 _ rfl) (H85.at_ 3 _ rfl) (H85.at_ 4 _ rfl)) H85.df ?_
            exact ⟨by rw [hs] <;> rfl, rfl⟩
          · skip
            rw [if_neg (by omega)] at hs
            refine H78.rg 2 fun a80 H80 => ?_
            refine H80.bb 0 rfl rfl rfl rfl rfl rfl (sub1024 _ (by omega) _ _ _) rfl fun a81 H81 => ?_
            refine H81.bb 0 rfl rfl rfl rfl rfl rfl (gtr_i _ _ false (by simp; omega) _ _ _) rfl fun a82 H82 => nt ?_
            refine H82.condF rfl ?_
            refine skip_wp ?_
            refine then_normal ?_
            by_cases hc2 : xs.length < n' + (k + 2)
            · skip
              rw [if_pos (by rw [List.length_drop]; omega)] at hs
              refine H82.rg 1 fun a83 H83 => ?_
              refine H83.len gz rfl rfl rfl rfl Tryd.underlying31 ?_
              intro a84 H84
              refine H84.ms 2 fun a86 H86 => ?_
              refine H86.bb 0 rfl rfl rfl rfl rfl rfl (add_i _ _ (by omega) _ _ _) rfl fun a87 H87 => ?_
              refine H87.bb 0 rfl rfl rfl rfl rfl rfl (lss_i _ _ true (by simp; omega) _ _ _) rfl fun a88 H88 => nt ?_
              refine H88.condT rfl ?_
              refine H88.rg 3 fun a91 H91 => nt ?_
              refine wp_ret ?_
              repeat (first | (with_reducible refine block_ret ?_) | (with_reducible refine then_ret ?_) | (with_reducible refine two_ret ?_))
              refine bodyPost_ret (results_three rfl _ _ _ _ (H91.at_ 2 _ rfl) (H91.at_ 3 _ rfl) (H91.at_ 4 _ rfl)) H91.df ?_
              exact ⟨by rw [hs] <;> rfl, rfl⟩
            · skip
              rw [if_neg (by rw [List.length_drop]; omega)] at hs
              refine H82.rg 1 fun a83 H83 => ?_
              refine H83.len gz rfl rfl rfl rfl Tryd.underlying31 ?_
              intro a84 H84
              refine H84.ms 2 fun a86 H86 => ?_
              refine H86.bb 0 rfl rfl rfl rfl rfl rfl (add_i _ _ (by omega) _ _ _) rfl fun a87 H87 => ?_
              refine H87.bb 0 rfl rfl rfl rfl rfl rfl (lss_i _ _ false (by simp; omega) _ _ _) rfl fun a88 H88 => nt ?_
              refine H88.condF rfl ?_
              refine skip_wp ?_
              refine then_normal ?_
              refine H88.rg 2 fun a90 H90 => ?_
              refine H90.bb 4 rfl rfl rfl rfl rfl rfl (add_i _ _ (by omega) _ _ _) rfl fun a95 H95 => nt ?_
              refine wp_ret ?_
              repeat (first | (with_reducible refine block_ret ?_) | (with_reducible refine then_ret ?_) | (with_reducible refine two_ret ?_))
              refine bodyPost_ret (results_three rfl _ _ _ _ (H95.at_ 2 _ rfl) (H95.at_ 3 _ rfl) (H95.at_ 4 _ rfl)) H95.df ?_
              exact ⟨by rw [hs] <;> rfl, rfl⟩
    · skip
      rw [List.drop_eq_nil_of_le hge] at hs
      have hs7 : sizeD xs = .error 7 := by rw [hs]; cases (4 - k) <;> rfl
      have hkl : k + 1 = xs.length ∨ xs.length < k + 1 := by omega
      refine H43.rg 2 fun a45 H45 => ?_
      refine H45.len gz rfl rfl rfl rfl Tryd.underlying31 ?_
      intro a46 H46
      refine H46.bb 0 rfl rfl rfl rfl rfl rfl (eql_iB _ _ true (by rw [beq_iff_eq]; omega) _ _ _) rfl fun a47 H47 => nt ?_
      refine H47.condT rfl ?_
      refine H47.rg 3 fun a50 H50 => nt ?_
      refine wp_ret ?_
      repeat (first | (with_reducible refine block_ret ?_) | (with_reducible refine then_ret ?_) | (with_reducible refine two_ret ?_))
      refine bodyPost_ret (results_three rfl _ _ _ _ (H50.at_ 2 _ rfl) (H50.at_ 3 _ rfl) (H50.at_ 4 _ rfl)) H50.df ?_
      exact ⟨by rw [hs7] <;> rfl, rfl⟩
  · rintro a51 _ ⟨rfl, H51, hs⟩
    refine H51.rg 3 fun a54 H54 => nt ?_
    refine wp_ret ?_
    repeat (first | (with_reducible refine block_ret ?_) | (with_reducible refine then_ret ?_) | (with_reducible refine two_ret ?_))
    refine bodyPost_ret (results_three rfl _ _ _ _ (H54.at_ 2 _ rfl) (H54.at_ 3 _ rfl) (H54.at_ 4 _ rfl)) H54.df ?_
    exact ⟨by rw [hs] <;> rfl, rfl⟩
end Go.Proofs.YtkcdkjpmbjcmdaaDoor

/-
  A reader and the packet that it fills, in few words.
-/
namespace Go.Proofs.YtkcdkjpmbjcmdaaDoor
open Go.RowKit

/-- a reader at block g has s before it; the packet at block gp has the cells L; nothing that was there in w0 has turned but g. -/
structure Rst (w0 : World) (B g gp : Nat) (s : Rd) (L : List Value) (w : World) : Prop where
  rd : RdAt w B g s
  ce : Cells w gp L
  gr : w0.grownBy w (some g)
  ge : w0.heap.size ≤ gp
  hB : B ≤ gp
  ne : gp ≠ g
  lt : gp < w.heap.size
section
variable {w0 w w' : World} {B g gp : Nat} {s s' : Rd} {L L' : List Value}
theorem Rst.call (h : Rst w0 B g gp s L w) (hr : RdAt w' B g s') (hg : w.grownBy w' (some g)) : Rst w0 B g gp s' L w' :=
  ⟨hr, h.ce.kept hg h.lt (by simpa using h.ne), h.gr.trans hg, h.ge, h.hB, h.ne, Nat.lt_of_lt_of_le h.lt hg.size⟩
theorem Rst.set (h : Rst w0 B g gp s L w) (j : Nat) (v : Value) (hj : j < L.length) : Rst w0 B g gp s (L.set j v) (w.setCell ⟨gp, j, none⟩ v) :=
  ⟨h.rd.store (a := ⟨gp, j, none⟩) h.hB h.ne v, h.ce.set j v hj, grown_store h.gr (a := ⟨gp, j, none⟩) h.ge v, h.ge, h.hB, h.ne, by rw [size_setCell']; exact h.lt⟩
theorem Rst.is (h : Rst w0 B g gp s L w) (e : L = L') (e' : s = s') : Rst w0 B g gp s' L' w := by rw [← e, ← e']; exact h
end
section
variable {w0 w : World} {B g gp : Nat} {s : Rd} {L : List Value} {ops : Array Oper} {rest rest' : List Oper} {o : Oper} {a : Act} {Q : Exit → Act → World → Prop} {n : Nat} {l l' : List (Nat × Value)}
/-- one of the reader's methods is called. -/
theorem Has.rc (H : Has a n l) (R : Rst w0 B g gp s L w) (k : Nat) {d : Nat} {f : FuncId} {xs : Array Operand} {ats : Array TypeId} {vs : List Value} {v : Value} {s' : Rd} (hc : Calls Tryd.prog f vs.toArray w (Rdd w B g v s')) (h : ∀ a' w', Rst w0 B g gp s' L w' → Has a' n l' → wpList Tryd.prog ops Q rest' a' w')
    (ho : o.op = .call { callee := .value (.func f), args := xs, argTypes := ats } := by rfl) (hd : o.dst = some d := by rfl) (hn : Nat.blt d n = true := by rfl) (hg : o.guard = none := by rfl) (hx : evLs l xs.toList = some vs := by rfl)
    (hen : ∀ (args : Array Value) (w : World), (callFunc f args).run Tryd.prog w = .ok (.enter f args) w := by exact fun _ _ => by kernel_rfl) (hr : runM n k rest ((d, v) :: l) = some (rest', l') := by rfl) : wpList Tryd.prog ops Q (o :: rest) a w :=
  H.call (gz hg) ho hd hn hx hen (R := fun u w' => u = v ∧ RdAt w' B g s' ∧ w.grownBy w' (some g)) (hc.mono fun _ _ h => ⟨v, h.1, rfl, h.2⟩) (by rintro _ _ w' ⟨rfl, h1, h2⟩ H'; exact runM_ok k H' hr fun a' H'' => h a' w' (R.call h1 h2) H'')
/-- one of the packet's cells is written, or read. -/
theorem Has.rs (H : Has a n l) (R : Rst w0 B g gp s L w) (k : Nat) {T j : Nat} {x y : Operand} {v : Value} (hst : ∀ u, w.cell? ⟨gp, j, none⟩ = some u → w.frozen? ⟨gp, j, none⟩ = false → (Instr.storeAt T (.pointer (some ⟨gp, j, none⟩)) v).run Tryd.prog w = .ok () (w.setCell ⟨gp, j, none⟩ v))
    (h : ∀ a' w', Rst w0 B g gp s (L.set j v) w' → Has a' n l' → wpList Tryd.prog ops Q rest' a' w')
    (ho : o.op = .store T x y := by rfl) (hd : o.dst = none := by rfl) (hg : o.guard = none := by rfl) (hx : evL l x = some (.pointer (some ⟨gp, j, none⟩)) := by rfl) (hy : evL l y = some v := by rfl) (hj : Nat.blt j L.length = true := by rfl) (hr : runM n k rest l = some (rest', l') := by rfl) : wpList Tryd.prog ops Q (o :: rest) a w := by
  have hj' : j < L.length := by simpa [Nat.blt_eq] using hj
  obtain ⟨c1, c2⟩ := R.ce j _ (List.getElem?_eq_getElem hj')
  exact H.store (gz hg) ho hd hx hy (hst _ c1 c2) fun a' H' => runM_ok k H' hr fun a' H'' => h a' _ (R.set j v hj') H''
theorem Has.si (H : Has a n l) (R : Rst w0 B g gp s L w) (k : Nat) {j : Nat} {x y : Operand} {v : Int} (h : ∀ a' w', Rst w0 B g gp s (L.set j (.int .i64 v)) w' → Has a' n l' → wpList Tryd.prog ops Q rest' a' w')
    (ho : o.op = .store 3 x y := by rfl) (hd : o.dst = none := by rfl) (hg : o.guard = none := by rfl) (hx : evL l x = some (.pointer (some ⟨gp, j, none⟩)) := by rfl) (hy : evL l y = some (.int .i64 v) := by rfl) (hj : Nat.blt j L.length = true := by rfl) (hr : runM n k rest l = some (rest', l') := by rfl) : wpList Tryd.prog ops Q (o :: rest) a w :=
  H.rs R k (fun u h f => store1_i _ _ _ u _ h f) h ho hd hg hx hy hj hr
theorem Has.sb (H : Has a n l) (R : Rst w0 B g gp s L w) (k : Nat) {j : Nat} {x y : Operand} {v : Bool} (h : ∀ a' w', Rst w0 B g gp s (L.set j (.bool v)) w' → Has a' n l' → wpList Tryd.prog ops Q rest' a' w')
    (ho : o.op = .store 4 x y := by rfl) (hd : o.dst = none := by rfl) (hg : o.guard = none := by rfl) (hx : evL l x = some (.pointer (some ⟨gp, j, none⟩)) := by rfl) (hy : evL l y = some (.bool v) := by rfl) (hj : Nat.blt j L.length = true := by rfl) (hr : runM n k rest l = some (rest', l') := by rfl) : wpList Tryd.prog ops Q (o :: rest) a w :=
  H.rs R k (fun u h f => store1_b _ _ _ u _ h f) h ho hd hg hx hy hj hr
theorem Has.ss (H : Has a n l) (R : Rst w0 B g gp s L w) (k : Nat) {j : Nat} {x y : Operand} {v : ByteArray} (h : ∀ a' w', Rst w0 B g gp s (L.set j (.string v)) w' → Has a' n l' → wpList Tryd.prog ops Q rest' a' w')
    (ho : o.op = .store 9 x y := by rfl) (hd : o.dst = none := by rfl) (hg : o.guard = none := by rfl) (hx : evL l x = some (.pointer (some ⟨gp, j, none⟩)) := by rfl) (hy : evL l y = some (.string v) := by rfl) (hj : Nat.blt j L.length = true := by rfl) (hr : runM n k rest l = some (rest', l') := by rfl) : wpList Tryd.prog ops Q (o :: rest) a w :=
  H.rs R k (fun u h f => store1_s _ _ _ u _ h f) h ho hd hg hx hy hj hr
theorem Has.sw (H : Has a n l) (R : Rst w0 B g gp s L w) (k : Nat) {x y : Operand} {b c : Bool} {t u : ByteArray} {q : Int} (h : ∀ a' w', Rst w0 B g gp s (((((L.set 4 (.bool b)).set 5 (.string t)).set 6 (.string u)).set 7 (.int .i64 q)).set 8 (.bool c)) w' → Has a' n l' → wpList Tryd.prog ops Q rest' a' w')
    (ho : o.op = .store 25 x y := by rfl) (hd : o.dst = none := by rfl) (hg : o.guard = none := by rfl) (hx : evL l x = some (.pointer (some ⟨gp, 4, none⟩)) := by rfl) (hy : evL l y = some (.agg #[.bool b, .string t, .string u, .int .i64 q, .bool c]) := by rfl) (hj : Nat.blt 8 L.length = true := by rfl) (hr : runM n k rest l = some (rest', l') := by rfl) : wpList Tryd.prog ops Q (o :: rest) a w := by
  have hj' : 8 < L.length := by simpa [Nat.blt_eq] using hj
  refine H.store (gz hg) ho hd hx hy (store_will gp L b t u q c w R.ce hj') fun a' H' => runM_ok k H' hr fun a' H'' => h a' _ ?_ H''
  exact ((((R.set 4 _ (by omega)).set 5 _ (by simp only [List.length_set]; omega)).set 6 _ (by simp only [List.length_set]; omega)).set 7 _ (by simp only [List.length_set]; omega)).set 8 _ (by simp only [List.length_set]; omega)
theorem Rst.lb (R : Rst w0 B g gp s L w) (j : Nat) {v : Bool} (h : L[j]? = some (.bool v) := by rfl) : (Instr.loadAt 4 (.pointer (some ⟨gp, j, none⟩))).run Tryd.prog w = .ok (.bool v) w := load1_b _ _ _ _ (R.ce.get j _ h)
theorem Rst.li (R : Rst w0 B g gp s L w) (j : Nat) {v : Int} (h : L[j]? = some (.int .i64 v) := by rfl) : (Instr.loadAt 3 (.pointer (some ⟨gp, j, none⟩))).run Tryd.prog w = .ok (.int .i64 v) w := load1_i _ _ _ _ (R.ce.get j _ h)
end
theorem and_i (u v : Int) (x y : Operand) (w : World) : (do eqGuard .and 3 x y (.int .i64 u) (.int .i64 v); binOp .and 3 (.int .i64 u) (.int .i64 v) : Sem Value).run Tryd.prog w = .ok (.int .i64 (bits .and .i64 u v)) w := by kernel_rfl
theorem neq_iB (u v : Int) (b : Bool) (h : (u != v) = b) (x y : Operand) (w : World) : (do eqGuard .neq 3 x y (.int .i64 u) (.int .i64 v); binOp .neq 3 (.int .i64 u) (.int .i64 v) : Sem Value).run Tryd.prog w = .ok (.bool b) w := by
  rw [← h]
  kernel_rfl
end Go.Proofs.YtkcdkjpmbjcmdaaDoor

/-
  Package pack's reader: connect.
-/
namespace Go.Proofs.YtkcdkjpmbjcmdaaDoor
open Go.RowKit

theorem packOneQ (B g : Nat) (s : Rd) {x : UInt8} {s' : Rd} (e : oneP s = (x, s')) (w : World) (h : RdAt w B g s) :
    Calls Tryd.prog 79 #[.pointer (some ⟨g, 0, none⟩)] w (Rdd w B g (.int .i64 (x.toNat : Int)) s') := by
  have := packOne B g s w h
  rw [e] at this
  exact this
theorem packTwoQ (B g : Nat) (s : Rd) {n : Nat} {s' : Rd} (e : twoP s = (n, s')) (w : World) (h : RdAt w B g s) :
    Calls Tryd.prog 81 #[.pointer (some ⟨g, 0, none⟩)] w (Rdd w B g (.int .i64 (n : Int)) s') := by
  have := packTwoR B g s w h
  rw [e] at this
  exact this
theorem packTextQ (B g : Nat) (s : Rd) {t : ByteArray} {s' : Rd} (e : textP s = (t, s')) (w : World) (h : RdAt w B g s) :
    Calls Tryd.prog 80 #[.pointer (some ⟨g, 0, none⟩)] w (Rdd w B g (.string t) s') := by
  have := packTextR B g s w h
  rw [e] at this
  exact this
/-- what reading such a packet leaves. -/
def Conned (w0 : World) (B g gp : Nat) (r : Conn) (e : Ending) (w' : World) : Prop :=
  e = .returned (.tuple #[]) ∧ RdAt w' B g r.s ∧ Cells w' gp (mqCells r.mq nilV nilV nilV) ∧ w0.grownBy w' (some g) ∧ gp < w'.heap.size
theorem lt_set {w : World} {g : Nat} (h : g < w.heap.size) (a : Addr) (v : Value) : g < (w.setCell a v).heap.size := by rw [size_setCell']; exact h
theorem shr3 (f : UInt8) : bits BinOp.and IntKind.i64 ((f.toNat : Int) / 8) 3 = ((f >>> 3 &&& 3).toNat : Int) := by
  have h := f.toNat_lt
  have e : (f.toNat : Int) / 8 = ((f.toNat / 8 : Nat) : Int) := by omega
  rw [e]
  have := i64_and_nat (f.toNat / 8) 3 (by omega) (by omega)
  rw [show ((3 : Nat) : Int) = 3 from rfl] at this
  rw [this]
  congr 1
  rw [UInt8.toNat_and, UInt8.toNat_shiftRight]
  rw [Nat.shiftRight_eq_div_pow]
  rfl

theorem shr_3 (u : Int) (x y : Operand) (w : World) : (do eqGuard .shr 3 x y (.int .i64 u) (.int .u64 3); binOp .shr 3 (.int .i64 u) (.int .u64 3) : Sem Value).run Tryd.prog w = .ok (.int .i64 (u / 8)) w := by
  simp [go_sem]
theorem bit_i (f : UInt8) (n : Nat) (hn : n < 256) (x y : Operand) (w : World) : (do eqGuard .neq 3 x y (.int .i64 (bits .and .i64 (f.toNat : Int) (n : Int))) (.int .i64 0); binOp .neq 3 (.int .i64 (bits .and .i64 (f.toNat : Int) (n : Int))) (.int .i64 0) : Sem Value).run Tryd.prog w = .ok (.bool (bitB f (UInt8.ofNat n))) w :=
  neq_iB _ _ _ (bitB_iff f n hn).symm _ _ _
set_option maxRecDepth 100000 in
set_option maxHeartbeats 1600000 in
theorem packConn (B g gp : Nat) (s : Rd) (w0 w : World) (hR : RdAt w B g s) (hC : Cells w gp (mqCells (mq0 1) nilV nilV nilV)) (hG : w0.grownBy w (some g)) (hp : w0.heap.size ≤ gp) (hB : B ≤ gp) (hne : gp ≠ g) (hlt : gp < w.heap.size) :
    Calls Tryd.prog 78 #[.pointer (some ⟨g, 0, none⟩), .pointer (some ⟨gp, 0, none⟩)] w (Conned w0 B g gp (connP s)) := by
  obtain ⟨r, hr⟩ : ∃ r, connP s = r := ⟨_, rfl⟩
  obtain ⟨s1, e1⟩ : ∃ x, (takeP s 7).2 = x := ⟨_, rfl⟩
  obtain ⟨f, hf⟩ : ∃ f, (oneP s1).1 = f := ⟨_, rfl⟩
  obtain ⟨s2, e2⟩ : ∃ x, (oneP s1).2 = x := ⟨_, rfl⟩
  obtain ⟨k, hk⟩ : ∃ x, twoP s2 = x := ⟨_, rfl⟩
  obtain ⟨c, hc⟩ : ∃ x, textP k.2 = x := ⟨_, rfl⟩
  obtain ⟨t, ht⟩ : ∃ x, textP c.2 = x := ⟨_, rfl⟩
  obtain ⟨y, hy⟩ : ∃ x, textP t.2 = x := ⟨_, rfl⟩
  obtain ⟨s5, e5⟩ : ∃ x, (if bitB f 4 then y.2 else c.2) = x := ⟨_, rfl⟩
  obtain ⟨u, hu⟩ : ∃ x, textP s5 = x := ⟨_, rfl⟩
  obtain ⟨s6, e6⟩ : ∃ x, (if bitB f 128 then u.2 else s5) = x := ⟨_, rfl⟩
  obtain ⟨q, hq⟩ : ∃ x, textP s6 = x := ⟨_, rfl⟩
  obtain ⟨s7, e7⟩ : ∃ x, (if bitB f 64 then q.2 else s6) = x := ⟨_, rfl⟩
  have hr' : r = ⟨f, k, c, t, y, u, q, s7⟩ := by
    subst hr e1 hf e2 hk hc ht hy e5 hu e6 hq e7
    rfl
  rw [hr]
  clear hr
  go_enter Tryd.func78, Tryd.ntmps78
  refine Has.start 72 [(0, .pointer (some ⟨g, 0, none⟩)), (1, .pointer (some ⟨gp, 0, none⟩))] rfl rfl ⟨rfl, rfl, trivial⟩ ?_
  intro a0 H0
  have R0 : Rst w0 B g gp s (mqCells (mq0 1) nilV nilV nilV) w := ⟨hR, hC, hG, hp, hB, hne, hlt⟩
  refine H0.rg 1 fun a1 H1 => ?_
  refine H1.cl (R := fun _ w' => RdAt w' B g s1 ∧ w.grownBy w' (some g)) ((packTake B g s 7 7 rfl (by omega) w R0.rd).mono ?_) ?_
  · rintro _ _ ⟨_, _, rfl, _, _, _, h1, h2⟩
    exact ⟨_, rfl, e1 ▸ h1, h2⟩
  rintro a2 v2 w2 ⟨h1, h2⟩ H2
  have R2 := R0.call h1 h2
  refine nt ?_
  refine H2.rg 1 fun a3 H3 => ?_
  refine H3.rc R2 1 (packOne B g _ _ R2.rd) fun a4 w4 R4 H4 => nt ?_
  rw [e2] at R4
  rw [hf] at H4
  refine H4.rg 2 fun a5 H5 => ?_
  refine H5.rc R4 2 (packTwoR B g _ _ R4.rd) fun a6 w6 R6 H6 => ?_
  refine H6.si R6 0 fun a7 w7 R7 H7 => nt ?_
  rw [hk] at R7
  refine H7.rg 2 fun a8 H8 => ?_
  refine H8.rc R7 2 (packTextR B g _ _ R7.rd) fun a9 w9 R9 H9 => ?_
  refine H9.ss R9 0 fun b1 x1 R10 H10 => nt ?_
  rw [hc] at R10
  refine H10.rg 4 fun b2 H11 => ?_
  refine H11.bn 0 (and_i _ _ _ _ _) fun b3 H12 => ?_
  refine H12.bn 1 (bit_i f 2 (by omega) _ _ _) fun b4 H13 => ?_
  refine H13.bn 0 (and_i _ _ _ _ _) fun b5 H14 => ?_
  refine H14.bn 1 (bit_i f 64 (by omega) _ _ _) fun b6 H15 => ?_
  refine H15.bn 0 (and_i _ _ _ _ _) fun b7 H16 => ?_
  refine H16.bn 2 (bit_i f 128 (by omega) _ _ _) fun b8 H17 => ?_
  refine H17.sb R10 2 fun b9 x9 R11 H18 => ?_
  refine H18.sb R11 2 fun c1 y1 R12 H19 => ?_
  refine H19.sb R12 0 fun c2 y2 R13 H20 => nt ?_
  have R14 := R13.is (L' := mqCells { mq0 1 with keep := k.1, client := c.1, clean := bitB f 2, hp := bitB f 64, hu := bitB f 128 } nilV nilV nilV) rfl rfl
  clear R0 R2 R4 R6 R7 R9 R10 R11 R12 R13
  refine wp_seq_join (fun a w' => Has a 72 [(0, .pointer (some ⟨g, 0, none⟩)), (1, .pointer (some ⟨gp, 0, none⟩))] ∧ Rst w0 B g gp s5 (mqCells { mq0 1 with keep := k.1, client := c.1, clean := bitB f 2, hp := bitB f 64, hu := bitB f 128, won := bitB f 4, wt := (if bitB f 4 then t.1 else nos), wp := (if bitB f 4 then y.1 else nos), wq := (if bitB f 4 then ((f >>> 3 &&& 3).toNat : Int) else 0), wr := (bitB f 4 && bitB f 32) } nilV nilV nilV) w') ?_ ?_
  · refine H20.rg 1 fun c3 H21 => ?_
    refine H21.bn 0 (and_i _ _ _ _ _) fun c4 H22 => ?_
    refine H22.bn 0 (bit_i f 4 (by omega) _ _ _) fun c5 H23 => nt ?_
    refine H23.cond (t := bitB f 4) rfl ?_
    cases b4 : bitB f 4 with
    | true =>
      rw [b4, if_pos rfl] at e5
      refine (H23.keep (l' := [(0, .pointer (some ⟨g, 0, none⟩)), (1, .pointer (some ⟨gp, 0, none⟩)), (4, .int .i64 (f.toNat : Int))]) ⟨rfl, rfl, rfl, trivial⟩).rg 2 fun c6 H24 => ?_
      refine H24.rc R14 1 (packTextR B g _ _ R14.rd) fun c7 y7 R15 H25 => ?_
      rw [ht] at R15 H25
      refine H25.rc R15 1 (packTextR B g _ _ R15.rd) fun c8 y8 R16 H26 => ?_
      rw [hy, e5] at R16
      rw [hy] at H26
      refine H26.bn 0 (shr_3 _ _ _ _) fun c9 H27 => ?_
      refine H27.bn 1 (and_i _ _ _ _ _) fun d1 H28 => ?_
      refine H28.bn 0 (and_i _ _ _ _ _) fun d2 H29 => ?_
      refine H29.bn 0 (bit_i f 32 (by omega) _ _ _) fun d3 H30 => ?_
      refine H30.any (w' := y8) gz rfl rfl (.agg #[.bool true, .string t.1, .string y.1, .int .i64 (bits .and .i64 ((f.toNat : Int) / 8) 3), .bool (bitB f 32)]) (by intro cs b h; cases h) (by kernel_rfl) (by kernel_rfl) fun d4 H31 => ?_
      refine H31.ms 2 fun d5 H32 => ?_
      refine H32.sw R16 0 fun d6 z6 R17 H33 => nt ?_
      exact ⟨H33.keep ⟨rfl, rfl, trivial⟩, R17.is (by rw [shr3]; rfl) rfl⟩
    | false =>
      rw [b4, if_neg (by decide)] at e5
      refine skip_wp (then_normal ⟨H23.keep ⟨rfl, rfl, trivial⟩, ?_⟩)
      rw [← e5]
      exact R14
  rintro a0 w1 ⟨H0, R0⟩
  refine wp_seq_join (fun a w' => Has a 72 [(0, .pointer (some ⟨g, 0, none⟩)), (1, .pointer (some ⟨gp, 0, none⟩))] ∧ Rst w0 B g gp s6 (mqCells { mq0 1 with keep := k.1, client := c.1, clean := bitB f 2, hp := bitB f 64, hu := bitB f 128, won := bitB f 4, wt := (if bitB f 4 then t.1 else nos), wp := (if bitB f 4 then y.1 else nos), wq := (if bitB f 4 then ((f >>> 3 &&& 3).toNat : Int) else 0), wr := (bitB f 4 && bitB f 32), user := (if bitB f 128 then u.1 else nos) } nilV nilV nilV) w') ?_ ?_
  · refine H0.rg 3 fun a1 H1 => ?_
    refine H1.ld 0 (R0.lb 10) fun a2 H2 => nt ?_
    refine H2.cond (t := bitB f 128) rfl ?_
    cases b4 : bitB f 128 with
    | true =>
      rw [b4, if_pos rfl] at e6
      refine H2.rg 2 fun a3 H3 => ?_
      refine H3.rc R0 2 (packTextR B g _ _ R0.rd) fun a4 w4 R4 H4 => ?_
      refine H4.ss R4 0 fun a5 w5 R5 H5 => nt ?_
      rw [hu, e6] at R5
      exact ⟨H5.keep ⟨rfl, rfl, trivial⟩, R5.is (by rw [b4]; rfl) rfl⟩
    | false =>
      rw [b4, if_neg (by decide)] at e6
      refine skip_wp (then_normal ⟨H2.keep ⟨rfl, rfl, trivial⟩, ?_⟩)
      exact R0.is (by rw [b4]; rfl) e6
  clear R0 H0
  rintro a0 w1 ⟨H0, R0⟩
  refine H0.rg 3 fun a1 H1 => ?_
  refine H1.ld 0 (R0.lb 12) fun a2 H2 => nt ?_
  refine H2.cond (t := bitB f 64) rfl ?_
  cases b4 : bitB f 64 with
  | true =>
    rw [b4, if_pos rfl] at e7
    refine H2.rg 2 fun a3 H3 => ?_
    refine H3.rc R0 2 (packTextR B g _ _ R0.rd) fun a4 w4 R4 H4 => ?_
    refine H4.ss R4 0 fun a5 w5 R5 H5 => ?_
    rw [hq, e7] at R5
    refine wpList_nil (bodyPost_end (results_none rfl _ _ _) H5.df ⟨rfl, ?_⟩)
    rw [hr']
    have R6 := R5.is (L' := mqCells (Conn.mk f k c t y u q s7).mq nilV nilV nilV) (by unfold Conn.mq; simp only [b4]; rfl) rfl
    exact ⟨R6.rd, R6.ce, R6.gr, R6.lt⟩
  | false =>
    rw [b4, if_neg (by decide)] at e7
    refine skip_wp (bodyPost_end (results_none rfl _ _ _) H2.df ⟨rfl, ?_⟩)
    rw [hr']
    have R6 := R0.is (L' := mqCells (Conn.mk f k c t y u q s7).mq nilV nilV nilV) (by unfold Conn.mq; simp only [b4]; rfl) e7
    exact ⟨R6.rd, R6.ce, R6.gr, R6.lt⟩
end Go.Proofs.YtkcdkjpmbjcmdaaDoor

/-
  Package pack's reader: lists.
-/
namespace Go.Proofs.YtkcdkjpmbjcmdaaDoor
open Go.RowKit

/-- what 'lists' leaves. -/
def Listed (w0 : World) (B g gp base : Nat) (r : Mq × Rd) (e : Ending) (w' : World) : Prop :=
  e = .returned (.tuple #[]) ∧ RdAt w' B g r.2 ∧ w0.grownBy w' (some g) ∧ gp < w'.heap.size ∧
    ∃ vc vw vf, Cells w' gp (mqCells r.1 vc vw vf) ∧ w'.ownsRow base 3 1 vc r.1.codes.length (r.1.codes.map iv) ∧ w'.ownsRow base 95 2 vw r.1.wishes.length (wv r.1.wishes) ∧ w'.ownsRow base 9 1 vf r.1.filters.length (r.1.filters.map sv)

set_option maxRecDepth 100000 in
set_option maxHeartbeats 3200000 in
theorem packLists9 (B g gp : Nat) (s : Rd) (hs : s.1.length ≤ 1000000) (w0 w : World) (hR : RdAt w B g s) (hC : Cells w gp (mqCells (mq0 9) nilV nilV nilV)) (hG : w0.grownBy w (some g)) (hp : w0.heap.size ≤ gp) (hB : B ≤ gp) (hne : gp ≠ g) (hlt : gp < w.heap.size) :
    Calls Tryd.prog 83 #[.pointer (some ⟨g, 0, none⟩), .pointer (some ⟨gp, 0, none⟩)] w (Listed w0 B g gp w.heap.size (loopP 9 ((twoP s).2.1.length + 1) { mq0 9 with id := ((twoP s).1 : Int) } (twoP s).2)) := by
  have HP := Lib.hid hp
  have HBp := Lib.hid hB
  have HNe := Lib.hid hne
  have HC0 := Lib.hid hC
  have HG0 := Lib.hid hG
  have HL0 := Lib.hid hlt
  have K1 := Lib.hid (packTwoR B g s w hR)
  have HgW : Hid (g < w.heap.size) := by
    obtain ⟨_, _, _, _, _, _, _, _, _, h⟩ := hR
    exact h
  have HLW : Hid (gp < w.heap.size) := hlt
  clear hp hB hne hC hG hlt hR
  generalize hl : (twoP s).2.1.length + 1 = L
  have hs2 : (twoP s).2.1.length ≤ 1000000 := Nat.le_trans (twoP_le s) hs
  generalize twoP s = t at *
  obtain ⟨i, s1⟩ := t
  dsimp only at *
  generalize hfin : loopP 9 L { mq0 9 with id := (i : Int) } s1 = fin
  have HF := Lib.hid hfin
  have HS2 := Lib.hid hs2
  have HLL := Lib.hid hl
  clear hfin hl hs2 hs
  go_enter Tryd.func83, Tryd.ntmps83
  go_wp2_with fail
  (with_reducible refine K1.out.mono ?_)
  rintro _ w1 ⟨rfl, hR1, hg1⟩
  have HC1 := Lib.hid (HC0.out.kept hg1 HL0.out (by simpa using HNe.out))
  have c1 := HC1.out.get 20 _ rfl
  have f1 := HC1.out.fr 20 rfl
  go_wp2_with fail
  go_loopg [] L (fun gk wx => ∃ (l : List Int) (s' : Rd) (vc : Value), RdAt wx B g s' ∧ w0.grownBy wx (some g) ∧ gp < wx.heap.size ∧ w.heap.size ≤ wx.heap.size ∧ Hid (Cells wx gp (mqCells { mq0 9 with id := (i : Int), codes := l } vc nilV nilV)) ∧
    Hid (wx.ownsRow w.heap.size 3 1 vc l.length (l.map iv)) ∧ Hid (loopP 9 gk { mq0 9 with id := (i : Int), codes := l } s' = fin) ∧ 0 < gk ∧ (s'.2 = false → s'.1.length < gk) ∧ l.length + gk ≤ 1000010)
  case atStart =>
    have hl := HLL.out
    have h2 := HS2.out
    refine ⟨[], s1, nilV, hR1.store (a := ⟨gp, 20, none⟩) HBp.out HNe.out _, grown_store (HG0.out.trans hg1) (a := ⟨gp, 20, none⟩) HP.out _, lt_set (Nat.lt_of_lt_of_le HL0.out hg1.size) _ _, by rw [size_setCell']; exact hg1.size, HC1.out.set 20 _ (by simp), World.ownsRow_nil _ _ _ _, HF.out, by omega, fun _ => by omega, by simp; omega⟩
  case round =>
    obtain ⟨l, s', vc, hR, hG, hL, hW, hC, hO, hk, hgk, hl2, hll⟩ := hrel
    have KM := Lib.hid (packMore B g s' _ hR)
    by_cases hm : s'.2 = false ∧ 0 < s'.1.length
    · have hMore : (!s'.2 && decide (0 < s'.1.length)) = true := by rw [hm.1, decide_eq_true hm.2]; rfl
      rw [hMore] at KM
      obtain ⟨gk, rfl⟩ : ∃ n, gk = n + 1 := ⟨gk - 1, by omega⟩
      obtain ⟨⟨x, s2⟩, e1⟩ : ∃ r, oneP s' = r := ⟨_, rfl⟩
      have hk2 : loopP 9 gk { mq0 9 with id := (i : Int), codes := l ++ [(x.toNat : Int)] } s2 = fin := by
        have := hk.out
        unfold loopP at this
        rw [if_pos hm, if_neg (by decide), if_pos rfl, e1] at this
        exact this
      have hg2 : s2.2 = false → s2.1.length + 1 = s'.1.length := by
        intro h
        have := oneP_good s' (by rw [e1]; exact h)
        rw [e1] at this
        exact this.2
      have hgk2 : 0 < gk ∧ (s2.2 = false → s2.1.length < gk) := by
        have := hl2 hm.1
        exact ⟨by omega, fun h => by have := hg2 h; omega⟩
      have HK := Lib.hid hk2
      have HGK := Lib.hid hgk2
      obtain ⟨A, c, rfl, _, _⟩ := own_shape hO.out
      have hgW := HgW.out
      have hlm : l.length + 1 ≤ maxLen := by unfold maxLen; omega
      have hlb : (l.length + 1) * 8 ≤ 140737488355328 := by omega
      have c0 := hC.out.get 0 _ rfl
      have c15 := hC.out.get 15 _ rfl
      have f15 := hC.out.fr 15 rfl
      have HR := Lib.hid hR
      have HGr := Lib.hid hG
      clear hMore hk hk2 hg2 hgk2 hgk hl2 hm hR hG
      go_wp2_with (go_at_call 102; (with_reducible refine KM.out.mono ?_); rintro _ w' ⟨rfl, rfl⟩)
      clear KM
      go_region_law
        (first
          | (go_simp; go_at_call 79; (with_reducible refine (packOneQ B g _ e1 _ HR.out.drew).mono ?_); rintro _ w2 ⟨rfl, hR2, hg2⟩; replace hg2 := of_drew_grown hg2; have HC2 := Lib.hid (hC.out.kept hg2 hL (by simpa using HNe.out)); have c15' := HC2.out.get 15 _ rfl; have HO2 := Lib.hid (hO.out.kept hg2 (Or.inr (Ne.symm (own_ne hO.out (Or.inl hgW))))); have hW2 := Nat.le_trans hW hg2.size; have hL2 := Nat.lt_of_lt_of_le hL hg2.size)
          | (refine step_append_row rfl _ _ 26 rfl w.heap.size 3 (.int .i64 0) 1 8 Tryd.underlying26 info_int rfl (by decide) _ _ (l.map iv) (by exact rfl) (HO2.out.alloc _) _ 1 1 [iv (x.toNat : Int)] (by exact rfl) (Reads.lit w2 3 [iv (x.toNat : Int)] (0, 0) 1 1 rfl) (one_iv _) hlm hlb (Nat.le_trans hW2 (balloc _ _).size) ?_; intro A3 c3 w3 hO3 hg3; have HC3 := Lib.hid ((HC2.out.alloc hL2 _).kept hg3 (Nat.lt_trans hL2 (lt_alloc _ _)) (own_ne HO2.out (Or.inl HLW.out))); have c15'' := HC3.out.get 15 _ rfl; have f15'' := HC3.out.fr 15 rfl))
      all_goals
        have hL3 := Nat.lt_of_lt_of_le (Nat.lt_trans hL2 (lt_alloc w2 (.cells #[iv (x.toNat : Int)] 3))) hg3.size
        have hW3 := Nat.le_trans hW2 (Nat.le_trans (Nat.le_of_lt (lt_alloc w2 (.cells #[iv (x.toNat : Int)] 3))) hg3.size)
        have hG3 : w0.grownBy w3 (some g) := grown_row_of (HGr.out.trans hg2) HO2.out (Nat.le_trans HP.out (Nat.le_of_lt HLW.out)) _ hg3
        have hR3 : RdAt w3 B g s2 := hR2.row_of HO2.out HgW.out _ hg3
        have HO3 := Lib.hid hO3
        clear hO3
        go_wp2_with fail
        go_roundg gk
        case measure => omega
        case rel =>
          refine ⟨l ++ [(x.toNat : Int)], s2, .slice A3 (l.length + 1) c3, hR3.store (a := ⟨gp, 15, none⟩) HBp.out HNe.out _, grown_store hG3 (a := ⟨gp, 15, none⟩) HP.out _, lt_set hL3 _ _, by rw [size_setCell']; exact hW3, ?_, ?_, HK.out, HGK.out.1, HGK.out.2, ?_⟩
          · exact HC3.out.set 15 _ (by simp)
          · have := ownsRow_setCell_below HO3.out (a := ⟨gp, 15, none⟩) HLW.out (.slice A3 (l.length + 1) c3)
            unfold Hid
            rw [map_iv_snoc, List.length_append]
            exact this
          · simp; omega
    · have hMore : (!s'.2 && decide (0 < s'.1.length)) = false := by
        rw [Bool.and_eq_false_iff]
        by_cases h : s'.2 = false
        · exact Or.inr (decide_eq_false fun h0 => hm ⟨h, h0⟩)
        · exact Or.inl (by simpa using h)
      rw [hMore] at KM
      obtain ⟨gk, rfl⟩ : ∃ n, gk = n + 1 := ⟨gk - 1, by omega⟩
      have hk2 := hk.out
      unfold loopP at hk2
      rw [if_neg hm] at hk2
      have HK := Lib.hid hk2
      clear hk hk2 hm hMore
      go_wp2_with (go_at_call 102; (with_reducible refine KM.out.mono ?_); rintro _ w' ⟨rfl, rfl⟩)
      refine bodyPost_end (results_none rfl _ _ _) rfl ?_
      rw [← HK.out]
      exact ⟨rfl, hR, hG, hL, vc, nilV, nilV, hC.out, hO.out, World.ownsRow_nil _ _ _ _, World.ownsRow_nil _ _ _ _⟩

set_option maxRecDepth 100000 in
set_option maxHeartbeats 3200000 in
theorem packLists10 (B g gp : Nat) (s : Rd) (hs : s.1.length ≤ 1000000) (w0 w : World) (hR : RdAt w B g s) (hC : Cells w gp (mqCells (mq0 10) nilV nilV nilV)) (hG : w0.grownBy w (some g)) (hp : w0.heap.size ≤ gp) (hB : B ≤ gp) (hne : gp ≠ g) (hlt : gp < w.heap.size) :
    Calls Tryd.prog 83 #[.pointer (some ⟨g, 0, none⟩), .pointer (some ⟨gp, 0, none⟩)] w (Listed w0 B g gp w.heap.size (loopP 10 ((twoP s).2.1.length + 1) { mq0 10 with id := ((twoP s).1 : Int) } (twoP s).2)) := by
  have HP := Lib.hid hp
  have HBp := Lib.hid hB
  have HNe := Lib.hid hne
  have HC0 := Lib.hid hC
  have HG0 := Lib.hid hG
  have HL0 := Lib.hid hlt
  have K1 := Lib.hid (packTwoR B g s w hR)
  have HgW : Hid (g < w.heap.size) := by
    obtain ⟨_, _, _, _, _, _, _, _, _, h⟩ := hR
    exact h
  have HLW : Hid (gp < w.heap.size) := hlt
  clear hp hB hne hC hG hlt hR
  generalize hl : (twoP s).2.1.length + 1 = L
  have hs2 : (twoP s).2.1.length ≤ 1000000 := Nat.le_trans (twoP_le s) hs
  generalize twoP s = t at *
  obtain ⟨i, s1⟩ := t
  dsimp only at *
  generalize hfin : loopP 10 L { mq0 10 with id := (i : Int) } s1 = fin
  have HF := Lib.hid hfin
  have HS2 := Lib.hid hs2
  have HLL := Lib.hid hl
  clear hfin hl hs2 hs
  go_enter Tryd.func83, Tryd.ntmps83
  go_wp2_with fail
  (with_reducible refine K1.out.mono ?_)
  rintro _ w1 ⟨rfl, hR1, hg1⟩
  have HC1 := Lib.hid (HC0.out.kept hg1 HL0.out (by simpa using HNe.out))
  have c1 := HC1.out.get 20 _ rfl
  have f1 := HC1.out.fr 20 rfl
  go_wp2_with fail
  go_loopg [] L (fun gk wx => ∃ (l : List ByteArray) (s' : Rd) (vc : Value), RdAt wx B g s' ∧ w0.grownBy wx (some g) ∧ gp < wx.heap.size ∧ w.heap.size ≤ wx.heap.size ∧ Hid (Cells wx gp (mqCells { mq0 10 with id := (i : Int), filters := l } nilV nilV vc)) ∧
    Hid (wx.ownsRow w.heap.size 9 1 vc l.length (l.map sv)) ∧ Hid (loopP 10 gk { mq0 10 with id := (i : Int), filters := l } s' = fin) ∧ 0 < gk ∧ (s'.2 = false → s'.1.length < gk) ∧ l.length + gk ≤ 1000010)
  case atStart =>
    have hl := HLL.out
    have h2 := HS2.out
    refine ⟨[], s1, nilV, hR1.store (a := ⟨gp, 20, none⟩) HBp.out HNe.out _, grown_store (HG0.out.trans hg1) (a := ⟨gp, 20, none⟩) HP.out _, lt_set (Nat.lt_of_lt_of_le HL0.out hg1.size) _ _, by rw [size_setCell']; exact hg1.size, HC1.out.set 20 _ (by simp), World.ownsRow_nil _ _ _ _, HF.out, by omega, fun _ => by omega, by simp; omega⟩
  case round =>
    obtain ⟨l, s', vc, hR, hG, hL, hW, hC, hO, hk, hgk, hl2, hll⟩ := hrel
    have KM := Lib.hid (packMore B g s' _ hR)
    by_cases hm : s'.2 = false ∧ 0 < s'.1.length
    · have hMore : (!s'.2 && decide (0 < s'.1.length)) = true := by rw [hm.1, decide_eq_true hm.2]; rfl
      rw [hMore] at KM
      obtain ⟨gk, rfl⟩ : ∃ n, gk = n + 1 := ⟨gk - 1, by omega⟩
      obtain ⟨⟨x, s2⟩, e1⟩ : ∃ r, textP s' = r := ⟨_, rfl⟩
      have hk2 : loopP 10 gk { mq0 10 with id := (i : Int), filters := l ++ [x] } s2 = fin := by
        have := hk.out
        unfold loopP at this
        rw [if_pos hm, if_neg (by decide), if_neg (by decide), e1] at this
        exact this
      have hg2 : s2.2 = false → s2.1.length + 2 ≤ s'.1.length := by
        intro h
        have := textP_good s' (by rw [e1]; exact h)
        rw [e1] at this
        exact this.2
      have hgk2 : 0 < gk ∧ (s2.2 = false → s2.1.length < gk) := by
        have := hl2 hm.1
        exact ⟨by omega, fun h => by have := hg2 h; omega⟩
      have HK := Lib.hid hk2
      have HGK := Lib.hid hgk2
      obtain ⟨A, c, rfl, _, _⟩ := own_shape hO.out
      have hgW := HgW.out
      have hlm : l.length + 1 ≤ maxLen := by unfold maxLen; omega
      have hlb : (l.length + 1) * 16 ≤ 140737488355328 := by omega
      have c0 := hC.out.get 0 _ rfl
      have c23 := hC.out.get 23 _ rfl
      have f23 := hC.out.fr 23 rfl
      have HR := Lib.hid hR
      have HGr := Lib.hid hG
      clear hMore hk hk2 hg2 hgk2 hgk hl2 hm hR hG
      go_wp2_with (go_at_call 102; (with_reducible refine KM.out.mono ?_); rintro _ w' ⟨rfl, rfl⟩)
      clear KM
      go_region_law
        (first
          | (go_simp; go_at_call 80; (with_reducible refine (packTextQ B g _ e1 _ HR.out.drew).mono ?_); rintro _ w2 ⟨rfl, hR2, hg2⟩; replace hg2 := of_drew_grown hg2; have HC2 := Lib.hid (hC.out.kept hg2 hL (by simpa using HNe.out)); have c23' := HC2.out.get 23 _ rfl; have HO2 := Lib.hid (hO.out.kept hg2 (Or.inr (Ne.symm (own_ne hO.out (Or.inl hgW))))); have hW2 := Nat.le_trans hW hg2.size; have hL2 := Nat.lt_of_lt_of_le hL hg2.size)
          | (refine step_append_row rfl _ _ 28 rfl w.heap.size 9 (.string ⟨#[]⟩) 1 16 Tryd.underlying28 info_string rfl (by decide) _ _ (l.map sv) (by exact rfl) (HO2.out.alloc _) _ 1 1 [sv x] (by exact rfl) (Reads.lit w2 9 [sv x] (0, 0) 1 1 rfl) (one_sv _) hlm hlb (Nat.le_trans hW2 (balloc _ _).size) ?_; intro A3 c3 w3 hO3 hg3; have HC3 := Lib.hid ((HC2.out.alloc hL2 _).kept hg3 (Nat.lt_trans hL2 (lt_alloc _ _)) (own_ne HO2.out (Or.inl HLW.out))); have c23'' := HC3.out.get 23 _ rfl; have f23'' := HC3.out.fr 23 rfl))
      all_goals
        have hL3 := Nat.lt_of_lt_of_le (Nat.lt_trans hL2 (lt_alloc w2 (.cells #[sv x] 9))) hg3.size
        have hW3 := Nat.le_trans hW2 (Nat.le_trans (Nat.le_of_lt (lt_alloc w2 (.cells #[sv x] 9))) hg3.size)
        have hG3 : w0.grownBy w3 (some g) := grown_row_of (HGr.out.trans hg2) HO2.out (Nat.le_trans HP.out (Nat.le_of_lt HLW.out)) _ hg3
        have hR3 : RdAt w3 B g s2 := hR2.row_of HO2.out HgW.out _ hg3
        have HO3 := Lib.hid hO3
        clear hO3
        go_wp2_with fail
        go_roundg gk
        case measure => omega
        case rel =>
          refine ⟨l ++ [x], s2, .slice A3 (l.length + 1) c3, hR3.store (a := ⟨gp, 23, none⟩) HBp.out HNe.out _, grown_store hG3 (a := ⟨gp, 23, none⟩) HP.out _, lt_set hL3 _ _, by rw [size_setCell']; exact hW3, ?_, ?_, HK.out, HGK.out.1, HGK.out.2, ?_⟩
          · exact HC3.out.set 23 _ (by simp)
          · have := ownsRow_setCell_below HO3.out (a := ⟨gp, 23, none⟩) HLW.out (.slice A3 (l.length + 1) c3)
            unfold Hid
            rw [map_sv_snoc, List.length_append]
            exact this
          · simp; omega
    · have hMore : (!s'.2 && decide (0 < s'.1.length)) = false := by
        rw [Bool.and_eq_false_iff]
        by_cases h : s'.2 = false
        · exact Or.inr (decide_eq_false fun h0 => hm ⟨h, h0⟩)
        · exact Or.inl (by simpa using h)
      rw [hMore] at KM
      obtain ⟨gk, rfl⟩ : ∃ n, gk = n + 1 := ⟨gk - 1, by omega⟩
      have hk2 := hk.out
      unfold loopP at hk2
      rw [if_neg hm] at hk2
      have HK := Lib.hid hk2
      clear hk hk2 hm hMore
      go_wp2_with (go_at_call 102; (with_reducible refine KM.out.mono ?_); rintro _ w' ⟨rfl, rfl⟩)
      refine bodyPost_end (results_none rfl _ _ _) rfl ?_
      rw [← HK.out]
      exact ⟨rfl, hR, hG, hL, nilV, nilV, vc, hC.out, World.ownsRow_nil _ _ _ _, World.ownsRow_nil _ _ _ _, hO.out⟩

set_option maxRecDepth 100000 in
set_option maxHeartbeats 3200000 in
theorem packLists8 (B g gp : Nat) (s : Rd) (hs : s.1.length ≤ 1000000) (w0 w : World) (hR : RdAt w B g s) (hC : Cells w gp (mqCells (mq0 8) nilV nilV nilV)) (hG : w0.grownBy w (some g)) (hp : w0.heap.size ≤ gp) (hB : B ≤ gp) (hne : gp ≠ g) (hlt : gp < w.heap.size) :
    Calls Tryd.prog 83 #[.pointer (some ⟨g, 0, none⟩), .pointer (some ⟨gp, 0, none⟩)] w (Listed w0 B g gp w.heap.size (loopP 8 ((twoP s).2.1.length + 1) { mq0 8 with id := ((twoP s).1 : Int) } (twoP s).2)) := by
  have HP := Lib.hid hp
  have HBp := Lib.hid hB
  have HNe := Lib.hid hne
  have HC0 := Lib.hid hC
  have HG0 := Lib.hid hG
  have HL0 := Lib.hid hlt
  have K1 := Lib.hid (packTwoR B g s w hR)
  have HgW : Hid (g < w.heap.size) := by
    obtain ⟨_, _, _, _, _, _, _, _, _, h⟩ := hR
    exact h
  have HLW : Hid (gp < w.heap.size) := hlt
  clear hp hB hne hC hG hlt hR
  generalize hl : (twoP s).2.1.length + 1 = L
  have hs2 : (twoP s).2.1.length ≤ 1000000 := Nat.le_trans (twoP_le s) hs
  generalize twoP s = t at *
  obtain ⟨i, s1⟩ := t
  dsimp only at *
  generalize hfin : loopP 8 L { mq0 8 with id := (i : Int) } s1 = fin
  have HF := Lib.hid hfin
  have HS2 := Lib.hid hs2
  have HLL := Lib.hid hl
  clear hfin hl hs2 hs
  go_enter Tryd.func83, Tryd.ntmps83
  go_wp2_with fail
  (with_reducible refine K1.out.mono ?_)
  rintro _ w1 ⟨rfl, hR1, hg1⟩
  have HC1 := Lib.hid (HC0.out.kept hg1 HL0.out (by simpa using HNe.out))
  have c1 := HC1.out.get 20 _ rfl
  have f1 := HC1.out.fr 20 rfl
  go_wp2_with fail
  go_loopg [] L (fun gk wx => ∃ (l : List (ByteArray × Int)) (s' : Rd) (vc : Value), RdAt wx B g s' ∧ w0.grownBy wx (some g) ∧ gp < wx.heap.size ∧ w.heap.size ≤ wx.heap.size ∧ Hid (Cells wx gp (mqCells { mq0 8 with id := (i : Int), wishes := l } nilV vc nilV)) ∧
    Hid (wx.ownsRow w.heap.size 95 2 vc l.length (wv l)) ∧ Hid (loopP 8 gk { mq0 8 with id := (i : Int), wishes := l } s' = fin) ∧ 0 < gk ∧ (s'.2 = false → s'.1.length < gk) ∧ l.length + gk ≤ 1000010)
  case atStart =>
    have hl := HLL.out
    have h2 := HS2.out
    refine ⟨[], s1, nilV, hR1.store (a := ⟨gp, 20, none⟩) HBp.out HNe.out _, grown_store (HG0.out.trans hg1) (a := ⟨gp, 20, none⟩) HP.out _, lt_set (Nat.lt_of_lt_of_le HL0.out hg1.size) _ _, by rw [size_setCell']; exact hg1.size, HC1.out.set 20 _ (by simp), World.ownsRow_nil _ _ _ _, HF.out, by omega, fun _ => by omega, by simp; omega⟩
  case round =>
    obtain ⟨l, s', vc, hR, hG, hL, hW, hC, hO, hk, hgk, hl2, hll⟩ := hrel
    have KM := Lib.hid (packMore B g s' _ hR)
    by_cases hm : s'.2 = false ∧ 0 < s'.1.length
    · have hMore : (!s'.2 && decide (0 < s'.1.length)) = true := by rw [hm.1, decide_eq_true hm.2]; rfl
      rw [hMore] at KM
      obtain ⟨gk, rfl⟩ : ∃ n, gk = n + 1 := ⟨gk - 1, by omega⟩
      obtain ⟨⟨y, s3⟩, e1⟩ : ∃ r, textP s' = r := ⟨_, rfl⟩
      obtain ⟨⟨x, s2⟩, e2⟩ : ∃ r, oneP s3 = r := ⟨_, rfl⟩
      have hk2 : loopP 8 gk { mq0 8 with id := (i : Int), wishes := l ++ [(y, (x.toNat : Int))] } s2 = fin := by
        have := hk.out
        unfold loopP at this
        rw [if_pos hm, if_pos rfl, e1] at this
        dsimp only at this
        rw [e2] at this
        exact this
      have hg2 : s2.2 = false → s2.1.length + 3 ≤ s'.1.length := by
        intro h
        have h3 := oneP_good s3 (by rw [e2]; exact h)
        rw [e2] at h3
        have h4 := textP_good s' (by rw [e1]; exact h3.1)
        rw [e1] at h4
        have := h3.2
        have := h4.2
        dsimp only at *
        omega
      have hgk2 : 0 < gk ∧ (s2.2 = false → s2.1.length < gk) := by
        have := hl2 hm.1
        exact ⟨by omega, fun h => by have := hg2 h; omega⟩
      have HK := Lib.hid hk2
      have HGK := Lib.hid hgk2
      obtain ⟨A, c, rfl, _, _⟩ := own_shape hO.out
      have hgW := HgW.out
      have hlm : l.length + 1 ≤ maxLen := by unfold maxLen; omega
      have hlb : (l.length + 1) * 24 ≤ 140737488355328 := by omega
      have c0 := hC.out.get 0 _ rfl
      have HR := Lib.hid hR
      have HGr := Lib.hid hG
      clear hMore hk hk2 hg2 hgk2 hgk hl2 hm hR hG
      go_wp2_with (go_at_call 102; (with_reducible refine KM.out.mono ?_); rintro _ w' ⟨rfl, rfl⟩)
      clear KM
      go_wp2_with (go_at_call 80; (with_reducible refine (packTextQ B g _ e1 _ HR.out).mono ?_); rintro _ w5 ⟨rfl, hR5, hg5⟩)
      have HC5 := Lib.hid (hC.out.kept hg5 hL (by simpa using HNe.out))
      have c22 := HC5.out.get 22 _ rfl
      have HO5 := Lib.hid (hO.out.kept hg5 (Or.inr (Ne.symm (own_ne hO.out (Or.inl hgW)))))
      have hW5 := Nat.le_trans hW hg5.size
      have hL5 := Nat.lt_of_lt_of_le hL hg5.size
      have HR5 := Lib.hid hR5
      have HG5 := Lib.hid (HGr.out.trans hg5)
      clear hR5 hg5 hW hL HR HGr
      go_region_law
        (first
          | (go_simp; go_at_call 79; (with_reducible refine (packOneQ B g _ e2 _ HR5.out.drew).mono ?_); rintro _ w2 ⟨rfl, hR2, hg2⟩; replace hg2 := of_drew_grown hg2; have HC2 := Lib.hid (HC5.out.kept hg2 hL5 (by simpa using HNe.out)); have c22' := HC2.out.get 22 _ rfl; have HO2 := Lib.hid (HO5.out.kept hg2 (Or.inr (Ne.symm (own_ne HO5.out (Or.inl hgW))))); have hW2 := Nat.le_trans hW5 hg2.size; have hL2 := Nat.lt_of_lt_of_le hL5 hg2.size)
          | (refine step_append_row rfl _ _ 27 rfl w.heap.size 95 (.agg #[.string ⟨#[]⟩, .int .i64 0]) 2 24 Tryd.underlying27 info_wish rfl (by decide) _ _ (wv l) (by exact rfl) (HO2.out.alloc _) _ 1 1 (wv [(y, (x.toNat : Int))]) (by exact rfl) (Reads.lit w2 95 (wv [(y, (x.toNat : Int))]) (0, 0) 2 1 rfl) (one_wv _) hlm hlb (Nat.le_trans hW2 (balloc _ _).size) ?_; intro A3 c3 w3 hO3 hg3; have HC3 := Lib.hid ((HC2.out.alloc hL2 _).kept hg3 (Nat.lt_trans hL2 (lt_alloc _ _)) (own_ne HO2.out (Or.inl HLW.out))); have c22'' := HC3.out.get 22 _ rfl; have f22'' := HC3.out.fr 22 rfl))
      all_goals
        have hL3 := Nat.lt_of_lt_of_le (Nat.lt_trans hL2 (lt_alloc w2 (.cells (wv [(y, (x.toNat : Int))]).toArray 95))) hg3.size
        have hW3 := Nat.le_trans hW2 (Nat.le_trans (Nat.le_of_lt (lt_alloc w2 (.cells (wv [(y, (x.toNat : Int))]).toArray 95))) hg3.size)
        have hG3 : w0.grownBy w3 (some g) := grown_row_of (HG5.out.trans hg2) HO2.out (Nat.le_trans HP.out (Nat.le_of_lt HLW.out)) _ hg3
        have hR3 : RdAt w3 B g s2 := hR2.row_of HO2.out HgW.out _ hg3
        have HO3 := Lib.hid hO3
        clear hO3
        go_wp2_with fail
        go_roundg gk
        case measure => omega
        case rel =>
          refine ⟨l ++ [(y, (x.toNat : Int))], s2, .slice A3 (l.length + 1) c3, hR3.store (a := ⟨gp, 22, none⟩) HBp.out HNe.out _, grown_store hG3 (a := ⟨gp, 22, none⟩) HP.out _, lt_set hL3 _ _, by rw [size_setCell']; exact hW3, ?_, ?_, HK.out, HGK.out.1, HGK.out.2, ?_⟩
          · exact HC3.out.set 22 _ (by simp)
          · have := ownsRow_setCell_below HO3.out (a := ⟨gp, 22, none⟩) HLW.out (.slice A3 (l.length + 1) c3)
            unfold Hid
            rw [wv_append, List.length_append]
            exact this
          · simp; omega
    · have hMore : (!s'.2 && decide (0 < s'.1.length)) = false := by
        rw [Bool.and_eq_false_iff]
        by_cases h : s'.2 = false
        · exact Or.inr (decide_eq_false fun h0 => hm ⟨h, h0⟩)
        · exact Or.inl (by simpa using h)
      rw [hMore] at KM
      obtain ⟨gk, rfl⟩ : ∃ n, gk = n + 1 := ⟨gk - 1, by omega⟩
      have hk2 := hk.out
      unfold loopP at hk2
      rw [if_neg hm] at hk2
      have HK := Lib.hid hk2
      clear hk hk2 hm hMore
      go_wp2_with (go_at_call 102; (with_reducible refine KM.out.mono ?_); rintro _ w' ⟨rfl, rfl⟩)
      refine bodyPost_end (results_none rfl _ _ _) rfl ?_
      rw [← HK.out]
      exact ⟨rfl, hR, hG, hL, nilV, vc, nilV, hC.out, World.ownsRow_nil _ _ _ _, hO.out, World.ownsRow_nil _ _ _ _⟩

end Go.Proofs.YtkcdkjpmbjcmdaaDoor

/-
  Package pack's reader: packet.
-/
namespace Go.Proofs.YtkcdkjpmbjcmdaaDoor
open Go.RowKit

/-- a packet's three lists, rows of the call's own. -/
def Rows3 (w : World) (base : Nat) (m : Mq) (vc vw vf : Value) : Prop :=
  w.ownsRow base 3 1 vc m.codes.length (m.codes.map iv) ∧ w.ownsRow base 95 2 vw m.wishes.length (wv m.wishes) ∧ w.ownsRow base 9 1 vf m.filters.length (m.filters.map sv)
/-- behind the switch of 'packet'. -/
def PkMid (w wx : World) (B g : Nat) (r : Mq × Rd) : Prop :=
  RdAt wx B g r.2 ∧ w.grownBy wx (some g) ∧ w.heap.size + 1 < wx.heap.size ∧ Cells wx w.heap.size (mqCells (mq0 0) nilV nilV nilV) ∧
    ∃ vc vw vf, Cells wx (w.heap.size + 1) (mqCells r.1 vc vw vf) ∧ Rows3 wx (w.heap.size + 2) r.1 vc vw vf
/-- what 'packet' leaves. -/
def Packed (w : World) (B g : Nat) (r : Mq × Rd) (e : Ending) (w' : World) : Prop :=
  ∃ vc vw vf, e = .returned (.agg (mqCells r.1 vc vw vf).toArray) ∧ RdAt w' B g r.2 ∧ w.grownBy w' (some g) ∧ Rows3 w' w.heap.size r.1 vc vw vf

theorem shr1 (f : UInt8) : bits BinOp.and IntKind.i64 ((f.toNat : Int) / 2) 3 = ((f >>> 1 &&& 3).toNat : Int) := by
  have h := f.toNat_lt
  have e : (f.toNat : Int) / 2 = ((f.toNat / 2 : Nat) : Int) := by omega
  rw [e]
  have := i64_and_nat (f.toNat / 2) 3 (by omega) (by omega)
  rw [show ((3 : Nat) : Int) = 3 from rfl] at this
  rw [this]
  congr 1

theorem own_one {w : World} {base : Nat} {e : TypeId} {size n : Nat} {v : Value} {xs : List Value} (h : w.ownsRow base e size v n xs) : v.oneCell' = true := by
  obtain ⟨A, c, rfl, _, _⟩ := own_shape h
  rfl
theorem mq_one (m : Mq) {vc vw vf : Value} (h1 : vc.oneCell' = true) (h2 : vw.oneCell' = true) (h3 : vf.oneCell' = true) : (mqCells m vc vw vf).all (·.oneCell') = true := by
  simp [List.all, h1, h2, h3]
  exact ⟨rfl, rfl, rfl, rfl, rfl, rfl, rfl, rfl, rfl, rfl, rfl, rfl, rfl, rfl, rfl, rfl, rfl, rfl, rfl, rfl, rfl⟩
theorem RdAt.below {w w' : World} {B g : Nat} {s : Rd} (h : RdAt w B g s) (hb : Below w.heap.size w w') : RdAt w' B g s := h.kept (below_grown hb none) (by simp) (by simp)
theorem RdAt.lts {w : World} {B g : Nat} {s : Rd} (h : RdAt w B g s) : B ≤ g ∧ g < w.heap.size := by obtain ⟨_, _, _, _, _, _, _, _, h, h'⟩ := h; exact ⟨h, h'⟩
theorem pk_start {w w1 w2 w3 : World} {B g : Nat} {s : Rd} {l : List Value} (hR : RdAt w B g s) (hb1 : Below w.heap.size w w1) (hs1 : w1.heap.size = w.heap.size + 1) (hb2 : Below (w.heap.size + 1) w1 w2) (hs2 : w2.heap.size = w.heap.size + 1 + 1)
    (hg3 : w2.grownBy w3 (some (w.heap.size + 1))) (hs3 : w3.heap.size = w2.heap.size) (hC3 : Cells w3 (w.heap.size + 1) l) :
    RdAt w3 B g s ∧ w1.grownBy w3 (some g) ∧ w1.heap.size ≤ w.heap.size + 1 ∧ B ≤ w.heap.size + 1 ∧ w.heap.size + 1 ≠ g ∧ w.heap.size + 1 < w3.heap.size ∧ Cells w3 (w.heap.size + 1) l ∧ w3.heap.size = w.heap.size + 2 := by
  have hb2' : Below w1.heap.size w1 w2 := by rw [hs1]; exact hb2
  have hB := hR.lts
  have hR2 := (hR.below hb1).below hb2'
  refine ⟨hR2.kept hg3 (fun k hk => by injection hk with hk; omega) (by intro e; injection e with e; omega), ?_, by omega, by omega, by omega, by omega, hC3, by omega⟩
  exact grown_mix (below_grown hb2' (some g)) hg3 (fun k hk => by injection hk with hk; omega)
theorem pk_mid {w w1 wx : World} {B g : Nat} {r : Mq × Rd} {s' : Rd} {l : List Value} {vc vw vf : Value} (hb1 : Below w.heap.size w w1) (hs1 : w1.heap.size = w.heap.size + 1) (hC1 : Cells w1 w.heap.size (mqCells (mq0 0) nilV nilV nilV)) (hg : g < w.heap.size)
    (hR : RdAt wx B g s') (hC : Cells wx (w.heap.size + 1) l) (hG : w1.grownBy wx (some g)) (hL : w.heap.size + 1 < wx.heap.size) (he : s' = r.2) (hl : l = mqCells r.1 vc vw vf) (hrows : Rows3 wx (w.heap.size + 2) r.1 vc vw vf) : PkMid w wx B g r := by
  subst he hl
  exact ⟨hR, (below_grown hb1 (some g)).trans hG, hL, hC1.kept hG (by omega) (by intro e; injection e with e; omega), vc, vw, vf, hC, hrows⟩
theorem rows_nil (w : World) (base : Nat) {m : Mq} (h1 : m.codes = []) (h2 : m.wishes = []) (h3 : m.filters = []) : Rows3 w base m nilV nilV nilV := by
  unfold Rows3
  rw [h1, h2, h3]
  exact ⟨World.ownsRow_nil _ _ _ _, World.ownsRow_nil _ _ _ _, World.ownsRow_nil _ _ _ _⟩
theorem pk_end {w wx w4 : World} {B g : Nat} {r : Mq × Rd} {vc vw vf : Value} (hR : RdAt wx B g r.2) (hG : w.grownBy wx (some g)) (hg : g ≠ w.heap.size) (hB : B ≤ w.heap.size) (hrows : Rows3 wx (w.heap.size + 2) r.1 vc vw vf)
    (h4 : wx.grownBy w4 (some w.heap.size)) : Packed w B g r (.returned (.agg (mqCells r.1 vc vw vf).toArray)) w4 := by
  obtain ⟨r1, r2, r3⟩ := hrows
  have k : ∀ {e : TypeId} {size n : Nat} {v : Value} {xs : List Value}, wx.ownsRow (w.heap.size + 2) e size v n xs → w4.ownsRow w.heap.size e size v n xs := fun h =>
    own_base (h.kept h4 (Or.inr (Ne.symm (own_ne h (Or.inl (by omega)))))) (by omega)
  exact ⟨vc, vw, vf, rfl, hR.kept h4 (fun k hk => by injection hk with hk; omega) (by intro e; injection e with e; exact hg e), grown_mix hG h4 (fun k hk => by injection hk with hk; omega), k r1, k r2, k r3⟩

theorem u8_is_one (x : UInt8) : ((x.toNat : Int) == 1) = (x == 1) := by
  by_cases h : x = 1
  · subst h; rfl
  · have a : (x == 1) = false := by simpa using h
    rw [a, beq_eq_false_iff_ne]
    intro e
    exact h ((byte_eq x 1).1 e)
theorem textP_le (s : Rd) : (textP s).2.1.length ≤ s.1.length := Nat.le_trans (takeP_le (twoP s).2 _) (twoP_le s)

theorem shr_1 (u : Int) (x y : Operand) (w : World) : (do eqGuard .shr 3 x y (.int .i64 u) (.int .u64 1); binOp .shr 3 (.int .i64 u) (.int .u64 1) : Sem Value).run Tryd.prog w = .ok (.int .i64 (u / 2)) w := by
  simp [go_sem]
theorem packLists (k : Int) (hk : listKind k = true) (B g gp : Nat) (s : Rd) (hs : s.1.length ≤ 1000000) (w0 w : World) (hR : RdAt w B g s) (hC : Cells w gp (mqCells (mq0 k) nilV nilV nilV)) (hG : w0.grownBy w (some g)) (hp : w0.heap.size ≤ gp) (hB : B ≤ gp) (hne : gp ≠ g) (hlt : gp < w.heap.size) :
    Calls Tryd.prog 83 #[.pointer (some ⟨g, 0, none⟩), .pointer (some ⟨gp, 0, none⟩)] w (Listed w0 B g gp w.heap.size (loopP k ((twoP s).2.1.length + 1) { mq0 k with id := ((twoP s).1 : Int) } (twoP s).2)) := by
  unfold listKind at hk
  simp only [Bool.or_eq_true, beq_iff_eq] at hk
  rcases hk with rfl | rfl | rfl
  · exact packLists8 B g gp s hs w0 w hR hC hG hp hB hne hlt
  · exact packLists9 B g gp s hs w0 w hR hC hG hp hB hne hlt
  · exact packLists10 B g gp s hs w0 w hR hC hG hp hB hne hlt
set_option maxRecDepth 100000 in
set_option maxHeartbeats 3200000 in
theorem packPacket (B g : Nat) (s : Rd) (k : Int) (f : UInt8) (hs : s.1.length ≤ 1000000) (w : World) (hR : RdAt w B g s) :
    Calls Tryd.prog 62 #[.pointer (some ⟨g, 0, none⟩), .int .i64 k, .int .i64 (f.toNat : Int)] w (Packed w B g (readP k f s)) := by
  have hlts := hR.lts
  go_enter Tryd.func62, Tryd.ntmps62
  refine Has.start 72 [(0, .pointer (some ⟨g, 0, none⟩)), (1, .int .i64 k), (2, .int .i64 (f.toNat : Int))] rfl rfl ⟨rfl, rfl, rfl, trivial⟩ ?_
  intro a0 H0
  refine rl ?_
  refine H0.alloc rfl rfl rfl rfl _ zero_mq ?_
  intro a1 w1 hb1 hs1 hC1 H1
  refine nt ?_
  refine H1.rg 1 fun a2 H2 => ?_
  refine H2.any (w' := w1) gz rfl rfl (.agg (mqCells (mq0 k) nilV nilV nilV).toArray) (by intro cs b h; cases h) (by kernel_rfl) (by kernel_rfl) fun a3 H3 => ?_
  refine H3.alloc rfl rfl rfl rfl _ zero_mq ?_
  intro a4 w2 hb2 hs2 hC2 H4
  refine H4.storeS rfl rfl rfl rfl rfl hC2 size_mq rfl rfl rfl ?_
  intro a5 w3 H5 hg3 hs3 hC3
  refine nt ?_
  rw [hs1] at hb2 hs2 hg3 hC3 H5
  obtain ⟨p1, p2, p3, p4, p5, p6, p7, p8⟩ := pk_start hR hb1 hs1 hb2 hs2 hg3 hs3 hC3
  have R3 : Rst w1 B g (w.heap.size + 1) s (mqCells (mq0 k) nilV nilV nilV) w3 := ⟨p1, p7, p2, p3, p4, p5, p6⟩
  have hM := fun (r : Mq × Rd) wx (s' : Rd) l vc vw vf => fun (R : Rst w1 B g (w.heap.size + 1) s' l wx) => pk_mid (w := w) (w1 := w1) (wx := wx) (r := r) (vc := vc) (vw := vw) (vf := vf) hb1 hs1 hC1 hlts.2 R.rd R.ce R.gr R.lt
  refine wp_seq_join (fun a w' => Has a 72 [(6, .pointer (some ⟨w.heap.size, 0, none⟩)), (7, .pointer (some ⟨w.heap.size + 1, 0, none⟩))] ∧ PkMid w w' B g (readP k f s)) ?_ ?_
  · refine H5.rg 1 fun a6 H6 => nt ?_
    have H7 := H6.keep (l' := [(0, .pointer (some ⟨g, 0, none⟩)), (2, .int .i64 (f.toNat : Int)), (6, .pointer (some ⟨w.heap.size, 0, none⟩)), (7, .pointer (some ⟨w.heap.size + 1, 0, none⟩)), (10, .int .i64 k)]) ⟨rfl, rfl, rfl, rfl, rfl, trivial⟩
    clear hb2 hs2 hg3 hC3 hC2 H6 H5 H4 H3 H2 H1 H0 p1 p2 p3 p4 p5 p6 p7
    refine wp_block ?_
    refine H7.rg 0 fun a1 H1 => ?_
    refine H1.bn 1 (eql_i _ _ _ _ _) fun a2 H2 => nt ?_
    refine H2.cond (t := k == 1) rfl ?_
    cases b1 : (k == 1) with
    | true =>
      have k1 : k = 1 := by simpa using b1
      subst k1
      refine H2.rg 1 fun a3 H3 => ?_
      refine H3.cl (R := fun _ w' => RdAt w' B g (connP s).s ∧ Cells w' (w.heap.size + 1) (mqCells (connP s).mq nilV nilV nilV) ∧ w1.grownBy w' (some g) ∧ w.heap.size + 1 < w'.heap.size) ((packConn B g _ s w1 w3 R3.rd R3.ce R3.gr R3.ge R3.hB R3.ne R3.lt).mono fun _ _ h => ⟨_, h.1, h.2⟩) ?_
      rintro a4 v4 w4 ⟨h1, h2, h3, h4⟩ H4
      refine wpList_nil (block_normal (then_normal ⟨H4.keep ⟨rfl, rfl, trivial⟩, ?_⟩))
      exact hM _ _ _ _ nilV nilV nilV ⟨h1, h2, h3, R3.ge, R3.hB, R3.ne, h4⟩ rfl rfl (rows_nil _ _ rfl rfl rfl)
    | false =>
    refine H2.rg 0 fun a1 H1 => ?_
    refine H1.bn 1 (eql_i _ _ _ _ _) fun a2 H2 => nt ?_
    refine H2.cond (t := k == 2) rfl ?_
    cases b2 : (k == 2) with
    | true =>
      have k1 : k = 2 := by simpa using b2
      subst k1
      refine H2.rg 1 fun a3 H3 => ?_
      refine H3.rc R3 0 (packOne B g _ _ R3.rd) fun a4 w4 R4 H4 => ?_
      refine H4.bn 1 (eql_i _ _ _ _ _) fun a5 H5 => ?_
      refine H5.sb R4 0 fun a6 w6 R6 H6 => nt ?_
      refine H6.rg 1 fun a7 H7 => ?_
      refine H7.rc R6 1 (packOne B g _ _ R6.rd) fun a8 w8 R8 H8 => ?_
      refine H8.si R8 0 fun a9 w9 R9 H9 => ?_
      refine wpList_nil <| block_normal <| then_normal ⟨H9.keep ⟨rfl, rfl, trivial⟩, ?_⟩
      exact hM _ _ _ _ nilV nilV nilV R9 rfl (by rw [u8_is_one]; rfl) (rows_nil _ _ rfl rfl rfl)
    | false =>
    refine H2.rg 0 fun a1 H1 => ?_
    refine H1.bn 1 (eql_i _ _ _ _ _) fun a2 H2 => nt ?_
    refine H2.cond (t := k == 3) rfl ?_
    cases b3 : (k == 3) with
    | true =>
      have k1 : k = 3 := by simpa using b3
      subst k1
      refine H2.rg 1 fun a3 H3 => ?_
      refine H3.bn 0 (and_i _ _ _ _ _) fun a4 H4 => ?_
      refine H4.bn 1 (bit_i f 8 (by omega) _ _ _) fun a5 H5 => ?_
      refine H5.bn 0 (shr_1 _ _ _ _) fun a6 H6 => ?_
      refine H6.bn 1 (and_i _ _ _ _ _) fun a7 H7 => ?_
      refine H7.bn 0 (and_i _ _ _ _ _) fun a8 H8 => ?_
      refine H8.bn 1 (bit_i f 1 (by omega) _ _ _) fun a9 H9 => ?_
      refine H9.sb R3 1 fun b1 x1 R4 H10 => ?_
      refine H10.si R4 1 fun b2 x2 R5 H11 => ?_
      refine H11.sb R5 0 fun b3 x3 R6 H12 => nt ?_
      refine H12.rg 1 fun b4 H13 => ?_
      refine H13.rc R6 1 (packTextR B g _ _ R6.rd) fun b5 x5 R7 H14 => ?_
      refine H14.ss R7 0 fun b6 x6 R8 H15 => nt ?_
      obtain ⟨q, hq⟩ : ∃ q, (f >>> 1 &&& 3 != 0) = q := ⟨_, rfl⟩
      obtain ⟨s2, e2⟩ : ∃ s2, (if (f >>> 1 &&& 3 != 0) then (twoP (textP s).2).2 else (textP s).2) = s2 := ⟨_, rfl⟩
      have R9 := R8.is (L' := mqCells { mq0 3 with dup := bitB f 8, qos := ((f >>> 1 &&& 3).toNat : Int), retain := bitB f 1, topic := (textP s).1 } nilV nilV nilV) (by rw [shr1]; rfl) rfl
      have hq3 : (decide ((0 : Int) < ((f >>> 1 &&& 3).toNat : Int))) = q := by
        rw [← hq, Bool.eq_iff_iff, decide_eq_true_iff, bne_iff_ne]
        constructor
        · intro h e; rw [e] at h; exact absurd h (by decide)
        · intro h
          have : (f >>> 1 &&& 3).toNat ≠ 0 := fun e => h (UInt8.toNat_inj.1 e)
          omega
      refine wp_seq_join (fun a w' => Has a 72 [(0, .pointer (some ⟨g, 0, none⟩)), (6, .pointer (some ⟨w.heap.size, 0, none⟩)), (7, .pointer (some ⟨w.heap.size + 1, 0, none⟩))] ∧ Rst w1 B g (w.heap.size + 1) s2 (mqCells { mq0 3 with dup := bitB f 8, qos := ((f >>> 1 &&& 3).toNat : Int), retain := bitB f 1, topic := (textP s).1, id := (if (f >>> 1 &&& 3 != 0) then ((twoP (textP s).2).1 : Int) else 0) } nilV nilV nilV) w') ?_ ?_
      · refine H15.rg 1 fun c1 H16 => ?_
        refine H16.ld 0 (R9.li 17) fun c2 H17 => ?_
        refine H17.bn 0 (gtr_i _ _ q hq3 _ _ _) fun c3 H18 => nt ?_
        refine H18.cond rfl ?_
        rw [hq] at e2 ⊢
        cases q with
        | true =>
          rw [if_pos rfl] at e2
          refine H18.rg 1 fun c4 H19 => ?_
          refine H19.rc R9 1 (packTwoR B g _ _ R9.rd) fun c5 y5 R10 H20 => ?_
          refine H20.si R10 0 fun c6 y6 R11 H21 => nt ?_
          exact ⟨H21.keep ⟨rfl, rfl, rfl, trivial⟩, R11.is rfl e2⟩
        | false =>
          rw [if_neg (by decide)] at e2
          exact skip_wp (then_normal ⟨H18.keep ⟨rfl, rfl, rfl, trivial⟩, R9.is rfl e2⟩)
      clear R3 R4 R5 R6 R7 R8 R9 H1 H2 H3 H4 H5 H6 H7 H8 H9 H10 H11 H12 H13 H14 H15
      rintro a0 w0 ⟨H0, R0⟩
      obtain ⟨A, c, hcl, c0, c1, _, _, hrb, _, _⟩ := R0.rd
      refine H0.rg 3 fun a1 H1 => ?_
      refine H1.go gz rfl rfl _ (run_field rfl (H1.ev rfl) (off0 := 0) (off := 0) (fun g w => by kernel_rfl)) fun a2 H2 => ?_
      refine H2.ld 0 (load1_31 _ _ _ _ _ _ c0) fun a3 H3 => ?_
      refine H3.len gz rfl rfl rfl rfl Tryd.underlying31 fun a4 H4 => ?_
      have hle : s2.1.length ≤ 1000000 := by
        rw [← e2]
        have h1 := textP_le s
        have h2 := twoP_le (textP s).2
        split <;> omega
      refine H4.cl (R := fun v w' => ∃ A' c', v = .slice A' s2.1.length c' ∧ (takeP s2 s2.1.length).1.length = s2.1.length ∧ RB w' w'.heap.size A' (takeP s2 s2.1.length).1 ∧ RdAt w' B g (takeP s2 s2.1.length).2 ∧ w0.grownBy w' (some g)) ((packTake B g s2 s2.1.length _ rfl hle w0 R0.rd).mono ?_) ?_
      · rintro _ _ ⟨A', c', rfl, _, h1, h2, h3, h4⟩
        exact ⟨_, rfl, A', c', rfl, h1, h2, h3, h4⟩
      rintro a5 _ w5 ⟨A', c', rfl, h1, h2, h3, h4⟩ H5
      have R5 := R0.call h3 h4
      refine H5.cv 1 (run_string_of Tryd.underlying31 Tryd.underlying5 Tryd.underlying9 h2 h1 c') fun a6 H6 => ?_
      refine H6.ss R5 0 fun a7 w7 R7 H7 => ?_
      refine wpList_nil <| block_normal <| then_normal ⟨H7.keep ⟨rfl, rfl, trivial⟩, ?_⟩
      refine hM _ _ _ _ nilV nilV nilV R7 ?_ ?_ (rows_nil _ _ rfl rfl rfl)
      · subst e2; rfl
      · subst e2; rfl
    | false =>
    have n1 := kind_not b1
    have n2 := kind_not b2
    have n3 := kind_not b3
    refine wp_seq_join (fun a w' => Has a 72 [(0, .pointer (some ⟨g, 0, none⟩)), (6, .pointer (some ⟨w.heap.size, 0, none⟩)), (7, .pointer (some ⟨w.heap.size + 1, 0, none⟩)), (10, .int .i64 k), (56, .bool (listKind k))] ∧ w3 = w') ?_ ?_
    · refine H2.rg 0 fun a1 H1 => ?_
      refine H1.bn 1 (eql_i _ _ _ _ _) fun a2 H2 => nt ?_
      refine H2.cond (t := k == 8) rfl ?_
      cases c1 : (k == 8) with
      | true => exact skip_wp (then_normal ⟨H2.keep ⟨rfl, rfl, rfl, rfl, congrArg (fun b => some (Value.bool b)) (by unfold listKind; rw [c1]; rfl), trivial⟩, rfl⟩)
      | false =>
      refine H2.rg 0 fun a1 H1 => ?_
      refine H1.bn 1 (eql_i _ _ _ _ _) fun a2 H2 => nt ?_
      refine H2.cond (t := k == 9) rfl ?_
      cases c2 : (k == 9) with
      | true => exact skip_wp (then_normal ⟨H2.keep ⟨rfl, rfl, rfl, rfl, congrArg (fun b => some (Value.bool b)) (by unfold listKind; rw [c1, c2]; rfl), trivial⟩, rfl⟩)
      | false =>
      refine H2.rg 0 fun a1 H1 => ?_
      refine H1.bn 1 (eql_i _ _ _ _ _) fun a2 H2 => nt ?_
      exact ⟨H2.keep ⟨rfl, rfl, rfl, rfl, congrArg (fun b => some (Value.bool b)) (by unfold listKind; rw [c1, c2]; rfl), trivial⟩, rfl⟩
    clear H1 H2
    rintro a0 _ ⟨H0, rfl⟩
    refine H0.cond (t := listKind k) rfl ?_
    cases b4 : listKind k with
    | true =>
      refine H0.rg 1 fun a1 H1 => ?_
      refine H1.cl (R := fun _ w' => Listed w1 B g (w.heap.size + 1) w3.heap.size (loopP k ((twoP s).2.1.length + 1) { mq0 k with id := ((twoP s).1 : Int) } (twoP s).2) (.returned (.tuple #[])) w') ((packLists k b4 B g _ s hs w1 w3 R3.rd R3.ce R3.gr R3.ge R3.hB R3.ne R3.lt).mono fun _ _ h => ⟨_, h.1, rfl, h.2⟩) ?_
      rintro a4 v4 w4 ⟨_, h1, h2, h3, vc, vw, vf, h4, h5⟩ H4
      refine wpList_nil (block_normal (then_normal ⟨H4.keep ⟨rfl, rfl, trivial⟩, ?_⟩))
      rw [p8] at h5
      have hr : readP k f s = loopP k ((twoP s).2.1.length + 1) { mq0 k with id := ((twoP s).1 : Int) } (twoP s).2 := by unfold readP; rw [if_neg n1, if_neg n2, if_neg n3, if_pos b4]
      rw [hr]
      exact hM _ _ _ _ vc vw vf ⟨h1, h4, h2, R3.ge, R3.hB, R3.ne, h3⟩ rfl rfl h5
    | false =>
    refine wp_seq_join (fun a w' => Has a 72 [(0, .pointer (some ⟨g, 0, none⟩)), (6, .pointer (some ⟨w.heap.size, 0, none⟩)), (7, .pointer (some ⟨w.heap.size + 1, 0, none⟩)), (62, .bool (idKind k))] ∧ w3 = w') ?_ ?_
    · refine H0.rg 0 fun a1 H1 => ?_
      refine H1.bn 1 (eql_i _ _ _ _ _) fun a2 H2 => nt ?_
      refine H2.cond (t := k == 4) rfl ?_
      cases c1 : (k == 4) with
      | true => exact skip_wp (then_normal ⟨H2.keep ⟨rfl, rfl, rfl, congrArg (fun b => some (Value.bool b)) (by unfold idKind; rw [c1]; rfl), trivial⟩, rfl⟩)
      | false =>
      refine H2.rg 0 fun a1 H1 => ?_
      refine H1.bn 1 (eql_i _ _ _ _ _) fun a2 H2 => nt ?_
      refine H2.cond (t := k == 5) rfl ?_
      cases c2 : (k == 5) with
      | true => exact skip_wp (then_normal ⟨H2.keep ⟨rfl, rfl, rfl, congrArg (fun b => some (Value.bool b)) (by unfold idKind; rw [c1, c2]; rfl), trivial⟩, rfl⟩)
      | false =>
      refine H2.rg 0 fun a1 H1 => ?_
      refine H1.bn 1 (eql_i _ _ _ _ _) fun a2 H2 => nt ?_
      refine H2.cond (t := k == 6) rfl ?_
      cases c3 : (k == 6) with
      | true => exact skip_wp (then_normal ⟨H2.keep ⟨rfl, rfl, rfl, congrArg (fun b => some (Value.bool b)) (by unfold idKind; rw [c1, c2, c3]; rfl), trivial⟩, rfl⟩)
      | false =>
      refine H2.rg 0 fun a1 H1 => ?_
      refine H1.bn 1 (eql_i _ _ _ _ _) fun a2 H2 => nt ?_
      refine H2.cond (t := k == 7) rfl ?_
      cases c4 : (k == 7) with
      | true => exact skip_wp (then_normal ⟨H2.keep ⟨rfl, rfl, rfl, congrArg (fun b => some (Value.bool b)) (by unfold idKind; rw [c1, c2, c3, c4]; rfl), trivial⟩, rfl⟩)
      | false =>
      refine H2.rg 0 fun a1 H1 => ?_
      refine H1.bn 1 (eql_i _ _ _ _ _) fun a2 H2 => nt ?_
      exact ⟨H2.keep ⟨rfl, rfl, rfl, congrArg (fun b => some (Value.bool b)) (by unfold idKind; rw [c1, c2, c3, c4]; rfl), trivial⟩, rfl⟩
    clear H0
    rintro a0 _ ⟨H0, rfl⟩
    refine H0.cond (t := idKind k) rfl ?_
    have hr : readP k f s = if idKind k then ({ mq0 k with id := ((twoP s).1 : Int) }, (twoP s).2) else (mq0 k, s) := by unfold readP; rw [if_neg n1, if_neg n2, if_neg n3, if_neg (by rw [b4]; decide)]
    rw [hr]
    cases b5 : idKind k with
    | true =>
      refine H0.rg 1 fun a1 H1 => ?_
      refine H1.rc R3 1 (packTwoR B g _ _ R3.rd) fun a2 w4 R4 H2 => ?_
      refine H2.si R4 0 fun a3 w5 R5 H3 => ?_
      refine wpList_nil (block_normal (then_normal ⟨H3.keep ⟨rfl, rfl, trivial⟩, ?_⟩))
      exact hM _ _ _ _ nilV nilV nilV R5 rfl rfl (rows_nil _ _ rfl rfl rfl)
    | false =>
      refine skip_wp (block_normal (then_normal ⟨H0.keep ⟨rfl, rfl, trivial⟩, ?_⟩))
      exact hM _ _ _ _ nilV nilV nilV R3 rfl rfl (rows_nil _ _ rfl rfl rfl)
  clear hM R3 H5
  rintro a0 w4 ⟨H0, hR4, hG, hL, hC0, vc, vw, vf, hC, hrows⟩
  refine H0.rg 0 fun a1 H1 => ?_
  refine H1.loadS rfl rfl rfl rfl rfl hC Tryd.underlying30 rfl size_mq rfl fun a2 H2 => ?_
  refine H2.storeS rfl rfl rfl rfl rfl hC0 size_mq rfl rfl (mq_one _ (own_one hrows.1) (own_one hrows.2.1) (own_one hrows.2.2)) fun a3 w5 H3 hg5 hs5 hC5 => ?_
  refine nt (wp_ret (bodyPost_ret (results_cells rfl _ _ (H3.at_ 6 _ rfl) hC5 Tryd.underlying30 rfl 24 size_mq rfl) H3.df ?_))
  exact pk_end hR4 hG (by omega) (by omega) hrows hg5
end Go.Proofs.YtkcdkjpmbjcmdaaDoor
