/-
  The page's bytes of a packet behind its length.
-/
import Derived.Lib.AppendZerosOnto
import Derived.Lib.SliceRun
import Derived.WalkKit
import Derived.Test.YtkcdkjpmbjcmdaaDoorFp4
namespace Go.Proofs.YtkcdkjpmbjcmdaaDoor
open Go.RowKit

/-- a will's cells. -/
abbrev willL (m : Mq) : List Value := [.bool m.won, .string m.wt, .string m.wp, .int .i64 m.wq, .bool m.wr]
theorem zero_will (w : World) : (zeroValue 25).run Tryd.prog w = .ok (.agg ([.bool false, .string nos, .string nos, .int .i64 0, .bool false] : List Value).toArray) w := by kernel_rfl
theorem size_will : (Tryd.prog.info? 25).map (·.size) = some 5 := by kernel_rfl
theorem fieldV_0 (g : Nat) (w : World) : (Instr.fieldAt 25 (.pointer (some ⟨g, 0, none⟩)) 0).run Tryd.prog w = .ok (.pointer (some ⟨g, 0, none⟩)) w := by kernel_rfl
theorem fieldV_1 (g : Nat) (w : World) : (Instr.fieldAt 25 (.pointer (some ⟨g, 0, none⟩)) 1).run Tryd.prog w = .ok (.pointer (some ⟨g, 1, none⟩)) w := by kernel_rfl
theorem fieldV_2 (g : Nat) (w : World) : (Instr.fieldAt 25 (.pointer (some ⟨g, 0, none⟩)) 2).run Tryd.prog w = .ok (.pointer (some ⟨g, 2, none⟩)) w := by kernel_rfl
theorem fieldV_3 (g : Nat) (w : World) : (Instr.fieldAt 25 (.pointer (some ⟨g, 0, none⟩)) 3).run Tryd.prog w = .ok (.pointer (some ⟨g, 3, none⟩)) w := by kernel_rfl
theorem fieldV_4 (g : Nat) (w : World) : (Instr.fieldAt 25 (.pointer (some ⟨g, 0, none⟩)) 4).run Tryd.prog w = .ok (.pointer (some ⟨g, 4, none⟩)) w := by kernel_rfl
theorem fieldO_0 (o g : Nat) (w : World) : (Instr.fieldAt 95 (.pointer (some ⟨g, o, none⟩)) 0).run Tryd.prog w = .ok (.pointer (some ⟨g, o, none⟩)) w := by
  simp [go_sem]
theorem fieldO_1 (o g : Nat) (w : World) : (Instr.fieldAt 95 (.pointer (some ⟨g, o, none⟩)) 1).run Tryd.prog w = .ok (.pointer (some ⟨g, o + 1, none⟩)) w := by
  simp [go_sem]
theorem refBitN (b : Bool) (nI : Int) (n : Nat) (h : nI = (n : Int)) (w : World) : Calls Tryd.prog 56 #[.bool b, .int .u8 nI] w fun e w' => e = .returned (.int .u8 ((cb b n : Nat) : Int)) ∧ w = w' := by
  refine (refBit b nI w).mono ?_
  rintro e w' ⟨rfl, rfl⟩
  refine ⟨?_, rfl⟩
  subst h
  cases b <;> rfl
theorem ofInt_u8 (a : Nat) (ha : a < 256) : (BitVec.ofInt 8 (a : Int)).toNat = a := by
  rw [BitVec.toNat_ofInt]; omega
theorem or_u (a b : Nat) (ha : a < 256) (hb : b < 256) (x y : Operand) (w : World) : (do eqGuard .or 5 x y (.int .u8 (a : Int)) (.int .u8 (b : Int)); binOp .or 5 (.int .u8 (a : Int)) (.int .u8 (b : Int)) : Sem Value).run Tryd.prog w = .ok (.int .u8 ((a ||| b : Nat) : Int)) w := by
  have hx : a ||| b < 256 := or_lt8 ha hb
  have e : bits .or .u8 (a : Int) (b : Int) = ((a ||| b : Nat) : Int) := by
    show IntKind.u8.wrap ((BitVec.ofInt 8 (a : Int) ||| BitVec.ofInt 8 (b : Int)).toNat : Int) = _
    rw [BitVec.toNat_or, ofInt_u8 a ha, ofInt_u8 b hb]
    show ((a ||| b : Nat) : Int) % 256 = _
    omega
  simp [go_sem, e]
theorem shl3_u8 (k : Int) (h0 : 0 ≤ k) (h2 : k ≤ 2) (x y : Operand) (w : World) : (do eqGuard .shl 5 x y (.int .u8 (k % 256)) (.int .u64 3); binOp .shl 5 (.int .u8 (k % 256)) (.int .u64 3) : Sem Value).run Tryd.prog w = .ok (.int .u8 ((k.toNat * 8 : Nat) : Int)) w := by
  have : k = 0 ∨ k = 1 ∨ k = 2 := by omega
  rcases this with rfl | rfl | rfl <;> simp [go_sem] <;> rfl
theorem Base.low {W w w1 : World} {b b' : Nat} {bs : List (Nat × List Value)} (h : Base W b bs w) (hb : b' ≤ b) (O : Own W W.heap.size bs w1) (hs : w1.heap.size = b' := by rfl) : Base W b' bs w :=
  ⟨h.own, Nat.le_trans hb h.bw, hs ▸ O.le, fun p hp => hs ▸ (O.mem p hp).2.1⟩
theorem Base.low2 {W w w1 : World} {b b' : Nat} {x : Nat × List Value} {bs : List (Nat × List Value)} (h : Base W b (x :: bs) w) (hb : b' ≤ b) (O : Own W W.heap.size bs w1) (hs : w1.heap.size = b' := by rfl) : Base W b' bs w := by
  refine ⟨⟨h.own.bel, h.own.le, ?_, fun p hp => h.own.mem p (List.mem_cons_of_mem _ hp)⟩, Nat.le_trans hb h.bw, hs ▸ O.le, fun p hp => hs ▸ (O.mem p hp).2.1⟩
  have := h.own.nd
  rw [List.map_cons, List.nodup_cons] at this
  exact this.2
/-! what a packet that may be has -/
theorem may_conn {m : Mq} (h : okOf m = true) (k1 : m.kind = 1) : m.client.size ≤ 65535 ∧ m.wt.size ≤ 65535 ∧ m.wp.size ≤ 65535 ∧ m.user.size ≤ 65535 ∧ m.pass.size ≤ 65535 ∧ 0 ≤ m.keep ∧ m.keep ≤ 65535 ∧ 0 ≤ m.wq ∧ m.wq ≤ 2 := by
  have hc : connectOk m = true := by unfold okOf at h; rw [if_pos k1] at h; exact h
  simp only [connectOk, Bool.and_eq_true, decide_eq_true_eq] at hc
  obtain ⟨hc, hkp, hw, hu, hps, h1, h2⟩ := hc
  have hc' := textOk_size hc
  have hu' := textOk_size hu
  have hkp := inRB_iff.1 hkp
  have hwq : m.wt.size ≤ 64 ∧ m.wp.size ≤ 128 ∧ 0 ≤ m.wq ∧ m.wq ≤ 2 := by
    unfold willOk at hw
    cases hwon : m.won with
    | true =>
      rw [hwon, if_pos rfl] at hw
      simp only [Bool.and_eq_true, decide_eq_true_eq] at hw
      obtain ⟨a, b, c⟩ := hw
      have := textOk_size a
      have := inRB_iff.1 c
      exact ⟨by omega, by omega, by omega, by omega⟩
    | false =>
      rw [hwon, if_neg (by simp)] at hw
      simp only [Bool.and_eq_true, beq_iff_eq, Bool.not_eq_true'] at hw
      obtain ⟨a, b, c, d⟩ := hw
      rw [emp_nos a, emp_nos b, c]
      exact ⟨by decide, by decide, by decide, by decide⟩
  exact ⟨by omega, by omega, by omega, by omega, by omega, by omega, by omega, by omega, by omega⟩
theorem may_ack {m : Mq} (h : okOf m = true) (k1 : ¬ m.kind = 1) (k2 : m.kind = 2) : 0 ≤ m.code := by
  have hc : (inRB m.code 0 5 && (!m.present || m.code == 0)) = true := by unfold okOf at h; rw [if_neg k1, if_pos k2] at h; exact h
  simp only [Bool.and_eq_true] at hc
  exact (inRB_iff.1 hc.1).1
theorem may_pub {m : Mq} (h : okOf m = true) (k1 : ¬ m.kind = 1) (k2 : ¬ m.kind = 2) (k3 : m.kind = 3) : m.topic.size ≤ 65535 ∧ m.payload.size ≤ 65535 ∧ 0 ≤ m.id ∧ m.id ≤ 65535 := by
  have hc : publishOk m = true := by unfold okOf at h; rw [if_neg k1, if_neg k2, if_pos k3] at h; exact h
  obtain ⟨ht, hq0, hq2, hi, hz, hp⟩ := publish_facts hc
  have : 0 ≤ m.id ∧ m.id ≤ 65535 := by
    by_cases hq : 0 < m.qos
    · have := hi hq; omega
    · have := hz (by omega); omega
  exact ⟨by omega, by omega, this.1, this.2⟩
theorem may_id {m : Mq} (h : okOf m = true) (k1 : ¬ m.kind = 1) (k2 : ¬ m.kind = 2) (k3 : ¬ m.kind = 3) (kb : bareKind m.kind = false) : 0 ≤ m.id ∧ m.id ≤ 65535 := by
  unfold okOf at h
  rw [if_neg k1, if_neg k2, if_neg k3, kb] at h
  have ids : ∀ {n : Int}, inRB n 1 65535 = true → 0 ≤ n ∧ n ≤ 65535 := fun h => by have := inRB_iff.1 h; omega
  split at h
  · exact ids h
  · split at h
    · exact ids (Bool.and_eq_true _ _ ▸ h).1
    · split at h
      · exact ids (Bool.and_eq_true _ _ ▸ h).1
      · split at h
        · exact ids (Bool.and_eq_true _ _ ▸ h).1
        · cases h
/-- what stands ahead of the lists. -/
def preBy (m : Mq) : List UInt8 :=
  if m.kind = 1 then connectBy m
  else if m.kind = 2 then [UInt8.ofNat (cb m.present 1), UInt8.ofNat m.code.toNat]
  else if m.kind = 3 then publishBy m
  else if bareKind m.kind then [] else big 2 m.id.toNat
theorem pre_1 {m : Mq} (k1 : m.kind = 1) : preBy m = connectBy m := by unfold preBy; rw [if_pos k1]
theorem pre_2 {m : Mq} (k2 : m.kind = 2) : preBy m = [UInt8.ofNat (cb m.present 1), UInt8.ofNat m.code.toNat] := by unfold preBy; rw [if_neg (by omega), if_pos k2]
theorem pre_3 {m : Mq} (k3 : m.kind = 3) : preBy m = publishBy m := by unfold preBy; rw [if_neg (by omega), if_neg (by omega), if_pos k3]
theorem pre_b {m : Mq} (k1 : ¬ m.kind = 1) (k2 : ¬ m.kind = 2) (k3 : ¬ m.kind = 3) (kb : bareKind m.kind = true) : preBy m = [] := by unfold preBy; rw [if_neg k1, if_neg k2, if_neg k3, if_pos kb]
theorem pre_i {m : Mq} (k1 : ¬ m.kind = 1) (k2 : ¬ m.kind = 2) (k3 : ¬ m.kind = 3) (kb : bareKind m.kind = false) : preBy m = big 2 m.id.toNat := by unfold preBy; rw [if_neg k1, if_neg k2, if_neg k3, if_neg (by simp [kb])]
/-- the lists of a packet that may be. -/
theorem may_lists {m : Mq} (hm : mayB m) : wishesAll m.wishes = true ∧ m.wishes.length ≤ 8 ∧ codesAll m.codes = true ∧ m.codes.length ≤ 8 ∧ filtersAll m.filters = true ∧ m.filters.length ≤ 8 := by
  obtain ⟨h, ho⟩ := hm
  unfold okOf at h
  unfold onlyOf at ho
  have hw := congrArg Mq.wishes ho
  have hc := congrArg Mq.codes ho
  have hf := congrArg Mq.filters ho
  by_cases k1 : m.kind = 1
  · simp only [if_pos k1] at hw hc hf
    rw [hw, hc, hf]; exact ⟨rfl, Nat.zero_le 8, rfl, Nat.zero_le 8, rfl, Nat.zero_le 8⟩
  by_cases k2 : m.kind = 2
  · simp only [if_neg k1, if_pos k2] at hw hc hf
    rw [hw, hc, hf]; exact ⟨rfl, Nat.zero_le 8, rfl, Nat.zero_le 8, rfl, Nat.zero_le 8⟩
  by_cases k3 : m.kind = 3
  · simp only [if_neg k1, if_neg k2, if_pos k3] at hw hc hf
    rw [hw, hc, hf]; exact ⟨rfl, Nat.zero_le 8, rfl, Nat.zero_le 8, rfl, Nat.zero_le 8⟩
  by_cases ki : idKind m.kind = true
  · simp only [if_neg k1, if_neg k2, if_neg k3, if_pos ki] at hw hc hf
    rw [hw, hc, hf]; exact ⟨rfl, Nat.zero_le 8, rfl, Nat.zero_le 8, rfl, Nat.zero_le 8⟩
  by_cases k8 : m.kind = 8
  · simp only [if_neg k1, if_neg k2, if_neg k3, if_neg ki, if_pos k8, Bool.and_eq_true, wishesOk] at h hw hc hf
    have := inRB_iff.1 h.2.2
    rw [hc, hf]; exact ⟨h.2.1, by omega, rfl, Nat.zero_le 8, rfl, Nat.zero_le 8⟩
  by_cases k9 : m.kind = 9
  · simp only [if_neg k1, if_neg k2, if_neg k3, if_neg ki, if_neg k8, if_pos k9, Bool.and_eq_true, codesOk] at h hw hc hf
    have := inRB_iff.1 h.2.2
    rw [hw, hf]; exact ⟨rfl, Nat.zero_le 8, h.2.1, by omega, rfl, Nat.zero_le 8⟩
  by_cases k10 : m.kind = 10
  · simp only [if_neg k1, if_neg k2, if_neg k3, if_neg ki, if_neg k8, if_neg k9, if_pos k10, Bool.and_eq_true, filtersOk] at h hw hc hf
    have := inRB_iff.1 h.2.2
    rw [hw, hc]; exact ⟨rfl, Nat.zero_le 8, rfl, Nat.zero_le 8, h.2.1, by omega⟩
  simp only [if_neg k1, if_neg k2, if_neg k3, if_neg ki, if_neg k8, if_neg k9, if_neg k10] at hw hc hf
  rw [hw, hc, hf]; exact ⟨rfl, Nat.zero_le 8, rfl, Nat.zero_le 8, rfl, Nat.zero_le 8⟩
theorem body_pre {m : Mq} (hm : mayB m) : bodyBy m = (((preBy m) ++ wishesBy m.wishes) ++ codesBy m.codes) ++ filtersBy m.filters := by
  obtain ⟨h, ho⟩ := hm
  unfold okOf at h
  unfold onlyOf at ho
  have hw := congrArg Mq.wishes ho
  have hc := congrArg Mq.codes ho
  have hf := congrArg Mq.filters ho
  unfold bodyBy preBy
  by_cases k1 : m.kind = 1
  · simp only [if_pos k1] at hw hc hf
    rw [hw, hc, hf, if_pos k1, if_pos k1]; simp [mq0, wishesBy, codesBy, filtersBy]
  by_cases k2 : m.kind = 2
  · simp only [if_neg k1, if_pos k2] at hw hc hf
    rw [hw, hc, hf, if_neg k1, if_pos k2, if_neg k1, if_pos k2]; simp [mq0, wishesBy, codesBy, filtersBy]
  by_cases k3 : m.kind = 3
  · simp only [if_neg k1, if_neg k2, if_pos k3] at hw hc hf
    rw [hw, hc, hf, if_neg k1, if_neg k2, if_pos k3, if_neg k1, if_neg k2, if_pos k3]; simp [mq0, wishesBy, codesBy, filtersBy]
  by_cases ki : idKind m.kind = true
  · simp only [if_neg k1, if_neg k2, if_neg k3, if_pos ki] at hw hc hf
    have hb : ¬ bareKind m.kind = true := by
      simp only [idKind, bareKind, Bool.or_eq_true, beq_iff_eq] at ki ⊢
      omega
    have n8 : ¬ m.kind = 8 := by simp only [idKind, Bool.or_eq_true, beq_iff_eq] at ki; omega
    have n9 : ¬ m.kind = 9 := by simp only [idKind, Bool.or_eq_true, beq_iff_eq] at ki; omega
    have n10 : ¬ m.kind = 10 := by simp only [idKind, Bool.or_eq_true, beq_iff_eq] at ki; omega
    rw [hw, hc, hf, if_neg k1, if_neg k2, if_neg k3, if_neg n8, if_neg n9, if_neg n10, if_neg hb, if_neg k1, if_neg k2, if_neg k3]; simp [mq0, wishesBy, codesBy, filtersBy]
  by_cases k8 : m.kind = 8
  · simp only [if_neg k1, if_neg k2, if_neg k3, if_neg ki, if_pos k8] at hw hc hf
    rw [hc, hf, if_neg k1, if_neg k2, if_neg k3, if_pos k8, if_neg k1, if_neg k2, if_neg k3, if_neg (by rw [k8]; decide)]; simp [mq0, codesBy, filtersBy]
  by_cases k9 : m.kind = 9
  · simp only [if_neg k1, if_neg k2, if_neg k3, if_neg ki, if_neg k8, if_pos k9] at hw hc hf
    rw [hw, hf, if_neg k1, if_neg k2, if_neg k3, if_neg k8, if_pos k9, if_neg k1, if_neg k2, if_neg k3, if_neg (by rw [k9]; decide)]; simp [mq0, wishesBy, filtersBy]
  by_cases k10 : m.kind = 10
  · simp only [if_neg k1, if_neg k2, if_neg k3, if_neg ki, if_neg k8, if_neg k9, if_pos k10] at hw hc hf
    rw [hw, hc, if_neg k1, if_neg k2, if_neg k3, if_neg k8, if_neg k9, if_pos k10, if_neg k1, if_neg k2, if_neg k3, if_neg (by rw [k10]; decide)]; simp [mq0, wishesBy, codesBy]
  simp only [if_neg k1, if_neg k2, if_neg k3, if_neg ki, if_neg k8, if_neg k9, if_neg k10] at hw hc hf h
  rw [hw, hc, hf, if_neg k1, if_neg k2, if_neg k3, if_neg k8, if_neg k9, if_neg k10, if_pos h, if_neg k1, if_neg k2, if_neg k3]; simp [mq0, wishesBy, codesBy, filtersBy]
theorem pre_le {m : Mq} (hm : mayB m) : (preBy m).length ≤ 540 := by
  have h := body_le hm.1
  rw [body_pre hm] at h
  simp only [List.length_append] at h
  omega
/-- Big of a number that two bytes hold: where its bytes lie. -/
theorem bigG (k : Nat) (hk : k ≤ 65535) (w : World) :
    Calls Tryd.prog 77 #[.int .i64 (k : Int), .int .i64 2] w fun e w' => ∃ v', e = .returned v' ∧ (∃ q c, v' = .slice (some ⟨q, 0, none⟩) 2 c ∧ w.heap.size ≤ q ∧ RB w' w'.heap.size (some ⟨q, 0, none⟩) (big 2 k) ∧ Below w.heap.size w w') := by
  refine (big_walk k 2 k 2 rfl rfl (by decide) (by omega) w).mono ?_
  rintro e w' ⟨A', c', rfl, ho, hb⟩
  obtain ⟨g, rfl, hg, _⟩ := own_form ho (by decide)
  exact ⟨_, rfl, g, c', rfl, hg, RB.of_ownN ho, hb⟩
theorem rowBig (b : Nat) (k : Int) (h0 : 0 ≤ k) (h1 : k ≤ 65535) (w : World) (hb : b ≤ w.heap.size) :
    Calls Tryd.prog 77 #[.int .i64 k, .int .i64 2] w fun e w' => ∃ v', e = .returned v' ∧ (RowIs b (big 2 k.toNat) v' w' ∧ Below w.heap.size w w') := by
  refine (big_walk k 2 k.toNat 2 (by omega) rfl (by decide) (by omega) w).mono ?_
  rintro e w' ⟨A', c', rfl, ho, hb'⟩
  exact ⟨_, rfl, ⟨A', c', by rw [big_length], by rw [big_length]; exact own_base ho hb⟩, hb'⟩
set_option maxRecDepth 100000 in
set_option maxHeartbeats 800000 in
theorem rowTextRG (b : Nat) (xs : List UInt8) (v : Value) (s : ByteArray) (hs : s.size ≤ 65535) (w : World) (hv : RowIs b xs v w) (hb : b ≤ w.heap.size) (hn : xs.length ≤ 140737488251232) :
    Calls Tryd.prog 76 #[v, .string s] w fun e w' => ∃ v', e = .returned v' ∧ (RowIs b (xs ++ strB s) v' w' ∧ Below b w w' ∧ (∀ g, g < w.heap.size → some g ≠ v.ownBlock → w'.heap[g]? = w.heap[g]?)) := by
  go_enter Tryd.func76, Tryd.ntmps76
  refine Has.start 13 [(0, v), (1, .string s)] rfl rfl ⟨rfl, rfl, trivial⟩ ?_
  intro a0 H0
  refine H0.rg 1 fun a1 H1 => nt ?_
  refine H1.rg 2 fun a3 H3 => ?_
  refine H3.lenS gz rfl rfl rfl rfl Tryd.underlying9 ?_
  intro a4 H4
  refine H4.cl (bigG s.size (by omega) w) ?_
  rintro a5 _ w1 ⟨q, c, rfl, hq, hrb, hb1⟩ H5
  obtain ⟨v', w', hrun, hrow, hb2, hg, hob⟩ := run_append_rowG (P := Tryd.prog) (a := a5) (w := w1) Tryd.underlying31 info_u8 (o := ⟨some 9, _, _, _, _, none⟩) (b := b) (xs := xs) (ys := big 2 s.size) (v := v) (c := c) rfl (H5.at_ 5 _ rfl) ((H5.at_ 8 _ rfl).trans (by rw [big_length])) (hv.below hb1) hrb (by rw [big_length]; decide) (by rw [big_length]; omega) (Nat.le_trans hb hb1.size)
  refine H5.go gz rfl rfl _ hrun ?_
  intro a6 H6
  refine H6.ms 1 fun a7 H7 => nt ?_
  refine H7.rg 2 fun a9 H9 => ?_
  obtain ⟨v2, w2, hrun2, hrow2, hb3, hg2⟩ := run_append_strR (P := Tryd.prog) (a := a9) (w := w') Tryd.underlying31 Tryd.underlying9 info_u8 (o := ⟨some 12, _, _, _, _, none⟩) rfl rfl (H9.at_ 11 _ rfl) ((H9.at_ 10 _ rfl).symm ▸ hrow) (by rw [List.length_append, big_length]; omega) (Nat.le_trans (Nat.le_trans hb hb1.size) hb2.size)
  refine H9.go gz rfl rfl _ hrun2 ?_
  intro a10 H10
  refine H10.ms 1 fun a11 H11 => nt ?_
  refine wp_ret ?_
  refine bodyPost_ret (results_tmp rfl _ _ _) H11.df ⟨_, congrArg Ending.returned (H11.at_ 4 _ rfl), (by unfold strB; rw [← List.append_assoc]; exact hrow2), ((hb1.mono hb).trans hb2).trans hb3, fun g hlt hne => ((hg2.block g (Nat.lt_of_lt_of_le (Nat.lt_of_lt_of_le hlt hb1.size) hb2.size) ?_).trans (hg.block g (Nat.lt_of_lt_of_le hlt hb1.size) hne)).trans (hb1.block g hlt)⟩
  rw [H9.at_ 10 _ rfl]
  rcases hob with h | h
  · rw [h]; exact hne
  · rw [h]; intro e; injection e with e; have := hb1.size; omega
theorem rowTextR (b : Nat) (xs : List UInt8) (v : Value) (s : ByteArray) (hs : s.size ≤ 65535) (w : World) (hv : RowIs b xs v w) (hb : b ≤ w.heap.size) (hn : xs.length ≤ 140737488251232) :
    Calls Tryd.prog 76 #[v, .string s] w fun e w' => ∃ v', e = .returned v' ∧ (RowIs b (xs ++ strB s) v' w' ∧ Below b w w') :=
  (rowTextRG b xs v s hs w hv hb hn).mono fun _ _ ⟨v', e, h1, h2, _⟩ => ⟨v', e, h1, h2⟩
set_option maxRecDepth 100000 in
set_option maxHeartbeats 6400000 in
theorem refBody (m : Mq) (vc vw vf : Value) (w : World) (hm : mayB m) (hL : MqL w w.heap.size m vc vw vf) :
    Calls Tryd.prog 57 #[.agg (mqCells m vc vw vf).toArray] w (Laid (bodyBy m) w) := by
  obtain ⟨A1, c1, A2, c2, A3, c3, rfl, rfl, rfl, l1, l2, l3, k1', k2', k3', r1, r2, r3⟩ := id hL
  obtain ⟨hwa, hwl, hca, hcl, hfa, hfl⟩ := may_lists hm
  have hpl := pre_le hm
  have hwb := wishesBy_le _ hwa
  have hfb := filtersBy_le _ hfa
  have hcb := codesBy_le m.codes
  go_enter Tryd.func57, Tryd.ntmps57
  refine Has.start 159 [(0, .agg (mqCells m (.slice A1 m.codes.length c1) (.slice A2 m.wishes.length c2) (.slice A3 m.filters.length c3)).toArray)] rfl rfl ⟨rfl, trivial⟩ ?_
  intro a0 H0
  have O0 := Own.start w
  refine rl ?_
  refine H0.bx O0 1 fun a2 w1 O1 H2 => nt ?_
  have hw1 : w.heap.size < w1.heap.size := O1.lt 0 rfl
  refine H2.rg 1 fun a3 H3 => nt ?_
  refine wp_seq_join (fun a w' => ∃ v, Has a 159 [(1, .pointer (some ⟨w.heap.size, 0, none⟩)), (3, v)] ∧ RowIs w1.heap.size (preBy m) v w' ∧ Base w w1.heap.size [(w.heap.size, (mqCells m (.slice A1 m.codes.length c1) (.slice A2 m.wishes.length c2) (.slice A3 m.filters.length c3)))] w') ?_ ?_
  · skip
    refine H3.rg 1 fun a4 H4 => ?_
    refine H4.ld 0 (O1.li 0 0) fun a5 H5 => nt ?_
    refine wp_block ?_
    obtain ⟨b1, h1⟩ : ∃ b, (m.kind == 1) = b := ⟨_, rfl⟩
    cases b1 with
    | true =>
      have k1 : m.kind = 1 := by simpa using h1
      refine rl ?_
      refine H5.bn 1 (eql_iB _ _ _ h1 _ _ _) fun a7 H7 => nt ?_
      refine H7.condT rfl ?_
      obtain ⟨hc, ht, hp, hu', hp', hk0, hk1, hq0, hq2⟩ := may_conn hm.1 k1
      refine H7.rg 1 fun a8 H8 => ?_
      refine H8.ld 0 (load_will _ _ _ _ _ _ _ _ (O1.get 0 rfl) rfl rfl rfl rfl rfl) fun a9 H9 => ?_
      refine H9.al O1 0 zero_will fun a10 w2 O2 H10 => ?_
      refine H10.st (L := (willL m)) O2 0 0 (hi := size_will) fun a11 w3 O3 H11 => nt ?_
      have HB3 := Base.of O3
      obtain ⟨b0, hb0⟩ : ∃ b0, b0 = w3.heap.size := ⟨_, rfl⟩
      rw [← hb0] at HB3
      have hb0' := hb0
      clear hb0
      have hw3 : w1.heap.size ≤ b0 := by rw [hb0']; exact Nat.le_of_lt (O3.lt 0 rfl)
      have H12 := H11.keep (l' := [(1, .pointer (some ⟨w.heap.size, 0, none⟩)), (4, .pointer (some ⟨w1.heap.size, 0, none⟩))]) ⟨rfl, rfl, trivial⟩
      repeat (refine wp_seq ?_)
      have h24a : cb m.clean 2 < 256 := cb_lt _ _ (by decide)
      have h24b : cb m.won 4 < 256 := cb_lt _ _ (by decide)
      have h29a : (cb m.clean 2 ||| cb m.won 4) < 256 := or_lt8 h24a h24b
      have h29b : m.wq.toNat * 8 < 256 := by omega
      have h33a : ((cb m.clean 2 ||| cb m.won 4) ||| m.wq.toNat * 8) < 256 := or_lt8 h29a h29b
      have h33b : cb m.wr 32 < 256 := cb_lt _ _ (by decide)
      have h37a : (((cb m.clean 2 ||| cb m.won 4) ||| m.wq.toNat * 8) ||| cb m.wr 32) < 256 := or_lt8 h33a h33b
      have h37b : cb m.hp 64 < 256 := cb_lt _ _ (by decide)
      have h41a : ((((cb m.clean 2 ||| cb m.won 4) ||| m.wq.toNat * 8) ||| cb m.wr 32) ||| cb m.hp 64) < 256 := or_lt8 h37a h37b
      have h41b : cb m.hu 128 < 256 := cb_lt _ _ (by decide)
      have h41 : (((((cb m.clean 2 ||| cb m.won 4) ||| m.wq.toNat * 8) ||| cb m.wr 32) ||| cb m.hp 64) ||| cb m.hu 128) < 256 := or_lt8 h41a h41b
      have hflags : (((((cb m.clean 2 ||| cb m.won 4) ||| m.wq.toNat * 8) ||| cb m.wr 32) ||| cb m.hp 64) ||| cb m.hu 128) = flagsC m := flags_or _ _ _ _ _ _ (by omega)
      refine H12.dr HB3 [1, 4] rfl [er 0 17 [26] (fun v w => RowIs b0 [0, 4, 77, 81, 84, 84] v w), ec 1 18 (.pointer (some ⟨w.heap.size, 2, none⟩)), ec 2 19 (.bool m.clean), ec 3 20 (.int .u8 ((cb m.clean 2 : Nat) : Int)), ec 4 21 (.pointer (some ⟨w1.heap.size, 0, none⟩)), ec 5 22 (.bool m.won), ec 6 23 (.int .u8 ((cb m.won 4 : Nat) : Int)), ec 7 24 (.int .u8 (((cb m.clean 2 ||| cb m.won 4) : Nat) : Int)), ec 8 25 (.pointer (some ⟨w1.heap.size, 3, none⟩)), ec 9 26 (.int .i64 m.wq), ec 10 27 (.int .u8 (m.wq % 256)), ec 11 28 (.int .u8 ((m.wq.toNat * 8 : Nat) : Int)), ec 12 29 (.int .u8 ((((cb m.clean 2 ||| cb m.won 4) ||| m.wq.toNat * 8) : Nat) : Int)), ec 13 30 (.pointer (some ⟨w1.heap.size, 4, none⟩)), ec 14 31 (.bool m.wr), ec 15 32 (.int .u8 ((cb m.wr 32 : Nat) : Int)), ec 16 33 (.int .u8 (((((cb m.clean 2 ||| cb m.won 4) ||| m.wq.toNat * 8) ||| cb m.wr 32) : Nat) : Int)), ec 17 34 (.pointer (some ⟨w.heap.size, 12, none⟩)), ec 18 35 (.bool m.hp), ec 19 36 (.int .u8 ((cb m.hp 64 : Nat) : Int)), ec 20 37 (.int .u8 ((((((cb m.clean 2 ||| cb m.won 4) ||| m.wq.toNat * 8) ||| cb m.wr 32) ||| cb m.hp 64) : Nat) : Int)), ec 21 38 (.pointer (some ⟨w.heap.size, 10, none⟩)), ec 22 39 (.bool m.hu), ec 23 40 (.int .u8 ((cb m.hu 128 : Nat) : Int)), ec 24 41 (.int .u8 (((((((cb m.clean 2 ||| cb m.won 4) ||| m.wq.toNat * 8) ||| cb m.wr 32) ||| cb m.hp 64) ||| cb m.hu 128) : Nat) : Int)), er 25 42 [26] (fun v w => BytesAre [4, UInt8.ofNat (flagsC m)] v w), er 26 43 [] (fun v w => RowIs b0 ([0, 4, 77, 81, 84, 84] ++ [4, UInt8.ofNat (flagsC m)]) v w), er 27 3 [] (fun v w => RowIs b0 ([0, 4, 77, 81, 84, 84] ++ [4, UInt8.ofNat (flagsC m)]) v w)] rfl ⟨jm, (jl fun _ h => h.own.lb 1 2), (jq fun ww _ => (refBitN m.clean 2 2 rfl ww)), jm, (jl fun _ h => h.own.lb 0 0), (jq fun ww _ => (refBitN m.won 4 4 rfl ww)), (jb fun _ => (or_u _ _ h24a h24b _ _ _)), jm, (jl fun _ h => h.own.li 0 3), (jc fun _ => (conv_u8 _ _)), (jb fun _ => (shl3_u8 _ hq0 hq2 _ _ _)), (jb fun _ => (or_u _ _ h29a h29b _ _ _)), jm, (jl fun _ h => h.own.lb 0 4), (jq fun ww _ => (refBitN m.wr 32 32 rfl ww)), (jb fun _ => (or_u _ _ h33a h33b _ _ _)), jm, (jl fun _ h => h.own.lb 1 12), (jq fun ww _ => (refBitN m.hp 64 64 rfl ww)), (jb fun _ => (or_u _ _ h37a h37b _ _ _)), jm, (jl fun _ h => h.own.lb 1 10), (jq fun ww _ => (refBitN m.hu 128 128 rfl ww)), (jb fun _ => (or_u _ _ h41a h41b _ _ _)), trivial⟩ trivial ?_ ?_
      · intro listed aa ww i o hs hni hcl ho hd hI hh
        have hls : listed.size = 28 := hs
        rcases hh with rfl | rfl | rfl | rfl | hh
        · obtain rfl := pick_op ho rfl
          have HH : Has aa 159 [] := Has.of hI.sz hI.df trivial
          refine wpOp_enter ho gz 17 rfl 76 _ (run_callH HH rfl rfl (fun _ _ => by kernel_rfl)) _ (rowTextR ww.heap.size [] (.slice none 0 0) ({ data := #[77, 81, 84, 84] } : ByteArray) (by decide) ww (RowIs.nil _ _) (Nat.le_refl _) (by simp)) ?_
          rintro v' w' ⟨hrow, hb⟩
          exact hI.ph hls 0 rfl (v') (by rw [show ([0, 4, 77, 81, 84, 84] : List UInt8) = [] ++ strB ({ data := #[77, 81, 84, 84] } : ByteArray) by decide]; exact hrow.base hI.wp.bw) (hI.wp.call hb) ⟨fun h => absurd rfl h, fun _ _ _ _ _ h => h.below hb, fun _ _ _ _ _ h => h.below hb, fun _ _ _ _ _ h => h.below hb, trivial⟩
        · obtain rfl := pick_op ho rfl
          have r_41 := hI.vs _ (ma 24 rfl) (.inr (ran_of hd 24 (by kernel_rfl))) trivial
          have u_41 : aa.eval (.tmp 41) = .int .u8 (((((((cb m.clean 2 ||| cb m.won 4) ||| m.wq.toNat * 8) ||| cb m.wr 32) ||| cb m.hp 64) ||| cb m.hu 128) : Nat) : Int) := r_41
          have HH : Has aa 159 [(41, .int .u8 (((((((cb m.clean 2 ||| cb m.won 4) ||| m.wq.toNat * 8) ||| cb m.wr 32) ||| cb m.hp 64) ||| cb m.hu 128) : Nat) : Int))] := Has.of hI.sz hI.df ⟨u_41, trivial⟩
          obtain ⟨hby, hb⟩ := bytes_lit ww [4, UInt8.ofNat (flagsC m)] [.int .u8 4, .int .u8 (((((((cb m.clean 2 ||| cb m.won 4) ||| m.wq.toNat * 8) ||| cb m.wr 32) ||| cb m.hp 64) ||| cb m.hu 128) : Nat) : Int)] (by rw [hflags] at h41 ⊢; rw [bv_nat _ h41]; rfl) 5 2 rfl
          refine wpOp_go ho gz 42 rfl (.slice (some ⟨ww.heap.size, 0, none⟩) 2 2) (ww.alloc (.cells ([.int .u8 4, .int .u8 (((((((cb m.clean 2 ||| cb m.won 4) ||| m.wq.toNat * 8) ||| cb m.wr 32) ||| cb m.hp 64) ||| cb m.hu 128) : Nat) : Int)] : List Value).toArray 5)) (run_any HH (by intro cs b h; cases h) (by kernel_rfl) (by kernel_rfl)) ?_
          exact hI.ph hls 25 rfl (.slice (some ⟨ww.heap.size, 0, none⟩) 2 2) hby (hI.wp.call hb) ⟨fun _ _ _ _ _ h => h.below hb, fun h => absurd rfl h, fun _ _ _ _ _ h => h.below hb, fun _ _ _ _ _ h => h.below hb, trivial⟩
        · obtain rfl := pick_op ho rfl
          have r_17 := hI.vs _ (ma 0 rfl) (.inr (ran_of hd 0 (by kernel_rfl))) ⟨hni, trivial⟩
          have r_42 := hI.vs _ (ma 25 rfl) (.inr (ran_of hd 25 (by kernel_rfl))) ⟨hni, trivial⟩
          have HH : Has aa 159 [(17, aa.eval (.tmp 17)), (42, aa.eval (.tmp 42))] := Has.of hI.sz hI.df ⟨rfl, rfl, trivial⟩
          obtain ⟨v', w', hrun, hrow, hb0, hg⟩ := run_append_row (P := Tryd.prog) (a := aa) (w := ww) Tryd.underlying31 info_u8 (o := ⟨some 43, _, _, _, _, none⟩) rfl rfl rfl r_17 r_42 (by simp only [List.length_cons, List.length_nil]; omega) hI.wp.bw
          refine wpOp_go ho gz 43 rfl v' w' hrun ?_
          exact hI.ph hls 26 rfl (v') hrow (hI.wp.step hb0) ⟨fun _ h => absurd (by show 26 ∈ ([26] : List Nat); decide) h, fun _ h => absurd (by show 26 ∈ ([26] : List Nat); decide) h, fun h => absurd rfl h, fun _ _ h => absurd (hni.symm.trans (ran_of (hcl 27 _ rfl (h.resolve_left (by rw [hls]; show ¬ 28 ≤ 27; decide))) 26 (by kernel_rfl))) (by decide), trivial⟩
        · obtain rfl := pick_op ho rfl
          have r_43 := hI.vs _ (ma 26 rfl) (.inr (ran_of hd 26 (by kernel_rfl))) trivial
          have HH : Has aa 159 [(43, aa.eval (.tmp 43))] := Has.of hI.sz hI.df ⟨rfl, trivial⟩
          refine wpOp_go ho gz 3 rfl (aa.eval (.tmp 43)) ww (run_move (.inr rfl) (HH.ev rfl)) ?_
          exact hI.ph hls 27 rfl (aa.eval (.tmp 43)) r_43 hI.wp AllC.same
        · exact False.elim hh
      · intro listed a13 w4 hall hI
        have r_3 := hI.vs _ (ma 27 rfl) (.inr (hall 27 (by decide))) trivial
        have H13 : Has a13 159 [(1, .pointer (some ⟨w.heap.size, 0, none⟩)), (4, .pointer (some ⟨w1.heap.size, 0, none⟩)), (3, a13.eval (.tmp 3))] := Has.of hI.sz hI.df ⟨hI.fx.1, hI.fx.2.1, rfl, trivial⟩
        have HB4 := hI.wp
        have R3_4 : RowIs b0 ([0, 4, 77, 81, 84, 84] ++ [4, UInt8.ofNat (flagsC m)]) (a13.eval (.tmp 3)) w4 := r_3
        refine then_normal ?_
        repeat (refine wp_seq ?_)
        have R3 := R3_4
        refine H13.rg 2 fun a15 H15 => ?_
        refine H15.ld 0 (HB4.own.li 1 3) fun a16 H16 => ?_
        refine H16.cl (rowBig b0 m.keep hk0 hk1 _ HB4.bw) ?_
        rintro a17 v47 w5 ⟨R47, hb⟩ H17
        have HB5 := HB4.call hb
        have R3 := R3.below hb
        clear hb
        refine H17.appendRow Tryd.underlying31 info_u8 gz rfl rfl rfl rfl rfl R3 R47.read (by simp only [List.length_append, big_length, List.length_cons, List.length_nil]; omega) HB5.bw ?_
        intro a18 v48 w6 H18 R48 hb _
        have HB6 := HB5.step hb
        clear hb
        refine H18.ms 1 fun a19 H19 => nt ?_
        refine H19.rg 2 fun a21 H21 => ?_
        refine H21.ld 0 (HB6.own.ls 1 1) fun a22 H22 => ?_
        refine H22.cl (rowTextR b0 (([0, 4, 77, 81, 84, 84] ++ [4, UInt8.ofNat (flagsC m)]) ++ big 2 m.keep.toNat) _ m.client hc _ R48 HB6.bw (by simp only [List.length_append, big_length, List.length_cons, List.length_nil]; omega)) ?_
        rintro a23 v52 w7 ⟨R52, hb⟩ H23
        have HB7 := HB6.step hb
        clear hb
        refine H23.ms 1 fun a24 H24 => nt ?_
        refine wp_seq_join (fun a w' => ∃ v, Has a 159 [(1, .pointer (some ⟨w.heap.size, 0, none⟩)), (4, .pointer (some ⟨w1.heap.size, 0, none⟩)), (3, v)] ∧ RowIs b0 (((([0, 4, 77, 81, 84, 84] ++ [4, UInt8.ofNat (flagsC m)]) ++ big 2 m.keep.toNat) ++ strB m.client) ++ (if m.won then strB m.wt ++ strB m.wp else [])) v w' ∧ Base w b0 [(w1.heap.size, (willL m)), (w.heap.size, (mqCells m (.slice A1 m.codes.length c1) (.slice A2 m.wishes.length c2) (.slice A3 m.filters.length c3)))] w') ?_ ?_
        · cases hb54 : m.won with
          | true =>
            refine H24.rg 1 fun a25 H25 => ?_
            refine H25.ld 0 (HB7.own.lb 0 0) fun a26 H26 => nt ?_
            have H26b := H26.keep (l' := [(1, .pointer (some ⟨w.heap.size, 0, none⟩)), (4, .pointer (some ⟨w1.heap.size, 0, none⟩)), (3, v52), (54, .bool true)]) ⟨rfl, rfl, rfl, by first | exact congrArg (fun x => some (Value.bool x)) hb54, trivial⟩
            refine H26b.condT rfl ?_
            have H27 := H26b
            refine H27.dr HB7 [1, 4] rfl [er 0 55 [3] (fun v w => RowIs b0 ((([0, 4, 77, 81, 84, 84] ++ [4, UInt8.ofNat (flagsC m)]) ++ big 2 m.keep.toNat) ++ strB m.client) v w), ec 1 56 (.pointer (some ⟨w1.heap.size, 1, none⟩)), ec 2 57 (.string m.wt), er 3 58 [6] (fun v w => RowIs b0 (((([0, 4, 77, 81, 84, 84] ++ [4, UInt8.ofNat (flagsC m)]) ++ big 2 m.keep.toNat) ++ strB m.client) ++ strB m.wt) v w), ec 4 59 (.pointer (some ⟨w1.heap.size, 2, none⟩)), ec 5 60 (.string m.wp), er 6 61 [] (fun v w => RowIs b0 (((([0, 4, 77, 81, 84, 84] ++ [4, UInt8.ofNat (flagsC m)]) ++ big 2 m.keep.toNat) ++ strB m.client) ++ strB m.wt ++ strB m.wp) v w), er 7 3 [] (fun v w => RowIs b0 (((([0, 4, 77, 81, 84, 84] ++ [4, UInt8.ofNat (flagsC m)]) ++ big 2 m.keep.toNat) ++ strB m.client) ++ strB m.wt ++ strB m.wp) v w), er 1000 3 [3, 7] (fun v w => RowIs b0 ((([0, 4, 77, 81, 84, 84] ++ [4, UInt8.ofNat (flagsC m)]) ++ big 2 m.keep.toNat) ++ strB m.client) v w)] rfl ⟨jm, (jl fun _ h => h.own.ls 0 1), jm, (jl fun _ h => h.own.ls 0 2), trivial⟩ ⟨(by rw [H27.at_ 3 _ rfl]; exact R52.drew), trivial⟩ ?_ ?_
            · intro listed aa ww i o hs hni hcl ho hd hI hh
              have hls : listed.size = 8 := hs
              rcases hh with rfl | rfl | rfl | rfl | hh
              · obtain rfl := pick_op ho rfl
                have r_3 := hI.vs _ (ma 8 rfl) (.inl (by rw [hls]; show 8 ≤ 1000; decide)) ⟨(Bool.eq_false_iff.2 fun h => absurd (hni.symm.trans (ran_of (hcl 3 _ rfl h) 0 (by kernel_rfl))) (by decide)), (Bool.eq_false_iff.2 fun h => absurd (hni.symm.trans (ran_of (hcl 3 _ rfl (ran_of (hcl 6 _ rfl (ran_of (hcl 7 _ rfl h) 6 (by kernel_rfl))) 3 (by kernel_rfl))) 0 (by kernel_rfl))) (by decide)), trivial⟩
                have HH : Has aa 159 [(3, aa.eval (.tmp 3))] := Has.of hI.sz hI.df ⟨rfl, trivial⟩
                refine wpOp_go ho gz 55 rfl (aa.eval (.tmp 3)) ww (run_move (.inl rfl) (HH.ev rfl)) ?_
                exact hI.ph hls 0 rfl (aa.eval (.tmp 3)) r_3 hI.wp AllC.same
              · obtain rfl := pick_op ho rfl
                have r_55 := hI.vs _ (ma 0 rfl) (.inr (ran_of hd 0 (by kernel_rfl))) ⟨hni, trivial⟩
                have r_57 := hI.vs _ (ma 2 rfl) (.inr (ran_of hd 2 (by kernel_rfl))) trivial
                have u_57 : aa.eval (.tmp 57) = .string m.wt := r_57
                have HH : Has aa 159 [(55, aa.eval (.tmp 55)), (57, .string m.wt)] := Has.of hI.sz hI.df ⟨rfl, u_57, trivial⟩
                refine wpOp_enter ho gz 58 rfl 76 _ (run_callH HH rfl rfl (fun _ _ => by kernel_rfl)) _ (rowTextR b0 ((([0, 4, 77, 81, 84, 84] ++ [4, UInt8.ofNat (flagsC m)]) ++ big 2 m.keep.toNat) ++ strB m.client) (aa.eval (.tmp 55)) m.wt ht ww r_55 hI.wp.bw (by simp only [List.length_append, strB_length, big_length, List.length_cons, List.length_nil]; omega)) ?_
                rintro v' w' ⟨hrow, hb0⟩
                exact hI.ph hls 3 rfl (v') hrow (hI.wp.step hb0) ⟨fun _ h => absurd (by show 3 ∈ ([3] : List Nat); decide) h, fun h => absurd rfl h, fun _ _ h => absurd (hni.symm.trans (ran_of (hcl 6 _ rfl (h.resolve_left (by rw [hls]; show ¬ 8 ≤ 6; decide))) 3 (by kernel_rfl))) (by decide), fun _ _ h => absurd (hni.symm.trans (ran_of (hcl 6 _ rfl (ran_of (hcl 7 _ rfl (h.resolve_left (by rw [hls]; show ¬ 8 ≤ 7; decide))) 6 (by kernel_rfl))) 3 (by kernel_rfl))) (by decide), fun _ h => absurd (by show 3 ∈ ([3, 7] : List Nat); decide) h, trivial⟩
              · obtain rfl := pick_op ho rfl
                have r_58 := hI.vs _ (ma 3 rfl) (.inr (ran_of hd 3 (by kernel_rfl))) ⟨hni, trivial⟩
                have r_60 := hI.vs _ (ma 5 rfl) (.inr (ran_of hd 5 (by kernel_rfl))) trivial
                have u_60 : aa.eval (.tmp 60) = .string m.wp := r_60
                have HH : Has aa 159 [(58, aa.eval (.tmp 58)), (60, .string m.wp)] := Has.of hI.sz hI.df ⟨rfl, u_60, trivial⟩
                refine wpOp_enter ho gz 61 rfl 76 _ (run_callH HH rfl rfl (fun _ _ => by kernel_rfl)) _ (rowTextR b0 (((([0, 4, 77, 81, 84, 84] ++ [4, UInt8.ofNat (flagsC m)]) ++ big 2 m.keep.toNat) ++ strB m.client) ++ strB m.wt) (aa.eval (.tmp 58)) m.wp hp ww r_58 hI.wp.bw (by simp only [List.length_append, strB_length, big_length, List.length_cons, List.length_nil]; omega)) ?_
                rintro v' w' ⟨hrow, hb0⟩
                exact hI.ph hls 6 rfl (v') hrow (hI.wp.step hb0) ⟨fun _ _ _ hk => absurd (hk.1.symm.trans (ran_of hd 3 (by kernel_rfl))) (by decide), fun _ h => absurd (by show 6 ∈ ([6] : List Nat); decide) h, fun h => absurd rfl h, fun _ _ h => absurd (hni.symm.trans (ran_of (hcl 7 _ rfl (h.resolve_left (by rw [hls]; show ¬ 8 ≤ 7; decide))) 6 (by kernel_rfl))) (by decide), fun _ _ _ hk => absurd (hk.1.symm.trans (ran_of hd 3 (by kernel_rfl))) (by decide), trivial⟩
              · obtain rfl := pick_op ho rfl
                have r_61 := hI.vs _ (ma 6 rfl) (.inr (ran_of hd 6 (by kernel_rfl))) trivial
                have HH : Has aa 159 [(61, aa.eval (.tmp 61))] := Has.of hI.sz hI.df ⟨rfl, trivial⟩
                refine wpOp_go ho gz 3 rfl (aa.eval (.tmp 61)) ww (run_move (.inr rfl) (HH.ev rfl)) ?_
                exact hI.ph hls 7 rfl (aa.eval (.tmp 61)) r_61 hI.wp AllC.same
              · exact False.elim hh
            · intro listed a28 w8 hall hI
              have r_3 := hI.vs _ (ma 7 rfl) (.inr (hall 7 (by decide))) trivial
              have H28 : Has a28 159 [(1, .pointer (some ⟨w.heap.size, 0, none⟩)), (4, .pointer (some ⟨w1.heap.size, 0, none⟩)), (3, a28.eval (.tmp 3))] := Has.of hI.sz hI.df ⟨hI.fx.1, hI.fx.2.1, rfl, trivial⟩
              have HB8 := hI.wp
              have R3_8 : RowIs b0 (((([0, 4, 77, 81, 84, 84] ++ [4, UInt8.ofNat (flagsC m)]) ++ big 2 m.keep.toNat) ++ strB m.client) ++ strB m.wt ++ strB m.wp) (a28.eval (.tmp 3)) w8 := r_3
              refine then_normal ?_
              exact ⟨_, H28.keep ⟨rfl, rfl, rfl, trivial⟩, (by rw [if_pos rfl, ← List.append_assoc]; exact R3_8), HB8⟩
          | false =>
            refine H24.rg 1 fun a25 H25 => ?_
            refine H25.ld 0 (HB7.own.lb 0 0) fun a26 H26 => nt ?_
            have H26b := H26.keep (l' := [(1, .pointer (some ⟨w.heap.size, 0, none⟩)), (4, .pointer (some ⟨w1.heap.size, 0, none⟩)), (3, v52), (54, .bool false)]) ⟨rfl, rfl, rfl, by first | exact congrArg (fun x => some (Value.bool x)) hb54, trivial⟩
            refine H26b.condF rfl ?_
            refine skip_wp ?_
            refine then_normal ?_
            exact ⟨_, H26b.keep ⟨rfl, rfl, rfl, trivial⟩, (by rw [if_neg (show ¬ (false = true) by decide), List.append_nil]; exact R52), HB7⟩
        · rintro a64 w27 ⟨v3_27, H64, R3_27, HB27⟩
          have hl1 : (if m.won then strB m.wt ++ strB m.wp else []).length ≤ 200000 := by split <;> simp [strB_length] <;> omega
          refine wp_seq_join (fun a w' => ∃ v, Has a 159 [(1, .pointer (some ⟨w.heap.size, 0, none⟩)), (4, .pointer (some ⟨w1.heap.size, 0, none⟩)), (3, v)] ∧ RowIs b0 ((((([0, 4, 77, 81, 84, 84] ++ [4, UInt8.ofNat (flagsC m)]) ++ big 2 m.keep.toNat) ++ strB m.client) ++ (if m.won then strB m.wt ++ strB m.wp else [])) ++ (if m.hu then strB m.user else [])) v w' ∧ Base w b0 [(w1.heap.size, (willL m)), (w.heap.size, (mqCells m (.slice A1 m.codes.length c1) (.slice A2 m.wishes.length c2) (.slice A3 m.filters.length c3)))] w') ?_ ?_
          · cases hb63 : m.hu with
            | true =>
              refine H64.rg 1 fun a65 H65 => ?_
              refine H65.ld 0 (HB27.own.lb 1 10) fun a66 H66 => nt ?_
              have H66b := H66.keep (l' := [(1, .pointer (some ⟨w.heap.size, 0, none⟩)), (4, .pointer (some ⟨w1.heap.size, 0, none⟩)), (3, v3_27), (63, .bool true)]) ⟨rfl, rfl, rfl, by first | exact congrArg (fun x => some (Value.bool x)) hb63, trivial⟩
              refine H66b.condT rfl ?_
              have H67 := H66b
              refine H67.rg 2 fun a69 H69 => ?_
              refine H69.ld 0 (HB27.own.ls 1 9) fun a70 H70 => ?_
              refine H70.cl (rowTextR b0 (((([0, 4, 77, 81, 84, 84] ++ [4, UInt8.ofNat (flagsC m)]) ++ big 2 m.keep.toNat) ++ strB m.client) ++ (if m.won then strB m.wt ++ strB m.wp else [])) _ m.user hu' _ R3_27 HB27.bw (by simp only [List.length_append, strB_length, big_length, List.length_cons, List.length_nil]; omega)) ?_
              rintro a71 v67 w28 ⟨R67, hb⟩ H71
              have HB28 := HB27.step hb
              clear hb
              refine H71.ms 1 fun a72 H72 => nt ?_
              exact ⟨_, H72.keep ⟨rfl, rfl, rfl, trivial⟩, (by rw [if_pos rfl]; exact R67), HB28⟩
            | false =>
              refine H64.rg 1 fun a65 H65 => ?_
              refine H65.ld 0 (HB27.own.lb 1 10) fun a66 H66 => nt ?_
              have H66b := H66.keep (l' := [(1, .pointer (some ⟨w.heap.size, 0, none⟩)), (4, .pointer (some ⟨w1.heap.size, 0, none⟩)), (3, v3_27), (63, .bool false)]) ⟨rfl, rfl, rfl, by first | exact congrArg (fun x => some (Value.bool x)) hb63, trivial⟩
              refine H66b.condF rfl ?_
              refine skip_wp ?_
              refine then_normal ?_
              exact ⟨_, H66b.keep ⟨rfl, rfl, rfl, trivial⟩, (by rw [if_neg (show ¬ (false = true) by decide), List.append_nil]; exact R3_27), HB27⟩
          · rintro a104 w47 ⟨v3_47, H104, R3_47, HB47⟩
            have hl2 : (if m.hu then strB m.user else []).length ≤ 200000 := by split <;> simp [strB_length] <;> omega
            cases hb69 : m.hp with
            | true =>
              refine H104.rg 1 fun a105 H105 => ?_
              refine H105.ld 0 (HB47.own.lb 1 12) fun a106 H106 => nt ?_
              have H106b := H106.keep (l' := [(1, .pointer (some ⟨w.heap.size, 0, none⟩)), (4, .pointer (some ⟨w1.heap.size, 0, none⟩)), (3, v3_47), (69, .bool true)]) ⟨rfl, rfl, rfl, by first | exact congrArg (fun x => some (Value.bool x)) hb69, trivial⟩
              refine H106b.condT rfl ?_
              have H107 := H106b
              refine H107.rg 2 fun a109 H109 => ?_
              refine H109.ld 0 (HB47.own.ls 1 11) fun a110 H110 => ?_
              refine H110.cl (rowTextR b0 ((((([0, 4, 77, 81, 84, 84] ++ [4, UInt8.ofNat (flagsC m)]) ++ big 2 m.keep.toNat) ++ strB m.client) ++ (if m.won then strB m.wt ++ strB m.wp else [])) ++ (if m.hu then strB m.user else [])) _ m.pass hp' _ R3_47 HB47.bw (by simp only [List.length_append, strB_length, big_length, List.length_cons, List.length_nil]; omega)) ?_
              rintro a111 v73 w48 ⟨R73, hb⟩ H111
              have HB48 := HB47.step hb
              clear hb
              refine H111.ms 1 fun a112 H112 => ?_
              refine wpList_nil ?_
              refine block_normal ?_
              refine then_normal ?_
              exact ⟨_, H112.keep ⟨rfl, rfl, trivial⟩, (by rw [pre_1 k1, connect_spell, hb69]; exact RowIs.base (by rw [if_pos rfl]; exact R73) hw3), HB48.low2 hw3 O1⟩
            | false =>
              refine H104.rg 1 fun a105 H105 => ?_
              refine H105.ld 0 (HB47.own.lb 1 12) fun a106 H106 => nt ?_
              have H106b := H106.keep (l' := [(1, .pointer (some ⟨w.heap.size, 0, none⟩)), (4, .pointer (some ⟨w1.heap.size, 0, none⟩)), (3, v3_47), (69, .bool false)]) ⟨rfl, rfl, rfl, by first | exact congrArg (fun x => some (Value.bool x)) hb69, trivial⟩
              refine H106b.condF rfl ?_
              have H107 := H106b
              refine skip_wp ?_
              refine block_normal ?_
              refine then_normal ?_
              exact ⟨_, H107.keep ⟨rfl, rfl, trivial⟩, (by rw [pre_1 k1, connect_spell, hb69]; exact RowIs.base (by rw [if_neg (show ¬ (false = true) by decide), List.append_nil]; exact R3_47) hw3), HB47.low2 hw3 O1⟩
    | false =>
      have k1 : ¬ m.kind = 1 := by simpa using h1
      refine rl ?_
      refine H5.bn 1 (eql_iB _ _ _ h1 _ _ _) fun a7 H7 => nt ?_
      refine H7.condF rfl ?_
      obtain ⟨b2, h2⟩ : ∃ b, (m.kind == 2) = b := ⟨_, rfl⟩
      cases b2 with
      | true =>
        have k2 : m.kind = 2 := by simpa using h2
        refine rl ?_
        refine H7.bn 1 (eql_iB _ _ _ h2 _ _ _) fun a9 H9 => nt ?_
        refine H9.condT rfl ?_
        have HB1 := Base.of O1
        obtain ⟨b0, hb0⟩ : ∃ b0, b0 = w1.heap.size := ⟨_, rfl⟩
        rw [← hb0] at HB1
        have hb0' := hb0
        clear hb0
        have H10 := H9.keep (l' := [(1, .pointer (some ⟨w.heap.size, 0, none⟩))]) ⟨rfl, trivial⟩
        have hc0 := may_ack hm.1 k1 k2
        repeat (refine wp_seq ?_)
        have hb1 : cb m.present 1 < 256 := cb_lt _ _ (by decide)
        refine H10.dr HB1 [1] rfl [ec 0 76 (.pointer (some ⟨w.heap.size, 13, none⟩)), ec 1 77 (.bool m.present), ec 2 78 (.int .u8 ((cb m.present 1 : Nat) : Int)), ec 3 79 (.pointer (some ⟨w.heap.size, 14, none⟩)), ec 4 80 (.int .i64 m.code), ec 5 81 (.int .u8 (m.code % 256)), er 6 82 [] (fun v w => RowIs b0 [UInt8.ofNat (cb m.present 1), UInt8.ofNat m.code.toNat] v w), er 7 3 [] (fun v w => RowIs b0 [UInt8.ofNat (cb m.present 1), UInt8.ofNat m.code.toNat] v w)] rfl ⟨jm, (jl fun _ h => h.own.lb 0 13), (jq fun ww _ => (refBitN m.present 1 1 rfl ww)), jm, (jl fun _ h => h.own.li 0 14), (jc fun _ => (conv_u8 _ _)), trivial⟩ trivial ?_ ?_
        · intro listed aa ww i o hs hni hcl ho hd hI hh
          have hls : listed.size = 8 := hs
          rcases hh with rfl | rfl | hh
          · obtain rfl := pick_op ho rfl
            have u_78 := hI.vs _ (ma 2 rfl) (.inr (ran_of hd 2 (by kernel_rfl))) trivial
            have u_81 := hI.vs _ (ma 5 rfl) (.inr (ran_of hd 5 (by kernel_rfl))) trivial
            have HH : Has aa 159 [(78, .int .u8 ((cb m.present 1 : Nat) : Int)), (81, .int .u8 (m.code % 256))] := Has.of hI.sz hI.df ⟨u_78, u_81, trivial⟩
            have hrw := row_lit ww b0 hI.wp.bw [UInt8.ofNat (cb m.present 1), UInt8.ofNat m.code.toNat] [.int .u8 ((cb m.present 1 : Nat) : Int), .int .u8 (m.code % 256)] (by rw [bv_nat _ hb1, byte_of_int _ hc0]; rfl) 2 rfl (by decide)
            have hb := balloc ww (.cells ([.int .u8 ((cb m.present 1 : Nat) : Int), .int .u8 (m.code % 256)] : List Value).toArray 5)
            refine wpOp_go ho gz 82 rfl (.slice (some ⟨ww.heap.size, 0, none⟩) 2 2) (ww.alloc (.cells ([.int .u8 ((cb m.present 1 : Nat) : Int), .int .u8 (m.code % 256)] : List Value).toArray 5)) (run_any HH (by intro cs b h; cases h) (by kernel_rfl) (by kernel_rfl)) ?_
            exact hI.ph hls 6 rfl (.slice (some ⟨ww.heap.size, 0, none⟩) 2 2) hrw (hI.wp.call hb) ⟨fun h => absurd rfl h, fun _ _ _ _ _ h => h.below hb, trivial⟩
          · obtain rfl := pick_op ho rfl
            have r_82 := hI.vs _ (ma 6 rfl) (.inr (ran_of hd 6 (by kernel_rfl))) trivial
            have HH : Has aa 159 [(82, aa.eval (.tmp 82))] := Has.of hI.sz hI.df ⟨rfl, trivial⟩
            refine wpOp_go ho gz 3 rfl (aa.eval (.tmp 82)) ww (run_move (.inr rfl) (HH.ev rfl)) ?_
            exact hI.ph hls 7 rfl (aa.eval (.tmp 82)) r_82 hI.wp AllC.same
          · exact False.elim hh
        · intro listed a11 w2 hall hI
          have r_3 := hI.vs _ (ma 7 rfl) (.inr (hall 7 (by decide))) trivial
          have H11 : Has a11 159 [(1, .pointer (some ⟨w.heap.size, 0, none⟩)), (3, a11.eval (.tmp 3))] := Has.of hI.sz hI.df ⟨hI.fx.1, rfl, trivial⟩
          have HB2 := hI.wp
          have R3_2 : RowIs b0 [UInt8.ofNat (cb m.present 1), UInt8.ofNat m.code.toNat] (a11.eval (.tmp 3)) w2 := r_3
          refine block_normal ?_
          refine then_normal ?_
          exact ⟨_, H11.keep ⟨rfl, rfl, trivial⟩, (by rw [pre_2 k2]; exact R3_2.base (Nat.le_of_eq hb0'.symm)), HB2.low (Nat.le_of_eq hb0'.symm) O1⟩
      | false =>
        have k2 : ¬ m.kind = 2 := by simpa using h2
        refine rl ?_
        refine H7.bn 1 (eql_iB _ _ _ h2 _ _ _) fun a9 H9 => nt ?_
        refine H9.condF rfl ?_
        obtain ⟨b3, h3⟩ : ∃ b, (m.kind == 3) = b := ⟨_, rfl⟩
        cases b3 with
        | true =>
          have k3 : m.kind = 3 := by simpa using h3
          refine rl ?_
          refine H9.bn 1 (eql_iB _ _ _ h3 _ _ _) fun a11 H11 => nt ?_
          refine H11.condT rfl ?_
          have HB1 := Base.of O1
          obtain ⟨b0, hb0⟩ : ∃ b0, b0 = w1.heap.size := ⟨_, rfl⟩
          rw [← hb0] at HB1
          have hb0' := hb0
          clear hb0
          have H12 := H11.keep (l' := [(1, .pointer (some ⟨w.heap.size, 0, none⟩))]) ⟨rfl, trivial⟩
          obtain ⟨ht, hp, hi0, hi1⟩ := may_pub hm.1 k1 k2 k3
          refine H12.rg 1 fun a13 H13 => ?_
          refine H13.ld 0 (HB1.own.ls 0 19) fun a14 H14 => ?_
          refine H14.cl (rowTextR b0 [] _ m.topic ht _ (RowIs.nil _ _) HB1.bw (by simp)) ?_
          rintro a15 v87 w2 ⟨R87, hb⟩ H15
          have HB2 := HB1.step hb
          clear hb
          refine H15.ms 1 fun a16 H16 => nt ?_
          refine wp_seq_join (fun a w' => ∃ v, Has a 159 [(1, .pointer (some ⟨w.heap.size, 0, none⟩)), (3, v)] ∧ RowIs b0 (([] ++ strB m.topic) ++ (if 0 < m.qos then big 2 m.id.toNat else [])) v w' ∧ Base w b0 [(w.heap.size, (mqCells m (.slice A1 m.codes.length c1) (.slice A2 m.wishes.length c2) (.slice A3 m.filters.length c3)))] w') ?_ ?_
          · skip
            by_cases hq : 0 < m.qos
            · skip
              refine H16.rg 1 fun a17 H17 => ?_
              refine H17.ld 0 (HB2.own.li 0 17) fun a18 H18 => ?_
              refine H18.bb 0 rfl rfl rfl rfl rfl rfl (gtr_i _ _ true (by simpa using hq) _ _ _) rfl fun a19 H19 => nt ?_
              refine H19.condT rfl ?_
              have R3 := R87
              refine H19.rg 2 fun a21 H21 => ?_
              refine H21.ld 0 (HB2.own.li 0 20) fun a22 H22 => ?_
              refine H22.cl (rowBig b0 m.id hi0 hi1 _ HB2.bw) ?_
              rintro a23 v94 w3 ⟨R94, hb⟩ H23
              have HB3 := HB2.call hb
              have R3 := R3.below hb
              clear hb
              refine H23.appendRow Tryd.underlying31 info_u8 gz rfl rfl rfl rfl rfl R3 R94.read (by simp only [List.length_append, strB_length, big_length, List.length_nil]; omega) HB3.bw ?_
              intro a24 v95 w4 H24 R95 hb _
              have HB4 := HB3.step hb
              clear hb
              refine H24.ms 1 fun a25 H25 => nt ?_
              exact ⟨_, H25.keep ⟨rfl, rfl, trivial⟩, (by rw [if_pos hq]; exact R95), HB4⟩
            · skip
              refine H16.rg 1 fun a17 H17 => ?_
              refine H17.ld 0 (HB2.own.li 0 17) fun a18 H18 => ?_
              refine H18.bb 0 rfl rfl rfl rfl rfl rfl (gtr_i _ _ false (by simpa using hq) _ _ _) rfl fun a19 H19 => nt ?_
              refine H19.condF rfl ?_
              refine skip_wp ?_
              refine then_normal ?_
              exact ⟨_, H19.keep ⟨rfl, rfl, trivial⟩, (by rw [if_neg hq, List.append_nil]; exact R87), HB2⟩
          · rintro a46 w12 ⟨v3, H46, R3, HB12⟩
            have hl1 : (if 0 < m.qos then big 2 m.id.toNat else []).length ≤ 2 := by split <;> simp [big_length]
            refine H46.rg 2 fun a48 H48 => ?_
            refine H48.ld 0 (HB12.own.ls 0 21) fun a49 H49 => ?_
            refine H49.appendStr Tryd.underlying31 Tryd.underlying9 info_u8 gz rfl rfl rfl rfl rfl R3 (by simp only [List.length_append, strB_length, List.length_nil]; omega) HB12.bw ?_
            intro a50 v99 w13 H50 R99 hb _
            have HB13 := HB12.step hb
            clear hb
            refine H50.ms 1 fun a51 H51 => ?_
            refine wpList_nil ?_
            refine block_normal ?_
            refine then_normal ?_
            exact ⟨_, H51.keep ⟨rfl, rfl, trivial⟩, (by rw [pre_3 k3, publishBy]; exact R99.base (Nat.le_of_eq hb0'.symm)), HB13.low (Nat.le_of_eq hb0'.symm) O1⟩
        | false =>
          have k3 : ¬ m.kind = 3 := by simpa using h3
          refine rl ?_
          refine H9.bn 1 (eql_iB _ _ _ h3 _ _ _) fun a11 H11 => nt ?_
          refine H11.condF rfl ?_
          refine wp_seq_join (fun a w' => ∃ b, bareKind m.kind = b ∧ Has a 159 [(1, .pointer (some ⟨w.heap.size, 0, none⟩)), (3, .slice none 0 0), (100, .bool b)] ∧ w1 = w') ?_ ?_
          · skip
            obtain ⟨b12, h12⟩ : ∃ b, (m.kind == 12) = b := ⟨_, rfl⟩
            cases b12 with
            | true =>
              refine rl ?_
              refine H11.bn 1 (eql_iB _ _ _ h12 _ _ _) fun a13 H13 => nt ?_
              refine H13.condT rfl ?_
              refine skip_wp ?_
              refine then_normal ?_
              exact ⟨_, (by unfold bareKind; rw [h12] <;> rfl), H13.keep ⟨rfl, rfl, rfl, trivial⟩, rfl⟩
            | false =>
              refine rl ?_
              refine H11.bn 1 (eql_iB _ _ _ h12 _ _ _) fun a13 H13 => nt ?_
              refine H13.condF rfl ?_
              obtain ⟨b13, h13⟩ : ∃ b, (m.kind == 13) = b := ⟨_, rfl⟩
              cases b13 with
              | true =>
                refine rl ?_
                refine H13.bn 1 (eql_iB _ _ _ h13 _ _ _) fun a15 H15 => nt ?_
                refine H15.condT rfl ?_
                refine skip_wp ?_
                refine then_normal ?_
                exact ⟨_, (by unfold bareKind; rw [h12, h13] <;> rfl), H15.keep ⟨rfl, rfl, rfl, trivial⟩, rfl⟩
              | false =>
                refine rl ?_
                refine H13.bn 1 (eql_iB _ _ _ h13 _ _ _) fun a15 H15 => nt ?_
                refine H15.condF rfl ?_
                obtain ⟨b14, h14⟩ : ∃ b, (m.kind == 14) = b := ⟨_, rfl⟩
                cases b14 with
                | true =>
                  refine rl ?_
                  refine H15.bn 1 (eql_iB _ _ _ h14 _ _ _) fun a17 H17 => nt ?_
                  exact ⟨_, (by unfold bareKind; rw [h12, h13, h14] <;> rfl), H17.keep ⟨rfl, rfl, rfl, trivial⟩, rfl⟩
                | false =>
                  refine rl ?_
                  refine H15.bn 1 (eql_iB _ _ _ h14 _ _ _) fun a17 H17 => nt ?_
                  exact ⟨_, (by unfold bareKind; rw [h12, h13, h14] <;> rfl), H17.keep ⟨rfl, rfl, rfl, trivial⟩, rfl⟩
          rintro a12 _ ⟨v100, q100, H12, rfl⟩
          cases v100 with
          | true =>
            have HB1 := Base.of O1
            obtain ⟨b0, hb0⟩ : ∃ b0, b0 = w1.heap.size := ⟨_, rfl⟩
            rw [← hb0] at HB1
            have hb0' := hb0
            clear hb0
            refine H12.condT rfl ?_
            refine skip_wp ?_
            refine block_normal ?_
            refine then_normal ?_
            exact ⟨_, H12.keep ⟨rfl, rfl, trivial⟩, (by rw [pre_b k1 k2 k3 q100]; exact (RowIs.nil b0 _).base (Nat.le_of_eq hb0'.symm)), HB1.low (Nat.le_of_eq hb0'.symm) O1⟩
          | false =>
            have hi := may_id hm.1 k1 k2 k3 q100
            have HB1 := Base.of O1
            obtain ⟨b0, hb0⟩ : ∃ b0, b0 = w1.heap.size := ⟨_, rfl⟩
            rw [← hb0] at HB1
            have hb0' := hb0
            clear hb0
            refine H12.condF rfl ?_
            refine H12.rg 1 fun a13 H13 => ?_
            refine H13.ld 0 (HB1.own.li 0 20) fun a14 H14 => ?_
            refine H14.cl (rowBig b0 m.id hi.1 hi.2 _ HB1.bw) ?_
            rintro a15 v12 w2 ⟨R12, hb⟩ H15
            have HB2 := HB1.call hb
            clear hb
            refine H15.ms 1 fun a16 H16 => ?_
            refine wpList_nil ?_
            refine block_normal ?_
            refine then_normal ?_
            exact ⟨_, H16.keep ⟨rfl, rfl, trivial⟩, (by rw [pre_i k1 k2 k3 q100]; exact R12.base (Nat.le_of_eq hb0'.symm)), HB2.low (Nat.le_of_eq hb0'.symm) O1⟩
  rintro a4 w2 ⟨v3, H4, R3, HB2⟩
  obtain ⟨b0, hb0'⟩ : ∃ b0, b0 = w1.heap.size := ⟨_, rfl⟩
  rw [← hb0'] at R3 HB2
  refine wp_seq_join (fun a w' => ∃ v, Has a 159 [(1, .pointer (some ⟨w.heap.size, 0, none⟩)), (3, v)] ∧ RowIs b0 ((preBy m) ++ wishesBy m.wishes) v w' ∧ Base w b0 [(w.heap.size, (mqCells m (.slice A1 m.codes.length c1) (.slice A2 m.wishes.length c2) (.slice A3 m.filters.length c3)))] w') ?_ ?_
  · skip
    refine H4.rg 1 fun a5 H5 => nt ?_
    refine wp_block ?_
    refine wp_loop_up m.wishes.length (fun k a w' => ∃ v, Has a 159 [(1, .pointer (some ⟨w.heap.size, 0, none⟩)), (3, v), (5, .int .i64 ((k : Nat) : Int))] ∧ RowIs b0 ((preBy m) ++ wishesBy (m.wishes.take k)) v w' ∧ Base w b0 [(w.heap.size, (mqCells m (.slice A1 m.codes.length c1) (.slice A2 m.wishes.length c2) (.slice A3 m.filters.length c3)))] w') ?_ ?_
    · exact ⟨_, H5.keep ⟨rfl, rfl, rfl, trivial⟩, (by rw [List.take_zero]; simpa [wishesBy] using R3), HB2⟩
    · rintro k a6 w3 hkn ⟨v3, H6, R3, HB3⟩
      have hlb : (wishesBy (m.wishes.take k)).length ≤ 1000 := by
        have := wishesBy_le _ (wishesAll_take k hwa); rw [List.length_take] at this; omega
      by_cases hlt : k < m.wishes.length
      · skip
        refine H6.rg 2 fun a8 H8 => ?_
        refine H8.ld 0 (HB3.own.l7 0 22) fun a9 H9 => ?_
        refine H9.len gz rfl rfl rfl rfl Tryd.underlying27 ?_
        intro a10 H10
        refine H10.bb 0 rfl rfl rfl rfl rfl rfl (lss_i _ _ true (by simpa using hlt) _ _ _) rfl fun a11 H11 => nt ?_
        refine H11.condT rfl ?_
        refine skip_wp ?_
        refine then_normal ?_
        repeat (refine wp_seq ?_)
        refine wp_block ?_
        obtain ⟨gb, go, x, hA, hgb, hx, hc0, hc1⟩ := Reads.wish r2 rfl hlt
        obtain ⟨hxs, hx0, hx1⟩ := wishesAll_get hwa hx
        obtain ⟨g5, hg5⟩ : ∃ g5, g5 = w3.heap.size := ⟨_, rfl⟩
        have hfar : ∀ g, g5 ≤ g → some g ≠ v3.ownBlock := fun g hg => R3.away (.inr (hg5 ▸ hg))
        refine H11.dr HB3 [1, 5] rfl [er 0 111 [7] (fun v w => v = v3 ∧ RowIs b0 ((preBy m) ++ wishesBy (m.wishes.take k)) v w), ec 1 112 (.pointer (some ⟨w.heap.size, 22, none⟩)), ec 2 113 (.slice A2 m.wishes.length c2), ec 3 114 (.int .i64 ((k : Nat) : Int)), ec 4 115 (.pointer (some ⟨gb, go + k * 2, none⟩)), ec 5 116 (.pointer (some ⟨gb, go + k * 2, none⟩)), ec 6 117 (.string x.1), er 7 118 [16] (fun v w => RowIs b0 (((preBy m) ++ wishesBy (m.wishes.take k)) ++ strB x.1) v w), ec 8 119 (.pointer (some ⟨w.heap.size, 22, none⟩)), ec 9 120 (.slice A2 m.wishes.length c2), ec 10 121 (.int .i64 ((k : Nat) : Int)), ec 11 122 (.pointer (some ⟨gb, go + k * 2, none⟩)), ec 12 123 (.pointer (some ⟨gb, go + k * 2 + 1, none⟩)), ec 13 124 (.int .i64 x.2), ec 14 125 (.int .u8 (x.2 % 256)), er 15 126 [16] (fun v w => ∃ g, v = .slice (some ⟨g, 0, none⟩) 1 1 ∧ g5 ≤ g ∧ g < w.heap.size ∧ BytesAre [UInt8.ofNat x.2.toNat] v w), er 16 127 [] (fun v w => RowIs b0 ((((preBy m) ++ wishesBy (m.wishes.take k)) ++ strB x.1) ++ [UInt8.ofNat x.2.toNat]) v w), er 17 3 [] (fun v w => RowIs b0 ((((preBy m) ++ wishesBy (m.wishes.take k)) ++ strB x.1) ++ [UInt8.ofNat x.2.toNat]) v w), er 1000 3 [7, 17] (fun v w => v = v3 ∧ RowIs b0 ((preBy m) ++ wishesBy (m.wishes.take k)) v w), er 1001 158 [] (fun _ w => g5 ≤ w.heap.size)] rfl ⟨jm, (jl fun _ h => h.own.l7 0 22), jm, (jI rfl rfl rfl rfl rfl rfl fun ww => (show (Instr.indexAt 27 (.slice A2 m.wishes.length c2) (.int .i64 ((k : Nat) : Int))).run Tryd.prog ww = .ok (.pointer (some ⟨gb, go + k * 2, none⟩)) ww by rw [hA]; exact index_2 27 Tryd.underlying27 (fun _ => by kernel_rfl) _ _ _ _ _ hlt _)), (jf (fun g w => fieldO_0 (go + k * 2) g w)), (jl fun _ h => (load1_s _ _ _ _ ((cellB h.own.bel hgb).trans hc0))), jm, (jl fun _ h => h.own.l7 0 22), jm, (jI rfl rfl rfl rfl rfl rfl fun ww => (show (Instr.indexAt 27 (.slice A2 m.wishes.length c2) (.int .i64 ((k : Nat) : Int))).run Tryd.prog ww = .ok (.pointer (some ⟨gb, go + k * 2, none⟩)) ww by rw [hA]; exact index_2 27 Tryd.underlying27 (fun _ => by kernel_rfl) _ _ _ _ _ hlt _)), (jf (fun g w => fieldO_1 (go + k * 2) g w)), (jl fun _ h => (load1_i _ _ _ _ ((cellB h.own.bel hgb).trans hc1))), (jc fun _ => (conv_u8 _ _)), trivial⟩ ⟨(by rw [H11.at_ 3 _ rfl]; exact ⟨rfl, R3.drew⟩), (Nat.le_of_eq hg5), trivial⟩ ?_ ?_
        · intro listed aa ww i o hs hni hcl ho hd hI hh
          have hls : listed.size = 18 := hs
          rcases hh with rfl | rfl | rfl | rfl | rfl | hh
          · obtain rfl := pick_op ho rfl
            have r3 := hI.vs _ (ma 18 rfl) (.inl (by rw [hls]; show 18 ≤ 1000; decide)) ⟨(Bool.eq_false_iff.2 fun h => absurd (hni.symm.trans (ran_of (hcl 7 _ rfl h) 0 (by kernel_rfl))) (by decide)), (Bool.eq_false_iff.2 fun h => absurd (hni.symm.trans (ran_of (hcl 7 _ rfl (ran_of (hcl 16 _ rfl (ran_of (hcl 17 _ rfl h) 16 (by kernel_rfl))) 7 (by kernel_rfl))) 0 (by kernel_rfl))) (by decide)), trivial⟩
            refine wpOp_go ho gz 111 rfl (aa.eval (.tmp 3)) ww (run_move (.inl rfl) rfl) ?_
            exact hI.ph hls 0 rfl (aa.eval (.tmp 3)) r3 hI.wp AllC.same
          · obtain rfl := pick_op ho rfl
            have r111 := hI.vs _ (ma 0 rfl) (.inr (ran_of hd 0 (by kernel_rfl))) ⟨hni, trivial⟩
            obtain ⟨e111, hR⟩ := r111
            have r117 := hI.vs _ (ma 6 rfl) (.inr (ran_of hd 6 (by kernel_rfl))) trivial
            have HH : Has aa 159 [(111, v3), (117, .string x.1)] := Has.of hI.sz hI.df ⟨e111, r117, trivial⟩
            rw [e111] at hR
            refine wpOp_enter ho gz 118 rfl 76 _ (run_callH HH rfl rfl (fun _ _ => by kernel_rfl)) _ (rowTextRG b0 ((preBy m) ++ wishesBy (m.wishes.take k)) v3 x.1 (by omega) ww hR hI.wp.bw (by simp only [List.length_append]; omega)) ?_
            rintro v' w' ⟨hrow, hb0, hK⟩
            exact hI.ph hls 7 rfl (v') hrow (hI.wp.step hb0) ⟨fun _ h => absurd (by show 7 ∈ ([7] : List Nat); decide) h, fun h => absurd rfl h, fun _ _ _ _ _ h => lit_keep hK hfar hb0.size h, fun _ _ h => absurd (hni.symm.trans (ran_of (hcl 16 _ rfl (h.resolve_left (by rw [hls]; show ¬ 18 ≤ 16; decide))) 7 (by kernel_rfl))) (by decide), fun _ _ h => absurd (hni.symm.trans (ran_of (hcl 16 _ rfl (ran_of (hcl 17 _ rfl (h.resolve_left (by rw [hls]; show ¬ 18 ≤ 17; decide))) 16 (by kernel_rfl))) 7 (by kernel_rfl))) (by decide), fun _ h => absurd (by show 7 ∈ ([7, 17] : List Nat); decide) h, fun _ _ _ _ _ h => Nat.le_trans h hb0.size, trivial⟩
          · obtain rfl := pick_op ho rfl
            have r125 := hI.vs _ (ma 14 rfl) (.inr (ran_of hd 14 (by kernel_rfl))) trivial
            have rbox := hI.vs _ (ma 19 rfl) (.inl (by rw [hls]; show 18 ≤ 1001; decide)) trivial
            have hg5 : g5 ≤ ww.heap.size := rbox
            have HH : Has aa 159 [(125, .int .u8 (x.2 % 256))] := Has.of hI.sz hI.df ⟨r125, trivial⟩
            obtain ⟨hby, hb⟩ := bytes_lit ww [UInt8.ofNat x.2.toNat] [.int .u8 (x.2 % 256)] (by rw [byte_of_int _ hx0]; rfl) 5 1 rfl
            refine wpOp_go ho gz 126 rfl (.slice (some ⟨ww.heap.size, 0, none⟩) 1 1) (ww.alloc (.cells ([.int .u8 (x.2 % 256)] : List Value).toArray 5)) (run_any HH (by intro cs b h; cases h) (by kernel_rfl) (by kernel_rfl)) ?_
            exact hI.ph hls 15 rfl (.slice (some ⟨ww.heap.size, 0, none⟩) 1 1) ⟨_, rfl, hg5, lt_alloc ww _, hby⟩ (hI.wp.call hb) ⟨fun _ _ _ _ _ h => ⟨h.1, h.2.below hb⟩, fun _ _ _ _ _ h => h.below hb, fun h => absurd rfl h, fun _ _ _ _ _ h => h.below hb, fun _ _ _ _ _ h => h.below hb, fun _ _ _ _ _ h => ⟨h.1, h.2.below hb⟩, fun _ _ _ _ _ h => Nat.le_trans h hb.size, trivial⟩
          · obtain rfl := pick_op ho rfl
            have r118 := hI.vs _ (ma 7 rfl) (.inr (ran_of hd 7 (by kernel_rfl))) ⟨hni, trivial⟩
            have r126 := hI.vs _ (ma 15 rfl) (.inr (ran_of hd 15 (by kernel_rfl))) ⟨hni, trivial⟩
            obtain ⟨_, _, _, _, hby⟩ := r126
            obtain ⟨v', w', hrun, hrow, hb0, hg⟩ := run_append_row (P := Tryd.prog) (a := aa) (w := ww) Tryd.underlying31 info_u8 (o := ⟨some 127, _, _, _, _, none⟩) rfl rfl rfl r118 hby (by simp only [List.length_append, strB_length, List.length_cons, List.length_nil]; omega) hI.wp.bw
            refine wpOp_go ho gz 127 rfl v' w' hrun ?_
            exact hI.ph hls 16 rfl (v') hrow (hI.wp.step hb0) ⟨fun _ _ _ hk => absurd (hk.1.symm.trans (ran_of hd 7 (by kernel_rfl))) (by decide), fun _ h => absurd (by show 16 ∈ ([16] : List Nat); decide) h, fun _ h => absurd (by show 16 ∈ ([16] : List Nat); decide) h, fun h => absurd rfl h, fun _ _ h => absurd (hni.symm.trans (ran_of (hcl 17 _ rfl (h.resolve_left (by rw [hls]; show ¬ 18 ≤ 17; decide))) 16 (by kernel_rfl))) (by decide), fun _ _ _ hk => absurd (hk.1.symm.trans (ran_of hd 7 (by kernel_rfl))) (by decide), fun _ _ _ _ _ h => Nat.le_trans h hb0.size, trivial⟩
          · obtain rfl := pick_op ho rfl
            have r_127 := hI.vs _ (ma 16 rfl) (.inr (ran_of hd 16 (by kernel_rfl))) trivial
            have HH : Has aa 159 [(127, aa.eval (.tmp 127))] := Has.of hI.sz hI.df ⟨rfl, trivial⟩
            refine wpOp_go ho gz 3 rfl (aa.eval (.tmp 127)) ww (run_move (.inr rfl) (HH.ev rfl)) ?_
            exact hI.ph hls 17 rfl (aa.eval (.tmp 127)) r_127 hI.wp AllC.same
          · exact False.elim hh
        · intro listed a12 w4 hall hI
          have r_3 := hI.vs _ (ma 17 rfl) (.inr (hall 17 (by decide))) trivial
          have H12 : Has a12 159 [(1, .pointer (some ⟨w.heap.size, 0, none⟩)), (5, .int .i64 ((k : Nat) : Int)), (3, a12.eval (.tmp 3))] := Has.of hI.sz hI.df ⟨hI.fx.1, hI.fx.2.1, rfl, trivial⟩
          have HB4 := hI.wp
          have R3_4 : RowIs b0 ((((preBy m) ++ wishesBy (m.wishes.take k)) ++ strB x.1) ++ [UInt8.ofNat x.2.toNat]) (a12.eval (.tmp 3)) w4 := r_3
          refine block_normal ?_
          refine then_normal ?_
          refine H12.rg 1 fun a13 H13 => ?_
          refine H13.bb 1 rfl rfl rfl rfl rfl rfl (succ_i _ (by omega) _ _ _) rfl fun a15 H15 => nt ?_
          exact ⟨hlt, _, H15.keep ⟨rfl, rfl, rfl, trivial⟩, (by rw [take_snoc? _ _ _ hx, wishesBy_app, ← List.append_assoc, ← List.append_assoc]; exact R3_4), HB4⟩
      · skip
        refine H6.rg 2 fun a8 H8 => ?_
        refine H8.ld 0 (HB3.own.l7 0 22) fun a9 H9 => ?_
        refine H9.len gz rfl rfl rfl rfl Tryd.underlying27 ?_
        intro a10 H10
        refine H10.bb 0 rfl rfl rfl rfl rfl rfl (lss_i _ _ false (by simpa using hlt) _ _ _) rfl fun a11 H11 => nt ?_
        refine H11.condF rfl ?_
        refine wp_exit ?_
        repeat (with_reducible refine then_exit ?_)
        refine block_leave ?_
        refine then_normal ?_
        rw [List.take_of_length_le (by omega)] at R3
        exact ⟨_, H11.keep ⟨rfl, rfl, trivial⟩, R3, HB3⟩
  rintro a5 w3 ⟨v3, H5, R3, HB3⟩
  refine wp_seq_join (fun a w' => ∃ v, Has a 159 [(1, .pointer (some ⟨w.heap.size, 0, none⟩)), (3, v)] ∧ RowIs b0 (((preBy m) ++ wishesBy m.wishes) ++ codesBy m.codes) v w' ∧ Base w b0 [(w.heap.size, (mqCells m (.slice A1 m.codes.length c1) (.slice A2 m.wishes.length c2) (.slice A3 m.filters.length c3)))] w') ?_ ?_
  · skip
    refine H5.rg 1 fun a6 H6 => nt ?_
    refine wp_block ?_
    refine wp_loop_up m.codes.length (fun k a w' => ∃ v, Has a 159 [(1, .pointer (some ⟨w.heap.size, 0, none⟩)), (3, v), (6, .int .i64 ((k : Nat) : Int))] ∧ RowIs b0 (((preBy m) ++ wishesBy m.wishes) ++ codesBy (m.codes.take k)) v w' ∧ Base w b0 [(w.heap.size, (mqCells m (.slice A1 m.codes.length c1) (.slice A2 m.wishes.length c2) (.slice A3 m.filters.length c3)))] w') ?_ ?_
    · exact ⟨_, H6.keep ⟨rfl, rfl, rfl, trivial⟩, (by rw [List.take_zero]; simpa [codesBy] using R3), HB3⟩
    · rintro k a7 w4 hkn ⟨v3, H7, R3, HB4⟩
      have hlb : (codesBy (m.codes.take k)).length ≤ 1000 := by
        rw [codesBy_le, List.length_take]; omega
      by_cases hlt : k < m.codes.length
      · skip
        refine H7.rg 2 fun a9 H9 => ?_
        refine H9.ld 0 (HB4.own.l6 0 15) fun a10 H10 => ?_
        refine H10.len gz rfl rfl rfl rfl Tryd.underlying26 ?_
        intro a11 H11
        refine H11.bb 0 rfl rfl rfl rfl rfl rfl (lss_i _ _ true (by simpa using hlt) _ _ _) rfl fun a12 H12 => nt ?_
        refine H12.condT rfl ?_
        refine skip_wp ?_
        refine then_normal ?_
        repeat (refine wp_seq ?_)
        refine wp_block ?_
        obtain ⟨gb, go, x, hA, hgb, hx, hcell⟩ := Reads.int (r1.below HB4.own.bel) rfl hlt
        obtain ⟨hx0, hx1⟩ := codesAll_get hca hx
        refine H12.rg 2 fun a14 H14 => ?_
        refine H14.ld 1 (HB4.own.l6 0 15) fun a16 H16 => ?_
        refine H16.index gz rfl rfl rfl rfl rfl (show (Instr.indexAt 26 (.slice A1 m.codes.length c1) (.int .i64 ((k : Nat) : Int))).run Tryd.prog _ = .ok (.pointer (some ⟨gb, go + k, none⟩)) _ by rw [hA]; exact index_1 26 Tryd.underlying26 (fun _ => by kernel_rfl) _ _ _ _ _ hlt _) ?_
        intro a17 H17
        refine H17.ld 0 (load1_i _ _ _ _ hcell) fun a18 H18 => ?_
        refine H18.cv 0 (conv_u8 _ _) fun a19 H19 => ?_
        refine H19.bytes gz rfl rfl [UInt8.ofNat x.toNat] [.int .u8 (x % 256)] (by rw [byte_of_int _ hx0]; rfl) (k := 1) rfl 5 (by intro cs b h; cases h) (by kernel_rfl) (by kernel_rfl) ?_
        intro a20 v142 w5 H20 B142 hb
        have HB5 := HB4.call hb
        have R3 := R3.below hb
        clear hb
        refine H20.appendRow Tryd.underlying31 info_u8 gz rfl rfl rfl rfl rfl R3 B142 (by simp only [List.length_append, List.length_cons, List.length_nil]; omega) HB5.bw ?_
        intro a21 v143 w6 H21 R143 hb _
        have HB6 := HB5.step hb
        clear hb
        refine H21.ms 1 fun a22 H22 => ?_
        refine wpList_nil ?_
        refine block_normal ?_
        refine then_normal ?_
        refine H22.rg 1 fun a23 H23 => ?_
        refine H23.bb 1 rfl rfl rfl rfl rfl rfl (succ_i _ (by omega) _ _ _) rfl fun a25 H25 => nt ?_
        exact ⟨hlt, _, H25.keep ⟨rfl, rfl, rfl, trivial⟩, (by rw [take_snoc? _ _ _ hx, codesBy_app, ← List.append_assoc]; exact R143), HB6⟩
      · skip
        refine H7.rg 2 fun a9 H9 => ?_
        refine H9.ld 0 (HB4.own.l6 0 15) fun a10 H10 => ?_
        refine H10.len gz rfl rfl rfl rfl Tryd.underlying26 ?_
        intro a11 H11
        refine H11.bb 0 rfl rfl rfl rfl rfl rfl (lss_i _ _ false (by simpa using hlt) _ _ _) rfl fun a12 H12 => nt ?_
        refine H12.condF rfl ?_
        refine wp_exit ?_
        repeat (with_reducible refine then_exit ?_)
        refine block_leave ?_
        refine then_normal ?_
        rw [List.take_of_length_le (by omega)] at R3
        exact ⟨_, H12.keep ⟨rfl, rfl, trivial⟩, R3, HB4⟩
  rintro a6 w4 ⟨v3, H6, R3, HB4⟩
  refine wp_seq_join (fun a w' => ∃ v, Has a 159 [(1, .pointer (some ⟨w.heap.size, 0, none⟩)), (3, v)] ∧ RowIs b0 ((((preBy m) ++ wishesBy m.wishes) ++ codesBy m.codes) ++ filtersBy m.filters) v w' ∧ Base w b0 [(w.heap.size, (mqCells m (.slice A1 m.codes.length c1) (.slice A2 m.wishes.length c2) (.slice A3 m.filters.length c3)))] w') ?_ ?_
  · skip
    refine H6.rg 1 fun a7 H7 => nt ?_
    refine wp_block ?_
    refine wp_loop_up m.filters.length (fun k a w' => ∃ v, Has a 159 [(1, .pointer (some ⟨w.heap.size, 0, none⟩)), (3, v), (7, .int .i64 ((k : Nat) : Int))] ∧ RowIs b0 ((((preBy m) ++ wishesBy m.wishes) ++ codesBy m.codes) ++ filtersBy (m.filters.take k)) v w' ∧ Base w b0 [(w.heap.size, (mqCells m (.slice A1 m.codes.length c1) (.slice A2 m.wishes.length c2) (.slice A3 m.filters.length c3)))] w') ?_ ?_
    · exact ⟨_, H7.keep ⟨rfl, rfl, rfl, trivial⟩, (by rw [List.take_zero]; simpa [filtersBy] using R3), HB4⟩
    · rintro k a8 w5 hkn ⟨v3, H8, R3, HB5⟩
      have hlb : (filtersBy (m.filters.take k)).length ≤ 1000 := by
        have := filtersBy_le _ (filtersAll_take k hfa); rw [List.length_take] at this; omega
      by_cases hlt : k < m.filters.length
      · skip
        refine H8.rg 2 fun a10 H10 => ?_
        refine H10.ld 0 (HB5.own.l8 0 23) fun a11 H11 => ?_
        refine H11.len gz rfl rfl rfl rfl Tryd.underlying28 ?_
        intro a12 H12
        refine H12.bb 0 rfl rfl rfl rfl rfl rfl (lss_i _ _ true (by simpa using hlt) _ _ _) rfl fun a13 H13 => nt ?_
        refine H13.condT rfl ?_
        refine skip_wp ?_
        refine then_normal ?_
        repeat (refine wp_seq ?_)
        refine wp_block ?_
        obtain ⟨gb, go, x, hA, hgb, hx, hcell⟩ := Reads.str (r3.below HB5.own.bel) rfl hlt
        have hxs := filtersAll_get hfa hx
        refine H13.rg 2 fun a15 H15 => ?_
        refine H15.ld 1 (HB5.own.l8 0 23) fun a17 H17 => ?_
        refine H17.index gz rfl rfl rfl rfl rfl (show (Instr.indexAt 28 (.slice A3 m.filters.length c3) (.int .i64 ((k : Nat) : Int))).run Tryd.prog _ = .ok (.pointer (some ⟨gb, go + k, none⟩)) _ by rw [hA]; exact index_1 28 Tryd.underlying28 (fun _ => by kernel_rfl) _ _ _ _ _ hlt _) ?_
        intro a18 H18
        refine H18.ld 0 (load1_s _ _ _ _ hcell) fun a19 H19 => ?_
        refine H19.cl (rowTextR b0 ((((preBy m) ++ wishesBy m.wishes) ++ codesBy m.codes) ++ filtersBy (m.filters.take k)) _ x (by omega) _ R3 HB5.bw (by simp only [List.length_append]; omega)) ?_
        rintro a20 v157 w6 ⟨R157, hb⟩ H20
        have HB6 := HB5.step hb
        clear hb
        refine H20.ms 1 fun a21 H21 => ?_
        refine wpList_nil ?_
        refine block_normal ?_
        refine then_normal ?_
        refine H21.rg 1 fun a22 H22 => ?_
        refine H22.bb 1 rfl rfl rfl rfl rfl rfl (succ_i _ (by omega) _ _ _) rfl fun a24 H24 => nt ?_
        exact ⟨hlt, _, H24.keep ⟨rfl, rfl, rfl, trivial⟩, (by rw [take_snoc? _ _ _ hx, filtersBy_app, ← List.append_assoc]; exact R157), HB6⟩
      · skip
        refine H8.rg 2 fun a10 H10 => ?_
        refine H10.ld 0 (HB5.own.l8 0 23) fun a11 H11 => ?_
        refine H11.len gz rfl rfl rfl rfl Tryd.underlying28 ?_
        intro a12 H12
        refine H12.bb 0 rfl rfl rfl rfl rfl rfl (lss_i _ _ false (by simpa using hlt) _ _ _) rfl fun a13 H13 => nt ?_
        refine H13.condF rfl ?_
        refine wp_exit ?_
        repeat (with_reducible refine then_exit ?_)
        refine block_leave ?_
        refine then_normal ?_
        rw [List.take_of_length_le (by omega)] at R3
        exact ⟨_, H13.keep ⟨rfl, rfl, trivial⟩, R3, HB5⟩
  rintro a7 w5 ⟨v3, H7, R3, HB5⟩
  refine H7.rg 2 fun a9 H9 => nt ?_
  refine wp_ret ?_
  repeat (first | (with_reducible refine block_ret ?_) | (with_reducible refine then_ret ?_))
  refine bodyPost_ret (results_tmp rfl _ _ _) H9.df ⟨_, congrArg Ending.returned (H9.at_ 2 _ rfl), ?_, HB5.own.bel⟩
  rw [body_pre hm]
  exact R3.base (by rw [hb0']; omega)
end Go.Proofs.YtkcdkjpmbjcmdaaDoor

/-
  The page's Bytes.
-/
namespace Go.Proofs.YtkcdkjpmbjcmdaaDoor
open Go.RowKit

theorem Laid.bytes {xs : List UInt8} {w w' : World} {e : Ending} (h : Laid xs w e w') : ∃ v', e = .returned v' ∧ (BytesAre xs v' w' ∧ Below w.heap.size w w') := by
  obtain ⟨v, rfl, hr, hbl⟩ := h
  exact ⟨v, rfl, hr.read, hbl⟩
theorem shl1_u8 (k : Int) (h0 : 0 ≤ k) (h2 : k ≤ 2) (x y : Operand) (w : World) : (do eqGuard .shl 5 x y (.int .u8 (k % 256)) (.int .u64 1); binOp .shl 5 (.int .u8 (k % 256)) (.int .u64 1) : Sem Value).run Tryd.prog w = .ok (.int .u8 ((2 * k.toNat : Nat) : Int)) w := by
  have : k = 0 ∨ k = 1 ∨ k = 2 := by omega
  rcases this with rfl | rfl | rfl <;> simp [go_sem] <;> rfl
theorem shl4_u8 (k : Int) (h0 : 0 ≤ k) (h2 : k ≤ 14) (x y : Operand) (w : World) : (do eqGuard .shl 5 x y (.int .u8 (k % 256)) (.int .u64 4); binOp .shl 5 (.int .u8 (k % 256)) (.int .u64 4) : Sem Value).run Tryd.prog w = .ok (.int .u8 ((16 * k.toNat : Nat) : Int)) w := by
  obtain ⟨n, rfl⟩ : ∃ n : Nat, k = n := ⟨k.toNat, by omega⟩
  have e : IntKind.u8.wrap ((n : Int) % 256 * 16) = ((16 * n : Nat) : Int) := by
    show ((n : Int) % 256 * 16) % 256 = _
    omega
  simp [go_sem]
  rw [e]
  omega
theorem rem128 (n : Nat) (x y : Operand) (w : World) : (do eqGuard .rem 3 x y (.int .i64 (n : Int)) (.int .i64 128); binOp .rem 3 (.int .i64 (n : Int)) (.int .i64 128) : Sem Value).run Tryd.prog w = .ok (.int .i64 ((n % 128 : Nat) : Int)) w := by
  simp [go_sem]
  rw [Int.tmod_eq_emod_of_nonneg (by omega)]
theorem quo128 (n : Nat) (h : n < 16384) (x y : Operand) (w : World) : (do eqGuard .quo 3 x y (.int .i64 (n : Int)) (.int .i64 128); binOp .quo 3 (.int .i64 (n : Int)) (.int .i64 128) : Sem Value).run Tryd.prog w = .ok (.int .i64 ((n / 128 : Nat) : Int)) w := by
  simp [go_sem]
  exact IntWalk.i64_in _ (by omega)
theorem conv_u8n (n : Nat) (h : n < 256) (w : World) : (convert 3 5 (.int .i64 (n : Int))).run Tryd.prog w = .ok (.int .u8 (n : Int)) w := by
  rw [conv_u8]
  congr 2
  omega
theorem or128n (n : Nat) : (n % 128 ||| 128) = n % 128 + 128 := by
  have h : (128 ||| n % 128) = 128 + n % 128 := (Nat.two_pow_add_eq_or_of_lt (i := 7) (show n % 128 < 2 ^ 7 by omega) 1).symm
  rw [Nat.or_comm, h, Nat.add_comm]
set_option maxRecDepth 100000 in
set_option maxHeartbeats 3200000 in
theorem refBytes (m : Mq) (vc vw vf : Value) (w : World) (hm : mayB m) (hL : MqL w w.heap.size m vc vw vf) :
    Calls Tryd.prog 29 #[.agg (mqCells m vc vw vf).toArray] w (Laid (layB m) w) := by
  have hbl := body_le hm.1
  have hfl := flagsBy_le hm.1
  have hkk := may_kind hm.1
  have hor : ((16 * m.kind.toNat : Nat) ||| flagsBy m) = 16 * m.kind.toNat + flagsBy m := or16 _ _ (by omega)
  go_enter Tryd.func29, Tryd.ntmps29
  refine Has.start 57 [(0, .agg (mqCells m vc vw vf).toArray)] rfl rfl ⟨rfl, trivial⟩ ?_
  intro a0 H0
  have O0 := Own.start w
  refine rl ?_
  refine H0.bx O0 1 fun a2 w1 O1 H2 => nt ?_
  have HB1 := Base.of O1
  obtain ⟨b0, hb0⟩ : ∃ b0, b0 = w1.heap.size := ⟨_, rfl⟩
  rw [← hb0] at HB1
  have hb0' := hb0
  clear hb0
  refine H2.rg 1 fun a3 H3 => nt ?_
  refine wp_seq_join (fun a w' => Has a 57 [(1, .pointer (some ⟨w.heap.size, 0, none⟩)), (3, .int .u8 ((flagsBy m : Nat) : Int))] ∧ Base w b0 [(w.heap.size, (mqCells m vc vw vf))] w') ?_ ?_
  · skip
    refine H3.rg 1 fun a4 H4 => ?_
    refine H4.ld 0 (HB1.own.li 0 0) fun a5 H5 => nt ?_
    refine wp_block ?_
    obtain ⟨b3, h3⟩ : ∃ b, (m.kind == 3) = b := ⟨_, rfl⟩
    cases b3 with
    | true =>
      have k3 : m.kind = 3 := by simpa using h3
      refine rl ?_
      refine H5.bn 1 (eql_iB _ _ _ h3 _ _ _) fun a7 H7 => nt ?_
      refine H7.condT rfl ?_
      have hp3 : publishOk m = true := by have h := hm.1; unfold okOf at h; rw [if_neg (by omega), if_neg (by omega), if_pos k3] at h; exact h
      obtain ⟨_, hq0, hq2, _, _, _⟩ := publish_facts hp3
      have H8 := H7.keep (l' := [(1, .pointer (some ⟨w.heap.size, 0, none⟩))]) ⟨rfl, trivial⟩
      have g1 : cb m.dup 8 < 256 := cb_lt _ _ (by decide)
      have g2 : 2 * m.qos.toNat < 256 := by omega
      have g3 : (cb m.dup 8 ||| 2 * m.qos.toNat) < 256 := or_lt8 g1 g2
      have g4 : cb m.retain 1 < 256 := cb_lt _ _ (by decide)
      have gf : ((cb m.dup 8 ||| 2 * m.qos.toNat) ||| cb m.retain 1) = cb m.dup 8 + 2 * m.qos.toNat + cb m.retain 1 := pub_or _ _ _ (by omega)
      refine H8.dr HB1 [1] rfl [ec 0 11 (.pointer (some ⟨w.heap.size, 16, none⟩)), ec 1 12 (.bool m.dup), ec 2 13 (.int .u8 ((cb m.dup 8 : Nat) : Int)), ec 3 14 (.pointer (some ⟨w.heap.size, 17, none⟩)), ec 4 15 (.int .i64 m.qos), ec 5 16 (.int .u8 (m.qos % 256)), ec 6 17 (.int .u8 ((2 * m.qos.toNat : Nat) : Int)), ec 7 18 (.int .u8 (((cb m.dup 8 ||| 2 * m.qos.toNat) : Nat) : Int)), ec 8 19 (.pointer (some ⟨w.heap.size, 18, none⟩)), ec 9 20 (.bool m.retain), ec 10 21 (.int .u8 ((cb m.retain 1 : Nat) : Int)), ec 11 22 (.int .u8 ((((cb m.dup 8 ||| 2 * m.qos.toNat) ||| cb m.retain 1) : Nat) : Int)), ec 12 3 (.int .u8 ((((cb m.dup 8 ||| 2 * m.qos.toNat) ||| cb m.retain 1) : Nat) : Int))] rfl ⟨jm, (jl fun _ h => h.own.lb 0 16), (jq fun ww _ => (refBitN m.dup 8 8 rfl ww)), jm, (jl fun _ h => h.own.li 0 17), (jc fun _ => (conv_u8 _ _)), (jb fun _ => (shl1_u8 _ hq0 hq2 _ _ _)), (jb fun _ => (or_u _ _ g1 g2 _ _ _)), jm, (jl fun _ h => h.own.lb 0 18), (jq fun ww _ => (refBitN m.retain 1 1 rfl ww)), (jb fun _ => (or_u _ _ g3 g4 _ _ _)), jm, trivial⟩ trivial ?_ ?_
      · exact fun _ _ _ _ _ _ _ _ _ _ _ hh => False.elim hh
      · intro listed a9 w2 hall hI
        have r_3 := hI.vs _ (ma 12 rfl) (.inr (hall 12 (by decide))) trivial
        have H9 : Has a9 57 [(1, .pointer (some ⟨w.heap.size, 0, none⟩)), (3, .int .u8 ((((cb m.dup 8 ||| 2 * m.qos.toNat) ||| cb m.retain 1) : Nat) : Int))] := Has.of hI.sz hI.df ⟨hI.fx.1, r_3, trivial⟩
        have HB2 := hI.wp
        refine block_normal ?_
        refine then_normal ?_
        exact ⟨(by rw [show flagsBy m = _ from (by unfold flagsBy; rw [if_pos k3]; exact gf.symm : flagsBy m = ((cb m.dup 8 ||| 2 * m.qos.toNat) ||| cb m.retain 1))]; exact H9.keep ⟨rfl, rfl, trivial⟩), HB2⟩
    | false =>
      have k3 : ¬ m.kind = 3 := by simpa using h3
      refine rl ?_
      refine H5.bn 1 (eql_iB _ _ _ h3 _ _ _) fun a7 H7 => nt ?_
      refine H7.condF rfl ?_
      repeat (refine wp_seq ?_)
      obtain ⟨b6, h6⟩ : ∃ b, (m.kind == 6) = b := ⟨_, rfl⟩
      cases b6 with
      | true =>
        have k6 : m.kind = 6 := by simpa using h6
        refine rl ?_
        refine H7.bn 1 (eql_iB _ _ _ h6 _ _ _) fun a9 H9 => nt ?_
        refine H9.condT rfl ?_
        refine skip_wp ?_
        refine then_normal ?_
        refine H9.condT rfl ?_
        refine H9.rg 1 fun a10 H10 => ?_
        refine wpList_nil ?_
        refine block_normal ?_
        refine then_normal ?_
        exact ⟨(by rw [show flagsBy m = _ from (by unfold flagsBy; rw [if_neg k3]; simp [k6] : flagsBy m = 2)]; exact H10.keep ⟨rfl, rfl, trivial⟩), HB1⟩
      | false =>
        have k6 : ¬ m.kind = 6 := by simpa using h6
        refine rl ?_
        refine H7.bn 1 (eql_iB _ _ _ h6 _ _ _) fun a9 H9 => nt ?_
        refine H9.condF rfl ?_
        obtain ⟨b8, h8⟩ : ∃ b, (m.kind == 8) = b := ⟨_, rfl⟩
        cases b8 with
        | true =>
          have k8 : m.kind = 8 := by simpa using h8
          refine rl ?_
          refine H9.bn 1 (eql_iB _ _ _ h8 _ _ _) fun a11 H11 => nt ?_
          refine H11.condT rfl ?_
          refine skip_wp ?_
          refine then_normal ?_
          refine H11.condT rfl ?_
          refine H11.rg 1 fun a12 H12 => ?_
          refine wpList_nil ?_
          refine block_normal ?_
          refine then_normal ?_
          exact ⟨(by rw [show flagsBy m = _ from (by unfold flagsBy; rw [if_neg k3]; simp [k8] : flagsBy m = 2)]; exact H12.keep ⟨rfl, rfl, trivial⟩), HB1⟩
        | false =>
          have k8 : ¬ m.kind = 8 := by simpa using h8
          refine rl ?_
          refine H9.bn 1 (eql_iB _ _ _ h8 _ _ _) fun a11 H11 => nt ?_
          refine H11.condF rfl ?_
          obtain ⟨b10, h10⟩ : ∃ b, (m.kind == 10) = b := ⟨_, rfl⟩
          cases b10 with
          | true =>
            have k10 : m.kind = 10 := by simpa using h10
            refine rl ?_
            refine H11.bn 1 (eql_iB _ _ _ h10 _ _ _) fun a13 H13 => nt ?_
            refine H13.condT rfl ?_
            refine H13.rg 1 fun a14 H14 => ?_
            refine wpList_nil ?_
            refine block_normal ?_
            refine then_normal ?_
            exact ⟨(by rw [show flagsBy m = _ from (by unfold flagsBy; rw [if_neg k3]; simp [k10] : flagsBy m = 2)]; exact H14.keep ⟨rfl, rfl, trivial⟩), HB1⟩
          | false =>
            have k10 : ¬ m.kind = 10 := by simpa using h10
            refine rl ?_
            refine H11.bn 1 (eql_iB _ _ _ h10 _ _ _) fun a13 H13 => nt ?_
            refine H13.condF rfl ?_
            refine skip_wp ?_
            refine block_normal ?_
            refine then_normal ?_
            exact ⟨(by rw [show flagsBy m = _ from (by unfold flagsBy; simp [k3, k6, k8, k10] : flagsBy m = 0)]; exact H13.keep ⟨rfl, rfl, trivial⟩), HB1⟩
  rintro a4 w2 ⟨H4, HB2⟩
  have O2 := HB2.own
  refine rl ?_
  refine H4.lm O2 0 0 fun a5 H5 => ?_
  refine H5.cl ((refBody m _ _ _ _ hm (hL.next O2.bel)).mono fun _ _ h => h.bytes) ?_
  rintro a6 vb w3 ⟨hB, hb⟩ H6
  have O3 := O2.call hb
  clear hb
  obtain ⟨Ab, cb', rfl, hrb⟩ := hB
  have HB3 := Base.of O3
  obtain ⟨b0, hb0⟩ : ∃ b0, b0 = w3.heap.size := ⟨_, rfl⟩
  rw [← hb0] at HB3
  have hb0' := hb0
  clear hb0
  rw [← hb0'] at hrb
  refine H6.ms 1 fun a7 H7 => nt ?_
  refine H7.rg 1 fun a8 H8 => ?_
  refine H8.ld 0 (HB3.own.li 0 0) fun a9 H9 => ?_
  refine H9.cv 0 (conv_u8 _ _) fun a10 H10 => ?_
  refine H10.bb 1 rfl rfl rfl rfl rfl rfl (shl4_u8 _ (by omega) (by omega) _ _ _) rfl fun a12 H12 => ?_
  refine H12.bb 0 rfl rfl rfl rfl rfl rfl (or_u _ _ (by omega) (by omega) _ _ _) rfl fun a13 H13 => ?_
  refine H13.lit gz rfl rfl [UInt8.ofNat (16 * m.kind.toNat + flagsBy m)] [.int .u8 ((16 * m.kind.toNat ||| flagsBy m : Nat) : Int)] (by rw [hor, bv_nat _ (by omega)]; rfl) (k := 1) rfl 5 (by intro cs b h; cases h) (by kernel_rfl) (by kernel_rfl) HB3.bw ?_
  intro a14 v35 w4 H14 R35 hb
  have HB4 := HB3.call hb
  have hrb := hrb.below (hb.mono HB3.bw)
  clear hb
  refine H14.ms 1 fun a15 H15 => nt ?_
  refine H15.rg 1 fun a16 H16 => ?_
  refine H16.len gz rfl rfl rfl rfl Tryd.underlying31 ?_
  intro a17 H17
  refine H17.ms 1 fun a18 H18 => nt ?_
  repeat (refine wp_seq ?_)
  refine wp_block ?_
  refine wp_loop_up 2 (fun k a w' => ∃ n pre v, k < 2 ∧ n < 128 ^ (2 - k) ∧ vlen (bodyBy m).length = pre ++ vlen n ∧ pre.length ≤ 2 ∧ Has a 57 [(1, .pointer (some ⟨w.heap.size, 0, none⟩)), (4, .slice Ab (bodyBy m).length cb'), (5, v), (6, .int .i64 ((n : Nat) : Int))] ∧ RowIs b0 ([UInt8.ofNat (16 * m.kind.toNat + flagsBy m)] ++ pre) v w' ∧ RB w' b0 Ab (bodyBy m) ∧ Base w b0 [(w.heap.size, (mqCells m vc vw vf))] w') ?_ ?_
  · exact ⟨_, [], _, by omega, by omega, rfl, by simp, H18.keep ⟨rfl, rfl, rfl, rfl, trivial⟩, by simpa using R35, hrb, HB4⟩
  · rintro k a19 w5 hkn ⟨n, pre, v5, hk2, hn, hpre, hpl, H19, R5, hrb, HB5⟩
    have hn2 : n < 16384 := by
      rcases Nat.lt_or_ge k 1 with h | h
      · obtain rfl : k = 0 := by omega
        omega
      · obtain rfl : k = 1 := by omega
        omega
    by_cases hlt : 128 ≤ n
    · skip
      have hk0 : k = 0 := by
        rcases Nat.lt_or_ge k 1 with h | h
        · omega
        · obtain rfl : k = 1 := by omega
          omega
      subst hk0
      refine H19.rg 1 fun a20 H20 => ?_
      refine H20.bb 0 rfl rfl rfl rfl rfl rfl (geq_i _ _ true (by simp; omega) _ _ _) rfl fun a21 H21 => nt ?_
      repeat (refine wp_seq ?_)
      refine H21.condT rfl ?_
      refine skip_wp ?_
      refine then_normal ?_
      repeat (refine wp_seq ?_)
      refine wp_block ?_
      refine H21.rg 2 fun a23 H23 => ?_
      refine H23.bn 0 (rem128 n _ _ _) fun a24 H24 => ?_
      refine H24.conv gz rfl rfl rfl rfl (conv_u8n _ (by omega) _) ?_
      intro a25 H25
      refine H25.bb 0 rfl rfl rfl rfl rfl rfl (or_u _ _ (by omega) (by decide) _ _ _) rfl fun a26 H26 => ?_
      refine H26.lit gz rfl rfl [UInt8.ofNat (n % 128 + 128)] [.int .u8 ((n % 128 ||| 128 : Nat) : Int)] (by rw [or128n, bv_nat _ (by omega)]; rfl) (k := 1) rfl 5 (by intro cs b h; cases h) (by kernel_rfl) (by kernel_rfl) HB5.bw ?_
      intro a27 v45 w6 H27 R45 hb
      have R5 := R5.below hb
      have HB6 := HB5.call hb
      have hrb := hrb.below (hb.mono HB5.bw)
      clear hb
      refine H27.appendRow Tryd.underlying31 info_u8 gz rfl rfl rfl rfl rfl R5 R45.read (by simp; omega) HB6.bw ?_
      intro a28 v46 w7 H28 R46 hb _
      have HB7 := HB6.step hb
      have hrb := hrb.below hb
      clear hb
      refine H28.ms 1 fun a29 H29 => nt ?_
      refine H29.rg 1 fun a30 H30 => ?_
      refine H30.bn 1 (quo128 n hn2 _ _ _) fun a32 H32 => ?_
      refine wpList_nil ?_
      refine block_normal ?_
      refine then_normal ?_
      refine ⟨by omega, n / 128, pre ++ [UInt8.ofNat (n % 128 + 128)], _, by omega, by omega, ?_, ?_, H32.keep ⟨rfl, rfl, rfl, rfl, trivial⟩, (by rw [← List.append_assoc]; exact R46), hrb, HB7⟩
      · rw [hpre, vlen_step _ hlt, List.append_assoc]; rfl
      · have : pre = [] := by
          have h1 := congrArg List.length hpre
          rw [vlen_step _ hlt] at h1
          have h2 := vlen_le (bodyBy m).length (by omega)
          have h3 := vlen_pos (n / 128)
          simp only [List.length_append, List.length_cons] at h1
          exact List.eq_nil_of_length_eq_zero (by omega)
        rw [this]; simp
    · skip
      refine H19.rg 1 fun a20 H20 => ?_
      refine H20.bb 0 rfl rfl rfl rfl rfl rfl (geq_i _ _ false (by simp; omega) _ _ _) rfl fun a21 H21 => nt ?_
      repeat (refine wp_seq ?_)
      refine H21.condF rfl ?_
      refine wp_exit ?_
      repeat (with_reducible refine then_exit ?_)
      refine block_leave ?_
      refine then_normal ?_
      refine H21.rg 2 fun a23 H23 => ?_
      refine H23.cv 0 (conv_u8 _ _) fun a24 H24 => ?_
      refine H24.lit gz rfl rfl [UInt8.ofNat n] [.int .u8 ((n : Int) % 256)] (by rw [byte_of_int _ (by omega)]; rfl) (k := 1) rfl 5 (by intro cs b h; cases h) (by kernel_rfl) (by kernel_rfl) HB5.bw ?_
      intro a25 v52 w6 H25 R52 hb
      have R5 := R5.below hb
      have HB6 := HB5.call hb
      have hrb := hrb.below (hb.mono HB5.bw)
      clear hb
      refine H25.appendRow Tryd.underlying31 info_u8 gz rfl rfl rfl rfl rfl R5 R52.read (by simp; omega) HB6.bw ?_
      intro a26 v53 w7 H26 R53 hb _
      have HB7 := HB6.step hb
      have hrb := hrb.below hb
      clear hb
      refine H26.ms 1 fun a27 H27 => nt ?_
      refine H27.rg 2 fun a29 H29 => ?_
      refine H29.appendRow Tryd.underlying31 info_u8 gz rfl rfl rfl rfl rfl R53 ⟨_, _, rfl, hrb.more HB7.bw⟩ (by simp; omega) HB7.bw ?_
      intro a30 v56 w8 H30 R56 hb _
      have HB8 := HB7.step hb
      have hrb := hrb.below hb
      clear hb
      refine H30.ms 1 fun a31 H31 => nt ?_
      refine wp_ret ?_
      repeat (first | (with_reducible refine block_ret ?_) | (with_reducible refine then_ret ?_))
      refine bodyPost_ret (results_tmp rfl _ _ _) H31.df ⟨_, congrArg Ending.returned (H31.at_ 2 _ rfl), ?_, HB8.own.bel⟩
      have e : layB m = (([UInt8.ofNat (16 * m.kind.toNat + flagsBy m)] ++ pre) ++ [UInt8.ofNat n]) ++ bodyBy m := by
        unfold layB; rw [hpre, vlen_short _ (by omega)]; simp
      rw [e]; exact R56.base HB8.hb
end Go.Proofs.YtkcdkjpmbjcmdaaDoor

/-
  Words that the laws of chapter 18 share.
-/
namespace Go.Proofs.YtkcdkjpmbjcmdaaDoor
open Go.RowKit

theorem index_m (T : TypeId) (hT : Tryd.prog.underlying T = some (.slice (Tryd.prog.elem T))) (m : Nat) (hs : ∀ w, (sizeOf (Tryd.prog.elem T)).run Tryd.prog w = .ok m w) (b o n c k : Nat) (hk : k < n) (w : World) : (Instr.indexAt T (.slice (some ⟨b, o, none⟩) n c) (.int .i64 k)).run Tryd.prog w = .ok (.pointer (some ⟨b, o + k * m, none⟩)) w := by
  rw [run_indexAt_slice (h := hT), if_pos ⟨by omega, by omega⟩, hs]
  have e : (Addr.mk b o none).add ((k : Int).toNat * m) = ⟨b, o + k * m, none⟩ := by
    rw [Int.toNat_natCast]
    unfold Addr.add
    by_cases h : k * m = 0
    · rw [if_pos h, h]; rfl
    · rw [if_neg h]
  rw [Result.andThen_ok, e]
theorem fieldAo_0 (o g : Nat) (w : World) : (Instr.fieldAt 33 (.pointer (some ⟨g, o, none⟩)) 0).run Tryd.prog w = .ok (.pointer (some ⟨g, o, none⟩)) w := by
  simp [go_sem]
theorem fieldAo_1 (o g : Nat) (w : World) : (Instr.fieldAt 33 (.pointer (some ⟨g, o, none⟩)) 1).run Tryd.prog w = .ok (.pointer (some ⟨g, o + 24, none⟩)) w := by
  simp [go_sem]
theorem rangeB {w w' : World} {B b o : Nat} {l : List Value} (h : w.rangeAt b o l) (hb : Below B w w') (hlt : b < B) : w'.rangeAt b o l := fun j v hv => (cellB hb hlt).trans (h j v hv)
theorem rangeF {w : World} {b o : Nat} {l1 l2 : List Value} (h : w.rangeAt b o (l1 ++ l2)) : w.rangeAt b o l1 := fun j v hv => h j v (by rw [List.getElem?_append_left (List.getElem?_eq_some_iff.1 hv).1]; exact hv)
theorem load_mq {w : World} {b o : Nat} {m : Mq} {vc vw vf : Value} (h : w.rangeAt b o (mqCells m vc vw vf)) : (Instr.loadAt 30 (.pointer (some ⟨b, o, none⟩))).run Tryd.prog w = .ok (.agg (mqCells m vc vw vf).toArray) w :=
  run_loadAt_mid w b o 30 _ _ h Tryd.underlying30 rfl size_mq
theorem size_ask : (Tryd.prog.info? 33).map (·.size) = some 25 := by kernel_rfl
theorem load_ask {w : World} {b o : Nat} {m : Mq} {vc vw vf v : Value} (h : w.rangeAt b o (mqCells m vc vw vf ++ [v])) : (Instr.loadAt 33 (.pointer (some ⟨b, o, none⟩))).run Tryd.prog w = .ok (.agg (mqCells m vc vw vf ++ [v]).toArray) w :=
  run_loadAt_mid w b o 33 _ _ h Tryd.underlying33 rfl size_ask
theorem neq_3 (u v : Int) (b : Bool) (h : (u != v) = b) (x y : Operand) (w : World) : (do eqGuard .neq 3 x y (.int .i64 u) (.int .i64 v); binOp .neq 3 (.int .i64 u) (.int .i64 v) : Sem Value).run Tryd.prog w = .ok (.bool b) w := by
  rw [← h]
  simp [go_sem]
theorem short_of {m : Mq} (h : mqW m ≤ 3000) : Short m 1000000 := by
  have h1 := wgt_ge (m.wishes.map (·.1.size)) m.wishes.length
  have h2 := wgt_ge (m.filters.map (·.size)) m.filters.length
  unfold mqW wishW filtW at h
  exact ⟨by omega, by omega, by omega⟩
theorem mayC (m : Mq) (vc vw vf : Value) (b : Bool) (hb : mayBb m = b) (w : World) (hL : MqL w w.heap.size m vc vw vf) (hF : MqFit m) (hW : Wd w) :
    Calls Tryd.prog 25 #[.agg (mqCells m vc vw vf).toArray] w fun e w' => e = .returned (.bool b) ∧ Below w.heap.size w w' := by
  rw [← hb]
  exact refMay m vc vw vf w hL hF hW
theorem checkC (m : Mq) (vc vw vf : Value) (n : Int) (hn : (if mayBb m then 0 else 1) = n) (w : World) (hL : MqL w w.heap.size m vc vw vf) (hF : MqFit m) (hW : Wd w) :
    Calls Tryd.prog 27 #[.agg (mqCells m vc vw vf).toArray] w fun e w' => e = .returned (.int .i64 n) ∧ Below w.heap.size w w' := by
  rw [← hn]
  exact packCheck m vc vw vf w hL hF hW
theorem bytesYes (m : Mq) (vc vw vf : Value) (w : World) (hm : mayB m) (hL : MqL w w.heap.size m vc vw vf) (hF : MqFit m) (hW : Wd w) :
    Calls Tryd.prog 24 #[.agg (mqCells m vc vw vf).toArray] w fun e w' => ∃ v, e = .returned v ∧ (∃ vr, v = .tuple #[vr, .int .i64 0] ∧ RowIs w.heap.size (layB m) vr w' ∧ Below w.heap.size w w') := by
  refine (packBytes m vc vw vf w hL hF hW).mono ?_
  rintro e w' (⟨_, v, rfl, hr, hb⟩ | ⟨hn, _⟩)
  · exact ⟨_, rfl, v, rfl, hr, hb⟩
  · exact absurd hm hn
theorem bytesNo (m : Mq) (vc vw vf : Value) (w : World) (hm : ¬ mayB m) (hL : MqL w w.heap.size m vc vw vf) (hF : MqFit m) (hW : Wd w) :
    Calls Tryd.prog 24 #[.agg (mqCells m vc vw vf).toArray] w fun e w' => ∃ v, e = .returned v ∧ (v = .tuple #[.slice none 0 0, .int .i64 1] ∧ Below w.heap.size w w') := by
  refine (packBytes m vc vw vf w hL hF hW).mono ?_
  rintro e w' (⟨hn, _⟩ | ⟨_, rfl, hb⟩)
  · exact absurd hn hm
  · exact ⟨_, rfl, rfl, hb⟩
theorem eqBy (xs : List UInt8) (u v : Value) (w : World) (hu : BytesAre xs u w) (hv : BytesAre xs v w) (hn : xs.length ≤ maxLen) :
    Calls Tryd.prog 28 #[u, v] w fun e w' => e = .returned (.bool true) ∧ Below w.heap.size w w' := by
  obtain ⟨A, c, rfl, ha⟩ := hu
  obtain ⟨B, d, rfl, hb⟩ := hv
  refine (eqBytes xs A B c d w ha hb hn).mono ?_
  rintro e w' ⟨rfl, n, rfl⟩
  exact ⟨rfl, below_drewN (Below.refl _ _) n⟩
theorem eqMqS (m : Mq) (vc vw vf vc' vw' vf' : Value) (w : World) (ha : MqL w w.heap.size m vc vw vf) (hb : MqL w w.heap.size m vc' vw' vf') :
    Calls Tryd.prog 30 #[.agg (mqCells m vc vw vf).toArray, .agg (mqCells m vc' vw' vf').toArray] w fun e w' => e = .returned (.bool true) ∧ Below w.heap.size w w' := by
  have h := refEqMq m m vc vw vf vc' vw' vf' w ha hb
  rw [(same_iff m m).2 rfl] at h
  exact h
theorem lay_maxLen {m : Mq} (h : mayB m) : (layB m).length ≤ maxLen := by
  have := lay_le h
  unfold maxLen
  omega
theorem mayB_of {m : Mq} (h : mayBb m = true) : mayB m := (mayBb_iff m).1 h
theorem mayB_not {m : Mq} (h : mayBb m = false) : ¬ mayB m := fun h2 => by rw [(mayBb_iff m).2 h2] at h; cases h
/-! are you there -/
theorem ping_may : mayB (mq0 12) := ⟨rfl, rfl⟩
theorem ping_lay : layB (mq0 12) = [192, 0] := by
  have h : bodyBy (mq0 12) = [] := rfl
  unfold layB
  rw [h, vlen_short _ (by decide)]
  rfl
theorem ping_fit : MqFit (mq0 12) := ⟨by unfold Fits; decide, by unfold Fits; decide, by unfold Fits; decide, by unfold Fits; decide, by unfold Fits; decide, by unfold Fits; decide, by unfold Fits; decide, (fun s hs => by cases hs), (fun s hs => by cases hs)⟩
set_option maxRecDepth 100000 in
set_option maxHeartbeats 1600000 in
theorem wakes18 (w : World) (hT : Wd w) : Calls Tryd.prog 31 #[] w fun e w' => e = .returned (.bool true) ∧ Below w.heap.size w w' := by
  go_enter Tryd.func31, Tryd.ntmps31
  refine Has.start 16 [] rfl rfl trivial ?_
  intro a0 H0
  have O0 := Own.start w
  refine H0.rg 1 fun a1 H1 => nt ?_
  refine rl ?_
  refine H1.any (w' := w) gz rfl rfl (.agg (mqCells (mq0 12) nilV nilV nilV).toArray) (by intro cs b h; cases h) (by kernel_rfl) (by kernel_rfl) ?_
  intro a2 H2
  refine H2.cl (bytesYes (mq0 12) nilV nilV nilV _ ping_may (MqL.nil rfl rfl rfl) ping_fit hT) ?_
  rintro a3 _ w1 ⟨vr, rfl, hR, hb⟩ H3
  have O1 := O0.call hb
  clear hb
  rw [ping_lay] at hR
  refine H3.ms 1 fun a4 H4 => ?_
  refine H4.ex (r := vr) 0 fun a5 H5 => ?_
  refine H5.ex (r := .int .i64 0) 2 fun a8 H8 => nt ?_
  refine H8.rg 1 fun a9 H9 => ?_
  refine H9.cq 0 (num18 0 _) fun a10 H10 => ?_
  refine H10.bn 1 (eql_iB _ _ true rfl _ _ _) fun a12 H12 => ?_
  refine H12.move (H12.wt rfl rfl rfl) (.inl rfl) rfl rfl rfl ?_
  intro a13 H13
  obtain ⟨hby, hb⟩ := bytes_lit w1 [192, 0] [.int .u8 192, .int .u8 0] rfl 5 2 rfl
  refine H13.go (H13.wt rfl rfl rfl) rfl rfl (.slice (some ⟨w1.heap.size, 0, none⟩) 2 2) (w' := w1.alloc (.cells ([.int .u8 192, .int .u8 0] : List Value).toArray 5)) (run_any H13 (by intro cs b h; cases h) (by kernel_rfl) (by kernel_rfl)) ?_
  intro a14 H14
  have hR := hR.below hb
  have O2 := O1.call hb
  refine H14.call (H14.wt rfl rfl rfl) rfl rfl rfl rfl (fun _ _ => by kernel_rfl) (belowC (eqBy [192, 0] vr _ _ hR.read hby (by decide))) ?_
  rintro a15 _ w2 ⟨rfl, hb⟩ H15
  have O3 := O2.call hb
  refine H15.pick gz rfl rfl rfl rfl rfl ?_
  intro a16 H16
  refine H16.ms 1 fun a17 H17 => nt ?_
  refine wp_ret ?_
  repeat (first | (with_reducible refine block_ret ?_) | (with_reducible refine then_ret ?_))
  exact bodyPost_ret (results_tmp rfl _ _ _) H17.df ⟨congrArg Ending.returned (H17.at_ 0 _ rfl), O3.bel⟩
end Go.Proofs.YtkcdkjpmbjcmdaaDoor

/-
  The page's Parse.
-/
namespace Go.Proofs.YtkcdkjpmbjcmdaaDoor
open Go.RowKit

theorem numR_left (s : Rd) : (numR s).2.1.length ≤ s.1.length := takeR_left s 2
theorem textR_left (s : Rd) : (textR s).2.1.length ≤ s.1.length := Nat.le_trans (takeR_left _ _) (numR_left s)
theorem small_readR (k : Int) (f : UInt8) (s : Rd) (h : s.1.length ≤ 1000000) : Small (readR k f s).1 := by
  unfold readR
  split
  · exact small_conn shortsR _
  · split
    · exact ⟨nosz, nosz, nosz, nosz, nosz, nosz, nosz, (fun s hs => by cases hs), (fun s hs => by cases hs)⟩
    · split
      · have h1 := numR_left (textR s).2
        have h2 := textR_left s
        refine ⟨nosz, nosz, nosz, nosz, nosz, shortsR s, ?_, (fun s hs => by cases hs), (fun s hs => by cases hs)⟩
        show (mkS _).size ≤ _
        rw [mkS_size]
        split <;> omega
      · split
        · exact small0 k
        · exact small_loopR k 8 _ _ ⟨nosz, nosz, nosz, nosz, nosz, nosz, nosz, (fun s hs => by cases hs), (fun s hs => by cases hs)⟩
theorem lens_readR (k : Int) (f : UInt8) (s : Rd) : Lens (readR k f s).1 8 := by
  have z : ∀ m : Mq, m.codes = [] → m.wishes = [] → m.filters = [] → Lens m 8 := fun m a b c => by unfold Lens; rw [a, b, c]; exact ⟨Nat.zero_le _, Nat.zero_le _, Nat.zero_le _⟩
  unfold readR
  split
  · exact z _ rfl rfl rfl
  · split
    · exact z _ rfl rfl rfl
    · split
      · exact z _ rfl rfl rfl
      · split
        · exact z _ rfl rfl rfl
        · have := lens_loopR k 8 { mq0 k with id := ((numR s).1 : Int) } (numR s).2 0 ⟨Nat.zero_le _, Nat.zero_le _, Nat.zero_le _⟩
          rw [Nat.zero_add] at this
          exact this
/-- what the page's parser answers. -/
def ParseSaidR (xs : List UInt8) (w : World) (e : Ending) (w' : World) : Prop :=
  ∃ m n er vc vw vf, Parsed xs m n er ∧ e = .returned (.tuple #[.agg (mqCells m vc vw vf).toArray, .int .i64 ((n : Nat) : Int), .int .i64 er]) ∧ (Rows3 w' w.heap.size m vc vw vf ∧ Lens m 8) ∧ Small m ∧ Below w.heap.size w w'
abbrev zC : List Value := mqCells (mq0 0) nilV nilV nilV
def Far (g : Nat) (vc vw vf : Value) : Prop := some g ≠ vc.ownBlock ∧ some g ≠ vw.ownBlock ∧ some g ≠ vf.ownBlock
section
variable {w w' : World}
theorem Rows3.keptR {b g : Nat} {m : Mq} {vc vw vf : Value} (h : Rows3 w b m vc vw vf) (hg : w.grownBy w' (some g)) (hf : Far g vc vw vf) : Rows3 w' b m vc vw vf :=
  ⟨h.1.kept hg (.inr hf.1.symm), h.2.1.kept hg (.inr hf.2.1.symm), h.2.2.kept hg (.inr hf.2.2.symm)⟩
theorem Rows3.far {b g : Nat} {m : Mq} {vc vw vf : Value} (h : Rows3 w b m vc vw vf) (hg : g < b ∨ w.heap.size ≤ g) : Far g vc vw vf := ⟨own_ne h.1 hg, own_ne h.2.1 hg, own_ne h.2.2 hg⟩
end
theorem eqBy2 (xs ys : List UInt8) (u v : Value) (b : Bool) (h : decide (xs = ys) = b) (w : World) (hu : BytesAre xs u w) (hv : BytesAre ys v w) (hn : xs.length ≤ maxLen) :
    Calls Tryd.prog 28 #[u, v] w fun e w' => e = .returned (.bool b) ∧ Below w.heap.size w w' := by
  obtain ⟨A, c, rfl, ha⟩ := hu
  obtain ⟨B, d, rfl, hb⟩ := hv
  subst h
  refine (eqBytes_any xs ys A B c d w ha hb hn).mono ?_
  rintro e w' ⟨rfl, n, rfl⟩
  exact ⟨rfl, below_drewN (Below.refl _ _) n⟩
theorem refReadC (f : UInt8) (ys : List UInt8) (n c : Nat) (A : Option Addr) (hl : ys.length = n) (hc : n ≤ c) (r : Mq × Rd) (hr : r = readR ((f.toNat / 16 : Nat) : Int) f (ys, false)) (w : World) (hx : RB w w.heap.size A ys) :
    Calls Tryd.prog 64 #[.int .u8 (f.toNat : Int), .slice A n c] w fun e w' => ∃ v, e = .returned v ∧ (∃ vc vw vf, v = .tuple #[.agg (mqCells r.1 vc vw vf).toArray, .bool (!r.2.2)] ∧ Below w.heap.size w w' ∧ Rows3 w' w.heap.size r.1 vc vw vf) := by
  have e16 : ((f.toNat / 16 : Nat) : Int) = (f.toNat : Int) / 16 := by omega
  rw [e16] at hr
  subst hr
  refine (refRead f ys n c A hl hc w hx).mono ?_
  rintro e w' ⟨vc, vw, vf, rfl, hb, h3⟩
  exact ⟨_, rfl, vc, vw, vf, rfl, hb, h3⟩
theorem wpOp_alloc {P : Program} {ops : Array Oper} {Q : Exit → Act → World → Prop} {i : Nat} {o : Oper} {a : Act} {w : World} {K : Act → World → Prop} (hi : ops[i]? = some o) (hw : Region.wanted o (yielded ops a.tmps) = true) (d : Nat) (hd : o.dst = some d) {T : TypeId} (ho : o.op = .alloc T) (l : List Value) (hz : ∀ w, (zeroValue T).run P w = .ok (.agg l.toArray) w)
    (h : ∀ w', Below w.heap.size w w' → w'.heap.size = w.heap.size + 1 → Cells w' w.heap.size l → K (a.put (some d) (.pointer (some ⟨w.heap.size, 0, none⟩))) w') : wpOp P ops Q i K a w := by
  refine wpOp_go hi hw d hd (.pointer (some ⟨w.heap.size, 0, none⟩)) (w.alloc (.cells l.toArray T)) ?_ (h _ (balloc w _) (by simp) (Cells.of_heap (heap_alloc_new w _)))
  unfold execOp
  simp only [ho]
  simp [Instr.alloc, hz, Sem.run_bind, Result.andThen, newVar, newRow, Value.cells, newObj]
  rfl
theorem lss_u (u v : Int) (b : Bool) (h : decide (u < v) = b) (x y : Operand) (w : World) : (do eqGuard .lss 5 x y (.int .u8 u) (.int .u8 v); binOp .lss 5 (.int .u8 u) (.int .u8 v) : Sem Value).run Tryd.prog w = .ok (.bool b) w := by
  subst h
  simp [go_sem]
theorem beqN0 (n : Nat) : ((n : Int) == 0) = decide (n = 0) := by
  rw [Bool.eq_iff_iff, beq_iff_eq, decide_eq_true_eq]
  omega
set_option maxRecDepth 100000 in
set_option maxHeartbeats 6400000 in
theorem refParse (xs : List UInt8) (A : Option Addr) (c : Nat) (hc : xs.length ≤ c) (w : World) (hr : RB w w.heap.size A xs) (hl : xs.length ≤ 140737488351232) (hT : Wd w) :
    Calls Tryd.prog 34 #[.slice A xs.length c] w (ParseSaidR xs w) := by
  go_enter Tryd.func34, Tryd.ntmps34
  refine Has.start 100 [(0, .slice A xs.length c)] rfl rfl ⟨rfl, trivial⟩ ?_
  intro a0 H0
  have O0 := Own.start w
  refine rl ?_
  refine H0.al O0 2 zero_mq fun a3 w1 O1 H3 => nt ?_
  by_cases h0 : xs.length = 0
  · skip
    refine H3.rg 1 fun a4 H4 => ?_
    refine H4.len gz rfl rfl rfl rfl Tryd.underlying31 ?_
    intro a5 H5
    refine H5.bb 0 rfl rfl rfl rfl rfl rfl (eql_iB _ _ true (by rw [h0]; rfl) _ _ _) rfl fun a6 H6 => nt ?_
    refine H6.condT rfl ?_
    refine rl ?_
    refine H6.any (w' := w1) gz rfl rfl (.agg (mqCells (mq0 0) nilV nilV nilV).toArray) (by intro cs b h; cases h) (by kernel_rfl) (by kernel_rfl) ?_
    intro a7 H7
    refine H7.st O1 0 2 (hi := size_mq) fun a10 w2 O2 H10 => nt ?_
    refine wp_ret ?_
    repeat (first | (with_reducible refine block_ret ?_) | (with_reducible refine then_ret ?_))
    refine bodyPost_ret (results_m2 Tryd.results34 _ (H10.at_ 2 _ rfl) (H10.at_ 3 _ rfl) (H10.at_ 4 _ rfl) (O2.get 0 rfl) Tryd.underlying30 rfl size_mq rfl) H10.df ?_
    exact ⟨mq0 0, 0, 7, nilV, nilV, nilV, parsed_err (by rw [List.eq_nil_of_length_eq_zero h0] <;> rfl), rfl, ⟨rows_nil _ _ rfl rfl rfl, Nat.zero_le _, Nat.zero_le _, Nat.zero_le _⟩, small0 0, O2.bel⟩
  refine H3.rg 1 fun a4 H4 => ?_
  refine H4.len gz rfl rfl rfl rfl Tryd.underlying31 ?_
  intro a5 H5
  refine H5.bb 0 rfl rfl rfl rfl rfl rfl (eql_iB _ _ false (by rw [beq_eq_false_iff_ne]; omega) _ _ _) rfl fun a6 H6 => nt ?_
  refine H6.condF rfl ?_
  refine skip_wp ?_
  refine then_normal ?_
  refine H6.rg 2 fun a8 H8 => nt ?_
  refine wp_seq_join (fun a w' => ∃ (k n : Nat) (x : UInt8), k ≤ 3 ∧ k + 1 < xs.length ∧ xs[k + 1]? = some x ∧ n < 268435456 ∧ sizeD xs = (if x.toNat = 0 ∧ 1 < k + 1 then .error 1 else if 1024 < n + (k + 1 + 1) then .error 2 else if (xs.drop (k + 2)).length < n then .error 7 else .ok (n + (k + 1 + 1), k + 1 + 1)) ∧ Has a 100 [(0, .slice A xs.length c), (2, .pointer (some ⟨w.heap.size, 0, none⟩)), (5, .int .i64 (n : Int)), (6, .int .i64 ((k + 2 : Nat) : Int))] ∧ Own w w.heap.size [(w.heap.size, (mqCells (mq0 0) nilV nilV nilV))] w') ?_ ?_
  · skip
    refine wp_block ?_
    refine wp_loop_up 3 (fun k a w' => ∃ n : Nat, n < 128 ^ k ∧ sizeD xs = sizeGo (4 - k) (k + 1) n (xs.drop (k + 1)) ∧ Has a 100 [(0, .slice A xs.length c), (2, .pointer (some ⟨w.heap.size, 0, none⟩)), (5, .int .i64 (n : Int)), (6, .int .i64 ((k + 1 : Nat) : Int))] ∧ Own w w.heap.size [(w.heap.size, (mqCells (mq0 0) nilV nilV nilV))] w') ?_ ?_
    · refine ⟨0, by decide, ?_, H8.keep ⟨rfl, rfl, rfl, rfl, trivial⟩, O1⟩
      cases xs with
      | nil => exact absurd rfl h0
      | cons y ys => rfl
    · rintro k a9 w2 hk ⟨n, hn, hs, H9, O2⟩
      have hp : (128 : Nat) ^ k ≤ 2097152 := Nat.le_trans (Nat.pow_le_pow_right (by decide) hk) (by decide)
      repeat (refine wp_seq ?_)
      refine wp_block ?_
      by_cases hlt : k + 1 < xs.length
      · skip
        obtain ⟨gb, go, x, hA, hgb, hx, hcell⟩ := RB.get (hr.below O2.bel) (k := k + 1) hlt
        have hd := drop_get' xs (k + 1) x hx
        rw [hd] at hs
        obtain ⟨f, hf⟩ : ∃ f, 4 - k = f + 1 := ⟨3 - k, by omega⟩
        rw [hf, sizeGo] at hs
        have hxb := x.toNat_lt
        have hv : x.toNat % 128 * 128 ^ k < 128 ^ (k + 1) := by rw [Nat.pow_succ, Nat.mul_comm]; exact Nat.mul_lt_mul_of_pos_left (by omega) (Nat.pow_pos (by decide))
        have hn2 : n + x.toNat % 128 * 128 ^ k < 128 ^ (k + 1) := by
          have h1 : n + x.toNat % 128 * 128 ^ k < (x.toNat % 128 + 1) * 128 ^ k := by rw [Nat.add_mul, Nat.one_mul]; omega
          have h2 : (x.toNat % 128 + 1) * 128 ^ k ≤ 128 * 128 ^ k := Nat.mul_le_mul_right _ (by omega)
          rw [Nat.pow_succ]; omega
        have hp2 : (128 : Nat) ^ (k + 1) ≤ 268435456 := Nat.le_trans (Nat.pow_le_pow_right (by decide) (Nat.succ_le_succ hk)) (by decide)
        have hk1 : k + 1 - 1 = k := rfl
        rw [hk1] at hs
        refine H9.rg 2 fun a11 H11 => ?_
        refine H11.len gz rfl rfl rfl rfl Tryd.underlying31 ?_
        intro a12 H12
        refine H12.bb 0 rfl rfl rfl rfl rfl rfl (geq_i _ _ false (by simp; omega) _ _ _) rfl fun a13 H13 => nt ?_
        refine H13.condF rfl ?_
        refine skip_wp ?_
        refine then_normal ?_
        refine H13.rg 3 fun a16 H16 => ?_
        refine H16.index gz rfl rfl rfl rfl rfl (show (Instr.indexAt 31 (.slice A xs.length c) (.int .i64 ((k + 1 : Nat) : Int))).run Tryd.prog _ = .ok (.pointer (some ⟨gb, go + (k + 1), none⟩)) _ by rw [hA]; exact index_1 31 Tryd.underlying31 (fun _ => by kernel_rfl) _ _ _ _ _ hlt _) ?_
        intro a17 H17
        refine H17.ld 0 (load1_u _ _ _ _ hcell) fun a18 H18 => ?_
        refine H18.bn 0 (and127 x _ _ _) fun a19 H19 => ?_
        refine H19.conv gz rfl rfl rfl rfl (conv_58 _ (by omega) _) ?_
        intro a20 H20
        refine H20.ms 1 fun a21 H21 => ?_
        refine H21.bn 0 (pred_i k _ _ _) fun a22 H22 => ?_
        refine H22.bn 0 (mul7 k hk _ _ _) fun a23 H23 => ?_
        refine H23.bb 0 rfl rfl rfl rfl rfl rfl (shlK _ k (by omega) hk _ _ _) rfl fun a24 H24 => ?_
        refine H24.bb 1 rfl rfl rfl rfl rfl rfl (or_i _ _ (by omega) (by omega) _ _ _) rfl fun a26 H26 => nt ?_
        rw [or_pow n _ k hn] at H26
        refine H26.rg 1 fun a27 H27 => ?_
        refine H27.bb 1 rfl rfl rfl rfl rfl rfl (succ_i _ (by omega) _ _ _) rfl fun a29 H29 => nt ?_
        by_cases hge : 128 ≤ x.toNat
        · skip
          rw [if_pos hge] at hs
          refine H29.rg 2 fun a31 H31 => ?_
          refine H31.bn 0 (pred_i (k + 1) _ _ _) fun a32 H32 => ?_
          refine H32.index gz rfl rfl rfl rfl rfl (show (Instr.indexAt 31 (.slice A xs.length c) (.int .i64 (IntKind.i64.wrap ((k + 1 : Nat) : Int)))).run Tryd.prog _ = .ok (.pointer (some ⟨gb, go + (k + 1), none⟩)) _ by rw [IntWalk.i64_in _ (by omega), hA]; exact index_1 31 Tryd.underlying31 (fun _ => by kernel_rfl) _ _ _ _ _ hlt _) ?_
          intro a33 H33
          refine H33.ld 0 (load1_u _ _ _ _ hcell) fun a34 H34 => ?_
          refine H34.bb 0 rfl rfl rfl rfl rfl rfl (lss_u _ _ false (by simp; omega) _ _ _) rfl fun a35 H35 => nt ?_
          refine H35.condF rfl ?_
          refine skip_wp ?_
          refine then_normal ?_
          by_cases h4 : k = 3
          · skip
            rw [if_pos (by omega)] at hs
            refine H35.rg 1 fun a36 H36 => ?_
            refine H36.bb 0 rfl rfl rfl rfl rfl rfl (eql_iB _ _ true (by subst h4; rfl) _ _ _) rfl fun a37 H37 => nt ?_
            refine H37.condT rfl ?_
            refine rl ?_
            refine H37.any (w' := w2) gz rfl rfl (.agg (mqCells (mq0 0) nilV nilV nilV).toArray) (by intro cs b h; cases h) (by kernel_rfl) (by kernel_rfl) ?_
            intro a38 H38
            refine H38.st O2 0 2 (hi := size_mq) fun a41 w3 O3 H41 => nt ?_
            refine wp_ret ?_
            repeat (first | (with_reducible refine block_ret ?_) | (with_reducible refine then_ret ?_))
            refine bodyPost_ret (results_m2 Tryd.results34 _ (H41.at_ 2 _ rfl) (H41.at_ 3 _ rfl) (H41.at_ 4 _ rfl) (O3.get 0 rfl) Tryd.underlying30 rfl size_mq rfl) H41.df ?_
            exact ⟨mq0 0, 0, 1, nilV, nilV, nilV, parsed_err (hs), rfl, ⟨rows_nil _ _ rfl rfl rfl, Nat.zero_le _, Nat.zero_le _, Nat.zero_le _⟩, small0 0, O3.bel⟩
          · skip
            rw [if_neg (by omega)] at hs
            refine H35.rg 1 fun a36 H36 => ?_
            refine H36.bb 0 rfl rfl rfl rfl rfl rfl (eql_iB _ _ false (by rw [beq_eq_false_iff_ne]; omega) _ _ _) rfl fun a37 H37 => nt ?_
            refine H37.condF rfl ?_
            refine skip_wp ?_
            refine block_normal ?_
            exact ⟨by omega, _, hn2, (by rw [hs, show 4 - (k + 1) = f by omega]), H37.keep ⟨rfl, rfl, rfl, rfl, trivial⟩, O2⟩
        · skip
          rw [if_neg hge] at hs
          refine H29.rg 2 fun a31 H31 => ?_
          refine H31.bn 0 (pred_i (k + 1) _ _ _) fun a32 H32 => ?_
          refine H32.index gz rfl rfl rfl rfl rfl (show (Instr.indexAt 31 (.slice A xs.length c) (.int .i64 (IntKind.i64.wrap ((k + 1 : Nat) : Int)))).run Tryd.prog _ = .ok (.pointer (some ⟨gb, go + (k + 1), none⟩)) _ by rw [IntWalk.i64_in _ (by omega), hA]; exact index_1 31 Tryd.underlying31 (fun _ => by kernel_rfl) _ _ _ _ _ hlt _) ?_
          intro a33 H33
          refine H33.ld 0 (load1_u _ _ _ _ hcell) fun a34 H34 => ?_
          refine H34.bb 0 rfl rfl rfl rfl rfl rfl (lss_u _ _ true (by simp; omega) _ _ _) rfl fun a35 H35 => nt ?_
          refine H35.condT rfl ?_
          refine wp_exit ?_
          repeat (with_reducible refine then_exit ?_)
          refine block_pass rfl ?_
          repeat (with_reducible refine then_exit ?_)
          refine block_leave ?_
          refine then_normal ?_
          exact ⟨k, _, x, hk, hlt, hx, by omega, hs, H35.keep ⟨rfl, rfl, rfl, rfl, trivial⟩, O2⟩
      · skip
        rw [List.drop_eq_nil_of_le (by omega)] at hs
        have hs7 : sizeD xs = .error 7 := by rw [hs]; cases (4 - k) <;> rfl
        refine H9.rg 2 fun a11 H11 => ?_
        refine H11.len gz rfl rfl rfl rfl Tryd.underlying31 ?_
        intro a12 H12
        refine H12.bb 0 rfl rfl rfl rfl rfl rfl (geq_i _ _ true (by simp; omega) _ _ _) rfl fun a13 H13 => nt ?_
        refine H13.condT rfl ?_
        refine rl ?_
        refine H13.any (w' := w2) gz rfl rfl (.agg (mqCells (mq0 0) nilV nilV nilV).toArray) (by intro cs b h; cases h) (by kernel_rfl) (by kernel_rfl) ?_
        intro a14 H14
        refine H14.st O2 0 2 (hi := size_mq) fun a17 w3 O3 H17 => nt ?_
        refine wp_ret ?_
        repeat (first | (with_reducible refine block_ret ?_) | (with_reducible refine then_ret ?_))
        refine bodyPost_ret (results_m2 Tryd.results34 _ (H17.at_ 2 _ rfl) (H17.at_ 3 _ rfl) (H17.at_ 4 _ rfl) (O3.get 0 rfl) Tryd.underlying30 rfl size_mq rfl) H17.df ?_
        exact ⟨mq0 0, 0, 7, nilV, nilV, nilV, parsed_err (hs7), rfl, ⟨rows_nil _ _ rfl rfl rfl, Nat.zero_le _, Nat.zero_le _, Nat.zero_le _⟩, small0 0, O3.bel⟩
  rintro a9 w2 ⟨k, n, x, hk, hlt, hx, hnb, hs, H9, O2⟩
  obtain ⟨gb, go, x', hA, hgb, hx', hcell⟩ := RB.get (hr.below O2.bel) (k := k + 1) hlt
  rw [hx] at hx'
  injection hx' with hx'
  subst hx'
  refine rl ?_
  refine wpList_cut 3 (fun a' w' => ∃ b, decide (2 < k + 2) = b ∧ Has a' 100 [(0, .slice A xs.length c), (2, .pointer (some ⟨w.heap.size, 0, none⟩)), (5, .int .i64 (n : Int)), (6, .int .i64 ((k + 2 : Nat) : Int)), (43, .bool b)] ∧ Own w w.heap.size [(w.heap.size, (mqCells (mq0 0) nilV nilV nilV))] w') ?_ ?_
  · skip
    refine H9.ms 1 fun a10 H10 => ?_
    refine H10.bb 1 rfl rfl rfl rfl rfl rfl (gtr_i _ _ (decide (2 < k + 2)) (by simp; omega) _ _ _) rfl fun a12 H12 => ?_
    exact nt ⟨_, by rfl, H12.keep ⟨rfl, rfl, rfl, rfl, rfl, trivial⟩, O2⟩
  rintro a10 w3 ⟨v43, q43, H10, O3⟩
  refine wpList_cut 7 (fun a' w' => ∃ b, (decide (2 < k + 2) && decide (x.toNat = 0)) = b ∧ Has a' 100 [(0, .slice A xs.length c), (2, .pointer (some ⟨w.heap.size, 0, none⟩)), (5, .int .i64 (n : Int)), (6, .int .i64 ((k + 2 : Nat) : Int)), (50, .bool b)] ∧ Own w w.heap.size [(w.heap.size, (mqCells (mq0 0) nilV nilV nilV))] w') ?_ ?_
  · skip
    cases v43 with
    | false =>
      refine H10.offs 6 rfl ?_
      intro a11 H11
      refine H11.pick gz rfl rfl rfl rfl rfl ?_
      intro a12 H12
      exact nt ⟨_, by rw [q43] <;> rfl, H12.keep ⟨rfl, rfl, rfl, rfl, rfl, trivial⟩, O3⟩
    | true =>
      refine H10.move (H10.wt rfl rfl rfl) (.inl rfl) rfl rfl rfl ?_
      intro a11 H11
      refine H11.move (H11.wt rfl rfl rfl) (.inl rfl) rfl rfl rfl ?_
      intro a12 H12
      refine H12.bin (H12.wt rfl rfl rfl) rfl rfl rfl rfl rfl (pred_i (k + 1) _ _ _) ?_
      intro a13 H13
      refine H13.index (H13.wt rfl rfl rfl) rfl rfl rfl rfl rfl (show (Instr.indexAt 31 (.slice A xs.length c) (.int .i64 (IntKind.i64.wrap ((k + 1 : Nat) : Int)))).run Tryd.prog _ = .ok (.pointer (some ⟨gb, go + (k + 1), none⟩)) _ by rw [IntWalk.i64_in _ (by omega), hA]; exact index_1 31 Tryd.underlying31 (fun _ => by kernel_rfl) _ _ _ _ _ hlt _) ?_
      intro a14 H14
      refine H14.load (H14.wt rfl rfl rfl) rfl rfl rfl rfl (load1_u _ _ _ _ ((cellB O3.bel hgb).trans ((cellB O2.bel hgb).symm.trans hcell))) ?_
      intro a15 H15
      refine H15.bin (H15.wt rfl rfl rfl) rfl rfl rfl rfl rfl (eql_u _ _ (decide (x.toNat = 0)) (beqN0 _) _ _ _) ?_
      intro a16 H16
      refine H16.pick gz rfl rfl rfl rfl rfl ?_
      intro a17 H17
      exact nt ⟨_, by rw [q43] <;> rfl, H17.keep ⟨rfl, rfl, rfl, rfl, rfl, trivial⟩, O3⟩
  rintro a11 w4 ⟨v50, q50, H11, O4⟩
  refine nt ?_
  cases v50 with
  | true =>
    simp only [Bool.and_eq_true, decide_eq_true_eq] at q50
    rw [if_pos ⟨q50.2, by omega⟩] at hs
    refine H11.condT rfl ?_
    refine rl ?_
    refine H11.any (w' := w4) gz rfl rfl (.agg (mqCells (mq0 0) nilV nilV nilV).toArray) (by intro cs b h; cases h) (by kernel_rfl) (by kernel_rfl) ?_
    intro a12 H12
    refine H12.st O4 0 2 (hi := size_mq) fun a15 w5 O5 H15 => nt ?_
    refine wp_ret ?_
    repeat (first | (with_reducible refine block_ret ?_) | (with_reducible refine then_ret ?_))
    refine bodyPost_ret (results_m2 Tryd.results34 _ (H15.at_ 2 _ rfl) (H15.at_ 3 _ rfl) (H15.at_ 4 _ rfl) (O5.get 0 rfl) Tryd.underlying30 rfl size_mq rfl) H15.df ?_
    exact ⟨mq0 0, 0, 1, nilV, nilV, nilV, parsed_err (hs), rfl, ⟨rows_nil _ _ rfl rfl rfl, Nat.zero_le _, Nat.zero_le _, Nat.zero_le _⟩, small0 0, O5.bel⟩
  | false =>
    simp only [Bool.and_eq_false_imp, decide_eq_true_eq, decide_eq_false_iff_not] at q50
    rw [if_neg (fun h => q50 (by omega) h.1)] at hs
    refine H11.condF rfl ?_
    refine skip_wp ?_
    refine then_normal ?_
    by_cases hbig : 1024 < n + (k + 1 + 1)
    · skip
      rw [if_pos hbig] at hs
      refine H11.rg 2 fun a13 H13 => ?_
      refine H13.bb 0 rfl rfl rfl rfl rfl rfl (add_i _ _ (by omega) _ _ _) rfl fun a14 H14 => ?_
      refine H14.bb 0 rfl rfl rfl rfl rfl rfl (gtr_i _ _ true (by simp; omega) _ _ _) rfl fun a15 H15 => nt ?_
      refine H15.condT rfl ?_
      refine rl ?_
      refine H15.any (w' := w4) gz rfl rfl (.agg (mqCells (mq0 0) nilV nilV nilV).toArray) (by intro cs b h; cases h) (by kernel_rfl) (by kernel_rfl) ?_
      intro a16 H16
      refine H16.st O4 0 2 (hi := size_mq) fun a19 w5 O5 H19 => nt ?_
      refine wp_ret ?_
      repeat (first | (with_reducible refine block_ret ?_) | (with_reducible refine then_ret ?_))
      refine bodyPost_ret (results_m2 Tryd.results34 _ (H19.at_ 2 _ rfl) (H19.at_ 3 _ rfl) (H19.at_ 4 _ rfl) (O5.get 0 rfl) Tryd.underlying30 rfl size_mq rfl) H19.df ?_
      exact ⟨mq0 0, 0, 2, nilV, nilV, nilV, parsed_err (hs), rfl, ⟨rows_nil _ _ rfl rfl rfl, Nat.zero_le _, Nat.zero_le _, Nat.zero_le _⟩, small0 0, O5.bel⟩
    rw [if_neg hbig] at hs
    refine H11.rg 2 fun a13 H13 => ?_
    refine H13.bb 0 rfl rfl rfl rfl rfl rfl (add_i _ _ (by omega) _ _ _) rfl fun a14 H14 => ?_
    refine H14.bb 0 rfl rfl rfl rfl rfl rfl (gtr_i _ _ false (by simp; omega) _ _ _) rfl fun a15 H15 => nt ?_
    refine H15.condF rfl ?_
    refine skip_wp ?_
    refine then_normal ?_
    by_cases hcut : xs.length < n + (k + 2)
    · skip
      rw [if_pos (by rw [List.length_drop]; omega)] at hs
      refine H15.rg 1 fun a16 H16 => ?_
      refine H16.len gz rfl rfl rfl rfl Tryd.underlying31 ?_
      intro a17 H17
      refine H17.ms 2 fun a19 H19 => ?_
      refine H19.bb 0 rfl rfl rfl rfl rfl rfl (add_i _ _ (by omega) _ _ _) rfl fun a20 H20 => ?_
      refine H20.bb 0 rfl rfl rfl rfl rfl rfl (lss_i _ _ true (by simp; omega) _ _ _) rfl fun a21 H21 => nt ?_
      refine H21.condT rfl ?_
      refine rl ?_
      refine H21.any (w' := w4) gz rfl rfl (.agg (mqCells (mq0 0) nilV nilV nilV).toArray) (by intro cs b h; cases h) (by kernel_rfl) (by kernel_rfl) ?_
      intro a22 H22
      refine H22.st O4 0 2 (hi := size_mq) fun a25 w5 O5 H25 => nt ?_
      refine wp_ret ?_
      repeat (first | (with_reducible refine block_ret ?_) | (with_reducible refine then_ret ?_))
      refine bodyPost_ret (results_m2 Tryd.results34 _ (H25.at_ 2 _ rfl) (H25.at_ 3 _ rfl) (H25.at_ 4 _ rfl) (O5.get 0 rfl) Tryd.underlying30 rfl size_mq rfl) H25.df ?_
      exact ⟨mq0 0, 0, 7, nilV, nilV, nilV, parsed_err (hs), rfl, ⟨rows_nil _ _ rfl rfl rfl, Nat.zero_le _, Nat.zero_le _, Nat.zero_le _⟩, small0 0, O5.bel⟩
    rw [if_neg (by rw [List.length_drop]; omega)] at hs
    refine H15.rg 1 fun a16 H16 => ?_
    refine H16.len gz rfl rfl rfl rfl Tryd.underlying31 ?_
    intro a17 H17
    refine H17.ms 2 fun a19 H19 => ?_
    refine H19.bb 0 rfl rfl rfl rfl rfl rfl (add_i _ _ (by omega) _ _ _) rfl fun a20 H20 => ?_
    refine H20.bb 0 rfl rfl rfl rfl rfl rfl (lss_i _ _ false (by simp; omega) _ _ _) rfl fun a21 H21 => nt ?_
    refine H21.condF rfl ?_
    refine skip_wp ?_
    refine then_normal ?_
    obtain ⟨t, ht⟩ : ∃ t, k + 2 + n = t := ⟨_, rfl⟩
    obtain ⟨i, hi⟩ : ∃ i, k + 2 = i := ⟨_, rfl⟩
    rw [show n + (k + 1 + 1) = t by omega, show k + 1 + 1 = i by omega] at hs
    rw [hi] at H21
    have hti : i + n = t := by omega
    have hg := sizeD_ge hs
    obtain ⟨gb0, go0, y, hA0, hgb0, hy, hcell0⟩ := RB.get (hr.below O4.bel) (k := 0) (by omega)
    rw [Nat.add_zero] at hcell0
    have hy0 : xs.headD 0 = y := head_of hy
    obtain ⟨r, hrd⟩ : ∃ r, r = readR ((y.toNat / 16 : Nat) : Int) y ((xs.take t).drop i, false) := ⟨_, rfl⟩
    have hyl : ((xs.take t).drop i).length = t - i := by simp; omega
    have hsm : Small r.1 := by rw [hrd]; exact small_readR _ _ _ (by show ((xs.take t).drop i).length ≤ _; omega)
    have hln : Lens r.1 8 := by rw [hrd]; exact lens_readR _ _ _
    have hP := parsed_readR hs r (by rw [hy0]; exact hrd)
    have hrS : RB w4 w4.heap.size A xs := hr.next O4.bel
    have hTS := hT.below O4.bel
    have hC2 := O4.get 0 rfl
    have hl2 := O4.lt 0 rfl
    have hgbS : gb0 < w4.heap.size := Nat.lt_of_lt_of_le hgb0 O4.bel.size
    have H22 := H21.keep (l' := [(0, .slice A xs.length c), (2, .pointer (some ⟨w.heap.size, 0, none⟩)), (5, .int .i64 (n : Int)), (6, .int .i64 (i : Int))]) ⟨rfl, rfl, rfl, rfl, trivial⟩
    refine H22.sg (fun w' => (Own w w.heap.size [(w.heap.size, zC)] w' ∧ Below w4.heap.size w4 w')) ⟨O4.drew, Below.drew (Below.refl _ _)⟩ [0, 2, 5, 6] [ec 0 65 (.slice A xs.length c), ec 1 66 (.pointer (some ⟨gb0, go0, none⟩)), ec 2 67 (.int .u8 (y.toNat : Int)), ec 3 68 (.slice A xs.length c), ec 4 69 (.int .i64 (i : Int)), ec 5 70 (.int .i64 (i : Int)), ec 6 71 (.int .i64 (n : Int)), ec 7 72 (.int .i64 (t : Int)), ec 8 73 (.slice (if c = i then A else A.map (·.add i)) (t - i) (c - i)), er 13 7 [] (BoxQ w4.heap.size 30 zC)] rfl ?_
    have KK : ∀ wy, (Own w w.heap.size [(w.heap.size, zC)] wy ∧ Below w4.heap.size w4 wy) → _ := fun wy h => refReadC y ((xs.take t).drop i) (t - i) (c - i) (if c = i then A else A.map (·.add i)) hyl (by omega) r hrd wy (((hrS.next h.2).take t).cut (k := i) (cap := c) (by rw [List.length_take]; omega) (by rw [List.length_take]; omega))
    refine St.call 9 ⟨jm, jI rfl rfl rfl rfl rfl rfl fun w => by rw [hA0]; exact index_0 _ _ _ _ (by omega) w, jl fun _ h => load1_u _ _ _ _ ((cellB h.2 hgbS).trans hcell0), jm, jm, jm, jm, jB rfl rfl rfl rfl rfl rfl fun w => by rw [← hti]; exact add_i _ _ (by omega) _ _ w, js2 fun w => slice_lh A xs.length c i t hg.2.1 hg.2.2.1 hc w, ka zero_mq fun _ h => h.2.size, trivial⟩ KK ?_ (hF := .inr fun _ _ h hb => ⟨h.1.call hb, h.2.trans (hb.mono h.2.size)⟩) (hst := ⟨fun _ _ _ hb h => h.below hb, trivial⟩)
    rintro wx _ wz hh ⟨vc, vw, vf, rfl, hb, hrows⟩
    have hxw : w4.heap.size ≤ wx.heap.size := hh.2.size
    refine nx (fun w' => (Own w w.heap.size [(w.heap.size, zC)] w' ∧ Below w4.heap.size w4 w') ∧ Rows3 w' wx.heap.size r.1 vc vw vf) [ec 10 64 (.tuple #[.agg (mqCells r.1 vc vw vf).toArray, .bool (!r.2.2)]), ec 11 75 (.agg (mqCells r.1 vc vw vf).toArray), ec 12 76 (.bool (!r.2.2))] [] ⟨⟨hh.1.call hb, hh.2.trans (hb.mono hh.2.size)⟩, hrows⟩ ?_ (hk := StabAll.keeps hb ⟨fun _ _ _ hb h => h.below hb, trivial⟩)
    refine St.sto 14 ⟨jm, jx, jx, ka zero_mq fun _ h => h.1.2.size, trivial⟩ ?_ (hF := .inr fun _ _ h hb => ⟨⟨h.1.1.call hb, h.1.2.trans (hb.mono h.1.2.size)⟩, h.2.belowR hb⟩) (hst := ⟨fun _ _ _ hb h => h.below hb, trivial⟩)
    rintro a wu H ⟨⟨g, e7, hg1, hg2, hC, hTy⟩, _⟩ h
    have hM1 := MqL.of_rows h.2 hln (by decide)
    obtain ⟨w', hr', hgr, hs', hC'⟩ := hC.sto (L := mqCells r.1 vc vw vf) size_mq rfl rfl (mq_one _ (own_one h.2.1) (own_one h.2.2.1) (own_one h.2.2.2))
    have hg' : ∀ {k : Nat}, some g = some k → w4.heap.size ≤ k := fun h => by injection h with h; rw [← h]; exact hg1
    have hwl : w.heap.size < g := Nat.lt_of_lt_of_le hl2 hg1
    have hO' : Own w w.heap.size [(g, mqCells r.1 vc vw vf), (w.heap.size, zC)] w' := ⟨h.1.1.bel.grown hgr h.1.1.le fun k hk => Nat.le_trans O4.le (hg' hk), Nat.le_trans h.1.1.le hgr.size, by simp only [List.map_cons, List.map_nil, List.nodup_cons, List.mem_singleton, List.not_mem_nil, not_false_iff, List.nodup_nil, and_true]; omega, fun p hp => by
      rcases List.mem_cons.1 hp with rfl | hp
      · exact ⟨Nat.le_of_lt hwl, by show g < _; omega, hC'⟩
      · rw [List.mem_singleton.1 hp]
        exact ⟨Nat.le_refl _, by show w.heap.size < _; omega, (h.1.1.get 0 rfl).kept hgr (h.1.1.lt 0 rfl) (by intro e; injection e with e; omega)⟩⟩
    have hM' := MqL.of_rows (h.2.typ hTy hgr) hln (by decide)
    refine ⟨w', run_store rfl e7 (H.ev rfl) hr', nxp (fun w' => Own w w.heap.size [(g, mqCells r.1 vc vw vf), (w.heap.size, zC)] w' ∧ MqL w' w'.heap.size r.1 vc vw vf ∧ Below w4.heap.size w4 w' ∧ Rows3 w' wx.heap.size r.1 vc vw vf) [ec 13 7 (.pointer (some ⟨g, 0, none⟩))] [ec 15 8 (.bool (!r.2.2))] [13] ⟨hO', hM', h.1.2.grown hgr h.1.2.size (fun k hk => hg' hk), h.2.typ hTy hgr⟩ ⟨⟨rfl, rfl, _, rfl, e7⟩, trivial⟩ ?_⟩
    refine St.fin ⟨jm, jx, trivial⟩ ?_ (hF := .inl rfl)
    intro a23 w5 H23 _ hF
    refine then_normal ?_
    obtain ⟨b1, e1⟩ : ∃ b, r.2.2 = b := ⟨_, rfl⟩
    obtain ⟨b2, e2⟩ : ∃ b, mayBb r.1 = b := ⟨_, rfl⟩
    obtain ⟨b3, e3⟩ : ∃ b, decide (layB r.1 = xs.take t) = b := ⟨_, rfl⟩
    replace H23 := H23.keep (l' := [(0, (.slice A xs.length c)), (2, .pointer (some ⟨w.heap.size, 0, none⟩)), (5, .int .i64 (n : Int)), (6, .int .i64 (i : Int)), (7, .pointer (some ⟨g, 0, none⟩)), (8, .bool (!b1))]) ⟨rfl, rfl, rfl, rfl, rfl, congrArg (fun b => some (Value.bool !b)) e1, trivial⟩
    refine H23.dq (fun w' => Own w w.heap.size [(g, mqCells r.1 vc vw vf), (w.heap.size, zC)] w' ∧ MqL w' w'.heap.size r.1 vc vw vf ∧ Below w4.heap.size w4 w' ∧ Rows3 w' wx.heap.size r.1 vc vw vf) (fun _ _ h hb => ⟨h.1.call hb, h.2.1.next hb, h.2.2.1.trans (hb.mono h.2.2.1.size), h.2.2.2.belowR hb⟩) hF [0, 2, 5, 6, 7, 8] rfl [ec 0 77 (.bool (!b1)), ec 1 78 (.bool b1), ec 2 79 (.bool b1), ec 3 80 (gv (!b1) ((.agg (mqCells r.1 vc vw vf).toArray))), eh 4 81 (gv (!b1) (.bool b2)), ec 5 82 (gv (!b1) (.bool (!b2))), ec 6 83 (.bool (b1 || (!b2))), ec 7 84 (.bool (b1 || (!b2))), ec 8 85 (gv (!(b1 || (!b2))) ((.agg (mqCells r.1 vc vw vf).toArray))), er 9 86 [] (fun v w' => b1 = false → b2 = true → BytesAre (layB r.1) v w'), ec 10 87 (gv (!(b1 || (!b2))) ((.slice A xs.length c))), ec 11 88 (gv (!(b1 || (!b2))) (.int .i64 (i : Int))), ec 12 89 (gv (!(b1 || (!b2))) (.int .i64 (n : Int))), ec 13 90 (gv (!(b1 || (!b2))) (.int .i64 (t : Int))), ec 14 91 (gv (!(b1 || (!b2))) ((.slice A t c))), eh 15 92 (gv (!(b1 || (!b2))) (.bool b3)), ec 16 93 (gv (!(b1 || (!b2))) (.bool (!b3))), ec 17 94 (.bool ((b1 || (!b2)) || (!b3)))] rfl ⟨jm, ju (hq := fun w => by cases b1 <;> rfl), jm, (by cases b1; exact jl fun _ h => loadS_run (h.1.get 0 rfl); exact jo), (by cases b1; exact ju (hq := run_not b2); exact jo), (by (cases b1 <;> exact jp)), jm, (by cases b1; rotate_left; exact jo; cases b2; exact jo; exact jl fun _ h => loadS_run (h.1.get 0 rfl)), (by cases b1; rotate_left; exact jo; cases b2; exact jo; exact jm), (by cases b1; rotate_left; exact jo; cases b2; exact jo; exact jm), (by cases b1; rotate_left; exact jo; cases b2; exact jo; exact jm), (by cases b1; rotate_left; exact jo; cases b2; exact jo; exact jB rfl rfl rfl rfl rfl rfl fun w => by rw [← hti]; exact add_i _ _ (by omega) _ _ w), (by cases b1; rotate_left; exact jo; cases b2; exact jo; exact jh fun w => slice_h _ _ _ _ hg.2.2.1 hc w), (by cases b1; rotate_left; exact jo; cases b2; exact jo; exact ju (hq := run_not b3)), (by cases b1; rotate_left; exact jp; (cases b2 <;> exact jp)), trivial⟩ ⟨(by cases b1; exact kb fun w' h => e2 ▸ refMay r.1 _ _ _ w' h.2.1 hsm.fit (hTS.below h.2.2.1); exact ko), (by cases b1; rotate_left; exact kor fun _ h h2 => (by first | (cases h; done) | (cases h2; done)); cases b2; exact kor fun _ h h2 => (by first | (cases h; done) | (cases h2; done)); exact kr fun w' h => (refBytes r.1 _ _ _ w' (mayB_of' e2) h.2.1).mono fun _ _ ⟨v, h1, h2, h3⟩ => ⟨v, h1, fun _ _ => h2.read, h3⟩), (by cases b1; rotate_left; exact ko; cases b2; exact ko; exact kC rfl rfl rfl rfl fun a w' H hk h => ⟨[a.eval (.tmp 86), .slice A t c], congrArg (fun v => [a.eval (.tmp 86), v]) (H.ev (x := .tmp 91) rfl), belowC (eqBy2 (layB r.1) (xs.take t) (a.eval (.tmp 86)) _ b3 e3 w' (hk.1 rfl rfl) ⟨_, _, (by rw [List.length_take, Nat.min_eq_left hg.2.2.1]), (hrS.next h.2.2.1).take t⟩ (lay_maxLen (mayB_of' e2)))⟩), trivial⟩ ?_ (hst := ⟨fun _ _ _ hb h h1 h2 => (h h1 h2).below hb, trivial⟩)
    intro a24 w6 H24 _ ⟨O6, hM6, hb6, hR6⟩
    refine then_normal (H24.cond (t := (b1 || !b2) || !b3) rfl ?_)
    cases hb : (b1 || !b2) || !b3 with
    | true =>
      refine rl ?_
      refine H24.any (w' := w6) gz rfl rfl (.agg (mqCells (mq0 0) nilV nilV nilV).toArray) (by intro cs b h; cases h) (by kernel_rfl) (by kernel_rfl) fun a25 H25 => ?_
      refine H25.st O6 1 2 (hi := size_mq) fun a26 w7 O7 H26 => nt (wp_ret ?_)
      repeat (first | (with_reducible refine block_ret ?_) | (with_reducible refine then_ret ?_))
      refine bodyPost_ret (results_m2 Tryd.results34 _ (H26.at_ 2 _ rfl) (H26.at_ 3 _ rfl) (H26.at_ 4 _ rfl) (O7.get 1 rfl) Tryd.underlying30 rfl size_mq rfl) H26.df ?_
      exact ⟨mq0 0, 0, 1, nilV, nilV, nilV, hP.2 (fun h => by rw [← e1, ← e2, ← e3, h.1, (mayBb_iff _).2 h.2.1, decide_eq_true h.2.2] at hb; cases hb), rfl, ⟨rows_nil _ _ rfl rfl rfl, Nat.zero_le _, Nat.zero_le _, Nat.zero_le _⟩, small0 0, O7.bel⟩
    | false =>
      simp only [Bool.or_eq_false_iff, Bool.not_eq_false'] at hb
      refine skip_wp (then_normal ?_)
      refine rl ?_
      refine H24.lm O6 0 2 fun a25 H25 => ?_
      refine H25.bb 0 rfl rfl rfl rfl rfl rfl (add_i _ _ (by omega) _ _ _) rfl fun a26 H26 => ?_
      refine H26.storeS rfl rfl rfl rfl rfl (O6.get 1 rfl) size_mq rfl rfl (mq_one _ (own_one hR6.1) (own_one hR6.2.1) (own_one hR6.2.2)) fun a27 w7 H27 hgr hs7 hC7 => ?_
      refine H27.ms 2 fun a28 H28 => nt (wp_ret ?_)
      repeat (first | (with_reducible refine block_ret ?_) | (with_reducible refine then_ret ?_))
      refine bodyPost_ret (results_m2 Tryd.results34 _ (H28.at_ 2 _ rfl) (H28.at_ 3 _ rfl) (H28.at_ 4 _ rfl) hC7 Tryd.underlying30 rfl size_mq rfl) H28.df ?_
      exact ⟨r.1, i + n, 0, vc, vw, vf, (by rw [hti]; exact hP.1 ⟨e1.trans hb.1.1, (mayBb_iff _).1 (e2.trans hb.1.2), of_decide_eq_true (e3.trans hb.2)⟩), rfl, ⟨Rows3.base (hR6.keptR hgr (hR6.far (.inl (Nat.lt_of_lt_of_le hl2 hxw)))) (Nat.le_trans O4.le hxw), hln⟩, hsm, O6.bel.grown hgr O6.le (fun k hk => by injection hk with hk; rw [← hk]; exact Nat.le_refl _)⟩
end Go.Proofs.YtkcdkjpmbjcmdaaDoor

/-
  Words that the laws of chapter 18 share which read packets.
-/
namespace Go.Proofs.YtkcdkjpmbjcmdaaDoor
open Go.RowKit

/-- 'x := ..' of a packet: a new box, and what it is. -/
theorem Has.nw {ops : Array Oper} {rest rest' : List Oper} {o1 o2 : Oper} {a : Act} {w W : World} {B : Nat} {bs : List (Nat × List Value)} {Q : Exit → Act → World → Prop} {n : Nat} {l l' : List (Nat × Value)} (H : Has a n l) (O : Own W B bs w) (k : Nat) {d : Nat} {y : Operand} {L : List Value} (h1 : L.all (·.oneCell') = true)
    (h : ∀ a' w', Below w.heap.size w w' → Own W B ((w.heap.size, L) :: bs) w' → Has a' n l' → wpList Tryd.prog ops Q rest' a' w') (ho : o1.op = .alloc 30 := by rfl) (hd : o1.dst = some d := by rfl) (hn : Nat.blt d n = true := by rfl) (hg : o1.guard = none := by rfl)
    (ho2 : o2.op = .store 30 (.tmp d) y := by rfl) (hd2 : o2.dst = none := by rfl) (hg2 : o2.guard = none := by rfl) (hy : evL ((d, .pointer (some ⟨w.heap.size, 0, none⟩)) :: l) y = some (.agg L.toArray) := by rfl) (hl : L.length = 24 := by rfl)
    (hr : runM n k rest ((d, .pointer (some ⟨w.heap.size, 0, none⟩)) :: l) = some (rest', l') := by rfl) : wpList Tryd.prog ops Q (o1 :: o2 :: rest) a w := by
  refine H.alloc hg ho hd hn _ zero_mq ?_
  intro a1 w1 hb hs hC H1
  have O1 := O.alloc hb hs hC
  refine H1.storeS hg2 ho2 hd2 (by show (bif Nat.beq d d then _ else _) = _; rw [Nat.beq_refl, cond_true]) hy hC size_mq rfl hl h1 ?_
  intro a2 w2 H2 hgr hs2 hC2
  exact runM_ok k H2 hr fun a3 H3 => h a3 w2 (hb.grown hgr hb.size (fun k hk => by injection hk with hk; rw [← hk]; exact Nat.le_refl _)) (O1.store 0 rfl hgr hs2 hC2) H3
theorem parseC (xs : List UInt8) (A : Option Addr) (c : Nat) (hc : xs.length ≤ c) (w : World) (hr : RB w w.heap.size A xs) (hl : xs.length ≤ 140737488351232) (hT : Wd w) :
    Calls Tryd.prog 33 #[.slice A xs.length c] w fun e w' => ∃ v, e = .returned v ∧ ∃ m n er vc vw vf, v = .tuple #[.agg (mqCells m vc vw vf).toArray, .int .i64 ((n : Nat) : Int), .int .i64 er] ∧ Parsed xs m n er ∧ (Rows3 w' w.heap.size m vc vw vf ∧ Lens m 1000001) ∧ Small m ∧ Below w.heap.size w w' :=
  (packParse xs A c hc w hr hl hT).mono fun _ _ ⟨m, n, er, vc, vw, vf, h1, h2, h3⟩ => ⟨_, h2, m, n, er, vc, vw, vf, rfl, h1, h3⟩
theorem refParseC (xs : List UInt8) (A : Option Addr) (c : Nat) (hc : xs.length ≤ c) (w : World) (hr : RB w w.heap.size A xs) (hl : xs.length ≤ 140737488351232) (hT : Wd w) :
    Calls Tryd.prog 34 #[.slice A xs.length c] w fun e w' => ∃ v, e = .returned v ∧ ∃ m n er vc vw vf, v = .tuple #[.agg (mqCells m vc vw vf).toArray, .int .i64 ((n : Nat) : Int), .int .i64 er] ∧ Parsed xs m n er ∧ MqL w' w'.heap.size m vc vw vf ∧ Small m ∧ Below w.heap.size w w' :=
  (refParse xs A c hc w hr hl hT).mono fun _ _ ⟨m, n, er, vc, vw, vf, h1, h2, h3, h4⟩ => ⟨_, h2, m, n, er, vc, vw, vf, rfl, h1, MqL.of_rows h3.1 h3.2 (by decide), h4⟩
theorem copyC (xs : List UInt8) (A : Option Addr) (c : Nat) (w : World) (hx : RB w w.heap.size A xs) (hn : xs.length ≤ 140737488351232) :
    Calls Tryd.prog 32 #[.slice A xs.length c] w fun e w' => ∃ v, e = .returned v ∧ RowIs w.heap.size xs v w' ∧ Below w.heap.size w w' :=
  (copyBytes xs A c w hx hn).mono fun _ _ ⟨A', c', h1, h2, h3⟩ => ⟨_, h1, ⟨A', c', rfl, h2⟩, h3⟩
theorem cell24 {W w : World} {b o : Nat} {m : Mq} {vc vw vf v : Value} (hrg : W.rangeAt b o (mqCells m vc vw vf ++ [v])) (hb : Below W.heap.size W w) (hlt : b < W.heap.size) : w.cell? ⟨b, o + 24, none⟩ = some v := (cellB hb hlt).trans (hrg 24 v rfl)
theorem Own.bare {W w : World} {B : Nat} (hb : Below B W w) (hl : B ≤ w.heap.size) : Own W B [] w := ⟨hb, hl, by simp, fun p hp => by cases hp⟩
theorem MqL.ones {w : World} {B : Nat} {m : Mq} {vc vw vf : Value} (h : MqL w B m vc vw vf) : (mqCells m vc vw vf).all (·.oneCell') = true := by
  obtain ⟨A1, c1, A2, c2, A3, c3, rfl, rfl, rfl, _⟩ := h
  exact mq_one _ rfl rfl rfl
end Go.Proofs.YtkcdkjpmbjcmdaaDoor

/-
  Words for the laws of the kinds.
-/
namespace Go.Proofs.YtkcdkjpmbjcmdaaDoor
open Go.RowKit

/-- 'x := ..' of a struct: a new box, what it is, of what kind. -/
theorem Has.nk {ops : Array Oper} {rest rest' : List Oper} {o1 o2 : Oper} {a : Act} {w W : World} {B : Nat} {bs : List (Nat × List Value)} {Q : Exit → Act → World → Prop} {n : Nat} {l l' : List (Nat × Value)} (H : Has a n l) (O : Own W B bs w) (k : Nat) {d T m : Nat} {y : Operand} {L L0 : List Value} (h1 : L.all (·.oneCell') = true)
    (hz : ∀ w, (zeroValue T).run Tryd.prog w = .ok (.agg L0.toArray) w) (hm : (Tryd.prog.info? T).map (·.size) = some m) (h : ∀ a' w', Below w.heap.size w w' → Own W B ((w.heap.size, L) :: bs) w' → TypB w' w.heap.size T → Has a' n l' → wpList Tryd.prog ops Q rest' a' w') (ho : o1.op = .alloc T := by rfl) (hd : o1.dst = some d := by rfl) (hn : Nat.blt d n = true := by rfl)
    (hg : o1.guard = none := by rfl) (ho2 : o2.op = .store T (.tmp d) y := by rfl) (hd2 : o2.dst = none := by rfl) (hg2 : o2.guard = none := by rfl) (hy : evL ((d, .pointer (some ⟨w.heap.size, 0, none⟩)) :: l) y = some (.agg L.toArray) := by rfl) (hl : L.length = m := by rfl) (hl0 : L0.length = m := by rfl)
    (hr : runM n k rest ((d, .pointer (some ⟨w.heap.size, 0, none⟩)) :: l) = some (rest', l') := by rfl) : wpList Tryd.prog ops Q (o1 :: o2 :: rest) a w := by
  have hb := balloc w (.cells L0.toArray T)
  have hC : Cells (w.alloc (.cells L0.toArray T)) w.heap.size L0 := Cells.of_heap (heap_alloc_new w _)
  have O1 := O.alloc hb (by simp) hC
  have hT1 : TypB (w.alloc (.cells L0.toArray T)) w.heap.size T := ⟨_, _, heap_alloc_new w _⟩
  refine H.go (w' := w.alloc (.cells L0.toArray T)) (gz hg) hd hn (.pointer (some ⟨w.heap.size, 0, none⟩)) ?_ fun a1 H1 => ?_
  · unfold execOp
    simp only [ho]
    simp [Instr.alloc, hz, Sem.run_bind, Result.andThen, newVar, newRow, Value.cells, newObj]
    rfl
  have ht : (w.alloc (.cells L0.toArray T)).there w.heap.size 0 L.toArray.size := by
    have := hC.there
    rw [hl0, ← hl] at this
    simpa using this
  have hr2 := run_storeAt_mid (P := Tryd.prog) (w.alloc (.cells L0.toArray T)) w.heap.size 0 T L.toArray ht (by rw [hm, ← hl]; simp) (all_oneCell_toArray fun v hv => List.all_eq_true.1 h1 v hv)
  have hgr := (setCells_only w.heap.size L 0 (w.alloc (.cells L0.toArray T))).2
  refine H1.run0 (gz hg2) hd2 (run_store ho2 (H1.ev (by show (bif Nat.beq d d then _ else _) = _; rw [Nat.beq_refl, cond_true])) (H1.ev hy) hr2) fun a2 H2 => runM_ok k H2 hr fun a3 H3 => h a3 _ (hb.grown hgr hb.size (fun k hk => by injection hk with hk; rw [← hk]; exact Nat.le_refl _)) (O1.store 0 rfl hgr (setCells_only w.heap.size L 0 _).1.size ?_) (hT1.sets _ L 0) H3
  intro j v hv
  have hj := (List.getElem?_eq_some_iff.1 hv).1
  have a := World.rangeAt_setCells_same _ w.heap.size 0 L (by simpa using ht) j v hv
  have b := (World.there_setCells (by simpa using ht) w.heap.size 0 L j hj).2
  rw [Nat.zero_add] at a b
  exact ⟨a, b⟩
theorem zero_ask (w : World) : (zeroValue 33).run Tryd.prog w = .ok (.agg (mqCells (mq0 0) nilV nilV nilV ++ [nilV]).toArray) w := by kernel_rfl
theorem add_w (u v : Int) (x y : Operand) (w : World) : (do eqGuard .add 3 x y (.int .i64 u) (.int .i64 v); binOp .add 3 (.int .i64 u) (.int .i64 v) : Sem Value).run Tryd.prog w = .ok (.int .i64 (IntKind.i64.wrap (u + v))) w := by
  simp [go_sem]
theorem add_s (u v : ByteArray) (h : u.size + v.size ≤ 2000000) (x y : Operand) (w : World) : (do eqGuard .add 9 x y (.string u) (.string v); binOp .add 9 (.string u) (.string v) : Sem Value).run Tryd.prog w = .ok (.string (u ++ v)) w := by
  simp [go_sem]
  omega
theorem neq_b (u v : Bool) (x y : Operand) (w : World) : (do eqGuard .neq 4 x y (.bool u) (.bool v); binOp .neq 4 (.bool u) (.bool v) : Sem Value).run Tryd.prog w = .ok (.bool (u != v)) w := by
  cases u <;> cases v <;> kernel_rfl
theorem u8_xor_nat (a b : Nat) (ha : a < 256) (hb : b < 256) : bits .xor .u8 (a : Int) (b : Int) = ((a ^^^ b : Nat) : Int) := by
  have hx : a ^^^ b < 2 ^ 8 := Nat.xor_lt_two_pow (by omega) (by omega)
  show IntKind.u8.wrap ((BitVec.ofInt 8 (a : Int) ^^^ BitVec.ofInt 8 (b : Int)).toNat : Int) = _
  rw [BitVec.toNat_xor, ofInt_u8r a ha, ofInt_u8r b hb]
  have h0 : a ^^^ b < 256 := hx
  show ((a ^^^ b : Nat) : Int) % 256 = _
  omega
theorem xor_uI (u v : Int) (x y : Operand) (w : World) : (do eqGuard .xor 5 x y (.int .u8 u) (.int .u8 v); binOp .xor 5 (.int .u8 u) (.int .u8 v) : Sem Value).run Tryd.prog w = .ok (.int .u8 (bits .xor .u8 u v)) w := by kernel_rfl
theorem xor_u (a b : UInt8) (x y : Operand) (w : World) : (do eqGuard .xor 5 x y (bv a) (bv b); binOp .xor 5 (bv a) (bv b) : Sem Value).run Tryd.prog w = .ok (bv (a ^^^ b)) w := by
  have h : bits .xor .u8 (a.toNat : Int) (b.toNat : Int) = ((a ^^^ b).toNat : Int) := by rw [u8_xor_nat _ _ a.toNat_lt b.toNat_lt, UInt8.toNat_xor]
  unfold bv
  rw [← h]
  exact xor_uI _ _ _ _ _
theorem store1_5 (g o : Nat) (v : UInt8) (u : Value) (w : World) (h : w.cell? ⟨g, o, none⟩ = some u) (hf : w.frozen? ⟨g, o, none⟩ = false) : (Instr.storeAt 5 (.pointer (some ⟨g, o, none⟩)) (bv v)).run Tryd.prog w = .ok () (w.setCell ⟨g, o, none⟩ (bv v)) := by
  simp [go_sem, h, hf]
theorem refBytesC (m : Mq) (vc vw vf : Value) (w : World) (hm : mayB m) (hL : MqL w w.heap.size m vc vw vf) :
    Calls Tryd.prog 29 #[.agg (mqCells m vc vw vf).toArray] w fun e w' => ∃ v, e = .returned v ∧ BytesAre (layB m) v w' ∧ Below w.heap.size w w' := by
  refine (refBytes m vc vw vf w hm hL).mono ?_
  rintro e w' ⟨v, rfl, hR, hb⟩
  exact ⟨v, rfl, hR.read, hb⟩
theorem Has.app {ops : Array Oper} {rest : List Oper} {o : Oper} {a : Act} {w : World} {Q : Exit → Act → World → Prop} {n : Nat} {l : List (Nat × Value)} (H : Has a n l) {s x : Operand} {t e : TypeId} {d base size bytes k m c : Nat} {z u : Value} {A : Option Addr} {xs ys : List Value} (hown : w.ownsRow base e size u k xs) (hi : (Tryd.prog.info? e).map (fun i => (i.zero, i.size, i.bytes)) = some (some z, size, bytes))
    (hr : Reads w w.heap.size size A m ys) (h1 : ∀ u ∈ ys, u.oneCell' = true) (hn : k + m ≤ maxLen) (hb : (k + m) * bytes ≤ 140737488355328) (hbase : base ≤ w.heap.size) (h : ∀ a' A' c' w', w'.ownsRow base e size (.slice A' (k + m) c') (k + m) (xs ++ ys) → w.grownBy w' u.ownBlock → Has a' n ((d, .slice A' (k + m) c') :: l) → wpList Tryd.prog ops Q rest a' w')
    (ho : o.op = .call { callee := .builtin .append, args := #[s, x], argTypes := #[t, t] } := by rfl) (hd : o.dst = some d := by rfl) (hnn : Nat.blt d n = true := by rfl) (hg : o.guard = none := by rfl) (ht : Tryd.prog.underlying t = some (.slice e) := by kernel_rfl) (hzs : z.cells.size = size := by rfl) (hsz : 0 < size := by decide)
    (hs : evL l s = some u := by rfl) (hx : evL l x = some (.slice A m c) := by rfl) : wpList Tryd.prog ops Q (o :: rest) a w := by
  obtain ⟨A', c', w', hrun, hO, hgr⟩ := run_app (a := a) ho ht hi hzs hsz (H.ev hs) hown (H.ev hx) hr h1 hn hb hbase
  exact H.go (gz hg) hd hnn _ hrun fun a' H' => h a' A' c' w' hO hgr H'
/-- a row grows, or is put elsewhere: the boxes stay. -/
theorem Own.row {W w w' : World} {B : Nat} {bs : List (Nat × List Value)} {b e s n : Nat} {v : Value} {xs : List Value} (O : Own W B bs w) (hO : w.ownsRow b e s v n xs) (hB : B ≤ b) (hg : w.grownBy w' v.ownBlock) (hall : ∀ p ∈ bs, some p.1 ≠ v.ownBlock) : Own W B bs w' :=
  ⟨O.bel.grown hg O.le fun k hk => Nat.le_trans hB (hO.lt k hk).1, Nat.le_trans O.le hg.size, O.nd, fun p hp => ⟨(O.mem p hp).1, Nat.lt_of_lt_of_le (O.mem p hp).2.1 hg.size, (O.mem p hp).2.2.kept hg (O.mem p hp).2.1 (hall p hp)⟩⟩
/-- rows behind a store into a box of another kind. -/
theorem Own3.set {w : World} {b g : Nat} {m : Mq} {vc vw vf : Value} (h : Own3 w b m vc vw vf) (hT : TypB w g 30) (j : Nat) (v : Value) : Own3 (w.setCell ⟨g, j, none⟩ v) b m vc vw vf :=
  have k := grown_setCell w g j v
  ⟨h.1.kept k (.inr (Ne.symm (hT.far h.1 rfl))), h.2.1.kept k (.inr (Ne.symm (hT.far h.2.1 rfl))), h.2.2.kept k (.inr (Ne.symm (hT.far h.2.2 rfl)))⟩
/-- what one of the kinds' turns leaves. -/
structure Turned (W : World) (g base : Nat) (m : Mq) (vc vw vf : Value) (w : World) : Prop where
  own : Own W W.heap.size [(g, mqCells m vc vw vf)] w
  typ : TypB w g 30
  rows : Own3 w base m vc vw vf
  short : Short m 1000001
  fit : MqFit m
  hb : W.heap.size ≤ base
  hbw : base ≤ w.heap.size
theorem Turned.call {W w w' : World} {g base : Nat} {m : Mq} {vc vw vf : Value} (h : Turned W g base m vc vw vf w) (hb : Below w.heap.size w w') : Turned W g base m vc vw vf w' :=
  ⟨h.own.call hb, h.typ.below hb, ⟨own_below h.rows.1 hb, own_below h.rows.2.1 hb, own_below h.rows.2.2 hb⟩, h.short, h.fit, h.hb, Nat.le_trans h.hbw hb.size⟩
theorem Turned.lists {W w : World} {g base : Nat} {m : Mq} {vc vw vf : Value} (h : Turned W g base m vc vw vf w) : MqL w w.heap.size m vc vw vf := h.rows.lists h.short (by decide)
/-- a cell that is no list's. -/
theorem Turned.cell {W w : World} {g base : Nat} {m m' : Mq} {vc vw vf : Value} (h : Turned W g base m vc vw vf w) (j : Nat) (v : Value) (hj : Nat.blt j 24 = true) (he : (mqCells m vc vw vf).set j v = mqCells m' vc vw vf) (h1 : m'.codes = m.codes) (h2 : m'.wishes = m.wishes) (h3 : m'.filters = m.filters) (hf : MqFit m') : Turned W g base m' vc vw vf (w.setCell ⟨g, j, none⟩ v) := by
  have hr := h.rows.set h.typ j v
  have hj' : j < 24 := by simpa [Nat.blt_eq] using hj
  refine ⟨?_, h.typ.set _ v, ?_, ?_, hf, h.hb, by rw [size_setCell']; exact h.hbw⟩
  · rw [← he]
    exact h.own.store 0 rfl (grown_setCell w g j v) (size_setCell' _ _ _) ((h.own.get 0 rfl).set j v hj')
  · unfold Own3
    rw [h1, h2, h3]
    exact hr
  · unfold Short
    rw [h1, h2, h3]
    exact h.short
end Go.Proofs.YtkcdkjpmbjcmdaaDoor

/-
  Words for the law that packets are read back.
-/
namespace Go.Proofs.YtkcdkjpmbjcmdaaDoor
open Go.RowKit

theorem parseCn (xs : List UInt8) (n : Nat) (hn : xs.length = n) (A : Option Addr) (c : Nat) (hc : n ≤ c) (w : World) (hr : RB w w.heap.size A xs) (hl : n ≤ 140737488351232) (hT : Wd w) :
    Calls Tryd.prog 33 #[.slice A n c] w fun e w' => ∃ v, e = .returned v ∧ ∃ m n er vc vw vf, v = .tuple #[.agg (mqCells m vc vw vf).toArray, .int .i64 ((n : Nat) : Int), .int .i64 er] ∧ Parsed xs m n er ∧ (Rows3 w' w.heap.size m vc vw vf ∧ Lens m 1000001) ∧ Small m ∧ Below w.heap.size w w' := by
  subst hn
  exact parseC xs A c hc w hr hl hT
theorem bytesL (m : Mq) (vc vw vf : Value) (w : World) (bm : Bool) (hb : mayBb m = bm) (hL : MqL w w.heap.size m vc vw vf) (hF : MqFit m) (hW : Wd w) :
    Calls Tryd.prog 24 #[.agg (mqCells m vc vw vf).toArray] w fun e w' => ∃ v, e = .returned v ∧ (∃ vr, v = .tuple #[vr, .int .i64 (if bm then 0 else 1)] ∧ (bm = true → RowIs w.heap.size (layB m) vr w') ∧ Below w.heap.size w w') := by
  cases bm with
  | true => exact (bytesYes m vc vw vf w (mayB_of hb) hL hF hW).mono fun _ _ ⟨v, h1, vr, h2, h3, h4⟩ => ⟨v, h1, vr, h2, fun _ => h3, h4⟩
  | false => exact (bytesNo m vc vw vf w (mayB_not hb) hL hF hW).mono fun _ _ ⟨v, h1, h2, h4⟩ => ⟨v, h1, _, h2, (fun h => by cases h), h4⟩
theorem parsed_yes {b : List UInt8} {m : Mq} {n : Nat} (h : Parsed b m n 0) : mayB m ∧ layB m = b.take n ∧ n ≤ b.length := by
  unfold Parsed at h
  cases hs : sizeD b with
  | error er =>
    rw [hs] at h
    have := sizeD_err hs
    rw [← h.1] at this
    cases this
  | ok p =>
    rw [hs] at h
    rcases h with ⟨h1, h2, h3, _⟩ | ⟨_, _, _, h4⟩
    · subst h3
      exact ⟨h1, h2, (sizeD_ge hs).2.2.1⟩
    · cases h4
theorem rb_of_own {w : World} {b n : Nat} {xs : List UInt8} {A : Option Addr} {c : Nat} (hn : xs.length = n) (h : w.ownsRow b 5 1 (.slice A n c) n (xs.map bv)) (_hb : b ≤ w.heap.size) : RB w w.heap.size A xs := by
  subst hn
  obtain ⟨_, _, e, hr⟩ := (RowIs.read (b := b) ⟨A, c, rfl, h⟩ : BytesAre xs (.slice A xs.length c) w)
  injection e with h1 _ _
  subst h1
  exact hr
theorem own_cap {w : World} {b e s n c : Nat} {A : Option Addr} {xs : List Value} (h : w.ownsRow b e s (.slice A n c) n xs) : n ≤ c := by
  obtain ⟨_, _, hve, hcr, _⟩ := own_shape h
  injection hve with _ _ hce
  rw [hce]
  exact hcr
theorem quo40 (n : Nat) (h : n < 16384) (x y : Operand) (w : World) : (do eqGuard .quo 3 x y (.int .i64 (n : Int)) (.int .i64 40); binOp .quo 3 (.int .i64 (n : Int)) (.int .i64 40) : Sem Value).run Tryd.prog w = .ok (.int .i64 ((n / 40 : Nat) : Int)) w := by
  simp [go_sem]
  exact IntWalk.i64_in _ (by omega)
theorem add_nn (a b : Nat) (h : a + b < 1000000) (x y : Operand) (w : World) : (do eqGuard .add 3 x y (.int .i64 (a : Int)) (.int .i64 (b : Int)); binOp .add 3 (.int .i64 (a : Int)) (.int .i64 (b : Int)) : Sem Value).run Tryd.prog w = .ok (.int .i64 ((a + b : Nat) : Int)) w := by
  have : IntKind.i64.wrap ((a : Int) + (b : Int)) = ((a + b : Nat) : Int) := by rw [← Int.natCast_add]; exact IntWalk.i64_in _ (by omega)
  simp [go_sem]
  exact this
end Go.Proofs.YtkcdkjpmbjcmdaaDoor

/-
  slices.Grow of nothing; slices.Concat of two rows of bytes.
-/
namespace Go.Proofs.YtkcdkjpmbjcmdaaDoor
open Go.RowKit

theorem zeroCells_u8 (k : Nat) : (Builtin.zeroCells #[Value.int .u8 0] k).size = k := by
  simp [Builtin.zeroCells]
set_option maxHeartbeats 800000 in
theorem growW (n : Nat) (w : World) (hn : n ≤ 100000) :
    Calls Tryd.prog 87 #[.slice none 0 0, .int .i64 (n : Int)] w fun e w' => ∃ A c, e = .returned (.slice A 0 c) ∧ w'.ownsRow w.heap.size 5 1 (.slice A 0 c) 0 [] ∧ Below w.heap.size w w' := by
  rcases Nat.eq_zero_or_pos n with rfl | hp
  · go_enter Tryd.func87, Tryd.ntmps87
    go_wp2
    go_ret
    exact ⟨none, 0, rfl, World.ownsRow_nil _ _ _ _, Below.refl _ _⟩
  · have h1 : ¬ ((n : Int) < 0) := by omega
    have h4 : (n : Int) > 0 := by omega
    obtain ⟨i, hi0, hz0, hz1, hz2⟩ := info_parts (P := Tryd.prog) info_u8
    have hold : (Builtin.firstCells i.size 0 (.slice none 0 0)).run Tryd.prog w.drew = .ok ([] : List Value).toArray w.drew := run_firstCells_none w.drew i.size 0 0 0
    have hrz : ∀ ty, (Builtin.append_ #[31, 3] ty #[.slice none 0 0, .int .i64 (n : Int)]).run Tryd.prog w =
        .ok (.slice (some ⟨w.heap.size, 0, none⟩) (0 + n) (grownCap w (0 + n) 0 5)) (w.drew.alloc (.cells (([] : List Value).toArray ++ Builtin.zeroCells #[.int .u8 0] n ++ Builtin.zeroCells #[.int .u8 0] (grownCap w (0 + n) 0 5 - (0 + n))) 5)) := fun ty =>
      Lib.run_append_grow_zeros w 31 3 ty 5 i (.int .u8 0) .i64 .i64 Tryd.underlying31 Tryd.underlying3 hi0 hz0 none 0 0 [] hold n hp (by omega) (by omega) (by omega) (by rw [hz2]; omega) (growslice_fits (by omega) (by rw [hz2]; omega))
    obtain ⟨G, hG⟩ : ∃ G, G = grownCap w (0 + n) 0 5 := ⟨_, rfl⟩
    have hGn : 0 + n ≤ G := hG ▸ grownCap_ge w _ _ _
    have hGm : G ≤ maxLen := hG ▸ grownCap_le_maxLen w _ _ _ (by unfold maxLen; omega)
    rw [← hG] at hrz
    have hsz : (([] : List Value).toArray ++ Builtin.zeroCells #[.int .u8 0] n ++ Builtin.zeroCells #[.int .u8 0] (G - (0 + n))).size = G * 1 := by
      rw [Array.size_append, Array.size_append, zeroCells_u8, zeroCells_u8]
      simp
      omega
    obtain ⟨C, hC⟩ : ∃ C, C = ([] : List Value).toArray ++ Builtin.zeroCells #[.int .u8 0] n ++ Builtin.zeroCells #[.int .u8 0] (G - (0 + n)) := ⟨_, rfl⟩
    rw [← hC] at hrz hsz
    have hO : (w.drew.alloc (.cells C 5)).ownsRow w.heap.size 5 1 (.slice (some ⟨w.heap.size, 0, none⟩) 0 G) 0 [] := World.ownsRow_made w.drew C G (Nat.le_refl _) hGm hsz
    have hB : Below w.heap.size w (w.drew.alloc (.cells C 5)) := (Below.drew (Below.refl _ _)).alloc (Nat.le_refl _) _
    have hG63 : G ≤ 9223372036854775807 := by unfold maxLen at hGm; omega
    have HO := Lib.hid hO
    have HB := Lib.hid hB
    clear hold hG hsz hC hO hB
    go_enter Tryd.func87, Tryd.ntmps87
    go_wp2_with (at_builtin; refine Lib.wpList_append_run _ rfl _ _ _ _ rfl _ _ rfl rfl _ _ (hrz _) ?_)
    all_goals (go_ret; exact ⟨_, _, rfl, HO.out, HB.out⟩)
set_option maxHeartbeats 1600000 in
theorem concatW (r x : List UInt8) (Ar Ax : Option Addr) (cr cx g : Nat) (w : World) (hr : RB w w.heap.size Ar r) (hx : RB w w.heap.size Ax x) (hg : g < w.heap.size) (hc0 : w.cell? ⟨g, 0, none⟩ = some (.slice Ar r.length cr)) (hc1 : w.cell? ⟨g, 1, none⟩ = some (.slice Ax x.length cx)) (hlr : r.length ≤ 40000) (hlx : x.length ≤ 40000) :
    Calls Tryd.prog 68 #[.slice (some ⟨g, 0, none⟩) 2 2] w fun e w' => ∃ A c, e = .returned (.slice A (r.length + x.length) c) ∧ w'.ownsRow w.heap.size 5 1 (.slice A (r.length + x.length) c) (r.length + x.length) ((r ++ x).map bv) ∧ Below w.heap.size w w' := by
  obtain ⟨lr, elr⟩ : ∃ k, k = r.length := ⟨_, rfl⟩
  obtain ⟨lx, elx⟩ : ∃ k, k = x.length := ⟨_, rfl⟩
  obtain ⟨ls, els⟩ : ∃ k, k = lr + lx := ⟨_, rfl⟩
  rw [← elr] at hc0 hlr ⊢
  rw [← elx] at hc1 hlx ⊢
  rw [← els]
  have hs1 : IntKind.i64.wrap (0 + (lr : Int)) = (lr : Int) := by rw [IntKind.wrap_i64]; omega
  have hs2 : IntKind.i64.wrap ((lr : Int) + (lx : Int)) = (ls : Int) := by rw [IntKind.wrap_i64]; omega
  have hn1 : ¬ ((lr : Int) < 0) := by omega
  have hn2 : ¬ ((ls : Int) < 0) := by omega
  have hls : ls ≤ 100000 := by omega
  have el1 := Lib.hid (elr.symm : r.length = lr)
  have el2 := Lib.hid (elx.symm : x.length = lx)
  have el3 := Lib.hid els
  have HC := Lib.hid (And.intro hc0 hc1)
  have HR := Lib.hid (And.intro hr hx)
  clear elr elx els hr hx
  go_enter Tryd.func68, Tryd.ntmps68
  go_wp2
  go_loopw [3, 5, 11] (fun s _ i wr => wr = w ∧ ((i = .int .i64 0 ∧ s = .int .i64 0) ∨ (i = .int .i64 1 ∧ s = .int .i64 (lr : Int)) ∨ (i = .int .i64 2 ∧ s = .int .i64 (ls : Int))))
    (fun _ _ i _ => 2 - (intOf i).toNat)
  case atStart => exact ⟨rfl, .inl ⟨rfl, rfl⟩⟩
  case round =>
    obtain ⟨rfl, hrel⟩ := hrel
    rcases hrel with ⟨rfl, rfl⟩ | ⟨rfl, rfl⟩ | ⟨rfl, rfl⟩
    · go_wp2
      go_roundw
      case rel => exact ⟨trivial, .inr (.inl ⟨by go_num, by go_num⟩)⟩
      case measure => simp [intOf]
    · go_wp2
      go_roundw
      case rel => exact ⟨trivial, .inr (.inr ⟨by go_num, by go_num⟩)⟩
      case measure => simp [intOf]
    · obtain ⟨wq, rfl⟩ : ∃ wq : World, wq = wr := ⟨_, rfl⟩
      clear hc0 hc1 hs1 hs2 hn1 hn2
      go_wp2_with fail
      refine (growW ls wq hls).mono ?_
      rintro e w1 ⟨A1, c1, rfl, hO1, hB1⟩
      have HO1 := Lib.hid hO1
      have HB1 := Lib.hid hB1
      clear hO1 hB1
      go_wp2
      go_loopw [6, 8, 27] (fun s _ i wr => ∃ (A : Option Addr) (n c : Nat) (ys : List UInt8), s = .slice A n c ∧ wr.ownsRow wq.heap.size 5 1 (.slice A n c) n (ys.map bv) ∧ Below wq.heap.size wq wr ∧ ((i = .int .i64 0 ∧ n = 0 ∧ ys = []) ∨ (i = .int .i64 1 ∧ n = lr ∧ ys = r) ∨ (i = .int .i64 2 ∧ n = ls ∧ ys = r ++ x)))
        (fun _ _ i _ => 2 - (intOf i).toNat)
      case atStart => exact ⟨A1, 0, c1, [], rfl, HO1.out, HB1.out, .inl ⟨rfl, rfl, rfl⟩⟩
      case round =>
        obtain ⟨A, n, c, ys, rfl, hO, hB, hrel⟩ := hrel
        have HO := Lib.hid hO
        have HB := Lib.hid hB
        have h0 : wr.cell? ⟨g, 0, none⟩ = some (.slice Ar lr cr) := (cellB hB hg).trans HC.out.1
        have h1 : wr.cell? ⟨g, 1, none⟩ = some (.slice Ax lx cx) := (cellB hB hg).trans HC.out.2
        have hbs := hB.size
        clear hO hB
        rcases hrel with ⟨rfl, rfl, rfl⟩ | ⟨rfl, rfl, rfl⟩ | ⟨rfl, rfl, rfl⟩
        · go_wp2_with (at_builtin; refine wpList_append_bytes wq.heap.size HB.out rfl _ _ 31 rfl wq.heap.size 5 Tryd.underlying31 info_u8 _ _ [] (by exact rfl) HO.out Ar lr cr r el1.out (by exact rfl) (HR.out.1.next HB.out) (by omega) hbs (Nat.le_refl _) ?_; intro A' c' w' hown' hb')
          go_roundw
          case rel => exact ⟨A', lr, c', r, by simp only, by simpa using hown', hb', .inr (.inl ⟨by go_num, rfl, rfl⟩)⟩
          case measure => simp [intOf]
        · go_wp2_with (at_builtin; refine wpList_append_bytes wq.heap.size HB.out rfl _ _ 31 rfl wq.heap.size 5 Tryd.underlying31 info_u8 _ _ ys (by exact rfl) HO.out Ax lx cx x el2.out (by exact rfl) (HR.out.2.next HB.out) (by omega) hbs (Nat.le_refl _) ?_; intro A' c' w' hown' hb')
          go_roundw
          case rel => exact ⟨A', ls, c', ys ++ x, by rw [el3.out], by rw [el3.out]; exact hown', hb', .inr (.inr ⟨by go_num, rfl, rfl⟩)⟩
          case measure => simp [intOf]
        · go_wp2
          go_ret
          exact ⟨A, c, rfl, HO.out, HB.out⟩
end Go.Proofs.YtkcdkjpmbjcmdaaDoor

/-
  What a stream's bytes hold; rows of packets.
-/
namespace Go.Proofs.YtkcdkjpmbjcmdaaDoor
open Go.RowKit

/-- the packets that bytes are, what is left, the error. -/
inductive Fed : List UInt8 → List Mq → List UInt8 → Int → Prop
  | done : Fed [] [] [] 0
  | part {x : List UInt8} {m : Mq} {n : Nat} (hx : x ≠ []) (h : Parsed x m n 7) : Fed x [] x 0
  | bad {x : List UInt8} {m : Mq} {n : Nat} {e : Int} (hx : x ≠ []) (h : Parsed x m n e) (h0 : e ≠ 0) (h7 : e ≠ 7) : Fed x [] [] e
  | one {x : List UInt8} {m : Mq} {n : Nat} {l : List Mq} {y : List UInt8} {e : Int} (hx : x ≠ []) (h : Parsed x m n 0) (hr : Fed (x.drop n) l y e) : Fed x (m :: l) y e
theorem fed_one {x : List UInt8} {l : List Mq} {y : List UInt8} {e : Int} (h : Fed x l y e) : ∀ {l' : List Mq} {y' : List UInt8} {e' : Int}, Fed x l' y' e' → l = l' ∧ y = y' ∧ e = e' := by
  induction h with
  | done =>
    intro l' y' e' h'
    cases h' with
    | done => exact ⟨rfl, rfl, rfl⟩
    | part hx => exact absurd rfl hx
    | bad hx => exact absurd rfl hx
    | one hx => exact absurd rfl hx
  | part hx h =>
    intro l' y' e' h'
    cases h' with
    | done => exact absurd rfl hx
    | part => exact ⟨rfl, rfl, rfl⟩
    | bad _ h2 h0 h7 => exact absurd (parsed_one h h2).2.2.symm h7
    | one _ h2 => exact absurd (parsed_one h h2).2.2 (by decide)
  | bad hx h h0 h7 =>
    intro l' y' e' h'
    cases h' with
    | done => exact absurd rfl hx
    | part _ h2 => exact absurd (parsed_one h h2).2.2 h7
    | bad _ h2 => exact ⟨rfl, rfl, (parsed_one h h2).2.2⟩
    | one _ h2 => exact absurd (parsed_one h h2).2.2 h0
  | one hx h _ ih =>
    intro l' y' e' h'
    cases h' with
    | done => exact absurd rfl hx
    | part _ h2 => exact absurd (parsed_one h h2).2.2 (by decide)
    | bad _ h2 h0 => exact absurd (parsed_one h h2).2.2.symm h0
    | one _ h2 hr2 =>
      obtain ⟨rfl, rfl, _⟩ := parsed_one h h2
      obtain ⟨rfl, rfl, rfl⟩ := ih hr2
      exact ⟨rfl, rfl, rfl⟩
theorem parsed_two {x : List UInt8} {m : Mq} {n : Nat} (h : Parsed x m n 0) : 2 ≤ n ∧ n ≤ x.length := by
  unfold Parsed at h
  split at h
  · next er hs =>
    have h2 := sizeD_err hs
    rw [← h.1] at h2
    exact absurd h2 (by decide)
  · next t i hs =>
    obtain ⟨h1, h2, h3, _⟩ := sizeD_ge hs
    rcases h with ⟨_, _, rfl, _⟩ | ⟨_, _, _, h⟩
    · exact ⟨by omega, h3⟩
    · exact absurd h (by decide)
/-- the cells of packets, one behind the other; each one's rows lie behind those of the one ahead of it. -/
def Prow (w : World) (b : Nat) (m : Mq) (cs : List Value) (hi : Nat) : Prop := ∃ vc vw vf, cs = mqCells m vc vw vf ∧ Rows3 w b m vc vw vf ∧ (∀ k, (vc.ownBlock = some k ∨ vw.ownBlock = some k ∨ vf.ownBlock = some k) → k < hi) ∧ Lens m 1000001 ∧ Small m
inductive Prows (w : World) (b : Nat) : List Mq → List Value → Nat → Prop
  | nil {hi : Nat} (h : b ≤ hi) : Prows w b [] [] hi
  | snoc {l : List Mq} {xs : List Value} {m : Mq} {cs : List Value} {hi lo hi' : Nat} (h : Prows w b l xs hi) (hlo : hi ≤ lo) (hle : lo ≤ hi') (hm : Prow w lo m cs hi') : Prows w b (l ++ [m]) (xs ++ cs) hi'
theorem Prow.of {w w' : World} {b hi : Nat} {m : Mq} {cs : List Value} (h : Prow w b m cs hi) (hk : ∀ vc vw vf, Rows3 w b m vc vw vf → Rows3 w' b m vc vw vf) : Prow w' b m cs hi := by
  obtain ⟨vc, vw, vf, h1, h2, h3⟩ := h
  exact ⟨vc, vw, vf, h1, hk _ _ _ h2, h3⟩
theorem Prows.le {w : World} {b hi : Nat} {l : List Mq} {cs : List Value} (h : Prows w b l cs hi) : b ≤ hi := by
  induction h with
  | nil h => exact h
  | snoc _ h1 h2 _ ih => omega
theorem Prows.of {w w' : World} {b hi : Nat} {l : List Mq} {cs : List Value} (h : Prows w b l cs hi) (hk : ∀ b' m vc vw vf, b ≤ b' → Rows3 w b' m vc vw vf → Rows3 w' b' m vc vw vf) : Prows w' b l cs hi := by
  induction h with
  | nil h => exact .nil h
  | snoc hp h1 h2 hm ih => exact .snoc ih h1 h2 (hm.of fun _ _ _ h => hk _ _ _ _ _ (Nat.le_trans hp.le h1) h)
theorem Prows.next {w w' : World} {b hi : Nat} {l : List Mq} {cs : List Value} (h : Prows w b l cs hi) (hb : Below w.heap.size w w') : Prows w' b l cs hi := h.of fun _ _ _ _ _ _ h => h.belowR hb
theorem Prows.base {w : World} {b b' hi : Nat} {l : List Mq} {cs : List Value} (h : Prows w b l cs hi) (hb : b' ≤ b) : Prows w b' l cs hi := by
  induction h with
  | nil h => exact .nil (Nat.le_trans hb h)
  | snoc _ h1 h2 hm ih => exact .snoc ih h1 h2 hm
/-- a box below the rows is written. -/
theorem Prows.box {w w' : World} {b g hi : Nat} {l : List Mq} {cs : List Value} (h : Prows w b l cs hi) (hg : w.grownBy w' (some g)) (hlt : g < b) : Prows w' b l cs hi := h.of fun _ _ _ _ _ hb h => h.keptR hg (h.far (.inl (Nat.lt_of_lt_of_le hlt hb)))
/-- a row of packets, or of bytes, grows. -/
theorem Rows3.row {w w' : World} {b b' e s n : Nat} {m : Mq} {vc vw vf v : Value} {xs : List Value} (h : Rows3 w b m vc vw vf) (hO : w.ownsRow b' e s v n xs) (hg : w.grownBy w' v.ownBlock) (he : (Nat.beq 3 e || Nat.beq 95 e || Nat.beq 9 e) = false) : Rows3 w' b m vc vw vf := by
  simp only [Bool.or_eq_false_iff] at he
  exact ⟨h.1.kept hg (own_apart h.1 hO he.1.1), h.2.1.kept hg (own_apart h.2.1 hO he.1.2), h.2.2.kept hg (own_apart h.2.2 hO he.2)⟩
theorem Prows.row {w w' : World} {b b' e s n hi : Nat} {l : List Mq} {cs : List Value} {v : Value} {xs : List Value} (h : Prows w b l cs hi) (hO : w.ownsRow b' e s v n xs) (hg : w.grownBy w' v.ownBlock) (he : (Nat.beq 3 e || Nat.beq 95 e || Nat.beq 9 e) = false) : Prows w' b l cs hi := h.of fun _ _ _ _ _ _ h => h.row hO hg he
theorem Prows.len {w : World} {b hi : Nat} {l : List Mq} {cs : List Value} (h : Prows w b l cs hi) : cs.length = l.length * 24 := by
  induction h with
  | nil => rfl
  | snoc _ _ _ hm ih =>
    obtain ⟨vc, vw, vf, rfl, _⟩ := hm
    rw [List.length_append, List.length_append, ih]
    show _ + 24 = _
    simp
    omega
theorem Rows3.lt {w : World} {b : Nat} {m : Mq} {vc vw vf : Value} (h : Rows3 w b m vc vw vf) (k : Nat) (hk : vc.ownBlock = some k ∨ vw.ownBlock = some k ∨ vf.ownBlock = some k) : k < w.heap.size := by
  rcases hk with hk | hk | hk
  · exact (h.1.lt k hk).2
  · exact (h.2.1.lt k hk).2
  · exact (h.2.2.lt k hk).2
/-- rows of packets, up to the world's end. -/
def PR (w : World) (b : Nat) (l : List Mq) (cs : List Value) : Prop := ∃ hi, hi ≤ w.heap.size ∧ Prows w b l cs hi
theorem PR.base {w : World} {b b' : Nat} {l : List Mq} {cs : List Value} (h : PR w b l cs) (hb : b' ≤ b) : PR w b' l cs := by
  obtain ⟨hi, h1, h2⟩ := h
  exact ⟨hi, h1, h2.base hb⟩
theorem PR.next {w w' : World} {b : Nat} {l : List Mq} {cs : List Value} (h : PR w b l cs) (hb : Below w.heap.size w w') : PR w' b l cs := by
  obtain ⟨hi, h1, h2⟩ := h
  exact ⟨hi, Nat.le_trans h1 hb.size, h2.next hb⟩
/-- a part of a code with one place to go back to. -/
theorem wp_scope_one {P : Program} {a : Act} {w : World} {Q : Exit → Act → World → Prop} {c r0 : Code} {k : Nat} (hf : findLabel c k = some (.seq .skip r0)) (J : Act → World → Prop) (μ : Act → World → Nat) (first : (∀ a w, J a w → r0.wp P (Exit.jump k J Q) a w) → c.wp P (Exit.jump k J Q) a w)
    (pass : ∀ a w, J a w → r0.wp P (Exit.jump k (fun a' w' => J a' w' ∧ μ a' w' < μ a w) Q) a w) : (Code.scope c).wp P Q a w := by
  refine wp_scope_jumps k J μ hf (first fun a w h => wp_mono (pass a w h) ?_) fun a w h => wp_seq (wp_skip (then_normal (pass a w h)))
  intro e a' w' he
  cases e with
  | goto l => exact ⟨he.1, he.2.1⟩
  | _ => exact he
theorem jump_ret {Q : Exit → Act → World → Prop} {a : Act} {w : World} {k : Nat} {J : Act → World → Prop} (h : Q .ret a w) : Exit.jump k J Q .ret a w := h
theorem jump_goto {Q : Exit → Act → World → Prop} {a : Act} {w : World} {k : Nat} {J : Act → World → Prop} (h : J a w) : Exit.jump k J Q (.goto k) a w := ⟨rfl, h⟩
theorem info_mqx : ∃ B, B ≤ 1000 ∧ (Tryd.prog.info? 30).map (fun i => (i.zero, i.size, i.bytes)) = some (some (.agg (mqCells (mq0 0) nilV nilV nilV).toArray), 24, B) :=
  ⟨((Tryd.prog.info? 30).map (·.bytes)).getD 0, Nat.le_of_ble_eq_true (by kernel_rfl), by kernel_rfl⟩
end Go.Proofs.YtkcdkjpmbjcmdaaDoor

/-
  stream.Feed.
-/
namespace Go.Proofs.YtkcdkjpmbjcmdaaDoor
open Go.RowKit

theorem slice_lo (A : Option Addr) (n c lo : Nat) (h1 : lo ≤ n) (_h3 : n ≤ c) (w : World) : (Instr.sliceAt 31 (.slice A n c) (some (.int .i64 (lo : Int))) none none).run Tryd.prog w = .ok (.slice (if c = lo then A else A.map (·.add lo)) (n - lo) (c - lo)) w := by
  simp [go_sem]
  omega
theorem run_slice_l {P : Program} {o : Oper} {a : Act} {w : World} {T : Nat} {x lo : Operand} {u v r : Value} (ho : o.op = .slice T x (some lo) none none) (hx : a.eval x = u) (hl : a.eval lo = v) (hq : (Instr.sliceAt T u (some v) none none).run P w = .ok r w) : (execOp a.eval o).run P w = .ok (.value r) w := by
  unfold execOp
  simp only [ho, hx, Option.map_some, Option.map_none, hl, Sem.run_bind, hq, Result.andThen_ok, Sem.run_pure]
theorem eql_35 (u v : Int) (b : Bool) (h : (u == v) = b) (x y : Operand) (w : World) : (do eqGuard .eql 35 x y (.int .i64 u) (.int .i64 v); binOp .eql 35 (.int .i64 u) (.int .i64 v) : Sem Value).run Tryd.prog w = .ok (.bool b) w := by
  subst h
  simp [go_sem]
theorem concatC (r x : List UInt8) (Ar Ax : Option Addr) (cr cx g : Nat) (w : World) (hr : RB w w.heap.size Ar r) (hx : RB w w.heap.size Ax x) (hg : g < w.heap.size) (hC : Cells w g [.slice Ar r.length cr, .slice Ax x.length cx]) (hlr : r.length ≤ 40000) (hlx : x.length ≤ 40000) :
    Calls Tryd.prog 68 #[.slice (some ⟨g, 0, none⟩) 2 2] w fun e w' => ∃ v, e = .returned v ∧ ∃ A c, v = .slice A (r ++ x).length c ∧ w'.ownsRow w.heap.size 5 1 (.slice A (r ++ x).length c) (r ++ x).length ((r ++ x).map bv) ∧ Below w.heap.size w w' :=
  (concatW r x Ar Ax cr cx g w hr hx hg (hC 0 _ rfl).1 (hC 1 _ rfl).1 hlr hlx).mono fun _ _ ⟨A, c, h1, h2, h3⟩ => ⟨_, h1, A, c, by rw [List.length_append], by rw [List.length_append]; exact h2, h3⟩
theorem cloneC (y : List UInt8) (A : Option Addr) (c : Nat) (w : World) (hx : RB w w.heap.size A y) (hn : y.length ≤ 140737488351232) :
    Calls Tryd.prog 69 #[.slice A y.length c] w fun e w' => ∃ v, e = .returned v ∧ ∃ A' c', v = .slice A' y.length c' ∧ w'.ownsRow w.heap.size 5 1 (.slice A' y.length c') y.length (y.map bv) ∧ Below w.heap.size w w' :=
  (clone y y.length rfl A c w hx hn).mono fun _ _ ⟨A', c', h1, h2, h3⟩ => ⟨_, h1, A', c', rfl, h2, h3⟩
/-- what 'Feed' leaves. -/
def FedSaid (z : List UInt8) (w : World) (e : Ending) (w' : World) : Prop :=
  ∃ l left er vP AL cL cs, Fed z l left er ∧ e = .returned (.tuple #[vP, .slice AL left.length cL, .int .i64 er]) ∧ w'.ownsRow w.heap.size 30 24 vP l.length cs ∧ PR w' w.heap.size l cs ∧ w'.ownsRow w.heap.size 5 1 (.slice AL left.length cL) left.length (left.map bv) ∧ Below w.heap.size w w'
/-- at the label: what is read, what is still to be read. -/
structure FeedAt (z : List UInt8) (W : World) (a : Act) (w : World) (y : List UInt8) (l : List Mq) (A : Option Addr) (c n : Nat) (vP : Value) (cs L : List Value) (vb : Value) : Prop where
  at_ : Has a 40 [(4, vP), (5, nilV), (7, .pointer (some ⟨W.heap.size, 0, none⟩)), (9, .slice A n c)]
  hn : y.length = n
  hc : n ≤ c
  le : l.length * 2 + y.length ≤ z.length
  fed : ∀ {l2 : List Mq} {left : List UInt8} {e : Int}, Fed y l2 left e → Fed z (l ++ l2) left e
  own : Own W W.heap.size [(W.heap.size, L)] w
  h24 : L.length = 24
  row : w.ownsRow (W.heap.size + 1) 30 24 vP l.length cs
  pks : PR w (W.heap.size + 1) l cs
  byt : w.ownsRow (W.heap.size + 1) 5 1 vb z.length (z.map bv)
  rd : ∀ w', w'.ownsRow (W.heap.size + 1) 5 1 vb z.length (z.map bv) → RB w' w'.heap.size A y
def muFeed (a : Act) : Nat := match a.tmps.getD 9 undef with
  | .slice _ n _ => n
  | _ => 0
set_option maxRecDepth 100000 in
set_option maxHeartbeats 6400000 in
theorem feedW (r x : List UInt8) (Ar Ax : Option Addr) (cr cx : Nat) (w : World) (hr : RB w w.heap.size Ar r) (hx : RB w w.heap.size Ax x) (hlr : r.length ≤ 40000) (hlx : x.length ≤ 40000) (hT : Wd w) :
    Calls Tryd.prog 37 #[.slice Ar r.length cr, .slice Ax x.length cx] w (FedSaid (r ++ x) w) := by
  go_enter Tryd.func37, Tryd.ntmps37
  refine Has.start 40 [(0, .slice Ar r.length cr), (1, .slice Ax x.length cx)] rfl rfl ⟨rfl, rfl, trivial⟩ ?_
  intro a0 H0
  have O0 := Own.start w
  refine H0.rg 3 fun a1 H1 => nt ?_
  refine wp_scope_one (k := 0) rfl (fun a w' => ∃ y l A c n vP cs L vb, FeedAt (r ++ x) w a w' y l A c n vP cs L vb) (fun a _ => muFeed a) ?_ ?_
  · intro hpass
    refine rl ?_
    refine H1.al O0 0 zero_mq fun a2 w2 O2 H2 => nt ?_
    refine H2.rg 1 fun a3 H3 => nt ?_
    refine H3.rg 2 fun a4 H4 => ?_
    refine H4.any (w' := w2.alloc (.cells #[.slice Ar r.length cr, .slice Ax x.length cx] 31)) gz rfl rfl (.slice (some ⟨w2.heap.size, 0, none⟩) 2 2) (by intro cs b h; cases h) (by kernel_rfl) (by kernel_rfl) fun a5 H5 => ?_
    have C5 := Cells.of_heap (heap_alloc_new w2 (.cells #[.slice Ar r.length cr, .slice Ax x.length cx] 31))
    have hb5 : Below w2.heap.size w2 (w2.alloc (.cells #[.slice Ar r.length cr, .slice Ax x.length cx] 31)) := balloc _ _
    have hl5 := lt_alloc w2 (.cells #[.slice Ar r.length cr, .slice Ax x.length cx] 31)
    have hw2 : w.heap.size + 1 ≤ w2.heap.size := O2.lt 0 rfl
    generalize w2.alloc (.cells #[.slice Ar r.length cr, .slice Ax x.length cx] 31) = w5 at *
    have O5 := O2.call hb5
    refine H5.cl (concatC r x Ar Ax cr cx w2.heap.size w5 (hr.next O5.bel) (hx.next O5.bel) hl5 C5 hlr hlx) ?_
    rintro a6 _ w6 ⟨A, c, rfl, hrow, hb6⟩ H6
    have O6 := O5.call hb6
    refine H6.ms 1 fun a7 H7 => nt ?_
    refine wp_seq (label_wp (then_normal ?_))
    refine hpass _ _ ⟨r ++ x, [], A, c, (r ++ x).length, nilV, [], _, .slice A (r ++ x).length c, ⟨H7.keep ⟨rfl, rfl, rfl, rfl, trivial⟩, rfl, own_cap hrow, by simp, fun h => h, O6, rfl, World.ownsRow_nil _ _ _ _, ⟨w.heap.size + 1, O6.lt 0 rfl, .nil (Nat.le_refl _)⟩, own_base hrow (by have := hb5.size; omega), ?_⟩⟩
    intro w' h
    exact rb_of_own rfl (own_base h (Nat.zero_le _)) (Nat.zero_le _)
  · clear H0 O0 H1
    rintro a1 w1 ⟨y, l, A, c, n, vP, cs, L, vb, hI⟩
    obtain ⟨H1, hn, hc, hle, hF, O1, h24, hrow, hpk, hby, hrd⟩ := hI
    subst hn
    have hzl : (r ++ x).length ≤ 80000 := by rw [List.length_append]; omega
    have hyl : y.length ≤ 80000 := by omega
    have hrd1 := hrd w1 hby
    have hmu : muFeed a1 = y.length := by unfold muFeed; rw [show a1.tmps.getD 9 undef = .slice A y.length c from H1.at_ 9 _ rfl]
    rw [hmu]
    refine H1.rg 1 fun a2 H2 => ?_
    refine H2.len gz rfl rfl rfl rfl Tryd.underlying31 fun a3 H3 => ?_
    by_cases hy : y = []
    · refine H3.bb 0 rfl rfl rfl rfl rfl rfl (eql_iB _ _ true (by subst hy; rfl) _ _ _) rfl fun a4 H4 => nt (H4.condT rfl ?_)
      refine H4.rg 4 fun a5 H5 => nt (wp_ret ?_)
      repeat (first | (with_reducible refine jump_ret ?_) | (with_reducible refine then_ret ?_))
      refine bodyPost_ret (results_three rfl _ _ _ _ (H5.at_ 4 _ rfl) (H5.at_ 5 _ rfl) (H5.at_ 6 _ rfl)) H5.df ?_
      subst hy
      exact ⟨l, [], 0, vP, none, 0, cs, by simpa using hF .done, rfl, own_base hrow (Nat.le_succ _), hpk.base (Nat.le_succ _), World.ownsRow_nil _ _ _ _, O1.bel⟩
    have hpos : 0 < y.length := List.length_pos_iff.2 hy
    refine H3.bb 0 rfl rfl rfl rfl rfl rfl (eql_iB _ _ false (by rw [beq_eq_false_iff_ne]; omega) _ _ _) rfl fun a4 H4 => nt (H4.condF rfl ?_)
    refine skip_wp (then_normal ?_)
    refine H4.rg 1 fun a5 H5 => ?_
    refine H5.cl (parseC y A c hc w1 hrd1 (by omega) (hT.below O1.bel)) ?_
    rintro a6 _ w2 ⟨m, nn, er, vc, vw, vf, rfl, hP, ⟨hR, hln⟩, hsm, hb⟩ H6
    have O2 := O1.call hb
    have hM2 := MqL.of_rows hR hln (by decide)
    refine H6.ms 1 fun a7 H7 => ?_
    refine H7.ex (r := .agg (mqCells m vc vw vf).toArray) 0 fun a8 H8 => ?_
    refine H8.ex (r := .int .i64 ((nn : Nat) : Int)) 0 fun a9 H9 => ?_
    refine H9.ex (r := .int .i64 er) 0 fun a10 H10 => ?_
    refine H10.storeS rfl rfl rfl rfl rfl (O2.get 0 rfl) size_mq h24 rfl hM2.ones fun a11 w3 H11 hgr hs3 hC3 => ?_
    have O3 := O2.store 0 rfl hgr hs3 hC3
    have hrow3 := (own_below hrow hb).kept hgr (.inr (own_ne (own_below hrow hb) (.inl (Nat.lt_succ_self _))).symm)
    have hby3 := (own_below hby hb).kept hgr (.inr (own_ne (own_below hby hb) (.inl (Nat.lt_succ_self _))).symm)
    obtain ⟨hi, hhi, hpk⟩ := hpk
    have hlt2 := hR.lt
    have hpk3 := (hpk.next hb).box hgr (Nat.lt_succ_self _)
    have hi3 : hi ≤ w3.heap.size := Nat.le_trans hhi (Nat.le_trans hb.size hgr.size)
    have hR3 := hR.keptR hgr (hR.far (.inl (O1.lt 0 rfl)))
    refine H11.ms 2 fun a12 H12 => nt ?_
    replace H12 := H12.keep (l' := [(4, vP), (5, nilV), (6, .int .i64 er), (7, .pointer (some ⟨w.heap.size, 0, none⟩)), (8, .int .i64 ((nn : Nat) : Int)), (9, .slice A y.length c)]) ⟨rfl, rfl, rfl, rfl, rfl, rfl, trivial⟩
    clear H1 H2 H3 H4 H5 H6 H7 H8 H9 H10 H11 O1 O2 hrow hby hpk hR hrd1
    refine H12.rg 1 fun a13 H13 => ?_
    by_cases h0 : er = 0
    · subst h0
      refine H13.bb 0 rfl rfl rfl rfl rfl rfl (eql_35 0 0 true rfl _ _ _) rfl fun a14 H14 => nt (H14.condT rfl ?_)
      obtain ⟨hn2, hny⟩ := parsed_two hP
      refine H14.rg 1 fun a15 H15 => ?_
      refine H15.lm O3 0 0 fun a16 H16 => ?_
      refine H16.any (w' := w3.alloc (.cells (mqCells m vc vw vf).toArray 30)) gz rfl rfl (.slice (some ⟨w3.heap.size, 0, none⟩) 1 1) (by intro cs b h; cases h) (by kernel_rfl) (by kernel_rfl) fun a17 H17 => ?_
      have hl4 := Reads.lit w3 30 (mqCells m vc vw vf) (0, 0) 24 1 rfl
      have hb4 : Below w3.heap.size w3 (w3.alloc (.cells (mqCells m vc vw vf).toArray 30)) := balloc _ _
      generalize w3.alloc (.cells (mqCells m vc vw vf).toArray 30) = w4 at *
      obtain ⟨BB, hBB, hinf⟩ := info_mqx
      have hrow4 := own_below hrow3 hb4
      have O4 := O3.call hb4
      refine H17.app hrow4 hinf hl4 (fun u hu => List.all_eq_true.1 hM2.ones u hu) (by unfold maxLen; omega) (Nat.le_trans (Nat.mul_le_mul (show l.length + 1 ≤ 80000 by omega) hBB) (by decide)) (Nat.le_trans (O3.lt 0 rfl) hb4.size) fun a18 A' c' w5 hO5 hgr5 H18 => ?_
      have O5 := O4.row hrow4 (Nat.le_succ _) hgr5 (fun p hp => by
        rw [List.mem_singleton.1 hp]
        exact own_ne hrow4 (.inl (Nat.lt_succ_self _)))
      have hby4 := own_below hby3 hb4
      have hby5 := hby4.kept hgr5 (own_apart hby4 hrow4 rfl)
      have hpk5 := Prows.snoc ((hpk3.next hb4).row hrow4 hgr5 rfl) hhi hb.size ⟨vc, vw, vf, rfl, (hR3.belowR hb4).row hrow4 hgr5 rfl, hlt2, hln, hsm⟩
      refine H18.ms 1 fun a19 H19 => nt ?_
      refine H19.rg 2 fun a20 H20 => ?_
      refine H20.go gz rfl rfl _ (run_slice_l rfl (H20.ev rfl) (H20.ev rfl) (slice_lo A y.length c nn hny hc _)) fun a21 H21 => ?_
      refine H21.ms 1 fun a22 H22 => nt ?_
      refine wp_goto ?_
      repeat (with_reducible refine then_goto ?_)
      refine jump_goto ⟨⟨y.drop nn, l ++ [m], _, c - nn, y.length - nn, _, cs ++ mqCells m vc vw vf, _, vb, ⟨H22.keep ⟨rfl, rfl, rfl, rfl, trivial⟩, List.length_drop, by omega, by rw [List.length_append, List.length_drop]; simp only [List.length_singleton]; omega, fun h => by rw [List.append_assoc]; exact hF (.one hy hP h), O5, rfl, by rw [List.length_append]; exact hO5, ⟨_, Nat.le_trans (Nat.le_of_eq hs3.symm) (Nat.le_trans hb4.size hgr5.size), hpk5⟩, hby5, fun w' h => (hrd w' h).cut (k := nn) (cap := c) hny hc⟩⟩, ?_⟩
      unfold muFeed
      rw [show a22.tmps.getD 9 undef = _ from H22.at_ 9 _ rfl]
      show y.length - nn < y.length
      omega
    refine H13.bb 0 rfl rfl rfl rfl rfl rfl (eql_35 er 0 false (by rw [beq_eq_false_iff_ne]; exact h0) _ _ _) rfl fun a14 H14 => nt (H14.condF rfl ?_)
    refine skip_wp (then_normal ?_)
    refine H14.rg 1 fun a15 H15 => ?_
    by_cases h7 : er = 7
    · subst h7
      refine H15.bb 0 rfl rfl rfl rfl rfl rfl (eql_35 7 7 true rfl _ _ _) rfl fun a16 H16 => nt (H16.condT rfl ?_)
      refine H16.rg 2 fun a17 H17 => ?_
      refine H17.cl (cloneC y A c w3 (hrd w3 hby3) (by omega)) ?_
      rintro a18 _ w4 ⟨A', c', rfl, hO4, hb4⟩ H18
      refine H18.ms 3 fun a19 H19 => nt (wp_ret ?_)
      repeat (first | (with_reducible refine jump_ret ?_) | (with_reducible refine then_ret ?_))
      refine bodyPost_ret (results_three rfl _ _ _ _ (H19.at_ 4 _ rfl) (H19.at_ 5 _ rfl) (H19.at_ 6 _ rfl)) H19.df ?_
      exact ⟨l, y, 0, vP, A', c', cs, by simpa using hF (.part hy hP), rfl, own_base (own_below hrow3 hb4) (Nat.le_succ _), PR.base ⟨hi, Nat.le_trans hi3 hb4.size, hpk3.next hb4⟩ (Nat.le_succ _), own_base hO4 O3.le, (O3.call hb4).bel⟩
    · refine H15.bb 0 rfl rfl rfl rfl rfl rfl (eql_35 er 7 false (by rw [beq_eq_false_iff_ne]; exact h7) _ _ _) rfl fun a16 H16 => nt (H16.condF rfl ?_)
      refine skip_wp (then_normal ?_)
      refine H16.rg 5 fun a17 H17 => nt (wp_ret ?_)
      repeat (first | (with_reducible refine jump_ret ?_) | (with_reducible refine then_ret ?_))
      refine bodyPost_ret (results_three rfl _ _ _ _ (H17.at_ 4 _ rfl) (H17.at_ 5 _ rfl) (H17.at_ 6 _ rfl)) H17.df ?_
      exact ⟨l, [], er, vP, none, 0, cs, by simpa using hF (.bad hy hP h0 h7), rfl, own_base hrow3 (Nat.le_succ _), PR.base ⟨hi, hi3, hpk3⟩ (Nat.le_succ _), World.ownsRow_nil _ _ _ _, O3.bel⟩
end Go.Proofs.YtkcdkjpmbjcmdaaDoor

/-
  The page's Feed.
-/
namespace Go.Proofs.YtkcdkjpmbjcmdaaDoor
open Go.RowKit

theorem eql_3 (u v : Int) (b : Bool) (h : (u == v) = b) (x y : Operand) (w : World) : (do eqGuard .eql 3 x y (.int .i64 u) (.int .i64 v); binOp .eql 3 (.int .i64 u) (.int .i64 v) : Sem Value).run Tryd.prog w = .ok (.bool b) w := by
  subst h
  simp [go_sem]
theorem refParseB (xs : List UInt8) (A : Option Addr) (c : Nat) (hc : xs.length ≤ c) (w : World) (hr : RB w w.heap.size A xs) (hl : xs.length ≤ 140737488351232) (hT : Wd w) :
    Calls Tryd.prog 34 #[.slice A xs.length c] w fun e w' => ∃ v, e = .returned v ∧ ∃ m n er vc vw vf, v = .tuple #[.agg (mqCells m vc vw vf).toArray, .int .i64 ((n : Nat) : Int), .int .i64 er] ∧ Parsed xs m n er ∧ (Rows3 w' w.heap.size m vc vw vf ∧ Lens m 8) ∧ Small m ∧ Below w.heap.size w w' :=
  (refParse xs A c hc w hr hl hT).mono fun _ _ ⟨m, n, er, vc, vw, vf, h1, h2, h3, h4⟩ => ⟨_, h2, m, n, er, vc, vw, vf, rfl, h1, h3, h4⟩
/-- what the page's 'Feed' leaves. -/
def FedSaidR (z : List UInt8) (w : World) (e : Ending) (w' : World) : Prop :=
  ∃ l left er vP AL cL cs, Fed z l left er ∧ e = .returned (.tuple #[vP, .slice AL left.length cL, .int .i64 er]) ∧ w'.ownsRow w.heap.size 30 24 vP l.length cs ∧ PR w' w.heap.size l cs ∧ RB w' w'.heap.size AL left ∧ Below w.heap.size w w'
/-- at a round's begin. -/
structure FeedIn (z : List UInt8) (W : World) (a : Act) (w : World) (y : List UInt8) (l : List Mq) (A : Option Addr) (c n : Nat) (vP : Value) (cs : List Value) (vb : Value) : Prop where
  at_ : Has a 41 [(7, .slice A n c), (8, vP)]
  hn : y.length = n
  hc : n ≤ c
  le : l.length * 2 + y.length ≤ z.length
  fed : ∀ {l2 : List Mq} {left : List UInt8} {e : Int}, Fed y l2 left e → Fed z (l ++ l2) left e
  own : Own W W.heap.size [] w
  row : w.ownsRow W.heap.size 30 24 vP l.length cs
  pks : PR w W.heap.size l cs
  byt : w.ownsRow W.heap.size 5 1 vb z.length (z.map bv)
  rd : ∀ w', w'.ownsRow W.heap.size 5 1 vb z.length (z.map bv) → RB w' w'.heap.size A y
set_option maxRecDepth 100000 in
set_option maxHeartbeats 6400000 in
theorem refFeed (r x : List UInt8) (Ar Ax : Option Addr) (cr cx : Nat) (w : World) (hr : RB w w.heap.size Ar r) (hx : RB w w.heap.size Ax x) (hlr : r.length ≤ 40000) (hlx : x.length ≤ 40000) (hT : Wd w) :
    Calls Tryd.prog 38 #[.slice Ar r.length cr, .slice Ax x.length cx] w (FedSaidR (r ++ x) w) := by
  go_enter Tryd.func38, Tryd.ntmps38
  refine Has.start 41 [(0, .slice Ar r.length cr), (1, .slice Ax x.length cx)] rfl rfl ⟨rfl, rfl, trivial⟩ ?_
  intro a0 H0
  have O0 := Own.start w
  refine H0.rg 3 fun a1 H1 => nt ?_
  refine H1.rg 1 fun a2 H2 => ?_
  refine H2.cl (copyC r Ar cr w hr (by omega)) ?_
  rintro a3 v1 w1 ⟨hv1, hb1⟩ H3
  have O1 := O0.call hb1
  refine H3.ms 1 fun a4 H4 => ?_
  refine H4.appendRow Tryd.underlying31 info_u8 (gz rfl) rfl rfl rfl rfl rfl hv1 ⟨Ax, cx, rfl, hx.next hb1⟩ (by omega) O1.le ?_
  intro a5 v2 w2 H5 hv2 hb2 hg2
  have O2 : Own w w.heap.size [] w2 := Own.bare (hb1.trans hb2) (Nat.le_trans O1.le hb2.size)
  obtain ⟨A2, c2, rfl, hrow2⟩ := hv2
  refine H5.ms 1 fun a6 H6 => nt ?_
  refine H6.rg 1 fun a7 H7 => nt ?_
  replace H7 := H7.keep (l' := [(7, .slice A2 (r ++ x).length c2), (8, nilV)]) ⟨rfl, rfl, trivial⟩
  have hzl : (r ++ x).length ≤ 80000 := by rw [List.length_append]; omega
  refine wp_seq (wp_block ?_)
  refine wp_loop_up (r ++ x).length (fun k a w' => ∃ y l A c n vP cs vb, l.length = k ∧ FeedIn (r ++ x) w a w' y l A c n vP cs vb) ⟨r ++ x, [], A2, c2, _, nilV, [], _, rfl, ⟨H7, rfl, own_cap hrow2, by simp, fun h => h, O2, World.ownsRow_nil _ _ _ _, ⟨w.heap.size, O2.le, .nil (Nat.le_refl _)⟩, hrow2, fun w' h => rb_of_own rfl (own_base h (Nat.zero_le _)) (Nat.zero_le _)⟩⟩ ?_
  clear H0 H1 H2 H3 H4 H5 H6 H7 O0 O1 O2 hv1 hb1 hb2 hg2 hrow2
  rintro k a1 w1 hk ⟨y, l, A, c, n, vP, cs, vb, rfl, hI⟩
  obtain ⟨H1, hn, hc, hle, hF, O1, hrow, hpk, hby, hrd⟩ := hI
  subst hn
  have hyl : y.length ≤ 80000 := by omega
  have hrd1 := hrd w1 hby
  refine H1.rg 1 fun a2 H2 => ?_
  refine H2.len gz rfl rfl rfl rfl Tryd.underlying31 fun a3 H3 => ?_
  by_cases hy : y = []
  · refine H3.bb 0 rfl rfl rfl rfl rfl rfl (gtr_i _ _ false (by subst hy; rfl) _ _ _) rfl fun a4 H4 => nt (H4.condF rfl ?_)
    refine wp_exit ?_
    repeat (with_reducible refine then_exit ?_)
    refine block_leave (then_normal ?_)
    refine H4.rg 4 fun a5 H5 => nt (wp_ret ?_)
    repeat (first | (with_reducible refine block_ret ?_) | (with_reducible refine then_ret ?_))
    refine bodyPost_ret (results_three rfl _ _ _ _ (H5.at_ 4 _ rfl) (H5.at_ 5 _ rfl) (H5.at_ 6 _ rfl)) H5.df ?_
    subst hy
    exact ⟨l, [], 0, vP, none, 0, cs, by simpa using hF .done, rfl, hrow, hpk, RB.nil, O1.bel⟩
  have hpos : 0 < y.length := List.length_pos_iff.2 hy
  refine H3.bb 0 rfl rfl rfl rfl rfl rfl (gtr_i _ _ true (by rw [decide_eq_true_iff]; omega) _ _ _) rfl fun a4 H4 => nt (H4.condT rfl ?_)
  refine skip_wp (then_normal ?_)
  refine wp_block ?_
  refine H4.rg 1 fun a5 H5 => ?_
  refine H5.cl (refParseB y A c hc w1 hrd1 (by omega) (hT.below O1.bel)) ?_
  rintro a6 _ w2 ⟨m, nn, er, vc, vw, vf, rfl, hP, ⟨hR, hln⟩, hsm, hb⟩ H6
  have O2 := O1.call hb
  have hM2 := MqL.of_rows hR hln (by decide)
  refine H6.ms 1 fun a7 H7 => ?_
  refine H7.ex (r := .agg (mqCells m vc vw vf).toArray) 0 fun a8 H8 => ?_
  refine H8.ex (r := .int .i64 ((nn : Nat) : Int)) 0 fun a9 H9 => ?_
  refine H9.ex (r := .int .i64 er) 0 fun a10 H10 => ?_
  refine H10.nw O2 2 hM2.ones fun a11 w3 hb3 O3 H11 => nt ?_
  replace H11 := H11.keep (l' := [(7, .slice A y.length c), (8, vP), (9, .pointer (some ⟨w2.heap.size, 0, none⟩)), (10, .int .i64 ((nn : Nat) : Int)), (11, .int .i64 er)]) ⟨rfl, rfl, rfl, rfl, rfl, trivial⟩
  have hrow3 := own_below (own_below hrow hb) hb3
  have hby3 := own_below (own_below hby hb) hb3
  obtain ⟨hi, hhi, hpk⟩ := hpk
  have hlt2 := hR.lt
  have hpk3 := (hpk.next hb).next hb3
  have hi3 : hi ≤ w3.heap.size := Nat.le_trans hhi (Nat.le_trans hb.size hb3.size)
  have hR3 := hR.belowR hb3
  clear H1 H2 H3 H4 H5 H6 H7 H8 H9 H10 O1 O2 hrow hby hpk hR hrd1
  refine H11.rg 1 fun a12 H12 => ?_
  by_cases h7 : er = 7
  · subst h7
    refine H12.bb 0 rfl rfl rfl rfl rfl rfl (eql_3 7 7 true rfl _ _ _) rfl fun a13 H13 => nt (H13.condT rfl ?_)
    refine H13.rg 5 fun a14 H14 => nt (wp_ret ?_)
    repeat (first | (with_reducible refine block_ret ?_) | (with_reducible refine then_ret ?_))
    refine bodyPost_ret (results_three rfl _ _ _ _ (H14.at_ 4 _ rfl) (H14.at_ 5 _ rfl) (H14.at_ 6 _ rfl)) H14.df ?_
    exact ⟨l, y, 0, vP, A, c, cs, by simpa using hF (.part hy hP), rfl, hrow3, ⟨hi, hi3, hpk3⟩, hrd w3 hby3, O3.bel⟩
  refine H12.bb 0 rfl rfl rfl rfl rfl rfl (eql_3 er 7 false (by rw [beq_eq_false_iff_ne]; exact h7) _ _ _) rfl fun a13 H13 => nt (H13.condF rfl ?_)
  refine skip_wp (then_normal ?_)
  refine H13.rg 1 fun a14 H14 => ?_
  by_cases h0 : er = 0
  rotate_left
  · refine H14.bb 0 rfl rfl rfl rfl rfl rfl (neq_3 er 0 true (by rw [bne_iff_ne]; exact h0) _ _ _) rfl fun a15 H15 => nt (H15.condT rfl ?_)
    refine H15.rg 5 fun a16 H16 => nt (wp_ret ?_)
    repeat (first | (with_reducible refine block_ret ?_) | (with_reducible refine then_ret ?_))
    refine bodyPost_ret (results_three rfl _ _ _ _ (H16.at_ 4 _ rfl) (H16.at_ 5 _ rfl) (H16.at_ 6 _ rfl)) H16.df ?_
    exact ⟨l, [], er, vP, none, 0, cs, by simpa using hF (.bad hy hP h0 h7), rfl, hrow3, ⟨hi, hi3, hpk3⟩, RB.nil, O3.bel⟩
  subst h0
  refine H14.bb 0 rfl rfl rfl rfl rfl rfl (neq_3 0 0 false rfl _ _ _) rfl fun a15 H15 => nt (H15.condF rfl ?_)
  refine skip_wp (then_normal ?_)
  obtain ⟨hn2, hny⟩ := parsed_two hP
  refine H15.rg 1 fun a16 H16 => ?_
  refine H16.lm O3 0 0 fun a17 H17 => ?_
  refine H17.any (w' := w3.alloc (.cells (mqCells m vc vw vf).toArray 30)) gz rfl rfl (.slice (some ⟨w3.heap.size, 0, none⟩) 1 1) (by intro cs b h; cases h) (by kernel_rfl) (by kernel_rfl) fun a18 H18 => ?_
  have hl4 := Reads.lit w3 30 (mqCells m vc vw vf) (0, 0) 24 1 rfl
  have hb4 : Below w3.heap.size w3 (w3.alloc (.cells (mqCells m vc vw vf).toArray 30)) := balloc _ _
  generalize w3.alloc (.cells (mqCells m vc vw vf).toArray 30) = w4 at *
  obtain ⟨BB, hBB, hinf⟩ := info_mqx
  have hrow4 := own_below hrow3 hb4
  have O4 : Own w w.heap.size [] w4 := Own.bare (O3.call hb4).bel (O3.call hb4).le
  refine H18.app hrow4 hinf hl4 (fun u hu => List.all_eq_true.1 hM2.ones u hu) (by unfold maxLen; omega) (Nat.le_trans (Nat.mul_le_mul (show l.length + 1 ≤ 80000 by omega) hBB) (by decide)) O4.le fun a19 A' c' w5 hO5 hgr5 H19 => ?_
  have O5 := O4.row hrow4 (Nat.le_refl _) hgr5 (fun p hp => by cases hp)
  have hby4 := own_below hby3 hb4
  have hby5 := hby4.kept hgr5 (own_apart hby4 hrow4 rfl)
  have hpk5 := Prows.snoc ((hpk3.next hb4).row hrow4 hgr5 rfl) hhi hb.size ⟨vc, vw, vf, rfl, (hR3.belowR hb4).row hrow4 hgr5 rfl, hlt2, ⟨Nat.le_trans hln.1 (by decide), Nat.le_trans hln.2.1 (by decide), Nat.le_trans hln.2.2 (by decide)⟩, hsm⟩
  refine H19.ms 1 fun a20 H20 => nt ?_
  refine H20.rg 2 fun a21 H21 => ?_
  refine H21.go gz rfl rfl _ (run_slice_l rfl (H21.ev rfl) (H21.ev rfl) (slice_lo A y.length c nn hny hc _)) fun a22 H22 => ?_
  refine H22.ms 1 fun a23 H23 => wpList_nil (block_normal (then_normal ?_))
  exact ⟨by omega, y.drop nn, l ++ [m], _, c - nn, y.length - nn, _, cs ++ mqCells m vc vw vf, vb, List.length_append, ⟨H23.keep ⟨rfl, rfl, trivial⟩, List.length_drop, by omega, by rw [List.length_append, List.length_drop]; simp only [List.length_singleton]; omega, fun h => by rw [List.append_assoc]; exact hF (.one hy hP h), O5, by rw [List.length_append]; exact hO5, ⟨_, Nat.le_trans hb3.size (Nat.le_trans hb4.size hgr5.size), hpk5⟩, hby5, fun w' h => (hrd w' h).cut (k := nn) (cap := c) hny hc⟩⟩
end Go.Proofs.YtkcdkjpmbjcmdaaDoor

/-
  Rows of packets are read; the page's EqMqs, of the same packets.
-/
namespace Go.Proofs.YtkcdkjpmbjcmdaaDoor
open Go.RowKit

/-- packets are read where a slice points. -/
def MqsAt (w : World) (A : Option Addr) (l : List Mq) : Prop :=
  ∀ k m, l[k]? = some m → ∃ b o vc vw vf, A = some ⟨b, o, none⟩ ∧ b < w.heap.size ∧ w.rangeAt b (o + k * 24) (mqCells m vc vw vf) ∧ MqL w w.heap.size m vc vw vf
theorem MqsAt.next {w w' : World} {A : Option Addr} {l : List Mq} (h : MqsAt w A l) (hb : Below w.heap.size w w') : MqsAt w' A l := by
  intro k m hk
  obtain ⟨b, o, vc, vw, vf, h1, h2, h3, h4⟩ := h k m hk
  exact ⟨b, o, vc, vw, vf, h1, Nat.lt_of_lt_of_le h2 hb.size, rangeB h3 hb h2, h4.next hb⟩
theorem Prows.get {w : World} {b : Nat} {l : List Mq} {cs : List Value} {hi : Nat} (h : Prows w b l cs hi) : ∀ k m, l[k]? = some m → ∃ vc vw vf b', Rows3 w b' m vc vw vf ∧ Lens m 1000001 ∧ Small m ∧ ∀ j v, (mqCells m vc vw vf)[j]? = some v → cs[k * 24 + j]? = some v := by
  induction h with
  | nil => intro k m hk; simp at hk
  | @snoc l xs m0 cs0 hi lo hi' hp _ _ hm ih =>
    intro k m hk
    have hlen := hp.len
    by_cases hlt : k < l.length
    · rw [List.getElem?_append_left hlt] at hk
      obtain ⟨vc, vw, vf, b', h1, h2, h3, h4⟩ := ih k m hk
      refine ⟨vc, vw, vf, b', h1, h2, h3, fun j v hv => ?_⟩
      have := h4 j v hv
      rw [List.getElem?_append_left (List.getElem?_eq_some_iff.1 this).1]
      exact this
    · have hke : k = l.length := by
        have := (List.getElem?_eq_some_iff.1 hk).1
        rw [List.length_append, List.length_singleton] at this
        omega
      subst hke
      rw [List.getElem?_append_right (Nat.le_refl _), Nat.sub_self] at hk
      injection hk with hk
      subst hk
      obtain ⟨vc, vw, vf, rfl, h2, _, h3, h4⟩ := hm
      refine ⟨vc, vw, vf, lo, h2, h3, h4, fun j v hv => ?_⟩
      rw [List.getElem?_append_right (by omega), hlen, Nat.add_sub_cancel_left]
      exact hv
theorem Prows.at_ {w : World} {b b' : Nat} {l : List Mq} {cs : List Value} {A : Option Addr} {n c hi : Nat} (h : Prows w b l cs hi) (hO : w.ownsRow b' 30 24 (.slice A n c) l.length cs) : MqsAt w A l := by
  intro k m hk
  obtain ⟨vc, vw, vf, _, h1, h2, _, h4⟩ := h.get k m hk
  have hlt := (List.getElem?_eq_some_iff.1 hk).1
  obtain ⟨g, cap, hA, _, hg2⟩ := hO.form (by omega)
  injection hA with hA hn hc
  subst hA
  subst hn
  refine ⟨g, 0, vc, vw, vf, rfl, hg2, fun j v hv => ?_, MqL.of_rows h1 h2 (by decide)⟩
  have hj : j < 24 := (List.getElem?_eq_some_iff.1 hv).1
  have := hO.cellAt (0 + k * 24 + j) (by omega)
  rw [this, Nat.zero_add]
  exact h4 j v hv
set_option maxRecDepth 100000 in
set_option maxHeartbeats 3200000 in
theorem eqMqsS (l : List Mq) (A B : Option Addr) (n c d : Nat) (hn : l.length = n) (hlim : n ≤ 1000000) (w : World) (ha : MqsAt w A l) (hb : MqsAt w B l) :
    Calls Tryd.prog 40 #[.slice A n c, .slice B n d] w fun e w' => e = .returned (.bool true) ∧ Below w.heap.size w w' := by
  go_enter Tryd.func40, Tryd.ntmps40
  refine Has.start 27 [(0, .slice A n c), (1, .slice B n d)] rfl rfl ⟨rfl, rfl, trivial⟩ ?_
  intro a0 H0
  refine H0.rg 1 fun a1 H1 => nt ?_
  refine H1.rg 1 fun a2 H2 => ?_
  refine H2.len gz rfl rfl rfl rfl Tryd.underlying52 fun a3 H3 => ?_
  refine H3.ms 1 fun a4 H4 => ?_
  refine H4.len gz rfl rfl rfl rfl Tryd.underlying52 fun a5 H5 => ?_
  refine H5.bb 0 rfl rfl rfl rfl rfl rfl (neq_3 _ _ false (by simp) _ _ _) rfl fun a6 H6 => nt (H6.condF rfl ?_)
  refine skip_wp (then_normal ?_)
  refine H6.rg 1 fun a7 H7 => nt ?_
  replace H7 := H7.keep (l' := [(0, .slice A n c), (1, .slice B n d), (5, .int .i64 ((0 : Nat) : Int))]) ⟨rfl, rfl, rfl, trivial⟩
  refine wp_block ?_
  refine wp_loop_up n (fun k a w' => Has a 27 [(0, .slice A n c), (1, .slice B n d), (5, .int .i64 ((k : Nat) : Int))] ∧ Below w.heap.size w w') ⟨H7, Below.refl _ _⟩ ?_
  clear H0 H1 H2 H3 H4 H5 H6 H7
  rintro k a1 w1 hk ⟨H1, hb1⟩
  refine H1.rg 2 fun a2 H2 => ?_
  refine H2.len gz rfl rfl rfl rfl Tryd.underlying52 fun a3 H3 => ?_
  by_cases hlt : k < n
  rotate_left
  · refine H3.bb 0 rfl rfl rfl rfl rfl rfl (lss_i _ _ false (by rw [decide_eq_false_iff_not]; omega) _ _ _) rfl fun a4 H4 => nt (H4.condF rfl ?_)
    refine wp_exit ?_
    repeat (with_reducible refine then_exit ?_)
    refine block_leave (then_normal ?_)
    refine H4.rg 1 fun a5 H5 => nt (wp_ret ?_)
    repeat (first | (with_reducible refine block_ret ?_) | (with_reducible refine then_ret ?_))
    exact bodyPost_ret (results_tmp rfl _ _ _) H5.df ⟨congrArg Ending.returned (H5.at_ 4 _ rfl), hb1⟩
  refine H3.bb 0 rfl rfl rfl rfl rfl rfl (lss_i _ _ true (by rw [decide_eq_true_iff]; omega) _ _ _) rfl fun a4 H4 => nt (H4.condT rfl ?_)
  refine skip_wp (then_normal ?_)
  obtain ⟨m, hm⟩ : ∃ m, l[k]? = some m := ⟨_, List.getElem?_eq_getElem (by omega)⟩
  obtain ⟨g1, o1, vc, vw, vf, rfl, hl1, hr1, hM1⟩ := ha k m hm
  obtain ⟨g2, o2, vc', vw', vf', rfl, hl2, hr2, hM2⟩ := hb k m hm
  replace H4 := H4.keep (l' := [(0, .slice (some ⟨g1, o1, none⟩) n c), (1, .slice (some ⟨g2, o2, none⟩) n d), (5, .int .i64 ((k : Nat) : Int))]) ⟨rfl, rfl, rfl, trivial⟩
  have hi : ∀ g o c w', (Instr.indexAt 52 (.slice (some ⟨g, o, none⟩) n c) (.int .i64 ((k : Nat) : Int))).run Tryd.prog w' = .ok (.pointer (some ⟨g, o + k * 24, none⟩)) w' := fun g o c w' => index_m 52 Tryd.underlying52 24 (fun _ => by kernel_rfl) _ _ _ _ _ hlt _
  refine wp_seq_join (fun a w' => Has a 27 [(0, .slice (some ⟨g1, o1, none⟩) n c), (1, .slice (some ⟨g2, o2, none⟩) n d), (5, .int .i64 ((k : Nat) : Int))] ∧ Below w.heap.size w w') ?_ ?_
  · refine wp_block ?_
    refine H4.dq (fun w' => Below w.heap.size w w') (fun _ _ h hb => h.trans (hb.mono h.size)) hb1 [0, 1, 5] rfl [ec 0 17 (.slice (some ⟨g1, o1, none⟩) n c), ec 1 18 (.int .i64 ((k : Nat) : Int)), ec 2 19 (.pointer (some ⟨g1, o1 + k * 24, none⟩)), ec 3 20 (.agg (mqCells m vc vw vf).toArray), ec 4 21 (.slice (some ⟨g2, o2, none⟩) n d), ec 5 22 (.int .i64 ((k : Nat) : Int)), ec 6 23 (.pointer (some ⟨g2, o2 + k * 24, none⟩)), ec 7 24 (.agg (mqCells m vc' vw' vf').toArray), eh 8 25 (.bool true), ec 9 26 (.bool (!true))] rfl
      ⟨jm, jm, jI rfl rfl rfl rfl rfl rfl (hi g1 o1 c), jl fun _ h => load_mq (rangeB hr1 h hl1), jm, jm, jI rfl rfl rfl rfl rfl rfl (hi g2 o2 d), jl fun _ h => load_mq (rangeB hr2 h hl2), ju (hq := run_not true), trivial⟩ ⟨kb fun w' h => eqMqS m vc vw vf vc' vw' vf' w' (hM1.next h) (hM2.next h), trivial⟩ ?_
    intro a5 w5 H5 _ hb5
    refine then_normal (H5.condF rfl (skip_wp (block_normal ?_)))
    exact ⟨H5.keep ⟨rfl, rfl, rfl, trivial⟩, hb5⟩
  · rintro a5 w5 ⟨H5, hb5⟩
    refine H5.rg 1 fun a6 H6 => ?_
    refine H6.bb 1 rfl rfl rfl rfl rfl rfl (succ_i k (by omega) _ _ _) rfl fun a7 H7 => nt ?_
    exact ⟨hlt, H7.keep ⟨rfl, rfl, rfl, trivial⟩, hb5⟩
end Go.Proofs.YtkcdkjpmbjcmdaaDoor

/-
  kiosklaw0's Numbers, Strings, Wishes, Mqs: what was answered is written over.
-/
namespace Go.Proofs.YtkcdkjpmbjcmdaaDoor
open Go.RowKit

theorem wpList_append_rowsG {P : Program} {w : World} {ops : Array Oper} {rest : List Oper} {o : Oper} {a : Act} {Q : Exit → Act → World → Prop} (hgd : o.guard = none) (s x : Operand) (t : TypeId)
    (ho : o.op = .call { callee := .builtin .append, args := #[s, x], argTypes := #[t, t] })
    (base : Nat) (e : TypeId) (z : Value) (size bytes : Nat) (ht : P.underlying t = some (.slice e)) (hi : (P.info? e).map (fun i => (i.zero, i.size, i.bytes)) = some (some z, size, bytes)) (hzs : z.cells.size = size) (hsz : 0 < size)
    (v : Value) (n : Nat) (xs : List Value) (hs : a.eval s = v) (hown : w.ownsRow base e size v n xs) (A : Option Addr) (m c : Nat) (ys : List Value) (hx : a.eval x = .slice A m c) (hr : Reads w w.heap.size size A m ys) (h1 : ∀ u ∈ ys, u.oneCell' = true)
    (hn : n + m ≤ maxLen) (hby : (n + m) * bytes ≤ 140737488355328) (hbase : base ≤ w.heap.size)
    (h : ∀ A' c' w', w'.ownsRow base e size (.slice A' (n + m) c') (n + m) (xs ++ ys) → w.grownBy w' v.ownBlock → wpList P ops Q rest (a.put o.dst (.slice A' (n + m) c')) w') :
    wpList P ops Q (o :: rest) a w := by
  refine wpList_plain hgd fun K hK => ?_
  obtain ⟨A', c', w', hrun, h2, h3⟩ := run_append_read (P := P) w base t o.type e z size bytes ht hi hzs hsz v n xs hown w.heap.size A m c ys hr h1 hn hby hbase
  unfold Oper.wp execOp
  simp only [ho, resolve, invoke, builtin, Sem.run_bind, Sem.run_pure, Result.andThen_ok, List.map_toArray, List.map_cons, List.map_nil, hs, hx, hrun]
  exact hK _ _ (h A' c' w' h2 h3)
theorem grown_size {w w' : World} {r : Option Nat} (h : w.grownBy w' r) {b : Nat} (hb : b ≤ w.heap.size) : b ≤ w'.heap.size := Nat.le_trans hb h.size
set_option maxRecDepth 100000 in
set_option maxHeartbeats 800000 in
theorem spoilInts (base : Nat) (xs : List Value) (n : Nat) (A : Option Addr) (c : Nat) (w : World) (hown : w.ownsRow base 3 1 (.slice A n c) n xs) (hbase : base ≤ w.heap.size) (hn : n ≤ 2000000) :
    Calls Tryd.prog 65 #[.slice A n c] w fun e w' => e = .returned (.tuple #[]) ∧ w.grownBy w' (Value.slice A n c).ownBlock := by
  have HO := Lib.hid hown
  clear hown
  go_enter Tryd.func65, Tryd.ntmps65
  go_wp2
  go_loopw [2] (fun i wr => ∃ (k : Nat) (ys : List Value), k ≤ n ∧ i = .int .i64 k ∧ wr.ownsRow base 3 1 (.slice A n c) n ys ∧ Hid (w.grownBy wr (Value.slice A n c).ownBlock)) (fun i _ => n - (intOf i).toNat)
  case atStart => exact ⟨0, xs, Nat.zero_le _, rfl, HO.out, World.grownBy.refl w _⟩
  case round =>
    obtain ⟨k, ys, hk, rfl, hown, hg⟩ := hrel
    have hg := hg.out
    by_cases hlt : k < n
    · obtain ⟨g, cap, hA, _, hg2⟩ := hown.form (by omega)
      injection hA with hA _ _
      subst hA
      have hl2 : ys.length = n * 1 := hown.1
      obtain ⟨z0, hcell0⟩ : ∃ u, wr.cell? ⟨g, k, none⟩ = some u := ⟨_, (hown.cellAt (k) (by omega)).trans (List.getElem?_eq_getElem (by omega))⟩
      have hfz0 := hown.frozenAt (k)
      have hkI : (k : Int) < (n : Int) := by omega
      have HO2 := Lib.hid (hown.stored (k) (.int .i64 (-99))).1
      have HG2 := Lib.hid (hg.trans (hown.stored (k) (.int .i64 (-99))).2)
      clear hown hg hl2
      go_wp2
      go_roundw
      case rel => exact ⟨k + 1, (ys.set (k) (.int .i64 (-99))), by omega, by go_num, HO2.out, HG2⟩
      case measure => simp [intOf]; omega
    · have hbs := grown_size hg hbase
      go_wp2_with (at_builtin; refine wpList_append_rowsG rfl _ _ 26 rfl base 3 (.int .i64 0) 1 8 Tryd.underlying26 info_int rfl (by decide) _ _ _ (by exact rfl) (hown.alloc _) _ 1 1 [iv 5] (by exact rfl) (Reads.lit wr 3 [iv 5] (0, 0) 1 1 rfl) (one_iv _) (by unfold maxLen; omega) (by omega) (Nat.le_trans hbs (balloc _ _).size) ?_; intro A' c' w' hown' hg')
      go_end0
      exact ⟨rfl, (hg.trans (World.grownBy_alloc wr _ _)).trans hg'⟩
set_option maxRecDepth 100000 in
set_option maxHeartbeats 800000 in
theorem spoilStrs (base : Nat) (xs : List Value) (n : Nat) (A : Option Addr) (c : Nat) (w : World) (hown : w.ownsRow base 9 1 (.slice A n c) n xs) (hbase : base ≤ w.heap.size) (hn : n ≤ 2000000) :
    Calls Tryd.prog 67 #[.slice A n c] w fun e w' => e = .returned (.tuple #[]) ∧ w.grownBy w' (Value.slice A n c).ownBlock := by
  have HO := Lib.hid hown
  clear hown
  go_enter Tryd.func67, Tryd.ntmps67
  go_wp2
  go_loopw [2] (fun i wr => ∃ (k : Nat) (ys : List Value), k ≤ n ∧ i = .int .i64 k ∧ wr.ownsRow base 9 1 (.slice A n c) n ys ∧ Hid (w.grownBy wr (Value.slice A n c).ownBlock)) (fun i _ => n - (intOf i).toNat)
  case atStart => exact ⟨0, xs, Nat.zero_le _, rfl, HO.out, World.grownBy.refl w _⟩
  case round =>
    obtain ⟨k, ys, hk, rfl, hown, hg⟩ := hrel
    have hg := hg.out
    by_cases hlt : k < n
    · obtain ⟨g, cap, hA, _, hg2⟩ := hown.form (by omega)
      injection hA with hA _ _
      subst hA
      have hl2 : ys.length = n * 1 := hown.1
      obtain ⟨z0, hcell0⟩ : ∃ u, wr.cell? ⟨g, k, none⟩ = some u := ⟨_, (hown.cellAt (k) (by omega)).trans (List.getElem?_eq_getElem (by omega))⟩
      have hfz0 := hown.frozenAt (k)
      have hkI : (k : Int) < (n : Int) := by omega
      have HO2 := Lib.hid (hown.stored (k) (.string { data := #[63] })).1
      have HG2 := Lib.hid (hg.trans (hown.stored (k) (.string { data := #[63] })).2)
      clear hown hg hl2
      go_wp2
      go_roundw
      case rel => exact ⟨k + 1, (ys.set (k) (.string { data := #[63] })), by omega, by go_num, HO2.out, HG2⟩
      case measure => simp [intOf]; omega
    · have hbs := grown_size hg hbase
      go_wp2_with (at_builtin; refine wpList_append_rowsG rfl _ _ 28 rfl base 9 (.string ⟨#[]⟩) 1 16 Tryd.underlying28 info_string rfl (by decide) _ _ _ (by exact rfl) (hown.alloc _) _ 1 1 [sv { data := #[63] }] (by exact rfl) (Reads.lit wr 9 [sv { data := #[63] }] (0, 0) 1 1 rfl) (one_sv _) (by unfold maxLen; omega) (by omega) (Nat.le_trans hbs (balloc _ _).size) ?_; intro A' c' w' hown' hg')
      go_end0
      exact ⟨rfl, (hg.trans (World.grownBy_alloc wr _ _)).trans hg'⟩
set_option maxRecDepth 100000 in
set_option maxHeartbeats 800000 in
theorem spoilWishes (base : Nat) (xs : List Value) (n : Nat) (A : Option Addr) (c : Nat) (w : World) (hown : w.ownsRow base 95 2 (.slice A n c) n xs) (hbase : base ≤ w.heap.size) (hn : n ≤ 2000000) :
    Calls Tryd.prog 66 #[.slice A n c] w fun e w' => e = .returned (.tuple #[]) ∧ w.grownBy w' (Value.slice A n c).ownBlock := by
  have HO := Lib.hid hown
  clear hown
  go_enter Tryd.func66, Tryd.ntmps66
  go_wp2
  go_loopw [2] (fun i wr => ∃ (k : Nat) (ys : List Value), k ≤ n ∧ i = .int .i64 k ∧ wr.ownsRow base 95 2 (.slice A n c) n ys ∧ Hid (w.grownBy wr (Value.slice A n c).ownBlock)) (fun i _ => n - (intOf i).toNat)
  case atStart => exact ⟨0, xs, Nat.zero_le _, rfl, HO.out, World.grownBy.refl w _⟩
  case round =>
    obtain ⟨k, ys, hk, rfl, hown, hg⟩ := hrel
    have hg := hg.out
    by_cases hlt : k < n
    · obtain ⟨g, cap, hA, _, hg2⟩ := hown.form (by omega)
      injection hA with hA _ _
      subst hA
      have hl2 : ys.length = n * 2 := hown.1
      obtain ⟨z0, hcell0⟩ : ∃ u, wr.cell? ⟨g, k * 2, none⟩ = some u := ⟨_, (hown.cellAt (k * 2) (by omega)).trans (List.getElem?_eq_getElem (by omega))⟩
      have hfz0 := hown.frozenAt (k * 2)
      obtain ⟨z1, hcell1⟩ : ∃ u, wr.cell? ⟨g, k * 2 + 1, none⟩ = some u := ⟨_, (hown.cellAt (k * 2 + 1) (by omega)).trans (List.getElem?_eq_getElem (by omega))⟩
      have hfz1 := hown.frozenAt (k * 2 + 1)
      have hkI : (k : Int) < (n : Int) := by omega
      have HO2 := Lib.hid ((hown.stored (k * 2) (.string { data := #[63] })).1.stored (k * 2 + 1) (.int .i64 0)).1
      have HG2 := Lib.hid ((hg.trans (hown.stored (k * 2) (.string { data := #[63] })).2).trans ((hown.stored (k * 2) (.string { data := #[63] })).1.stored (k * 2 + 1) (.int .i64 0)).2)
      clear hown hg hl2
      go_wp2
      go_roundw
      case rel => exact ⟨k + 1, ((ys.set (k * 2) (.string { data := #[63] })).set (k * 2 + 1) (.int .i64 0)), by omega, by go_num, HO2.out, HG2⟩
      case measure => simp [intOf]; omega
    · have hbs := grown_size hg hbase
      go_wp2_with (at_builtin; refine wpList_append_rowsG rfl _ _ 27 rfl base 95 (.agg #[.string ⟨#[]⟩, .int .i64 0]) 2 24 Tryd.underlying27 info_wish rfl (by decide) _ _ _ (by exact rfl) (hown.alloc _) _ 1 1 (wv [(nos, 0)]) (by exact rfl) (Reads.lit wr 95 (wv [(nos, 0)]) (0, 0) 2 1 rfl) (one_wv _) (by unfold maxLen; omega) (by omega) (Nat.le_trans hbs (balloc _ _).size) ?_; intro A' c' w' hown' hg')
      go_end0
      exact ⟨rfl, (hg.trans (World.grownBy_alloc wr _ _)).trans hg'⟩
theorem gC {P : Program} {f : FuncId} {args : Array Value} {w : World} {v : Value} {r : Option Nat} (h : Calls P f args w fun e w' => e = .returned v ∧ w.grownBy w' r) : Calls P f args w fun e w' => ∃ v', e = .returned v' ∧ (v' = v ∧ w.grownBy w' r) :=
  h.mono fun _ _ h => ⟨v, h.1, rfl, h.2⟩
set_option maxRecDepth 100000 in
theorem index_at0 (g : Nat) (w : World) : (Instr.indexAt 52 (.slice (some ⟨g, 0, none⟩) 1 1) (.int .i64 ((0 : Nat) : Int))).run Tryd.prog w = .ok (.pointer (some ⟨g, 0, none⟩)) w := by
  exact index_m 52 Tryd.underlying52 24 (fun _ => by kernel_rfl) g 0 1 1 0 (by decide) w
set_option maxRecDepth 100000 in
set_option maxHeartbeats 1600000 in
theorem spoilMq1 (m : Mq) (vc vw vf : Value) (g base : Nat) (w : World) (hC : Cells w g (mqCells m vc vw vf)) (hlt : g < w.heap.size) (hbg : base ≤ g) (hr : Own3 w base m vc vw vf) (hS : Short m 1000001) (n1 : some g ≠ vc.ownBlock) (n2 : some g ≠ vw.ownBlock) (n3 : some g ≠ vf.ownBlock) :
    Calls Tryd.prog 35 #[.slice (some ⟨g, 0, none⟩) 1 1] w fun e w' => e = .returned (.tuple #[]) ∧ Below base w w' := by
  have hb0 : base ≤ w.heap.size := Nat.le_of_lt (Nat.lt_of_le_of_lt hbg hlt)
  obtain ⟨oc, ow, of⟩ := hr
  obtain ⟨s1, s2, s3⟩ := hS
  obtain ⟨Ac, cc, rfl, _, _⟩ := own_shape oc
  obtain ⟨Aw, cw, rfl, _, _⟩ := own_shape ow
  obtain ⟨Af, cf, rfl, _, _⟩ := own_shape of
  have d12 := own_apart ow oc rfl
  have d13 := own_apart of oc rfl
  have d23 := own_apart of ow rfl
  go_enter Tryd.func35, Tryd.ntmps35
  refine Has.start 31 [(0, .slice (some ⟨g, 0, none⟩) 1 1)] rfl rfl ⟨rfl, trivial⟩ ?_
  intro a0 H0
  refine H0.rg 1 fun a1 H1 => nt ?_
  refine wp_block ?_
  refine wp_loop_up 1 (fun k a w' => Has a 31 [(0, .slice (some ⟨g, 0, none⟩) 1 1), (2, .int .i64 ((k : Nat) : Int))] ∧ (if k = 0 then w = w' else Below base w w')) ?_ ?_
  · exact ⟨H1.keep ⟨rfl, rfl, trivial⟩, rfl⟩
  · rintro k a2 w1 hkn ⟨H2, hw⟩
    match k, hkn with
    | 0, _ =>
      rw [if_pos rfl] at hw
      subst hw
      refine H2.rg 2 fun a4 H4 => ?_
      refine H4.len gz rfl rfl rfl rfl Tryd.underlying52 ?_
      intro a5 H5
      refine H5.bb 0 rfl rfl rfl rfl rfl rfl (lss_i _ _ true (by decide) _ _ _) rfl fun a6 H6 => nt ?_
      refine H6.condT rfl ?_
      refine skip_wp ?_
      refine then_normal ?_
      repeat (refine wp_seq ?_)
      refine wp_block ?_
      have oc0 := oc
      refine H6.rg 2 fun a8 H8 => ?_
      refine H8.index gz rfl rfl rfl rfl rfl (index_at0 _ _) ?_
      intro a9 H9
      refine H9.ms 1 fun a10 H10 => ?_
      refine H10.ld 0 (load1_26 _ _ _ _ _ _ (hC.get 15 _ rfl)) fun a11 H11 => ?_
      refine H11.cl (gC ((spoilInts base _ _ _ _ _ oc hb0 (by omega)))) ?_
      rintro a12 _ w1 ⟨rfl, hg⟩ H12
      have hC := hC.kept hg hlt n1
      have ow := ow.kept hg d12
      have of := of.kept hg d13
      have hbel := (Below.refl base w).grown hg hb0 (fun k hk => (oc0.lt k hk).1)
      have hlt := Nat.lt_of_lt_of_le hlt hg.size
      have hb0 := Nat.le_trans hb0 hg.size
      clear hg
      refine nt ?_
      refine H12.rg 2 fun a14 H14 => ?_
      refine H14.index gz rfl rfl rfl rfl rfl (index_at0 _ _) ?_
      intro a15 H15
      refine H15.ms 1 fun a16 H16 => ?_
      refine H16.ld 0 (load1_27 _ _ _ _ _ _ (hC.get 22 _ rfl)) fun a17 H17 => ?_
      refine H17.cl (gC ((spoilWishes base _ _ _ _ _ ow hb0 (by omega)))) ?_
      rintro a18 _ w2 ⟨rfl, hg⟩ H18
      have hC := hC.kept hg hlt n2
      have of := of.kept hg d23
      have hbel := hbel.grown hg hb0 (fun k hk => (ow.lt k hk).1)
      have hlt := Nat.lt_of_lt_of_le hlt hg.size
      have hb0 := Nat.le_trans hb0 hg.size
      clear hg
      refine nt ?_
      refine H18.rg 2 fun a20 H20 => ?_
      refine H20.index gz rfl rfl rfl rfl rfl (index_at0 _ _) ?_
      intro a21 H21
      refine H21.ms 1 fun a22 H22 => ?_
      refine H22.ld 0 (load1_28 _ _ _ _ _ _ (hC.get 23 _ rfl)) fun a23 H23 => ?_
      refine H23.cl (gC ((spoilStrs base _ _ _ _ _ of hb0 (by omega)))) ?_
      rintro a24 _ w3 ⟨rfl, hg⟩ H24
      have hC := hC.kept hg hlt n3
      have hbel := hbel.grown hg hb0 (fun k hk => (of.lt k hk).1)
      have hlt := Nat.lt_of_lt_of_le hlt hg.size
      have hb0 := Nat.le_trans hb0 hg.size
      clear hg
      refine nt ?_
      refine H24.rg 2 fun a26 H26 => ?_
      refine H26.any (w' := w3) gz rfl rfl (.agg (mqCells (mq0 (-9)) nilV nilV nilV).toArray) (by intro cs b h; cases h) (by kernel_rfl) (by kernel_rfl) ?_
      intro a27 H27
      refine H27.index gz rfl rfl rfl rfl rfl (index_at0 _ _) ?_
      intro a28 H28
      refine H28.storeS rfl rfl rfl rfl (L := mqCells (mq0 (-9)) nilV nilV nilV) rfl hC size_mq rfl rfl rfl ?_
      intro a29 w4 H29 hg hs _
      have hbel := hbel.grown hg hb0 (fun k hk => by injection hk with hk; rw [← hk]; exact hbg)
      refine wpList_nil ?_
      refine block_normal ?_
      refine then_normal ?_
      refine H29.rg 1 fun a30 H30 => ?_
      refine H30.bb 1 rfl rfl rfl rfl rfl rfl (succ_i _ (by decide) _ _ _) rfl fun a32 H32 => nt ?_
      exact ⟨Nat.lt_succ_self 0, H32.keep ⟨rfl, rfl, trivial⟩, by rw [if_neg (by decide)]; exact hbel⟩
    | 1, _ =>
      rw [if_neg (by decide)] at hw
      refine H2.rg 2 fun a4 H4 => ?_
      refine H4.len gz rfl rfl rfl rfl Tryd.underlying52 ?_
      intro a5 H5
      refine H5.bb 0 rfl rfl rfl rfl rfl rfl (lss_i _ _ false (by decide) _ _ _) rfl fun a6 H6 => nt ?_
      refine H6.condF rfl ?_
      refine wp_exit ?_
      repeat (with_reducible refine then_exit ?_)
      refine block_leave ?_
      exact bodyPost_end (results_none rfl _ _ _) H6.df ⟨rfl, hw⟩
end Go.Proofs.YtkcdkjpmbjcmdaaDoor

/-
  kiosklaw0.Mqs over rows of packets.
-/
namespace Go.Proofs.YtkcdkjpmbjcmdaaDoor
open Go.RowKit

/-- each packet's rows, between its own two bounds. -/
structure Bnd (w : World) (lo hi : Nat) (m : Mq) (vc vw vf : Value) : Prop where
  rows : Rows3 w lo m vc vw vf
  lt : ∀ q, (vc.ownBlock = some q ∨ vw.ownBlock = some q ∨ vf.ownBlock = some q) → q < hi
  len : Lens m 1000001
theorem Prows.lay {w : World} {b hi : Nat} {l : List Mq} {cs : List Value} (h : Prows w b l cs hi) : ∃ L : Nat → Nat, (∀ i j, i ≤ j → L i ≤ L j) ∧ b ≤ L 0 ∧ (∀ i, L i ≤ hi) ∧ ∀ k m, l[k]? = some m → ∃ vc vw vf, Bnd w (L k) (L (k + 1)) m vc vw vf ∧ ∀ j v, (mqCells m vc vw vf)[j]? = some v → cs[k * 24 + j]? = some v := by
  induction h with
  | @nil hi h => exact ⟨fun _ => hi, fun _ _ _ => Nat.le_refl _, h, fun _ => Nat.le_refl _, fun k m hk => by simp at hk⟩
  | @snoc l xs m0 cs0 hi lo hi' hp h1 h2 hm ih =>
    have hlen := hp.len
    obtain ⟨L, hmon, h0, hL, hk⟩ := ih
    obtain ⟨vc, vw, vf, rfl, hR, hlt, hln, _⟩ := hm
    refine ⟨fun i => if i < l.length then L i else if i = l.length then lo else hi', fun i j hij => ?_, ?_, fun i => ?_, fun k m hkm => ?_⟩
    · have a := hL i
      have c := hmon i j hij
      simp only
      split <;> split <;> (try split) <;> (try split) <;> omega
    · have a := hp.le
      simp only
      split
      · exact h0
      · split <;> omega
    · have a := hL i
      simp only
      split
      · omega
      · split <;> omega
    · by_cases hlt2 : k < l.length
      · rw [List.getElem?_append_left hlt2] at hkm
        obtain ⟨vc1, vw1, vf1, hB, hc⟩ := hk k m hkm
        refine ⟨vc1, vw1, vf1, ⟨?_, fun q hq => ?_, hB.len⟩, fun j v hv => ?_⟩
        · simp only [hlt2, if_true]
          exact hB.rows
        · have a := hB.lt q hq
          have c := hL (k + 1)
          simp only
          split
          · exact a
          · split <;> omega
        · have := hc j v hv
          rw [List.getElem?_append_left (List.getElem?_eq_some_iff.1 this).1]
          exact this
      · have hke : k = l.length := by
          have := (List.getElem?_eq_some_iff.1 hkm).1
          rw [List.length_append, List.length_singleton] at this
          omega
        subst hke
        rw [List.getElem?_append_right (Nat.le_refl _), Nat.sub_self] at hkm
        injection hkm with hkm
        subst hkm
        refine ⟨vc, vw, vf, ⟨?_, fun q hq => ?_, hln⟩, fun j v hv => ?_⟩
        · simp only [Nat.lt_irrefl, if_false, if_true]
          exact hR
        · have a := hlt q hq
          simp only
          rw [if_neg (by omega), if_neg (by omega)]
          exact a
        · rw [List.getElem?_append_right (by omega), hlen, Nat.add_sub_cancel_left]
          exact hv
theorem own_over {w w' : World} {b e s n : Nat} {v : Value} {xs : List Value} {r : Option Nat} (h : w.ownsRow b e s v n xs) (hg : w.grownBy w' r) (hr : ∀ q, r = some q → q < b) : w'.ownsRow b e s v n xs := by
  refine h.kept hg ?_
  rcases hv : v.ownBlock with _ | q1
  · exact .inl rfl
  · refine .inr fun he => ?_
    have a := (h.lt q1 hv).1
    have c := hr q1 he.symm
    omega
theorem Bnd.over {w w' : World} {lo hi : Nat} {m : Mq} {vc vw vf : Value} {r : Option Nat} (h : Bnd w lo hi m vc vw vf) (hg : w.grownBy w' r) (hr : ∀ q, r = some q → q < lo) : Bnd w' lo hi m vc vw vf :=
  ⟨⟨own_over h.rows.1 hg hr, own_over h.rows.2.1 hg hr, own_over h.rows.2.2 hg hr⟩, h.lt, h.len⟩
theorem Bnd.row {w w' : World} {lo hi b' s n : Nat} {m : Mq} {vc vw vf v : Value} {xs : List Value} (h : Bnd w lo hi m vc vw vf) (hO : w.ownsRow b' 30 s v n xs) (hg : w.grownBy w' v.ownBlock) : Bnd w' lo hi m vc vw vf := ⟨h.rows.row hO hg rfl, h.lt, h.len⟩
theorem own_sets {b e s n cap g : Nat} : ∀ (vs : List Value) (o : Nat) {w : World} {cs : List Value}, w.ownsRow b e s (.slice (some ⟨g, 0, none⟩) n cap) n cs → ∃ cs', (w.setCells g o vs).ownsRow b e s (.slice (some ⟨g, 0, none⟩) n cap) n cs' ∧ w.grownBy (w.setCells g o vs) (some g) ∧ ∀ i, (i < o ∨ o + vs.length ≤ i) → cs'[i]? = cs[i]?
  | [], _, w, cs, h => ⟨cs, h, World.grownBy.refl w _, fun _ _ => rfl⟩
  | v :: vs, o, w, cs, h => by
    obtain ⟨h1, h2⟩ := h.stored o v
    obtain ⟨cs', h3, h4, h5⟩ := own_sets vs (o + 1) h1
    refine ⟨cs', h3, h2.trans h4, fun i hi => ?_⟩
    rw [List.length_cons] at hi
    rw [h5 i (by omega), List.getElem?_set_ne (by omega)]
theorem fieldAm_11 (o g : Nat) (w : World) : (Instr.fieldAt 30 (.pointer (some ⟨g, o, none⟩)) 11).run Tryd.prog w = .ok (.pointer (some ⟨g, o + 15, none⟩)) w := by
  kernel_rfl
theorem fieldAm_18 (o g : Nat) (w : World) : (Instr.fieldAt 30 (.pointer (some ⟨g, o, none⟩)) 18).run Tryd.prog w = .ok (.pointer (some ⟨g, o + 22, none⟩)) w := by
  kernel_rfl
theorem fieldAm_19 (o g : Nat) (w : World) : (Instr.fieldAt 30 (.pointer (some ⟨g, o, none⟩)) 19).run Tryd.prog w = .ok (.pointer (some ⟨g, o + 23, none⟩)) w := by
  kernel_rfl
/-- the packets from k on are as they were. -/
def SpRest (l : List Mq) (L : Nat → Nat) (k : Nat) (w : World) (cs : List Value) : Prop :=
  ∀ j m, k ≤ j → l[j]? = some m → ∃ vc vw vf, Bnd w (L j) (L (j + 1)) m vc vw vf ∧ ∀ i v, (mqCells m vc vw vf)[i]? = some v → cs[j * 24 + i]? = some v
theorem SpRest.over {l : List Mq} {L : Nat → Nat} {k : Nat} {w w' : World} {cs : List Value} {r : Option Nat} (h : SpRest l L k w cs) (hmon : ∀ i j, i ≤ j → L i ≤ L j) (hg : w.grownBy w' r) (hr : ∀ q, r = some q → q < L k) : SpRest l L k w' cs := by
  intro j m hj hm
  obtain ⟨vc, vw, vf, h1, h2⟩ := h j m hj hm
  exact ⟨vc, vw, vf, h1.over hg fun q hq => Nat.lt_of_lt_of_le (hr q hq) (hmon k j hj), h2⟩
theorem SpRest.row {l : List Mq} {L : Nat → Nat} {k b s n : Nat} {w w' : World} {cs cs' xs : List Value} {v : Value} (h : SpRest l L k w cs) (hO : w.ownsRow b 30 s v n xs) (hg : w.grownBy w' v.ownBlock) (hc : ∀ i, k * 24 ≤ i → cs'[i]? = cs[i]?) : SpRest l L k w' cs' := by
  intro j m hj hm
  obtain ⟨vc, vw, vf, h1, h2⟩ := h j m hj hm
  refine ⟨vc, vw, vf, h1.row hO hg, fun i v hv => ?_⟩
  rw [hc _ (by have := Nat.mul_le_mul_right 24 hj; omega)]
  exact h2 i v hv
set_option maxRecDepth 100000 in
set_option maxHeartbeats 3200000 in
theorem spoilMqs (l : List Mq) (B : Nat) (cs : List Value) (A : Option Addr) (n c : Nat) (hn : l.length = n) (hlim : n ≤ 1000000) (w : World) (hown : w.ownsRow B 30 24 (.slice A n c) n cs) (hle : B ≤ w.heap.size) {hi : Nat} (hp : Prows w B l cs hi) :
    Calls Tryd.prog 35 #[.slice A n c] w fun e w' => e = .returned (.tuple #[]) ∧ Below B w w' := by
  obtain ⟨L, hmon, h0, _, hk0⟩ := hp.lay
  go_enter Tryd.func35, Tryd.ntmps35
  refine Has.start 31 [(0, .slice A n c)] rfl rfl ⟨rfl, trivial⟩ ?_
  intro a0 H0
  refine H0.rg 1 fun a1 H1 => nt ?_
  refine wp_block ?_
  refine wp_loop_up n (fun k a w' => Has a 31 [(0, .slice A n c), (2, .int .i64 ((k : Nat) : Int))] ∧ Below B w w' ∧ B ≤ w'.heap.size ∧ ∃ cs', w'.ownsRow B 30 24 (.slice A n c) n cs' ∧ SpRest l L k w' cs') ⟨H1.keep ⟨rfl, rfl, trivial⟩, Below.refl _ _, hle, cs, hown, fun j m _ hm => hk0 j m hm⟩ ?_
  clear H0 H1 hown hle hk0 hp
  rintro k a1 w1 hk ⟨H1, hb1, hs1, cs1, hO1, hR1⟩
  refine H1.rg 2 fun a2 H2 => ?_
  refine H2.len gz rfl rfl rfl rfl Tryd.underlying52 fun a3 H3 => ?_
  by_cases hlt : k < n
  rotate_left
  · refine H3.bb 0 rfl rfl rfl rfl rfl rfl (lss_i _ _ false (by rw [decide_eq_false_iff_not]; omega) _ _ _) rfl fun a4 H4 => nt (H4.condF rfl ?_)
    refine wp_exit ?_
    repeat (with_reducible refine then_exit ?_)
    refine block_leave ?_
    exact bodyPost_end (results_none rfl _ _ _) H4.df ⟨rfl, hb1⟩
  refine H3.bb 0 rfl rfl rfl rfl rfl rfl (lss_i _ _ true (by rw [decide_eq_true_iff]; omega) _ _ _) rfl fun a4 H4 => nt (H4.condT rfl ?_)
  refine skip_wp (then_normal ?_)
  obtain ⟨m, hm⟩ : ∃ m, l[k]? = some m := ⟨_, List.getElem?_eq_getElem (by omega)⟩
  obtain ⟨vc, vw, vf, ⟨⟨oc, ow, of⟩, hbl, l1, l2, l3⟩, hcs⟩ := hR1 k m (Nat.le_refl _) hm
  obtain ⟨g, cap, hA, hg1, _⟩ := hO1.form (by omega)
  injection hA with hA _ hcc
  subst hA
  obtain ⟨Ac, cc, rfl, _, _⟩ := own_shape oc
  obtain ⟨Aw, cw, rfl, _, _⟩ := own_shape ow
  obtain ⟨Af, cf, rfl, _, _⟩ := own_shape of
  have hBk : B ≤ L k := Nat.le_trans h0 (hmon 0 k (Nat.zero_le _))
  have hR1 : SpRest l L (k + 1) w1 cs1 := fun j m hj hm => hR1 j m (Nat.le_of_succ_le hj) hm
  replace H4 := H4.keep (l' := [(0, .slice (some ⟨g, 0, none⟩) n c), (2, .int .i64 ((k : Nat) : Int))]) ⟨rfl, rfl, trivial⟩
  have hix : ∀ w', (Instr.indexAt 52 (.slice (some ⟨g, 0, none⟩) n c) (.int .i64 ((k : Nat) : Int))).run Tryd.prog w' = .ok (.pointer (some ⟨g, 0 + k * 24, none⟩)) w' := fun w' => index_m 52 Tryd.underlying52 24 (fun _ => by kernel_rfl) _ _ _ _ _ hlt _
  have cell : ∀ {w' : World} {cs' : List Value} (i : Nat) (v : Value), w'.ownsRow B 30 24 (.slice (some ⟨g, 0, none⟩) n c) n cs' → cs'[k * 24 + i]? = some v → w'.cell? ⟨g, 0 + k * 24 + i, none⟩ = some v := by
    intro w' cs' i v hO hv
    have hj : k * 24 + i < n * 24 := by have := (List.getElem?_eq_some_iff.1 hv).1; have := hO.1; omega
    rw [Nat.zero_add, hO.cellAt _ hj]
    exact hv
  repeat (refine wp_seq ?_)
  refine wp_block ?_
  refine H4.rg 2 fun a8 H8 => ?_
  refine H8.index gz rfl rfl rfl rfl rfl (hix _) fun a9 H9 => ?_
  refine H9.go gz rfl rfl _ (run_field rfl (H9.ev rfl) (fun g w => fieldAm_11 (0 + k * 24) g w)) fun a10 H10 => ?_
  refine H10.ld 0 (load1_26 _ _ _ _ _ _ (cell 15 _ hO1 (hcs 15 _ rfl))) fun a11 H11 => ?_
  refine H11.cl (gC (spoilInts B _ _ _ _ _ (own_base oc hBk) hs1 (by omega))) ?_
  rintro a12 _ w2 ⟨rfl, hg⟩ H12
  have q1 : ∀ q, (Value.slice Ac m.codes.length cc).ownBlock = some q → q < L (k + 1) := fun q hq => hbl q (.inl hq)
  have hb2 := hb1.grown hg hs1 (fun q hq => Nat.le_trans hBk (oc.lt q hq).1)
  have hR2 := hR1.over hmon hg q1
  have ow2 := ow.kept hg (own_apart ow oc rfl)
  have of2 := of.kept hg (own_apart of oc rfl)
  have hO2 := hO1.kept hg (own_apart hO1 oc rfl)
  have hs2 := Nat.le_trans hs1 hg.size
  clear hg hR1 ow of hO1
  refine nt ?_
  replace H12 := H12.keep (l' := [(0, .slice (some ⟨g, 0, none⟩) n c), (2, .int .i64 ((k : Nat) : Int))]) ⟨rfl, rfl, trivial⟩
  refine H12.rg 2 fun a14 H14 => ?_
  refine H14.index gz rfl rfl rfl rfl rfl (hix _) fun a15 H15 => ?_
  refine H15.go gz rfl rfl _ (run_field rfl (H15.ev rfl) (fun g w => fieldAm_18 (0 + k * 24) g w)) fun a16 H16 => ?_
  refine H16.ld 0 (load1_27 _ _ _ _ _ _ (cell 22 _ hO2 (hcs 22 _ rfl))) fun a17 H17 => ?_
  refine H17.cl (gC (spoilWishes B _ _ _ _ _ (own_base ow2 hBk) hs2 (by omega))) ?_
  rintro a18 _ w3 ⟨rfl, hg⟩ H18
  have q2 : ∀ q, (Value.slice Aw m.wishes.length cw).ownBlock = some q → q < L (k + 1) := fun q hq => hbl q (.inr (.inl hq))
  have hb3 := hb2.grown hg hs2 (fun q hq => Nat.le_trans hBk (ow2.lt q hq).1)
  have hR3 := hR2.over hmon hg q2
  have of3 := of2.kept hg (own_apart of2 ow2 rfl)
  have hO3 := hO2.kept hg (own_apart hO2 ow2 rfl)
  have hs3 := Nat.le_trans hs2 hg.size
  clear hg hR2 ow2 of2 hO2
  refine nt ?_
  replace H18 := H18.keep (l' := [(0, .slice (some ⟨g, 0, none⟩) n c), (2, .int .i64 ((k : Nat) : Int))]) ⟨rfl, rfl, trivial⟩
  refine H18.rg 2 fun a20 H20 => ?_
  refine H20.index gz rfl rfl rfl rfl rfl (hix _) fun a21 H21 => ?_
  refine H21.go gz rfl rfl _ (run_field rfl (H21.ev rfl) (fun g w => fieldAm_19 (0 + k * 24) g w)) fun a22 H22 => ?_
  refine H22.ld 0 (load1_28 _ _ _ _ _ _ (cell 23 _ hO3 (hcs 23 _ rfl))) fun a23 H23 => ?_
  refine H23.cl (gC (spoilStrs B _ _ _ _ _ (own_base of3 hBk) hs3 (by omega))) ?_
  rintro a24 _ w4 ⟨rfl, hg⟩ H24
  have q3 : ∀ q, (Value.slice Af m.filters.length cf).ownBlock = some q → q < L (k + 1) := fun q hq => hbl q (.inr (.inr hq))
  have hb4 := hb3.grown hg hs3 (fun q hq => Nat.le_trans hBk (of3.lt q hq).1)
  have hR4 := hR3.over hmon hg q3
  have hO4 := hO3.kept hg (own_apart hO3 of3 rfl)
  have hs4 := Nat.le_trans hs3 hg.size
  clear hg hR3 of3 hO3
  refine nt ?_
  replace H24 := H24.keep (l' := [(0, .slice (some ⟨g, 0, none⟩) n c), (2, .int .i64 ((k : Nat) : Int))]) ⟨rfl, rfl, trivial⟩
  refine H24.rg 2 fun a26 H26 => ?_
  refine H26.any (w' := w4) gz rfl rfl (.agg (mqCells (mq0 (-9)) nilV nilV nilV).toArray) (by intro cs b h; cases h) (by kernel_rfl) (by kernel_rfl) fun a27 H27 => ?_
  refine H27.index gz rfl rfl rfl rfl rfl (hix _) fun a28 H28 => ?_
  have hth : w4.there g (0 + k * 24) (mqCells (mq0 (-9)) nilV nilV nilV).toArray.size := by
    intro j hj
    have hj : j < 24 := hj
    have hlc : 0 + k * 24 + j < n * 24 := by omega
    refine ⟨?_, hO4.frozenAt _⟩
    rw [hO4.cellAt _ hlc, List.getElem?_eq_getElem (by rw [hO4.1]; exact hlc)]
    rfl
  have hst := run_storeAt_mid (P := Tryd.prog) w4 g (0 + k * 24) 30 (mqCells (mq0 (-9)) nilV nilV nilV).toArray hth (by kernel_rfl) (by kernel_rfl)
  obtain ⟨cs5, hO5, hg5, hc5⟩ := own_sets (mqCells (mq0 (-9)) nilV nilV nilV) (0 + k * 24) hO4
  refine H28.run0 (gz rfl) rfl (run_store rfl (H28.ev rfl) (H28.ev rfl) hst) fun a29 H29 => ?_
  have hb5 := hb4.grown hg5 hs4 (fun q hq => by injection hq with hq; rw [← hq]; exact hg1)
  refine wpList_nil (block_normal (then_normal ?_))
  refine H29.rg 1 fun a30 H30 => ?_
  refine H30.bb 1 rfl rfl rfl rfl rfl rfl (succ_i k (by omega) _ _ _) rfl fun a32 H32 => nt ?_
  exact ⟨hlt, H32.keep ⟨rfl, rfl, trivial⟩, hb5, Nat.le_trans hs4 hg5.size, cs5, hO5, hR4.row hO4 hg5 fun i hi => hc5 i (.inr (by show _ + 24 ≤ _; omega))⟩
set_option maxRecDepth 100000 in
set_option maxHeartbeats 800000 in
theorem spoilBytesG (base : Nat) (xs : List UInt8) (n : Nat) (A : Option Addr) (c : Nat) (w : World) (hown : w.ownsRow base 5 1 (.slice A n c) n (xs.map bv)) (hbase : base ≤ w.heap.size) (hn : n ≤ 2000000) :
    Calls Tryd.prog 41 #[.slice A n c] w fun e w' => e = .returned (.tuple #[]) ∧ w.grownBy w' (Value.slice A n c).ownBlock := by
  have HO := Lib.hid hown
  clear hown
  go_enter Tryd.func41, Tryd.ntmps41
  go_wp2
  go_loopw [2] (fun i wr => ∃ (k : Nat) (ys : List UInt8), k ≤ n ∧ i = .int .i64 k ∧ wr.ownsRow base 5 1 (.slice A n c) n (ys.map bv) ∧ Hid (w.grownBy wr (Value.slice A n c).ownBlock)) (fun i _ => n - (intOf i).toNat)
  case atStart => exact ⟨0, xs, Nat.zero_le _, rfl, HO.out, World.grownBy.refl w _⟩
  case round =>
    obtain ⟨k, ys, hk, rfl, hown, hg⟩ := hrel
    have hg := hg.out
    by_cases hlt : k < n
    · obtain ⟨g, cap, hA, _, hg2⟩ := hown.form (by omega)
      injection hA with hA _ _
      subst hA
      obtain ⟨y, hy, hcell, hfz⟩ := own_cell hown k hlt
      have hkI : (k : Int) < (n : Int) := by omega
      have hy8 : y.toNat < 256 := y.toNat_lt
      have hx8 : y.toNat ^^^ 85 < 2 ^ 8 := Nat.xor_lt_two_pow (by omega) (by decide)
      have EV : Hid (bits .xor .u8 (y.toNat : Int) 85 = (((UInt8.ofNat (y.toNat ^^^ 85)).toNat : Nat) : Int)) := by
        show bits .xor .u8 (y.toNat : Int) ((85 : Nat) : Int) = _
        rw [u8_xor_nat _ _ hy8 (by decide), UInt8.toNat_ofNat_of_lt' hx8]
      have HO2 := Lib.hid (fun v hv => own_setv hown k (UInt8.ofNat (y.toNat ^^^ 85)) (v := v) hv)
      have HG2 := Lib.hid (fun v => hg.trans (hown.stored k v).2)
      clear hown hg hy
      go_wp2
      go_roundw
      case rel => exact ⟨k + 1, ys.set k (UInt8.ofNat (y.toNat ^^^ 85)), by omega, by go_num, HO2.out _ (by have := EV.out; exact congrArg _ this), HG2.out _⟩
      case measure => simp [intOf]; omega
    · have hbs := grown_size hg hbase
      go_wp2_with (at_builtin; refine wpList_append_rowsG rfl _ _ 31 rfl base 5 (.int .u8 0) 1 1 Tryd.underlying31 info_u8 rfl (by decide) _ _ _ (by exact rfl) (hown.alloc _) _ 1 1 [bv 5] (by exact rfl) (Reads.lit wr 5 [bv 5] (0, 0) 1 1 rfl) (bv_one [5]) (by unfold maxLen; omega) (by omega) (Nat.le_trans hbs (balloc _ _).size) ?_; intro A' c' w' hown' hg')
      go_end0
      exact ⟨rfl, (hg.trans (World.grownBy_alloc wr _ _)).trans hg'⟩
end Go.Proofs.YtkcdkjpmbjcmdaaDoor

/-
  kiosklaw19's own functions.
-/
namespace Go.Proofs.YtkcdkjpmbjcmdaaDoor
open Go.RowKit

theorem num19 (u : Int) (w : World) : Calls Tryd.prog 39 #[.int .i64 u] w fun e w' => e = .returned (.int .i64 u) ∧ w = w' := by
  go_enter Tryd.func39, Tryd.ntmps39
  go_wp2
  go_ret
  exact ⟨rfl, rfl⟩
theorem feedC (r x : List UInt8) (Ar Ax : Option Addr) (cr cx : Nat) (w : World) (hr : RB w w.heap.size Ar r) (hx : RB w w.heap.size Ax x) (hlr : r.length ≤ 40000) (hlx : x.length ≤ 40000) (hT : Wd w) :
    Calls Tryd.prog 37 #[.slice Ar r.length cr, .slice Ax x.length cx] w fun e w' => ∃ v, e = .returned v ∧ ∃ l left er vP AL cL cs, v = .tuple #[vP, .slice AL left.length cL, .int .i64 er] ∧ Fed (r ++ x) l left er ∧ w'.ownsRow w.heap.size 30 24 vP l.length cs ∧ PR w' w.heap.size l cs ∧ w'.ownsRow w.heap.size 5 1 (.slice AL left.length cL) left.length (left.map bv) ∧ Below w.heap.size w w' :=
  (feedW r x Ar Ax cr cx w hr hx hlr hlx hT).mono fun _ _ ⟨l, left, er, vP, AL, cL, cs, h1, h2, h3⟩ => ⟨_, h2, l, left, er, vP, AL, cL, cs, rfl, h1, h3⟩
theorem refFeedC (r x : List UInt8) (Ar Ax : Option Addr) (cr cx : Nat) (w : World) (hr : RB w w.heap.size Ar r) (hx : RB w w.heap.size Ax x) (hlr : r.length ≤ 40000) (hlx : x.length ≤ 40000) (hT : Wd w) :
    Calls Tryd.prog 38 #[.slice Ar r.length cr, .slice Ax x.length cx] w fun e w' => ∃ v, e = .returned v ∧ ∃ l left er vP AL cL cs, v = .tuple #[vP, .slice AL left.length cL, .int .i64 er] ∧ Fed (r ++ x) l left er ∧ w'.ownsRow w.heap.size 30 24 vP l.length cs ∧ PR w' w.heap.size l cs ∧ RB w' w'.heap.size AL left ∧ Below w.heap.size w w' :=
  (refFeed r x Ar Ax cr cx w hr hx hlr hlx hT).mono fun _ _ ⟨l, left, er, vP, AL, cL, cs, h1, h2, h3⟩ => ⟨_, h2, l, left, er, vP, AL, cL, cs, rfl, h1, h3⟩
theorem fed_cut : Fed ([] ++ [192]) [] [192] 0 := by
  have h := parsed_cut ping_may 1 (by rw [ping_lay]; decide)
  rw [ping_lay] at h
  exact .part (by decide) h
theorem fed_ping : Fed ([192] ++ [0]) [mq0 12] [] 0 := by
  have h := parsed_lay ping_may []
  rw [List.append_nil, ping_lay] at h
  exact .one (by decide) h .done
set_option maxRecDepth 100000 in
set_option maxHeartbeats 3200000 in
theorem wakes19 (w : World) (hT : Wd w) : Calls Tryd.prog 42 #[] w fun e w' => e = .returned (.bool true) ∧ Below w.heap.size w w' := by
  go_enter Tryd.func42, Tryd.ntmps42
  refine Has.start 48 [] rfl rfl trivial ?_
  intro a0 H0
  have O0 := Own.start w
  refine H0.rg 1 fun a1 H1 => nt ?_
  refine rl ?_
  obtain ⟨hby, hb⟩ := bytes_lit w [192] [.int .u8 192] rfl 5 1 rfl
  refine H1.any (w' := w.alloc (.cells ([.int .u8 192] : List Value).toArray 5)) gz rfl rfl (.slice (some ⟨w.heap.size, 0, none⟩) 1 1) (by intro cs b h; cases h) (by kernel_rfl) (by kernel_rfl) fun a2 H2 => ?_
  obtain ⟨_, _, e, hx⟩ := hby
  injection e with e1 _ _
  subst e1
  generalize w.alloc (.cells ([.int .u8 192] : List Value).toArray 5) = w1 at *
  have O1 := O0.call hb
  refine H2.cl (feedC [] [192] none (some ⟨w.heap.size, 0, none⟩) 0 1 w1 RB.nil hx (by decide) (by decide) (hT.below O1.bel)) ?_
  rintro a3 _ w2 ⟨l, left, er, vP, AL, cL, cs, rfl, hF, hP, _, hL, hb2⟩ H3
  obtain ⟨rfl, rfl, rfl⟩ := fed_one fed_cut hF
  have O2 := O1.call hb2
  obtain ⟨AP, cP, rfl, _, _⟩ := own_shape hP
  refine H3.ms 1 fun a4 H4 => ?_
  refine H4.ex (r := .slice AP 0 cP) 0 fun a5 H5 => ?_
  refine H5.ex (r := .slice AL 1 cL) 0 fun a6 H6 => ?_
  refine H6.ex (r := .int .i64 0) 3 fun a7 H7 => nt ?_
  refine H7.rg 1 fun a8 H8 => ?_
  obtain ⟨hby, hb⟩ := bytes_lit w2 [0] [.int .u8 0] rfl 5 1 rfl
  refine H8.any (w' := w2.alloc (.cells ([.int .u8 0] : List Value).toArray 5)) gz rfl rfl (.slice (some ⟨w2.heap.size, 0, none⟩) 1 1) (by intro cs b h; cases h) (by kernel_rfl) (by kernel_rfl) fun a9 H9 => ?_
  obtain ⟨_, _, e, hx⟩ := hby
  injection e with e1 _ _
  subst e1
  generalize w2.alloc (.cells ([.int .u8 0] : List Value).toArray 5) = w3 at *
  have O3 := O2.call hb
  have hL3 : RB w3 w3.heap.size AL [192] := (rb_of_own (xs := [192]) rfl (own_base hL (Nat.zero_le _)) (Nat.zero_le _)).next hb
  refine H9.cl (feedC [192] [0] AL (some ⟨w2.heap.size, 0, none⟩) cL 1 w3 hL3 hx (by decide) (by decide) (hT.below O3.bel)) ?_
  rintro a10 _ w4 ⟨l, left, er, vP, AM, cM, cs, rfl, hF, hP, _, _, hb4⟩ H10
  obtain ⟨rfl, rfl, rfl⟩ := fed_one fed_ping hF
  have O4 := O3.call hb4
  obtain ⟨AQ, cQ, rfl, _, _⟩ := own_shape hP
  refine H10.ms 1 fun a11 H11 => ?_
  refine H11.ex (r := .slice AQ 1 cQ) 0 fun a12 H12 => ?_
  refine H12.ex (r := .slice AM 0 cM) 0 fun a13 H13 => ?_
  refine H13.ex (r := .int .i64 0) 3 fun a14 H14 => nt ?_
  replace H14 := H14.keep (l' := [(1, .slice AP 0 cP), (2, .slice AL 1 cL), (3, .int .i64 0), (4, .slice AQ 1 cQ), (5, .slice AM 0 cM), (6, .int .i64 0)]) ⟨rfl, rfl, rfl, rfl, rfl, rfl, trivial⟩
  refine H14.rg 1 fun a H => ?_
  refine H.cq 0 (num19 0 _) fun a H => ?_
  refine H.bn 1 (eql_iB _ _ true rfl _ _ _) fun a H => ?_
  refine H.move (H.wt rfl rfl rfl) (.inl rfl) rfl rfl rfl fun a H => ?_
  refine H.call (H.wt rfl rfl rfl) rfl rfl rfl rfl (fun _ _ => by kernel_rfl) (quietC (num19 0 _)) ?_
  rintro a _ _ ⟨rfl, rfl⟩ H
  refine H.bin (H.wt rfl rfl rfl) rfl rfl rfl rfl rfl (eql_iB _ _ true rfl _ _ _) fun a H => ?_
  refine H.pick gz rfl rfl rfl rfl rfl fun a H => ?_
  refine H.ms 1 fun a H => ?_
  refine H.move (H.wt rfl rfl rfl) (.inl rfl) rfl rfl rfl fun a H => ?_
  refine H.len (H.wt rfl rfl rfl) rfl rfl rfl rfl Tryd.underlying52 fun a H => ?_
  refine H.bin (H.wt rfl rfl rfl) rfl rfl rfl rfl rfl (eql_iB _ _ true rfl _ _ _) fun a H => ?_
  refine H.pick gz rfl rfl rfl rfl rfl fun a H => ?_
  refine H.ms 1 fun a H => ?_
  refine H.move (H.wt rfl rfl rfl) (.inl rfl) rfl rfl rfl fun a H => ?_
  refine H.len (H.wt rfl rfl rfl) rfl rfl rfl rfl Tryd.underlying31 fun a H => ?_
  refine H.bin (H.wt rfl rfl rfl) rfl rfl rfl rfl rfl (eql_iB _ _ true rfl _ _ _) fun a H => ?_
  refine H.pick gz rfl rfl rfl rfl rfl fun a H => ?_
  refine H.ms 1 fun a H => ?_
  refine H.move (H.wt rfl rfl rfl) (.inl rfl) rfl rfl rfl fun a H => ?_
  refine H.len (H.wt rfl rfl rfl) rfl rfl rfl rfl Tryd.underlying52 fun a H => ?_
  refine H.bin (H.wt rfl rfl rfl) rfl rfl rfl rfl rfl (eql_iB _ _ true rfl _ _ _) fun a H => ?_
  refine H.pick gz rfl rfl rfl rfl rfl fun a H => ?_
  refine H.ms 1 fun a H => ?_
  refine H.move (H.wt rfl rfl rfl) (.inl rfl) rfl rfl rfl fun a H => ?_
  refine H.len (H.wt rfl rfl rfl) rfl rfl rfl rfl Tryd.underlying31 fun a H => ?_
  refine H.bin (H.wt rfl rfl rfl) rfl rfl rfl rfl rfl (eql_iB _ _ true rfl _ _ _) fun a H => ?_
  refine H.pick gz rfl rfl rfl rfl rfl fun a H => ?_
  refine H.ms 1 fun a H => nt (wp_ret ?_)
  repeat (first | (with_reducible refine block_ret ?_) | (with_reducible refine then_ret ?_))
  exact bodyPost_ret (results_tmp rfl _ _ _) H.df ⟨congrArg Ending.returned (H.at_ 0 _ rfl), O4.bel⟩
end Go.Proofs.YtkcdkjpmbjcmdaaDoor

/-
  How the argument of the laws over 'kiosk/kiosklaw19.Ask' reads.
-/
namespace Go.Proofs.YtkcdkjpmbjcmdaaDoor
open Go.ChangeShapes Go.WideShapes Go.ChangeAt Go.RowKit Go.Deep

def Ask19 (W : World) (A : Option Addr) (len : Nat) : Prop :=
  ∀ i, i < len → ∃ (b o : Nat) (xs0 : List UInt8) (B0 : Option Addr) (p0 : Nat) (xs1 : List UInt8) (B1 : Option Addr) (p1 : Nat), A = some ⟨b, o, none⟩ ∧ b < W.heap.size ∧ W.cell? ⟨b, o + i * 2, none⟩ = some (.slice B0 xs0.length p0) ∧ xs0.length ≤ p0 ∧ p0 ≤ 140737488351232 ∧ RB W W.heap.size B0 xs0 ∧ W.cell? ⟨b, o + i * 2 + 1, none⟩ = some (.slice B1 xs1.length p1) ∧ xs1.length ≤ p1 ∧ p1 ≤ 140737488351232 ∧ RB W W.heap.size B1 xs1

theorem Ask19.below {W W' : World} {A : Option Addr} {len : Nat} (h : Ask19 W A len) (hb : Below W.heap.size W W') : Ask19 W' A len := by
  intro i hi
  obtain ⟨b, o, xs0, B0, p0, xs1, B1, p1, hA, hlt, c0, a0, z0, r0, c1, a1, z1, r1⟩ := h i hi
  exact ⟨b, o, xs0, B0, p0, xs1, B1, p1, hA, Nat.lt_of_lt_of_le hlt hb.size, (hb.cell hlt).trans c0, a0, z0, r0.next hb, (hb.cell hlt).trans c1, a1, z1, r1.next hb⟩
theorem Ask19.cells : Tryd.prog.cellsOf 56 = 2 := by kernel_rfl
theorem Ask19.of {H : Type} {enc : TypeId × Value → H} {W : World} {v : Value} {d : DataW H} {p : List MemPlace} (h : Comes enc W 54 v d p) :
    ∃ (A : Option Addr) (len cap : Nat), v = .slice A len cap ∧ len ≤ cap ∧ cap ≤ maxLen ∧ Ask19 W A len := by
  obtain ⟨A, len, cap, fuel, rfl, hl, hc, hi⟩ := read_rows Tryd.underlying54 Ask19.cells (by decide) h
  refine ⟨A, len, cap, rfl, hl, hc, fun i hlt => ?_⟩
  obtain ⟨b, o, cs, x, hA, hblt, hlen, hcell, htr, hft⟩ := hi i hlt
  match cs, hlen with
  | [k0, k1], _ =>
    have e_bytes : Tryd.prog.cellsOf 31 = 1 := by kernel_rfl
    obtain ⟨ys0, m0, _, ex0, _, yl0, hf0⟩ := DataW.trod_struct Tryd.underlying56 htr
    rw [ex0] at hft
    have f0_0 := hf0 0 _ rfl
    simp only [List.getElem_toArray, List.getElem_cons_zero, e_bytes, List.drop_zero, List.take_succ_cons, List.take_zero] at f0_0
    rw [List.getElem?_eq_getElem (by rw [yl0]; decide)] at f0_0
    have gf0_0 := Fit.struct hft Tryd.underlying56 0 _ rfl _ (List.getElem?_eq_getElem (by rw [yl0]; decide))
    obtain ⟨xs0, B0, p0, e0, a0, z0, r0⟩ := read_bytes gf0_0 f0_0
    simp only [List.cons.injEq, and_true] at e0
    subst e0
    have f0_1 := hf0 1 _ rfl
    simp only [List.getElem_toArray, List.getElem_cons_zero, List.getElem_cons_succ, e_bytes, List.drop_zero, List.take_succ_cons, List.take_zero, List.drop_succ_cons] at f0_1
    rw [List.getElem?_eq_getElem (by rw [yl0]; decide)] at f0_1
    have gf0_1 := Fit.struct hft Tryd.underlying56 1 _ rfl _ (List.getElem?_eq_getElem (by rw [yl0]; decide))
    obtain ⟨xs1, B1, p1, e1, a1, z1, r1⟩ := read_bytes gf0_1 f0_1
    simp only [List.cons.injEq, and_true] at e1
    subst e1
    have c0 := hcell 0 (by omega)
    have c1 := hcell 1 (by omega)
    exact ⟨b, o, xs0, B0, p0, xs1, B1, p1, hA, hblt, c0, a0, z0, r0, c1, a1, z1, r1⟩

end Go.Proofs.YtkcdkjpmbjcmdaaDoor

/-
  That the stream's packets are the page's: the walk.
-/
namespace Go.Proofs.YtkcdkjpmbjcmdaaDoor
open Go.RowKit

theorem size_f : (Tryd.prog.info? 56).map (·.size) = some 2 := by kernel_rfl
theorem zero_f (w : World) : (zeroValue 56).run Tryd.prog w = .ok (.agg [nilV, nilV].toArray) w := by kernel_rfl
theorem fieldF_0 (g : Nat) (w : World) : (Instr.fieldAt 56 (.pointer (some ⟨g, 0, none⟩)) 0).run Tryd.prog w = .ok (.pointer (some ⟨g, 0, none⟩)) w := by kernel_rfl
theorem fieldF_1 (g : Nat) (w : World) : (Instr.fieldAt 56 (.pointer (some ⟨g, 0, none⟩)) 1).run Tryd.prog w = .ok (.pointer (some ⟨g, 1, none⟩)) w := by kernel_rfl
theorem load_f {w : World} {b o : Nat} {l : List Value} (hl : l.length = 2) (h : w.rangeAt b o l) : (Instr.loadAt 56 (.pointer (some ⟨b, o, none⟩))).run Tryd.prog w = .ok (.agg l.toArray) w :=
  run_loadAt_mid w b o 56 _ _ h Tryd.underlying56 rfl (by rw [size_f]; simp [hl])
theorem Has.more {a : Act} {n : Nat} {l : List (Nat × Value)} (H : Has a n l) {k : Nat} {v : Value} (h : a.eval (.tmp k) = v) : Has a n ((k, v) :: l) := by
  refine ⟨H.sz, H.df, fun j u hj => ?_⟩
  have hj : (bif Nat.beq k j then some v else look l j) = some u := hj
  cases hk : Nat.beq k j with
  | true =>
    rw [hk] at hj
    injection hj with hj
    rw [← Nat.eq_of_beq_eq_true hk, h, hj]
  | false =>
    rw [hk] at hj
    exact H.at_ j u hj
theorem spC {P : Program} {f : FuncId} {args : Array Value} {w : World} {v : Value} {B : Nat} (h : Calls P f args w fun e w' => e = .returned v ∧ Below B w w') : Calls P f args w fun e w' => ∃ v', e = .returned v' ∧ (v' = v ∧ Below B w w') :=
  h.mono fun _ _ h => ⟨v, h.1, rfl, h.2⟩
theorem fed_left {x : List UInt8} {l : List Mq} {y : List UInt8} {e : Int} (h : Fed x l y e) : y.length + l.length * 2 ≤ x.length := by
  induction h with
  | done => exact Nat.le_refl _
  | part => simp
  | bad => simp
  | one _ h _ ih =>
    have := parsed_two h
    rw [List.length_drop] at ih
    rw [List.length_cons]
    omega
section
variable {ops : Array Oper} {Q : Exit → Act → World → Prop} {n : Nat} {l fixed : List (Nat × Value)} {F : World → Prop} {es : List EntC} {i s : Nat} {o : Oper}
/-- what a predicate tells is moved on. -/
theorem kv {q : Value → World → Prop} {t : Nat} (ho : ops[i]? = some o) (hp : o.op = .assign (.tmp t)) (hd : o.dst = some s) (hk : ∀ a w, KnownR (afts ops i) a w es → q (a.eval (.tmp t)) w) (hg : okG ops (fixed ++ knownE (afts ops i) es) o = true := by rfl) : HeavyE ops Q n fixed F es (er i s [] q) :=
  kx (t := er i s [] q) (fun a w _ hK _ => ⟨a.eval (.tmp t), w, run_move (.inr hp) rfl, hk a w hK, Below.refl _ _⟩) ho hd hg
end
theorem copyB {W : World} {B : Nat} (xs : List UInt8) (A : Option Addr) (c : Nat) (w : World) (hx : RB w w.heap.size A xs) (hn : xs.length ≤ 140737488351232) (hB : B ≤ w.heap.size) (_h : W.heap.size = B) :
    Calls Tryd.prog 32 #[.slice A xs.length c] w fun e w' => ∃ v, e = .returned v ∧ (RowIs B xs v w' ∧ Below w.heap.size w w') :=
  (copyC xs A c w hx hn).mono fun _ _ ⟨v, h1, h2, h3⟩ => ⟨v, h1, h2.base hB, h3⟩
set_option maxRecDepth 100000 in
set_option maxHeartbeats 6400000 in
theorem streamFeeds_walk (A : Option Addr) (len cap : Nat) (w : World) (ha : Ask19 w A len) (hT : Wd w) :
    Calls Tryd.prog 20 #[.slice A len cap] w fun e w' => e = .returned (.bool true) ∧ Below w.heap.size w w' := by
  go_enter Tryd.func20, Tryd.ntmps20
  refine Has.start 106 [(0, .slice A len cap)] rfl rfl ⟨rfl, trivial⟩ ?_
  intro a0 H0
  have O0 := Own.start w
  refine H0.rg 1 fun a1 H1 => nt ?_
  refine wp_seq_join (fun a w' => Has a 106 [(0, .slice A len cap)] ∧ Own w w.heap.size [] w') ?_ ?_
  rotate_left
  · rintro a2 w1 ⟨H2, O1⟩
    refine rl ?_
    refine H2.call gz rfl rfl rfl rfl (fun _ _ => by kernel_rfl) (belowC (wakes19 w1 (hT.below O1.bel))) ?_
    rintro a3 _ w2 ⟨rfl, hb⟩ H3
    refine H3.ms 1 fun a4 H4 => nt (wp_ret ?_)
    repeat (first | (with_reducible refine block_ret ?_) | (with_reducible refine then_ret ?_))
    exact bodyPost_ret (results_tmp rfl _ _ _) H4.df ⟨congrArg Ending.returned (H4.at_ 2 _ rfl), (O1.call hb).bel⟩
  refine H1.rg 1 fun a2 H2 => nt ?_
  refine wp_block ?_
  refine wp_loop_up len (fun k a w' => Has a 106 [(0, .slice A len cap), (3, .int .i64 ((k : Nat) : Int))] ∧ Own w w.heap.size [] w') ⟨H2.keep ⟨rfl, rfl, trivial⟩, O0⟩ ?_
  rintro k a3 w1 hkn ⟨H3, O1⟩
  obtain ⟨b1, e1⟩ : ∃ b, decide ((k : Int) < (len : Int)) = b := ⟨_, rfl⟩
  obtain ⟨b2, e2⟩ : ∃ b, decide ((k : Int) < 12) = b := ⟨_, rfl⟩
  refine H3.tb (Own w w.heap.size []) (fun _ _ h hb => h.call hb) O1 [ec 0 13 (.int .i64 ((k : Nat) : Int)), ec 1 14 (.slice A len cap), ec 2 15 (.int .i64 ((len : Nat) : Int)), ec 3 16 (.bool b1), ec 4 17 (.bool b1), ec 5 18 (gv b1 (.int .i64 ((k : Nat) : Int))), ec 6 19 (gv b1 (.bool b2)), ec 7 20 (.bool (b1 && b2))] rfl ⟨jm, jm, jn Tryd.underlying54, jb fun _ => lss_i _ _ b1 e1 _ _ _, jm, (by cases b1; exact jo; exact jm), (by cases b1; exact jo; exact jb fun _ => lss_i _ _ b2 e2 _ _ _), (by cases b1 <;> exact jp), trivial⟩ ?_
  clear H3 O1 H1 H2
  intro a4 w1 H4 O1
  refine then_normal (H4.cond (t := b1 && b2) rfl ?_)
  cases hb : b1 && b2 with
  | false =>
    refine wp_exit ?_
    repeat (with_reducible refine then_exit ?_)
    exact block_leave (then_normal ⟨H4.keep ⟨rfl, trivial⟩, O1⟩)
  | true =>
  simp only [Bool.and_eq_true] at hb
  rw [hb.1] at e1
  rw [hb.2] at e2
  have hlt : k < len := by simpa using e1
  have h12 : k < 12 := by have : (k : Int) < 12 := of_decide_eq_true e2; omega
  clear e1 e2 hb
  refine skip_wp (then_normal ?_)
  refine wp_seq_join (fun a w' => Has a 106 [(0, .slice A len cap), (3, .int .i64 ((k : Nat) : Int))] ∧ Own w w.heap.size [] w') ?_ ?_
  rotate_left
  · rintro a5 w2 ⟨H5, O2⟩
    refine H5.rg 1 fun a6 H6 => ?_
    refine H6.bb 1 rfl rfl rfl rfl rfl rfl (succ_i k (by omega) _ _ _) rfl fun a7 H7 => nt ?_
    exact ⟨hlt, H7.keep ⟨rfl, rfl, trivial⟩, O2⟩
  refine wp_block ?_
  obtain ⟨b, o, r, Ar, cr, x, Ax, cx, hA, hblt, hc0, hr1, hr2, hr, hc1, hx1, hx2, hx⟩ := ha k hlt
  have hix : ∀ w', (Instr.indexAt 54 (.slice A len cap) (.int .i64 ((k : Nat) : Int))).run Tryd.prog w' = .ok (.pointer (some ⟨b, o + k * 2, none⟩)) w' := fun w' => by rw [hA]; exact index_m 54 Tryd.underlying54 2 (fun _ => by kernel_rfl) _ _ _ _ _ hlt _
  have hrg : w1.rangeAt b (o + k * 2) [.slice Ar r.length cr, .slice Ax x.length cx] := by
    intro j v hv
    match j, hv with
    | 0, hv => injection hv with hv; subst hv; exact (cellB O1.bel hblt).trans hc0
    | 1, hv => injection hv with hv; subst hv; exact (cellB O1.bel hblt).trans hc1
  refine H4.rg 2 fun a5 H5 => ?_
  refine H5.index gz rfl rfl rfl rfl rfl (hix _) fun a6 H6 => ?_
  refine H6.ld 0 (load_f rfl hrg) fun a7 H7 => ?_
  refine H7.al O1 0 zero_f fun a8 w2 O2 H8 => ?_
  refine H8.st O2 0 0 (L := [.slice Ar r.length cr, .slice Ax x.length cx]) (fun a9 w3 O3 H9 => nt ?_) size_f
  have O3 : Own w w.heap.size [(w1.heap.size, [.slice Ar r.length cr, .slice Ax x.length cx])] w3 := O3
  have hgw : w.heap.size ≤ w1.heap.size := O1.le
  generalize w1.heap.size = g at H9 O3 hgw
  replace H9 := H9.keep (l' := [(0, .slice A len cap), (3, .int .i64 ((k : Nat) : Int)), (4, .pointer (some ⟨g, 0, none⟩))]) ⟨rfl, rfl, rfl, trivial⟩
  clear H4 H5 H6 H7 H8 O2 O1 hrg hix
  obtain ⟨b1, e1⟩ : ∃ b, decide ((2000 : Int) < (r.length : Int)) = b := ⟨_, rfl⟩
  obtain ⟨b2, e2⟩ : ∃ b, decide ((4000 : Int) < (x.length : Int)) = b := ⟨_, rfl⟩
  have c0 : ∀ {w' : World}, Own w w.heap.size [(g, [.slice Ar r.length cr, .slice Ax x.length cx])] w' → w'.cell? ⟨g, 0, none⟩ = some (.slice Ar r.length cr) := fun h => (h.get 0 rfl).get 0 _ rfl
  have c1 : ∀ {w' : World}, Own w w.heap.size [(g, [.slice Ar r.length cr, .slice Ax x.length cx])] w' → w'.cell? ⟨g, 1, none⟩ = some (.slice Ax x.length cx) := fun h => (h.get 0 rfl).get 1 _ rfl
  refine H9.tb (Own w w.heap.size [(g, [.slice Ar r.length cr, .slice Ax x.length cx])]) (fun _ _ h hb => h.call hb) O3 [ec 0 27 (.pointer (some ⟨g, 0, none⟩)), ec 1 28 (.slice Ar r.length cr), ec 2 29 (.int .i64 ((r.length : Nat) : Int)), ec 3 30 (.bool b1), ec 4 31 (.bool b1), ec 5 32 (gv (!b1) (.pointer (some ⟨g, 1, none⟩))), ec 6 33 (gv (!b1) (.slice Ax x.length cx)), ec 7 34 (gv (!b1) (.int .i64 ((x.length : Nat) : Int))), ec 8 35 (gv (!b1) (.bool b2)), ec 9 36 (.bool (b1 || b2))] rfl ⟨jf fieldF_0, jl fun _ h => load1_31 _ _ _ _ _ _ (c0 h), jn Tryd.underlying31, jb fun _ => gtr_i _ _ b1 e1 _ _ _, jm, (by cases b1; exact jf fieldF_1; exact jo), (by cases b1; exact jl fun _ h => load1_31 _ _ _ _ _ _ (c1 h); exact jo), (by cases b1; exact jn Tryd.underlying31; exact jo), (by cases b1; exact jb fun _ => gtr_i _ _ b2 e2 _ _ _; exact jo), (by cases b1 <;> exact jp), trivial⟩ ?_
  clear H9 O3
  intro a10 w4 H10 O4
  refine then_normal (H10.cond (t := b1 || b2) rfl ?_)
  cases hb : b1 || b2 with
  | true =>
    refine H10.rg 1 fun a11 H11 => nt (wp_ret ?_)
    repeat (first | (with_reducible refine block_ret ?_) | (with_reducible refine then_ret ?_))
    exact bodyPost_ret (results_tmp rfl _ _ _) H11.df ⟨congrArg Ending.returned (H11.at_ 2 _ rfl), O4.bel⟩
  | false =>
  simp only [Bool.or_eq_false_iff] at hb
  rw [hb.1] at e1
  rw [hb.2] at e2
  have hrl : r.length ≤ 2000 := by have : ¬ ((2000 : Int) < (r.length : Int)) := of_decide_eq_false e1; omega
  have hxl : x.length ≤ 4000 := by have : ¬ ((4000 : Int) < (x.length : Int)) := of_decide_eq_false e2; omega
  clear e1 e2 hb
  refine skip_wp (then_normal ?_)
  replace H10 := H10.keep (l' := [(0, .slice A len cap), (3, .int .i64 ((k : Nat) : Int)), (4, .pointer (some ⟨g, 0, none⟩))]) ⟨rfl, rfl, rfl, trivial⟩
  refine H10.dq (Own w w.heap.size [(g, [.slice Ar r.length cr, .slice Ax x.length cx])]) (fun _ _ h hb => h.call hb) O4 [0, 3, 4] rfl [ec 0 37 (.pointer (some ⟨g, 0, none⟩)), ec 1 38 (.slice Ar r.length cr), er 2 39 [] (RowIs w.heap.size r), ec 3 40 (.pointer (some ⟨g, 1, none⟩)), ec 4 41 (.slice Ax x.length cx), er 5 42 [] (RowIs w.heap.size x), er 6 5 [] (RowIs w.heap.size r), er 7 6 [] (RowIs w.heap.size x)] rfl ⟨jf fieldF_0, jl fun _ h => load1_31 _ _ _ _ _ _ (c0 h), jf fieldF_1, jl fun _ h => load1_31 _ _ _ _ _ _ (c1 h), trivial⟩ ⟨kr fun w' h => copyB (W := w) r Ar cr w' (hr.next h.bel) (by omega) h.le rfl, kr fun w' h => copyB (W := w) x Ax cx w' (hx.next h.bel) (by omega) h.le rfl, kv rfl rfl rfl (fun _ _ h => h.1), kv rfl rfl rfl (fun _ _ h => h.2.1), trivial⟩ ?_ (hst := ⟨fun _ _ _ hb h => h.below hb, fun _ _ _ hb h => h.below hb, fun _ _ _ hb h => h.below hb, fun _ _ _ hb h => h.below hb, trivial⟩)
  clear H10 O4
  rintro a11 w5 H11 ⟨_, _, h5, h6, _⟩ O5
  obtain ⟨A5, c5, v5, o5⟩ := h5
  obtain ⟨A6, c6, v6, o6⟩ := h6
  rw [v5] at o5
  rw [v6] at o6
  replace H11 := ((H11.more v5).more v6).keep (l' := [(0, .slice A len cap), (3, .int .i64 ((k : Nat) : Int)), (4, .pointer (some ⟨g, 0, none⟩)), (5, .slice A5 r.length c5), (6, .slice A6 x.length c6)]) ⟨rfl, rfl, rfl, rfl, rfl, trivial⟩
  clear v5 v6
  have r5 := rb_of_own (xs := r) rfl o5 O5.le
  have r6 := rb_of_own (xs := x) rfl o6 O5.le
  refine then_normal ?_
  refine H11.rg 2 fun a12 H12 => ?_
  refine H12.cl (feedC r x A5 A6 c5 c6 w5 r5 r6 (by omega) (by omega) (hT.below O5.bel)) ?_
  rintro a13 _ w6 ⟨l, left, er, vP, AL, cL, cs, rfl, hF, hP, hPR, hL, hb6⟩ H13
  have O6 := O5.call hb6
  refine H13.ms 1 fun a14 H14 => ?_
  refine H14.ex (r := vP) 0 fun a15 H15 => ?_
  refine H15.ex (r := .slice AL left.length cL) 0 fun a16 H16 => ?_
  refine H16.ex (r := .int .i64 er) 3 fun a17 H17 => nt ?_
  obtain ⟨AP, cP, rfl, _, _⟩ := own_shape hP
  replace H17 := H17.keep (l' := [(0, .slice A len cap), (3, .int .i64 ((k : Nat) : Int)), (4, .pointer (some ⟨g, 0, none⟩)), (5, .slice A5 r.length c5), (6, .slice A6 x.length c6), (7, .slice AP l.length cP), (8, .slice AL left.length cL), (9, .int .i64 er)]) ⟨rfl, rfl, rfl, rfl, rfl, rfl, rfl, rfl, trivial⟩
  clear H11 H12 H13 H14 H15 H16
  refine rl ?_
  refine H17.go gz rfl rfl _ (run_field rfl (H17.ev rfl) fieldF_0) fun a18 H18 => ?_
  refine H18.ld 0 (load1_31 _ _ _ _ _ _ (c0 O6)) fun a19 H19 => ?_
  refine H19.go gz rfl rfl _ (run_field rfl (H19.ev rfl) fieldF_1) fun a20 H20 => ?_
  refine H20.ld 0 (load1_31 _ _ _ _ _ _ (c1 O6)) fun a21 H21 => ?_
  refine H21.cl (refFeedC r x Ar Ax cr cx w6 (hr.next O6.bel) (hx.next O6.bel) (by omega) (by omega) (hT.below O6.bel)) ?_
  rintro a22 _ w7 ⟨l2, left2, er2, vQ, AM, cM, cs2, rfl, hF2, hQ, hQR, hM, hb7⟩ H22
  obtain ⟨rfl, rfl, rfl⟩ := fed_one hF hF2
  have O7 := O6.call hb7
  refine H22.ms 1 fun a23 H23 => ?_
  refine H23.ex (r := vQ) 0 fun a24 H24 => ?_
  refine H24.ex (r := .slice AM left.length cM) 0 fun a25 H25 => ?_
  refine H25.ex (r := .int .i64 er) 3 fun a26 H26 => nt ?_
  obtain ⟨AQ, cQ, rfl, _, _⟩ := own_shape hQ
  replace H26 := H26.keep (l' := [(0, .slice A len cap), (3, .int .i64 ((k : Nat) : Int)), (4, .pointer (some ⟨g, 0, none⟩)), (5, .slice A5 r.length c5), (6, .slice A6 x.length c6), (7, .slice AP l.length cP), (8, .slice AL left.length cL), (9, .int .i64 er), (10, .slice AQ l.length cQ), (11, .slice AM left.length cM), (12, .int .i64 er)]) ⟨rfl, rfl, rfl, rfl, rfl, rfl, rfl, rfl, rfl, rfl, rfl, trivial⟩
  clear H17 H18 H19 H20 H21 H22 H23 H24 H25 O6
  have hfl := fed_left hF
  have hzl : (r ++ x).length ≤ 6000 := by rw [List.length_append]; omega
  have hbk7 : Below w5.heap.size w5 w7 := hb6.trans (hb7.mono hb6.size)
  obtain ⟨hi, hhi, hPr⟩ := hPR
  obtain ⟨hi2, hhi2, hQr⟩ := hQR
  have mP := (hPr.at_ hP).next hb7
  have mQ := hQr.at_ hQ
  have hLr := rb_of_own (xs := left) rfl hL hb6.size
  refine H26.rg 1 fun a H => ?_
  refine H.cq 1 (num19 er _) fun a H => ?_
  refine H.bn 1 (neq_3 er er false (by simp) _ _ _) fun a H => ?_
  refine H.move (H.wt rfl rfl rfl) (.inl rfl) rfl rfl rfl fun a H => ?_
  refine H.move (H.wt rfl rfl rfl) (.inl rfl) rfl rfl rfl fun a H => ?_
  refine H.call (H.wt rfl rfl rfl) rfl rfl rfl rfl (fun _ _ => by kernel_rfl) (belowC (eqMqsS l AP AQ l.length cP cQ rfl (by omega) w7 mP mQ)) ?_
  rintro a _ w8 ⟨rfl, hb8⟩ H
  have hbk8 := hbk7.trans (hb8.mono hbk7.size)
  refine H.un (H.wt rfl rfl rfl) rfl rfl rfl rfl (run_not true _) fun a H => ?_
  refine H.pick gz rfl rfl rfl rfl rfl fun a H => ?_
  refine H.ms 1 fun a H => ?_
  refine H.move (H.wt rfl rfl rfl) (.inl rfl) rfl rfl rfl fun a H => ?_
  refine H.move (H.wt rfl rfl rfl) (.inl rfl) rfl rfl rfl fun a H => ?_
  refine H.call (H.wt rfl rfl rfl) rfl rfl rfl rfl (fun _ _ => by kernel_rfl) (belowC (eqBy left _ _ w8 ⟨AL, cL, rfl, (hLr.next hb7).next hb8⟩ ⟨AM, cM, rfl, hM.next hb8⟩ (by unfold maxLen; omega))) ?_
  rintro a _ w9 ⟨rfl, hb9⟩ H
  have hbk9 := hbk8.trans (hb9.mono hbk8.size)
  refine H.un (H.wt rfl rfl rfl) rfl rfl rfl rfl (run_not true _) fun a H => ?_
  refine H.pick gz rfl rfl rfl rfl rfl fun a H => ?_
  refine H.ms 1 fun a H => ?_
  refine H.move (H.wt rfl rfl rfl) (.inl rfl) rfl rfl rfl fun a H => ?_
  refine H.go (H.wt rfl rfl rfl) rfl rfl _ (run_field rfl (H.ev rfl) fieldF_0) fun a H => ?_
  refine H.load (H.wt rfl rfl rfl) rfl rfl rfl rfl (load1_31 _ _ _ _ _ _ (c0 (O5.call hbk9))) fun a H => ?_
  refine H.call (H.wt rfl rfl rfl) rfl rfl rfl rfl (fun _ _ => by kernel_rfl) (belowC (eqBy r _ _ w9 ⟨A5, c5, rfl, r5.next hbk9⟩ ⟨Ar, cr, rfl, hr.next (O5.call hbk9).bel⟩ (by unfold maxLen; omega))) ?_
  rintro a _ w10 ⟨rfl, hb10⟩ H
  have hbk10 := hbk9.trans (hb10.mono hbk9.size)
  refine H.un (H.wt rfl rfl rfl) rfl rfl rfl rfl (run_not true _) fun a H => ?_
  refine H.pick gz rfl rfl rfl rfl rfl fun a H => ?_
  refine H.ms 1 fun a H => ?_
  refine H.move (H.wt rfl rfl rfl) (.inl rfl) rfl rfl rfl fun a H => ?_
  refine H.go (H.wt rfl rfl rfl) rfl rfl _ (run_field rfl (H.ev rfl) fieldF_1) fun a H => ?_
  refine H.load (H.wt rfl rfl rfl) rfl rfl rfl rfl (load1_31 _ _ _ _ _ _ (c1 (O5.call hbk10))) fun a H => ?_
  refine H.call (H.wt rfl rfl rfl) rfl rfl rfl rfl (fun _ _ => by kernel_rfl) (belowC (eqBy x _ _ w10 ⟨A6, c6, rfl, r6.next hbk10⟩ ⟨Ax, cx, rfl, hx.next (O5.call hbk10).bel⟩ (by unfold maxLen; omega))) ?_
  rintro a _ w11 ⟨rfl, hb11⟩ H
  have hbk11 := hbk10.trans (hb11.mono hbk10.size)
  refine H.un (H.wt rfl rfl rfl) rfl rfl rfl rfl (run_not true _) fun a H => ?_
  refine H.pick gz rfl rfl rfl rfl rfl fun a H => ?_
  refine nt (H.condF rfl (skip_wp (then_normal ?_)))
  have H27 := H.keep (l' := [(0, .slice A len cap), (3, .int .i64 ((k : Nat) : Int)), (4, .pointer (some ⟨g, 0, none⟩)), (5, .slice A5 r.length c5), (6, .slice A6 x.length c6), (7, .slice AP l.length cP), (8, .slice AL left.length cL)]) ⟨rfl, rfl, rfl, rfl, rfl, rfl, rfl, trivial⟩
  clear H
  have hb67 : Below w6.heap.size w6 w11 := ((((hb7.trans (hb8.mono hb7.size)).trans (hb9.mono (Nat.le_trans hb7.size hb8.size)))).trans (hb10.mono (Nat.le_trans (Nat.le_trans hb7.size hb8.size) hb9.size))).trans (hb11.mono (Nat.le_trans (Nat.le_trans (Nat.le_trans hb7.size hb8.size) hb9.size) hb10.size))
  have hL11 := own_below hL hb67
  have hP11 := own_below hP hb67
  have hPr11 := hPr.next hb67
  have hs11 : w5.heap.size ≤ w11.heap.size := hbk11.size
  refine H27.rg 1 fun a H => ?_
  refine H.cl (gC (spoilBytesG w5.heap.size left left.length AL cL w11 hL11 hs11 (by omega))) ?_
  rintro a _ w12 ⟨rfl, hg12⟩ H
  refine nt ?_
  have hbk12 := hbk11.grown hg12 hs11 (fun q hq => (hL11.lt q hq).1)
  have hP12 := hP11.kept hg12 (own_apart hP11 hL11 rfl)
  have hPr12 := hPr11.row hL11 hg12 rfl
  refine H.rg 1 fun a H => ?_
  refine H.cl (spC (spoilMqs l w5.heap.size cs AP l.length cP rfl (by omega) w12 hP12 (Nat.le_trans hs11 hg12.size) hPr12)) ?_
  rintro a _ w13 ⟨rfl, hb13⟩ H
  refine nt ?_
  have hbk13 := hbk12.trans hb13
  have O13 := O5.call hbk13
  replace H := H.keep (l' := [(0, .slice A len cap), (3, .int .i64 ((k : Nat) : Int)), (4, .pointer (some ⟨g, 0, none⟩)), (5, .slice A5 r.length c5), (6, .slice A6 x.length c6)]) ⟨rfl, rfl, rfl, rfl, rfl, trivial⟩
  refine H.rg 1 fun a H => ?_
  refine H.go gz rfl rfl _ (run_field rfl (H.ev rfl) fieldF_0) fun a H => ?_
  refine H.ld 0 (load1_31 _ _ _ _ _ _ (c0 O13)) fun a H => ?_
  refine H.call gz rfl rfl rfl rfl (fun _ _ => by kernel_rfl) (belowC (eqBy r _ _ w13 ⟨A5, c5, rfl, r5.next hbk13⟩ ⟨Ar, cr, rfl, hr.next O13.bel⟩ (by unfold maxLen; omega))) ?_
  rintro a _ w14 ⟨rfl, hb14⟩ H
  have O14 := O13.call hb14
  have hbk14 := hbk13.trans (hb14.mono hbk13.size)
  refine H.un gz rfl rfl rfl rfl (run_not true _) fun a H => ?_
  refine H.ms 1 fun a H => ?_
  refine H.move (H.wt rfl rfl rfl) (.inl rfl) rfl rfl rfl fun a H => ?_
  refine H.go (H.wt rfl rfl rfl) rfl rfl _ (run_field rfl (H.ev rfl) fieldF_1) fun a H => ?_
  refine H.load (H.wt rfl rfl rfl) rfl rfl rfl rfl (load1_31 _ _ _ _ _ _ (c1 O14)) fun a H => ?_
  refine H.call (H.wt rfl rfl rfl) rfl rfl rfl rfl (fun _ _ => by kernel_rfl) (belowC (eqBy x _ _ w14 ⟨A6, c6, rfl, r6.next hbk14⟩ ⟨Ax, cx, rfl, hx.next O14.bel⟩ (by unfold maxLen; omega))) ?_
  rintro a _ w15 ⟨rfl, hb15⟩ H
  have O15 := O14.call hb15
  refine H.un (H.wt rfl rfl rfl) rfl rfl rfl rfl (run_not true _) fun a H => ?_
  refine H.pick gz rfl rfl rfl rfl rfl fun a H => ?_
  refine nt (H.condF rfl (skip_wp (block_normal ?_)))
  exact ⟨H.keep ⟨rfl, rfl, trivial⟩, Own.bare O15.bel O15.le⟩
end Go.Proofs.YtkcdkjpmbjcmdaaDoor

/-
  How the argument of 'StreamParts' reads.
-/
namespace Go.Proofs.YtkcdkjpmbjcmdaaDoor
open Go.ChangeShapes Go.WideShapes Go.ChangeAt Go.RowKit Go.Deep

section
variable {H : Type} {enc : TypeId × Value → H} {W : World}
/-- a slice inside: its rows. -/
theorem read_rowsI {T e : TypeId} {m fuel : Nat} {cs0 : List Value} {x0 : DataW H × List MemPlace} (ht : Tryd.prog.underlying T = some (.slice e)) (hm : Tryd.prog.cellsOf e = m) (hm0 : 0 < m) (hfit : Fit T x0.1) (hf : DataW.trod enc Tryd.prog W 0 (fun _ => true) true fuel T cs0 = some x0) :
    ∃ (A : Option Addr) (len cap fuel : Nat), cs0 = [.slice A len cap] ∧ len ≤ cap ∧ cap ≤ maxLen ∧ ∀ i, i < len → ∃ (b o : Nat) (cs : List Value) (x : DataW H × List MemPlace), A = some ⟨b, o, none⟩ ∧ b < W.heap.size ∧ cs.length = m ∧ (∀ j, j < m → W.cell? ⟨b, o + i * m + j, none⟩ = cs[j]?) ∧
      DataW.trod enc Tryd.prog W 0 (fun _ => true) true fuel e cs = some x ∧ Fit e x.1 := by
  rcases open_slice ht hf with ⟨hcs, _⟩ | ⟨a, len, cap, m', n, D, Pl, hcs, _, hl, hc, hmm, hxe, hi⟩
  · exact ⟨none, 0, 0, 0, hcs, by omega, by simp, fun i hi => absurd hi (by omega)⟩
  · simp only [if_true] at hmm
    refine ⟨some a, len, cap, n, hcs, hl, hc, fun i hlt => ?_⟩
    obtain ⟨cs', hcell, htr⟩ := hi i (by omega)
    obtain ⟨_, hlen, hat⟩ := World.cells?_some hcell
    rw [hm] at hlen
    have h0 := hat 0 (by omega)
    rw [List.getElem?_eq_getElem (by omega)] at h0
    obtain ⟨b, o, spot⟩ := a
    have hspot : spot = none := by
      obtain ⟨cs0, hcell0, _⟩ := hi 0 (by omega)
      obtain ⟨_, hlen0, hat0⟩ := World.cells?_some hcell0
      rw [hm] at hlen0
      have h00 := hat0 0 (by omega)
      rw [List.getElem?_eq_getElem (by omega)] at h00
      have := World.cell?_spot h00
      simpa [Addr.add] using this
    subst hspot
    have hb := World.block_lt_of_cell? W _ h0
    rw [block_of_add, block_of_add] at hb
    refine ⟨b, o, cs', _, rfl, hb, hlen, fun j hj => ?_, htr, ?_⟩
    rotate_left
    · rw [hxe] at hfit
      exact (hfit.slice ht).2 _ (List.mem_map.2 ⟨i, List.mem_range.2 hlt, rfl⟩)
    have := hat j (by omega)
    rw [add_add, hm] at this
    rw [← this]
    refine congrArg W.cell? ?_
    unfold Addr.add
    by_cases h1 : i * m + j = 0
    · rw [if_pos h1, Nat.add_assoc, h1]; simp
    · rw [if_neg h1, Nat.add_assoc]
end
/-- packets that came in, and bytes, and numbers. -/
def FlowAt (W : World) (A : Option Addr) (len : Nat) (AX : Option Addr) (xs : List UInt8) (cX : Nat) (AS : Option Addr) (sz : List Int) (cS : Nat) : Prop :=
  (∀ i, i < len → ∃ (b o : Nat) (m : Mq) (vc vw vf : Value), A = some ⟨b, o, none⟩ ∧ b < W.heap.size ∧ W.rangeAt b (o + i * 24) (mqCells m vc vw vf) ∧ MqL W W.heap.size m vc vw vf ∧ MqFit m) ∧
    xs.length ≤ cX ∧ cX ≤ 140737488351232 ∧ RB W W.heap.size AX xs ∧ sz.length ≤ cS ∧ Reads W W.heap.size 1 AS sz.length (sz.map iv)
theorem cells_mqs : Tryd.prog.cellsOf 52 = 1 := by kernel_rfl
theorem okw_struct {P : Program} {W : World} {T : TypeId} {fs : Array Field} {v : Value} (ht : P.underlying T = some (.struct fs)) (h : ∃ base, Value.okWide P W .any base T v) : ∃ cs, v = .agg cs ∧ cs.size = P.cellsOf T := by
  obtain ⟨b, hv⟩ := h
  unfold Value.okWide at hv
  rw [ht] at hv
  obtain ⟨cs, h1, h2, _⟩ := hv
  exact ⟨cs, h1, h2⟩
set_option maxRecDepth 100000 in
theorem FlowAt.of {H : Type} {enc : TypeId × Value → H} {W : World} {v : Value} {d : DataW H} {p : List MemPlace} (h : Comes enc W 65 v d p) :
    ∃ (A : Option Addr) (len cap : Nat) (AX : Option Addr) (xs : List UInt8) (cX : Nat) (AS : Option Addr) (sz : List Int) (cS : Nat), v = .agg #[.slice A len cap, .slice AX xs.length cX, .slice AS sz.length cS] ∧ len ≤ cap ∧ cap ≤ maxLen ∧ FlowAt W A len AX xs cX AS sz cS := by
  obtain ⟨⟨fuel, hf0⟩, hvb, hsz⟩ := h
  obtain ⟨cs, rfl, hcs⟩ := okw_struct Tryd.underlying65 hvb
  have hft := Fit.of hsz
  obtain ⟨ys, k, _, ex, _, yl, hf⟩ := DataW.trod_struct Tryd.underlying65 hf0
  have f0 := hf 0 _ rfl
  have f1 := hf 1 _ rfl
  have f2 := hf 2 _ rfl
  simp only [List.getElem_toArray, List.getElem_cons_zero, List.getElem_cons_succ, cells_mqs, cells_bytes, cells_ints, List.drop_zero] at f0 f1 f2
  rw [List.getElem?_eq_getElem (by rw [yl]; decide)] at f0 f1 f2
  simp only [Prod.mk.injEq] at ex
  rw [ex.1] at hft
  have g0 := Fit.struct hft Tryd.underlying65 0 _ rfl _ (List.getElem?_eq_getElem (by rw [yl]; decide))
  have g1 := Fit.struct hft Tryd.underlying65 1 _ rfl _ (List.getElem?_eq_getElem (by rw [yl]; decide))
  have g2 := Fit.struct hft Tryd.underlying65 2 _ rfl _ (List.getElem?_eq_getElem (by rw [yl]; decide))
  obtain ⟨A, len, cap, fuel2, e0, hl, hc, hi⟩ := read_rowsI Tryd.underlying52 cells_mq (by decide) g0 f0
  obtain ⟨xs, AX, cX, e1, l1, l2, r1⟩ := read_bytes g1 f1
  obtain ⟨sz, AS, cS, e2, l3, _, r2⟩ := read_ints g2 f2
  have c3 : Tryd.prog.cellsOf 65 = 3 := by kernel_rfl
  rw [c3] at hcs
  refine ⟨A, len, cap, AX, xs, cX, AS, sz, cS, ?_, hl, hc, fun i hlt => ?_, l1, l2, r1, l3, r2⟩
  · obtain ⟨L⟩ := cs
    have e0 : L.take 1 = _ := e0
    have e1 : (L.drop 1).take 1 = _ := e1
    have e2 : (L.drop 2).take 1 = _ := e2
    match L, hcs with
    | [a, b, c], _ =>
      simp only [List.take_succ_cons, List.take_zero, List.drop_succ_cons, List.drop_zero, List.cons.injEq, and_true] at e0 e1 e2
      subst e0 e1 e2
      rfl
  · obtain ⟨b, o, cs1, x, hA, hblt, hlen, hcell, htr, hft1⟩ := hi i hlt
    obtain ⟨m, vc, vw, vf, e3, hL, hF⟩ := read_mq hlen hft1 htr
    refine ⟨b, o, m, vc, vw, vf, hA, hblt, fun j u hu => ?_, hL, hF⟩
    rw [← e3] at hu
    have hj : j < 24 := by have := (List.getElem?_eq_some_iff.1 hu).1; omega
    rw [hcell j hj]
    exact hu
end Go.Proofs.YtkcdkjpmbjcmdaaDoor

/-
  A stream's bytes in parts: the plain law.
-/
namespace Go.Proofs.YtkcdkjpmbjcmdaaDoor

theorem sizeGo_more (y : List UInt8) : ∀ (f i n : Nat) (x : List UInt8) (r : Except Int (Nat × Nat)), sizeGo f i n x = r → r ≠ .error 7 → sizeGo f i n (x ++ y) = r := by
  intro f
  induction f with
  | zero =>
    intro i n x r h h7
    cases x with
    | nil => exact absurd h.symm (by simpa [sizeGo] using h7)
    | cons a x => exact h
  | succ f ih =>
    intro i n x r h h7
    cases x with
    | nil => exact absurd h.symm (by simpa [sizeGo] using h7)
    | cons a x =>
      unfold sizeGo at h
      rw [List.cons_append]
      unfold sizeGo
      split at h
      · next h1 =>
        rw [if_pos h1]
        split at h
        · next h2 => rw [if_pos h2]; exact h
        · next h2 => rw [if_neg h2]; exact ih _ _ _ _ h h7
      · next h1 =>
        rw [if_neg h1]
        split at h
        · next h2 => rw [if_pos h2]; exact h
        · next h2 =>
          rw [if_neg h2]
          split at h
          · next h3 => rw [if_pos h3]; exact h
          · next h3 =>
            rw [if_neg h3]
            split at h
            · exact absurd h.symm h7
            · next h4 => rw [if_neg (by rw [List.length_append]; omega)]; exact h
theorem sizeD_more {x : List UInt8} (y : List UInt8) {r : Except Int (Nat × Nat)} (h : sizeD x = r) (h7 : r ≠ .error 7) : sizeD (x ++ y) = r := by
  cases x with
  | nil => exact absurd h.symm h7
  | cons a x => exact sizeGo_more y 4 1 0 x r h h7
/-- what is parsed, but for what is cut off, stays so when bytes come behind. -/
theorem parsed_more {x : List UInt8} {m : Mq} {n : Nat} {e : Int} (y : List UInt8) (h : Parsed x m n e) (h7 : e ≠ 7) : Parsed (x ++ y) m n e := by
  unfold Parsed at h
  split at h
  · next er hs =>
    have hs2 := sizeD_more y hs (by intro he; injection he with he; exact h7 (h.1.trans he))
    unfold Parsed
    rw [hs2]
    exact h
  · next t i hs =>
    have hs2 := sizeD_more y hs (by intro he; cases he)
    have ht := (sizeD_ge hs).2.2.1
    unfold Parsed
    rw [hs2]
    simp only [List.take_append_of_le_length ht]
    exact h
/-- bytes in two parts. -/
theorem fed_more {z : List UInt8} {l : List Mq} {left : List UInt8} {e : Int} (h : Fed z l left e) (he : e = 0) {y : List UInt8} {l2 : List Mq} {left2 : List UInt8} {e2 : Int} (h2 : Fed (left ++ y) l2 left2 e2) : Fed (z ++ y) (l ++ l2) left2 e2 := by
  induction h with
  | done => exact h2
  | part => exact h2
  | bad _ _ h0 => exact absurd he h0
  | @one x m n l y0 e hx hp _ ih =>
    have hn := (parsed_two hp).2
    refine .one (by simp [hx]) (parsed_more y hp (by decide)) ?_
    rw [List.drop_append_of_le_length hn]
    exact ih he h2
/-- an error stays. -/
theorem fed_err {z : List UInt8} {l : List Mq} {left : List UInt8} {e : Int} (h : Fed z l left e) (he : e ≠ 0) (y : List UInt8) : left = [] ∧ Fed (z ++ y) l [] e := by
  induction h with
  | done => exact absurd rfl he
  | part => exact absurd rfl he
  | bad hx hp h0 h7 => exact ⟨rfl, .bad (by simp [hx]) (parsed_more y hp h7) h0 h7⟩
  | @one x m n l y0 e hx hp _ ih =>
    have hn := (parsed_two hp).2
    obtain ⟨h1, h2⟩ := ih he
    refine ⟨h1, .one (by simp [hx]) (parsed_more y hp (by decide)) ?_⟩
    rw [List.drop_append_of_le_length hn]
    exact h2
/-- packets' bytes, one behind the other. -/
theorem fed_lays : ∀ (ms : List Mq), (∀ m ∈ ms, mayB m) → ∀ {y : List UInt8} {l : List Mq} {left : List UInt8} {e : Int}, Fed y l left e → Fed ((ms.map layB).flatten ++ y) (ms ++ l) left e
  | [], _, _, _, _, _, h => h
  | m :: ms, hm, y, l, left, e, h => by
    have h1 := parsed_lay (hm m (List.mem_cons_self ..)) ((ms.map layB).flatten ++ y)
    rw [List.map_cons, List.flatten_cons, List.append_assoc, List.cons_append]
    refine .one ?_ h1 ?_
    · intro h0
      have := (parsed_two h1).1
      have h2 := congrArg List.length h0
      rw [List.length_append, List.length_nil] at h2
      omega
    · rw [List.drop_left]
      exact fed_lays ms (fun x hx => hm x (List.mem_cons_of_mem _ hx)) h
end Go.Proofs.YtkcdkjpmbjcmdaaDoor

/-
  Words for the law that packets' bytes may come in parts.
-/
namespace Go.Proofs.YtkcdkjpmbjcmdaaDoor
open Go.RowKit

/-- packets' bytes ahead are read as these packets. -/
theorem fed_front : ∀ (ms : List Mq), (∀ m ∈ ms, mayB m) → ∀ {y : List UInt8} {l : List Mq} {left : List UInt8} {e : Int}, Fed ((ms.map layB).flatten ++ y) l left e → ∃ l', l = ms ++ l' ∧ Fed y l' left e
  | [], _, _, l, _, _, h => ⟨l, rfl, h⟩
  | m :: ms, hm, y, l, left, e, h => by
    have h1 := parsed_lay (hm m (List.mem_cons_self ..)) ((ms.map layB).flatten ++ y)
    rw [List.map_cons, List.flatten_cons, List.append_assoc] at h
    generalize hz : layB m ++ ((ms.map layB).flatten ++ y) = z at h h1
    cases h with
    | done => exact absurd (parsed_two h1) (by rintro ⟨a, b⟩; exact absurd (Nat.le_trans a b) (by decide))
    | part _ h2 => exact absurd (parsed_one h1 h2).2.2 (by decide)
    | bad _ h2 h0 => exact absurd (parsed_one h1 h2).2.2.symm h0
    | one _ h2 hr =>
      obtain ⟨rfl, rfl, _⟩ := parsed_one h1 h2
      rw [← hz, List.drop_left] at hr
      obtain ⟨l', rfl, h⟩ := fed_front ms (fun x hx => hm x (List.mem_cons_of_mem _ hx)) hr
      exact ⟨l', rfl, h⟩
theorem Prows.mono {w : World} {b hi hi' : Nat} {l : List Mq} {cs : List Value} (h : Prows w b l cs hi) (hh : hi ≤ hi') : Prows w b l cs hi' := by
  cases h with
  | nil h => exact .nil (Nat.le_trans h hh)
  | snoc h1 hlo hle hm =>
    obtain ⟨vc, vw, vf, h2, h3, h4, h5⟩ := hm
    exact .snoc h1 hlo (Nat.le_trans hle hh) ⟨vc, vw, vf, h2, h3, fun k hk => Nat.lt_of_lt_of_le (h4 k hk) hh, h5⟩
/-- rows of packets, one behind the other. -/
theorem Prows.cat {w : World} {b b2 hi hi2 : Nat} {l l2 : List Mq} {cs cs2 : List Value} (h : Prows w b l cs hi) (h2 : Prows w b2 l2 cs2 hi2) (hb : hi ≤ b2) : Prows w b (l ++ l2) (cs ++ cs2) hi2 := by
  induction h2 with
  | nil h3 => rw [List.append_nil, List.append_nil]; exact h.mono (Nat.le_trans hb h3)
  | snoc _ hlo hle hm ih =>
    rw [← List.append_assoc, ← List.append_assoc]
    exact .snoc ih hlo hle hm
theorem MqsAt.front {w : World} {A : Option Addr} {l l2 : List Mq} (h : MqsAt w A (l ++ l2)) : MqsAt w A l := by
  intro k m hk
  exact h k m (by rw [List.getElem?_append_left (List.getElem?_eq_some_iff.1 hk).1]; exact hk)
theorem slice_hq (A : Option Addr) (n c hi : Nat) (h2 : hi ≤ n) (h3 : n ≤ c) (w : World) : (Instr.sliceAt 52 (.slice A n c) none (some (.int .i64 (hi : Int))) none).run Tryd.prog w = .ok (.slice A hi c) w := by
  simp [go_sem]
  omega
/-- behind k packets: their bytes, themselves. -/
structure Gath (W : World) (g k : Nat) (want : List Mq) (vA vP : Value) (cs : List Value) (w : World) : Prop where
  byt : RowIs (g + 1) ((want.map layB).flatten) vA w
  row : w.ownsRow (g + 1) 30 24 vP want.length cs
  may : ∀ m ∈ want, mayB m
  at_ : ∀ i m, want[i]? = some m → ∃ vc vw vf, MqL W W.heap.size m vc vw vf ∧ ∀ j v, (mqCells m vc vw vf)[j]? = some v → cs[i * 24 + j]? = some v
  le : want.length ≤ k
  len : ((want.map layB).flatten).length ≤ k * 1024
theorem mqs_row {W w : World} {g n c : Nat} {want : List Mq} {A : Option Addr} {cs : List Value} (hO : w.ownsRow g 30 24 (.slice A n c) want.length cs) (h : ∀ i m, want[i]? = some m → ∃ vc vw vf, MqL W W.heap.size m vc vw vf ∧ ∀ j v, (mqCells m vc vw vf)[j]? = some v → cs[i * 24 + j]? = some v) (hb : Below W.heap.size W w) : MqsAt w A want := by
  intro i m hi
  obtain ⟨vc, vw, vf, hM, h4⟩ := h i m hi
  have hlt := (List.getElem?_eq_some_iff.1 hi).1
  obtain ⟨q, cap, hA, _, hg2⟩ := hO.form (by omega)
  injection hA with hA hn hc
  subst hA
  subst hn
  refine ⟨q, 0, vc, vw, vf, rfl, hg2, fun j v hv => ?_, hM.next hb⟩
  have hj : j < 24 := (List.getElem?_eq_some_iff.1 hv).1
  have := hO.cellAt (0 + i * 24 + j) (by omega)
  rw [this, Nat.zero_add]
  exact h4 j v hv
/-- one packet more. -/
theorem Gath.more {W w w' : World} {g k : Nat} {want : List Mq} {vA vP vA' vP' : Value} {cs : List Value} {m : Mq} {vc vw vf : Value} (h : Gath W g k want vA vP cs w) (hm : mayB m) (hM : MqL W W.heap.size m vc vw vf)
    (hA : RowIs (g + 1) ((want.map layB).flatten ++ layB m) vA' w') (hP : w'.ownsRow (g + 1) 30 24 vP' (want.length + 1) (cs ++ mqCells m vc vw vf)) (hlen : cs.length = want.length * 24) (hl : (layB m).length ≤ 1024) : Gath W g (k + 1) (want ++ [m]) vA' vP' (cs ++ mqCells m vc vw vf) w' := by
  have e : ((want ++ [m]).map layB).flatten = (want.map layB).flatten ++ layB m := by simp
  refine ⟨by rw [e]; exact hA, by rw [List.length_append]; exact hP, fun x hx => ?_, fun i x hx => ?_, ?_, ?_⟩
  · rcases List.mem_append.1 hx with hx | hx
    · exact h.may x hx
    · rw [List.mem_singleton.1 hx]; exact hm
  · by_cases hlt : i < want.length
    · rw [List.getElem?_append_left hlt] at hx
      obtain ⟨a, b, c, h1, h2⟩ := h.at_ i x hx
      refine ⟨a, b, c, h1, fun j v hv => ?_⟩
      have := h2 j v hv
      rw [List.getElem?_append_left (List.getElem?_eq_some_iff.1 this).1]
      exact this
    · have hi : i = want.length := by
        have := (List.getElem?_eq_some_iff.1 hx).1
        rw [List.length_append, List.length_singleton] at this
        omega
      subst hi
      rw [List.getElem?_append_right (Nat.le_refl _), Nat.sub_self] at hx
      injection hx with hx
      subst hx
      refine ⟨vc, vw, vf, hM, fun j v hv => ?_⟩
      rw [List.getElem?_append_right (by omega), hlen, Nat.add_sub_cancel_left]
      exact hv
  · have := h.le
    rw [List.length_append, List.length_singleton]
    omega
  · have := h.len
    rw [e, List.length_append]
    omega
theorem Gath.up {W w w' : World} {g k : Nat} {want : List Mq} {vA vP : Value} {cs : List Value} (h : Gath W g k want vA vP cs w) (hb : Below w.heap.size w w') : Gath W g (k + 1) want vA vP cs w' := by
  obtain ⟨A, c, hv, hO⟩ := h.byt
  refine ⟨⟨A, c, hv, own_below hO hb⟩, own_below h.row hb, h.may, h.at_, Nat.le_succ_of_le h.le, Nat.le_trans h.len (Nat.mul_le_mul_right _ (Nat.le_succ k))⟩
theorem Gath.next {W w w' : World} {g k : Nat} {want : List Mq} {vA vP : Value} {cs : List Value} (h : Gath W g k want vA vP cs w) (hb : Below w.heap.size w w') : Gath W g k want vA vP cs w' := by
  obtain ⟨A, c, hv, hO⟩ := h.byt
  exact ⟨⟨A, c, hv, own_below hO hb⟩, own_below h.row hb, h.may, h.at_, h.le, h.len⟩
theorem Prows.ones {w : World} {b hi : Nat} {l : List Mq} {cs : List Value} (h : Prows w b l cs hi) : ∀ u ∈ cs, u.oneCell' = true := by
  induction h with
  | nil => intro u hu; cases hu
  | snoc _ _ _ hm ih =>
    intro u hu
    rcases List.mem_append.1 hu with hu | hu
    · exact ih u hu
    · obtain ⟨vc, vw, vf, rfl, hr, _⟩ := hm
      exact List.all_eq_true.1 (mq_one _ (own_one hr.1) (own_one hr.2.1) (own_one hr.2.2)) u hu
theorem withinN (i n : Int) (h1 : 1 ≤ n) (h2 : n ≤ 9223372036854775807) (w : World) :
    Calls Tryd.prog 44 #[.int .i64 i, .int .i64 n] w fun e w' => e = .returned (.int .i64 ((wth i n : Nat) : Int)) ∧ w = w' := by
  have HK := Lib.hid (within_num i n h1 h2)
  go_enter Tryd.func44, Tryd.ntmps44
  go_wp2
  go_ret
  obtain ⟨k, hk, he, hw⟩ := HK.out
  refine ⟨?_, rfl⟩
  have : ((wth i n : Nat) : Int) = (k : Int) := by unfold wth; rw [← he]; simp
  rw [this, ← hw]
  rfl
theorem run_minI {o : Oper} {a : Act} {w : World} {x y : Operand} {u v : Int} (ho : o.op = .call { callee := .builtin .min, args := #[x, y], argTypes := #[3, 3] }) (hx : a.eval x = .int .i64 u) (hy : a.eval y = .int .i64 v) : (execOp a.eval o).run Tryd.prog w = .ok (.value (.int .i64 (min u v))) w := by
  unfold execOp
  simp only [ho, resolve, invoke, builtin, Sem.run_bind, Sem.run_pure, Result.andThen_ok, List.map_toArray, List.map_cons, List.map_nil, hx, hy]
  rw [Lib.run_min_ints]
  rfl
theorem quo8 (n : Nat) (x y : Operand) (h : n < 1000000) (w : World) : (do eqGuard .quo 3 x y (.int .i64 (n : Int)) (.int .i64 8); binOp .quo 3 (.int .i64 (n : Int)) (.int .i64 8) : Sem Value).run Tryd.prog w = .ok (.int .i64 ((n / 8 : Nat) : Int)) w := by
  simp [go_sem]
  exact IntWalk.i64_in _ (by omega)
theorem feedCn (r x : List UInt8) (nr nx : Nat) (hnr : r.length = nr) (hnx : x.length = nx) (Ar Ax : Option Addr) (cr cx : Nat) (w : World) (hr : RB w w.heap.size Ar r) (hx : RB w w.heap.size Ax x) (hlr : r.length ≤ 40000) (hlx : x.length ≤ 40000) (hT : Wd w) :
    Calls Tryd.prog 37 #[.slice Ar nr cr, .slice Ax nx cx] w fun e w' => ∃ v, e = .returned v ∧ ∃ l left er vP AL cL cs, v = .tuple #[vP, .slice AL left.length cL, .int .i64 er] ∧ Fed (r ++ x) l left er ∧ w'.ownsRow w.heap.size 30 24 vP l.length cs ∧ PR w' w.heap.size l cs ∧ w'.ownsRow w.heap.size 5 1 (.slice AL left.length cL) left.length (left.map bv) ∧ Below w.heap.size w w' := by
  subst hnr hnx
  exact feedC r x Ar Ax cr cx w hr hx hlr hlx hT
/-- the bytes up to a place were fed in parts. -/
structure Pieces (B : Nat) (all : List UInt8) (t : Nat) (got : List Mq) (rest : List UInt8) (er : Int) (vG vR : Value) (cs : List Value) (w : World) : Prop where
  row : w.ownsRow B 30 24 vG got.length cs
  pr : PR w B got cs
  byt : w.ownsRow B 5 1 vR rest.length (rest.map bv)
  fed : (er = 0 ∧ Fed (all.take t) got rest 0) ∨ (er ≠ 0 ∧ rest = [] ∧ Fed all got [] er)
theorem Pieces.next {B t : Nat} {all rest : List UInt8} {got : List Mq} {er : Int} {vG vR : Value} {cs : List Value} {w w' : World} (h : Pieces B all t got rest er vG vR cs w) (hb : Below w.heap.size w w') : Pieces B all t got rest er vG vR cs w' :=
  ⟨own_below h.row hb, h.pr.next hb, own_below h.byt hb, h.fed⟩
theorem fed_piece {all rest left : List UInt8} {got l : List Mq} {er : Int} {t hi t2 : Nat} (h : Fed (all.take t) got rest 0) (ht : t ≤ hi) (h2 : all.take hi = all.take t2) (hl : Fed (rest ++ (all.take hi).drop t) l left er) :
    (er = 0 ∧ Fed (all.take t2) (got ++ l) left 0) ∨ (er ≠ 0 ∧ left = [] ∧ Fed all (got ++ l) [] er) := by
  have h3 := fed_more h rfl hl
  have e : all.take t ++ (all.take hi).drop t = all.take t2 := by
    rw [← h2]
    conv => rhs; rw [← List.take_append_drop t (all.take hi)]
    rw [List.take_take, Nat.min_eq_left ht]
  rw [e] at h3
  by_cases h0 : er = 0
  · subst h0; exact .inl ⟨rfl, h3⟩
  · obtain ⟨h4, h5⟩ := fed_err h3 h0 (all.drop t2)
    rw [List.take_append_drop] at h5
    exact .inr ⟨h0, h4, h5⟩
theorem fed_out {all rest left : List UInt8} {got l : List Mq} {er e2 : Int} {t : Nat} (h : (er = 0 ∧ Fed (all.take t) got rest 0) ∨ (er ≠ 0 ∧ rest = [] ∧ Fed all got [] er)) (ht : er = 0 → all.length ≤ t) (hF : Fed all l left e2) : got = l ∧ rest = left ∧ er = e2 := by
  rcases h with ⟨h0, h⟩ | ⟨_, rfl, h⟩
  · rw [List.take_of_length_le (ht h0)] at h
    subst h0
    exact fed_one h hF
  · exact fed_one h hF
end Go.Proofs.YtkcdkjpmbjcmdaaDoor
