/-
  Texts of the claim: RBody RBytes LawK EqMqs Gath Parts TellM TellW Flow RowT RowL.
-/
import Derived.Lib.LaidIn
import Derived.Lib.LaidU8T
import Derived.Test.YtlacidnnankjlaaGreatDoorTt5
namespace Go.Proofs.YtlacidnnankjlaaGreatDoor
set_option maxRecDepth 100000
set_option maxHeartbeats 25600000
section
open Go.RowKit
abbrev willL (m : Mq) : List Value := [.bool m.won, .string m.wt, .string m.wp, iz m.wq, .bool m.wr]
theorem zero_will (w : World) : (zeroValue 44).run Tryz.prog w = .ok (.agg ([.bool false, .string nos, .string nos, iz 0, .bool false] : List Value).toArray) w := by kernel_rfl
theorem size_will : (Tryz.prog.info? 44).map (·.size) = some 5 := by kernel_rfl
theorem fieldO_0 (o g : Nat) (w : World) : (Instr.fieldAt 161 (.pointer (some ⟨g, o, none⟩)) 0).run Tryz.prog w = .ok (.pointer (some ⟨g, o, none⟩)) w := by
 simp [go_sem]
theorem fieldO_1 (o g : Nat) (w : World) : (Instr.fieldAt 161 (.pointer (some ⟨g, o, none⟩)) 1).run Tryz.prog w = .ok (.pointer (some ⟨g, o + 1, none⟩)) w := by
 simp [go_sem]
theorem refBitN (b : Bool) (nI : Int) (n : Nat) (h : nI = (n : Int)) (w : World) : Calls Tryz.prog 76 #[.bool b, .int .u8 nI] w fun e w' => e = .returned (.int .u8 ((cb b n : Nat) : Int)) ∧ w = w' := by
 refine (refBit b nI w).mono ?_
 rintro e w' ⟨rfl, rfl⟩
 refine ⟨?_, rfl⟩
 subst h
 cases b <;> rfl
theorem ofInt_u8 (a : Nat) (ha : a < 256) : (BitVec.ofInt 8 (a : Int)).toNat = a := by
 rw [BitVec.toNat_ofInt]; omega
theorem or_u (a b : Nat) (ha : a < 256) (hb : b < 256) (x y : Operand) (w : World) : (do eqGuard .or 5 x y (.int .u8 (a : Int)) (.int .u8 (b : Int)); binOp .or 5 (.int .u8 (a : Int)) (.int .u8 (b : Int)) : Sem Value).run Tryz.prog w = .ok (.int .u8 ((a ||| b : Nat) : Int)) w := by
 have hx : a ||| b < 256 := or_lt8 ha hb
 have e : bits .or .u8 (a : Int) (b : Int) = ((a ||| b : Nat) : Int) := by
  show IntKind.u8.wrap ((BitVec.ofInt 8 (a : Int) ||| BitVec.ofInt 8 (b : Int)).toNat : Int) = _
  rw [BitVec.toNat_or, ofInt_u8 a ha, ofInt_u8 b hb]
  show ((a ||| b : Nat) : Int) % 256 = _
  omega
 simp [go_sem, e]
theorem shl3_u8 (k : Int) (h0 : 0 ≤ k) (h2 : k ≤ 2) (x y : Operand) (w : World) : (do eqGuard .shl 5 x y (.int .u8 (k % 256)) (.int .u64 3); binOp .shl 5 (.int .u8 (k % 256)) (.int .u64 3) : Sem Value).run Tryz.prog w = .ok (.int .u8 ((k.toNat * 8 : Nat) : Int)) w := by
 have : k = 0 ∨ k = 1 ∨ k = 2 := by omega
 rcases this with rfl | rfl | rfl <;> simp [go_sem] <;> rfl
theorem Base.low {W w w1 : World} {b b' : Nat} {bs : List (Nat × List Value)} (h : Base W b bs w) (hb : b' ≤ b) (O : Own W W.heap.size bs w1) (hs : w1.heap.size = b' := by rfl) : Base W b' bs w :=
 ⟨h.own, Nat.le_trans hb h.bw, hs ▸ O.le, fun p hp => hs ▸ (O.mem p hp).2.1⟩
theorem Base.low2 {W w w1 : World} {b b' : Nat} {x : Nat × List Value} {bs : List (Nat × List Value)} (h : Base W b (x :: bs) w) (hb : b' ≤ b) (O : Own W W.heap.size bs w1) (hs : w1.heap.size = b' := by rfl) : Base W b' bs w := by
 refine ⟨⟨h.own.bel, h.own.le, ?_, fun p hp => h.own.mem p (List.mem_cons_of_mem _ hp)⟩, Nat.le_trans hb h.bw, hs ▸ O.le, fun p hp => hs ▸ (O.mem p hp).2.1⟩
 have := h.own.nd
 rw [List.map_cons, List.nodup_cons] at this
 exact this.2
theorem may_conn {m : Mq} (h : okOf m = true) (k1 : m.kind = 1) : m.client.size ≤ 65535 ∧ m.wt.size ≤ 65535 ∧ m.wp.size ≤ 65535 ∧ m.user.size ≤ 65535 ∧ m.pass.size ≤ 65535 ∧ 0 ≤ m.keep ∧ m.keep ≤ 65535 ∧ 0 ≤ m.wq ∧ m.wq ≤ 2 := by
 have hc : connectOk m = true := by unfold okOf at h; rw [if_pos k1] at h; exact h
 simp only [connectOk, Bool.and_eq_true, decide_eq_true_eq] at hc
 obtain ⟨hc, hkp, hw, hu, hps, h1, h2⟩ := hc
 have hc' := textOk_size hc
 have hu' := textOk_size hu
 have hkp := inRB_iff.1 hkp
 have hwq : m.wt.size ≤ 64 ∧ m.wp.size ≤ 128 ∧ 0 ≤ m.wq ∧ m.wq ≤ 2 := by
  unfold willOk at hw
  cases hwon : m.won with
  | true =>
   rw [hwon, if_pos rfl] at hw
   simp only [Bool.and_eq_true, decide_eq_true_eq] at hw
   obtain ⟨a, b, c⟩ := hw
   have := textOk_size a
   have := inRB_iff.1 c
   exact ⟨by omega, by omega, by omega, by omega⟩
  | false =>
   rw [hwon, if_neg (by simp)] at hw
   simp only [Bool.and_eq_true, beq_iff_eq, Bool.not_eq_true'] at hw
   obtain ⟨a, b, c, d⟩ := hw
   rw [emp_nos a, emp_nos b, c]
   exact ⟨by decide, by decide, by decide, by decide⟩
 exact ⟨by omega, by omega, by omega, by omega, by omega, by omega, by omega, by omega, by omega⟩
theorem may_ack {m : Mq} (h : okOf m = true) (k1 : ¬ m.kind = 1) (k2 : m.kind = 2) : 0 ≤ m.code := by
 have hc : (inRB m.code 0 5 && (!m.present || m.code == 0)) = true := by unfold okOf at h; rw [if_neg k1, if_pos k2] at h; exact h
 simp only [Bool.and_eq_true] at hc
 exact (inRB_iff.1 hc.1).1
theorem may_pub {m : Mq} (h : okOf m = true) (k1 : ¬ m.kind = 1) (k2 : ¬ m.kind = 2) (k3 : m.kind = 3) : m.topic.size ≤ 65535 ∧ m.payload.size ≤ 65535 ∧ 0 ≤ m.id ∧ m.id ≤ 65535 := by
 have hc : publishOk m = true := by unfold okOf at h; rw [if_neg k1, if_neg k2, if_pos k3] at h; exact h
 obtain ⟨ht, hq0, hq2, hi, hz, hp⟩ := publish_facts hc
 have : 0 ≤ m.id ∧ m.id ≤ 65535 := by
  by_cases hq : 0 < m.qos
  ·have := hi hq; omega
  ·have := hz (by omega); omega
 exact ⟨by omega, by omega, this.1, this.2⟩
theorem may_id {m : Mq} (h : okOf m = true) (k1 : ¬ m.kind = 1) (k2 : ¬ m.kind = 2) (k3 : ¬ m.kind = 3) (kb : bareKind m.kind = false) : 0 ≤ m.id ∧ m.id ≤ 65535 := by
 unfold okOf at h
 rw [if_neg k1, if_neg k2, if_neg k3, kb] at h
 have ids : ∀ {n : Int}, inRB n 1 65535 = true → 0 ≤ n ∧ n ≤ 65535 := fun h => by have := inRB_iff.1 h; omega
 split at h
 ·exact ids h
 ·split at h
  ·exact ids (Bool.and_eq_true _ _ ▸ h).1
  ·split at h
   ·exact ids (Bool.and_eq_true _ _ ▸ h).1
   ·split at h
    ·exact ids (Bool.and_eq_true _ _ ▸ h).1
    ·cases h
def preBy (m : Mq) : List UInt8 :=
 if m.kind = 1 then connectBy m
 else if m.kind = 2 then [UInt8.ofNat (cb m.present 1), UInt8.ofNat m.code.toNat]
 else if m.kind = 3 then publishBy m
 else if bareKind m.kind then [] else big 2 m.id.toNat
theorem pre_1 {m : Mq} (k1 : m.kind = 1) : preBy m = connectBy m := by unfold preBy; rw [if_pos k1]
theorem pre_2 {m : Mq} (k2 : m.kind = 2) : preBy m = [UInt8.ofNat (cb m.present 1), UInt8.ofNat m.code.toNat] := by unfold preBy; rw [if_neg (by omega), if_pos k2]
theorem pre_3 {m : Mq} (k3 : m.kind = 3) : preBy m = publishBy m := by unfold preBy; rw [if_neg (by omega), if_neg (by omega), if_pos k3]
theorem pre_b {m : Mq} (k1 : ¬ m.kind = 1) (k2 : ¬ m.kind = 2) (k3 : ¬ m.kind = 3) (kb : bareKind m.kind = true) : preBy m = [] := by unfold preBy; rw [if_neg k1, if_neg k2, if_neg k3, if_pos kb]
theorem pre_i {m : Mq} (k1 : ¬ m.kind = 1) (k2 : ¬ m.kind = 2) (k3 : ¬ m.kind = 3) (kb : bareKind m.kind = false) : preBy m = big 2 m.id.toNat := by unfold preBy; rw [if_neg k1, if_neg k2, if_neg k3, if_neg (by simp [kb])]
theorem may_lists {m : Mq} (hm : mayB m) : wishesAll m.wishes = true ∧ m.wishes.length ≤ 8 ∧ codesAll m.codes = true ∧ m.codes.length ≤ 8 ∧ filtersAll m.filters = true ∧ m.filters.length ≤ 8 := by
 obtain ⟨h, ho⟩ := hm
 unfold okOf at h
 unfold onlyOf at ho
 have hw := congrArg Mq.wishes ho
 have hc := congrArg Mq.codes ho
 have hf := congrArg Mq.filters ho
 by_cases k1 : m.kind = 1
 ·simp only [if_pos k1] at hw hc hf
  rw [hw, hc, hf]; exact ⟨rfl, Nat.zero_le 8, rfl, Nat.zero_le 8, rfl, Nat.zero_le 8⟩
 by_cases k2 : m.kind = 2
 ·simp only [if_neg k1, if_pos k2] at hw hc hf
  rw [hw, hc, hf]; exact ⟨rfl, Nat.zero_le 8, rfl, Nat.zero_le 8, rfl, Nat.zero_le 8⟩
 by_cases k3 : m.kind = 3
 ·simp only [if_neg k1, if_neg k2, if_pos k3] at hw hc hf
  rw [hw, hc, hf]; exact ⟨rfl, Nat.zero_le 8, rfl, Nat.zero_le 8, rfl, Nat.zero_le 8⟩
 by_cases ki : idKind m.kind = true
 ·simp only [if_neg k1, if_neg k2, if_neg k3, if_pos ki] at hw hc hf
  rw [hw, hc, hf]; exact ⟨rfl, Nat.zero_le 8, rfl, Nat.zero_le 8, rfl, Nat.zero_le 8⟩
 by_cases k8 : m.kind = 8
 ·simp only [if_neg k1, if_neg k2, if_neg k3, if_neg ki, if_pos k8, Bool.and_eq_true, wishesOk] at h hw hc hf
  have := inRB_iff.1 h.2.2
  rw [hc, hf]; exact ⟨h.2.1, by omega, rfl, Nat.zero_le 8, rfl, Nat.zero_le 8⟩
 by_cases k9 : m.kind = 9
 ·simp only [if_neg k1, if_neg k2, if_neg k3, if_neg ki, if_neg k8, if_pos k9, Bool.and_eq_true, codesOk] at h hw hc hf
  have := inRB_iff.1 h.2.2
  rw [hw, hf]; exact ⟨rfl, Nat.zero_le 8, h.2.1, by omega, rfl, Nat.zero_le 8⟩
 by_cases k10 : m.kind = 10
 ·simp only [if_neg k1, if_neg k2, if_neg k3, if_neg ki, if_neg k8, if_neg k9, if_pos k10, Bool.and_eq_true, filtersOk] at h hw hc hf
  have := inRB_iff.1 h.2.2
  rw [hw, hc]; exact ⟨rfl, Nat.zero_le 8, rfl, Nat.zero_le 8, h.2.1, by omega⟩
 simp only [if_neg k1, if_neg k2, if_neg k3, if_neg ki, if_neg k8, if_neg k9, if_neg k10] at hw hc hf
 rw [hw, hc, hf]; exact ⟨rfl, Nat.zero_le 8, rfl, Nat.zero_le 8, rfl, Nat.zero_le 8⟩
theorem body_pre {m : Mq} (hm : mayB m) : bodyBy m = (((preBy m) ++ wishesBy m.wishes) ++ codesBy m.codes) ++ filtersBy m.filters := by
 obtain ⟨h, ho⟩ := hm
 unfold okOf at h
 unfold onlyOf at ho
 have hw := congrArg Mq.wishes ho
 have hc := congrArg Mq.codes ho
 have hf := congrArg Mq.filters ho
 unfold bodyBy preBy
 by_cases k1 : m.kind = 1
 ·simp only [if_pos k1] at hw hc hf
  rw [hw, hc, hf, if_pos k1, if_pos k1]; simp [mq0, wishesBy, codesBy, filtersBy]
 by_cases k2 : m.kind = 2
 ·simp only [if_neg k1, if_pos k2] at hw hc hf
  rw [hw, hc, hf, if_neg k1, if_pos k2, if_neg k1, if_pos k2]; simp [mq0, wishesBy, codesBy, filtersBy]
 by_cases k3 : m.kind = 3
 ·simp only [if_neg k1, if_neg k2, if_pos k3] at hw hc hf
  rw [hw, hc, hf, if_neg k1, if_neg k2, if_pos k3, if_neg k1, if_neg k2, if_pos k3]; simp [mq0, wishesBy, codesBy, filtersBy]
 by_cases ki : idKind m.kind = true
 ·simp only [if_neg k1, if_neg k2, if_neg k3, if_pos ki] at hw hc hf
  have hb : ¬ bareKind m.kind = true := by
   simp only [idKind, bareKind, Bool.or_eq_true, beq_iff_eq] at ki ⊢
   omega
  have n8 : ¬ m.kind = 8 := by simp only [idKind, Bool.or_eq_true, beq_iff_eq] at ki; omega
  have n9 : ¬ m.kind = 9 := by simp only [idKind, Bool.or_eq_true, beq_iff_eq] at ki; omega
  have n10 : ¬ m.kind = 10 := by simp only [idKind, Bool.or_eq_true, beq_iff_eq] at ki; omega
  rw [hw, hc, hf, if_neg k1, if_neg k2, if_neg k3, if_neg n8, if_neg n9, if_neg n10, if_neg hb, if_neg k1, if_neg k2, if_neg k3]; simp [mq0, wishesBy, codesBy, filtersBy]
 by_cases k8 : m.kind = 8
 ·simp only [if_neg k1, if_neg k2, if_neg k3, if_neg ki, if_pos k8] at hw hc hf
  rw [hc, hf, if_neg k1, if_neg k2, if_neg k3, if_pos k8, if_neg k1, if_neg k2, if_neg k3, if_neg (by rw [k8]; decide)]; simp [mq0, codesBy, filtersBy]
 by_cases k9 : m.kind = 9
 ·simp only [if_neg k1, if_neg k2, if_neg k3, if_neg ki, if_neg k8, if_pos k9] at hw hc hf
  rw [hw, hf, if_neg k1, if_neg k2, if_neg k3, if_neg k8, if_pos k9, if_neg k1, if_neg k2, if_neg k3, if_neg (by rw [k9]; decide)]; simp [mq0, wishesBy, filtersBy]
 by_cases k10 : m.kind = 10
 ·simp only [if_neg k1, if_neg k2, if_neg k3, if_neg ki, if_neg k8, if_neg k9, if_pos k10] at hw hc hf
  rw [hw, hc, if_neg k1, if_neg k2, if_neg k3, if_neg k8, if_neg k9, if_pos k10, if_neg k1, if_neg k2, if_neg k3, if_neg (by rw [k10]; decide)]; simp [mq0, wishesBy, codesBy]
 simp only [if_neg k1, if_neg k2, if_neg k3, if_neg ki, if_neg k8, if_neg k9, if_neg k10] at hw hc hf h
 rw [hw, hc, hf, if_neg k1, if_neg k2, if_neg k3, if_neg k8, if_neg k9, if_neg k10, if_pos h, if_neg k1, if_neg k2, if_neg k3]; simp [mq0, wishesBy, codesBy, filtersBy]
theorem pre_le {m : Mq} (hm : mayB m) : (preBy m).length ≤ 540 := by
 have h := body_le hm.1
 rw [body_pre hm] at h
 simp only [List.length_append] at h
 omega
theorem bigG (k : Nat) (hk : k ≤ 65535) (w : World) :
  Calls Tryz.prog 90 #[iz k, iz 2] w fun e w' => ∃ v', e = .returned v' ∧ (∃ q c, v' = .slice (some ⟨q, 0, none⟩) 2 c ∧ w.heap.size ≤ q ∧ RB w' w'.heap.size (some ⟨q, 0, none⟩) (big 2 k) ∧ Below w.heap.size w w') := by
 refine (big_walk k 2 k 2 rfl rfl (by decide) (by omega) w).mono ?_
 rintro e w' ⟨A', c', rfl, ho, hb⟩
 obtain ⟨g, rfl, hg, _⟩ := own_form ho (by decide)
 exact ⟨_, rfl, g, c', rfl, hg, RB.of_ownN ho, hb⟩
theorem rowBig (b : Nat) (k : Int) (h0 : 0 ≤ k) (h1 : k ≤ 65535) (w : World) (hb : b ≤ w.heap.size) :
  Calls Tryz.prog 90 #[iz k, iz 2] w fun e w' => ∃ v', e = .returned v' ∧ (RowIs b (big 2 k.toNat) v' w' ∧ Below w.heap.size w w') := by
 refine (big_walk k 2 k.toNat 2 (by omega) rfl (by decide) (by omega) w).mono ?_
 rintro e w' ⟨A', c', rfl, ho, hb'⟩
 exact ⟨_, rfl, ⟨A', c', by rw [big_length], by rw [big_length]; exact own_base ho hb⟩, hb'⟩
theorem rowTextRG (b : Nat) (xs : List UInt8) (v : Value) (s : ByteArray) (hs : s.size ≤ 65535) (w : World) (hv : RowIs b xs v w) (hb : b ≤ w.heap.size) (hn : xs.length ≤ 140737488251232) :
  Calls Tryz.prog 106 #[v, .string s] w fun e w' => ∃ v', e = .returned v' ∧ (RowIs b (xs ++ strB s) v' w' ∧ Below b w w' ∧ (∀ g, g < w.heap.size → some g ≠ v.ownBlock → w'.heap[g]? = w.heap[g]?)) := by
 go_enter Tryz.func106, Tryz.ntmps106
 refine Has.start 13 [(0, v), (1, .string s)] rfl rfl ⟨rfl, rfl, trivial⟩ ?_
 intro a0 H0
 refine H0.rg 1 fun a1 H1 => nt ?_
 refine H1.rg 2 fun a3 H3 => ?_
 refine H3.lenS gz rfl rfl rfl rfl Tryz.underlying9 ?_
 intro a4 H4
 refine H4.cl (bigG s.size (by omega) w) ?_
 rintro a5 _ w1 ⟨q, c, rfl, hq, hrb, hb1⟩ H5
 obtain ⟨v', w', hrun, hrow, hb2, hg, hob⟩ := run_append_rowG (P := Tryz.prog) (a := a5) (w := w1) Tryz.underlying31 info_u8 (o := ⟨some 9, _, _, _, _, none⟩) (b := b) (xs := xs) (ys := big 2 s.size) (v := v) (c := c) rfl (H5.at_ 5 _ rfl) ((H5.at_ 8 _ rfl).trans (by rw [big_length])) (hv.below hb1) hrb (by rw [big_length]; decide) (by rw [big_length]; omega) (Nat.le_trans hb hb1.size)
 refine H5.go gz rfl rfl _ hrun ?_
 intro a6 H6
 refine H6.ms 1 fun a7 H7 => nt ?_
 refine H7.rg 2 fun a9 H9 => ?_
 obtain ⟨v2, w2, hrun2, hrow2, hb3, hg2⟩ := run_append_strR (P := Tryz.prog) (a := a9) (w := w') Tryz.underlying31 Tryz.underlying9 info_u8 (o := ⟨some 12, _, _, _, _, none⟩) rfl rfl (H9.at_ 11 _ rfl) ((H9.at_ 10 _ rfl).symm ▸ hrow) (by rw [List.length_append, big_length]; omega) (Nat.le_trans (Nat.le_trans hb hb1.size) hb2.size)
 refine H9.go gz rfl rfl _ hrun2 ?_
 intro a10 H10
 refine H10.ms 1 fun a11 H11 => nt ?_
 refine wp_ret ?_
 refine bodyPost_ret (results_tmp rfl _ _ _) H11.df ⟨_, congrArg Ending.returned (H11.at_ 4 _ rfl), (by unfold strB; rw [← List.append_assoc]; exact hrow2), ((hb1.mono hb).trans hb2).trans hb3, fun g hlt hne => ((hg2.block g (Nat.lt_of_lt_of_le (Nat.lt_of_lt_of_le hlt hb1.size) hb2.size) ?_).trans (hg.block g (Nat.lt_of_lt_of_le hlt hb1.size) hne)).trans (hb1.block g hlt)⟩
 rw [H9.at_ 10 _ rfl]
 rcases hob with h | h
 ·rw [h]; exact hne
 ·rw [h]; intro e; injection e with e; have := hb1.size; omega
theorem rowTextR (b : Nat) (xs : List UInt8) (v : Value) (s : ByteArray) (hs : s.size ≤ 65535) (w : World) (hv : RowIs b xs v w) (hb : b ≤ w.heap.size) (hn : xs.length ≤ 140737488251232) :
  Calls Tryz.prog 106 #[v, .string s] w fun e w' => ∃ v', e = .returned v' ∧ (RowIs b (xs ++ strB s) v' w' ∧ Below b w w') :=
 (rowTextRG b xs v s hs w hv hb hn).mono fun _ _ ⟨v', e, h1, h2, _⟩ => ⟨v', e, h1, h2⟩
theorem refBody (m : Mq) (vc vw vf : Value) (w : World) (hm : mayB m) (hL : MqL w w.heap.size m vc vw vf) :
  Calls Tryz.prog 77 #[.agg (mqCells m vc vw vf).toArray] w (Laid (bodyBy m) w) := by
 obtain ⟨A1, c1, A2, c2, A3, c3, rfl, rfl, rfl, l1, l2, l3, k1', k2', k3', r1, r2, r3⟩ := id hL
 obtain ⟨hwa, hwl, hca, hcl, hfa, hfl⟩ := may_lists hm
 have hpl := pre_le hm
 have hwb := wishesBy_le _ hwa
 have hfb := filtersBy_le _ hfa
 have hcb := codesBy_le m.codes
 go_enter Tryz.func77, Tryz.ntmps77
 refine Has.start 159 [(0, .agg (mqCells m (.slice A1 m.codes.length c1) (.slice A2 m.wishes.length c2) (.slice A3 m.filters.length c3)).toArray)] rfl rfl ⟨rfl, trivial⟩ ?_
 intro a0 H0
 have O0 := Own.start w
 refine rl ?_
 refine H0.bx O0 1 fun a2 w1 O1 H2 => nt ?_
 have hw1 : w.heap.size < w1.heap.size := O1.lt 0 rfl
 refine H2.rg 1 fun a3 H3 => nt ?_
 refine wp_seq_join (fun a w' => ∃ v, Has a 159 [(1, pz w.heap.size), (3, v)] ∧ RowIs w1.heap.size (preBy m) v w' ∧ Base w w1.heap.size [(w.heap.size, (mqCells m (.slice A1 m.codes.length c1) (.slice A2 m.wishes.length c2) (.slice A3 m.filters.length c3)))] w') ?_ ?_
 ·skip
  refine H3.rg 1 fun a4 H4 => ?_
  refine H4.ld 0 (O1.li 0 0) fun a5 H5 => nt ?_
  refine wp_block ?_
  obtain ⟨b1, h1⟩ : ∃ b, (m.kind == 1) = b := ⟨_, rfl⟩
  cases b1 with
  | true =>
   have k1 : m.kind = 1 := by simpa using h1
   refine rl ?_
   refine H5.bn 1 (eql_iB _ _ _ h1 _ _ _) fun a7 H7 => nt ?_
   refine H7.condT rfl ?_
   obtain ⟨hc, ht, hp, hu', hp', hk0, hk1, hq0, hq2⟩ := may_conn hm.1 k1
   refine H7.rg 1 fun a8 H8 => ?_
   refine H8.ld 0 (load_will _ _ _ _ _ _ _ _ (O1.get 0 rfl) rfl rfl rfl rfl rfl) fun a9 H9 => ?_
   refine H9.al O1 0 zero_will fun a10 w2 O2 H10 => ?_
   refine H10.st (L := (willL m)) O2 0 0 (hi := size_will) fun a11 w3 O3 H11 => nt ?_
   have HB3 := Base.of O3
   obtain ⟨b0, hb0⟩ : ∃ b0, b0 = w3.heap.size := ⟨_, rfl⟩
   rw [← hb0] at HB3
   have hb0' := hb0
   clear hb0
   have hw3 : w1.heap.size ≤ b0 := by rw [hb0']; exact Nat.le_of_lt (O3.lt 0 rfl)
   have H12 := H11.kp [1, 4]
   repeat (refine wp_seq ?_)
   have h24a : cb m.clean 2 < 256 := cb_lt _ _ (by decide)
   have h24b : cb m.won 4 < 256 := cb_lt _ _ (by decide)
   have h29a : (cb m.clean 2 ||| cb m.won 4) < 256 := or_lt8 h24a h24b
   have h29b : m.wq.toNat * 8 < 256 := by omega
   have h33a : ((cb m.clean 2 ||| cb m.won 4) ||| m.wq.toNat * 8) < 256 := or_lt8 h29a h29b
   have h33b : cb m.wr 32 < 256 := cb_lt _ _ (by decide)
   have h37a : (((cb m.clean 2 ||| cb m.won 4) ||| m.wq.toNat * 8) ||| cb m.wr 32) < 256 := or_lt8 h33a h33b
   have h37b : cb m.hp 64 < 256 := cb_lt _ _ (by decide)
   have h41a : ((((cb m.clean 2 ||| cb m.won 4) ||| m.wq.toNat * 8) ||| cb m.wr 32) ||| cb m.hp 64) < 256 := or_lt8 h37a h37b
   have h41b : cb m.hu 128 < 256 := cb_lt _ _ (by decide)
   have h41 : (((((cb m.clean 2 ||| cb m.won 4) ||| m.wq.toNat * 8) ||| cb m.wr 32) ||| cb m.hp 64) ||| cb m.hu 128) < 256 := or_lt8 h41a h41b
   have hflags : (((((cb m.clean 2 ||| cb m.won 4) ||| m.wq.toNat * 8) ||| cb m.wr 32) ||| cb m.hp 64) ||| cb m.hu 128) = flagsC m := flags_or _ _ _ _ _ _ (by omega)
   refine H12.dr HB3 [1, 4] rfl [er 0 17 [26] (fun v w => RowIs b0 [0, 4, 77, 81, 84, 84] v w), ec 1 18 (.pointer (some ⟨w.heap.size, 2, none⟩)), ec 2 19 (.bool m.clean), ec 3 20 (.int .u8 ((cb m.clean 2 : Nat) : Int)), ec 4 21 (pz w1.heap.size), ec 5 22 (.bool m.won), ec 6 23 (.int .u8 ((cb m.won 4 : Nat) : Int)), ec 7 24 (.int .u8 (((cb m.clean 2 ||| cb m.won 4) : Nat) : Int)), ec 8 25 (.pointer (some ⟨w1.heap.size, 3, none⟩)), ec 9 26 (iz m.wq), ec 10 27 (.int .u8 (m.wq % 256)), ec 11 28 (.int .u8 ((m.wq.toNat * 8 : Nat) : Int)), ec 12 29 (.int .u8 ((((cb m.clean 2 ||| cb m.won 4) ||| m.wq.toNat * 8) : Nat) : Int)), ec 13 30 (.pointer (some ⟨w1.heap.size, 4, none⟩)), ec 14 31 (.bool m.wr), ec 15 32 (.int .u8 ((cb m.wr 32 : Nat) : Int)), ec 16 33 (.int .u8 (((((cb m.clean 2 ||| cb m.won 4) ||| m.wq.toNat * 8) ||| cb m.wr 32) : Nat) : Int)), ec 17 34 (.pointer (some ⟨w.heap.size, 12, none⟩)), ec 18 35 (.bool m.hp), ec 19 36 (.int .u8 ((cb m.hp 64 : Nat) : Int)), ec 20 37 (.int .u8 ((((((cb m.clean 2 ||| cb m.won 4) ||| m.wq.toNat * 8) ||| cb m.wr 32) ||| cb m.hp 64) : Nat) : Int)), ec 21 38 (.pointer (some ⟨w.heap.size, 10, none⟩)), ec 22 39 (.bool m.hu), ec 23 40 (.int .u8 ((cb m.hu 128 : Nat) : Int)), ec 24 41 (.int .u8 (((((((cb m.clean 2 ||| cb m.won 4) ||| m.wq.toNat * 8) ||| cb m.wr 32) ||| cb m.hp 64) ||| cb m.hu 128) : Nat) : Int)), er 25 42 [26] (fun v w => BytesAre [4, UInt8.ofNat (flagsC m)] v w), er 26 43 [] (fun v w => RowIs b0 ([0, 4, 77, 81, 84, 84] ++ [4, UInt8.ofNat (flagsC m)]) v w), er 27 3 [] (fun v w => RowIs b0 ([0, 4, 77, 81, 84, 84] ++ [4, UInt8.ofNat (flagsC m)]) v w)] rfl ⟨jm, (jl fun _ h => h.own.lb 1 2), (jq fun ww _ => (refBitN m.clean 2 2 rfl ww)), jm, (jl fun _ h => h.own.lb 0 0), (jq fun ww _ => (refBitN m.won 4 4 rfl ww)), (jb fun _ => (or_u _ _ h24a h24b _ _ _)), jm, (jl fun _ h => h.own.li 0 3), (jc fun _ => (conv_u8 _ _)), (jb fun _ => (shl3_u8 _ hq0 hq2 _ _ _)), (jb fun _ => (or_u _ _ h29a h29b _ _ _)), jm, (jl fun _ h => h.own.lb 0 4), (jq fun ww _ => (refBitN m.wr 32 32 rfl ww)), (jb fun _ => (or_u _ _ h33a h33b _ _ _)), jm, (jl fun _ h => h.own.lb 1 12), (jq fun ww _ => (refBitN m.hp 64 64 rfl ww)), (jb fun _ => (or_u _ _ h37a h37b _ _ _)), jm, (jl fun _ h => h.own.lb 1 10), (jq fun ww _ => (refBitN m.hu 128 128 rfl ww)), (jb fun _ => (or_u _ _ h41a h41b _ _ _)), trivial⟩ trivial ?_ ?_
   ·intro listed aa ww i o hs hni hcl ho hd hI hh
    have hls : listed.size = 28 := hs
    rcases hh with rfl | rfl | rfl | rfl | hh
    ·obtain rfl := pick_op ho rfl
     have HH : Has aa 159 [] := Has.of hI.sz hI.df trivial
     refine wpOp_enter ho gz 17 rfl 106 _ (run_callH HH rfl rfl (fun _ _ => by kernel_rfl)) _ (rowTextR ww.heap.size [] (.slice none 0 0) ({ data := #[77, 81, 84, 84] } : ByteArray) (by decide) ww (RowIs.nil _ _) (Nat.le_refl _) (by simp)) ?_
     rintro v' w' ⟨hrow, hb⟩
     exact hI.ph hls 0 rfl (v') (by rw [show ([0, 4, 77, 81, 84, 84] : List UInt8) = [] ++ strB ({ data := #[77, 81, 84, 84] } : ByteArray) by decide]; exact hrow.base hI.wp.bw) (hI.wp.call hb) ⟨fun h => absurd rfl h, fun _ _ _ _ _ h => h.below hb, fun _ _ _ _ _ h => h.below hb, fun _ _ _ _ _ h => h.below hb, trivial⟩
    ·obtain rfl := pick_op ho rfl
     have r_41 := hI.vs _ (ma 24 rfl) (.inr (ran_of hd 24 (by kernel_rfl))) trivial
     have u_41 : aa.eval (.tmp 41) = .int .u8 (((((((cb m.clean 2 ||| cb m.won 4) ||| m.wq.toNat * 8) ||| cb m.wr 32) ||| cb m.hp 64) ||| cb m.hu 128) : Nat) : Int) := r_41
     have HH : Has aa 159 [(41, .int .u8 (((((((cb m.clean 2 ||| cb m.won 4) ||| m.wq.toNat * 8) ||| cb m.wr 32) ||| cb m.hp 64) ||| cb m.hu 128) : Nat) : Int))] := Has.of hI.sz hI.df ⟨u_41, trivial⟩
     obtain ⟨hby, hb⟩ := bytes_lit ww [4, UInt8.ofNat (flagsC m)] [.int .u8 4, .int .u8 (((((((cb m.clean 2 ||| cb m.won 4) ||| m.wq.toNat * 8) ||| cb m.wr 32) ||| cb m.hp 64) ||| cb m.hu 128) : Nat) : Int)] (by rw [hflags] at h41 ⊢; rw [bv_nat _ h41]; rfl) 5 2 rfl
     refine wpOp_go ho gz 42 rfl (.slice (some ⟨ww.heap.size, 0, none⟩) 2 2) (ww.alloc (.cells ([.int .u8 4, .int .u8 (((((((cb m.clean 2 ||| cb m.won 4) ||| m.wq.toNat * 8) ||| cb m.wr 32) ||| cb m.hp 64) ||| cb m.hu 128) : Nat) : Int)] : List Value).toArray 5)) (run_any HH (by intro cs b h; cases h) (by kernel_rfl) (by kernel_rfl)) ?_
     exact hI.ph hls 25 rfl (.slice (some ⟨ww.heap.size, 0, none⟩) 2 2) hby (hI.wp.call hb) ⟨fun _ _ _ _ _ h => h.below hb, fun h => absurd rfl h, fun _ _ _ _ _ h => h.below hb, fun _ _ _ _ _ h => h.below hb, trivial⟩
    ·obtain rfl := pick_op ho rfl
     have r_17 := hI.vs _ (ma 0 rfl) (.inr (ran_of hd 0 (by kernel_rfl))) ⟨hni, trivial⟩
     have r_42 := hI.vs _ (ma 25 rfl) (.inr (ran_of hd 25 (by kernel_rfl))) ⟨hni, trivial⟩
     have HH : Has aa 159 [(17, aa.eval (.tmp 17)), (42, aa.eval (.tmp 42))] := Has.of hI.sz hI.df ⟨rfl, rfl, trivial⟩
     obtain ⟨v', w', hrun, hrow, hb0, hg⟩ := run_append_row (P := Tryz.prog) (a := aa) (w := ww) Tryz.underlying31 info_u8 (o := ⟨some 43, _, _, _, _, none⟩) rfl rfl rfl r_17 r_42 (by simp only [List.length_cons, List.length_nil]; omega) hI.wp.bw
     refine wpOp_go ho gz 43 rfl v' w' hrun ?_
     exact hI.ph hls 26 rfl (v') hrow (hI.wp.step hb0) ⟨fun _ h => absurd (by show 26 ∈ ([26] : List Nat); decide) h, fun _ h => absurd (by show 26 ∈ ([26] : List Nat); decide) h, fun h => absurd rfl h, fun _ _ h => absurd (hni.symm.trans (ran_of (hcl 27 _ rfl (h.resolve_left (by rw [hls]; show ¬ 28 ≤ 27; decide))) 26 (by kernel_rfl))) (by decide), trivial⟩
    ·obtain rfl := pick_op ho rfl
     have r_43 := hI.vs _ (ma 26 rfl) (.inr (ran_of hd 26 (by kernel_rfl))) trivial
     have HH : Has aa 159 [(43, aa.eval (.tmp 43))] := Has.of hI.sz hI.df ⟨rfl, trivial⟩
     refine wpOp_go ho gz 3 rfl (aa.eval (.tmp 43)) ww (run_move (.inr rfl) (HH.ev rfl)) ?_
     exact hI.ph hls 27 rfl (aa.eval (.tmp 43)) r_43 hI.wp AllC.same
    ·exact False.elim hh
   ·intro listed a13 w4 hall hI
    have r_3 := hI.vs _ (ma 27 rfl) (.inr (hall 27 (by decide))) trivial
    have H13 : Has a13 159 [(1, pz w.heap.size), (4, pz w1.heap.size), (3, a13.eval (.tmp 3))] := Has.of hI.sz hI.df ⟨hI.fx.1, hI.fx.2.1, rfl, trivial⟩
    have HB4 := hI.wp
    have R3_4 : RowIs b0 ([0, 4, 77, 81, 84, 84] ++ [4, UInt8.ofNat (flagsC m)]) (a13.eval (.tmp 3)) w4 := r_3
    refine then_normal ?_
    repeat (refine wp_seq ?_)
    have R3 := R3_4
    refine H13.rg 2 fun a15 H15 => ?_
    refine H15.ld 0 (HB4.own.li 1 3) fun a16 H16 => ?_
    refine H16.cl (rowBig b0 m.keep hk0 hk1 _ HB4.bw) ?_
    rintro a17 v47 w5 ⟨R47, hb⟩ H17
    have HB5 := HB4.call hb
    have R3 := R3.below hb
    clear hb
    refine H17.appendRow Tryz.underlying31 info_u8 gz rfl rfl rfl rfl rfl R3 R47.read (by simp only [List.length_append, big_length, List.length_cons, List.length_nil]; omega) HB5.bw ?_
    intro a18 v48 w6 H18 R48 hb _
    have HB6 := HB5.step hb
    clear hb
    refine H18.ms 1 fun a19 H19 => nt ?_
    refine H19.rg 2 fun a21 H21 => ?_
    refine H21.ld 0 (HB6.own.ls 1 1) fun a22 H22 => ?_
    refine H22.cl (rowTextR b0 (([0, 4, 77, 81, 84, 84] ++ [4, UInt8.ofNat (flagsC m)]) ++ big 2 m.keep.toNat) _ m.client hc _ R48 HB6.bw (by simp only [List.length_append, big_length, List.length_cons, List.length_nil]; omega)) ?_
    rintro a23 v52 w7 ⟨R52, hb⟩ H23
    have HB7 := HB6.step hb
    clear hb
    refine H23.ms 1 fun a24 H24 => nt ?_
    refine wp_seq_join (fun a w' => ∃ v, Has a 159 [(1, pz w.heap.size), (4, pz w1.heap.size), (3, v)] ∧ RowIs b0 (((([0, 4, 77, 81, 84, 84] ++ [4, UInt8.ofNat (flagsC m)]) ++ big 2 m.keep.toNat) ++ strB m.client) ++ (if m.won then strB m.wt ++ strB m.wp else [])) v w' ∧ Base w b0 [(w1.heap.size, (willL m)), (w.heap.size, (mqCells m (.slice A1 m.codes.length c1) (.slice A2 m.wishes.length c2) (.slice A3 m.filters.length c3)))] w') ?_ ?_
    ·cases hb54 : m.won with
     | true =>
      refine H24.rg 1 fun a25 H25 => ?_
      refine H25.ld 0 (HB7.own.lb 0 0) fun a26 H26 => nt ?_
      have H26b := H26.keep (l' := [(1, pz w.heap.size), (4, pz w1.heap.size), (3, v52), (54, .bool true)]) ⟨rfl, rfl, rfl, by first | exact congrArg (fun x => some (Value.bool x)) hb54, trivial⟩
      refine H26b.condT rfl ?_
      have H27 := H26b
      refine H27.dr HB7 [1, 4] rfl [er 0 55 [3] (fun v w => RowIs b0 ((([0, 4, 77, 81, 84, 84] ++ [4, UInt8.ofNat (flagsC m)]) ++ big 2 m.keep.toNat) ++ strB m.client) v w), ec 1 56 (.pointer (some ⟨w1.heap.size, 1, none⟩)), ec 2 57 (.string m.wt), er 3 58 [6] (fun v w => RowIs b0 (((([0, 4, 77, 81, 84, 84] ++ [4, UInt8.ofNat (flagsC m)]) ++ big 2 m.keep.toNat) ++ strB m.client) ++ strB m.wt) v w), ec 4 59 (.pointer (some ⟨w1.heap.size, 2, none⟩)), ec 5 60 (.string m.wp), er 6 61 [] (fun v w => RowIs b0 (((([0, 4, 77, 81, 84, 84] ++ [4, UInt8.ofNat (flagsC m)]) ++ big 2 m.keep.toNat) ++ strB m.client) ++ strB m.wt ++ strB m.wp) v w), er 7 3 [] (fun v w => RowIs b0 (((([0, 4, 77, 81, 84, 84] ++ [4, UInt8.ofNat (flagsC m)]) ++ big 2 m.keep.toNat) ++ strB m.client) ++ strB m.wt ++ strB m.wp) v w), er 1000 3 [3, 7] (fun v w => RowIs b0 ((([0, 4, 77, 81, 84, 84] ++ [4, UInt8.ofNat (flagsC m)]) ++ big 2 m.keep.toNat) ++ strB m.client) v w)] rfl ⟨jm, (jl fun _ h => h.own.ls 0 1), jm, (jl fun _ h => h.own.ls 0 2), trivial⟩ ⟨(by rw [H27.at_ 3 _ rfl]; exact R52.drew), trivial⟩ ?_ ?_
      ·intro listed aa ww i o hs hni hcl ho hd hI hh
       have hls : listed.size = 8 := hs
       rcases hh with rfl | rfl | rfl | rfl | hh
       ·obtain rfl := pick_op ho rfl
        have r_3 := hI.vs _ (ma 8 rfl) (.inl (by rw [hls]; show 8 ≤ 1000; decide)) ⟨(Bool.eq_false_iff.2 fun h => absurd (hni.symm.trans (ran_of (hcl 3 _ rfl h) 0 (by kernel_rfl))) (by decide)), (Bool.eq_false_iff.2 fun h => absurd (hni.symm.trans (ran_of (hcl 3 _ rfl (ran_of (hcl 6 _ rfl (ran_of (hcl 7 _ rfl h) 6 (by kernel_rfl))) 3 (by kernel_rfl))) 0 (by kernel_rfl))) (by decide)), trivial⟩
        have HH : Has aa 159 [(3, aa.eval (.tmp 3))] := Has.of hI.sz hI.df ⟨rfl, trivial⟩
        refine wpOp_go ho gz 55 rfl (aa.eval (.tmp 3)) ww (run_move (.inl rfl) (HH.ev rfl)) ?_
        exact hI.ph hls 0 rfl (aa.eval (.tmp 3)) r_3 hI.wp AllC.same
       ·obtain rfl := pick_op ho rfl
        have r_55 := hI.vs _ (ma 0 rfl) (.inr (ran_of hd 0 (by kernel_rfl))) ⟨hni, trivial⟩
        have r_57 := hI.vs _ (ma 2 rfl) (.inr (ran_of hd 2 (by kernel_rfl))) trivial
        have u_57 : aa.eval (.tmp 57) = .string m.wt := r_57
        have HH : Has aa 159 [(55, aa.eval (.tmp 55)), (57, .string m.wt)] := Has.of hI.sz hI.df ⟨rfl, u_57, trivial⟩
        refine wpOp_enter ho gz 58 rfl 106 _ (run_callH HH rfl rfl (fun _ _ => by kernel_rfl)) _ (rowTextR b0 ((([0, 4, 77, 81, 84, 84] ++ [4, UInt8.ofNat (flagsC m)]) ++ big 2 m.keep.toNat) ++ strB m.client) (aa.eval (.tmp 55)) m.wt ht ww r_55 hI.wp.bw (by simp only [List.length_append, strB_length, big_length, List.length_cons, List.length_nil]; omega)) ?_
        rintro v' w' ⟨hrow, hb0⟩
        exact hI.ph hls 3 rfl (v') hrow (hI.wp.step hb0) ⟨fun _ h => absurd (by show 3 ∈ ([3] : List Nat); decide) h, fun h => absurd rfl h, fun _ _ h => absurd (hni.symm.trans (ran_of (hcl 6 _ rfl (h.resolve_left (by rw [hls]; show ¬ 8 ≤ 6; decide))) 3 (by kernel_rfl))) (by decide), fun _ _ h => absurd (hni.symm.trans (ran_of (hcl 6 _ rfl (ran_of (hcl 7 _ rfl (h.resolve_left (by rw [hls]; show ¬ 8 ≤ 7; decide))) 6 (by kernel_rfl))) 3 (by kernel_rfl))) (by decide), fun _ h => absurd (by show 3 ∈ ([3, 7] : List Nat); decide) h, trivial⟩
       ·obtain rfl := pick_op ho rfl
        have r_58 := hI.vs _ (ma 3 rfl) (.inr (ran_of hd 3 (by kernel_rfl))) ⟨hni, trivial⟩
        have r_60 := hI.vs _ (ma 5 rfl) (.inr (ran_of hd 5 (by kernel_rfl))) trivial
        have u_60 : aa.eval (.tmp 60) = .string m.wp := r_60
        have HH : Has aa 159 [(58, aa.eval (.tmp 58)), (60, .string m.wp)] := Has.of hI.sz hI.df ⟨rfl, u_60, trivial⟩
        refine wpOp_enter ho gz 61 rfl 106 _ (run_callH HH rfl rfl (fun _ _ => by kernel_rfl)) _ (rowTextR b0 (((([0, 4, 77, 81, 84, 84] ++ [4, UInt8.ofNat (flagsC m)]) ++ big 2 m.keep.toNat) ++ strB m.client) ++ strB m.wt) (aa.eval (.tmp 58)) m.wp hp ww r_58 hI.wp.bw (by simp only [List.length_append, strB_length, big_length, List.length_cons, List.length_nil]; omega)) ?_
        rintro v' w' ⟨hrow, hb0⟩
        exact hI.ph hls 6 rfl (v') hrow (hI.wp.step hb0) ⟨fun _ _ _ hk => absurd (hk.1.symm.trans (ran_of hd 3 (by kernel_rfl))) (by decide), fun _ h => absurd (by show 6 ∈ ([6] : List Nat); decide) h, fun h => absurd rfl h, fun _ _ h => absurd (hni.symm.trans (ran_of (hcl 7 _ rfl (h.resolve_left (by rw [hls]; show ¬ 8 ≤ 7; decide))) 6 (by kernel_rfl))) (by decide), fun _ _ _ hk => absurd (hk.1.symm.trans (ran_of hd 3 (by kernel_rfl))) (by decide), trivial⟩
       ·obtain rfl := pick_op ho rfl
        have r_61 := hI.vs _ (ma 6 rfl) (.inr (ran_of hd 6 (by kernel_rfl))) trivial
        have HH : Has aa 159 [(61, aa.eval (.tmp 61))] := Has.of hI.sz hI.df ⟨rfl, trivial⟩
        refine wpOp_go ho gz 3 rfl (aa.eval (.tmp 61)) ww (run_move (.inr rfl) (HH.ev rfl)) ?_
        exact hI.ph hls 7 rfl (aa.eval (.tmp 61)) r_61 hI.wp AllC.same
       ·exact False.elim hh
      ·intro listed a28 w8 hall hI
       have r_3 := hI.vs _ (ma 7 rfl) (.inr (hall 7 (by decide))) trivial
       have H28 : Has a28 159 [(1, pz w.heap.size), (4, pz w1.heap.size), (3, a28.eval (.tmp 3))] := Has.of hI.sz hI.df ⟨hI.fx.1, hI.fx.2.1, rfl, trivial⟩
       have HB8 := hI.wp
       have R3_8 : RowIs b0 (((([0, 4, 77, 81, 84, 84] ++ [4, UInt8.ofNat (flagsC m)]) ++ big 2 m.keep.toNat) ++ strB m.client) ++ strB m.wt ++ strB m.wp) (a28.eval (.tmp 3)) w8 := r_3
       refine then_normal ?_
       exact ⟨_, H28.keep ⟨rfl, rfl, rfl, trivial⟩, (by rw [if_pos rfl, ← List.append_assoc]; exact R3_8), HB8⟩
     | false =>
      refine H24.rg 1 fun a25 H25 => ?_
      refine H25.ld 0 (HB7.own.lb 0 0) fun a26 H26 => nt ?_
      have H26b := H26.keep (l' := [(1, pz w.heap.size), (4, pz w1.heap.size), (3, v52), (54, .bool false)]) ⟨rfl, rfl, rfl, by first | exact congrArg (fun x => some (Value.bool x)) hb54, trivial⟩
      refine H26b.condF rfl ?_
      refine skip_wp ?_
      refine then_normal ?_
      exact ⟨_, H26b.keep ⟨rfl, rfl, rfl, trivial⟩, (by rw [if_neg (show ¬ (false = true) by decide), List.append_nil]; exact R52), HB7⟩
    ·rintro a64 w27 ⟨v3_27, H64, R3_27, HB27⟩
     have hl1 : (if m.won then strB m.wt ++ strB m.wp else []).length ≤ 200000 := by split <;> simp [strB_length] <;> omega
     refine wp_seq_join (fun a w' => ∃ v, Has a 159 [(1, pz w.heap.size), (4, pz w1.heap.size), (3, v)] ∧ RowIs b0 ((((([0, 4, 77, 81, 84, 84] ++ [4, UInt8.ofNat (flagsC m)]) ++ big 2 m.keep.toNat) ++ strB m.client) ++ (if m.won then strB m.wt ++ strB m.wp else [])) ++ (if m.hu then strB m.user else [])) v w' ∧ Base w b0 [(w1.heap.size, (willL m)), (w.heap.size, (mqCells m (.slice A1 m.codes.length c1) (.slice A2 m.wishes.length c2) (.slice A3 m.filters.length c3)))] w') ?_ ?_
     ·cases hb63 : m.hu with
      | true =>
       refine H64.rg 1 fun a65 H65 => ?_
       refine H65.ld 0 (HB27.own.lb 1 10) fun a66 H66 => nt ?_
       have H66b := H66.keep (l' := [(1, pz w.heap.size), (4, pz w1.heap.size), (3, v3_27), (63, .bool true)]) ⟨rfl, rfl, rfl, by first | exact congrArg (fun x => some (Value.bool x)) hb63, trivial⟩
       refine H66b.condT rfl ?_
       have H67 := H66b
       refine H67.rg 2 fun a69 H69 => ?_
       refine H69.ld 0 (HB27.own.ls 1 9) fun a70 H70 => ?_
       refine H70.cl (rowTextR b0 (((([0, 4, 77, 81, 84, 84] ++ [4, UInt8.ofNat (flagsC m)]) ++ big 2 m.keep.toNat) ++ strB m.client) ++ (if m.won then strB m.wt ++ strB m.wp else [])) _ m.user hu' _ R3_27 HB27.bw (by simp only [List.length_append, strB_length, big_length, List.length_cons, List.length_nil]; omega)) ?_
       rintro a71 v67 w28 ⟨R67, hb⟩ H71
       have HB28 := HB27.step hb
       clear hb
       refine H71.ms 1 fun a72 H72 => nt ?_
       exact ⟨_, H72.keep ⟨rfl, rfl, rfl, trivial⟩, (by rw [if_pos rfl]; exact R67), HB28⟩
      | false =>
       refine H64.rg 1 fun a65 H65 => ?_
       refine H65.ld 0 (HB27.own.lb 1 10) fun a66 H66 => nt ?_
       have H66b := H66.keep (l' := [(1, pz w.heap.size), (4, pz w1.heap.size), (3, v3_27), (63, .bool false)]) ⟨rfl, rfl, rfl, by first | exact congrArg (fun x => some (Value.bool x)) hb63, trivial⟩
       refine H66b.condF rfl ?_
       refine skip_wp ?_
       refine then_normal ?_
       exact ⟨_, H66b.keep ⟨rfl, rfl, rfl, trivial⟩, (by rw [if_neg (show ¬ (false = true) by decide), List.append_nil]; exact R3_27), HB27⟩
     ·rintro a104 w47 ⟨v3_47, H104, R3_47, HB47⟩
      have hl2 : (if m.hu then strB m.user else []).length ≤ 200000 := by split <;> simp [strB_length] <;> omega
      cases hb69 : m.hp with
      | true =>
       refine H104.rg 1 fun a105 H105 => ?_
       refine H105.ld 0 (HB47.own.lb 1 12) fun a106 H106 => nt ?_
       have H106b := H106.keep (l' := [(1, pz w.heap.size), (4, pz w1.heap.size), (3, v3_47), (69, .bool true)]) ⟨rfl, rfl, rfl, by first | exact congrArg (fun x => some (Value.bool x)) hb69, trivial⟩
       refine H106b.condT rfl ?_
       have H107 := H106b
       refine H107.rg 2 fun a109 H109 => ?_
       refine H109.ld 0 (HB47.own.ls 1 11) fun a110 H110 => ?_
       refine H110.cl (rowTextR b0 ((((([0, 4, 77, 81, 84, 84] ++ [4, UInt8.ofNat (flagsC m)]) ++ big 2 m.keep.toNat) ++ strB m.client) ++ (if m.won then strB m.wt ++ strB m.wp else [])) ++ (if m.hu then strB m.user else [])) _ m.pass hp' _ R3_47 HB47.bw (by simp only [List.length_append, strB_length, big_length, List.length_cons, List.length_nil]; omega)) ?_
       rintro a111 v73 w48 ⟨R73, hb⟩ H111
       have HB48 := HB47.step hb
       clear hb
       refine H111.ms 1 fun a112 H112 => ?_
       refine wpList_nil ?_
       refine block_normal ?_
       refine then_normal ?_
       exact ⟨_, H112.keep ⟨rfl, rfl, trivial⟩, (by rw [pre_1 k1, connect_spell, hb69]; exact RowIs.base (by rw [if_pos rfl]; exact R73) hw3), HB48.low2 hw3 O1⟩
      | false =>
       refine H104.rg 1 fun a105 H105 => ?_
       refine H105.ld 0 (HB47.own.lb 1 12) fun a106 H106 => nt ?_
       have H106b := H106.keep (l' := [(1, pz w.heap.size), (4, pz w1.heap.size), (3, v3_47), (69, .bool false)]) ⟨rfl, rfl, rfl, by first | exact congrArg (fun x => some (Value.bool x)) hb69, trivial⟩
       refine H106b.condF rfl ?_
       have H107 := H106b
       refine skip_wp ?_
       refine block_normal ?_
       refine then_normal ?_
       exact ⟨_, H107.keep ⟨rfl, rfl, trivial⟩, (by rw [pre_1 k1, connect_spell, hb69]; exact RowIs.base (by rw [if_neg (show ¬ (false = true) by decide), List.append_nil]; exact R3_47) hw3), HB47.low2 hw3 O1⟩
  | false =>
   have k1 : ¬ m.kind = 1 := by simpa using h1
   refine rl ?_
   refine H5.bn 1 (eql_iB _ _ _ h1 _ _ _) fun a7 H7 => nt ?_
   refine H7.condF rfl ?_
   obtain ⟨b2, h2⟩ : ∃ b, (m.kind == 2) = b := ⟨_, rfl⟩
   cases b2 with
   | true =>
    have k2 : m.kind = 2 := by simpa using h2
    refine rl ?_
    refine H7.bn 1 (eql_iB _ _ _ h2 _ _ _) fun a9 H9 => nt ?_
    refine H9.condT rfl ?_
    have HB1 := Base.of O1
    obtain ⟨b0, hb0⟩ : ∃ b0, b0 = w1.heap.size := ⟨_, rfl⟩
    rw [← hb0] at HB1
    have hb0' := hb0
    clear hb0
    have H10 := H9.kp [1]
    have hc0 := may_ack hm.1 k1 k2
    repeat (refine wp_seq ?_)
    have hb1 : cb m.present 1 < 256 := cb_lt _ _ (by decide)
    refine H10.dr HB1 [1] rfl [ec 0 76 (.pointer (some ⟨w.heap.size, 13, none⟩)), ec 1 77 (.bool m.present), ec 2 78 (.int .u8 ((cb m.present 1 : Nat) : Int)), ec 3 79 (.pointer (some ⟨w.heap.size, 14, none⟩)), ec 4 80 (iz m.code), ec 5 81 (.int .u8 (m.code % 256)), er 6 82 [] (fun v w => RowIs b0 [UInt8.ofNat (cb m.present 1), UInt8.ofNat m.code.toNat] v w), er 7 3 [] (fun v w => RowIs b0 [UInt8.ofNat (cb m.present 1), UInt8.ofNat m.code.toNat] v w)] rfl ⟨jm, (jl fun _ h => h.own.lb 0 13), (jq fun ww _ => (refBitN m.present 1 1 rfl ww)), jm, (jl fun _ h => h.own.li 0 14), (jc fun _ => (conv_u8 _ _)), trivial⟩ trivial ?_ ?_
    ·intro listed aa ww i o hs hni hcl ho hd hI hh
     have hls : listed.size = 8 := hs
     rcases hh with rfl | rfl | hh
     ·obtain rfl := pick_op ho rfl
      have u_78 := hI.vs _ (ma 2 rfl) (.inr (ran_of hd 2 (by kernel_rfl))) trivial
      have u_81 := hI.vs _ (ma 5 rfl) (.inr (ran_of hd 5 (by kernel_rfl))) trivial
      have HH : Has aa 159 [(78, .int .u8 ((cb m.present 1 : Nat) : Int)), (81, .int .u8 (m.code % 256))] := Has.of hI.sz hI.df ⟨u_78, u_81, trivial⟩
      have hrw := row_lit ww b0 hI.wp.bw [UInt8.ofNat (cb m.present 1), UInt8.ofNat m.code.toNat] [.int .u8 ((cb m.present 1 : Nat) : Int), .int .u8 (m.code % 256)] (by rw [bv_nat _ hb1, byte_of_int _ hc0]; rfl) 2 rfl (by decide)
      have hb := balloc ww (.cells ([.int .u8 ((cb m.present 1 : Nat) : Int), .int .u8 (m.code % 256)] : List Value).toArray 5)
      refine wpOp_go ho gz 82 rfl (.slice (some ⟨ww.heap.size, 0, none⟩) 2 2) (ww.alloc (.cells ([.int .u8 ((cb m.present 1 : Nat) : Int), .int .u8 (m.code % 256)] : List Value).toArray 5)) (run_any HH (by intro cs b h; cases h) (by kernel_rfl) (by kernel_rfl)) ?_
      exact hI.ph hls 6 rfl (.slice (some ⟨ww.heap.size, 0, none⟩) 2 2) hrw (hI.wp.call hb) ⟨fun h => absurd rfl h, fun _ _ _ _ _ h => h.below hb, trivial⟩
     ·obtain rfl := pick_op ho rfl
      have r_82 := hI.vs _ (ma 6 rfl) (.inr (ran_of hd 6 (by kernel_rfl))) trivial
      have HH : Has aa 159 [(82, aa.eval (.tmp 82))] := Has.of hI.sz hI.df ⟨rfl, trivial⟩
      refine wpOp_go ho gz 3 rfl (aa.eval (.tmp 82)) ww (run_move (.inr rfl) (HH.ev rfl)) ?_
      exact hI.ph hls 7 rfl (aa.eval (.tmp 82)) r_82 hI.wp AllC.same
     ·exact False.elim hh
    ·intro listed a11 w2 hall hI
     have r_3 := hI.vs _ (ma 7 rfl) (.inr (hall 7 (by decide))) trivial
     have H11 : Has a11 159 [(1, pz w.heap.size), (3, a11.eval (.tmp 3))] := Has.of hI.sz hI.df ⟨hI.fx.1, rfl, trivial⟩
     have HB2 := hI.wp
     have R3_2 : RowIs b0 [UInt8.ofNat (cb m.present 1), UInt8.ofNat m.code.toNat] (a11.eval (.tmp 3)) w2 := r_3
     refine block_normal ?_
     refine then_normal ?_
     exact ⟨_, H11.keep ⟨rfl, rfl, trivial⟩, (by rw [pre_2 k2]; exact R3_2.base (Nat.le_of_eq hb0'.symm)), HB2.low (Nat.le_of_eq hb0'.symm) O1⟩
   | false =>
    have k2 : ¬ m.kind = 2 := by simpa using h2
    refine rl ?_
    refine H7.bn 1 (eql_iB _ _ _ h2 _ _ _) fun a9 H9 => nt ?_
    refine H9.condF rfl ?_
    obtain ⟨b3, h3⟩ : ∃ b, (m.kind == 3) = b := ⟨_, rfl⟩
    cases b3 with
    | true =>
     have k3 : m.kind = 3 := by simpa using h3
     refine rl ?_
     refine H9.bn 1 (eql_iB _ _ _ h3 _ _ _) fun a11 H11 => nt ?_
     refine H11.condT rfl ?_
     have HB1 := Base.of O1
     obtain ⟨b0, hb0⟩ : ∃ b0, b0 = w1.heap.size := ⟨_, rfl⟩
     rw [← hb0] at HB1
     have hb0' := hb0
     clear hb0
     have H12 := H11.kp [1]
     obtain ⟨ht, hp, hi0, hi1⟩ := may_pub hm.1 k1 k2 k3
     refine H12.rg 1 fun a13 H13 => ?_
     refine H13.ld 0 (HB1.own.ls 0 19) fun a14 H14 => ?_
     refine H14.cl (rowTextR b0 [] _ m.topic ht _ (RowIs.nil _ _) HB1.bw (by simp)) ?_
     rintro a15 v87 w2 ⟨R87, hb⟩ H15
     have HB2 := HB1.step hb
     clear hb
     refine H15.ms 1 fun a16 H16 => nt ?_
     refine wp_seq_join (fun a w' => ∃ v, Has a 159 [(1, pz w.heap.size), (3, v)] ∧ RowIs b0 (([] ++ strB m.topic) ++ (if 0 < m.qos then big 2 m.id.toNat else [])) v w' ∧ Base w b0 [(w.heap.size, (mqCells m (.slice A1 m.codes.length c1) (.slice A2 m.wishes.length c2) (.slice A3 m.filters.length c3)))] w') ?_ ?_
     ·skip
      by_cases hq : 0 < m.qos
      ·skip
       refine H16.rg 1 fun a17 H17 => ?_
       refine H17.ld 0 (HB2.own.li 0 17) fun a18 H18 => ?_
       refine H18.bb 0 rfl rfl rfl rfl rfl rfl (gtr_i _ _ true (by simpa using hq) _ _ _) rfl fun a19 H19 => nt ?_
       refine H19.condT rfl ?_
       have R3 := R87
       refine H19.rg 2 fun a21 H21 => ?_
       refine H21.ld 0 (HB2.own.li 0 20) fun a22 H22 => ?_
       refine H22.cl (rowBig b0 m.id hi0 hi1 _ HB2.bw) ?_
       rintro a23 v94 w3 ⟨R94, hb⟩ H23
       have HB3 := HB2.call hb
       have R3 := R3.below hb
       clear hb
       refine H23.appendRow Tryz.underlying31 info_u8 gz rfl rfl rfl rfl rfl R3 R94.read (by simp only [List.length_append, strB_length, big_length, List.length_nil]; omega) HB3.bw ?_
       intro a24 v95 w4 H24 R95 hb _
       have HB4 := HB3.step hb
       clear hb
       refine H24.ms 1 fun a25 H25 => nt ?_
       exact ⟨_, H25.keep ⟨rfl, rfl, trivial⟩, (by rw [if_pos hq]; exact R95), HB4⟩
      ·skip
       refine H16.rg 1 fun a17 H17 => ?_
       refine H17.ld 0 (HB2.own.li 0 17) fun a18 H18 => ?_
       refine H18.bb 0 rfl rfl rfl rfl rfl rfl (gtr_i _ _ false (by simpa using hq) _ _ _) rfl fun a19 H19 => nt ?_
       refine H19.condF rfl ?_
       refine skip_wp ?_
       refine then_normal ?_
       exact ⟨_, H19.keep ⟨rfl, rfl, trivial⟩, (by rw [if_neg hq, List.append_nil]; exact R87), HB2⟩
     ·rintro a46 w12 ⟨v3, H46, R3, HB12⟩
      have hl1 : (if 0 < m.qos then big 2 m.id.toNat else []).length ≤ 2 := by split <;> simp [big_length]
      refine H46.rg 2 fun a48 H48 => ?_
      refine H48.ld 0 (HB12.own.ls 0 21) fun a49 H49 => ?_
      refine H49.appendStr Tryz.underlying31 Tryz.underlying9 info_u8 gz rfl rfl rfl rfl rfl R3 (by simp only [List.length_append, strB_length, List.length_nil]; omega) HB12.bw ?_
      intro a50 v99 w13 H50 R99 hb _
      have HB13 := HB12.step hb
      clear hb
      refine H50.ms 1 fun a51 H51 => ?_
      refine wpList_nil ?_
      refine block_normal ?_
      refine then_normal ?_
      exact ⟨_, H51.keep ⟨rfl, rfl, trivial⟩, (by rw [pre_3 k3, publishBy]; exact R99.base (Nat.le_of_eq hb0'.symm)), HB13.low (Nat.le_of_eq hb0'.symm) O1⟩
    | false =>
     have k3 : ¬ m.kind = 3 := by simpa using h3
     refine rl ?_
     refine H9.bn 1 (eql_iB _ _ _ h3 _ _ _) fun a11 H11 => nt ?_
     refine H11.condF rfl ?_
     refine wp_seq_join (fun a w' => ∃ b, bareKind m.kind = b ∧ Has a 159 [(1, pz w.heap.size), (3, .slice none 0 0), (100, .bool b)] ∧ w1 = w') ?_ ?_
     ·skip
      obtain ⟨b12, h12⟩ : ∃ b, (m.kind == 12) = b := ⟨_, rfl⟩
      cases b12 with
      | true =>
       refine rl ?_
       refine H11.bn 1 (eql_iB _ _ _ h12 _ _ _) fun a13 H13 => nt ?_
       refine H13.condT rfl ?_
       refine skip_wp ?_
       refine then_normal ?_
       exact ⟨_, (by unfold bareKind; rw [h12] <;> rfl), H13.keep ⟨rfl, rfl, rfl, trivial⟩, rfl⟩
      | false =>
       refine rl ?_
       refine H11.bn 1 (eql_iB _ _ _ h12 _ _ _) fun a13 H13 => nt ?_
       refine H13.condF rfl ?_
       obtain ⟨b13, h13⟩ : ∃ b, (m.kind == 13) = b := ⟨_, rfl⟩
       cases b13 with
       | true =>
        refine rl ?_
        refine H13.bn 1 (eql_iB _ _ _ h13 _ _ _) fun a15 H15 => nt ?_
        refine H15.condT rfl ?_
        refine skip_wp ?_
        refine then_normal ?_
        exact ⟨_, (by unfold bareKind; rw [h12, h13] <;> rfl), H15.keep ⟨rfl, rfl, rfl, trivial⟩, rfl⟩
       | false =>
        refine rl ?_
        refine H13.bn 1 (eql_iB _ _ _ h13 _ _ _) fun a15 H15 => nt ?_
        refine H15.condF rfl ?_
        obtain ⟨b14, h14⟩ : ∃ b, (m.kind == 14) = b := ⟨_, rfl⟩
        cases b14 with
        | true =>
         refine rl ?_
         refine H15.bn 1 (eql_iB _ _ _ h14 _ _ _) fun a17 H17 => nt ?_
         exact ⟨_, (by unfold bareKind; rw [h12, h13, h14] <;> rfl), H17.keep ⟨rfl, rfl, rfl, trivial⟩, rfl⟩
        | false =>
         refine rl ?_
         refine H15.bn 1 (eql_iB _ _ _ h14 _ _ _) fun a17 H17 => nt ?_
         exact ⟨_, (by unfold bareKind; rw [h12, h13, h14] <;> rfl), H17.keep ⟨rfl, rfl, rfl, trivial⟩, rfl⟩
     rintro a12 _ ⟨v100, q100, H12, rfl⟩
     cases v100 with
     | true =>
      have HB1 := Base.of O1
      obtain ⟨b0, hb0⟩ : ∃ b0, b0 = w1.heap.size := ⟨_, rfl⟩
      rw [← hb0] at HB1
      have hb0' := hb0
      clear hb0
      refine H12.condT rfl ?_
      refine skip_wp ?_
      refine block_normal ?_
      refine then_normal ?_
      exact ⟨_, H12.keep ⟨rfl, rfl, trivial⟩, (by rw [pre_b k1 k2 k3 q100]; exact (RowIs.nil b0 _).base (Nat.le_of_eq hb0'.symm)), HB1.low (Nat.le_of_eq hb0'.symm) O1⟩
     | false =>
      have hi := may_id hm.1 k1 k2 k3 q100
      have HB1 := Base.of O1
      obtain ⟨b0, hb0⟩ : ∃ b0, b0 = w1.heap.size := ⟨_, rfl⟩
      rw [← hb0] at HB1
      have hb0' := hb0
      clear hb0
      refine H12.condF rfl ?_
      refine H12.rg 1 fun a13 H13 => ?_
      refine H13.ld 0 (HB1.own.li 0 20) fun a14 H14 => ?_
      refine H14.cl (rowBig b0 m.id hi.1 hi.2 _ HB1.bw) ?_
      rintro a15 v12 w2 ⟨R12, hb⟩ H15
      have HB2 := HB1.call hb
      clear hb
      refine H15.ms 1 fun a16 H16 => ?_
      refine wpList_nil ?_
      refine block_normal ?_
      refine then_normal ?_
      exact ⟨_, H16.keep ⟨rfl, rfl, trivial⟩, (by rw [pre_i k1 k2 k3 q100]; exact R12.base (Nat.le_of_eq hb0'.symm)), HB2.low (Nat.le_of_eq hb0'.symm) O1⟩
 rintro a4 w2 ⟨v3, H4, R3, HB2⟩
 obtain ⟨b0, hb0'⟩ : ∃ b0, b0 = w1.heap.size := ⟨_, rfl⟩
 rw [← hb0'] at R3 HB2
 refine wp_seq_join (fun a w' => ∃ v, Has a 159 [(1, pz w.heap.size), (3, v)] ∧ RowIs b0 ((preBy m) ++ wishesBy m.wishes) v w' ∧ Base w b0 [(w.heap.size, (mqCells m (.slice A1 m.codes.length c1) (.slice A2 m.wishes.length c2) (.slice A3 m.filters.length c3)))] w') ?_ ?_
 ·skip
  refine H4.rg 1 fun a5 H5 => nt ?_
  refine wp_block ?_
  refine wp_loop_up m.wishes.length (fun k a w' => ∃ v, Has a 159 [(1, pz w.heap.size), (3, v), (5, iz k)] ∧ RowIs b0 ((preBy m) ++ wishesBy (m.wishes.take k)) v w' ∧ Base w b0 [(w.heap.size, (mqCells m (.slice A1 m.codes.length c1) (.slice A2 m.wishes.length c2) (.slice A3 m.filters.length c3)))] w') ?_ ?_
  ·exact ⟨_, H5.keep ⟨rfl, rfl, rfl, trivial⟩, (by rw [List.take_zero]; simpa [wishesBy] using R3), HB2⟩
  ·rintro k a6 w3 hkn ⟨v3, H6, R3, HB3⟩
   have hlb : (wishesBy (m.wishes.take k)).length ≤ 1000 := by
    have := wishesBy_le _ (wishesAll_take k hwa); rw [List.length_take] at this; omega
   by_cases hlt : k < m.wishes.length
   ·skip
    refine H6.rg 2 fun a8 H8 => ?_
    refine H8.ld 0 (HB3.own.l7 0 22) fun a9 H9 => ?_
    refine H9.len gz rfl rfl rfl rfl Tryz.underlying46 ?_
    intro a10 H10
    refine H10.bb 0 rfl rfl rfl rfl rfl rfl (lss_i _ _ true (by simpa using hlt) _ _ _) rfl fun a11 H11 => nt ?_
    refine H11.condT rfl ?_
    refine skip_wp ?_
    refine then_normal ?_
    repeat (refine wp_seq ?_)
    refine wp_block ?_
    obtain ⟨gb, go, x, hA, hgb, hx, hc0, hc1⟩ := Reads.wish r2 rfl hlt
    obtain ⟨hxs, hx0, hx1⟩ := wishesAll_get hwa hx
    obtain ⟨g5, hg5⟩ : ∃ g5, g5 = w3.heap.size := ⟨_, rfl⟩
    have hfar : ∀ g, g5 ≤ g → some g ≠ v3.ownBlock := fun g hg => R3.away (.inr (hg5 ▸ hg))
    refine H11.dr HB3 [1, 5] rfl [er 0 111 [7] (fun v w => v = v3 ∧ RowIs b0 ((preBy m) ++ wishesBy (m.wishes.take k)) v w), ec 1 112 (.pointer (some ⟨w.heap.size, 22, none⟩)), ec 2 113 (.slice A2 m.wishes.length c2), ec 3 114 (iz k), ec 4 115 (.pointer (some ⟨gb, go + k * 2, none⟩)), ec 5 116 (.pointer (some ⟨gb, go + k * 2, none⟩)), ec 6 117 (.string x.1), er 7 118 [16] (fun v w => RowIs b0 (((preBy m) ++ wishesBy (m.wishes.take k)) ++ strB x.1) v w), ec 8 119 (.pointer (some ⟨w.heap.size, 22, none⟩)), ec 9 120 (.slice A2 m.wishes.length c2), ec 10 121 (iz k), ec 11 122 (.pointer (some ⟨gb, go + k * 2, none⟩)), ec 12 123 (.pointer (some ⟨gb, go + k * 2 + 1, none⟩)), ec 13 124 (iz x.2), ec 14 125 (.int .u8 (x.2 % 256)), er 15 126 [16] (fun v w => ∃ g, v = .slice (some ⟨g, 0, none⟩) 1 1 ∧ g5 ≤ g ∧ g < w.heap.size ∧ BytesAre [UInt8.ofNat x.2.toNat] v w), er 16 127 [] (fun v w => RowIs b0 ((((preBy m) ++ wishesBy (m.wishes.take k)) ++ strB x.1) ++ [UInt8.ofNat x.2.toNat]) v w), er 17 3 [] (fun v w => RowIs b0 ((((preBy m) ++ wishesBy (m.wishes.take k)) ++ strB x.1) ++ [UInt8.ofNat x.2.toNat]) v w), er 1000 3 [7, 17] (fun v w => v = v3 ∧ RowIs b0 ((preBy m) ++ wishesBy (m.wishes.take k)) v w), er 1001 158 [] (fun _ w => g5 ≤ w.heap.size)] rfl ⟨jm, (jl fun _ h => h.own.l7 0 22), jm, (jI rfl rfl rfl rfl rfl rfl fun ww => (show (Instr.indexAt 46 (.slice A2 m.wishes.length c2) (iz k)).run Tryz.prog ww = .ok (.pointer (some ⟨gb, go + k * 2, none⟩)) ww by rw [hA]; exact index_2 46 Tryz.underlying46 (fun _ => by kernel_rfl) _ _ _ _ _ hlt _)), (jf (fun g w => fieldO_0 (go + k * 2) g w)), (jl fun _ h => (load1_s _ _ _ _ ((cellB h.own.bel hgb).trans hc0))), jm, (jl fun _ h => h.own.l7 0 22), jm, (jI rfl rfl rfl rfl rfl rfl fun ww => (show (Instr.indexAt 46 (.slice A2 m.wishes.length c2) (iz k)).run Tryz.prog ww = .ok (.pointer (some ⟨gb, go + k * 2, none⟩)) ww by rw [hA]; exact index_2 46 Tryz.underlying46 (fun _ => by kernel_rfl) _ _ _ _ _ hlt _)), (jf (fun g w => fieldO_1 (go + k * 2) g w)), (jl fun _ h => (load1_i _ _ _ _ ((cellB h.own.bel hgb).trans hc1))), (jc fun _ => (conv_u8 _ _)), trivial⟩ ⟨(by rw [H11.at_ 3 _ rfl]; exact ⟨rfl, R3.drew⟩), (Nat.le_of_eq hg5), trivial⟩ ?_ ?_
    ·intro listed aa ww i o hs hni hcl ho hd hI hh
     have hls : listed.size = 18 := hs
     rcases hh with rfl | rfl | rfl | rfl | rfl | hh
     ·obtain rfl := pick_op ho rfl
      have r3 := hI.vs _ (ma 18 rfl) (.inl (by rw [hls]; show 18 ≤ 1000; decide)) ⟨(Bool.eq_false_iff.2 fun h => absurd (hni.symm.trans (ran_of (hcl 7 _ rfl h) 0 (by kernel_rfl))) (by decide)), (Bool.eq_false_iff.2 fun h => absurd (hni.symm.trans (ran_of (hcl 7 _ rfl (ran_of (hcl 16 _ rfl (ran_of (hcl 17 _ rfl h) 16 (by kernel_rfl))) 7 (by kernel_rfl))) 0 (by kernel_rfl))) (by decide)), trivial⟩
      refine wpOp_go ho gz 111 rfl (aa.eval (.tmp 3)) ww (run_move (.inl rfl) rfl) ?_
      exact hI.ph hls 0 rfl (aa.eval (.tmp 3)) r3 hI.wp AllC.same
     ·obtain rfl := pick_op ho rfl
      have r111 := hI.vs _ (ma 0 rfl) (.inr (ran_of hd 0 (by kernel_rfl))) ⟨hni, trivial⟩
      obtain ⟨e111, hR⟩ := r111
      have r117 := hI.vs _ (ma 6 rfl) (.inr (ran_of hd 6 (by kernel_rfl))) trivial
      have HH : Has aa 159 [(111, v3), (117, .string x.1)] := Has.of hI.sz hI.df ⟨e111, r117, trivial⟩
      rw [e111] at hR
      refine wpOp_enter ho gz 118 rfl 106 _ (run_callH HH rfl rfl (fun _ _ => by kernel_rfl)) _ (rowTextRG b0 ((preBy m) ++ wishesBy (m.wishes.take k)) v3 x.1 (by omega) ww hR hI.wp.bw (by simp only [List.length_append]; omega)) ?_
      rintro v' w' ⟨hrow, hb0, hK⟩
      exact hI.ph hls 7 rfl (v') hrow (hI.wp.step hb0) ⟨fun _ h => absurd (by show 7 ∈ ([7] : List Nat); decide) h, fun h => absurd rfl h, fun _ _ _ _ _ h => lit_keep hK hfar hb0.size h, fun _ _ h => absurd (hni.symm.trans (ran_of (hcl 16 _ rfl (h.resolve_left (by rw [hls]; show ¬ 18 ≤ 16; decide))) 7 (by kernel_rfl))) (by decide), fun _ _ h => absurd (hni.symm.trans (ran_of (hcl 16 _ rfl (ran_of (hcl 17 _ rfl (h.resolve_left (by rw [hls]; show ¬ 18 ≤ 17; decide))) 16 (by kernel_rfl))) 7 (by kernel_rfl))) (by decide), fun _ h => absurd (by show 7 ∈ ([7, 17] : List Nat); decide) h, fun _ _ _ _ _ h => Nat.le_trans h hb0.size, trivial⟩
     ·obtain rfl := pick_op ho rfl
      have r125 := hI.vs _ (ma 14 rfl) (.inr (ran_of hd 14 (by kernel_rfl))) trivial
      have rbox := hI.vs _ (ma 19 rfl) (.inl (by rw [hls]; show 18 ≤ 1001; decide)) trivial
      have hg5 : g5 ≤ ww.heap.size := rbox
      have HH : Has aa 159 [(125, .int .u8 (x.2 % 256))] := Has.of hI.sz hI.df ⟨r125, trivial⟩
      obtain ⟨hby, hb⟩ := bytes_lit ww [UInt8.ofNat x.2.toNat] [.int .u8 (x.2 % 256)] (by rw [byte_of_int _ hx0]; rfl) 5 1 rfl
      refine wpOp_go ho gz 126 rfl (.slice (some ⟨ww.heap.size, 0, none⟩) 1 1) (ww.alloc (.cells ([.int .u8 (x.2 % 256)] : List Value).toArray 5)) (run_any HH (by intro cs b h; cases h) (by kernel_rfl) (by kernel_rfl)) ?_
      exact hI.ph hls 15 rfl (.slice (some ⟨ww.heap.size, 0, none⟩) 1 1) ⟨_, rfl, hg5, lt_alloc ww _, hby⟩ (hI.wp.call hb) ⟨fun _ _ _ _ _ h => ⟨h.1, h.2.below hb⟩, fun _ _ _ _ _ h => h.below hb, fun h => absurd rfl h, fun _ _ _ _ _ h => h.below hb, fun _ _ _ _ _ h => h.below hb, fun _ _ _ _ _ h => ⟨h.1, h.2.below hb⟩, fun _ _ _ _ _ h => Nat.le_trans h hb.size, trivial⟩
     ·obtain rfl := pick_op ho rfl
      have r118 := hI.vs _ (ma 7 rfl) (.inr (ran_of hd 7 (by kernel_rfl))) ⟨hni, trivial⟩
      have r126 := hI.vs _ (ma 15 rfl) (.inr (ran_of hd 15 (by kernel_rfl))) ⟨hni, trivial⟩
      obtain ⟨_, _, _, _, hby⟩ := r126
      obtain ⟨v', w', hrun, hrow, hb0, hg⟩ := run_append_row (P := Tryz.prog) (a := aa) (w := ww) Tryz.underlying31 info_u8 (o := ⟨some 127, _, _, _, _, none⟩) rfl rfl rfl r118 hby (by simp only [List.length_append, strB_length, List.length_cons, List.length_nil]; omega) hI.wp.bw
      refine wpOp_go ho gz 127 rfl v' w' hrun ?_
      exact hI.ph hls 16 rfl (v') hrow (hI.wp.step hb0) ⟨fun _ _ _ hk => absurd (hk.1.symm.trans (ran_of hd 7 (by kernel_rfl))) (by decide), fun _ h => absurd (by show 16 ∈ ([16] : List Nat); decide) h, fun _ h => absurd (by show 16 ∈ ([16] : List Nat); decide) h, fun h => absurd rfl h, fun _ _ h => absurd (hni.symm.trans (ran_of (hcl 17 _ rfl (h.resolve_left (by rw [hls]; show ¬ 18 ≤ 17; decide))) 16 (by kernel_rfl))) (by decide), fun _ _ _ hk => absurd (hk.1.symm.trans (ran_of hd 7 (by kernel_rfl))) (by decide), fun _ _ _ _ _ h => Nat.le_trans h hb0.size, trivial⟩
     ·obtain rfl := pick_op ho rfl
      have r_127 := hI.vs _ (ma 16 rfl) (.inr (ran_of hd 16 (by kernel_rfl))) trivial
      have HH : Has aa 159 [(127, aa.eval (.tmp 127))] := Has.of hI.sz hI.df ⟨rfl, trivial⟩
      refine wpOp_go ho gz 3 rfl (aa.eval (.tmp 127)) ww (run_move (.inr rfl) (HH.ev rfl)) ?_
      exact hI.ph hls 17 rfl (aa.eval (.tmp 127)) r_127 hI.wp AllC.same
     ·exact False.elim hh
    ·intro listed a12 w4 hall hI
     have r_3 := hI.vs _ (ma 17 rfl) (.inr (hall 17 (by decide))) trivial
     have H12 : Has a12 159 [(1, pz w.heap.size), (5, iz k), (3, a12.eval (.tmp 3))] := Has.of hI.sz hI.df ⟨hI.fx.1, hI.fx.2.1, rfl, trivial⟩
     have HB4 := hI.wp
     have R3_4 : RowIs b0 ((((preBy m) ++ wishesBy (m.wishes.take k)) ++ strB x.1) ++ [UInt8.ofNat x.2.toNat]) (a12.eval (.tmp 3)) w4 := r_3
     refine block_normal ?_
     refine then_normal ?_
     refine H12.rg 1 fun a13 H13 => ?_
     refine H13.bb 1 rfl rfl rfl rfl rfl rfl (succ_i _ (by omega) _ _ _) rfl fun a15 H15 => nt ?_
     exact ⟨hlt, _, H15.keep ⟨rfl, rfl, rfl, trivial⟩, (by rw [take_snoc? _ _ _ hx, wishesBy_app, ← List.append_assoc, ← List.append_assoc]; exact R3_4), HB4⟩
   ·skip
    refine H6.rg 2 fun a8 H8 => ?_
    refine H8.ld 0 (HB3.own.l7 0 22) fun a9 H9 => ?_
    refine H9.len gz rfl rfl rfl rfl Tryz.underlying46 ?_
    intro a10 H10
    refine H10.bb 0 rfl rfl rfl rfl rfl rfl (lss_i _ _ false (by simpa using hlt) _ _ _) rfl fun a11 H11 => nt ?_
    refine H11.condF rfl ?_
    refine wp_exit ?_
    repeat (with_reducible refine then_exit ?_)
    refine block_leave ?_
    refine then_normal ?_
    rw [List.take_of_length_le (by omega)] at R3
    exact ⟨_, H11.keep ⟨rfl, rfl, trivial⟩, R3, HB3⟩
 rintro a5 w3 ⟨v3, H5, R3, HB3⟩
 refine wp_seq_join (fun a w' => ∃ v, Has a 159 [(1, pz w.heap.size), (3, v)] ∧ RowIs b0 (((preBy m) ++ wishesBy m.wishes) ++ codesBy m.codes) v w' ∧ Base w b0 [(w.heap.size, (mqCells m (.slice A1 m.codes.length c1) (.slice A2 m.wishes.length c2) (.slice A3 m.filters.length c3)))] w') ?_ ?_
 ·skip
  refine H5.rg 1 fun a6 H6 => nt ?_
  refine wp_block ?_
  refine wp_loop_up m.codes.length (fun k a w' => ∃ v, Has a 159 [(1, pz w.heap.size), (3, v), (6, iz k)] ∧ RowIs b0 (((preBy m) ++ wishesBy m.wishes) ++ codesBy (m.codes.take k)) v w' ∧ Base w b0 [(w.heap.size, (mqCells m (.slice A1 m.codes.length c1) (.slice A2 m.wishes.length c2) (.slice A3 m.filters.length c3)))] w') ?_ ?_
  ·exact ⟨_, H6.keep ⟨rfl, rfl, rfl, trivial⟩, (by rw [List.take_zero]; simpa [codesBy] using R3), HB3⟩
  ·rintro k a7 w4 hkn ⟨v3, H7, R3, HB4⟩
   have hlb : (codesBy (m.codes.take k)).length ≤ 1000 := by
    rw [codesBy_le, List.length_take]; omega
   by_cases hlt : k < m.codes.length
   ·skip
    refine H7.rg 2 fun a9 H9 => ?_
    refine H9.ld 0 (HB4.own.l6 0 15) fun a10 H10 => ?_
    refine H10.len gz rfl rfl rfl rfl Tryz.underlying45 ?_
    intro a11 H11
    refine H11.bb 0 rfl rfl rfl rfl rfl rfl (lss_i _ _ true (by simpa using hlt) _ _ _) rfl fun a12 H12 => nt ?_
    refine H12.condT rfl ?_
    refine skip_wp ?_
    refine then_normal ?_
    repeat (refine wp_seq ?_)
    refine wp_block ?_
    obtain ⟨gb, go, x, hA, hgb, hx, hcell⟩ := Reads.int (r1.below HB4.own.bel) rfl hlt
    obtain ⟨hx0, hx1⟩ := codesAll_get hca hx
    refine H12.rg 2 fun a14 H14 => ?_
    refine H14.ld 1 (HB4.own.l6 0 15) fun a16 H16 => ?_
    refine H16.index gz rfl rfl rfl rfl rfl (show (Instr.indexAt 45 (.slice A1 m.codes.length c1) (iz k)).run Tryz.prog _ = .ok (.pointer (some ⟨gb, go + k, none⟩)) _ by rw [hA]; exact index_1 45 Tryz.underlying45 (fun _ => by kernel_rfl) _ _ _ _ _ hlt _) ?_
    intro a17 H17
    refine H17.ld 0 (load1_i _ _ _ _ hcell) fun a18 H18 => ?_
    refine H18.cv 0 (conv_u8 _ _) fun a19 H19 => ?_
    refine H19.bytes gz rfl rfl [UInt8.ofNat x.toNat] [.int .u8 (x % 256)] (by rw [byte_of_int _ hx0]; rfl) (k := 1) rfl 5 (by intro cs b h; cases h) (by kernel_rfl) (by kernel_rfl) ?_
    intro a20 v142 w5 H20 B142 hb
    have HB5 := HB4.call hb
    have R3 := R3.below hb
    clear hb
    refine H20.appendRow Tryz.underlying31 info_u8 gz rfl rfl rfl rfl rfl R3 B142 (by simp only [List.length_append, List.length_cons, List.length_nil]; omega) HB5.bw ?_
    intro a21 v143 w6 H21 R143 hb _
    have HB6 := HB5.step hb
    clear hb
    refine H21.ms 1 fun a22 H22 => ?_
    refine wpList_nil ?_
    refine block_normal ?_
    refine then_normal ?_
    refine H22.rg 1 fun a23 H23 => ?_
    refine H23.bb 1 rfl rfl rfl rfl rfl rfl (succ_i _ (by omega) _ _ _) rfl fun a25 H25 => nt ?_
    exact ⟨hlt, _, H25.keep ⟨rfl, rfl, rfl, trivial⟩, (by rw [take_snoc? _ _ _ hx, codesBy_app, ← List.append_assoc]; exact R143), HB6⟩
   ·skip
    refine H7.rg 2 fun a9 H9 => ?_
    refine H9.ld 0 (HB4.own.l6 0 15) fun a10 H10 => ?_
    refine H10.len gz rfl rfl rfl rfl Tryz.underlying45 ?_
    intro a11 H11
    refine H11.bb 0 rfl rfl rfl rfl rfl rfl (lss_i _ _ false (by simpa using hlt) _ _ _) rfl fun a12 H12 => nt ?_
    refine H12.condF rfl ?_
    refine wp_exit ?_
    repeat (with_reducible refine then_exit ?_)
    refine block_leave ?_
    refine then_normal ?_
    rw [List.take_of_length_le (by omega)] at R3
    exact ⟨_, H12.keep ⟨rfl, rfl, trivial⟩, R3, HB4⟩
 rintro a6 w4 ⟨v3, H6, R3, HB4⟩
 refine wp_seq_join (fun a w' => ∃ v, Has a 159 [(1, pz w.heap.size), (3, v)] ∧ RowIs b0 ((((preBy m) ++ wishesBy m.wishes) ++ codesBy m.codes) ++ filtersBy m.filters) v w' ∧ Base w b0 [(w.heap.size, (mqCells m (.slice A1 m.codes.length c1) (.slice A2 m.wishes.length c2) (.slice A3 m.filters.length c3)))] w') ?_ ?_
 ·skip
  refine H6.rg 1 fun a7 H7 => nt ?_
  refine wp_block ?_
  refine wp_loop_up m.filters.length (fun k a w' => ∃ v, Has a 159 [(1, pz w.heap.size), (3, v), (7, iz k)] ∧ RowIs b0 ((((preBy m) ++ wishesBy m.wishes) ++ codesBy m.codes) ++ filtersBy (m.filters.take k)) v w' ∧ Base w b0 [(w.heap.size, (mqCells m (.slice A1 m.codes.length c1) (.slice A2 m.wishes.length c2) (.slice A3 m.filters.length c3)))] w') ?_ ?_
  ·exact ⟨_, H7.keep ⟨rfl, rfl, rfl, trivial⟩, (by rw [List.take_zero]; simpa [filtersBy] using R3), HB4⟩
  ·rintro k a8 w5 hkn ⟨v3, H8, R3, HB5⟩
   have hlb : (filtersBy (m.filters.take k)).length ≤ 1000 := by
    have := filtersBy_le _ (filtersAll_take k hfa); rw [List.length_take] at this; omega
   by_cases hlt : k < m.filters.length
   ·skip
    refine H8.rg 2 fun a10 H10 => ?_
    refine H10.ld 0 (HB5.own.l8 0 23) fun a11 H11 => ?_
    refine H11.len gz rfl rfl rfl rfl Tryz.underlying47 ?_
    intro a12 H12
    refine H12.bb 0 rfl rfl rfl rfl rfl rfl (lss_i _ _ true (by simpa using hlt) _ _ _) rfl fun a13 H13 => nt ?_
    refine H13.condT rfl ?_
    refine skip_wp ?_
    refine then_normal ?_
    repeat (refine wp_seq ?_)
    refine wp_block ?_
    obtain ⟨gb, go, x, hA, hgb, hx, hcell⟩ := Reads.str (r3.below HB5.own.bel) rfl hlt
    have hxs := filtersAll_get hfa hx
    refine H13.rg 2 fun a15 H15 => ?_
    refine H15.ld 1 (HB5.own.l8 0 23) fun a17 H17 => ?_
    refine H17.index gz rfl rfl rfl rfl rfl (show (Instr.indexAt 47 (.slice A3 m.filters.length c3) (iz k)).run Tryz.prog _ = .ok (.pointer (some ⟨gb, go + k, none⟩)) _ by rw [hA]; exact index_1 47 Tryz.underlying47 (fun _ => by kernel_rfl) _ _ _ _ _ hlt _) ?_
    intro a18 H18
    refine H18.ld 0 (load1_s _ _ _ _ hcell) fun a19 H19 => ?_
    refine H19.cl (rowTextR b0 ((((preBy m) ++ wishesBy m.wishes) ++ codesBy m.codes) ++ filtersBy (m.filters.take k)) _ x (by omega) _ R3 HB5.bw (by simp only [List.length_append]; omega)) ?_
    rintro a20 v157 w6 ⟨R157, hb⟩ H20
    have HB6 := HB5.step hb
    clear hb
    refine H20.ms 1 fun a21 H21 => ?_
    refine wpList_nil ?_
    refine block_normal ?_
    refine then_normal ?_
    refine H21.rg 1 fun a22 H22 => ?_
    refine H22.bb 1 rfl rfl rfl rfl rfl rfl (succ_i _ (by omega) _ _ _) rfl fun a24 H24 => nt ?_
    exact ⟨hlt, _, H24.keep ⟨rfl, rfl, rfl, trivial⟩, (by rw [take_snoc? _ _ _ hx, filtersBy_app, ← List.append_assoc]; exact R157), HB6⟩
   ·skip
    refine H8.rg 2 fun a10 H10 => ?_
    refine H10.ld 0 (HB5.own.l8 0 23) fun a11 H11 => ?_
    refine H11.len gz rfl rfl rfl rfl Tryz.underlying47 ?_
    intro a12 H12
    refine H12.bb 0 rfl rfl rfl rfl rfl rfl (lss_i _ _ false (by simpa using hlt) _ _ _) rfl fun a13 H13 => nt ?_
    refine H13.condF rfl ?_
    refine wp_exit ?_
    repeat (with_reducible refine then_exit ?_)
    refine block_leave ?_
    refine then_normal ?_
    rw [List.take_of_length_le (by omega)] at R3
    exact ⟨_, H13.keep ⟨rfl, rfl, trivial⟩, R3, HB5⟩
 rintro a7 w5 ⟨v3, H7, R3, HB5⟩
 refine H7.rg 2 fun a9 H9 => nt ?_
 refine wp_ret ?_
 repeat (first | (with_reducible refine block_ret ?_) | (with_reducible refine then_ret ?_))
 refine bodyPost_ret (results_tmp rfl _ _ _) H9.df ⟨_, congrArg Ending.returned (H9.at_ 2 _ rfl), ?_, HB5.own.bel⟩
 rw [body_pre hm]
 exact R3.base (by rw [hb0']; omega)
end
section
open Go.RowKit
theorem Laid.bytes {xs : List UInt8} {w w' : World} {e : Ending} (h : Laid xs w e w') : ∃ v', e = .returned v' ∧ (BytesAre xs v' w' ∧ Below w.heap.size w w') := by
 obtain ⟨v, rfl, hr, hbl⟩ := h
 exact ⟨v, rfl, hr.read, hbl⟩
theorem shl1_u8 (k : Int) (h0 : 0 ≤ k) (h2 : k ≤ 2) (x y : Operand) (w : World) : (do eqGuard .shl 5 x y (.int .u8 (k % 256)) (.int .u64 1); binOp .shl 5 (.int .u8 (k % 256)) (.int .u64 1) : Sem Value).run Tryz.prog w = .ok (.int .u8 ((2 * k.toNat : Nat) : Int)) w := by
 have : k = 0 ∨ k = 1 ∨ k = 2 := by omega
 rcases this with rfl | rfl | rfl <;> simp [go_sem] <;> rfl
theorem shl4_u8 (k : Int) (h0 : 0 ≤ k) (h2 : k ≤ 14) (x y : Operand) (w : World) : (do eqGuard .shl 5 x y (.int .u8 (k % 256)) (.int .u64 4); binOp .shl 5 (.int .u8 (k % 256)) (.int .u64 4) : Sem Value).run Tryz.prog w = .ok (.int .u8 ((16 * k.toNat : Nat) : Int)) w := by
 obtain ⟨n, rfl⟩ : ∃ n : Nat, k = n := ⟨k.toNat, by omega⟩
 have e : IntKind.u8.wrap ((n : Int) % 256 * 16) = ((16 * n : Nat) : Int) := by
  show ((n : Int) % 256 * 16) % 256 = _
  omega
 simp [go_sem]
 rw [e]
 omega
theorem rem128 (n : Nat) (x y : Operand) (w : World) : (do eqGuard .rem 3 x y (iz n) (iz 128); binOp .rem 3 (iz n) (iz 128) : Sem Value).run Tryz.prog w = .ok (iz ((n % 128 : Nat) : Int)) w := by
 simp [go_sem]
 rw [Int.tmod_eq_emod_of_nonneg (by omega)]
theorem quo128 (n : Nat) (h : n < 16384) (x y : Operand) (w : World) : (do eqGuard .quo 3 x y (iz n) (iz 128); binOp .quo 3 (iz n) (iz 128) : Sem Value).run Tryz.prog w = .ok (iz ((n / 128 : Nat) : Int)) w := by
 simp [go_sem]
 exact IntWalk.i64_in _ (by omega)
theorem conv_u8n (n : Nat) (h : n < 256) (w : World) : (convert 3 5 (iz n)).run Tryz.prog w = .ok (.int .u8 (n : Int)) w := by
 rw [conv_u8]
 congr 2
 omega
theorem or128n (n : Nat) : (n % 128 ||| 128) = n % 128 + 128 := by
 have h : (128 ||| n % 128) = 128 + n % 128 := (Nat.two_pow_add_eq_or_of_lt (i := 7) (show n % 128 < 2 ^ 7 by omega) 1).symm
 rw [Nat.or_comm, h, Nat.add_comm]
theorem refBytes (m : Mq) (vc vw vf : Value) (w : World) (hm : mayB m) (hL : MqL w w.heap.size m vc vw vf) :
  Calls Tryz.prog 35 #[.agg (mqCells m vc vw vf).toArray] w (Laid (layB m) w) := by
 have hbl := body_le hm.1
 have hfl := flagsBy_le hm.1
 have hkk := may_kind hm.1
 have hor : ((16 * m.kind.toNat : Nat) ||| flagsBy m) = 16 * m.kind.toNat + flagsBy m := or16 _ _ (by omega)
 go_enter Tryz.func35, Tryz.ntmps35
 refine Has.start 57 [(0, .agg (mqCells m vc vw vf).toArray)] rfl rfl ⟨rfl, trivial⟩ ?_
 intro a0 H0
 have O0 := Own.start w
 refine rl ?_
 refine H0.bx O0 1 fun a2 w1 O1 H2 => nt ?_
 have HB1 := Base.of O1
 obtain ⟨b0, hb0⟩ : ∃ b0, b0 = w1.heap.size := ⟨_, rfl⟩
 rw [← hb0] at HB1
 have hb0' := hb0
 clear hb0
 refine H2.rg 1 fun a3 H3 => nt ?_
 refine wp_seq_join (fun a w' => Has a 57 [(1, pz w.heap.size), (3, .int .u8 ((flagsBy m : Nat) : Int))] ∧ Base w b0 [(w.heap.size, (mqCells m vc vw vf))] w') ?_ ?_
 ·skip
  refine H3.rg 1 fun a4 H4 => ?_
  refine H4.ld 0 (HB1.own.li 0 0) fun a5 H5 => nt ?_
  refine wp_block ?_
  obtain ⟨b3, h3⟩ : ∃ b, (m.kind == 3) = b := ⟨_, rfl⟩
  cases b3 with
  | true =>
   have k3 : m.kind = 3 := by simpa using h3
   refine rl ?_
   refine H5.bn 1 (eql_iB _ _ _ h3 _ _ _) fun a7 H7 => nt ?_
   refine H7.condT rfl ?_
   have hp3 : publishOk m = true := by have h := hm.1; unfold okOf at h; rw [if_neg (by omega), if_neg (by omega), if_pos k3] at h; exact h
   obtain ⟨_, hq0, hq2, _, _, _⟩ := publish_facts hp3
   have H8 := H7.kp [1]
   have g1 : cb m.dup 8 < 256 := cb_lt _ _ (by decide)
   have g2 : 2 * m.qos.toNat < 256 := by omega
   have g3 : (cb m.dup 8 ||| 2 * m.qos.toNat) < 256 := or_lt8 g1 g2
   have g4 : cb m.retain 1 < 256 := cb_lt _ _ (by decide)
   have gf : ((cb m.dup 8 ||| 2 * m.qos.toNat) ||| cb m.retain 1) = cb m.dup 8 + 2 * m.qos.toNat + cb m.retain 1 := pub_or _ _ _ (by omega)
   refine H8.dr HB1 [1] rfl [ec 0 11 (.pointer (some ⟨w.heap.size, 16, none⟩)), ec 1 12 (.bool m.dup), ec 2 13 (.int .u8 ((cb m.dup 8 : Nat) : Int)), ec 3 14 (.pointer (some ⟨w.heap.size, 17, none⟩)), ec 4 15 (iz m.qos), ec 5 16 (.int .u8 (m.qos % 256)), ec 6 17 (.int .u8 ((2 * m.qos.toNat : Nat) : Int)), ec 7 18 (.int .u8 (((cb m.dup 8 ||| 2 * m.qos.toNat) : Nat) : Int)), ec 8 19 (.pointer (some ⟨w.heap.size, 18, none⟩)), ec 9 20 (.bool m.retain), ec 10 21 (.int .u8 ((cb m.retain 1 : Nat) : Int)), ec 11 22 (.int .u8 ((((cb m.dup 8 ||| 2 * m.qos.toNat) ||| cb m.retain 1) : Nat) : Int)), ec 12 3 (.int .u8 ((((cb m.dup 8 ||| 2 * m.qos.toNat) ||| cb m.retain 1) : Nat) : Int))] rfl ⟨jm, (jl fun _ h => h.own.lb 0 16), (jq fun ww _ => (refBitN m.dup 8 8 rfl ww)), jm, (jl fun _ h => h.own.li 0 17), (jc fun _ => (conv_u8 _ _)), (jb fun _ => (shl1_u8 _ hq0 hq2 _ _ _)), (jb fun _ => (or_u _ _ g1 g2 _ _ _)), jm, (jl fun _ h => h.own.lb 0 18), (jq fun ww _ => (refBitN m.retain 1 1 rfl ww)), (jb fun _ => (or_u _ _ g3 g4 _ _ _)), jm, trivial⟩ trivial ?_ ?_
   ·exact fun _ _ _ _ _ _ _ _ _ _ _ hh => False.elim hh
   ·intro listed a9 w2 hall hI
    have r_3 := hI.vs _ (ma 12 rfl) (.inr (hall 12 (by decide))) trivial
    have H9 : Has a9 57 [(1, pz w.heap.size), (3, .int .u8 ((((cb m.dup 8 ||| 2 * m.qos.toNat) ||| cb m.retain 1) : Nat) : Int))] := Has.of hI.sz hI.df ⟨hI.fx.1, r_3, trivial⟩
    have HB2 := hI.wp
    refine block_normal ?_
    refine then_normal ?_
    exact ⟨(by rw [show flagsBy m = _ from (by unfold flagsBy; rw [if_pos k3]; exact gf.symm : flagsBy m = ((cb m.dup 8 ||| 2 * m.qos.toNat) ||| cb m.retain 1))]; exact H9.keep ⟨rfl, rfl, trivial⟩), HB2⟩
  | false =>
   have k3 : ¬ m.kind = 3 := by simpa using h3
   refine rl ?_
   refine H5.bn 1 (eql_iB _ _ _ h3 _ _ _) fun a7 H7 => nt ?_
   refine H7.condF rfl ?_
   repeat (refine wp_seq ?_)
   obtain ⟨b6, h6⟩ : ∃ b, (m.kind == 6) = b := ⟨_, rfl⟩
   cases b6 with
   | true =>
    have k6 : m.kind = 6 := by simpa using h6
    refine rl ?_
    refine H7.bn 1 (eql_iB _ _ _ h6 _ _ _) fun a9 H9 => nt ?_
    refine H9.condT rfl ?_
    refine skip_wp ?_
    refine then_normal ?_
    refine H9.condT rfl ?_
    refine H9.rg 1 fun a10 H10 => ?_
    refine wpList_nil ?_
    refine block_normal ?_
    refine then_normal ?_
    exact ⟨(by rw [show flagsBy m = _ from (by unfold flagsBy; rw [if_neg k3]; simp [k6] : flagsBy m = 2)]; exact H10.keep ⟨rfl, rfl, trivial⟩), HB1⟩
   | false =>
    have k6 : ¬ m.kind = 6 := by simpa using h6
    refine rl ?_
    refine H7.bn 1 (eql_iB _ _ _ h6 _ _ _) fun a9 H9 => nt ?_
    refine H9.condF rfl ?_
    obtain ⟨b8, h8⟩ : ∃ b, (m.kind == 8) = b := ⟨_, rfl⟩
    cases b8 with
    | true =>
     have k8 : m.kind = 8 := by simpa using h8
     refine rl ?_
     refine H9.bn 1 (eql_iB _ _ _ h8 _ _ _) fun a11 H11 => nt ?_
     refine H11.condT rfl ?_
     refine skip_wp ?_
     refine then_normal ?_
     refine H11.condT rfl ?_
     refine H11.rg 1 fun a12 H12 => ?_
     refine wpList_nil ?_
     refine block_normal ?_
     refine then_normal ?_
     exact ⟨(by rw [show flagsBy m = _ from (by unfold flagsBy; rw [if_neg k3]; simp [k8] : flagsBy m = 2)]; exact H12.keep ⟨rfl, rfl, trivial⟩), HB1⟩
    | false =>
     have k8 : ¬ m.kind = 8 := by simpa using h8
     refine rl ?_
     refine H9.bn 1 (eql_iB _ _ _ h8 _ _ _) fun a11 H11 => nt ?_
     refine H11.condF rfl ?_
     obtain ⟨b10, h10⟩ : ∃ b, (m.kind == 10) = b := ⟨_, rfl⟩
     cases b10 with
     | true =>
      have k10 : m.kind = 10 := by simpa using h10
      refine rl ?_
      refine H11.bn 1 (eql_iB _ _ _ h10 _ _ _) fun a13 H13 => nt ?_
      refine H13.condT rfl ?_
      refine H13.rg 1 fun a14 H14 => ?_
      refine wpList_nil ?_
      refine block_normal ?_
      refine then_normal ?_
      exact ⟨(by rw [show flagsBy m = _ from (by unfold flagsBy; rw [if_neg k3]; simp [k10] : flagsBy m = 2)]; exact H14.keep ⟨rfl, rfl, trivial⟩), HB1⟩
     | false =>
      have k10 : ¬ m.kind = 10 := by simpa using h10
      refine rl ?_
      refine H11.bn 1 (eql_iB _ _ _ h10 _ _ _) fun a13 H13 => nt ?_
      refine H13.condF rfl ?_
      refine skip_wp ?_
      refine block_normal ?_
      refine then_normal ?_
      exact ⟨(by rw [show flagsBy m = _ from (by unfold flagsBy; simp [k3, k6, k8, k10] : flagsBy m = 0)]; exact H13.keep ⟨rfl, rfl, trivial⟩), HB1⟩
 rintro a4 w2 ⟨H4, HB2⟩
 have O2 := HB2.own
 refine rl ?_
 refine H4.lm O2 0 0 fun a5 H5 => ?_
 refine H5.cl ((refBody m _ _ _ _ hm (hL.next O2.bel)).mono fun _ _ h => h.bytes) ?_
 rintro a6 vb w3 ⟨hB, hb⟩ H6
 have O3 := O2.call hb
 clear hb
 obtain ⟨Ab, cb', rfl, hrb⟩ := hB
 have HB3 := Base.of O3
 obtain ⟨b0, hb0⟩ : ∃ b0, b0 = w3.heap.size := ⟨_, rfl⟩
 rw [← hb0] at HB3
 have hb0' := hb0
 clear hb0
 rw [← hb0'] at hrb
 refine H6.ms 1 fun a7 H7 => nt ?_
 refine H7.rg 1 fun a8 H8 => ?_
 refine H8.ld 0 (HB3.own.li 0 0) fun a9 H9 => ?_
 refine H9.cv 0 (conv_u8 _ _) fun a10 H10 => ?_
 refine H10.bb 1 rfl rfl rfl rfl rfl rfl (shl4_u8 _ (by omega) (by omega) _ _ _) rfl fun a12 H12 => ?_
 refine H12.bb 0 rfl rfl rfl rfl rfl rfl (or_u _ _ (by omega) (by omega) _ _ _) rfl fun a13 H13 => ?_
 refine H13.lit gz rfl rfl [UInt8.ofNat (16 * m.kind.toNat + flagsBy m)] [.int .u8 ((16 * m.kind.toNat ||| flagsBy m : Nat) : Int)] (by rw [hor, bv_nat _ (by omega)]; rfl) (k := 1) rfl 5 (by intro cs b h; cases h) (by kernel_rfl) (by kernel_rfl) HB3.bw ?_
 intro a14 v35 w4 H14 R35 hb
 have HB4 := HB3.call hb
 have hrb := hrb.below (hb.mono HB3.bw)
 clear hb
 refine H14.ms 1 fun a15 H15 => nt ?_
 refine H15.rg 1 fun a16 H16 => ?_
 refine H16.len gz rfl rfl rfl rfl Tryz.underlying31 ?_
 intro a17 H17
 refine H17.ms 1 fun a18 H18 => nt ?_
 repeat (refine wp_seq ?_)
 refine wp_block ?_
 refine wp_loop_up 2 (fun k a w' => ∃ n pre v, k < 2 ∧ n < 128 ^ (2 - k) ∧ vlen (bodyBy m).length = pre ++ vlen n ∧ pre.length ≤ 2 ∧ Has a 57 [(1, pz w.heap.size), (4, .slice Ab (bodyBy m).length cb'), (5, v), (6, iz n)] ∧ RowIs b0 ([UInt8.ofNat (16 * m.kind.toNat + flagsBy m)] ++ pre) v w' ∧ RB w' b0 Ab (bodyBy m) ∧ Base w b0 [(w.heap.size, (mqCells m vc vw vf))] w') ?_ ?_
 ·exact ⟨_, [], _, by omega, by omega, rfl, by simp, H18.keep ⟨rfl, rfl, rfl, rfl, trivial⟩, by simpa using R35, hrb, HB4⟩
 ·rintro k a19 w5 hkn ⟨n, pre, v5, hk2, hn, hpre, hpl, H19, R5, hrb, HB5⟩
  have hn2 : n < 16384 := by
   rcases Nat.lt_or_ge k 1 with h | h
   ·obtain rfl : k = 0 := by omega
    omega
   ·obtain rfl : k = 1 := by omega
    omega
  by_cases hlt : 128 ≤ n
  ·skip
   have hk0 : k = 0 := by
    rcases Nat.lt_or_ge k 1 with h | h
    ·omega
    ·obtain rfl : k = 1 := by omega
     omega
   subst hk0
   refine H19.rg 1 fun a20 H20 => ?_
   refine H20.bb 0 rfl rfl rfl rfl rfl rfl (geq_i _ _ true (by simp; omega) _ _ _) rfl fun a21 H21 => nt ?_
   repeat (refine wp_seq ?_)
   refine H21.condT rfl ?_
   refine skip_wp ?_
   refine then_normal ?_
   repeat (refine wp_seq ?_)
   refine wp_block ?_
   refine H21.rg 2 fun a23 H23 => ?_
   refine H23.bn 0 (rem128 n _ _ _) fun a24 H24 => ?_
   refine H24.conv gz rfl rfl rfl rfl (conv_u8n _ (by omega) _) ?_
   intro a25 H25
   refine H25.bb 0 rfl rfl rfl rfl rfl rfl (or_u _ _ (by omega) (by decide) _ _ _) rfl fun a26 H26 => ?_
   refine H26.lit gz rfl rfl [UInt8.ofNat (n % 128 + 128)] [.int .u8 ((n % 128 ||| 128 : Nat) : Int)] (by rw [or128n, bv_nat _ (by omega)]; rfl) (k := 1) rfl 5 (by intro cs b h; cases h) (by kernel_rfl) (by kernel_rfl) HB5.bw ?_
   intro a27 v45 w6 H27 R45 hb
   have R5 := R5.below hb
   have HB6 := HB5.call hb
   have hrb := hrb.below (hb.mono HB5.bw)
   clear hb
   refine H27.appendRow Tryz.underlying31 info_u8 gz rfl rfl rfl rfl rfl R5 R45.read (by simp; omega) HB6.bw ?_
   intro a28 v46 w7 H28 R46 hb _
   have HB7 := HB6.step hb
   have hrb := hrb.below hb
   clear hb
   refine H28.ms 1 fun a29 H29 => nt ?_
   refine H29.rg 1 fun a30 H30 => ?_
   refine H30.bn 1 (quo128 n hn2 _ _ _) fun a32 H32 => ?_
   refine wpList_nil ?_
   refine block_normal ?_
   refine then_normal ?_
   refine ⟨by omega, n / 128, pre ++ [UInt8.ofNat (n % 128 + 128)], _, by omega, by omega, ?_, ?_, H32.keep ⟨rfl, rfl, rfl, rfl, trivial⟩, (by rw [← List.append_assoc]; exact R46), hrb, HB7⟩
   ·rw [hpre, vlen_step _ hlt, List.append_assoc]; rfl
   ·have : pre = [] := by
     have h1 := congrArg List.length hpre
     rw [vlen_step _ hlt] at h1
     have h2 := vlen_le (bodyBy m).length (by omega)
     have h3 := vlen_pos (n / 128)
     simp only [List.length_append, List.length_cons] at h1
     exact List.eq_nil_of_length_eq_zero (by omega)
    rw [this]; simp
  ·skip
   refine H19.rg 1 fun a20 H20 => ?_
   refine H20.bb 0 rfl rfl rfl rfl rfl rfl (geq_i _ _ false (by simp; omega) _ _ _) rfl fun a21 H21 => nt ?_
   repeat (refine wp_seq ?_)
   refine H21.condF rfl ?_
   refine wp_exit ?_
   repeat (with_reducible refine then_exit ?_)
   refine block_leave ?_
   refine then_normal ?_
   refine H21.rg 2 fun a23 H23 => ?_
   refine H23.cv 0 (conv_u8 _ _) fun a24 H24 => ?_
   refine H24.lit gz rfl rfl [UInt8.ofNat n] [.int .u8 ((n : Int) % 256)] (by rw [byte_of_int _ (by omega)]; rfl) (k := 1) rfl 5 (by intro cs b h; cases h) (by kernel_rfl) (by kernel_rfl) HB5.bw ?_
   intro a25 v52 w6 H25 R52 hb
   have R5 := R5.below hb
   have HB6 := HB5.call hb
   have hrb := hrb.below (hb.mono HB5.bw)
   clear hb
   refine H25.appendRow Tryz.underlying31 info_u8 gz rfl rfl rfl rfl rfl R5 R52.read (by simp; omega) HB6.bw ?_
   intro a26 v53 w7 H26 R53 hb _
   have HB7 := HB6.step hb
   have hrb := hrb.below hb
   clear hb
   refine H26.ms 1 fun a27 H27 => nt ?_
   refine H27.rg 2 fun a29 H29 => ?_
   refine H29.appendRow Tryz.underlying31 info_u8 gz rfl rfl rfl rfl rfl R53 ⟨_, _, rfl, hrb.more HB7.bw⟩ (by simp; omega) HB7.bw ?_
   intro a30 v56 w8 H30 R56 hb _
   have HB8 := HB7.step hb
   have hrb := hrb.below hb
   clear hb
   refine H30.ms 1 fun a31 H31 => nt ?_
   refine wp_ret ?_
   repeat (first | (with_reducible refine block_ret ?_) | (with_reducible refine then_ret ?_))
   refine bodyPost_ret (results_tmp rfl _ _ _) H31.df ⟨_, congrArg Ending.returned (H31.at_ 2 _ rfl), ?_, HB8.own.bel⟩
   have e : layB m = (([UInt8.ofNat (16 * m.kind.toNat + flagsBy m)] ++ pre) ++ [UInt8.ofNat n]) ++ bodyBy m := by
    unfold layB; rw [hpre, vlen_short _ (by omega)]; simp
   rw [e]; exact R56.base HB8.hb
end
section
open Go.RowKit
theorem load_mq {w : World} {b o : Nat} {m : Mq} {vc vw vf : Value} (h : w.rangeAt b o (mqCells m vc vw vf)) : (Instr.loadAt 49 (.pointer (some ⟨b, o, none⟩))).run Tryz.prog w = .ok (.agg (mqCells m vc vw vf).toArray) w :=
 run_loadAt_mid w b o 49 _ _ h Tryz.underlying49 rfl size_mq
theorem eqMqS (m : Mq) (vc vw vf vc' vw' vf' : Value) (w : World) (ha : MqL w w.heap.size m vc vw vf) (hb : MqL w w.heap.size m vc' vw' vf') :
  Calls Tryz.prog 65 #[.agg (mqCells m vc vw vf).toArray, .agg (mqCells m vc' vw' vf').toArray] w fun e w' => e = .returned (.bool true) ∧ Below w.heap.size w w' := by
 have h := refEqMq m m vc vw vf vc' vw' vf' w ha hb
 rw [(same_iff m m).2 rfl] at h
 exact h
theorem mayB_of {m : Mq} (h : mayBb m = true) : mayB m := (mayBb_iff m).1 h
end
section
open Go.RowKit
def MqsAt (w : World) (A : Option Addr) (l : List Mq) : Prop :=
 ∀ k m, l[k]? = some m → ∃ b o vc vw vf, A = some ⟨b, o, none⟩ ∧ b < w.heap.size ∧ w.rangeAt b (o + k * 24) (mqCells m vc vw vf) ∧ MqL w w.heap.size m vc vw vf
theorem MqsAt.next {w w' : World} {A : Option Addr} {l : List Mq} (h : MqsAt w A l) (hb : Below w.heap.size w w') : MqsAt w' A l := by
 intro k m hk
 obtain ⟨b, o, vc, vw, vf, h1, h2, h3, h4⟩ := h k m hk
 exact ⟨b, o, vc, vw, vf, h1, Nat.lt_of_lt_of_le h2 hb.size, rangeB h3 hb h2, h4.next hb⟩
theorem Prows.get {w : World} {b : Nat} {l : List Mq} {cs : List Value} {hi : Nat} (h : Prows w b l cs hi) : ∀ k m, l[k]? = some m → ∃ vc vw vf b', Rows3 w b' m vc vw vf ∧ Lens m 1000001 ∧ Small m ∧ ∀ j v, (mqCells m vc vw vf)[j]? = some v → cs[k * 24 + j]? = some v := by
 induction h with
 | nil => intro k m hk; simp at hk
 | @snoc l xs m0 cs0 hi lo hi' hp _ _ hm ih =>
  intro k m hk
  have hlen := hp.len
  by_cases hlt : k < l.length
  ·rw [List.getElem?_append_left hlt] at hk
   obtain ⟨vc, vw, vf, b', h1, h2, h3, h4⟩ := ih k m hk
   refine ⟨vc, vw, vf, b', h1, h2, h3, fun j v hv => ?_⟩
   have := h4 j v hv
   rw [List.getElem?_append_left (List.getElem?_eq_some_iff.1 this).1]
   exact this
  ·have hke : k = l.length := by
    have := (List.getElem?_eq_some_iff.1 hk).1
    rw [List.length_append, List.length_singleton] at this
    omega
   subst hke
   rw [List.getElem?_append_right (Nat.le_refl _), Nat.sub_self] at hk
   injection hk with hk
   subst hk
   obtain ⟨vc, vw, vf, rfl, h2, _, h3, h4⟩ := hm
   refine ⟨vc, vw, vf, lo, h2, h3, h4, fun j v hv => ?_⟩
   rw [List.getElem?_append_right (by omega), hlen, Nat.add_sub_cancel_left]
   exact hv
theorem Prows.at_ {w : World} {b b' : Nat} {l : List Mq} {cs : List Value} {A : Option Addr} {n c hi : Nat} (h : Prows w b l cs hi) (hO : w.ownsRow b' 49 24 (.slice A n c) l.length cs) : MqsAt w A l := by
 intro k m hk
 obtain ⟨vc, vw, vf, _, h1, h2, _, h4⟩ := h.get k m hk
 have hlt := (List.getElem?_eq_some_iff.1 hk).1
 obtain ⟨g, cap, hA, _, hg2⟩ := hO.form (by omega)
 injection hA with hA hn hc
 subst hA
 subst hn
 refine ⟨g, 0, vc, vw, vf, rfl, hg2, fun j v hv => ?_, MqL.of_rows h1 h2 (by decide)⟩
 have hj : j < 24 := (List.getElem?_eq_some_iff.1 hv).1
 have := hO.cellAt (0 + k * 24 + j) (by omega)
 rw [this, Nat.zero_add]
 exact h4 j v hv
theorem eqMqsS (l : List Mq) (A B : Option Addr) (n c d : Nat) (hn : l.length = n) (hlim : n ≤ 1000000) (w : World) (ha : MqsAt w A l) (hb : MqsAt w B l) :
  Calls Tryz.prog 30 #[.slice A n c, .slice B n d] w fun e w' => e = .returned (.bool true) ∧ Below w.heap.size w w' := by
 go_enter Tryz.func30, Tryz.ntmps30
 refine Has.start 27 [(0, .slice A n c), (1, .slice B n d)] rfl rfl ⟨rfl, rfl, trivial⟩ ?_
 intro a0 H0
 refine H0.rg 1 fun a1 H1 => nt ?_
 refine H1.rg 1 fun a2 H2 => ?_
 refine H2.len gz rfl rfl rfl rfl Tryz.underlying22 fun a3 H3 => ?_
 refine H3.ms 1 fun a4 H4 => ?_
 refine H4.len gz rfl rfl rfl rfl Tryz.underlying22 fun a5 H5 => ?_
 refine H5.bb 0 rfl rfl rfl rfl rfl rfl (neq_3 _ _ false (by simp) _ _ _) rfl fun a6 H6 => nt (H6.condF rfl ?_)
 refine skip_wp (then_normal ?_)
 refine H6.rg 1 fun a7 H7 => nt ?_
 replace H7 := H7.kp [0, 1, 5]
 refine wp_block ?_
 refine wp_loop_up n (fun k a w' => Has a 27 [(0, .slice A n c), (1, .slice B n d), (5, iz k)] ∧ Below w.heap.size w w') ⟨H7, Below.refl _ _⟩ ?_
 clear H0 H1 H2 H3 H4 H5 H6 H7
 rintro k a1 w1 hk ⟨H1, hb1⟩
 refine H1.rg 2 fun a2 H2 => ?_
 refine H2.len gz rfl rfl rfl rfl Tryz.underlying22 fun a3 H3 => ?_
 by_cases hlt : k < n
 rotate_left
 ·refine H3.bb 0 rfl rfl rfl rfl rfl rfl (lss_i _ _ false (by rw [decide_eq_false_iff_not]; omega) _ _ _) rfl fun a4 H4 => nt (H4.condF rfl ?_)
  refine wp_exit ?_
  repeat (with_reducible refine then_exit ?_)
  refine block_leave (then_normal ?_)
  refine H4.rg 1 fun a5 H5 => nt (wp_ret ?_)
  repeat (first | (with_reducible refine block_ret ?_) | (with_reducible refine then_ret ?_))
  exact bodyPost_ret (results_tmp rfl _ _ _) H5.df ⟨congrArg Ending.returned (H5.at_ 4 _ rfl), hb1⟩
 refine H3.bb 0 rfl rfl rfl rfl rfl rfl (lss_i _ _ true (by rw [decide_eq_true_iff]; omega) _ _ _) rfl fun a4 H4 => nt (H4.condT rfl ?_)
 refine skip_wp (then_normal ?_)
 obtain ⟨m, hm⟩ : ∃ m, l[k]? = some m := ⟨_, List.getElem?_eq_getElem (by omega)⟩
 obtain ⟨g1, o1, vc, vw, vf, rfl, hl1, hr1, hM1⟩ := ha k m hm
 obtain ⟨g2, o2, vc', vw', vf', rfl, hl2, hr2, hM2⟩ := hb k m hm
 replace H4 := H4.kp [0, 1, 5]
 have hi : ∀ g o c w', (Instr.indexAt 22 (.slice (some ⟨g, o, none⟩) n c) (iz k)).run Tryz.prog w' = .ok (.pointer (some ⟨g, o + k * 24, none⟩)) w' := fun g o c w' => index_m 22 Tryz.underlying22 24 (fun _ => by kernel_rfl) _ _ _ _ _ hlt _
 refine wp_seq_join (fun a w' => Has a 27 [(0, .slice (some ⟨g1, o1, none⟩) n c), (1, .slice (some ⟨g2, o2, none⟩) n d), (5, iz k)] ∧ Below w.heap.size w w') ?_ ?_
 ·refine wp_block ?_
  refine H4.dq (fun w' => Below w.heap.size w w') (fun _ _ h hb => h.trans (hb.mono h.size)) hb1 [0, 1, 5] rfl [ec 0 17 (.slice (some ⟨g1, o1, none⟩) n c), ec 1 18 (iz k), ec 2 19 (.pointer (some ⟨g1, o1 + k * 24, none⟩)), ec 3 20 (.agg (mqCells m vc vw vf).toArray), ec 4 21 (.slice (some ⟨g2, o2, none⟩) n d), ec 5 22 (iz k), ec 6 23 (.pointer (some ⟨g2, o2 + k * 24, none⟩)), ec 7 24 (.agg (mqCells m vc' vw' vf').toArray), eh 8 25 (.bool true), ec 9 26 (.bool (!true))] rfl
   ⟨jm, jm, jI rfl rfl rfl rfl rfl rfl (hi g1 o1 c), jl fun _ h => load_mq (rangeB hr1 h hl1), jm, jm, jI rfl rfl rfl rfl rfl rfl (hi g2 o2 d), jl fun _ h => load_mq (rangeB hr2 h hl2), ju (hq := run_not true), trivial⟩ ⟨kb fun w' h => eqMqS m vc vw vf vc' vw' vf' w' (hM1.next h) (hM2.next h), trivial⟩ ?_
  intro a5 w5 H5 _ hb5
  refine then_normal (H5.condF rfl (skip_wp (block_normal ?_)))
  exact ⟨H5.keep ⟨rfl, rfl, rfl, trivial⟩, hb5⟩
 ·rintro a5 w5 ⟨H5, hb5⟩
  refine H5.rg 1 fun a6 H6 => ?_
  refine H6.bb 1 rfl rfl rfl rfl rfl rfl (succ_i k (by omega) _ _ _) rfl fun a7 H7 => nt ?_
  exact ⟨hlt, H7.keep ⟨rfl, rfl, rfl, trivial⟩, hb5⟩
end
section
open Go.RowKit
structure Gath (W : World) (g k : Nat) (want : List Mq) (vA vP : Value) (cs : List Value) (w : World) : Prop where
 byt : RowIs (g + 1) ((want.map layB).flatten) vA w
 row : w.ownsRow (g + 1) 49 24 vP want.length cs
 may : ∀ m ∈ want, mayB m
 at_ : ∀ i m, want[i]? = some m → ∃ vc vw vf, MqL W W.heap.size m vc vw vf ∧ ∀ j v, (mqCells m vc vw vf)[j]? = some v → cs[i * 24 + j]? = some v
 le : want.length ≤ k
 len : ((want.map layB).flatten).length ≤ k * 1024
theorem mqs_row {W w : World} {g n c : Nat} {want : List Mq} {A : Option Addr} {cs : List Value} (hO : w.ownsRow g 49 24 (.slice A n c) want.length cs) (h : ∀ i m, want[i]? = some m → ∃ vc vw vf, MqL W W.heap.size m vc vw vf ∧ ∀ j v, (mqCells m vc vw vf)[j]? = some v → cs[i * 24 + j]? = some v) (hb : Below W.heap.size W w) : MqsAt w A want := by
 intro i m hi
 obtain ⟨vc, vw, vf, hM, h4⟩ := h i m hi
 have hlt := (List.getElem?_eq_some_iff.1 hi).1
 obtain ⟨q, cap, hA, _, hg2⟩ := hO.form (by omega)
 injection hA with hA hn hc
 subst hA
 subst hn
 refine ⟨q, 0, vc, vw, vf, rfl, hg2, fun j v hv => ?_, hM.next hb⟩
 have hj : j < 24 := (List.getElem?_eq_some_iff.1 hv).1
 have := hO.cellAt (0 + i * 24 + j) (by omega)
 rw [this, Nat.zero_add]
 exact h4 j v hv
theorem Gath.more {W w w' : World} {g k : Nat} {want : List Mq} {vA vP vA' vP' : Value} {cs : List Value} {m : Mq} {vc vw vf : Value} (h : Gath W g k want vA vP cs w) (hm : mayB m) (hM : MqL W W.heap.size m vc vw vf)
  (hA : RowIs (g + 1) ((want.map layB).flatten ++ layB m) vA' w') (hP : w'.ownsRow (g + 1) 49 24 vP' (want.length + 1) (cs ++ mqCells m vc vw vf)) (hlen : cs.length = want.length * 24) (hl : (layB m).length ≤ 1024) : Gath W g (k + 1) (want ++ [m]) vA' vP' (cs ++ mqCells m vc vw vf) w' := by
 have e : ((want ++ [m]).map layB).flatten = (want.map layB).flatten ++ layB m := by simp
 refine ⟨by rw [e]; exact hA, by rw [List.length_append]; exact hP, fun x hx => ?_, fun i x hx => ?_, ?_, ?_⟩
 ·rcases List.mem_append.1 hx with hx | hx
  ·exact h.may x hx
  ·rw [List.mem_singleton.1 hx]; exact hm
 ·by_cases hlt : i < want.length
  ·rw [List.getElem?_append_left hlt] at hx
   obtain ⟨a, b, c, h1, h2⟩ := h.at_ i x hx
   refine ⟨a, b, c, h1, fun j v hv => ?_⟩
   have := h2 j v hv
   rw [List.getElem?_append_left (List.getElem?_eq_some_iff.1 this).1]
   exact this
  ·have hi : i = want.length := by
    have := (List.getElem?_eq_some_iff.1 hx).1
    rw [List.length_append, List.length_singleton] at this
    omega
   subst hi
   rw [List.getElem?_append_right (Nat.le_refl _), Nat.sub_self] at hx
   injection hx with hx
   subst hx
   refine ⟨vc, vw, vf, hM, fun j v hv => ?_⟩
   rw [List.getElem?_append_right (by omega), hlen, Nat.add_sub_cancel_left]
   exact hv
 ·have := h.le
  rw [List.length_append, List.length_singleton]
  omega
 ·have := h.len
  rw [e, List.length_append]
  omega
theorem Gath.up {W w w' : World} {g k : Nat} {want : List Mq} {vA vP : Value} {cs : List Value} (h : Gath W g k want vA vP cs w) (hb : Below w.heap.size w w') : Gath W g (k + 1) want vA vP cs w' := by
 obtain ⟨A, c, hv, hO⟩ := h.byt
 refine ⟨⟨A, c, hv, own_below hO hb⟩, own_below h.row hb, h.may, h.at_, Nat.le_succ_of_le h.le, Nat.le_trans h.len (Nat.mul_le_mul_right _ (Nat.le_succ k))⟩
theorem Gath.next {W w w' : World} {g k : Nat} {want : List Mq} {vA vP : Value} {cs : List Value} (h : Gath W g k want vA vP cs w) (hb : Below w.heap.size w w') : Gath W g k want vA vP cs w' := by
 obtain ⟨A, c, hv, hO⟩ := h.byt
 exact ⟨⟨A, c, hv, own_below hO hb⟩, own_below h.row hb, h.may, h.at_, h.le, h.len⟩
theorem withinN (i n : Int) (h1 : 1 ≤ n) (h2 : n ≤ 9223372036854775807) (w : World) :
  Calls Tryz.prog 36 #[.int .i64 i, .int .i64 n] w fun e w' => e = .returned (.int .i64 ((wth i n : Nat) : Int)) ∧ w = w' := by
 have HK := Lib.hid (within_num i n h1 h2)
 go_enter Tryz.func36, Tryz.ntmps36
 go_wp2
 go_ret
 obtain ⟨k, hk, he, hw⟩ := HK.out
 refine ⟨?_, rfl⟩
 have : ((wth i n : Nat) : Int) = (k : Int) := by unfold wth; rw [← he]; simp
 rw [this, ← hw]
 rfl
end
section
theorem fed_lays : ∀ (ms : List Mq), (∀ m ∈ ms, mayB m) → ∀ {y : List UInt8} {l : List Mq} {left : List UInt8} {e : Int}, Fed y l left e → Fed ((ms.map layB).flatten ++ y) (ms ++ l) left e
 | [], _, _, _, _, _, h => h
 | m :: ms, hm, y, l, left, e, h => by
  have h1 := parsed_lay (hm m (List.mem_cons_self ..)) ((ms.map layB).flatten ++ y)
  rw [List.map_cons, List.flatten_cons, List.append_assoc, List.cons_append]
  refine .one ?_ h1 ?_
  ·intro h0
   have := (parsed_two h1).1
   have h2 := congrArg List.length h0
   rw [List.length_append, List.length_nil] at h2
   omega
  ·rw [List.drop_left]
   exact fed_lays ms (fun x hx => hm x (List.mem_cons_of_mem _ hx)) h
end
section
open Go.RowKit
section
variable {ops : Array Oper} {Q : Exit → Act → World → Prop} {n : Nat} {l : List (Nat × Value)} {Wp : World → Prop} {i s : Nat} {o : Oper}
theorem jmn {x y : Operand} {u v r : Int} (hr : min u v = r) (ho : ops[i]? = some o := by rfl) (hp : o.op = .call { callee := .builtin .min, args := #[x, y], argTypes := #[3, 3] } := by rfl) (hd : o.dst = some s := by rfl) (hg : okG ops l o = true := by rfl) (hx : evL l x = some (iz u) := by rfl) (hy : evL l y = some (iz v) := by rfl) : PureE ops Q n l Wp i s (iz r) :=
 fun _ _ w H _ hK => wpOp_go ho (okG_w H hg) s hd _ w (hr ▸ run_minI hp (H.ev hx) (H.ev hy)) hK
theorem jsh {T : Nat} {x lo hi : Operand} {u y z r : Value} (hq : ∀ w, (Instr.sliceAt T u (some y) (some z) none).run Tryz.prog w = .ok r w) (ho : ops[i]? = some o := by rfl) (hp : o.op = .slice T x (some lo) (some hi) none := by rfl) (hd : o.dst = some s := by rfl) (hg : okG ops l o = true := by rfl) (hx : evL l x = some u := by rfl) (hy : evL l lo = some y := by rfl) (hz : evL l hi = some z := by rfl) : PureE ops Q n l Wp i s r :=
 fun _ _ w H _ hK => wpOp_go ho (okG_w H hg) s hd r w (run_slice hp (H.ev hx) (H.ev hy) (H.ev hz) (hq w)) hK
end
abbrev taleC (A : Option Addr) (len cap : Nat) (size : Int) (AW : Option Addr) (n cW : Nat) (sq : Int) : List Value := [.slice A len cap, iz size, .slice AW n cW, iz sq]
def Pks27 (W : World) (A : Option Addr) (len : Nat) : Prop :=
 ∀ i, i < len → ∃ (b o : Nat) (m : Mq) (vc vw vf : Value), A = some ⟨b, o, none⟩ ∧ b < W.heap.size ∧ W.rangeAt b (o + i * 24) (mqCells m vc vw vf) ∧ MqL W W.heap.size m vc vw vf ∧ MqFit m
theorem load1_p (g o n c : Nat) (A : Option Addr) (w : World) (h : w.cell? ⟨g, o, none⟩ = some (.slice A n c)) : (Instr.loadAt 22 (.pointer (some ⟨g, o, none⟩))).run Tryz.prog w = .ok (.slice A n c) w := by
 simp [go_sem, h]
theorem frame27N (d port sq fl : Nat) (xs : List UInt8) (n : Nat) (hn : xs.length = n) (A : Option Addr) (c : Nat) (hq : Sg.ok (sg27 port sq fl xs) = true) (hd : d < 4294967296) (w : World) (hx : RB w w.heap.size A xs) :
  Calls Tryz.prog 37 #[iz d, iz port, .agg ([iz 0, iz 0, iz sq, iz 0, iz fl, iz 0, .slice A n c] : List Value).toArray] w fun e w' => ∃ v, e = .returned v ∧ ∃ A' n' c', v = .slice A' n' c' ∧ FrIs w.heap.size (fr27 d port sq fl xs) (.slice A' n' c') w' ∧ Below w.heap.size w w' := by
 subst hn
 exact frame27F d port sq fl xs A c hq hd w hx
theorem traceStreamN (l : List (List UInt8)) (n : Nat) (hn : l.length = n) (AL : Option Addr) (cL : Nat) (ti port : Int) (hti : inR ti 4294967295 = true) (hpo : inR port 65535 = true) (w : World) (hL : FrsS w (fun _ => True) AL l) (hl : n ≤ 100000) (hlb : ∀ b ∈ l, b.length ≤ 140737488351232) :
  Calls Tryz.prog 20 #[.slice AL n cL, iz ti, iz port] w fun e w' => ∃ v, e = .returned v ∧ ∃ x A c, v = .tuple #[.slice A x.b.length c, .bool (x.rst || decide (x.nq ∈ x.fins)), iz 0] ∧ Heard ti port l .zero x ∧ LstOk n x ∧ w'.ownsRow w.heap.size 5 1 (.slice A x.b.length c) x.b.length (x.b.map bv) ∧ Below w.heap.size w w' := by
 subst hn
 exact traceStream l AL cL ti port hti hpo w hL hl hlb
theorem fed_all {want l : List Mq} {left : List UInt8} {e : Int} (hm : ∀ m ∈ want, mayB m) (h : Fed ((want.map layB).flatten) l left e) : l = want ∧ e = 0 := by
 have h1 := fed_lays want hm Fed.done
 rw [List.append_nil, List.append_nil] at h1
 obtain ⟨e1, _, e3⟩ := fed_one h h1
 exact ⟨e1, e3⟩
structure LN (b : Nat) (fl fn : List (Value × List UInt8)) (vL vN : Value) (w : World) : Prop where
 rl : w.ownsRow b 31 1 vL fl.length (fl.map (·.1))
 rn : w.ownsRow b 31 1 vN fn.length (fn.map (·.1))
 dis : ∀ k, vL.ownBlock = some k → vN.ownBlock ≠ some k
 fr : ∀ p ∈ fl ++ fn, ∃ A c, p.1 = .slice A p.2.length c ∧ p.2.length ≤ c ∧ RBS w (fun k => some k ≠ vL.ownBlock ∧ some k ≠ vN.ownBlock) A p.2
section
variable {b b2 : Nat} {fl fn : List (Value × List UInt8)} {vL vL' vN vN' : Value} {w w' : World}
theorem LN.next (h : LN b fl fn vL vN w) (hb : Below w.heap.size w w') : LN b fl fn vL vN w' :=
 ⟨own_below h.rl hb, own_below h.rn hb, h.dis, fun p hp => by
  obtain ⟨A, c, h1, h2, h3⟩ := h.fr p hp
  exact ⟨A, c, h1, h2, h3.grown (below_grown hb none) (fun k e => by cases e)⟩⟩
theorem LN.row (h : LN b fl fn vL vN w) : FrRow b fl vL w := ⟨h.rl, fun p hp => by
 obtain ⟨A, c, h1, h2, h3⟩ := h.fr p (List.mem_append_left _ hp)
 exact ⟨A, c, h1, h2, h3.mono fun _ _ hk => hk.1⟩⟩
theorem LN.growL (h : LN b fl fn vL vN w) (fs : List (Value × List UInt8)) (hs : ∀ p ∈ fs, p ∈ fn) (hO : w'.ownsRow b 31 1 vL' (fl.length + fs.length) (fl.map (·.1) ++ fs.map (·.1))) (hg : w.grownBy w' vL.ownBlock) (hfr : vL'.ownBlock = vL.ownBlock ∨ vL'.ownBlock = some w.heap.size) : LN b (fl ++ fs) fn vL' vN w' := by
 have hd : vN.ownBlock = none ∨ vN.ownBlock ≠ vL.ownBlock := by
  cases e : vL.ownBlock with
  | none =>
   cases e2 : vN.ownBlock with
   | none => exact .inl rfl
   | some k => exact .inr (fun h => by cases h)
  | some k => exact .inr (h.dis k e)
 refine ⟨by rw [List.length_append, List.map_append]; exact hO, h.rn.kept hg hd, fun k hk => ?_, fun p hp => ?_⟩
 ·rcases hfr with e | e
  ·exact h.dis k (e.symm.trans hk)
  ·have : k = w.heap.size := by rw [e] at hk; injection hk with hk; exact hk.symm
   subst this
   exact fun e2 => own_ne h.rn (.inr (Nat.le_refl _)) e2.symm
 ·have hp' : p ∈ fl ++ fn := by
   rcases List.mem_append.1 hp with hp | hp
   ·rcases List.mem_append.1 hp with hp | hp
    ·exact List.mem_append_left _ hp
    ·exact List.mem_append_right _ (hs p hp)
   ·exact List.mem_append_right _ hp
  obtain ⟨A, c, h1, h2, h3⟩ := h.fr p hp'
  refine ⟨A, c, h1, h2, ((h3.mono (S' := fun k => (some k ≠ vL.ownBlock ∧ some k ≠ vN.ownBlock) ∧ k < w.heap.size) fun k hk hS => ⟨hS, hk⟩).grown hg (fun k e hS => hS.1.1 e.symm)).mono fun k _ hS => ⟨?_, hS.1.2⟩⟩
  rcases hfr with e | e
  ·rw [e]; exact hS.1.1
  ·rw [e]; intro e2; injection e2 with e2; omega
theorem LN.growN (h : LN b fl fn vL vN w) (fs : List (Value × List UInt8)) (h2 : ∀ p ∈ fs, FrIs b2 p.2 p.1 w) (hL : ∀ k, b2 ≤ k → some k ≠ vL.ownBlock ∧ some k ≠ vN.ownBlock) (hO : w'.ownsRow b 31 1 vN' (fn.length + fs.length) (fn.map (·.1) ++ fs.map (·.1))) (hg : w.grownBy w' vN.ownBlock) (hfr : vN'.ownBlock = vN.ownBlock ∨ vN'.ownBlock = some w.heap.size) : LN b fl (fn ++ fs) vL vN' w' := by
 have hd : vL.ownBlock = none ∨ vL.ownBlock ≠ vN.ownBlock := by
  cases e : vL.ownBlock with
  | none => exact .inl rfl
  | some k => exact .inr (fun h2 => h.dis k e h2.symm)
 refine ⟨h.rl.kept hg hd, by rw [List.length_append, List.map_append]; exact hO, fun k hk => ?_, fun p hp => ?_⟩
 ·rcases hfr with e | e
  ·rw [e]; exact h.dis k hk
  ·rw [e]; intro e2
   injection e2 with e2
   subst e2
   exact own_ne h.rl (.inr (Nat.le_refl _)) hk.symm
 ·have key : ∃ A c, p.1 = .slice A p.2.length c ∧ p.2.length ≤ c ∧ RBS w (fun k => some k ≠ vL.ownBlock ∧ some k ≠ vN.ownBlock) A p.2 := by
   rw [← List.append_assoc] at hp
   rcases List.mem_append.1 hp with hp | hp
   ·exact h.fr p hp
   ·obtain ⟨A, c, h1, h3, h4⟩ := h2 p hp
    exact ⟨A, c, h1, h3, h4.mono fun k _ hk => hL k hk⟩
  obtain ⟨A, c, h1, h3, h4⟩ := key
  refine ⟨A, c, h1, h3, ((h4.mono (S' := fun k => (some k ≠ vL.ownBlock ∧ some k ≠ vN.ownBlock) ∧ k < w.heap.size) fun k hk hS => ⟨hS, hk⟩).grown hg (fun k e hS => hS.1.2 e.symm)).mono fun k _ hS => ⟨hS.1.1, ?_⟩⟩
  rcases hfr with e | e
  ·rw [e]; exact hS.1.2
  ·rw [e]; intro e2; injection e2 with e2; omega
theorem LN.nil (h : LN b fl fn vL vN w) : LN b fl [] vL nilV w := ⟨h.rl, World.ownsRow_nil _ _ _ _, (fun k _ e => by cases e), fun p hp => by
 rw [List.append_nil] at hp
 obtain ⟨A, c, h1, h2, h3⟩ := h.fr p (List.mem_append_left _ hp)
 exact ⟨A, c, h1, h2, h3.mono fun _ _ hk => ⟨hk.1, fun e => by cases e⟩⟩⟩
theorem LN.one (h : FrRow b fl vL w) : LN b fl [] vL nilV w := ⟨h.1, World.ownsRow_nil _ _ _ _, (fun k _ e => by cases e), fun p hp => by
 rw [List.append_nil] at hp
 obtain ⟨A, c, h1, h2, h3⟩ := h.2 p hp
 exact ⟨A, c, h1, h2, h3.mono fun _ _ hk => ⟨hk, fun e => by cases e⟩⟩⟩
theorem LN.cell {n c k : Nat} {A : Option Addr} {p : Value × List UInt8} (h : LN b fl fn vL (.slice A n c) w) (hk : fn[k]? = some p) : ∃ q, A = some ⟨q, 0, none⟩ ∧ w.cell? ⟨q, k, none⟩ = some p.1 := by
 have hlt : k < fn.length := (List.getElem?_eq_some_iff.1 hk).1
 obtain ⟨q, cap, hA, _, hgl⟩ := h.rn.form (by omega)
 injection hA with e1 _ e2
 subst e1
 have hck := h.rn.cells (g := q) rfl k p.1 (by rw [List.getElem?_map, hk]; rfl)
 rw [Addr.add_mid, Nat.zero_add] at hck
 exact ⟨q, rfl, hck⟩
end
theorem Gath.past {W w w' : World} {g k b n : Nat} {want : List Mq} {vA vP u : Value} {cs xs : List Value} (h : Gath W g k want vA vP cs w) (hO : w.ownsRow b 31 1 u n xs) (hg : w.grownBy w' u.ownBlock) : Gath W g k want vA vP cs w' :=
 ⟨h.byt.past hO hg, h.row.kept hg (own_apart h.row hO rfl), h.may, h.at_, h.le, h.len⟩
structure TW (W : World) (g : Nat) (L : List Value) (want : List Mq) (vA vP : Value) (cs : List Value) (fl fn : List (Value × List UInt8)) (vL vN : Value) (w : World) : Prop where
 own : Own W g [(g, L)] w
 gat : Gath W g 12 want vA vP cs w
 ln : LN (g + 1) fl fn vL vN w
section
variable {W w w' : World} {g : Nat} {L : List Value} {want : List Mq} {vA vP : Value} {cs : List Value} {fl fn : List (Value × List UInt8)} {vL vL' vN vN' : Value}
theorem TW.next (h : TW W g L want vA vP cs fl fn vL vN w) (hb : Below w.heap.size w w') : TW W g L want vA vP cs fl fn vL vN w' := ⟨h.own.call hb, h.gat.next hb, h.ln.next hb⟩
theorem TW.growL (h : TW W g L want vA vP cs fl fn vL vN w) (fs : List (Value × List UInt8)) (hs : ∀ p ∈ fs, p ∈ fn) (hO : w'.ownsRow (g + 1) 31 1 vL' (fl.length + fs.length) (fl.map (·.1) ++ fs.map (·.1))) (hg : w.grownBy w' vL.ownBlock) (hfr : vL'.ownBlock = vL.ownBlock ∨ vL'.ownBlock = some w.heap.size) : TW W g L want vA vP cs (fl ++ fs) fn vL' vN w' :=
 ⟨h.own.row h.ln.rl (Nat.le_succ _) hg (fun p hp => by rw [List.mem_singleton.1 hp]; exact own_ne h.ln.rl (.inl (Nat.lt_succ_self _))), h.gat.past h.ln.rl hg, h.ln.growL fs hs hO hg hfr⟩
theorem TW.growN {b2 : Nat} (h : TW W g L want vA vP cs fl fn vL vN w) (fs : List (Value × List UInt8)) (h2 : ∀ p ∈ fs, FrIs b2 p.2 p.1 w) (hL : ∀ k, b2 ≤ k → some k ≠ vL.ownBlock ∧ some k ≠ vN.ownBlock) (hO : w'.ownsRow (g + 1) 31 1 vN' (fn.length + fs.length) (fn.map (·.1) ++ fs.map (·.1))) (hg : w.grownBy w' vN.ownBlock) (hfr : vN'.ownBlock = vN.ownBlock ∨ vN'.ownBlock = some w.heap.size) : TW W g L want vA vP cs fl (fn ++ fs) vL vN' w' :=
 ⟨h.own.row h.ln.rn (Nat.le_succ _) hg (fun p hp => by rw [List.mem_singleton.1 hp]; exact own_ne h.ln.rn (.inl (Nat.lt_succ_self _))), h.gat.past h.ln.rn hg, h.ln.growN fs h2 hL hO hg hfr⟩
theorem TW.nil (h : TW W g L want vA vP cs fl fn vL vN w) : TW W g L want vA vP cs fl [] vL nilV w := ⟨h.own, h.gat, h.ln.nil⟩
theorem TW.base (h : TW W g L want vA vP cs fl fn vL vN w) : g + 1 ≤ w.heap.size := Nat.succ_le_of_lt (h.own.lt 0 rfl)
end
def Near (all : List UInt8) (s g0 sz j : Nat) (fn : List (Value × List UInt8)) : Prop := fn.map (·.2) = (List.range j).map (fun k => pc27 all s (g0 + k * sz) sz)
theorem Near.more {all : List UInt8} {s g0 sz j : Nat} {fn : List (Value × List UInt8)} {u : Value} {x : List UInt8} (h : Near all s g0 sz j fn) (hx : x = pc27 all s (g0 + j * sz) sz) : Near all s g0 sz (j + 1) (fn ++ [(u, x)]) := by
 unfold Near at *
 rw [List.map_append, h, List.range_succ, List.map_append, hx]
 rfl
theorem Near.len {all : List UInt8} {s g0 sz j : Nat} {fn : List (Value × List UInt8)} (h : Near all s g0 sz j fn) : fn.length = j := by
 have := congrArg List.length h
 rwa [List.length_map, List.length_map, List.length_range] at this
theorem Near.get {all : List UInt8} {s g0 sz j k : Nat} {fn : List (Value × List UInt8)} (h : Near all s g0 sz j fn) (hk : k < j) : ∃ u, fn[k]? = some (u, pc27 all s (g0 + k * sz) sz) := by
 have hlt : k < fn.length := by rw [h.len]; exact hk
 have := congrArg (fun l => l[k]?) h
 simp only [List.getElem?_map, List.getElem?_eq_getElem hlt, Option.map_some, List.getElem?_range hk] at this
 injection this with this
 exact ⟨(fn[k]).1, by rw [List.getElem?_eq_getElem hlt, ← this]⟩
theorem pc_eq {all : List UInt8} {q t sz hi : Nat} (hhi : min (t + sz) all.length = hi) : fr27 5 6 (spAdd q (1 + t)) 16 ((all.take hi).drop t) = pc27 all (spAdd q 1) t sz := by
 unfold pc27
 rw [spAdd_add, ← hhi]
 refine congrArg _ ?_
 apply List.ext_getElem?
 intro i
 rw [List.getElem?_drop, List.getElem?_take, List.getElem?_take, List.getElem?_drop]
 by_cases h1 : i < sz
 ·rw [if_pos h1]
  by_cases h2 : t + i < all.length
  ·rw [if_pos (by omega)]
  ·rw [if_neg (by omega), List.getElem?_eq_none (by omega)]
 ·rw [if_neg h1, if_neg (by omega)]
end
section
open Go.RowKit
theorem tellW (A : Option Addr) (len cap : Nat) (size sq : Int) (AW : Option Addr) (way : List Int) (cW : Nat) (w : World) (ha : Pks27 w A len) (hway : Reads w w.heap.size 1 AW way.length (way.map iv)) (hT : Wd w) :
  Calls Tryz.prog 5 #[.agg (taleC A len cap size AW way.length cW sq).toArray] w fun e w' => e = .returned (.bool true) ∧ Below w.heap.size w w' := by
 go_enter Tryz.func5, Tryz.ntmps5
 refine Has.start 218 [(0, .agg (taleC A len cap size AW way.length cW sq).toArray)] rfl rfl ⟨rfl, trivial⟩ ?_
 intro a0 H0
 refine rl ?_
 refine H0.bx (Own.start w) 1 (L := taleC A len cap size AW way.length cW sq) fun a w1 O1 H => nt ?_
 refine H.rg 1 fun a H => nt ?_
 refine H.rg 1 fun a H => nt ?_
 obtain ⟨g, hgw⟩ : ∃ g, w.heap.size = g := ⟨_, rfl⟩
 rw [hgw] at O1 H
 replace H := H.kp [1, 3, 4]
 clear H0
 have hbel : ∀ {w' : World}, Own w g [(g, taleC A len cap size AW way.length cW sq)] w' → Below w.heap.size w w' := fun h => hgw ▸ h.bel
 have hTn : ∀ {w' : World}, Own w g [(g, taleC A len cap size AW way.length cW sq)] w' → Wd w' := fun h => hT.below (hbel h)
 refine wp_seq_join (fun a w' => ∃ want vA vP cs, Has a 218 [(1, pz g), (3, vA), (4, vP)] ∧ Own w g [(g, taleC A len cap size AW way.length cW sq)] w' ∧ Gath w g 12 want vA vP cs w') ?_ ?_
 ·refine H.rg 1 fun a H => nt ?_
  replace H := H.kp [1, 3, 4, 5]
  refine wp_block ?_
  refine wp_loop_up 12 (fun k a w' => ∃ want vA vP cs, Has a 218 [(1, pz g), (3, vA), (4, vP), (5, iz k)] ∧ Own w g [(g, taleC A len cap size AW way.length cW sq)] w' ∧ Gath w g k want vA vP cs w') ⟨[], nilV, nilV, [], H, O1, ⟨none, 0, rfl, World.ownsRow_nil _ _ _ _⟩, World.ownsRow_nil _ _ _ _, by simp, by simp, Nat.le_refl _, Nat.le_refl _⟩ ?_
  clear H O1
  rintro k a w2 hk12 ⟨want, vA, vP, cs, H, O, G⟩
  obtain ⟨b1, e1⟩ : ∃ b, decide ((k : Int) < (len : Int)) = b := ⟨_, rfl⟩
  obtain ⟨b2, e2⟩ : ∃ b, decide ((k : Int) < 12) = b := ⟨_, rfl⟩
  refine H.tb (fun w' => Own w g [(g, taleC A len cap size AW way.length cW sq)] w' ∧ Gath w g k want vA vP cs w') (fun _ _ h hb => ⟨h.1.call hb, h.2.next hb⟩) ⟨O, G⟩ [ec 0 24 (iz k), ec 1 25 (pz g), ec 2 26 (.slice A len cap), ec 3 27 (iz len), ec 4 28 (.bool b1), ec 5 29 (.bool b1), ec 6 30 (gv b1 (iz k)), ec 7 31 (gv b1 (.bool b2)), ec 8 32 (.bool (b1 && b2))] rfl
   ⟨jm, jm, jl fun _ h => load1_p _ _ _ _ _ _ ((h.1.get 0 rfl).get 0 _ rfl), jn Tryz.underlying22, jb fun _ => lss_i _ _ b1 e1 _ _ _, jm, (by cases b1; exact jo; exact jm), (by cases b1; exact jo; exact jb fun _ => lss_i _ _ b2 e2 _ _ _), (by cases b1 <;> exact jp), trivial⟩ ?_
  clear H O G
  rintro a w3 H ⟨O, G⟩
  refine then_normal (H.cond (t := b1 && b2) rfl ?_)
  cases hb : b1 && b2 with
  | false =>
   refine wp_exit ?_
   repeat (with_reducible refine then_exit ?_)
   refine block_leave ?_
   exact ⟨want, vA, vP, cs, H.keep ⟨rfl, rfl, rfl, trivial⟩, O, G.byt, G.row, G.may, G.at_, Nat.le_trans G.le hk12, Nat.le_trans G.len (Nat.mul_le_mul_right _ hk12)⟩
  | true =>
  simp only [Bool.and_eq_true] at hb
  rw [hb.1] at e1
  rw [hb.2] at e2
  have hlt : k < len := by simpa using e1
  have h12 : k < 12 := by have : (k : Int) < 12 := of_decide_eq_true e2; omega
  clear e1 e2 hb
  refine skip_wp (then_normal ?_)
  refine wp_seq_join (fun a w' => ∃ want vA vP cs, Has a 218 [(1, pz g), (3, vA), (4, vP), (5, iz k)] ∧ Own w g [(g, taleC A len cap size AW way.length cW sq)] w' ∧ Gath w g (k + 1) want vA vP cs w') ?_ ?_
  rotate_left
  ·clear H O G
   rintro a w4 ⟨want, vA, vP, cs, H, O, G⟩
   refine H.rg 1 fun a H => ?_
   refine H.bb 1 rfl rfl rfl rfl rfl rfl (succ_i k (by omega) _ _ _) rfl fun a H => nt ?_
   exact ⟨h12, want, vA, vP, cs, H.keep ⟨rfl, rfl, rfl, rfl, trivial⟩, O, G⟩
  refine wp_block ?_
  replace H := H.kp [1, 3, 4, 5]
  obtain ⟨b, o, m, vc, vw, vf, hA, hblt, hrg, hM, hF⟩ := ha k hlt
  have hix : ∀ w', (Instr.indexAt 22 (.slice A len cap) (iz k)).run Tryz.prog w' = .ok (.pointer (some ⟨b, o + k * 24, none⟩)) w' := fun w' => by rw [hA]; exact index_m 22 Tryz.underlying22 24 (fun _ => by kernel_rfl) _ _ _ _ _ hlt _
  have hr : ∀ {w' : World}, Own w g [(g, taleC A len cap size AW way.length cW sq)] w' → w'.rangeAt b (o + k * 24) (mqCells m vc vw vf) := fun h => rangeB hrg (hbel h) hblt
  have hMn : ∀ {w' : World}, Own w g [(g, taleC A len cap size AW way.length cW sq)] w' → MqL w' w'.heap.size m vc vw vf := fun h => hM.next (hbel h)
  obtain ⟨b3, e3⟩ : ∃ b, decide ((2000 : Int) < ((mqW m : Nat) : Int)) = b := ⟨_, rfl⟩
  refine H.rg 1 fun a H => ?_
  refine H.ld 1 (load1_p _ _ _ _ _ _ ((O.get 0 rfl).get 0 _ rfl)) fun a H => ?_
  refine H.index gz rfl rfl rfl rfl rfl (hix _) fun a H => ?_
  refine H.ld 0 (load_mq (hr O)) fun a H => ?_
  refine H.cl (belowC (weighMq m vc vw vf _ (hMn O) hF)) ?_
  rintro a _ w4 ⟨rfl, hb4⟩ H
  replace O := O.call hb4
  replace G := G.next hb4
  refine H.bb 0 rfl rfl rfl rfl rfl rfl (gtr_i _ _ b3 e3 _ _ _) rfl fun a H => nt (H.cond (t := b3) rfl ?_)
  cases b3 with
  | true =>
   refine H.rg 1 fun a H => nt (wp_ret ?_)
   repeat (first | (with_reducible refine block_ret ?_) | (with_reducible refine then_ret ?_))
   exact bodyPost_ret (results_tmp rfl _ _ _) H.df ⟨congrArg Ending.returned (H.at_ 2 _ rfl), hbel O⟩
  | false =>
  refine skip_wp (then_normal ?_)
  replace H := H.kp [1, 3, 4, 5]
  clear e3 hb4
  obtain ⟨bm, hbm⟩ : ∃ b, mayBb m = b := ⟨_, rfl⟩
  refine H.rg 1 fun a H => ?_
  refine H.ld 1 (load1_p _ _ _ _ _ _ ((O.get 0 rfl).get 0 _ rfl)) fun a H => ?_
  refine H.index gz rfl rfl rfl rfl rfl (hix _) fun a H => ?_
  refine H.ld 0 (load_mq (hr O)) fun a H => ?_
  refine H.cl (belowC (refMay m vc vw vf _ (hMn O) hF (hTn O))) ?_
  rintro a _ w5 ⟨rfl, hb5⟩ H
  rw [hbm] at H
  replace O := O.call hb5
  replace G := G.next hb5
  refine nt (H.cond (t := bm) rfl ?_)
  cases bm with
  | false =>
   refine skip_wp (block_normal ?_)
   exact ⟨want, vA, vP, cs, H.keep ⟨rfl, rfl, rfl, rfl, trivial⟩, O, G.up (Below.refl _ _)⟩
  | true =>
  have hmay := mayB_of hbm
  have hll := lay_le hmay
  have hl8 := G.len
  have hle8 := G.le
  replace H := H.kp [1, 3, 4, 5]
  refine H.rg 2 fun a H => ?_
  refine H.ld 1 (load1_p _ _ _ _ _ _ ((O.get 0 rfl).get 0 _ rfl)) fun a H => ?_
  refine H.index gz rfl rfl rfl rfl rfl (hix _) fun a H => ?_
  refine H.ld 0 (load_mq (hr O)) fun a H => ?_
  have KB : Calls Tryz.prog 35 #[.agg (mqCells m vc vw vf).toArray] w5 fun e w' => ∃ v, e = .returned v ∧ (RowIs w5.heap.size (layB m) v w' ∧ Below w5.heap.size w5 w') := refBytes m vc vw vf _ hmay (hMn O)
  refine H.cl KB ?_
  clear KB
  rintro a _ w6 ⟨⟨Ax, cx, rfl, hOx⟩, hb6⟩ H
  replace O := O.call hb6
  replace G := G.next hb6
  have hvr : RowIs w5.heap.size (layB m) (.slice Ax (layB m).length cx) w6 := ⟨Ax, cx, rfl, hOx⟩
  refine H.appendRow Tryz.underlying31 info_u8 (gz rfl) rfl rfl rfl rfl rfl G.byt hvr.read (by omega) (O.lt 0 rfl) ?_
  intro a v' w9 H hv9 hb9 hg9
  obtain ⟨A8, c8, hv8, hO8⟩ := G.byt
  have O9 := O.row hO8 (Nat.le_succ _) hg9 (fun p hp => by
   rw [List.mem_singleton.1 hp]
   exact own_ne hO8 (.inl (Nat.lt_succ_self _)))
  have hP9 := G.row.kept hg9 (own_apart G.row hO8 rfl)
  refine H.ms 1 fun a H => nt ?_
  replace H := H.kp [1, 3, 4, 5]
  clear hvr hOx hv8 hO8
  refine H.rg 2 fun a H => ?_
  refine H.ld 1 (load1_p _ _ _ _ _ _ ((O9.get 0 rfl).get 0 _ rfl)) fun a H => ?_
  refine H.index gz rfl rfl rfl rfl rfl (hix _) fun a H => ?_
  refine H.ld 0 (load_mq (hr O9)) fun a H => ?_
  refine H.any (w' := w9.alloc (.cells (mqCells m vc vw vf).toArray 49)) gz rfl rfl (.slice (some ⟨w9.heap.size, 0, none⟩) 1 1) (by intro cs b h; cases h) (by kernel_rfl) (by kernel_rfl) fun a H => ?_
  have hl10 := Reads.lit w9 49 (mqCells m vc vw vf) (0, 0) 24 1 rfl
  have hb10 : Below w9.heap.size w9 (w9.alloc (.cells (mqCells m vc vw vf).toArray 49)) := balloc _ _
  generalize w9.alloc (.cells (mqCells m vc vw vf).toArray 49) = w10 at *
  obtain ⟨BB, hBB, hinf⟩ := info_mqx
  have O10 := O9.call hb10
  have hP10 := own_below hP9 hb10
  obtain ⟨A9, c9, hv9e, hO9⟩ := hv9
  have hO10 := own_below hO9 hb10
  refine H.app hP10 hinf hl10 (fun u hu => List.all_eq_true.1 (hMn O9).ones u hu) (by unfold maxLen; omega) (Nat.le_trans (Nat.mul_le_mul (show want.length + 1 ≤ 80000 by omega) hBB) (by decide)) (O10.lt 0 rfl) fun a A' c' w11 hP11 hg11 H => ?_
  have O11 := O10.row hP10 (Nat.le_succ _) hg11 (fun p hp => by
   rw [List.mem_singleton.1 hp]
   exact own_ne hP10 (.inl (Nat.lt_succ_self _)))
  have hO11 := hO10.kept hg11 (own_apart hO10 hP10 rfl)
  refine H.ms 1 fun a H => wpList_nil (block_normal ?_)
  exact ⟨want ++ [m], v', _, cs ++ mqCells m vc vw vf, H.keep ⟨rfl, rfl, rfl, rfl, trivial⟩, O11, G.more hmay hM ⟨A9, c9, hv9e, hO11⟩ hP11 G.row.1 (by omega)⟩
 clear H O1
 rintro a w2 ⟨want, vA, vP, cs, H, O, G⟩
 obtain ⟨AA, cA, hvA, hOA⟩ := id G.byt
 subst hvA
 obtain ⟨AP, cP, rfl, _, _⟩ := own_shape G.row
 have hcA := own_cap hOA
 have hNl := G.len
 clear hOA
 have hRA : ∀ {w' : World}, Gath w g 12 want (.slice AA ((want.map layB).flatten).length cA) (.slice AP want.length cP) cs w' → RB w' w'.heap.size AA ((want.map layB).flatten) := fun h => h.byt.rb
 have hfed : ∀ {l : List Mq} {left : List UInt8} {e : Int}, Fed ((want.map layB).flatten) l left e → l = want ∧ e = 0 := fun h => fed_all G.may h
 obtain ⟨all, hall⟩ : ∃ all, (want.map layB).flatten = all := ⟨_, rfl⟩
 rw [hall] at H G hcA hNl hRA hfed
 have hN : all.length ≤ 12288 := hNl
 clear hNl
 refine H.rg 1 fun a H => ?_
 refine H.ld 0 (O.li 0 1) fun a H => ?_
 refine H.cq 0 (withinN size 300 (by decide) (by decide) _) fun a H => ?_
 have hwl := wth_lt size 300 (by decide)
 refine H.bn 1 (add_nn 20 (wth size 300) (by omega) _ _ _) fun a H => nt ?_
 obtain ⟨sz, hsz⟩ : ∃ sz, 20 + wth size 300 = sz := ⟨_, rfl⟩
 rw [hsz] at H
 have hsz0 : 0 < sz := by omega
 have hsz3 : sz ≤ 319 := by omega
 clear hsz hwl
 replace H := H.kp [1, 3, 4, 6]
 obtain ⟨q, hqe⟩ : ∃ q : Nat, sq % 4294967296 = (q : Int) := ⟨(sq % 4294967296).toNat, by omega⟩
 have hq : q ≤ 4294967295 := by omega
 refine H.rg 1 fun a H => ?_
 refine H.ld 0 (O.li 0 3) fun a H => ?_
 refine H.cv 0 (conv_32 sq _) fun a H => ?_
 refine H.cv 1 (conv_23 (sq % 4294967296) (by omega) (by omega) _) fun a H => nt ?_
 rw [hqe] at H
 replace H := H.kp [1, 3, 4, 6, 7]
 refine H.rg 1 fun a H => ?_
 refine H.any (w' := w2) gz rfl rfl (.agg ([iz 0, iz 0, iz q, iz ((0 : Nat) : Int), iz ((18 : Nat) : Int), iz ((0 : Nat) : Int), .slice none ([] : List UInt8).length 0] : List Value).toArray) (by intro cs b h; cases h) (by kernel_rfl) (by kernel_rfl) fun a H => ?_
 refine H.cl (frame27F 5 6 q 18 [] none 0 (sg27_ok (port := 6) (sq := q) (fl := 18) (xs := []) (by decide) hq (by decide) (by decide)) (by decide) w2 (Reads.none_)) ?_
 rintro a _ w3 ⟨Af, nf, cf, rfl, hf, hb3⟩ H
 have hrw : FrRow w3.heap.size [(.slice Af nf cf, fr27 5 6 q 18 [])] (.slice (some ⟨w3.heap.size, 0, none⟩) 1 1) (w3.alloc (.cells ([.slice Af nf cf] : List Value).toArray 31)) := FrRow.lit (b := 0) (fr_cons (hf.base (b' := 0) (Nat.zero_le _)) fr_nil) (by show 1 ≤ 9223372036854775807; decide)
 refine H.any (w' := w3.alloc (.cells ([.slice Af nf cf] : List Value).toArray 31)) gz rfl rfl (.slice (some ⟨w3.heap.size, 0, none⟩) 1 1) (by intro cs b h; cases h) (by kernel_rfl) (by kernel_rfl) fun a H => ?_
 have hb4 : Below w3.heap.size w3 (w3.alloc (.cells ([.slice Af nf cf] : List Value).toArray 31)) := balloc _ _
 have O4 := (O.call hb3).call hb4
 have G4 := (G.next hb3).next hb4
 have hg3 : g + 1 ≤ w3.heap.size := Nat.succ_le_of_lt ((O.call hb3).lt 0 rfl)
 generalize w3.alloc (.cells ([.slice Af nf cf] : List Value).toArray 31) = w4 at *
 have T4 : TW w g (taleC A len cap size AW way.length cW sq) want (.slice AA all.length cA) (.slice AP want.length cP) cs [(.slice Af nf cf, fr27 5 6 q 18 [])] [] (.slice (some ⟨w3.heap.size, 0, none⟩) 1 1) nilV w4 := ⟨O4, G4, LN.one ⟨own_base hrw.1 hg3, hrw.2⟩⟩
 generalize w3.heap.size = g3 at H T4
 refine H.ms 1 fun a H => nt ?_
 refine H.rg 1 fun a H => nt ?_
 replace H := H.kp [1, 3, 4, 6, 7, 8, 9]
 clear O4 G4 hrw hf hb3 hb4 hg3 O G
 obtain ⟨s1, hs1⟩ : ∃ s1, spAdd q 1 = s1 := ⟨_, rfl⟩
 have hTI0 : TellI all s1 [fr27 5 6 q 18 []] 0 := hs1 ▸ tell_first hq
 refine wp_seq_join (fun a w' => ∃ (fl : List (Value × List UInt8)) (AL : Option Addr) (cL : Nat), Has a 218 [(1, pz g), (3, .slice AA all.length cA), (4, .slice AP want.length cP), (6, iz sz), (7, iz q), (8, .slice AL fl.length cL)] ∧ TW w g (taleC A len cap size AW way.length cW sq) want (.slice AA all.length cA) (.slice AP want.length cP) cs fl [] (.slice AL fl.length cL) (nilV) w' ∧ TellI all s1 (fl.map (·.2)) all.length) ?_ ?_
 ·refine H.rg 1 fun a H => nt ?_
  replace H := H.kp [1, 3, 4, 6, 7, 8, 9, 10]
  refine wp_block ?_
  refine wp_loop_up all.length (fun k a w' => ∃ (t g0 j : Nat) (fl fn : List (Value × List UInt8)) (AL : Option Addr) (cL : Nat) (AN : Option Addr) (cN : Nat), Has a 218 [(1, pz g), (3, .slice AA all.length cA), (4, .slice AP want.length cP), (6, iz sz), (7, iz q), (8, .slice AL fl.length cL), (9, .slice AN fn.length cN), (10, iz t)] ∧ TW w g (taleC A len cap size AW way.length cW sq) want (.slice AA all.length cA) (.slice AP want.length cP) cs fl fn (.slice AL fl.length cL) (.slice AN fn.length cN) w' ∧ t = g0 + j * sz ∧ j < 3 ∧ (j = 0 ∨ t < all.length) ∧ TellI all s1 (fl.map (·.2)) (min g0 all.length) ∧ Near all s1 g0 sz j fn ∧ k ≤ t ∧ t ≤ all.length + 400) ⟨0, 0, 0, [(.slice Af nf cf, fr27 5 6 q 18 [])], [], some ⟨g3, 0, none⟩, 1, none, 0, H, T4, by omega, by decide, .inl rfl, by rw [Nat.zero_min]; exact hTI0, rfl, Nat.le_refl _, Nat.zero_le _⟩ ?_
  clear H T4 hTI0
  rintro k a w5 hk ⟨t, g0, j, fl, fn, AL, cL, AN, cN, H, T, ht, hj, hjt, hTI, hNr, hkt, htl⟩
  obtain ⟨b1, e1⟩ : ∃ b, decide ((t : Int) < ((all.length : Nat) : Int)) = b := ⟨_, rfl⟩
  refine H.rg 2 fun a H => ?_
  refine H.len gz rfl rfl rfl rfl Tryz.underlying31 fun a H => ?_
  refine H.bb 0 rfl rfl rfl rfl rfl rfl (lss_i _ _ b1 e1 _ _ _) rfl fun a H => nt (H.cond (t := b1) rfl ?_)
  cases b1 with
  | false =>
   have htN : all.length ≤ t := by have := of_decide_eq_false e1; omega
   have hj0 : j = 0 := by omega
   subst hj0
   refine wp_exit ?_
   repeat (with_reducible refine then_exit ?_)
   refine block_leave ?_
   exact ⟨fl, AL, cL, H.keep ⟨rfl, rfl, rfl, rfl, rfl, rfl, trivial⟩, T.nil, by rwa [Nat.min_eq_right (by omega)] at hTI⟩
  | true =>
  have htN : t < all.length := by have := of_decide_eq_true e1; omega
  clear e1
  have hg0 : g0 ≤ t := by rw [ht]; exact Nat.le_add_right _ _
  rw [Nat.min_eq_left (by omega)] at hTI
  refine skip_wp (then_normal ?_)
  replace H := H.kp [1, 3, 4, 6, 7, 8, 9, 10]
  refine wp_seq_join (fun a w' => ∃ (g0 j : Nat) (fl fn : List (Value × List UInt8)) (AL : Option Addr) (cL : Nat) (AN : Option Addr) (cN : Nat), Has a 218 [(1, pz g), (3, .slice AA all.length cA), (4, .slice AP want.length cP), (6, iz sz), (7, iz q), (8, .slice AL fl.length cL), (9, .slice AN fn.length cN), (10, iz t)] ∧ TW w g (taleC A len cap size AW way.length cW sq) want (.slice AA all.length cA) (.slice AP want.length cP) cs fl fn (.slice AL fl.length cL) (.slice AN fn.length cN) w' ∧ t + sz = g0 + j * sz ∧ j < 3 ∧ (j = 0 ∨ t + sz < all.length) ∧ TellI all s1 (fl.map (·.2)) (min g0 all.length) ∧ Near all s1 g0 sz j fn) ?_ ?_
  rotate_left
  ·clear H T hTI hNr ht hj hjt hg0
   rintro a w6 ⟨g0, j, fl, fn, AL, cL, AN, cN, H, T, ht, hj, hjt, hTI, hNr⟩
   refine H.rg 2 fun a H => ?_
   refine H.bb 1 rfl rfl rfl rfl rfl rfl (add_nn t sz (by omega) _ _ _) rfl fun a H => nt ?_
   exact ⟨by omega, t + sz, g0, j, fl, fn, AL, cL, AN, cN, H.keep ⟨rfl, rfl, rfl, rfl, rfl, rfl, rfl, rfl, trivial⟩, T, ht, hj, hjt, hTI, hNr, by omega, by omega⟩
  refine wp_block ?_
  obtain ⟨hi, hhi⟩ : ∃ hi, min (t + sz) all.length = hi := ⟨_, rfl⟩
  have hmin : min ((t + sz : Nat) : Int) ((all.length : Nat) : Int) = ((hi : Nat) : Int) := by omega
  have hfl : fn.length = j := hNr.len
  have hsl := fun w' => slice_lh AA all.length cA t hi (by omega) (by omega) hcA w'
  refine H.sg (fun w' => (TW w g (taleC A len cap size AW way.length cW sq) want (.slice AA all.length cA) (.slice AP want.length cP) cs fl fn (.slice AL fl.length cL) (.slice AN fn.length cN) w' ∧ w5.heap.size ≤ w'.heap.size)) ⟨T.next (Below.drew (Below.refl _ _)), (Below.drew (Below.refl w5.heap.size _)).size⟩ [1, 3, 4, 6, 7, 8, 9, 10] [ec 0 83 (.slice AN fn.length cN), ec 1 84 (iz q), ec 2 85 (iz t), ec 3 86 (iz ((1 + t : Nat) : Int)), ec 4 87 (iz ((spAdd q (1 + t) : Nat) : Int)), ec 5 88 (.slice AA all.length cA), ec 6 89 (iz t), ec 7 90 (iz t), ec 8 91 (iz sz), ec 9 92 (iz ((t + sz : Nat) : Int)), ec 10 93 (.slice AA all.length cA), ec 11 94 (iz all.length), ec 12 95 (iz hi), ec 13 96 (.slice (if cA = t then AA else AA.map (·.add t)) (hi - t) (cA - t)), ec 14 97 (.agg ([iz 0, iz 0, iz ((spAdd q (1 + t) : Nat) : Int), iz ((0 : Nat) : Int), iz ((16 : Nat) : Int), iz ((0 : Nat) : Int), .slice (if cA = t then AA else AA.map (·.add t)) (hi - t) (cA - t)] : List Value).toArray)] rfl ?_
  have KK : ∀ wy, (TW w g (taleC A len cap size AW way.length cW sq) want (.slice AA all.length cA) (.slice AP want.length cP) cs fl fn (.slice AL fl.length cL) (.slice AN fn.length cN) wy ∧ w5.heap.size ≤ wy.heap.size) → _ := fun wy h => frame27N 5 6 (spAdd q (1 + t)) 16 ((all.take hi).drop t) (hi - t) (by rw [List.length_drop, List.length_take]; omega) (if cA = t then AA else AA.map (·.add t)) (cA - t) (sg27_ok (port := 6) (sq := spAdd q (1 + t)) (fl := 16) (by decide) (Nat.le_of_lt_succ (spAdd_lt q (1 + t))) (by decide) (by rw [List.length_drop, List.length_take]; omega)) (by decide) wy (((hRA h.1.gat).take hi).cut (k := t) (cap := cA) (by rw [List.length_take]; omega) (by rw [List.length_take]; omega))
  refine St.call 15 ⟨jm, jm, jm, jb fun _ => add_nn 1 t (by omega) _ _ _, jq fun w' _ => pageAdd q (1 + t) w', jm, jm, jm, jm, jb fun _ => add_nn t sz (by omega) _ _ _, jm, jn Tryz.underlying31, jmn hmin, jsh hsl, ja (fun _ => by kernel_rfl), trivial⟩ KK ?_
  clear KK
  rintro wx v wz hh ⟨A', n', c', rfl, hfr, hb⟩
  rw [pc_eq hhi, hs1] at hfr
  refine nx (fun w' => (TW w g (taleC A len cap size AW way.length cW sq) want (.slice AA all.length cA) (.slice AP want.length cP) cs fl fn (.slice AL fl.length cL) (.slice AN fn.length cN) w' ∧ w5.heap.size ≤ w'.heap.size) ∧ FrIs w5.heap.size (pc27 all s1 t sz) (.slice A' n' c') w') [] [] ⟨⟨hh.1.next hb, Nat.le_trans hh.2 hb.size⟩, hfr.base hh.2⟩ ?_
  clear hh hfr hb
  refine St.val 16 ⟨jm, trivial⟩ ?_
  intro a wx H _ h
  refine ⟨.slice (some ⟨wx.heap.size, 0, none⟩) 1 1, wx.alloc (.cells #[.slice A' n' c'] 31), run_any H (by intro cs b h; cases h) (by kernel_rfl) (by kernel_rfl), ?_⟩
  have hbx : Below wx.heap.size wx (wx.alloc (.cells #[.slice A' n' c'] 31)) := balloc _ _
  have hl := Reads.lit wx 31 [.slice A' n' c'] (0, 0) 1 1 rfl
  generalize wx.heap.size = gl at hl ⊢
  have hh : (((TW w g (taleC A len cap size AW way.length cW sq) want (.slice AA all.length cA) (.slice AP want.length cP) cs fl fn (.slice AL fl.length cL) (.slice AN fn.length cN) (wx.alloc (.cells #[.slice A' n' c'] 31)) ∧ w5.heap.size ≤ (wx.alloc (.cells #[.slice A' n' c'] 31)).heap.size)) ∧ FrIs w5.heap.size (pc27 all s1 t sz) (.slice A' n' c') (wx.alloc (.cells #[.slice A' n' c'] 31))) := ⟨⟨h.1.1.next hbx, Nat.le_trans h.1.2 hbx.size⟩, h.2.next hbx⟩
  generalize wx.alloc (.cells #[.slice A' n' c'] 31) = wy at hl hbx hh ⊢
  refine nx (fun w' => ((TW w g (taleC A len cap size AW way.length cW sq) want (.slice AA all.length cA) (.slice AP want.length cP) cs fl fn (.slice AL fl.length cL) (.slice AN fn.length cN) w' ∧ w5.heap.size ≤ w'.heap.size) ∧ FrIs w5.heap.size (pc27 all s1 t sz) (.slice A' n' c') w') ∧ Reads w' w'.heap.size 1 (some ⟨gl, 0, none⟩) 1 [.slice A' n' c']) [] [] ⟨hh, hl⟩ ?_
  clear hh hl hbx h H
  refine St.appF (k := fn.length) (m := 1) 17 info_bs ⟨jm, trivial⟩ (fun _ h => ⟨h.1.1.1.ln.rn, h.2, h.1.1.1.base⟩) (fun u hu => by rw [List.mem_singleton.1 hu]; rfl) ⟨by unfold maxLen; omega, by omega⟩ ?_
  intro wx A2 c2 wz h hO hg hfr
  have T6 := h.1.1.1.growN [(.slice A' n' c', pc27 all s1 t sz)] (b2 := w5.heap.size) (by intro p hp; rw [List.mem_singleton.1 hp]; exact h.1.2) (fun k hk => ⟨own_ne T.ln.rl (.inr hk), own_ne T.ln.rn (.inr hk)⟩) hO hg hfr
  have hNr2 : Near all s1 g0 sz (j + 1) (fn ++ [(.slice A' n' c', pc27 all s1 t sz)]) := hNr.more (by rw [← ht])
  refine nx (fun w' => TW w g (taleC A len cap size AW way.length cW sq) want (.slice AA all.length cA) (.slice AP want.length cP) cs fl (fn ++ [(.slice A' n' c', pc27 all s1 t sz)]) (.slice AL fl.length cL) (.slice A2 (fn.length + 1) c2) w') [] [] T6 ?_
  clear T6 h hO hg hfr
  refine St.val 18 trivial fun a wu H _ hF => ⟨_, wu, run_move (.inr rfl) (H.ev rfl), nxl [(1, pz g), (3, .slice AA all.length cA), (4, .slice AP want.length cP), (6, iz sz), (7, iz q), (8, .slice AL fl.length cL), (10, iz t)] (fun _ h => ⟨h.1, h.2.1, h.2.2.1, h.2.2.2.1, h.2.2.2.2.1, h.2.2.2.2.2.1, h.2.2.2.2.2.2.2.1, trivial⟩) (fun w' => TW w g (taleC A len cap size AW way.length cW sq) want (.slice AA all.length cA) (.slice AP want.length cP) cs fl (fn ++ [(.slice A' n' c', pc27 all s1 t sz)]) (.slice AL fl.length cL) (.slice A2 (fn.length + 1) c2) w') [] [] hF (St.fin trivial ?_)⟩
  clear H hF
  intro a w6 H _ T6
  refine then_normal ?_
  replace H := H.kp [1, 3, 4, 6, 7, 8, 9, 10]
  have hlen2 : (fn ++ [(Value.slice A' n' c', pc27 all s1 t sz)]).length = fn.length + 1 := by rw [List.length_append]; rfl
  rw [← hlen2] at H T6
  clear hNr T hlen2
  rw [← hfl] at ht hj hjt hNr2
  obtain ⟨fn2, hfn2⟩ : ∃ f, fn ++ [(Value.slice A' n' c', pc27 all s1 t sz)] = f := ⟨_, rfl⟩
  rw [hfn2] at H T6 hNr2
  have hn2 : fn2.length = fn.length + 1 := by rw [← hfn2, List.length_append]; rfl
  clear hfn2
  obtain ⟨b1, e1⟩ : ∃ b, (((fn2.length : Nat) : Int) == 3) = b := ⟨_, rfl⟩
  obtain ⟨b2, e2⟩ : ∃ b, decide (((all.length : Nat) : Int) ≤ ((t + sz : Nat) : Int)) = b := ⟨_, rfl⟩
  refine H.tb (fun w' => TW w g (taleC A len cap size AW way.length cW sq) want (.slice AA all.length cA) (.slice AP want.length cP) cs fl fn2 (.slice AL fl.length cL) (.slice A2 fn2.length c2) w') (fun _ _ h hb => h.next hb) T6 [ec 0 101 (.slice A2 fn2.length c2), ec 1 102 (iz fn2.length), ec 2 103 (.bool b1), ec 3 104 (.bool b1), ec 4 105 (gv (!b1) (iz t)), ec 5 106 (gv (!b1) (iz sz)), ec 6 107 (gv (!b1) (iz ((t + sz : Nat) : Int))), ec 7 108 (gv (!b1) (.slice AA all.length cA)), ec 8 109 (gv (!b1) (iz all.length)), ec 9 110 (gv (!b1) (.bool b2)), ec 10 111 (.bool (b1 || b2))] rfl
   ⟨jm, jn Tryz.underlying37, jb fun _ => eql_iB _ _ b1 e1 _ _ _, jm, (by cases b1; exact jm; exact jo), (by cases b1; exact jm; exact jo), (by cases b1; exact jb fun _ => add_nn t sz (by omega) _ _ _; exact jo), (by cases b1; exact jm; exact jo), (by cases b1; exact jn Tryz.underlying31; exact jo), (by cases b1; exact jb fun _ => geq_i _ _ b2 e2 _ _ _; exact jo), (by cases b1 <;> exact jp), trivial⟩ ?_
  clear H T6
  intro a w7 H T
  refine then_normal (H.cond (t := b1 || b2) rfl ?_)
  replace H := H.kp [1, 3, 4, 6, 7, 8, 9, 10]
  cases hb : b1 || b2 with
  | false =>
   simp only [Bool.or_eq_false_iff] at hb
   rw [hb.1] at e1
   rw [hb.2] at e2
   have h3 : fn2.length ≠ 3 := by intro h; rw [h] at e1; cases e1
   have h4 : t + sz < all.length := by have := of_decide_eq_false e2; omega
   refine skip_wp (block_normal ?_)
   exact ⟨g0, fn.length + 1, fl, fn2, AL, cL, A2, c2, H, T, by rw [Nat.add_mul]; omega, by omega, .inr h4, by rw [Nat.min_eq_left (by omega)]; exact hTI, hNr2⟩
  | true =>
  have hlast : fn2.length = 3 ∨ all.length ≤ t + sz := by
   simp only [Bool.or_eq_true] at hb
   rcases hb with hb | hb
   ·left
    rw [hb] at e1
    have := beq_iff_eq.1 e1
    omega
   ·right
    rw [hb] at e2
    have := of_decide_eq_true e2
    omega
  clear hb e1 e2
  have hfll := hTI.le
  rw [List.length_map] at hfll
  refine wp_seq_join (fun a w' => ∃ (ks : List Nat) (fl2 : List (Value × List UInt8)) (AL : Option Addr) (cL : Nat), ks.length = fn2.length ∧ (∀ k ∈ ks, k < fn2.length) ∧ fl2.map (·.2) = fl.map (·.2) ++ ks.map (fun k => pc27 all s1 (g0 + k * sz) sz) ∧ fl2.length = fl.length + ks.length ∧ Has a 218 [(1, pz g), (3, .slice AA all.length cA), (4, .slice AP want.length cP), (6, iz sz), (7, iz q), (8, .slice AL fl2.length cL), (9, .slice A2 fn2.length c2), (10, iz t)] ∧ TW w g (taleC A len cap size AW way.length cW sq) want (.slice AA all.length cA) (.slice AP want.length cP) cs fl2 fn2 (.slice AL fl2.length cL) (.slice A2 fn2.length c2) w') ?_ ?_
  ·refine H.rg 1 fun a H => nt ?_
   replace H := H.kp [1, 3, 4, 6, 7, 8, 9, 10, 11]
   refine wp_block ?_
   refine wp_loop_up fn2.length (fun i a w' => ∃ (ks : List Nat) (fl2 : List (Value × List UInt8)) (AL : Option Addr) (cL : Nat), ks.length = i ∧ (∀ k ∈ ks, k < fn2.length) ∧ fl2.map (·.2) = fl.map (·.2) ++ ks.map (fun k => pc27 all s1 (g0 + k * sz) sz) ∧ fl2.length = fl.length + ks.length ∧ Has a 218 [(1, pz g), (3, .slice AA all.length cA), (4, .slice AP want.length cP), (6, iz sz), (7, iz q), (8, .slice AL fl2.length cL), (9, .slice A2 fn2.length c2), (10, iz t), (11, iz i)] ∧ TW w g (taleC A len cap size AW way.length cW sq) want (.slice AA all.length cA) (.slice AP want.length cP) cs fl2 fn2 (.slice AL fl2.length cL) (.slice A2 fn2.length c2) w') ⟨[], fl, AL, cL, rfl, (fun k h => by cases h), by simp, rfl, H, T⟩ ?_
   clear H T
   rintro i a w8 hi2 ⟨ks, fl2, AL, cL, hks, hkn, hfe, hfl2, H, T⟩
   obtain ⟨b1, e1⟩ : ∃ b, decide ((i : Int) < ((fn2.length : Nat) : Int)) = b := ⟨_, rfl⟩
   refine H.rg 2 fun a H => ?_
   refine H.len gz rfl rfl rfl rfl Tryz.underlying37 fun a H => ?_
   refine H.bb 0 rfl rfl rfl rfl rfl rfl (lss_i _ _ b1 e1 _ _ _) rfl fun a H => nt (H.cond (t := b1) rfl ?_)
   cases b1 with
   | false =>
    have hin : i = fn2.length := by have := of_decide_eq_false e1; omega
    refine wp_exit ?_
    repeat (with_reducible refine then_exit ?_)
    refine block_leave ?_
    exact ⟨ks, fl2, AL, cL, hks.trans hin, hkn, hfe, hfl2, H.keep ⟨rfl, rfl, rfl, rfl, rfl, rfl, rfl, rfl, trivial⟩, T⟩
   | true =>
   have hin : i < fn2.length := by have := of_decide_eq_true e1; omega
   clear e1
   refine skip_wp (then_normal ?_)
   replace H := H.kp [1, 3, 4, 6, 7, 8, 9, 10, 11]
   refine wp_seq_join (fun a w' => ∃ (ks : List Nat) (fl2 : List (Value × List UInt8)) (AL : Option Addr) (cL : Nat), ks.length = i + 1 ∧ (∀ k ∈ ks, k < fn2.length) ∧ fl2.map (·.2) = fl.map (·.2) ++ ks.map (fun k => pc27 all s1 (g0 + k * sz) sz) ∧ fl2.length = fl.length + ks.length ∧ Has a 218 [(1, pz g), (3, .slice AA all.length cA), (4, .slice AP want.length cP), (6, iz sz), (7, iz q), (8, .slice AL fl2.length cL), (9, .slice A2 fn2.length c2), (10, iz t), (11, iz i)] ∧ TW w g (taleC A len cap size AW way.length cW sq) want (.slice AA all.length cA) (.slice AP want.length cP) cs fl2 fn2 (.slice AL fl2.length cL) (.slice A2 fn2.length c2) w') ?_ ?_
   rotate_left
   ·clear H T
    rintro a w9 ⟨ks, fl2, AL, cL, hks, hkn, hfe, hfl2, H, T⟩
    refine H.rg 1 fun a H => ?_
    refine H.bb 1 rfl rfl rfl rfl rfl rfl (succ_i i (by omega) _ _ _) rfl fun a H => nt ?_
    exact ⟨hin, ks, fl2, AL, cL, hks, hkn, hfe, hfl2, H.keep ⟨rfl, rfl, rfl, rfl, rfl, rfl, rfl, rfl, rfl, trivial⟩, T⟩
   refine wp_block ?_
   refine H.rg 2 fun a H => nt ?_
   replace H := H.kp [1, 3, 4, 6, 7, 8, 9, 10, 11, 12]
   refine wp_seq_join (fun a w' => ∃ kk : Nat, kk < fn2.length ∧ Has a 218 [(1, pz g), (3, .slice AA all.length cA), (4, .slice AP want.length cP), (6, iz sz), (7, iz q), (8, .slice AL fl2.length cL), (9, .slice A2 fn2.length c2), (10, iz t), (11, iz i), (12, iz kk)] ∧ TW w g (taleC A len cap size AW way.length cW sq) want (.slice AA all.length cA) (.slice AP want.length cP) cs fl2 fn2 (.slice AL fl2.length cL) (.slice A2 fn2.length c2) w') ?_ ?_
   ·obtain ⟨b3, e3⟩ : ∃ b, decide ((i : Int) < ((way.length : Nat) : Int)) = b := ⟨_, rfl⟩
    refine H.rg 2 fun a H => ?_
    refine H.ld 0 (load1_26 _ _ _ _ _ _ ((T.own.get 0 rfl).get 2 _ rfl)) fun a H => ?_
    refine H.len gz rfl rfl rfl rfl Tryz.underlying45 fun a H => ?_
    refine H.bb 0 rfl rfl rfl rfl rfl rfl (lss_i _ _ b3 e3 _ _ _) rfl fun a H => nt (H.cond (t := b3) rfl ?_)
    cases b3 with
    | false => exact skip_wp ⟨i, hin, H.keep ⟨rfl, rfl, rfl, rfl, rfl, rfl, rfl, rfl, rfl, rfl, trivial⟩, T⟩
    | true =>
     have hkw : i < way.length := by have := of_decide_eq_true e3; omega
     obtain ⟨bs, os, x, hAS, hbs, hx, hcx⟩ := Reads.int (hway.next (hbel T.own)) rfl hkw
     have hwl := wth_lt x ((fn2.length : Nat) : Int) (by omega)
     have hix : ∀ w', (Instr.indexAt 45 (.slice AW way.length cW) (iz i)).run Tryz.prog w' = .ok (.pointer (some ⟨bs, os + i, none⟩)) w' := fun w' => by rw [hAS]; exact index_1 45 Tryz.underlying45 (fun _ => by kernel_rfl) _ _ _ _ _ hkw _
     refine H.rg 1 fun a H => ?_
     refine H.ld 1 (load1_26 _ _ _ _ _ _ ((T.own.get 0 rfl).get 2 _ rfl)) fun a H => ?_
     refine H.index gz rfl rfl rfl rfl rfl (hix _) fun a H => ?_
     refine H.ld 1 (load1_i _ _ _ _ hcx) fun a H => ?_
     refine H.len gz rfl rfl rfl rfl Tryz.underlying37 fun a H => ?_
     refine H.cq 1 (withinN x ((fn2.length : Nat) : Int) (by omega) (by omega) _) fun a H => wpList_nil ?_
     exact ⟨_, by omega, H.keep ⟨rfl, rfl, rfl, rfl, rfl, rfl, rfl, rfl, rfl, rfl, trivial⟩, T⟩
   clear H T
   rintro a w9 ⟨kk, hkk, H, T⟩
   obtain ⟨u, hu⟩ := hNr2.get (k := kk) (by omega)
   obtain ⟨A3, c3, hu3, hc3, _⟩ := T.ln.fr _ (List.mem_append_right _ (List.mem_of_getElem? hu))
   obtain ⟨q2, hA2, hcell⟩ := T.ln.cell hu
   have hu3 : u = .slice A3 (pc27 all s1 (g0 + kk * sz) sz).length c3 := hu3
   subst hu3
   have hix : (Instr.indexAt 37 (.slice A2 fn2.length c2) (iz kk)).run Tryz.prog w9 = .ok (.pointer (some ⟨q2, kk, none⟩)) w9 := by
    rw [hA2]
    have h := index_1 37 Tryz.underlying37 (fun _ => by kernel_rfl) q2 0 fn2.length c2 kk hkk w9
    rw [Nat.zero_add] at h
    exact h
   obtain ⟨n3, hn3⟩ : ∃ n3, (pc27 all s1 (g0 + kk * sz) sz).length = n3 := ⟨_, rfl⟩
   rw [hn3] at hu hcell
   refine H.rg 3 fun a H => ?_
   refine H.index gz rfl rfl rfl rfl rfl hix fun a H => ?_
   refine H.ld 0 (load1_31 _ _ _ _ _ _ hcell) fun a H => ?_
   refine H.any (w' := w9.alloc (.cells ([.slice A3 n3 c3] : List Value).toArray 31)) gz rfl rfl (.slice (some ⟨w9.heap.size, 0, none⟩) 1 1) (by intro cs b h; cases h) (by kernel_rfl) (by kernel_rfl) fun a H => ?_
   have hb10 : Below w9.heap.size w9 (w9.alloc (.cells ([.slice A3 n3 c3] : List Value).toArray 31)) := balloc _ _
   have hrd := Reads.lit w9 31 [.slice A3 n3 c3] (0, 0) 1 1 rfl
   have T10 := T.next hb10
   generalize w9.alloc (.cells ([.slice A3 n3 c3] : List Value).toArray 31) = w10 at *
   generalize w9.heap.size = g9 at H hrd
   refine H.appF T10.ln.rl info_bs hrd (by intro u hu; rw [List.mem_singleton.1 hu]; rfl) (by unfold maxLen; omega) (by omega) T10.base fun a A4 c4 w11 hO hg hfr H => ?_
   have T11 := T10.growL [(.slice A3 n3 c3, pc27 all s1 (g0 + kk * sz) sz)] (by intro p hp; rw [List.mem_singleton.1 hp]; exact List.mem_of_getElem? hu) hO hg hfr
   have hl4 : (fl2 ++ [(Value.slice A3 n3 c3, pc27 all s1 (g0 + kk * sz) sz)]).length = fl2.length + 1 := by rw [List.length_append]; rfl
   rw [← hl4] at H T11
   refine H.ms 1 fun a H => wpList_nil (block_normal ?_)
   exact ⟨ks ++ [kk], fl2 ++ [(.slice A3 n3 c3, pc27 all s1 (g0 + kk * sz) sz)], A4, c4, by rw [List.length_append, hks]; rfl, fun k hk => by
    rcases List.mem_append.1 hk with hk | hk
    ·exact hkn k hk
    ·rw [List.mem_singleton.1 hk]; exact hkk, by rw [List.map_append, hfe, List.map_append, List.append_assoc]; rfl, by rw [hl4, List.length_append, hfl2]; rfl, H.keep ⟨rfl, rfl, rfl, rfl, rfl, rfl, rfl, rfl, rfl, trivial⟩, T11⟩
  clear H T
  rintro a w8 ⟨ks, fl2, AL, cL, hks, hkn, hfe, hfl2, H, T⟩
  refine H.rg 2 fun a H => ?_
  refine H.appF T.ln.rl info_bs (Reads.of_own T.ln.rn) (fun u hu => by
   obtain ⟨p, hp, rfl⟩ := List.mem_map.1 hu
   obtain ⟨A3, c3, e, _⟩ := T.ln.fr p (List.mem_append_right _ hp)
   rw [e]
   rfl) (by unfold maxLen; omega) (by omega) T.base fun a A4 c4 w11 hO hg hfr H => ?_
  have T11 := (T.growL fn2 (fun p hp => hp) hO hg hfr).nil
  have hl4 : (fl2 ++ fn2).length = fl2.length + fn2.length := List.length_append
  rw [← hl4] at H T11
  refine H.ms 1 fun a H => nt ?_
  refine H.rg 1 fun a H => wpList_nil (block_normal ?_)
  have hn3 : fn2.length ≤ 3 := by omega
  have hmul : (fn2.length - 1) * sz = fn.length * sz := by rw [hn2, Nat.add_sub_cancel]
  have hmul2 : fn2.length * sz = fn.length * sz + sz := by rw [hn2, Nat.add_mul, Nat.one_mul]
  have hgr := tell_group hTI hn3 (by omega) hsz3 hsz0 (by omega) (by omega) (hlast.imp id fun h => by omega) hkn hks
  have hNf : fn2.map (·.2) = (List.range fn2.length).map (fun k => pc27 all s1 (g0 + k * sz) sz) := by rw [hn2]; exact hNr2
  exact ⟨t + sz, 0, fl2 ++ fn2, [], A4, c4, none, 0, H.keep ⟨rfl, rfl, rfl, rfl, rfl, rfl, rfl, rfl, trivial⟩, T11, by omega, by decide, .inl rfl, by rw [List.map_append, hfe, hNf, show t + sz = g0 + fn2.length * sz by omega]; exact hgr, rfl⟩
 clear H T4 hTI0
 rintro a w5 ⟨fl, AL, cL, H, T, hTI⟩
 have hlb : ∀ b ∈ fl.map (·.2), b.length ≤ 140737488351232 := fun b hb => by have := hTI.lens b hb; omega
 have hfll := hTI.le
 have hflm : (fl.map (·.2)).length = fl.length := List.length_map _
 refine H.rg 1 fun a H => ?_
 refine H.cl (traceStreamN (fl.map (·.2)) fl.length hflm AL cL 5 6 (by decide) (by decide) w5 T.ln.row.at_ (by omega) hlb) ?_
 rintro a _ w6 ⟨x, A1, c1, rfl, hh, _, hO1, hb6⟩ H
 obtain ⟨rfl, hxb⟩ := tell_all hTI hh
 have hov : ((stT all s1 all.length).rst || decide ((stT all s1 all.length).nq ∈ (stT all s1 all.length).fins)) = false := rfl
 rw [hov, hxb] at H
 rw [hxb] at hO1
 clear hov hxb hh
 refine H.ms 1 fun a H => ?_
 refine H.ex (r := .slice A1 all.length c1) 0 fun a H => ?_
 refine H.ex (r := .bool false) 0 fun a H => ?_
 refine H.ex (r := iz 0) 3 fun a H => nt ?_
 have hr1 : RowIs w.heap.size all (.slice A1 all.length c1) w6 := RowIs.of rfl (own_base hO1 (hbel T.own).size)
 replace T := T.next hb6
 clear hO1 hb6
 replace H := H.kp [3, 4, 7, 8, 13, 14, 15]
 refine H.rg 1 fun a H => ?_
 refine H.cl (tracePackets (fl.map (·.2)) AL cL 5 6 (by decide) (by decide) w6 T.ln.row.at_ (by omega) hlb (hTn T.own) (fun x hx => by rw [(tell_all hTI hx).2]; omega) fl.length hflm) ?_
 rintro a _ w7 ⟨x, k, left, er, A2, c2, cs2, rfl, hh, hF, hO2, ⟨hiW, _, hWr⟩, hb7⟩ H
 rw [(tell_all hTI hh).2] at hF
 obtain ⟨rfl, rfl⟩ := hfed hF
 refine H.ms 1 fun a H => ?_
 refine H.ex (r := .slice A2 k.length c2) 0 fun a H => ?_
 refine H.ex (r := iz 0) 2 fun a H => nt ?_
 replace T := T.next hb7
 replace hr1 := hr1.next hb7
 have hk12 := T.gat.le
 clear hb7 hh hF
 replace H := H.kp [3, 4, 7, 8, 13, 14, 15, 16, 17]
 refine H.rg 1 fun a H => ?_
 refine H.cl (traceStreamN (fl.map (·.2)) fl.length hflm AL cL 5 7 (by decide) (by decide) w7 T.ln.row.at_ (by omega) hlb) ?_
 rintro a _ w8 ⟨x, A3, c3, rfl, hh, _, _, hb8⟩ H
 have := tell_other hTI hh
 subst this
 refine H.ms 1 fun a H => ?_
 refine H.ex (r := .slice A3 0 c3) 0 fun a H => ?_
 refine H.ex (r := .bool false) 0 fun a H => ?_
 refine H.ex (r := iz 0) 3 fun a H => nt ?_
 replace T := T.next hb8
 replace hr1 := hr1.next hb8
 replace hO2 := own_below hO2 hb8
 replace hWr := hWr.next hb8
 clear hb8 hh
 replace H := H.kp [3, 4, 7, 8, 13, 14, 15, 16, 17, 18, 20]
 refine H.rg 3 fun a H => ?_
 refine H.len gz rfl rfl rfl rfl Tryz.underlying31 fun a H => ?_
 refine H.bn 0 (add_nn 1 all.length (by omega) _ _ _) fun a H => ?_
 refine H.cq 0 (pageAdd q (1 + all.length) w8) fun a H => ?_
 refine H.any (w' := w8) gz rfl rfl (.agg ([iz 0, iz 0, iz ((spAdd q (1 + all.length) : Nat) : Int), iz ((0 : Nat) : Int), iz ((17 : Nat) : Int), iz ((0 : Nat) : Int), .slice none ([] : List UInt8).length 0] : List Value).toArray) (by intro cs b h; cases h) (by kernel_rfl) (by kernel_rfl) fun a H => ?_
 refine H.cl (frame27F 5 6 (spAdd q (1 + all.length)) 17 [] none 0 (sg27_ok (port := 6) (sq := spAdd q (1 + all.length)) (fl := 17) (xs := []) (by decide) (Nat.le_of_lt_succ (spAdd_lt q _)) (by decide) (by decide)) (by decide) w8 (Reads.none_)) ?_
 rintro a _ w9 ⟨Af2, nf2, cf2, rfl, hf, hb9⟩ H
 rw [← spAdd_add, hs1] at hf
 have hn8 : ∀ k, w8.heap.size ≤ k → some k ≠ (Value.slice AL fl.length cL).ownBlock ∧ some k ≠ nilV.ownBlock := fun k hk => ⟨own_ne T.ln.rl (.inr hk), fun e => by cases e⟩
 replace T := T.next hb9
 replace hr1 := hr1.next hb9
 replace hO2 := own_below hO2 hb9
 replace hWr := hWr.next hb9
 refine H.any (w' := w9.alloc (.cells ([.slice Af2 nf2 cf2] : List Value).toArray 31)) gz rfl rfl (.slice (some ⟨w9.heap.size, 0, none⟩) 1 1) (by intro cs b h; cases h) (by kernel_rfl) (by kernel_rfl) fun a H => ?_
 have hb10 : Below w9.heap.size w9 (w9.alloc (.cells ([.slice Af2 nf2 cf2] : List Value).toArray 31)) := balloc _ _
 have hrd := Reads.lit w9 31 [.slice Af2 nf2 cf2] (0, 0) 1 1 rfl
 replace T := T.next hb10
 replace hr1 := hr1.next hb10
 replace hO2 := own_below hO2 hb10
 replace hWr := hWr.next hb10
 replace hf := hf.next hb10
 generalize w9.alloc (.cells ([.slice Af2 nf2 cf2] : List Value).toArray 31) = w10 at *
 generalize w9.heap.size = g9 at H hrd
 refine H.appF T.ln.rl info_bs hrd (by intro u hu; rw [List.mem_singleton.1 hu]; rfl) (by unfold maxLen; omega) (by omega) T.base fun a A4 c4 w11 hO hg hfr H => ?_
 have hrow := FrRow.app T.ln.row (fr_cons hf fr_nil) (fun k hk => (hn8 k hk).1) hO hg hfr
 have hT11 : Own w g [(g, taleC A len cap size AW way.length cW sq)] w11 := T.own.row T.ln.rl (Nat.le_succ _) hg (fun p hp => by rw [List.mem_singleton.1 hp]; exact own_ne T.ln.rl (.inl (Nat.lt_succ_self _)))
 have hG11 := T.gat.past T.ln.rl hg
 replace hr1 := hr1.past T.ln.rl hg
 replace hO2 := hO2.kept hg (own_apart hO2 T.ln.rl rfl)
 have m2 := (hWr.row T.ln.rl hg rfl).at_ hO2
 have hfrs : FrsS w11 (fun _ => True) A4 (fl.map (·.2) ++ [fr27 5 6 (spAdd s1 all.length) 17 []]) := by
  have h := hrow.at_
  rw [List.map_append] at h
  exact h
 refine H.ms 1 fun a H => nt ?_
 clear hrow hO2 hWr hg hfr hO hb9 hb10 hf hrd hn8 T
 replace H := H.kp [3, 4, 8, 13, 14, 15, 16, 17, 18, 20]
 refine H.rg 1 fun a H => ?_
 refine H.cl (traceStreamN (fl.map (·.2) ++ [fr27 5 6 (spAdd s1 all.length) 17 []]) (fl.length + 1) (by rw [List.length_append, hflm]; rfl) A4 c4 5 6 (by decide) (by decide) w11 hfrs (by omega) (fun b hb => by
  rcases List.mem_append.1 hb with hb | hb
  ·exact hlb b hb
  ·rw [List.mem_singleton.1 hb, fr27_len]; decide)) ?_
 rintro a _ w12 ⟨x, A5, c5, rfl, hh, _, _, hb12⟩ H
 have hov := tell_fin hTI hh
 have hov : (x.rst || decide (x.nq ∈ x.fins)) = true := by rw [decide_eq_true hov, Bool.or_true]
 rw [hov] at H
 refine H.ms 1 fun a H => ?_
 refine H.ex (r := .slice A5 x.b.length c5) 0 fun a H => ?_
 refine H.ex (r := .bool true) 0 fun a H => ?_
 refine H.ex (r := iz 0) 3 fun a H => nt ?_
 replace H := H.kp [3, 4, 13, 14, 15, 16, 17, 18, 20, 22, 23]
 refine H.tb (fun w' => Own w g [(g, taleC A len cap size AW way.length cW sq)] w' ∧ Gath w g 12 k (.slice AA all.length cA) (.slice AP k.length cP) cs w' ∧ RowIs w.heap.size all (.slice A1 all.length c1) w' ∧ MqsAt w' A2 k) (fun _ _ h hb => ⟨h.1.call hb, h.2.1.next hb, h.2.2.1.next hb, h.2.2.2.next hb⟩) ⟨hT11.call hb12, hG11.next hb12, hr1.next hb12, m2.next hb12⟩ [ec 0 175 (iz 0), ec 1 176 (iz 0), ec 2 177 (.bool true), ec 3 178 (.bool true), ec 4 179 (iz 0), ec 5 180 (iz 0), ec 6 181 (.bool true), ec 7 182 (.bool true), ec 8 183 (.bool true), ec 9 184 (iz 0), ec 10 185 (iz 0), ec 11 186 (.bool true), ec 12 187 (.bool true), ec 13 188 (.bool true), ec 14 189 (iz 0), ec 15 190 (iz 0), ec 16 191 (.bool true), ec 17 192 (.bool true), ec 18 193 (.bool true), ec 19 194 (.slice A1 all.length c1), ec 20 195 (.slice AA all.length cA), eh 21 196 (.bool true), ec 22 197 (.bool true), ec 23 198 (.bool true), ec 24 199 (.slice A2 k.length c2), ec 25 200 (.slice AP k.length cP), eh 26 201 (.bool true), ec 27 202 (.bool true), ec 28 203 (.bool true), ec 29 204 (.bool false), ec 30 205 (.bool true), ec 31 206 (.bool true), ec 32 207 (.bool true), ec 33 208 (.bool true), ec 34 209 (.bool true), ec 35 210 (.bool true), ec 36 211 (.slice A3 0 c3), ec 37 212 (iz 0), ec 38 213 (.bool true), ec 39 214 (.bool true), ec 40 215 (.bool true), eh 41 216 (.bool true), ec 42 217 (.bool true), ec 43 2 (.bool true)] rfl
  ⟨jm, jq fun w' _ => num27 0 w', jb fun _ => eql_iB 0 0 true rfl _ _ _, jm, jm, jq fun w' _ => num27 0 w', jb fun _ => eql_iB 0 0 true rfl _ _ _, jp, jm, jm, jq fun w' _ => num27 0 w', jb fun _ => eql_iB 0 0 true rfl _ _ _, jp, jm, jm, jq fun w' _ => num27 0 w', jb fun _ => eql_iB 0 0 true rfl _ _ _, jp, jm, jm, jm, kb fun w' h => eqBytesN all all.length rfl A1 AA c1 cA w' h.2.2.1.rb (hRA h.2.1) (by omega), jp, jm, jm, jm, kb fun w' h => eqMqsS k A2 AP k.length c2 cP rfl (by omega) w' h.2.2.2 (mqs_row h.2.1.row h.2.1.at_ (hbel h.1)), jp, jm, jm, ju (hq := run_not false), jp, jm, jm, jp, jm, jm, jn Tryz.underlying31, jb fun _ => eql_iB 0 0 true rfl _ _ _, jp, jm, kb fun w' _ => wakes27 w', jp, jm, trivial⟩ ?_
 intro a wz H h
 refine then_normal (wp_ret ?_)
 repeat (first | (with_reducible refine block_ret ?_) | (with_reducible refine then_ret ?_))
 exact bodyPost_ret (results_tmp rfl _ _ _) H.df ⟨congrArg Ending.returned (H.at_ 2 _ rfl), hbel h.1⟩
end
section
open Go.ChangeShapes Go.WideShapes Go.ChangeAt Go.RowKit Go.Deep
section
variable {H : Type} {enc : TypeId × Value → H} {W : World}
theorem read_rowsI {T e : TypeId} {m fuel : Nat} {cs0 : List Value} {x0 : DataW H × List MemPlace} (ht : Tryz.prog.underlying T = some (.slice e)) (hm : Tryz.prog.cellsOf e = m) (hm0 : 0 < m) (hfit : Fit T x0.1) (hf : DataW.trod enc Tryz.prog W 0 (fun _ => true) true fuel T cs0 = some x0) :
  ∃ (A : Option Addr) (len cap fuel : Nat), cs0 = [.slice A len cap] ∧ len ≤ cap ∧ cap ≤ maxLen ∧ ∀ i, i < len → ∃ (b o : Nat) (cs : List Value) (x : DataW H × List MemPlace), A = some ⟨b, o, none⟩ ∧ b < W.heap.size ∧ cs.length = m ∧ (∀ j, j < m → W.cell? ⟨b, o + i * m + j, none⟩ = cs[j]?) ∧
   DataW.trod enc Tryz.prog W 0 (fun _ => true) true fuel e cs = some x ∧ Fit e x.1 := by
 rcases open_slice ht hf with ⟨hcs, _⟩ | ⟨a, len, cap, m', n, D, Pl, hcs, _, hl, hc, hmm, hxe, hi⟩
 ·exact ⟨none, 0, 0, 0, hcs, by omega, by simp, fun i hi => absurd hi (by omega)⟩
 ·simp only [if_true] at hmm
  refine ⟨some a, len, cap, n, hcs, hl, hc, fun i hlt => ?_⟩
  obtain ⟨cs', hcell, htr⟩ := hi i (by omega)
  obtain ⟨_, hlen, hat⟩ := World.cells?_some hcell
  rw [hm] at hlen
  have h0 := hat 0 (by omega)
  rw [List.getElem?_eq_getElem (by omega)] at h0
  obtain ⟨b, o, spot⟩ := a
  have hspot : spot = none := by
   obtain ⟨cs0, hcell0, _⟩ := hi 0 (by omega)
   obtain ⟨_, hlen0, hat0⟩ := World.cells?_some hcell0
   rw [hm] at hlen0
   have h00 := hat0 0 (by omega)
   rw [List.getElem?_eq_getElem (by omega)] at h00
   have := World.cell?_spot h00
   simpa [Addr.add] using this
  subst hspot
  have hb := World.block_lt_of_cell? W _ h0
  rw [block_of_add, block_of_add] at hb
  refine ⟨b, o, cs', _, rfl, hb, hlen, fun j hj => ?_, htr, ?_⟩
  rotate_left
  ·rw [hxe] at hfit
   exact (hfit.slice ht).2 _ (List.mem_map.2 ⟨i, List.mem_range.2 hlt, rfl⟩)
  have := hat j (by omega)
  rw [add_add, hm] at this
  rw [← this]
  refine congrArg W.cell? ?_
  unfold Addr.add
  by_cases h1 : i * m + j = 0
  ·rw [if_pos h1, Nat.add_assoc, h1]; simp
  ·rw [if_neg h1, Nat.add_assoc]
end
end
section
open Go.ChangeShapes Go.WideShapes Go.ChangeAt Go.RowKit Go.Deep
abbrev lay2 : List (String × DataW Unit) := [("unicode/utf8.acceptRanges", Rows.laid_unicode_utf8_acceptRanges), ("unicode/utf8.first", Rows.laid_unicode_utf8_first)]
theorem lay_first : (Rows.laid_unicode_utf8_first : DataW Unit) = Lib.firstData := by rfl
theorem lay_accept : (Rows.laid_unicode_utf8_acceptRanges : DataW Unit) = Lib.acceptData := by rfl
theorem plain_lay : (lay2.all fun x => x.2.handleName?.isNone) = true := by kernel_rfl
noncomputable def laidWorld (os : Os) : World :=
 let w0 := World.holding Tryz.prog os ⟨#[], #[], []⟩
 let put (h : Array Obj) (g : Nat) (cs : Array Value) : Array Obj := h.modify g fun
  | .cells _ t frozen => .cells cs t frozen
  | o => o
 let h1 := put w0.heap 0 (Lib.firstTab.map fun z => Value.int .u8 z).toArray
 let h2 := put h1 1 ((List.range 16).flatMap fun i => [Value.int .u8 (Lib.accLo i), Value.int .u8 (Lib.accHi i)]).toArray
 { w0 with heap := h2 }
theorem laid_door (os : Os) (args : Array Value) : laidMetH Tryz.prog lay2 ((laidWorld os).forCall (fun _ _ => 0) ⟨#[], args, []⟩).memory := by
 rw [MakeChecks.laidMetH_plain _ _ _ plain_lay]
 exact (LaidIn.of_run (l := lay2) [0, 1] 8 (by kernel_rfl) (by kernel_rfl) (by kernel_rfl) (by kernel_rfl)).met
end
section
open Go.ChangeShapes Go.WideShapes Go.ChangeAt Go.RowKit Go.Deep
theorem tabs_of {W : World} (h : laidMetH Tryz.prog lay2 W) : Wd W := by
 rw [MakeChecks.laidMetH_plain _ _ _ plain_lay] at h
 have h1 := Lib.laidMet.reads h (n := "unicode/utf8.acceptRanges") (d := Rows.laid_unicode_utf8_acceptRanges) (.head _)
 have h2 := Lib.laidMet.reads h (n := "unicode/utf8.first") (d := Rows.laid_unicode_utf8_first) (.tail _ (.head _))
 rw [lay_accept] at h1
 rw [lay_first] at h2
 exact utf8Tabs_of_readsT (U8Types.of196 Sh.lays196) ⟨by kernel_rfl, by kernel_rfl, by kernel_rfl, by kernel_rfl, by kernel_rfl, by kernel_rfl, by kernel_rfl⟩ h2 h1
end
end Go.Proofs.YtlacidnnankjlaaGreatDoor
