/-
  Texts of the claim: RBody RBytes LawK RParse LawP LawQ LawB TalkA EqMqs TalkB TalkW Flow RowT RowL Ask28L.
-/
import Derived.Lib.LaidIn
import Derived.Lib.LaidU8T
import Derived.Test.YtlacidnnankjlaaGreatDoorCt5
namespace Go.Proofs.YtlacidnnankjlaaGreatDoor
set_option maxRecDepth 100000
set_option maxHeartbeats 25600000
section
open Go.RowKit
abbrev willL (m : Mq) : List Value := [.bool m.won, .string m.wt, .string m.wp, iz m.wq, .bool m.wr]
theorem zero_will (w : World) : (zeroValue 44).run Tryz.prog w = .ok (.agg ([.bool false, .string nos, .string nos, iz 0, .bool false] : List Value).toArray) w := by kernel_rfl
theorem size_will : (Tryz.prog.info? 44).map (·.size) = some 5 := by kernel_rfl
theorem fieldO_0 (o g : Nat) (w : World) : (Instr.fieldAt 161 (.pointer (some ⟨g, o, none⟩)) 0).run Tryz.prog w = .ok (.pointer (some ⟨g, o, none⟩)) w := by
 simp [go_sem]
theorem fieldO_1 (o g : Nat) (w : World) : (Instr.fieldAt 161 (.pointer (some ⟨g, o, none⟩)) 1).run Tryz.prog w = .ok (.pointer (some ⟨g, o + 1, none⟩)) w := by
 simp [go_sem]
theorem refBitN (b : Bool) (nI : Int) (n : Nat) (h : nI = (n : Int)) (w : World) : Calls Tryz.prog 76 #[.bool b, .int .u8 nI] w fun e w' => e = .returned (.int .u8 ((cb b n : Nat) : Int)) ∧ w = w' := by
 refine (refBit b nI w).mono ?_
 rintro e w' ⟨rfl, rfl⟩
 refine ⟨?_, rfl⟩
 subst h
 cases b <;> rfl
theorem ofInt_u8 (a : Nat) (ha : a < 256) : (BitVec.ofInt 8 (a : Int)).toNat = a := by
 rw [BitVec.toNat_ofInt]; omega
theorem or_u (a b : Nat) (ha : a < 256) (hb : b < 256) (x y : Operand) (w : World) : (do eqGuard .or 5 x y (.int .u8 (a : Int)) (.int .u8 (b : Int)); binOp .or 5 (.int .u8 (a : Int)) (.int .u8 (b : Int)) : Sem Value).run Tryz.prog w = .ok (.int .u8 ((a ||| b : Nat) : Int)) w := by
 have hx : a ||| b < 256 := or_lt8 ha hb
 have e : bits .or .u8 (a : Int) (b : Int) = ((a ||| b : Nat) : Int) := by
  show IntKind.u8.wrap ((BitVec.ofInt 8 (a : Int) ||| BitVec.ofInt 8 (b : Int)).toNat : Int) = _
  rw [BitVec.toNat_or, ofInt_u8 a ha, ofInt_u8 b hb]
  show ((a ||| b : Nat) : Int) % 256 = _
  omega
 simp [go_sem, e]
theorem shl3_u8 (k : Int) (h0 : 0 ≤ k) (h2 : k ≤ 2) (x y : Operand) (w : World) : (do eqGuard .shl 5 x y (.int .u8 (k % 256)) (.int .u64 3); binOp .shl 5 (.int .u8 (k % 256)) (.int .u64 3) : Sem Value).run Tryz.prog w = .ok (.int .u8 ((k.toNat * 8 : Nat) : Int)) w := by
 have : k = 0 ∨ k = 1 ∨ k = 2 := by omega
 rcases this with rfl | rfl | rfl <;> simp [go_sem] <;> rfl
theorem Base.low {W w w1 : World} {b b' : Nat} {bs : List (Nat × List Value)} (h : Base W b bs w) (hb : b' ≤ b) (O : Own W W.heap.size bs w1) (hs : w1.heap.size = b' := by rfl) : Base W b' bs w :=
 ⟨h.own, Nat.le_trans hb h.bw, hs ▸ O.le, fun p hp => hs ▸ (O.mem p hp).2.1⟩
theorem Base.low2 {W w w1 : World} {b b' : Nat} {x : Nat × List Value} {bs : List (Nat × List Value)} (h : Base W b (x :: bs) w) (hb : b' ≤ b) (O : Own W W.heap.size bs w1) (hs : w1.heap.size = b' := by rfl) : Base W b' bs w := by
 refine ⟨⟨h.own.bel, h.own.le, ?_, fun p hp => h.own.mem p (List.mem_cons_of_mem _ hp)⟩, Nat.le_trans hb h.bw, hs ▸ O.le, fun p hp => hs ▸ (O.mem p hp).2.1⟩
 have := h.own.nd
 rw [List.map_cons, List.nodup_cons] at this
 exact this.2
theorem may_conn {m : Mq} (h : okOf m = true) (k1 : m.kind = 1) : m.client.size ≤ 65535 ∧ m.wt.size ≤ 65535 ∧ m.wp.size ≤ 65535 ∧ m.user.size ≤ 65535 ∧ m.pass.size ≤ 65535 ∧ 0 ≤ m.keep ∧ m.keep ≤ 65535 ∧ 0 ≤ m.wq ∧ m.wq ≤ 2 := by
 have hc : connectOk m = true := by unfold okOf at h; rw [if_pos k1] at h; exact h
 simp only [connectOk, Bool.and_eq_true, decide_eq_true_eq] at hc
 obtain ⟨hc, hkp, hw, hu, hps, h1, h2⟩ := hc
 have hc' := textOk_size hc
 have hu' := textOk_size hu
 have hkp := inRB_iff.1 hkp
 have hwq : m.wt.size ≤ 64 ∧ m.wp.size ≤ 128 ∧ 0 ≤ m.wq ∧ m.wq ≤ 2 := by
  unfold willOk at hw
  cases hwon : m.won with
  | true =>
   rw [hwon, if_pos rfl] at hw
   simp only [Bool.and_eq_true, decide_eq_true_eq] at hw
   obtain ⟨a, b, c⟩ := hw
   have := textOk_size a
   have := inRB_iff.1 c
   exact ⟨by omega, by omega, by omega, by omega⟩
  | false =>
   rw [hwon, if_neg (by simp)] at hw
   simp only [Bool.and_eq_true, beq_iff_eq, Bool.not_eq_true'] at hw
   obtain ⟨a, b, c, d⟩ := hw
   rw [emp_nos a, emp_nos b, c]
   exact ⟨by decide, by decide, by decide, by decide⟩
 exact ⟨by omega, by omega, by omega, by omega, by omega, by omega, by omega, by omega, by omega⟩
theorem may_ack {m : Mq} (h : okOf m = true) (k1 : ¬ m.kind = 1) (k2 : m.kind = 2) : 0 ≤ m.code := by
 have hc : (inRB m.code 0 5 && (!m.present || m.code == 0)) = true := by unfold okOf at h; rw [if_neg k1, if_pos k2] at h; exact h
 simp only [Bool.and_eq_true] at hc
 exact (inRB_iff.1 hc.1).1
theorem may_pub {m : Mq} (h : okOf m = true) (k1 : ¬ m.kind = 1) (k2 : ¬ m.kind = 2) (k3 : m.kind = 3) : m.topic.size ≤ 65535 ∧ m.payload.size ≤ 65535 ∧ 0 ≤ m.id ∧ m.id ≤ 65535 := by
 have hc : publishOk m = true := by unfold okOf at h; rw [if_neg k1, if_neg k2, if_pos k3] at h; exact h
 obtain ⟨ht, hq0, hq2, hi, hz, hp⟩ := publish_facts hc
 have : 0 ≤ m.id ∧ m.id ≤ 65535 := by
  by_cases hq : 0 < m.qos
  ·have := hi hq; omega
  ·have := hz (by omega); omega
 exact ⟨by omega, by omega, this.1, this.2⟩
theorem may_id {m : Mq} (h : okOf m = true) (k1 : ¬ m.kind = 1) (k2 : ¬ m.kind = 2) (k3 : ¬ m.kind = 3) (kb : bareKind m.kind = false) : 0 ≤ m.id ∧ m.id ≤ 65535 := by
 unfold okOf at h
 rw [if_neg k1, if_neg k2, if_neg k3, kb] at h
 have ids : ∀ {n : Int}, inRB n 1 65535 = true → 0 ≤ n ∧ n ≤ 65535 := fun h => by have := inRB_iff.1 h; omega
 split at h
 ·exact ids h
 ·split at h
  ·exact ids (Bool.and_eq_true _ _ ▸ h).1
  ·split at h
   ·exact ids (Bool.and_eq_true _ _ ▸ h).1
   ·split at h
    ·exact ids (Bool.and_eq_true _ _ ▸ h).1
    ·cases h
def preBy (m : Mq) : List UInt8 :=
 if m.kind = 1 then connectBy m
 else if m.kind = 2 then [UInt8.ofNat (cb m.present 1), UInt8.ofNat m.code.toNat]
 else if m.kind = 3 then publishBy m
 else if bareKind m.kind then [] else big 2 m.id.toNat
theorem pre_1 {m : Mq} (k1 : m.kind = 1) : preBy m = connectBy m := by unfold preBy; rw [if_pos k1]
theorem pre_2 {m : Mq} (k2 : m.kind = 2) : preBy m = [UInt8.ofNat (cb m.present 1), UInt8.ofNat m.code.toNat] := by unfold preBy; rw [if_neg (by omega), if_pos k2]
theorem pre_3 {m : Mq} (k3 : m.kind = 3) : preBy m = publishBy m := by unfold preBy; rw [if_neg (by omega), if_neg (by omega), if_pos k3]
theorem pre_b {m : Mq} (k1 : ¬ m.kind = 1) (k2 : ¬ m.kind = 2) (k3 : ¬ m.kind = 3) (kb : bareKind m.kind = true) : preBy m = [] := by unfold preBy; rw [if_neg k1, if_neg k2, if_neg k3, if_pos kb]
theorem pre_i {m : Mq} (k1 : ¬ m.kind = 1) (k2 : ¬ m.kind = 2) (k3 : ¬ m.kind = 3) (kb : bareKind m.kind = false) : preBy m = big 2 m.id.toNat := by unfold preBy; rw [if_neg k1, if_neg k2, if_neg k3, if_neg (by simp [kb])]
theorem may_lists {m : Mq} (hm : mayB m) : wishesAll m.wishes = true ∧ m.wishes.length ≤ 8 ∧ codesAll m.codes = true ∧ m.codes.length ≤ 8 ∧ filtersAll m.filters = true ∧ m.filters.length ≤ 8 := by
 obtain ⟨h, ho⟩ := hm
 unfold okOf at h
 unfold onlyOf at ho
 have hw := congrArg Mq.wishes ho
 have hc := congrArg Mq.codes ho
 have hf := congrArg Mq.filters ho
 by_cases k1 : m.kind = 1
 ·simp only [if_pos k1] at hw hc hf
  rw [hw, hc, hf]; exact ⟨rfl, Nat.zero_le 8, rfl, Nat.zero_le 8, rfl, Nat.zero_le 8⟩
 by_cases k2 : m.kind = 2
 ·simp only [if_neg k1, if_pos k2] at hw hc hf
  rw [hw, hc, hf]; exact ⟨rfl, Nat.zero_le 8, rfl, Nat.zero_le 8, rfl, Nat.zero_le 8⟩
 by_cases k3 : m.kind = 3
 ·simp only [if_neg k1, if_neg k2, if_pos k3] at hw hc hf
  rw [hw, hc, hf]; exact ⟨rfl, Nat.zero_le 8, rfl, Nat.zero_le 8, rfl, Nat.zero_le 8⟩
 by_cases ki : idKind m.kind = true
 ·simp only [if_neg k1, if_neg k2, if_neg k3, if_pos ki] at hw hc hf
  rw [hw, hc, hf]; exact ⟨rfl, Nat.zero_le 8, rfl, Nat.zero_le 8, rfl, Nat.zero_le 8⟩
 by_cases k8 : m.kind = 8
 ·simp only [if_neg k1, if_neg k2, if_neg k3, if_neg ki, if_pos k8, Bool.and_eq_true, wishesOk] at h hw hc hf
  have := inRB_iff.1 h.2.2
  rw [hc, hf]; exact ⟨h.2.1, by omega, rfl, Nat.zero_le 8, rfl, Nat.zero_le 8⟩
 by_cases k9 : m.kind = 9
 ·simp only [if_neg k1, if_neg k2, if_neg k3, if_neg ki, if_neg k8, if_pos k9, Bool.and_eq_true, codesOk] at h hw hc hf
  have := inRB_iff.1 h.2.2
  rw [hw, hf]; exact ⟨rfl, Nat.zero_le 8, h.2.1, by omega, rfl, Nat.zero_le 8⟩
 by_cases k10 : m.kind = 10
 ·simp only [if_neg k1, if_neg k2, if_neg k3, if_neg ki, if_neg k8, if_neg k9, if_pos k10, Bool.and_eq_true, filtersOk] at h hw hc hf
  have := inRB_iff.1 h.2.2
  rw [hw, hc]; exact ⟨rfl, Nat.zero_le 8, rfl, Nat.zero_le 8, h.2.1, by omega⟩
 simp only [if_neg k1, if_neg k2, if_neg k3, if_neg ki, if_neg k8, if_neg k9, if_neg k10] at hw hc hf
 rw [hw, hc, hf]; exact ⟨rfl, Nat.zero_le 8, rfl, Nat.zero_le 8, rfl, Nat.zero_le 8⟩
theorem body_pre {m : Mq} (hm : mayB m) : bodyBy m = (((preBy m) ++ wishesBy m.wishes) ++ codesBy m.codes) ++ filtersBy m.filters := by
 obtain ⟨h, ho⟩ := hm
 unfold okOf at h
 unfold onlyOf at ho
 have hw := congrArg Mq.wishes ho
 have hc := congrArg Mq.codes ho
 have hf := congrArg Mq.filters ho
 unfold bodyBy preBy
 by_cases k1 : m.kind = 1
 ·simp only [if_pos k1] at hw hc hf
  rw [hw, hc, hf, if_pos k1, if_pos k1]; simp [mq0, wishesBy, codesBy, filtersBy]
 by_cases k2 : m.kind = 2
 ·simp only [if_neg k1, if_pos k2] at hw hc hf
  rw [hw, hc, hf, if_neg k1, if_pos k2, if_neg k1, if_pos k2]; simp [mq0, wishesBy, codesBy, filtersBy]
 by_cases k3 : m.kind = 3
 ·simp only [if_neg k1, if_neg k2, if_pos k3] at hw hc hf
  rw [hw, hc, hf, if_neg k1, if_neg k2, if_pos k3, if_neg k1, if_neg k2, if_pos k3]; simp [mq0, wishesBy, codesBy, filtersBy]
 by_cases ki : idKind m.kind = true
 ·simp only [if_neg k1, if_neg k2, if_neg k3, if_pos ki] at hw hc hf
  have hb : ¬ bareKind m.kind = true := by
   simp only [idKind, bareKind, Bool.or_eq_true, beq_iff_eq] at ki ⊢
   omega
  have n8 : ¬ m.kind = 8 := by simp only [idKind, Bool.or_eq_true, beq_iff_eq] at ki; omega
  have n9 : ¬ m.kind = 9 := by simp only [idKind, Bool.or_eq_true, beq_iff_eq] at ki; omega
  have n10 : ¬ m.kind = 10 := by simp only [idKind, Bool.or_eq_true, beq_iff_eq] at ki; omega
  rw [hw, hc, hf, if_neg k1, if_neg k2, if_neg k3, if_neg n8, if_neg n9, if_neg n10, if_neg hb, if_neg k1, if_neg k2, if_neg k3]; simp [mq0, wishesBy, codesBy, filtersBy]
 by_cases k8 : m.kind = 8
 ·simp only [if_neg k1, if_neg k2, if_neg k3, if_neg ki, if_pos k8] at hw hc hf
  rw [hc, hf, if_neg k1, if_neg k2, if_neg k3, if_pos k8, if_neg k1, if_neg k2, if_neg k3, if_neg (by rw [k8]; decide)]; simp [mq0, codesBy, filtersBy]
 by_cases k9 : m.kind = 9
 ·simp only [if_neg k1, if_neg k2, if_neg k3, if_neg ki, if_neg k8, if_pos k9] at hw hc hf
  rw [hw, hf, if_neg k1, if_neg k2, if_neg k3, if_neg k8, if_pos k9, if_neg k1, if_neg k2, if_neg k3, if_neg (by rw [k9]; decide)]; simp [mq0, wishesBy, filtersBy]
 by_cases k10 : m.kind = 10
 ·simp only [if_neg k1, if_neg k2, if_neg k3, if_neg ki, if_neg k8, if_neg k9, if_pos k10] at hw hc hf
  rw [hw, hc, if_neg k1, if_neg k2, if_neg k3, if_neg k8, if_neg k9, if_pos k10, if_neg k1, if_neg k2, if_neg k3, if_neg (by rw [k10]; decide)]; simp [mq0, wishesBy, codesBy]
 simp only [if_neg k1, if_neg k2, if_neg k3, if_neg ki, if_neg k8, if_neg k9, if_neg k10] at hw hc hf h
 rw [hw, hc, hf, if_neg k1, if_neg k2, if_neg k3, if_neg k8, if_neg k9, if_neg k10, if_pos h, if_neg k1, if_neg k2, if_neg k3]; simp [mq0, wishesBy, codesBy, filtersBy]
theorem pre_le {m : Mq} (hm : mayB m) : (preBy m).length ≤ 540 := by
 have h := body_le hm.1
 rw [body_pre hm] at h
 simp only [List.length_append] at h
 omega
theorem bigG (k : Nat) (hk : k ≤ 65535) (w : World) :
  Calls Tryz.prog 90 #[iz k, iz 2] w fun e w' => ∃ v', e = .returned v' ∧ (∃ q c, v' = .slice (some ⟨q, 0, none⟩) 2 c ∧ w.heap.size ≤ q ∧ RB w' w'.heap.size (some ⟨q, 0, none⟩) (big 2 k) ∧ Below w.heap.size w w') := by
 refine (big_walk k 2 k 2 rfl rfl (by decide) (by omega) w).mono ?_
 rintro e w' ⟨A', c', rfl, ho, hb⟩
 obtain ⟨g, rfl, hg, _⟩ := own_form ho (by decide)
 exact ⟨_, rfl, g, c', rfl, hg, RB.of_ownN ho, hb⟩
theorem rowBig (b : Nat) (k : Int) (h0 : 0 ≤ k) (h1 : k ≤ 65535) (w : World) (hb : b ≤ w.heap.size) :
  Calls Tryz.prog 90 #[iz k, iz 2] w fun e w' => ∃ v', e = .returned v' ∧ (RowIs b (big 2 k.toNat) v' w' ∧ Below w.heap.size w w') := by
 refine (big_walk k 2 k.toNat 2 (by omega) rfl (by decide) (by omega) w).mono ?_
 rintro e w' ⟨A', c', rfl, ho, hb'⟩
 exact ⟨_, rfl, ⟨A', c', by rw [big_length], by rw [big_length]; exact own_base ho hb⟩, hb'⟩
theorem rowTextRG (b : Nat) (xs : List UInt8) (v : Value) (s : ByteArray) (hs : s.size ≤ 65535) (w : World) (hv : RowIs b xs v w) (hb : b ≤ w.heap.size) (hn : xs.length ≤ 140737488251232) :
  Calls Tryz.prog 106 #[v, .string s] w fun e w' => ∃ v', e = .returned v' ∧ (RowIs b (xs ++ strB s) v' w' ∧ Below b w w' ∧ (∀ g, g < w.heap.size → some g ≠ v.ownBlock → w'.heap[g]? = w.heap[g]?)) := by
 go_enter Tryz.func106, Tryz.ntmps106
 refine Has.start 13 [(0, v), (1, .string s)] rfl rfl ⟨rfl, rfl, trivial⟩ ?_
 intro a0 H0
 refine H0.rg 1 fun a1 H1 => nt ?_
 refine H1.rg 2 fun a3 H3 => ?_
 refine H3.lenS gz rfl rfl rfl rfl Tryz.underlying9 ?_
 intro a4 H4
 refine H4.cl (bigG s.size (by omega) w) ?_
 rintro a5 _ w1 ⟨q, c, rfl, hq, hrb, hb1⟩ H5
 obtain ⟨v', w', hrun, hrow, hb2, hg, hob⟩ := run_append_rowG (P := Tryz.prog) (a := a5) (w := w1) Tryz.underlying31 info_u8 (o := ⟨some 9, _, _, _, _, none⟩) (b := b) (xs := xs) (ys := big 2 s.size) (v := v) (c := c) rfl (H5.at_ 5 _ rfl) ((H5.at_ 8 _ rfl).trans (by rw [big_length])) (hv.below hb1) hrb (by rw [big_length]; decide) (by rw [big_length]; omega) (Nat.le_trans hb hb1.size)
 refine H5.go gz rfl rfl _ hrun ?_
 intro a6 H6
 refine H6.ms 1 fun a7 H7 => nt ?_
 refine H7.rg 2 fun a9 H9 => ?_
 obtain ⟨v2, w2, hrun2, hrow2, hb3, hg2⟩ := run_append_strR (P := Tryz.prog) (a := a9) (w := w') Tryz.underlying31 Tryz.underlying9 info_u8 (o := ⟨some 12, _, _, _, _, none⟩) rfl rfl (H9.at_ 11 _ rfl) ((H9.at_ 10 _ rfl).symm ▸ hrow) (by rw [List.length_append, big_length]; omega) (Nat.le_trans (Nat.le_trans hb hb1.size) hb2.size)
 refine H9.go gz rfl rfl _ hrun2 ?_
 intro a10 H10
 refine H10.ms 1 fun a11 H11 => nt ?_
 refine wp_ret ?_
 refine bodyPost_ret (results_tmp rfl _ _ _) H11.df ⟨_, congrArg Ending.returned (H11.at_ 4 _ rfl), (by unfold strB; rw [← List.append_assoc]; exact hrow2), ((hb1.mono hb).trans hb2).trans hb3, fun g hlt hne => ((hg2.block g (Nat.lt_of_lt_of_le (Nat.lt_of_lt_of_le hlt hb1.size) hb2.size) ?_).trans (hg.block g (Nat.lt_of_lt_of_le hlt hb1.size) hne)).trans (hb1.block g hlt)⟩
 rw [H9.at_ 10 _ rfl]
 rcases hob with h | h
 ·rw [h]; exact hne
 ·rw [h]; intro e; injection e with e; have := hb1.size; omega
theorem rowTextR (b : Nat) (xs : List UInt8) (v : Value) (s : ByteArray) (hs : s.size ≤ 65535) (w : World) (hv : RowIs b xs v w) (hb : b ≤ w.heap.size) (hn : xs.length ≤ 140737488251232) :
  Calls Tryz.prog 106 #[v, .string s] w fun e w' => ∃ v', e = .returned v' ∧ (RowIs b (xs ++ strB s) v' w' ∧ Below b w w') :=
 (rowTextRG b xs v s hs w hv hb hn).mono fun _ _ ⟨v', e, h1, h2, _⟩ => ⟨v', e, h1, h2⟩
theorem refBody (m : Mq) (vc vw vf : Value) (w : World) (hm : mayB m) (hL : MqL w w.heap.size m vc vw vf) :
  Calls Tryz.prog 77 #[.agg (mqCells m vc vw vf).toArray] w (Laid (bodyBy m) w) := by
 obtain ⟨A1, c1, A2, c2, A3, c3, rfl, rfl, rfl, l1, l2, l3, k1', k2', k3', r1, r2, r3⟩ := id hL
 obtain ⟨hwa, hwl, hca, hcl, hfa, hfl⟩ := may_lists hm
 have hpl := pre_le hm
 have hwb := wishesBy_le _ hwa
 have hfb := filtersBy_le _ hfa
 have hcb := codesBy_le m.codes
 go_enter Tryz.func77, Tryz.ntmps77
 refine Has.start 159 [(0, .agg (mqCells m (.slice A1 m.codes.length c1) (.slice A2 m.wishes.length c2) (.slice A3 m.filters.length c3)).toArray)] rfl rfl ⟨rfl, trivial⟩ ?_
 intro a0 H0
 have O0 := Own.start w
 refine rl ?_
 refine H0.bx O0 1 fun a2 w1 O1 H2 => nt ?_
 have hw1 : w.heap.size < w1.heap.size := O1.lt 0 rfl
 refine H2.rg 1 fun a3 H3 => nt ?_
 refine wp_seq_join (fun a w' => ∃ v, Has a 159 [(1, pz w.heap.size), (3, v)] ∧ RowIs w1.heap.size (preBy m) v w' ∧ Base w w1.heap.size [(w.heap.size, (mqCells m (.slice A1 m.codes.length c1) (.slice A2 m.wishes.length c2) (.slice A3 m.filters.length c3)))] w') ?_ ?_
 ·skip
  refine H3.rg 1 fun a4 H4 => ?_
  refine H4.ld 0 (O1.li 0 0) fun a5 H5 => nt ?_
  refine wp_block ?_
  obtain ⟨b1, h1⟩ : ∃ b, (m.kind == 1) = b := ⟨_, rfl⟩
  cases b1 with
  | true =>
   have k1 : m.kind = 1 := by simpa using h1
   refine rl ?_
   refine H5.bn 1 (eql_iB _ _ _ h1 _ _ _) fun a7 H7 => nt ?_
   refine H7.condT rfl ?_
   obtain ⟨hc, ht, hp, hu', hp', hk0, hk1, hq0, hq2⟩ := may_conn hm.1 k1
   refine H7.rg 1 fun a8 H8 => ?_
   refine H8.ld 0 (load_will _ _ _ _ _ _ _ _ (O1.get 0 rfl) rfl rfl rfl rfl rfl) fun a9 H9 => ?_
   refine H9.al O1 0 zero_will fun a10 w2 O2 H10 => ?_
   refine H10.st (L := (willL m)) O2 0 0 (hi := size_will) fun a11 w3 O3 H11 => nt ?_
   have HB3 := Base.of O3
   obtain ⟨b0, hb0⟩ : ∃ b0, b0 = w3.heap.size := ⟨_, rfl⟩
   rw [← hb0] at HB3
   have hb0' := hb0
   clear hb0
   have hw3 : w1.heap.size ≤ b0 := by rw [hb0']; exact Nat.le_of_lt (O3.lt 0 rfl)
   have H12 := H11.kp [1, 4]
   repeat (refine wp_seq ?_)
   have h24a : cb m.clean 2 < 256 := cb_lt _ _ (by decide)
   have h24b : cb m.won 4 < 256 := cb_lt _ _ (by decide)
   have h29a : (cb m.clean 2 ||| cb m.won 4) < 256 := or_lt8 h24a h24b
   have h29b : m.wq.toNat * 8 < 256 := by omega
   have h33a : ((cb m.clean 2 ||| cb m.won 4) ||| m.wq.toNat * 8) < 256 := or_lt8 h29a h29b
   have h33b : cb m.wr 32 < 256 := cb_lt _ _ (by decide)
   have h37a : (((cb m.clean 2 ||| cb m.won 4) ||| m.wq.toNat * 8) ||| cb m.wr 32) < 256 := or_lt8 h33a h33b
   have h37b : cb m.hp 64 < 256 := cb_lt _ _ (by decide)
   have h41a : ((((cb m.clean 2 ||| cb m.won 4) ||| m.wq.toNat * 8) ||| cb m.wr 32) ||| cb m.hp 64) < 256 := or_lt8 h37a h37b
   have h41b : cb m.hu 128 < 256 := cb_lt _ _ (by decide)
   have h41 : (((((cb m.clean 2 ||| cb m.won 4) ||| m.wq.toNat * 8) ||| cb m.wr 32) ||| cb m.hp 64) ||| cb m.hu 128) < 256 := or_lt8 h41a h41b
   have hflags : (((((cb m.clean 2 ||| cb m.won 4) ||| m.wq.toNat * 8) ||| cb m.wr 32) ||| cb m.hp 64) ||| cb m.hu 128) = flagsC m := flags_or _ _ _ _ _ _ (by omega)
   refine H12.dr HB3 [1, 4] rfl [er 0 17 [26] (fun v w => RowIs b0 [0, 4, 77, 81, 84, 84] v w), ec 1 18 (.pointer (some ⟨w.heap.size, 2, none⟩)), ec 2 19 (.bool m.clean), ec 3 20 (.int .u8 ((cb m.clean 2 : Nat) : Int)), ec 4 21 (pz w1.heap.size), ec 5 22 (.bool m.won), ec 6 23 (.int .u8 ((cb m.won 4 : Nat) : Int)), ec 7 24 (.int .u8 (((cb m.clean 2 ||| cb m.won 4) : Nat) : Int)), ec 8 25 (.pointer (some ⟨w1.heap.size, 3, none⟩)), ec 9 26 (iz m.wq), ec 10 27 (.int .u8 (m.wq % 256)), ec 11 28 (.int .u8 ((m.wq.toNat * 8 : Nat) : Int)), ec 12 29 (.int .u8 ((((cb m.clean 2 ||| cb m.won 4) ||| m.wq.toNat * 8) : Nat) : Int)), ec 13 30 (.pointer (some ⟨w1.heap.size, 4, none⟩)), ec 14 31 (.bool m.wr), ec 15 32 (.int .u8 ((cb m.wr 32 : Nat) : Int)), ec 16 33 (.int .u8 (((((cb m.clean 2 ||| cb m.won 4) ||| m.wq.toNat * 8) ||| cb m.wr 32) : Nat) : Int)), ec 17 34 (.pointer (some ⟨w.heap.size, 12, none⟩)), ec 18 35 (.bool m.hp), ec 19 36 (.int .u8 ((cb m.hp 64 : Nat) : Int)), ec 20 37 (.int .u8 ((((((cb m.clean 2 ||| cb m.won 4) ||| m.wq.toNat * 8) ||| cb m.wr 32) ||| cb m.hp 64) : Nat) : Int)), ec 21 38 (.pointer (some ⟨w.heap.size, 10, none⟩)), ec 22 39 (.bool m.hu), ec 23 40 (.int .u8 ((cb m.hu 128 : Nat) : Int)), ec 24 41 (.int .u8 (((((((cb m.clean 2 ||| cb m.won 4) ||| m.wq.toNat * 8) ||| cb m.wr 32) ||| cb m.hp 64) ||| cb m.hu 128) : Nat) : Int)), er 25 42 [26] (fun v w => BytesAre [4, UInt8.ofNat (flagsC m)] v w), er 26 43 [] (fun v w => RowIs b0 ([0, 4, 77, 81, 84, 84] ++ [4, UInt8.ofNat (flagsC m)]) v w), er 27 3 [] (fun v w => RowIs b0 ([0, 4, 77, 81, 84, 84] ++ [4, UInt8.ofNat (flagsC m)]) v w)] rfl ⟨jm, (jl fun _ h => h.own.lb 1 2), (jq fun ww _ => (refBitN m.clean 2 2 rfl ww)), jm, (jl fun _ h => h.own.lb 0 0), (jq fun ww _ => (refBitN m.won 4 4 rfl ww)), (jb fun _ => (or_u _ _ h24a h24b _ _ _)), jm, (jl fun _ h => h.own.li 0 3), (jc fun _ => (conv_u8 _ _)), (jb fun _ => (shl3_u8 _ hq0 hq2 _ _ _)), (jb fun _ => (or_u _ _ h29a h29b _ _ _)), jm, (jl fun _ h => h.own.lb 0 4), (jq fun ww _ => (refBitN m.wr 32 32 rfl ww)), (jb fun _ => (or_u _ _ h33a h33b _ _ _)), jm, (jl fun _ h => h.own.lb 1 12), (jq fun ww _ => (refBitN m.hp 64 64 rfl ww)), (jb fun _ => (or_u _ _ h37a h37b _ _ _)), jm, (jl fun _ h => h.own.lb 1 10), (jq fun ww _ => (refBitN m.hu 128 128 rfl ww)), (jb fun _ => (or_u _ _ h41a h41b _ _ _)), trivial⟩ trivial ?_ ?_
   ·intro listed aa ww i o hs hni hcl ho hd hI hh
    have hls : listed.size = 28 := hs
    rcases hh with rfl | rfl | rfl | rfl | hh
    ·obtain rfl := pick_op ho rfl
     have HH : Has aa 159 [] := Has.of hI.sz hI.df trivial
     refine wpOp_enter ho gz 17 rfl 106 _ (run_callH HH rfl rfl (fun _ _ => by kernel_rfl)) _ (rowTextR ww.heap.size [] (.slice none 0 0) ({ data := #[77, 81, 84, 84] } : ByteArray) (by decide) ww (RowIs.nil _ _) (Nat.le_refl _) (by simp)) ?_
     rintro v' w' ⟨hrow, hb⟩
     exact hI.ph hls 0 rfl (v') (by rw [show ([0, 4, 77, 81, 84, 84] : List UInt8) = [] ++ strB ({ data := #[77, 81, 84, 84] } : ByteArray) by decide]; exact hrow.base hI.wp.bw) (hI.wp.call hb) ⟨fun h => absurd rfl h, fun _ _ _ _ _ h => h.below hb, fun _ _ _ _ _ h => h.below hb, fun _ _ _ _ _ h => h.below hb, trivial⟩
    ·obtain rfl := pick_op ho rfl
     have r_41 := hI.vs _ (ma 24 rfl) (.inr (ran_of hd 24 (by kernel_rfl))) trivial
     have u_41 : aa.eval (.tmp 41) = .int .u8 (((((((cb m.clean 2 ||| cb m.won 4) ||| m.wq.toNat * 8) ||| cb m.wr 32) ||| cb m.hp 64) ||| cb m.hu 128) : Nat) : Int) := r_41
     have HH : Has aa 159 [(41, .int .u8 (((((((cb m.clean 2 ||| cb m.won 4) ||| m.wq.toNat * 8) ||| cb m.wr 32) ||| cb m.hp 64) ||| cb m.hu 128) : Nat) : Int))] := Has.of hI.sz hI.df ⟨u_41, trivial⟩
     obtain ⟨hby, hb⟩ := bytes_lit ww [4, UInt8.ofNat (flagsC m)] [.int .u8 4, .int .u8 (((((((cb m.clean 2 ||| cb m.won 4) ||| m.wq.toNat * 8) ||| cb m.wr 32) ||| cb m.hp 64) ||| cb m.hu 128) : Nat) : Int)] (by rw [hflags] at h41 ⊢; rw [bv_nat _ h41]; rfl) 5 2 rfl
     refine wpOp_go ho gz 42 rfl (.slice (some ⟨ww.heap.size, 0, none⟩) 2 2) (ww.alloc (.cells ([.int .u8 4, .int .u8 (((((((cb m.clean 2 ||| cb m.won 4) ||| m.wq.toNat * 8) ||| cb m.wr 32) ||| cb m.hp 64) ||| cb m.hu 128) : Nat) : Int)] : List Value).toArray 5)) (run_any HH (by intro cs b h; cases h) (by kernel_rfl) (by kernel_rfl)) ?_
     exact hI.ph hls 25 rfl (.slice (some ⟨ww.heap.size, 0, none⟩) 2 2) hby (hI.wp.call hb) ⟨fun _ _ _ _ _ h => h.below hb, fun h => absurd rfl h, fun _ _ _ _ _ h => h.below hb, fun _ _ _ _ _ h => h.below hb, trivial⟩
    ·obtain rfl := pick_op ho rfl
     have r_17 := hI.vs _ (ma 0 rfl) (.inr (ran_of hd 0 (by kernel_rfl))) ⟨hni, trivial⟩
     have r_42 := hI.vs _ (ma 25 rfl) (.inr (ran_of hd 25 (by kernel_rfl))) ⟨hni, trivial⟩
     have HH : Has aa 159 [(17, aa.eval (.tmp 17)), (42, aa.eval (.tmp 42))] := Has.of hI.sz hI.df ⟨rfl, rfl, trivial⟩
     obtain ⟨v', w', hrun, hrow, hb0, hg⟩ := run_append_row (P := Tryz.prog) (a := aa) (w := ww) Tryz.underlying31 info_u8 (o := ⟨some 43, _, _, _, _, none⟩) rfl rfl rfl r_17 r_42 (by simp only [List.length_cons, List.length_nil]; omega) hI.wp.bw
     refine wpOp_go ho gz 43 rfl v' w' hrun ?_
     exact hI.ph hls 26 rfl (v') hrow (hI.wp.step hb0) ⟨fun _ h => absurd (by show 26 ∈ ([26] : List Nat); decide) h, fun _ h => absurd (by show 26 ∈ ([26] : List Nat); decide) h, fun h => absurd rfl h, fun _ _ h => absurd (hni.symm.trans (ran_of (hcl 27 _ rfl (h.resolve_left (by rw [hls]; show ¬ 28 ≤ 27; decide))) 26 (by kernel_rfl))) (by decide), trivial⟩
    ·obtain rfl := pick_op ho rfl
     have r_43 := hI.vs _ (ma 26 rfl) (.inr (ran_of hd 26 (by kernel_rfl))) trivial
     have HH : Has aa 159 [(43, aa.eval (.tmp 43))] := Has.of hI.sz hI.df ⟨rfl, trivial⟩
     refine wpOp_go ho gz 3 rfl (aa.eval (.tmp 43)) ww (run_move (.inr rfl) (HH.ev rfl)) ?_
     exact hI.ph hls 27 rfl (aa.eval (.tmp 43)) r_43 hI.wp AllC.same
    ·exact False.elim hh
   ·intro listed a13 w4 hall hI
    have r_3 := hI.vs _ (ma 27 rfl) (.inr (hall 27 (by decide))) trivial
    have H13 : Has a13 159 [(1, pz w.heap.size), (4, pz w1.heap.size), (3, a13.eval (.tmp 3))] := Has.of hI.sz hI.df ⟨hI.fx.1, hI.fx.2.1, rfl, trivial⟩
    have HB4 := hI.wp
    have R3_4 : RowIs b0 ([0, 4, 77, 81, 84, 84] ++ [4, UInt8.ofNat (flagsC m)]) (a13.eval (.tmp 3)) w4 := r_3
    refine then_normal ?_
    repeat (refine wp_seq ?_)
    have R3 := R3_4
    refine H13.rg 2 fun a15 H15 => ?_
    refine H15.ld 0 (HB4.own.li 1 3) fun a16 H16 => ?_
    refine H16.cl (rowBig b0 m.keep hk0 hk1 _ HB4.bw) ?_
    rintro a17 v47 w5 ⟨R47, hb⟩ H17
    have HB5 := HB4.call hb
    have R3 := R3.below hb
    clear hb
    refine H17.appendRow Tryz.underlying31 info_u8 gz rfl rfl rfl rfl rfl R3 R47.read (by simp only [List.length_append, big_length, List.length_cons, List.length_nil]; omega) HB5.bw ?_
    intro a18 v48 w6 H18 R48 hb _
    have HB6 := HB5.step hb
    clear hb
    refine H18.ms 1 fun a19 H19 => nt ?_
    refine H19.rg 2 fun a21 H21 => ?_
    refine H21.ld 0 (HB6.own.ls 1 1) fun a22 H22 => ?_
    refine H22.cl (rowTextR b0 (([0, 4, 77, 81, 84, 84] ++ [4, UInt8.ofNat (flagsC m)]) ++ big 2 m.keep.toNat) _ m.client hc _ R48 HB6.bw (by simp only [List.length_append, big_length, List.length_cons, List.length_nil]; omega)) ?_
    rintro a23 v52 w7 ⟨R52, hb⟩ H23
    have HB7 := HB6.step hb
    clear hb
    refine H23.ms 1 fun a24 H24 => nt ?_
    refine wp_seq_join (fun a w' => ∃ v, Has a 159 [(1, pz w.heap.size), (4, pz w1.heap.size), (3, v)] ∧ RowIs b0 (((([0, 4, 77, 81, 84, 84] ++ [4, UInt8.ofNat (flagsC m)]) ++ big 2 m.keep.toNat) ++ strB m.client) ++ (if m.won then strB m.wt ++ strB m.wp else [])) v w' ∧ Base w b0 [(w1.heap.size, (willL m)), (w.heap.size, (mqCells m (.slice A1 m.codes.length c1) (.slice A2 m.wishes.length c2) (.slice A3 m.filters.length c3)))] w') ?_ ?_
    ·cases hb54 : m.won with
     | true =>
      refine H24.rg 1 fun a25 H25 => ?_
      refine H25.ld 0 (HB7.own.lb 0 0) fun a26 H26 => nt ?_
      have H26b := H26.keep (l' := [(1, pz w.heap.size), (4, pz w1.heap.size), (3, v52), (54, .bool true)]) ⟨rfl, rfl, rfl, by first | exact congrArg (fun x => some (Value.bool x)) hb54, trivial⟩
      refine H26b.condT rfl ?_
      have H27 := H26b
      refine H27.dr HB7 [1, 4] rfl [er 0 55 [3] (fun v w => RowIs b0 ((([0, 4, 77, 81, 84, 84] ++ [4, UInt8.ofNat (flagsC m)]) ++ big 2 m.keep.toNat) ++ strB m.client) v w), ec 1 56 (.pointer (some ⟨w1.heap.size, 1, none⟩)), ec 2 57 (.string m.wt), er 3 58 [6] (fun v w => RowIs b0 (((([0, 4, 77, 81, 84, 84] ++ [4, UInt8.ofNat (flagsC m)]) ++ big 2 m.keep.toNat) ++ strB m.client) ++ strB m.wt) v w), ec 4 59 (.pointer (some ⟨w1.heap.size, 2, none⟩)), ec 5 60 (.string m.wp), er 6 61 [] (fun v w => RowIs b0 (((([0, 4, 77, 81, 84, 84] ++ [4, UInt8.ofNat (flagsC m)]) ++ big 2 m.keep.toNat) ++ strB m.client) ++ strB m.wt ++ strB m.wp) v w), er 7 3 [] (fun v w => RowIs b0 (((([0, 4, 77, 81, 84, 84] ++ [4, UInt8.ofNat (flagsC m)]) ++ big 2 m.keep.toNat) ++ strB m.client) ++ strB m.wt ++ strB m.wp) v w), er 1000 3 [3, 7] (fun v w => RowIs b0 ((([0, 4, 77, 81, 84, 84] ++ [4, UInt8.ofNat (flagsC m)]) ++ big 2 m.keep.toNat) ++ strB m.client) v w)] rfl ⟨jm, (jl fun _ h => h.own.ls 0 1), jm, (jl fun _ h => h.own.ls 0 2), trivial⟩ ⟨(by rw [H27.at_ 3 _ rfl]; exact R52.drew), trivial⟩ ?_ ?_
      ·intro listed aa ww i o hs hni hcl ho hd hI hh
       have hls : listed.size = 8 := hs
       rcases hh with rfl | rfl | rfl | rfl | hh
       ·obtain rfl := pick_op ho rfl
        have r_3 := hI.vs _ (ma 8 rfl) (.inl (by rw [hls]; show 8 ≤ 1000; decide)) ⟨(Bool.eq_false_iff.2 fun h => absurd (hni.symm.trans (ran_of (hcl 3 _ rfl h) 0 (by kernel_rfl))) (by decide)), (Bool.eq_false_iff.2 fun h => absurd (hni.symm.trans (ran_of (hcl 3 _ rfl (ran_of (hcl 6 _ rfl (ran_of (hcl 7 _ rfl h) 6 (by kernel_rfl))) 3 (by kernel_rfl))) 0 (by kernel_rfl))) (by decide)), trivial⟩
        have HH : Has aa 159 [(3, aa.eval (.tmp 3))] := Has.of hI.sz hI.df ⟨rfl, trivial⟩
        refine wpOp_go ho gz 55 rfl (aa.eval (.tmp 3)) ww (run_move (.inl rfl) (HH.ev rfl)) ?_
        exact hI.ph hls 0 rfl (aa.eval (.tmp 3)) r_3 hI.wp AllC.same
       ·obtain rfl := pick_op ho rfl
        have r_55 := hI.vs _ (ma 0 rfl) (.inr (ran_of hd 0 (by kernel_rfl))) ⟨hni, trivial⟩
        have r_57 := hI.vs _ (ma 2 rfl) (.inr (ran_of hd 2 (by kernel_rfl))) trivial
        have u_57 : aa.eval (.tmp 57) = .string m.wt := r_57
        have HH : Has aa 159 [(55, aa.eval (.tmp 55)), (57, .string m.wt)] := Has.of hI.sz hI.df ⟨rfl, u_57, trivial⟩
        refine wpOp_enter ho gz 58 rfl 106 _ (run_callH HH rfl rfl (fun _ _ => by kernel_rfl)) _ (rowTextR b0 ((([0, 4, 77, 81, 84, 84] ++ [4, UInt8.ofNat (flagsC m)]) ++ big 2 m.keep.toNat) ++ strB m.client) (aa.eval (.tmp 55)) m.wt ht ww r_55 hI.wp.bw (by simp only [List.length_append, strB_length, big_length, List.length_cons, List.length_nil]; omega)) ?_
        rintro v' w' ⟨hrow, hb0⟩
        exact hI.ph hls 3 rfl (v') hrow (hI.wp.step hb0) ⟨fun _ h => absurd (by show 3 ∈ ([3] : List Nat); decide) h, fun h => absurd rfl h, fun _ _ h => absurd (hni.symm.trans (ran_of (hcl 6 _ rfl (h.resolve_left (by rw [hls]; show ¬ 8 ≤ 6; decide))) 3 (by kernel_rfl))) (by decide), fun _ _ h => absurd (hni.symm.trans (ran_of (hcl 6 _ rfl (ran_of (hcl 7 _ rfl (h.resolve_left (by rw [hls]; show ¬ 8 ≤ 7; decide))) 6 (by kernel_rfl))) 3 (by kernel_rfl))) (by decide), fun _ h => absurd (by show 3 ∈ ([3, 7] : List Nat); decide) h, trivial⟩
       ·obtain rfl := pick_op ho rfl
        have r_58 := hI.vs _ (ma 3 rfl) (.inr (ran_of hd 3 (by kernel_rfl))) ⟨hni, trivial⟩
        have r_60 := hI.vs _ (ma 5 rfl) (.inr (ran_of hd 5 (by kernel_rfl))) trivial
        have u_60 : aa.eval (.tmp 60) = .string m.wp := r_60
        have HH : Has aa 159 [(58, aa.eval (.tmp 58)), (60, .string m.wp)] := Has.of hI.sz hI.df ⟨rfl, u_60, trivial⟩
        refine wpOp_enter ho gz 61 rfl 106 _ (run_callH HH rfl rfl (fun _ _ => by kernel_rfl)) _ (rowTextR b0 (((([0, 4, 77, 81, 84, 84] ++ [4, UInt8.ofNat (flagsC m)]) ++ big 2 m.keep.toNat) ++ strB m.client) ++ strB m.wt) (aa.eval (.tmp 58)) m.wp hp ww r_58 hI.wp.bw (by simp only [List.length_append, strB_length, big_length, List.length_cons, List.length_nil]; omega)) ?_
        rintro v' w' ⟨hrow, hb0⟩
        exact hI.ph hls 6 rfl (v') hrow (hI.wp.step hb0) ⟨fun _ _ _ hk => absurd (hk.1.symm.trans (ran_of hd 3 (by kernel_rfl))) (by decide), fun _ h => absurd (by show 6 ∈ ([6] : List Nat); decide) h, fun h => absurd rfl h, fun _ _ h => absurd (hni.symm.trans (ran_of (hcl 7 _ rfl (h.resolve_left (by rw [hls]; show ¬ 8 ≤ 7; decide))) 6 (by kernel_rfl))) (by decide), fun _ _ _ hk => absurd (hk.1.symm.trans (ran_of hd 3 (by kernel_rfl))) (by decide), trivial⟩
       ·obtain rfl := pick_op ho rfl
        have r_61 := hI.vs _ (ma 6 rfl) (.inr (ran_of hd 6 (by kernel_rfl))) trivial
        have HH : Has aa 159 [(61, aa.eval (.tmp 61))] := Has.of hI.sz hI.df ⟨rfl, trivial⟩
        refine wpOp_go ho gz 3 rfl (aa.eval (.tmp 61)) ww (run_move (.inr rfl) (HH.ev rfl)) ?_
        exact hI.ph hls 7 rfl (aa.eval (.tmp 61)) r_61 hI.wp AllC.same
       ·exact False.elim hh
      ·intro listed a28 w8 hall hI
       have r_3 := hI.vs _ (ma 7 rfl) (.inr (hall 7 (by decide))) trivial
       have H28 : Has a28 159 [(1, pz w.heap.size), (4, pz w1.heap.size), (3, a28.eval (.tmp 3))] := Has.of hI.sz hI.df ⟨hI.fx.1, hI.fx.2.1, rfl, trivial⟩
       have HB8 := hI.wp
       have R3_8 : RowIs b0 (((([0, 4, 77, 81, 84, 84] ++ [4, UInt8.ofNat (flagsC m)]) ++ big 2 m.keep.toNat) ++ strB m.client) ++ strB m.wt ++ strB m.wp) (a28.eval (.tmp 3)) w8 := r_3
       refine then_normal ?_
       exact ⟨_, H28.keep ⟨rfl, rfl, rfl, trivial⟩, (by rw [if_pos rfl, ← List.append_assoc]; exact R3_8), HB8⟩
     | false =>
      refine H24.rg 1 fun a25 H25 => ?_
      refine H25.ld 0 (HB7.own.lb 0 0) fun a26 H26 => nt ?_
      have H26b := H26.keep (l' := [(1, pz w.heap.size), (4, pz w1.heap.size), (3, v52), (54, .bool false)]) ⟨rfl, rfl, rfl, by first | exact congrArg (fun x => some (Value.bool x)) hb54, trivial⟩
      refine H26b.condF rfl ?_
      refine skip_wp ?_
      refine then_normal ?_
      exact ⟨_, H26b.keep ⟨rfl, rfl, rfl, trivial⟩, (by rw [if_neg (show ¬ (false = true) by decide), List.append_nil]; exact R52), HB7⟩
    ·rintro a64 w27 ⟨v3_27, H64, R3_27, HB27⟩
     have hl1 : (if m.won then strB m.wt ++ strB m.wp else []).length ≤ 200000 := by split <;> simp [strB_length] <;> omega
     refine wp_seq_join (fun a w' => ∃ v, Has a 159 [(1, pz w.heap.size), (4, pz w1.heap.size), (3, v)] ∧ RowIs b0 ((((([0, 4, 77, 81, 84, 84] ++ [4, UInt8.ofNat (flagsC m)]) ++ big 2 m.keep.toNat) ++ strB m.client) ++ (if m.won then strB m.wt ++ strB m.wp else [])) ++ (if m.hu then strB m.user else [])) v w' ∧ Base w b0 [(w1.heap.size, (willL m)), (w.heap.size, (mqCells m (.slice A1 m.codes.length c1) (.slice A2 m.wishes.length c2) (.slice A3 m.filters.length c3)))] w') ?_ ?_
     ·cases hb63 : m.hu with
      | true =>
       refine H64.rg 1 fun a65 H65 => ?_
       refine H65.ld 0 (HB27.own.lb 1 10) fun a66 H66 => nt ?_
       have H66b := H66.keep (l' := [(1, pz w.heap.size), (4, pz w1.heap.size), (3, v3_27), (63, .bool true)]) ⟨rfl, rfl, rfl, by first | exact congrArg (fun x => some (Value.bool x)) hb63, trivial⟩
       refine H66b.condT rfl ?_
       have H67 := H66b
       refine H67.rg 2 fun a69 H69 => ?_
       refine H69.ld 0 (HB27.own.ls 1 9) fun a70 H70 => ?_
       refine H70.cl (rowTextR b0 (((([0, 4, 77, 81, 84, 84] ++ [4, UInt8.ofNat (flagsC m)]) ++ big 2 m.keep.toNat) ++ strB m.client) ++ (if m.won then strB m.wt ++ strB m.wp else [])) _ m.user hu' _ R3_27 HB27.bw (by simp only [List.length_append, strB_length, big_length, List.length_cons, List.length_nil]; omega)) ?_
       rintro a71 v67 w28 ⟨R67, hb⟩ H71
       have HB28 := HB27.step hb
       clear hb
       refine H71.ms 1 fun a72 H72 => nt ?_
       exact ⟨_, H72.keep ⟨rfl, rfl, rfl, trivial⟩, (by rw [if_pos rfl]; exact R67), HB28⟩
      | false =>
       refine H64.rg 1 fun a65 H65 => ?_
       refine H65.ld 0 (HB27.own.lb 1 10) fun a66 H66 => nt ?_
       have H66b := H66.keep (l' := [(1, pz w.heap.size), (4, pz w1.heap.size), (3, v3_27), (63, .bool false)]) ⟨rfl, rfl, rfl, by first | exact congrArg (fun x => some (Value.bool x)) hb63, trivial⟩
       refine H66b.condF rfl ?_
       refine skip_wp ?_
       refine then_normal ?_
       exact ⟨_, H66b.keep ⟨rfl, rfl, rfl, trivial⟩, (by rw [if_neg (show ¬ (false = true) by decide), List.append_nil]; exact R3_27), HB27⟩
     ·rintro a104 w47 ⟨v3_47, H104, R3_47, HB47⟩
      have hl2 : (if m.hu then strB m.user else []).length ≤ 200000 := by split <;> simp [strB_length] <;> omega
      cases hb69 : m.hp with
      | true =>
       refine H104.rg 1 fun a105 H105 => ?_
       refine H105.ld 0 (HB47.own.lb 1 12) fun a106 H106 => nt ?_
       have H106b := H106.keep (l' := [(1, pz w.heap.size), (4, pz w1.heap.size), (3, v3_47), (69, .bool true)]) ⟨rfl, rfl, rfl, by first | exact congrArg (fun x => some (Value.bool x)) hb69, trivial⟩
       refine H106b.condT rfl ?_
       have H107 := H106b
       refine H107.rg 2 fun a109 H109 => ?_
       refine H109.ld 0 (HB47.own.ls 1 11) fun a110 H110 => ?_
       refine H110.cl (rowTextR b0 ((((([0, 4, 77, 81, 84, 84] ++ [4, UInt8.ofNat (flagsC m)]) ++ big 2 m.keep.toNat) ++ strB m.client) ++ (if m.won then strB m.wt ++ strB m.wp else [])) ++ (if m.hu then strB m.user else [])) _ m.pass hp' _ R3_47 HB47.bw (by simp only [List.length_append, strB_length, big_length, List.length_cons, List.length_nil]; omega)) ?_
       rintro a111 v73 w48 ⟨R73, hb⟩ H111
       have HB48 := HB47.step hb
       clear hb
       refine H111.ms 1 fun a112 H112 => ?_
       refine wpList_nil ?_
       refine block_normal ?_
       refine then_normal ?_
       exact ⟨_, H112.keep ⟨rfl, rfl, trivial⟩, (by rw [pre_1 k1, connect_spell, hb69]; exact RowIs.base (by rw [if_pos rfl]; exact R73) hw3), HB48.low2 hw3 O1⟩
      | false =>
       refine H104.rg 1 fun a105 H105 => ?_
       refine H105.ld 0 (HB47.own.lb 1 12) fun a106 H106 => nt ?_
       have H106b := H106.keep (l' := [(1, pz w.heap.size), (4, pz w1.heap.size), (3, v3_47), (69, .bool false)]) ⟨rfl, rfl, rfl, by first | exact congrArg (fun x => some (Value.bool x)) hb69, trivial⟩
       refine H106b.condF rfl ?_
       have H107 := H106b
       refine skip_wp ?_
       refine block_normal ?_
       refine then_normal ?_
       exact ⟨_, H107.keep ⟨rfl, rfl, trivial⟩, (by rw [pre_1 k1, connect_spell, hb69]; exact RowIs.base (by rw [if_neg (show ¬ (false = true) by decide), List.append_nil]; exact R3_47) hw3), HB47.low2 hw3 O1⟩
  | false =>
   have k1 : ¬ m.kind = 1 := by simpa using h1
   refine rl ?_
   refine H5.bn 1 (eql_iB _ _ _ h1 _ _ _) fun a7 H7 => nt ?_
   refine H7.condF rfl ?_
   obtain ⟨b2, h2⟩ : ∃ b, (m.kind == 2) = b := ⟨_, rfl⟩
   cases b2 with
   | true =>
    have k2 : m.kind = 2 := by simpa using h2
    refine rl ?_
    refine H7.bn 1 (eql_iB _ _ _ h2 _ _ _) fun a9 H9 => nt ?_
    refine H9.condT rfl ?_
    have HB1 := Base.of O1
    obtain ⟨b0, hb0⟩ : ∃ b0, b0 = w1.heap.size := ⟨_, rfl⟩
    rw [← hb0] at HB1
    have hb0' := hb0
    clear hb0
    have H10 := H9.kp [1]
    have hc0 := may_ack hm.1 k1 k2
    repeat (refine wp_seq ?_)
    have hb1 : cb m.present 1 < 256 := cb_lt _ _ (by decide)
    refine H10.dr HB1 [1] rfl [ec 0 76 (.pointer (some ⟨w.heap.size, 13, none⟩)), ec 1 77 (.bool m.present), ec 2 78 (.int .u8 ((cb m.present 1 : Nat) : Int)), ec 3 79 (.pointer (some ⟨w.heap.size, 14, none⟩)), ec 4 80 (iz m.code), ec 5 81 (.int .u8 (m.code % 256)), er 6 82 [] (fun v w => RowIs b0 [UInt8.ofNat (cb m.present 1), UInt8.ofNat m.code.toNat] v w), er 7 3 [] (fun v w => RowIs b0 [UInt8.ofNat (cb m.present 1), UInt8.ofNat m.code.toNat] v w)] rfl ⟨jm, (jl fun _ h => h.own.lb 0 13), (jq fun ww _ => (refBitN m.present 1 1 rfl ww)), jm, (jl fun _ h => h.own.li 0 14), (jc fun _ => (conv_u8 _ _)), trivial⟩ trivial ?_ ?_
    ·intro listed aa ww i o hs hni hcl ho hd hI hh
     have hls : listed.size = 8 := hs
     rcases hh with rfl | rfl | hh
     ·obtain rfl := pick_op ho rfl
      have u_78 := hI.vs _ (ma 2 rfl) (.inr (ran_of hd 2 (by kernel_rfl))) trivial
      have u_81 := hI.vs _ (ma 5 rfl) (.inr (ran_of hd 5 (by kernel_rfl))) trivial
      have HH : Has aa 159 [(78, .int .u8 ((cb m.present 1 : Nat) : Int)), (81, .int .u8 (m.code % 256))] := Has.of hI.sz hI.df ⟨u_78, u_81, trivial⟩
      have hrw := row_lit ww b0 hI.wp.bw [UInt8.ofNat (cb m.present 1), UInt8.ofNat m.code.toNat] [.int .u8 ((cb m.present 1 : Nat) : Int), .int .u8 (m.code % 256)] (by rw [bv_nat _ hb1, byte_of_int _ hc0]; rfl) 2 rfl (by decide)
      have hb := balloc ww (.cells ([.int .u8 ((cb m.present 1 : Nat) : Int), .int .u8 (m.code % 256)] : List Value).toArray 5)
      refine wpOp_go ho gz 82 rfl (.slice (some ⟨ww.heap.size, 0, none⟩) 2 2) (ww.alloc (.cells ([.int .u8 ((cb m.present 1 : Nat) : Int), .int .u8 (m.code % 256)] : List Value).toArray 5)) (run_any HH (by intro cs b h; cases h) (by kernel_rfl) (by kernel_rfl)) ?_
      exact hI.ph hls 6 rfl (.slice (some ⟨ww.heap.size, 0, none⟩) 2 2) hrw (hI.wp.call hb) ⟨fun h => absurd rfl h, fun _ _ _ _ _ h => h.below hb, trivial⟩
     ·obtain rfl := pick_op ho rfl
      have r_82 := hI.vs _ (ma 6 rfl) (.inr (ran_of hd 6 (by kernel_rfl))) trivial
      have HH : Has aa 159 [(82, aa.eval (.tmp 82))] := Has.of hI.sz hI.df ⟨rfl, trivial⟩
      refine wpOp_go ho gz 3 rfl (aa.eval (.tmp 82)) ww (run_move (.inr rfl) (HH.ev rfl)) ?_
      exact hI.ph hls 7 rfl (aa.eval (.tmp 82)) r_82 hI.wp AllC.same
     ·exact False.elim hh
    ·intro listed a11 w2 hall hI
     have r_3 := hI.vs _ (ma 7 rfl) (.inr (hall 7 (by decide))) trivial
     have H11 : Has a11 159 [(1, pz w.heap.size), (3, a11.eval (.tmp 3))] := Has.of hI.sz hI.df ⟨hI.fx.1, rfl, trivial⟩
     have HB2 := hI.wp
     have R3_2 : RowIs b0 [UInt8.ofNat (cb m.present 1), UInt8.ofNat m.code.toNat] (a11.eval (.tmp 3)) w2 := r_3
     refine block_normal ?_
     refine then_normal ?_
     exact ⟨_, H11.keep ⟨rfl, rfl, trivial⟩, (by rw [pre_2 k2]; exact R3_2.base (Nat.le_of_eq hb0'.symm)), HB2.low (Nat.le_of_eq hb0'.symm) O1⟩
   | false =>
    have k2 : ¬ m.kind = 2 := by simpa using h2
    refine rl ?_
    refine H7.bn 1 (eql_iB _ _ _ h2 _ _ _) fun a9 H9 => nt ?_
    refine H9.condF rfl ?_
    obtain ⟨b3, h3⟩ : ∃ b, (m.kind == 3) = b := ⟨_, rfl⟩
    cases b3 with
    | true =>
     have k3 : m.kind = 3 := by simpa using h3
     refine rl ?_
     refine H9.bn 1 (eql_iB _ _ _ h3 _ _ _) fun a11 H11 => nt ?_
     refine H11.condT rfl ?_
     have HB1 := Base.of O1
     obtain ⟨b0, hb0⟩ : ∃ b0, b0 = w1.heap.size := ⟨_, rfl⟩
     rw [← hb0] at HB1
     have hb0' := hb0
     clear hb0
     have H12 := H11.kp [1]
     obtain ⟨ht, hp, hi0, hi1⟩ := may_pub hm.1 k1 k2 k3
     refine H12.rg 1 fun a13 H13 => ?_
     refine H13.ld 0 (HB1.own.ls 0 19) fun a14 H14 => ?_
     refine H14.cl (rowTextR b0 [] _ m.topic ht _ (RowIs.nil _ _) HB1.bw (by simp)) ?_
     rintro a15 v87 w2 ⟨R87, hb⟩ H15
     have HB2 := HB1.step hb
     clear hb
     refine H15.ms 1 fun a16 H16 => nt ?_
     refine wp_seq_join (fun a w' => ∃ v, Has a 159 [(1, pz w.heap.size), (3, v)] ∧ RowIs b0 (([] ++ strB m.topic) ++ (if 0 < m.qos then big 2 m.id.toNat else [])) v w' ∧ Base w b0 [(w.heap.size, (mqCells m (.slice A1 m.codes.length c1) (.slice A2 m.wishes.length c2) (.slice A3 m.filters.length c3)))] w') ?_ ?_
     ·skip
      by_cases hq : 0 < m.qos
      ·skip
       refine H16.rg 1 fun a17 H17 => ?_
       refine H17.ld 0 (HB2.own.li 0 17) fun a18 H18 => ?_
       refine H18.bb 0 rfl rfl rfl rfl rfl rfl (gtr_i _ _ true (by simpa using hq) _ _ _) rfl fun a19 H19 => nt ?_
       refine H19.condT rfl ?_
       have R3 := R87
       refine H19.rg 2 fun a21 H21 => ?_
       refine H21.ld 0 (HB2.own.li 0 20) fun a22 H22 => ?_
       refine H22.cl (rowBig b0 m.id hi0 hi1 _ HB2.bw) ?_
       rintro a23 v94 w3 ⟨R94, hb⟩ H23
       have HB3 := HB2.call hb
       have R3 := R3.below hb
       clear hb
       refine H23.appendRow Tryz.underlying31 info_u8 gz rfl rfl rfl rfl rfl R3 R94.read (by simp only [List.length_append, strB_length, big_length, List.length_nil]; omega) HB3.bw ?_
       intro a24 v95 w4 H24 R95 hb _
       have HB4 := HB3.step hb
       clear hb
       refine H24.ms 1 fun a25 H25 => nt ?_
       exact ⟨_, H25.keep ⟨rfl, rfl, trivial⟩, (by rw [if_pos hq]; exact R95), HB4⟩
      ·skip
       refine H16.rg 1 fun a17 H17 => ?_
       refine H17.ld 0 (HB2.own.li 0 17) fun a18 H18 => ?_
       refine H18.bb 0 rfl rfl rfl rfl rfl rfl (gtr_i _ _ false (by simpa using hq) _ _ _) rfl fun a19 H19 => nt ?_
       refine H19.condF rfl ?_
       refine skip_wp ?_
       refine then_normal ?_
       exact ⟨_, H19.keep ⟨rfl, rfl, trivial⟩, (by rw [if_neg hq, List.append_nil]; exact R87), HB2⟩
     ·rintro a46 w12 ⟨v3, H46, R3, HB12⟩
      have hl1 : (if 0 < m.qos then big 2 m.id.toNat else []).length ≤ 2 := by split <;> simp [big_length]
      refine H46.rg 2 fun a48 H48 => ?_
      refine H48.ld 0 (HB12.own.ls 0 21) fun a49 H49 => ?_
      refine H49.appendStr Tryz.underlying31 Tryz.underlying9 info_u8 gz rfl rfl rfl rfl rfl R3 (by simp only [List.length_append, strB_length, List.length_nil]; omega) HB12.bw ?_
      intro a50 v99 w13 H50 R99 hb _
      have HB13 := HB12.step hb
      clear hb
      refine H50.ms 1 fun a51 H51 => ?_
      refine wpList_nil ?_
      refine block_normal ?_
      refine then_normal ?_
      exact ⟨_, H51.keep ⟨rfl, rfl, trivial⟩, (by rw [pre_3 k3, publishBy]; exact R99.base (Nat.le_of_eq hb0'.symm)), HB13.low (Nat.le_of_eq hb0'.symm) O1⟩
    | false =>
     have k3 : ¬ m.kind = 3 := by simpa using h3
     refine rl ?_
     refine H9.bn 1 (eql_iB _ _ _ h3 _ _ _) fun a11 H11 => nt ?_
     refine H11.condF rfl ?_
     refine wp_seq_join (fun a w' => ∃ b, bareKind m.kind = b ∧ Has a 159 [(1, pz w.heap.size), (3, .slice none 0 0), (100, .bool b)] ∧ w1 = w') ?_ ?_
     ·skip
      obtain ⟨b12, h12⟩ : ∃ b, (m.kind == 12) = b := ⟨_, rfl⟩
      cases b12 with
      | true =>
       refine rl ?_
       refine H11.bn 1 (eql_iB _ _ _ h12 _ _ _) fun a13 H13 => nt ?_
       refine H13.condT rfl ?_
       refine skip_wp ?_
       refine then_normal ?_
       exact ⟨_, (by unfold bareKind; rw [h12] <;> rfl), H13.keep ⟨rfl, rfl, rfl, trivial⟩, rfl⟩
      | false =>
       refine rl ?_
       refine H11.bn 1 (eql_iB _ _ _ h12 _ _ _) fun a13 H13 => nt ?_
       refine H13.condF rfl ?_
       obtain ⟨b13, h13⟩ : ∃ b, (m.kind == 13) = b := ⟨_, rfl⟩
       cases b13 with
       | true =>
        refine rl ?_
        refine H13.bn 1 (eql_iB _ _ _ h13 _ _ _) fun a15 H15 => nt ?_
        refine H15.condT rfl ?_
        refine skip_wp ?_
        refine then_normal ?_
        exact ⟨_, (by unfold bareKind; rw [h12, h13] <;> rfl), H15.keep ⟨rfl, rfl, rfl, trivial⟩, rfl⟩
       | false =>
        refine rl ?_
        refine H13.bn 1 (eql_iB _ _ _ h13 _ _ _) fun a15 H15 => nt ?_
        refine H15.condF rfl ?_
        obtain ⟨b14, h14⟩ : ∃ b, (m.kind == 14) = b := ⟨_, rfl⟩
        cases b14 with
        | true =>
         refine rl ?_
         refine H15.bn 1 (eql_iB _ _ _ h14 _ _ _) fun a17 H17 => nt ?_
         exact ⟨_, (by unfold bareKind; rw [h12, h13, h14] <;> rfl), H17.keep ⟨rfl, rfl, rfl, trivial⟩, rfl⟩
        | false =>
         refine rl ?_
         refine H15.bn 1 (eql_iB _ _ _ h14 _ _ _) fun a17 H17 => nt ?_
         exact ⟨_, (by unfold bareKind; rw [h12, h13, h14] <;> rfl), H17.keep ⟨rfl, rfl, rfl, trivial⟩, rfl⟩
     rintro a12 _ ⟨v100, q100, H12, rfl⟩
     cases v100 with
     | true =>
      have HB1 := Base.of O1
      obtain ⟨b0, hb0⟩ : ∃ b0, b0 = w1.heap.size := ⟨_, rfl⟩
      rw [← hb0] at HB1
      have hb0' := hb0
      clear hb0
      refine H12.condT rfl ?_
      refine skip_wp ?_
      refine block_normal ?_
      refine then_normal ?_
      exact ⟨_, H12.keep ⟨rfl, rfl, trivial⟩, (by rw [pre_b k1 k2 k3 q100]; exact (RowIs.nil b0 _).base (Nat.le_of_eq hb0'.symm)), HB1.low (Nat.le_of_eq hb0'.symm) O1⟩
     | false =>
      have hi := may_id hm.1 k1 k2 k3 q100
      have HB1 := Base.of O1
      obtain ⟨b0, hb0⟩ : ∃ b0, b0 = w1.heap.size := ⟨_, rfl⟩
      rw [← hb0] at HB1
      have hb0' := hb0
      clear hb0
      refine H12.condF rfl ?_
      refine H12.rg 1 fun a13 H13 => ?_
      refine H13.ld 0 (HB1.own.li 0 20) fun a14 H14 => ?_
      refine H14.cl (rowBig b0 m.id hi.1 hi.2 _ HB1.bw) ?_
      rintro a15 v12 w2 ⟨R12, hb⟩ H15
      have HB2 := HB1.call hb
      clear hb
      refine H15.ms 1 fun a16 H16 => ?_
      refine wpList_nil ?_
      refine block_normal ?_
      refine then_normal ?_
      exact ⟨_, H16.keep ⟨rfl, rfl, trivial⟩, (by rw [pre_i k1 k2 k3 q100]; exact R12.base (Nat.le_of_eq hb0'.symm)), HB2.low (Nat.le_of_eq hb0'.symm) O1⟩
 rintro a4 w2 ⟨v3, H4, R3, HB2⟩
 obtain ⟨b0, hb0'⟩ : ∃ b0, b0 = w1.heap.size := ⟨_, rfl⟩
 rw [← hb0'] at R3 HB2
 refine wp_seq_join (fun a w' => ∃ v, Has a 159 [(1, pz w.heap.size), (3, v)] ∧ RowIs b0 ((preBy m) ++ wishesBy m.wishes) v w' ∧ Base w b0 [(w.heap.size, (mqCells m (.slice A1 m.codes.length c1) (.slice A2 m.wishes.length c2) (.slice A3 m.filters.length c3)))] w') ?_ ?_
 ·skip
  refine H4.rg 1 fun a5 H5 => nt ?_
  refine wp_block ?_
  refine wp_loop_up m.wishes.length (fun k a w' => ∃ v, Has a 159 [(1, pz w.heap.size), (3, v), (5, iz k)] ∧ RowIs b0 ((preBy m) ++ wishesBy (m.wishes.take k)) v w' ∧ Base w b0 [(w.heap.size, (mqCells m (.slice A1 m.codes.length c1) (.slice A2 m.wishes.length c2) (.slice A3 m.filters.length c3)))] w') ?_ ?_
  ·exact ⟨_, H5.keep ⟨rfl, rfl, rfl, trivial⟩, (by rw [List.take_zero]; simpa [wishesBy] using R3), HB2⟩
  ·rintro k a6 w3 hkn ⟨v3, H6, R3, HB3⟩
   have hlb : (wishesBy (m.wishes.take k)).length ≤ 1000 := by
    have := wishesBy_le _ (wishesAll_take k hwa); rw [List.length_take] at this; omega
   by_cases hlt : k < m.wishes.length
   ·skip
    refine H6.rg 2 fun a8 H8 => ?_
    refine H8.ld 0 (HB3.own.l7 0 22) fun a9 H9 => ?_
    refine H9.len gz rfl rfl rfl rfl Tryz.underlying46 ?_
    intro a10 H10
    refine H10.bb 0 rfl rfl rfl rfl rfl rfl (lss_i _ _ true (by simpa using hlt) _ _ _) rfl fun a11 H11 => nt ?_
    refine H11.condT rfl ?_
    refine skip_wp ?_
    refine then_normal ?_
    repeat (refine wp_seq ?_)
    refine wp_block ?_
    obtain ⟨gb, go, x, hA, hgb, hx, hc0, hc1⟩ := Reads.wish r2 rfl hlt
    obtain ⟨hxs, hx0, hx1⟩ := wishesAll_get hwa hx
    obtain ⟨g5, hg5⟩ : ∃ g5, g5 = w3.heap.size := ⟨_, rfl⟩
    have hfar : ∀ g, g5 ≤ g → some g ≠ v3.ownBlock := fun g hg => R3.away (.inr (hg5 ▸ hg))
    refine H11.dr HB3 [1, 5] rfl [er 0 111 [7] (fun v w => v = v3 ∧ RowIs b0 ((preBy m) ++ wishesBy (m.wishes.take k)) v w), ec 1 112 (.pointer (some ⟨w.heap.size, 22, none⟩)), ec 2 113 (.slice A2 m.wishes.length c2), ec 3 114 (iz k), ec 4 115 (.pointer (some ⟨gb, go + k * 2, none⟩)), ec 5 116 (.pointer (some ⟨gb, go + k * 2, none⟩)), ec 6 117 (.string x.1), er 7 118 [16] (fun v w => RowIs b0 (((preBy m) ++ wishesBy (m.wishes.take k)) ++ strB x.1) v w), ec 8 119 (.pointer (some ⟨w.heap.size, 22, none⟩)), ec 9 120 (.slice A2 m.wishes.length c2), ec 10 121 (iz k), ec 11 122 (.pointer (some ⟨gb, go + k * 2, none⟩)), ec 12 123 (.pointer (some ⟨gb, go + k * 2 + 1, none⟩)), ec 13 124 (iz x.2), ec 14 125 (.int .u8 (x.2 % 256)), er 15 126 [16] (fun v w => ∃ g, v = .slice (some ⟨g, 0, none⟩) 1 1 ∧ g5 ≤ g ∧ g < w.heap.size ∧ BytesAre [UInt8.ofNat x.2.toNat] v w), er 16 127 [] (fun v w => RowIs b0 ((((preBy m) ++ wishesBy (m.wishes.take k)) ++ strB x.1) ++ [UInt8.ofNat x.2.toNat]) v w), er 17 3 [] (fun v w => RowIs b0 ((((preBy m) ++ wishesBy (m.wishes.take k)) ++ strB x.1) ++ [UInt8.ofNat x.2.toNat]) v w), er 1000 3 [7, 17] (fun v w => v = v3 ∧ RowIs b0 ((preBy m) ++ wishesBy (m.wishes.take k)) v w), er 1001 158 [] (fun _ w => g5 ≤ w.heap.size)] rfl ⟨jm, (jl fun _ h => h.own.l7 0 22), jm, (jI rfl rfl rfl rfl rfl rfl fun ww => (show (Instr.indexAt 46 (.slice A2 m.wishes.length c2) (iz k)).run Tryz.prog ww = .ok (.pointer (some ⟨gb, go + k * 2, none⟩)) ww by rw [hA]; exact index_2 46 Tryz.underlying46 (fun _ => by kernel_rfl) _ _ _ _ _ hlt _)), (jf (fun g w => fieldO_0 (go + k * 2) g w)), (jl fun _ h => (load1_s _ _ _ _ ((cellB h.own.bel hgb).trans hc0))), jm, (jl fun _ h => h.own.l7 0 22), jm, (jI rfl rfl rfl rfl rfl rfl fun ww => (show (Instr.indexAt 46 (.slice A2 m.wishes.length c2) (iz k)).run Tryz.prog ww = .ok (.pointer (some ⟨gb, go + k * 2, none⟩)) ww by rw [hA]; exact index_2 46 Tryz.underlying46 (fun _ => by kernel_rfl) _ _ _ _ _ hlt _)), (jf (fun g w => fieldO_1 (go + k * 2) g w)), (jl fun _ h => (load1_i _ _ _ _ ((cellB h.own.bel hgb).trans hc1))), (jc fun _ => (conv_u8 _ _)), trivial⟩ ⟨(by rw [H11.at_ 3 _ rfl]; exact ⟨rfl, R3.drew⟩), (Nat.le_of_eq hg5), trivial⟩ ?_ ?_
    ·intro listed aa ww i o hs hni hcl ho hd hI hh
     have hls : listed.size = 18 := hs
     rcases hh with rfl | rfl | rfl | rfl | rfl | hh
     ·obtain rfl := pick_op ho rfl
      have r3 := hI.vs _ (ma 18 rfl) (.inl (by rw [hls]; show 18 ≤ 1000; decide)) ⟨(Bool.eq_false_iff.2 fun h => absurd (hni.symm.trans (ran_of (hcl 7 _ rfl h) 0 (by kernel_rfl))) (by decide)), (Bool.eq_false_iff.2 fun h => absurd (hni.symm.trans (ran_of (hcl 7 _ rfl (ran_of (hcl 16 _ rfl (ran_of (hcl 17 _ rfl h) 16 (by kernel_rfl))) 7 (by kernel_rfl))) 0 (by kernel_rfl))) (by decide)), trivial⟩
      refine wpOp_go ho gz 111 rfl (aa.eval (.tmp 3)) ww (run_move (.inl rfl) rfl) ?_
      exact hI.ph hls 0 rfl (aa.eval (.tmp 3)) r3 hI.wp AllC.same
     ·obtain rfl := pick_op ho rfl
      have r111 := hI.vs _ (ma 0 rfl) (.inr (ran_of hd 0 (by kernel_rfl))) ⟨hni, trivial⟩
      obtain ⟨e111, hR⟩ := r111
      have r117 := hI.vs _ (ma 6 rfl) (.inr (ran_of hd 6 (by kernel_rfl))) trivial
      have HH : Has aa 159 [(111, v3), (117, .string x.1)] := Has.of hI.sz hI.df ⟨e111, r117, trivial⟩
      rw [e111] at hR
      refine wpOp_enter ho gz 118 rfl 106 _ (run_callH HH rfl rfl (fun _ _ => by kernel_rfl)) _ (rowTextRG b0 ((preBy m) ++ wishesBy (m.wishes.take k)) v3 x.1 (by omega) ww hR hI.wp.bw (by simp only [List.length_append]; omega)) ?_
      rintro v' w' ⟨hrow, hb0, hK⟩
      exact hI.ph hls 7 rfl (v') hrow (hI.wp.step hb0) ⟨fun _ h => absurd (by show 7 ∈ ([7] : List Nat); decide) h, fun h => absurd rfl h, fun _ _ _ _ _ h => lit_keep hK hfar hb0.size h, fun _ _ h => absurd (hni.symm.trans (ran_of (hcl 16 _ rfl (h.resolve_left (by rw [hls]; show ¬ 18 ≤ 16; decide))) 7 (by kernel_rfl))) (by decide), fun _ _ h => absurd (hni.symm.trans (ran_of (hcl 16 _ rfl (ran_of (hcl 17 _ rfl (h.resolve_left (by rw [hls]; show ¬ 18 ≤ 17; decide))) 16 (by kernel_rfl))) 7 (by kernel_rfl))) (by decide), fun _ h => absurd (by show 7 ∈ ([7, 17] : List Nat); decide) h, fun _ _ _ _ _ h => Nat.le_trans h hb0.size, trivial⟩
     ·obtain rfl := pick_op ho rfl
      have r125 := hI.vs _ (ma 14 rfl) (.inr (ran_of hd 14 (by kernel_rfl))) trivial
      have rbox := hI.vs _ (ma 19 rfl) (.inl (by rw [hls]; show 18 ≤ 1001; decide)) trivial
      have hg5 : g5 ≤ ww.heap.size := rbox
      have HH : Has aa 159 [(125, .int .u8 (x.2 % 256))] := Has.of hI.sz hI.df ⟨r125, trivial⟩
      obtain ⟨hby, hb⟩ := bytes_lit ww [UInt8.ofNat x.2.toNat] [.int .u8 (x.2 % 256)] (by rw [byte_of_int _ hx0]; rfl) 5 1 rfl
      refine wpOp_go ho gz 126 rfl (.slice (some ⟨ww.heap.size, 0, none⟩) 1 1) (ww.alloc (.cells ([.int .u8 (x.2 % 256)] : List Value).toArray 5)) (run_any HH (by intro cs b h; cases h) (by kernel_rfl) (by kernel_rfl)) ?_
      exact hI.ph hls 15 rfl (.slice (some ⟨ww.heap.size, 0, none⟩) 1 1) ⟨_, rfl, hg5, lt_alloc ww _, hby⟩ (hI.wp.call hb) ⟨fun _ _ _ _ _ h => ⟨h.1, h.2.below hb⟩, fun _ _ _ _ _ h => h.below hb, fun h => absurd rfl h, fun _ _ _ _ _ h => h.below hb, fun _ _ _ _ _ h => h.below hb, fun _ _ _ _ _ h => ⟨h.1, h.2.below hb⟩, fun _ _ _ _ _ h => Nat.le_trans h hb.size, trivial⟩
     ·obtain rfl := pick_op ho rfl
      have r118 := hI.vs _ (ma 7 rfl) (.inr (ran_of hd 7 (by kernel_rfl))) ⟨hni, trivial⟩
      have r126 := hI.vs _ (ma 15 rfl) (.inr (ran_of hd 15 (by kernel_rfl))) ⟨hni, trivial⟩
      obtain ⟨_, _, _, _, hby⟩ := r126
      obtain ⟨v', w', hrun, hrow, hb0, hg⟩ := run_append_row (P := Tryz.prog) (a := aa) (w := ww) Tryz.underlying31 info_u8 (o := ⟨some 127, _, _, _, _, none⟩) rfl rfl rfl r118 hby (by simp only [List.length_append, strB_length, List.length_cons, List.length_nil]; omega) hI.wp.bw
      refine wpOp_go ho gz 127 rfl v' w' hrun ?_
      exact hI.ph hls 16 rfl (v') hrow (hI.wp.step hb0) ⟨fun _ _ _ hk => absurd (hk.1.symm.trans (ran_of hd 7 (by kernel_rfl))) (by decide), fun _ h => absurd (by show 16 ∈ ([16] : List Nat); decide) h, fun _ h => absurd (by show 16 ∈ ([16] : List Nat); decide) h, fun h => absurd rfl h, fun _ _ h => absurd (hni.symm.trans (ran_of (hcl 17 _ rfl (h.resolve_left (by rw [hls]; show ¬ 18 ≤ 17; decide))) 16 (by kernel_rfl))) (by decide), fun _ _ _ hk => absurd (hk.1.symm.trans (ran_of hd 7 (by kernel_rfl))) (by decide), fun _ _ _ _ _ h => Nat.le_trans h hb0.size, trivial⟩
     ·obtain rfl := pick_op ho rfl
      have r_127 := hI.vs _ (ma 16 rfl) (.inr (ran_of hd 16 (by kernel_rfl))) trivial
      have HH : Has aa 159 [(127, aa.eval (.tmp 127))] := Has.of hI.sz hI.df ⟨rfl, trivial⟩
      refine wpOp_go ho gz 3 rfl (aa.eval (.tmp 127)) ww (run_move (.inr rfl) (HH.ev rfl)) ?_
      exact hI.ph hls 17 rfl (aa.eval (.tmp 127)) r_127 hI.wp AllC.same
     ·exact False.elim hh
    ·intro listed a12 w4 hall hI
     have r_3 := hI.vs _ (ma 17 rfl) (.inr (hall 17 (by decide))) trivial
     have H12 : Has a12 159 [(1, pz w.heap.size), (5, iz k), (3, a12.eval (.tmp 3))] := Has.of hI.sz hI.df ⟨hI.fx.1, hI.fx.2.1, rfl, trivial⟩
     have HB4 := hI.wp
     have R3_4 : RowIs b0 ((((preBy m) ++ wishesBy (m.wishes.take k)) ++ strB x.1) ++ [UInt8.ofNat x.2.toNat]) (a12.eval (.tmp 3)) w4 := r_3
     refine block_normal ?_
     refine then_normal ?_
     refine H12.rg 1 fun a13 H13 => ?_
     refine H13.bb 1 rfl rfl rfl rfl rfl rfl (succ_i _ (by omega) _ _ _) rfl fun a15 H15 => nt ?_
     exact ⟨hlt, _, H15.keep ⟨rfl, rfl, rfl, trivial⟩, (by rw [take_snoc? _ _ _ hx, wishesBy_app, ← List.append_assoc, ← List.append_assoc]; exact R3_4), HB4⟩
   ·skip
    refine H6.rg 2 fun a8 H8 => ?_
    refine H8.ld 0 (HB3.own.l7 0 22) fun a9 H9 => ?_
    refine H9.len gz rfl rfl rfl rfl Tryz.underlying46 ?_
    intro a10 H10
    refine H10.bb 0 rfl rfl rfl rfl rfl rfl (lss_i _ _ false (by simpa using hlt) _ _ _) rfl fun a11 H11 => nt ?_
    refine H11.condF rfl ?_
    refine wp_exit ?_
    repeat (with_reducible refine then_exit ?_)
    refine block_leave ?_
    refine then_normal ?_
    rw [List.take_of_length_le (by omega)] at R3
    exact ⟨_, H11.keep ⟨rfl, rfl, trivial⟩, R3, HB3⟩
 rintro a5 w3 ⟨v3, H5, R3, HB3⟩
 refine wp_seq_join (fun a w' => ∃ v, Has a 159 [(1, pz w.heap.size), (3, v)] ∧ RowIs b0 (((preBy m) ++ wishesBy m.wishes) ++ codesBy m.codes) v w' ∧ Base w b0 [(w.heap.size, (mqCells m (.slice A1 m.codes.length c1) (.slice A2 m.wishes.length c2) (.slice A3 m.filters.length c3)))] w') ?_ ?_
 ·skip
  refine H5.rg 1 fun a6 H6 => nt ?_
  refine wp_block ?_
  refine wp_loop_up m.codes.length (fun k a w' => ∃ v, Has a 159 [(1, pz w.heap.size), (3, v), (6, iz k)] ∧ RowIs b0 (((preBy m) ++ wishesBy m.wishes) ++ codesBy (m.codes.take k)) v w' ∧ Base w b0 [(w.heap.size, (mqCells m (.slice A1 m.codes.length c1) (.slice A2 m.wishes.length c2) (.slice A3 m.filters.length c3)))] w') ?_ ?_
  ·exact ⟨_, H6.keep ⟨rfl, rfl, rfl, trivial⟩, (by rw [List.take_zero]; simpa [codesBy] using R3), HB3⟩
  ·rintro k a7 w4 hkn ⟨v3, H7, R3, HB4⟩
   have hlb : (codesBy (m.codes.take k)).length ≤ 1000 := by
    rw [codesBy_le, List.length_take]; omega
   by_cases hlt : k < m.codes.length
   ·skip
    refine H7.rg 2 fun a9 H9 => ?_
    refine H9.ld 0 (HB4.own.l6 0 15) fun a10 H10 => ?_
    refine H10.len gz rfl rfl rfl rfl Tryz.underlying45 ?_
    intro a11 H11
    refine H11.bb 0 rfl rfl rfl rfl rfl rfl (lss_i _ _ true (by simpa using hlt) _ _ _) rfl fun a12 H12 => nt ?_
    refine H12.condT rfl ?_
    refine skip_wp ?_
    refine then_normal ?_
    repeat (refine wp_seq ?_)
    refine wp_block ?_
    obtain ⟨gb, go, x, hA, hgb, hx, hcell⟩ := Reads.int (r1.below HB4.own.bel) rfl hlt
    obtain ⟨hx0, hx1⟩ := codesAll_get hca hx
    refine H12.rg 2 fun a14 H14 => ?_
    refine H14.ld 1 (HB4.own.l6 0 15) fun a16 H16 => ?_
    refine H16.index gz rfl rfl rfl rfl rfl (show (Instr.indexAt 45 (.slice A1 m.codes.length c1) (iz k)).run Tryz.prog _ = .ok (.pointer (some ⟨gb, go + k, none⟩)) _ by rw [hA]; exact index_1 45 Tryz.underlying45 (fun _ => by kernel_rfl) _ _ _ _ _ hlt _) ?_
    intro a17 H17
    refine H17.ld 0 (load1_i _ _ _ _ hcell) fun a18 H18 => ?_
    refine H18.cv 0 (conv_u8 _ _) fun a19 H19 => ?_
    refine H19.bytes gz rfl rfl [UInt8.ofNat x.toNat] [.int .u8 (x % 256)] (by rw [byte_of_int _ hx0]; rfl) (k := 1) rfl 5 (by intro cs b h; cases h) (by kernel_rfl) (by kernel_rfl) ?_
    intro a20 v142 w5 H20 B142 hb
    have HB5 := HB4.call hb
    have R3 := R3.below hb
    clear hb
    refine H20.appendRow Tryz.underlying31 info_u8 gz rfl rfl rfl rfl rfl R3 B142 (by simp only [List.length_append, List.length_cons, List.length_nil]; omega) HB5.bw ?_
    intro a21 v143 w6 H21 R143 hb _
    have HB6 := HB5.step hb
    clear hb
    refine H21.ms 1 fun a22 H22 => ?_
    refine wpList_nil ?_
    refine block_normal ?_
    refine then_normal ?_
    refine H22.rg 1 fun a23 H23 => ?_
    refine H23.bb 1 rfl rfl rfl rfl rfl rfl (succ_i _ (by omega) _ _ _) rfl fun a25 H25 => nt ?_
    exact ⟨hlt, _, H25.keep ⟨rfl, rfl, rfl, trivial⟩, (by rw [take_snoc? _ _ _ hx, codesBy_app, ← List.append_assoc]; exact R143), HB6⟩
   ·skip
    refine H7.rg 2 fun a9 H9 => ?_
    refine H9.ld 0 (HB4.own.l6 0 15) fun a10 H10 => ?_
    refine H10.len gz rfl rfl rfl rfl Tryz.underlying45 ?_
    intro a11 H11
    refine H11.bb 0 rfl rfl rfl rfl rfl rfl (lss_i _ _ false (by simpa using hlt) _ _ _) rfl fun a12 H12 => nt ?_
    refine H12.condF rfl ?_
    refine wp_exit ?_
    repeat (with_reducible refine then_exit ?_)
    refine block_leave ?_
    refine then_normal ?_
    rw [List.take_of_length_le (by omega)] at R3
    exact ⟨_, H12.keep ⟨rfl, rfl, trivial⟩, R3, HB4⟩
 rintro a6 w4 ⟨v3, H6, R3, HB4⟩
 refine wp_seq_join (fun a w' => ∃ v, Has a 159 [(1, pz w.heap.size), (3, v)] ∧ RowIs b0 ((((preBy m) ++ wishesBy m.wishes) ++ codesBy m.codes) ++ filtersBy m.filters) v w' ∧ Base w b0 [(w.heap.size, (mqCells m (.slice A1 m.codes.length c1) (.slice A2 m.wishes.length c2) (.slice A3 m.filters.length c3)))] w') ?_ ?_
 ·skip
  refine H6.rg 1 fun a7 H7 => nt ?_
  refine wp_block ?_
  refine wp_loop_up m.filters.length (fun k a w' => ∃ v, Has a 159 [(1, pz w.heap.size), (3, v), (7, iz k)] ∧ RowIs b0 ((((preBy m) ++ wishesBy m.wishes) ++ codesBy m.codes) ++ filtersBy (m.filters.take k)) v w' ∧ Base w b0 [(w.heap.size, (mqCells m (.slice A1 m.codes.length c1) (.slice A2 m.wishes.length c2) (.slice A3 m.filters.length c3)))] w') ?_ ?_
  ·exact ⟨_, H7.keep ⟨rfl, rfl, rfl, trivial⟩, (by rw [List.take_zero]; simpa [filtersBy] using R3), HB4⟩
  ·rintro k a8 w5 hkn ⟨v3, H8, R3, HB5⟩
   have hlb : (filtersBy (m.filters.take k)).length ≤ 1000 := by
    have := filtersBy_le _ (filtersAll_take k hfa); rw [List.length_take] at this; omega
   by_cases hlt : k < m.filters.length
   ·skip
    refine H8.rg 2 fun a10 H10 => ?_
    refine H10.ld 0 (HB5.own.l8 0 23) fun a11 H11 => ?_
    refine H11.len gz rfl rfl rfl rfl Tryz.underlying47 ?_
    intro a12 H12
    refine H12.bb 0 rfl rfl rfl rfl rfl rfl (lss_i _ _ true (by simpa using hlt) _ _ _) rfl fun a13 H13 => nt ?_
    refine H13.condT rfl ?_
    refine skip_wp ?_
    refine then_normal ?_
    repeat (refine wp_seq ?_)
    refine wp_block ?_
    obtain ⟨gb, go, x, hA, hgb, hx, hcell⟩ := Reads.str (r3.below HB5.own.bel) rfl hlt
    have hxs := filtersAll_get hfa hx
    refine H13.rg 2 fun a15 H15 => ?_
    refine H15.ld 1 (HB5.own.l8 0 23) fun a17 H17 => ?_
    refine H17.index gz rfl rfl rfl rfl rfl (show (Instr.indexAt 47 (.slice A3 m.filters.length c3) (iz k)).run Tryz.prog _ = .ok (.pointer (some ⟨gb, go + k, none⟩)) _ by rw [hA]; exact index_1 47 Tryz.underlying47 (fun _ => by kernel_rfl) _ _ _ _ _ hlt _) ?_
    intro a18 H18
    refine H18.ld 0 (load1_s _ _ _ _ hcell) fun a19 H19 => ?_
    refine H19.cl (rowTextR b0 ((((preBy m) ++ wishesBy m.wishes) ++ codesBy m.codes) ++ filtersBy (m.filters.take k)) _ x (by omega) _ R3 HB5.bw (by simp only [List.length_append]; omega)) ?_
    rintro a20 v157 w6 ⟨R157, hb⟩ H20
    have HB6 := HB5.step hb
    clear hb
    refine H20.ms 1 fun a21 H21 => ?_
    refine wpList_nil ?_
    refine block_normal ?_
    refine then_normal ?_
    refine H21.rg 1 fun a22 H22 => ?_
    refine H22.bb 1 rfl rfl rfl rfl rfl rfl (succ_i _ (by omega) _ _ _) rfl fun a24 H24 => nt ?_
    exact ⟨hlt, _, H24.keep ⟨rfl, rfl, rfl, trivial⟩, (by rw [take_snoc? _ _ _ hx, filtersBy_app, ← List.append_assoc]; exact R157), HB6⟩
   ·skip
    refine H8.rg 2 fun a10 H10 => ?_
    refine H10.ld 0 (HB5.own.l8 0 23) fun a11 H11 => ?_
    refine H11.len gz rfl rfl rfl rfl Tryz.underlying47 ?_
    intro a12 H12
    refine H12.bb 0 rfl rfl rfl rfl rfl rfl (lss_i _ _ false (by simpa using hlt) _ _ _) rfl fun a13 H13 => nt ?_
    refine H13.condF rfl ?_
    refine wp_exit ?_
    repeat (with_reducible refine then_exit ?_)
    refine block_leave ?_
    refine then_normal ?_
    rw [List.take_of_length_le (by omega)] at R3
    exact ⟨_, H13.keep ⟨rfl, rfl, trivial⟩, R3, HB5⟩
 rintro a7 w5 ⟨v3, H7, R3, HB5⟩
 refine H7.rg 2 fun a9 H9 => nt ?_
 refine wp_ret ?_
 repeat (first | (with_reducible refine block_ret ?_) | (with_reducible refine then_ret ?_))
 refine bodyPost_ret (results_tmp rfl _ _ _) H9.df ⟨_, congrArg Ending.returned (H9.at_ 2 _ rfl), ?_, HB5.own.bel⟩
 rw [body_pre hm]
 exact R3.base (by rw [hb0']; omega)
end
section
open Go.RowKit
theorem Laid.bytes {xs : List UInt8} {w w' : World} {e : Ending} (h : Laid xs w e w') : ∃ v', e = .returned v' ∧ (BytesAre xs v' w' ∧ Below w.heap.size w w') := by
 obtain ⟨v, rfl, hr, hbl⟩ := h
 exact ⟨v, rfl, hr.read, hbl⟩
theorem shl1_u8 (k : Int) (h0 : 0 ≤ k) (h2 : k ≤ 2) (x y : Operand) (w : World) : (do eqGuard .shl 5 x y (.int .u8 (k % 256)) (.int .u64 1); binOp .shl 5 (.int .u8 (k % 256)) (.int .u64 1) : Sem Value).run Tryz.prog w = .ok (.int .u8 ((2 * k.toNat : Nat) : Int)) w := by
 have : k = 0 ∨ k = 1 ∨ k = 2 := by omega
 rcases this with rfl | rfl | rfl <;> simp [go_sem] <;> rfl
theorem shl4_u8 (k : Int) (h0 : 0 ≤ k) (h2 : k ≤ 14) (x y : Operand) (w : World) : (do eqGuard .shl 5 x y (.int .u8 (k % 256)) (.int .u64 4); binOp .shl 5 (.int .u8 (k % 256)) (.int .u64 4) : Sem Value).run Tryz.prog w = .ok (.int .u8 ((16 * k.toNat : Nat) : Int)) w := by
 obtain ⟨n, rfl⟩ : ∃ n : Nat, k = n := ⟨k.toNat, by omega⟩
 have e : IntKind.u8.wrap ((n : Int) % 256 * 16) = ((16 * n : Nat) : Int) := by
  show ((n : Int) % 256 * 16) % 256 = _
  omega
 simp [go_sem]
 rw [e]
 omega
theorem rem128 (n : Nat) (x y : Operand) (w : World) : (do eqGuard .rem 3 x y (iz n) (iz 128); binOp .rem 3 (iz n) (iz 128) : Sem Value).run Tryz.prog w = .ok (iz ((n % 128 : Nat) : Int)) w := by
 simp [go_sem]
 rw [Int.tmod_eq_emod_of_nonneg (by omega)]
theorem quo128 (n : Nat) (h : n < 16384) (x y : Operand) (w : World) : (do eqGuard .quo 3 x y (iz n) (iz 128); binOp .quo 3 (iz n) (iz 128) : Sem Value).run Tryz.prog w = .ok (iz ((n / 128 : Nat) : Int)) w := by
 simp [go_sem]
 exact IntWalk.i64_in _ (by omega)
theorem conv_u8n (n : Nat) (h : n < 256) (w : World) : (convert 3 5 (iz n)).run Tryz.prog w = .ok (.int .u8 (n : Int)) w := by
 rw [conv_u8]
 congr 2
 omega
theorem or128n (n : Nat) : (n % 128 ||| 128) = n % 128 + 128 := by
 have h : (128 ||| n % 128) = 128 + n % 128 := (Nat.two_pow_add_eq_or_of_lt (i := 7) (show n % 128 < 2 ^ 7 by omega) 1).symm
 rw [Nat.or_comm, h, Nat.add_comm]
theorem refBytes (m : Mq) (vc vw vf : Value) (w : World) (hm : mayB m) (hL : MqL w w.heap.size m vc vw vf) :
  Calls Tryz.prog 35 #[.agg (mqCells m vc vw vf).toArray] w (Laid (layB m) w) := by
 have hbl := body_le hm.1
 have hfl := flagsBy_le hm.1
 have hkk := may_kind hm.1
 have hor : ((16 * m.kind.toNat : Nat) ||| flagsBy m) = 16 * m.kind.toNat + flagsBy m := or16 _ _ (by omega)
 go_enter Tryz.func35, Tryz.ntmps35
 refine Has.start 57 [(0, .agg (mqCells m vc vw vf).toArray)] rfl rfl ⟨rfl, trivial⟩ ?_
 intro a0 H0
 have O0 := Own.start w
 refine rl ?_
 refine H0.bx O0 1 fun a2 w1 O1 H2 => nt ?_
 have HB1 := Base.of O1
 obtain ⟨b0, hb0⟩ : ∃ b0, b0 = w1.heap.size := ⟨_, rfl⟩
 rw [← hb0] at HB1
 have hb0' := hb0
 clear hb0
 refine H2.rg 1 fun a3 H3 => nt ?_
 refine wp_seq_join (fun a w' => Has a 57 [(1, pz w.heap.size), (3, .int .u8 ((flagsBy m : Nat) : Int))] ∧ Base w b0 [(w.heap.size, (mqCells m vc vw vf))] w') ?_ ?_
 ·skip
  refine H3.rg 1 fun a4 H4 => ?_
  refine H4.ld 0 (HB1.own.li 0 0) fun a5 H5 => nt ?_
  refine wp_block ?_
  obtain ⟨b3, h3⟩ : ∃ b, (m.kind == 3) = b := ⟨_, rfl⟩
  cases b3 with
  | true =>
   have k3 : m.kind = 3 := by simpa using h3
   refine rl ?_
   refine H5.bn 1 (eql_iB _ _ _ h3 _ _ _) fun a7 H7 => nt ?_
   refine H7.condT rfl ?_
   have hp3 : publishOk m = true := by have h := hm.1; unfold okOf at h; rw [if_neg (by omega), if_neg (by omega), if_pos k3] at h; exact h
   obtain ⟨_, hq0, hq2, _, _, _⟩ := publish_facts hp3
   have H8 := H7.kp [1]
   have g1 : cb m.dup 8 < 256 := cb_lt _ _ (by decide)
   have g2 : 2 * m.qos.toNat < 256 := by omega
   have g3 : (cb m.dup 8 ||| 2 * m.qos.toNat) < 256 := or_lt8 g1 g2
   have g4 : cb m.retain 1 < 256 := cb_lt _ _ (by decide)
   have gf : ((cb m.dup 8 ||| 2 * m.qos.toNat) ||| cb m.retain 1) = cb m.dup 8 + 2 * m.qos.toNat + cb m.retain 1 := pub_or _ _ _ (by omega)
   refine H8.dr HB1 [1] rfl [ec 0 11 (.pointer (some ⟨w.heap.size, 16, none⟩)), ec 1 12 (.bool m.dup), ec 2 13 (.int .u8 ((cb m.dup 8 : Nat) : Int)), ec 3 14 (.pointer (some ⟨w.heap.size, 17, none⟩)), ec 4 15 (iz m.qos), ec 5 16 (.int .u8 (m.qos % 256)), ec 6 17 (.int .u8 ((2 * m.qos.toNat : Nat) : Int)), ec 7 18 (.int .u8 (((cb m.dup 8 ||| 2 * m.qos.toNat) : Nat) : Int)), ec 8 19 (.pointer (some ⟨w.heap.size, 18, none⟩)), ec 9 20 (.bool m.retain), ec 10 21 (.int .u8 ((cb m.retain 1 : Nat) : Int)), ec 11 22 (.int .u8 ((((cb m.dup 8 ||| 2 * m.qos.toNat) ||| cb m.retain 1) : Nat) : Int)), ec 12 3 (.int .u8 ((((cb m.dup 8 ||| 2 * m.qos.toNat) ||| cb m.retain 1) : Nat) : Int))] rfl ⟨jm, (jl fun _ h => h.own.lb 0 16), (jq fun ww _ => (refBitN m.dup 8 8 rfl ww)), jm, (jl fun _ h => h.own.li 0 17), (jc fun _ => (conv_u8 _ _)), (jb fun _ => (shl1_u8 _ hq0 hq2 _ _ _)), (jb fun _ => (or_u _ _ g1 g2 _ _ _)), jm, (jl fun _ h => h.own.lb 0 18), (jq fun ww _ => (refBitN m.retain 1 1 rfl ww)), (jb fun _ => (or_u _ _ g3 g4 _ _ _)), jm, trivial⟩ trivial ?_ ?_
   ·exact fun _ _ _ _ _ _ _ _ _ _ _ hh => False.elim hh
   ·intro listed a9 w2 hall hI
    have r_3 := hI.vs _ (ma 12 rfl) (.inr (hall 12 (by decide))) trivial
    have H9 : Has a9 57 [(1, pz w.heap.size), (3, .int .u8 ((((cb m.dup 8 ||| 2 * m.qos.toNat) ||| cb m.retain 1) : Nat) : Int))] := Has.of hI.sz hI.df ⟨hI.fx.1, r_3, trivial⟩
    have HB2 := hI.wp
    refine block_normal ?_
    refine then_normal ?_
    exact ⟨(by rw [show flagsBy m = _ from (by unfold flagsBy; rw [if_pos k3]; exact gf.symm : flagsBy m = ((cb m.dup 8 ||| 2 * m.qos.toNat) ||| cb m.retain 1))]; exact H9.keep ⟨rfl, rfl, trivial⟩), HB2⟩
  | false =>
   have k3 : ¬ m.kind = 3 := by simpa using h3
   refine rl ?_
   refine H5.bn 1 (eql_iB _ _ _ h3 _ _ _) fun a7 H7 => nt ?_
   refine H7.condF rfl ?_
   repeat (refine wp_seq ?_)
   obtain ⟨b6, h6⟩ : ∃ b, (m.kind == 6) = b := ⟨_, rfl⟩
   cases b6 with
   | true =>
    have k6 : m.kind = 6 := by simpa using h6
    refine rl ?_
    refine H7.bn 1 (eql_iB _ _ _ h6 _ _ _) fun a9 H9 => nt ?_
    refine H9.condT rfl ?_
    refine skip_wp ?_
    refine then_normal ?_
    refine H9.condT rfl ?_
    refine H9.rg 1 fun a10 H10 => ?_
    refine wpList_nil ?_
    refine block_normal ?_
    refine then_normal ?_
    exact ⟨(by rw [show flagsBy m = _ from (by unfold flagsBy; rw [if_neg k3]; simp [k6] : flagsBy m = 2)]; exact H10.keep ⟨rfl, rfl, trivial⟩), HB1⟩
   | false =>
    have k6 : ¬ m.kind = 6 := by simpa using h6
    refine rl ?_
    refine H7.bn 1 (eql_iB _ _ _ h6 _ _ _) fun a9 H9 => nt ?_
    refine H9.condF rfl ?_
    obtain ⟨b8, h8⟩ : ∃ b, (m.kind == 8) = b := ⟨_, rfl⟩
    cases b8 with
    | true =>
     have k8 : m.kind = 8 := by simpa using h8
     refine rl ?_
     refine H9.bn 1 (eql_iB _ _ _ h8 _ _ _) fun a11 H11 => nt ?_
     refine H11.condT rfl ?_
     refine skip_wp ?_
     refine then_normal ?_
     refine H11.condT rfl ?_
     refine H11.rg 1 fun a12 H12 => ?_
     refine wpList_nil ?_
     refine block_normal ?_
     refine then_normal ?_
     exact ⟨(by rw [show flagsBy m = _ from (by unfold flagsBy; rw [if_neg k3]; simp [k8] : flagsBy m = 2)]; exact H12.keep ⟨rfl, rfl, trivial⟩), HB1⟩
    | false =>
     have k8 : ¬ m.kind = 8 := by simpa using h8
     refine rl ?_
     refine H9.bn 1 (eql_iB _ _ _ h8 _ _ _) fun a11 H11 => nt ?_
     refine H11.condF rfl ?_
     obtain ⟨b10, h10⟩ : ∃ b, (m.kind == 10) = b := ⟨_, rfl⟩
     cases b10 with
     | true =>
      have k10 : m.kind = 10 := by simpa using h10
      refine rl ?_
      refine H11.bn 1 (eql_iB _ _ _ h10 _ _ _) fun a13 H13 => nt ?_
      refine H13.condT rfl ?_
      refine H13.rg 1 fun a14 H14 => ?_
      refine wpList_nil ?_
      refine block_normal ?_
      refine then_normal ?_
      exact ⟨(by rw [show flagsBy m = _ from (by unfold flagsBy; rw [if_neg k3]; simp [k10] : flagsBy m = 2)]; exact H14.keep ⟨rfl, rfl, trivial⟩), HB1⟩
     | false =>
      have k10 : ¬ m.kind = 10 := by simpa using h10
      refine rl ?_
      refine H11.bn 1 (eql_iB _ _ _ h10 _ _ _) fun a13 H13 => nt ?_
      refine H13.condF rfl ?_
      refine skip_wp ?_
      refine block_normal ?_
      refine then_normal ?_
      exact ⟨(by rw [show flagsBy m = _ from (by unfold flagsBy; simp [k3, k6, k8, k10] : flagsBy m = 0)]; exact H13.keep ⟨rfl, rfl, trivial⟩), HB1⟩
 rintro a4 w2 ⟨H4, HB2⟩
 have O2 := HB2.own
 refine rl ?_
 refine H4.lm O2 0 0 fun a5 H5 => ?_
 refine H5.cl ((refBody m _ _ _ _ hm (hL.next O2.bel)).mono fun _ _ h => h.bytes) ?_
 rintro a6 vb w3 ⟨hB, hb⟩ H6
 have O3 := O2.call hb
 clear hb
 obtain ⟨Ab, cb', rfl, hrb⟩ := hB
 have HB3 := Base.of O3
 obtain ⟨b0, hb0⟩ : ∃ b0, b0 = w3.heap.size := ⟨_, rfl⟩
 rw [← hb0] at HB3
 have hb0' := hb0
 clear hb0
 rw [← hb0'] at hrb
 refine H6.ms 1 fun a7 H7 => nt ?_
 refine H7.rg 1 fun a8 H8 => ?_
 refine H8.ld 0 (HB3.own.li 0 0) fun a9 H9 => ?_
 refine H9.cv 0 (conv_u8 _ _) fun a10 H10 => ?_
 refine H10.bb 1 rfl rfl rfl rfl rfl rfl (shl4_u8 _ (by omega) (by omega) _ _ _) rfl fun a12 H12 => ?_
 refine H12.bb 0 rfl rfl rfl rfl rfl rfl (or_u _ _ (by omega) (by omega) _ _ _) rfl fun a13 H13 => ?_
 refine H13.lit gz rfl rfl [UInt8.ofNat (16 * m.kind.toNat + flagsBy m)] [.int .u8 ((16 * m.kind.toNat ||| flagsBy m : Nat) : Int)] (by rw [hor, bv_nat _ (by omega)]; rfl) (k := 1) rfl 5 (by intro cs b h; cases h) (by kernel_rfl) (by kernel_rfl) HB3.bw ?_
 intro a14 v35 w4 H14 R35 hb
 have HB4 := HB3.call hb
 have hrb := hrb.below (hb.mono HB3.bw)
 clear hb
 refine H14.ms 1 fun a15 H15 => nt ?_
 refine H15.rg 1 fun a16 H16 => ?_
 refine H16.len gz rfl rfl rfl rfl Tryz.underlying31 ?_
 intro a17 H17
 refine H17.ms 1 fun a18 H18 => nt ?_
 repeat (refine wp_seq ?_)
 refine wp_block ?_
 refine wp_loop_up 2 (fun k a w' => ∃ n pre v, k < 2 ∧ n < 128 ^ (2 - k) ∧ vlen (bodyBy m).length = pre ++ vlen n ∧ pre.length ≤ 2 ∧ Has a 57 [(1, pz w.heap.size), (4, .slice Ab (bodyBy m).length cb'), (5, v), (6, iz n)] ∧ RowIs b0 ([UInt8.ofNat (16 * m.kind.toNat + flagsBy m)] ++ pre) v w' ∧ RB w' b0 Ab (bodyBy m) ∧ Base w b0 [(w.heap.size, (mqCells m vc vw vf))] w') ?_ ?_
 ·exact ⟨_, [], _, by omega, by omega, rfl, by simp, H18.keep ⟨rfl, rfl, rfl, rfl, trivial⟩, by simpa using R35, hrb, HB4⟩
 ·rintro k a19 w5 hkn ⟨n, pre, v5, hk2, hn, hpre, hpl, H19, R5, hrb, HB5⟩
  have hn2 : n < 16384 := by
   rcases Nat.lt_or_ge k 1 with h | h
   ·obtain rfl : k = 0 := by omega
    omega
   ·obtain rfl : k = 1 := by omega
    omega
  by_cases hlt : 128 ≤ n
  ·skip
   have hk0 : k = 0 := by
    rcases Nat.lt_or_ge k 1 with h | h
    ·omega
    ·obtain rfl : k = 1 := by omega
     omega
   subst hk0
   refine H19.rg 1 fun a20 H20 => ?_
   refine H20.bb 0 rfl rfl rfl rfl rfl rfl (geq_i _ _ true (by simp; omega) _ _ _) rfl fun a21 H21 => nt ?_
   repeat (refine wp_seq ?_)
   refine H21.condT rfl ?_
   refine skip_wp ?_
   refine then_normal ?_
   repeat (refine wp_seq ?_)
   refine wp_block ?_
   refine H21.rg 2 fun a23 H23 => ?_
   refine H23.bn 0 (rem128 n _ _ _) fun a24 H24 => ?_
   refine H24.conv gz rfl rfl rfl rfl (conv_u8n _ (by omega) _) ?_
   intro a25 H25
   refine H25.bb 0 rfl rfl rfl rfl rfl rfl (or_u _ _ (by omega) (by decide) _ _ _) rfl fun a26 H26 => ?_
   refine H26.lit gz rfl rfl [UInt8.ofNat (n % 128 + 128)] [.int .u8 ((n % 128 ||| 128 : Nat) : Int)] (by rw [or128n, bv_nat _ (by omega)]; rfl) (k := 1) rfl 5 (by intro cs b h; cases h) (by kernel_rfl) (by kernel_rfl) HB5.bw ?_
   intro a27 v45 w6 H27 R45 hb
   have R5 := R5.below hb
   have HB6 := HB5.call hb
   have hrb := hrb.below (hb.mono HB5.bw)
   clear hb
   refine H27.appendRow Tryz.underlying31 info_u8 gz rfl rfl rfl rfl rfl R5 R45.read (by simp; omega) HB6.bw ?_
   intro a28 v46 w7 H28 R46 hb _
   have HB7 := HB6.step hb
   have hrb := hrb.below hb
   clear hb
   refine H28.ms 1 fun a29 H29 => nt ?_
   refine H29.rg 1 fun a30 H30 => ?_
   refine H30.bn 1 (quo128 n hn2 _ _ _) fun a32 H32 => ?_
   refine wpList_nil ?_
   refine block_normal ?_
   refine then_normal ?_
   refine ⟨by omega, n / 128, pre ++ [UInt8.ofNat (n % 128 + 128)], _, by omega, by omega, ?_, ?_, H32.keep ⟨rfl, rfl, rfl, rfl, trivial⟩, (by rw [← List.append_assoc]; exact R46), hrb, HB7⟩
   ·rw [hpre, vlen_step _ hlt, List.append_assoc]; rfl
   ·have : pre = [] := by
     have h1 := congrArg List.length hpre
     rw [vlen_step _ hlt] at h1
     have h2 := vlen_le (bodyBy m).length (by omega)
     have h3 := vlen_pos (n / 128)
     simp only [List.length_append, List.length_cons] at h1
     exact List.eq_nil_of_length_eq_zero (by omega)
    rw [this]; simp
  ·skip
   refine H19.rg 1 fun a20 H20 => ?_
   refine H20.bb 0 rfl rfl rfl rfl rfl rfl (geq_i _ _ false (by simp; omega) _ _ _) rfl fun a21 H21 => nt ?_
   repeat (refine wp_seq ?_)
   refine H21.condF rfl ?_
   refine wp_exit ?_
   repeat (with_reducible refine then_exit ?_)
   refine block_leave ?_
   refine then_normal ?_
   refine H21.rg 2 fun a23 H23 => ?_
   refine H23.cv 0 (conv_u8 _ _) fun a24 H24 => ?_
   refine H24.lit gz rfl rfl [UInt8.ofNat n] [.int .u8 ((n : Int) % 256)] (by rw [byte_of_int _ (by omega)]; rfl) (k := 1) rfl 5 (by intro cs b h; cases h) (by kernel_rfl) (by kernel_rfl) HB5.bw ?_
   intro a25 v52 w6 H25 R52 hb
   have R5 := R5.below hb
   have HB6 := HB5.call hb
   have hrb := hrb.below (hb.mono HB5.bw)
   clear hb
   refine H25.appendRow Tryz.underlying31 info_u8 gz rfl rfl rfl rfl rfl R5 R52.read (by simp; omega) HB6.bw ?_
   intro a26 v53 w7 H26 R53 hb _
   have HB7 := HB6.step hb
   have hrb := hrb.below hb
   clear hb
   refine H26.ms 1 fun a27 H27 => nt ?_
   refine H27.rg 2 fun a29 H29 => ?_
   refine H29.appendRow Tryz.underlying31 info_u8 gz rfl rfl rfl rfl rfl R53 ⟨_, _, rfl, hrb.more HB7.bw⟩ (by simp; omega) HB7.bw ?_
   intro a30 v56 w8 H30 R56 hb _
   have HB8 := HB7.step hb
   have hrb := hrb.below hb
   clear hb
   refine H30.ms 1 fun a31 H31 => nt ?_
   refine wp_ret ?_
   repeat (first | (with_reducible refine block_ret ?_) | (with_reducible refine then_ret ?_))
   refine bodyPost_ret (results_tmp rfl _ _ _) H31.df ⟨_, congrArg Ending.returned (H31.at_ 2 _ rfl), ?_, HB8.own.bel⟩
   have e : layB m = (([UInt8.ofNat (16 * m.kind.toNat + flagsBy m)] ++ pre) ++ [UInt8.ofNat n]) ++ bodyBy m := by
    unfold layB; rw [hpre, vlen_short _ (by omega)]; simp
   rw [e]; exact R56.base HB8.hb
end
section
open Go.RowKit
theorem load_mq {w : World} {b o : Nat} {m : Mq} {vc vw vf : Value} (h : w.rangeAt b o (mqCells m vc vw vf)) : (Instr.loadAt 49 (.pointer (some ⟨b, o, none⟩))).run Tryz.prog w = .ok (.agg (mqCells m vc vw vf).toArray) w :=
 run_loadAt_mid w b o 49 _ _ h Tryz.underlying49 rfl size_mq
theorem bytesYes (m : Mq) (vc vw vf : Value) (w : World) (hm : mayB m) (hL : MqL w w.heap.size m vc vw vf) (hF : MqFit m) (hW : Wd w) :
  Calls Tryz.prog 79 #[.agg (mqCells m vc vw vf).toArray] w fun e w' => ∃ v, e = .returned v ∧ (∃ vr, v = .tuple #[vr, iz 0] ∧ RowIs w.heap.size (layB m) vr w' ∧ Below w.heap.size w w') := by
 refine (packBytes m vc vw vf w hL hF hW).mono ?_
 rintro e w' (⟨_, v, rfl, hr, hb⟩ | ⟨hn, _⟩)
 ·exact ⟨_, rfl, v, rfl, hr, hb⟩
 ·exact absurd hm hn
theorem bytesNo (m : Mq) (vc vw vf : Value) (w : World) (hm : ¬ mayB m) (hL : MqL w w.heap.size m vc vw vf) (hF : MqFit m) (hW : Wd w) :
  Calls Tryz.prog 79 #[.agg (mqCells m vc vw vf).toArray] w fun e w' => ∃ v, e = .returned v ∧ (v = .tuple #[.slice none 0 0, iz 1] ∧ Below w.heap.size w w') := by
 refine (packBytes m vc vw vf w hL hF hW).mono ?_
 rintro e w' (⟨hn, _⟩ | ⟨_, rfl, hb⟩)
 ·exact absurd hn hm
 ·exact ⟨_, rfl, rfl, hb⟩
theorem eqMqS (m : Mq) (vc vw vf vc' vw' vf' : Value) (w : World) (ha : MqL w w.heap.size m vc vw vf) (hb : MqL w w.heap.size m vc' vw' vf') :
  Calls Tryz.prog 65 #[.agg (mqCells m vc vw vf).toArray, .agg (mqCells m vc' vw' vf').toArray] w fun e w' => e = .returned (.bool true) ∧ Below w.heap.size w w' := by
 have h := refEqMq m m vc vw vf vc' vw' vf' w ha hb
 rw [(same_iff m m).2 rfl] at h
 exact h
theorem mayB_of {m : Mq} (h : mayBb m = true) : mayB m := (mayBb_iff m).1 h
theorem mayB_not {m : Mq} (h : mayBb m = false) : ¬ mayB m := fun h2 => by rw [(mayBb_iff m).2 h2] at h; cases h
end
section
open Go.RowKit
theorem Has.nw {ops : Array Oper} {rest rest' : List Oper} {o1 o2 : Oper} {a : Act} {w W : World} {B : Nat} {bs : List (Nat × List Value)} {Q : Exit → Act → World → Prop} {n : Nat} {l l' : List (Nat × Value)} (H : Has a n l) (O : Own W B bs w) (k : Nat) {d : Nat} {y : Operand} {L : List Value} (h1 : L.all (·.oneCell') = true)
  (h : ∀ a' w', Below w.heap.size w w' → Own W B ((w.heap.size, L) :: bs) w' → Has a' n l' → wpList Tryz.prog ops Q rest' a' w') (ho : o1.op = .alloc 49 := by rfl) (hd : o1.dst = some d := by rfl) (hn : Nat.blt d n = true := by rfl) (hg : o1.guard = none := by rfl)
  (ho2 : o2.op = .store 49 (.tmp d) y := by rfl) (hd2 : o2.dst = none := by rfl) (hg2 : o2.guard = none := by rfl) (hy : evL ((d, pz w.heap.size) :: l) y = some (.agg L.toArray) := by rfl) (hl : L.length = 24 := by rfl)
  (hr : runM n k rest ((d, pz w.heap.size) :: l) = some (rest', l') := by rfl) : wpList Tryz.prog ops Q (o1 :: o2 :: rest) a w := by
 refine H.alloc hg ho hd hn _ zero_mq ?_
 intro a1 w1 hb hs hC H1
 have O1 := O.alloc hb hs hC
 refine H1.storeS hg2 ho2 hd2 (by show (bif Nat.beq d d then _ else _) = _; rw [Nat.beq_refl, cond_true]) hy hC size_mq rfl hl h1 ?_
 intro a2 w2 H2 hgr hs2 hC2
 exact runM_ok k H2 hr fun a3 H3 => h a3 w2 (hb.grown hgr hb.size (fun k hk => by injection hk with hk; rw [← hk]; exact Nat.le_refl _)) (O1.store 0 rfl hgr hs2 hC2) H3
end
section
open Go.RowKit
theorem bytesL (m : Mq) (vc vw vf : Value) (w : World) (bm : Bool) (hb : mayBb m = bm) (hL : MqL w w.heap.size m vc vw vf) (hF : MqFit m) (hW : Wd w) :
  Calls Tryz.prog 79 #[.agg (mqCells m vc vw vf).toArray] w fun e w' => ∃ v, e = .returned v ∧ (∃ vr, v = .tuple #[vr, iz (if bm then 0 else 1)] ∧ (bm = true → RowIs w.heap.size (layB m) vr w') ∧ Below w.heap.size w w') := by
 cases bm with
 | true => exact (bytesYes m vc vw vf w (mayB_of hb) hL hF hW).mono fun _ _ ⟨v, h1, vr, h2, h3, h4⟩ => ⟨v, h1, vr, h2, fun _ => h3, h4⟩
 | false => exact (bytesNo m vc vw vf w (mayB_not hb) hL hF hW).mono fun _ _ ⟨v, h1, h2, h4⟩ => ⟨v, h1, _, h2, (fun h => by cases h), h4⟩
end
section
open Go.RowKit
def CliT (W : World) (B b1 g ip mac port iss next : Nat) (x : Cl) (last : List UInt8) (vG vl : Value) (w : World) : Prop :=
 Own W B [(g, cliC ip mac port iss next x.wants x.up vG vl)] w ∧ CliR g x.got last vG vl w ∧ (∀ k, k < b1 → some k ≠ vG.ownBlock) ∧ b1 ≤ w.heap.size
def frC (mac ip port sq ak fl : Nat) (xs : List UInt8) : List UInt8 := wire 2199023255553 mac ip 167772161 ⟨port, 1883, sq, ak, fl, 65535, xs⟩
theorem frC_len (mac ip port sq ak fl : Nat) (xs : List UInt8) : (frC mac ip port sq ak fl xs).length = 54 + xs.length := wire_length ..
theorem eql_some (ad : Addr) (n c : Nat) (x y : Operand) (w : World) : (do eqGuard .eql 31 x y (.slice (some ad) n c) nilV; binOp .eql 31 (.slice (some ad) n c) nilV : Sem Value).run Tryz.prog w = .ok (.bool false) w := by
 have h := Lib.run_eql_slice_nil (P := Tryz.prog) w 31 5 (some ad) n c 0 0 Tryz.underlying31
 simp only [Option.isNone_some] at h
 simpa [go_sem] using h
section
variable {W : World} {B b1 g ip mac port iss nxt : Nat} {x : Cl} {last : List UInt8} {vG vl : Value} {w : World}
theorem CliT.next {w' : World} (h : CliT W B b1 g ip mac port iss nxt x last vG vl w) (hb : Below w.heap.size w w') : CliT W B b1 g ip mac port iss nxt x last vG vl w' := ⟨h.1.call hb, h.2.1.next hb, h.2.2.1, Nat.le_trans h.2.2.2 hb.size⟩
theorem CliT.said {w' : World} {b n c nx' : Nat} {xs : List UInt8} {A : Option Addr} (h : CliT W B b1 g ip mac port iss nxt x last vG vl w) (hr : RowIs b xs (.slice A n c) w) (hb : ∀ k, vG.ownBlock = some k → k < b) (hgb : g < b) (hg : w.grownBy w' (some g)) (hC : Cells w' g (cliC ip mac port iss nx' x.wants x.up vG (.slice A n c))) : CliT W B b1 g ip mac port iss nx' x xs vG (.slice A n c) w' := by
 obtain ⟨h1, ⟨r1, r2, r3⟩, h2, h3⟩ := h
 obtain ⟨A', c', e, hO⟩ := hr
 have hO' := own_base hO (Nat.succ_le_of_lt hgb)
 refine ⟨h1.turn 0 rfl hg hC, ⟨r1.kept hg (.inr (own_ne r1 (.inl (Nat.lt_succ_self g))).symm), hO'.kept hg (.inr (own_ne hO' (.inl (Nat.lt_succ_self g))).symm), fun k hk hk2 => ?_⟩, h2, Nat.le_trans h3 hg.size⟩
 have := hb k hk2
 have := (hO.lt k hk).1
 omega
theorem CliT.nextno {w' : World} {nx' : Nat} (h : CliT W B b1 g ip mac port iss nxt x last vG vl w) (hg : w.grownBy w' (some g)) (hC : Cells w' g (cliC ip mac port iss nx' x.wants x.up vG vl)) : CliT W B b1 g ip mac port iss nx' x last vG vl w' := by
 obtain ⟨h1, ⟨r1, r2, r3⟩, h2, h3⟩ := h
 exact ⟨h1.turn 0 rfl hg hC, ⟨r1.kept hg (.inr (own_ne r1 (.inl (Nat.lt_succ_self g))).symm), r2.kept hg (.inr (own_ne r2 (.inl (Nat.lt_succ_self g))).symm), r3⟩, h2, Nat.le_trans h3 hg.size⟩
theorem cliSay (S : CliT W B b1 g ip mac port iss nxt x last vG vl w) (hup : x.up = true) (hw : x.wants ≤ 4294967295) (hip : ip < 4294967296) (hm : mac < 281474976710656) (hp : port < 65536) (hne : nxt < 4294967296) {m : Mq} {vc vw vf : Value} (bm : Bool) (hbm : mayBb m = bm) (hL : MqL w w.heap.size m vc vw vf) (hF : MqFit m) (hT : Wd w) :
  Calls Tryz.prog 40 #[pz g, .agg (mqCells m vc vw vf).toArray] w fun e w' => ∃ v, e = .returned v ∧
   ((bm = false ∧ v = .tuple #[nilV, iz 1] ∧ Below w.heap.size w w') ∨ (bm = true ∧ 536 < (layB m).length ∧ v = .tuple #[nilV, iz 2] ∧ Below w.heap.size w w') ∨
    (bm = true ∧ (layB m).length ≤ 536 ∧ ∃ A c vl', v = .tuple #[.slice A (54 + (layB m).length) c, iz 0] ∧ RowIs w.heap.size (frC mac ip port nxt x.wants 24 (layB m)) (.slice A (54 + (layB m).length) c) w' ∧ CliT W B b1 g ip mac port iss (spAdd nxt (layB m).length) x (frC mac ip port nxt x.wants 24 (layB m)) vG vl' w' ∧ Kp g vG w w' ∧ RowIs w.heap.size (frC mac ip port nxt x.wants 24 (layB m)) vl' w')) := by
 go_enter Tryz.func40, Tryz.ntmps40
 refine Has.start 55 [(0, pz g), (1, .agg (mqCells m vc vw vf).toArray)] rfl rfl ⟨rfl, rfl, trivial⟩ ?_
 intro a0 H0
 refine rl ?_
 refine H0.bx (Own.start w) 2 (L := mqCells m vc vw vf) fun a w1 O1 H => nt ?_
 have S1 := S.next O1.bel
 have K1 : Kp g vG w w1 := Kp.below O1.bel
 obtain ⟨g3, hg3⟩ : ∃ g3, w.heap.size = g3 := ⟨_, rfl⟩
 rw [hg3] at O1 H
 replace H := H.kp [0, 3]
 refine H.rg 3 fun a H => ?_
 refine H.ld 0 (load1_b _ _ _ _ ((S1.1.get 0 rfl).get 6 _ rfl)) fun a H => ?_
 rw [hup] at H
 refine H.un gz rfl rfl rfl rfl (run_not true _) fun a H => nt (H.condF rfl (skip_wp (then_normal ?_)))
 replace H := H.kp [0, 3]
 refine H.rg 0 fun a H => ?_
 refine H.loadS rfl rfl rfl rfl rfl (O1.get 0 rfl) Tryz.underlying49 rfl size_mq rfl fun a H => ?_
 refine H.cl (bytesL m vc vw vf w1 bm hbm (hL.next (hg3 ▸ O1.bel)) hF (hT.below (hg3 ▸ O1.bel))) ?_
 rintro a _ w2 ⟨vr, rfl, hvr, hb2⟩ H
 have S2 := S1.next hb2
 have K2 := K1.next hb2
 refine H.ms 1 fun a H => ?_
 refine H.ex (r := vr) 0 fun a H => ?_
 refine H.ex (r := iz (if bm then 0 else 1)) 2 fun a H => nt (wp_seq (wp_block ?_))
 replace H := H.kp [0, 6, 7]
 refine H.rg 1 fun a H => ?_
 cases bm with
 | false =>
  refine H.bb 1 rfl rfl rfl rfl rfl rfl (neq_k 1 0 true rfl _ _ _) rfl fun a H => nt (H.condT rfl ?_)
  refine H.rg 3 fun a H => nt (wp_ret ?_)
  repeat (first | (with_reducible refine block_ret ?_) | (with_reducible refine then_ret ?_))
  exact bodyPost_ret (results_pair rfl _ _ _ (H.at_ 4 _ rfl) (H.at_ 5 _ rfl)) H.df ⟨_, rfl, .inl ⟨rfl, rfl, hg3 ▸ (O1.call hb2).bel⟩⟩
 | true =>
 refine H.bb 1 rfl rfl rfl rfl rfl rfl (neq_k 0 0 false rfl _ _ _) rfl fun a H => nt (H.condF rfl ?_)
 obtain ⟨A1, c1, rfl, hO1⟩ := hvr rfl
 have hR2 : RowIs w1.heap.size (layB m) (.slice A1 (layB m).length c1) w2 := ⟨A1, c1, rfl, hO1⟩
 replace H := H.kp [0, 6]
 obtain ⟨bt, hbt⟩ : ∃ b, decide ((536 : Int) < ((layB m).length : Int)) = b := ⟨_, rfl⟩
 refine H.rg 1 fun a H => ?_
 refine H.len gz rfl rfl rfl rfl Tryz.underlying31 fun a H => ?_
 refine H.bb 1 rfl rfl rfl rfl rfl rfl (gtr_i _ _ bt hbt _ _ _) rfl fun a H => nt (H.cond (t := bt) rfl ?_)
 cases bt with
 | true =>
  refine H.rg 2 fun a H => nt (wp_ret ?_)
  repeat (first | (with_reducible refine block_ret ?_) | (with_reducible refine then_ret ?_))
  have : (536 : Int) < ((layB m).length : Int) := of_decide_eq_true hbt
  exact bodyPost_ret (results_pair rfl _ _ _ (H.at_ 4 _ rfl) (H.at_ 5 _ rfl)) H.df ⟨_, rfl, .inr (.inl ⟨rfl, by omega, rfl, hg3 ▸ (O1.call hb2).bel⟩)⟩
 | false =>
 have hll : (layB m).length ≤ 536 := by
  have : ¬ (536 : Int) < ((layB m).length : Int) := of_decide_eq_false hbt
  omega
 refine skip_wp (block_normal (then_normal ?_))
 replace H := H.kp [0, 6]
 have hq : Sg.ok ⟨port, 1883, (nxt : Nat), ((x.wants : Nat) : Int), ((24 : Nat) : Int), 65535, layB m⟩ = true := sg_okN port 1883 nxt x.wants 24 65535 (layB m) (by omega) (by decide) (by omega) (by omega) (by decide) (by decide) (by omega)
 have hs2 : w1.heap.size ≤ w2.heap.size := hb2.size
 refine H.sg (fun w' => CliT W B b1 g ip mac port iss nxt x last vG vl w' ∧ RowIs w1.heap.size (layB m) (.slice A1 (layB m).length c1) w' ∧ Kp g vG w w' ∧ w2.heap.size ≤ w'.heap.size) ⟨S2.next (Below.drew (Below.refl _ _)), hR2.drew, K2.next (Below.drew (Below.refl _ _)), Nat.le_refl _⟩ [0, 6]
  [ec 0 26 (pz g), ec 1 27 (pz g), ec 2 28 (pz g), ec 3 29 (pz g), ec 4 30 (.pointer (some ⟨g, 4, none⟩)), ec 5 31 (iz nxt), ec 6 32 (pz g), ec 7 33 (pz g), ec 8 34 (.pointer (some ⟨g, 5, none⟩)), ec 9 35 (iz x.wants), ec 10 36 (.slice A1 (layB m).length c1), ec 12 38 (pz g), ec 13 39 (.pointer (some ⟨g, 8, none⟩))] rfl ?_
 have KK : ∀ wy, (CliT W B b1 g ip mac port iss nxt x last vG vl wy ∧ RowIs w1.heap.size (layB m) (.slice A1 (layB m).length c1) wy ∧ Kp g vG w wy ∧ w2.heap.size ≤ wy.heap.size) → _ := fun wy h => cliSegment g ip mac port iss nxt x.wants x.up vG vl nxt x.wants 24 (layB m) (layB m).length rfl A1 c1 wy (h.1.1.get 0 rfl) (h.1.1.lt 0 rfl) hip hm hq h.2.1.rb
 refine St.call 11 ⟨jm, jm, jm, jm, jm, jl fun _ h => load1_i _ _ _ _ ((h.1.1.get 0 rfl).get 4 _ rfl), jm, jm, jm, jl fun _ h => load1_i _ _ _ _ ((h.1.1.get 0 rfl).get 5 _ rfl), jm, jm, jm, trivial⟩ KK ?_
 rintro wx v wz hh ⟨hr, hb⟩
 obtain ⟨bx, hbx⟩ : ∃ bx, wx.heap.size = bx := ⟨_, rfl⟩
 have hvb : ∀ k, vG.ownBlock = some k → k < bx := fun k hk => hbx ▸ (hh.1.2.1.1.lt k hk).2
 have hgx : g < bx := hbx ▸ hh.1.1.lt 0 rfl
 have hwx : w.heap.size ≤ bx := hbx ▸ hh.2.2.1.1
 rw [hbx] at hr
 refine nx (fun w' => CliT W B b1 g ip mac port iss nxt x last vG vl w' ∧ RowIs bx (frC mac ip port nxt x.wants 24 (layB m)) v w' ∧ Kp g vG w w' ∧ RowIs w1.heap.size (layB m) (.slice A1 (layB m).length c1) w') [] [] ⟨hh.1.next hb, hr, hh.2.2.1.next hb, hh.2.1.next hb⟩ ?_
 clear KK hh hr hb hbx
 refine St.sto 14 ⟨jm, jm, jm, trivial⟩ ?_
 rintro a wu H _ hu
 obtain ⟨A2, c2, rfl, hO2⟩ := hu.2.1
 obtain ⟨k1, k2⟩ := (hu.1.1.get 0 rfl) 8 _ rfl
 have hgw := grown_setCell wu g 8 (.slice A2 (frC mac ip port nxt x.wants 24 (layB m)).length c2)
 have hC' := ((hu.1.1.get 0 rfl).set 8 (.slice A2 (frC mac ip port nxt x.wants 24 (layB m)).length c2) (by show 8 < 9; decide))
 refine ⟨_, run_store rfl (H.ev rfl) (H.ev rfl) (store1_31 g 8 _ c2 A2 _ _ k1 k2), nx0 (fun w' => CliT W B b1 g ip mac port iss nxt x (frC mac ip port nxt x.wants 24 (layB m)) vG (.slice A2 (frC mac ip port nxt x.wants 24 (layB m)).length c2) w' ∧ RowIs bx (frC mac ip port nxt x.wants 24 (layB m)) (.slice A2 (frC mac ip port nxt x.wants 24 (layB m)).length c2) w' ∧ Kp g vG w w') [] [] ⟨hu.1.said hu.2.1 hvb hgx hgw hC', ⟨A2, c2, rfl, hO2.kept hgw (.inr (own_ne hO2 (.inl hgx)).symm)⟩, hu.2.2.1.box hgw⟩ (St.fin trivial ?_)⟩
 clear hu k1 k2 hgw hC' hO2 H
 rintro a w3 H _ ⟨S3, R3, K3⟩
 refine then_normal ?_
 generalize hfn : (frC mac ip port nxt x.wants 24 (layB m)).length = fn at *
 have hfl : fn = 54 + (layB m).length := by rw [← hfn, frC_len]
 replace H := H.kp [0, 6]
 refine H.rg 4 fun a H => ?_
 refine H.ld 1 (load1_i _ _ _ _ ((S3.1.get 0 rfl).get 4 _ rfl)) fun a H => ?_
 refine H.len gz rfl rfl rfl rfl Tryz.underlying31 fun a H => ?_
 refine H.cq 2 (spanAdd nxt (layB m).length (by omega) (by omega) _) fun a H => ?_
 refine H.put1 (S3.1.get 0 rfl) 0 (fun u h1 h2 => store1_i _ _ _ u _ h1 h2) fun a w4 C4 g4 H => nt ?_
 have S4 : CliT W B b1 g ip mac port iss (spAdd nxt (layB m).length) x (frC mac ip port nxt x.wants 24 (layB m)) vG (.slice A2 fn c2) w4 := S3.nextno g4 C4
 have K4 := K3.box g4
 have R4 : RowIs bx (frC mac ip port nxt x.wants 24 (layB m)) (.slice A2 fn c2) w4 := by
  obtain ⟨A', c', e, hO⟩ := R3
  exact ⟨A', c', e, hO.kept g4 (.inr (own_ne hO (.inl hgx)).symm)⟩
 clear S3 K3 R3 C4 g4
 replace H := H.kp [0]
 refine H.rg 3 fun a H => ?_
 refine H.ld 0 (load1_31 _ _ _ _ _ _ ((S4.1.get 0 rfl).get 8 _ rfl)) fun a H => ?_
 refine H.cl (cloneE (frC mac ip port nxt x.wants 24 (layB m)) fn hfn A2 c2 w4 R4.rb (by omega)) ?_
 rintro a _ w5 ⟨A5, c5, rfl, hO5, hb5⟩ H
 refine H.ms 2 fun a H => nt (wp_ret ?_)
 repeat (first | (with_reducible refine block_ret ?_) | (with_reducible refine then_ret ?_))
 have hs4 : w.heap.size ≤ w4.heap.size := K4.1
 subst hfl
 exact bodyPost_ret (results_pair rfl _ _ _ (H.at_ 4 _ rfl) (H.at_ 5 _ rfl)) H.df ⟨_, rfl, .inr (.inr ⟨rfl, hll, A5, c5, _, rfl, RowIs.of hfn (own_base hO5 hs4), S4.next hb5, K4.next hb5, (R4.base hwx).next hb5⟩)⟩
theorem cliAgain (S : CliT W B b1 g ip mac port iss nxt x last vG vl w) (n : Nat) (hl : last.length = n) (h0 : 0 < n) (hn : n ≤ 10000) :
  Calls Tryz.prog 41 #[pz g] w fun e w' => ∃ v, e = .returned v ∧ ∃ A c, v = .tuple #[.slice A n c, iz 0] ∧ RowIs w.heap.size last (.slice A n c) w' ∧ Below w.heap.size w w' := by
 subst hl
 obtain ⟨g8, c8, rfl, _, _⟩ := S.2.1.2.1.form h0
 have hr : RB w w.heap.size (some ⟨g8, 0, none⟩) last := RB.of_ownN S.2.1.2.1
 go_enter Tryz.func41, Tryz.ntmps41
 refine Has.start 14 [(0, pz g)] rfl rfl ⟨rfl, trivial⟩ ?_
 intro a0 H0
 refine H0.rg 2 fun a1 H1 => nt ?_
 refine H1.rg 3 fun a H => ?_
 refine H.ld 0 (load1_31 _ _ _ _ _ _ ((S.1.get 0 rfl).get 8 _ rfl)) fun a H => ?_
 refine H.bb 0 rfl rfl rfl rfl rfl rfl (eql_some _ _ _ _ _ _) rfl fun a H => nt (H.condF rfl (skip_wp (then_normal ?_)))
 replace H := H.kp [0]
 refine H.rg 3 fun a H => ?_
 refine H.ld 0 (load1_31 _ _ _ _ _ _ ((S.1.get 0 rfl).get 8 _ rfl)) fun a H => ?_
 refine H.cl (cloneE last last.length rfl (some ⟨g8, 0, none⟩) c8 w hr (by omega)) ?_
 rintro a _ w5 ⟨A5, c5, rfl, hO5, hb5⟩ H
 refine H.ms 2 fun a H => nt (wp_ret ?_)
 repeat (first | (with_reducible refine block_ret ?_) | (with_reducible refine then_ret ?_))
 exact bodyPost_ret (results_pair rfl _ _ _ (H.at_ 2 _ rfl) (H.at_ 3 _ rfl)) H.df ⟨_, rfl, A5, c5, rfl, RowIs.of rfl hO5, hb5⟩
theorem cliBye (S : CliT W B b1 g ip mac port iss nxt x last vG vl w) (hup : x.up = true) (hw : x.wants ≤ 4294967295) (hip : ip < 4294967296) (hm : mac < 281474976710656) (hp : port < 65536) (hne : nxt < 4294967296) :
  Calls Tryz.prog 42 #[pz g] w fun e w' => ∃ v, e = .returned v ∧ ∃ A c, v = .tuple #[.slice A 54 c, iz 0] ∧ RowIs w.heap.size (frC mac ip port nxt x.wants 17 []) (.slice A 54 c) w' ∧ CliT W B b1 g ip mac port iss (spAdd nxt 1) x last vG vl w' ∧ Kp g vG w w' := by
 go_enter Tryz.func42, Tryz.ntmps42
 refine Has.start 29 [(0, pz g)] rfl rfl ⟨rfl, trivial⟩ ?_
 intro a0 H0
 refine H0.rg 2 fun a1 H1 => nt ?_
 refine H1.rg 3 fun a H => ?_
 refine H.ld 0 (load1_b _ _ _ _ ((S.1.get 0 rfl).get 6 _ rfl)) fun a H => ?_
 rw [hup] at H
 refine H.un gz rfl rfl rfl rfl (run_not true _) fun a H => nt (H.condF rfl (skip_wp (then_normal ?_)))
 replace H := H.kp [0]
 have hq : Sg.ok ⟨port, 1883, (nxt : Nat), ((x.wants : Nat) : Int), ((17 : Nat) : Int), 65535, []⟩ = true := sg_okN port 1883 nxt x.wants 17 65535 [] (by omega) (by decide) (by omega) (by omega) (by decide) (by decide) (by decide)
 refine H.sg (fun w' => CliT W B b1 g ip mac port iss nxt x last vG vl w' ∧ Kp g vG w w') ⟨S.next (Below.drew (Below.refl _ _)), (Kp.refl _ _ _).next (Below.drew (Below.refl _ _))⟩ [0]
  [ec 0 10 (pz g), ec 1 11 (pz g), ec 2 12 (pz g), ec 3 13 (.pointer (some ⟨g, 4, none⟩)), ec 4 14 (iz nxt), ec 5 15 (pz g), ec 6 16 (pz g), ec 7 17 (.pointer (some ⟨g, 5, none⟩)), ec 8 18 (iz x.wants)] rfl ?_
 have KK : ∀ wy, (CliT W B b1 g ip mac port iss nxt x last vG vl wy ∧ Kp g vG w wy) → _ := fun wy h => cliSegment g ip mac port iss nxt x.wants x.up vG vl nxt x.wants 17 [] 0 rfl none 0 wy (h.1.1.get 0 rfl) (h.1.1.lt 0 rfl) hip hm hq RB.nil
 refine St.call 9 ⟨jm, jm, jm, jm, jl fun _ h => load1_i _ _ _ _ ((h.1.1.get 0 rfl).get 4 _ rfl), jm, jm, jm, jl fun _ h => load1_i _ _ _ _ ((h.1.1.get 0 rfl).get 5 _ rfl), trivial⟩ KK ?_
 rintro wx v wz hh ⟨hr, hb⟩
 have hr : RowIs w.heap.size (frC mac ip port nxt x.wants 17 []) v wz := hr.base hh.2.1
 refine nx (fun w' => CliT W B b1 g ip mac port iss nxt x last vG vl w' ∧ Kp g vG w w' ∧ RowIs w.heap.size (frC mac ip port nxt x.wants 17 []) v w') [ec 10 4 v] [] ⟨hh.1.next hb, hh.2.next hb, hr⟩ (St.fin ⟨jm, trivial⟩ ?_)
 clear KK hh hr hb
 rintro a w3 H _ ⟨S3, K3, R3⟩
 refine then_normal ?_
 replace H := H.kp [0, 4]
 refine H.rg 4 fun a H => ?_
 refine H.ld 0 (load1_i _ _ _ _ ((S3.1.get 0 rfl).get 4 _ rfl)) fun a H => ?_
 refine H.cq 2 (spanAdd nxt 1 (by omega) (by omega) _) fun a H => ?_
 refine H.put1 (S3.1.get 0 rfl) 0 (fun u h1 h2 => store1_i _ _ _ u _ h1 h2) fun a w4 C4 g4 H => nt ?_
 have S4 : CliT W B b1 g ip mac port iss (spAdd nxt 1) x last vG vl w4 := S3.nextno g4 C4
 refine H.rg 3 fun a H => nt (wp_ret ?_)
 repeat (first | (with_reducible refine block_ret ?_) | (with_reducible refine then_ret ?_))
 obtain ⟨A, c, rfl, hO⟩ := R3
 have hgl : g < w.heap.size := S.1.lt 0 rfl
 exact bodyPost_ret (results_pair rfl _ _ _ (H.at_ 2 _ rfl) (H.at_ 3 _ rfl)) H.df ⟨_, rfl, A, c, rfl, ⟨A, c, rfl, hO.kept g4 (.inr (own_ne hO (.inl hgl)).symm)⟩, S4, K3.box g4⟩
end
end
section
open Go.RowKit
def MqsAt (w : World) (A : Option Addr) (l : List Mq) : Prop :=
 ∀ k m, l[k]? = some m → ∃ b o vc vw vf, A = some ⟨b, o, none⟩ ∧ b < w.heap.size ∧ w.rangeAt b (o + k * 24) (mqCells m vc vw vf) ∧ MqL w w.heap.size m vc vw vf
theorem MqsAt.next {w w' : World} {A : Option Addr} {l : List Mq} (h : MqsAt w A l) (hb : Below w.heap.size w w') : MqsAt w' A l := by
 intro k m hk
 obtain ⟨b, o, vc, vw, vf, h1, h2, h3, h4⟩ := h k m hk
 exact ⟨b, o, vc, vw, vf, h1, Nat.lt_of_lt_of_le h2 hb.size, rangeB h3 hb h2, h4.next hb⟩
theorem Prows.get {w : World} {b : Nat} {l : List Mq} {cs : List Value} {hi : Nat} (h : Prows w b l cs hi) : ∀ k m, l[k]? = some m → ∃ vc vw vf b', Rows3 w b' m vc vw vf ∧ Lens m 1000001 ∧ Small m ∧ ∀ j v, (mqCells m vc vw vf)[j]? = some v → cs[k * 24 + j]? = some v := by
 induction h with
 | nil => intro k m hk; simp at hk
 | @snoc l xs m0 cs0 hi lo hi' hp _ _ hm ih =>
  intro k m hk
  have hlen := hp.len
  by_cases hlt : k < l.length
  ·rw [List.getElem?_append_left hlt] at hk
   obtain ⟨vc, vw, vf, b', h1, h2, h3, h4⟩ := ih k m hk
   refine ⟨vc, vw, vf, b', h1, h2, h3, fun j v hv => ?_⟩
   have := h4 j v hv
   rw [List.getElem?_append_left (List.getElem?_eq_some_iff.1 this).1]
   exact this
  ·have hke : k = l.length := by
    have := (List.getElem?_eq_some_iff.1 hk).1
    rw [List.length_append, List.length_singleton] at this
    omega
   subst hke
   rw [List.getElem?_append_right (Nat.le_refl _), Nat.sub_self] at hk
   injection hk with hk
   subst hk
   obtain ⟨vc, vw, vf, rfl, h2, _, h3, h4⟩ := hm
   refine ⟨vc, vw, vf, lo, h2, h3, h4, fun j v hv => ?_⟩
   rw [List.getElem?_append_right (by omega), hlen, Nat.add_sub_cancel_left]
   exact hv
theorem Prows.at_ {w : World} {b b' : Nat} {l : List Mq} {cs : List Value} {A : Option Addr} {n c hi : Nat} (h : Prows w b l cs hi) (hO : w.ownsRow b' 49 24 (.slice A n c) l.length cs) : MqsAt w A l := by
 intro k m hk
 obtain ⟨vc, vw, vf, _, h1, h2, _, h4⟩ := h.get k m hk
 have hlt := (List.getElem?_eq_some_iff.1 hk).1
 obtain ⟨g, cap, hA, _, hg2⟩ := hO.form (by omega)
 injection hA with hA hn hc
 subst hA
 subst hn
 refine ⟨g, 0, vc, vw, vf, rfl, hg2, fun j v hv => ?_, MqL.of_rows h1 h2 (by decide)⟩
 have hj : j < 24 := (List.getElem?_eq_some_iff.1 hv).1
 have := hO.cellAt (0 + k * 24 + j) (by omega)
 rw [this, Nat.zero_add]
 exact h4 j v hv
theorem eqMqsS (l : List Mq) (A B : Option Addr) (n c d : Nat) (hn : l.length = n) (hlim : n ≤ 1000000) (w : World) (ha : MqsAt w A l) (hb : MqsAt w B l) :
  Calls Tryz.prog 30 #[.slice A n c, .slice B n d] w fun e w' => e = .returned (.bool true) ∧ Below w.heap.size w w' := by
 go_enter Tryz.func30, Tryz.ntmps30
 refine Has.start 27 [(0, .slice A n c), (1, .slice B n d)] rfl rfl ⟨rfl, rfl, trivial⟩ ?_
 intro a0 H0
 refine H0.rg 1 fun a1 H1 => nt ?_
 refine H1.rg 1 fun a2 H2 => ?_
 refine H2.len gz rfl rfl rfl rfl Tryz.underlying22 fun a3 H3 => ?_
 refine H3.ms 1 fun a4 H4 => ?_
 refine H4.len gz rfl rfl rfl rfl Tryz.underlying22 fun a5 H5 => ?_
 refine H5.bb 0 rfl rfl rfl rfl rfl rfl (neq_3 _ _ false (by simp) _ _ _) rfl fun a6 H6 => nt (H6.condF rfl ?_)
 refine skip_wp (then_normal ?_)
 refine H6.rg 1 fun a7 H7 => nt ?_
 replace H7 := H7.kp [0, 1, 5]
 refine wp_block ?_
 refine wp_loop_up n (fun k a w' => Has a 27 [(0, .slice A n c), (1, .slice B n d), (5, iz k)] ∧ Below w.heap.size w w') ⟨H7, Below.refl _ _⟩ ?_
 clear H0 H1 H2 H3 H4 H5 H6 H7
 rintro k a1 w1 hk ⟨H1, hb1⟩
 refine H1.rg 2 fun a2 H2 => ?_
 refine H2.len gz rfl rfl rfl rfl Tryz.underlying22 fun a3 H3 => ?_
 by_cases hlt : k < n
 rotate_left
 ·refine H3.bb 0 rfl rfl rfl rfl rfl rfl (lss_i _ _ false (by rw [decide_eq_false_iff_not]; omega) _ _ _) rfl fun a4 H4 => nt (H4.condF rfl ?_)
  refine wp_exit ?_
  repeat (with_reducible refine then_exit ?_)
  refine block_leave (then_normal ?_)
  refine H4.rg 1 fun a5 H5 => nt (wp_ret ?_)
  repeat (first | (with_reducible refine block_ret ?_) | (with_reducible refine then_ret ?_))
  exact bodyPost_ret (results_tmp rfl _ _ _) H5.df ⟨congrArg Ending.returned (H5.at_ 4 _ rfl), hb1⟩
 refine H3.bb 0 rfl rfl rfl rfl rfl rfl (lss_i _ _ true (by rw [decide_eq_true_iff]; omega) _ _ _) rfl fun a4 H4 => nt (H4.condT rfl ?_)
 refine skip_wp (then_normal ?_)
 obtain ⟨m, hm⟩ : ∃ m, l[k]? = some m := ⟨_, List.getElem?_eq_getElem (by omega)⟩
 obtain ⟨g1, o1, vc, vw, vf, rfl, hl1, hr1, hM1⟩ := ha k m hm
 obtain ⟨g2, o2, vc', vw', vf', rfl, hl2, hr2, hM2⟩ := hb k m hm
 replace H4 := H4.kp [0, 1, 5]
 have hi : ∀ g o c w', (Instr.indexAt 22 (.slice (some ⟨g, o, none⟩) n c) (iz k)).run Tryz.prog w' = .ok (.pointer (some ⟨g, o + k * 24, none⟩)) w' := fun g o c w' => index_m 22 Tryz.underlying22 24 (fun _ => by kernel_rfl) _ _ _ _ _ hlt _
 refine wp_seq_join (fun a w' => Has a 27 [(0, .slice (some ⟨g1, o1, none⟩) n c), (1, .slice (some ⟨g2, o2, none⟩) n d), (5, iz k)] ∧ Below w.heap.size w w') ?_ ?_
 ·refine wp_block ?_
  refine H4.dq (fun w' => Below w.heap.size w w') (fun _ _ h hb => h.trans (hb.mono h.size)) hb1 [0, 1, 5] rfl [ec 0 17 (.slice (some ⟨g1, o1, none⟩) n c), ec 1 18 (iz k), ec 2 19 (.pointer (some ⟨g1, o1 + k * 24, none⟩)), ec 3 20 (.agg (mqCells m vc vw vf).toArray), ec 4 21 (.slice (some ⟨g2, o2, none⟩) n d), ec 5 22 (iz k), ec 6 23 (.pointer (some ⟨g2, o2 + k * 24, none⟩)), ec 7 24 (.agg (mqCells m vc' vw' vf').toArray), eh 8 25 (.bool true), ec 9 26 (.bool (!true))] rfl
   ⟨jm, jm, jI rfl rfl rfl rfl rfl rfl (hi g1 o1 c), jl fun _ h => load_mq (rangeB hr1 h hl1), jm, jm, jI rfl rfl rfl rfl rfl rfl (hi g2 o2 d), jl fun _ h => load_mq (rangeB hr2 h hl2), ju (hq := run_not true), trivial⟩ ⟨kb fun w' h => eqMqS m vc vw vf vc' vw' vf' w' (hM1.next h) (hM2.next h), trivial⟩ ?_
  intro a5 w5 H5 _ hb5
  refine then_normal (H5.condF rfl (skip_wp (block_normal ?_)))
  exact ⟨H5.keep ⟨rfl, rfl, rfl, trivial⟩, hb5⟩
 ·rintro a5 w5 ⟨H5, hb5⟩
  refine H5.rg 1 fun a6 H6 => ?_
  refine H6.bb 1 rfl rfl rfl rfl rfl rfl (succ_i k (by omega) _ _ _) rfl fun a7 H7 => nt ?_
  exact ⟨hlt, H7.keep ⟨rfl, rfl, rfl, trivial⟩, hb5⟩
end
section
open Go.RowKit
def PksAt (W : World) (A : Option Addr) (len : Nat) : Prop :=
 ∀ i, i < len → ∃ (b o : Nat) (m : Mq) (vc vw vf : Value), A = some ⟨b, o, none⟩ ∧ b < W.heap.size ∧ W.rangeAt b (o + i * 24) (mqCells m vc vw vf) ∧ MqL W W.heap.size m vc vw vf ∧ MqFit m
theorem add_any (u v : Int) (x y : Operand) (w : World) : (do eqGuard .add 3 x y (iz u) (iz v); binOp .add 3 (iz u) (iz v) : Sem Value).run Tryz.prog w = .ok (iz (IntKind.i64.wrap (u + v))) w := by kernel_rfl
theorem neq_self (u : Int) (x y : Operand) (w : World) : (do eqGuard .neq 3 x y (iz u) (iz u); binOp .neq 3 (iz u) (iz u) : Sem Value).run Tryz.prog w = .ok (.bool false) w := neq_3 u u false (by simp) x y w
theorem load1_mqs (g o n c : Nat) (A : Option Addr) (w : World) (h : w.cell? ⟨g, o, none⟩ = some (.slice A n c)) : (Instr.loadAt 22 (.pointer (some ⟨g, o, none⟩))).run Tryz.prog w = .ok (.slice A n c) w := by
 simp [go_sem, h]
theorem size_askT : (Tryz.prog.info? 24).map (·.size) = some 6 := by kernel_rfl
theorem heavy28 (ip mac port iss sq : Int) (A : Option Addr) (len cap : Nat) (w : World) (ha : PksAt w A len) (hl : len ≤ maxLen) :
  Calls Tryz.prog 38 #[.agg ([iz ip, iz mac, iz port, iz iss, .slice A len cap, iz sq] : List Value).toArray] w fun e w' => ∃ v, e = .returned v ∧ ∃ b, v = .bool b ∧ Below w.heap.size w w' := by
 go_enter Tryz.func38, Tryz.ntmps38
 refine Has.start 27 [(0, .agg ([iz ip, iz mac, iz port, iz iss, .slice A len cap, iz sq] : List Value).toArray)] rfl rfl ⟨rfl, trivial⟩ ?_
 intro a0 H0
 refine rl ?_
 refine H0.bx (Own.start w) 1 (L := [iz ip, iz mac, iz port, iz iss, .slice A len cap, iz sq]) fun a w1 O1 H => nt ?_
 obtain ⟨g, hg⟩ : ∃ g, w.heap.size = g := ⟨_, rfl⟩
 rw [hg] at O1 H
 refine H.rg 1 fun a H => nt ?_
 refine wp_seq_join (fun a w' => ∃ n : Int, Has a 27 [(3, iz n)] ∧ Own w g [(g, [iz ip, iz mac, iz port, iz iss, .slice A len cap, iz sq])] w') ?_ ?_
 ·refine H.rg 1 fun a H => nt (wp_block ?_)
  refine wp_loop_up len (fun k a w' => ∃ n : Int, Has a 27 [(1, pz g), (3, iz n), (4, iz k)] ∧ Own w g [(g, [iz ip, iz mac, iz port, iz iss, .slice A len cap, iz sq])] w') ⟨0, H.keep ⟨rfl, rfl, rfl, trivial⟩, O1⟩ ?_
  clear H O1 H0
  rintro k a w2 hk ⟨n, H, O⟩
  obtain ⟨b1, e1⟩ : ∃ b, decide ((k : Int) < (len : Int)) = b := ⟨_, rfl⟩
  obtain ⟨b2, e2⟩ : ∃ b, decide (n < 1048576) = b := ⟨_, rfl⟩
  refine H.tb (Own w g [(g, [iz ip, iz mac, iz port, iz iss, .slice A len cap, iz sq])]) (fun _ _ h hb => h.call hb) O [ec 0 5 (iz k), ec 1 6 (.pointer (some ⟨g, 4, none⟩)), ec 2 7 (.slice A len cap), ec 3 8 (iz len), ec 4 9 (.bool b1), ec 5 10 (.bool b1), ec 6 11 (gv b1 (iz n)), ec 7 12 (gv b1 (.bool b2)), ec 8 13 (.bool (b1 && b2))] rfl
   ⟨jm, jm, jl fun _ h => load1_mqs _ _ _ _ _ _ ((Own.get h 0 rfl).get 4 _ rfl), jn Tryz.underlying22, jb fun _ => lss_i _ _ b1 e1 _ _ _, jm, (by cases b1; exact jo; exact jm), (by cases b1; exact jo; exact jb fun _ => lss_i _ _ b2 e2 _ _ _), (by cases b1 <;> exact jp), trivial⟩ ?_
  clear H O
  intro a w3 H O
  refine then_normal (H.cond (t := b1 && b2) rfl ?_)
  cases hb : b1 && b2 with
  | false =>
   refine wp_exit ?_
   repeat (with_reducible refine then_exit ?_)
   refine block_leave ?_
   first | exact then_normal ⟨n, H.keep ⟨rfl, trivial⟩, O⟩ | exact ⟨n, H.keep ⟨rfl, trivial⟩, O⟩
  | true =>
  simp only [Bool.and_eq_true] at hb
  rw [hb.1] at e1
  have hlt : k < len := by simpa using e1
  clear e1 e2 hb
  refine skip_wp (then_normal ?_)
  obtain ⟨b, o, m, vc, vw, vf, hA, hblt, hrg, hM, hF⟩ := ha k hlt
  have hix : ∀ w', (Instr.indexAt 22 (.slice A len cap) (iz k)).run Tryz.prog w' = .ok (.pointer (some ⟨b, o + k * 24, none⟩)) w' := fun w' => by rw [hA]; exact index_m 22 Tryz.underlying22 24 (fun _ => by kernel_rfl) _ _ _ _ _ hlt _
  replace H := H.kp [1, 3, 4]
  refine wp_seq (wp_block ?_)
  refine H.rg 1 fun a H => ?_
  refine H.bn 1 (add_any n 1 _ _ _) fun a H => ?_
  refine H.ld 1 (load1_mqs _ _ _ _ _ _ ((O.get 0 rfl).get 4 _ rfl)) fun a H => ?_
  refine H.index gz rfl rfl rfl rfl rfl (hix _) fun a H => ?_
  refine H.ld 0 (load_mq (rangeB hrg (hg ▸ O.bel) hblt)) fun a H => ?_
  refine H.cl (belowC (weighMq m vc vw vf _ (hM.next (hg ▸ O.bel)) hF)) ?_
  rintro a _ w4 ⟨rfl, hb4⟩ H
  refine H.bn 1 (add_any _ _ _ _ _) fun a H => wpList_nil (block_normal (then_normal ?_))
  generalize IntKind.i64.wrap _ = n2 at H
  refine H.rg 1 fun a H => ?_
  refine H.bb 1 rfl rfl rfl rfl rfl rfl (succ_i k (by unfold maxLen at hl; omega) _ _ _) rfl fun a H => nt ?_
  exact ⟨hlt, n2, H.keep ⟨rfl, rfl, rfl, trivial⟩, O.call hb4⟩
 ·rintro a w2 ⟨n, H, O⟩
  obtain ⟨b1, e1⟩ : ∃ b, decide ((10000 : Int) < n) = b := ⟨_, rfl⟩
  refine H.rg 1 fun a H => ?_
  refine H.bb 1 rfl rfl rfl rfl rfl rfl (gtr_i _ _ b1 e1 _ _ _) rfl fun a H => nt (wp_ret ?_)
  repeat (first | (with_reducible refine block_ret ?_) | (with_reducible refine then_ret ?_))
  exact bodyPost_ret (results_tmp rfl _ _ _) H.df ⟨_, rfl, b1, H.at_ 2 _ rfl, hg ▸ O.bel⟩
def Bxs (W : World) (B g : Nat) (vG : Value) (bs : List (Nat × List Value)) (w : World) : Prop := Own W B bs w ∧ ∀ p ∈ bs, p.1 ≠ g ∧ some p.1 ≠ vG.ownBlock
section
variable {W w w' : World} {B g : Nat} {vG vG' : Value} {bs : List (Nat × List Value)}
theorem Bxs.next (h : Bxs W B g vG bs w) (hb : Below w.heap.size w w') : Bxs W B g vG bs w' := ⟨h.1.call hb, h.2⟩
theorem Bxs.said (h : Bxs W B g vG bs w) (hk : Kp g vG w w') (hb : Below B W w') : Bxs W B g vG bs w' :=
 ⟨⟨hb, Nat.le_trans h.1.le hk.1, h.1.nd, fun p hp => ⟨(h.1.mem p hp).1, Nat.lt_of_lt_of_le (h.1.mem p hp).2.1 hk.1, (h.1.mem p hp).2.2.kp (hk.2 p.1 (h.1.mem p hp).2.1 (h.2 p hp).1 (h.2 p hp).2)⟩⟩, h.2⟩
theorem Bxs.hear (h : Bxs W B g vG bs w) (hk : Kp g vG w w') (hr : RelV w vG vG') (hb : Below B W w') : Bxs W B g vG' bs w' :=
 ⟨(h.said hk hb).1, fun p hp => ⟨(h.2 p hp).1, hr.ne (h.1.mem p hp).2.1 (h.2 p hp).2⟩⟩
theorem Bxs.more {L : List Value} {q : Nat} (h : Bxs W B g vG bs w) (hO : Own W B ((q, L) :: bs) w') (hq : q ≠ g) (hv : some q ≠ vG.ownBlock) : Bxs W B g vG ((q, L) :: bs) w' :=
 ⟨hO, fun p hp => by
  rcases List.mem_cons.1 hp with rfl | hp
  ·exact ⟨hq, hv⟩
  ·exact h.2 p hp⟩
theorem Bxs.fewer {bs' : List (Nat × List Value)} (h : Bxs W B g vG bs w) (hs : bs'.Sublist bs) : Bxs W B g vG bs' w := ⟨h.1.sub hs, fun p hp => h.2 p (hs.subset hp)⟩
theorem own_kp {base e size n : Nat} {v : Value} {xs : List Value} (h : w.ownsRow base e size v n xs) (hk : Kp g vG w w') (hg : g < base) (hv : v.ownBlock = none ∨ v.ownBlock ≠ vG.ownBlock) : w'.ownsRow base e size v n xs := by
 refine ⟨h.1, ?_⟩
 rcases h.2 with h2 | ⟨q, cap, cur, e1, h2, h3, h4⟩
 ·exact .inl h2
 ·refine .inr ⟨q, cap, cur, e1, h2, ?_, h4⟩
  have hq : q < w.heap.size := by
   rcases Nat.lt_or_ge q w.heap.size with hlt | hge
   ·exact hlt
   ·rw [Array.getElem?_eq_none hge] at h3; cases h3
  rw [hk.2 q hq (by omega) ?_]
  ·exact h3
  ·rw [e1] at hv
   rcases hv with hv | hv
   ·cases hv
   ·exact hv
end
theorem hearT {W : World} {B b1 g ip mac port iss nxt : Nat} {x : Cl} {last : List UInt8} {vG vl : Value} (l : List (List UInt8)) (AL : Option Addr) (n cL : Nat) (hln : l.length = n) {w : World} (S : CliT W B b1 g ip mac port iss nxt x last vG vl w) (hL : FrsS w (fun k => k ≠ g ∧ some k ≠ vG.ownBlock) AL l) (hl : n ≤ 1000) (hlb : ∀ b ∈ l, b.length ≤ 140737488351232)
  (hw : x.wants ≤ 4294967295) (hgl : x.got.length ≤ 10000000) (hip : ip < 4294967296) (hm : mac < 281474976710656) (hp : port < 65536) (hi : iss < 4294967296) (hne : nxt < 4294967296) (x' : Cl) (t : Bool) (hc : clHears mac ip port iss x false l = (x', t)) :
  Calls Tryz.prog 12 #[pz g, .slice AL n cL] w fun e w' => ∃ v, e = .returned v ∧ ∃ vG', (CliT W B 0 g ip mac port iss nxt x' last vG' vl w' ∧ Kp g vG w w' ∧ RelV w vG vG' ∧ Below B W w') ∧ (t = false → v = nilV) ∧
   (t = true → ∃ gr A c, v = .slice (some ⟨gr, 0, none⟩) 1 1 ∧ w'.cell? ⟨gr, 0, none⟩ = some (.slice A 54 c) ∧ gr < w'.heap.size ∧ RowIs w.heap.size (frC mac ip port nxt x'.wants 16 []) (.slice A 54 c) w') := by
 subst hln
 refine (cliHears W B g ip mac port iss nxt x last vG vl l AL cL w S.1 S.2.1 hL hl hlb hw hgl hip hm hp hi hne).mono ?_
 rintro e w' ⟨v, he, x2, t2, vG2, h1, _, _, h4, h5, h6, h7, h8, h9⟩
 rw [hc] at h1
 injection h1 with e1 e2
 subst e1 e2
 refine ⟨v, he, vG2, ⟨⟨h4, h5, fun k hk => absurd hk (Nat.not_lt_zero _), Nat.zero_le _⟩, h6, h7, h4.bel⟩, h8, fun ht => ?_⟩
 obtain ⟨gr, A, m, c, rfl, _, h10, h11, A', c', h12, h13⟩ := h9 ht
 have hn : m = 54 := by
  injection h12 with _ q2 _
 subst hn
 exact ⟨gr, A, c, rfl, h11, h10, ⟨A', c', h12, h13⟩⟩
theorem segC (ip mac port : Nat) (iss sqp : Int) (vL : Value) (sq ak fl : Nat) (xs : List UInt8) (n : Nat) (hn : 54 + xs.length = n) (A : Option Addr) (c : Nat) (b : Nat) (w : World) (hr : RowIs b (frC mac ip port sq ak fl xs) (.slice A n c) w) (hip : ip < 4294967296) (hm : mac < 281474976710656) (hp : port < 65536) (hs : sq < 4294967296) (ha : ak < 4294967296) (hf : fl ≤ 63) (hx : xs.length ≤ 1460) :
  Calls Tryz.prog 39 #[.agg ([iz ip, iz mac, iz port, iz iss, vL, iz sqp] : List Value).toArray, .slice A n c] w fun e w' => ∃ v, e = .returned v ∧ ∃ A' c', v = .tuple #[.agg ([iz port, iz 1883, iz sq, iz ak, iz fl, iz 65535, .slice A' xs.length c'] : List Value).toArray, .bool true] ∧ w'.ownsRow w.heap.size 5 1 (.slice A' xs.length c') xs.length (xs.map bv) ∧ Below w.heap.size w w' := by
 have hq : Sg.ok ⟨port, 1883, (sq : Nat), ((ak : Nat) : Int), ((fl : Nat) : Int), 65535, xs⟩ = true := sg_okN port 1883 sq ak fl 65535 xs (by omega) (by decide) (by omega) (by omega) hf (by decide) hx
 have hlen : (frC mac ip port sq ak fl xs).length = n := by rw [frC_len, hn]
 obtain ⟨A0, c0, e0, hO0⟩ := id hr
 rw [hlen] at hO0
 have hcp : n ≤ c := own_cap hO0
 refine (seg28 ip mac port iss sqp vL (frC mac ip port sq ak fl xs) n hlen A c hcp w hr.rb (by omega)).mono ?_
 rintro e w' ⟨v, rfl, A', c', hv, hO, hb⟩
 have h1 : segTo (frC mac ip port sq ak fl xs) ip port 167772161 1883 = (⟨port, 1883, sq, ak, fl, 65535, xs⟩, true) := wire_back (by decide) hm hip (by decide) hq
 have h2 : frOut (frC mac ip port sq ak fl xs) = _ := wire_fr (by decide) hm hq
 rw [h1] at hv hO
 rw [h2] at hv
 refine ⟨_, rfl, A', c', ?_, hO, hb⟩
 rw [hv]
 simp
section
variable {ops : Array Oper} {Q : Exit → Act → World → Prop} {n : Nat} {fixed : List (Nat × Value)} {F : World → Prop} {es : List EntC} {i s : Nat} {o : Oper}
theorem kl {base : Nat} (xs : List UInt8) (vs : List Value) (k : Nat) (hln : xs.length = k) (hxs : vs = xs.map bv) (hb : ∀ w, F w → base ≤ w.heap.size) (hrun : ∀ w, (execOp (fun x => (evL (fixed ++ knownE (afts ops i) es) x).getD undef) o).run Tryz.prog w = .ok (.value (.slice (some ⟨w.heap.size, 0, none⟩) k k)) (w.alloc (.cells vs.toArray 5))) (ho : ops[i]? = some o := by rfl) (hs : ∀ cs b, o.op ≠ .select cs b := by intro cs b h; cases h) (hk : o.op.operands.all (fun x => (evL (fixed ++ knownE (afts ops i) es) x).isSome) = true := by kernel_rfl) (hd : o.dst = some s := by rfl) (hg : okG ops (fixed ++ knownE (afts ops i) es) o = true := by rfl) : HeavyE ops Q n fixed F es (er i s [] (FrIs base xs)) :=
 kx (t := er i s [] (FrIs base xs)) (fun a w H _ hF => by
  have hB := balloc w (.cells vs.toArray 5)
  subst hln
  refine ⟨_, _, run_any H hs hk (hrun w), ⟨_, _, rfl, Nat.le_refl _, fun hn => ⟨_, rfl, hb w hF, lt_alloc _ _, fun j u hu => ?_⟩⟩, hB⟩
  have hC := Cells.of_heap (l := vs) (T := 5) (w := w.alloc (.cells vs.toArray 5)) (g := w.heap.size) (heap_alloc_new w _)
  subst hxs
  have := (hC j u hu).1
  unfold Addr.add
  split
  ·next h0 => subst h0; exact this
  ·simpa using this) ho hd hg
end
structure WantT (W : World) (g k : Nat) (want : List Mq) (vP : Value) (cs : List Value) (w : World) : Prop where
 row : w.ownsRow (g + 1) 49 24 vP want.length cs
 may : ∀ m ∈ want, mayB m
 at_ : ∀ i m, want[i]? = some m → ∃ vc vw vf, MqL W W.heap.size m vc vw vf ∧ ∀ j v, (mqCells m vc vw vf)[j]? = some v → cs[i * 24 + j]? = some v
 le : want.length ≤ k
 len : ((want.map layB).flatten).length ≤ k * 1024
theorem WantT.next {W w w' : World} {g k : Nat} {want : List Mq} {vP : Value} {cs : List Value} (h : WantT W g k want vP cs w) (hb : Below w.heap.size w w') : WantT W g k want vP cs w' := ⟨own_below h.row hb, h.may, h.at_, h.le, h.len⟩
theorem WantT.up {W w : World} {g k k' : Nat} {want : List Mq} {vP : Value} {cs : List Value} (h : WantT W g k want vP cs w) (hk : k ≤ k') : WantT W g k' want vP cs w := ⟨h.row, h.may, h.at_, Nat.le_trans h.le hk, Nat.le_trans h.len (Nat.mul_le_mul_right _ hk)⟩
theorem WantT.hear {W w w' : World} {g c k : Nat} {want : List Mq} {vP vG : Value} {cs : List Value} {n : Nat} {ys : List UInt8} (h : WantT W g k want vP cs w) (hc : c ≤ g) (hk : Kp c vG w w') (hG : w.ownsRow n 5 1 vG ys.length (ys.map bv)) : WantT W g k want vP cs w' :=
 ⟨own_kp h.row hk (Nat.lt_succ_of_le hc) (own_apart h.row hG rfl), h.may, h.at_, h.le, h.len⟩
theorem clHear_none {iss : Nat} {x : Cl} {port sq ak : Nat} (hu : x.up = false) (ha : ak ≠ spAdd iss 1) : clHear iss x (sg28 port sq ak 18 []) = (x, false) := by
 unfold clHear
 have e1 : ((sg28 port sq ak 18 []).ak == ((spAdd iss 1 : Nat) : Int)) = false := by
  show (((ak : Nat) : Int) == ((spAdd iss 1 : Nat) : Int)) = false
  rw [beq_eq_false_iff_ne]
  omega
 rw [if_neg (by show ¬ (bits .and .i64 18 4 != 0) = true; decide), e1, Bool.and_false, if_neg (by decide), hu, if_pos (by simp)]
theorem clHear_fin {iss : Nat} {x : Cl} {port ak : Nat} (hu : x.up = true) : clHear iss x (sg28 port x.wants ak 17 []) = (⟨spAdd x.wants 1, true, x.got⟩, true) := by
 unfold clHear
 have e1 : (bits .and .i64 (sg28 port x.wants ak 17 []).fl 18 == 18) = false := by show (bits .and .i64 17 18 == 18) = false; decide
 have e2 : (bits .and .i64 (sg28 port x.wants ak 17 []).fl 2 != 0) = false := by show (bits .and .i64 17 2 != 0) = false; decide
 have e3 : (bits .and .i64 (sg28 port x.wants ak 17 []).fl 1 != 0) = true := by show (bits .and .i64 17 1 != 0) = true; decide
 rw [if_neg (by show ¬ (bits .and .i64 17 4 != 0) = true; decide), e1, Bool.false_and, if_neg (by decide), hu, e2, e3]
 have e4 : (sg28 port x.wants ak 17 []).sq.toNat = x.wants := rfl
 have e5 : (sg28 port x.wants ak 17 []).xs = [] := rfl
 rw [e4, if_neg (by simp), e5, List.append_nil]
 rfl
theorem clHear_rst {iss : Nat} {x : Cl} {port sq ak : Nat} : clHear iss x (sg28 port sq ak 4 []) = (⟨x.wants, false, x.got⟩, false) := by
 unfold clHear
 rw [if_pos (by show (bits .and .i64 4 4 != 0) = true; decide)]
theorem told_123 (mac ip port : Nat) : toldCli mac ip port [1, 2, 3] = none := by
 have : segIn [1, 2, 3] = none := by decide
 unfold toldCli
 rw [this]
end
section
open Go.RowKit
def askL (ip mac port : Nat) (iss : Nat) (A : Option Addr) (len cap : Nat) (sqp : Int) : List Value := [iz ip, iz mac, iz port, iz iss, .slice A len cap, iz sqp]
def sgC (port sq ak fl : Nat) (A : Option Addr) (n c : Nat) : List Value := [iz port, iz 1883, iz sq, iz ak, iz fl, iz 65535, .slice A n c]
def TK (W : World) (B g ip mac port iss nxt : Nat) (x : Cl) (last : List UInt8) (vG vl : Value) (bs : List (Nat × List Value)) (w : World) : Prop := CliT W B 0 g ip mac port iss nxt x last vG vl w ∧ Bxs W B g vG bs w ∧ ∀ p ∈ bs, some p.1 ≠ vl.ownBlock
section
variable {W w w' : World} {B g ip mac port iss nxt : Nat} {x x' : Cl} {last : List UInt8} {vG vG' vl : Value} {bs : List (Nat × List Value)}
theorem TK.nx (h : TK W B g ip mac port iss nxt x last vG vl bs w) (hb : Below w.heap.size w w') : TK W B g ip mac port iss nxt x last vG vl bs w' := ⟨h.1.next hb, h.2.1.next hb, h.2.2⟩
theorem TK.dr (h : TK W B g ip mac port iss nxt x last vG vl bs w) : TK W B g ip mac port iss nxt x last vG vl bs w.drew := h.nx (Below.drew (Below.refl _ _))
theorem TK.up (h : TK W B g ip mac port iss nxt x last vG vl bs w) : Cells w g (cliC ip mac port iss nxt x.wants x.up vG vl) := h.1.1.get 0 rfl
theorem TK.glt (h : TK W B g ip mac port iss nxt x last vG vl bs w) : g < w.heap.size := h.1.1.lt 0 rfl
theorem TK.bel (h : TK W B g ip mac port iss nxt x last vG vl bs w) : Below B W w := h.1.1.bel
theorem TK.at_ (h : TK W B g ip mac port iss nxt x last vG vl bs w) (i : Nat) {q : Nat} {L : List Value} (hi : bs[i]? = some (q, L)) : Cells w q L := h.2.1.1.get i hi
theorem TK.frc {b n c : Nat} {A : Option Addr} {xs : List UInt8} {w0 : World} (h : TK W B g ip mac port iss nxt x last vG vl bs w0) (hr : FrIs b xs (.slice A n c) w) (hb : w0.heap.size ≤ b) : FrC g vG xs (.slice A n c) w :=
 FrC.of hr (Nat.lt_of_lt_of_le h.glt hb) (fun _ hk => own_ne h.1.2.1.1 (.inr (Nat.le_trans hb hk)))
theorem TK.sto {q : Nat} {L L' : List Value} (h : TK W B g ip mac port iss nxt x last vG vl bs w) (i : Nat) (hi : bs[i]? = some (q, L)) (hg : w.grownBy w' (some q)) (hC : Cells w' q L') : TK W B g ip mac port iss nxt x last vG vl (bs.set i (q, L')) w' := by
 obtain ⟨⟨h1, ⟨r1, r2, r3⟩, h3, h4⟩, ⟨h5, h6⟩, h7⟩ := h
 have hm := h6 _ (List.mem_of_getElem? hi)
 have hv := h7 _ (List.mem_of_getElem? hi)
 have hset : ∀ p ∈ bs.set i (q, L'), p = (q, L') ∨ p ∈ bs := fun p hp => by
  rcases List.mem_or_eq_of_mem_set hp with h | h
  ·exact .inr h
  ·exact .inl h
 have hgq : g ≠ q := fun e => hm.1 e.symm
 refine ⟨⟨⟨?_, Nat.le_trans h1.le hg.size, h1.nd, fun p hp => ?_⟩, ⟨r1.kept hg (.inr (Ne.symm hm.2)), r2.kept hg (.inr (Ne.symm hv)), r3⟩, h3, Nat.zero_le _⟩, ⟨h5.turn i hi hg hC, fun p hp => ?_⟩, fun p hp => ?_⟩
 ·exact (h5.turn i hi hg hC).bel
 ·have := h1.mem p hp
  rw [List.mem_singleton] at hp
  subst hp
  exact ⟨this.1, Nat.lt_of_lt_of_le this.2.1 hg.size, this.2.2.kept hg this.2.1 (by intro e; injection e with e; exact hgq e)⟩
 ·rcases hset p hp with rfl | hp
  ·exact hm
  ·exact h6 p hp
 ·rcases hset p hp with rfl | hp
  ·exact hv
  ·exact h7 p hp
theorem TK.box {q : Nat} {L : List Value} (h : TK W B g ip mac port iss nxt x last vG vl bs w) (hq : w.heap.size ≤ q) (hb : Below w.heap.size w w') (hO : Own W B ((q, L) :: bs) w') : TK W B g ip mac port iss nxt x last vG vl ((q, L) :: bs) w' := by
 have h1 := own_ne h.1.2.1.1 (.inr hq)
 have h2 := own_ne h.1.2.1.2.1 (.inr hq)
 refine ⟨h.1.next hb, (h.2.1.next hb).more hO (Nat.ne_of_gt (Nat.lt_of_lt_of_le h.glt hq)) h1, fun p hp => ?_⟩
 rcases List.mem_cons.1 hp with rfl | hp
 ·exact h2
 ·exact h.2.2 p hp
theorem TK.drop {bs' : List (Nat × List Value)} (h : TK W B g ip mac port iss nxt x last vG vl bs w) (hs : bs'.Sublist bs) : TK W B g ip mac port iss nxt x last vG vl bs' w := ⟨h.1, h.2.1.fewer hs, fun p hp => h.2.2 p (hs.subset hp)⟩
theorem TK.hear (h : TK W B g ip mac port iss nxt x last vG vl bs w) (hh : CliT W B 0 g ip mac port iss nxt x' last vG' vl w' ∧ Kp g vG w w' ∧ RelV w vG vG' ∧ Below B W w') : TK W B g ip mac port iss nxt x' last vG' vl bs w' := ⟨hh.1, h.2.1.hear hh.2.1 hh.2.2.1 hh.2.2.2, h.2.2⟩
theorem TK.said {vl' : Value} {nx' : Nat} {fr : List UInt8} (h : TK W B g ip mac port iss nxt x last vG vl bs w) (h1 : CliT W B 0 g ip mac port iss nx' x fr vG vl' w') (hk : Kp g vG w w') (hr : RowIs w.heap.size fr vl' w') : TK W B g ip mac port iss nx' x fr vG vl' bs w' := by
 obtain ⟨A, c, rfl, hO⟩ := hr
 refine ⟨h1, h.2.1.said hk h1.1.bel, fun p hp e => ?_⟩
 have := (hO.lt _ e.symm).1
 have := (h.2.1.1.mem p hp).2.1
 omega
theorem TK.bye {nx' : Nat} (h : TK W B g ip mac port iss nxt x last vG vl bs w) (h1 : CliT W B 0 g ip mac port iss nx' x last vG vl w') (hk : Kp g vG w w') : TK W B g ip mac port iss nx' x last vG vl bs w' := ⟨h1, h.2.1.said hk h1.1.bel, h.2.2⟩
end
theorem TK.app {W w w' : World} {B g ip mac port iss nxt : Nat} {x : Cl} {last : List UInt8} {vG vl : Value} {bs : List (Nat × List Value)} {b n : Nat} {v : Value} {xs : List Value} (h : TK W B g ip mac port iss nxt x last vG vl bs w) (hW : w.ownsRow b 49 24 v n xs) (hg : w.grownBy w' v.ownBlock) (hgb : g < b) (hB : B ≤ b) (hall : ∀ p ∈ bs, some p.1 ≠ v.ownBlock) : TK W B g ip mac port iss nxt x last vG vl bs w' := by
 obtain ⟨⟨h1, ⟨r1, r2, r3⟩, h3, h4⟩, ⟨h5, h6⟩, h7⟩ := h
 exact ⟨⟨h1.row hW hB hg (fun p hp => by rw [List.mem_singleton.1 hp]; exact own_ne hW (.inl hgb)), ⟨r1.kept hg (own_apart r1 hW rfl), r2.kept hg (own_apart r2 hW rfl), r3⟩, h3, Nat.zero_le _⟩, ⟨h5.row hW hB hg hall, h6⟩, h7⟩
theorem WantT.more {W w w' : World} {g k : Nat} {want : List Mq} {vP vP' : Value} {cs : List Value} {m : Mq} {vc vw vf : Value} (h : WantT W g k want vP cs w) (hm : mayB m) (hM : MqL W W.heap.size m vc vw vf) (hP : w'.ownsRow (g + 1) 49 24 vP' (want.length + 1) (cs ++ mqCells m vc vw vf)) : WantT W g (k + 1) (want ++ [m]) vP' (cs ++ mqCells m vc vw vf) w' := by
 have e : ((want ++ [m]).map layB).flatten = (want.map layB).flatten ++ layB m := by simp
 have hlen := h.row.1
 have hl := lay_le hm
 refine ⟨by rw [List.length_append]; exact hP, fun x hx => ?_, fun i x hx => ?_, ?_, ?_⟩
 ·rcases List.mem_append.1 hx with hx | hx
  ·exact h.may x hx
  ·rw [List.mem_singleton.1 hx]; exact hm
 ·by_cases hlt : i < want.length
  ·rw [List.getElem?_append_left hlt] at hx
   obtain ⟨a, b, c, h1, h2⟩ := h.at_ i x hx
   refine ⟨a, b, c, h1, fun j v hv => ?_⟩
   have := h2 j v hv
   rw [List.getElem?_append_left (List.getElem?_eq_some_iff.1 this).1]
   exact this
  ·have hi : i = want.length := by
    have := (List.getElem?_eq_some_iff.1 hx).1
    rw [List.length_append, List.length_singleton] at this
    omega
   subst hi
   rw [List.getElem?_append_right (Nat.le_refl _), Nat.sub_self] at hx
   injection hx with hx
   subst hx
   refine ⟨vc, vw, vf, hM, fun j v hv => ?_⟩
   rw [List.getElem?_append_right (by omega), hlen, Nat.add_sub_cancel_left]
   exact hv
 ·have := h.le
  rw [List.length_append, List.length_singleton]
  omega
 ·have := h.len
  rw [e, List.length_append]
  omega
theorem WantT.sto {W w w' : World} {g k : Nat} {want : List Mq} {vP : Value} {cs : List Value} (h : WantT W g k want vP cs w) (hg : w.grownBy w' (some g)) : WantT W g k want vP cs w' := ⟨h.row.kept hg (.inr (own_ne h.row (.inl (Nat.lt_succ_self g))).symm), h.may, h.at_, h.le, h.len⟩
theorem RowIs.sto {b g : Nat} {xs : List UInt8} {v : Value} {w w' : World} (h : RowIs b xs v w) (hg : w.grownBy w' (some g)) (hb : g < b) : RowIs b xs v w' := by
 obtain ⟨A, c, rfl, hO⟩ := h
 exact ⟨A, c, rfl, hO.kept hg (.inr (own_ne hO (.inl hb)).symm)⟩
theorem WantT.mqs {W w : World} {g k n c : Nat} {want : List Mq} {A : Option Addr} {cs : List Value} (h : WantT W g k want (.slice A n c) cs w) (hb : Below W.heap.size W w) : MqsAt w A want := by
 intro i m hi
 obtain ⟨vc, vw, vf, hM, h4⟩ := h.at_ i m hi
 have hlt := (List.getElem?_eq_some_iff.1 hi).1
 have hO := h.row
 obtain ⟨q, cap, hA, _, hg2⟩ := hO.form (by omega)
 injection hA with hA hn hc
 subst hA
 subst hn
 refine ⟨q, 0, vc, vw, vf, rfl, hg2, fun j v hv => ?_, hM.next hb⟩
 have hj : j < 24 := (List.getElem?_eq_some_iff.1 hv).1
 have := hO.cellAt (0 + i * 24 + j) (by omega)
 rw [this, Nat.zero_add]
 exact h4 j v hv
theorem gotT {W : World} {B g ip mac port iss nxt : Nat} {x : Cl} {last : List UInt8} {vG vl : Value} {w : World} (S : CliT W B 0 g ip mac port iss nxt x last vG vl w) (hn : x.got.length ≤ 40000) (hT : Wd w) :
  Calls Tryz.prog 15 #[pz g] w fun e w' => ∃ v, e = .returned v ∧ ∃ l left er A c, v = .tuple #[.slice A l.length c, iz er] ∧ Fed x.got l left er ∧ MqsAt w' A l ∧ Below w.heap.size w w' := by
 obtain ⟨hO, hR, _, hb⟩ := S
 obtain ⟨A, c, rfl, _, _⟩ := own_shape hR.1
 refine (cliGot g ip mac port iss nxt x.wants x.up x.got A c vl w (hO.get 0 rfl) (RB.of_ownN hR.1) hn hT).mono ?_
 rintro e w' ⟨v, rfl, l, left, er, vP, cs, rfl, h1, h2, ⟨hi, _, h3⟩, h4⟩
 obtain ⟨A', c', rfl, _, _⟩ := own_shape h2
 exact ⟨_, rfl, l, left, er, A', c', rfl, h1, h3.at_ h2, h4⟩
theorem fed_want {want l : List Mq} {left : List UInt8} {e : Int} (hm : ∀ m ∈ want, mayB m) (h : Fed ((want.map layB).flatten) l left e) : l = want ∧ e = 0 := by
 have h1 := fed_lays want hm Fed.done
 rw [List.append_nil, List.append_nil] at h1
 obtain ⟨e1, _, e3⟩ := fed_one h h1
 exact ⟨e1, e3⟩
theorem lay_two {m : Mq} : 2 ≤ (layB m).length := by
 rw [lay_length]
 have : 0 < (vlen (bodyBy m).length).length := by unfold vlen; split <;> simp
 omega
theorem Has.know {a : Act} {n : Nat} {l : List (Nat × Value)} (H : Has a n l) {s : Nat} {v : Value} (he : a.eval (.tmp s) = v) : Has a n ((s, v) :: l) := ⟨H.sz, H.df, fun k u h => by
 unfold look at h
 cases hb : Nat.beq s k with
 | true => rw [hb, cond_true] at h; injection h with h; rw [← Nat.eq_of_beq_eq_true hb, he, h]
 | false => rw [hb, cond_false] at h; exact H.at_ k u h⟩
def Rep (gr : Nat) (A : Option Addr) (c b : Nat) (xs : List UInt8) (w : World) : Prop := w.cell? ⟨gr, 0, none⟩ = some (.slice A 54 c) ∧ gr < w.heap.size ∧ RowIs b xs (.slice A 54 c) w ∧ b ≤ w.heap.size
theorem Rep.nx {gr : Nat} {A : Option Addr} {c b : Nat} {xs : List UInt8} {w w' : World} (h : Rep gr A c b xs w) (hb : Below w.heap.size w w') : Rep gr A c b xs w' := ⟨(cellB hb h.2.1).trans h.1, Nat.lt_of_lt_of_le h.2.1 hb.size, h.2.2.1.next hb, Nat.le_trans h.2.2.2 hb.size⟩
theorem lens_one {x : List UInt8} {k : Nat} (hx : x.length = k) (h : k ≤ 10000) : ∀ b ∈ [x], b.length ≤ 140737488351232 := fun b hb => by rw [List.mem_singleton.1 hb]; omega
theorem idx_f (gr : Nat) (w : World) : (Instr.indexAt 37 (.slice (some ⟨gr, 0, none⟩) 1 1) (iz 0)).run Tryz.prog w = .ok (pz gr) w := index_1 37 Tryz.underlying37 (fun _ => by kernel_rfl) gr 0 1 1 0 (by decide) w
theorem talk_yes (ip mac port iss : Nat) (sqp : Int) (A : Option Addr) (len cap : Nat) (hip : ip < 4294967296) (hm : mac < 281474976710656) (hp : port < 65536) (hi : iss < 4294967296) (w : World) (hT : Wd w) (hlen : len ≤ maxLen) (ha : PksAt w A len) :
  Calls Tryz.prog 6 #[.agg (askL ip mac port iss A len cap sqp).toArray] w fun e w' => e = .returned (.bool true) ∧ Below w.heap.size w w' := by
 have h1 : inR (ip : Int) 4294967295 = true := inR_iff.2 ⟨by omega, by omega⟩
 have h2 : inR (mac : Int) 281474976710655 = true := inR_iff.2 ⟨by omega, by omega⟩
 have h3 : inR (port : Int) 65535 = true := inR_iff.2 ⟨by omega, by omega⟩
 have h4 : inR (iss : Int) 4294967295 = true := inR_iff.2 ⟨by omega, by omega⟩
 have hn1 : spAdd iss 1 < 4294967296 := spAdd_lt _ _
 go_enter Tryz.func6, Tryz.ntmps6
 refine Has.start 366 [(0, .agg (askL ip mac port iss A len cap sqp).toArray)] rfl rfl ⟨rfl, trivial⟩ ?_
 intro a0 H0
 refine rl ?_
 refine H0.bx (Own.start w) 1 (L := askL ip mac port iss A len cap sqp) fun a w1 O1 H => nt ?_
 obtain ⟨gp, hgp⟩ : ∃ gp, w.heap.size = gp := ⟨_, rfl⟩
 rw [hgp] at O1 H
 replace H := H.kp [1]
 refine H.rg 0 fun a H => ?_
 refine H.loadS rfl rfl rfl rfl rfl (O1.get 0 rfl) Tryz.underlying24 rfl size_askT rfl fun a H => ?_
 have ha1 : PksAt w1 A len := fun i hlt => by
  obtain ⟨b, o, m, vc, vw, vf, q1, q2, q3, q4, q5⟩ := ha i hlt
  exact ⟨b, o, m, vc, vw, vf, q1, Nat.lt_of_lt_of_le q2 (hgp.symm ▸ O1.bel).size, rangeB q3 (hgp.symm ▸ O1.bel) q2, q4.next (hgp.symm ▸ O1.bel), q5⟩
 refine H.cl (heavy28 ip mac port iss sqp A len cap w1 ha1 hlen) ?_
 rintro a _ w2 ⟨bh, rfl, hb2⟩ H
 have O2 := O1.call hb2
 clear ha1
 cases bh with
 | true =>
  refine H.ms 1 fun a H => ?_
  refine H.offs 3 rfl fun a H => ?_
  refine H.pick gz rfl rfl rfl rfl rfl fun a H => nt (H.condT rfl ?_)
  refine H.rg 1 fun a H => nt (wp_ret ?_)
  repeat (first | (with_reducible refine block_ret ?_) | (with_reducible refine then_ret ?_))
  exact bodyPost_ret (results_tmp rfl _ _ _) H.df ⟨congrArg Ending.returned (H.at_ 2 _ rfl), hgp ▸ O2.bel⟩
 | false =>
 refine H.ms 1 fun a H => ?_
 refine H.go (H.wt rfl rfl rfl) rfl rfl _ (run_load rfl (H.ev rfl) (loadT (O2.get 0 rfl) Tryz.underlying24 rfl size_askT rfl)) fun a H => ?_
 refine H.call (H.wt rfl rfl rfl) rfl rfl rfl rfl (fun _ _ => by kernel_rfl) (belowC (may28 ip mac port iss sqp (.slice A len cap) true true true true h1 h2 h3 h4 w2)) ?_
 rintro a _ w3 ⟨rfl, hb3⟩ H
 have O3 := O2.call hb3
 refine H.un (H.wt rfl rfl rfl) rfl rfl rfl rfl (run_not true _) fun a H => ?_
 refine H.pick gz rfl rfl rfl rfl rfl fun a H => nt (H.condF rfl (skip_wp (then_normal ?_)))
 replace H := H.kp [1]
 clear H0 O1 O2 hb2
 refine H.rg 1 fun a H => ?_
 refine H.ld 1 (O3.li 0 0) fun a H => ?_
 refine H.ld 1 (O3.li 0 1) fun a H => ?_
 refine H.ld 1 (O3.li 0 2) fun a H => ?_
 refine H.ld 0 (O3.li 0 3) fun a H => ?_
 refine H.cl (cliNew ip mac port iss hip hm hp hi w3) ?_
 rintro a _ w4 ⟨g, rfl, On⟩ H
 have hgw2 := On.ge 0 rfl
 have O4 : Own w gp [(g, cliC ip mac port iss (spAdd iss 1) 0 false nilV nilV), (gp, askL ip mac port iss A len cap sqp)] w4 := by
  have h12 := O3.lt 0 rfl
  exact addq0 (O3.call On.bel) (by omega) (On.lt 0 rfl) (by intro p hp; rw [List.mem_singleton.1 hp]; show gp ≠ g; omega) (On.get 0 rfl)
 clear On hb3 O3
 refine H.ms 1 fun a H => ?_
 refine H.ex (r := pz g) 0 fun a H => ?_
 refine H.ex (r := iz 0) 2 fun a H => nt ?_
 replace H := H.kp [1, 3, 4]
 refine H.rg 1 fun a H => ?_
 refine H.cq 0 (num28 0 w4) fun a H => ?_
 refine H.bn 1 (neq_3 0 0 false rfl _ _ _) fun a H => ?_
 refine H.go (H.wt rfl rfl rfl) rfl rfl _ (run_move (.inl rfl) (H.ev rfl)) fun a H => ?_
 refine H.bin (H.wt rfl rfl rfl) rfl rfl rfl rfl rfl (eql_p ⟨g, 0, none⟩ _ _ _) fun a H => ?_
 refine H.pick gz rfl rfl rfl rfl rfl fun a H => nt (H.condF rfl (skip_wp (then_normal ?_)))
 replace H := H.kp [1, 3]
 refine H.rg 1 fun a H => ?_
 refine H.cl (cliDial g ip mac port iss (spAdd iss 1) 0 false nilV nilV w4 (O4.get 0 rfl) (O4.lt 0 rfl) hip hm hp hi) ?_
 rintro a v5 w5 ⟨_, hgr5, hC5⟩ H
 have O5 : Own w gp [(g, cliC ip mac port iss (spAdd iss 1) 0 false nilV nilV), (gp, askL ip mac port iss A len cap sqp)] w5 := O4.turn 0 rfl hgr5 hC5
 refine nt ?_
 have hnd := O5.nd
 simp only [List.map_cons, List.map_nil, List.nodup_cons, List.mem_cons, List.not_mem_nil, or_false] at hnd
 have T5 : TK w gp g ip mac port iss (spAdd iss 1) ⟨0, false, []⟩ [] nilV nilV [(gp, askL ip mac port iss A len cap sqp)] w5 := ⟨⟨O5.sub (.cons_cons _ (.cons _ (List.nil_sublist _))), CliR.nil, fun k h => absurd h (Nat.not_lt_zero _), Nat.zero_le _⟩, ⟨O5.sub (.cons _ (List.Sublist.refl _)), fun q hq => by rw [List.mem_singleton.1 hq]; exact ⟨fun e => hnd.1 e.symm, fun h => (by cases h)⟩⟩, fun q _ h => (by cases h)⟩
 clear O4 hC5 O5 hnd hgr5
 replace H := H.kp [1, 3]
 obtain ⟨s, hse⟩ : ∃ s : Nat, sqp % 4294967296 = (s : Int) := ⟨(sqp % 4294967296).toNat, by omega⟩
 have hs : s ≤ 4294967295 := by omega
 refine H.rg 1 fun a H => ?_
 refine H.ld 0 (T5.2.1.1.li 0 5) fun a H => ?_
 refine H.cv 0 (conv_32 sqp w5) fun a H => ?_
 refine H.cv 1 (conv_23 (sqp % 4294967296) (by omega) (by omega) w5) fun a H => nt ?_
 rw [hse] at H
 replace H := H.kp [1, 3, 5]
 refine H.rg 1 fun a H => ?_
 refine H.loadS rfl rfl rfl rfl rfl (T5.at_ 0 rfl) Tryz.underlying24 rfl size_askT rfl fun a H => ?_
 refine H.ms 2 fun a H => ?_
 refine H.ld 0 (T5.2.1.1.li 0 3) fun a H => ?_
 have okA : (sg28 port (s) (iss) 18 []).ok = true := sg28_ok (by omega) (hs) (by omega) (by decide) (by decide)
 refine H.any (w' := w5) gz rfl rfl (.agg ([iz 0, iz 0, iz s, iz iss, iz ((18 : Nat) : Int), iz 0, .slice none 0 0] : List Value).toArray) (by intro cs b h; cases h) (by kernel_rfl) (by kernel_rfl) fun a H => ?_
 refine H.cl (back28F ip mac port iss sqp (.slice A len cap) (s) (iss) 18 [] none 0 okA hip hm w5 RB.nil) ?_
 rintro a _ w6 ⟨Aw6, cw6, rfl, hfw6, hbw6⟩ H
 have Tw6 := T5.nx hbw6
 have fc6 := T5.frc hfw6 (Nat.le_refl _)
 have hLw7 := rowC (g := g) (vG := nilV) (fs := [(.slice Aw6 (54 + 0) cw6, fr28 mac ip port s iss 18 [])]) (w := w6) (frc_cons fc6 frc_nil) Tw6.glt (own_ne Tw6.1.2.1.1 (.inr (Nat.le_refl _)))
 refine H.any (w' := w6.alloc (.cells ([.slice Aw6 (54 + 0) cw6] : List Value).toArray 31)) gz rfl rfl (.slice (some ⟨w6.heap.size, 0, none⟩) 1 1) (by intro cs b h; cases h) (by kernel_rfl) (by kernel_rfl) fun a H => ?_
 have hbw7 : Below w6.heap.size w6 (w6.alloc (.cells ([.slice Aw6 (54 + 0) cw6] : List Value).toArray 31)) := balloc _ _
 replace hLw7 : FrsS (w6.alloc (.cells ([.slice Aw6 (54 + 0) cw6] : List Value).toArray 31)) (fun k => k ≠ g ∧ some k ≠ (nilV : Value).ownBlock) (some ⟨w6.heap.size, 0, none⟩) [fr28 mac ip port s iss 18 []] := hLw7
 generalize w6.alloc (.cells ([.slice Aw6 (54 + 0) cw6] : List Value).toArray 31) = w7 at *
 generalize hgrw7 : w6.heap.size = grw7 at H hLw7
 have Tw7 := Tw6.nx hbw7
 have tA : toldCli mac ip port (fr28 mac ip port s iss 18 []) = some (sg28 port s iss 18 []) := by rw [told_cli hm hip okA, if_pos rfl]
 have cA : clHear iss ⟨0, false, []⟩ (sg28 port s iss 18 []) = (⟨0, false, []⟩, false) := clHear_none rfl (by unfold spAdd; omega)
 refine H.cl (hearT (x := ⟨0, false, []⟩) [fr28 mac ip port s iss 18 []] (some ⟨grw7, 0, none⟩) 1 1 rfl Tw7.1 hLw7 (by decide) (lens_one (fr28_len ..) (by decide)) (by decide) (by show 0 ≤ 10000000; decide) hip hm hp hi hn1 ⟨0, false, []⟩ false (by simp only [clHears, tA, cA, Bool.or_false])) ?_
 rintro a _ w8 ⟨vGw8, hqw8, hzw8, _⟩ H
 obtain rfl := hzw8 rfl
 have Tw8 := Tw7.hear hqw8
 refine H.len gz rfl rfl rfl rfl Tryz.underlying37 fun a H => ?_
 refine H.bn 1 (neq_3 0 0 false rfl _ _ _) fun a H => ?_
 refine H.go (H.wt rfl rfl rfl) rfl rfl _ (run_move (.inl rfl) (H.ev rfl)) fun a H => ?_
 refine H.call (H.wt rfl rfl rfl) rfl rfl rfl rfl (fun _ _ => by kernel_rfl) (quietC (cliUp g ip mac port iss ((spAdd iss 1)) _ false _ _ w8 Tw8.up)) ?_
 rintro a _ _ ⟨rfl, rfl⟩ H
 refine H.pick gz rfl rfl rfl rfl rfl fun a H => nt (H.condF rfl (skip_wp (then_normal ?_)))
 replace H := H.kp [1, 3, 5]
 clear fc6 hLw7 hbw7 hbw6 hfw6 T5 Tw6 Tw7 hqw8 tA cA okA hgrw7
 have okP : (sg28 port (s) (spAdd iss 1) 18 []).ok = true := sg28_ok (by omega) (hs) (Nat.le_of_lt_succ hn1) (by decide) (by decide)
 obtain ⟨b8, hb8⟩ : ∃ b, w8.heap.size = b := ⟨_, rfl⟩
 refine H.sg (fun w' => (TK w gp g ip mac port iss (spAdd iss 1) ⟨0, false, []⟩ [] vGw8 nilV [(gp, askL ip mac port iss A len cap sqp)] w') ∧ b8 ≤ w'.heap.size) ⟨Tw8.dr, Nat.le_of_eq hb8.symm⟩ [1, 3, 5] [ec 0 71 (pz g), ec 1 72 (.agg (askL ip mac port iss A len cap sqp).toArray), ec 2 73 (iz s), ec 3 74 (.pointer (some ⟨gp, 3, none⟩)), ec 4 75 (iz iss), ec 5 76 (iz (spAdd iss 1)), ec 6 77 (.agg ([iz 0, iz 0, iz s, iz (spAdd iss 1), iz ((18 : Nat) : Int), iz 0, .slice none 0 0] : List Value).toArray), er 8 79 [] (FrIs b8 [1, 2, 3])] rfl ?_
 have KK : ∀ wy, ((TK w gp g ip mac port iss (spAdd iss 1) ⟨0, false, []⟩ [] vGw8 nilV [(gp, askL ip mac port iss A len cap sqp)] wy) ∧ b8 ≤ wy.heap.size) → _ := fun wy h => back28F ip mac port iss sqp (.slice A len cap) s (spAdd iss 1) 18 [] none 0 okP hip hm wy RB.nil
 refine St.call 7 ⟨jm, jl fun _ h => loadT (h.1.at_ 0 rfl) Tryz.underlying24 rfl size_askT rfl, jm, jm, jl fun _ h => h.1.2.1.1.li 0 3, jq fun w' _ => pageAdd iss 1 w', ja (fun _ => by kernel_rfl), kl [1, 2, 3] [.int .u8 1, .int .u8 2, .int .u8 3] 3 rfl rfl (fun _ h => h.2) (fun _ => by kernel_rfl), trivial⟩ KK ?_ (hF := .inr fun _ _ h hb => ⟨h.1.nx hb, Nat.le_trans h.2 hb.size⟩) (hst := ⟨fun _ _ _ hb h => h.next hb, trivial⟩)
 rintro wx _ wz hh ⟨A8, c8, rfl, hfr, hbz⟩
 have fc := hh.1.frc hfr (Nat.le_refl _)
 refine Go.Proofs.YtlacidnnankjlaaGreatDoor.nx (fun w' => (TK w gp g ip mac port iss (spAdd iss 1) ⟨0, false, []⟩ [] vGw8 nilV [(gp, askL ip mac port iss A len cap sqp)] w') ∧ b8 ≤ w'.heap.size ∧ FrC g vGw8 (fr28 mac ip port s (spAdd iss 1) 18 []) (.slice A8 (54 + 0) c8) w') [] [] ⟨hh.1.nx hbz, Nat.le_trans hh.2 hbz.size, fc⟩ ?_ (hk := StabAll.keeps hbz ⟨fun _ _ _ hb h => h.next hb, trivial⟩)
 clear hh hfr hbz fc KK
 refine St.val 9 ⟨jm, kl [1, 2, 3] [.int .u8 1, .int .u8 2, .int .u8 3] 3 rfl rfl (fun _ h => h.2.1) (fun _ => by kernel_rfl), trivial⟩ ?_ (hF := .inr fun _ _ h hb => ⟨h.1.nx hb, Nat.le_trans h.2.1 hb.size, h.2.2.next hb⟩) (hst := ⟨fun _ _ _ hb h => h.next hb, trivial⟩)
 rintro a wx H ⟨hK, _⟩ ⟨Tx, hbx, fcx⟩
 obtain ⟨A9, c9, e9, hl9, hr9⟩ := hK
 have fK : FrC g vGw8 [1, 2, 3] (.slice A9 3 c9) wx := Tw8.frc ⟨A9, c9, rfl, hl9, hr9⟩ (Nat.le_of_eq hb8)
 have HH := H.know e9
 have hL := rowC (g := g) (vG := vGw8) (fs := [(.slice A8 (54 + 0) c8, fr28 mac ip port s (spAdd iss 1) 18 []), (.slice A9 3 c9, [1, 2, 3])]) (w := wx) (frc_cons fcx (frc_cons fK frc_nil)) Tx.glt (own_ne Tx.1.2.1.1 (.inr (Nat.le_refl _)))
 refine ⟨.slice (some ⟨wx.heap.size, 0, none⟩) 2 2, wx.alloc (.cells ([.slice A8 (54 + 0) c8, .slice A9 3 c9] : List Value).toArray 31), run_any HH (by intro cs b h; cases h) (by kernel_rfl) (by kernel_rfl), ?_⟩
 have hbq : Below wx.heap.size wx (wx.alloc (.cells ([.slice A8 (54 + 0) c8, .slice A9 3 c9] : List Value).toArray 31)) := balloc _ _
 replace hL : FrsS (wx.alloc (.cells ([.slice A8 (54 + 0) c8, .slice A9 3 c9] : List Value).toArray 31)) (fun k => k ≠ g ∧ some k ≠ vGw8.ownBlock) (some ⟨wx.heap.size, 0, none⟩) [fr28 mac ip port s (spAdd iss 1) 18 [], [1, 2, 3]] := hL
 generalize wx.alloc (.cells ([.slice A8 (54 + 0) c8, .slice A9 3 c9] : List Value).toArray 31) = wy at hL hbq ⊢
 obtain ⟨gq, hgq⟩ : ∃ gq, wx.heap.size = gq := ⟨_, rfl⟩
 rw [hgq] at hL ⊢
 refine Go.Proofs.YtlacidnnankjlaaGreatDoor.nx (fun w' => (TK w gp g ip mac port iss (spAdd iss 1) ⟨0, false, []⟩ [] vGw8 nilV [(gp, askL ip mac port iss A len cap sqp)] w') ∧ b8 ≤ w'.heap.size ∧ FrsS w' (fun k => k ≠ g ∧ some k ≠ vGw8.ownBlock) (some ⟨gq, 0, none⟩) [fr28 mac ip port s (spAdd iss 1) 18 [], [1, 2, 3]]) [] [8] ⟨Tx.nx hbq, Nat.le_trans hbx hbq.size, hL⟩ ?_
 clear Tx fcx fK hL hbq H HH hr9 e9 hl9
 have tP : toldCli mac ip port (fr28 mac ip port s (spAdd iss 1) 18 []) = some (sg28 port s (spAdd iss 1) 18 []) := by rw [told_cli hm hip okP, if_pos rfl]
 have cP : clHears mac ip port iss ⟨0, false, []⟩ false [fr28 mac ip port s (spAdd iss 1) 18 [], [1, 2, 3]] = (⟨spAdd s 1, true, []⟩, true) := by simp only [clHears, tP, told_123, clHear_syn, Bool.or_true]
 have lP : ∀ b ∈ [fr28 mac ip port s (spAdd iss 1) 18 [], [1, 2, 3]], b.length ≤ 140737488351232 := by
  intro b hb
  simp only [List.mem_cons, List.not_mem_nil, or_false] at hb
  rcases hb with rfl | rfl
  ·rw [fr28_len]; decide
  ·decide
 have K10 : ∀ wy, ((TK w gp g ip mac port iss (spAdd iss 1) ⟨0, false, []⟩ [] vGw8 nilV [(gp, askL ip mac port iss A len cap sqp)] wy) ∧ b8 ≤ wy.heap.size ∧ FrsS wy (fun k => k ≠ g ∧ some k ≠ vGw8.ownBlock) (some ⟨gq, 0, none⟩) [fr28 mac ip port s (spAdd iss 1) 18 [], [1, 2, 3]]) → _ := fun wy h => hearT (x := ⟨0, false, []⟩) [fr28 mac ip port s (spAdd iss 1) 18 [], [1, 2, 3]] (some ⟨gq, 0, none⟩) 2 2 rfl h.1.1 h.2.2 (by decide) lP (by decide) (by show 0 ≤ 10000000; decide) hip hm hp hi hn1 ⟨spAdd s 1, true, []⟩ true cP
 refine St.call 10 ⟨jm, trivial⟩ K10 ?_
 rintro wx2 _ wz hh ⟨vG9, hq9, _, hz9⟩
 obtain ⟨gr9, A9, c9, rfl, hc9, hgl9, hr9⟩ := hz9 rfl
 refine Go.Proofs.YtlacidnnankjlaaGreatDoor.nx (fun w' => (TK w gp g ip mac port iss (spAdd iss 1) ⟨spAdd s 1, true, []⟩ [] vG9 nilV [(gp, askL ip mac port iss A len cap sqp)] w') ∧ Rep gr9 A9 c9 b8 (frC mac ip port (spAdd iss 1) (spAdd s 1) 16 []) w') [ec 11 6 (.slice (some ⟨gr9, 0, none⟩) 1 1)] [] ⟨hh.1.hear hq9, hc9, hgl9, hr9.base hh.2.1, Nat.le_trans hh.2.1 hq9.2.1.1⟩ (St.fin ⟨jm, trivial⟩ ?_)
 clear K10 hh hq9 hz9 hc9 hgl9 hr9
 rintro a w9 H _ ⟨T9, R9⟩
 refine then_normal ?_
 replace H := H.kp [1, 3, 5, 6]
 refine H.rg 1 fun a H => ?_
 refine H.len gz rfl rfl rfl rfl Tryz.underlying37 fun a H => ?_
 refine H.bn 1 (neq_3 1 1 false rfl _ _ _) fun a H => ?_
 refine H.go (H.wt rfl rfl rfl) rfl rfl _ (run_move (.inl rfl) (H.ev rfl)) fun a H => ?_
 refine H.call (H.wt rfl rfl rfl) rfl rfl rfl rfl (fun _ _ => by kernel_rfl) (quietC (cliUp g ip mac port iss ((spAdd iss 1)) _ true _ _ w9 T9.up)) ?_
 rintro a _ _ ⟨rfl, rfl⟩ H
 refine H.un (H.wt rfl rfl rfl) rfl rfl rfl rfl (run_not true _) fun a H => ?_
 refine H.pick gz rfl rfl rfl rfl rfl fun a H => nt (H.condF rfl (skip_wp (then_normal ?_)))
 replace H := H.kp [1, 3, 5, 6]
 refine H.sg (fun w' => Below w9.heap.size w9 w') (Below.drew (Below.refl _ _)) [1, 3, 5, 6] [ec 0 91 (.agg (askL ip mac port iss A len cap sqp).toArray), ec 1 92 (.slice (some ⟨gr9, 0, none⟩) 1 1), ec 2 93 (pz gr9), ec 3 94 (.slice A9 54 c9), er 8 7 [] (BoxQ w9.heap.size 36 (sgL .zero nilV))] rfl ?_
 have KK : ∀ wy, Below w9.heap.size w9 wy → _ := fun wy h => segC ip mac port iss sqp (.slice A len cap) (spAdd iss 1) (spAdd s 1) 16 [] 54 rfl A9 c9 _ wy (R9.nx h).2.2.1 hip hm hp (hn1) (spAdd_lt _ _) (by decide) (by decide)
 refine St.call 4 ⟨jl fun _ h => loadT ((T9.nx h).at_ 0 rfl) Tryz.underlying24 rfl size_askT rfl, jm, jI rfl rfl rfl rfl rfl rfl (fun w => idx_f gr9 w), jl fun _ h => load1_31 _ _ _ _ _ _ (R9.nx h).1, ka zero_sg27 (fun _ h => h.size), trivial⟩ KK ?_ (hF := .inr fun _ _ h hb => h.trans (hb.mono h.size)) (hst := ⟨fun _ _ _ hb h => h.below hb, trivial⟩)
 rintro wx _ wz hh ⟨Aw10, cw10, rfl, hOw10, hbw10⟩
 refine Go.Proofs.YtlacidnnankjlaaGreatDoor.nx (fun w' => Below w9.heap.size w9 w') [ec 5 90 (.tuple #[.agg (sgC port (spAdd iss 1) (spAdd s 1) 16 Aw10 0 cw10).toArray, .bool true]), ec 6 96 (.agg (sgC port (spAdd iss 1) (spAdd s 1) 16 Aw10 0 cw10).toArray), ec 7 97 (.bool true), ec 10 8 (.bool true)] [] (hh.trans (hbw10.mono hh.size)) ?_ (hk := StabAll.keeps hbw10 ⟨fun _ _ _ hb h => h.below hb, trivial⟩)
 clear KK hh hbw10 hOw10
 refine St.sto 9 ⟨jm, jx, jx, jm, ka zero_sg27 (fun _ h => h.size), trivial⟩ ?_ (hF := .inr fun _ _ h hb => h.trans (hb.mono h.size)) (hst := ⟨fun _ _ _ hb h => h.below hb, trivial⟩)
 rintro a wu H ⟨⟨gs, es, hg1, hg2, hC, hTy⟩, _⟩ hu
 obtain ⟨w', hr', hgr, hs', hC'⟩ := hC.sto (L := (sgC port (spAdd iss 1) (spAdd s 1) 16 Aw10 0 cw10)) size_sg27 rfl rfl rfl
 have Tu := T9.nx hu
 have hgpu : gp < w9.heap.size := T9.2.1.1.lt 0 rfl
 have Tv := T9.box hg1 (hu.grown hgr hu.size (fun k hk => by injection hk with hk; omega)) (Tu.2.1.1.addq hgr (by omega) hg2 (by intro q hq; rw [List.mem_singleton.1 hq]; show gp ≠ gs; omega) hC')
 refine ⟨w', run_store rfl es (H.ev rfl) hr', nxp (fun w' => TK w gp g ip mac port iss (spAdd iss 1) ⟨spAdd s 1, true, []⟩ [] vG9 nilV [(gs, sgC port (spAdd iss 1) (spAdd s 1) 16 Aw10 0 cw10), (gp, askL ip mac port iss A len cap sqp)] w') [ec 8 7 (pz gs)] [] [8] Tv ⟨⟨rfl, rfl, _, rfl, es⟩, trivial⟩ (St.fin ⟨jx, jm, trivial⟩ ?_ (hF := .inl rfl))⟩
 have hggs : g < gs := Nat.lt_of_lt_of_le T9.glt hg1
 have hgpgs : gp < gs := Nat.lt_of_lt_of_le hgpu hg1
 clear Tv Tu hr' hgr hs' hC' hC hTy hgpu hg1 hg2 hu H es
 rintro a w10 H _ T10
 refine then_normal ?_
 replace H := H.kp [1, 3, 5, 7, 8]
 refine H.dq (fun w' => TK w gp g ip mac port iss (spAdd iss 1) ⟨spAdd s 1, true, []⟩ [] vG9 nilV [(gs, sgC port (spAdd iss 1) (spAdd s 1) 16 Aw10 0 cw10), (gp, askL ip mac port iss A len cap sqp)] w') (fun _ _ h hb => h.nx hb) T10 [1, 3, 5, 7, 8] rfl [ec 0 98 (.bool true), ec 1 99 (.bool false), ec 2 100 (.bool false), ec 3 101 (.pointer (some ⟨gs, 4, none⟩)), ec 4 102 (iz ((16 : Nat) : Int)), ec 5 103 (.bool false), ec 6 104 (.bool false), ec 7 105 (.bool false), ec 8 106 (.pointer (some ⟨gs, 3, none⟩)), ec 9 107 (iz (spAdd s 1)), ec 10 108 (iz s), ec 11 109 (iz (spAdd s 1)), ec 12 110 (.bool false), ec 13 111 (.bool false), ec 14 112 (.bool false), ec 15 113 (.pointer (some ⟨gs, 2, none⟩)), ec 16 114 (iz (spAdd iss 1)), ec 17 115 (.pointer (some ⟨gp, 3, none⟩)), ec 18 116 (iz iss), ec 19 117 (iz (spAdd iss 1)), ec 20 118 (.bool false), ec 21 119 (.bool false)] rfl ⟨jm, ju (hq := run_not true), jm, jm, jl fun _ h => load1_i _ _ _ _ ((h.at_ 0 rfl).get 4 _ rfl), jb fun _ => neq_3 _ _ false rfl _ _ _, jp, jm, jm, jl fun _ h => load1_i _ _ _ _ ((h.at_ 0 rfl).get 3 _ rfl), jm, jq fun w' _ => pageAdd (s) 1 w', jb fun _ => neq_self _ _ _ _, jp, jm, jm, jl fun _ h => load1_i _ _ _ _ ((h.at_ 0 rfl).get 2 _ rfl), jm, jl fun _ h => load1_i _ _ _ _ ((h.at_ 1 rfl).get 3 _ rfl), jq fun w' _ => pageAdd (iss) 1 w', jb fun _ => neq_self _ _ _ _, jp, trivial⟩ trivial ?_
 clear T10
 rintro a w11 H _ T11
 refine then_normal (H.condF rfl (skip_wp (then_normal ?_)))
 replace H := H.kp [1, 3, 7]
 refine H.dq (fun w' => TK w gp g ip mac port iss (spAdd iss 1) ⟨spAdd s 1, true, []⟩ [] vG9 nilV [(gs, sgC port (spAdd iss 1) (spAdd s 1) 16 Aw10 0 cw10), (gp, askL ip mac port iss A len cap sqp)] w') (fun _ _ h hb => h.nx hb) T11 [1, 3, 7] rfl [ec 0 120 (.pointer (some ⟨gs, 2, none⟩)), ec 1 121 (iz (spAdd iss 1)), ec 2 122 (.pointer (some ⟨gs, 3, none⟩)), ec 3 123 (iz (spAdd s 1)), ec 4 9 (iz (spAdd iss 1)), ec 5 10 (iz (spAdd s 1))] rfl ⟨jm, jl fun _ h => load1_i _ _ _ _ ((h.at_ 0 rfl).get 2 _ rfl), jm, jl fun _ h => load1_i _ _ _ _ ((h.at_ 0 rfl).get 3 _ rfl), jm, jm, trivial⟩ trivial ?_
 clear T11
 rintro a w12 H _ T12
 refine then_normal ?_
 replace H := H.kp [1, 3, 7, 9, 10]
 refine H.rg 1 fun a H => nt ?_
 refine wp_seq_join (fun a w' => ∃ (nx hd : Nat) (got : List UInt8) (vG vl : Value) (last : List UInt8) (sq ak fl : Nat) (As : Option Addr) (ns qs : Nat), Has a 366 [(1, pz gp), (3, pz g), (7, pz gs), (9, iz nx), (10, iz hd)] ∧ (nx ≤ 4294967295 ∧ hd ≤ 4294967295 ∧ got.length ≤ 20000) ∧ TK w gp g ip mac port iss nx ⟨hd, true, got⟩ last vG vl [(gs, sgC port sq ak fl As ns qs), (gp, askL ip mac port iss A len cap sqp)] w') ?_ ?_
 rotate_left
 ·rintro a w3 ⟨nx, hd, got, vG, vl, last, sq, ak, fl, As, ns, qs, H, ⟨hnx, hhd, hgl⟩, T3⟩
  refine H.rg 1 fun a H => ?_
  refine H.cl (cliBye T3.1 rfl hhd hip hm hp (Nat.lt_succ_of_le hnx)) ?_
  rintro a _ w4 ⟨Af, cf, rfl, hrf, hcl, hkp⟩ H
  have hgs3 : gs < w3.heap.size := T3.2.1.1.lt 0 rfl
  have T4 := T3.bye hcl hkp
  refine H.ms 1 fun a H => ?_
  refine H.ex (r := .slice Af 54 cf) 0 fun a H => ?_
  refine H.ex (r := iz 0) 2 fun a H => nt ?_
  replace H := H.kp [1, 3, 7, 9, 10, 22, 23]
  clear T3 hcl hkp
  refine H.rg 0 fun a H => ?_
  refine H.loadS rfl rfl rfl rfl rfl (T4.at_ 1 rfl) Tryz.underlying24 rfl size_askT rfl fun a H => ?_
  refine H.ms 1 fun a H => ?_
  refine H.cl (segC ip mac port iss sqp (.slice A len cap) nx hd 17 [] 54 rfl Af cf _ w4 hrf hip hm hp (by omega) (by omega) (by decide) (by decide)) ?_
  rintro a _ w5 ⟨As5, cs5, rfl, hO5, hbw5⟩ H
  have T5 := T4.nx hbw5
  refine H.ms 1 fun a H => ?_
  refine H.ex (r := .agg (sgC port nx hd 17 As5 0 cs5).toArray) 0 fun a H => ?_
  refine H.ex (r := .bool true) 0 fun a H => ?_
  refine H.storeS rfl rfl rfl rfl rfl (T5.at_ 0 rfl) size_sg27 rfl rfl rfl fun a w6 H hg6 hs6 hC6 => ?_
  have T6 := T5.sto 0 rfl hg6 hC6
  refine H.ms 1 fun a H => nt ?_
  clear T4 T5 hO5 hrf hg6 hs6 hC6 hbw5
  replace H := H.kp [1, 3, 7, 9, 10, 23, 8]
  refine H.tb (fun w' => TK w gp g ip mac port iss (spAdd nx 1) ⟨hd, true, got⟩ last vG vl [(gs, (sgC port nx hd 17 As5 0 cs5)), (gp, askL ip mac port iss A len cap sqp)] w') (fun _ _ h hb => h.nx hb) T6 [ec 0 300 (iz 0), ec 1 301 (iz 0), ec 2 302 (.bool false), ec 3 303 (.bool false), ec 4 304 (.bool true), ec 5 305 (.bool false), ec 6 306 (.bool false), ec 7 307 (.bool false), ec 8 308 (.pointer (some ⟨gs, 4, none⟩)), ec 9 309 (iz ((17 : Nat) : Int)), ec 10 310 (.bool false), ec 11 311 (.bool false), ec 12 312 (.bool false), ec 13 313 (.pointer (some ⟨gs, 2, none⟩)), ec 14 314 (iz nx), ec 15 315 (iz nx), ec 16 316 (.bool false), ec 17 317 (.bool false)] rfl ⟨jm, jq fun w' _ => num28 0 w', jb fun _ => neq_self _ _ _ _, jm, jm, ju (hq := run_not true), jp, jm, jm, jl fun _ h => load1_i _ _ _ _ ((h.at_ 0 rfl).get 4 _ rfl), jb fun _ => neq_3 _ _ false rfl _ _ _, jp, jm, jm, jl fun _ h => load1_i _ _ _ _ ((h.at_ 0 rfl).get 2 _ rfl), jm, jb fun _ => neq_self _ _ _ _, jp, trivial⟩ ?_
  clear T6 H
  rintro a w7 H T7
  refine then_normal (H.condF rfl (skip_wp (then_normal ?_)))
  replace H := H.kp [1, 3, 7, 9, 10]
  refine H.rg 1 fun a H => ?_
  refine H.loadS rfl rfl rfl rfl rfl (T7.at_ 1 rfl) Tryz.underlying24 rfl size_askT rfl fun a H => ?_
  refine H.ms 1 fun a H => ?_
  have okF : (sg28 port (hd) (0) 17 []).ok = true := sg28_ok (by omega) (hhd) (by decide) (by decide) (by decide)
  refine H.any (w' := w7) gz rfl rfl (.agg ([iz 0, iz 0, iz hd, iz ((0 : Nat) : Int), iz ((17 : Nat) : Int), iz 0, .slice none 0 0] : List Value).toArray) (by intro cs b h; cases h) (by kernel_rfl) (by kernel_rfl) fun a H => ?_
  refine H.cl (back28F ip mac port iss sqp (.slice A len cap) (hd) (0) 17 [] none 0 okF hip hm w7 RB.nil) ?_
  rintro a _ w8 ⟨Aw8, cw8, rfl, hfw8, hbw8⟩ H
  have Tw8 := T7.nx hbw8
  have fc8 := T7.frc hfw8 (Nat.le_refl _)
  have hLw9 := rowC (g := g) (vG := vG) (fs := [(.slice Aw8 (54 + 0) cw8, fr28 mac ip port hd 0 17 [])]) (w := w8) (frc_cons fc8 frc_nil) Tw8.glt (own_ne Tw8.1.2.1.1 (.inr (Nat.le_refl _)))
  refine H.any (w' := w8.alloc (.cells ([.slice Aw8 (54 + 0) cw8] : List Value).toArray 31)) gz rfl rfl (.slice (some ⟨w8.heap.size, 0, none⟩) 1 1) (by intro cs b h; cases h) (by kernel_rfl) (by kernel_rfl) fun a H => ?_
  have hbw9 : Below w8.heap.size w8 (w8.alloc (.cells ([.slice Aw8 (54 + 0) cw8] : List Value).toArray 31)) := balloc _ _
  replace hLw9 : FrsS (w8.alloc (.cells ([.slice Aw8 (54 + 0) cw8] : List Value).toArray 31)) (fun k => k ≠ g ∧ some k ≠ (vG : Value).ownBlock) (some ⟨w8.heap.size, 0, none⟩) [fr28 mac ip port hd 0 17 []] := hLw9
  generalize w8.alloc (.cells ([.slice Aw8 (54 + 0) cw8] : List Value).toArray 31) = w9 at *
  generalize hgrw9 : w8.heap.size = grw9 at H hLw9
  have Tw9 := Tw8.nx hbw9
  have tF : toldCli mac ip port (fr28 mac ip port hd 0 17 []) = some (sg28 port hd 0 17 []) := by rw [told_cli hm hip okF, if_pos rfl]
  have cF : clHear iss ⟨hd, true, got⟩ (sg28 port hd 0 17 []) = (⟨spAdd hd 1, true, got⟩, true) := clHear_fin (x := ⟨hd, true, got⟩) rfl
  have hsz : w7.heap.size ≤ w9.heap.size := Nat.le_trans hbw8.size hbw9.size
  refine H.cl (hearT (x := ⟨hd, true, got⟩) [fr28 mac ip port hd 0 17 []] (some ⟨grw9, 0, none⟩) 1 1 rfl Tw9.1 hLw9 (by decide) (lens_one (fr28_len ..) (by decide)) hhd (by show got.length ≤ 10000000; omega) hip hm hp hi (spAdd_lt _ _) ⟨spAdd hd 1, true, got⟩ true (by simp only [clHears, tF, cF, Bool.or_true])) ?_
  rintro a _ wa ⟨vGwa, hqwa, _, hzwa⟩ H
  obtain ⟨grwa, Awa, cwa, rfl, hcwa, hglwa, hrwa⟩ := hzwa rfl
  have Twa := Tw9.hear hqwa
  have Rwa : Rep grwa Awa cwa w9.heap.size (frC mac ip port (spAdd nx 1) (spAdd hd 1) 16 []) wa := ⟨hcwa, hglwa, hrwa, hqwa.2.1.1⟩
  refine H.ms 1 fun a H => nt ?_
  replace H := H.kp [1, 3, 7, 9, 10, 6]
  clear hcwa hglwa hrwa hqwa fc8 hLw9 T7 Tw8 Tw9 tF cF okF hsz hfw8 hbw8 hbw9 hgrw9
  refine H.rg 1 fun a H => ?_
  refine H.len gz rfl rfl rfl rfl Tryz.underlying37 fun a H => ?_
  refine H.bn 0 (neq_3 1 1 false rfl _ _ _) fun a H => nt (H.condF rfl (skip_wp (then_normal ?_)))
  replace H := H.kp [1, 3, 7, 9, 10, 6]
  refine H.sg (fun w' => Below wa.heap.size wa w') (Below.drew (Below.refl _ _)) [1, 3, 7, 9, 10, 6] [ec 0 329 (.agg (askL ip mac port iss A len cap sqp).toArray), ec 1 330 (.slice (some ⟨grwa, 0, none⟩) 1 1), ec 2 331 (pz grwa), ec 3 332 (.slice Awa 54 cwa)] rfl ?_
  have KK : ∀ wy, Below wa.heap.size wa wy → _ := fun wy h => segC ip mac port iss sqp (.slice A len cap) (spAdd nx 1) (spAdd hd 1) 16 [] 54 rfl Awa cwa _ wy (Rwa.nx h).2.2.1 hip hm hp (spAdd_lt _ _) (spAdd_lt _ _) (by decide) (by decide)
  refine St.call 4 ⟨jl fun _ h => loadT ((Twa.nx h).at_ 1 rfl) Tryz.underlying24 rfl size_askT rfl, jm, jI rfl rfl rfl rfl rfl rfl (fun w => idx_f grwa w), jl fun _ h => load1_31 _ _ _ _ _ _ (Rwa.nx h).1, trivial⟩ KK ?_
  rintro wx _ wz hh ⟨Awb, cwb, rfl, hOwb, hbwb⟩
  refine Go.Proofs.YtlacidnnankjlaaGreatDoor.nx (fun w' => Below wa.heap.size wa w') [ec 5 328 (.tuple #[.agg (sgC port (spAdd nx 1) (spAdd hd 1) 16 Awb 0 cwb).toArray, .bool true]), ec 6 334 (.agg (sgC port (spAdd nx 1) (spAdd hd 1) 16 Awb 0 cwb).toArray), ec 7 335 (.bool true), ec 9 8 (.bool true)] [] (hh.trans (hbwb.mono hh.size)) ?_
  clear KK hh hbwb hOwb
  refine St.sto 8 ⟨jm, jx, jx, jm, trivial⟩ ?_
  rintro a wu H _ hu
  have Tu := Twa.nx hu
  obtain ⟨w', hr', hgr, hs', hC'⟩ := (Tu.at_ 0 rfl).sto (L := (sgC port (spAdd nx 1) (spAdd hd 1) 16 Awb 0 cwb)) size_sg27 rfl rfl rfl
  have Tv := Tu.sto 0 rfl hgr hC'
  refine ⟨w', run_store rfl (H.ev rfl) (H.ev rfl) hr', nx0 (fun w' => TK w gp g ip mac port iss (spAdd nx 1) ⟨spAdd hd 1, true, got⟩ last vGwa vl [(gs, (sgC port (spAdd nx 1) (spAdd hd 1) 16 Awb 0 cwb)), (gp, askL ip mac port iss A len cap sqp)] w') [] [] Tv (St.fin ⟨jx, jm, trivial⟩ ?_ (hF := .inl rfl))⟩
  clear Tu Tv hr' hgr hs' hC' hu H Twa Rwa
  rintro a wb H _ Twb
  refine then_normal ?_
  replace H := H.kp [1, 3, 7, 9, 10, 8]
  refine H.dq (fun w' => TK w gp g ip mac port iss (spAdd nx 1) ⟨spAdd hd 1, true, got⟩ last vGwa vl [(gs, (sgC port (spAdd nx 1) (spAdd hd 1) 16 Awb 0 cwb)), (gp, askL ip mac port iss A len cap sqp)] w') (fun _ _ h hb => h.nx hb) Twb [1, 3, 7, 9, 10, 8] rfl [ec 0 336 (.bool true), ec 1 337 (.bool false), ec 2 338 (.bool false), ec 3 339 (.pointer (some ⟨gs, 3, none⟩)), ec 4 340 (iz (spAdd hd 1)), ec 5 341 (iz hd), ec 6 342 (iz (spAdd hd 1)), ec 7 343 (.bool false), ec 8 344 (.bool false), ec 9 345 (.bool false), ec 10 346 (.pointer (some ⟨gs, 2, none⟩)), ec 11 347 (iz (spAdd nx 1)), ec 12 348 (iz nx), ec 13 349 (iz (spAdd nx 1)), ec 14 350 (.bool false), ec 15 351 (.bool false)] rfl ⟨jm, ju (hq := run_not true), jm, jm, jl fun _ h => load1_i _ _ _ _ ((h.at_ 0 rfl).get 3 _ rfl), jm, jq fun w' _ => pageAdd (hd) 1 w', jb fun _ => neq_self _ _ _ _, jp, jm, jm, jl fun _ h => load1_i _ _ _ _ ((h.at_ 0 rfl).get 2 _ rfl), jm, jq fun w' _ => pageAdd (nx) 1 w', jb fun _ => neq_self _ _ _ _, jp, trivial⟩ trivial ?_
  clear Twb H
  rintro a wc H _ Twc
  refine then_normal (H.condF rfl (skip_wp (then_normal ?_)))
  replace H := H.kp [1, 3, 7]
  refine H.rg 1 fun a H => ?_
  refine H.loadS rfl rfl rfl rfl rfl (Twc.at_ 1 rfl) Tryz.underlying24 rfl size_askT rfl fun a H => ?_
  refine H.ms 1 fun a H => ?_
  refine H.ld 0 (load1_i _ _ _ _ ((Twc.at_ 0 rfl).get 3 _ rfl)) fun a H => ?_
  have okR : (sg28 port (spAdd hd 1) (0) 4 []).ok = true := sg28_ok (by omega) (Nat.le_of_lt_succ (spAdd_lt _ _)) (by decide) (by decide) (by decide)
  refine H.any (w' := wc) gz rfl rfl (.agg ([iz 0, iz 0, iz (spAdd hd 1), iz ((0 : Nat) : Int), iz ((4 : Nat) : Int), iz 0, .slice none 0 0] : List Value).toArray) (by intro cs b h; cases h) (by kernel_rfl) (by kernel_rfl) fun a H => ?_
  refine H.cl (back28F ip mac port iss sqp (.slice A len cap) (spAdd hd 1) (0) 4 [] none 0 okR hip hm wc RB.nil) ?_
  rintro a _ wd ⟨Awd, cwd, rfl, hfwd, hbwd⟩ H
  have Twd := Twc.nx hbwd
  have fcd := Twc.frc hfwd (Nat.le_refl _)
  have hLwe := rowC (g := g) (vG := vGwa) (fs := [(.slice Awd (54 + 0) cwd, fr28 mac ip port (spAdd hd 1) 0 4 [])]) (w := wd) (frc_cons fcd frc_nil) Twd.glt (own_ne Twd.1.2.1.1 (.inr (Nat.le_refl _)))
  refine H.any (w' := wd.alloc (.cells ([.slice Awd (54 + 0) cwd] : List Value).toArray 31)) gz rfl rfl (.slice (some ⟨wd.heap.size, 0, none⟩) 1 1) (by intro cs b h; cases h) (by kernel_rfl) (by kernel_rfl) fun a H => ?_
  have hbwe : Below wd.heap.size wd (wd.alloc (.cells ([.slice Awd (54 + 0) cwd] : List Value).toArray 31)) := balloc _ _
  replace hLwe : FrsS (wd.alloc (.cells ([.slice Awd (54 + 0) cwd] : List Value).toArray 31)) (fun k => k ≠ g ∧ some k ≠ (vGwa : Value).ownBlock) (some ⟨wd.heap.size, 0, none⟩) [fr28 mac ip port (spAdd hd 1) 0 4 []] := hLwe
  generalize wd.alloc (.cells ([.slice Awd (54 + 0) cwd] : List Value).toArray 31) = we at *
  generalize hgrwe : wd.heap.size = grwe at H hLwe
  have Twe := Twd.nx hbwe
  have tR : toldCli mac ip port (fr28 mac ip port (spAdd hd 1) 0 4 []) = some (sg28 port (spAdd hd 1) 0 4 []) := by rw [told_cli hm hip okR, if_pos rfl]
  have cR : clHear iss ⟨spAdd hd 1, true, got⟩ (sg28 port (spAdd hd 1) 0 4 []) = (⟨spAdd hd 1, false, got⟩, false) := clHear_rst
  refine H.cl (hearT (x := ⟨spAdd hd 1, true, got⟩) [fr28 mac ip port (spAdd hd 1) 0 4 []] (some ⟨grwe, 0, none⟩) 1 1 rfl Twe.1 hLwe (by decide) (lens_one (fr28_len ..) (by decide)) (Nat.le_of_lt_succ (spAdd_lt _ _)) (by show got.length ≤ 10000000; omega) hip hm hp hi (spAdd_lt _ _) ⟨spAdd hd 1, false, got⟩ false (by simp only [clHears, tR, cR, Bool.or_false])) ?_
  rintro a _ wf ⟨vGwf, hqwf, hzwf, _⟩ H
  obtain rfl := hzwf rfl
  have Twf := Twe.hear hqwf
  refine nt ?_
  replace H := H.kp [3]
  refine H.rg 1 fun a H => ?_
  refine H.cq 0 (cliUp g ip mac port iss (spAdd nx 1) _ false _ _ wf Twf.up) fun a H => ?_
  refine H.un gz rfl rfl rfl rfl (run_not false _) fun a H => ?_
  refine H.ms 1 fun a H => ?_
  refine H.call (H.wt rfl rfl rfl) rfl rfl rfl rfl (fun _ _ => by kernel_rfl) (belowC (wakes28 wf)) ?_
  rintro a _ wg ⟨rfl, hbwg⟩ H
  refine H.pick gz rfl rfl rfl rfl rfl fun a H => ?_
  refine H.ms 1 fun a H => nt (wp_ret ?_)
  repeat (first | (with_reducible refine block_ret ?_) | (with_reducible refine then_ret ?_))
  exact bodyPost_ret (results_tmp rfl _ _ _) H.df ⟨congrArg Ending.returned (H.at_ 2 _ rfl), hgp ▸ (Twf.nx hbwg).bel⟩
 refine H.rg 1 fun a H => nt (wp_block ?_)
 refine wp_loop_up 10 (fun k a w' => ∃ (want : List Mq) (nx hd : Nat) (vG vl : Value) (last : List UInt8) (vW : Value) (cs : List Value) (sq ak fl : Nat) (As : Option Addr) (ns qs : Nat), Has a 366 [(1, pz gp), (3, pz g), (7, pz gs), (9, iz nx), (10, iz hd), (11, vW), (12, iz k)] ∧ (nx ≤ 4294967295 ∧ hd ≤ 4294967295) ∧ TK w gp g ip mac port iss nx ⟨hd, true, (want.map layB).flatten⟩ last vG vl [(gs, sgC port sq ak fl As ns qs), (gp, askL ip mac port iss A len cap sqp)] w' ∧ WantT w gs k want vW cs w') ⟨[], spAdd iss 1, spAdd s 1, vG9, nilV, [], nilV, [], spAdd iss 1, spAdd s 1, 16, Aw10, 0, cw10, H.keep ⟨rfl, rfl, rfl, rfl, rfl, rfl, rfl, trivial⟩, ⟨Nat.le_of_lt_succ (spAdd_lt _ _), Nat.le_of_lt_succ (spAdd_lt _ _)⟩, T12, ⟨World.ownsRow_nil _ _ _ _, by simp, by simp, Nat.le_refl _, Nat.le_refl _⟩⟩ ?_
 clear H T12
 rintro k a wa hk10 ⟨want, nx, hd, vG, vl, last, vW, cs, sq, ak, fl, As, ns, qs, H, ⟨hnx, hhd⟩, T, Wt⟩
 have hwl := Wt.len
 have hww := Wt.le
 obtain ⟨b1, e1⟩ : ∃ b, decide ((k : Int) < (len : Int)) = b := ⟨_, rfl⟩
 obtain ⟨b2, e2⟩ : ∃ b, decide ((k : Int) < 10) = b := ⟨_, rfl⟩
 refine H.tb (fun w' => TK w gp g ip mac port iss nx ⟨hd, true, (want.map layB).flatten⟩ last vG vl [(gs, sgC port sq ak fl As ns qs), (gp, askL ip mac port iss A len cap sqp)] w' ∧ WantT w gs k want vW cs w') (fun _ _ h hb => ⟨h.1.nx hb, h.2.next hb⟩) ⟨T, Wt⟩ [ec 0 124 (iz k), ec 1 125 (.pointer (some ⟨gp, 4, none⟩)), ec 2 126 (.slice A len cap), ec 3 127 (iz len), ec 4 128 (.bool b1), ec 5 129 (.bool b1), ec 6 130 (gv b1 (iz k)), ec 7 131 (gv b1 (.bool b2)), ec 8 132 (.bool (b1 && b2))] rfl ⟨jm, jm, jl fun _ h => load1_mqs _ _ _ _ _ _ ((h.1.at_ 1 rfl).get 4 _ rfl), jn Tryz.underlying22, jb fun _ => lss_i _ _ b1 e1 _ _ _, jm, (by cases b1; exact jo; exact jm), (by cases b1; exact jo; exact jb fun _ => lss_i _ _ b2 e2 _ _ _), (by cases b1 <;> exact jp), trivial⟩ ?_
 clear H T Wt
 rintro a wb H ⟨T, Wt⟩
 refine then_normal (H.cond (t := b1 && b2) rfl ?_)
 cases hb : b1 && b2 with
 | false =>
  refine wp_exit ?_
  repeat (with_reducible refine then_exit ?_)
  refine block_leave ?_
  exact ⟨nx, hd, (want.map layB).flatten, vG, vl, last, sq, ak, fl, As, ns, qs, H.keep ⟨rfl, rfl, rfl, rfl, rfl, trivial⟩, ⟨hnx, hhd, by omega⟩, T⟩
 | true =>
 simp only [Bool.and_eq_true] at hb
 rw [hb.1] at e1
 rw [hb.2] at e2
 have hlt : k < len := by simpa using e1
 have h10 : k < 10 := by have : (k : Int) < 10 := of_decide_eq_true e2; omega
 clear e1 e2 hb
 refine skip_wp (then_normal ?_)
 replace H := H.kp [1, 3, 7, 9, 10, 11, 12]
 refine wp_seq_join (fun a w' => ∃ (want : List Mq) (nx hd : Nat) (vG vl : Value) (last : List UInt8) (vW : Value) (cs : List Value) (sq ak fl : Nat) (As : Option Addr) (ns qs : Nat), Has a 366 [(1, pz gp), (3, pz g), (7, pz gs), (9, iz nx), (10, iz hd), (11, vW), (12, iz k)] ∧ (nx ≤ 4294967295 ∧ hd ≤ 4294967295) ∧ TK w gp g ip mac port iss nx ⟨hd, true, (want.map layB).flatten⟩ last vG vl [(gs, sgC port sq ak fl As ns qs), (gp, askL ip mac port iss A len cap sqp)] w' ∧ WantT w gs (k + 1) want vW cs w') ?_ ?_
 rotate_left
 ·rintro a wc ⟨want, nx, hd, vG, vl, last, vW, cs, sq, ak, fl, As, ns, qs, H, hh, T, Wt⟩
  refine H.rg 1 fun a H => ?_
  refine H.bb 1 rfl rfl rfl rfl rfl rfl (succ_i k (by omega) _ _ _) rfl fun a H => nt ?_
  exact ⟨h10, want, nx, hd, vG, vl, last, vW, cs, sq, ak, fl, As, ns, qs, H.keep ⟨rfl, rfl, rfl, rfl, rfl, rfl, rfl, trivial⟩, hh, T, Wt⟩
 refine wp_block ?_
 obtain ⟨b, o, m, vc, vw, vf, hA, hblt, hrg, hM, hF⟩ := ha k hlt
 have hix : ∀ w', (Instr.indexAt 22 (.slice A len cap) (iz k)).run Tryz.prog w' = .ok (.pointer (some ⟨b, o + k * 24, none⟩)) w' := fun w' => by rw [hA]; exact index_m 22 Tryz.underlying22 24 (fun _ => by kernel_rfl) _ _ _ _ _ hlt _
 have hTn : ∀ {n : Nat} {x : Cl} {l : List UInt8} {v1 v2 : Value} {bs : List (Nat × List Value)} {w' : World}, TK w gp g ip mac port iss n x l v1 v2 bs w' → Wd w' := fun h => hT.below (hgp ▸ h.bel)
 have hMn : ∀ {n : Nat} {x : Cl} {l : List UInt8} {v1 v2 : Value} {bs : List (Nat × List Value)} {w' : World}, TK w gp g ip mac port iss n x l v1 v2 bs w' → MqL w' w'.heap.size m vc vw vf := fun h => hM.next (hgp ▸ h.bel)
 refine H.rg 1 fun a H => ?_
 refine H.ld 1 (load1_mqs _ _ _ _ _ _ ((T.at_ 1 rfl).get 4 _ rfl)) fun a H => ?_
 refine H.index gz rfl rfl rfl rfl rfl (hix _) fun a H => ?_
 refine H.ld 0 (load_mq (rangeB hrg (hgp ▸ T.bel) hblt)) fun a H => ?_
 refine H.nw T.2.1.1 0 hM.ones fun a w1 hbw1 Ow1 H => nt ?_
 have Tw1 := T.box (Nat.le_refl _) hbw1 Ow1
 have Ww1 := Wt.next hbw1
 have hgmW : some wb.heap.size ≠ vW.ownBlock := own_ne Wt.row (.inr (Nat.le_refl _))
 obtain ⟨gm, hgm⟩ : ∃ gm, wb.heap.size = gm := ⟨_, rfl⟩
 rw [hgm] at Tw1 H hgmW
 clear T Wt hbw1 Ow1 hgm hix
 replace H := H.kp [1, 3, 7, 9, 10, 11, 12, 13]
 obtain ⟨bm, hbm⟩ : ∃ b, mayBb m = b := ⟨_, rfl⟩
 refine H.rg 1 fun a H => ?_
 refine H.loadS rfl rfl rfl rfl rfl (Tw1.at_ 0 rfl) Tryz.underlying49 rfl size_mq rfl fun a H => ?_
 refine H.cl (cliSay Tw1.1 rfl hhd hip hm hp (Nat.lt_succ_of_le hnx) bm hbm (hMn Tw1) hF (hTn Tw1)) ?_
 rintro a v2 w2 hcase H
 rcases hcase with ⟨hbt, rfl, hbw2⟩ | ⟨hbt, hlong, rfl, hbw2⟩ | ⟨hbt, hshort, Af, cf, vl2, rfl, hrf, hcl2, hkp2, hrl2⟩
 ·have Tw2 := Tw1.nx hbw2
  have Ww2 := Ww1.next hbw2
  subst hbt
  refine H.ms 1 fun a H => ?_
  refine H.ex (r := nilV) 0 fun a H => ?_
  refine H.ex (r := iz 1) 2 fun a H => nt ?_
  replace H := H.kp [1, 3, 7, 9, 10, 11, 12, 13, 15]
  refine H.rg 0 fun a H => ?_
  refine H.loadS rfl rfl rfl rfl rfl (Tw2.at_ 0 rfl) Tryz.underlying49 rfl size_mq rfl fun a H => ?_
  refine H.cl (belowC (refMay m vc vw vf _ (hMn Tw2) hF (hTn Tw2))) ?_
  rintro a _ w3 ⟨rfl, hbw3⟩ H
  have Tw3 := Tw2.nx hbw3
  have Ww3 := Ww2.next hbw3
  rw [hbm] at H
  refine H.un gz rfl rfl rfl rfl (run_not false _) fun a H => nt ?_
  refine H.condT rfl ?_
  replace H := H.kp [1, 3, 7, 9, 10, 11, 12, 15]
  refine H.rg 1 fun a H => ?_
  refine H.cq 0 (num28 1 w3) fun a H => ?_
  refine H.bn 0 (neq_3 1 1 false rfl _ _ _) fun a H => nt (H.condF rfl ?_)
  refine skip_wp (then_normal (wp_exit ?_))
  repeat (with_reducible refine then_exit ?_)
  refine block_leave ?_
  exact ⟨want, nx, hd, vG, vl, last, vW, cs, sq, ak, fl, As, ns, qs, H.keep ⟨rfl, rfl, rfl, rfl, rfl, rfl, rfl, trivial⟩, ⟨hnx, hhd⟩, Tw3.drop (.cons _ (List.Sublist.refl _)), Ww3.up (Nat.le_succ k)⟩
 ·have Tw2 := Tw1.nx hbw2
  have Ww2 := Ww1.next hbw2
  subst hbt
  refine H.ms 1 fun a H => ?_
  refine H.ex (r := nilV) 0 fun a H => ?_
  refine H.ex (r := iz 2) 2 fun a H => nt ?_
  replace H := H.kp [1, 3, 7, 9, 10, 11, 12, 13, 15]
  refine H.rg 0 fun a H => ?_
  refine H.loadS rfl rfl rfl rfl rfl (Tw2.at_ 0 rfl) Tryz.underlying49 rfl size_mq rfl fun a H => ?_
  refine H.cl (belowC (refMay m vc vw vf _ (hMn Tw2) hF (hTn Tw2))) ?_
  rintro a _ w3 ⟨rfl, hbw3⟩ H
  have Tw3 := Tw2.nx hbw3
  have Ww3 := Ww2.next hbw3
  rw [hbm] at H
  refine H.un gz rfl rfl rfl rfl (run_not true _) fun a H => nt ?_
  refine H.condF rfl (skip_wp (then_normal ?_))
  replace H := H.kp [1, 3, 7, 9, 10, 11, 12, 13, 15]
  refine H.rg 0 fun a H => ?_
  refine H.loadS rfl rfl rfl rfl rfl (Tw3.at_ 0 rfl) Tryz.underlying49 rfl size_mq rfl fun a H => ?_
  have KB : Calls Tryz.prog 35 #[.agg (mqCells m vc vw vf).toArray] w3 fun e w' => ∃ v, e = .returned v ∧ (RowIs w3.heap.size (layB m) v w' ∧ Below w3.heap.size w3 w') := refBytes m vc vw vf _ (mayB_of hbm) (hMn Tw3)
  refine H.cl KB ?_
  clear KB
  rintro a _ w4 ⟨⟨Ax, cx, rfl, hOx⟩, hbw4⟩ H
  have Tw4 := Tw3.nx hbw4
  have Ww4 := Ww3.next hbw4
  refine H.ms 1 fun a H => nt ?_
  replace H := H.kp [1, 3, 7, 9, 10, 11, 12, 15, 16]
  refine H.rg 1 fun a H => ?_
  refine H.len gz rfl rfl rfl rfl Tryz.underlying31 fun a H => ?_
  refine H.bb 0 rfl rfl rfl rfl rfl rfl (gtr_i _ _ true (by rw [decide_eq_true_iff]; omega) _ _ _) rfl fun a H => nt ?_
  refine H.condT rfl ?_
  refine H.rg 1 fun a H => ?_
  refine H.cq 0 (num28 2 w4) fun a H => ?_
  refine H.bn 0 (neq_3 2 2 false rfl _ _ _) fun a H => nt (H.condF rfl ?_)
  refine skip_wp (then_normal (wp_exit ?_))
  repeat (with_reducible refine then_exit ?_)
  refine block_leave ?_
  exact ⟨want, nx, hd, vG, vl, last, vW, cs, sq, ak, fl, As, ns, qs, H.keep ⟨rfl, rfl, rfl, rfl, rfl, rfl, rfl, trivial⟩, ⟨hnx, hhd⟩, Tw4.drop (.cons _ (List.Sublist.refl _)), Ww4.up (Nat.le_succ k)⟩
 have Tw2 := Tw1.said hcl2 hkp2 hrl2
 have Ww2 := Ww1.hear (Nat.le_of_lt hggs) hkp2 Tw1.1.2.1.1
 subst hbt
 have hl2 : 2 ≤ (layB m).length := lay_two
 have hgs1 : gs < w1.heap.size := Tw1.2.1.1.lt 1 rfl
 refine H.ms 1 fun a H => ?_
 refine H.ex (r := .slice Af (54 + (layB m).length) cf) 0 fun a H => ?_
 refine H.ex (r := iz 0) 2 fun a H => nt ?_
 replace H := H.kp [1, 3, 7, 9, 10, 11, 12, 13, 14, 15]
 refine H.rg 0 fun a H => ?_
 refine H.loadS rfl rfl rfl rfl rfl (Tw2.at_ 0 rfl) Tryz.underlying49 rfl size_mq rfl fun a H => ?_
 refine H.cl (belowC (refMay m vc vw vf _ (hMn Tw2) hF (hTn Tw2))) ?_
 rintro a _ w3 ⟨rfl, hbw3⟩ H
 have Tw3 := Tw2.nx hbw3
 have Ww3 := Ww2.next hbw3
 replace hrf := hrf.next hbw3
 rw [hbm] at H
 refine H.un gz rfl rfl rfl rfl (run_not true _) fun a H => nt ?_
 refine H.condF rfl (skip_wp (then_normal ?_))
 replace H := H.kp [1, 3, 7, 9, 10, 11, 12, 13, 14, 15]
 refine H.rg 0 fun a H => ?_
 refine H.loadS rfl rfl rfl rfl rfl (Tw3.at_ 0 rfl) Tryz.underlying49 rfl size_mq rfl fun a H => ?_
 have KB : Calls Tryz.prog 35 #[.agg (mqCells m vc vw vf).toArray] w3 fun e w' => ∃ v, e = .returned v ∧ (RowIs w3.heap.size (layB m) v w' ∧ Below w3.heap.size w3 w') := refBytes m vc vw vf _ (mayB_of hbm) (hMn Tw3)
 refine H.cl KB ?_
 clear KB
 rintro a _ w4 ⟨⟨Ax, cx, rfl, hOx⟩, hbw4⟩ H
 have Tw4 := Tw3.nx hbw4
 have Ww4 := Ww3.next hbw4
 replace hrf := hrf.next hbw4
 refine H.ms 1 fun a H => nt ?_
 have hrx : RowIs w3.heap.size (layB m) (.slice Ax (layB m).length cx) w4 := ⟨Ax, cx, rfl, hOx⟩
 have hgs3 : gs < w3.heap.size := Tw3.2.1.1.lt 1 rfl
 have hgs4 : gs < w4.heap.size := Tw4.2.1.1.lt 1 rfl
 replace H := H.kp [1, 3, 7, 9, 10, 11, 12, 13, 14, 15, 16]
 refine H.rg 1 fun a H => ?_
 refine H.len gz rfl rfl rfl rfl Tryz.underlying31 fun a H => ?_
 refine H.bb 0 rfl rfl rfl rfl rfl rfl (gtr_i _ _ false (by rw [decide_eq_false_iff_not]; omega) _ _ _) rfl fun a H => nt ?_
 refine H.condF rfl (skip_wp (then_normal ?_))
 replace H := H.kp [1, 3, 7, 9, 10, 11, 12, 13, 14, 15, 16]
 clear Tw1 Ww1 Tw2 Ww2 Tw3 Ww3 hkp2 hcl2 hrl2 hOx
 refine H.rg 0 fun a H => ?_
 refine H.loadS rfl rfl rfl rfl rfl (Tw4.at_ 2 rfl) Tryz.underlying24 rfl size_askT rfl fun a H => ?_
 refine H.ms 1 fun a H => ?_
 refine H.cl (segC ip mac port iss sqp (.slice A len cap) nx hd 24 (layB m) (54 + (layB m).length) rfl Af cf _ w4 hrf hip hm hp (by omega) (by omega) (by decide) (by omega)) ?_
 rintro a _ w5 ⟨As5, cs5, rfl, hO5, hbw5⟩ H
 have Tw5 := Tw4.nx hbw5
 have Ww5 := Ww4.next hbw5
 replace hrf := hrf.next hbw5
 replace hrx := hrx.next hbw5
 have hrs : RowIs w4.heap.size (layB m) (.slice As5 (layB m).length cs5) w5 := RowIs.of rfl hO5
 refine H.ms 1 fun a H => ?_
 refine H.ex (r := .agg (sgC port nx hd 24 As5 (layB m).length cs5).toArray) 0 fun a H => ?_
 refine H.ex (r := .bool true) 0 fun a H => ?_
 refine H.storeS rfl rfl rfl rfl rfl (Tw5.at_ 1 rfl) size_sg27 rfl rfl rfl fun a w6 H hgw6 hsw6 hCw6 => ?_
 have Tw6 := Tw5.sto 1 rfl hgw6 hCw6
 have Ww6 := Ww5.sto hgw6
 replace hrf := hrf.sto hgw6 (hgs1)
 replace hrx := hrx.sto hgw6 (hgs3)
 replace hrs := hrs.sto hgw6 (hgs4)
 refine H.ms 1 fun a H => nt ?_
 clear Tw4 Ww4 Tw5 Ww5 hO5
 replace H := H.kp [1, 3, 7, 9, 10, 11, 12, 13, 14, 15, 16, 8]
 refine H.rg 1 fun a H => ?_
 refine H.cl (cliAgain Tw6.1 (54 + (layB m).length) (frC_len ..) (by omega) (by omega)) ?_
 rintro a _ w7 ⟨A7, c7, rfl, hr7, hbw7⟩ H
 have Tw7 := Tw6.nx hbw7
 have Ww7 := Ww6.next hbw7
 replace hrf := hrf.next hbw7
 replace hrx := hrx.next hbw7
 replace hrs := hrs.next hbw7
 refine H.ms 1 fun a H => ?_
 refine H.ex (r := .slice A7 (54 + (layB m).length) c7) 0 fun a H => ?_
 refine H.ex (r := iz 0) 2 fun a H => nt ?_
 replace H := H.kp [1, 3, 7, 9, 10, 11, 12, 13, 14, 15, 16, 8, 17, 18]
 refine H.tb (fun w' => TK w gp g ip mac port iss (spAdd nx (layB m).length) ⟨hd, true, (want.map layB).flatten⟩ (frC mac ip port nx hd 24 (layB m)) vG vl2 [(gm, mqCells m vc vw vf), (gs, (sgC port nx hd 24 As5 (layB m).length cs5)), (gp, askL ip mac port iss A len cap sqp)] w' ∧ RowIs _ (frC mac ip port nx hd 24 (layB m)) (.slice Af (54 + (layB m).length) cf) w' ∧ RowIs _ (frC mac ip port nx hd 24 (layB m)) (.slice A7 (54 + (layB m).length) c7) w' ∧ RowIs _ (layB m) (.slice As5 (layB m).length cs5) w' ∧ RowIs _ (layB m) (.slice Ax (layB m).length cx) w' ∧ WantT w gs k want vW cs w') (fun _ _ h hb => ⟨h.1.nx hb, h.2.1.next hb, h.2.2.1.next hb, h.2.2.2.1.next hb, h.2.2.2.2.1.next hb, h.2.2.2.2.2.next hb⟩) ⟨Tw7, hrf, hr7, hrs, hrx, Ww7⟩ [ec 0 171 (iz 0), ec 1 172 (iz 0), ec 2 173 (.bool false), ec 3 174 (.bool false), ec 4 175 (iz 0), ec 5 176 (iz 0), ec 6 177 (.bool false), ec 7 178 (.bool false), ec 8 179 (.bool false), ec 9 180 (.bool true), ec 10 181 (.bool false), ec 11 182 (.bool false), ec 12 183 (.bool false), ec 13 184 (.slice A7 (54 + (layB m).length) c7), ec 14 185 (.slice Af (54 + (layB m).length) cf), eh 15 186 (.bool true), ec 16 187 (.bool false), ec 17 188 (.bool false), ec 18 189 (.bool false), ec 19 190 (.pointer (some ⟨gs, 2, none⟩)), ec 20 191 (iz nx), ec 21 192 (iz nx), ec 22 193 (.bool false), ec 23 194 (.bool false), ec 24 195 (.bool false), ec 25 196 (.pointer (some ⟨gs, 3, none⟩)), ec 26 197 (iz hd), ec 27 198 (iz hd), ec 28 199 (.bool false), ec 29 200 (.bool false), ec 30 201 (.bool false), ec 31 202 (.pointer (some ⟨gs, 4, none⟩)), ec 32 203 (iz ((24 : Nat) : Int)), ec 33 204 (.bool false), ec 34 205 (.bool false), ec 35 206 (.bool false), ec 36 207 (.pointer (some ⟨gs, 6, none⟩)), ec 37 208 (.slice As5 (layB m).length cs5), ec 38 209 (.slice Ax (layB m).length cx), eh 39 210 (.bool true), ec 40 211 (.bool false), ec 41 212 (.bool false)] rfl ⟨jm, jq fun w' _ => num28 0 w', jb fun _ => neq_self _ _ _ _, jm, jm, jq fun w' _ => num28 0 w', jb fun _ => neq_self _ _ _ _, jp, jm, jm, ju (hq := run_not true), jp, jm, jm, jm, kb fun w h => eqBytesN (frC mac ip port nx hd 24 (layB m)) (54 + (layB m).length) (frC_len ..) A7 Af c7 cf w h.2.2.1.rb h.2.1.rb (by omega), ju (hq := run_not true), jp, jm, jm, jl fun _ h => load1_i _ _ _ _ ((h.1.at_ 1 rfl).get 2 _ rfl), jm, jb fun _ => neq_self _ _ _ _, jp, jm, jm, jl fun _ h => load1_i _ _ _ _ ((h.1.at_ 1 rfl).get 3 _ rfl), jm, jb fun _ => neq_self _ _ _ _, jp, jm, jm, jl fun _ h => load1_i _ _ _ _ ((h.1.at_ 1 rfl).get 4 _ rfl), jb fun _ => neq_3 _ _ false rfl _ _ _, jp, jm, jm, jl fun _ h => load1_31 _ _ _ _ _ _ ((h.1.at_ 1 rfl).get 6 _ rfl), jm, kb fun w h => eqBytesN (layB m) (layB m).length rfl As5 Ax cs5 cx w h.2.2.2.1.rb h.2.2.2.2.1.rb (by omega), ju (hq := run_not true), jp, trivial⟩ ?_
 clear Tw6 Ww6 Tw7 Ww7 hrf hr7 hrs hrx hgs1 hgs4 H
 rintro a w8 H ⟨Tw8, _, _, _, hrx, Ww8⟩
 refine then_normal (H.condF rfl (skip_wp (then_normal ?_)))
 replace H := H.kp [1, 3, 7, 9, 10, 11, 12, 13, 16]
 refine H.rg 2 fun a H => ?_
 refine H.len gz rfl rfl rfl rfl Tryz.underlying31 fun a H => ?_
 refine H.cq 1 (pageAdd nx (layB m).length w8) fun a H => nt ?_
 replace H := H.kp [1, 3, 7, 9, 10, 11, 12, 13, 16]
 refine H.rg 0 fun a H => ?_
 refine H.loadS rfl rfl rfl rfl rfl (Tw8.at_ 2 rfl) Tryz.underlying24 rfl size_askT rfl fun a H => ?_
 refine H.ms 3 fun a H => ?_
 have okO : (sg28 port (hd) ((spAdd nx (layB m).length)) 16 (layB m)).ok = true := sg28_ok (by omega) (by omega) (Nat.le_of_lt_succ (spAdd_lt _ _)) (by decide) (by omega)
 refine H.any (w' := w8) gz rfl rfl (.agg ([iz 0, iz 0, iz hd, iz (((spAdd nx (layB m).length) : Nat) : Int), iz ((16 : Nat) : Int), iz 0, .slice Ax (layB m).length cx] : List Value).toArray) (by intro cs b h; cases h) (by kernel_rfl) (by kernel_rfl) fun a H => ?_
 refine H.cl (back28F ip mac port iss sqp (.slice A len cap) (hd) ((spAdd nx (layB m).length)) 16 (layB m) Ax cx okO hip hm w8 hrx.rb) ?_
 rintro a _ w9 ⟨Aw9, cw9, rfl, hfw9, hbw9⟩ H
 have Tw9 := Tw8.nx hbw9
 replace hrx := hrx.next hbw9
 have Ww9 := Ww8.next hbw9
 have fcO := Tw8.frc hfw9 (Nat.le_refl _)
 refine H.ms 1 fun a H => nt ?_
 replace H := H.kp [1, 3, 7, 9, 10, 11, 12, 13, 16, 19]
 clear Tw8 Ww8 hfw9 hbw9
 refine H.rg 2 fun a H => ?_
 refine H.len gz rfl rfl rfl rfl Tryz.underlying31 fun a H => ?_
 refine H.cq 1 (pageAdd hd (layB m).length w9) fun a H => nt ?_
 replace H := H.kp [1, 3, 7, 9, 10, 11, 12, 13, 16, 19]
 have okT : (sg28 port ((spAdd (spAdd hd (layB m).length) 5)) (0) 16 (layB m)).ok = true := sg28_ok (by omega) (Nat.le_of_lt_succ (spAdd_lt _ _)) (by omega) (by decide) (by omega)
 refine H.sg (fun w' => Below w9.heap.size w9 w') (Below.drew (Below.refl _ _)) [1, 3, 7, 9, 10, 11, 12, 13, 16, 19] [ec 0 227 (pz g), ec 1 228 (.agg (askL ip mac port iss A len cap sqp).toArray), ec 2 229 (iz (((spAdd hd (layB m).length) : Nat) : Int)), ec 3 230 (iz (((spAdd (spAdd hd (layB m).length) 5) : Nat) : Int)), ec 4 231 (.slice Ax (layB m).length cx), ec 5 232 (.agg ([iz 0, iz 0, iz (((spAdd (spAdd hd (layB m).length) 5) : Nat) : Int), iz ((0 : Nat) : Int), iz ((16 : Nat) : Int), iz 0, .slice Ax (layB m).length cx] : List Value).toArray), ec 7 234 (.slice Aw9 (54 + (layB m).length) cw9), ec 8 235 (.slice Aw9 (54 + (layB m).length) cw9)] rfl ?_
 have KK : ∀ wy, Below w9.heap.size w9 wy → _ := fun wy h => back28F ip mac port iss sqp (.slice A len cap) (spAdd (spAdd hd (layB m).length) 5) 0 16 (layB m) Ax cx okT hip hm wy (hrx.next h).rb
 refine St.call 6 ⟨jm, jl fun _ h => loadT ((Tw9.nx h).at_ 2 rfl) Tryz.underlying24 rfl size_askT rfl, jm, jq fun w' _ => pageAdd (spAdd hd (layB m).length) 5 w', jm, ja (fun _ => by kernel_rfl), jm, jm, trivial⟩ KK ?_
 rintro wx _ wz hh ⟨AL, cL, rfl, hfr, hbz⟩
 have fc := (Tw9.nx hh).frc hfr (Nat.le_refl _)
 refine Go.Proofs.YtlacidnnankjlaaGreatDoor.nx (fun w' => Below w9.heap.size w9 w' ∧ FrC g vG (fr28 mac ip port (spAdd (spAdd hd (layB m).length) 5) 0 16 (layB m)) (.slice AL (54 + (layB m).length) cL) w') [] [] ⟨hh.trans (hbz.mono hh.size), fc⟩ ?_
 clear hh hfr hbz fc KK
 refine St.val 9 ⟨jm, jm, jm, trivial⟩ ?_
 rintro a wx H _ ⟨hbx, fcx⟩
 have Tx := Tw9.nx hbx
 have hL := rowC (g := g) (vG := vG) (fs := [(.slice AL (54 + (layB m).length) cL, fr28 mac ip port (spAdd (spAdd hd (layB m).length) 5) 0 16 (layB m)), (.slice Aw9 (54 + (layB m).length) cw9, fr28 mac ip port hd (spAdd nx (layB m).length) 16 (layB m)), (.slice Aw9 (54 + (layB m).length) cw9, fr28 mac ip port hd (spAdd nx (layB m).length) 16 (layB m))]) (w := wx) (frc_cons fcx (frc_cons (fcO.next hbx) (frc_cons (fcO.next hbx) frc_nil))) Tx.glt (own_ne Tx.1.2.1.1 (.inr (Nat.le_refl _)))
 refine ⟨.slice (some ⟨wx.heap.size, 0, none⟩) 3 3, wx.alloc (.cells ([.slice AL (54 + (layB m).length) cL, .slice Aw9 (54 + (layB m).length) cw9, .slice Aw9 (54 + (layB m).length) cw9] : List Value).toArray 31), run_any H (by intro cs b h; cases h) (by kernel_rfl) (by kernel_rfl), ?_⟩
 have hbq : Below wx.heap.size wx (wx.alloc (.cells ([.slice AL (54 + (layB m).length) cL, .slice Aw9 (54 + (layB m).length) cw9, .slice Aw9 (54 + (layB m).length) cw9] : List Value).toArray 31)) := balloc _ _
 replace hL : FrsS (wx.alloc (.cells ([.slice AL (54 + (layB m).length) cL, .slice Aw9 (54 + (layB m).length) cw9, .slice Aw9 (54 + (layB m).length) cw9] : List Value).toArray 31)) (fun k => k ≠ g ∧ some k ≠ vG.ownBlock) (some ⟨wx.heap.size, 0, none⟩) [fr28 mac ip port (spAdd (spAdd hd (layB m).length) 5) 0 16 (layB m), fr28 mac ip port hd (spAdd nx (layB m).length) 16 (layB m), fr28 mac ip port hd (spAdd nx (layB m).length) 16 (layB m)] := hL
 generalize wx.alloc (.cells ([.slice AL (54 + (layB m).length) cL, .slice Aw9 (54 + (layB m).length) cw9, .slice Aw9 (54 + (layB m).length) cw9] : List Value).toArray 31) = wy at hL hbq ⊢
 obtain ⟨gq, hgq⟩ : ∃ gq, wx.heap.size = gq := ⟨_, rfl⟩
 rw [hgq] at hL ⊢
 refine Go.Proofs.YtlacidnnankjlaaGreatDoor.nx (fun w' => Below w9.heap.size w9 w' ∧ FrsS w' (fun k => k ≠ g ∧ some k ≠ vG.ownBlock) (some ⟨gq, 0, none⟩) [fr28 mac ip port (spAdd (spAdd hd (layB m).length) 5) 0 16 (layB m), fr28 mac ip port hd (spAdd nx (layB m).length) 16 (layB m), fr28 mac ip port hd (spAdd nx (layB m).length) 16 (layB m)]) [] [] ⟨hbx.trans (hbq.mono hbx.size), hL⟩ ?_
 clear Tx fcx hL hbq H hbx
 have tT : toldCli mac ip port (fr28 mac ip port (spAdd (spAdd hd (layB m).length) 5) 0 16 (layB m)) = some (sg28 port (spAdd (spAdd hd (layB m).length) 5) 0 16 (layB m)) := by rw [told_cli hm hip okT, if_pos rfl]
 have tO : toldCli mac ip port (fr28 mac ip port hd (spAdd nx (layB m).length) 16 (layB m)) = some (sg28 port hd (spAdd nx (layB m).length) 16 (layB m)) := by rw [told_cli hm hip okO, if_pos rfl]
 have cT : clHear iss ⟨hd, true, (want.map layB).flatten⟩ (sg28 port (spAdd (spAdd hd (layB m).length) 5) 0 16 (layB m)) = (⟨hd, true, (want.map layB).flatten⟩, false) := by rw [clHear_dat rfl, if_neg]; show ¬ spAdd (spAdd hd (layB m).length) 5 = hd; rw [spAdd2]; unfold spAdd; omega
 have cO : clHear iss ⟨hd, true, (want.map layB).flatten⟩ (sg28 port hd (spAdd nx (layB m).length) 16 (layB m)) = (⟨(spAdd hd (layB m).length), true, (want.map layB).flatten ++ layB m⟩, true) := by rw [clHear_dat rfl, if_pos rfl, decide_eq_true (by omega : 0 < (layB m).length)]
 have cO2 : clHear iss ⟨(spAdd hd (layB m).length), true, (want.map layB).flatten ++ layB m⟩ (sg28 port hd (spAdd nx (layB m).length) 16 (layB m)) = (⟨(spAdd hd (layB m).length), true, (want.map layB).flatten ++ layB m⟩, false) := by rw [clHear_dat rfl, if_neg]; show ¬ hd = spAdd hd (layB m).length; unfold spAdd; omega
 have c3 : clHears mac ip port iss ⟨hd, true, (want.map layB).flatten⟩ false [fr28 mac ip port (spAdd (spAdd hd (layB m).length) 5) 0 16 (layB m), fr28 mac ip port hd (spAdd nx (layB m).length) 16 (layB m), fr28 mac ip port hd (spAdd nx (layB m).length) 16 (layB m)] = (⟨(spAdd hd (layB m).length), true, (want.map layB).flatten ++ layB m⟩, true) := by simp only [clHears, tT, tO, cT, cO, cO2, Bool.or_false, Bool.or_true]
 have l3 : ∀ b ∈ [fr28 mac ip port (spAdd (spAdd hd (layB m).length) 5) 0 16 (layB m), fr28 mac ip port hd (spAdd nx (layB m).length) 16 (layB m), fr28 mac ip port hd (spAdd nx (layB m).length) 16 (layB m)], b.length ≤ 140737488351232 := by
  intro b hb
  simp only [List.mem_cons, List.not_mem_nil, or_false] at hb
  rcases hb with rfl | rfl | rfl <;> (rw [fr28_len]; omega)
 have K37 : ∀ wy, (Below w9.heap.size w9 wy ∧ FrsS wy (fun k => k ≠ g ∧ some k ≠ vG.ownBlock) (some ⟨gq, 0, none⟩) [fr28 mac ip port (spAdd (spAdd hd (layB m).length) 5) 0 16 (layB m), fr28 mac ip port hd (spAdd nx (layB m).length) 16 (layB m), fr28 mac ip port hd (spAdd nx (layB m).length) 16 (layB m)]) → _ := fun wy h => hearT (x := ⟨hd, true, (want.map layB).flatten⟩) [fr28 mac ip port (spAdd (spAdd hd (layB m).length) 5) 0 16 (layB m), fr28 mac ip port hd (spAdd nx (layB m).length) 16 (layB m), fr28 mac ip port hd (spAdd nx (layB m).length) 16 (layB m)] (some ⟨gq, 0, none⟩) 3 3 rfl (Tw9.nx h.1).1 h.2 (by decide) l3 hhd (by show ((want.map layB).flatten).length ≤ 10000000; omega) hip hm hp hi (spAdd_lt _ _) ⟨(spAdd hd (layB m).length), true, (want.map layB).flatten ++ layB m⟩ true c3
 refine St.call 10 ⟨jm, trivial⟩ K37 ?_
 rintro wx2 _ wz hh ⟨vG9', hq9, _, hz9⟩
 obtain ⟨gr, A10, c10, rfl, hc9, hgl9, hr9⟩ := hz9 rfl
 have hflat : (want.map layB).flatten ++ layB m = ((want ++ [m]).map layB).flatten := by simp
 refine Go.Proofs.YtlacidnnankjlaaGreatDoor.nx (fun w' => TK w gp g ip mac port iss (spAdd nx (layB m).length) ⟨(spAdd hd (layB m).length), true, ((want ++ [m]).map layB).flatten⟩ (frC mac ip port nx hd 24 (layB m)) vG9' vl2 [(gm, mqCells m vc vw vf), (gs, (sgC port nx hd 24 As5 (layB m).length cs5)), (gp, askL ip mac port iss A len cap sqp)] w' ∧ Rep gr A10 c10 w9.heap.size (frC mac ip port (spAdd nx (layB m).length) (spAdd hd (layB m).length) 16 []) w' ∧ WantT w gs k want vW cs w') [ec 11 6 (.slice (some ⟨gr, 0, none⟩) 1 1)] [] ⟨hflat ▸ (Tw9.nx hh.1).hear hq9, ⟨hc9, hgl9, hr9.base hh.1.size, Nat.le_trans hh.1.size hq9.2.1.1⟩, (Ww9.next hh.1).hear (Nat.le_of_lt hggs) hq9.2.1 (Tw9.nx hh.1).1.2.1.1⟩ (St.fin ⟨jm, trivial⟩ ?_)
 clear K37 hh hq9 hz9 hc9 hgl9 hr9 c3 l3 cO2 cO cT tT tO okT okO hrx fcO Tw9 Ww9
 rintro a wa1 H _ ⟨Ta1, Ra1, Wa1⟩
 refine then_normal ?_
 replace H := H.kp [1, 3, 7, 9, 10, 11, 12, 13, 6]
 refine H.rg 1 fun a H => ?_
 refine H.len gz rfl rfl rfl rfl Tryz.underlying37 fun a H => ?_
 refine H.bn 0 (neq_3 1 1 false rfl _ _ _) fun a H => nt (H.condF rfl (skip_wp (then_normal ?_)))
 replace H := H.kp [1, 3, 7, 9, 10, 11, 12, 13, 6]
 refine H.sg (fun w' => Below wa1.heap.size wa1 w') (Below.drew (Below.refl _ _)) [1, 3, 7, 9, 10, 11, 12, 13, 6] [ec 0 242 (.agg (askL ip mac port iss A len cap sqp).toArray), ec 1 243 (.slice (some ⟨gr, 0, none⟩) 1 1), ec 2 244 (pz gr), ec 3 245 (.slice A10 54 c10)] rfl ?_
 have KK : ∀ wy, Below wa1.heap.size wa1 wy → _ := fun wy h => segC ip mac port iss sqp (.slice A len cap) ((spAdd nx (layB m).length)) ((spAdd hd (layB m).length)) 16 [] 54 rfl A10 c10 _ wy (Ra1.nx h).2.2.1 hip hm hp (spAdd_lt _ _) (spAdd_lt _ _) (by decide) (by decide)
 refine St.call 4 ⟨jl fun _ h => loadT ((Ta1.nx h).at_ 2 rfl) Tryz.underlying24 rfl size_askT rfl, jm, jI rfl rfl rfl rfl rfl rfl (fun w => idx_f gr w), jl fun _ h => load1_31 _ _ _ _ _ _ (Ra1.nx h).1, trivial⟩ KK ?_
 rintro wx _ wz hh ⟨Awb1, cwb1, rfl, hOwb1, hbwb1⟩
 refine Go.Proofs.YtlacidnnankjlaaGreatDoor.nx (fun w' => Below wa1.heap.size wa1 w') [ec 5 241 (.tuple #[.agg (sgC port ((spAdd nx (layB m).length)) ((spAdd hd (layB m).length)) 16 Awb1 0 cwb1).toArray, .bool true]), ec 6 247 (.agg (sgC port ((spAdd nx (layB m).length)) ((spAdd hd (layB m).length)) 16 Awb1 0 cwb1).toArray), ec 7 248 (.bool true), ec 9 8 (.bool true)] [] (hh.trans (hbwb1.mono hh.size)) ?_
 clear KK hh hbwb1 hOwb1
 refine St.sto 8 ⟨jm, jx, jx, jm, trivial⟩ ?_
 rintro a wu H _ hu
 have Tu := Ta1.nx hu
 obtain ⟨w', hr', hgr, hs', hC'⟩ := (Tu.at_ 1 rfl).sto (L := (sgC port ((spAdd nx (layB m).length)) ((spAdd hd (layB m).length)) 16 Awb1 0 cwb1)) size_sg27 rfl rfl rfl
 have Tv := Tu.sto 1 rfl hgr hC'
 refine ⟨w', run_store rfl (H.ev rfl) (H.ev rfl) hr', nx0 (fun w' => TK w gp g ip mac port iss (spAdd nx (layB m).length) ⟨(spAdd hd (layB m).length), true, ((want ++ [m]).map layB).flatten⟩ (frC mac ip port nx hd 24 (layB m)) vG9' vl2 [(gm, mqCells m vc vw vf), (gs, (sgC port (spAdd nx (layB m).length) (spAdd hd (layB m).length) 16 Awb1 0 cwb1)), (gp, askL ip mac port iss A len cap sqp)] w' ∧ WantT w gs k want vW cs w') [] [] ⟨Tv, (Wa1.next hu).sto hgr⟩ (St.fin ⟨jx, jm, trivial⟩ ?_ (hF := .inl rfl))⟩
 clear Tu Tv hr' hgr hs' hC' hu H Ta1 Ra1 Wa1
 rintro a wb1 H _ ⟨Tb1, Wb1⟩
 refine then_normal ?_
 replace H := H.kp [1, 3, 7, 9, 10, 11, 12, 13, 8]
 refine H.rg 1 fun a H => ?_
 refine H.loadS rfl rfl rfl rfl rfl (Tb1.at_ 0 rfl) Tryz.underlying49 rfl size_mq rfl fun a H => ?_
 refine H.any (w' := wb1.alloc (.cells (mqCells m vc vw vf).toArray 49)) gz rfl rfl (.slice (some ⟨wb1.heap.size, 0, none⟩) 1 1) (by intro cs b h; cases h) (by kernel_rfl) (by kernel_rfl) fun a H => ?_
 have hl10 := Reads.lit wb1 49 (mqCells m vc vw vf) (0, 0) 24 1 rfl
 have hb10 : Below wb1.heap.size wb1 (wb1.alloc (.cells (mqCells m vc vw vf).toArray 49)) := balloc _ _
 generalize wb1.alloc (.cells (mqCells m vc vw vf).toArray 49) = wc1 at *
 obtain ⟨BB, hBB, hinf⟩ := info_mqx
 have Tc1 := Tb1.nx hb10
 have Wc1 := Wb1.next hb10
 refine H.app Wc1.row hinf hl10 (fun u hu => List.all_eq_true.1 hM.ones u hu) (by unfold maxLen; omega) (Nat.le_trans (Nat.mul_le_mul (show want.length + 1 ≤ 80000 by omega) hBB) (by decide)) (Tc1.2.1.1.lt 1 rfl) fun a A11 c11 wd1 hP11 hg11 H => ?_
 have Td1 := Tc1.app Wc1.row hg11 (Nat.lt_succ_of_lt hggs) (by omega) (by
  intro q hq
  simp only [List.mem_cons, List.not_mem_nil, or_false] at hq
  rcases hq with rfl | rfl | rfl
  ·exact hgmW
  ·exact own_ne Wc1.row (.inl (Nat.lt_succ_self _))
  ·exact own_ne Wc1.row (.inl (Nat.lt_succ_of_lt hgpgs)))
 have Wd1 := Wc1.more (mayB_of hbm) hM hP11
 clear Tb1 Wb1 Tc1 Wc1 hl10 hb10 hP11 hg11
 refine H.ms 1 fun a H => nt ?_
 replace H := H.kp [1, 3, 7, 9, 10, 11, 12, 13, 8]
 refine H.rg 1 fun a H => ?_
 have hgl := Wd1.len
 refine H.cl (gotT Td1.1 (by show (((want ++ [m]).map layB).flatten).length ≤ 40000; omega) (hTn Td1)) ?_
 rintro a _ we1 ⟨l, left, er, A12, c12, rfl, hFd, hAt, hbe⟩ H
 obtain ⟨hle, hee⟩ := fed_want Wd1.may hFd
 subst hle hee
 have hl1 : (want ++ [m]).length = want.length + 1 := by simp
 rw [hl1] at H
 have Te1 := Td1.nx hbe
 have We1 := Wd1.next hbe
 refine H.ms 1 fun a H => ?_
 refine H.ex (r := .slice A12 (want.length + 1) c12) 0 fun a H => ?_
 refine H.ex (r := iz 0) 2 fun a H => nt ?_
 replace H := H.kp [1, 3, 7, 9, 10, 11, 12, 8, 20, 21]
 refine H.tb (fun w' => TK w gp g ip mac port iss (spAdd nx (layB m).length) ⟨(spAdd hd (layB m).length), true, ((want ++ [m]).map layB).flatten⟩ (frC mac ip port nx hd 24 (layB m)) vG9' vl2 [(gm, mqCells m vc vw vf), (gs, (sgC port (spAdd nx (layB m).length) (spAdd hd (layB m).length) 16 Awb1 0 cwb1)), (gp, askL ip mac port iss A len cap sqp)] w' ∧ MqsAt w' A12 (want ++ [m]) ∧ MqsAt w' A11 (want ++ [m]) ∧ WantT w gs (k + 1) (want ++ [m]) (.slice A11 (want.length + 1) c11) (cs ++ mqCells m vc vw vf) w') (fun _ _ h hb => ⟨h.1.nx hb, h.2.1.next hb, h.2.2.1.next hb, h.2.2.2.next hb⟩) ⟨Te1, hAt, We1.mqs (hgp ▸ Te1.bel), We1⟩ [ec 0 258 (.bool true), ec 1 259 (.bool false), ec 2 260 (.bool false), ec 3 261 (.pointer (some ⟨gs, 3, none⟩)), ec 4 262 (iz (((spAdd hd (layB m).length) : Nat) : Int)), ec 5 263 (iz (((spAdd hd (layB m).length) : Nat) : Int)), ec 6 264 (.bool false), ec 7 265 (.bool false), ec 8 266 (.bool false), ec 9 267 (.pointer (some ⟨gs, 2, none⟩)), ec 10 268 (iz (((spAdd nx (layB m).length) : Nat) : Int)), ec 11 269 (iz (((spAdd nx (layB m).length) : Nat) : Int)), ec 12 270 (.bool false), ec 13 271 (.bool false), ec 14 272 (.bool false), ec 15 273 (.pointer (some ⟨gs, 6, none⟩)), ec 16 274 (.slice Awb1 0 cwb1), ec 17 275 (iz ((0 : Nat) : Int)), ec 18 276 (.bool false), ec 19 277 (.bool false), ec 20 278 (.bool false), ec 21 279 (iz 0), ec 22 280 (iz 0), ec 23 281 (.bool false), ec 24 282 (.bool false), ec 25 283 (.bool false), ec 26 284 (.slice A12 (want.length + 1) c12), ec 27 285 (.slice A11 (want.length + 1) c11), eh 28 286 (.bool true), ec 29 287 (.bool false), ec 30 288 (.bool false)] rfl ⟨jm, ju (hq := run_not true), jm, jm, jl fun _ h => load1_i _ _ _ _ ((h.1.at_ 1 rfl).get 3 _ rfl), jm, jb fun _ => neq_self _ _ _ _, jp, jm, jm, jl fun _ h => load1_i _ _ _ _ ((h.1.at_ 1 rfl).get 2 _ rfl), jm, jb fun _ => neq_self _ _ _ _, jp, jm, jm, jl fun _ h => load1_31 _ _ _ _ _ _ ((h.1.at_ 1 rfl).get 6 _ rfl), jn Tryz.underlying31, jb fun _ => gtr_i ((0 : Nat) : Int) 0 false (by decide) _ _ _, jp, jm, jm, jq fun w' _ => num28 0 w', jb fun _ => neq_self _ _ _ _, jp, jm, jm, jm, kb fun w h => eqMqsS (want ++ [m]) A12 A11 (want.length + 1) c12 c11 (by simp) (by omega) w h.2.1 h.2.2.1, ju (hq := run_not true), jp, trivial⟩ ?_
 clear Te1 Td1 Wd1 We1 hAt H hFd hbe
 rintro a wf1 H ⟨Tf1, _, _, Wf1⟩
 refine then_normal (H.condF rfl (skip_wp (block_normal ?_)))
 exact ⟨want ++ [m], (spAdd nx (layB m).length), (spAdd hd (layB m).length), vG9', vl2, (frC mac ip port nx hd 24 (layB m)), .slice A11 (want.length + 1) c11, cs ++ mqCells m vc vw vf, (spAdd nx (layB m).length), (spAdd hd (layB m).length), 16, Awb1, 0, cwb1, H.keep ⟨rfl, rfl, rfl, rfl, rfl, rfl, rfl, trivial⟩, ⟨Nat.le_of_lt_succ (spAdd_lt _ _), Nat.le_of_lt_succ (spAdd_lt _ _)⟩, Tf1.drop (.cons _ (List.Sublist.refl _)), Wf1⟩
end
section
open Go.ChangeShapes Go.WideShapes Go.ChangeAt Go.RowKit Go.Deep
section
variable {H : Type} {enc : TypeId × Value → H} {W : World}
theorem read_rowsI {T e : TypeId} {m fuel : Nat} {cs0 : List Value} {x0 : DataW H × List MemPlace} (ht : Tryz.prog.underlying T = some (.slice e)) (hm : Tryz.prog.cellsOf e = m) (hm0 : 0 < m) (hfit : Fit T x0.1) (hf : DataW.trod enc Tryz.prog W 0 (fun _ => true) true fuel T cs0 = some x0) :
  ∃ (A : Option Addr) (len cap fuel : Nat), cs0 = [.slice A len cap] ∧ len ≤ cap ∧ cap ≤ maxLen ∧ ∀ i, i < len → ∃ (b o : Nat) (cs : List Value) (x : DataW H × List MemPlace), A = some ⟨b, o, none⟩ ∧ b < W.heap.size ∧ cs.length = m ∧ (∀ j, j < m → W.cell? ⟨b, o + i * m + j, none⟩ = cs[j]?) ∧
   DataW.trod enc Tryz.prog W 0 (fun _ => true) true fuel e cs = some x ∧ Fit e x.1 := by
 rcases open_slice ht hf with ⟨hcs, _⟩ | ⟨a, len, cap, m', n, D, Pl, hcs, _, hl, hc, hmm, hxe, hi⟩
 ·exact ⟨none, 0, 0, 0, hcs, by omega, by simp, fun i hi => absurd hi (by omega)⟩
 ·simp only [if_true] at hmm
  refine ⟨some a, len, cap, n, hcs, hl, hc, fun i hlt => ?_⟩
  obtain ⟨cs', hcell, htr⟩ := hi i (by omega)
  obtain ⟨_, hlen, hat⟩ := World.cells?_some hcell
  rw [hm] at hlen
  have h0 := hat 0 (by omega)
  rw [List.getElem?_eq_getElem (by omega)] at h0
  obtain ⟨b, o, spot⟩ := a
  have hspot : spot = none := by
   obtain ⟨cs0, hcell0, _⟩ := hi 0 (by omega)
   obtain ⟨_, hlen0, hat0⟩ := World.cells?_some hcell0
   rw [hm] at hlen0
   have h00 := hat0 0 (by omega)
   rw [List.getElem?_eq_getElem (by omega)] at h00
   have := World.cell?_spot h00
   simpa [Addr.add] using this
  subst hspot
  have hb := World.block_lt_of_cell? W _ h0
  rw [block_of_add, block_of_add] at hb
  refine ⟨b, o, cs', _, rfl, hb, hlen, fun j hj => ?_, htr, ?_⟩
  rotate_left
  ·rw [hxe] at hfit
   exact (hfit.slice ht).2 _ (List.mem_map.2 ⟨i, List.mem_range.2 hlt, rfl⟩)
  have := hat j (by omega)
  rw [add_add, hm] at this
  rw [← this]
  refine congrArg W.cell? ?_
  unfold Addr.add
  by_cases h1 : i * m + j = 0
  ·rw [if_pos h1, Nat.add_assoc, h1]; simp
  ·rw [if_neg h1, Nat.add_assoc]
end
end
section
open Go.ChangeShapes Go.WideShapes Go.ChangeAt Go.RowKit Go.Deep
abbrev lay2 : List (String × DataW Unit) := [("unicode/utf8.acceptRanges", Rows.laid_unicode_utf8_acceptRanges), ("unicode/utf8.first", Rows.laid_unicode_utf8_first)]
theorem lay_first : (Rows.laid_unicode_utf8_first : DataW Unit) = Lib.firstData := by rfl
theorem lay_accept : (Rows.laid_unicode_utf8_acceptRanges : DataW Unit) = Lib.acceptData := by rfl
theorem plain_lay : (lay2.all fun x => x.2.handleName?.isNone) = true := by kernel_rfl
noncomputable def laidWorld (os : Os) : World :=
 let w0 := World.holding Tryz.prog os ⟨#[], #[], []⟩
 let put (h : Array Obj) (g : Nat) (cs : Array Value) : Array Obj := h.modify g fun
  | .cells _ t frozen => .cells cs t frozen
  | o => o
 let h1 := put w0.heap 0 (Lib.firstTab.map fun z => Value.int .u8 z).toArray
 let h2 := put h1 1 ((List.range 16).flatMap fun i => [Value.int .u8 (Lib.accLo i), Value.int .u8 (Lib.accHi i)]).toArray
 { w0 with heap := h2 }
theorem laid_door (os : Os) (args : Array Value) : laidMetH Tryz.prog lay2 ((laidWorld os).forCall (fun _ _ => 0) ⟨#[], args, []⟩).memory := by
 rw [MakeChecks.laidMetH_plain _ _ _ plain_lay]
 exact (LaidIn.of_run (l := lay2) [0, 1] 8 (by kernel_rfl) (by kernel_rfl) (by kernel_rfl) (by kernel_rfl)).met
end
section
open Go.ChangeShapes Go.WideShapes Go.ChangeAt Go.RowKit Go.Deep
theorem tabs_of {W : World} (h : laidMetH Tryz.prog lay2 W) : Wd W := by
 rw [MakeChecks.laidMetH_plain _ _ _ plain_lay] at h
 have h1 := Lib.laidMet.reads h (n := "unicode/utf8.acceptRanges") (d := Rows.laid_unicode_utf8_acceptRanges) (.head _)
 have h2 := Lib.laidMet.reads h (n := "unicode/utf8.first") (d := Rows.laid_unicode_utf8_first) (.tail _ (.head _))
 rw [lay_accept] at h1
 rw [lay_first] at h2
 exact utf8Tabs_of_readsT (U8Types.of196 Sh.lays196) ⟨by kernel_rfl, by kernel_rfl, by kernel_rfl, by kernel_rfl, by kernel_rfl, by kernel_rfl, by kernel_rfl⟩ h2 h1
end
section
open Go.ChangeShapes Go.WideShapes Go.ChangeAt Go.RowKit Go.Deep
theorem Ask28.all {H : Type} {enc : TypeId × Value → H} {W : World} {v : Value} {d : DataW H} {p : List MemPlace} (h : Comes enc W 24 v d p) :
  ∃ (ip mac port iss : Int) (A : Option Addr) (len cap : Nat) (sq : Int), v = .agg #[iz ip, iz mac, iz port, iz iss, .slice A len cap, iz sq] ∧ len ≤ maxLen ∧ PksAt W A len := by
 obtain ⟨⟨fuel, hf0⟩, hvb, hsz⟩ := h
 obtain ⟨cs, rfl, hcs⟩ := okw_struct Tryz.underlying24 hvb
 have hft := Fit.of hsz
 have c6 : Tryz.prog.cellsOf 24 = 6 := by kernel_rfl
 have e_int : Tryz.prog.cellsOf 3 = 1 := by kernel_rfl
 have e_mqs : Tryz.prog.cellsOf 22 = 1 := by kernel_rfl
 rw [c6] at hcs
 obtain ⟨ys, k, _, ex, _, yl, hf⟩ := DataW.trod_struct Tryz.underlying24 hf0
 simp only [Prod.mk.injEq] at ex
 rw [ex.1] at hft
 have g4 := Fit.struct hft Tryz.underlying24 4 _ rfl _ (List.getElem?_eq_getElem (by rw [yl]; decide))
 obtain ⟨L⟩ := cs
 match L, hcs with
 | [k0, k1, k2, k3, k4, k5], _ =>
  have f0 := hf 0 _ rfl
  have f1 := hf 1 _ rfl
  have f2 := hf 2 _ rfl
  have f3 := hf 3 _ rfl
  have f4 := hf 4 _ rfl
  have f5 := hf 5 _ rfl
  simp only [List.getElem_toArray, List.getElem_cons_zero, List.getElem_cons_succ, e_int, e_mqs, List.drop_zero] at f0 f1 f2 f3 f4 f5
  rw [List.getElem?_eq_getElem (by rw [yl]; decide)] at f0 f1 f2 f3 f4 f5
  obtain ⟨n0, e0, _, _⟩ := DataW.trod_int Tryz.underlying3 f0
  obtain ⟨n1, e1, _, _⟩ := DataW.trod_int Tryz.underlying3 f1
  obtain ⟨n2, e2, _, _⟩ := DataW.trod_int Tryz.underlying3 f2
  obtain ⟨n3, e3, _, _⟩ := DataW.trod_int Tryz.underlying3 f3
  obtain ⟨n5, e5, _, _⟩ := DataW.trod_int Tryz.underlying3 f5
  obtain ⟨A, len, cap, fuel2, e4, hl, hc, hi⟩ := read_rowsI Tryz.underlying22 cells_mq (by decide) g4 f4
  have q0 : [k0] = [Value.int .i64 n0] := e0
  have q1 : [k1] = [Value.int .i64 n1] := e1
  have q2 : [k2] = [Value.int .i64 n2] := e2
  have q3 : [k3] = [Value.int .i64 n3] := e3
  have q4 : [k4] = [Value.slice A len cap] := e4
  have q5 : [k5] = [Value.int .i64 n5] := e5
  simp only [List.cons.injEq, and_true] at q0 q1 q2 q3 q4 q5
  subst q0 q1 q2 q3 q4 q5
  refine ⟨n0, n1, n2, n3, A, len, cap, n5, rfl, Nat.le_trans hl hc, fun i hlt => ?_⟩
  obtain ⟨b, o, cs1, x, hA, hblt, hlen, hcell, htr, hft1⟩ := hi i hlt
  obtain ⟨m, vc, vw, vf, e3, hL, hF⟩ := read_mq hlen hft1 htr
  refine ⟨b, o, m, vc, vw, vf, hA, hblt, fun j u hu => ?_, hL, hF⟩
  rw [← e3] at hu
  have hj : j < 24 := by have := (List.getElem?_eq_some_iff.1 hu).1; omega
  rw [hcell j hj]
  exact hu
end
end Go.Proofs.YtlacidnnankjlaaGreatDoor
