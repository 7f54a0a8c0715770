/-
  pack.size: how long a packet is.
-/
import Derived.Deep.LoopGhost
import Derived.Lib.AppendZerosOnto
import Derived.Lib.SliceRun
import Derived.WalkKit
import Derived.Lib.SlBytesConst
import Derived.Lib.BufferRead
import Derived.Test.YtlacidnnankjlaaGreatDoorCd4
namespace Go.Proofs.YtlacidnnankjlaaGreatDoor
open Go.RowKit

set_option maxRecDepth 100000 in
theorem and127_u8 (x : Fin 256) : bits .and .u8 (x.val : Int) 127 = ((x.val % 128 : Nat) : Int) := by
  revert x
  decide
theorem and127 (x : UInt8) (a b : Operand) (w : World) : (do eqGuard .and 5 a b (.int .u8 (x.toNat : Int)) (.int .u8 127); binOp .and 5 (.int .u8 (x.toNat : Int)) (.int .u8 127) : Sem Value).run Tryz.prog w = .ok (.int .u8 ((x.toNat % 128 : Nat) : Int)) w := by
  have e := and127_u8 ⟨x.toNat, x.toNat_lt⟩
  simp only [] at e
  rw [← e]
  simp [go_sem]
theorem conv_58 (k : Nat) (h : k < 256) (w : World) : (convert 5 3 (.int .u8 (k : Int))).run Tryz.prog w = .ok (.int .i64 (k : Int)) w := by
  simp [go_sem]
  exact IntWalk.i64_in _ (by omega)
theorem pred_i (k : Nat) (x y : Operand) (w : World) : (do eqGuard .sub 3 x y (.int .i64 ((k + 1 : Nat) : Int)) (.int .i64 1); binOp .sub 3 (.int .i64 ((k + 1 : Nat) : Int)) (.int .i64 1) : Sem Value).run Tryz.prog w = .ok (.int .i64 (IntKind.i64.wrap (k : Int))) w := by
  have e : ((k + 1 : Nat) : Int) - 1 = (k : Int) := by omega
  simp [go_sem]
theorem mul7 (k : Nat) (hk : k ≤ 3) (x y : Operand) (w : World) : (do eqGuard .mul 3 x y (.int .i64 7) (.int .i64 (IntKind.i64.wrap (k : Int))); binOp .mul 3 (.int .i64 7) (.int .i64 (IntKind.i64.wrap (k : Int))) : Sem Value).run Tryz.prog w = .ok (.int .i64 ((7 * k : Nat) : Int)) w := by
  have : k = 0 ∨ k = 1 ∨ k = 2 ∨ k = 3 := by omega
  rcases this with rfl | rfl | rfl | rfl <;> simp [go_sem] <;> rfl
theorem shlK (v k : Nat) (hv : v < 128) (hk : k ≤ 3) (x y : Operand) (w : World) : (do eqGuard .shl 3 x y (.int .i64 (v : Int)) (.int .i64 ((7 * k : Nat) : Int)); binOp .shl 3 (.int .i64 (v : Int)) (.int .i64 ((7 * k : Nat) : Int)) : Sem Value).run Tryz.prog w = .ok (.int .i64 ((v * 128 ^ k : Nat) : Int)) w := by
  have : k = 0 ∨ k = 1 ∨ k = 2 ∨ k = 3 := by omega
  rcases this with rfl | rfl | rfl | rfl <;> simp [go_sem] <;> exact IntWalk.i64_in _ (by omega)
theorem or_pow (n v k : Nat) (hn : n < 128 ^ k) : (n ||| v * 128 ^ k) = n + v * 128 ^ k := by
  have e : (128 : Nat) ^ k = 2 ^ (7 * k) := by rw [Nat.pow_mul]
  rw [e] at hn ⊢
  rw [Nat.or_comm, Nat.mul_comm v, ← Nat.two_pow_add_eq_or_of_lt hn, Nat.add_comm]
theorem geq_u (u v : Int) (b : Bool) (h : decide (v ≤ u) = b) (x y : Operand) (w : World) : (do eqGuard .geq 5 x y (.int .u8 u) (.int .u8 v); binOp .geq 5 (.int .u8 u) (.int .u8 v) : Sem Value).run Tryz.prog w = .ok (.bool b) w := by
  subst h
  simp [go_sem]
theorem sub1024 (k : Nat) (hk : k ≤ 1024) (x y : Operand) (w : World) : (do eqGuard .sub 3 x y (.int .i64 1024) (.int .i64 (k : Int)); binOp .sub 3 (.int .i64 1024) (.int .i64 (k : Int)) : Sem Value).run Tryz.prog w = .ok (.int .i64 (1024 - (k : Int))) w := by
  simp [go_sem]
  exact IntWalk.i64_in _ (by omega)
theorem add_i (u v : Nat) (h : u + v ≤ 1000000000) (x y : Operand) (w : World) : (do eqGuard .add 3 x y (.int .i64 (u : Int)) (.int .i64 (v : Int)); binOp .add 3 (.int .i64 (u : Int)) (.int .i64 (v : Int)) : Sem Value).run Tryz.prog w = .ok (.int .i64 ((u + v : Nat) : Int)) w := by
  simp [go_sem]
  exact IntWalk.i64_in _ (by omega)
/-- what 'size' answers. -/
def sized : Except Int (Nat × Nat) → Value
  | .ok (t, i) => .tuple #[.int .i64 (t : Int), .int .i64 (i : Int), .int .i64 0]
  | .error e => .tuple #[.int .i64 0, .int .i64 0, .int .i64 e]
set_option maxRecDepth 100000 in
set_option maxHeartbeats 3200000 in
theorem packSize (xs : List UInt8) (A : Option Addr) (c : Nat) (w : World) (hr : RB w w.heap.size A xs) (hl : xs.length ≤ 140737488351232) :
    Calls Tryz.prog 121 #[.slice A xs.length c] w fun e w' => e = .returned (sized (sizeD xs)) ∧ w' = w := by
  go_enter Tryz.func121, Tryz.ntmps121
  refine Has.start 60 [(0, .slice A xs.length c)] rfl rfl ⟨rfl, trivial⟩ ?_
  intro a0 H0
  refine H0.rg 3 fun a3 H3 => nt ?_
  refine wp_scope_two rfl rfl 3 (fun k a w' => ∃ n, w' = w ∧ Has a 60 [(0, .slice A xs.length c), (5, .int .i64 ((n : Nat) : Int)), (6, .int .i64 ((k + 1 : Nat) : Int))] ∧ n < 128 ^ k ∧ sizeD xs = sizeGo (4 - k) (k + 1) n (xs.drop (k + 1)) ∧ k + 1 ≤ xs.length) (fun a w' => w' = w ∧ Has a 60 [(0, .slice A xs.length c)] ∧ sizeD xs = .error 1) ?_ ?_ ?_
  · intro hpass
    refine H3.rg 2 fun a5 H5 => nt ?_
    rcases Nat.eq_zero_or_pos xs.length with hz | hz
    · skip
      refine H5.rg 1 fun a6 H6 => ?_
      refine H6.len gz rfl rfl rfl rfl Tryz.underlying31 ?_
      intro a7 H7
      refine H7.bb 0 rfl rfl rfl rfl rfl rfl (eql_iB _ _ true (by rw [beq_iff_eq]; omega) _ _ _) rfl fun a8 H8 => nt ?_
      refine H8.condT rfl ?_
      refine H8.rg 3 fun a11 H11 => nt ?_
      refine wp_ret ?_
      repeat (first | (with_reducible refine block_ret ?_) | (with_reducible refine then_ret ?_) | (with_reducible refine two_ret ?_))
      refine bodyPost_ret (results_three rfl _ _ _ _ (H11.at_ 2 _ rfl) (H11.at_ 3 _ rfl) (H11.at_ 4 _ rfl)) H11.df ?_
      exact ⟨by rw [show sizeD xs = .error 7 by rw [List.eq_nil_of_length_eq_zero hz]; rfl] <;> rfl, rfl⟩
    · skip
      refine H5.rg 1 fun a6 H6 => ?_
      refine H6.len gz rfl rfl rfl rfl Tryz.underlying31 ?_
      intro a7 H7
      refine H7.bb 0 rfl rfl rfl rfl rfl rfl (eql_iB _ _ false (by rw [beq_eq_false_iff_ne]; omega) _ _ _) rfl fun a8 H8 => nt ?_
      refine H8.condF rfl ?_
      refine skip_wp ?_
      refine then_normal ?_
      refine wp_seq (label_wp (then_normal ?_))
      refine hpass 0 _ _ (by omega) ⟨0, rfl, H8.keep ⟨rfl, rfl, rfl, trivial⟩, by decide, ?_, hz⟩
      cases xs with
      | nil => simp at hz
      | cons y r => rfl
  · rintro k a43 _ hk ⟨n, rfl, H43, hn, hs, hz⟩
    have hn28 : n < 2097152 := Nat.lt_of_lt_of_le hn (Nat.pow_le_pow_right (n := 128) (by decide) hk)
    have hxl : xs.length ≤ 140737488351232 := hl
    rcases Nat.lt_or_ge (k + 1) xs.length with hlt | hge
    · skip
      obtain ⟨gb, go, x, rfl, hgb, hx, hcell⟩ := RB.get hr hlt
      have hdr : xs.drop (k + 1) = x :: xs.drop (k + 1 + 1) := drop_get' _ _ _ hx
      rw [hdr, show 4 - k = (3 - k) + 1 by omega, sizeGo, show k + 1 - 1 = k by omega] at hs
      have hxb := x.toNat_lt
      obtain ⟨n', hn'⟩ : ∃ n' : Nat, n' = n + x.toNat % 128 * 128 ^ k := ⟨_, rfl⟩
      rw [← hn'] at hs
      have hor : (n ||| x.toNat % 128 * 128 ^ k) = n' := by rw [hn', or_pow _ _ _ hn]
      have hp21 : 128 ^ k ≤ 2097152 := Nat.pow_le_pow_right (n := 128) (by decide) hk
      have hn1 : n' < 128 ^ (k + 1) := by
        rw [hn', Nat.pow_succ]
        have : x.toNat % 128 * 128 ^ k ≤ 127 * 128 ^ k := Nat.mul_le_mul_right _ (by omega)
        omega
      have hnb : n' < 268435456 := by
        rw [Nat.pow_succ] at hn1
        omega
      have hvb : x.toNat % 128 * 128 ^ k < 268435456 := by omega
      refine H43.rg 2 fun a45 H45 => ?_
      refine H45.len gz rfl rfl rfl rfl Tryz.underlying31 ?_
      intro a46 H46
      refine H46.bb 0 rfl rfl rfl rfl rfl rfl (eql_iB _ _ false (by rw [beq_eq_false_iff_ne]; omega) _ _ _) rfl fun a47 H47 => nt ?_
      refine H47.condF rfl ?_
      refine skip_wp ?_
      refine then_normal ?_
      refine H47.rg 3 fun a50 H50 => ?_
      refine H50.index gz rfl rfl rfl rfl rfl (index_1 31 Tryz.underlying31 (fun _ => by kernel_rfl) _ _ _ _ _ hlt _) ?_
      intro a51 H51
      refine H51.ld 0 (load1_u _ _ _ _ hcell) fun a52 H52 => ?_
      refine H52.bn 0 (and127 x _ _ _) fun a53 H53 => ?_
      refine H53.conv gz rfl rfl rfl rfl (conv_58 _ (by omega) _) ?_
      intro a54 H54
      refine H54.ms 1 fun a55 H55 => ?_
      refine H55.bn 0 (pred_i _ _ _ _) fun a56 H56 => ?_
      refine H56.bn 0 (mul7 _ hk _ _ _) fun a57 H57 => ?_
      refine H57.bb 0 rfl rfl rfl rfl rfl rfl (shlK _ _ (by omega) hk _ _ _) rfl fun a58 H58 => ?_
      refine H58.bb 1 rfl rfl rfl rfl rfl rfl (or_i _ _ (by omega) (by omega) _ _ _) rfl fun a60 H60 => nt ?_
      rw [hor] at H60
      have H61 := H60.keep (l' := [(0, .slice (some ⟨gb, go, none⟩) xs.length c), (5, .int .i64 ((n' : Nat) : Int)), (6, .int .i64 ((k + 1 : Nat) : Int))]) ⟨rfl, rfl, rfl, trivial⟩
      by_cases h128 : 128 ≤ x.toNat
      · skip
        rw [if_pos h128] at hs
        refine H61.rg 2 fun a63 H63 => ?_
        refine H63.index gz rfl rfl rfl rfl rfl (index_1 31 Tryz.underlying31 (fun _ => by kernel_rfl) _ _ _ _ _ hlt _) ?_
        intro a64 H64
        refine H64.ld 0 (load1_u _ _ _ _ hcell) fun a65 H65 => ?_
        refine H65.bb 0 rfl rfl rfl rfl rfl rfl (geq_u _ _ true (by simp; omega) _ _ _) rfl fun a66 H66 => nt ?_
        refine H66.condT rfl ?_
        by_cases h4 : k = 3
        · skip
          rw [if_pos (by omega)] at hs
          refine H66.rg 1 fun a67 H67 => ?_
          refine H67.bb 0 rfl rfl rfl rfl rfl rfl (eql_iB _ _ true (by subst h4; rfl) _ _ _) rfl fun a68 H68 => nt ?_
          refine H68.condT rfl ?_
          refine wp_goto ?_
          repeat (first | (with_reducible refine then_goto ?_))
          exact two_goto1 ⟨rfl, H68.keep ⟨rfl, trivial⟩, hs⟩
        · skip
          rw [if_neg (by omega)] at hs
          refine H66.rg 1 fun a67 H67 => ?_
          refine H67.bb 0 rfl rfl rfl rfl rfl rfl (eql_iB _ _ false (by rw [beq_eq_false_iff_ne]; omega) _ _ _) rfl fun a68 H68 => nt ?_
          refine H68.condF rfl ?_
          refine skip_wp ?_
          refine then_normal ?_
          refine H68.rg 1 fun a69 H69 => ?_
          refine H69.bb 1 rfl rfl rfl rfl rfl rfl (succ_i _ (by omega) _ _ _) rfl fun a71 H71 => nt ?_
          refine wp_goto ?_
          repeat (first | (with_reducible refine then_goto ?_))
          exact two_goto0 ⟨by omega, n', rfl, H71.keep ⟨rfl, rfl, rfl, trivial⟩, hn1, by rw [hs, show 3 - k = 4 - (k + 1) by omega], by omega⟩
      · skip
        rw [if_neg h128] at hs
        refine H61.rg 2 fun a63 H63 => ?_
        refine H63.index gz rfl rfl rfl rfl rfl (index_1 31 Tryz.underlying31 (fun _ => by kernel_rfl) _ _ _ _ _ hlt _) ?_
        intro a64 H64
        refine H64.ld 0 (load1_u _ _ _ _ hcell) fun a65 H65 => ?_
        refine H65.bb 0 rfl rfl rfl rfl rfl rfl (geq_u _ _ false (by simp; omega) _ _ _) rfl fun a66 H66 => nt ?_
        refine H66.condF rfl ?_
        refine skip_wp ?_
        refine then_normal ?_
        by_cases h0 : x.toNat = 0
        · skip
          by_cases h1 : 1 < k + 1
          · skip
            rw [if_pos ⟨h0, h1⟩] at hs
            refine H66.rg 2 fun a68 H68 => ?_
            refine H68.index gz rfl rfl rfl rfl rfl (index_1 31 Tryz.underlying31 (fun _ => by kernel_rfl) _ _ _ _ _ hlt _) ?_
            intro a69 H69
            refine H69.ld 0 (load1_u _ _ _ _ hcell) fun a70 H70 => ?_
            refine H70.bb 1 rfl rfl rfl rfl rfl rfl (eql_u _ _ true (by simpa using h0) _ _ _) rfl fun a72 H72 => ?_
            refine H72.move (H72.wt rfl rfl rfl) (.inl rfl) rfl rfl rfl ?_
            intro a73 H73
            refine H73.bin (H73.wt rfl rfl rfl) rfl rfl rfl rfl rfl (gtr_i _ _ true (by simp; omega) _ _ _) ?_
            intro a74 H74
            refine H74.pick gz rfl rfl rfl rfl rfl ?_
            intro a75 H75
            refine nt ?_
            refine H75.condT rfl ?_
            refine wp_goto ?_
            repeat (first | (with_reducible refine then_goto ?_))
            exact two_goto1 ⟨rfl, H75.keep ⟨rfl, trivial⟩, hs⟩
          · skip
            rw [if_neg (fun h => h1 h.2)] at hs
            refine H66.rg 2 fun a68 H68 => ?_
            refine H68.index gz rfl rfl rfl rfl rfl (index_1 31 Tryz.underlying31 (fun _ => by kernel_rfl) _ _ _ _ _ hlt _) ?_
            intro a69 H69
            refine H69.ld 0 (load1_u _ _ _ _ hcell) fun a70 H70 => ?_
            refine H70.bb 1 rfl rfl rfl rfl rfl rfl (eql_u _ _ true (by simpa using h0) _ _ _) rfl fun a72 H72 => ?_
            refine H72.move (H72.wt rfl rfl rfl) (.inl rfl) rfl rfl rfl ?_
            intro a73 H73
            refine H73.bin (H73.wt rfl rfl rfl) rfl rfl rfl rfl rfl (gtr_i _ _ false (by simp; omega) _ _ _) ?_
            intro a74 H74
            refine H74.pick gz rfl rfl rfl rfl rfl ?_
            intro a75 H75
            refine nt ?_
            refine H75.condF rfl ?_
            refine skip_wp ?_
            refine then_normal ?_
            refine H75.rg 1 fun a76 H76 => ?_
            refine H76.bb 1 rfl rfl rfl rfl rfl rfl (succ_i _ (by omega) _ _ _) rfl fun a78 H78 => nt ?_
            by_cases hb : 1024 < n' + (k + 2)
            · skip
              rw [if_pos (by omega)] at hs
              refine H78.rg 2 fun a80 H80 => ?_
              refine H80.bb 0 rfl rfl rfl rfl rfl rfl (sub1024 _ (by omega) _ _ _) rfl fun a81 H81 => ?_
              refine H81.bb 0 rfl rfl rfl rfl rfl rfl (gtr_i _ _ true (by simp; omega) _ _ _) rfl fun a82 H82 => nt ?_
              refine H82.condT rfl ?_
              refine H82.rg 3 fun a85 H85 => nt ?_
              refine wp_ret ?_
              repeat (first | (with_reducible refine block_ret ?_) | (with_reducible refine then_ret ?_) | (with_reducible refine two_ret ?_))
              refine bodyPost_ret (results_three rfl _ _ _ _ (H85.at_ 2 _ rfl) (H85.at_ 3 _ rfl) (H85.at_ 4 _ rfl)) H85.df ?_
              exact ⟨by rw [hs] <;> rfl, rfl⟩
            · skip
              rw [if_neg (by omega)] at hs
              refine H78.rg 2 fun a80 H80 => ?_
              refine H80.bb 0 rfl rfl rfl rfl rfl rfl (sub1024 _ (by omega) _ _ _) rfl fun a81 H81 => ?_
              refine H81.bb 0 rfl rfl rfl rfl rfl rfl (gtr_i _ _ false (by simp; omega) _ _ _) rfl fun a82 H82 => nt ?_
              refine H82.condF rfl ?_
              refine skip_wp ?_
              refine then_normal ?_
              by_cases hc2 : xs.length < n' + (k + 2)
              · skip
                rw [if_pos (by rw [List.length_drop]; omega)] at hs
                refine H82.rg 1 fun a83 H83 => ?_
                refine H83.len gz rfl rfl rfl rfl Tryz.underlying31 ?_
                intro a84 H84
                refine H84.ms 2 fun a86 H86 => ?_
                refine H86.bb 0 rfl rfl rfl rfl rfl rfl (add_i _ _ (by omega) _ _ _) rfl fun a87 H87 => ?_
                refine H87.bb 0 rfl rfl rfl rfl rfl rfl (lss_i _ _ true (by simp; omega) _ _ _) rfl fun a88 H88 => nt ?_
                refine H88.condT rfl ?_
                refine H88.rg 3 fun a91 H91 => nt ?_
                refine wp_ret ?_
                repeat (first | (with_reducible refine block_ret ?_) | (with_reducible refine then_ret ?_) | (with_reducible refine two_ret ?_))
                refine bodyPost_ret (results_three rfl _ _ _ _ (H91.at_ 2 _ rfl) (H91.at_ 3 _ rfl) (H91.at_ 4 _ rfl)) H91.df ?_
                exact ⟨by rw [hs] <;> rfl, rfl⟩
              · skip
                rw [if_neg (by rw [List.length_drop]; omega)] at hs
                refine H82.rg 1 fun a83 H83 => ?_
                refine H83.len gz rfl rfl rfl rfl Tryz.underlying31 ?_
                intro a84 H84
                refine H84.ms 2 fun a86 H86 => ?_
                refine H86.bb 0 rfl rfl rfl rfl rfl rfl (add_i _ _ (by omega) _ _ _) rfl fun a87 H87 => ?_
                refine H87.bb 0 rfl rfl rfl rfl rfl rfl (lss_i _ _ false (by simp; omega) _ _ _) rfl fun a88 H88 => nt ?_
                refine H88.condF rfl ?_
                refine skip_wp ?_
                refine then_normal ?_
                refine H88.rg 2 fun a90 H90 => ?_
                refine H90.bb 4 rfl rfl rfl rfl rfl rfl (add_i _ _ (by omega) _ _ _) rfl fun a95 H95 => nt ?_
                refine wp_ret ?_
                repeat (first | (with_reducible refine block_ret ?_) | (with_reducible refine then_ret ?_) | (with_reducible refine two_ret ?_))
                refine bodyPost_ret (results_three rfl _ _ _ _ (H95.at_ 2 _ rfl) (H95.at_ 3 _ rfl) (H95.at_ 4 _ rfl)) H95.df ?_
                exact ⟨by rw [hs] <;> rfl, rfl⟩
        · skip
          rw [if_neg (fun h => h0 h.1)] at hs
          refine H66.rg 2 fun a68 H68 => ?_
          refine H68.index gz rfl rfl rfl rfl rfl (index_1 31 Tryz.underlying31 (fun _ => by kernel_rfl) _ _ _ _ _ hlt _) ?_
          intro a69 H69
          refine H69.ld 0 (load1_u _ _ _ _ hcell) fun a70 H70 => ?_
          refine H70.bb 1 rfl rfl rfl rfl rfl rfl (eql_u _ _ false (by simpa using h0) _ _ _) rfl fun a72 H72 => ?_
          refine H72.off rfl rfl rfl rfl rfl ?_
          intro a73 H73
          refine H73.off rfl rfl rfl rfl rfl ?_
          intro a74 H74
          refine H74.pick gz rfl rfl rfl rfl rfl ?_
          intro a75 H75
          refine nt ?_
          refine H75.condF rfl ?_
          refine skip_wp ?_
          refine then_normal ?_
          refine H75.rg 1 fun a76 H76 => ?_
          refine H76.bb 1 rfl rfl rfl rfl rfl rfl (succ_i _ (by omega) _ _ _) rfl fun a78 H78 => nt ?_
          by_cases hb : 1024 < n' + (k + 2)
          · skip
            rw [if_pos (by omega)] at hs
            refine H78.rg 2 fun a80 H80 => ?_
            refine H80.bb 0 rfl rfl rfl rfl rfl rfl (sub1024 _ (by omega) _ _ _) rfl fun a81 H81 => ?_
            refine H81.bb 0 rfl rfl rfl rfl rfl rfl (gtr_i _ _ true (by simp; omega) _ _ _) rfl fun a82 H82 => nt ?_
            refine H82.condT rfl ?_
            refine H82.rg 3 fun a85 H85 => nt ?_
            refine wp_ret ?_
            repeat (first | (with_reducible refine block_ret ?_) | (with_reducible refine then_ret ?_) | (with_reducible refine two_ret ?_))
            refine bodyPost_ret (results_three rfl _ _ _ _ (H85.at_ 2 _ rfl) (H85.at_ 3 _ rfl) (H85.at_ 4 _ rfl)) H85.df ?_
            exact ⟨by rw [hs] <;> rfl, rfl⟩
          · skip
            rw [if_neg (by omega)] at hs
            refine H78.rg 2 fun a80 H80 => ?_
            refine H80.bb 0 rfl rfl rfl rfl rfl rfl (sub1024 _ (by omega) _ _ _) rfl fun a81 H81 => ?_
            refine H81.bb 0 rfl rfl rfl rfl rfl rfl (gtr_i _ _ false (by simp; omega) _ _ _) rfl fun a82 H82 => nt ?_
            refine H82.condF rfl ?_
            refine skip_wp ?_
            refine then_normal ?_
            by_cases hc2 : xs.length < n' + (k + 2)
            · skip
              rw [if_pos (by rw [List.length_drop]; omega)] at hs
              refine H82.rg 1 fun a83 H83 => ?_
              refine H83.len gz rfl rfl rfl rfl Tryz.underlying31 ?_
              intro a84 H84
              refine H84.ms 2 fun a86 H86 => ?_
              refine H86.bb 0 rfl rfl rfl rfl rfl rfl (add_i _ _ (by omega) _ _ _) rfl fun a87 H87 => ?_
              refine H87.bb 0 rfl rfl rfl rfl rfl rfl (lss_i _ _ true (by simp; omega) _ _ _) rfl fun a88 H88 => nt ?_
              refine H88.condT rfl ?_
              refine H88.rg 3 fun a91 H91 => nt ?_
              refine wp_ret ?_
              repeat (first | (with_reducible refine block_ret ?_) | (with_reducible refine then_ret ?_) | (with_reducible refine two_ret ?_))
              refine bodyPost_ret (results_three rfl _ _ _ _ (H91.at_ 2 _ rfl) (H91.at_ 3 _ rfl) (H91.at_ 4 _ rfl)) H91.df ?_
              exact ⟨by rw [hs] <;> rfl, rfl⟩
            · skip
              rw [if_neg (by rw [List.length_drop]; omega)] at hs
              refine H82.rg 1 fun a83 H83 => ?_
              refine H83.len gz rfl rfl rfl rfl Tryz.underlying31 ?_
              intro a84 H84
              refine H84.ms 2 fun a86 H86 => ?_
              refine H86.bb 0 rfl rfl rfl rfl rfl rfl (add_i _ _ (by omega) _ _ _) rfl fun a87 H87 => ?_
              refine H87.bb 0 rfl rfl rfl rfl rfl rfl (lss_i _ _ false (by simp; omega) _ _ _) rfl fun a88 H88 => nt ?_
              refine H88.condF rfl ?_
              refine skip_wp ?_
              refine then_normal ?_
              refine H88.rg 2 fun a90 H90 => ?_
              refine H90.bb 4 rfl rfl rfl rfl rfl rfl (add_i _ _ (by omega) _ _ _) rfl fun a95 H95 => nt ?_
              refine wp_ret ?_
              repeat (first | (with_reducible refine block_ret ?_) | (with_reducible refine then_ret ?_) | (with_reducible refine two_ret ?_))
              refine bodyPost_ret (results_three rfl _ _ _ _ (H95.at_ 2 _ rfl) (H95.at_ 3 _ rfl) (H95.at_ 4 _ rfl)) H95.df ?_
              exact ⟨by rw [hs] <;> rfl, rfl⟩
    · skip
      rw [List.drop_eq_nil_of_le hge] at hs
      have hs7 : sizeD xs = .error 7 := by rw [hs]; cases (4 - k) <;> rfl
      have hkl : k + 1 = xs.length ∨ xs.length < k + 1 := by omega
      refine H43.rg 2 fun a45 H45 => ?_
      refine H45.len gz rfl rfl rfl rfl Tryz.underlying31 ?_
      intro a46 H46
      refine H46.bb 0 rfl rfl rfl rfl rfl rfl (eql_iB _ _ true (by rw [beq_iff_eq]; omega) _ _ _) rfl fun a47 H47 => nt ?_
      refine H47.condT rfl ?_
      refine H47.rg 3 fun a50 H50 => nt ?_
      refine wp_ret ?_
      repeat (first | (with_reducible refine block_ret ?_) | (with_reducible refine then_ret ?_) | (with_reducible refine two_ret ?_))
      refine bodyPost_ret (results_three rfl _ _ _ _ (H50.at_ 2 _ rfl) (H50.at_ 3 _ rfl) (H50.at_ 4 _ rfl)) H50.df ?_
      exact ⟨by rw [hs7] <;> rfl, rfl⟩
  · rintro a51 _ ⟨rfl, H51, hs⟩
    refine H51.rg 3 fun a54 H54 => nt ?_
    refine wp_ret ?_
    repeat (first | (with_reducible refine block_ret ?_) | (with_reducible refine then_ret ?_) | (with_reducible refine two_ret ?_))
    refine bodyPost_ret (results_three rfl _ _ _ _ (H54.at_ 2 _ rfl) (H54.at_ 3 _ rfl) (H54.at_ 4 _ rfl)) H54.df ?_
    exact ⟨by rw [hs] <;> rfl, rfl⟩
end Go.Proofs.YtlacidnnankjlaaGreatDoor

/-
  A reader and the packet that it fills, in few words.
-/
namespace Go.Proofs.YtlacidnnankjlaaGreatDoor
open Go.RowKit

/-- a reader at block g has s before it; the packet at block gp has the cells L; nothing that was there in w0 has turned but g. -/
structure Rst (w0 : World) (B g gp : Nat) (s : Rd) (L : List Value) (w : World) : Prop where
  rd : RdAt w B g s
  ce : Cells w gp L
  gr : w0.grownBy w (some g)
  ge : w0.heap.size ≤ gp
  hB : B ≤ gp
  ne : gp ≠ g
  lt : gp < w.heap.size
section
variable {w0 w w' : World} {B g gp : Nat} {s s' : Rd} {L L' : List Value}
theorem Rst.call (h : Rst w0 B g gp s L w) (hr : RdAt w' B g s') (hg : w.grownBy w' (some g)) : Rst w0 B g gp s' L w' :=
  ⟨hr, h.ce.kept hg h.lt (by simpa using h.ne), h.gr.trans hg, h.ge, h.hB, h.ne, Nat.lt_of_lt_of_le h.lt hg.size⟩
theorem Rst.set (h : Rst w0 B g gp s L w) (j : Nat) (v : Value) (hj : j < L.length) : Rst w0 B g gp s (L.set j v) (w.setCell ⟨gp, j, none⟩ v) :=
  ⟨h.rd.store (a := ⟨gp, j, none⟩) h.hB h.ne v, h.ce.set j v hj, grown_store h.gr (a := ⟨gp, j, none⟩) h.ge v, h.ge, h.hB, h.ne, by rw [size_setCell']; exact h.lt⟩
theorem Rst.is (h : Rst w0 B g gp s L w) (e : L = L') (e' : s = s') : Rst w0 B g gp s' L' w := by rw [← e, ← e']; exact h
end
section
variable {w0 w : World} {B g gp : Nat} {s : Rd} {L : List Value} {ops : Array Oper} {rest rest' : List Oper} {o : Oper} {a : Act} {Q : Exit → Act → World → Prop} {n : Nat} {l l' : List (Nat × Value)}
/-- one of the reader's methods is called. -/
theorem Has.rc (H : Has a n l) (R : Rst w0 B g gp s L w) (k : Nat) {d : Nat} {f : FuncId} {xs : Array Operand} {ats : Array TypeId} {vs : List Value} {v : Value} {s' : Rd} (hc : Calls Tryz.prog f vs.toArray w (Rdd w B g v s')) (h : ∀ a' w', Rst w0 B g gp s' L w' → Has a' n l' → wpList Tryz.prog ops Q rest' a' w')
    (ho : o.op = .call { callee := .value (.func f), args := xs, argTypes := ats } := by rfl) (hd : o.dst = some d := by rfl) (hn : Nat.blt d n = true := by rfl) (hg : o.guard = none := by rfl) (hx : evLs l xs.toList = some vs := by rfl)
    (hen : ∀ (args : Array Value) (w : World), (callFunc f args).run Tryz.prog w = .ok (.enter f args) w := by exact fun _ _ => by kernel_rfl) (hr : runM n k rest ((d, v) :: l) = some (rest', l') := by rfl) : wpList Tryz.prog ops Q (o :: rest) a w :=
  H.call (gz hg) ho hd hn hx hen (R := fun u w' => u = v ∧ RdAt w' B g s' ∧ w.grownBy w' (some g)) (hc.mono fun _ _ h => ⟨v, h.1, rfl, h.2⟩) (by rintro _ _ w' ⟨rfl, h1, h2⟩ H'; exact runM_ok k H' hr fun a' H'' => h a' w' (R.call h1 h2) H'')
/-- one of the packet's cells is written, or read. -/
theorem Has.rs (H : Has a n l) (R : Rst w0 B g gp s L w) (k : Nat) {T j : Nat} {x y : Operand} {v : Value} (hst : ∀ u, w.cell? ⟨gp, j, none⟩ = some u → w.frozen? ⟨gp, j, none⟩ = false → (Instr.storeAt T (.pointer (some ⟨gp, j, none⟩)) v).run Tryz.prog w = .ok () (w.setCell ⟨gp, j, none⟩ v))
    (h : ∀ a' w', Rst w0 B g gp s (L.set j v) w' → Has a' n l' → wpList Tryz.prog ops Q rest' a' w')
    (ho : o.op = .store T x y := by rfl) (hd : o.dst = none := by rfl) (hg : o.guard = none := by rfl) (hx : evL l x = some (.pointer (some ⟨gp, j, none⟩)) := by rfl) (hy : evL l y = some v := by rfl) (hj : Nat.blt j L.length = true := by rfl) (hr : runM n k rest l = some (rest', l') := by rfl) : wpList Tryz.prog ops Q (o :: rest) a w := by
  have hj' : j < L.length := by simpa [Nat.blt_eq] using hj
  obtain ⟨c1, c2⟩ := R.ce j _ (List.getElem?_eq_getElem hj')
  exact H.store (gz hg) ho hd hx hy (hst _ c1 c2) fun a' H' => runM_ok k H' hr fun a' H'' => h a' _ (R.set j v hj') H''
theorem Has.si (H : Has a n l) (R : Rst w0 B g gp s L w) (k : Nat) {j : Nat} {x y : Operand} {v : Int} (h : ∀ a' w', Rst w0 B g gp s (L.set j (.int .i64 v)) w' → Has a' n l' → wpList Tryz.prog ops Q rest' a' w')
    (ho : o.op = .store 3 x y := by rfl) (hd : o.dst = none := by rfl) (hg : o.guard = none := by rfl) (hx : evL l x = some (.pointer (some ⟨gp, j, none⟩)) := by rfl) (hy : evL l y = some (.int .i64 v) := by rfl) (hj : Nat.blt j L.length = true := by rfl) (hr : runM n k rest l = some (rest', l') := by rfl) : wpList Tryz.prog ops Q (o :: rest) a w :=
  H.rs R k (fun u h f => store1_i _ _ _ u _ h f) h ho hd hg hx hy hj hr
theorem Has.sb (H : Has a n l) (R : Rst w0 B g gp s L w) (k : Nat) {j : Nat} {x y : Operand} {v : Bool} (h : ∀ a' w', Rst w0 B g gp s (L.set j (.bool v)) w' → Has a' n l' → wpList Tryz.prog ops Q rest' a' w')
    (ho : o.op = .store 4 x y := by rfl) (hd : o.dst = none := by rfl) (hg : o.guard = none := by rfl) (hx : evL l x = some (.pointer (some ⟨gp, j, none⟩)) := by rfl) (hy : evL l y = some (.bool v) := by rfl) (hj : Nat.blt j L.length = true := by rfl) (hr : runM n k rest l = some (rest', l') := by rfl) : wpList Tryz.prog ops Q (o :: rest) a w :=
  H.rs R k (fun u h f => store1_b _ _ _ u _ h f) h ho hd hg hx hy hj hr
theorem Has.ss (H : Has a n l) (R : Rst w0 B g gp s L w) (k : Nat) {j : Nat} {x y : Operand} {v : ByteArray} (h : ∀ a' w', Rst w0 B g gp s (L.set j (.string v)) w' → Has a' n l' → wpList Tryz.prog ops Q rest' a' w')
    (ho : o.op = .store 9 x y := by rfl) (hd : o.dst = none := by rfl) (hg : o.guard = none := by rfl) (hx : evL l x = some (.pointer (some ⟨gp, j, none⟩)) := by rfl) (hy : evL l y = some (.string v) := by rfl) (hj : Nat.blt j L.length = true := by rfl) (hr : runM n k rest l = some (rest', l') := by rfl) : wpList Tryz.prog ops Q (o :: rest) a w :=
  H.rs R k (fun u h f => store1_s _ _ _ u _ h f) h ho hd hg hx hy hj hr
theorem Has.sw (H : Has a n l) (R : Rst w0 B g gp s L w) (k : Nat) {x y : Operand} {b c : Bool} {t u : ByteArray} {q : Int} (h : ∀ a' w', Rst w0 B g gp s (((((L.set 4 (.bool b)).set 5 (.string t)).set 6 (.string u)).set 7 (.int .i64 q)).set 8 (.bool c)) w' → Has a' n l' → wpList Tryz.prog ops Q rest' a' w')
    (ho : o.op = .store 44 x y := by rfl) (hd : o.dst = none := by rfl) (hg : o.guard = none := by rfl) (hx : evL l x = some (.pointer (some ⟨gp, 4, none⟩)) := by rfl) (hy : evL l y = some (.agg #[.bool b, .string t, .string u, .int .i64 q, .bool c]) := by rfl) (hj : Nat.blt 8 L.length = true := by rfl) (hr : runM n k rest l = some (rest', l') := by rfl) : wpList Tryz.prog ops Q (o :: rest) a w := by
  have hj' : 8 < L.length := by simpa [Nat.blt_eq] using hj
  refine H.store (gz hg) ho hd hx hy (store_will gp L b t u q c w R.ce hj') fun a' H' => runM_ok k H' hr fun a' H'' => h a' _ ?_ H''
  exact ((((R.set 4 _ (by omega)).set 5 _ (by simp only [List.length_set]; omega)).set 6 _ (by simp only [List.length_set]; omega)).set 7 _ (by simp only [List.length_set]; omega)).set 8 _ (by simp only [List.length_set]; omega)
theorem Rst.lb (R : Rst w0 B g gp s L w) (j : Nat) {v : Bool} (h : L[j]? = some (.bool v) := by rfl) : (Instr.loadAt 4 (.pointer (some ⟨gp, j, none⟩))).run Tryz.prog w = .ok (.bool v) w := load1_b _ _ _ _ (R.ce.get j _ h)
theorem Rst.li (R : Rst w0 B g gp s L w) (j : Nat) {v : Int} (h : L[j]? = some (.int .i64 v) := by rfl) : (Instr.loadAt 3 (.pointer (some ⟨gp, j, none⟩))).run Tryz.prog w = .ok (.int .i64 v) w := load1_i _ _ _ _ (R.ce.get j _ h)
end
theorem and_i (u v : Int) (x y : Operand) (w : World) : (do eqGuard .and 3 x y (.int .i64 u) (.int .i64 v); binOp .and 3 (.int .i64 u) (.int .i64 v) : Sem Value).run Tryz.prog w = .ok (.int .i64 (bits .and .i64 u v)) w := by kernel_rfl
theorem neq_iB (u v : Int) (b : Bool) (h : (u != v) = b) (x y : Operand) (w : World) : (do eqGuard .neq 3 x y (.int .i64 u) (.int .i64 v); binOp .neq 3 (.int .i64 u) (.int .i64 v) : Sem Value).run Tryz.prog w = .ok (.bool b) w := by
  rw [← h]
  kernel_rfl
end Go.Proofs.YtlacidnnankjlaaGreatDoor

/-
  Package pack's reader: connect.
-/
namespace Go.Proofs.YtlacidnnankjlaaGreatDoor
open Go.RowKit

theorem packOneQ (B g : Nat) (s : Rd) {x : UInt8} {s' : Rd} (e : oneP s = (x, s')) (w : World) (h : RdAt w B g s) :
    Calls Tryz.prog 140 #[.pointer (some ⟨g, 0, none⟩)] w (Rdd w B g (.int .i64 (x.toNat : Int)) s') := by
  have := packOne B g s w h
  rw [e] at this
  exact this
theorem packTextQ (B g : Nat) (s : Rd) {t : ByteArray} {s' : Rd} (e : textP s = (t, s')) (w : World) (h : RdAt w B g s) :
    Calls Tryz.prog 141 #[.pointer (some ⟨g, 0, none⟩)] w (Rdd w B g (.string t) s') := by
  have := packTextR B g s w h
  rw [e] at this
  exact this
/-- what reading such a packet leaves. -/
def Conned (w0 : World) (B g gp : Nat) (r : Conn) (e : Ending) (w' : World) : Prop :=
  e = .returned (.tuple #[]) ∧ RdAt w' B g r.s ∧ Cells w' gp (mqCells r.mq nilV nilV nilV) ∧ w0.grownBy w' (some g) ∧ gp < w'.heap.size
theorem lt_set {w : World} {g : Nat} (h : g < w.heap.size) (a : Addr) (v : Value) : g < (w.setCell a v).heap.size := by rw [size_setCell']; exact h
theorem shr3 (f : UInt8) : bits BinOp.and IntKind.i64 ((f.toNat : Int) / 8) 3 = ((f >>> 3 &&& 3).toNat : Int) := by
  have h := f.toNat_lt
  have e : (f.toNat : Int) / 8 = ((f.toNat / 8 : Nat) : Int) := by omega
  rw [e]
  have := i64_and_nat (f.toNat / 8) 3 (by omega) (by omega)
  rw [show ((3 : Nat) : Int) = 3 from rfl] at this
  rw [this]
  congr 1
  rw [UInt8.toNat_and, UInt8.toNat_shiftRight]
  rw [Nat.shiftRight_eq_div_pow]
  rfl

theorem shr_3 (u : Int) (x y : Operand) (w : World) : (do eqGuard .shr 3 x y (.int .i64 u) (.int .u64 3); binOp .shr 3 (.int .i64 u) (.int .u64 3) : Sem Value).run Tryz.prog w = .ok (.int .i64 (u / 8)) w := by
  simp [go_sem]
theorem bit_i (f : UInt8) (n : Nat) (hn : n < 256) (x y : Operand) (w : World) : (do eqGuard .neq 3 x y (.int .i64 (bits .and .i64 (f.toNat : Int) (n : Int))) (.int .i64 0); binOp .neq 3 (.int .i64 (bits .and .i64 (f.toNat : Int) (n : Int))) (.int .i64 0) : Sem Value).run Tryz.prog w = .ok (.bool (bitB f (UInt8.ofNat n))) w :=
  neq_iB _ _ _ (bitB_iff f n hn).symm _ _ _
set_option maxRecDepth 100000 in
set_option maxHeartbeats 1600000 in
theorem packConn (B g gp : Nat) (s : Rd) (w0 w : World) (hR : RdAt w B g s) (hC : Cells w gp (mqCells (mq0 1) nilV nilV nilV)) (hG : w0.grownBy w (some g)) (hp : w0.heap.size ≤ gp) (hB : B ≤ gp) (hne : gp ≠ g) (hlt : gp < w.heap.size) :
    Calls Tryz.prog 139 #[.pointer (some ⟨g, 0, none⟩), .pointer (some ⟨gp, 0, none⟩)] w (Conned w0 B g gp (connP s)) := by
  obtain ⟨r, hr⟩ : ∃ r, connP s = r := ⟨_, rfl⟩
  obtain ⟨s1, e1⟩ : ∃ x, (takeP s 7).2 = x := ⟨_, rfl⟩
  obtain ⟨f, hf⟩ : ∃ f, (oneP s1).1 = f := ⟨_, rfl⟩
  obtain ⟨s2, e2⟩ : ∃ x, (oneP s1).2 = x := ⟨_, rfl⟩
  obtain ⟨k, hk⟩ : ∃ x, twoP s2 = x := ⟨_, rfl⟩
  obtain ⟨c, hc⟩ : ∃ x, textP k.2 = x := ⟨_, rfl⟩
  obtain ⟨t, ht⟩ : ∃ x, textP c.2 = x := ⟨_, rfl⟩
  obtain ⟨y, hy⟩ : ∃ x, textP t.2 = x := ⟨_, rfl⟩
  obtain ⟨s5, e5⟩ : ∃ x, (if bitB f 4 then y.2 else c.2) = x := ⟨_, rfl⟩
  obtain ⟨u, hu⟩ : ∃ x, textP s5 = x := ⟨_, rfl⟩
  obtain ⟨s6, e6⟩ : ∃ x, (if bitB f 128 then u.2 else s5) = x := ⟨_, rfl⟩
  obtain ⟨q, hq⟩ : ∃ x, textP s6 = x := ⟨_, rfl⟩
  obtain ⟨s7, e7⟩ : ∃ x, (if bitB f 64 then q.2 else s6) = x := ⟨_, rfl⟩
  have hr' : r = ⟨f, k, c, t, y, u, q, s7⟩ := by
    subst hr e1 hf e2 hk hc ht hy e5 hu e6 hq e7
    rfl
  rw [hr]
  clear hr
  go_enter Tryz.func139, Tryz.ntmps139
  refine Has.start 72 [(0, .pointer (some ⟨g, 0, none⟩)), (1, .pointer (some ⟨gp, 0, none⟩))] rfl rfl ⟨rfl, rfl, trivial⟩ ?_
  intro a0 H0
  have R0 : Rst w0 B g gp s (mqCells (mq0 1) nilV nilV nilV) w := ⟨hR, hC, hG, hp, hB, hne, hlt⟩
  refine H0.rg 1 fun a1 H1 => ?_
  refine H1.cl (R := fun _ w' => RdAt w' B g s1 ∧ w.grownBy w' (some g)) ((packTake B g s 7 7 rfl (by omega) w R0.rd).mono ?_) ?_
  · rintro _ _ ⟨_, _, rfl, _, _, _, h1, h2⟩
    exact ⟨_, rfl, e1 ▸ h1, h2⟩
  rintro a2 v2 w2 ⟨h1, h2⟩ H2
  have R2 := R0.call h1 h2
  refine nt ?_
  refine H2.rg 1 fun a3 H3 => ?_
  refine H3.rc R2 1 (packOne B g _ _ R2.rd) fun a4 w4 R4 H4 => nt ?_
  rw [e2] at R4
  rw [hf] at H4
  refine H4.rg 2 fun a5 H5 => ?_
  refine H5.rc R4 2 (packTwoR B g _ _ R4.rd) fun a6 w6 R6 H6 => ?_
  refine H6.si R6 0 fun a7 w7 R7 H7 => nt ?_
  rw [hk] at R7
  refine H7.rg 2 fun a8 H8 => ?_
  refine H8.rc R7 2 (packTextR B g _ _ R7.rd) fun a9 w9 R9 H9 => ?_
  refine H9.ss R9 0 fun b1 x1 R10 H10 => nt ?_
  rw [hc] at R10
  refine H10.rg 4 fun b2 H11 => ?_
  refine H11.bn 0 (and_i _ _ _ _ _) fun b3 H12 => ?_
  refine H12.bn 1 (bit_i f 2 (by omega) _ _ _) fun b4 H13 => ?_
  refine H13.bn 0 (and_i _ _ _ _ _) fun b5 H14 => ?_
  refine H14.bn 1 (bit_i f 64 (by omega) _ _ _) fun b6 H15 => ?_
  refine H15.bn 0 (and_i _ _ _ _ _) fun b7 H16 => ?_
  refine H16.bn 2 (bit_i f 128 (by omega) _ _ _) fun b8 H17 => ?_
  refine H17.sb R10 2 fun b9 x9 R11 H18 => ?_
  refine H18.sb R11 2 fun c1 y1 R12 H19 => ?_
  refine H19.sb R12 0 fun c2 y2 R13 H20 => nt ?_
  have R14 := R13.is (L' := mqCells { mq0 1 with keep := k.1, client := c.1, clean := bitB f 2, hp := bitB f 64, hu := bitB f 128 } nilV nilV nilV) rfl rfl
  clear R0 R2 R4 R6 R7 R9 R10 R11 R12 R13
  refine wp_seq_join (fun a w' => Has a 72 [(0, .pointer (some ⟨g, 0, none⟩)), (1, .pointer (some ⟨gp, 0, none⟩))] ∧ Rst w0 B g gp s5 (mqCells { mq0 1 with keep := k.1, client := c.1, clean := bitB f 2, hp := bitB f 64, hu := bitB f 128, won := bitB f 4, wt := (if bitB f 4 then t.1 else nos), wp := (if bitB f 4 then y.1 else nos), wq := (if bitB f 4 then ((f >>> 3 &&& 3).toNat : Int) else 0), wr := (bitB f 4 && bitB f 32) } nilV nilV nilV) w') ?_ ?_
  · refine H20.rg 1 fun c3 H21 => ?_
    refine H21.bn 0 (and_i _ _ _ _ _) fun c4 H22 => ?_
    refine H22.bn 0 (bit_i f 4 (by omega) _ _ _) fun c5 H23 => nt ?_
    refine H23.cond (t := bitB f 4) rfl ?_
    cases b4 : bitB f 4 with
    | true =>
      rw [b4, if_pos rfl] at e5
      refine (H23.keep (l' := [(0, .pointer (some ⟨g, 0, none⟩)), (1, .pointer (some ⟨gp, 0, none⟩)), (4, .int .i64 (f.toNat : Int))]) ⟨rfl, rfl, rfl, trivial⟩).rg 2 fun c6 H24 => ?_
      refine H24.rc R14 1 (packTextR B g _ _ R14.rd) fun c7 y7 R15 H25 => ?_
      rw [ht] at R15 H25
      refine H25.rc R15 1 (packTextR B g _ _ R15.rd) fun c8 y8 R16 H26 => ?_
      rw [hy, e5] at R16
      rw [hy] at H26
      refine H26.bn 0 (shr_3 _ _ _ _) fun c9 H27 => ?_
      refine H27.bn 1 (and_i _ _ _ _ _) fun d1 H28 => ?_
      refine H28.bn 0 (and_i _ _ _ _ _) fun d2 H29 => ?_
      refine H29.bn 0 (bit_i f 32 (by omega) _ _ _) fun d3 H30 => ?_
      refine H30.any (w' := y8) gz rfl rfl (.agg #[.bool true, .string t.1, .string y.1, .int .i64 (bits .and .i64 ((f.toNat : Int) / 8) 3), .bool (bitB f 32)]) (by intro cs b h; cases h) (by kernel_rfl) (by kernel_rfl) fun d4 H31 => ?_
      refine H31.ms 2 fun d5 H32 => ?_
      refine H32.sw R16 0 fun d6 z6 R17 H33 => nt ?_
      exact ⟨H33.keep ⟨rfl, rfl, trivial⟩, R17.is (by rw [shr3]; rfl) rfl⟩
    | false =>
      rw [b4, if_neg (by decide)] at e5
      refine skip_wp (then_normal ⟨H23.keep ⟨rfl, rfl, trivial⟩, ?_⟩)
      rw [← e5]
      exact R14
  rintro a0 w1 ⟨H0, R0⟩
  refine wp_seq_join (fun a w' => Has a 72 [(0, .pointer (some ⟨g, 0, none⟩)), (1, .pointer (some ⟨gp, 0, none⟩))] ∧ Rst w0 B g gp s6 (mqCells { mq0 1 with keep := k.1, client := c.1, clean := bitB f 2, hp := bitB f 64, hu := bitB f 128, won := bitB f 4, wt := (if bitB f 4 then t.1 else nos), wp := (if bitB f 4 then y.1 else nos), wq := (if bitB f 4 then ((f >>> 3 &&& 3).toNat : Int) else 0), wr := (bitB f 4 && bitB f 32), user := (if bitB f 128 then u.1 else nos) } nilV nilV nilV) w') ?_ ?_
  · refine H0.rg 3 fun a1 H1 => ?_
    refine H1.ld 0 (R0.lb 10) fun a2 H2 => nt ?_
    refine H2.cond (t := bitB f 128) rfl ?_
    cases b4 : bitB f 128 with
    | true =>
      rw [b4, if_pos rfl] at e6
      refine H2.rg 2 fun a3 H3 => ?_
      refine H3.rc R0 2 (packTextR B g _ _ R0.rd) fun a4 w4 R4 H4 => ?_
      refine H4.ss R4 0 fun a5 w5 R5 H5 => nt ?_
      rw [hu, e6] at R5
      exact ⟨H5.keep ⟨rfl, rfl, trivial⟩, R5.is (by rw [b4]; rfl) rfl⟩
    | false =>
      rw [b4, if_neg (by decide)] at e6
      refine skip_wp (then_normal ⟨H2.keep ⟨rfl, rfl, trivial⟩, ?_⟩)
      exact R0.is (by rw [b4]; rfl) e6
  clear R0 H0
  rintro a0 w1 ⟨H0, R0⟩
  refine H0.rg 3 fun a1 H1 => ?_
  refine H1.ld 0 (R0.lb 12) fun a2 H2 => nt ?_
  refine H2.cond (t := bitB f 64) rfl ?_
  cases b4 : bitB f 64 with
  | true =>
    rw [b4, if_pos rfl] at e7
    refine H2.rg 2 fun a3 H3 => ?_
    refine H3.rc R0 2 (packTextR B g _ _ R0.rd) fun a4 w4 R4 H4 => ?_
    refine H4.ss R4 0 fun a5 w5 R5 H5 => ?_
    rw [hq, e7] at R5
    refine wpList_nil (bodyPost_end (results_none rfl _ _ _) H5.df ⟨rfl, ?_⟩)
    rw [hr']
    have R6 := R5.is (L' := mqCells (Conn.mk f k c t y u q s7).mq nilV nilV nilV) (by unfold Conn.mq; simp only [b4]; rfl) rfl
    exact ⟨R6.rd, R6.ce, R6.gr, R6.lt⟩
  | false =>
    rw [b4, if_neg (by decide)] at e7
    refine skip_wp (bodyPost_end (results_none rfl _ _ _) H2.df ⟨rfl, ?_⟩)
    rw [hr']
    have R6 := R0.is (L' := mqCells (Conn.mk f k c t y u q s7).mq nilV nilV nilV) (by unfold Conn.mq; simp only [b4]; rfl) e7
    exact ⟨R6.rd, R6.ce, R6.gr, R6.lt⟩
end Go.Proofs.YtlacidnnankjlaaGreatDoor

/-
  Package pack's reader: lists.
-/
namespace Go.Proofs.YtlacidnnankjlaaGreatDoor
open Go.RowKit

/-- what 'lists' leaves. -/
def Listed (w0 : World) (B g gp base : Nat) (r : Mq × Rd) (e : Ending) (w' : World) : Prop :=
  e = .returned (.tuple #[]) ∧ RdAt w' B g r.2 ∧ w0.grownBy w' (some g) ∧ gp < w'.heap.size ∧
    ∃ vc vw vf, Cells w' gp (mqCells r.1 vc vw vf) ∧ w'.ownsRow base 3 1 vc r.1.codes.length (r.1.codes.map iv) ∧ w'.ownsRow base 161 2 vw r.1.wishes.length (wv r.1.wishes) ∧ w'.ownsRow base 9 1 vf r.1.filters.length (r.1.filters.map sv)

set_option maxRecDepth 100000 in
set_option maxHeartbeats 3200000 in
theorem packLists9 (B g gp : Nat) (s : Rd) (hs : s.1.length ≤ 1000000) (w0 w : World) (hR : RdAt w B g s) (hC : Cells w gp (mqCells (mq0 9) nilV nilV nilV)) (hG : w0.grownBy w (some g)) (hp : w0.heap.size ≤ gp) (hB : B ≤ gp) (hne : gp ≠ g) (hlt : gp < w.heap.size) :
    Calls Tryz.prog 144 #[.pointer (some ⟨g, 0, none⟩), .pointer (some ⟨gp, 0, none⟩)] w (Listed w0 B g gp w.heap.size (loopP 9 ((twoP s).2.1.length + 1) { mq0 9 with id := ((twoP s).1 : Int) } (twoP s).2)) := by
  have HP := Lib.hid hp
  have HBp := Lib.hid hB
  have HNe := Lib.hid hne
  have HC0 := Lib.hid hC
  have HG0 := Lib.hid hG
  have HL0 := Lib.hid hlt
  have K1 := Lib.hid (packTwoR B g s w hR)
  have HgW : Hid (g < w.heap.size) := by
    obtain ⟨_, _, _, _, _, _, _, _, _, h⟩ := hR
    exact h
  have HLW : Hid (gp < w.heap.size) := hlt
  clear hp hB hne hC hG hlt hR
  generalize hl : (twoP s).2.1.length + 1 = L
  have hs2 : (twoP s).2.1.length ≤ 1000000 := Nat.le_trans (twoP_le s) hs
  generalize twoP s = t at *
  obtain ⟨i, s1⟩ := t
  dsimp only at *
  generalize hfin : loopP 9 L { mq0 9 with id := (i : Int) } s1 = fin
  have HF := Lib.hid hfin
  have HS2 := Lib.hid hs2
  have HLL := Lib.hid hl
  clear hfin hl hs2 hs
  go_enter Tryz.func144, Tryz.ntmps144
  go_wp2_with fail
  (with_reducible refine K1.out.mono ?_)
  rintro _ w1 ⟨rfl, hR1, hg1⟩
  have HC1 := Lib.hid (HC0.out.kept hg1 HL0.out (by simpa using HNe.out))
  have c1 := HC1.out.get 20 _ rfl
  have f1 := HC1.out.fr 20 rfl
  go_wp2_with fail
  go_loopg [] L (fun gk wx => ∃ (l : List Int) (s' : Rd) (vc : Value), RdAt wx B g s' ∧ w0.grownBy wx (some g) ∧ gp < wx.heap.size ∧ w.heap.size ≤ wx.heap.size ∧ Hid (Cells wx gp (mqCells { mq0 9 with id := (i : Int), codes := l } vc nilV nilV)) ∧
    Hid (wx.ownsRow w.heap.size 3 1 vc l.length (l.map iv)) ∧ Hid (loopP 9 gk { mq0 9 with id := (i : Int), codes := l } s' = fin) ∧ 0 < gk ∧ (s'.2 = false → s'.1.length < gk) ∧ l.length + gk ≤ 1000010)
  case atStart =>
    have hl := HLL.out
    have h2 := HS2.out
    refine ⟨[], s1, nilV, hR1.store (a := ⟨gp, 20, none⟩) HBp.out HNe.out _, grown_store (HG0.out.trans hg1) (a := ⟨gp, 20, none⟩) HP.out _, lt_set (Nat.lt_of_lt_of_le HL0.out hg1.size) _ _, by rw [size_setCell']; exact hg1.size, HC1.out.set 20 _ (by simp), World.ownsRow_nil _ _ _ _, HF.out, by omega, fun _ => by omega, by simp; omega⟩
  case round =>
    obtain ⟨l, s', vc, hR, hG, hL, hW, hC, hO, hk, hgk, hl2, hll⟩ := hrel
    have KM := Lib.hid (packMore B g s' _ hR)
    by_cases hm : s'.2 = false ∧ 0 < s'.1.length
    · have hMore : (!s'.2 && decide (0 < s'.1.length)) = true := by rw [hm.1, decide_eq_true hm.2]; rfl
      rw [hMore] at KM
      obtain ⟨gk, rfl⟩ : ∃ n, gk = n + 1 := ⟨gk - 1, by omega⟩
      obtain ⟨⟨x, s2⟩, e1⟩ : ∃ r, oneP s' = r := ⟨_, rfl⟩
      have hk2 : loopP 9 gk { mq0 9 with id := (i : Int), codes := l ++ [(x.toNat : Int)] } s2 = fin := by
        have := hk.out
        unfold loopP at this
        rw [if_pos hm, if_neg (by decide), if_pos rfl, e1] at this
        exact this
      have hg2 : s2.2 = false → s2.1.length + 1 = s'.1.length := by
        intro h
        have := oneP_good s' (by rw [e1]; exact h)
        rw [e1] at this
        exact this.2
      have hgk2 : 0 < gk ∧ (s2.2 = false → s2.1.length < gk) := by
        have := hl2 hm.1
        exact ⟨by omega, fun h => by have := hg2 h; omega⟩
      have HK := Lib.hid hk2
      have HGK := Lib.hid hgk2
      obtain ⟨A, c, rfl, _, _⟩ := own_shape hO.out
      have hgW := HgW.out
      have hlm : l.length + 1 ≤ maxLen := by unfold maxLen; omega
      have hlb : (l.length + 1) * 8 ≤ 140737488355328 := by omega
      have c0 := hC.out.get 0 _ rfl
      have c15 := hC.out.get 15 _ rfl
      have f15 := hC.out.fr 15 rfl
      have HR := Lib.hid hR
      have HGr := Lib.hid hG
      clear hMore hk hk2 hg2 hgk2 hgk hl2 hm hR hG
      go_wp2_with (go_at_call 164; (with_reducible refine KM.out.mono ?_); rintro _ w' ⟨rfl, rfl⟩)
      clear KM
      go_region_law
        (first
          | (go_simp; go_at_call 140; (with_reducible refine (packOneQ B g _ e1 _ HR.out.drew).mono ?_); rintro _ w2 ⟨rfl, hR2, hg2⟩; replace hg2 := of_drew_grown hg2; have HC2 := Lib.hid (hC.out.kept hg2 hL (by simpa using HNe.out)); have c15' := HC2.out.get 15 _ rfl; have HO2 := Lib.hid (hO.out.kept hg2 (Or.inr (Ne.symm (own_ne hO.out (Or.inl hgW))))); have hW2 := Nat.le_trans hW hg2.size; have hL2 := Nat.lt_of_lt_of_le hL hg2.size)
          | (refine step_append_row rfl _ _ 45 rfl w.heap.size 3 (.int .i64 0) 1 8 Tryz.underlying45 info_int rfl (by decide) _ _ (l.map iv) (by exact rfl) (HO2.out.alloc _) _ 1 1 [iv (x.toNat : Int)] (by exact rfl) (Reads.lit w2 3 [iv (x.toNat : Int)] (0, 0) 1 1 rfl) (one_iv _) hlm hlb (Nat.le_trans hW2 (balloc _ _).size) ?_; intro A3 c3 w3 hO3 hg3; have HC3 := Lib.hid ((HC2.out.alloc hL2 _).kept hg3 (Nat.lt_trans hL2 (lt_alloc _ _)) (own_ne HO2.out (Or.inl HLW.out))); have c15'' := HC3.out.get 15 _ rfl; have f15'' := HC3.out.fr 15 rfl))
      all_goals
        have hL3 := Nat.lt_of_lt_of_le (Nat.lt_trans hL2 (lt_alloc w2 (.cells #[iv (x.toNat : Int)] 3))) hg3.size
        have hW3 := Nat.le_trans hW2 (Nat.le_trans (Nat.le_of_lt (lt_alloc w2 (.cells #[iv (x.toNat : Int)] 3))) hg3.size)
        have hG3 : w0.grownBy w3 (some g) := grown_row_of (HGr.out.trans hg2) HO2.out (Nat.le_trans HP.out (Nat.le_of_lt HLW.out)) _ hg3
        have hR3 : RdAt w3 B g s2 := hR2.row_of HO2.out HgW.out _ hg3
        have HO3 := Lib.hid hO3
        clear hO3
        go_wp2_with fail
        go_roundg gk
        case measure => omega
        case rel =>
          refine ⟨l ++ [(x.toNat : Int)], s2, .slice A3 (l.length + 1) c3, hR3.store (a := ⟨gp, 15, none⟩) HBp.out HNe.out _, grown_store hG3 (a := ⟨gp, 15, none⟩) HP.out _, lt_set hL3 _ _, by rw [size_setCell']; exact hW3, ?_, ?_, HK.out, HGK.out.1, HGK.out.2, ?_⟩
          · exact HC3.out.set 15 _ (by simp)
          · have := ownsRow_setCell_below HO3.out (a := ⟨gp, 15, none⟩) HLW.out (.slice A3 (l.length + 1) c3)
            unfold Hid
            rw [map_iv_snoc, List.length_append]
            exact this
          · simp; omega
    · have hMore : (!s'.2 && decide (0 < s'.1.length)) = false := by
        rw [Bool.and_eq_false_iff]
        by_cases h : s'.2 = false
        · exact Or.inr (decide_eq_false fun h0 => hm ⟨h, h0⟩)
        · exact Or.inl (by simpa using h)
      rw [hMore] at KM
      obtain ⟨gk, rfl⟩ : ∃ n, gk = n + 1 := ⟨gk - 1, by omega⟩
      have hk2 := hk.out
      unfold loopP at hk2
      rw [if_neg hm] at hk2
      have HK := Lib.hid hk2
      clear hk hk2 hm hMore
      go_wp2_with (go_at_call 164; (with_reducible refine KM.out.mono ?_); rintro _ w' ⟨rfl, rfl⟩)
      refine bodyPost_end (results_none rfl _ _ _) rfl ?_
      rw [← HK.out]
      exact ⟨rfl, hR, hG, hL, vc, nilV, nilV, hC.out, hO.out, World.ownsRow_nil _ _ _ _, World.ownsRow_nil _ _ _ _⟩

set_option maxRecDepth 100000 in
set_option maxHeartbeats 3200000 in
theorem packLists10 (B g gp : Nat) (s : Rd) (hs : s.1.length ≤ 1000000) (w0 w : World) (hR : RdAt w B g s) (hC : Cells w gp (mqCells (mq0 10) nilV nilV nilV)) (hG : w0.grownBy w (some g)) (hp : w0.heap.size ≤ gp) (hB : B ≤ gp) (hne : gp ≠ g) (hlt : gp < w.heap.size) :
    Calls Tryz.prog 144 #[.pointer (some ⟨g, 0, none⟩), .pointer (some ⟨gp, 0, none⟩)] w (Listed w0 B g gp w.heap.size (loopP 10 ((twoP s).2.1.length + 1) { mq0 10 with id := ((twoP s).1 : Int) } (twoP s).2)) := by
  have HP := Lib.hid hp
  have HBp := Lib.hid hB
  have HNe := Lib.hid hne
  have HC0 := Lib.hid hC
  have HG0 := Lib.hid hG
  have HL0 := Lib.hid hlt
  have K1 := Lib.hid (packTwoR B g s w hR)
  have HgW : Hid (g < w.heap.size) := by
    obtain ⟨_, _, _, _, _, _, _, _, _, h⟩ := hR
    exact h
  have HLW : Hid (gp < w.heap.size) := hlt
  clear hp hB hne hC hG hlt hR
  generalize hl : (twoP s).2.1.length + 1 = L
  have hs2 : (twoP s).2.1.length ≤ 1000000 := Nat.le_trans (twoP_le s) hs
  generalize twoP s = t at *
  obtain ⟨i, s1⟩ := t
  dsimp only at *
  generalize hfin : loopP 10 L { mq0 10 with id := (i : Int) } s1 = fin
  have HF := Lib.hid hfin
  have HS2 := Lib.hid hs2
  have HLL := Lib.hid hl
  clear hfin hl hs2 hs
  go_enter Tryz.func144, Tryz.ntmps144
  go_wp2_with fail
  (with_reducible refine K1.out.mono ?_)
  rintro _ w1 ⟨rfl, hR1, hg1⟩
  have HC1 := Lib.hid (HC0.out.kept hg1 HL0.out (by simpa using HNe.out))
  have c1 := HC1.out.get 20 _ rfl
  have f1 := HC1.out.fr 20 rfl
  go_wp2_with fail
  go_loopg [] L (fun gk wx => ∃ (l : List ByteArray) (s' : Rd) (vc : Value), RdAt wx B g s' ∧ w0.grownBy wx (some g) ∧ gp < wx.heap.size ∧ w.heap.size ≤ wx.heap.size ∧ Hid (Cells wx gp (mqCells { mq0 10 with id := (i : Int), filters := l } nilV nilV vc)) ∧
    Hid (wx.ownsRow w.heap.size 9 1 vc l.length (l.map sv)) ∧ Hid (loopP 10 gk { mq0 10 with id := (i : Int), filters := l } s' = fin) ∧ 0 < gk ∧ (s'.2 = false → s'.1.length < gk) ∧ l.length + gk ≤ 1000010)
  case atStart =>
    have hl := HLL.out
    have h2 := HS2.out
    refine ⟨[], s1, nilV, hR1.store (a := ⟨gp, 20, none⟩) HBp.out HNe.out _, grown_store (HG0.out.trans hg1) (a := ⟨gp, 20, none⟩) HP.out _, lt_set (Nat.lt_of_lt_of_le HL0.out hg1.size) _ _, by rw [size_setCell']; exact hg1.size, HC1.out.set 20 _ (by simp), World.ownsRow_nil _ _ _ _, HF.out, by omega, fun _ => by omega, by simp; omega⟩
  case round =>
    obtain ⟨l, s', vc, hR, hG, hL, hW, hC, hO, hk, hgk, hl2, hll⟩ := hrel
    have KM := Lib.hid (packMore B g s' _ hR)
    by_cases hm : s'.2 = false ∧ 0 < s'.1.length
    · have hMore : (!s'.2 && decide (0 < s'.1.length)) = true := by rw [hm.1, decide_eq_true hm.2]; rfl
      rw [hMore] at KM
      obtain ⟨gk, rfl⟩ : ∃ n, gk = n + 1 := ⟨gk - 1, by omega⟩
      obtain ⟨⟨x, s2⟩, e1⟩ : ∃ r, textP s' = r := ⟨_, rfl⟩
      have hk2 : loopP 10 gk { mq0 10 with id := (i : Int), filters := l ++ [x] } s2 = fin := by
        have := hk.out
        unfold loopP at this
        rw [if_pos hm, if_neg (by decide), if_neg (by decide), e1] at this
        exact this
      have hg2 : s2.2 = false → s2.1.length + 2 ≤ s'.1.length := by
        intro h
        have := textP_good s' (by rw [e1]; exact h)
        rw [e1] at this
        exact this.2
      have hgk2 : 0 < gk ∧ (s2.2 = false → s2.1.length < gk) := by
        have := hl2 hm.1
        exact ⟨by omega, fun h => by have := hg2 h; omega⟩
      have HK := Lib.hid hk2
      have HGK := Lib.hid hgk2
      obtain ⟨A, c, rfl, _, _⟩ := own_shape hO.out
      have hgW := HgW.out
      have hlm : l.length + 1 ≤ maxLen := by unfold maxLen; omega
      have hlb : (l.length + 1) * 16 ≤ 140737488355328 := by omega
      have c0 := hC.out.get 0 _ rfl
      have c23 := hC.out.get 23 _ rfl
      have f23 := hC.out.fr 23 rfl
      have HR := Lib.hid hR
      have HGr := Lib.hid hG
      clear hMore hk hk2 hg2 hgk2 hgk hl2 hm hR hG
      go_wp2_with (go_at_call 164; (with_reducible refine KM.out.mono ?_); rintro _ w' ⟨rfl, rfl⟩)
      clear KM
      go_region_law
        (first
          | (go_simp; go_at_call 141; (with_reducible refine (packTextQ B g _ e1 _ HR.out.drew).mono ?_); rintro _ w2 ⟨rfl, hR2, hg2⟩; replace hg2 := of_drew_grown hg2; have HC2 := Lib.hid (hC.out.kept hg2 hL (by simpa using HNe.out)); have c23' := HC2.out.get 23 _ rfl; have HO2 := Lib.hid (hO.out.kept hg2 (Or.inr (Ne.symm (own_ne hO.out (Or.inl hgW))))); have hW2 := Nat.le_trans hW hg2.size; have hL2 := Nat.lt_of_lt_of_le hL hg2.size)
          | (refine step_append_row rfl _ _ 47 rfl w.heap.size 9 (.string ⟨#[]⟩) 1 16 Tryz.underlying47 info_string rfl (by decide) _ _ (l.map sv) (by exact rfl) (HO2.out.alloc _) _ 1 1 [sv x] (by exact rfl) (Reads.lit w2 9 [sv x] (0, 0) 1 1 rfl) (one_sv _) hlm hlb (Nat.le_trans hW2 (balloc _ _).size) ?_; intro A3 c3 w3 hO3 hg3; have HC3 := Lib.hid ((HC2.out.alloc hL2 _).kept hg3 (Nat.lt_trans hL2 (lt_alloc _ _)) (own_ne HO2.out (Or.inl HLW.out))); have c23'' := HC3.out.get 23 _ rfl; have f23'' := HC3.out.fr 23 rfl))
      all_goals
        have hL3 := Nat.lt_of_lt_of_le (Nat.lt_trans hL2 (lt_alloc w2 (.cells #[sv x] 9))) hg3.size
        have hW3 := Nat.le_trans hW2 (Nat.le_trans (Nat.le_of_lt (lt_alloc w2 (.cells #[sv x] 9))) hg3.size)
        have hG3 : w0.grownBy w3 (some g) := grown_row_of (HGr.out.trans hg2) HO2.out (Nat.le_trans HP.out (Nat.le_of_lt HLW.out)) _ hg3
        have hR3 : RdAt w3 B g s2 := hR2.row_of HO2.out HgW.out _ hg3
        have HO3 := Lib.hid hO3
        clear hO3
        go_wp2_with fail
        go_roundg gk
        case measure => omega
        case rel =>
          refine ⟨l ++ [x], s2, .slice A3 (l.length + 1) c3, hR3.store (a := ⟨gp, 23, none⟩) HBp.out HNe.out _, grown_store hG3 (a := ⟨gp, 23, none⟩) HP.out _, lt_set hL3 _ _, by rw [size_setCell']; exact hW3, ?_, ?_, HK.out, HGK.out.1, HGK.out.2, ?_⟩
          · exact HC3.out.set 23 _ (by simp)
          · have := ownsRow_setCell_below HO3.out (a := ⟨gp, 23, none⟩) HLW.out (.slice A3 (l.length + 1) c3)
            unfold Hid
            rw [map_sv_snoc, List.length_append]
            exact this
          · simp; omega
    · have hMore : (!s'.2 && decide (0 < s'.1.length)) = false := by
        rw [Bool.and_eq_false_iff]
        by_cases h : s'.2 = false
        · exact Or.inr (decide_eq_false fun h0 => hm ⟨h, h0⟩)
        · exact Or.inl (by simpa using h)
      rw [hMore] at KM
      obtain ⟨gk, rfl⟩ : ∃ n, gk = n + 1 := ⟨gk - 1, by omega⟩
      have hk2 := hk.out
      unfold loopP at hk2
      rw [if_neg hm] at hk2
      have HK := Lib.hid hk2
      clear hk hk2 hm hMore
      go_wp2_with (go_at_call 164; (with_reducible refine KM.out.mono ?_); rintro _ w' ⟨rfl, rfl⟩)
      refine bodyPost_end (results_none rfl _ _ _) rfl ?_
      rw [← HK.out]
      exact ⟨rfl, hR, hG, hL, nilV, nilV, vc, hC.out, World.ownsRow_nil _ _ _ _, World.ownsRow_nil _ _ _ _, hO.out⟩

set_option maxRecDepth 100000 in
set_option maxHeartbeats 3200000 in
theorem packLists8 (B g gp : Nat) (s : Rd) (hs : s.1.length ≤ 1000000) (w0 w : World) (hR : RdAt w B g s) (hC : Cells w gp (mqCells (mq0 8) nilV nilV nilV)) (hG : w0.grownBy w (some g)) (hp : w0.heap.size ≤ gp) (hB : B ≤ gp) (hne : gp ≠ g) (hlt : gp < w.heap.size) :
    Calls Tryz.prog 144 #[.pointer (some ⟨g, 0, none⟩), .pointer (some ⟨gp, 0, none⟩)] w (Listed w0 B g gp w.heap.size (loopP 8 ((twoP s).2.1.length + 1) { mq0 8 with id := ((twoP s).1 : Int) } (twoP s).2)) := by
  have HP := Lib.hid hp
  have HBp := Lib.hid hB
  have HNe := Lib.hid hne
  have HC0 := Lib.hid hC
  have HG0 := Lib.hid hG
  have HL0 := Lib.hid hlt
  have K1 := Lib.hid (packTwoR B g s w hR)
  have HgW : Hid (g < w.heap.size) := by
    obtain ⟨_, _, _, _, _, _, _, _, _, h⟩ := hR
    exact h
  have HLW : Hid (gp < w.heap.size) := hlt
  clear hp hB hne hC hG hlt hR
  generalize hl : (twoP s).2.1.length + 1 = L
  have hs2 : (twoP s).2.1.length ≤ 1000000 := Nat.le_trans (twoP_le s) hs
  generalize twoP s = t at *
  obtain ⟨i, s1⟩ := t
  dsimp only at *
  generalize hfin : loopP 8 L { mq0 8 with id := (i : Int) } s1 = fin
  have HF := Lib.hid hfin
  have HS2 := Lib.hid hs2
  have HLL := Lib.hid hl
  clear hfin hl hs2 hs
  go_enter Tryz.func144, Tryz.ntmps144
  go_wp2_with fail
  (with_reducible refine K1.out.mono ?_)
  rintro _ w1 ⟨rfl, hR1, hg1⟩
  have HC1 := Lib.hid (HC0.out.kept hg1 HL0.out (by simpa using HNe.out))
  have c1 := HC1.out.get 20 _ rfl
  have f1 := HC1.out.fr 20 rfl
  go_wp2_with fail
  go_loopg [] L (fun gk wx => ∃ (l : List (ByteArray × Int)) (s' : Rd) (vc : Value), RdAt wx B g s' ∧ w0.grownBy wx (some g) ∧ gp < wx.heap.size ∧ w.heap.size ≤ wx.heap.size ∧ Hid (Cells wx gp (mqCells { mq0 8 with id := (i : Int), wishes := l } nilV vc nilV)) ∧
    Hid (wx.ownsRow w.heap.size 161 2 vc l.length (wv l)) ∧ Hid (loopP 8 gk { mq0 8 with id := (i : Int), wishes := l } s' = fin) ∧ 0 < gk ∧ (s'.2 = false → s'.1.length < gk) ∧ l.length + gk ≤ 1000010)
  case atStart =>
    have hl := HLL.out
    have h2 := HS2.out
    refine ⟨[], s1, nilV, hR1.store (a := ⟨gp, 20, none⟩) HBp.out HNe.out _, grown_store (HG0.out.trans hg1) (a := ⟨gp, 20, none⟩) HP.out _, lt_set (Nat.lt_of_lt_of_le HL0.out hg1.size) _ _, by rw [size_setCell']; exact hg1.size, HC1.out.set 20 _ (by simp), World.ownsRow_nil _ _ _ _, HF.out, by omega, fun _ => by omega, by simp; omega⟩
  case round =>
    obtain ⟨l, s', vc, hR, hG, hL, hW, hC, hO, hk, hgk, hl2, hll⟩ := hrel
    have KM := Lib.hid (packMore B g s' _ hR)
    by_cases hm : s'.2 = false ∧ 0 < s'.1.length
    · have hMore : (!s'.2 && decide (0 < s'.1.length)) = true := by rw [hm.1, decide_eq_true hm.2]; rfl
      rw [hMore] at KM
      obtain ⟨gk, rfl⟩ : ∃ n, gk = n + 1 := ⟨gk - 1, by omega⟩
      obtain ⟨⟨y, s3⟩, e1⟩ : ∃ r, textP s' = r := ⟨_, rfl⟩
      obtain ⟨⟨x, s2⟩, e2⟩ : ∃ r, oneP s3 = r := ⟨_, rfl⟩
      have hk2 : loopP 8 gk { mq0 8 with id := (i : Int), wishes := l ++ [(y, (x.toNat : Int))] } s2 = fin := by
        have := hk.out
        unfold loopP at this
        rw [if_pos hm, if_pos rfl, e1] at this
        dsimp only at this
        rw [e2] at this
        exact this
      have hg2 : s2.2 = false → s2.1.length + 3 ≤ s'.1.length := by
        intro h
        have h3 := oneP_good s3 (by rw [e2]; exact h)
        rw [e2] at h3
        have h4 := textP_good s' (by rw [e1]; exact h3.1)
        rw [e1] at h4
        have := h3.2
        have := h4.2
        dsimp only at *
        omega
      have hgk2 : 0 < gk ∧ (s2.2 = false → s2.1.length < gk) := by
        have := hl2 hm.1
        exact ⟨by omega, fun h => by have := hg2 h; omega⟩
      have HK := Lib.hid hk2
      have HGK := Lib.hid hgk2
      obtain ⟨A, c, rfl, _, _⟩ := own_shape hO.out
      have hgW := HgW.out
      have hlm : l.length + 1 ≤ maxLen := by unfold maxLen; omega
      have hlb : (l.length + 1) * 24 ≤ 140737488355328 := by omega
      have c0 := hC.out.get 0 _ rfl
      have HR := Lib.hid hR
      have HGr := Lib.hid hG
      clear hMore hk hk2 hg2 hgk2 hgk hl2 hm hR hG
      go_wp2_with (go_at_call 164; (with_reducible refine KM.out.mono ?_); rintro _ w' ⟨rfl, rfl⟩)
      clear KM
      go_wp2_with (go_at_call 141; (with_reducible refine (packTextQ B g _ e1 _ HR.out).mono ?_); rintro _ w5 ⟨rfl, hR5, hg5⟩)
      have HC5 := Lib.hid (hC.out.kept hg5 hL (by simpa using HNe.out))
      have c22 := HC5.out.get 22 _ rfl
      have HO5 := Lib.hid (hO.out.kept hg5 (Or.inr (Ne.symm (own_ne hO.out (Or.inl hgW)))))
      have hW5 := Nat.le_trans hW hg5.size
      have hL5 := Nat.lt_of_lt_of_le hL hg5.size
      have HR5 := Lib.hid hR5
      have HG5 := Lib.hid (HGr.out.trans hg5)
      clear hR5 hg5 hW hL HR HGr
      go_region_law
        (first
          | (go_simp; go_at_call 140; (with_reducible refine (packOneQ B g _ e2 _ HR5.out.drew).mono ?_); rintro _ w2 ⟨rfl, hR2, hg2⟩; replace hg2 := of_drew_grown hg2; have HC2 := Lib.hid (HC5.out.kept hg2 hL5 (by simpa using HNe.out)); have c22' := HC2.out.get 22 _ rfl; have HO2 := Lib.hid (HO5.out.kept hg2 (Or.inr (Ne.symm (own_ne HO5.out (Or.inl hgW))))); have hW2 := Nat.le_trans hW5 hg2.size; have hL2 := Nat.lt_of_lt_of_le hL5 hg2.size)
          | (refine step_append_row rfl _ _ 46 rfl w.heap.size 161 (.agg #[.string ⟨#[]⟩, .int .i64 0]) 2 24 Tryz.underlying46 info_wish rfl (by decide) _ _ (wv l) (by exact rfl) (HO2.out.alloc _) _ 1 1 (wv [(y, (x.toNat : Int))]) (by exact rfl) (Reads.lit w2 161 (wv [(y, (x.toNat : Int))]) (0, 0) 2 1 rfl) (one_wv _) hlm hlb (Nat.le_trans hW2 (balloc _ _).size) ?_; intro A3 c3 w3 hO3 hg3; have HC3 := Lib.hid ((HC2.out.alloc hL2 _).kept hg3 (Nat.lt_trans hL2 (lt_alloc _ _)) (own_ne HO2.out (Or.inl HLW.out))); have c22'' := HC3.out.get 22 _ rfl; have f22'' := HC3.out.fr 22 rfl))
      all_goals
        have hL3 := Nat.lt_of_lt_of_le (Nat.lt_trans hL2 (lt_alloc w2 (.cells (wv [(y, (x.toNat : Int))]).toArray 161))) hg3.size
        have hW3 := Nat.le_trans hW2 (Nat.le_trans (Nat.le_of_lt (lt_alloc w2 (.cells (wv [(y, (x.toNat : Int))]).toArray 161))) hg3.size)
        have hG3 : w0.grownBy w3 (some g) := grown_row_of (HG5.out.trans hg2) HO2.out (Nat.le_trans HP.out (Nat.le_of_lt HLW.out)) _ hg3
        have hR3 : RdAt w3 B g s2 := hR2.row_of HO2.out HgW.out _ hg3
        have HO3 := Lib.hid hO3
        clear hO3
        go_wp2_with fail
        go_roundg gk
        case measure => omega
        case rel =>
          refine ⟨l ++ [(y, (x.toNat : Int))], s2, .slice A3 (l.length + 1) c3, hR3.store (a := ⟨gp, 22, none⟩) HBp.out HNe.out _, grown_store hG3 (a := ⟨gp, 22, none⟩) HP.out _, lt_set hL3 _ _, by rw [size_setCell']; exact hW3, ?_, ?_, HK.out, HGK.out.1, HGK.out.2, ?_⟩
          · exact HC3.out.set 22 _ (by simp)
          · have := ownsRow_setCell_below HO3.out (a := ⟨gp, 22, none⟩) HLW.out (.slice A3 (l.length + 1) c3)
            unfold Hid
            rw [wv_append, List.length_append]
            exact this
          · simp; omega
    · have hMore : (!s'.2 && decide (0 < s'.1.length)) = false := by
        rw [Bool.and_eq_false_iff]
        by_cases h : s'.2 = false
        · exact Or.inr (decide_eq_false fun h0 => hm ⟨h, h0⟩)
        · exact Or.inl (by simpa using h)
      rw [hMore] at KM
      obtain ⟨gk, rfl⟩ : ∃ n, gk = n + 1 := ⟨gk - 1, by omega⟩
      have hk2 := hk.out
      unfold loopP at hk2
      rw [if_neg hm] at hk2
      have HK := Lib.hid hk2
      clear hk hk2 hm hMore
      go_wp2_with (go_at_call 164; (with_reducible refine KM.out.mono ?_); rintro _ w' ⟨rfl, rfl⟩)
      refine bodyPost_end (results_none rfl _ _ _) rfl ?_
      rw [← HK.out]
      exact ⟨rfl, hR, hG, hL, nilV, vc, nilV, hC.out, World.ownsRow_nil _ _ _ _, hO.out, World.ownsRow_nil _ _ _ _⟩

end Go.Proofs.YtlacidnnankjlaaGreatDoor

/-
  Package pack's reader: packet.
-/
namespace Go.Proofs.YtlacidnnankjlaaGreatDoor
open Go.RowKit

/-- a packet's three lists, rows of the call's own. -/
def Rows3 (w : World) (base : Nat) (m : Mq) (vc vw vf : Value) : Prop :=
  w.ownsRow base 3 1 vc m.codes.length (m.codes.map iv) ∧ w.ownsRow base 161 2 vw m.wishes.length (wv m.wishes) ∧ w.ownsRow base 9 1 vf m.filters.length (m.filters.map sv)
/-- behind the switch of 'packet'. -/
def PkMid (w wx : World) (B g : Nat) (r : Mq × Rd) : Prop :=
  RdAt wx B g r.2 ∧ w.grownBy wx (some g) ∧ w.heap.size + 1 < wx.heap.size ∧ Cells wx w.heap.size (mqCells (mq0 0) nilV nilV nilV) ∧
    ∃ vc vw vf, Cells wx (w.heap.size + 1) (mqCells r.1 vc vw vf) ∧ Rows3 wx (w.heap.size + 2) r.1 vc vw vf
/-- what 'packet' leaves. -/
def Packed (w : World) (B g : Nat) (r : Mq × Rd) (e : Ending) (w' : World) : Prop :=
  ∃ vc vw vf, e = .returned (.agg (mqCells r.1 vc vw vf).toArray) ∧ RdAt w' B g r.2 ∧ w.grownBy w' (some g) ∧ Rows3 w' w.heap.size r.1 vc vw vf

theorem shr1 (f : UInt8) : bits BinOp.and IntKind.i64 ((f.toNat : Int) / 2) 3 = ((f >>> 1 &&& 3).toNat : Int) := by
  have h := f.toNat_lt
  have e : (f.toNat : Int) / 2 = ((f.toNat / 2 : Nat) : Int) := by omega
  rw [e]
  have := i64_and_nat (f.toNat / 2) 3 (by omega) (by omega)
  rw [show ((3 : Nat) : Int) = 3 from rfl] at this
  rw [this]
  congr 1

theorem own_one {w : World} {base : Nat} {e : TypeId} {size n : Nat} {v : Value} {xs : List Value} (h : w.ownsRow base e size v n xs) : v.oneCell' = true := by
  obtain ⟨A, c, rfl, _, _⟩ := own_shape h
  rfl
theorem mq_one (m : Mq) {vc vw vf : Value} (h1 : vc.oneCell' = true) (h2 : vw.oneCell' = true) (h3 : vf.oneCell' = true) : (mqCells m vc vw vf).all (·.oneCell') = true := by
  simp [List.all, h1, h2, h3]
  exact ⟨rfl, rfl, rfl, rfl, rfl, rfl, rfl, rfl, rfl, rfl, rfl, rfl, rfl, rfl, rfl, rfl, rfl, rfl, rfl, rfl, rfl⟩
theorem RdAt.below {w w' : World} {B g : Nat} {s : Rd} (h : RdAt w B g s) (hb : Below w.heap.size w w') : RdAt w' B g s := h.kept (below_grown hb none) (by simp) (by simp)
theorem RdAt.lts {w : World} {B g : Nat} {s : Rd} (h : RdAt w B g s) : B ≤ g ∧ g < w.heap.size := by obtain ⟨_, _, _, _, _, _, _, _, h, h'⟩ := h; exact ⟨h, h'⟩
theorem pk_start {w w1 w2 w3 : World} {B g : Nat} {s : Rd} {l : List Value} (hR : RdAt w B g s) (hb1 : Below w.heap.size w w1) (hs1 : w1.heap.size = w.heap.size + 1) (hb2 : Below (w.heap.size + 1) w1 w2) (hs2 : w2.heap.size = w.heap.size + 1 + 1)
    (hg3 : w2.grownBy w3 (some (w.heap.size + 1))) (hs3 : w3.heap.size = w2.heap.size) (hC3 : Cells w3 (w.heap.size + 1) l) :
    RdAt w3 B g s ∧ w1.grownBy w3 (some g) ∧ w1.heap.size ≤ w.heap.size + 1 ∧ B ≤ w.heap.size + 1 ∧ w.heap.size + 1 ≠ g ∧ w.heap.size + 1 < w3.heap.size ∧ Cells w3 (w.heap.size + 1) l ∧ w3.heap.size = w.heap.size + 2 := by
  have hb2' : Below w1.heap.size w1 w2 := by rw [hs1]; exact hb2
  have hB := hR.lts
  have hR2 := (hR.below hb1).below hb2'
  refine ⟨hR2.kept hg3 (fun k hk => by injection hk with hk; omega) (by intro e; injection e with e; omega), ?_, by omega, by omega, by omega, by omega, hC3, by omega⟩
  exact grown_mix (below_grown hb2' (some g)) hg3 (fun k hk => by injection hk with hk; omega)
theorem pk_mid {w w1 wx : World} {B g : Nat} {r : Mq × Rd} {s' : Rd} {l : List Value} {vc vw vf : Value} (hb1 : Below w.heap.size w w1) (hs1 : w1.heap.size = w.heap.size + 1) (hC1 : Cells w1 w.heap.size (mqCells (mq0 0) nilV nilV nilV)) (hg : g < w.heap.size)
    (hR : RdAt wx B g s') (hC : Cells wx (w.heap.size + 1) l) (hG : w1.grownBy wx (some g)) (hL : w.heap.size + 1 < wx.heap.size) (he : s' = r.2) (hl : l = mqCells r.1 vc vw vf) (hrows : Rows3 wx (w.heap.size + 2) r.1 vc vw vf) : PkMid w wx B g r := by
  subst he hl
  exact ⟨hR, (below_grown hb1 (some g)).trans hG, hL, hC1.kept hG (by omega) (by intro e; injection e with e; omega), vc, vw, vf, hC, hrows⟩
theorem rows_nil (w : World) (base : Nat) {m : Mq} (h1 : m.codes = []) (h2 : m.wishes = []) (h3 : m.filters = []) : Rows3 w base m nilV nilV nilV := by
  unfold Rows3
  rw [h1, h2, h3]
  exact ⟨World.ownsRow_nil _ _ _ _, World.ownsRow_nil _ _ _ _, World.ownsRow_nil _ _ _ _⟩
theorem pk_end {w wx w4 : World} {B g : Nat} {r : Mq × Rd} {vc vw vf : Value} (hR : RdAt wx B g r.2) (hG : w.grownBy wx (some g)) (hg : g ≠ w.heap.size) (hB : B ≤ w.heap.size) (hrows : Rows3 wx (w.heap.size + 2) r.1 vc vw vf)
    (h4 : wx.grownBy w4 (some w.heap.size)) : Packed w B g r (.returned (.agg (mqCells r.1 vc vw vf).toArray)) w4 := by
  obtain ⟨r1, r2, r3⟩ := hrows
  have k : ∀ {e : TypeId} {size n : Nat} {v : Value} {xs : List Value}, wx.ownsRow (w.heap.size + 2) e size v n xs → w4.ownsRow w.heap.size e size v n xs := fun h =>
    own_base (h.kept h4 (Or.inr (Ne.symm (own_ne h (Or.inl (by omega)))))) (by omega)
  exact ⟨vc, vw, vf, rfl, hR.kept h4 (fun k hk => by injection hk with hk; omega) (by intro e; injection e with e; exact hg e), grown_mix hG h4 (fun k hk => by injection hk with hk; omega), k r1, k r2, k r3⟩

theorem u8_is_one (x : UInt8) : ((x.toNat : Int) == 1) = (x == 1) := by
  by_cases h : x = 1
  · subst h; rfl
  · have a : (x == 1) = false := by simpa using h
    rw [a, beq_eq_false_iff_ne]
    intro e
    exact h ((byte_eq x 1).1 e)
theorem textP_le (s : Rd) : (textP s).2.1.length ≤ s.1.length := Nat.le_trans (takeP_le (twoP s).2 _) (twoP_le s)

theorem shr_1 (u : Int) (x y : Operand) (w : World) : (do eqGuard .shr 3 x y (.int .i64 u) (.int .u64 1); binOp .shr 3 (.int .i64 u) (.int .u64 1) : Sem Value).run Tryz.prog w = .ok (.int .i64 (u / 2)) w := by
  simp [go_sem]
theorem packLists (k : Int) (hk : listKind k = true) (B g gp : Nat) (s : Rd) (hs : s.1.length ≤ 1000000) (w0 w : World) (hR : RdAt w B g s) (hC : Cells w gp (mqCells (mq0 k) nilV nilV nilV)) (hG : w0.grownBy w (some g)) (hp : w0.heap.size ≤ gp) (hB : B ≤ gp) (hne : gp ≠ g) (hlt : gp < w.heap.size) :
    Calls Tryz.prog 144 #[.pointer (some ⟨g, 0, none⟩), .pointer (some ⟨gp, 0, none⟩)] w (Listed w0 B g gp w.heap.size (loopP k ((twoP s).2.1.length + 1) { mq0 k with id := ((twoP s).1 : Int) } (twoP s).2)) := by
  unfold listKind at hk
  simp only [Bool.or_eq_true, beq_iff_eq] at hk
  rcases hk with rfl | rfl | rfl
  · exact packLists8 B g gp s hs w0 w hR hC hG hp hB hne hlt
  · exact packLists9 B g gp s hs w0 w hR hC hG hp hB hne hlt
  · exact packLists10 B g gp s hs w0 w hR hC hG hp hB hne hlt
set_option maxRecDepth 100000 in
set_option maxHeartbeats 3200000 in
theorem packPacket (B g : Nat) (s : Rd) (k : Int) (f : UInt8) (hs : s.1.length ≤ 1000000) (w : World) (hR : RdAt w B g s) :
    Calls Tryz.prog 122 #[.pointer (some ⟨g, 0, none⟩), .int .i64 k, .int .i64 (f.toNat : Int)] w (Packed w B g (readP k f s)) := by
  have hlts := hR.lts
  go_enter Tryz.func122, Tryz.ntmps122
  refine Has.start 72 [(0, .pointer (some ⟨g, 0, none⟩)), (1, .int .i64 k), (2, .int .i64 (f.toNat : Int))] rfl rfl ⟨rfl, rfl, rfl, trivial⟩ ?_
  intro a0 H0
  refine rl ?_
  refine H0.alloc rfl rfl rfl rfl _ zero_mq ?_
  intro a1 w1 hb1 hs1 hC1 H1
  refine nt ?_
  refine H1.rg 1 fun a2 H2 => ?_
  refine H2.any (w' := w1) gz rfl rfl (.agg (mqCells (mq0 k) nilV nilV nilV).toArray) (by intro cs b h; cases h) (by kernel_rfl) (by kernel_rfl) fun a3 H3 => ?_
  refine H3.alloc rfl rfl rfl rfl _ zero_mq ?_
  intro a4 w2 hb2 hs2 hC2 H4
  refine H4.storeS rfl rfl rfl rfl rfl hC2 size_mq rfl rfl rfl ?_
  intro a5 w3 H5 hg3 hs3 hC3
  refine nt ?_
  rw [hs1] at hb2 hs2 hg3 hC3 H5
  obtain ⟨p1, p2, p3, p4, p5, p6, p7, p8⟩ := pk_start hR hb1 hs1 hb2 hs2 hg3 hs3 hC3
  have R3 : Rst w1 B g (w.heap.size + 1) s (mqCells (mq0 k) nilV nilV nilV) w3 := ⟨p1, p7, p2, p3, p4, p5, p6⟩
  have hM := fun (r : Mq × Rd) wx (s' : Rd) l vc vw vf => fun (R : Rst w1 B g (w.heap.size + 1) s' l wx) => pk_mid (w := w) (w1 := w1) (wx := wx) (r := r) (vc := vc) (vw := vw) (vf := vf) hb1 hs1 hC1 hlts.2 R.rd R.ce R.gr R.lt
  refine wp_seq_join (fun a w' => Has a 72 [(6, .pointer (some ⟨w.heap.size, 0, none⟩)), (7, .pointer (some ⟨w.heap.size + 1, 0, none⟩))] ∧ PkMid w w' B g (readP k f s)) ?_ ?_
  · refine H5.rg 1 fun a6 H6 => nt ?_
    have H7 := H6.keep (l' := [(0, .pointer (some ⟨g, 0, none⟩)), (2, .int .i64 (f.toNat : Int)), (6, .pointer (some ⟨w.heap.size, 0, none⟩)), (7, .pointer (some ⟨w.heap.size + 1, 0, none⟩)), (10, .int .i64 k)]) ⟨rfl, rfl, rfl, rfl, rfl, trivial⟩
    clear hb2 hs2 hg3 hC3 hC2 H6 H5 H4 H3 H2 H1 H0 p1 p2 p3 p4 p5 p6 p7
    refine wp_block ?_
    refine H7.rg 0 fun a1 H1 => ?_
    refine H1.bn 1 (eql_i _ _ _ _ _) fun a2 H2 => nt ?_
    refine H2.cond (t := k == 1) rfl ?_
    cases b1 : (k == 1) with
    | true =>
      have k1 : k = 1 := by simpa using b1
      subst k1
      refine H2.rg 1 fun a3 H3 => ?_
      refine H3.cl (R := fun _ w' => RdAt w' B g (connP s).s ∧ Cells w' (w.heap.size + 1) (mqCells (connP s).mq nilV nilV nilV) ∧ w1.grownBy w' (some g) ∧ w.heap.size + 1 < w'.heap.size) ((packConn B g _ s w1 w3 R3.rd R3.ce R3.gr R3.ge R3.hB R3.ne R3.lt).mono fun _ _ h => ⟨_, h.1, h.2⟩) ?_
      rintro a4 v4 w4 ⟨h1, h2, h3, h4⟩ H4
      refine wpList_nil (block_normal (then_normal ⟨H4.keep ⟨rfl, rfl, trivial⟩, ?_⟩))
      exact hM _ _ _ _ nilV nilV nilV ⟨h1, h2, h3, R3.ge, R3.hB, R3.ne, h4⟩ rfl rfl (rows_nil _ _ rfl rfl rfl)
    | false =>
    refine H2.rg 0 fun a1 H1 => ?_
    refine H1.bn 1 (eql_i _ _ _ _ _) fun a2 H2 => nt ?_
    refine H2.cond (t := k == 2) rfl ?_
    cases b2 : (k == 2) with
    | true =>
      have k1 : k = 2 := by simpa using b2
      subst k1
      refine H2.rg 1 fun a3 H3 => ?_
      refine H3.rc R3 0 (packOne B g _ _ R3.rd) fun a4 w4 R4 H4 => ?_
      refine H4.bn 1 (eql_i _ _ _ _ _) fun a5 H5 => ?_
      refine H5.sb R4 0 fun a6 w6 R6 H6 => nt ?_
      refine H6.rg 1 fun a7 H7 => ?_
      refine H7.rc R6 1 (packOne B g _ _ R6.rd) fun a8 w8 R8 H8 => ?_
      refine H8.si R8 0 fun a9 w9 R9 H9 => ?_
      refine wpList_nil <| block_normal <| then_normal ⟨H9.keep ⟨rfl, rfl, trivial⟩, ?_⟩
      exact hM _ _ _ _ nilV nilV nilV R9 rfl (by rw [u8_is_one]; rfl) (rows_nil _ _ rfl rfl rfl)
    | false =>
    refine H2.rg 0 fun a1 H1 => ?_
    refine H1.bn 1 (eql_i _ _ _ _ _) fun a2 H2 => nt ?_
    refine H2.cond (t := k == 3) rfl ?_
    cases b3 : (k == 3) with
    | true =>
      have k1 : k = 3 := by simpa using b3
      subst k1
      refine H2.rg 1 fun a3 H3 => ?_
      refine H3.bn 0 (and_i _ _ _ _ _) fun a4 H4 => ?_
      refine H4.bn 1 (bit_i f 8 (by omega) _ _ _) fun a5 H5 => ?_
      refine H5.bn 0 (shr_1 _ _ _ _) fun a6 H6 => ?_
      refine H6.bn 1 (and_i _ _ _ _ _) fun a7 H7 => ?_
      refine H7.bn 0 (and_i _ _ _ _ _) fun a8 H8 => ?_
      refine H8.bn 1 (bit_i f 1 (by omega) _ _ _) fun a9 H9 => ?_
      refine H9.sb R3 1 fun b1 x1 R4 H10 => ?_
      refine H10.si R4 1 fun b2 x2 R5 H11 => ?_
      refine H11.sb R5 0 fun b3 x3 R6 H12 => nt ?_
      refine H12.rg 1 fun b4 H13 => ?_
      refine H13.rc R6 1 (packTextR B g _ _ R6.rd) fun b5 x5 R7 H14 => ?_
      refine H14.ss R7 0 fun b6 x6 R8 H15 => nt ?_
      obtain ⟨q, hq⟩ : ∃ q, (f >>> 1 &&& 3 != 0) = q := ⟨_, rfl⟩
      obtain ⟨s2, e2⟩ : ∃ s2, (if (f >>> 1 &&& 3 != 0) then (twoP (textP s).2).2 else (textP s).2) = s2 := ⟨_, rfl⟩
      have R9 := R8.is (L' := mqCells { mq0 3 with dup := bitB f 8, qos := ((f >>> 1 &&& 3).toNat : Int), retain := bitB f 1, topic := (textP s).1 } nilV nilV nilV) (by rw [shr1]; rfl) rfl
      have hq3 : (decide ((0 : Int) < ((f >>> 1 &&& 3).toNat : Int))) = q := by
        rw [← hq, Bool.eq_iff_iff, decide_eq_true_iff, bne_iff_ne]
        constructor
        · intro h e; rw [e] at h; exact absurd h (by decide)
        · intro h
          have : (f >>> 1 &&& 3).toNat ≠ 0 := fun e => h (UInt8.toNat_inj.1 e)
          omega
      refine wp_seq_join (fun a w' => Has a 72 [(0, .pointer (some ⟨g, 0, none⟩)), (6, .pointer (some ⟨w.heap.size, 0, none⟩)), (7, .pointer (some ⟨w.heap.size + 1, 0, none⟩))] ∧ Rst w1 B g (w.heap.size + 1) s2 (mqCells { mq0 3 with dup := bitB f 8, qos := ((f >>> 1 &&& 3).toNat : Int), retain := bitB f 1, topic := (textP s).1, id := (if (f >>> 1 &&& 3 != 0) then ((twoP (textP s).2).1 : Int) else 0) } nilV nilV nilV) w') ?_ ?_
      · refine H15.rg 1 fun c1 H16 => ?_
        refine H16.ld 0 (R9.li 17) fun c2 H17 => ?_
        refine H17.bn 0 (gtr_i _ _ q hq3 _ _ _) fun c3 H18 => nt ?_
        refine H18.cond rfl ?_
        rw [hq] at e2 ⊢
        cases q with
        | true =>
          rw [if_pos rfl] at e2
          refine H18.rg 1 fun c4 H19 => ?_
          refine H19.rc R9 1 (packTwoR B g _ _ R9.rd) fun c5 y5 R10 H20 => ?_
          refine H20.si R10 0 fun c6 y6 R11 H21 => nt ?_
          exact ⟨H21.keep ⟨rfl, rfl, rfl, trivial⟩, R11.is rfl e2⟩
        | false =>
          rw [if_neg (by decide)] at e2
          exact skip_wp (then_normal ⟨H18.keep ⟨rfl, rfl, rfl, trivial⟩, R9.is rfl e2⟩)
      clear R3 R4 R5 R6 R7 R8 R9 H1 H2 H3 H4 H5 H6 H7 H8 H9 H10 H11 H12 H13 H14 H15
      rintro a0 w0 ⟨H0, R0⟩
      obtain ⟨A, c, hcl, c0, c1, _, _, hrb, _, _⟩ := R0.rd
      refine H0.rg 3 fun a1 H1 => ?_
      refine H1.go gz rfl rfl _ (run_field rfl (H1.ev rfl) (off0 := 0) (off := 0) (fun g w => by kernel_rfl)) fun a2 H2 => ?_
      refine H2.ld 0 (load1_31 _ _ _ _ _ _ c0) fun a3 H3 => ?_
      refine H3.len gz rfl rfl rfl rfl Tryz.underlying31 fun a4 H4 => ?_
      have hle : s2.1.length ≤ 1000000 := by
        rw [← e2]
        have h1 := textP_le s
        have h2 := twoP_le (textP s).2
        split <;> omega
      refine H4.cl (R := fun v w' => ∃ A' c', v = .slice A' s2.1.length c' ∧ (takeP s2 s2.1.length).1.length = s2.1.length ∧ RB w' w'.heap.size A' (takeP s2 s2.1.length).1 ∧ RdAt w' B g (takeP s2 s2.1.length).2 ∧ w0.grownBy w' (some g)) ((packTake B g s2 s2.1.length _ rfl hle w0 R0.rd).mono ?_) ?_
      · rintro _ _ ⟨A', c', rfl, _, h1, h2, h3, h4⟩
        exact ⟨_, rfl, A', c', rfl, h1, h2, h3, h4⟩
      rintro a5 _ w5 ⟨A', c', rfl, h1, h2, h3, h4⟩ H5
      have R5 := R0.call h3 h4
      refine H5.cv 1 (run_string_of Tryz.underlying31 Tryz.underlying5 Tryz.underlying9 h2 h1 c') fun a6 H6 => ?_
      refine H6.ss R5 0 fun a7 w7 R7 H7 => ?_
      refine wpList_nil <| block_normal <| then_normal ⟨H7.keep ⟨rfl, rfl, trivial⟩, ?_⟩
      refine hM _ _ _ _ nilV nilV nilV R7 ?_ ?_ (rows_nil _ _ rfl rfl rfl)
      · subst e2; rfl
      · subst e2; rfl
    | false =>
    have n1 := kind_not b1
    have n2 := kind_not b2
    have n3 := kind_not b3
    refine wp_seq_join (fun a w' => Has a 72 [(0, .pointer (some ⟨g, 0, none⟩)), (6, .pointer (some ⟨w.heap.size, 0, none⟩)), (7, .pointer (some ⟨w.heap.size + 1, 0, none⟩)), (10, .int .i64 k), (56, .bool (listKind k))] ∧ w3 = w') ?_ ?_
    · refine H2.rg 0 fun a1 H1 => ?_
      refine H1.bn 1 (eql_i _ _ _ _ _) fun a2 H2 => nt ?_
      refine H2.cond (t := k == 8) rfl ?_
      cases c1 : (k == 8) with
      | true => exact skip_wp (then_normal ⟨H2.keep ⟨rfl, rfl, rfl, rfl, congrArg (fun b => some (Value.bool b)) (by unfold listKind; rw [c1]; rfl), trivial⟩, rfl⟩)
      | false =>
      refine H2.rg 0 fun a1 H1 => ?_
      refine H1.bn 1 (eql_i _ _ _ _ _) fun a2 H2 => nt ?_
      refine H2.cond (t := k == 9) rfl ?_
      cases c2 : (k == 9) with
      | true => exact skip_wp (then_normal ⟨H2.keep ⟨rfl, rfl, rfl, rfl, congrArg (fun b => some (Value.bool b)) (by unfold listKind; rw [c1, c2]; rfl), trivial⟩, rfl⟩)
      | false =>
      refine H2.rg 0 fun a1 H1 => ?_
      refine H1.bn 1 (eql_i _ _ _ _ _) fun a2 H2 => nt ?_
      exact ⟨H2.keep ⟨rfl, rfl, rfl, rfl, congrArg (fun b => some (Value.bool b)) (by unfold listKind; rw [c1, c2]; rfl), trivial⟩, rfl⟩
    clear H1 H2
    rintro a0 _ ⟨H0, rfl⟩
    refine H0.cond (t := listKind k) rfl ?_
    cases b4 : listKind k with
    | true =>
      refine H0.rg 1 fun a1 H1 => ?_
      refine H1.cl (R := fun _ w' => Listed w1 B g (w.heap.size + 1) w3.heap.size (loopP k ((twoP s).2.1.length + 1) { mq0 k with id := ((twoP s).1 : Int) } (twoP s).2) (.returned (.tuple #[])) w') ((packLists k b4 B g _ s hs w1 w3 R3.rd R3.ce R3.gr R3.ge R3.hB R3.ne R3.lt).mono fun _ _ h => ⟨_, h.1, rfl, h.2⟩) ?_
      rintro a4 v4 w4 ⟨_, h1, h2, h3, vc, vw, vf, h4, h5⟩ H4
      refine wpList_nil (block_normal (then_normal ⟨H4.keep ⟨rfl, rfl, trivial⟩, ?_⟩))
      rw [p8] at h5
      have hr : readP k f s = loopP k ((twoP s).2.1.length + 1) { mq0 k with id := ((twoP s).1 : Int) } (twoP s).2 := by unfold readP; rw [if_neg n1, if_neg n2, if_neg n3, if_pos b4]
      rw [hr]
      exact hM _ _ _ _ vc vw vf ⟨h1, h4, h2, R3.ge, R3.hB, R3.ne, h3⟩ rfl rfl h5
    | false =>
    refine wp_seq_join (fun a w' => Has a 72 [(0, .pointer (some ⟨g, 0, none⟩)), (6, .pointer (some ⟨w.heap.size, 0, none⟩)), (7, .pointer (some ⟨w.heap.size + 1, 0, none⟩)), (62, .bool (idKind k))] ∧ w3 = w') ?_ ?_
    · refine H0.rg 0 fun a1 H1 => ?_
      refine H1.bn 1 (eql_i _ _ _ _ _) fun a2 H2 => nt ?_
      refine H2.cond (t := k == 4) rfl ?_
      cases c1 : (k == 4) with
      | true => exact skip_wp (then_normal ⟨H2.keep ⟨rfl, rfl, rfl, congrArg (fun b => some (Value.bool b)) (by unfold idKind; rw [c1]; rfl), trivial⟩, rfl⟩)
      | false =>
      refine H2.rg 0 fun a1 H1 => ?_
      refine H1.bn 1 (eql_i _ _ _ _ _) fun a2 H2 => nt ?_
      refine H2.cond (t := k == 5) rfl ?_
      cases c2 : (k == 5) with
      | true => exact skip_wp (then_normal ⟨H2.keep ⟨rfl, rfl, rfl, congrArg (fun b => some (Value.bool b)) (by unfold idKind; rw [c1, c2]; rfl), trivial⟩, rfl⟩)
      | false =>
      refine H2.rg 0 fun a1 H1 => ?_
      refine H1.bn 1 (eql_i _ _ _ _ _) fun a2 H2 => nt ?_
      refine H2.cond (t := k == 6) rfl ?_
      cases c3 : (k == 6) with
      | true => exact skip_wp (then_normal ⟨H2.keep ⟨rfl, rfl, rfl, congrArg (fun b => some (Value.bool b)) (by unfold idKind; rw [c1, c2, c3]; rfl), trivial⟩, rfl⟩)
      | false =>
      refine H2.rg 0 fun a1 H1 => ?_
      refine H1.bn 1 (eql_i _ _ _ _ _) fun a2 H2 => nt ?_
      refine H2.cond (t := k == 7) rfl ?_
      cases c4 : (k == 7) with
      | true => exact skip_wp (then_normal ⟨H2.keep ⟨rfl, rfl, rfl, congrArg (fun b => some (Value.bool b)) (by unfold idKind; rw [c1, c2, c3, c4]; rfl), trivial⟩, rfl⟩)
      | false =>
      refine H2.rg 0 fun a1 H1 => ?_
      refine H1.bn 1 (eql_i _ _ _ _ _) fun a2 H2 => nt ?_
      exact ⟨H2.keep ⟨rfl, rfl, rfl, congrArg (fun b => some (Value.bool b)) (by unfold idKind; rw [c1, c2, c3, c4]; rfl), trivial⟩, rfl⟩
    clear H0
    rintro a0 _ ⟨H0, rfl⟩
    refine H0.cond (t := idKind k) rfl ?_
    have hr : readP k f s = if idKind k then ({ mq0 k with id := ((twoP s).1 : Int) }, (twoP s).2) else (mq0 k, s) := by unfold readP; rw [if_neg n1, if_neg n2, if_neg n3, if_neg (by rw [b4]; decide)]
    rw [hr]
    cases b5 : idKind k with
    | true =>
      refine H0.rg 1 fun a1 H1 => ?_
      refine H1.rc R3 1 (packTwoR B g _ _ R3.rd) fun a2 w4 R4 H2 => ?_
      refine H2.si R4 0 fun a3 w5 R5 H3 => ?_
      refine wpList_nil (block_normal (then_normal ⟨H3.keep ⟨rfl, rfl, trivial⟩, ?_⟩))
      exact hM _ _ _ _ nilV nilV nilV R5 rfl rfl (rows_nil _ _ rfl rfl rfl)
    | false =>
      refine skip_wp (block_normal (then_normal ⟨H0.keep ⟨rfl, rfl, trivial⟩, ?_⟩))
      exact hM _ _ _ _ nilV nilV nilV R3 rfl rfl (rows_nil _ _ rfl rfl rfl)
  clear hM R3 H5
  rintro a0 w4 ⟨H0, hR4, hG, hL, hC0, vc, vw, vf, hC, hrows⟩
  refine H0.rg 0 fun a1 H1 => ?_
  refine H1.loadS rfl rfl rfl rfl rfl hC Tryz.underlying49 rfl size_mq rfl fun a2 H2 => ?_
  refine H2.storeS rfl rfl rfl rfl rfl hC0 size_mq rfl rfl (mq_one _ (own_one hrows.1) (own_one hrows.2.1) (own_one hrows.2.2)) fun a3 w5 H3 hg5 hs5 hC5 => ?_
  refine nt (wp_ret (bodyPost_ret (results_cells rfl _ _ (H3.at_ 6 _ rfl) hC5 Tryz.underlying49 rfl 24 size_mq rfl) H3.df ?_))
  exact pk_end hR4 hG (by omega) (by omega) hrows hg5
end Go.Proofs.YtlacidnnankjlaaGreatDoor

/-
  What both parsers need: slices of the bytes, bytes.Equal, a packet's rows as its lists, what is read is small.
-/
namespace Go.Proofs.YtlacidnnankjlaaGreatDoor
open Go.RowKit

section
variable {P : Program} {o : Oper} {a : Act} {w : World}
end
theorem neq_35 (u v : Int) (b : Bool) (h : (u != v) = b) (x y : Operand) (w : World) : (do eqGuard .neq 27 x y (.int .i64 u) (.int .i64 v); binOp .neq 27 (.int .i64 u) (.int .i64 v) : Sem Value).run Tryz.prog w = .ok (.bool b) w := by
  rw [← h]
  simp [go_sem]
set_option maxRecDepth 100000 in
theorem bytesEq (xs ys : List UInt8) (u v : Value) (w : World) (hu : BytesAre xs u w) (hv : BytesAre ys v w) :
    Calls Tryz.prog 123 #[u, v] w fun e w' => e = .returned (.bool (decide (xs = ys))) ∧ w = w' := by
  obtain ⟨A, c, rfl, hx⟩ := hu
  obtain ⟨B, d, rfl, hy⟩ := hv
  go_enter Tryz.func123, Tryz.ntmps123
  refine Has.start 10 [(0, .slice A xs.length c), (1, .slice B ys.length d)] rfl rfl ⟨rfl, rfl, trivial⟩ ?_
  intro a0 H0
  refine H0.rg 1 fun a1 H1 => nt ?_
  refine H1.rg 1 fun a2 H2 => ?_
  refine H2.conv gz rfl rfl rfl rfl (run_string_of Tryz.underlying31 Tryz.underlying5 Tryz.underlying9 hx rfl c) ?_
  intro a3 H3
  refine H3.ms 1 fun a4 H4 => ?_
  refine H4.conv gz rfl rfl rfl rfl (run_string_of Tryz.underlying31 Tryz.underlying5 Tryz.underlying9 hy rfl d) ?_
  intro a5 H5
  refine H5.bn 1 (eql_s _ _ _ _ _) fun a7 H7 => nt ?_
  refine wp_ret ?_
  refine bodyPost_ret (results_tmp rfl _ _ _) H7.df ⟨?_, rfl⟩
  have e : ((mkS xs).toList == (mkS ys).toList) = decide (xs = ys) := by
    rw [Lib.toList_data, Lib.toList_data, Bool.eq_iff_iff, beq_iff_eq, decide_eq_true_eq]
  rw [← e]
  exact congrArg Ending.returned (H7.at_ 4 _ rfl)

/-! what is read is small -/
structure Small (m : Mq) : Prop where
  client : m.client.size ≤ 1000000
  wt : m.wt.size ≤ 1000000
  wp : m.wp.size ≤ 1000000
  user : m.user.size ≤ 1000000
  pass : m.pass.size ≤ 1000000
  topic : m.topic.size ≤ 1000000
  payload : m.payload.size ≤ 1000000
  wishes : ∀ s ∈ m.wishes, s.1.size ≤ 1000000
  filters : ∀ s ∈ m.filters, s.size ≤ 1000000
theorem Small.fit {m : Mq} (h : Small m) : MqFit m :=
  ⟨Nat.le_trans h.client (by decide), Nat.le_trans h.wt (by decide), Nat.le_trans h.wp (by decide), Nat.le_trans h.user (by decide), Nat.le_trans h.pass (by decide), Nat.le_trans h.topic (by decide), Nat.le_trans h.payload (by decide),
    fun s hs => Nat.le_trans (h.wishes s hs) (by decide), fun s hs => Nat.le_trans (h.filters s hs) (by decide)⟩
theorem nosz : nos.size ≤ 1000000 := by decide
theorem small0 (k : Int) : Small (mq0 k) := ⟨nosz, nosz, nosz, nosz, nosz, nosz, nosz, (fun s hs => by cases hs), (fun s hs => by cases hs)⟩
/-- what a reader reads as text is small. -/
def Shorts (text : Rd → ByteArray × Rd) : Prop := ∀ s, (text s).1.size ≤ 1000000
theorem mkS_size (xs : List UInt8) : (mkS xs).size = xs.length := by simp [ByteArray.size]
theorem takeP_length (s : Rd) (n : Nat) : (takeP s n).1.length = n := by unfold takeP; split <;> simp <;> omega
theorem shortsP : Shorts textP := by
  intro s
  unfold textP
  rw [mkS_size, takeP_length]
  have := twoP_lt s
  omega
theorem small_conn {one : Rd → UInt8 × Rd} {two : Rd → Nat × Rd} {text : Rd → ByteArray × Rd} (h : Shorts text) (s : Rd) : Small (connOf one two text s).mq := by
  unfold connOf
  simp only [Conn.mq]
  refine ⟨h _, ?_, ?_, ?_, ?_, nosz, nosz, (fun s hs => by cases hs), (fun s hs => by cases hs)⟩
  all_goals (simp only []; split <;> first | exact h _ | exact nosz)
theorem small_loopP (k : Int) : ∀ (f : Nat) (m : Mq) (s : Rd), Small m → Small (loopP k f m s).1 := by
  intro f
  induction f with
  | zero => intro m s h; exact h
  | succ f ih =>
    intro m s h
    rw [loopP]
    split
    · split
      · refine ih _ _ ⟨h.client, h.wt, h.wp, h.user, h.pass, h.topic, h.payload, fun x hx => ?_, h.filters⟩
        rcases List.mem_append.1 hx with hx | hx
        · exact h.wishes x hx
        · simp only [List.mem_singleton] at hx
          subst hx
          exact shortsP _
      · split
        · exact ih _ _ ⟨h.client, h.wt, h.wp, h.user, h.pass, h.topic, h.payload, h.wishes, h.filters⟩
        · refine ih _ _ ⟨h.client, h.wt, h.wp, h.user, h.pass, h.topic, h.payload, h.wishes, fun x hx => ?_⟩
          rcases List.mem_append.1 hx with hx | hx
          · exact h.filters x hx
          · simp only [List.mem_singleton] at hx
            subst hx
            exact shortsP _
    · exact h
theorem takeP_left (s : Rd) (n : Nat) : (takeP s n).2.1.length ≤ s.1.length := by unfold takeP; split <;> simp
theorem small_readP (k : Int) (f : UInt8) (s : Rd) (h : s.1.length ≤ 1000000) : Small (readP k f s).1 := by
  unfold readP
  split
  · exact small_conn shortsP _
  · split
    · exact ⟨nosz, nosz, nosz, nosz, nosz, nosz, nosz, (fun s hs => by cases hs), (fun s hs => by cases hs)⟩
    · split
      · refine ⟨nosz, nosz, nosz, nosz, nosz, ?_, ?_, (fun s hs => by cases hs), (fun s hs => by cases hs)⟩
        · exact shortsP _
        · simp only [pubP, pubMq]
          rw [mkS_size, takeP_length]
          split
          · have h1 := takeP_left (oneP (oneP (textP s).2).2).2 0
            have h2 : (twoP (textP s).2).2.1.length ≤ (textP s).2.1.length := twoP_le _
            have h3 := textP_le s
            omega
          · have h3 := textP_le s
            omega
      · split
        · exact small_loopP _ _ _ _ ⟨nosz, nosz, nosz, nosz, nosz, nosz, nosz, (fun s hs => by cases hs), (fun s hs => by cases hs)⟩
        · split
          · exact ⟨nosz, nosz, nosz, nosz, nosz, nosz, nosz, (fun s hs => by cases hs), (fun s hs => by cases hs)⟩
          · exact small0 k
/-- how long the lists are. -/
def Lens (m : Mq) (n : Nat) : Prop := m.codes.length ≤ n ∧ m.wishes.length ≤ n ∧ m.filters.length ≤ n
theorem lens_loopP (k : Int) : ∀ (f : Nat) (m : Mq) (s : Rd) (n : Nat), Lens m n → Lens (loopP k f m s).1 (n + f) := by
  intro f
  induction f with
  | zero => intro m s n h; exact h
  | succ f ih =>
    intro m s n h
    rw [loopP]
    have up : ∀ m', Lens m' (n + 1) → ∀ s, Lens (loopP k f m' s).1 (n + (f + 1)) := fun m' h' s => by
      have := ih m' s (n + 1) h'
      rwa [show n + 1 + f = n + (f + 1) by omega] at this
    obtain ⟨a, b, c⟩ := h
    split
    · split
      · exact up _ ⟨by simp only []; omega, by simp only [List.length_append, List.length_singleton]; omega, by simp only []; omega⟩ _
      · split
        · exact up _ ⟨by simp only [List.length_append, List.length_singleton]; omega, by simp only []; omega, by simp only []; omega⟩ _
        · exact up _ ⟨by simp only []; omega, by simp only []; omega, by simp only [List.length_append, List.length_singleton]; omega⟩ _
    · exact ⟨Nat.le_trans a (by omega), Nat.le_trans b (by omega), Nat.le_trans c (by omega)⟩
theorem lens_readP (k : Int) (f : UInt8) (s : Rd) (h : s.1.length ≤ 1000000) : Lens (readP k f s).1 1000001 := by
  have z : ∀ m : Mq, m.codes = [] → m.wishes = [] → m.filters = [] → Lens m 1000001 := fun m a b c => ⟨by simp [a], by simp [b], by simp [c]⟩
  unfold readP
  split
  · exact z _ rfl rfl rfl
  · split
    · exact z _ rfl rfl rfl
    · split
      · exact z _ rfl rfl rfl
      · split
        · have h2 : (twoP s).2.1.length ≤ s.1.length := twoP_le _
          obtain ⟨a, b, c⟩ := lens_loopP k ((twoP s).2.1.length + 1) { mq0 k with id := ((twoP s).1 : Int) } (twoP s).2 0 ⟨Nat.zero_le _, Nat.zero_le _, Nat.zero_le _⟩
          exact ⟨by omega, by omega, by omega⟩
        · split
          · exact z _ rfl rfl rfl
          · exact z _ rfl rfl rfl
theorem MqL.of_rows {w : World} {b : Nat} {m : Mq} {vc vw vf : Value} (h : Rows3 w b m vc vw vf) {n : Nat} (hl : Lens m n) (hn : n ≤ 140737488351232) : MqL w w.heap.size m vc vw vf := by
  obtain ⟨h1, h2, h3⟩ := h
  obtain ⟨l1, l2, l3⟩ := hl
  obtain ⟨A1, c1, rfl, a1, _⟩ := own_shape h1
  obtain ⟨A2, c2, rfl, a2, _⟩ := own_shape h2
  obtain ⟨A3, c3, rfl, a3, _⟩ := own_shape h3
  exact ⟨A1, c1, A2, c2, A3, c3, rfl, rfl, rfl, a1, a2, a3, by omega, by omega, by omega, Reads.of_own h1, Reads.of_own h2, Reads.of_own h3⟩
end Go.Proofs.YtlacidnnankjlaaGreatDoor

/-
  pack.Parse.
-/
namespace Go.Proofs.YtlacidnnankjlaaGreatDoor
open Go.RowKit

/-- what a parser answers. -/
def ParseSaid (xs : List UInt8) (w : World) (e : Ending) (w' : World) : Prop :=
  ∃ m n er vc vw vf, Parsed xs m n er ∧ e = .returned (.tuple #[.agg (mqCells m vc vw vf).toArray, .int .i64 ((n : Nat) : Int), .int .i64 er]) ∧ (Rows3 w' w.heap.size m vc vw vf ∧ Lens m 1000001) ∧ Small m ∧ Below w.heap.size w w'
theorem none_rows (w : World) (b : Nat) (k : Int) : Rows3 w b (mq0 k) nilV nilV nilV ∧ Lens (mq0 k) 1000001 := ⟨rows_nil w b rfl rfl rfl, Nat.zero_le _, Nat.zero_le _, Nat.zero_le _⟩
theorem results_m2 {P : Program} {fn : Func} {p q r : Tmp} {T : TypeId} (h : fn.results = #[.cell p T, .tmp q, .tmp r]) (tmps : Array Value) {w : World} {g : Nat} {l : List Value} {d : TypeDesc} {u v : Value} (hp : tmps.getD p undef = .pointer (some ⟨g, 0, none⟩)) (hq : tmps.getD q undef = u) (hr : tmps.getD r undef = v) (hC : Cells w g l)
    (hu : P.underlying T = some d) (hd : d.isRow = true) {n : Nat} (hi : (P.info? T).map (·.size) = some n) (hl : l.length = n) : (results fn tmps).run P w = .ok (.tuple #[.agg l.toArray, u, v]) w := by
  rw [← hl] at hi
  have hp' : tmps[p]?.getD undef = .pointer (some ⟨g, 0, none⟩) := by simpa using hp
  have hq' : tmps[q]?.getD undef = u := by simpa using hq
  have hr' : tmps[r]?.getD undef = v := by simpa using hr
  simp [results, h, hp', hq', hr', asAddr, run_loadVar_mid w g 0 T l d hC.range hu hd hi]
theorem sizeGo_err : ∀ (f i n : Nat) (l : List UInt8) (er : Int), sizeGo f i n l = .error er → er = 7 ∨ er = 1 ∨ er = 2 := by
  intro f
  induction f with
  | zero => intro i n l er h; cases l <;> simp [sizeGo] at h <;> omega
  | succ f ih =>
    intro i n l er h
    cases l with
    | nil => simp [sizeGo] at h; omega
    | cons x r =>
      rw [sizeGo] at h
      split at h
      · split at h
        · injection h with h; omega
        · exact ih _ _ _ _ h
      · split at h
        · injection h with h; omega
        · split at h
          · injection h with h; omega
          · split at h
            · injection h with h; omega
            · cases h
theorem sizeD_err {xs : List UInt8} {er : Int} (h : sizeD xs = .error er) : (er != 0) = true := by
  have : er = 7 ∨ er = 1 ∨ er = 2 := by
    cases xs with
    | nil => injection h with h; omega
    | cons x r => exact sizeGo_err _ _ _ _ _ h
  rw [bne_iff_ne]
  omega
theorem parsed_err {xs : List UInt8} {er : Int} (h : sizeD xs = .error er) : Parsed xs (mq0 0) 0 er := by
  unfold Parsed
  rw [h]
  exact ⟨rfl, rfl, rfl⟩
theorem sizeC (xs : List UInt8) (A : Option Addr) (c : Nat) (r : Except Int (Nat × Nat)) (h : sizeD xs = r) (w : World) (hr : RB w w.heap.size A xs) (hl : xs.length ≤ 140737488351232) :
    Calls Tryz.prog 121 #[.slice A xs.length c] w fun e w' => e = .returned (sized r) ∧ w = w' := by
  subst h
  exact (packSize xs A c w hr hl).mono fun _ _ h => ⟨h.1, h.2.symm⟩
theorem head_of {xs : List UInt8} {x : UInt8} (h : xs[0]? = some x) : xs.headD 0 = x := by
  cases xs with
  | nil => simp at h
  | cons y r => simpa using h
theorem fieldX87_1 (g : Nat) (w : World) : (Instr.fieldAt 175 (.pointer (some ⟨g, 0, none⟩)) 1).run Tryz.prog w = .ok (.pointer (some ⟨g, 1, none⟩)) w := by kernel_rfl
set_option maxRecDepth 100000 in
theorem and15_n (x : Fin 256) : bits .and .u8 (x.val : Int) 15 = ((x.val % 16 : Nat) : Int) := by
  revert x
  decide
theorem loB_nat (x : UInt8) : (loB x).toNat = x.toNat % 16 := by
  unfold loB
  rw [UInt8.toNat_and]
  exact Nat.and_two_pow_sub_one_eq_mod x.toNat 4
theorem and15_u (x : UInt8) (a b : Operand) (w : World) : (do eqGuard .and 5 a b (.int .u8 (x.toNat : Int)) (.int .u8 15); binOp .and 5 (.int .u8 (x.toNat : Int)) (.int .u8 15) : Sem Value).run Tryz.prog w = .ok (.int .u8 ((loB x).toNat : Int)) w := by
  have e := and15_n ⟨x.toNat, x.toNat_lt⟩
  simp only [] at e
  rw [loB_nat, ← e]
  simp [go_sem]
theorem shr4_u (x : UInt8) (a b : Operand) (w : World) : (do eqGuard .shr 5 a b (.int .u8 (x.toNat : Int)) (.int .u64 4); binOp .shr 5 (.int .u8 (x.toNat : Int)) (.int .u64 4) : Sem Value).run Tryz.prog w = .ok (.int .u8 ((x.toNat / 16 : Nat) : Int)) w := by
  have := x.toNat_lt
  simp [go_sem]
/-- while a packet is read: the result's box stands. -/
structure ParMid (W : World) (g6 : Nat) (s : Rd) (w : World) : Prop where
  bel : Below W.heap.size W w
  rd : RdAt w W.heap.size g6 s
  box : Cells w W.heap.size (mqCells (mq0 0) nilV nilV nilV)
  lt : W.heap.size < w.heap.size
  ne : W.heap.size ≠ g6
theorem ParMid.drew {W w : World} {g6 : Nat} {s : Rd} (h : ParMid W g6 s w) : ParMid W g6 s w.drew :=
  ⟨h.bel.drew, h.rd.below (Below.drew (Below.refl _ _)), h.box.below (Below.drew (Below.refl _ _)) h.lt, h.lt, h.ne⟩
theorem ParMid.call {W w w' : World} {g6 : Nat} {s s' : Rd} (h : ParMid W g6 s w) (hr : RdAt w' W.heap.size g6 s') (hg : w.grownBy w' (some g6)) : ParMid W g6 s' w' :=
  ⟨h.bel.grown hg (Nat.le_of_lt h.lt) (fun k hk => by injection hk with hk; rw [← hk]; exact h.rd.lts.1), hr, h.box.kept hg h.lt (fun e => h.ne (by injection e)), Nat.lt_of_lt_of_le h.lt hg.size, h.ne⟩
structure ParEnd (W : World) (g6 : Nat) (r : Mq × Rd) (vc vw vf : Value) (w : World) : Prop where
  bel : Below W.heap.size W w
  rd : RdAt w W.heap.size g6 r.2
  box : Cells w W.heap.size (mqCells r.1 vc vw vf)
  lt : W.heap.size < w.heap.size
  rows : Rows3 w (W.heap.size + 1) r.1 vc vw vf
theorem ParMid.fin {W w w' : World} {g6 : Nat} {r : Mq × Rd} {vc vw vf : Value} (h : ParMid W g6 r.2 w) (hr : Rows3 w (W.heap.size + 1) r.1 vc vw vf) (hg : w.grownBy w' (some W.heap.size)) (hs : w'.heap.size = w.heap.size) (hC : Cells w' W.heap.size (mqCells r.1 vc vw vf)) : ParEnd W g6 r vc vw vf w' := by
  have k : ∀ {e : TypeId} {size n : Nat} {v : Value} {xs : List Value}, w.ownsRow (W.heap.size + 1) e size v n xs → w'.ownsRow (W.heap.size + 1) e size v n xs := fun h =>
    h.kept hg (Or.inr (Ne.symm (own_ne h (Or.inl (by omega)))))
  exact ⟨h.bel.grown hg (Nat.le_of_lt h.lt) (fun k hk => by injection hk with hk; rw [← hk]; exact Nat.le_refl _), h.rd.kept hg (fun k hk => by injection hk with hk; rw [← hk]; exact Nat.le_refl _) (fun e => h.ne (by injection e with e; exact e.symm)), hC, by rw [hs]; exact h.lt, k hr.1, k hr.2.1, k hr.2.2⟩
structure ParSix (W : World) (g6 : Nat) (r : Mq × Rd) (vc vw vf : Value) (w : World) : Prop where
  bel : Below W.heap.size W w
  bad : w.cell? ⟨g6, 1, none⟩ = some (.bool r.2.2)
  lt6 : g6 < w.heap.size
  box : Cells w W.heap.size (mqCells r.1 vc vw vf)
  lt : W.heap.size < w.heap.size
  rows : Rows3 w (W.heap.size + 1) r.1 vc vw vf
  len : Lens r.1 1000001
theorem ParSix.lists {W w : World} {g6 : Nat} {r : Mq × Rd} {vc vw vf : Value} (h : ParSix W g6 r vc vw vf w) : MqL w w.heap.size r.1 vc vw vf := MqL.of_rows h.rows h.len (by decide)
theorem ParSix.one {W w : World} {g6 : Nat} {r : Mq × Rd} {vc vw vf : Value} (h : ParSix W g6 r vc vw vf w) : (mqCells r.1 vc vw vf).all (·.oneCell') = true := mq_one _ (own_one h.rows.1) (own_one h.rows.2.1) (own_one h.rows.2.2)
theorem ParEnd.six {W w : World} {g6 : Nat} {r : Mq × Rd} {vc vw vf : Value} (h : ParEnd W g6 r vc vw vf w) (hl : Lens r.1 1000001) : ParSix W g6 r vc vw vf w := by
  obtain ⟨_, _, _, _, c1, _, _, _, _, hlt⟩ := h.rd
  exact ⟨h.bel, c1, hlt, h.box, h.lt, h.rows, hl⟩
theorem ParSix.call {W w w' : World} {g6 : Nat} {r : Mq × Rd} {vc vw vf : Value} (h : ParSix W g6 r vc vw vf w) (hb : Below w.heap.size w w') : ParSix W g6 r vc vw vf w' :=
  ⟨h.bel.trans (hb.mono (Nat.le_of_lt h.lt)), (cellB hb h.lt6).trans h.bad, Nat.lt_of_lt_of_le h.lt6 hb.size, h.box.below hb h.lt, Nat.lt_of_lt_of_le h.lt hb.size, ⟨own_below h.rows.1 hb, own_below h.rows.2.1 hb, own_below h.rows.2.2 hb⟩, h.len⟩
theorem ParSix.drew {W w : World} {g6 : Nat} {r : Mq × Rd} {vc vw vf : Value} (h : ParSix W g6 r vc vw vf w) : ParSix W g6 r vc vw vf w.drew := h.call (Below.drew (Below.refl _ _))
theorem ParSix.keep {W w w' : World} {g6 : Nat} {r : Mq × Rd} {vc vw vf : Value} (h : ParSix W g6 r vc vw vf w) (hg : w.grownBy w' (some W.heap.size)) (_hs : w'.heap.size = w.heap.size) : Rows3 w' W.heap.size r.1 vc vw vf ∧ Lens r.1 1000001 := by
  have k : ∀ {e : TypeId} {size n : Nat} {v : Value} {xs : List Value}, w.ownsRow (W.heap.size + 1) e size v n xs → w'.ownsRow (W.heap.size + 1) e size v n xs := fun h =>
    h.kept hg (Or.inr (Ne.symm (own_ne h (Or.inl (by omega)))))
  exact ⟨⟨own_base (k h.rows.1) (Nat.le_succ _), own_base (k h.rows.2.1) (Nat.le_succ _), own_base (k h.rows.2.2) (Nat.le_succ _)⟩, h.len⟩
theorem ParSix.belK {W w w' : World} {g6 : Nat} {r : Mq × Rd} {vc vw vf : Value} (h : ParSix W g6 r vc vw vf w) (hg : w.grownBy w' (some W.heap.size)) (_hs : w'.heap.size = w.heap.size) : Below W.heap.size W w' :=
  h.bel.grown hg (Nat.le_of_lt h.lt) (fun k hk => by injection hk with hk; rw [← hk]; exact Nat.le_refl _)
section
variable {ops : Array Oper} {Q : Exit → Act → World → Prop} {n : Nat} {l fixed : List (Nat × Value)} {F : World → Prop} {es : List EntC} {i s : Nat} {o : Oper}
theorem kC {f : FuncId} {xs : Array Operand} {ats : Array TypeId} {t : EntC} (ho : ops[t.op]? = some o) (hp : o.op = .call { callee := .value (.func f), args := xs, argTypes := ats }) (hd : o.dst = some t.slot) (hg : okG ops (fixed ++ knownE (afts ops t.op) es) o = true)
    (hc : ∀ a w, Has a n (fixed ++ knownE (afts ops t.op) es) → KnownR (afts ops t.op) a w es → F w → ∃ vs : List Value, xs.toList.map a.eval = vs ∧ Calls Tryz.prog f vs.toArray w fun e w' => ∃ v, e = .returned v ∧ (t.e.p v w' ∧ Below w.heap.size w w'))
    (hen : ∀ (args : Array Value) (w : World), (callFunc f args).run Tryz.prog w = .ok (.enter f args) w := by exact fun _ _ => by kernel_rfl) : HeavyE ops Q n fixed F es t := kc hc ho hp hd hg hen
end
theorem mayB_of' {m : Mq} {b : Bool} (h : mayBb m = b) (hb : b = true := by rfl) : mayB m := (mayBb_iff m).1 (h.trans hb)
theorem belowQ {P : Program} {f : FuncId} {args : Array Value} {w : World} {b b' : Bool} (h : Calls P f args w fun e w' => e = .returned (.bool b) ∧ w = w') (hb : b = b') : Calls P f args w fun e w' => ∃ v, e = .returned v ∧ (v = .bool b' ∧ Below w.heap.size w w') :=
  h.mono fun _ _ ⟨h1, h2⟩ => ⟨_, h1, by rw [hb], h2 ▸ Below.refl _ _⟩
theorem packetC (B g : Nat) (s : Rd) (k : Nat) (f : UInt8) (hs : s.1.length ≤ 1000000) (r : Mq × Rd) (hr : readP (k : Int) f s = r) (w : World) (hR : RdAt w B g s) :
    Calls Tryz.prog 122 #[.pointer (some ⟨g, 0, none⟩), .int .i64 (k : Int), .int .i64 (f.toNat : Int)] w fun e w' => ∃ v, e = .returned v ∧ ((∃ vc vw vf, v = .agg (mqCells r.1 vc vw vf).toArray ∧ Rows3 w' w.heap.size r.1 vc vw vf) ∧ RdAt w' B g r.2 ∧ w.grownBy w' (some g)) := by
  subst hr
  refine (packPacket B g s k f hs w hR).mono ?_
  rintro e w' ⟨vc, vw, vf, rfl, h1, h2, h3⟩
  exact ⟨_, rfl, ⟨vc, vw, vf, rfl, h3⟩, h1, h2⟩
theorem Rows3.base {w : World} {b b' : Nat} {m : Mq} {vc vw vf : Value} (h : Rows3 w b m vc vw vf) (hb : b' ≤ b) : Rows3 w b' m vc vw vf := ⟨own_base h.1 hb, own_base h.2.1 hb, own_base h.2.2 hb⟩
set_option maxRecDepth 100000 in
set_option maxHeartbeats 3200000 in
theorem parse_err (xs : List UInt8) (A : Option Addr) (c : Nat) (w : World) (hr : RB w w.heap.size A xs) (hl : xs.length ≤ 140737488351232) (er : Int) (hs : sizeD xs = .error er) :
    Calls Tryz.prog 95 #[.slice A xs.length c] w (ParseSaid xs w) := by
  have her : (er != 0) = true := sizeD_err hs
  go_enter Tryz.func95, Tryz.ntmps95
  refine Has.start 56 [(0, .slice A xs.length c)] rfl rfl ⟨rfl, trivial⟩ ?_
  intro a0 H0
  have O0 := Own.start w
  refine rl ?_
  refine H0.al O0 2 zero_mq fun a3 w1 O1 H3 => nt ?_
  refine H3.rg 1 fun a4 H4 => ?_
  refine H4.cq 1 (sizeC xs A c (.error er) hs _ (hr.next O1.bel) hl) fun a6 H6 => ?_
  refine H6.ex (r := .int .i64 0) 0 fun a7 H7 => ?_
  refine H7.ex (r := .int .i64 0) 0 fun a8 H8 => ?_
  refine H8.ex (r := .int .i64 er) 3 fun a12 H12 => nt ?_
  refine H12.rg 1 fun a13 H13 => ?_
  refine H13.bn 0 (neq_35 _ _ true her _ _ _) fun a14 H14 => nt ?_
  refine H14.condT rfl ?_
  refine rl ?_
  refine H14.any (w' := w1) gz rfl rfl (.agg (mqCells (mq0 0) nilV nilV nilV).toArray) (by intro cs b h; cases h) (by kernel_rfl) (by kernel_rfl) ?_
  intro a15 H15
  refine H15.ms 1 fun a16 H16 => ?_
  refine H16.st O1 0 2 (hi := size_mq) fun a19 w2 O2 H19 => nt ?_
  refine wp_ret ?_
  repeat (first | (with_reducible refine block_ret ?_) | (with_reducible refine then_ret ?_))
  refine bodyPost_ret (results_m2 Tryz.results95 _ (H19.at_ 2 _ rfl) (H19.at_ 3 _ rfl) (H19.at_ 4 _ rfl) (O2.get 0 rfl) Tryz.underlying49 rfl size_mq rfl) H19.df ?_
  exact ⟨mq0 0, 0, er, nilV, nilV, nilV, parsed_err hs, rfl, none_rows _ _ 0, small0 0, O2.bel⟩
set_option maxRecDepth 100000 in
set_option maxHeartbeats 3200000 in
theorem parse_good (xs : List UInt8) (A : Option Addr) (c : Nat) (hc : xs.length ≤ c) (w : World) (hr : RB w w.heap.size A xs) (hl : xs.length ≤ 140737488351232) (hT : Wd w) (t i : Nat) (hs : sizeD xs = .ok (t, i)) (r : Mq × Rd) (hrd : r = readP (((xs.headD 0).toNat / 16 : Nat) : Int) (loB (xs.headD 0)) ((xs.take t).drop i, false)) :
    Calls Tryz.prog 95 #[.slice A xs.length c] w (ParseSaid xs w) := by
  have hg := sizeD_ge hs
  obtain ⟨gb, go, x, hA, hgb, hx, hcell⟩ := RB.get hr (k := 0) (by omega)
  subst hA
  rw [Nat.add_zero] at hcell
  have hx0 : xs.headD 0 = x := head_of hx
  rw [hx0] at hrd
  have hxb := x.toNat_lt
  have hyl : ((xs.take t).drop i).length = t - i := by simp; omega
  have hys : ((xs.take t).drop i, false).1.length ≤ 1000000 := by show ((xs.take t).drop i).length ≤ _; omega
  have hsm : Small r.1 := by rw [hrd]; exact small_readP _ _ _ hys
  have hln : Lens r.1 1000001 := by rw [hrd]; exact lens_readP _ _ _ hys
  have hP := parsed_readP hs r (by rw [hx0]; exact hrd)
  go_enter Tryz.func95, Tryz.ntmps95
  refine Has.start 56 [(0, .slice (some ⟨gb, go, none⟩) xs.length c)] rfl rfl ⟨rfl, trivial⟩ ?_
  intro a0 H0
  have O0 := Own.start w
  refine rl ?_
  refine H0.al O0 2 zero_mq fun a3 w1 O1 H3 => nt ?_
  refine H3.rg 1 fun a4 H4 => ?_
  refine H4.cq 1 (sizeC xs _ c (.ok (t, i)) hs _ (hr.next O1.bel) hl) fun a6 H6 => ?_
  refine H6.ex (r := .int .i64 (t : Int)) 0 fun a7 H7 => ?_
  refine H7.ex (r := .int .i64 (i : Int)) 0 fun a8 H8 => ?_
  refine H8.ex (r := .int .i64 0) 3 fun a12 H12 => nt ?_
  refine H12.rg 1 fun a13 H13 => ?_
  refine H13.bn 0 (neq_35 _ _ false rfl _ _ _) fun a14 H14 => nt ?_
  refine H14.condF rfl ?_
  refine skip_wp ?_
  refine then_normal ?_
  refine H14.rg 3 fun a17 H17 => ?_
  refine H17.go gz rfl rfl _ (run_slice rfl (H17.ev rfl) (H17.ev rfl) (H17.ev rfl) (slice_lh _ _ _ _ _ hg.2.1 hg.2.2.1 hc _)) ?_
  intro a18 H18
  refine H18.any (w' := w1) gz rfl rfl (.agg ([.slice (if c = i then (some ⟨gb, go, none⟩ : Option Addr) else (some ⟨gb, go, none⟩ : Option Addr).map (·.add i)) (t - i) (c - i), .bool false] : List Value).toArray) (by intro cs b h; cases h) (by kernel_rfl) (by kernel_rfl) ?_
  intro a19 H19
  refine H19.bx O1 1 fun a21 w2 O2 H21 => nt ?_
  obtain ⟨g6, hg6⟩ : ∃ g6, g6 = w1.heap.size := ⟨_, rfl⟩
  have hR : RdAt w2 w.heap.size g6 ((xs.take t).drop i, false) := RdAt.of hyl (by omega) (hg6 ▸ (O2.get 0 rfl).get 0 _ rfl) (hg6 ▸ (O2.get 0 rfl).get 1 _ rfl) (hg6 ▸ (O2.get 0 rfl).fr 0 rfl) (hg6 ▸ (O2.get 0 rfl).fr 1 rfl) ((((hr.below O2.bel).take t).cut (by simp; omega) (by simp; omega))) (hg6 ▸ O2.ge 0 rfl) (hg6 ▸ O2.lt 0 rfl)
  have H22 := H21.keep (l' := [(0, .slice (some ⟨gb, go, none⟩) xs.length c), (2, .pointer (some ⟨w.heap.size, 0, none⟩)), (3, .int .i64 (t : Int)), (6, .pointer (some ⟨w1.heap.size, 0, none⟩))]) ⟨rfl, rfl, rfl, rfl, trivial⟩
  have hM : ParMid w g6 ((xs.take t).drop i, false) w2 := ⟨O2.bel, hR, O2.get 1 rfl, O2.lt 1 rfl, (by rw [hg6]; exact Nat.ne_of_lt (O1.lt 0 rfl))⟩
  rw [← hg6] at H22
  refine H22.sg (ParMid w g6 ((xs.take t).drop i, false)) hM.drew [0, 2, 3, 6] [ec 0 23 (.pointer (some ⟨g6, 0, none⟩)), ec 1 24 (.slice (some ⟨gb, go, none⟩) xs.length c), ec 2 25 (.pointer (some ⟨gb, go, none⟩)), ec 3 26 (.int .u8 (x.toNat : Int)), ec 4 27 (.int .u8 ((x.toNat / 16 : Nat) : Int)), ec 5 28 (.int .i64 ((x.toNat / 16 : Nat) : Int)), ec 6 29 (.slice (some ⟨gb, go, none⟩) xs.length c), ec 7 30 (.pointer (some ⟨gb, go, none⟩)), ec 8 31 (.int .u8 (x.toNat : Int)), ec 9 32 (.int .u8 ((loB x).toNat : Int)), ec 10 33 (.int .i64 ((loB x).toNat : Int))] rfl ?_
  refine St.call 11 ⟨jm, jm, jI rfl rfl rfl rfl rfl rfl fun w => index_0 _ _ _ _ (by omega) w, jl fun _ h => load1_u _ _ _ _ ((cellB h.bel hgb).trans hcell), jb fun _ => shr4_u x _ _ _, jc fun _ => conv_58 _ (by omega) _, jm, jI rfl rfl rfl rfl rfl rfl fun w => index_0 _ _ _ _ (by omega) w, jl fun _ h => load1_u _ _ _ _ ((cellB h.bel hgb).trans hcell), jb fun _ => and15_u x _ _ _, jc fun _ => conv_58 _ (loB x).toNat_lt _, trivial⟩ (fun wy h => packetC w.heap.size g6 _ _ _ hys r hrd.symm wy h.rd) ?_
  rintro wy _ wz h ⟨⟨vc, vw, vf, rfl, hrows⟩, hrd', hgr⟩
  refine nx (fun w' => ParMid w g6 r.2 w' ∧ Rows3 w' (w.heap.size + 1) r.1 vc vw vf) [] [] ⟨h.call hrd' hgr, hrows.base h.lt⟩ ?_
  refine St.sto 12 trivial ?_
  intro a wu H _ h
  obtain ⟨w', hr', hg', hs', hC'⟩ := h.1.box.sto (L := mqCells r.1 vc vw vf) size_mq rfl rfl (mq_one _ (own_one h.2.1) (own_one h.2.2.1) (own_one h.2.2.2))
  refine ⟨w', run_store rfl (H.ev rfl) (H.ev rfl) hr', nx0 (ParSix w g6 r vc vw vf) [] [] ((h.1.fin h.2 hg' hs' hC').six hln) ?_⟩
  refine St.fin trivial ?_
  intro a23 w3 H23 _ hF
  obtain ⟨b1, e1⟩ : ∃ b, r.2.2 = b := ⟨_, rfl⟩
  obtain ⟨b2, e2⟩ : ∃ b, mayBb r.1 = b := ⟨_, rfl⟩
  obtain ⟨b3, e3⟩ : ∃ b, decide (layB r.1 = xs.take t) = b := ⟨_, rfl⟩
  replace H23 := H23.keep (l' := [(0, (.slice (some ⟨gb, go, none⟩) xs.length c)), (2, .pointer (some ⟨w.heap.size, 0, none⟩)), (3, .int .i64 (t : Int)), (6, .pointer (some ⟨g6, 0, none⟩))]) ⟨rfl, rfl, rfl, rfl, trivial⟩
  refine then_normal (H23.dq (ParSix w g6 r vc vw vf) (fun _ _ h hb => h.call hb) hF [0, 2, 3, 6] rfl [ec 0 35 (.pointer (some ⟨g6, 0, none⟩)), ec 1 36 (.pointer (some ⟨g6, 0, none⟩)), ec 2 37 (.pointer (some ⟨g6, 1, none⟩)), ec 3 38 (.bool b1), ec 4 39 (.bool b1), ec 5 40 (gv (!b1) ((.agg (mqCells r.1 vc vw vf).toArray))), eh 6 41 (gv (!b1) (.bool b2)), ec 7 42 (gv (!b1) (.bool (!b2))), ec 8 43 (.bool (b1 || (!b2))), ec 9 44 (.bool (b1 || (!b2))), ec 10 45 (gv (!(b1 || (!b2))) ((.agg (mqCells r.1 vc vw vf).toArray))), er 11 46 [] (fun v w' => b1 = false → b2 = true → BytesAre (layB r.1) v w'), ec 12 47 (gv (!(b1 || (!b2))) ((.slice (some ⟨gb, go, none⟩) xs.length c))), ec 13 48 (gv (!(b1 || (!b2))) (.int .i64 (t : Int))), ec 14 49 (gv (!(b1 || (!b2))) ((.slice (some ⟨gb, go, none⟩) t c))), eh 15 50 (gv (!(b1 || (!b2))) (.bool b3)), ec 16 51 (gv (!(b1 || (!b2))) (.bool (!b3))), ec 17 52 (.bool ((b1 || (!b2)) || (!b3)))] rfl ⟨jm, ja fun _ => by kernel_rfl, jf fieldX87_1, jl fun _ h => load1_b _ _ _ _ (e1 ▸ h.bad), jm, (by cases b1; exact jl fun _ h => loadS_run h.box; exact jo), (by cases b1; exact ju (hq := run_not b2); exact jo), (by (cases b1 <;> exact jp)), jm, (by cases b1; rotate_left; exact jo; cases b2; exact jo; exact jl fun _ h => loadS_run h.box), (by cases b1; rotate_left; exact jo; cases b2; exact jo; exact jm), (by cases b1; rotate_left; exact jo; cases b2; exact jo; exact jm), (by cases b1; rotate_left; exact jo; cases b2; exact jo; exact jh fun w => slice_h _ _ _ _ hg.2.2.1 hc w), (by cases b1; rotate_left; exact jo; cases b2; exact jo; exact ju (hq := run_not b3)), (by cases b1; rotate_left; exact jp; (cases b2 <;> exact jp)), trivial⟩ ⟨(by cases b1; exact kb fun w' h => e2 ▸ packMay r.1 _ _ _ w' h.lists hsm.fit (hT.below h.bel); exact ko), (by cases b1; rotate_left; exact kor fun _ h h2 => (by first | (cases h; done) | (cases h2; done)); cases b2; exact kor fun _ h h2 => (by first | (cases h; done) | (cases h2; done)); exact kr fun w' h => (packLay r.1 _ _ _ w' (mayB_of' e2) h.lists).mono fun _ _ ⟨v, h1, h2, h3⟩ => ⟨v, h1, fun _ _ => h2.read, h3⟩), (by cases b1; rotate_left; exact ko; cases b2; exact ko; exact kC rfl rfl rfl rfl fun a w' H hk h => ⟨[a.eval (.tmp 46), .slice (some ⟨gb, go, none⟩) t c], congrArg (fun v => [a.eval (.tmp 46), v]) (H.ev (x := .tmp 49) rfl), (belowQ (bytesEq (layB r.1) (xs.take t) (a.eval (.tmp 46)) _ w' (hk.1 rfl rfl) ⟨_, _, (by rw [List.length_take, Nat.min_eq_left hg.2.2.1]), ((hr.below h.bel).take t).more h.bel.size⟩) e3)⟩), trivial⟩ ?_ (hst := ⟨fun _ _ _ hb h h1 h2 => (h h1 h2).below hb, trivial⟩))
  intro a24 w4 H24 _ hF
  refine then_normal (H24.cond (t := (b1 || !b2) || !b3) rfl ?_)
  cases hb : (b1 || !b2) || !b3 with
  | true =>
    refine rl ?_
    refine H24.any (w' := w4) gz rfl rfl (.agg (mqCells (mq0 0) nilV nilV nilV).toArray) (by intro cs b h; cases h) (by kernel_rfl) (by kernel_rfl) fun a25 H25 => ?_
    refine H25.storeS rfl rfl rfl rfl (L := mqCells (mq0 0) nilV nilV nilV) rfl hF.box size_mq rfl rfl rfl fun a26 w5 H26 hg' hs' hC => ?_
    refine H26.ms 2 fun a27 H27 => nt (wp_ret ?_)
    repeat (first | (with_reducible refine block_ret ?_) | (with_reducible refine then_ret ?_))
    refine bodyPost_ret (results_m2 Tryz.results95 _ (H27.at_ 2 _ rfl) (H27.at_ 3 _ rfl) (H27.at_ 4 _ rfl) hC Tryz.underlying49 rfl size_mq rfl) H27.df ?_
    exact ⟨mq0 0, 0, 1, nilV, nilV, nilV, hP.2 (fun h => by rw [← e1, ← e2, ← e3, h.1, (mayBb_iff _).2 h.2.1, decide_eq_true h.2.2] at hb; cases hb), rfl, none_rows _ _ 0, small0 0, hF.belK hg' hs'⟩
  | false =>
    simp only [Bool.or_eq_false_iff, Bool.not_eq_false'] at hb
    refine skip_wp (then_normal ?_)
    refine rl ?_
    refine H24.loadS rfl rfl rfl rfl rfl hF.box Tryz.underlying49 rfl size_mq rfl fun a25 H25 => ?_
    refine H25.ms 1 fun a26 H26 => ?_
    refine H26.storeS rfl rfl rfl rfl rfl hF.box size_mq rfl rfl hF.one fun a27 w5 H27 hg' hs' hC => ?_
    refine H27.ms 2 fun a29 H29 => nt (wp_ret ?_)
    repeat (first | (with_reducible refine block_ret ?_) | (with_reducible refine then_ret ?_))
    refine bodyPost_ret (results_m2 Tryz.results95 _ (H29.at_ 2 _ rfl) (H29.at_ 3 _ rfl) (H29.at_ 4 _ rfl) hC Tryz.underlying49 rfl size_mq rfl) H29.df ?_
    exact ⟨r.1, t, 0, vc, vw, vf, hP.1 ⟨e1.trans hb.1.1, (mayBb_iff _).1 (e2.trans hb.1.2), of_decide_eq_true (e3.trans hb.2)⟩, rfl, hF.keep hg' hs', hsm, hF.belK hg' hs'⟩

theorem packParse (xs : List UInt8) (A : Option Addr) (c : Nat) (hc : xs.length ≤ c) (w : World) (hr : RB w w.heap.size A xs) (hl : xs.length ≤ 140737488351232) (hT : Wd w) :
    Calls Tryz.prog 95 #[.slice A xs.length c] w (ParseSaid xs w) := by
  cases hs : sizeD xs with
  | error er => exact parse_err xs A c w hr hl er hs
  | ok p =>
    obtain ⟨t, i⟩ := p
    obtain ⟨r, hrd⟩ : ∃ r, r = readP (((xs.headD 0).toNat / 16 : Nat) : Int) (loB (xs.headD 0)) ((xs.take t).drop i, false) := ⟨_, rfl⟩
    exact parse_good xs A c hc w hr hl hT t i hs r hrd
theorem parseC (xs : List UInt8) (A : Option Addr) (c : Nat) (hc : xs.length ≤ c) (w : World) (hr : RB w w.heap.size A xs) (hl : xs.length ≤ 140737488351232) (hT : Wd w) :
    Calls Tryz.prog 95 #[.slice A xs.length c] w fun e w' => ∃ v, e = .returned v ∧ ∃ m n er vc vw vf, v = .tuple #[.agg (mqCells m vc vw vf).toArray, .int .i64 ((n : Nat) : Int), .int .i64 er] ∧ Parsed xs m n er ∧ (Rows3 w' w.heap.size m vc vw vf ∧ Lens m 1000001) ∧ Small m ∧ Below w.heap.size w w' :=
  (packParse xs A c hc w hr hl hT).mono fun _ _ ⟨m, n, er, vc, vw, vf, h1, h2, h3⟩ => ⟨_, h2, m, n, er, vc, vw, vf, rfl, h1, h3⟩
theorem MqL.ones {w : World} {B : Nat} {m : Mq} {vc vw vf : Value} (h : MqL w B m vc vw vf) : (mqCells m vc vw vf).all (·.oneCell') = true := by
  obtain ⟨A1, c1, A2, c2, A3, c3, rfl, rfl, rfl, _⟩ := h
  exact mq_one _ rfl rfl rfl
end Go.Proofs.YtlacidnnankjlaaGreatDoor

/-
  Boxes of one's own, of a kind: where they lie.
-/
namespace Go.Proofs.YtlacidnnankjlaaGreatDoor
open Go.RowKit

section
variable {ops : Array Oper} {Q : Exit → Act → World → Prop} {n : Nat} {l fixed : List (Nat × Value)} {F : World → Prop} {es : List EntC} {i s : Nat} {o : Oper}
end
section
variable {w w' : World}
theorem Rows3.belowR {b : Nat} {m : Mq} {vc vw vf : Value} (h : Rows3 w b m vc vw vf) (hb : Below w.heap.size w w') : Rows3 w' b m vc vw vf := ⟨own_below h.1 hb, own_below h.2.1 hb, own_below h.2.2 hb⟩
end
def Far (g : Nat) (vc vw vf : Value) : Prop := some g ≠ vc.ownBlock ∧ some g ≠ vw.ownBlock ∧ some g ≠ vf.ownBlock
section
variable {w w' : World}
theorem Rows3.keptR {b g : Nat} {m : Mq} {vc vw vf : Value} (h : Rows3 w b m vc vw vf) (hg : w.grownBy w' (some g)) (hf : Far g vc vw vf) : Rows3 w' b m vc vw vf :=
  ⟨h.1.kept hg (.inr hf.1.symm), h.2.1.kept hg (.inr hf.2.1.symm), h.2.2.kept hg (.inr hf.2.2.symm)⟩
theorem Rows3.far {b g : Nat} {m : Mq} {vc vw vf : Value} (h : Rows3 w b m vc vw vf) (hg : g < b ∨ w.heap.size ≤ g) : Far g vc vw vf := ⟨own_ne h.1 hg, own_ne h.2.1 hg, own_ne h.2.2 hg⟩
end
end Go.Proofs.YtlacidnnankjlaaGreatDoor

/-
  slices.Grow of nothing; slices.Concat of two rows of bytes.
-/
namespace Go.Proofs.YtlacidnnankjlaaGreatDoor
open Go.RowKit

theorem zeroCells_u8 (k : Nat) : (Builtin.zeroCells #[Value.int .u8 0] k).size = k := by
  simp [Builtin.zeroCells]
set_option maxHeartbeats 800000 in
set_option maxRecDepth 100000 in
theorem growW (n : Nat) (w : World) (hn : n ≤ 100000) :
    Calls Tryz.prog 120 #[.slice none 0 0, .int .i64 (n : Int)] w fun e w' => ∃ A c, e = .returned (.slice A 0 c) ∧ w'.ownsRow w.heap.size 5 1 (.slice A 0 c) 0 [] ∧ Below w.heap.size w w' := by
  rcases Nat.eq_zero_or_pos n with rfl | hp
  · go_enter Tryz.func120, Tryz.ntmps120
    go_wp2
    go_ret
    exact ⟨none, 0, rfl, World.ownsRow_nil _ _ _ _, Below.refl _ _⟩
  · have h1 : ¬ ((n : Int) < 0) := by omega
    have h4 : (n : Int) > 0 := by omega
    obtain ⟨i, hi0, hz0, hz1, hz2⟩ := info_parts (P := Tryz.prog) info_u8
    have hold : (Builtin.firstCells i.size 0 (.slice none 0 0)).run Tryz.prog w.drew = .ok ([] : List Value).toArray w.drew := run_firstCells_none w.drew i.size 0 0 0
    have hrz : ∀ ty, (Builtin.append_ #[31, 3] ty #[.slice none 0 0, .int .i64 (n : Int)]).run Tryz.prog w =
        .ok (.slice (some ⟨w.heap.size, 0, none⟩) (0 + n) (grownCap w (0 + n) 0 5)) (w.drew.alloc (.cells (([] : List Value).toArray ++ Builtin.zeroCells #[.int .u8 0] n ++ Builtin.zeroCells #[.int .u8 0] (grownCap w (0 + n) 0 5 - (0 + n))) 5)) := fun ty =>
      Lib.run_append_grow_zeros w 31 3 ty 5 i (.int .u8 0) .i64 .i64 Tryz.underlying31 Tryz.underlying3 hi0 hz0 none 0 0 [] hold n hp (by omega) (by omega) (by omega) (by rw [hz2]; omega) (growslice_fits (by omega) (by rw [hz2]; omega))
    obtain ⟨G, hG⟩ : ∃ G, G = grownCap w (0 + n) 0 5 := ⟨_, rfl⟩
    have hGn : 0 + n ≤ G := hG ▸ grownCap_ge w _ _ _
    have hGm : G ≤ maxLen := hG ▸ grownCap_le_maxLen w _ _ _ (by unfold maxLen; omega)
    rw [← hG] at hrz
    have hsz : (([] : List Value).toArray ++ Builtin.zeroCells #[.int .u8 0] n ++ Builtin.zeroCells #[.int .u8 0] (G - (0 + n))).size = G * 1 := by
      rw [Array.size_append, Array.size_append, zeroCells_u8, zeroCells_u8]
      simp
      omega
    obtain ⟨C, hC⟩ : ∃ C, C = ([] : List Value).toArray ++ Builtin.zeroCells #[.int .u8 0] n ++ Builtin.zeroCells #[.int .u8 0] (G - (0 + n)) := ⟨_, rfl⟩
    rw [← hC] at hrz hsz
    have hO : (w.drew.alloc (.cells C 5)).ownsRow w.heap.size 5 1 (.slice (some ⟨w.heap.size, 0, none⟩) 0 G) 0 [] := World.ownsRow_made w.drew C G (Nat.le_refl _) hGm hsz
    have hB : Below w.heap.size w (w.drew.alloc (.cells C 5)) := (Below.drew (Below.refl _ _)).alloc (Nat.le_refl _) _
    have hG63 : G ≤ 9223372036854775807 := by unfold maxLen at hGm; omega
    have HO := Lib.hid hO
    have HB := Lib.hid hB
    clear hold hG hsz hC hO hB
    go_enter Tryz.func120, Tryz.ntmps120
    go_wp2_with (at_builtin; refine Lib.wpList_append_run _ rfl _ _ _ _ rfl _ _ rfl rfl _ _ (hrz _) ?_)
    all_goals (go_ret; exact ⟨_, _, rfl, HO.out, HB.out⟩)
set_option maxHeartbeats 1600000 in
set_option maxRecDepth 100000 in
theorem concatW (r x : List UInt8) (Ar Ax : Option Addr) (cr cx g : Nat) (w : World) (hr : RB w w.heap.size Ar r) (hx : RB w w.heap.size Ax x) (hg : g < w.heap.size) (hc0 : w.cell? ⟨g, 0, none⟩ = some (.slice Ar r.length cr)) (hc1 : w.cell? ⟨g, 1, none⟩ = some (.slice Ax x.length cx)) (hlr : r.length ≤ 40000) (hlx : x.length ≤ 40000) :
    Calls Tryz.prog 94 #[.slice (some ⟨g, 0, none⟩) 2 2] w fun e w' => ∃ A c, e = .returned (.slice A (r.length + x.length) c) ∧ w'.ownsRow w.heap.size 5 1 (.slice A (r.length + x.length) c) (r.length + x.length) ((r ++ x).map bv) ∧ Below w.heap.size w w' := by
  obtain ⟨lr, elr⟩ : ∃ k, k = r.length := ⟨_, rfl⟩
  obtain ⟨lx, elx⟩ : ∃ k, k = x.length := ⟨_, rfl⟩
  obtain ⟨ls, els⟩ : ∃ k, k = lr + lx := ⟨_, rfl⟩
  rw [← elr] at hc0 hlr ⊢
  rw [← elx] at hc1 hlx ⊢
  rw [← els]
  have hs1 : IntKind.i64.wrap (0 + (lr : Int)) = (lr : Int) := by rw [IntKind.wrap_i64]; omega
  have hs2 : IntKind.i64.wrap ((lr : Int) + (lx : Int)) = (ls : Int) := by rw [IntKind.wrap_i64]; omega
  have hn1 : ¬ ((lr : Int) < 0) := by omega
  have hn2 : ¬ ((ls : Int) < 0) := by omega
  have hls : ls ≤ 100000 := by omega
  have el1 := Lib.hid (elr.symm : r.length = lr)
  have el2 := Lib.hid (elx.symm : x.length = lx)
  have el3 := Lib.hid els
  have HC := Lib.hid (And.intro hc0 hc1)
  have HR := Lib.hid (And.intro hr hx)
  clear elr elx els hr hx
  go_enter Tryz.func94, Tryz.ntmps94
  go_wp2
  go_loopw [3, 5, 11] (fun s _ i wr => wr = w ∧ ((i = .int .i64 0 ∧ s = .int .i64 0) ∨ (i = .int .i64 1 ∧ s = .int .i64 (lr : Int)) ∨ (i = .int .i64 2 ∧ s = .int .i64 (ls : Int))))
    (fun _ _ i _ => 2 - (intOf i).toNat)
  case atStart => exact ⟨rfl, .inl ⟨rfl, rfl⟩⟩
  case round =>
    obtain ⟨rfl, hrel⟩ := hrel
    rcases hrel with ⟨rfl, rfl⟩ | ⟨rfl, rfl⟩ | ⟨rfl, rfl⟩
    · go_wp2
      go_roundw
      case rel => exact ⟨trivial, .inr (.inl ⟨by go_num, by go_num⟩)⟩
      case measure => simp [intOf]
    · go_wp2
      go_roundw
      case rel => exact ⟨trivial, .inr (.inr ⟨by go_num, by go_num⟩)⟩
      case measure => simp [intOf]
    · obtain ⟨wq, rfl⟩ : ∃ wq : World, wq = wr := ⟨_, rfl⟩
      clear hc0 hc1 hs1 hs2 hn1 hn2
      go_wp2_with fail
      refine (growW ls wq hls).mono ?_
      rintro e w1 ⟨A1, c1, rfl, hO1, hB1⟩
      have HO1 := Lib.hid hO1
      have HB1 := Lib.hid hB1
      clear hO1 hB1
      go_wp2
      go_loopw [6, 8, 27] (fun s _ i wr => ∃ (A : Option Addr) (n c : Nat) (ys : List UInt8), s = .slice A n c ∧ wr.ownsRow wq.heap.size 5 1 (.slice A n c) n (ys.map bv) ∧ Below wq.heap.size wq wr ∧ ((i = .int .i64 0 ∧ n = 0 ∧ ys = []) ∨ (i = .int .i64 1 ∧ n = lr ∧ ys = r) ∨ (i = .int .i64 2 ∧ n = ls ∧ ys = r ++ x)))
        (fun _ _ i _ => 2 - (intOf i).toNat)
      case atStart => exact ⟨A1, 0, c1, [], rfl, HO1.out, HB1.out, .inl ⟨rfl, rfl, rfl⟩⟩
      case round =>
        obtain ⟨A, n, c, ys, rfl, hO, hB, hrel⟩ := hrel
        have HO := Lib.hid hO
        have HB := Lib.hid hB
        have h0 : wr.cell? ⟨g, 0, none⟩ = some (.slice Ar lr cr) := (cellB hB hg).trans HC.out.1
        have h1 : wr.cell? ⟨g, 1, none⟩ = some (.slice Ax lx cx) := (cellB hB hg).trans HC.out.2
        have hbs := hB.size
        clear hO hB
        rcases hrel with ⟨rfl, rfl, rfl⟩ | ⟨rfl, rfl, rfl⟩ | ⟨rfl, rfl, rfl⟩
        · go_wp2_with (at_builtin; refine wpList_append_bytes wq.heap.size HB.out rfl _ _ 31 rfl wq.heap.size 5 Tryz.underlying31 info_u8 _ _ [] (by exact rfl) HO.out Ar lr cr r el1.out (by exact rfl) (HR.out.1.next HB.out) (by omega) hbs (Nat.le_refl _) ?_; intro A' c' w' hown' hb')
          go_roundw
          case rel => exact ⟨A', lr, c', r, by simp only, by simpa using hown', hb', .inr (.inl ⟨by go_num, rfl, rfl⟩)⟩
          case measure => simp [intOf]
        · go_wp2_with (at_builtin; refine wpList_append_bytes wq.heap.size HB.out rfl _ _ 31 rfl wq.heap.size 5 Tryz.underlying31 info_u8 _ _ ys (by exact rfl) HO.out Ax lx cx x el2.out (by exact rfl) (HR.out.2.next HB.out) (by omega) hbs (Nat.le_refl _) ?_; intro A' c' w' hown' hb')
          go_roundw
          case rel => exact ⟨A', ls, c', ys ++ x, by rw [el3.out], by rw [el3.out]; exact hown', hb', .inr (.inr ⟨by go_num, rfl, rfl⟩)⟩
          case measure => simp [intOf]
        · go_wp2
          go_ret
          exact ⟨A, c, rfl, HO.out, HB.out⟩
end Go.Proofs.YtlacidnnankjlaaGreatDoor

/-
  What a stream's bytes hold; rows of packets.
-/
namespace Go.Proofs.YtlacidnnankjlaaGreatDoor
open Go.RowKit

/-- the packets that bytes are, what is left, the error. -/
inductive Fed : List UInt8 → List Mq → List UInt8 → Int → Prop
  | done : Fed [] [] [] 0
  | part {x : List UInt8} {m : Mq} {n : Nat} (hx : x ≠ []) (h : Parsed x m n 7) : Fed x [] x 0
  | bad {x : List UInt8} {m : Mq} {n : Nat} {e : Int} (hx : x ≠ []) (h : Parsed x m n e) (h0 : e ≠ 0) (h7 : e ≠ 7) : Fed x [] [] e
  | one {x : List UInt8} {m : Mq} {n : Nat} {l : List Mq} {y : List UInt8} {e : Int} (hx : x ≠ []) (h : Parsed x m n 0) (hr : Fed (x.drop n) l y e) : Fed x (m :: l) y e
theorem fed_one {x : List UInt8} {l : List Mq} {y : List UInt8} {e : Int} (h : Fed x l y e) : ∀ {l' : List Mq} {y' : List UInt8} {e' : Int}, Fed x l' y' e' → l = l' ∧ y = y' ∧ e = e' := by
  induction h with
  | done =>
    intro l' y' e' h'
    cases h' with
    | done => exact ⟨rfl, rfl, rfl⟩
    | part hx => exact absurd rfl hx
    | bad hx => exact absurd rfl hx
    | one hx => exact absurd rfl hx
  | part hx h =>
    intro l' y' e' h'
    cases h' with
    | done => exact absurd rfl hx
    | part => exact ⟨rfl, rfl, rfl⟩
    | bad _ h2 h0 h7 => exact absurd (parsed_one h h2).2.2.symm h7
    | one _ h2 => exact absurd (parsed_one h h2).2.2 (by decide)
  | bad hx h h0 h7 =>
    intro l' y' e' h'
    cases h' with
    | done => exact absurd rfl hx
    | part _ h2 => exact absurd (parsed_one h h2).2.2 h7
    | bad _ h2 => exact ⟨rfl, rfl, (parsed_one h h2).2.2⟩
    | one _ h2 => exact absurd (parsed_one h h2).2.2 h0
  | one hx h _ ih =>
    intro l' y' e' h'
    cases h' with
    | done => exact absurd rfl hx
    | part _ h2 => exact absurd (parsed_one h h2).2.2 (by decide)
    | bad _ h2 h0 => exact absurd (parsed_one h h2).2.2.symm h0
    | one _ h2 hr2 =>
      obtain ⟨rfl, rfl, _⟩ := parsed_one h h2
      obtain ⟨rfl, rfl, rfl⟩ := ih hr2
      exact ⟨rfl, rfl, rfl⟩
theorem parsed_two {x : List UInt8} {m : Mq} {n : Nat} (h : Parsed x m n 0) : 2 ≤ n ∧ n ≤ x.length := by
  unfold Parsed at h
  split at h
  · next er hs =>
    have h2 := sizeD_err hs
    rw [← h.1] at h2
    exact absurd h2 (by decide)
  · next t i hs =>
    obtain ⟨h1, h2, h3, _⟩ := sizeD_ge hs
    rcases h with ⟨_, _, rfl, _⟩ | ⟨_, _, _, h⟩
    · exact ⟨by omega, h3⟩
    · exact absurd h (by decide)
/-- the cells of packets, one behind the other; each one's rows lie behind those of the one ahead of it. -/
def Prow (w : World) (b : Nat) (m : Mq) (cs : List Value) (hi : Nat) : Prop := ∃ vc vw vf, cs = mqCells m vc vw vf ∧ Rows3 w b m vc vw vf ∧ (∀ k, (vc.ownBlock = some k ∨ vw.ownBlock = some k ∨ vf.ownBlock = some k) → k < hi) ∧ Lens m 1000001 ∧ Small m
inductive Prows (w : World) (b : Nat) : List Mq → List Value → Nat → Prop
  | nil {hi : Nat} (h : b ≤ hi) : Prows w b [] [] hi
  | snoc {l : List Mq} {xs : List Value} {m : Mq} {cs : List Value} {hi lo hi' : Nat} (h : Prows w b l xs hi) (hlo : hi ≤ lo) (hle : lo ≤ hi') (hm : Prow w lo m cs hi') : Prows w b (l ++ [m]) (xs ++ cs) hi'
theorem Prow.of {w w' : World} {b hi : Nat} {m : Mq} {cs : List Value} (h : Prow w b m cs hi) (hk : ∀ vc vw vf, Rows3 w b m vc vw vf → Rows3 w' b m vc vw vf) : Prow w' b m cs hi := by
  obtain ⟨vc, vw, vf, h1, h2, h3⟩ := h
  exact ⟨vc, vw, vf, h1, hk _ _ _ h2, h3⟩
theorem Prows.le {w : World} {b hi : Nat} {l : List Mq} {cs : List Value} (h : Prows w b l cs hi) : b ≤ hi := by
  induction h with
  | nil h => exact h
  | snoc _ h1 h2 _ ih => omega
theorem Prows.of {w w' : World} {b hi : Nat} {l : List Mq} {cs : List Value} (h : Prows w b l cs hi) (hk : ∀ b' m vc vw vf, b ≤ b' → Rows3 w b' m vc vw vf → Rows3 w' b' m vc vw vf) : Prows w' b l cs hi := by
  induction h with
  | nil h => exact .nil h
  | snoc hp h1 h2 hm ih => exact .snoc ih h1 h2 (hm.of fun _ _ _ h => hk _ _ _ _ _ (Nat.le_trans hp.le h1) h)
theorem Prows.next {w w' : World} {b hi : Nat} {l : List Mq} {cs : List Value} (h : Prows w b l cs hi) (hb : Below w.heap.size w w') : Prows w' b l cs hi := h.of fun _ _ _ _ _ _ h => h.belowR hb
theorem Prows.base {w : World} {b b' hi : Nat} {l : List Mq} {cs : List Value} (h : Prows w b l cs hi) (hb : b' ≤ b) : Prows w b' l cs hi := by
  induction h with
  | nil h => exact .nil (Nat.le_trans hb h)
  | snoc _ h1 h2 hm ih => exact .snoc ih h1 h2 hm
/-- a box below the rows is written. -/
theorem Prows.box {w w' : World} {b g hi : Nat} {l : List Mq} {cs : List Value} (h : Prows w b l cs hi) (hg : w.grownBy w' (some g)) (hlt : g < b) : Prows w' b l cs hi := h.of fun _ _ _ _ _ hb h => h.keptR hg (h.far (.inl (Nat.lt_of_lt_of_le hlt hb)))
/-- a row of packets, or of bytes, grows. -/
theorem Rows3.row {w w' : World} {b b' e s n : Nat} {m : Mq} {vc vw vf v : Value} {xs : List Value} (h : Rows3 w b m vc vw vf) (hO : w.ownsRow b' e s v n xs) (hg : w.grownBy w' v.ownBlock) (he : (Nat.beq 3 e || Nat.beq 161 e || Nat.beq 9 e) = false) : Rows3 w' b m vc vw vf := by
  simp only [Bool.or_eq_false_iff] at he
  exact ⟨h.1.kept hg (own_apart h.1 hO he.1.1), h.2.1.kept hg (own_apart h.2.1 hO he.1.2), h.2.2.kept hg (own_apart h.2.2 hO he.2)⟩
theorem Prows.row {w w' : World} {b b' e s n hi : Nat} {l : List Mq} {cs : List Value} {v : Value} {xs : List Value} (h : Prows w b l cs hi) (hO : w.ownsRow b' e s v n xs) (hg : w.grownBy w' v.ownBlock) (he : (Nat.beq 3 e || Nat.beq 161 e || Nat.beq 9 e) = false) : Prows w' b l cs hi := h.of fun _ _ _ _ _ _ h => h.row hO hg he
theorem Prows.len {w : World} {b hi : Nat} {l : List Mq} {cs : List Value} (h : Prows w b l cs hi) : cs.length = l.length * 24 := by
  induction h with
  | nil => rfl
  | snoc _ _ _ hm ih =>
    obtain ⟨vc, vw, vf, rfl, _⟩ := hm
    rw [List.length_append, List.length_append, ih]
    show _ + 24 = _
    simp
    omega
theorem Rows3.lt {w : World} {b : Nat} {m : Mq} {vc vw vf : Value} (h : Rows3 w b m vc vw vf) (k : Nat) (hk : vc.ownBlock = some k ∨ vw.ownBlock = some k ∨ vf.ownBlock = some k) : k < w.heap.size := by
  rcases hk with hk | hk | hk
  · exact (h.1.lt k hk).2
  · exact (h.2.1.lt k hk).2
  · exact (h.2.2.lt k hk).2
/-- rows of packets, up to the world's end. -/
def PR (w : World) (b : Nat) (l : List Mq) (cs : List Value) : Prop := ∃ hi, hi ≤ w.heap.size ∧ Prows w b l cs hi
theorem PR.base {w : World} {b b' : Nat} {l : List Mq} {cs : List Value} (h : PR w b l cs) (hb : b' ≤ b) : PR w b' l cs := by
  obtain ⟨hi, h1, h2⟩ := h
  exact ⟨hi, h1, h2.base hb⟩
theorem PR.next {w w' : World} {b : Nat} {l : List Mq} {cs : List Value} (h : PR w b l cs) (hb : Below w.heap.size w w') : PR w' b l cs := by
  obtain ⟨hi, h1, h2⟩ := h
  exact ⟨hi, Nat.le_trans h1 hb.size, h2.next hb⟩
theorem info_mqx : ∃ B, B ≤ 1000 ∧ (Tryz.prog.info? 49).map (fun i => (i.zero, i.size, i.bytes)) = some (some (.agg (mqCells (mq0 0) nilV nilV nilV).toArray), 24, B) :=
  ⟨((Tryz.prog.info? 49).map (·.bytes)).getD 0, Nat.le_of_ble_eq_true (by kernel_rfl), by kernel_rfl⟩
end Go.Proofs.YtlacidnnankjlaaGreatDoor

/-
  A stream's bytes in parts: the plain law.
-/
namespace Go.Proofs.YtlacidnnankjlaaGreatDoor

/-- packets' bytes, one behind the other. -/
theorem fed_lays : ∀ (ms : List Mq), (∀ m ∈ ms, mayB m) → ∀ {y : List UInt8} {l : List Mq} {left : List UInt8} {e : Int}, Fed y l left e → Fed ((ms.map layB).flatten ++ y) (ms ++ l) left e
  | [], _, _, _, _, _, h => h
  | m :: ms, hm, y, l, left, e, h => by
    have h1 := parsed_lay (hm m (List.mem_cons_self ..)) ((ms.map layB).flatten ++ y)
    rw [List.map_cons, List.flatten_cons, List.append_assoc, List.cons_append]
    refine .one ?_ h1 ?_
    · intro h0
      have := (parsed_two h1).1
      have h2 := congrArg List.length h0
      rw [List.length_append, List.length_nil] at h2
      omega
    · rw [List.drop_left]
      exact fed_lays ms (fun x hx => hm x (List.mem_cons_of_mem _ hx)) h
end Go.Proofs.YtlacidnnankjlaaGreatDoor

/-
  What a client that is up, or not, hears of the law's frames, in plain Lean.
-/
namespace Go.Proofs.YtlacidnnankjlaaGreatDoor

/-- a frame of the law to a client. -/
def fr28 (mac ip port sq ak fl : Nat) (xs : List UInt8) : List UInt8 := wire mac 2199023255553 167772161 ip ⟨1883, port, sq, ak, fl, 0, xs⟩
def sg28 (port sq ak fl : Nat) (xs : List UInt8) : Sg := ⟨1883, port, sq, ak, fl, 0, xs⟩
theorem sg28_ok {port sq ak fl : Nat} {xs : List UInt8} (hp : port ≤ 65535) (hs : sq ≤ 4294967295) (ha : ak ≤ 4294967295) (hf : fl ≤ 63) (hx : xs.length ≤ 1460) : (sg28 port sq ak fl xs).ok = true := by
  refine Sg.ok_iff.2 ⟨?_, ?_, ?_, ?_, ?_, ?_, hx⟩ <;> simp only [sg28] <;> omega
theorem wire_in28 {dm sm src dst : Nat} {q : Sg} (hdm : dm < 281474976710656) (hsm : sm < 281474976710656) (hs : src < 4294967296) (hd : dst < 4294967296) (h : q.ok = true) : segIn (wire dm sm src dst q) = some (⟨src, dst, 6, 64, 0, Sg.bytes src dst q⟩, q) := by
  have hq := (Sg.ok_iff.1 h).2.2.2.2.2.2
  have hp := parse_back ⟨src, dst, 6, 64, 0, Sg.bytes src dst q⟩ (wire_ip hs hd hq) []
  rw [List.append_nil] at hp
  unfold segIn
  rw [wire_fr hdm hsm h]
  simp only [hp, seg_same src dst hs hd q h]
  simp
section
variable {mac ip port : Nat} (hm : mac < 281474976710656) (hip : ip < 4294967296)
include hm hip
theorem told_cli {p2 sq ak fl : Nat} {xs : List UInt8} (h : (sg28 p2 sq ak fl xs).ok = true) : toldCli mac ip port (fr28 mac ip p2 sq ak fl xs) = if p2 = port then some (sg28 p2 sq ak fl xs) else none := by
  unfold toldCli fr28
  rw [show segIn (wire mac 2199023255553 167772161 ip ⟨1883, p2, sq, ak, fl, 0, xs⟩) = _ from wire_in28 hm (by decide) (by decide) hip h, show frOut (wire mac 2199023255553 167772161 ip ⟨1883, p2, sq, ak, fl, 0, xs⟩) = _ from wire_fr hm (by decide) h]
  simp only [beq_self_eq_true, Bool.true_and, Bool.and_eq_true, beq_iff_eq, Int.natCast_inj]
  by_cases e : p2 = port
  · rw [if_pos e, if_pos]
    · rfl
    · first | exact e | simp [e]
  · rw [if_neg e, if_neg]
    first | exact e | exact fun h => e h.2
theorem told_cut {p2 sq ak fl : Nat} {xs : List UInt8} (h : (sg28 p2 sq ak fl xs).ok = true) (k : Nat) (h1 : 14 ≤ k) (h2 : k < (fr28 mac ip p2 sq ak fl xs).length) : toldCli mac ip port ((fr28 mac ip p2 sq ak fl xs).take k) = none := by
  have hq := (Sg.ok_iff.1 h).2.2.2.2.2.2
  have hl : (fr28 mac ip p2 sq ak fl xs).length = 54 + xs.length := wire_length ..
  have hq' : xs.length ≤ 1460 := hq
  have hfr : frOut ((fr28 mac ip p2 sq ak fl xs).take k) = (⟨mac, 2199023255553, 2048, (Pk.bytes ⟨167772161, ip, 6, 64, 0, Sg.bytes 167772161 ip (sg28 p2 sq ak fl xs)⟩).take (k - 14)⟩, 0) := by
    have e : (fr28 mac ip p2 sq ak fl xs).take k = frBytes mac 2199023255553 2048 ((Pk.bytes ⟨167772161, ip, 6, 64, 0, Sg.bytes 167772161 ip (sg28 p2 sq ak fl xs)⟩).take (k - 14)) := by
      obtain ⟨j, rfl⟩ : ∃ j, k = 14 + j := ⟨k - 14, by omega⟩
      rw [Nat.add_sub_cancel_left]
      unfold fr28 wire frBytes
      have e1 : ∀ (a b c d : List UInt8) (j : Nat), a.length = 6 → b.length = 6 → c.length = 2 → (a ++ (b ++ (c ++ d))).take (14 + j) = a ++ (b ++ (c ++ d.take j)) := by
        intro a b c d j ha hb hc
        rw [← List.append_assoc, ← List.append_assoc, show 14 + j = (a ++ b ++ c).length + j by simp [ha, hb, hc], List.take_length_add_append]
        simp
      exact e1 _ _ _ _ _ (big_length _ _) (big_length _ _) (big_length _ _)
    rw [e]
    exact fr_back mac 2199023255553 2048 _ hm (by decide) (by decide) (by rw [List.length_take, Pk.bytes_length]; show min _ (20 + (Sg.bytes _ _ _).length) ≤ _; rw [sgb_length]; show min _ (20 + (20 + xs.length)) ≤ _; omega)
  have hpc := parse_cut ⟨167772161, ip, 6, 64, 0, Sg.bytes 167772161 ip (sg28 p2 sq ak fl xs)⟩ (wire_ip (src := 167772161) (dst := ip) (q := sg28 p2 sq ak fl xs) (by decide) hip hq) (k - 14) (by show _ < 20 + (Sg.bytes _ _ _).length; rw [sgb_length]; show _ < 20 + (20 + xs.length); omega)
  unfold toldCli segIn
  rw [hfr]
  simp only [hpc]
  rfl
end
section
variable {iss : Nat} {x : Cl} {port sq ak : Nat} {xs : List UInt8}
theorem clHear_syn : clHear iss x (sg28 port sq (spAdd iss 1) 18 []) = (⟨spAdd sq 1, true, []⟩, true) := by
  unfold clHear
  rw [if_neg (by show ¬ (bits .and .i64 18 4 != 0) = true; decide), if_pos]
  · rfl
  · rw [Bool.and_eq_true]
    exact ⟨(by show (bits .and .i64 18 18 == 18) = true; decide), beq_iff_eq.2 rfl⟩
theorem clHear_dat (hu : x.up = true) : clHear iss x (sg28 port sq ak 16 xs) = if sq = x.wants then (⟨spAdd x.wants xs.length, true, x.got ++ xs⟩, decide (0 < xs.length)) else (x, false) := by
  unfold clHear
  have e1 : (bits .and .i64 (sg28 port sq ak 16 xs).fl 18 == 18) = false := by show (bits .and .i64 16 18 == 18) = false; decide
  have e2 : (bits .and .i64 (sg28 port sq ak 16 xs).fl 2 != 0) = false := by show (bits .and .i64 16 2 != 0) = false; decide
  have e3 : (bits .and .i64 (sg28 port sq ak 16 xs).fl 1 != 0) = false := by show (bits .and .i64 16 1 != 0) = false; decide
  rw [if_neg (by show ¬ (bits .and .i64 16 4 != 0) = true; decide), e1, Bool.false_and, if_neg (by decide), hu, e2, e3]
  have e4 : (sg28 port sq ak 16 xs).sq.toNat = sq := rfl
  rw [e4]
  by_cases h : sq = x.wants
  · rw [if_pos h, if_neg (by simp [h])]
    rfl
  · rw [if_neg h, if_pos (by simp [h])]
end
theorem spAdd_ne {s a b : Nat} (hab : a ≠ b) (ha : a < 4294967296) (hb : b < 4294967296) : spAdd s a ≠ spAdd s b := by
  unfold spAdd
  omega
theorem spAdd2 (s a b : Nat) : spAdd (spAdd s a) b = spAdd s (a + b) := by
  unfold spAdd
  omega
theorem fed_pong {l : List Mq} {left : List UInt8} {e : Int} (h : Fed [208, 0] l left e) : l = [mq0 13] ∧ e = 0 := by
  have hm : mayB (mq0 13) := by
    exact (mayBb_iff _).1 (by kernel_rfl)
  have h1 := fed_lays [mq0 13] (fun m hm' => by rw [List.mem_singleton.1 hm']; exact hm) Fed.done
  have h2 : ([mq0 13].map layB).flatten ++ [] = [208, 0] := by kernel_rfl
  rw [h2] at h1
  obtain ⟨e1, _, e3⟩ := fed_one h h1
  exact ⟨e1, e3⟩
theorem fed_empty {l : List Mq} {left : List UInt8} {e : Int} (h : Fed [] l left e) : l = [] ∧ e = 0 := by
  obtain ⟨e1, _, e3⟩ := fed_one h Fed.done
  exact ⟨e1, e3⟩
end Go.Proofs.YtlacidnnankjlaaGreatDoor

/-
  The page's FrameBytes.
-/
namespace Go.Proofs.YtlacidnnankjlaaGreatDoor
open Go.RowKit

theorem bigC (k v : Nat) (hk : k ≤ 7) (hv : v < 9223372036854775808) (w : World) :
    Calls Tryz.prog 90 #[.int .i64 (v : Int), .int .i64 (k : Int)] w fun e w' => ∃ u, e = .returned u ∧ (BytesAre (big k v) u w' ∧ Below w.heap.size w w') :=
  (big_walk (v : Int) (k : Int) v k rfl rfl hk hv w).mono fun _ _ ⟨A', c', h1, h2, h3⟩ => ⟨_, h1, by
    have := (RowIs.of (big_length k v) h2).read
    exact this, h3⟩
theorem bigR (k v : Nat) (hk : k ≤ 7) (hv : v < 9223372036854775808) (w : World) :
    Calls Tryz.prog 90 #[.int .i64 (v : Int), .int .i64 (k : Int)] w fun e w' => ∃ u, e = .returned u ∧ (RowIs w.heap.size (big k v) u w' ∧ Below w.heap.size w w') :=
  (big_walk (v : Int) (k : Int) v k rfl rfl hk hv w).mono fun _ _ ⟨_A', _c', h1, h2, h3⟩ => ⟨_, h1, RowIs.of (big_length k v) h2, h3⟩
set_option maxRecDepth 100000 in
set_option maxHeartbeats 1600000 in
theorem pageFrameBytes (d s t : Nat) (xs : List UInt8) (A : Option Addr) (c : Nat) (w : World) (hd : d < 281474976710656) (hs : s < 281474976710656) (ht : t < 65536) (hx : RB w w.heap.size A xs) (hl : xs.length ≤ 140737488351232) :
    Calls Tryz.prog 54 #[.agg ([.int .i64 (d : Int), .int .i64 (s : Int), .int .i64 (t : Int), .slice A xs.length c] : List Value).toArray] w fun e w' => ∃ v, e = .returned v ∧ (RowIs w.heap.size (frBytes d s t xs) v w' ∧ Below w.heap.size w w') := by
  go_enter Tryz.func54, Tryz.ntmps54
  refine Has.start 20 [(0, .agg ([.int .i64 (d : Int), .int .i64 (s : Int), .int .i64 (t : Int), .slice A xs.length c] : List Value).toArray)] rfl rfl ⟨rfl, trivial⟩ ?_
  intro a0 H0
  have O0 := Own.start w
  refine rl ?_
  refine H0.bx O0 1 (L := [.int .i64 (d : Int), .int .i64 (s : Int), .int .i64 (t : Int), .slice A xs.length c]) fun a w1 O1 H => nt ?_
  generalize hg : w.heap.size = g at O1 H
  obtain ⟨b0, hb0⟩ : ∃ b0, b0 = w1.heap.size := ⟨_, rfl⟩
  have hgb : g < b0 := by rw [hb0]; exact O1.lt 0 rfl
  have ou : ∀ {w' w'' : World}, Own w g [(g, [.int .i64 (d : Int), .int .i64 (s : Int), .int .i64 (t : Int), .slice A xs.length c])] w' → Below b0 w' w'' → Own w g [(g, [.int .i64 (d : Int), .int .i64 (s : Int), .int .i64 (t : Int), .slice A xs.length c])] w'' := fun h hb => own_under h hb (Nat.le_of_lt hgb) (fun p hp => by rw [List.mem_singleton.1 hp]; exact hgb)
  replace H := H.keep (l' := [(1, .pointer (some ⟨g, 0, none⟩))]) ⟨rfl, trivial⟩
  refine H.sg (fun w' => Own w g [(g, [.int .i64 (d : Int), .int .i64 (s : Int), .int .i64 (t : Int), .slice A xs.length c])] w' ∧ b0 ≤ w'.heap.size) ⟨O1.drew, by rw [hb0]; exact Nat.le_refl _⟩ [1] [ec 0 4 (.pointer (some ⟨g, 0, none⟩)), ec 1 5 (.int .i64 (d : Int)), ec 3 7 (.pointer (some ⟨g, 1, none⟩)), ec 4 8 (.int .i64 (s : Int))] rfl ?_
  refine St.call 2 ⟨jm, jl fun _ h => h.1.li 0 0, jm, jl fun _ h => h.1.li 0 1, trivial⟩ (fun wy _ => bigR 6 d (by decide) (by omega) wy) ?_
  rintro wx v wz hh ⟨⟨A2, c2, rfl, hrow⟩, hb⟩
  rw [show (big 6 d).length = 6 from big_length 6 d] at hrow ⊢
  refine nx (fun w' => (Own w g [(g, [.int .i64 (d : Int), .int .i64 (s : Int), .int .i64 (t : Int), .slice A xs.length c])] w' ∧ b0 ≤ w'.heap.size) ∧ w'.ownsRow b0 5 1 (.slice A2 6 c2) 6 ((big 6 d).map bv)) [] [] ⟨⟨hh.1.call hb, Nat.le_trans hh.2 hb.size⟩, own_base hrow hh.2⟩ ?_
  refine St.call 5 ⟨jm, jl fun _ h => h.1.1.li 0 1, trivial⟩ (fun wy _ => bigC 6 s (by decide) (by omega) wy) ?_
  clear hrow hb hh
  rintro wx v wz hh ⟨⟨A3, c3, rfl, hr3⟩, hb⟩
  rw [show (big 6 s).length = 6 from big_length 6 s]
  refine nx (fun w' => ((Own w g [(g, [.int .i64 (d : Int), .int .i64 (s : Int), .int .i64 (t : Int), .slice A xs.length c])] w' ∧ b0 ≤ w'.heap.size) ∧ w'.ownsRow b0 5 1 (.slice A2 6 c2) 6 ((big 6 d).map bv)) ∧ RB w' w'.heap.size A3 (big 6 s)) [] [] ⟨⟨⟨hh.1.1.call hb, Nat.le_trans hh.1.2 hb.size⟩, own_below hh.2 hb⟩, hr3⟩ ?_
  refine St.app (k := 6) (m := 6) (ys := (big 6 s).map bv) 6 info_u8 trivial (fun _ h => ⟨h.1.2, by have := h.2; unfold RB at this; rw [show (big 6 s).length = 6 from big_length 6 s] at this; exact this, h.1.1.2⟩) (bv_one _) ⟨by decide, by decide⟩ ?_
  clear hh hb hr3
  intro wx A4 c4 w' h hO hgr
  have hbb : Below b0 wx w' := (Below.refl _ _).grown hgr h.1.1.2 fun k hk => (h.1.2.lt k hk).1
  refine nx (fun w' => Own w g [(g, [.int .i64 (d : Int), .int .i64 (s : Int), .int .i64 (t : Int), .slice A xs.length c])] w' ∧ b0 ≤ w'.heap.size ∧ RowIs b0 (big 6 d ++ big 6 s) (.slice A4 (6 + 6) c4) w') [ec 7 3 (.slice A4 (6 + 6) c4)] [] ⟨ou h.1.1.1 hbb, Nat.le_trans h.1.1.2 hbb.size, RowIs.of (by simp [big_length]) (by rw [List.map_append]; exact hO)⟩ ?_
  refine St.fin ⟨jm, trivial⟩ ?_
  clear h hO hgr hbb
  rintro a w2 H _ ⟨O2, hs2, hr2⟩
  refine then_normal ?_
  generalize Value.slice A4 (6 + 6) c4 = v2 at H hr2
  replace H := H.keep (l' := [(1, .pointer (some ⟨g, 0, none⟩)), (3, v2)]) ⟨rfl, rfl, trivial⟩
  refine H.rg 2 fun a H => ?_
  refine H.ld 0 (O2.li 0 2) fun a H => ?_
  refine H.cl (bigC 2 t (by decide) (by omega) w2) ?_
  rintro a u3 x3 ⟨hu3, hbu3⟩ H
  have hsu3 := hbu3.size
  refine H.appendRow Tryz.underlying31 info_u8 (gz rfl) rfl rfl rfl rfl rfl (hr2.below hbu3) hu3 (by simp [big_length]) (Nat.le_trans hs2 hsu3) ?_
  intro a v3 w3 H hr3 hb3 _
  have O3 := ou (O2.call hbu3) hb3
  have hs3 : b0 ≤ w3.heap.size := Nat.le_trans (Nat.le_trans hs2 hsu3) hb3.size
  refine H.ms 1 fun a H => nt ?_
  replace H := H.keep (l' := [(1, .pointer (some ⟨g, 0, none⟩)), (3, v3)]) ⟨rfl, rfl, trivial⟩
  refine H.rg 2 fun a H => ?_
  refine H.ld 0 (load1_31 _ _ _ _ _ _ ((O3.get 0 rfl).get 3 _ rfl)) fun a H => ?_
  refine H.appendRow (ys := xs) Tryz.underlying31 info_u8 (gz rfl) rfl rfl rfl rfl rfl hr3 ⟨A, c, rfl, hx.next (hg ▸ O3.bel)⟩ (by simp [big_length]; omega) hs3 ?_
  intro a v4 w4 H hr4 hb4 _
  have O4 := ou O3 hb4
  refine H.ms 1 fun a H => nt (wp_ret ?_)
  repeat (first | (with_reducible refine block_ret ?_) | (with_reducible refine then_ret ?_))
  refine bodyPost_ret (results_tmp rfl _ _ _) H.df ⟨v4, congrArg Ending.returned (H.at_ 2 _ rfl), ?_, hg ▸ O4.bel⟩
  have e : frBytes d s t xs = big 6 d ++ big 6 s ++ big 2 t ++ xs := by simp [frBytes]
  rw [e]
  exact hr4.base (Nat.le_of_lt hgb)
end Go.Proofs.YtlacidnnankjlaaGreatDoor

/-
  A frame of a law: of a segment from the kernel to somebody.
-/
namespace Go.Proofs.YtlacidnnankjlaaGreatDoor
open Go.RowKit

theorem conv_32 (z : Int) (w : World) : (convert 3 33 (.int .i64 z)).run Tryz.prog w = .ok (.int .u32 (z % 4294967296)) w := by
  simp [go_sem]
  rfl
theorem conv_23 (z : Int) (h0 : 0 ≤ z) (h1 : z < 4294967296) (w : World) : (convert 33 3 (.int .u32 z)).run Tryz.prog w = .ok (.int .i64 z) w := by
  simp [go_sem]
  exact IntWalk.i64_in _ (by omega)
theorem add_32 (u v : Int) (x y : Operand) (w : World) : (do eqGuard .add 33 x y (.int .u32 u) (.int .u32 v); binOp .add 33 (.int .u32 u) (.int .u32 v) : Sem Value).run Tryz.prog w = .ok (.int .u32 ((u + v) % 4294967296)) w := by
  simp [go_sem]
  rfl
set_option maxRecDepth 100000 in
theorem pageAdd (s n : Nat) (w : World) : Calls Tryz.prog 11 #[.int .i64 (s : Int), .int .i64 (n : Int)] w fun e w' => e = .returned (.int .i64 ((spAdd s n : Nat) : Int)) ∧ w = w' := by
  go_enter Tryz.func11, Tryz.ntmps11
  refine Has.start 11 [(0, .int .i64 (s : Int)), (1, .int .i64 (n : Int))] rfl rfl ⟨rfl, rfl, trivial⟩ ?_
  intro a0 H0
  refine H0.rg 1 fun a H => nt ?_
  refine H.rg 1 fun a H => ?_
  refine H.cv 1 (conv_32 (s : Int) w) fun a H => ?_
  refine H.cv 0 (conv_32 (n : Int) w) fun a H => ?_
  refine H.bn 0 (add_32 ((s : Int) % 4294967296) ((n : Int) % 4294967296) _ _ w) fun a H => ?_
  refine H.cv 1 (conv_23 (((s : Int) % 4294967296 + (n : Int) % 4294967296) % 4294967296) (by omega) (by omega) w) fun a H => nt (wp_ret ?_)
  repeat (first | (with_reducible refine block_ret ?_) | (with_reducible refine then_ret ?_))
  refine bodyPost_ret (results_tmp rfl _ _ _) H.df ⟨?_, rfl⟩
  refine (congrArg Ending.returned (H.at_ 4 _ rfl)).trans ?_
  have e : ((s : Int) % 4294967296 + (n : Int) % 4294967296) % 4294967296 = ((spAdd s n : Nat) : Int) := by unfold spAdd; omega
  rw [e]
theorem refSegBytesC (ti sp port sq ak fl wn : Nat) (xs : List UInt8) (A : Option Addr) (c : Nat) (h : Sg.ok ⟨sp, port, sq, ak, fl, wn, xs⟩ = true) (hd : ti < 4294967296) (w : World) (hx : RB w w.heap.size A xs) :
    Calls Tryz.prog 53 #[.int .i64 167772161, .int .i64 (ti : Int), .agg #[.int .i64 (sp : Int), .int .i64 (port : Int), .int .i64 (sq : Int), .int .i64 (ak : Int), .int .i64 (fl : Int), .int .i64 (wn : Int), .slice A xs.length c]] w fun e w' => ∃ v, e = .returned v ∧ ∃ A' c', v = .slice A' (20 + xs.length) c' ∧ w'.ownsRow w.heap.size 5 1 (.slice A' (20 + xs.length) c') (20 + xs.length) ((sgBytes 167772161 ti sp port sq ak fl wn xs).map bv) ∧ Below w.heap.size w w' :=
  (refSegBytes 167772161 ti sp port sq ak fl wn xs xs.length rfl A c h (by decide) hd w hx).mono fun _ _ ⟨A', c', h1, h2, h3⟩ => ⟨_, h1, A', c', rfl, h2, h3⟩
theorem refPBytesC (d : Nat) (xs : List UInt8) (n : Nat) (hl : xs.length = n) (A : Option Addr) (c : Nat) (h : Pk.ok ⟨167772161, d, 6, 64, 0, xs⟩ = true) (w : World) (hx : RB w w.heap.size A xs) :
    Calls Tryz.prog 55 #[.agg #[.int .i64 167772161, .int .i64 (d : Int), .int .i64 6, .int .i64 64, .int .i64 0, .slice A n c]] w fun e w' => ∃ v, e = .returned v ∧ ∃ A' c', v = .slice A' (20 + n) c' ∧ w'.ownsRow w.heap.size 5 1 (.slice A' (20 + n) c') (20 + n) ((ipHead 167772161 d 6 64 0 n ++ xs).map bv) ∧ Below w.heap.size w w' :=
  (refPBytes 167772161 d 6 64 0 xs n hl A c h w hx).mono fun _ _ ⟨A', c', h1, h2, h3⟩ => ⟨_, h1, A', c', rfl, h2, h3⟩
end Go.Proofs.YtlacidnnankjlaaGreatDoor

/-
  stream.Feed.
-/
namespace Go.Proofs.YtlacidnnankjlaaGreatDoor
open Go.RowKit

theorem eql_35 (u v : Int) (b : Bool) (h : (u == v) = b) (x y : Operand) (w : World) : (do eqGuard .eql 27 x y (.int .i64 u) (.int .i64 v); binOp .eql 27 (.int .i64 u) (.int .i64 v) : Sem Value).run Tryz.prog w = .ok (.bool b) w := by
  subst h
  simp [go_sem]
theorem concatC (r x : List UInt8) (Ar Ax : Option Addr) (cr cx g : Nat) (w : World) (hr : RB w w.heap.size Ar r) (hx : RB w w.heap.size Ax x) (hg : g < w.heap.size) (hC : Cells w g [.slice Ar r.length cr, .slice Ax x.length cx]) (hlr : r.length ≤ 40000) (hlx : x.length ≤ 40000) :
    Calls Tryz.prog 94 #[.slice (some ⟨g, 0, none⟩) 2 2] w fun e w' => ∃ v, e = .returned v ∧ ∃ A c, v = .slice A (r ++ x).length c ∧ w'.ownsRow w.heap.size 5 1 (.slice A (r ++ x).length c) (r ++ x).length ((r ++ x).map bv) ∧ Below w.heap.size w w' :=
  (concatW r x Ar Ax cr cx g w hr hx hg (hC 0 _ rfl).1 (hC 1 _ rfl).1 hlr hlx).mono fun _ _ ⟨A, c, h1, h2, h3⟩ => ⟨_, h1, A, c, by rw [List.length_append], by rw [List.length_append]; exact h2, h3⟩
theorem cloneC (y : List UInt8) (A : Option Addr) (c : Nat) (w : World) (hx : RB w w.heap.size A y) (hn : y.length ≤ 140737488351232) :
    Calls Tryz.prog 80 #[.slice A y.length c] w fun e w' => ∃ v, e = .returned v ∧ ∃ A' c', v = .slice A' y.length c' ∧ w'.ownsRow w.heap.size 5 1 (.slice A' y.length c') y.length (y.map bv) ∧ Below w.heap.size w w' :=
  (clone y y.length rfl A c w hx hn).mono fun _ _ ⟨A', c', h1, h2, h3⟩ => ⟨_, h1, A', c', rfl, h2, h3⟩
/-- what 'Feed' leaves. -/
def FedSaid (z : List UInt8) (w : World) (e : Ending) (w' : World) : Prop :=
  ∃ l left er vP AL cL cs, Fed z l left er ∧ e = .returned (.tuple #[vP, .slice AL left.length cL, .int .i64 er]) ∧ w'.ownsRow w.heap.size 49 24 vP l.length cs ∧ PR w' w.heap.size l cs ∧ w'.ownsRow w.heap.size 5 1 (.slice AL left.length cL) left.length (left.map bv) ∧ Below w.heap.size w w'
/-- at the label: what is read, what is still to be read. -/
structure FeedAt (z : List UInt8) (W : World) (a : Act) (w : World) (y : List UInt8) (l : List Mq) (A : Option Addr) (c n : Nat) (vP : Value) (cs L : List Value) (vb : Value) : Prop where
  at_ : Has a 40 [(4, vP), (5, nilV), (7, .pointer (some ⟨W.heap.size, 0, none⟩)), (9, .slice A n c)]
  hn : y.length = n
  hc : n ≤ c
  le : l.length * 2 + y.length ≤ z.length
  fed : ∀ {l2 : List Mq} {left : List UInt8} {e : Int}, Fed y l2 left e → Fed z (l ++ l2) left e
  own : Own W W.heap.size [(W.heap.size, L)] w
  h24 : L.length = 24
  row : w.ownsRow (W.heap.size + 1) 49 24 vP l.length cs
  pks : PR w (W.heap.size + 1) l cs
  byt : w.ownsRow (W.heap.size + 1) 5 1 vb z.length (z.map bv)
  rd : ∀ w', w'.ownsRow (W.heap.size + 1) 5 1 vb z.length (z.map bv) → RB w' w'.heap.size A y
def muFeed (a : Act) : Nat := match a.tmps.getD 9 undef with
  | .slice _ n _ => n
  | _ => 0
set_option maxRecDepth 100000 in
set_option maxHeartbeats 6400000 in
theorem feedW (r x : List UInt8) (Ar Ax : Option Addr) (cr cx : Nat) (w : World) (hr : RB w w.heap.size Ar r) (hx : RB w w.heap.size Ax x) (hlr : r.length ≤ 40000) (hlx : x.length ≤ 40000) (hT : Wd w) :
    Calls Tryz.prog 56 #[.slice Ar r.length cr, .slice Ax x.length cx] w (FedSaid (r ++ x) w) := by
  go_enter Tryz.func56, Tryz.ntmps56
  refine Has.start 40 [(0, .slice Ar r.length cr), (1, .slice Ax x.length cx)] rfl rfl ⟨rfl, rfl, trivial⟩ ?_
  intro a0 H0
  have O0 := Own.start w
  refine H0.rg 3 fun a1 H1 => nt ?_
  refine wp_scope_one (k := 0) rfl (fun a w' => ∃ y l A c n vP cs L vb, FeedAt (r ++ x) w a w' y l A c n vP cs L vb) (fun a _ => muFeed a) ?_ ?_
  · intro hpass
    refine rl ?_
    refine H1.al O0 0 zero_mq fun a2 w2 O2 H2 => nt ?_
    refine H2.rg 1 fun a3 H3 => nt ?_
    refine H3.rg 2 fun a4 H4 => ?_
    refine H4.any (w' := w2.alloc (.cells #[.slice Ar r.length cr, .slice Ax x.length cx] 31)) gz rfl rfl (.slice (some ⟨w2.heap.size, 0, none⟩) 2 2) (by intro cs b h; cases h) (by kernel_rfl) (by kernel_rfl) fun a5 H5 => ?_
    have C5 := Cells.of_heap (heap_alloc_new w2 (.cells #[.slice Ar r.length cr, .slice Ax x.length cx] 31))
    have hb5 : Below w2.heap.size w2 (w2.alloc (.cells #[.slice Ar r.length cr, .slice Ax x.length cx] 31)) := balloc _ _
    have hl5 := lt_alloc w2 (.cells #[.slice Ar r.length cr, .slice Ax x.length cx] 31)
    have hw2 : w.heap.size + 1 ≤ w2.heap.size := O2.lt 0 rfl
    generalize w2.alloc (.cells #[.slice Ar r.length cr, .slice Ax x.length cx] 31) = w5 at *
    have O5 := O2.call hb5
    refine H5.cl (concatC r x Ar Ax cr cx w2.heap.size w5 (hr.next O5.bel) (hx.next O5.bel) hl5 C5 hlr hlx) ?_
    rintro a6 _ w6 ⟨A, c, rfl, hrow, hb6⟩ H6
    have O6 := O5.call hb6
    refine H6.ms 1 fun a7 H7 => nt ?_
    refine wp_seq (label_wp (then_normal ?_))
    refine hpass _ _ ⟨r ++ x, [], A, c, (r ++ x).length, nilV, [], _, .slice A (r ++ x).length c, ⟨H7.keep ⟨rfl, rfl, rfl, rfl, trivial⟩, rfl, own_cap hrow, by simp, fun h => h, O6, rfl, World.ownsRow_nil _ _ _ _, ⟨w.heap.size + 1, O6.lt 0 rfl, .nil (Nat.le_refl _)⟩, own_base hrow (by have := hb5.size; omega), ?_⟩⟩
    intro w' h
    exact rb_of_own rfl (own_base h (Nat.zero_le _)) (Nat.zero_le _)
  · clear H0 O0 H1
    rintro a1 w1 ⟨y, l, A, c, n, vP, cs, L, vb, hI⟩
    obtain ⟨H1, hn, hc, hle, hF, O1, h24, hrow, hpk, hby, hrd⟩ := hI
    subst hn
    have hzl : (r ++ x).length ≤ 80000 := by rw [List.length_append]; omega
    have hyl : y.length ≤ 80000 := by omega
    have hrd1 := hrd w1 hby
    have hmu : muFeed a1 = y.length := by unfold muFeed; rw [show a1.tmps.getD 9 undef = .slice A y.length c from H1.at_ 9 _ rfl]
    rw [hmu]
    refine H1.rg 1 fun a2 H2 => ?_
    refine H2.len gz rfl rfl rfl rfl Tryz.underlying31 fun a3 H3 => ?_
    by_cases hy : y = []
    · refine H3.bb 0 rfl rfl rfl rfl rfl rfl (eql_iB _ _ true (by subst hy; rfl) _ _ _) rfl fun a4 H4 => nt (H4.condT rfl ?_)
      refine H4.rg 4 fun a5 H5 => nt (wp_ret ?_)
      repeat (first | (with_reducible refine jump_ret ?_) | (with_reducible refine then_ret ?_))
      refine bodyPost_ret (results_three rfl _ _ _ _ (H5.at_ 4 _ rfl) (H5.at_ 5 _ rfl) (H5.at_ 6 _ rfl)) H5.df ?_
      subst hy
      exact ⟨l, [], 0, vP, none, 0, cs, by simpa using hF .done, rfl, own_base hrow (Nat.le_succ _), hpk.base (Nat.le_succ _), World.ownsRow_nil _ _ _ _, O1.bel⟩
    have hpos : 0 < y.length := List.length_pos_iff.2 hy
    refine H3.bb 0 rfl rfl rfl rfl rfl rfl (eql_iB _ _ false (by rw [beq_eq_false_iff_ne]; omega) _ _ _) rfl fun a4 H4 => nt (H4.condF rfl ?_)
    refine skip_wp (then_normal ?_)
    refine H4.rg 1 fun a5 H5 => ?_
    refine H5.cl (parseC y A c hc w1 hrd1 (by omega) (hT.below O1.bel)) ?_
    rintro a6 _ w2 ⟨m, nn, er, vc, vw, vf, rfl, hP, ⟨hR, hln⟩, hsm, hb⟩ H6
    have O2 := O1.call hb
    have hM2 := MqL.of_rows hR hln (by decide)
    refine H6.ms 1 fun a7 H7 => ?_
    refine H7.ex (r := .agg (mqCells m vc vw vf).toArray) 0 fun a8 H8 => ?_
    refine H8.ex (r := .int .i64 ((nn : Nat) : Int)) 0 fun a9 H9 => ?_
    refine H9.ex (r := .int .i64 er) 0 fun a10 H10 => ?_
    refine H10.storeS rfl rfl rfl rfl rfl (O2.get 0 rfl) size_mq h24 rfl hM2.ones fun a11 w3 H11 hgr hs3 hC3 => ?_
    have O3 := O2.store 0 rfl hgr hs3 hC3
    have hrow3 := (own_below hrow hb).kept hgr (.inr (own_ne (own_below hrow hb) (.inl (Nat.lt_succ_self _))).symm)
    have hby3 := (own_below hby hb).kept hgr (.inr (own_ne (own_below hby hb) (.inl (Nat.lt_succ_self _))).symm)
    obtain ⟨hi, hhi, hpk⟩ := hpk
    have hlt2 := hR.lt
    have hpk3 := (hpk.next hb).box hgr (Nat.lt_succ_self _)
    have hi3 : hi ≤ w3.heap.size := Nat.le_trans hhi (Nat.le_trans hb.size hgr.size)
    have hR3 := hR.keptR hgr (hR.far (.inl (O1.lt 0 rfl)))
    refine H11.ms 2 fun a12 H12 => nt ?_
    replace H12 := H12.keep (l' := [(4, vP), (5, nilV), (6, .int .i64 er), (7, .pointer (some ⟨w.heap.size, 0, none⟩)), (8, .int .i64 ((nn : Nat) : Int)), (9, .slice A y.length c)]) ⟨rfl, rfl, rfl, rfl, rfl, rfl, trivial⟩
    clear H1 H2 H3 H4 H5 H6 H7 H8 H9 H10 H11 O1 O2 hrow hby hpk hR hrd1
    refine H12.rg 1 fun a13 H13 => ?_
    by_cases h0 : er = 0
    · subst h0
      refine H13.bb 0 rfl rfl rfl rfl rfl rfl (eql_35 0 0 true rfl _ _ _) rfl fun a14 H14 => nt (H14.condT rfl ?_)
      obtain ⟨hn2, hny⟩ := parsed_two hP
      refine H14.rg 1 fun a15 H15 => ?_
      refine H15.lm O3 0 0 fun a16 H16 => ?_
      refine H16.any (w' := w3.alloc (.cells (mqCells m vc vw vf).toArray 49)) gz rfl rfl (.slice (some ⟨w3.heap.size, 0, none⟩) 1 1) (by intro cs b h; cases h) (by kernel_rfl) (by kernel_rfl) fun a17 H17 => ?_
      have hl4 := Reads.lit w3 49 (mqCells m vc vw vf) (0, 0) 24 1 rfl
      have hb4 : Below w3.heap.size w3 (w3.alloc (.cells (mqCells m vc vw vf).toArray 49)) := balloc _ _
      generalize w3.alloc (.cells (mqCells m vc vw vf).toArray 49) = w4 at *
      obtain ⟨BB, hBB, hinf⟩ := info_mqx
      have hrow4 := own_below hrow3 hb4
      have O4 := O3.call hb4
      refine H17.app hrow4 hinf hl4 (fun u hu => List.all_eq_true.1 hM2.ones u hu) (by unfold maxLen; omega) (Nat.le_trans (Nat.mul_le_mul (show l.length + 1 ≤ 80000 by omega) hBB) (by decide)) (Nat.le_trans (O3.lt 0 rfl) hb4.size) fun a18 A' c' w5 hO5 hgr5 H18 => ?_
      have O5 := O4.row hrow4 (Nat.le_succ _) hgr5 (fun p hp => by
        rw [List.mem_singleton.1 hp]
        exact own_ne hrow4 (.inl (Nat.lt_succ_self _)))
      have hby4 := own_below hby3 hb4
      have hby5 := hby4.kept hgr5 (own_apart hby4 hrow4 rfl)
      have hpk5 := Prows.snoc ((hpk3.next hb4).row hrow4 hgr5 rfl) hhi hb.size ⟨vc, vw, vf, rfl, (hR3.belowR hb4).row hrow4 hgr5 rfl, hlt2, hln, hsm⟩
      refine H18.ms 1 fun a19 H19 => nt ?_
      refine H19.rg 2 fun a20 H20 => ?_
      refine H20.go gz rfl rfl _ (run_slice_l rfl (H20.ev rfl) (H20.ev rfl) (slice_lo A y.length c nn hny hc _)) fun a21 H21 => ?_
      refine H21.ms 1 fun a22 H22 => nt ?_
      refine wp_goto ?_
      repeat (with_reducible refine then_goto ?_)
      refine jump_goto ⟨⟨y.drop nn, l ++ [m], _, c - nn, y.length - nn, _, cs ++ mqCells m vc vw vf, _, vb, ⟨H22.keep ⟨rfl, rfl, rfl, rfl, trivial⟩, List.length_drop, by omega, by rw [List.length_append, List.length_drop]; simp only [List.length_singleton]; omega, fun h => by rw [List.append_assoc]; exact hF (.one hy hP h), O5, rfl, by rw [List.length_append]; exact hO5, ⟨_, Nat.le_trans (Nat.le_of_eq hs3.symm) (Nat.le_trans hb4.size hgr5.size), hpk5⟩, hby5, fun w' h => (hrd w' h).cut (k := nn) (cap := c) hny hc⟩⟩, ?_⟩
      unfold muFeed
      rw [show a22.tmps.getD 9 undef = _ from H22.at_ 9 _ rfl]
      show y.length - nn < y.length
      omega
    refine H13.bb 0 rfl rfl rfl rfl rfl rfl (eql_35 er 0 false (by rw [beq_eq_false_iff_ne]; exact h0) _ _ _) rfl fun a14 H14 => nt (H14.condF rfl ?_)
    refine skip_wp (then_normal ?_)
    refine H14.rg 1 fun a15 H15 => ?_
    by_cases h7 : er = 7
    · subst h7
      refine H15.bb 0 rfl rfl rfl rfl rfl rfl (eql_35 7 7 true rfl _ _ _) rfl fun a16 H16 => nt (H16.condT rfl ?_)
      refine H16.rg 2 fun a17 H17 => ?_
      refine H17.cl (cloneC y A c w3 (hrd w3 hby3) (by omega)) ?_
      rintro a18 _ w4 ⟨A', c', rfl, hO4, hb4⟩ H18
      refine H18.ms 3 fun a19 H19 => nt (wp_ret ?_)
      repeat (first | (with_reducible refine jump_ret ?_) | (with_reducible refine then_ret ?_))
      refine bodyPost_ret (results_three rfl _ _ _ _ (H19.at_ 4 _ rfl) (H19.at_ 5 _ rfl) (H19.at_ 6 _ rfl)) H19.df ?_
      exact ⟨l, y, 0, vP, A', c', cs, by simpa using hF (.part hy hP), rfl, own_base (own_below hrow3 hb4) (Nat.le_succ _), PR.base ⟨hi, Nat.le_trans hi3 hb4.size, hpk3.next hb4⟩ (Nat.le_succ _), own_base hO4 O3.le, (O3.call hb4).bel⟩
    · refine H15.bb 0 rfl rfl rfl rfl rfl rfl (eql_35 er 7 false (by rw [beq_eq_false_iff_ne]; exact h7) _ _ _) rfl fun a16 H16 => nt (H16.condF rfl ?_)
      refine skip_wp (then_normal ?_)
      refine H16.rg 5 fun a17 H17 => nt (wp_ret ?_)
      repeat (first | (with_reducible refine jump_ret ?_) | (with_reducible refine then_ret ?_))
      refine bodyPost_ret (results_three rfl _ _ _ _ (H17.at_ 4 _ rfl) (H17.at_ 5 _ rfl) (H17.at_ 6 _ rfl)) H17.df ?_
      exact ⟨l, [], er, vP, none, 0, cs, by simpa using hF (.bad hy hP h0 h7), rfl, own_base hrow3 (Nat.le_succ _), PR.base ⟨hi, hi3, hpk3⟩ (Nat.le_succ _), World.ownsRow_nil _ _ _ _, O3.bel⟩
end Go.Proofs.YtlacidnnankjlaaGreatDoor

/-
  A frame to a client, of a segment from the kernel (kiosklaw28.back); what a client got.
-/
namespace Go.Proofs.YtlacidnnankjlaaGreatDoor
open Go.RowKit

set_option maxRecDepth 100000 in
set_option maxHeartbeats 1600000 in
theorem back28 (ip mac port : Nat) (iss sqp : Int) (vL : Value) (sq ak fl wn : Nat) (sp0 dp0 : Int) (xs : List UInt8) (A : Option Addr) (c : Nat) (hq : Sg.ok ⟨1883, port, sq, ak, fl, wn, xs⟩ = true) (hip : ip < 4294967296) (hm : mac < 281474976710656) (w : World) (hx : RB w w.heap.size A xs) :
    Calls Tryz.prog 13 #[.agg ([.int .i64 (ip : Int), .int .i64 (mac : Int), .int .i64 (port : Int), .int .i64 iss, vL, .int .i64 sqp] : List Value).toArray, .agg ([.int .i64 sp0, .int .i64 dp0, .int .i64 (sq : Int), .int .i64 (ak : Int), .int .i64 (fl : Int), .int .i64 (wn : Int), .slice A xs.length c] : List Value).toArray] w fun e w' => ∃ v, e = .returned v ∧ (RowIs w.heap.size (wire mac 2199023255553 167772161 ip ⟨1883, port, sq, ak, fl, wn, xs⟩) v w' ∧ Below w.heap.size w w') := by
  have hl : xs.length ≤ 1460 := (Sg.ok_iff.1 hq).2.2.2.2.2.2
  go_enter Tryz.func13, Tryz.ntmps13
  refine Has.start 23 [(0, .agg ([.int .i64 (ip : Int), .int .i64 (mac : Int), .int .i64 (port : Int), .int .i64 iss, vL, .int .i64 sqp] : List Value).toArray), (1, .agg ([.int .i64 sp0, .int .i64 dp0, .int .i64 (sq : Int), .int .i64 (ak : Int), .int .i64 (fl : Int), .int .i64 (wn : Int), .slice A xs.length c] : List Value).toArray)] rfl rfl ⟨rfl, rfl, trivial⟩ ?_
  intro a0 H0
  have O0 := Own.start w
  refine rl ?_
  refine H0.bx O0 0 (L := [.int .i64 (ip : Int), .int .i64 (mac : Int), .int .i64 (port : Int), .int .i64 iss, vL, .int .i64 sqp]) fun a w1 O1 H => ?_
  generalize hg : w.heap.size = g2 at O1 H
  refine H.bx O1 1 (L := [.int .i64 sp0, .int .i64 dp0, .int .i64 (sq : Int), .int .i64 (ak : Int), .int .i64 (fl : Int), .int .i64 (wn : Int), .slice A xs.length c]) fun a w2 O2 H => nt ?_
  generalize w1.heap.size = g3 at O2 H
  have bl : ∀ {bs : List (Nat × List Value)} {w'}, Own w g2 bs w' → Below w.heap.size w w' := fun h => hg ▸ h.bel
  replace H := H.keep (l' := [(2, .pointer (some ⟨g2, 0, none⟩)), (3, .pointer (some ⟨g3, 0, none⟩))]) ⟨rfl, rfl, trivial⟩
  refine H.sg (fun w' => Own w g2 [(g3, [.int .i64 sp0, .int .i64 dp0, .int .i64 (sq : Int), .int .i64 (ak : Int), .int .i64 (fl : Int), .int .i64 (wn : Int), .slice A xs.length c]), (g2, [.int .i64 (ip : Int), .int .i64 (mac : Int), .int .i64 (port : Int), .int .i64 iss, vL, .int .i64 sqp])] w') O2.drew [2, 3] [ec 0 6 (.pointer (some ⟨g2, 2, none⟩)), ec 1 7 (.int .i64 (port : Int)), ec 2 8 (.pointer (some ⟨g3, 0, none⟩))] rfl ?_
  refine St.sto 3 ⟨jm, jl fun _ h => h.li 1 2, jm, trivial⟩ ?_
  rintro a wu H _ Ou
  obtain ⟨k1, k2⟩ := (Ou.get 0 rfl) 0 _ rfl
  refine ⟨_, run_store rfl (H.ev rfl) rfl (store1_i g3 0 1883 _ _ k1 k2), nx0 (fun w' => Own w g2 [(g3, [.int .i64 1883, .int .i64 dp0, .int .i64 (sq : Int), .int .i64 (ak : Int), .int .i64 (fl : Int), .int .i64 (wn : Int), .slice A xs.length c]), (g2, [.int .i64 (ip : Int), .int .i64 (mac : Int), .int .i64 (port : Int), .int .i64 iss, vL, .int .i64 sqp])] w') [ec 4 9 (.pointer (some ⟨g3, 1, none⟩))] [] (Ou.turn 0 rfl (grown_setCell _ _ _ _) ((Ou.get 0 rfl).set 0 _ (Nat.succ_pos _))) ?_⟩
  refine St.sto 5 ⟨jm, jm, jl fun _ h => h.li 1 2, trivial⟩ ?_
  clear Ou k1 k2 H
  rintro a wu H _ Ou
  obtain ⟨k1, k2⟩ := (Ou.get 0 rfl) 1 _ rfl
  refine ⟨_, run_store rfl (H.ev rfl) (H.ev rfl) (store1_i g3 1 (port : Int) _ _ k1 k2), nx0 (fun w' => Own w g2 [(g3, [.int .i64 1883, .int .i64 (port : Int), .int .i64 (sq : Int), .int .i64 (ak : Int), .int .i64 (fl : Int), .int .i64 (wn : Int), .slice A xs.length c]), (g2, [.int .i64 (ip : Int), .int .i64 (mac : Int), .int .i64 (port : Int), .int .i64 iss, vL, .int .i64 sqp])] w') [] [] (Ou.turn 0 rfl (grown_setCell _ _ _ _) ((Ou.get 0 rfl).set 1 _ (Nat.succ_lt_succ (Nat.succ_pos _)))) (St.fin trivial ?_)⟩
  clear Ou k1 k2 H O2 O1
  intro a w3 H _ O3
  refine then_normal ?_
  replace H := H.keep (l' := [(2, .pointer (some ⟨g2, 0, none⟩)), (3, .pointer (some ⟨g3, 0, none⟩))]) ⟨rfl, rfl, trivial⟩
  have hg33 : g3 < w3.heap.size ∧ g2 < w3.heap.size := ⟨O3.lt 0 rfl, O3.lt 1 rfl⟩
  refine H.sg (fun w' => Own w g2 [(g3, [.int .i64 1883, .int .i64 (port : Int), .int .i64 (sq : Int), .int .i64 (ak : Int), .int .i64 (fl : Int), .int .i64 (wn : Int), .slice A xs.length c]), (g2, [.int .i64 (ip : Int), .int .i64 (mac : Int), .int .i64 (port : Int), .int .i64 iss, vL, .int .i64 sqp])] w' ∧ Below w3.heap.size w3 w') ⟨O3.drew, Below.drew (Below.refl _ _)⟩ [2, 3] [ec 0 10 (.pointer (some ⟨g2, 0, none⟩)), ec 1 11 (.int .i64 (ip : Int)), ec 2 12 (.pointer (some ⟨g2, 0, none⟩)), ec 3 13 (.int .i64 (ip : Int)), ec 4 14 (.agg ([.int .i64 1883, .int .i64 (port : Int), .int .i64 (sq : Int), .int .i64 (ak : Int), .int .i64 (fl : Int), .int .i64 (wn : Int), .slice A xs.length c] : List Value).toArray), er 7 5 [] (BoxQ w3.heap.size 89 (pkL .zero nilV))] rfl ?_
  have KK : ∀ wy, (Own w g2 [(g3, [.int .i64 1883, .int .i64 (port : Int), .int .i64 (sq : Int), .int .i64 (ak : Int), .int .i64 (fl : Int), .int .i64 (wn : Int), .slice A xs.length c]), (g2, [.int .i64 (ip : Int), .int .i64 (mac : Int), .int .i64 (port : Int), .int .i64 iss, vL, .int .i64 sqp])] wy ∧ Below w3.heap.size w3 wy) → _ := fun wy h => refSegBytesC ip 1883 port sq ak fl wn xs A c hq hip wy (hx.next (bl h.1))
  refine St.call 5 ⟨jm, jl fun _ h => h.1.li 1 0, jm, jl fun _ h => h.1.li 1 0, jl fun _ h => loadT (h.1.get 0 rfl) Tryz.underlying36 rfl size_sg27 rfl, ka zero_pk27 fun _ h => h.2.size, trivial⟩ KK ?_ (hF := .inr fun _ _ h hb => ⟨h.1.call hb, h.2.trans (hb.mono h.2.size)⟩) (hst := ⟨fun _ _ _ hb h => h.below hb, trivial⟩)
  rintro wx _ wz hh ⟨A1, c1, rfl, hO1, hb4⟩
  obtain ⟨bx, hbx⟩ : ∃ bx, wx.heap.size = bx := ⟨_, rfl⟩
  rw [hbx] at hO1
  refine nx (fun w' => (Own w g2 [(g3, [.int .i64 1883, .int .i64 (port : Int), .int .i64 (sq : Int), .int .i64 (ak : Int), .int .i64 (fl : Int), .int .i64 (wn : Int), .slice A xs.length c]), (g2, [.int .i64 (ip : Int), .int .i64 (mac : Int), .int .i64 (port : Int), .int .i64 iss, vL, .int .i64 sqp])] w' ∧ Below w3.heap.size w3 w') ∧ w'.ownsRow bx 5 1 (.slice A1 (20 + xs.length) c1) (20 + xs.length) ((sgBytes 167772161 ip 1883 port sq ak fl wn xs).map bv) ∧ bx ≤ w'.heap.size) [ec 6 16 (.agg ([.int .i64 167772161, .int .i64 (ip : Int), .int .i64 6, .int .i64 64, .int .i64 0, .slice A1 (20 + xs.length) c1] : List Value).toArray)] [] ⟨⟨hh.1.call hb4, hh.2.trans (hb4.mono hh.2.size)⟩, hO1, hbx ▸ hb4.size⟩ ?_ (hk := StabAll.keeps hb4 ⟨fun _ _ _ hb h => h.below hb, trivial⟩)
  refine St.sto 8 ⟨ja (fun _ => by kernel_rfl), jm, jl fun _ h => h.1.1.li 1 0, ka zero_pk27 fun _ h => h.1.2.size, trivial⟩ ?_ (hF := .inr fun _ _ h hb => ⟨⟨h.1.1.call hb, h.1.2.trans (hb.mono h.1.2.size)⟩, own_below h.2.1 hb, Nat.le_trans h.2.2 hb.size⟩) (hst := ⟨fun _ _ _ hb h => h.below hb, trivial⟩)
  rintro a wu H ⟨⟨g5, e5, hg1, hg2, hC, hTy⟩, _⟩ h
  obtain ⟨w', hr', hgr, hs', hC'⟩ := hC.sto (L := [.int .i64 167772161, .int .i64 (ip : Int), .int .i64 6, .int .i64 64, .int .i64 0, .slice A1 (20 + xs.length) c1]) size_pk27 rfl rfl rfl
  have O4 := h.1.1.addq hgr (by omega) hg2 (by
    intro p hp
    simp only [List.mem_cons, List.not_mem_nil, or_false] at hp
    rcases hp with rfl | rfl
    · show g3 ≠ g5; omega
    · show g2 ≠ g5; omega) hC'
  refine ⟨w', run_store rfl e5 (H.ev rfl) hr', nxp (fun w' => Own w g2 [(g5, [.int .i64 167772161, .int .i64 (ip : Int), .int .i64 6, .int .i64 64, .int .i64 0, .slice A1 (20 + xs.length) c1]), (g3, [.int .i64 1883, .int .i64 (port : Int), .int .i64 (sq : Int), .int .i64 (ak : Int), .int .i64 (fl : Int), .int .i64 (wn : Int), .slice A xs.length c]), (g2, [.int .i64 (ip : Int), .int .i64 (mac : Int), .int .i64 (port : Int), .int .i64 iss, vL, .int .i64 sqp])] w' ∧ w'.ownsRow bx 5 1 (.slice A1 (20 + xs.length) c1) (20 + xs.length) ((sgBytes 167772161 ip 1883 port sq ak fl wn xs).map bv) ∧ bx ≤ w'.heap.size) [ec 7 5 (.pointer (some ⟨g5, 0, none⟩))] [] [7] ⟨O4, h.2.1.kept hgr (.inr (hTy.far h.2.1 rfl).symm), Nat.le_trans h.2.2 hgr.size⟩ ⟨⟨rfl, rfl, _, rfl, e5⟩, trivial⟩ (St.fin trivial ?_ (hF := .inl rfl))⟩
  clear h O4 hr' hgr hs' hC' hC hTy e5 H hh hO1 hb4
  rintro a w4 H _ ⟨O4, hO4, hs4⟩
  refine then_normal ?_
  have hr4 := rb_of_own (sgBytes_length 167772161 ip 1883 port sq ak fl wn xs) hO4 hs4
  have hpk := wire_ip (src := 167772161) (dst := ip) (q := ⟨1883, port, sq, ak, fl, wn, xs⟩) (by decide) hip hl
  have hlen : (ipHead 167772161 ip 6 64 0 (20 + xs.length) ++ sgBytes 167772161 ip 1883 port sq ak fl wn xs).length = 20 + (20 + xs.length) := by simp [ipHead_length, sgBytes_length]
  replace H := H.keep (l' := [(2, .pointer (some ⟨g2, 0, none⟩)), (5, .pointer (some ⟨g5, 0, none⟩))]) ⟨rfl, rfl, trivial⟩
  refine H.sg (fun w' => Own w g2 [(g5, [.int .i64 167772161, .int .i64 (ip : Int), .int .i64 6, .int .i64 64, .int .i64 0, .slice A1 (20 + xs.length) c1]), (g3, [.int .i64 1883, .int .i64 (port : Int), .int .i64 (sq : Int), .int .i64 (ak : Int), .int .i64 (fl : Int), .int .i64 (wn : Int), .slice A xs.length c]), (g2, [.int .i64 (ip : Int), .int .i64 (mac : Int), .int .i64 (port : Int), .int .i64 iss, vL, .int .i64 sqp])] w' ∧ RB w' w'.heap.size A1 (sgBytes 167772161 ip 1883 port sq ak fl wn xs)) ⟨O4.drew, hr4.next (Below.drew (Below.refl _ _))⟩ [2, 5] [ec 0 17 (.pointer (some ⟨g2, 1, none⟩)), ec 1 18 (.int .i64 (mac : Int)), ec 2 19 (.agg ([.int .i64 167772161, .int .i64 (ip : Int), .int .i64 6, .int .i64 64, .int .i64 0, .slice A1 (20 + xs.length) c1] : List Value).toArray)] rfl ?_
  have KK2 : ∀ wy, (Own w g2 [(g5, [.int .i64 167772161, .int .i64 (ip : Int), .int .i64 6, .int .i64 64, .int .i64 0, .slice A1 (20 + xs.length) c1]), (g3, [.int .i64 1883, .int .i64 (port : Int), .int .i64 (sq : Int), .int .i64 (ak : Int), .int .i64 (fl : Int), .int .i64 (wn : Int), .slice A xs.length c]), (g2, [.int .i64 (ip : Int), .int .i64 (mac : Int), .int .i64 (port : Int), .int .i64 iss, vL, .int .i64 sqp])] wy ∧ RB wy wy.heap.size A1 (sgBytes 167772161 ip 1883 port sq ak fl wn xs)) → _ := fun wy h => refPBytesC ip (sgBytes 167772161 ip 1883 port sq ak fl wn xs) (20 + xs.length) (sgBytes_length ..) A1 c1 hpk wy h.2
  refine St.call 3 ⟨jm, jl fun _ h => h.1.li 2 1, jl fun _ h => loadT (h.1.get 0 rfl) Tryz.underlying89 rfl size_pk27 rfl, trivial⟩ KK2 ?_
  rintro wx2 _ wz hh ⟨A2, c2, rfl, hO2, hb6⟩
  have hr6 := rb_of_own hlen hO2 hb6.size
  refine nx (fun w' => Own w g2 [(g5, [.int .i64 167772161, .int .i64 (ip : Int), .int .i64 6, .int .i64 64, .int .i64 0, .slice A1 (20 + xs.length) c1]), (g3, [.int .i64 1883, .int .i64 (port : Int), .int .i64 (sq : Int), .int .i64 (ak : Int), .int .i64 (fl : Int), .int .i64 (wn : Int), .slice A xs.length c]), (g2, [.int .i64 (ip : Int), .int .i64 (mac : Int), .int .i64 (port : Int), .int .i64 iss, vL, .int .i64 sqp])] w' ∧ RB w' w'.heap.size A2 (ipHead 167772161 ip 6 64 0 (20 + xs.length) ++ sgBytes 167772161 ip 1883 port sq ak fl wn xs)) [ec 4 21 (.agg ([.int .i64 ((mac : Nat) : Int), .int .i64 ((2199023255553 : Nat) : Int), .int .i64 ((2048 : Nat) : Int), .slice A2 (20 + (20 + xs.length)) c2] : List Value).toArray)] [] ⟨hh.1.call hb6, hr6⟩ ?_
  have KK3 : ∀ wy, (Own w g2 [(g5, [.int .i64 167772161, .int .i64 (ip : Int), .int .i64 6, .int .i64 64, .int .i64 0, .slice A1 (20 + xs.length) c1]), (g3, [.int .i64 1883, .int .i64 (port : Int), .int .i64 (sq : Int), .int .i64 (ak : Int), .int .i64 (fl : Int), .int .i64 (wn : Int), .slice A xs.length c]), (g2, [.int .i64 (ip : Int), .int .i64 (mac : Int), .int .i64 (port : Int), .int .i64 iss, vL, .int .i64 sqp])] wy ∧ RB wy wy.heap.size A2 (ipHead 167772161 ip 6 64 0 (20 + xs.length) ++ sgBytes 167772161 ip 1883 port sq ak fl wn xs)) → Calls Tryz.prog 54 #[.agg ([.int .i64 ((mac : Nat) : Int), .int .i64 ((2199023255553 : Nat) : Int), .int .i64 ((2048 : Nat) : Int), .slice A2 (20 + (20 + xs.length)) c2] : List Value).toArray] wy fun e w' => ∃ v, e = .returned v ∧ (RowIs wy.heap.size (frBytes mac 2199023255553 2048 (ipHead 167772161 ip 6 64 0 (20 + xs.length) ++ sgBytes 167772161 ip 1883 port sq ak fl wn xs)) v w' ∧ Below wy.heap.size wy w') := fun wy h => hlen ▸ pageFrameBytes mac 2199023255553 2048 (ipHead 167772161 ip 6 64 0 (20 + xs.length) ++ sgBytes 167772161 ip 1883 port sq ak fl wn xs) A2 c2 wy hm (by decide) (by decide) h.2 (by rw [hlen]; omega)
  refine St.call 5 ⟨ja (fun _ => by kernel_rfl), jm, jl fun _ h => h.1.li 2 1, trivial⟩ KK3 ?_
  clear hO2 hr6 hh hb6
  rintro wx3 v wz hh ⟨hrow, hb7⟩
  refine nx (fun w' => Own w g2 [(g5, [.int .i64 167772161, .int .i64 (ip : Int), .int .i64 6, .int .i64 64, .int .i64 0, .slice A1 (20 + xs.length) c1]), (g3, [.int .i64 1883, .int .i64 (port : Int), .int .i64 (sq : Int), .int .i64 (ak : Int), .int .i64 (fl : Int), .int .i64 (wn : Int), .slice A xs.length c]), (g2, [.int .i64 (ip : Int), .int .i64 (mac : Int), .int .i64 (port : Int), .int .i64 iss, vL, .int .i64 sqp])] w' ∧ RowIs w.heap.size (frBytes mac 2199023255553 2048 (ipHead 167772161 ip 6 64 0 (20 + xs.length) ++ sgBytes 167772161 ip 1883 port sq ak fl wn xs)) v w') [ec 6 4 v] [] ⟨hh.1.call hb7, hrow.base (hg ▸ hh.1.le)⟩ (St.fin ⟨jm, trivial⟩ ?_)
  clear hrow hb7 hh
  rintro a w8 H _ ⟨O8, hr8⟩
  refine then_normal (wp_ret ?_)
  repeat (first | (with_reducible refine block_ret ?_) | (with_reducible refine then_ret ?_))
  refine bodyPost_ret (results_tmp rfl _ _ _) H.df ⟨v, congrArg Ending.returned (H.at_ 4 _ rfl), ?_, O8.bel⟩
  have e : wire mac 2199023255553 167772161 ip ⟨1883, port, sq, ak, fl, wn, xs⟩ = frBytes mac 2199023255553 2048 (ipHead 167772161 ip 6 64 0 (20 + xs.length) ++ sgBytes 167772161 ip 1883 port sq ak fl wn xs) := by
    unfold wire Pk.bytes Sg.bytes
    show frBytes mac 2199023255553 2048 (ipHead 167772161 ip 6 64 0 (sgBytes 167772161 ip 1883 port sq ak fl wn xs).length ++ _) = _
    rw [sgBytes_length]
    rfl
  rw [e]
  exact hg ▸ hr8
set_option maxRecDepth 100000 in
/-- what a client got. -/
theorem cliGot (g ip mac port iss next wants : Nat) (up : Bool) (xs : List UInt8) (A : Option Addr) (c : Nat) (vl : Value) (w : World) (hC : Cells w g (cliC ip mac port iss next wants up (.slice A xs.length c) vl)) (hx : RB w w.heap.size A xs) (hn : xs.length ≤ 40000) (hT : Wd w) :
    Calls Tryz.prog 15 #[.pointer (some ⟨g, 0, none⟩)] w fun e w' => ∃ v, e = .returned v ∧ ∃ l left er vP cs, v = .tuple #[vP, .int .i64 er] ∧ Fed xs l left er ∧ w'.ownsRow w.heap.size 49 24 vP l.length cs ∧ PR w' w.heap.size l cs ∧ Below w.heap.size w w' := by
  go_enter Tryz.func15, Tryz.ntmps15
  refine Has.start 18 [(0, .pointer (some ⟨g, 0, none⟩))] rfl rfl ⟨rfl, trivial⟩ ?_
  intro a0 H0
  refine H0.rg 2 fun a H => nt ?_
  refine H.rg 3 fun a H => ?_
  refine H.ld 0 (load1_31 _ _ _ _ _ _ (hC.get 7 _ rfl)) fun a H => ?_
  have KK : Calls Tryz.prog 56 #[nilV, .slice A xs.length c] w fun e w' => ∃ v, e = .returned v ∧ ∃ l left er vP AL cL cs, v = .tuple #[vP, .slice AL left.length cL, .int .i64 er] ∧ Fed xs l left er ∧ w'.ownsRow w.heap.size 49 24 vP l.length cs ∧ PR w' w.heap.size l cs ∧ Below w.heap.size w w' := (feedW [] xs none A 0 c w RB.nil hx (by decide) hn hT).mono fun _ _ ⟨l, left, er, vP, AL, cL, cs, h1, h2, h3, h4, _, h6⟩ => ⟨_, h2, l, left, er, vP, AL, cL, cs, rfl, h1, h3, h4, h6⟩
  refine H.cl KK ?_
  rintro a _ w1 ⟨l, left, er, vP, AL, cL, cs, rfl, hF, hO, hP, hb⟩ H
  refine H.ms 1 fun a H => ?_
  refine H.ex (r := vP) 0 fun a H => ?_
  refine H.ex (r := .slice AL left.length cL) 0 fun a H => ?_
  refine H.ex (r := .int .i64 er) 3 fun a H => nt ?_
  refine H.rg 4 fun a H => nt (wp_ret ?_)
  repeat (first | (with_reducible refine block_ret ?_) | (with_reducible refine then_ret ?_))
  exact bodyPost_ret (results_pair rfl _ _ _ (H.at_ 2 _ rfl) (H.at_ 3 _ rfl)) H.df ⟨_, rfl, l, left, er, vP, cs, rfl, hF, hO, hP, hb⟩
end Go.Proofs.YtlacidnnankjlaaGreatDoor

/-
  Rows of frames: made, made longer.
-/
namespace Go.Proofs.YtlacidnnankjlaaGreatDoor
open Go.RowKit

/-- a frame's bytes, in blocks from b on. -/
def FrIs (b : Nat) (x : List UInt8) (u : Value) (w : World) : Prop := ∃ A c, u = .slice A x.length c ∧ x.length ≤ c ∧ RBS w (fun k => b ≤ k) A x
theorem FrIs.next {b : Nat} {x : List UInt8} {u : Value} {w w' : World} (h : FrIs b x u w) (hb : Below w.heap.size w w') : FrIs b x u w' := by
  obtain ⟨A, c, h1, h2, h3⟩ := h
  exact ⟨A, c, h1, h2, h3.grown (below_grown hb none) (fun k e => by cases e)⟩
theorem FrIs.base {b b' : Nat} {x : List UInt8} {u : Value} {w : World} (h : FrIs b x u w) (hb : b' ≤ b) : FrIs b' x u w := by
  obtain ⟨A, c, h1, h2, h3⟩ := h
  exact ⟨A, c, h1, h2, h3.mono fun k _ hk => Nat.le_trans hb hk⟩
theorem FrIs.of {b : Nat} {x : List UInt8} {u : Value} {w : World} (h : RowIs b x u w) : FrIs b x u w := by
  obtain ⟨A, c, rfl, hO⟩ := h
  exact ⟨A, c, rfl, own_cap hO, (RBS.of_row hO rfl).mono fun k _ hk => hk.1⟩
theorem FrIs.shape {b : Nat} {x : List UInt8} {u : Value} {w : World} (h : FrIs b x u w) : ∃ A n c, u = .slice A n c ∧ FrIs b x (.slice A n c) w := by
  obtain ⟨A, c, rfl, h2, h3⟩ := h
  exact ⟨A, x.length, c, rfl, A, c, rfl, h2, h3⟩
/-- a row of frames that one may write. -/
def FrRow (b : Nat) (fs : List (Value × List UInt8)) (v : Value) (w : World) : Prop :=
  w.ownsRow b 31 1 v fs.length (fs.map (·.1)) ∧ ∀ p ∈ fs, ∃ A c, p.1 = .slice A p.2.length c ∧ p.2.length ≤ c ∧ RBS w (fun k => some k ≠ v.ownBlock) A p.2
theorem FrRow.next {b : Nat} {fs : List (Value × List UInt8)} {v : Value} {w w' : World} (h : FrRow b fs v w) (hb : Below w.heap.size w w') : FrRow b fs v w' := by
  refine ⟨own_below h.1 hb, fun p hp => ?_⟩
  obtain ⟨A, c, h1, h2, h3⟩ := h.2 p hp
  exact ⟨A, c, h1, h2, h3.grown (below_grown hb none) (fun k e => by cases e)⟩
theorem FrRow.frs {b : Nat} {fs : List (Value × List UInt8)} {v : Value} {w : World} (h : FrRow b fs v w) : ∃ A c, v = .slice A (fs.map (·.2)).length c ∧ FrsS w (fun _ => True) A (fs.map (·.2)) := by
  obtain ⟨A, c, rfl, _, _⟩ := own_shape h.1
  refine ⟨A, c, by rw [List.length_map], fun k x hk => ?_⟩
  rw [List.getElem?_map] at hk
  cases hp : fs[k]? with
  | none => rw [hp] at hk; cases hk
  | some p =>
    rw [hp] at hk
    injection hk with hk
    subst hk
    have hlt : k < fs.length := (List.getElem?_eq_some_iff.1 hp).1
    obtain ⟨g, cap, hA, _, hgl⟩ := h.1.form (by omega)
    injection hA with e1 _ e2
    subst e1 e2
    have hck := h.1.cells (g := g) rfl k p.1 (by rw [List.getElem?_map, hp]; rfl)
    rw [Addr.add_mid] at hck
    obtain ⟨A', c', h1, h2, h3⟩ := h.2 p (List.mem_of_getElem? hp)
    exact ⟨g, 0, A', c', rfl, trivial, hgl, by rw [← h1]; exact hck, h2, h3.mono fun _ _ _ => trivial⟩
theorem FrRow.le {b : Nat} {fs : List (Value × List UInt8)} {v : Value} {w : World} (h : FrRow b fs v w) (hn : 0 < fs.length) : b ≤ w.heap.size := by
  obtain ⟨g, cap, _, h1, h2⟩ := h.1.form hn
  omega
theorem RowIs.next {b : Nat} {xs : List UInt8} {v : Value} {w w' : World} (h : RowIs b xs v w) (hb : Below w.heap.size w w') : RowIs b xs v w' := h.below hb
theorem RowIs.rb {b n c : Nat} {A : Option Addr} {xs : List UInt8} {w : World} (h : RowIs b xs (.slice A n c) w) : RB w w.heap.size A xs := by
  obtain ⟨A', c', e, hr⟩ := h.read
  injection e with e1 _ _
  rw [e1]
  exact hr
theorem FrRow.at_ {b n c : Nat} {A : Option Addr} {fs : List (Value × List UInt8)} {w : World} (h : FrRow b fs (.slice A n c) w) : FrsS w (fun _ => True) A (fs.map (·.2)) := by
  obtain ⟨A', c', e, hf⟩ := h.frs
  injection e with e1 _ _
  rw [e1]
  exact hf
theorem FrRow.lit {b : Nat} {fs : List (Value × List UInt8)} {w : World} (h : ∀ p ∈ fs, FrIs b p.2 p.1 w) (hn : fs.length ≤ maxLen) : FrRow w.heap.size fs (.slice (some ⟨w.heap.size, 0, none⟩) fs.length fs.length) (w.alloc (.cells (fs.map (·.1)).toArray 31)) := by
  refine ⟨own_lit w (fs.map (·.1)) 31 1 fs.length (by rw [List.length_map, Nat.mul_one]) hn, fun p hp => ?_⟩
  obtain ⟨A, c, h1, h2, h3⟩ := h p hp
  exact ⟨A, c, h1, h2, (h3.mono (S' := fun k => k < w.heap.size) fun k hk _ => hk).grown (below_grown (balloc w _) none) (fun k e => by cases e) |>.mono fun k _ hk e => absurd (show k = w.heap.size by injection e) (Nat.ne_of_lt (show k < w.heap.size from hk))⟩
theorem FrRow.app {b b2 : Nat} {fs fs2 : List (Value × List UInt8)} {v v' : Value} {w w' : World} (h : FrRow b fs v w) (h2 : ∀ p ∈ fs2, FrIs b2 p.2 p.1 w) (hv : ∀ k, b2 ≤ k → some k ≠ v.ownBlock)
    (hO : w'.ownsRow b 31 1 v' (fs.length + fs2.length) (fs.map (·.1) ++ fs2.map (·.1))) (hg : w.grownBy w' v.ownBlock) (hfr : v'.ownBlock = v.ownBlock ∨ v'.ownBlock = some w.heap.size) : FrRow b (fs ++ fs2) v' w' := by
  refine ⟨by rw [List.length_append, List.map_append]; exact hO, fun p hp => ?_⟩
  have key : ∃ A c, p.1 = .slice A p.2.length c ∧ p.2.length ≤ c ∧ RBS w (fun k => some k ≠ v.ownBlock) A p.2 := by
    rcases List.mem_append.1 hp with hp | hp
    · exact h.2 p hp
    · obtain ⟨A, c, h1, h3, h4⟩ := h2 p hp
      exact ⟨A, c, h1, h3, h4.mono fun k _ hk => hv k hk⟩
  obtain ⟨A, c, h1, h3, h4⟩ := key
  refine ⟨A, c, h1, h3, ((h4.mono (S' := fun k => some k ≠ v.ownBlock ∧ k < w.heap.size) fun k hk hS => ⟨hS, hk⟩).grown hg (fun k e hS => hS.1 e.symm)).mono fun k _ hS => ?_⟩
  rcases hfr with hf | hf
  · rw [hf]; exact hS.1
  · rw [hf]; intro e; injection e with e; omega
theorem Has.appF {ops : Array Oper} {rest : List Oper} {o : Oper} {a : Act} {w : World} {Q : Exit → Act → World → Prop} {n : Nat} {l : List (Nat × Value)} (H : Has a n l) {s x : Operand} {t e : TypeId} {d base size bytes k m c : Nat} {z u : Value} {A : Option Addr} {xs ys : List Value} (hown : w.ownsRow base e size u k xs) (hi : (Tryz.prog.info? e).map (fun i => (i.zero, i.size, i.bytes)) = some (some z, size, bytes))
    (hr : Reads w w.heap.size size A m ys) (h1 : ∀ u ∈ ys, u.oneCell' = true) (hn : k + m ≤ maxLen) (hb : (k + m) * bytes ≤ 140737488355328) (hbase : base ≤ w.heap.size) (h : ∀ a' A' c' w', w'.ownsRow base e size (.slice A' (k + m) c') (k + m) (xs ++ ys) → w.grownBy w' u.ownBlock → ((Value.slice A' (k + m) c').ownBlock = u.ownBlock ∨ (Value.slice A' (k + m) c').ownBlock = some w.heap.size) → Has a' n ((d, .slice A' (k + m) c') :: l) → wpList Tryz.prog ops Q rest a' w')
    (ho : o.op = .call { callee := .builtin .append, args := #[s, x], argTypes := #[t, t] } := by rfl) (hd : o.dst = some d := by rfl) (hnn : Nat.blt d n = true := by rfl) (hg : o.guard = none := by rfl) (ht : Tryz.prog.underlying t = some (.slice e) := by kernel_rfl) (hzs : z.cells.size = size := by rfl) (hsz : 0 < size := by decide)
    (hs : evL l s = some u := by rfl) (hx : evL l x = some (.slice A m c) := by rfl) : wpList Tryz.prog ops Q (o :: rest) a w := by
  obtain ⟨A', c', w', hrun, hO, hgr, hfr⟩ := run_appF (a := a) ho ht hi hzs hsz (H.ev hs) hown (H.ev hx) hr h1 hn hb hbase
  exact H.go (gz hg) hd hnn _ hrun fun a' H' => h a' A' c' w' hO hgr hfr H'
/-- a constant's bytes: a literal, turned to its own type. -/
theorem Has.cs {ops : Array Oper} {rest : List Oper} {o1 o2 : Oper} {a : Act} {w : World} {Q : Exit → Act → World → Prop} {n : Nat} {l : List (Nat × Value)} (H : Has a n l) {d1 d2 : Nat} (xs : List UInt8) (vs : List Value) (hxs : vs = xs.map bv) (k : Nat) (hk : xs.length = k) (h : ∀ a' A w', Has a' n ((d2, .slice A k k) :: (d1, .slice A k k) :: l) → RB w' w'.heap.size A xs → Below w.heap.size w w' → wpList Tryz.prog ops Q rest a' w')
    (hd1 : o1.dst = some d1 := by rfl) (hn1 : Nat.blt d1 n = true := by rfl) (hg1 : o1.guard = none := by rfl) (hs : ∀ cs b, o1.op ≠ .select cs b := by intro cs b h; cases h) (hops : o1.op.operands.all (fun x => (evL l x).isSome) = true := by kernel_rfl)
    (hrun : (execOp (fun x => (evL l x).getD undef) o1).run Tryz.prog w = .ok (.value (.slice (some ⟨w.heap.size, 0, none⟩) k k)) (w.alloc (.cells vs.toArray 5)) := by kernel_rfl)
    (ho2 : o2.op = .convert 31 31 (.tmp d1) := by rfl) (hd2 : o2.dst = some d2 := by rfl) (hn2 : Nat.blt d2 n = true := by rfl) (hg2 : o2.guard = none := by rfl) : wpList Tryz.prog ops Q (o1 :: o2 :: rest) a w := by
  have hkc := Lib.run_convert_bytes_const (P := Tryz.prog) w 31 5 vs.toArray k k Tryz.underlying31 Tryz.underlying5
  refine H.go (gz hg1) hd1 hn1 _ (run_any H hs hops hrun) fun a1 H1 => ?_
  refine H1.go (w' := w.alloc (.cells vs.toArray 5 (vs.toArray.size, vs.toArray.size + 1))) (gz hg2) hd2 hn2 (.slice (some ⟨w.heap.size, 0, none⟩) k k) ?_ fun a2 H2 => h a2 _ _ H2 ?_ (balloc w _)
  · unfold execOp
    simp only [ho2, H1.ev (show evL ((d1, Value.slice (some ⟨w.heap.size, 0, none⟩) k k) :: l) (.tmp d1) = some (.slice (some ⟨w.heap.size, 0, none⟩) k k) by show (bif Nat.beq d1 d1 then _ else _) = _; rw [Nat.beq_refl, cond_true]), Sem.run_bind, hkc, Result.andThen_ok, Sem.run_pure]
  · subst hk
    exact RB.lit w 5 vs.toArray _ xs (by simpa using hxs)
section
variable {ops : Array Oper} {Q : Exit → Act → World → Prop} {n : Nat} {l : List (Nat × Value)} {Wp : World → Prop} {i s : Nat} {v : Value} {o : Oper}
end
end Go.Proofs.YtlacidnnankjlaaGreatDoor

/-
  The page's ParseFrame.
-/
namespace Go.Proofs.YtlacidnnankjlaaGreatDoor
open Go.RowKit

/-- a frame (or none) and an error, its bytes in the call's own memory. -/
def FrmAt (w : World) (r : Frm × Int) (v : Value) (w' : World) : Prop :=
  ∃ A c, v = .tuple #[.agg #[.int .i64 (r.1.d : Int), .int .i64 (r.1.s : Int), .int .i64 (r.1.t : Int), .slice A r.1.xs.length c], .int .i64 r.2] ∧ w'.ownsRow w.heap.size 5 1 (.slice A r.1.xs.length c) r.1.xs.length (r.1.xs.map bv) ∧ Below w.heap.size w w'
theorem size_frm : (Tryz.prog.info? 85).map (·.size) = some 4 := by kernel_rfl
theorem zero_frm (w : World) : (zeroValue 85).run Tryz.prog w = .ok (.agg ([.int .i64 0, .int .i64 0, .int .i64 0, nilV] : List Value).toArray) w := by kernel_rfl
theorem take_drop6 (xs : List UInt8) (k m : Nat) : (xs.take (k + m)).drop k = (xs.drop k).take m := by
  rw [List.drop_take, Nat.add_sub_cancel_left]
theorem copyNC (xs : List UInt8) (n : Nat) (hl : xs.length = n) (A : Option Addr) (c : Nat) (w : World) (hx : RB w w.heap.size A xs) (hn : n ≤ 140737488351232) :
    Calls Tryz.prog 59 #[.slice A n c] w fun e w' => ∃ v, e = .returned v ∧ (∃ A' c', v = .slice A' n c' ∧ w'.ownsRow w.heap.size 5 1 (.slice A' n c') n (xs.map bv) ∧ Below w.heap.size w w') :=
  (copyN xs n hl A c w hx hn).mono fun _ _ ⟨A', c', h1, h2⟩ => ⟨_, h1, A', c', rfl, h2⟩
set_option maxRecDepth 100000 in
set_option maxHeartbeats 1600000 in
theorem parseFrame (xs : List UInt8) (n : Nat) (hn : xs.length = n) (A : Option Addr) (c : Nat) (hnc : n ≤ c) (w : World) (hx : RB w w.heap.size A xs) (hl : n ≤ 140737488351232) :
    Calls Tryz.prog 78 #[.slice A n c] w fun e w' => ∃ v, e = .returned v ∧ FrmAt w (frOut xs) v w' := by
  go_enter Tryz.func78, Tryz.ntmps78
  refine Has.start 25 [(0, .slice A n c)] rfl rfl ⟨rfl, trivial⟩ ?_
  intro a0 H0
  have O0 := Own.start w
  refine rl ?_
  refine H0.al O0 1 zero_frm fun a1 w1 O1 H1 => nt ?_
  generalize hg : w.heap.size = g at O1 H1
  refine H1.rg 1 fun a2 H2 => ?_
  refine H2.len gz rfl rfl rfl rfl Tryz.underlying31 fun a3 H3 => ?_
  by_cases h14 : n < 14
  · refine H3.bb 0 rfl rfl rfl rfl rfl rfl (lss_i _ _ true (by rw [decide_eq_true_iff]; omega) _ _ _) rfl fun a4 H4 => nt (H4.condT rfl ?_)
    refine rl ?_
    refine H4.any (w' := w1) gz rfl rfl (.agg ([.int .i64 0, .int .i64 0, .int .i64 0, nilV] : List Value).toArray) (by intro cs b h; cases h) (by kernel_rfl) (by kernel_rfl) fun a5 H5 => ?_
    refine H5.st O1 0 1 (L := [.int .i64 0, .int .i64 0, .int .i64 0, nilV]) (fun a6 w2 O2 H6 => nt (wp_ret ?_)) size_frm
    repeat (first | (with_reducible refine block_ret ?_) | (with_reducible refine then_ret ?_))
    refine bodyPost_ret (results_two Tryz.results78 _ _ _ (H6.at_ 2 _ rfl) (H6.at_ 3 _ rfl) (O2.get 0 rfl) Tryz.underlying85 rfl _ size_frm rfl) H6.df ⟨_, rfl, ?_⟩
    unfold frOut
    rw [if_pos (by omega)]
    exact ⟨none, 0, rfl, World.ownsRow_nil _ _ _ _, hg ▸ O2.bel⟩
  refine H3.bb 0 rfl rfl rfl rfl rfl rfl (lss_i _ _ false (by rw [decide_eq_false_iff_not]; omega) _ _ _) rfl fun a4 H4 => nt (H4.condF rfl (skip_wp (then_normal ?_)))
  refine H4.rg 1 fun a5 H5 => ?_
  refine H5.len gz rfl rfl rfl rfl Tryz.underlying31 fun a6 H6 => ?_
  by_cases h15 : 1514 < n
  · refine H6.bb 0 rfl rfl rfl rfl rfl rfl (gtr_i _ _ true (by rw [decide_eq_true_iff]; omega) _ _ _) rfl fun a7 H7 => nt (H7.condT rfl ?_)
    refine rl ?_
    refine H7.any (w' := w1) gz rfl rfl (.agg ([.int .i64 0, .int .i64 0, .int .i64 0, nilV] : List Value).toArray) (by intro cs b h; cases h) (by kernel_rfl) (by kernel_rfl) fun a8 H8 => ?_
    refine H8.st O1 0 1 (L := [.int .i64 0, .int .i64 0, .int .i64 0, nilV]) (fun a9 w2 O2 H9 => nt (wp_ret ?_)) size_frm
    repeat (first | (with_reducible refine block_ret ?_) | (with_reducible refine then_ret ?_))
    refine bodyPost_ret (results_two Tryz.results78 _ _ _ (H9.at_ 2 _ rfl) (H9.at_ 3 _ rfl) (O2.get 0 rfl) Tryz.underlying85 rfl _ size_frm rfl) H9.df ⟨_, rfl, ?_⟩
    unfold frOut
    rw [if_neg (by omega), if_pos (by omega)]
    exact ⟨none, 0, rfl, World.ownsRow_nil _ _ _ _, hg ▸ O2.bel⟩
  refine H6.bb 0 rfl rfl rfl rfl rfl rfl (gtr_i _ _ false (by rw [decide_eq_false_iff_not]; omega) _ _ _) rfl fun a7 H7 => nt (H7.condF rfl (skip_wp (then_normal ?_)))
  replace H7 := H7.keep (l' := [(0, .slice A n c), (2, .pointer (some ⟨g, 0, none⟩))]) ⟨rfl, rfl, trivial⟩
  have l1 : (xs.take 6).length = 6 := by rw [List.length_take]; omega
  have l2 : ((xs.drop 6).take 6).length = 6 := by rw [List.length_take, List.length_drop]; omega
  have l3 : ((xs.drop 12).take 2).length = 2 := by rw [List.length_take, List.length_drop]; omega
  have l4 : (xs.drop 14).length = n - 14 := by rw [List.length_drop]; omega
  have bl : ∀ {w' : World}, Own w g [(g, [.int .i64 0, .int .i64 0, .int .i64 0, nilV])] w' → Below w.heap.size w w' := fun h => hg ▸ h.bel
  have r2 : ∀ {w' : World}, Below w.heap.size w w' → RB w' w'.heap.size (if c = 6 then A else A.map (·.add 6)) ((xs.drop 6).take 6) := fun h => by
    have := ((hx.next h).take 12).cut (k := 6) (cap := c) (by rw [List.length_take]; omega) (by rw [List.length_take]; omega)
    rw [show (12 : Nat) = 6 + 6 from rfl, take_drop6] at this
    exact this
  have r3 : ∀ {w' : World}, Below w.heap.size w w' → RB w' w'.heap.size (if c = 12 then A else A.map (·.add 12)) ((xs.drop 12).take 2) := fun h => by
    have := ((hx.next h).take 14).cut (k := 12) (cap := c) (by rw [List.length_take]; omega) (by rw [List.length_take]; omega)
    rw [show (14 : Nat) = 12 + 2 from rfl, take_drop6] at this
    exact this
  have r4 : ∀ {w' : World}, Below w.heap.size w w' → RB w' w'.heap.size (if c = 14 then A else A.map (·.add 14)) (xs.drop 14) := fun h => (hx.next h).cut (k := 14) (cap := c) (by omega) (by omega)
  refine H7.sg (fun w' => Own w g [(g, [.int .i64 0, .int .i64 0, .int .i64 0, nilV])] w') O1.drew [0, 2]
    [ec 0 12 (.slice A n c), ec 1 13 (.slice A 6 c), ec 2 14 (.int .i64 ((num2 xs 0 6 : Nat) : Int)), ec 3 15 (.slice A n c), ec 4 16 (.slice (if c = 6 then A else A.map (·.add 6)) 6 (c - 6)), ec 5 17 (.int .i64 ((num2 xs 6 6 : Nat) : Int)), ec 6 18 (.slice A n c), ec 7 19 (.slice (if c = 12 then A else A.map (·.add 12)) 2 (c - 12)), ec 8 20 (.int .i64 ((num2 xs 12 2 : Nat) : Int)),
     ec 9 21 (.slice A n c), ec 10 22 (.slice (if c = 14 then A else A.map (·.add 14)) (n - 14) (c - 14)), ec 14 3 (.int .i64 0)] rfl ?_
  refine St.call 11 ⟨jm, jh fun _ => slice_h A n c 6 (by omega) hnc _, jq fun w' h => ofW (xs.take 6) 6 l1 A c w' ((hx.next (bl h)).take 6) (by decide), jm, js2 fun _ => slice_lh A n c 6 12 (by decide) (by omega) hnc _, jq fun w' h => ofW _ 6 l2 _ _ w' (r2 (bl h)) (by decide), jm, js2 fun _ => slice_lh A n c 12 14 (by decide) (by omega) hnc _, jq fun w' h => ofW _ 2 l3 _ _ w' (r3 (bl h)) (by decide), jm, js1 fun _ => slice_lo A n c 14 (by omega) hnc _, jm, trivial⟩
    (fun wy h => copyNC (xs.drop 14) (n - 14) l4 _ (c - 14) wy (r4 (bl h)) (by omega)) ?_
  rintro wy _ wz hh ⟨A1, c1, rfl, hO, hb⟩
  have hgy : g < wy.heap.size := hh.lt 0 rfl
  have Oz := hh.call hb
  clear hb
  generalize wy.heap.size = bb at hO hgy
  refine nx (fun w' => Own w g [(g, [.int .i64 0, .int .i64 0, .int .i64 0, nilV])] w' ∧ w'.ownsRow bb 5 1 (.slice A1 (n - 14) c1) (n - 14) ((xs.drop 14).map bv)) [ec 12 24 (.agg ([.int .i64 ((num2 xs 0 6 : Nat) : Int), .int .i64 ((num2 xs 6 6 : Nat) : Int), .int .i64 ((num2 xs 12 2 : Nat) : Int), .slice A1 (n - 14) c1] : List Value).toArray)] [] ⟨Oz, hO⟩ ?_
  refine St.sto 13 ⟨ja (fun _ => by kernel_rfl), jm, trivial⟩ ?_
  rintro a8 wu H8 _ ⟨Ou, hOu⟩
  obtain ⟨w', hr, hg2, hs2, hC2⟩ := (Ou.get 0 rfl).sto (L := [.int .i64 ((num2 xs 0 6 : Nat) : Int), .int .i64 ((num2 xs 6 6 : Nat) : Int), .int .i64 ((num2 xs 12 2 : Nat) : Int), .slice A1 (n - 14) c1]) size_frm rfl rfl rfl
  refine ⟨w', run_store rfl (H8.ev rfl) (H8.ev rfl) hr, nx0 (fun w' => Own w g [(g, [.int .i64 ((num2 xs 0 6 : Nat) : Int), .int .i64 ((num2 xs 6 6 : Nat) : Int), .int .i64 ((num2 xs 12 2 : Nat) : Int), .slice A1 (n - 14) c1])] w' ∧ w'.ownsRow bb 5 1 (.slice A1 (n - 14) c1) (n - 14) ((xs.drop 14).map bv)) [] [] ⟨Ou.store 0 rfl hg2 hs2 hC2, hOu.kept hg2 (.inr (own_ne hOu (.inl hgy)).symm)⟩ ?_⟩
  refine St.fin ⟨jm, trivial⟩ ?_ (hF := .inl rfl)
  rintro a9 w3 H9 _ ⟨O3, hO3⟩
  refine then_normal (wp_ret ?_)
  repeat (first | (with_reducible refine block_ret ?_) | (with_reducible refine then_ret ?_))
  refine bodyPost_ret (results_two Tryz.results78 _ _ _ (H9.at_ 2 _ rfl) (H9.at_ 3 _ rfl) (O3.get 0 rfl) Tryz.underlying85 rfl _ size_frm rfl) H9.df ⟨_, rfl, ?_⟩
  unfold frOut
  rw [if_neg (by omega), if_neg (by omega)]
  refine ⟨A1, c1, ?_, ?_, hg ▸ O3.bel⟩
  · simp only [l4]
  · simp only [l4]
    exact own_base hO3 (by omega)
end Go.Proofs.YtlacidnnankjlaaGreatDoor

/-
  The page's ArpBytes, ParseArp.
-/
namespace Go.Proofs.YtlacidnnankjlaaGreatDoor
open Go.RowKit

end Go.Proofs.YtlacidnnankjlaaGreatDoor

/-
  The page's Seg: the segment that a frame carries.
-/
namespace Go.Proofs.YtlacidnnankjlaaGreatDoor
open Go.RowKit

/-- a segment and whether it is one, its bytes in the call's own memory. -/
def SegRes (w : World) (r : Sg × Bool) (v : Value) (w' : World) : Prop :=
  ∃ A c, v = .tuple #[.agg #[.int .i64 r.1.sp, .int .i64 r.1.dp, .int .i64 r.1.sq, .int .i64 r.1.ak, .int .i64 r.1.fl, .int .i64 r.1.wn, .slice A r.1.xs.length c], .bool r.2] ∧ w'.ownsRow w.heap.size 5 1 (.slice A r.1.xs.length c) r.1.xs.length (r.1.xs.map bv) ∧ Below w.heap.size w w'
theorem size_sg : (Tryz.prog.info? 36).map (·.size) = some 7 := by kernel_rfl
theorem zero_sg (w : World) : (zeroValue 36).run Tryz.prog w = .ok (.agg ([.int .i64 0, .int .i64 0, .int .i64 0, .int .i64 0, .int .i64 0, .int .i64 0, nilV] : List Value).toArray) w := by kernel_rfl
theorem size_pk : (Tryz.prog.info? 89).map (·.size) = some 6 := by kernel_rfl
theorem zero_pk (w : World) : (zeroValue 89).run Tryz.prog w = .ok (.agg ([.int .i64 0, .int .i64 0, .int .i64 0, .int .i64 0, .int .i64 0, nilV] : List Value).toArray) w := by kernel_rfl
theorem parsePkC (xs : List UInt8) (n : Nat) (hl : xs.length = n) (A : Option Addr) (c : Nat) (hnc : n ≤ c) (w : World) (hx : RB w w.heap.size A xs) (hn : n ≤ 140737488351232) (ps pd pp pt pi er : Int) (zs : List UInt8) (hp : parseOut xs = (⟨ps, pd, pp, pt, pi, zs⟩, er)) :
    Calls Tryz.prog 96 #[.slice A n c] w fun e w' => ∃ v, e = .returned v ∧ (∃ A2 c2, v = .tuple #[.agg ([.int .i64 ps, .int .i64 pd, .int .i64 pp, .int .i64 pt, .int .i64 pi, .slice A2 zs.length c2] : List Value).toArray, .int .i64 er] ∧ w'.ownsRow w.heap.size 5 1 (.slice A2 zs.length c2) zs.length (zs.map bv) ∧ Below w.heap.size w w') := by
  have h := refParsePk xs n hl A c hnc w hx hn
  rw [hp] at h
  exact h.mono fun _ _ ⟨A', c', h1, h2⟩ => ⟨_, h1, A', c', rfl, h2⟩
theorem parseSgC (src dst : Int) (xs : List UInt8) (n : Nat) (hl : xs.length = n) (A : Option Addr) (c : Nat) (hnc : n ≤ c) (w : World) (hx : RB w w.heap.size A xs) (hn : n ≤ 140737488351232) (q : Sg) (er : Int) (hp : segOut src dst xs = (q, er)) :
    Calls Tryz.prog 97 #[.int .i64 src, .int .i64 dst, .slice A n c] w fun e w' => ∃ v, e = .returned v ∧ (∃ A3 c3, v = .tuple #[.agg ([.int .i64 q.sp, .int .i64 q.dp, .int .i64 q.sq, .int .i64 q.ak, .int .i64 q.fl, .int .i64 q.wn, .slice A3 q.xs.length c3] : List Value).toArray, .int .i64 er] ∧ w'.ownsRow w.heap.size 5 1 (.slice A3 q.xs.length c3) q.xs.length (q.xs.map bv) ∧ Below w.heap.size w w') := by
  have h := refParseSeg src dst xs n hl A c hnc w hx hn
  rw [hp] at h
  exact h.mono fun _ _ ⟨A', c', h1, h2⟩ => ⟨_, h1, A', c', rfl, h2⟩
theorem parseOut_len (xs : List UInt8) : (parseOut xs).1.xs.length ≤ xs.length := by
  unfold parseOut
  repeat' split
  all_goals simp [Pk.zero, parsed]
  all_goals omega
set_option maxRecDepth 100000 in
set_option maxHeartbeats 3200000 in
theorem pageSeg (xs : List UInt8) (n : Nat) (hn : xs.length = n) (A : Option Addr) (c : Nat) (hnc : n ≤ c) (src sport dst dport : Int) (w : World) (hx : RB w w.heap.size A xs) (hl : n ≤ 140737488351232) :
    Calls Tryz.prog 57 #[.slice A n c, .int .i64 src, .int .i64 sport, .int .i64 dst, .int .i64 dport] w fun e w' => ∃ v, e = .returned v ∧ SegRes w (segTo xs src sport dst dport) v w' := by
  rcases hf : frOut xs with ⟨⟨fd, fs, ft, ys⟩, e1⟩
  have hyl : ys.length ≤ n := by have := frOut_len xs; rw [hf] at this; rw [← hn]; exact this
  rcases hp : parseOut ys with ⟨⟨ps, pd, pp, pt, pi, zs⟩, e2⟩
  have hzl : zs.length ≤ n := by have := parseOut_len ys; rw [hp] at this; exact Nat.le_trans this hyl
  rcases hs : segOut src dst zs with ⟨q, e3⟩
  have hst : segTo xs src sport dst dport = if ((e1 != 0) || ((ft : Int) != 2048)) = true then (Sg.zero, false) else if ((((e2 != 0) || (ps != src)) || (pd != dst)) || (pp != 6)) = true then (Sg.zero, false) else (q, ((e3 == 0) && (q.sp == sport)) && (q.dp == dport)) := by
    unfold segTo
    rw [hf]
    simp only [hp, hs]
    have h1 : (e1 ≠ 0 ∨ ft ≠ 2048) ↔ ((e1 != 0) || ((ft : Int) != 2048)) = true := by
      simp only [Bool.or_eq_true, bne_iff_ne, ne_eq]
      omega
    have h2 : (e2 ≠ 0 ∨ ps ≠ src ∨ pd ≠ dst ∨ pp ≠ 6) ↔ ((((e2 != 0) || (ps != src)) || (pd != dst)) || (pp != 6)) = true := by
      simp only [Bool.or_eq_true, bne_iff_ne, ne_eq, or_assoc]
    simp only [h1, h2, Bool.and_assoc]
  rw [hst]
  clear hst
  go_enter Tryz.func57, Tryz.ntmps57
  refine Has.start 78 [(0, .slice A n c), (1, .int .i64 src), (2, .int .i64 sport), (3, .int .i64 dst), (4, .int .i64 dport)] rfl rfl ⟨rfl, rfl, rfl, rfl, rfl, trivial⟩ ?_
  intro a0 H0
  have O0 := Own.start w
  refine rl ?_
  refine H0.al O0 1 zero_sg fun a1 w1 O1 H1 => nt ?_
  generalize hg : w.heap.size = g at O1 H1
  have bl : ∀ {w' : World} {bs : List (Nat × List Value)}, Own w g bs w' → Below w.heap.size w w' := fun h => hg ▸ h.bel
  refine H1.rg 1 fun a2 H2 => ?_
  refine H2.cl (parseFrame xs n hn A c hnc w1 (hx.next (bl O1)) hl) ?_
  rintro a3 _ w2 ⟨A1, c1, hv, hO2, hb2⟩ H3
  rw [hf] at hv hO2
  subst hv
  have hr2 := rb_of_own rfl hO2 hb2.size
  have hc2 := own_cap hO2
  have O2 := O1.call hb2
  clear hO2 hb2
  refine H3.ms 1 fun a4 H4 => ?_
  refine H4.ex (r := .agg ([.int .i64 (fd : Int), .int .i64 (fs : Int), .int .i64 (ft : Int), .slice A1 ys.length c1] : List Value).toArray) 0 fun a5 H5 => ?_
  refine H5.ex (r := .int .i64 e1) 0 fun a6 H6 => ?_
  refine H6.nk O2 1 (L := [.int .i64 (fd : Int), .int .i64 (fs : Int), .int .i64 (ft : Int), .slice A1 ys.length c1]) rfl zero_frm size_frm fun a7 w3 hb3 O3 _ H7 => nt ?_
  have hr3 := hr2.next hb3
  generalize w2.heap.size = g2 at O3 H7
  replace H7 := H7.keep (l' := [(1, .int .i64 src), (2, .int .i64 sport), (3, .int .i64 dst), (4, .int .i64 dport), (10, .pointer (some ⟨g, 0, none⟩)), (12, .pointer (some ⟨g2, 0, none⟩)), (13, .int .i64 e1)]) ⟨rfl, rfl, rfl, rfl, rfl, rfl, rfl, trivial⟩
  clear H1 H2 H3 H4 H5 H6 O2 hb3 hr2
  obtain ⟨x1, hx1⟩ : ∃ b, (e1 != 0) = b := ⟨_, rfl⟩
  obtain ⟨x2, hx2⟩ : ∃ b, ((ft : Int) != 2048) = b := ⟨_, rfl⟩
  rw [hx1, hx2]
  refine H7.tb (fun w' => Own w g [(g2, [.int .i64 (fd : Int), .int .i64 (fs : Int), .int .i64 (ft : Int), .slice A1 ys.length c1]), (g, [.int .i64 0, .int .i64 0, .int .i64 0, .int .i64 0, .int .i64 0, .int .i64 0, nilV])] w' ∧ RB w' w'.heap.size A1 ys) (fun _ _ h hb => ⟨h.1.call hb, h.2.next hb⟩) ⟨O3, hr3⟩
    [ec 0 21 (.int .i64 e1), ec 1 22 (.bool x1), ec 2 23 (.bool x1), ec 3 24 (gv (!x1) (.pointer (some ⟨g2, 2, none⟩))), ec 4 25 (gv (!x1) (.int .i64 (ft : Int))), ec 5 26 (gv (!x1) (.bool x2)), ec 6 27 (.bool (x1 || x2))] rfl
    ⟨jm, jb fun _ => neq_3 _ _ x1 hx1 _ _ _, jm, (by cases x1; exact jm; exact jo), (by cases x1; exact jl fun _ h => h.1.li 0 2; exact jo), (by cases x1; exact jb fun _ => neq_3 _ _ x2 hx2 _ _ _; exact jo), (by cases x1 <;> exact jp), trivial⟩ ?_
  clear H7 O3 hr3
  rintro a8 w4 H8 ⟨O4, hr4⟩
  refine then_normal (H8.cond (t := x1 || x2) rfl ?_)
  replace H8 := H8.keep (l' := [(1, .int .i64 src), (2, .int .i64 sport), (3, .int .i64 dst), (4, .int .i64 dport), (10, .pointer (some ⟨g, 0, none⟩)), (12, .pointer (some ⟨g2, 0, none⟩))]) ⟨rfl, rfl, rfl, rfl, rfl, rfl, trivial⟩
  cases hxx : x1 || x2 with
  | true =>
    refine rl ?_
    refine H8.any (w' := w4) gz rfl rfl (.agg ([.int .i64 0, .int .i64 0, .int .i64 0, .int .i64 0, .int .i64 0, .int .i64 0, nilV] : List Value).toArray) (by intro cs b h; cases h) (by kernel_rfl) (by kernel_rfl) fun a9 H9 => ?_
    refine H9.st O4 1 1 (L := [.int .i64 0, .int .i64 0, .int .i64 0, .int .i64 0, .int .i64 0, .int .i64 0, nilV]) (fun a10 w5 O5 H10 => nt (wp_ret ?_)) size_sg
    repeat (first | (with_reducible refine block_ret ?_) | (with_reducible refine then_ret ?_))
    refine bodyPost_ret (results_two Tryz.results57 _ _ _ (H10.at_ 10 _ rfl) (H10.at_ 11 _ rfl) (O5.get 1 rfl) Tryz.underlying36 rfl _ size_sg rfl) H10.df ⟨_, rfl, ?_⟩
    rw [if_pos rfl]
    exact ⟨none, 0, rfl, World.ownsRow_nil _ _ _ _, bl O5⟩
  | false =>
  rw [if_neg (by decide)]
  refine skip_wp (then_normal ?_)
  refine rl ?_
  refine H8.ms 1 fun a H => ?_
  refine H.ld 0 (load1_31 _ _ _ _ _ _ ((O4.get 0 rfl).get 3 _ rfl)) fun a H => ?_
  refine H.cl (parsePkC ys ys.length rfl A1 c1 hc2 w4 hr4 (by omega) ps pd pp pt pi e2 zs hp) ?_
  rintro a9 _ w5 ⟨A2, c2, rfl, hO5, hb5⟩ H9
  have hr5 := rb_of_own rfl hO5 hb5.size
  have hc5 := own_cap hO5
  have O5 := O4.call hb5
  clear hO5 hb5 hr4
  refine H9.ms 1 fun a10 H10 => ?_
  refine H10.ex (r := .agg ([.int .i64 ps, .int .i64 pd, .int .i64 pp, .int .i64 pt, .int .i64 pi, .slice A2 zs.length c2] : List Value).toArray) 0 fun a11 H11 => ?_
  refine H11.ex (r := .int .i64 e2) 0 fun a12 H12 => ?_
  refine H12.nk O5 1 (L := [.int .i64 ps, .int .i64 pd, .int .i64 pp, .int .i64 pt, .int .i64 pi, .slice A2 zs.length c2]) rfl zero_pk size_pk fun a13 w6 hb6 O6 _ H13 => nt ?_
  have hr6 := hr5.next hb6
  generalize w5.heap.size = g5 at O6 H13
  replace H13 := H13.keep (l' := [(1, .int .i64 src), (2, .int .i64 sport), (3, .int .i64 dst), (4, .int .i64 dport), (10, .pointer (some ⟨g, 0, none⟩)), (13, .int .i64 e2), (14, .pointer (some ⟨g5, 0, none⟩))]) ⟨rfl, rfl, rfl, rfl, rfl, rfl, rfl, trivial⟩
  clear H8 H9 H10 H11 H12 H O5 hb6 hr5
  obtain ⟨y1, hy1⟩ : ∃ b, (e2 != 0) = b := ⟨_, rfl⟩
  obtain ⟨y2, hy2⟩ : ∃ b, (ps != src) = b := ⟨_, rfl⟩
  obtain ⟨y3, hy3⟩ : ∃ b, (pd != dst) = b := ⟨_, rfl⟩
  obtain ⟨y4, hy4⟩ : ∃ b, (pp != 6) = b := ⟨_, rfl⟩
  rw [hy1, hy2, hy3, hy4]
  refine H13.tb (fun w' => Own w g [(g5, [.int .i64 ps, .int .i64 pd, .int .i64 pp, .int .i64 pt, .int .i64 pi, .slice A2 zs.length c2]), (g2, [.int .i64 (fd : Int), .int .i64 (fs : Int), .int .i64 (ft : Int), .slice A1 ys.length c1]), (g, [.int .i64 0, .int .i64 0, .int .i64 0, .int .i64 0, .int .i64 0, .int .i64 0, nilV])] w' ∧ RB w' w'.heap.size A2 zs) (fun _ _ h hb => ⟨h.1.call hb, h.2.next hb⟩) ⟨O6, hr6⟩
    [ec 0 35 (.int .i64 e2), ec 1 36 (.bool y1), ec 2 37 (.bool y1), ec 3 38 (gv (!y1) (.pointer (some ⟨g5, 0, none⟩))), ec 4 39 (gv (!y1) (.int .i64 ps)), ec 5 40 (gv (!y1) (.int .i64 src)), ec 6 41 (gv (!y1) (.bool y2)), ec 7 42 (.bool (y1 || y2)), ec 8 43 (.bool (y1 || y2)),
     ec 9 44 (gv (!(y1 || y2)) (.pointer (some ⟨g5, 1, none⟩))), ec 10 45 (gv (!(y1 || y2)) (.int .i64 pd)), ec 11 46 (gv (!(y1 || y2)) (.int .i64 dst)), ec 12 47 (gv (!(y1 || y2)) (.bool y3)), ec 13 48 (.bool ((y1 || y2) || y3)), ec 14 49 (.bool ((y1 || y2) || y3)),
     ec 15 50 (gv (!((y1 || y2) || y3)) (.pointer (some ⟨g5, 2, none⟩))), ec 16 51 (gv (!((y1 || y2) || y3)) (.int .i64 pp)), ec 17 52 (gv (!((y1 || y2) || y3)) (.bool y4)), ec 18 53 (.bool (((y1 || y2) || y3) || y4))] rfl
    ⟨jm, jb fun _ => neq_3 _ _ y1 hy1 _ _ _, jm, (by cases y1; exact jm; exact jo), (by cases y1; exact jl fun _ h => h.1.li 0 0; exact jo), (by cases y1; exact jm; exact jo), (by cases y1; exact jb fun _ => neq_3 _ _ y2 hy2 _ _ _; exact jo), (by cases y1 <;> exact jp), jm,
     (by cases y1 <;> cases y2 <;> first | exact jo | exact jm), (by cases y1 <;> cases y2 <;> first | exact jo | exact jl fun _ h => h.1.li 0 1), (by cases y1 <;> cases y2 <;> first | exact jo | exact jm), (by cases y1 <;> cases y2 <;> first | exact jo | exact jb fun _ => neq_3 _ _ y3 hy3 _ _ _), (by cases y1 <;> cases y2 <;> exact jp), jm,
     (by cases y1 <;> cases y2 <;> cases y3 <;> first | exact jo | exact jm), (by cases y1 <;> cases y2 <;> cases y3 <;> first | exact jo | exact jl fun _ h => h.1.li 0 2), (by cases y1 <;> cases y2 <;> cases y3 <;> first | exact jo | exact jb fun _ => neq_3 _ _ y4 hy4 _ _ _), (by cases y1 <;> cases y2 <;> cases y3 <;> exact jp), trivial⟩ ?_
  clear H13 O6 hr6
  rintro a14 w7 H14 ⟨O7, hr7⟩
  refine then_normal (H14.cond (t := ((y1 || y2) || y3) || y4) rfl ?_)
  replace H14 := H14.keep (l' := [(1, .int .i64 src), (2, .int .i64 sport), (3, .int .i64 dst), (4, .int .i64 dport), (10, .pointer (some ⟨g, 0, none⟩)), (14, .pointer (some ⟨g5, 0, none⟩))]) ⟨rfl, rfl, rfl, rfl, rfl, rfl, trivial⟩
  cases hyy : ((y1 || y2) || y3) || y4 with
  | true =>
    refine rl ?_
    refine H14.any (w' := w7) gz rfl rfl (.agg ([.int .i64 0, .int .i64 0, .int .i64 0, .int .i64 0, .int .i64 0, .int .i64 0, nilV] : List Value).toArray) (by intro cs b h; cases h) (by kernel_rfl) (by kernel_rfl) fun a15 H15 => ?_
    refine H15.st O7 2 1 (L := [.int .i64 0, .int .i64 0, .int .i64 0, .int .i64 0, .int .i64 0, .int .i64 0, nilV]) (fun a16 w8 O8 H16 => nt (wp_ret ?_)) size_sg
    repeat (first | (with_reducible refine block_ret ?_) | (with_reducible refine then_ret ?_))
    refine bodyPost_ret (results_two Tryz.results57 _ _ _ (H16.at_ 10 _ rfl) (H16.at_ 11 _ rfl) (O8.get 2 rfl) Tryz.underlying36 rfl _ size_sg rfl) H16.df ⟨_, rfl, ?_⟩
    rw [if_pos rfl]
    exact ⟨none, 0, rfl, World.ownsRow_nil _ _ _ _, bl O8⟩
  | false =>
  rw [if_neg (by decide)]
  refine skip_wp (then_normal ?_)
  refine H14.rg 3 fun a H => ?_
  refine H.ld 0 (load1_31 _ _ _ _ _ _ ((O7.get 0 rfl).get 5 _ rfl)) fun a H => ?_
  refine H.cl (parseSgC src dst zs zs.length rfl A2 c2 hc5 w7 hr7 (by omega) q e3 hs) ?_
  rintro a15 _ w8 ⟨A3, c3, rfl, hO8, hb8⟩ H15
  have O8 := O7.call hb8
  have hs7 : g < w7.heap.size := O7.lt 2 rfl
  clear hr7
  refine H15.ms 1 fun a16 H16 => ?_
  refine H16.ex (r := .agg ([.int .i64 q.sp, .int .i64 q.dp, .int .i64 q.sq, .int .i64 q.ak, .int .i64 q.fl, .int .i64 q.wn, .slice A3 q.xs.length c3] : List Value).toArray) 0 fun a17 H17 => ?_
  refine H17.ex (r := .int .i64 e3) 0 fun a18 H18 => ?_
  refine H18.nk O8 1 (L := [.int .i64 q.sp, .int .i64 q.dp, .int .i64 q.sq, .int .i64 q.ak, .int .i64 q.fl, .int .i64 q.wn, .slice A3 q.xs.length c3]) rfl zero_sg size_sg fun a19 w9 hb9 O9 _ H19 => nt ?_
  have hO9 := own_below hO8 hb9
  generalize w8.heap.size = g8 at O9 H19
  replace H19 := H19.keep (l' := [(2, .int .i64 sport), (4, .int .i64 dport), (10, .pointer (some ⟨g, 0, none⟩)), (13, .int .i64 e3), (15, .pointer (some ⟨g8, 0, none⟩))]) ⟨rfl, rfl, rfl, rfl, rfl, trivial⟩
  clear H14 H15 H16 H17 H18 H O8 hb9 hO8
  obtain ⟨z1, hz1⟩ : ∃ b, (e3 == 0) = b := ⟨_, rfl⟩
  obtain ⟨z2, hz2⟩ : ∃ b, (q.sp == sport) = b := ⟨_, rfl⟩
  obtain ⟨z3, hz3⟩ : ∃ b, (q.dp == dport) = b := ⟨_, rfl⟩
  rw [hz1, hz2, hz3]
  generalize w7.heap.size = bb at hO9 hs7
  refine H19.sg (fun w' => Own w g [(g8, [.int .i64 q.sp, .int .i64 q.dp, .int .i64 q.sq, .int .i64 q.ak, .int .i64 q.fl, .int .i64 q.wn, .slice A3 q.xs.length c3]), (g5, [.int .i64 ps, .int .i64 pd, .int .i64 pp, .int .i64 pt, .int .i64 pi, .slice A2 zs.length c2]), (g2, [.int .i64 (fd : Int), .int .i64 (fs : Int), .int .i64 (ft : Int), .slice A1 ys.length c1]), (g, [.int .i64 0, .int .i64 0, .int .i64 0, .int .i64 0, .int .i64 0, .int .i64 0, nilV])] w' ∧ w'.ownsRow bb 5 1 (.slice A3 q.xs.length c3) q.xs.length (q.xs.map bv)) ⟨O9.drew, hO9⟩ [2, 4, 10, 13, 15]
    [ec 0 63 (.agg ([.int .i64 q.sp, .int .i64 q.dp, .int .i64 q.sq, .int .i64 q.ak, .int .i64 q.fl, .int .i64 q.wn, .slice A3 q.xs.length c3] : List Value).toArray), ec 1 64 (.int .i64 e3), ec 2 65 (.bool z1), ec 3 66 (.bool z1), ec 4 67 (gv z1 (.pointer (some ⟨g8, 0, none⟩))), ec 5 68 (gv z1 (.int .i64 q.sp)), ec 6 69 (gv z1 (.int .i64 sport)), ec 7 70 (gv z1 (.bool z2)), ec 8 71 (.bool (z1 && z2)), ec 9 72 (.bool (z1 && z2)),
     ec 10 73 (gv (z1 && z2) (.pointer (some ⟨g8, 1, none⟩))), ec 11 74 (gv (z1 && z2) (.int .i64 q.dp)), ec 12 75 (gv (z1 && z2) (.int .i64 dport)), ec 13 76 (gv (z1 && z2) (.bool z3)), ec 14 77 (.bool ((z1 && z2) && z3)), ec 16 11 (.bool ((z1 && z2) && z3))] rfl ?_
  refine St.sto 15 ⟨jl fun _ h => loadT (h.1.get 0 rfl) Tryz.underlying36 rfl size_sg rfl, jm, jb fun _ => eql_iB _ _ z1 hz1 _ _ _, jm, (by cases z1; exact jo; exact jm), (by cases z1; exact jo; exact jl fun _ h => h.1.li 0 0), (by cases z1; exact jo; exact jm), (by cases z1; exact jo; exact jb fun _ => eql_iB _ _ z2 hz2 _ _ _), (by cases z1 <;> exact jp), jm,
     (by cases z1 <;> cases z2 <;> first | exact jo | exact jm), (by cases z1 <;> cases z2 <;> first | exact jo | exact jl fun _ h => h.1.li 0 1), (by cases z1 <;> cases z2 <;> first | exact jo | exact jm), (by cases z1 <;> cases z2 <;> first | exact jo | exact jb fun _ => eql_iB _ _ z3 hz3 _ _ _), (by cases z1 <;> cases z2 <;> exact jp), jm, trivial⟩ ?_
  rintro a20 wu H20 _ ⟨Ou, hOu⟩
  obtain ⟨w', hr, hg2, hs2, hC2⟩ := (Ou.get 3 rfl).sto (L := [.int .i64 q.sp, .int .i64 q.dp, .int .i64 q.sq, .int .i64 q.ak, .int .i64 q.fl, .int .i64 q.wn, .slice A3 q.xs.length c3]) size_sg rfl rfl rfl
  refine ⟨w', run_store rfl (H20.ev rfl) (H20.ev rfl) hr, nx0 (fun w' => Own w g [(g8, [.int .i64 q.sp, .int .i64 q.dp, .int .i64 q.sq, .int .i64 q.ak, .int .i64 q.fl, .int .i64 q.wn, .slice A3 q.xs.length c3]), (g5, [.int .i64 ps, .int .i64 pd, .int .i64 pp, .int .i64 pt, .int .i64 pi, .slice A2 zs.length c2]), (g2, [.int .i64 (fd : Int), .int .i64 (fs : Int), .int .i64 (ft : Int), .slice A1 ys.length c1]), (g, [.int .i64 q.sp, .int .i64 q.dp, .int .i64 q.sq, .int .i64 q.ak, .int .i64 q.fl, .int .i64 q.wn, .slice A3 q.xs.length c3])] w' ∧ w'.ownsRow bb 5 1 (.slice A3 q.xs.length c3) q.xs.length (q.xs.map bv)) [] [] ⟨Ou.store 3 rfl hg2 hs2 hC2, hOu.kept hg2 (.inr (own_ne hOu (.inl hs7)).symm)⟩ ?_⟩
  refine St.fin ⟨(by cases z1 <;> cases z2 <;> first | exact jo | exact jm), (by cases z1 <;> cases z2 <;> first | exact jo | exact jl fun _ h => h.1.li 0 1), (by cases z1 <;> cases z2 <;> first | exact jo | exact jm), (by cases z1 <;> cases z2 <;> first | exact jo | exact jb fun _ => eql_iB _ _ z3 hz3 _ _ _), (by cases z1 <;> cases z2 <;> exact jp), jm, trivial⟩ ?_ (hF := .inl rfl)
  rintro a21 w11 H21 _ ⟨O11, hO11⟩
  refine then_normal (wp_ret ?_)
  repeat (first | (with_reducible refine block_ret ?_) | (with_reducible refine then_ret ?_))
  refine bodyPost_ret (results_two Tryz.results57 _ _ _ (H21.at_ 10 _ rfl) (H21.at_ 11 _ rfl) (O11.get 3 rfl) Tryz.underlying36 rfl _ size_sg rfl) H21.df ⟨_, rfl, A3, c3, rfl, own_base hO11 (by omega), bl O11⟩
end Go.Proofs.YtlacidnnankjlaaGreatDoor

/-
  kiosklaw28's own functions: may, seg; what a client that is not up answers.
-/
namespace Go.Proofs.YtlacidnnankjlaaGreatDoor
open Go.RowKit

set_option maxRecDepth 100000 in
theorem num28 (u : Int) (w : World) : Calls Tryz.prog 9 #[.int .i64 u] w fun e w' => e = .returned (.int .i64 u) ∧ w = w' := by
  go_enter Tryz.func9, Tryz.ntmps9
  go_wp2
  go_ret
  exact ⟨rfl, rfl⟩
set_option maxRecDepth 100000 in
theorem may28 (ip mac port iss sq : Int) (vL : Value) (b1 b2 b3 b4 : Bool) (h1 : inR ip 4294967295 = b1) (h2 : inR mac 281474976710655 = b2) (h3 : inR port 65535 = b3) (h4 : inR iss 4294967295 = b4) (w : World) :
    Calls Tryz.prog 7 #[.agg #[.int .i64 ip, .int .i64 mac, .int .i64 port, .int .i64 iss, vL, .int .i64 sq]] w fun e w' => e = .returned (.bool (b1 && b2 && b3 && b4)) ∧ Below w.heap.size w w' := by
  go_enter Tryz.func7, Tryz.ntmps7
  refine Has.start 21 [(0, .agg #[.int .i64 ip, .int .i64 mac, .int .i64 port, .int .i64 iss, vL, .int .i64 sq])] rfl rfl ⟨rfl, trivial⟩ ?_
  intro a0 H0
  have O0 := Own.start w
  refine rl ?_
  refine H0.bx O0 1 (L := [.int .i64 ip, .int .i64 mac, .int .i64 port, .int .i64 iss, vL, .int .i64 sq]) fun a1 w1 O1 H1 => nt ?_
  generalize hg : w.heap.size = g at O1 H1
  refine H1.tb (Own w g [(g, [.int .i64 ip, .int .i64 mac, .int .i64 port, .int .i64 iss, vL, .int .i64 sq])]) (fun _ _ h hb => h.call hb) O1
    [ec 0 3 (.pointer (some ⟨g, 0, none⟩)), ec 1 4 (.int .i64 ip), ec 2 5 (.bool b1), ec 3 6 (.bool b1), ec 4 7 (gv b1 (.pointer (some ⟨g, 1, none⟩))), ec 5 8 (gv b1 (.int .i64 mac)), ec 6 9 (gv b1 (.bool b2)), ec 7 10 (.bool (b1 && b2)), ec 8 11 (.bool (b1 && b2)),
     ec 9 12 (gv (b1 && b2) (.pointer (some ⟨g, 2, none⟩))), ec 10 13 (gv (b1 && b2) (.int .i64 port)), ec 11 14 (gv (b1 && b2) (.bool b3)), ec 12 15 (.bool (b1 && b2 && b3)), ec 13 16 (.bool (b1 && b2 && b3)),
     ec 14 17 (gv (b1 && b2 && b3) (.pointer (some ⟨g, 3, none⟩))), ec 15 18 (gv (b1 && b2 && b3) (.int .i64 iss)), ec 16 19 (gv (b1 && b2 && b3) (.bool b4)), ec 17 20 (.bool (b1 && b2 && b3 && b4)), ec 18 2 (.bool (b1 && b2 && b3 && b4))] rfl
    ⟨jm, jl fun _ h => h.li 0 0, jq fun w' _ => h1 ▸ refWord ip w', jm, (by cases b1; exact jo; exact jm), (by cases b1; exact jo; exact jl fun _ h => h.li 0 1), (by cases b1; exact jo; exact jq fun w' _ => h2 ▸ macOk mac w'), (by cases b1 <;> exact jp), jm,
     (by cases b1 <;> cases b2 <;> first | exact jo | exact jm), (by cases b1 <;> cases b2 <;> first | exact jo | exact jl fun _ h => h.li 0 2), (by cases b1 <;> cases b2 <;> first | exact jo | exact jq fun w' _ => h3 ▸ refNum port 65535 w'), (by cases b1 <;> cases b2 <;> exact jp), jm,
     (by cases b1 <;> cases b2 <;> cases b3 <;> first | exact jo | exact jm), (by cases b1 <;> cases b2 <;> cases b3 <;> first | exact jo | exact jl fun _ h => h.li 0 3), (by cases b1 <;> cases b2 <;> cases b3 <;> first | exact jo | exact jq fun w' _ => h4 ▸ refWord iss w'), (by cases b1 <;> cases b2 <;> cases b3 <;> exact jp), jm, trivial⟩ ?_
  intro a2 w2 H2 O2
  refine then_normal (wp_ret ?_)
  repeat (first | (with_reducible refine block_ret ?_) | (with_reducible refine then_ret ?_))
  exact bodyPost_ret (results_tmp rfl _ _ _) H2.df ⟨congrArg Ending.returned (H2.at_ 2 _ rfl), O2.bel⟩
end Go.Proofs.YtlacidnnankjlaaGreatDoor

/-
  A client that is not up says nothing; it asks (wakes).
-/
namespace Go.Proofs.YtlacidnnankjlaaGreatDoor
open Go.RowKit

theorem BoxQ.kept {base T : Nat} {L : List Value} {v : Value} {w w' : World} {r : Option Nat} (hg : w.grownBy w' r) (hr : ∀ k, r = some k → k < base) (h : BoxQ base T L v w) : BoxQ base T L v w' := by
  obtain ⟨g, h1, h2, h3, h4, h5⟩ := h
  have hne : some g ≠ r := fun e => by have := hr g e.symm; omega
  exact ⟨g, h1, h2, Nat.lt_of_lt_of_le h3 hg.size, h4.kept hg h3 hne, h5.grown hg hne⟩
theorem eql_p (a : Addr) (x y : Operand) (w : World) : (do eqGuard .eql 26 x y (.pointer (some a)) (.pointer none); binOp .eql 26 (.pointer (some a)) (.pointer none) : Sem Value).run Tryz.prog w = .ok (.bool false) w := by
  simp [go_sem]
section
variable (g ip mac port iss next wants : Nat) (vg vl : Value) (w : World) (hC : Cells w g (cliC ip mac port iss next wants false vg vl)) (hg : g < w.heap.size)
include hC hg
end
set_option maxRecDepth 100000 in
set_option maxHeartbeats 1600000 in
theorem wakes28 (w : World) : Calls Tryz.prog 16 #[] w fun e w' => e = .returned (.bool true) ∧ Below w.heap.size w w' := by
  go_enter Tryz.func16, Tryz.ntmps16
  refine Has.start 43 [] rfl rfl trivial ?_
  intro a0 H0
  refine H0.rg 1 fun a1 H1 => nt ?_
  refine rl ?_
  refine H1.cl (cliNew 5 6 7 8 (by decide) (by decide) (by decide) (by decide) w) ?_
  rintro a2 _ w1 ⟨g, rfl, O1⟩ H2
  refine H2.ms 1 fun a3 H3 => ?_
  refine H3.ex (r := .pointer (some ⟨g, 0, none⟩)) 0 fun a4 H4 => ?_
  refine H4.ex (r := .int .i64 0) 2 fun a5 H5 => nt ?_
  replace H5 := H5.keep (l' := [(1, .pointer (some ⟨g, 0, none⟩)), (2, .int .i64 0)]) ⟨rfl, rfl, trivial⟩
  refine H5.tb (fun w' => Own w w.heap.size [(g, cliC 5 6 7 8 (spAdd 8 1) 0 false nilV nilV)] w') (fun _ _ h hb => h.call hb) O1
    [ec 0 9 (.int .i64 0), ec 1 10 (.int .i64 0), ec 2 11 (.bool false), ec 3 12 (.bool false), ec 4 13 (.pointer (some ⟨g, 0, none⟩)), ec 5 14 (.bool false), ec 6 15 (.bool false)] rfl
    ⟨jm, jq fun w' _ => num28 0 w', jb fun _ => neq_3 0 0 false rfl _ _ _, jm, jm, jb fun _ => eql_p _ _ _ _, jp, trivial⟩ ?_
  intro a6 w2 H6 O2
  refine then_normal (H6.condF rfl (skip_wp (then_normal ?_)))
  refine H6.rg 1 fun a7 H7 => ?_
  refine H7.cl (cliDial g 5 6 7 8 (spAdd 8 1) 0 false nilV nilV w2 (O2.get 0 rfl) (O2.lt 0 rfl) (by decide) (by decide) (by decide) (by decide)) ?_
  rintro a8 v3 w3 ⟨⟨A3, c3, rfl, hO3⟩, hg3, hC3⟩ H8
  have O3 := O2.turn 0 rfl hg3 hC3
  have hwl := wire_length 2199023255553 6 5 167772161 ⟨((7 : Nat) : Int), 1883, ((8 : Nat) : Int), 0, 2, 65535, []⟩
  have hr3 := rb_of_own rfl hO3 hg3.size
  refine H8.cl (pageSeg _ _ rfl A3 c3 (own_cap hO3) 5 7 167772161 1883 w3 hr3 (by rw [hwl]; decide)) ?_
  rintro a9 _ w4 ⟨A4, c4, hv, _, hb4⟩ H9
  have hq : Sg.ok ⟨7, 1883, 8, 0, 2, 65535, []⟩ = true := by decide
  rw [show segTo (wire 2199023255553 6 5 167772161 ⟨((7 : Nat) : Int), 1883, ((8 : Nat) : Int), 0, 2, 65535, []⟩) 5 7 167772161 1883 = (⟨7, 1883, 8, 0, 2, 65535, []⟩, true) from wire_back (q := ⟨((7 : Nat) : Int), 1883, ((8 : Nat) : Int), 0, 2, 65535, []⟩) (by decide) (by decide) (by decide) (by decide) hq] at hv
  subst hv
  have O4 := O3.call hb4
  refine H9.ms 1 fun a10 H10 => ?_
  refine H10.ex (r := .agg ([.int .i64 7, .int .i64 1883, .int .i64 8, .int .i64 0, .int .i64 2, .int .i64 65535, .slice A4 0 c4] : List Value).toArray) 0 fun a11 H11 => ?_
  refine H11.ex (r := .bool true) 0 fun a12 H12 => ?_
  refine H12.nk O4 1 (L := [.int .i64 7, .int .i64 1883, .int .i64 8, .int .i64 0, .int .i64 2, .int .i64 65535, .slice A4 0 c4]) rfl zero_sg size_sg fun a13 w5 _ O5 _ H13 => nt ?_
  generalize w4.heap.size = g4 at O5 H13
  replace H13 := H13.keep (l' := [(1, .pointer (some ⟨g, 0, none⟩)), (3, .pointer (some ⟨g4, 0, none⟩)), (4, .bool true)]) ⟨rfl, rfl, rfl, trivial⟩
  refine H13.tb (fun w' => Own w w.heap.size [(g4, [.int .i64 7, .int .i64 1883, .int .i64 8, .int .i64 0, .int .i64 2, .int .i64 65535, .slice A4 0 c4]), (g, cliC 5 6 7 8 (spAdd 8 1) 0 false nilV nilV)] w') (fun _ _ h hb => h.call hb) O5
    [ec 0 22 (.bool true), ec 1 23 (.bool true), ec 2 24 (.pointer (some ⟨g4, 4, none⟩)), ec 3 25 (.int .i64 2), ec 4 26 (.bool true), ec 5 27 (.bool true), ec 6 28 (.bool true), ec 7 29 (.pointer (some ⟨g4, 2, none⟩)), ec 8 30 (.int .i64 8), ec 9 31 (.bool true), ec 10 32 (.bool true), ec 11 33 (.bool true), ec 12 34 (.pointer (some ⟨g4, 5, none⟩)), ec 13 35 (.int .i64 65535), ec 14 36 (.bool true), ec 15 37 (.bool true), ec 16 38 (.bool true), ec 17 39 (.pointer (some ⟨g, 0, none⟩)), ec 18 40 (.bool false), ec 19 41 (.bool true), ec 20 42 (.bool true), ec 21 0 (.bool true)] rfl
    ⟨jm, jm, jm, jl fun _ h => h.li 0 4, jb fun _ => eql_iB 2 2 true rfl _ _ _, jp, jm, jm, jl fun _ h => h.li 0 2, jb fun _ => eql_iB 8 8 true rfl _ _ _, jp, jm, jm, jl fun _ h => h.li 0 5, jb fun _ => eql_iB 65535 65535 true rfl _ _ _, jp, jm, jm, jq fun w' h => cliUp g 5 6 7 8 (spAdd 8 1) 0 false nilV nilV w' (h.get 1 rfl), ju (hq := run_not false), jp, jm, trivial⟩ ?_
  intro a14 w6 H14 O6
  refine then_normal (wp_ret ?_)
  repeat (first | (with_reducible refine block_ret ?_) | (with_reducible refine then_ret ?_))
  exact bodyPost_ret (results_tmp rfl _ _ _) H14.df ⟨congrArg Ending.returned (H14.at_ 0 _ rfl), O6.bel⟩
end Go.Proofs.YtlacidnnankjlaaGreatDoor

/-
  Words of a law in which a client hears frames.
-/
namespace Go.Proofs.YtlacidnnankjlaaGreatDoor
open Go.RowKit

/-- a client in a law. -/
def CliS (W : World) (B b1 g ip mac port iss next : Nat) (x : Cl) (vG : Value) (w : World) : Prop :=
  Own W B [(g, cliC ip mac port iss next x.wants x.up vG nilV)] w ∧ CliR g x.got [] vG nilV w ∧ (∀ k, k < b1 → some k ≠ vG.ownBlock) ∧ b1 ≤ w.heap.size
theorem CliS.next {W : World} {B b1 g ip mac port iss next : Nat} {x : Cl} {vG : Value} {w w' : World} (h : CliS W B b1 g ip mac port iss next x vG w) (hb : Below w.heap.size w w') : CliS W B b1 g ip mac port iss next x vG w' := ⟨h.1.call hb, h.2.1.next hb, h.2.2.1, Nat.le_trans h.2.2.2 hb.size⟩
/-- a frame that a client may hear. -/
def FrC (g : Nat) (vG : Value) (x : List UInt8) (u : Value) (w : World) : Prop := ∃ A c, u = .slice A x.length c ∧ x.length ≤ c ∧ RBS w (fun k => k ≠ g ∧ some k ≠ vG.ownBlock) A x
theorem FrC.next {g : Nat} {vG : Value} {x : List UInt8} {u : Value} {w w' : World} (h : FrC g vG x u w) (hb : Below w.heap.size w w') : FrC g vG x u w' := by
  obtain ⟨A, c, h1, h2, h3⟩ := h
  exact ⟨A, c, h1, h2, h3.grown (below_grown hb none) (fun k e => by cases e)⟩
theorem FrC.of {g b : Nat} {vG : Value} {x : List UInt8} {u : Value} {w : World} (h : FrIs b x u w) (hg : g < b) (hv : ∀ k, b ≤ k → some k ≠ vG.ownBlock) : FrC g vG x u w := by
  obtain ⟨A, c, h1, h2, h3⟩ := h
  exact ⟨A, c, h1, h2, h3.mono fun k _ hk => ⟨Nat.ne_of_gt (Nat.lt_of_lt_of_le hg hk), hv k hk⟩⟩
theorem FrC.take {g : Nat} {vG : Value} {x : List UInt8} {A : Option Addr} {n c : Nat} {w : World} (h : FrC g vG x (.slice A n c) w) (k : Nat) (hk : k ≤ x.length) : FrC g vG (x.take k) (.slice A k c) w := by
  obtain ⟨A', c', e, h2, h3⟩ := h
  injection e with e1 _ e3
  subst e1 e3
  have hl : (x.take k).length = k := by rw [List.length_take]; omega
  refine ⟨A, c, by rw [hl], by omega, fun hn => ?_⟩
  obtain ⟨ad, k1, k2, k3, k4⟩ := h3 (by omega)
  refine ⟨ad, k1, k2, k3, fun j u hu => k4 j u ?_⟩
  rw [List.getElem?_map] at hu ⊢
  have hj : j < k := by
    have := (List.getElem?_eq_some_iff.1 (by rw [List.getElem?_map]; exact hu : ((x.take k).map bv)[j]? = some u)).1
    rw [List.length_map, hl] at this
    exact this
  rw [List.getElem?_take_of_lt hj] at hu
  exact hu
theorem RBS.kp {w w' : World} {S : Nat → Prop} {A : Option Addr} {x : List UInt8} {g : Nat} {v : Value} (h : RBS w S A x) (hS : ∀ k, S k → k ≠ g ∧ some k ≠ v.ownBlock) (hk : Kp g v w w') : RBS w' S A x := fun hn => by
  obtain ⟨ad, e, k1, k2, k3⟩ := h hn
  refine ⟨ad, e, k1, Nat.lt_of_lt_of_le k2 hk.1, fun j u hu => ?_⟩
  have hb : (ad.add j).block = ad.block := block_of_add ..
  exact (World.cell?_of_block (a := ad.add j) (by rw [hb]; exact hk.2 _ k2 (hS _ k1).1 (hS _ k1).2)).trans (k3 j u hu)
theorem RelV.ne {w : World} {v v' : Value} (hr : RelV w v v') {k : Nat} (hk : k < w.heap.size) (h : some k ≠ v.ownBlock) : some k ≠ v'.ownBlock := by
  rcases hr with e | e | ⟨j, e, hj⟩
  · rw [e]; exact h
  · rw [e]; simp
  · rw [e]; intro e2; injection e2 with e2; omega
theorem FrC.hear {g : Nat} {vG vG' : Value} {x : List UInt8} {u : Value} {w w' : World} (h : FrC g vG x u w) (hk : Kp g vG w w') (hr : RelV w vG vG') : FrC g vG' x u w' := by
  obtain ⟨A, c, h1, h2, h3⟩ := h
  exact ⟨A, c, h1, h2, ((h3.mono (S' := fun k => (k ≠ g ∧ some k ≠ vG.ownBlock) ∧ k < w.heap.size) fun k hk hS => ⟨hS, hk⟩).kp (fun k h => h.1) hk).mono fun k _ hS => ⟨hS.1.1, hr.ne hS.2 hS.1.2⟩⟩
theorem Cells.kp {w w' : World} {g : Nat} {L : List Value} (h : Cells w g L) (hb : w'.heap[g]? = w.heap[g]?) : Cells w' g L := fun j v hv =>
  ⟨(World.cell?_of_block (a := ⟨g, j, none⟩) hb).trans (h j v hv).1, (World.frozen?_of_block (a := ⟨g, j, none⟩) hb).trans (h j v hv).2⟩
theorem Own.kp {W w w' : World} {B b1 g : Nat} {bs : List (Nat × List Value)} {vG : Value} (h : Own W B bs w) (hk : Kp g vG w w') (hb : Below B W w') (hv : ∀ k, k < b1 → some k ≠ vG.ownBlock) (ha : ∀ p ∈ bs, p.1 ≠ g ∧ p.1 < b1) : Own W B bs w' :=
  ⟨hb, Nat.le_trans h.le hk.1, h.nd, fun p hp => ⟨(h.mem p hp).1, Nat.lt_of_lt_of_le (h.mem p hp).2.1 hk.1, (h.mem p hp).2.2.kp (hk.2 p.1 (h.mem p hp).2.1 (ha p hp).1 (hv p.1 (ha p hp).2))⟩⟩
theorem rowC {g : Nat} {vG : Value} {fs : List (Value × List UInt8)} {w : World} (h : ∀ p ∈ fs, FrC g vG p.2 p.1 w) (hg : g < w.heap.size) (hv : some w.heap.size ≠ vG.ownBlock) :
    FrsS (w.alloc (.cells (fs.map (·.1)).toArray 31)) (fun k => k ≠ g ∧ some k ≠ vG.ownBlock) (some ⟨w.heap.size, 0, none⟩) (fs.map (·.2)) := by
  intro k x hk
  rw [List.getElem?_map] at hk
  cases hp : fs[k]? with
  | none => rw [hp] at hk; cases hk
  | some p =>
    rw [hp] at hk
    injection hk with hk
    subst hk
    obtain ⟨A, c, h1, h2, h3⟩ := h p (List.mem_of_getElem? hp)
    have hC := Cells.of_heap (l := fs.map (·.1)) (heap_alloc_new w (.cells (fs.map (·.1)).toArray 31))
    refine ⟨w.heap.size, 0, A, c, rfl, ⟨Nat.ne_of_gt hg, hv⟩, lt_alloc _ _, ?_, h2, h3.grown (below_grown (balloc w _) none) (fun k e => by cases e)⟩
    rw [Nat.zero_add]
    exact (hC k (.slice A p.2.length c) (by rw [List.getElem?_map, hp, ← h1]; rfl)).1
theorem frc_nil {g : Nat} {vG : Value} {w : World} : ∀ p ∈ ([] : List (Value × List UInt8)), FrC g vG p.2 p.1 w := fun p hp => by cases hp
theorem frc_cons {g : Nat} {vG : Value} {w : World} {u : Value} {x : List UInt8} {l : List (Value × List UInt8)} (h : FrC g vG x u w) (hl : ∀ p ∈ l, FrC g vG p.2 p.1 w) : ∀ p ∈ (u, x) :: l, FrC g vG p.2 p.1 w := fun p hp => by
  rcases List.mem_cons.1 hp with rfl | hp
  · exact h
  · exact hl p hp
/-- a client of a law hears frames. -/
theorem hearL {W : World} {B b1 g ip mac port iss next : Nat} {x : Cl} {vG : Value} (l : List (List UInt8)) (AL : Option Addr) (cL : Nat) {w : World} (S : CliS W B b1 g ip mac port iss next x vG w) (hL : FrsS w (fun k => k ≠ g ∧ some k ≠ vG.ownBlock) AL l) (hl : l.length ≤ 1000) (hlb : ∀ b ∈ l, b.length ≤ 140737488351232)
    (hw : x.wants ≤ 4294967295) (hgl : x.got.length ≤ 10000000) (hip : ip < 4294967296) (hm : mac < 281474976710656) (hp : port < 65536) (hi : iss < 4294967296) (hne : next < 4294967296) (x' : Cl) (t : Bool) (hc : clHears mac ip port iss x false l = (x', t)) :
    Calls Tryz.prog 12 #[.pointer (some ⟨g, 0, none⟩), .slice AL l.length cL] w fun e w' => ∃ v, e = .returned v ∧ ∃ A c vG', v = .slice A (bif t then 1 else 0) c ∧ CliS W B b1 g ip mac port iss next x' vG' w' ∧ Kp g vG w w' ∧ RelV w vG vG' ∧ Below B W w' := by
  refine (cliHears W B g ip mac port iss next x [] vG nilV l AL cL w S.1 S.2.1 hL hl hlb hw hgl hip hm hp hi hne).mono ?_
  rintro e w' ⟨v, he, x2, t2, vG2, h1, _, _, h4, h5, h6, h7, h8, h9⟩
  rw [hc] at h1
  injection h1 with e1 e2
  subst e1 e2
  have hS : CliS W B b1 g ip mac port iss next x' vG2 w' := ⟨h4, h5, fun k hk => h7.ne (Nat.lt_of_lt_of_le hk S.2.2.2) (S.2.2.1 k hk), Nat.le_trans S.2.2.2 h6.1⟩
  cases t with
  | false => exact ⟨v, he, none, 0, vG2, h8 rfl, hS, h6, h7, h4.bel⟩
  | true =>
    obtain ⟨gr, A, n, c, rfl, _⟩ := h9 rfl
    exact ⟨_, he, some ⟨gr, 0, none⟩, 1, vG2, rfl, hS, h6, h7, h4.bel⟩
theorem back28F (ip mac port : Nat) (iss sqp : Int) (vL : Value) (sq ak fl : Nat) (xs : List UInt8) (A : Option Addr) (c : Nat) (hq : (sg28 port sq ak fl xs).ok = true) (hip : ip < 4294967296) (hm : mac < 281474976710656) (w : World) (hx : RB w w.heap.size A xs) :
    Calls Tryz.prog 13 #[.agg ([.int .i64 (ip : Int), .int .i64 (mac : Int), .int .i64 (port : Int), .int .i64 iss, vL, .int .i64 sqp] : List Value).toArray, .agg ([.int .i64 0, .int .i64 0, .int .i64 (sq : Int), .int .i64 (ak : Int), .int .i64 (fl : Int), .int .i64 0, .slice A xs.length c] : List Value).toArray] w fun e w' => ∃ v, e = .returned v ∧ ∃ A' c', v = .slice A' (54 + xs.length) c' ∧ FrIs w.heap.size (fr28 mac ip port sq ak fl xs) (.slice A' (54 + xs.length) c') w' ∧ Below w.heap.size w w' :=
  (back28 ip mac port iss sqp vL sq ak fl 0 0 0 xs A c hq hip hm w hx).mono fun _ _ ⟨v, h1, h2, h3⟩ => by
    obtain ⟨A', c', e, h4, h5⟩ := FrIs.of h2
    rw [wire_length] at e h4
    subst e
    exact ⟨_, h1, A', c', rfl, ⟨A', c', by unfold fr28; rw [wire_length], by unfold fr28; rw [wire_length]; exact h4, h5⟩, h3⟩
theorem fr28_len (mac ip port sq ak fl : Nat) (xs : List UInt8) : (fr28 mac ip port sq ak fl xs).length = 54 + xs.length := wire_length ..
theorem xor_bits (u v : Int) (x y : Operand) (w : World) : (do eqGuard .xor 3 x y (.int .i64 u) (.int .i64 v); binOp .xor 3 (.int .i64 u) (.int .i64 v) : Sem Value).run Tryz.prog w = .ok (.int .i64 (bits .xor .i64 u v)) w := by kernel_rfl
theorem xor_i (u : Nat) (hu : u < 65536) : ∃ v : Nat, v < 65536 ∧ v ≠ u ∧ ∀ (x y : Operand) (w : World), (do eqGuard .xor 3 x y (.int .i64 (u : Int)) (.int .i64 1); binOp .xor 3 (.int .i64 (u : Int)) (.int .i64 1) : Sem Value).run Tryz.prog w = .ok (.int .i64 ((v : Nat) : Int)) w := by
  refine ⟨u ^^^ 1, Nat.xor_lt_two_pow (n := 16) hu (by decide), fun h => ?_, fun x y w => ?_⟩
  · have : u ^^^ 1 ^^^ u = u ^^^ u := by rw [h]
    rw [Nat.xor_self, Nat.xor_comm u 1, Nat.xor_assoc, Nat.xor_self] at this
    simp at this
  · have hx : u ^^^ 1 < 2 ^ 63 := Nat.xor_lt_two_pow (by omega) (by decide)
    have key : bits .xor .i64 (u : Int) ((1 : Nat) : Int) = ((u ^^^ 1 : Nat) : Int) := by
      show IntKind.i64.wrap ((BitVec.ofInt 64 (u : Int) ^^^ BitVec.ofInt 64 ((1 : Nat) : Int)).toNat : Int) = _
      rw [BitVec.toNat_xor, ofInt_i64 u (by omega), ofInt_i64 1 (by decide), IntKind.wrap_i64]
      omega
    rw [← key]
    exact xor_bits (u : Int) 1 _ _ _
/-- what a client of a law got. -/
theorem gotL {W : World} {B b1 g ip mac port iss next : Nat} {x : Cl} {vG : Value} {w : World} (S : CliS W B b1 g ip mac port iss next x vG w) (hn : x.got.length ≤ 40000) (hT : Wd w) :
    Calls Tryz.prog 15 #[.pointer (some ⟨g, 0, none⟩)] w fun e w' => ∃ v, e = .returned v ∧ ∃ l left er A c cs, v = .tuple #[.slice A l.length c, .int .i64 er] ∧ Fed x.got l left er ∧ w'.ownsRow w.heap.size 49 24 (.slice A l.length c) l.length cs ∧ PR w' w.heap.size l cs ∧ Below w.heap.size w w' := by
  obtain ⟨hO, hR, _, hb⟩ := S
  obtain ⟨A, c, rfl, _, _⟩ := own_shape hR.1
  have hx : RB w w.heap.size A x.got := by
    exact RB.of_ownN hR.1
  refine (cliGot g ip mac port iss next x.wants x.up x.got A c nilV w (hO.get 0 rfl) hx hn hT).mono ?_
  rintro e w' ⟨v, rfl, l, left, er, vP, cs, rfl, h1, h2, h3, h4⟩
  obtain ⟨A', c', rfl, _, _⟩ := own_shape h2
  exact ⟨_, rfl, l, left, er, A', c', cs, rfl, h1, h2, h3, h4⟩
end Go.Proofs.YtlacidnnankjlaaGreatDoor
