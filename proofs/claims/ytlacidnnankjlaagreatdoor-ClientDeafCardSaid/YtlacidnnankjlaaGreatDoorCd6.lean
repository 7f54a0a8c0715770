/-
  The walk of the law ClientDeaf.
-/
import Derived.Test.YtlacidnnankjlaaGreatDoorRows
import Derived.ProofKit
import Derived.SizedLaws
import Derived.Carry
import Derived.ChangeSame
import Derived.Deep.Slices
import Derived.Deep.Fields
import Derived.LaidMore
import Derived.LaidLaws
import Derived.Handed
import Derived.Stop.Joined
import Derived.Lib.LaidIn
import Derived.Lib.LaidU8T
import Derived.Test.YtlacidnnankjlaaGreatDoorCd5
namespace Go.Proofs.YtlacidnnankjlaaGreatDoor
open Go.RowKit

theorem size_askD : (Tryz.prog.info? 24).map (·.size) = some 6 := by kernel_rfl
theorem zero_askD (w : World) : (zeroValue 24).run Tryz.prog w = .ok (.agg ([.int .i64 0, .int .i64 0, .int .i64 0, .int .i64 0, nilV, .int .i64 0] : List Value).toArray) w := by kernel_rfl
theorem len_one {x : List UInt8} (h : x.length ≤ 10000) : ∀ b ∈ [x], b.length ≤ 140737488351232 := fun b hb => by rw [List.mem_singleton.1 hb]; omega
theorem pr_one {w : World} {b : Nat} {m : Mq} {cs : List Value} (h : PR w b [m] cs) : cs[0]? = some (.int .i64 m.kind) := by
  obtain ⟨hi, _, h⟩ := h
  generalize hL : [m] = L at h
  cases h with
  | nil => cases hL
  | @snoc l xs m' cs' hi' lo hi2 h1 h2 h3 h4 =>
    cases l with
    | cons a l => cases l <;> simp at hL
    | nil =>
      simp only [List.nil_append, List.cons.injEq, and_true] at hL
      subst hL
      have hx := h1.len
      have : xs = [] := List.eq_nil_of_length_eq_zero (by simpa using hx)
      subst this
      obtain ⟨vc, vw, vf, rfl, _⟩ := h4
      rfl
set_option maxRecDepth 100000 in
set_option maxHeartbeats 12800000 in
theorem deaf_yes (ip mac port iss : Nat) (sqp : Int) (AK : Option Addr) (nK cK : Nat) (hip : ip < 4294967296) (hm : mac < 281474976710656) (hp : port < 65536) (hi : iss < 4294967296) (w : World) (hT : Wd w) :
    Calls Tryz.prog 3 #[.agg ([.int .i64 (ip : Int), .int .i64 (mac : Int), .int .i64 (port : Int), .int .i64 (iss : Int), (.slice AK nK cK), .int .i64 sqp] : List Value).toArray] w fun e w' => e = .returned (.bool true) ∧ Below w.heap.size w w' := by
  have h1 : inR (ip : Int) 4294967295 = true := inR_iff.2 ⟨by omega, by omega⟩
  have h2 : inR (mac : Int) 281474976710655 = true := inR_iff.2 ⟨by omega, by omega⟩
  have h3 : inR (port : Int) 65535 = true := inR_iff.2 ⟨by omega, by omega⟩
  have h4 : inR (iss : Int) 4294967295 = true := inR_iff.2 ⟨by omega, by omega⟩
  have hn1 : spAdd iss 1 < 4294967296 := spAdd_lt _ _
  go_enter Tryz.func3, Tryz.ntmps3
  refine Has.start 168 [(0, .agg ([.int .i64 (ip : Int), .int .i64 (mac : Int), .int .i64 (port : Int), .int .i64 (iss : Int), (.slice AK nK cK), .int .i64 sqp] : List Value).toArray)] rfl rfl ⟨rfl, trivial⟩ ?_
  intro a0 H0
  refine rl ?_
  refine H0.bx (Own.start w) 1 (L := [.int .i64 (ip : Int), .int .i64 (mac : Int), .int .i64 (port : Int), .int .i64 (iss : Int), (.slice AK nK cK), .int .i64 sqp]) fun a w1 O1 H => nt ?_
  obtain ⟨gp, hgp⟩ : ∃ gp, w.heap.size = gp := ⟨_, rfl⟩
  rw [hgp] at O1 H
  replace H := H.keep (l' := [(1, .pointer (some ⟨gp, 0, none⟩))]) ⟨rfl, trivial⟩
  refine H.rg 0 fun a H => ?_
  refine H.loadS rfl rfl rfl rfl rfl (O1.get 0 rfl) Tryz.underlying24 rfl size_askD rfl fun a H => ?_
  refine H.cl (belowC (may28 ip mac port iss sqp (.slice AK nK cK) true true true true h1 h2 h3 h4 w1)) ?_
  rintro a _ w2 ⟨rfl, hb2⟩ H
  have O2 := O1.call hb2
  refine H.un gz rfl rfl rfl rfl (run_not true _) fun a H => nt (H.condF rfl (skip_wp (then_normal ?_)))
  replace H := H.keep (l' := [(1, .pointer (some ⟨gp, 0, none⟩))]) ⟨rfl, trivial⟩
  refine H.rg 1 fun a H => ?_
  refine H.ld 1 (O2.li 0 0) fun a H => ?_
  refine H.ld 1 (O2.li 0 1) fun a H => ?_
  refine H.ld 1 (O2.li 0 2) fun a H => ?_
  refine H.ld 0 (O2.li 0 3) fun a H => ?_
  refine H.cl (cliNew ip mac port iss hip hm hp hi w2) ?_
  rintro a _ w3 ⟨g, rfl, On⟩ H
  have hgw2 := On.ge 0 rfl
  have O3 : Own w gp [(g, cliC ip mac port iss (spAdd iss 1) 0 false nilV nilV), (gp, [.int .i64 (ip : Int), .int .i64 (mac : Int), .int .i64 (port : Int), .int .i64 (iss : Int), (.slice AK nK cK), .int .i64 sqp])] w3 := by
    have h12 := O2.lt 0 rfl
    exact addq0 (O2.call On.bel) (by omega) (On.lt 0 rfl) (by intro p hp; rw [List.mem_singleton.1 hp]; show gp ≠ g; omega) (On.get 0 rfl)
  clear On hb2 O2 O1 H0
  refine H.ms 1 fun a H => ?_
  refine H.ex (r := .pointer (some ⟨g, 0, none⟩)) 0 fun a H => ?_
  refine H.ex (r := .int .i64 0) 2 fun a H => nt ?_
  replace H := H.keep (l' := [(1, .pointer (some ⟨gp, 0, none⟩)), (3, .pointer (some ⟨g, 0, none⟩)), (4, .int .i64 0)]) ⟨rfl, rfl, rfl, trivial⟩
  refine H.rg 1 fun a H => ?_
  refine H.cq 0 (num28 0 w3) fun a H => ?_
  refine H.bn 1 (neq_3 0 0 false rfl _ _ _) fun a H => ?_
  refine H.go (H.wt rfl rfl rfl) rfl rfl _ (run_move (.inl rfl) (H.ev rfl)) fun a H => ?_
  refine H.bin (H.wt rfl rfl rfl) rfl rfl rfl rfl rfl (eql_p ⟨g, 0, none⟩ _ _ _) fun a H => ?_
  refine H.pick gz rfl rfl rfl rfl rfl fun a H => nt (H.condF rfl (skip_wp (then_normal ?_)))
  replace H := H.keep (l' := [(1, .pointer (some ⟨gp, 0, none⟩)), (3, .pointer (some ⟨g, 0, none⟩))]) ⟨rfl, rfl, trivial⟩
  refine H.rg 1 fun a H => ?_
  refine H.cl (cliDial g ip mac port iss (spAdd iss 1) 0 false nilV nilV w3 (O3.get 0 rfl) (O3.lt 0 rfl) hip hm hp hi) ?_
  rintro a v4 w4 ⟨_, hgr4, hC4⟩ H
  have O4 : Own w gp [(g, cliC ip mac port iss (spAdd iss 1) 0 false nilV nilV), (gp, [.int .i64 (ip : Int), .int .i64 (mac : Int), .int .i64 (port : Int), .int .i64 (iss : Int), (.slice AK nK cK), .int .i64 sqp])] w4 := O3.turn 0 rfl hgr4 hC4
  refine nt ?_
  clear O3 hC4
  replace H := H.keep (l' := [(1, .pointer (some ⟨gp, 0, none⟩)), (3, .pointer (some ⟨g, 0, none⟩))]) ⟨rfl, rfl, trivial⟩
  obtain ⟨s, hse⟩ : ∃ s : Nat, sqp % 4294967296 = (s : Int) := ⟨(sqp % 4294967296).toNat, by omega⟩
  have hs : s ≤ 4294967295 := by omega
  refine H.rg 1 fun a H => ?_
  refine H.ld 0 (O4.li 1 5) fun a H => ?_
  refine H.cv 0 (conv_32 sqp w4) fun a H => ?_
  refine H.cv 1 (conv_23 (sqp % 4294967296) (by omega) (by omega) w4) fun a H => nt ?_
  rw [hse] at H
  replace H := H.keep (l' := [(1, .pointer (some ⟨gp, 0, none⟩)), (3, .pointer (some ⟨g, 0, none⟩)), (5, .int .i64 (s : Int))]) ⟨rfl, rfl, rfl, trivial⟩
  refine H.rg 0 fun a H => ?_
  refine H.loadS rfl rfl rfl rfl rfl (O4.get 1 rfl) Tryz.underlying24 rfl size_askD rfl fun a H => ?_
  refine H.nk O4 0 (L := [.int .i64 (ip : Int), .int .i64 (mac : Int), .int .i64 (port : Int), .int .i64 (iss : Int), (.slice AK nK cK), .int .i64 sqp]) rfl zero_askD size_askD (fun a w5 _ O5 _ H => nt ?_)
  generalize w4.heap.size = g6 at O5 H
  replace H := H.keep (l' := [(1, .pointer (some ⟨gp, 0, none⟩)), (3, .pointer (some ⟨g, 0, none⟩)), (5, .int .i64 (s : Int)), (6, .pointer (some ⟨g6, 0, none⟩))]) ⟨rfl, rfl, rfl, rfl, trivial⟩
  refine H.rg 1 fun a H => ?_
  refine H.ld 0 (O5.li 2 2) fun a H => ?_
  obtain ⟨px, hpx, hpn, hxor⟩ := xor_i port hp
  refine H.bn 1 (hxor _ _ w5) fun a H => ?_
  refine H.sc O5 0 0 (store1_i g6 2 (px : Int) · w5) (fun a w6 O6 H => nt ?_)
  replace O6 : Own w gp [(g6, [.int .i64 (ip : Int), .int .i64 (mac : Int), .int .i64 (px : Int), .int .i64 (iss : Int), (.slice AK nK cK), .int .i64 sqp]), (g, cliC ip mac port iss (spAdd iss 1) 0 false nilV nilV), (gp, [.int .i64 (ip : Int), .int .i64 (mac : Int), .int .i64 (port : Int), .int .i64 (iss : Int), (.slice AK nK cK), .int .i64 sqp])] w6 := O6
  replace H := H.keep (l' := [(1, .pointer (some ⟨gp, 0, none⟩)), (3, .pointer (some ⟨g, 0, none⟩)), (5, .int .i64 (s : Int)), (6, .pointer (some ⟨g6, 0, none⟩))]) ⟨rfl, rfl, rfl, rfl, trivial⟩
  refine H.rg 2 fun a H => ?_
  refine H.ld 0 (O6.li 2 3) fun a H => ?_
  refine H.cq 0 (pageAdd iss 1 w6) fun a H => ?_
  refine H.any (w' := w6) gz rfl rfl (.agg ([.int .i64 0, .int .i64 0, .int .i64 (s : Int), .int .i64 ((spAdd iss 1 : Nat) : Int), .int .i64 ((18 : Nat) : Int), .int .i64 0, nilV] : List Value).toArray) (by intro cs b h; cases h) (by kernel_rfl) (by kernel_rfl) fun a H => ?_
  refine H.nk O6 0 (L := [.int .i64 0, .int .i64 0, .int .i64 (s : Int), .int .i64 ((spAdd iss 1 : Nat) : Int), .int .i64 ((18 : Nat) : Int), .int .i64 0, nilV]) rfl zero_sg27 size_sg27 (fun a w7 _ O7 _ H => nt ?_)
  generalize w6.heap.size = g7 at O7 H
  have nd := O7.nd
  simp only [List.map_cons, List.map_nil, List.nodup_cons, List.mem_cons, List.not_mem_nil, or_false, not_or] at nd
  obtain ⟨b1, hb1⟩ : ∃ b1, w7.heap.size = b1 := ⟨_, rfl⟩
  have hg7 := O7.lt 0 rfl
  have hg6 := O7.lt 1 rfl
  have hg := O7.lt 2 rfl
  have hgpl := O7.lt 3 rfl
  have hOo : ∀ p ∈ ([(g7, [.int .i64 0, .int .i64 0, .int .i64 (s : Int), .int .i64 ((spAdd iss 1 : Nat) : Int), .int .i64 ((18 : Nat) : Int), .int .i64 0, nilV]), (g6, [.int .i64 (ip : Int), .int .i64 (mac : Int), .int .i64 (px : Int), .int .i64 (iss : Int), (.slice AK nK cK), .int .i64 sqp]), (gp, [.int .i64 (ip : Int), .int .i64 (mac : Int), .int .i64 (port : Int), .int .i64 (iss : Int), (.slice AK nK cK), .int .i64 sqp])] : List (Nat × List Value)), p.1 ≠ g ∧ p.1 < b1 := by
    intro p hp
    simp only [List.mem_cons, List.not_mem_nil, or_false] at hp
    rw [← hb1]
    rcases hp with rfl | rfl | rfl
    · exact ⟨nd.1.2.1, hg7⟩
    · exact ⟨nd.2.1.1, hg6⟩
    · exact ⟨Ne.symm nd.2.2.1, hgpl⟩
  have Oo7 : Own w gp [(g7, [.int .i64 0, .int .i64 0, .int .i64 (s : Int), .int .i64 ((spAdd iss 1 : Nat) : Int), .int .i64 ((18 : Nat) : Int), .int .i64 0, nilV]), (g6, [.int .i64 (ip : Int), .int .i64 (mac : Int), .int .i64 (px : Int), .int .i64 (iss : Int), (.slice AK nK cK), .int .i64 sqp]), (gp, [.int .i64 (ip : Int), .int .i64 (mac : Int), .int .i64 (port : Int), .int .i64 (iss : Int), (.slice AK nK cK), .int .i64 sqp])] w7 := O7.sub (.cons_cons _ (.cons_cons _ (.cons _ (.cons_cons _ (List.nil_sublist _)))))
  have S7 : CliS w gp b1 g ip mac port iss (spAdd iss 1) ⟨0, false, []⟩ nilV w7 := ⟨O7.sub (.cons _ (.cons _ (.cons_cons _ (List.nil_sublist _)))), CliR.nil, fun k _ h => (by cases h), Nat.le_of_eq hb1.symm⟩
  have hgb1 : g < b1 := hb1 ▸ hg
  clear O7 O6 O5 O4 nd hg7 hg6 hg hgpl
  replace H := H.keep (l' := [(1, .pointer (some ⟨gp, 0, none⟩)), (3, .pointer (some ⟨g, 0, none⟩)), (5, .int .i64 (s : Int)), (6, .pointer (some ⟨g6, 0, none⟩)), (7, .pointer (some ⟨g7, 0, none⟩))]) ⟨rfl, rfl, rfl, rfl, rfl, trivial⟩
  refine H.rg 1 fun a H => ?_
  refine H.loadS rfl rfl rfl rfl rfl (Oo7.get 1 rfl) Tryz.underlying24 rfl size_askD rfl fun a H => ?_
  refine H.loadS rfl rfl rfl rfl rfl (Oo7.get 0 rfl) Tryz.underlying36 rfl size_sg27 rfl fun a H => ?_
  have okO : (sg28 px s (spAdd iss 1) 18 []).ok = true := sg28_ok (by omega) hs (Nat.le_of_lt_succ hn1) (by decide) (by decide)
  have okP : (sg28 port s (spAdd iss 1) 18 []).ok = true := sg28_ok (by omega) hs (Nat.le_of_lt_succ hn1) (by decide) (by decide)
  refine H.cl (back28F ip mac px iss sqp (.slice AK nK cK) s (spAdd iss 1) 18 [] none 0 okO hip hm w7 RB.nil) ?_
  rintro a _ w8 ⟨Aw8, cw8, rfl, hfw8, hbw8⟩ H
  have Sw8 := S7.next hbw8
  have Oow8 := Oo7.call hbw8
  have fc8 := FrC.of (vG := nilV) hfw8 (Nat.lt_of_lt_of_le hgb1 (hb1 ▸ Nat.le_refl _)) (fun k _ h => by cases h)
  have hLw9 := rowC (g := g) (vG := nilV) (fs := [(.slice Aw8 (54 + 0) cw8, fr28 mac ip px s (spAdd iss 1) 18 [])]) (w := w8) (frc_cons fc8 frc_nil) (Nat.lt_of_lt_of_le hgb1 Sw8.2.2.2) (own_ne Sw8.2.1.1 (.inr (Nat.le_refl _)))
  refine H.any (w' := w8.alloc (.cells ([.slice Aw8 (54 + 0) cw8] : List Value).toArray 31)) gz rfl rfl (.slice (some ⟨w8.heap.size, 0, none⟩) 1 1) (by intro cs b h; cases h) (by kernel_rfl) (by kernel_rfl) fun a H => ?_
  have hbw9 : Below w8.heap.size w8 (w8.alloc (.cells ([.slice Aw8 (54 + 0) cw8] : List Value).toArray 31)) := balloc _ _
  replace hLw9 : FrsS (w8.alloc (.cells ([.slice Aw8 (54 + 0) cw8] : List Value).toArray 31)) (fun k => k ≠ g ∧ some k ≠ (nilV : Value).ownBlock) (some ⟨w8.heap.size, 0, none⟩) [fr28 mac ip px s (spAdd iss 1) 18 []] := hLw9
  generalize w8.alloc (.cells ([.slice Aw8 (54 + 0) cw8] : List Value).toArray 31) = w9 at *
  generalize hgrw9 : w8.heap.size = grw9 at H hLw9
  have Sw9 := Sw8.next hbw9
  have Oow9 := Oow8.call hbw9
  have tO : toldCli mac ip port (fr28 mac ip px s (spAdd iss 1) 18 []) = none := by rw [told_cli hm hip okO, if_neg hpn]
  refine H.cl (hearL (x := ⟨0, false, []⟩) [fr28 mac ip px s (spAdd iss 1) 18 []] (some ⟨grw9, 0, none⟩) 1 Sw9 hLw9 (by show 1 ≤ 1000; decide) (len_one (by rw [fr28_len]; show 54 + 0 ≤ 10000; decide)) (by decide) (by show _ ≤ 10000000; simp) hip hm hp hi hn1 ⟨0, false, []⟩ false (by simp only [clHears, tO])) ?_
  rintro a _ w10 ⟨Aw10, cw10, vGw10, rfl, Sw10, hkw10, hrw10, hbw10⟩ H
  rw [cond_false] at H
  have Oow10 := Oow9.kp hkw10 hbw10 Sw9.2.2.1 hOo
  refine H.len gz rfl rfl rfl rfl Tryz.underlying37 fun a H => ?_
  refine H.bn 1 (neq_3 0 0 false rfl _ _ _) fun a H => ?_
  refine H.go (H.wt rfl rfl rfl) rfl rfl _ (run_move (.inl rfl) (H.ev rfl)) fun a H => ?_
  refine H.call (H.wt rfl rfl rfl) rfl rfl rfl rfl (fun _ _ => by kernel_rfl) (quietC (cliUp g ip mac port iss (spAdd iss 1) 0 false vGw10 nilV w10 (Sw10.1.get 0 rfl))) ?_
  rintro a _ _ ⟨rfl, rfl⟩ H
  refine H.pick gz rfl rfl rfl rfl rfl fun a H => ?_
  refine H.ms 1 fun a H => ?_
  refine H.go (H.wt rfl rfl rfl) rfl rfl _ (run_move (.inl rfl) (H.ev rfl)) fun a H => ?_
  refine H.call (H.wt rfl rfl rfl) rfl rfl rfl rfl (fun _ _ => by kernel_rfl) (hearL (x := ⟨0, false, []⟩) [] none 0 Sw10 (fun k b h => by simp at h) (by show 0 ≤ 1000; decide) (fun b hb => by cases hb) (by decide) (by show _ ≤ 10000000; simp) hip hm hp hi hn1 ⟨0, false, []⟩ false rfl) ?_
  rintro a _ w11 ⟨Aw11, cw11, vGw11, rfl, Sw11, hkw11, hrw11, hbw11⟩ H
  rw [cond_false] at H
  have Oow11 := Oow10.kp hkw11 hbw11 Sw10.2.2.1 hOo
  refine H.len (H.wt rfl rfl rfl) rfl rfl rfl rfl Tryz.underlying37 fun a H => ?_
  refine H.bin (H.wt rfl rfl rfl) rfl rfl rfl rfl rfl (neq_3 0 0 false rfl _ _ _) fun a H => ?_
  refine H.pick gz rfl rfl rfl rfl rfl fun a H => nt (H.condF rfl (skip_wp (then_normal ?_)))
  replace H := H.keep (l' := [(1, .pointer (some ⟨gp, 0, none⟩)), (3, .pointer (some ⟨g, 0, none⟩)), (5, .int .i64 (s : Int)), (6, .pointer (some ⟨g6, 0, none⟩)), (7, .pointer (some ⟨g7, 0, none⟩))]) ⟨rfl, rfl, rfl, rfl, rfl, trivial⟩
  refine H.rg 1 fun a H => ?_
  refine H.loadS rfl rfl rfl rfl rfl (Oow11.get 2 rfl) Tryz.underlying24 rfl size_askD rfl fun a H => ?_
  refine H.loadS rfl rfl rfl rfl rfl (Oow11.get 0 rfl) Tryz.underlying36 rfl size_sg27 rfl fun a H => ?_
  refine H.cl (back28F ip mac port iss sqp (.slice AK nK cK) s (spAdd iss 1) 18 [] none 0 okP hip hm w11 RB.nil) ?_
  rintro a _ w12 ⟨Aw12, cw12, rfl, hfw12, hbw12⟩ H
  have Sw12 := Sw11.next hbw12
  have Oow12 := Oow11.call hbw12
  have fc12 := FrC.of (vG := vGw11) hfw12 (Nat.lt_of_lt_of_le hgb1 Sw11.2.2.2) (fun k hk => own_ne Sw11.2.1.1 (.inr hk))
  have hLw13 := rowC (g := g) (vG := vGw11) (fs := [(.slice Aw12 (54 + 0) cw12, fr28 mac ip port s (spAdd iss 1) 18 [])]) (w := w12) (frc_cons fc12 frc_nil) (Nat.lt_of_lt_of_le hgb1 Sw12.2.2.2) (own_ne Sw12.2.1.1 (.inr (Nat.le_refl _)))
  refine H.any (w' := w12.alloc (.cells ([.slice Aw12 (54 + 0) cw12] : List Value).toArray 31)) gz rfl rfl (.slice (some ⟨w12.heap.size, 0, none⟩) 1 1) (by intro cs b h; cases h) (by kernel_rfl) (by kernel_rfl) fun a H => ?_
  have hbw13 : Below w12.heap.size w12 (w12.alloc (.cells ([.slice Aw12 (54 + 0) cw12] : List Value).toArray 31)) := balloc _ _
  replace hLw13 : FrsS (w12.alloc (.cells ([.slice Aw12 (54 + 0) cw12] : List Value).toArray 31)) (fun k => k ≠ g ∧ some k ≠ (vGw11 : Value).ownBlock) (some ⟨w12.heap.size, 0, none⟩) [fr28 mac ip port s (spAdd iss 1) 18 []] := hLw13
  generalize w12.alloc (.cells ([.slice Aw12 (54 + 0) cw12] : List Value).toArray 31) = w13 at *
  generalize hgrw13 : w12.heap.size = grw13 at H hLw13
  have Sw13 := Sw12.next hbw13
  have Oow13 := Oow12.call hbw13
  have tP : toldCli mac ip port (fr28 mac ip port s (spAdd iss 1) 18 []) = some (sg28 port s (spAdd iss 1) 18 []) := by rw [told_cli hm hip okP, if_pos rfl]
  refine H.cl (hearL (x := ⟨0, false, []⟩) [fr28 mac ip port s (spAdd iss 1) 18 []] (some ⟨grw13, 0, none⟩) 1 Sw13 hLw13 (by show 1 ≤ 1000; decide) (len_one (by rw [fr28_len]; show 54 + 0 ≤ 10000; decide)) (by decide) (by show _ ≤ 10000000; simp) hip hm hp hi hn1 ⟨spAdd s 1, true, []⟩ true (by simp only [clHears, tP, clHear_syn, Bool.or_true])) ?_
  rintro a _ w14 ⟨Aw14, cw14, vGw14, rfl, Sw14, hkw14, hrw14, hbw14⟩ H
  rw [cond_true] at H
  have Oow14 := Oow13.kp hkw14 hbw14 Sw13.2.2.1 hOo
  refine H.len gz rfl rfl rfl rfl Tryz.underlying37 fun a H => ?_
  refine H.bn 1 (neq_3 1 1 false rfl _ _ _) fun a H => ?_
  refine H.go (H.wt rfl rfl rfl) rfl rfl _ (run_move (.inl rfl) (H.ev rfl)) fun a H => ?_
  refine H.call (H.wt rfl rfl rfl) rfl rfl rfl rfl (fun _ _ => by kernel_rfl) (quietC (cliUp g ip mac port iss (spAdd iss 1) (spAdd s 1) true vGw14 nilV w14 (Sw14.1.get 0 rfl))) ?_
  rintro a _ _ ⟨rfl, rfl⟩ H
  refine H.un (H.wt rfl rfl rfl) rfl rfl rfl rfl (run_not true _) fun a H => ?_
  refine H.pick gz rfl rfl rfl rfl rfl fun a H => nt (H.condF rfl (skip_wp (then_normal ?_)))
  replace H := H.keep (l' := [(1, .pointer (some ⟨gp, 0, none⟩)), (3, .pointer (some ⟨g, 0, none⟩)), (5, .int .i64 (s : Int)), (6, .pointer (some ⟨g6, 0, none⟩)), (7, .pointer (some ⟨g7, 0, none⟩))]) ⟨rfl, rfl, rfl, rfl, rfl, trivial⟩
  have okw15 : (sg28 port (spAdd s 3) 0 16 [0]).ok = true := sg28_ok (by omega) (Nat.le_of_lt_succ (spAdd_lt _ _)) (by decide) (by decide) (by decide)
  refine H.sg (fun w' => (CliS w gp b1 g ip mac port iss (spAdd iss 1) ⟨spAdd s 1, true, []⟩ vGw14 w' ∧ Own w gp [(g7, [.int .i64 0, .int .i64 0, .int .i64 (s : Int), .int .i64 ((spAdd iss 1 : Nat) : Int), .int .i64 ((18 : Nat) : Int), .int .i64 0, nilV]), (g6, [.int .i64 (ip : Int), .int .i64 (mac : Int), .int .i64 (px : Int), .int .i64 (iss : Int), (.slice AK nK cK), .int .i64 sqp]), (gp, [.int .i64 (ip : Int), .int .i64 (mac : Int), .int .i64 (port : Int), .int .i64 (iss : Int), (.slice AK nK cK), .int .i64 sqp])] w' ∧ (True))) ⟨Sw14.next (Below.drew (Below.refl _ _)), Oow14.drew, trivial⟩ [1, 3, 5, 6, 7] [ec 0 83 (.agg ([.int .i64 (ip : Int), .int .i64 (mac : Int), .int .i64 (port : Int), .int .i64 (iss : Int), (.slice AK nK cK), .int .i64 sqp] : List Value).toArray), ec 1 84 (.int .i64 (s : Int)), ec 2 85 (.int .i64 ((spAdd s 3 : Nat) : Int))] rfl ?_
  refine St.val 3 ⟨jl fun _ h => loadT (h.2.1.get 2 rfl) Tryz.underlying24 rfl size_askD rfl, jm, jq fun w' _ => pageAdd s 3 w', trivial⟩ ?_
  rintro a wx H _ h
  obtain ⟨⟨Aq, cq, eq, hq⟩, hbq⟩ := bytes_lit wx [0] [.int .u8 0] rfl 5 1 rfl
  refine ⟨.slice (some ⟨wx.heap.size, 0, none⟩) 1 1, wx.alloc (.cells ([.int .u8 0] : List Value).toArray 5), run_any H (by intro cs b h; cases h) (by kernel_rfl) (by kernel_rfl), ?_⟩
  generalize wx.alloc (.cells ([.int .u8 0] : List Value).toArray 5) = wy at hq hbq ⊢
  obtain ⟨gq, hgq⟩ : ∃ gq, wx.heap.size = gq := ⟨_, rfl⟩
  rw [hgq] at eq ⊢
  injection eq with e1 _ e3
  subst e1 e3
  refine nx (fun w' => (CliS w gp b1 g ip mac port iss (spAdd iss 1) ⟨spAdd s 1, true, []⟩ vGw14 w' ∧ Own w gp [(g7, [.int .i64 0, .int .i64 0, .int .i64 (s : Int), .int .i64 ((spAdd iss 1 : Nat) : Int), .int .i64 ((18 : Nat) : Int), .int .i64 0, nilV]), (g6, [.int .i64 (ip : Int), .int .i64 (mac : Int), .int .i64 (px : Int), .int .i64 (iss : Int), (.slice AK nK cK), .int .i64 sqp]), (gp, [.int .i64 (ip : Int), .int .i64 (mac : Int), .int .i64 (port : Int), .int .i64 (iss : Int), (.slice AK nK cK), .int .i64 sqp])] w' ∧ (True)) ∧ RB w' w'.heap.size (some ⟨gq, 0, none⟩) [0]) [ec 4 87 (.agg ([.int .i64 0, .int .i64 0, .int .i64 ((spAdd s 3 : Nat) : Int), .int .i64 ((0 : Nat) : Int), .int .i64 ((16 : Nat) : Int), .int .i64 0, .slice (some ⟨gq, 0, none⟩) 1 1] : List Value).toArray)] [] ⟨⟨h.1.next hbq, h.2.1.call hbq, trivial⟩, hq⟩ ?_
  have KK : ∀ wy, ((CliS w gp b1 g ip mac port iss (spAdd iss 1) ⟨spAdd s 1, true, []⟩ vGw14 wy ∧ Own w gp [(g7, [.int .i64 0, .int .i64 0, .int .i64 (s : Int), .int .i64 ((spAdd iss 1 : Nat) : Int), .int .i64 ((18 : Nat) : Int), .int .i64 0, nilV]), (g6, [.int .i64 (ip : Int), .int .i64 (mac : Int), .int .i64 (px : Int), .int .i64 (iss : Int), (.slice AK nK cK), .int .i64 sqp]), (gp, [.int .i64 (ip : Int), .int .i64 (mac : Int), .int .i64 (port : Int), .int .i64 (iss : Int), (.slice AK nK cK), .int .i64 sqp])] wy ∧ (True)) ∧ RB wy wy.heap.size (some ⟨gq, 0, none⟩) [0]) → _ := fun wy h => back28F ip mac port iss sqp (.slice AK nK cK) (spAdd s 3) 0 16 [0] (some ⟨gq, 0, none⟩) 1 okw15 hip hm wy h.2
  refine St.call 5 ⟨ja (fun _ => by kernel_rfl), jl fun _ h => loadT (h.1.2.1.get 2 rfl) Tryz.underlying24 rfl size_askD rfl, jm, jq fun w' _ => pageAdd s 3 w', trivial⟩ KK ?_
  clear h hq hbq H
  rintro wx2 _ wz hh ⟨Aw15, cw15, rfl, hfr, hbz⟩
  have fc := FrC.of (vG := vGw14) hfr (Nat.lt_of_lt_of_le hgb1 hh.1.1.2.2.2) (fun k hk => own_ne hh.1.1.2.1.1 (.inr hk))
  refine nx (fun w' => (CliS w gp b1 g ip mac port iss (spAdd iss 1) ⟨spAdd s 1, true, []⟩ vGw14 w' ∧ Own w gp [(g7, [.int .i64 0, .int .i64 0, .int .i64 (s : Int), .int .i64 ((spAdd iss 1 : Nat) : Int), .int .i64 ((18 : Nat) : Int), .int .i64 0, nilV]), (g6, [.int .i64 (ip : Int), .int .i64 (mac : Int), .int .i64 (px : Int), .int .i64 (iss : Int), (.slice AK nK cK), .int .i64 sqp]), (gp, [.int .i64 (ip : Int), .int .i64 (mac : Int), .int .i64 (port : Int), .int .i64 (iss : Int), (.slice AK nK cK), .int .i64 sqp])] w' ∧ (True)) ∧ FrC g vGw14 (fr28 mac ip port (spAdd s 3) 0 16 [0]) (.slice Aw15 (54 + 1) cw15) w') [ec 6 8 (.slice Aw15 (54 + 1) cw15)] [] ⟨⟨hh.1.1.next hbz, hh.1.2.1.call hbz, trivial⟩, fc⟩ (St.fin ⟨jm, trivial⟩ ?_)
  clear fc hfr hbz hh
  rintro a w15 H _ ⟨⟨Sw15, Oow15, _⟩, fcw15⟩
  refine then_normal ?_
  replace H := H.keep (l' := [(1, .pointer (some ⟨gp, 0, none⟩)), (3, .pointer (some ⟨g, 0, none⟩)), (5, .int .i64 (s : Int)), (6, .pointer (some ⟨g6, 0, none⟩)), (7, .pointer (some ⟨g7, 0, none⟩)), (8, .slice Aw15 (54 + 1) cw15)]) ⟨rfl, rfl, rfl, rfl, rfl, rfl, trivial⟩
  have okw16 : (sg28 port (spAdd s 1) 0 16 [208, 0]).ok = true := sg28_ok (by omega) (Nat.le_of_lt_succ (spAdd_lt _ _)) (by decide) (by decide) (by decide)
  refine H.sg (fun w' => (CliS w gp b1 g ip mac port iss (spAdd iss 1) ⟨spAdd s 1, true, []⟩ vGw14 w' ∧ Own w gp [(g7, [.int .i64 0, .int .i64 0, .int .i64 (s : Int), .int .i64 ((spAdd iss 1 : Nat) : Int), .int .i64 ((18 : Nat) : Int), .int .i64 0, nilV]), (g6, [.int .i64 (ip : Int), .int .i64 (mac : Int), .int .i64 (px : Int), .int .i64 (iss : Int), (.slice AK nK cK), .int .i64 sqp]), (gp, [.int .i64 (ip : Int), .int .i64 (mac : Int), .int .i64 (port : Int), .int .i64 (iss : Int), (.slice AK nK cK), .int .i64 sqp])] w' ∧ (FrC g vGw14 (fr28 mac ip port (spAdd s 3) 0 16 [0]) (.slice Aw15 (54 + 1) cw15) w'))) ⟨Sw15.next (Below.drew (Below.refl _ _)), Oow15.drew, fcw15.next (Below.drew (Below.refl _ _))⟩ [1, 3, 5, 6, 7, 8] [ec 0 89 (.agg ([.int .i64 (ip : Int), .int .i64 (mac : Int), .int .i64 (port : Int), .int .i64 (iss : Int), (.slice AK nK cK), .int .i64 sqp] : List Value).toArray), ec 1 90 (.int .i64 (s : Int)), ec 2 91 (.int .i64 ((spAdd s 1 : Nat) : Int))] rfl ?_
  refine St.val 3 ⟨jl fun _ h => loadT (h.2.1.get 2 rfl) Tryz.underlying24 rfl size_askD rfl, jm, jq fun w' _ => pageAdd s 1 w', trivial⟩ ?_
  rintro a wx H _ h
  obtain ⟨⟨Aq, cq, eq, hq⟩, hbq⟩ := bytes_lit wx [208, 0] [.int .u8 208, .int .u8 0] rfl 5 2 rfl
  refine ⟨.slice (some ⟨wx.heap.size, 0, none⟩) 2 2, wx.alloc (.cells ([.int .u8 208, .int .u8 0] : List Value).toArray 5), run_any H (by intro cs b h; cases h) (by kernel_rfl) (by kernel_rfl), ?_⟩
  generalize wx.alloc (.cells ([.int .u8 208, .int .u8 0] : List Value).toArray 5) = wy at hq hbq ⊢
  obtain ⟨gq, hgq⟩ : ∃ gq, wx.heap.size = gq := ⟨_, rfl⟩
  rw [hgq] at eq ⊢
  injection eq with e1 _ e3
  subst e1 e3
  refine nx (fun w' => (CliS w gp b1 g ip mac port iss (spAdd iss 1) ⟨spAdd s 1, true, []⟩ vGw14 w' ∧ Own w gp [(g7, [.int .i64 0, .int .i64 0, .int .i64 (s : Int), .int .i64 ((spAdd iss 1 : Nat) : Int), .int .i64 ((18 : Nat) : Int), .int .i64 0, nilV]), (g6, [.int .i64 (ip : Int), .int .i64 (mac : Int), .int .i64 (px : Int), .int .i64 (iss : Int), (.slice AK nK cK), .int .i64 sqp]), (gp, [.int .i64 (ip : Int), .int .i64 (mac : Int), .int .i64 (port : Int), .int .i64 (iss : Int), (.slice AK nK cK), .int .i64 sqp])] w' ∧ (FrC g vGw14 (fr28 mac ip port (spAdd s 3) 0 16 [0]) (.slice Aw15 (54 + 1) cw15) w')) ∧ RB w' w'.heap.size (some ⟨gq, 0, none⟩) [208, 0]) [ec 4 93 (.agg ([.int .i64 0, .int .i64 0, .int .i64 ((spAdd s 1 : Nat) : Int), .int .i64 ((0 : Nat) : Int), .int .i64 ((16 : Nat) : Int), .int .i64 0, .slice (some ⟨gq, 0, none⟩) 2 2] : List Value).toArray)] [] ⟨⟨h.1.next hbq, h.2.1.call hbq, h.2.2.next hbq⟩, hq⟩ ?_
  have KK : ∀ wy, ((CliS w gp b1 g ip mac port iss (spAdd iss 1) ⟨spAdd s 1, true, []⟩ vGw14 wy ∧ Own w gp [(g7, [.int .i64 0, .int .i64 0, .int .i64 (s : Int), .int .i64 ((spAdd iss 1 : Nat) : Int), .int .i64 ((18 : Nat) : Int), .int .i64 0, nilV]), (g6, [.int .i64 (ip : Int), .int .i64 (mac : Int), .int .i64 (px : Int), .int .i64 (iss : Int), (.slice AK nK cK), .int .i64 sqp]), (gp, [.int .i64 (ip : Int), .int .i64 (mac : Int), .int .i64 (port : Int), .int .i64 (iss : Int), (.slice AK nK cK), .int .i64 sqp])] wy ∧ (FrC g vGw14 (fr28 mac ip port (spAdd s 3) 0 16 [0]) (.slice Aw15 (54 + 1) cw15) wy)) ∧ RB wy wy.heap.size (some ⟨gq, 0, none⟩) [208, 0]) → _ := fun wy h => back28F ip mac port iss sqp (.slice AK nK cK) (spAdd s 1) 0 16 [208, 0] (some ⟨gq, 0, none⟩) 2 okw16 hip hm wy h.2
  refine St.call 5 ⟨ja (fun _ => by kernel_rfl), jl fun _ h => loadT (h.1.2.1.get 2 rfl) Tryz.underlying24 rfl size_askD rfl, jm, jq fun w' _ => pageAdd s 1 w', trivial⟩ KK ?_
  clear h hq hbq H
  rintro wx2 _ wz hh ⟨Aw16, cw16, rfl, hfr, hbz⟩
  have fc := FrC.of (vG := vGw14) hfr (Nat.lt_of_lt_of_le hgb1 hh.1.1.2.2.2) (fun k hk => own_ne hh.1.1.2.1.1 (.inr hk))
  refine nx (fun w' => (CliS w gp b1 g ip mac port iss (spAdd iss 1) ⟨spAdd s 1, true, []⟩ vGw14 w' ∧ Own w gp [(g7, [.int .i64 0, .int .i64 0, .int .i64 (s : Int), .int .i64 ((spAdd iss 1 : Nat) : Int), .int .i64 ((18 : Nat) : Int), .int .i64 0, nilV]), (g6, [.int .i64 (ip : Int), .int .i64 (mac : Int), .int .i64 (px : Int), .int .i64 (iss : Int), (.slice AK nK cK), .int .i64 sqp]), (gp, [.int .i64 (ip : Int), .int .i64 (mac : Int), .int .i64 (port : Int), .int .i64 (iss : Int), (.slice AK nK cK), .int .i64 sqp])] w' ∧ (FrC g vGw14 (fr28 mac ip port (spAdd s 3) 0 16 [0]) (.slice Aw15 (54 + 1) cw15) w')) ∧ FrC g vGw14 (fr28 mac ip port (spAdd s 1) 0 16 [208, 0]) (.slice Aw16 (54 + 2) cw16) w') [ec 6 9 (.slice Aw16 (54 + 2) cw16)] [] ⟨⟨hh.1.1.next hbz, hh.1.2.1.call hbz, hh.1.2.2.next hbz⟩, fc⟩ (St.fin ⟨jm, trivial⟩ ?_)
  clear fc hfr hbz hh
  rintro a w16 H _ ⟨⟨Sw16, Oow16, fcl⟩, fcw16⟩
  refine then_normal ?_
  replace H := H.keep (l' := [(1, .pointer (some ⟨gp, 0, none⟩)), (3, .pointer (some ⟨g, 0, none⟩)), (5, .int .i64 (s : Int)), (6, .pointer (some ⟨g6, 0, none⟩)), (7, .pointer (some ⟨g7, 0, none⟩)), (8, .slice Aw15 (54 + 1) cw15), (9, .slice Aw16 (54 + 2) cw16)]) ⟨rfl, rfl, rfl, rfl, rfl, rfl, rfl, trivial⟩
  have fcL : FrC g vGw14 (fr28 mac ip port (spAdd s 3) 0 16 [0]) (.slice Aw15 (54 + 1) cw15) w16 := fcl
  clear fcl fcw15
  have hcc : 56 ≤ cw16 := by
    obtain ⟨_, _, e, h, _⟩ := fcw16
    rw [fr28_len] at e h
    injection e with _ _ e3
    rw [e3]; exact h
  have ok4 : (sg28 px 0 0 4 []).ok = true := sg28_ok (by omega) (by decide) (by decide) (by decide) (by decide)
  refine H.sg (fun w' => (CliS w gp b1 g ip mac port iss (spAdd iss 1) ⟨spAdd s 1, true, []⟩ vGw14 w' ∧ Own w gp [(g7, [.int .i64 0, .int .i64 0, .int .i64 (s : Int), .int .i64 ((spAdd iss 1 : Nat) : Int), .int .i64 ((18 : Nat) : Int), .int .i64 0, nilV]), (g6, [.int .i64 (ip : Int), .int .i64 (mac : Int), .int .i64 (px : Int), .int .i64 (iss : Int), (.slice AK nK cK), .int .i64 sqp]), (gp, [.int .i64 (ip : Int), .int .i64 (mac : Int), .int .i64 (port : Int), .int .i64 (iss : Int), (.slice AK nK cK), .int .i64 sqp])] w' ∧ FrC g vGw14 (fr28 mac ip port (spAdd s 3) 0 16 [0]) (.slice Aw15 (54 + 1) cw15) w' ∧ FrC g vGw14 (fr28 mac ip port (spAdd s 1) 0 16 [208, 0]) (.slice Aw16 (54 + 2) cw16) w')) ⟨Sw16.next (Below.drew (Below.refl _ _)), Oow16.drew, fcL.next (Below.drew (Below.refl _ _)), fcw16.next (Below.drew (Below.refl _ _))⟩ [1, 3, 5, 6, 7, 8, 9] [ec 0 95 (.pointer (some ⟨g, 0, none⟩)), ec 1 96 (.slice Aw15 (54 + 1) cw15), ec 2 97 (.slice Aw16 (54 + 2) cw16), ec 3 98 (.slice Aw16 (54 + 2) cw16), ec 4 99 (.int .i64 ((54 + 2 : Nat) : Int)), ec 5 100 (.int .i64 55), ec 6 101 (.slice Aw16 55 cw16), ec 7 102 (.agg ([.int .i64 (ip : Int), .int .i64 (mac : Int), .int .i64 (px : Int), .int .i64 (iss : Int), (.slice AK nK cK), .int .i64 sqp] : List Value).toArray), ec 8 103 (.agg ([.int .i64 0, .int .i64 0, .int .i64 ((0 : Nat) : Int), .int .i64 ((0 : Nat) : Int), .int .i64 ((4 : Nat) : Int), .int .i64 0, nilV] : List Value).toArray)] rfl ?_
  have K17 : ∀ wy, (CliS w gp b1 g ip mac port iss (spAdd iss 1) ⟨spAdd s 1, true, []⟩ vGw14 wy ∧ Own w gp [(g7, [.int .i64 0, .int .i64 0, .int .i64 (s : Int), .int .i64 ((spAdd iss 1 : Nat) : Int), .int .i64 ((18 : Nat) : Int), .int .i64 0, nilV]), (g6, [.int .i64 (ip : Int), .int .i64 (mac : Int), .int .i64 (px : Int), .int .i64 (iss : Int), (.slice AK nK cK), .int .i64 sqp]), (gp, [.int .i64 (ip : Int), .int .i64 (mac : Int), .int .i64 (port : Int), .int .i64 (iss : Int), (.slice AK nK cK), .int .i64 sqp])] wy ∧ FrC g vGw14 (fr28 mac ip port (spAdd s 3) 0 16 [0]) (.slice Aw15 (54 + 1) cw15) wy ∧ FrC g vGw14 (fr28 mac ip port (spAdd s 1) 0 16 [208, 0]) (.slice Aw16 (54 + 2) cw16) wy) → _ := fun wy h => back28F ip mac px iss sqp (.slice AK nK cK) 0 0 4 [] none 0 ok4 hip hm wy RB.nil
  refine St.call 9 ⟨jm, jm, jm, jm, jn Tryz.underlying31, jb fun _ => sub1_i 56 (by decide) (by decide) _ _ _, jh fun w => slice_h Aw16 56 cw16 55 (by decide) hcc w, jl fun _ h => loadT (h.2.1.get 1 rfl) Tryz.underlying24 rfl size_askD rfl, ja (fun _ => by kernel_rfl), trivial⟩ K17 ?_
  rintro wx2 _ wz hh ⟨Af, cf, rfl, hfr, hbz⟩
  have fcf := FrC.of (vG := vGw14) hfr (Nat.lt_of_lt_of_le hgb1 hh.1.2.2.2) (fun k hk => own_ne hh.1.2.1.1 (.inr hk))
  refine nx (fun w' => (CliS w gp b1 g ip mac port iss (spAdd iss 1) ⟨spAdd s 1, true, []⟩ vGw14 w' ∧ Own w gp [(g7, [.int .i64 0, .int .i64 0, .int .i64 (s : Int), .int .i64 ((spAdd iss 1 : Nat) : Int), .int .i64 ((18 : Nat) : Int), .int .i64 0, nilV]), (g6, [.int .i64 (ip : Int), .int .i64 (mac : Int), .int .i64 (px : Int), .int .i64 (iss : Int), (.slice AK nK cK), .int .i64 sqp]), (gp, [.int .i64 (ip : Int), .int .i64 (mac : Int), .int .i64 (port : Int), .int .i64 (iss : Int), (.slice AK nK cK), .int .i64 sqp])] w' ∧ FrC g vGw14 (fr28 mac ip port (spAdd s 3) 0 16 [0]) (.slice Aw15 (54 + 1) cw15) w' ∧ FrC g vGw14 (fr28 mac ip port (spAdd s 1) 0 16 [208, 0]) (.slice Aw16 (54 + 2) cw16) w' ∧ FrC g vGw14 (fr28 mac ip px 0 0 4 []) (.slice Af (54 + 0) cf) w')) [] [] ⟨hh.1.next hbz, hh.2.1.call hbz, hh.2.2.1.next hbz, hh.2.2.2.next hbz, fcf⟩ ?_
  clear hh fcf hfr hbz
  refine St.val 10 ⟨jm, jm, jm, jm, jn Tryz.underlying31, jb fun _ => sub1_i 56 (by decide) (by decide) _ _ _, jh fun w => slice_h Aw16 56 cw16 55 (by decide) hcc w, trivial⟩ ?_
  rintro a wx H _ ⟨q1, q2, q3, q4, q5⟩
  have hL := rowC (g := g) (vG := vGw14) (fs := [(.slice Aw15 (54 + 1) cw15, fr28 mac ip port (spAdd s 3) 0 16 [0]), (.slice Aw16 55 cw16, (fr28 mac ip port (spAdd s 1) 0 16 [208, 0]).take 55), (.slice Af (54 + 0) cf, fr28 mac ip px 0 0 4 [])]) (w := wx) (frc_cons q3 (frc_cons (q4.take 55 (by rw [fr28_len]; decide)) (frc_cons q5 frc_nil))) (Nat.lt_of_lt_of_le hgb1 q1.2.2.2) (own_ne q1.2.1.1 (.inr (Nat.le_refl _)))
  refine ⟨.slice (some ⟨wx.heap.size, 0, none⟩) 3 3, wx.alloc (.cells ([.slice Aw15 (54 + 1) cw15, .slice Aw16 55 cw16, .slice Af (54 + 0) cf] : List Value).toArray 31), run_any H (by intro cs b h; cases h) (by kernel_rfl) (by kernel_rfl), ?_⟩
  have hbq : Below wx.heap.size wx (wx.alloc (.cells ([.slice Aw15 (54 + 1) cw15, .slice Aw16 55 cw16, .slice Af (54 + 0) cf] : List Value).toArray 31)) := balloc _ _
  replace hL : FrsS (wx.alloc (.cells ([.slice Aw15 (54 + 1) cw15, .slice Aw16 55 cw16, .slice Af (54 + 0) cf] : List Value).toArray 31)) (fun k => k ≠ g ∧ some k ≠ vGw14.ownBlock) (some ⟨wx.heap.size, 0, none⟩) [fr28 mac ip port (spAdd s 3) 0 16 [0], (fr28 mac ip port (spAdd s 1) 0 16 [208, 0]).take 55, fr28 mac ip px 0 0 4 []] := hL
  generalize wx.alloc (.cells ([.slice Aw15 (54 + 1) cw15, .slice Aw16 55 cw16, .slice Af (54 + 0) cf] : List Value).toArray 31) = wy at hL hbq ⊢
  obtain ⟨gq, hgq⟩ : ∃ gq, wx.heap.size = gq := ⟨_, rfl⟩
  rw [hgq] at hL ⊢
  refine nx (fun w' => (CliS w gp b1 g ip mac port iss (spAdd iss 1) ⟨spAdd s 1, true, []⟩ vGw14 w' ∧ Own w gp [(g7, [.int .i64 0, .int .i64 0, .int .i64 (s : Int), .int .i64 ((spAdd iss 1 : Nat) : Int), .int .i64 ((18 : Nat) : Int), .int .i64 0, nilV]), (g6, [.int .i64 (ip : Int), .int .i64 (mac : Int), .int .i64 (px : Int), .int .i64 (iss : Int), (.slice AK nK cK), .int .i64 sqp]), (gp, [.int .i64 (ip : Int), .int .i64 (mac : Int), .int .i64 (port : Int), .int .i64 (iss : Int), (.slice AK nK cK), .int .i64 sqp])] w' ∧ FrC g vGw14 (fr28 mac ip port (spAdd s 3) 0 16 [0]) (.slice Aw15 (54 + 1) cw15) w' ∧ FrC g vGw14 (fr28 mac ip port (spAdd s 1) 0 16 [208, 0]) (.slice Aw16 (54 + 2) cw16) w' ∧ FrsS w' (fun k => k ≠ g ∧ some k ≠ vGw14.ownBlock) (some ⟨gq, 0, none⟩) [fr28 mac ip port (spAdd s 3) 0 16 [0], (fr28 mac ip port (spAdd s 1) 0 16 [208, 0]).take 55, fr28 mac ip px 0 0 4 []])) [] [] ⟨q1.next hbq, q2.call hbq, q3.next hbq, q4.next hbq, hL⟩ ?_
  clear q1 q2 q3 q4 q5 hL hbq H
  have okL : (sg28 port (spAdd s 3) 0 16 [0]).ok = true := sg28_ok (by omega) (Nat.le_of_lt_succ (spAdd_lt _ _)) (by decide) (by decide) (by decide)
  have okC : (sg28 port (spAdd s 1) 0 16 [208, 0]).ok = true := sg28_ok (by omega) (Nat.le_of_lt_succ (spAdd_lt _ _)) (by decide) (by decide) (by decide)
  have tL : toldCli mac ip port (fr28 mac ip port (spAdd s 3) 0 16 [0]) = some (sg28 port (spAdd s 3) 0 16 [0]) := by rw [told_cli hm hip okL, if_pos rfl]
  have tC : toldCli mac ip port (fr28 mac ip port (spAdd s 1) 0 16 [208, 0]) = some (sg28 port (spAdd s 1) 0 16 [208, 0]) := by rw [told_cli hm hip okC, if_pos rfl]
  have tK : toldCli mac ip port ((fr28 mac ip port (spAdd s 1) 0 16 [208, 0]).take 55) = none := told_cut hm hip okC 55 (by decide) (by rw [fr28_len]; decide)
  have t4 : toldCli mac ip port (fr28 mac ip px 0 0 4 []) = none := by rw [told_cli hm hip ok4, if_neg hpn]
  have cL : clHear iss ⟨spAdd s 1, true, []⟩ (sg28 port (spAdd s 3) 0 16 [0]) = (⟨spAdd s 1, true, []⟩, false) := by rw [clHear_dat rfl, if_neg (spAdd_ne (by decide) (by decide) (by decide))]
  have cc3 : clHears mac ip port iss ⟨spAdd s 1, true, []⟩ false [fr28 mac ip port (spAdd s 3) 0 16 [0], (fr28 mac ip port (spAdd s 1) 0 16 [208, 0]).take 55, fr28 mac ip px 0 0 4 []] = (⟨spAdd s 1, true, []⟩, false) := by simp only [clHears, tL, tK, t4, cL, Bool.or_false]
  have ll3 : ∀ b ∈ [fr28 mac ip port (spAdd s 3) 0 16 [0], (fr28 mac ip port (spAdd s 1) 0 16 [208, 0]).take 55, fr28 mac ip px 0 0 4 []], b.length ≤ 140737488351232 := by
    intro b hb
    simp only [List.mem_cons, List.not_mem_nil, or_false] at hb
    rcases hb with rfl | rfl | rfl
    · rw [fr28_len]; decide
    · rw [List.length_take, fr28_len]; decide
    · rw [fr28_len]; decide
  have K17b : ∀ wy, (CliS w gp b1 g ip mac port iss (spAdd iss 1) ⟨spAdd s 1, true, []⟩ vGw14 wy ∧ Own w gp [(g7, [.int .i64 0, .int .i64 0, .int .i64 (s : Int), .int .i64 ((spAdd iss 1 : Nat) : Int), .int .i64 ((18 : Nat) : Int), .int .i64 0, nilV]), (g6, [.int .i64 (ip : Int), .int .i64 (mac : Int), .int .i64 (px : Int), .int .i64 (iss : Int), (.slice AK nK cK), .int .i64 sqp]), (gp, [.int .i64 (ip : Int), .int .i64 (mac : Int), .int .i64 (port : Int), .int .i64 (iss : Int), (.slice AK nK cK), .int .i64 sqp])] wy ∧ FrC g vGw14 (fr28 mac ip port (spAdd s 3) 0 16 [0]) (.slice Aw15 (54 + 1) cw15) wy ∧ FrC g vGw14 (fr28 mac ip port (spAdd s 1) 0 16 [208, 0]) (.slice Aw16 (54 + 2) cw16) wy ∧ FrsS wy (fun k => k ≠ g ∧ some k ≠ vGw14.ownBlock) (some ⟨gq, 0, none⟩) [fr28 mac ip port (spAdd s 3) 0 16 [0], (fr28 mac ip port (spAdd s 1) 0 16 [208, 0]).take 55, fr28 mac ip px 0 0 4 []]) → _ := fun wy h => hearL (x := ⟨spAdd s 1, true, []⟩) [fr28 mac ip port (spAdd s 3) 0 16 [0], (fr28 mac ip port (spAdd s 1) 0 16 [208, 0]).take 55, fr28 mac ip px 0 0 4 []] (some ⟨gq, 0, none⟩) 3 h.1 h.2.2.2.2 (by show 3 ≤ 1000; decide) ll3 (Nat.le_of_lt_succ (spAdd_lt _ _)) (by show 0 ≤ 10000000; decide) hip hm hp hi hn1 ⟨spAdd s 1, true, []⟩ false cc3
  refine St.call 11 ⟨jm, trivial⟩ K17b ?_
  rintro wx2 _ wz hh ⟨Av, cv, vG5, rfl, Sz, hkz, hrz, hbz⟩
  rw [cond_false]
  refine nx (fun w' => (CliS w gp b1 g ip mac port iss (spAdd iss 1) ⟨spAdd s 1, true, []⟩ vG5 w' ∧ Own w gp [(g7, [.int .i64 0, .int .i64 0, .int .i64 (s : Int), .int .i64 ((spAdd iss 1 : Nat) : Int), .int .i64 ((18 : Nat) : Int), .int .i64 0, nilV]), (g6, [.int .i64 (ip : Int), .int .i64 (mac : Int), .int .i64 (px : Int), .int .i64 (iss : Int), (.slice AK nK cK), .int .i64 sqp]), (gp, [.int .i64 (ip : Int), .int .i64 (mac : Int), .int .i64 (port : Int), .int .i64 (iss : Int), (.slice AK nK cK), .int .i64 sqp])] w' ∧ FrC g vG5 (fr28 mac ip port (spAdd s 1) 0 16 [208, 0]) (.slice Aw16 (54 + 2) cw16) w')) [ec 12 107 (.int .i64 ((0 : Nat) : Int)), ec 13 108 (.bool false), ec 14 109 (.bool false), ec 15 110 (.pointer (some ⟨g, 0, none⟩)), ec 16 111 (.bool true), ec 17 112 (.bool false), ec 18 113 (.bool false)] [] ⟨Sz, hh.2.1.kp hkz hbz hh.1.2.2.1 hOo, hh.2.2.2.1.hear hkz hrz⟩ (St.fin ⟨jn Tryz.underlying37, jb fun _ => neq_3 0 0 false rfl _ _ _, jm, jm, jq fun w' h => cliUp g ip mac port iss (spAdd iss 1) (spAdd s 1) true vG5 nilV w' (h.1.1.get 0 rfl), ju (hq := run_not true), jp, trivial⟩ ?_)
  clear hh Sz hkz hrz hbz
  rintro a w17 H _ ⟨S17, Oo17, fc17⟩
  refine then_normal (H.condF rfl (skip_wp (then_normal ?_)))
  replace H := H.keep (l' := [(1, .pointer (some ⟨gp, 0, none⟩)), (3, .pointer (some ⟨g, 0, none⟩)), (5, .int .i64 (s : Int)), (6, .pointer (some ⟨g6, 0, none⟩)), (7, .pointer (some ⟨g7, 0, none⟩)), (9, .slice Aw16 (54 + 2) cw16)]) ⟨rfl, rfl, rfl, rfl, rfl, rfl, trivial⟩
  refine H.rg 1 fun a H => ?_
  refine H.cl (gotL (x := ⟨spAdd s 1, true, []⟩) S17 (by show 0 ≤ 40000; decide) (hT.below (hgp.symm ▸ Own.bel Oo17))) ?_
  rintro a _ w18 ⟨lw18, leftw18, erw18, Aw18, cw18, csw18, rfl, hFw18, hOw18, hPw18, hbw18⟩ H
  obtain ⟨hlw18, hew18⟩ := fed_empty hFw18
  subst hlw18 hew18
  refine H.ms 1 fun a H => ?_
  refine H.ex (r := .slice Aw18 0 cw18) 0 fun a H => ?_
  refine H.ex (r := .int .i64 0) 2 fun a H => nt ?_
  have Sw18 := S17.next hbw18
  have Oow18 := Oo17.call hbw18
  replace fc17 := fc17.next hbw18
  replace H := H.keep (l' := [(1, .pointer (some ⟨gp, 0, none⟩)), (3, .pointer (some ⟨g, 0, none⟩)), (5, .int .i64 (s : Int)), (6, .pointer (some ⟨g6, 0, none⟩)), (7, .pointer (some ⟨g7, 0, none⟩)), (9, .slice Aw16 (54 + 2) cw16), (10, .slice Aw18 0 cw18), (11, .int .i64 0)]) ⟨rfl, rfl, rfl, rfl, rfl, rfl, rfl, rfl, trivial⟩
  refine H.rg 1 fun a H => ?_
  refine H.cq 0 (num28 0 w18) fun a H => ?_
  refine H.bn 1 (neq_3 0 0 false rfl _ _ _) fun a H => ?_
  refine H.go (H.wt rfl rfl rfl) rfl rfl _ (run_move (.inl rfl) (H.ev rfl)) fun a H => ?_
  refine H.len (H.wt rfl rfl rfl) rfl rfl rfl rfl Tryz.underlying22 fun a H => ?_
  refine H.bin (H.wt rfl rfl rfl) rfl rfl rfl rfl rfl (neq_3 0 0 false rfl _ _ _) fun a H => ?_
  refine H.pick gz rfl rfl rfl rfl rfl fun a H => nt (H.condF rfl (skip_wp (then_normal ?_)))
  replace H := H.keep (l' := [(1, .pointer (some ⟨gp, 0, none⟩)), (3, .pointer (some ⟨g, 0, none⟩)), (5, .int .i64 (s : Int)), (6, .pointer (some ⟨g6, 0, none⟩)), (7, .pointer (some ⟨g7, 0, none⟩)), (9, .slice Aw16 (54 + 2) cw16)]) ⟨rfl, rfl, rfl, rfl, rfl, rfl, trivial⟩
  refine H.rg 2 fun a H => ?_
  have hLw19 := rowC (g := g) (vG := vG5) (fs := [(.slice Aw16 (54 + 2) cw16, fr28 mac ip port (spAdd s 1) 0 16 [208, 0])]) (w := w18) (frc_cons fc17 frc_nil) (Nat.lt_of_lt_of_le hgb1 Sw18.2.2.2) (own_ne Sw18.2.1.1 (.inr (Nat.le_refl _)))
  refine H.any (w' := w18.alloc (.cells ([.slice Aw16 (54 + 2) cw16] : List Value).toArray 31)) gz rfl rfl (.slice (some ⟨w18.heap.size, 0, none⟩) 1 1) (by intro cs b h; cases h) (by kernel_rfl) (by kernel_rfl) fun a H => ?_
  have hbw19 : Below w18.heap.size w18 (w18.alloc (.cells ([.slice Aw16 (54 + 2) cw16] : List Value).toArray 31)) := balloc _ _
  replace hLw19 : FrsS (w18.alloc (.cells ([.slice Aw16 (54 + 2) cw16] : List Value).toArray 31)) (fun k => k ≠ g ∧ some k ≠ (vG5 : Value).ownBlock) (some ⟨w18.heap.size, 0, none⟩) [fr28 mac ip port (spAdd s 1) 0 16 [208, 0]] := hLw19
  generalize w18.alloc (.cells ([.slice Aw16 (54 + 2) cw16] : List Value).toArray 31) = w19 at *
  generalize hgrw19 : w18.heap.size = grw19 at H hLw19
  have Sw19 := Sw18.next hbw19
  have Oow19 := Oow18.call hbw19
  replace fc17 := fc17.next hbw19
  have cC : clHear iss ⟨spAdd s 1, true, []⟩ (sg28 port (spAdd s 1) 0 16 [208, 0]) = (⟨spAdd (spAdd s 1) 2, true, [208, 0]⟩, true) := by rw [clHear_dat rfl, if_pos rfl]; rfl
  have cD : clHear iss ⟨spAdd (spAdd s 1) 2, true, [208, 0]⟩ (sg28 port (spAdd s 1) 0 16 [208, 0]) = (⟨spAdd (spAdd s 1) 2, true, [208, 0]⟩, false) := by rw [clHear_dat rfl, if_neg]; show ¬ spAdd s 1 = spAdd (spAdd s 1) 2; rw [spAdd2]; exact spAdd_ne (by decide) (by decide) (by decide)
  refine H.cl (hearL (x := ⟨spAdd s 1, true, []⟩) [fr28 mac ip port (spAdd s 1) 0 16 [208, 0]] (some ⟨grw19, 0, none⟩) 1 Sw19 hLw19 (by show 1 ≤ 1000; decide) (len_one (by rw [fr28_len]; show 54 + 2 ≤ 10000; decide)) (Nat.le_of_lt_succ (spAdd_lt _ _)) (by show _ ≤ 10000000; simp) hip hm hp hi hn1 ⟨spAdd (spAdd s 1) 2, true, [208, 0]⟩ true (by simp only [clHears, tC, cC, Bool.or_true])) ?_
  rintro a _ w20 ⟨Aw20, cw20, vGw20, rfl, Sw20, hkw20, hrw20, hbw20⟩ H
  rw [cond_true] at H
  have Oow20 := Oow19.kp hkw20 hbw20 Sw19.2.2.1 hOo
  replace fc17 := fc17.hear hkw20 hrw20
  refine H.ms 1 fun a H => nt ?_
  replace H := H.keep (l' := [(1, .pointer (some ⟨gp, 0, none⟩)), (3, .pointer (some ⟨g, 0, none⟩)), (5, .int .i64 (s : Int)), (6, .pointer (some ⟨g6, 0, none⟩)), (7, .pointer (some ⟨g7, 0, none⟩)), (9, .slice Aw16 (54 + 2) cw16), (12, .slice Aw20 1 cw20)]) ⟨rfl, rfl, rfl, rfl, rfl, rfl, rfl, trivial⟩
  refine H.rg 2 fun a H => ?_
  have hLw21 := rowC (g := g) (vG := vGw20) (fs := [(.slice Aw16 (54 + 2) cw16, fr28 mac ip port (spAdd s 1) 0 16 [208, 0])]) (w := w20) (frc_cons fc17 frc_nil) (Nat.lt_of_lt_of_le hgb1 Sw20.2.2.2) (own_ne Sw20.2.1.1 (.inr (Nat.le_refl _)))
  refine H.any (w' := w20.alloc (.cells ([.slice Aw16 (54 + 2) cw16] : List Value).toArray 31)) gz rfl rfl (.slice (some ⟨w20.heap.size, 0, none⟩) 1 1) (by intro cs b h; cases h) (by kernel_rfl) (by kernel_rfl) fun a H => ?_
  have hbw21 : Below w20.heap.size w20 (w20.alloc (.cells ([.slice Aw16 (54 + 2) cw16] : List Value).toArray 31)) := balloc _ _
  replace hLw21 : FrsS (w20.alloc (.cells ([.slice Aw16 (54 + 2) cw16] : List Value).toArray 31)) (fun k => k ≠ g ∧ some k ≠ (vGw20 : Value).ownBlock) (some ⟨w20.heap.size, 0, none⟩) [fr28 mac ip port (spAdd s 1) 0 16 [208, 0]] := hLw21
  generalize w20.alloc (.cells ([.slice Aw16 (54 + 2) cw16] : List Value).toArray 31) = w21 at *
  generalize hgrw21 : w20.heap.size = grw21 at H hLw21
  have Sw21 := Sw20.next hbw21
  have Oow21 := Oow20.call hbw21
  replace fc17 := fc17.next hbw21
  refine H.cl (hearL (x := ⟨spAdd (spAdd s 1) 2, true, [208, 0]⟩) [fr28 mac ip port (spAdd s 1) 0 16 [208, 0]] (some ⟨grw21, 0, none⟩) 1 Sw21 hLw21 (by show 1 ≤ 1000; decide) (len_one (by rw [fr28_len]; show 54 + 2 ≤ 10000; decide)) (Nat.le_of_lt_succ (spAdd_lt _ _)) (by show _ ≤ 10000000; simp) hip hm hp hi hn1 ⟨spAdd (spAdd s 1) 2, true, [208, 0]⟩ false (by simp only [clHears, tC, cD, Bool.or_false])) ?_
  rintro a _ w22 ⟨Aw22, cw22, vGw22, rfl, Sw22, hkw22, hrw22, hbw22⟩ H
  rw [cond_false] at H
  have Oow22 := Oow21.kp hkw22 hbw22 Sw21.2.2.1 hOo
  refine H.ms 1 fun a H => nt ?_
  replace H := H.keep (l' := [(3, .pointer (some ⟨g, 0, none⟩)), (12, .slice Aw20 1 cw20), (13, .slice Aw22 0 cw22)]) ⟨rfl, rfl, rfl, trivial⟩
  refine H.rg 1 fun a H => ?_
  refine H.cl (gotL (x := ⟨spAdd (spAdd s 1) 2, true, [208, 0]⟩) Sw22 (by show 2 ≤ 40000; decide) (hT.below (hgp.symm ▸ Own.bel Oow22))) ?_
  rintro a _ w23 ⟨lw23, leftw23, erw23, Aw23, cw23, csw23, rfl, hFw23, hOw23, hPw23, hbw23⟩ H
  obtain ⟨hlw23, hew23⟩ := fed_pong hFw23
  subst hlw23 hew23
  refine H.ms 1 fun a H => ?_
  refine H.ex (r := .slice Aw23 1 cw23) 0 fun a H => ?_
  refine H.ex (r := .int .i64 0) 2 fun a H => nt ?_
  have Oow23 := Oow22.call hbw23
  replace H := H.keep (l' := [(10, .slice Aw23 1 cw23), (11, .int .i64 0), (12, .slice Aw20 1 cw20), (13, .slice Aw22 0 cw22)]) ⟨rfl, rfl, rfl, rfl, trivial⟩
  have hkd := pr_one hPw23
  obtain ⟨gm, cap, hAm, _, hgm⟩ := hOw23.form (by decide)
  injection hAm with hAm _ hcm
  subst hAm hcm
  have hk13 : w23.cell? ⟨gm, 0, none⟩ = some (.int .i64 13) := by
    rw [hOw23.cellAt 0 (by decide)]
    exact hkd
  have hix : (Instr.indexAt 22 (.slice (some ⟨gm, 0, none⟩) 1 cw23) (.int .i64 0)).run Tryz.prog w23 = .ok (.pointer (some ⟨gm, 0, none⟩)) w23 := index_m 22 Tryz.underlying22 24 (fun _ => by kernel_rfl) gm 0 1 cw23 0 (by decide) w23
  refine H.rg 1 fun a H => ?_
  refine H.len gz rfl rfl rfl rfl Tryz.underlying37 fun a H => ?_
  refine H.bn 1 (eql_iB 1 1 true rfl _ _ _) fun a H => ?_
  refine H.go (H.wt rfl rfl rfl) rfl rfl _ (run_move (.inl rfl) (H.ev rfl)) fun a H => ?_
  refine H.len (H.wt rfl rfl rfl) rfl rfl rfl rfl Tryz.underlying37 fun a H => ?_
  refine H.bin (H.wt rfl rfl rfl) rfl rfl rfl rfl rfl (eql_iB 0 0 true rfl _ _ _) fun a H => ?_
  refine H.pick gz rfl rfl rfl rfl rfl fun a H => ?_
  refine H.ms 1 fun a H => ?_
  refine H.go (H.wt rfl rfl rfl) rfl rfl _ (run_move (.inl rfl) (H.ev rfl)) fun a H => ?_
  refine H.call (H.wt rfl rfl rfl) rfl rfl rfl rfl (fun _ _ => by kernel_rfl) (quietC (num28 0 w23)) ?_
  rintro a _ _ ⟨rfl, rfl⟩ H
  refine H.bin (H.wt rfl rfl rfl) rfl rfl rfl rfl rfl (eql_iB 0 0 true rfl _ _ _) fun a H => ?_
  refine H.pick gz rfl rfl rfl rfl rfl fun a H => ?_
  refine H.ms 1 fun a H => ?_
  refine H.go (H.wt rfl rfl rfl) rfl rfl _ (run_move (.inl rfl) (H.ev rfl)) fun a H => ?_
  refine H.len (H.wt rfl rfl rfl) rfl rfl rfl rfl Tryz.underlying22 fun a H => ?_
  refine H.bin (H.wt rfl rfl rfl) rfl rfl rfl rfl rfl (eql_iB 1 1 true rfl _ _ _) fun a H => ?_
  refine H.pick gz rfl rfl rfl rfl rfl fun a H => ?_
  refine H.ms 1 fun a H => ?_
  refine H.go (H.wt rfl rfl rfl) rfl rfl _ (run_move (.inl rfl) (H.ev rfl)) fun a H => ?_
  refine H.index (H.wt rfl rfl rfl) rfl rfl rfl rfl rfl hix fun a H => ?_
  refine H.go (H.wt rfl rfl rfl) rfl rfl (.pointer (some ⟨gm, 0, none⟩)) (run_field rfl (H.ev rfl) (fun _ _ => by kernel_rfl)) fun a H => ?_
  refine H.load (H.wt rfl rfl rfl) rfl rfl rfl rfl (load1_i gm 0 13 w23 hk13) fun a H => ?_
  refine H.bin (H.wt rfl rfl rfl) rfl rfl rfl rfl rfl (eql_iB 13 13 true rfl _ _ _) fun a H => ?_
  refine H.pick gz rfl rfl rfl rfl rfl fun a H => ?_
  refine H.ms 1 fun a H => ?_
  refine H.call (H.wt rfl rfl rfl) rfl rfl rfl rfl (fun _ _ => by kernel_rfl) (belowC (wakes28 w23)) ?_
  rintro a _ w24 ⟨rfl, hbw24⟩ H
  refine H.pick gz rfl rfl rfl rfl rfl fun a H => ?_
  refine H.ms 1 fun a H => nt (wp_ret ?_)
  repeat (first | (with_reducible refine block_ret ?_) | (with_reducible refine then_ret ?_))
  exact bodyPost_ret (results_tmp rfl _ _ _) H.df ⟨congrArg Ending.returned (H.at_ 2 _ rfl), hgp ▸ (Oow23.call hbw24).bel⟩
set_option maxRecDepth 100000 in
theorem deaf_no (ip mac port iss sq : Int) (vL : Value) (b1 b2 b3 b4 : Bool) (h1 : inR ip 4294967295 = b1) (h2 : inR mac 281474976710655 = b2) (h3 : inR port 65535 = b3) (h4 : inR iss 4294967295 = b4) (hn : (b1 && b2 && b3 && b4) = false) (w : World) :
    Calls Tryz.prog 3 #[.agg ([.int .i64 ip, .int .i64 mac, .int .i64 port, .int .i64 iss, vL, .int .i64 sq] : List Value).toArray] w fun e w' => e = .returned (.bool true) ∧ Below w.heap.size w w' := by
  go_enter Tryz.func3, Tryz.ntmps3
  refine Has.start 168 [(0, .agg ([.int .i64 ip, .int .i64 mac, .int .i64 port, .int .i64 iss, vL, .int .i64 sq] : List Value).toArray)] rfl rfl ⟨rfl, trivial⟩ ?_
  intro a0 H0
  refine rl ?_
  refine H0.bx (Own.start w) 1 (L := [.int .i64 ip, .int .i64 mac, .int .i64 port, .int .i64 iss, vL, .int .i64 sq]) fun a w1 O1 H => nt ?_
  generalize hg : w.heap.size = g at O1 H
  refine H.rg 0 fun a H => ?_
  refine H.loadS rfl rfl rfl rfl rfl (O1.get 0 rfl) Tryz.underlying24 rfl size_askD rfl fun a H => ?_
  refine H.cl (belowC (may28 ip mac port iss sq vL b1 b2 b3 b4 h1 h2 h3 h4 w1)) ?_
  rintro a _ w2 ⟨rfl, hb2⟩ H
  rw [hn] at H
  refine H.un gz rfl rfl rfl rfl (run_not false _) fun a H => nt (H.condT rfl ?_)
  refine H.rg 1 fun a H => nt (wp_ret ?_)
  repeat (first | (with_reducible refine block_ret ?_) | (with_reducible refine then_ret ?_))
  exact bodyPost_ret (results_tmp rfl _ _ _) H.df ⟨congrArg Ending.returned (H.at_ 2 _ rfl), hg ▸ (O1.call hb2).bel⟩

end Go.Proofs.YtlacidnnankjlaaGreatDoor

/-
  From a walk to a row, for a law of one argument that answers a bool and leaves its argument alone; variables are listed.
-/
namespace Go.Proofs.YtlacidnnankjlaaGreatDoor
open Go.ChangeShapes Go.WideShapes Go.ChangeAt Go.RowKit Go.Deep

theorem own_knob : ownKnob Tryz.prog.godebug = none := by kernel_rfl
theorem laid_out : laidOutB Tryz.prog = true := by kernel_rfl

section
variable {H : Type} {enc : TypeId × Value → H} {P : Program}
theorem post_of_below {f : Func} {s : ChangeSpec} {apart fresh handsOn again : Bool} {W W' : World} {args : Array Value} {v : Value} {ds gs : List (DataW H)} {before pa pv : List MemPlace}
    (hW : DataW.Whole enc P f.params.toList s.vars apart W args.toList ds gs before)
    (hres : ∀ (b : Nat) (sp : Nat → Bool) (hd : Bool), DataW.TrodAll enc P W' b sp hd f.resultTypes.toList (v.resultList f.resultTypes.size) (s.fn H (ds ++ gs)).results [])
    (hargs : ∀ sp : Nat → Bool, (∀ p ∈ before, sp p.block = true) → DataW.TrodAll enc P W' 0 sp true f.params.toList args.toList (s.fn H (ds ++ gs)).args pa)
    (hvars : ∀ sp : Nat → Bool, (∀ p ∈ before, sp p.block = true) → DataW.TrodVars enc P W' sp s.vars (s.fn H (ds ++ gs)).vars pv)
    (hps : before = pa ++ pv) (hb : Below W.heap.size W W')
    (hok : ∀ (j : Nat) (t : TypeId) (r : Value), f.resultTypes[j]? = some t → (v.resultList f.resultTypes.size)[j]? = some r → Value.okWide P W' .any 0 t r) :
    s.post enc P f apart fresh handsOn again W args v W' := by
  have hlt : ∀ p ∈ before, p.block < W.heap.size := fun p hp => hW.lt p hp
  have hold : ∀ p ∈ before, (fun b => decide (b < W.heap.size)) p.block = true := fun p hp => by simpa using hlt p hp
  refine ⟨ds, gs, before, [], pa, pv, hW, hres _ _ _, hargs _ hold, hvars _ hold, World.keptBut_mono (fun p hp => ⟨hp, ?_⟩) (hb.frame (· ∈ before)), fun _ => ?_⟩
  · rw [hps, List.mem_append] at hp
    exact Or.inr hp
  · obtain ⟨_, _, _, _, _, hz, hn⟩ := hW
    refine ⟨hok, _, _, ([] ++ pa) ++ pv, ⟨[] ++ pa, pv, trodAll_append (hargs _ (fun _ _ => rfl)) (hres _ _ _), hvars _ (fun _ _ => rfl), rfl, ?_, ?_⟩, ?_⟩
    · intro b off hp
      have hin : MemPlace.cell b off ∈ before := by rw [hps]; simpa using hp
      rw [hb.frozen (hlt _ hin)]
      exact hz b off hin
    · intro ha
      have := hn ha
      rw [hps] at this
      simpa using this
    · intro p hp _
      rw [hps]
      simpa using hp
end

/-- what a law's argument brings: the value, its reading, and that each part is within the form's reach. -/
def Comes {H : Type} (enc : TypeId × Value → H) (W : World) (T : TypeId) (v : Value) (d : DataW H) (p : List MemPlace) : Prop :=
  DataW.Trod enc Tryz.prog W 0 (fun _ => true) true T v d p ∧ (∃ base, Value.okWide Tryz.prog W .any base T v) ∧ (DataW.weightsEach Tryz.prog [T] [d]).all (· ≤ reachBytes) = true

section
theorem ok_first {P : Program} {fn : Func} {W : World} {base : Nat} {T : TypeId} {args : Array Value} {v : Value} (hp : fn.params = #[T]) (ha : args[0]? = some v)
    (h : ∀ (j : Nat) t v, fn.params[j]? = some t → args[j]? = some v → Value.okWide P W .any base t v) : ∃ base, Value.okWide P W .any base T v := ⟨base, h 0 T v (by rw [hp]; rfl) ha⟩
theorem ok_bool {P : Program} {W : World} {Tb : TypeId} (hb : P.underlying Tb = some .bool) : ∀ (j : Nat) (t : TypeId) (r : Value), #[Tb][j]? = some t → ((Value.bool true).resultList 1)[j]? = some r → Value.okWide P W .any 0 t r := by
  intro j t r hj hr'
  match j, hj, hr' with
  | 0, hj, hr' =>
    simp [Value.resultList] at hj hr'
    subst hj; subst hr'
    exact okWide_bool_mk hb true
  | j + 1, hj, _ => simp at hj
/-- FROM A WALK TO THE LIFTED FORM, for a law that lists variables. -/
theorem laid_core {C : Checked} {K : FuncId} {fn : Func} {T Tb : TypeId} {s : ChangeSpec} {lay : List (String × DataW Unit)} (own : ownKnob C.prog.godebug = none) (hlo : laidOutB C.prog = true) (hK : C.prog.funcs[K]? = some fn) (hp : fn.params = #[T]) (hr : fn.resultTypes = #[Tb]) (hb : C.prog.underlying Tb = some .bool)
    (hvars : s.vars = []) (hfn : ∀ (H : Type) (d : DataW H), s.fn H [d] = { results := [.lit (.bool true)], args := [d] })
    (hT : C.prog.readableRec T = true) (hTs : T < C.prog.types.size) (noInit : C.prog.inits.idxOf? K = none)
    (walk : ∀ (H : Type) (enc : TypeId × Value → H) (W : World) (v : Value) (d : DataW H) (p : List MemPlace), DataW.Trod enc C.prog W 0 (fun _ => true) true T v d p → (∃ base, Value.okWide C.prog W .any base T v) → (DataW.weightsEach C.prog [T] [d]).all (· ≤ reachBytes) = true → laidMetH C.prog lay W → Calls C.prog K #[v] W fun e W' => e = .returned (.bool true) ∧ Below W.heap.size W W')
    (os : Os) (started : os.Started) (H : Type) (enc : TypeId × Value → H)
    (witness : ∃ (w : World) (tape : Tape) (i : Input), w.os = os ∧ (w.forCall tape i).Shaped C.prog ∧ i.vars = [] ∧ Input.okWide C.prog (w.forCall tape i) .any w.heap.size K i ∧
      ((s.pre enc C.prog fn [] false (w.forCall tape i).memory i.args ∧ laidMetH C.prog lay (w.forCall tape i).memory) ∧ sizedMet enc C.prog fn (OpenSpec.ofChange s) false (w.forCall tape i).memory i.args) ∧ ({} : Assume).holds C.prog (lone (Frame.enter C.prog K i.args .normal) [] (w.forCall tape i))) :
    ReturnsInHanded {} C os K .any (fun w args => (s.pre enc C.prog fn [] false w args ∧ laidMetH C.prog lay w) ∧ sizedMet enc C.prog fn (OpenSpec.ofChange s) false w args) (s.post enc C.prog fn false true false false) := by
  refine returnsInHanded_of_change_and (X := fun w _ => laidMetH C.prog lay w) (fun _ _ _ hh h => h.of_heap hh) own started noInit hK witness ?_
  intro W base args ds gs before hval0 hW _ hsz0 hL _
  have hW' := hW
  obtain ⟨p, q, hA, hV, rfl, _, _⟩ := hW
  rw [hvars] at hV
  obtain ⟨rfl, rfl⟩ := trodVars_none hV
  rw [hp] at hA
  obtain ⟨v, d, ha, rfl, h0⟩ := trodAll_one hA
  subst ha
  have hsz : (DataW.weightsEach C.prog [T] [d]).all (· ≤ reachBytes) = true := by
    have h : (DataW.weightsEach C.prog (fn.params.toList ++ s.plain.varTypes C.prog) ([d] ++ [])).all (· ≤ reachBytes) = true := hsz0
    rw [hp] at h
    simpa [DataSpec.varTypes, ChangeSpec.plain, hvars] using h
  have hlt : ∀ x ∈ p, x.block < W.heap.size := fun x hx => hW'.lt x (by simpa using hx)
  refine (walk H enc W v d p h0 (ok_first hp rfl hval0) hsz hL).mono fun e W' ⟨he, hbl⟩ => ?_
  refine ⟨_, he, post_of_below (pa := p) (pv := []) hW' ?_ ?_ ?_ (by simp) hbl ?_⟩
  · intro b sp hd
    rw [hr, List.append_nil, hfn]
    exact trodAll_mk1 (shut_bool hb true)
  · intro sp hsp
    rw [hp, List.append_nil, hfn]
    exact trodAll_mk1 (WideElems.Trod_stays hlo hT hTs h0 (fun x hx => hbl.same (hlt x hx)) (fun x hx => hsp x (by simpa using hx)))
  · intro sp _
    rw [hvars, List.append_nil, hfn]
    rfl
  · rw [hr]
    exact ok_bool hb
end
end Go.Proofs.YtlacidnnankjlaaGreatDoor

/-
  How arguments read: bytes; slices whose elements take several cells, element by element.
-/
namespace Go.Proofs.YtlacidnnankjlaaGreatDoor
open Go.ChangeShapes Go.WideShapes Go.ChangeAt Go.RowKit Go.Deep

/-- each part of a datum is within the form's reach. -/
def Fit {H : Type} (t : TypeId) (d : DataW H) : Prop := ∀ n ∈ DataW.weights Tryz.prog t d, n ≤ 140737488351232
theorem Fit.of {H : Type} {T : TypeId} {d : DataW H} (h : (DataW.weightsEach Tryz.prog [T] [d]).all (· ≤ reachBytes) = true) : Fit T d := by
  intro n hn
  have := List.all_eq_true.1 h n (DataW.weights_mem_each (j := 0) rfl rfl n hn)
  have h2 : n ≤ reachBytes := by simpa using this
  exact h2
theorem Fit.slice {H : Type} {t e : TypeId} {elems spare : List (DataW H)} (h : Fit t (.slice elems spare)) (ht : Tryz.prog.underlying t = some (.slice e)) :
    (elems.length + spare.length) * Tryz.prog.bytesOf e ≤ 140737488351232 ∧ ∀ x ∈ elems, Fit e x := by
  have hw : DataW.weights Tryz.prog t (.slice elems spare) = (elems.length + spare.length) * Tryz.prog.bytesOf e :: (DataW.weightsAll Tryz.prog e elems ++ DataW.weightsAll Tryz.prog e spare) := by
    simp [DataW.weights, ht]
  unfold Fit at h
  rw [hw] at h
  refine ⟨h _ (by simp), fun x hx n hn => h n ?_⟩
  have : ∀ l : List (DataW H), x ∈ l → n ∈ DataW.weightsAll Tryz.prog e l := by
    intro l
    induction l with
    | nil => intro h; cases h
    | cons a r ih =>
      intro h
      simp only [DataW.weightsAll, List.mem_append]
      rcases List.mem_cons.1 h with rfl | h
      · exact Or.inl hn
      · exact Or.inr (ih h)
  simp [this elems hx]
theorem Fit.struct {H : Type} {t : TypeId} {fs : Array Field} {ys : List (DataW H × List MemPlace)} (h : Fit t (.agg (ys.map (·.1)))) (ht : Tryz.prog.underlying t = some (.struct fs)) (j : Nat) (f : Field) (hf : fs[j]? = some f) (y : DataW H × List MemPlace) (hy : ys[j]? = some y) : Fit f.type y.1 := by
  intro n hn
  refine h n ?_
  have hw : DataW.weights Tryz.prog t (.agg (ys.map (·.1))) = DataW.weightsEach Tryz.prog (fs.toList.map (·.type)) (ys.map (·.1)) := by simp [DataW.weights, ht]
  rw [hw]
  refine DataW.weights_mem_each (j := j) (t := f.type) (d := y.1) ?_ ?_ n hn
  · rw [List.getElem?_map]
    simp [hf]
  · rw [List.getElem?_map, hy]; rfl
section
variable {H : Type} {enc : TypeId × Value → H} {W : World}
end

theorem okw_struct {P : Program} {W : World} {T : TypeId} {fs : Array Field} {v : Value} (ht : P.underlying T = some (.struct fs)) (h : ∃ base, Value.okWide P W .any base T v) : ∃ cs, v = .agg cs ∧ cs.size = P.cellsOf T := by
  obtain ⟨b, hv⟩ := h
  unfold Value.okWide at hv
  rw [ht] at hv
  obtain ⟨cs, h1, h2, _⟩ := hv
  exact ⟨cs, h1, h2⟩
end Go.Proofs.YtlacidnnankjlaaGreatDoor

/-
  The listed tables, and a start at which they read so.
-/
namespace Go.Proofs.YtlacidnnankjlaaGreatDoor
open Go.ChangeShapes Go.WideShapes Go.ChangeAt Go.RowKit Go.Deep

abbrev lay2 : List (String × DataW Unit) := [("unicode/utf8.acceptRanges", Rows.laid_unicode_utf8_acceptRanges), ("unicode/utf8.first", Rows.laid_unicode_utf8_first)]
set_option maxRecDepth 100000 in
theorem lay_first : (Rows.laid_unicode_utf8_first : DataW Unit) = Lib.firstData := by rfl
set_option maxRecDepth 100000 in
theorem lay_accept : (Rows.laid_unicode_utf8_acceptRanges : DataW Unit) = Lib.acceptData := by rfl
theorem plain_lay : (lay2.all fun x => x.2.handleName?.isNone) = true := by kernel_rfl
noncomputable def laidWorld (os : Os) : World :=
  let w0 := World.holding Tryz.prog os ⟨#[], #[], []⟩
  let put (h : Array Obj) (g : Nat) (cs : Array Value) : Array Obj := h.modify g fun
    | .cells _ t frozen => .cells cs t frozen
    | o => o
  let h1 := put w0.heap 0 (Lib.firstTab.map fun z => Value.int .u8 z).toArray
  let h2 := put h1 1 ((List.range 16).flatMap fun i => [Value.int .u8 (Lib.accLo i), Value.int .u8 (Lib.accHi i)]).toArray
  { w0 with heap := h2 }
theorem laid_door (os : Os) (args : Array Value) : laidMetH Tryz.prog lay2 ((laidWorld os).forCall (fun _ _ => 0) ⟨#[], args, []⟩).memory := by
  rw [MakeChecks.laidMetH_plain _ _ _ plain_lay]
  exact (LaidIn.of_run (l := lay2) [0, 1] 8 (by kernel_rfl) (by kernel_rfl) (by kernel_rfl) (by kernel_rfl)).met
end Go.Proofs.YtlacidnnankjlaaGreatDoor

/-
  What the listed tables give the walks, and a start at which they read so.
-/
namespace Go.Proofs.YtlacidnnankjlaaGreatDoor
open Go.ChangeShapes Go.WideShapes Go.ChangeAt Go.RowKit Go.Deep

theorem tabs_of {W : World} (h : laidMetH Tryz.prog lay2 W) : Wd W := by
  rw [MakeChecks.laidMetH_plain _ _ _ plain_lay] at h
  have h1 := Lib.laidMet.reads h (n := "unicode/utf8.acceptRanges") (d := Rows.laid_unicode_utf8_acceptRanges) (.head _)
  have h2 := Lib.laidMet.reads h (n := "unicode/utf8.first") (d := Rows.laid_unicode_utf8_first) (.tail _ (.head _))
  rw [lay_accept] at h1
  rw [lay_first] at h2
  exact utf8Tabs_of_readsT (U8Types.of196 Sh.lays196) ⟨by kernel_rfl, by kernel_rfl, by kernel_rfl, by kernel_rfl, by kernel_rfl, by kernel_rfl, by kernel_rfl⟩ h2 h1
end Go.Proofs.YtlacidnnankjlaaGreatDoor

/-
  How the argument of the laws of chapter 28 reads: its numbers, and a slice.
-/
namespace Go.Proofs.YtlacidnnankjlaaGreatDoor
open Go.ChangeShapes Go.WideShapes Go.ChangeAt Go.RowKit Go.Deep

set_option maxRecDepth 100000 in
theorem Ask28.shape {H : Type} {enc : TypeId × Value → H} {W : World} {v : Value} {d : DataW H} {p : List MemPlace} (h : Comes enc W 24 v d p) :
    ∃ (ip mac port iss : Int) (A : Option Addr) (len cap : Nat) (sq : Int), v = .agg #[.int .i64 ip, .int .i64 mac, .int .i64 port, .int .i64 iss, .slice A len cap, .int .i64 sq] := by
  obtain ⟨⟨fuel, hf0⟩, hvb, hsz⟩ := h
  obtain ⟨cs, rfl, hcs⟩ := okw_struct Tryz.underlying24 hvb
  have c6 : Tryz.prog.cellsOf 24 = 6 := by kernel_rfl
  have e_int : Tryz.prog.cellsOf 3 = 1 := by kernel_rfl
  have e_mqs : Tryz.prog.cellsOf 22 = 1 := by kernel_rfl
  rw [c6] at hcs
  obtain ⟨ys, k, _, ex, _, yl, hf⟩ := DataW.trod_struct Tryz.underlying24 hf0
  obtain ⟨L⟩ := cs
  match L, hcs with
  | [k0, k1, k2, k3, k4, k5], _ =>
    have f0 := hf 0 _ rfl
    have f1 := hf 1 _ rfl
    have f2 := hf 2 _ rfl
    have f3 := hf 3 _ rfl
    have f4 := hf 4 _ rfl
    have f5 := hf 5 _ rfl
    simp only [List.getElem_toArray, List.getElem_cons_zero, List.getElem_cons_succ, e_int, e_mqs, List.drop_zero] at f0 f1 f2 f3 f4 f5
    rw [List.getElem?_eq_getElem (by rw [yl]; decide)] at f0 f1 f2 f3 f4 f5
    obtain ⟨n0, e0, _, _⟩ := DataW.trod_int Tryz.underlying3 f0
    obtain ⟨n1, e1, _, _⟩ := DataW.trod_int Tryz.underlying3 f1
    obtain ⟨n2, e2, _, _⟩ := DataW.trod_int Tryz.underlying3 f2
    obtain ⟨n3, e3, _, _⟩ := DataW.trod_int Tryz.underlying3 f3
    obtain ⟨n5, e5, _, _⟩ := DataW.trod_int Tryz.underlying3 f5
    have q4 : ∃ (A : Option Addr) (len cap : Nat), [k4] = [Value.slice A len cap] := by
      rcases open_slice Tryz.underlying22 f4 with ⟨e, _⟩ | ⟨a, len, cap, _, _, _, _, e, _⟩
      · exact ⟨none, 0, 0, e⟩
      · exact ⟨some a, len, cap, e⟩
    obtain ⟨A, len, cap, q4⟩ := q4
    have q0 : [k0] = [Value.int .i64 n0] := e0
    have q1 : [k1] = [Value.int .i64 n1] := e1
    have q2 : [k2] = [Value.int .i64 n2] := e2
    have q3 : [k3] = [Value.int .i64 n3] := e3
    have q5 : [k5] = [Value.int .i64 n5] := e5
    simp only [List.cons.injEq, and_true] at q0 q1 q2 q3 q4 q5
    subst q0 q1 q2 q3 q4 q5
    exact ⟨n0, n1, n2, n3, A, len, cap, n5, rfl⟩
end Go.Proofs.YtlacidnnankjlaaGreatDoor
