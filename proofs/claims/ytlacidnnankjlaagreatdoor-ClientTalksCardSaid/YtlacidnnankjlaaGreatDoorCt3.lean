/-
  Texts of the claim: TrSeg AppF ReasmA ReasmB ReasmC ReasmD ReasmE ReasmF ReasmG CliH ReasmP Hear Heard TrStream CliHH Lists EqL Chunk SameF Same OkP Only OnlyW Back Size RowW LayC.
-/
import Derived.Great.Frames
import Derived.Test.YtlacidnnankjlaaGreatDoorCt2
namespace Go.Proofs.YtlacidnnankjlaaGreatDoor
set_option maxRecDepth 100000
set_option maxHeartbeats 25600000
section
open Go.RowKit
def segIn (b : List UInt8) : Option (Pk × Sg) :=
 if (frOut b).2 ≠ 0 ∨ (frOut b).1.t ≠ 2048 then none
 else if (parseOut (frOut b).1.xs).2 ≠ 0 ∨ (parseOut (frOut b).1.xs).1.p ≠ 6 then none
 else if (segOut (parseOut (frOut b).1.xs).1.s (parseOut (frOut b).1.xs).1.d (parseOut (frOut b).1.xs).1.xs).2 ≠ 0 then none
 else some ((parseOut (frOut b).1.xs).1, (segOut (parseOut (frOut b).1.xs).1.s (parseOut (frOut b).1.xs).1.d (parseOut (frOut b).1.xs).1.xs).1)
abbrev pkL (p : Pk) (v : Value) : List Value := [iz p.s, iz p.d, iz p.p, iz p.t, iz p.i, v]
abbrev sgL (q : Sg) (v : Value) : List Value := [iz q.sp, iz q.dp, iz q.sq, iz q.ak, iz q.fl, iz q.wn, v]
def SegInV (W : World) : Option (Pk × Sg) → Value → World → Prop
 | none, v, w => v = .tuple #[.agg (pkL .zero nilV).toArray, .agg (sgL .zero nilV).toArray, .bool false] ∧ Below W.heap.size W w
 | some (p, q), v, w => ∃ A0 n0 c0 A c, v = .tuple #[.agg (pkL p (.slice A0 n0 c0)).toArray, .agg (sgL q (.slice A q.xs.length c)).toArray, .bool true] ∧ w.ownsRow W.heap.size 5 1 (.slice A q.xs.length c) q.xs.length (q.xs.map bv) ∧ Below W.heap.size W w
theorem size_pk27 : (Tryz.prog.info? 89).map (·.size) = some 6 := by kernel_rfl
theorem zero_pk27 (w : World) : (zeroValue 89).run Tryz.prog w = .ok (.agg (pkL .zero nilV).toArray) w := by kernel_rfl
theorem size_sg27 : (Tryz.prog.info? 36).map (·.size) = some 7 := by kernel_rfl
theorem zero_sg27 (w : World) : (zeroValue 36).run Tryz.prog w = .ok (.agg (sgL .zero nilV).toArray) w := by kernel_rfl
theorem parse_le (xs : List UInt8) : (parseOut xs).1.xs.length ≤ xs.length := by
 unfold parseOut
 repeat' split
 all_goals first | (simp [Pk.zero]; done) | skip
 simp [parsed]
 omega
theorem neq_k (u v : Int) (b : Bool) (h : (u != v) = b) (x y : Operand) (w : World) : (do eqGuard .neq 27 x y (iz u) (iz v); binOp .neq 27 (iz u) (iz v) : Sem Value).run Tryz.prog w = .ok (.bool b) w := by
 subst h
 simp [go_sem]
theorem ipParseT (xs : List UInt8) (A : Option Addr) (c : Nat) (hnc : xs.length ≤ c) (w : World) (hx : RB w w.heap.size A xs) (hn : xs.length ≤ 140737488351232) :
  Calls Tryz.prog 86 #[.slice A xs.length c] w fun e w' => ∃ v, e = .returned v ∧ ∃ A' c', v = .tuple #[.agg (pkL (parseOut xs).1 (.slice A' (parseOut xs).1.xs.length c')).toArray, iz (parseOut xs).2] ∧ w'.ownsRow w.heap.size 5 1 (.slice A' (parseOut xs).1.xs.length c') (parseOut xs).1.xs.length ((parseOut xs).1.xs.map bv) ∧ Below w.heap.size w w' :=
 (ipParseN xs xs.length rfl A c hnc w hx hn).mono fun _ _ ⟨A', c', h1, h2, h3⟩ => ⟨_, h1, A', c', rfl, h2, h3⟩
theorem segParseT (src dst : Int) (xs : List UInt8) (A : Option Addr) (c : Nat) (hnc : xs.length ≤ c) (w : World) (hx : RB w w.heap.size A xs) (hn : xs.length ≤ 140737488351232) :
  Calls Tryz.prog 87 #[iz src, iz dst, .slice A xs.length c] w fun e w' => ∃ v, e = .returned v ∧ ∃ A' c', v = .tuple #[.agg (sgL (segOut src dst xs).1 (.slice A' (segOut src dst xs).1.xs.length c')).toArray, iz (segOut src dst xs).2] ∧ w'.ownsRow w.heap.size 5 1 (.slice A' (segOut src dst xs).1.xs.length c') (segOut src dst xs).1.xs.length ((segOut src dst xs).1.xs.map bv) ∧ Below w.heap.size w w' :=
 (segParseN src dst xs xs.length rfl A c hnc w hx hn).mono fun _ _ ⟨A', c', h1, h2, h3⟩ => ⟨_, h1, A', c', rfl, h2, h3⟩
theorem results_cct {P : Program} {fn : Func} {p q r : Tmp} {T U : TypeId} (h : fn.results = #[.cell p T, .cell q U, .tmp r]) (tmps : Array Value) {u v z : Value} {x y : Addr} {w : World} (hp : tmps.getD p undef = .pointer (some x)) (hq : tmps.getD q undef = .pointer (some y)) (hr : tmps.getD r undef = z) (h1 : (loadVar T x).run P w = .ok u w) (h2 : (loadVar U y).run P w = .ok v w) : (results fn tmps).run P w = .ok (.tuple #[u, v, z]) w := by
 have hp' : tmps[p]?.getD undef = .pointer (some x) := by simpa using hp
 have hq' : tmps[q]?.getD undef = .pointer (some y) := by simpa using hq
 have hr' : tmps[r]?.getD undef = z := by simpa using hr
 simp [results, h, hp', hq', hr', asAddr, h1, h2]
theorem loadv_pk {w : World} {g : Nat} {L : List Value} (hC : Cells w g L) (hl : L.length = 6) : (loadVar 89 ⟨g, 0, none⟩).run Tryz.prog w = .ok (.agg L.toArray) w :=
 run_loadVar_mid w g 0 _ L _ hC.range Tryz.underlying89 rfl (by rw [hl]; exact size_pk27)
theorem loadv_sg {w : World} {g : Nat} {L : List Value} (hC : Cells w g L) (hl : L.length = 7) : (loadVar 36 ⟨g, 0, none⟩).run Tryz.prog w = .ok (.agg L.toArray) w :=
 run_loadVar_mid w g 0 _ L _ hC.range Tryz.underlying36 rfl (by rw [hl]; exact size_sg27)
theorem traceSegment (xs : List UInt8) (A : Option Addr) (c : Nat) (hnc : xs.length ≤ c) (w : World) (hx : RB w w.heap.size A xs) (hl : xs.length ≤ 140737488351232) :
  Calls Tryz.prog 51 #[.slice A xs.length c] w fun e w' => ∃ v, e = .returned v ∧ SegInV w (segIn xs) v w' := by
 go_enter Tryz.func51, Tryz.ntmps51
 refine Has.start 48 [(0, .slice A xs.length c)] rfl rfl ⟨rfl, trivial⟩ ?_
 intro a0 H0
 have O0 := Own.start w
 refine rl ?_
 refine H0.al O0 0 zero_pk27 fun a w1 O1 H => ?_
 generalize hg2 : w.heap.size = g2 at O1 H
 refine H.al O1 1 zero_sg27 fun a w2 O2 H => nt ?_
 generalize w1.heap.size = g3 at O2 H
 have bl : ∀ {bs : List (Nat × List Value)} {w'}, Own w g2 bs w' → Below w.heap.size w w' := fun h => hg2 ▸ h.bel
 replace H := H.kp [0, 2, 3]
 obtain ⟨ans, hans⟩ : ∃ ans, segIn xs = ans := ⟨_, rfl⟩
 refine wp_scope_one (k := 0) rfl (fun a w' => ans = none ∧ Has a 48 [(2, pz g2), (3, pz g3)] ∧ ∃ L3 L2, L3.length = 7 ∧ L2.length = 6 ∧ Own w g2 [(g3, L3), (g2, L2)] w') (fun _ _ => 0) ?_ ?_
 rotate_left
 ·clear H H0
  rintro a w3 ⟨rfl, H, L3, L2, hl3, hl2, O3⟩
  refine rl ?_
  refine H.any (w' := w3) gz rfl rfl (.agg (pkL .zero nilV).toArray) (by intro cs b h; cases h) (by kernel_rfl) (by kernel_rfl) fun a H => ?_
  refine H.any (w' := w3) gz rfl rfl (.agg (sgL .zero nilV).toArray) (by intro cs b h; cases h) (by kernel_rfl) (by kernel_rfl) fun a H => ?_
  refine H.st O3 1 0 (L := pkL .zero nilV) (L0 := L2) (fun a w4 O4 H => ?_) size_pk27 (h0 := hl2)
  refine H.st O4 0 1 (L := sgL .zero nilV) (L0 := L3) (fun a w5 O5 H => nt (wp_ret ?_)) size_sg27 (h0 := hl3)
  repeat (first | (with_reducible refine jump_ret ?_) | (with_reducible refine then_ret ?_))
  exact bodyPost_ret (results_cct rfl _ (H.at_ 2 _ rfl) (H.at_ 3 _ rfl) (H.at_ 4 _ rfl) (loadv_pk (O5.get 1 rfl) rfl) (loadv_sg (O5.get 0 rfl) rfl)) H.df ⟨_, rfl, by rw [hans]; exact ⟨rfl, bl O5⟩⟩
 intro hpass
 refine H.rg 1 fun a H => ?_
 refine H.cl (ethParse xs xs.length rfl A c hnc w2 (hx.next (bl O2)) hl) ?_
 have hfl := frOut_len xs
 have hans0 := hans
 unfold segIn at hans
 generalize frOut xs = fo at hans hfl
 obtain ⟨fr, fe⟩ := fo
 replace hfl : fr.xs.length ≤ xs.length := hfl
 rintro a _ w3 ⟨A1, c1, rfl, hO1, hb3⟩ H
 have O3 := O2.call hb3
 have hc1 := own_cap hO1
 refine H.ms 1 fun a H => ?_
 refine H.ex (r := .agg ([iz fr.d, iz fr.s, iz fr.t, .slice A1 fr.xs.length c1] : List Value).toArray) 0 fun a H => ?_
 refine H.ex (r := iz fe) 0 fun a H => ?_
 refine H.nk O3 1 (L := [iz fr.d, iz fr.s, iz fr.t, .slice A1 fr.xs.length c1]) rfl zero_frame size_frame fun a w4 hb4 O4 _ H => nt ?_
 have hO4 := own_below hO1 hb4
 have hg3 : g3 < w2.heap.size := O2.lt 0 rfl
 have hg23 : g2 < w2.heap.size := O2.lt 1 rfl
 generalize w3.heap.size = g5 at O4 H
 replace H := H.kp [2, 3, 5, 6]
 have drop1 : ∀ {x : Nat × List Value} {bs : List (Nat × List Value)} {w'}, Own w g2 (x :: bs) w' → Own w g2 bs w' := fun h => h.sub (List.sublist_cons_self _ _)
 by_cases he : fe = 0
 rotate_left
 ·have hn : ans = none := by rw [← hans, if_pos (.inl he)]
  refine H.tb (Own w g2 [(g5, [iz fr.d, iz fr.s, iz fr.t, .slice A1 fr.xs.length c1]), (g3, sgL .zero nilV), (g2, pkL .zero nilV)]) (fun _ _ h hb => h.call hb) O4 [ec 0 12 (iz fe), ec 1 13 (.bool true), ec 2 14 (.bool true), ec 3 15 undef, ec 4 16 undef, ec 5 17 undef, ec 6 18 (.bool true)] rfl ⟨jm, jb fun _ => neq_k fe 0 true (by rw [bne_iff_ne]; exact he) _ _ _, jm, jo, jo, jo, jp, trivial⟩ ?_
  intro a w5 H O5
  refine then_normal (H.condT rfl (wp_goto ?_))
  repeat (with_reducible refine then_goto ?_)
  exact jump_goto ⟨hn, H.keep ⟨rfl, rfl, trivial⟩, _, _, rfl, rfl, drop1 O5⟩
 subst he
 obtain ⟨z, hz⟩ : ∃ z, ((fr.t : Int) != 2048) = z := ⟨_, rfl⟩
 refine H.tb (fun w' => Own w g2 [(g5, [iz fr.d, iz fr.s, iz fr.t, .slice A1 fr.xs.length c1]), (g3, sgL .zero nilV), (g2, pkL .zero nilV)] w' ∧ Below w4.heap.size w4 w') (fun _ _ h hb => ⟨h.1.call hb, h.2.trans (hb.mono h.2.size)⟩) ⟨O4, Below.refl _ _⟩ [ec 0 12 (iz 0), ec 1 13 (.bool false), ec 2 14 (.bool false), ec 3 15 (.pointer (some ⟨g5, 2, none⟩)), ec 4 16 (iz fr.t), ec 5 17 (.bool z), ec 6 18 (.bool z)] rfl ⟨jm, jb fun _ => neq_k 0 0 false rfl _ _ _, jm, jm, jl fun _ h => h.1.li 0 2, jb fun _ => neq_3 (fr.t : Int) 2048 z hz _ _ _, jp, trivial⟩ ?_
 rintro a w5 H ⟨O5, hb5⟩
 have hO5 := own_below hO4 hb5
 cases z with
 | true =>
  have hn : ans = none := by rw [← hans, if_pos (.inr (by have := bne_iff_ne.1 hz; show fr.t ≠ 2048; omega))]
  refine then_normal (H.condT rfl (wp_goto ?_))
  repeat (with_reducible refine then_goto ?_)
  exact jump_goto ⟨hn, H.keep ⟨rfl, rfl, trivial⟩, _, _, rfl, rfl, drop1 O5⟩
 | false =>
 have ht : fr.t = 2048 := by
  rw [bne_eq_false_iff_eq] at hz
  omega
 rw [if_neg (by rintro (h | h); exact h rfl; exact h ht)] at hans
 refine then_normal (H.condF rfl (skip_wp (then_normal ?_)))
 replace H := H.kp [2, 3, 5]
 refine H.rg 1 fun a H => ?_
 refine H.ld 0 (load1_31 _ _ _ _ _ _ ((O5.get 0 rfl).get 3 _ rfl)) fun a H => ?_
 have hw5 : w2.heap.size ≤ w5.heap.size := Nat.le_trans hb3.size (Nat.le_trans hb4.size hb5.size)
 refine H.cl (ipParseT fr.xs A1 c1 hc1 w5 (rb_of_own rfl hO5 hw5) (by omega)) ?_
 have hpl := parse_le fr.xs
 generalize parseOut fr.xs = po at hans hpl
 obtain ⟨pk, pe⟩ := po
 replace hpl : pk.xs.length ≤ fr.xs.length := hpl
 rintro a _ w6 ⟨A2, c2, rfl, hO6, hb6⟩ H
 have O6 := O5.call hb6
 have hc2 := own_cap hO6
 refine H.ms 1 fun a H => ?_
 refine H.ex (r := .agg (pkL pk (.slice A2 pk.xs.length c2)).toArray) 0 fun a H => ?_
 refine H.ex (r := iz pe) 0 fun a H => ?_
 refine H.storeS rfl rfl rfl rfl rfl (O6.get 2 rfl) size_pk27 rfl rfl rfl fun a w7 H hg7 hs7 hC7 => ?_
 have O7 := O6.store 2 rfl hg7 hs7 hC7
 have hO7 := hO6.kept hg7 (.inr (own_ne hO6 (.inl (Nat.lt_of_lt_of_le hg23 hw5))).symm)
 refine H.ms 1 fun a H => nt ?_
 replace H := H.kp [2, 3, 6]
 replace O7 : Own w g2 [(g3, sgL .zero nilV), (g2, pkL pk (.slice A2 pk.xs.length c2))] w7 := drop1 O7
 by_cases he : pe = 0
 rotate_left
 ·have hn : ans = none := by rw [← hans, if_pos (.inl he)]
  refine H.tb (Own w g2 [(g3, sgL .zero nilV), (g2, pkL pk (.slice A2 pk.xs.length c2))]) (fun _ _ h hb => h.call hb) O7 [ec 0 25 (iz pe), ec 1 26 (.bool true), ec 2 27 (.bool true), ec 3 28 undef, ec 4 29 undef, ec 5 30 undef, ec 6 31 (.bool true)] rfl ⟨jm, jb fun _ => neq_k pe 0 true (by rw [bne_iff_ne]; exact he) _ _ _, jm, jo, jo, jo, jp, trivial⟩ ?_
  intro a w8 H O8
  refine then_normal (H.condT rfl (wp_goto ?_))
  repeat (with_reducible refine then_goto ?_)
  exact jump_goto ⟨hn, H.keep ⟨rfl, rfl, trivial⟩, _, _, rfl, rfl, O8⟩
 subst he
 obtain ⟨z, hz⟩ : ∃ z, (pk.p != 6) = z := ⟨_, rfl⟩
 refine H.tb (fun w' => Own w g2 [(g3, sgL .zero nilV), (g2, pkL pk (.slice A2 pk.xs.length c2))] w' ∧ Below w7.heap.size w7 w') (fun _ _ h hb => ⟨h.1.call hb, h.2.trans (hb.mono h.2.size)⟩) ⟨O7, Below.refl _ _⟩ [ec 0 25 (iz 0), ec 1 26 (.bool false), ec 2 27 (.bool false), ec 3 28 (.pointer (some ⟨g2, 2, none⟩)), ec 4 29 (iz pk.p), ec 5 30 (.bool z), ec 6 31 (.bool z)] rfl ⟨jm, jb fun _ => neq_k 0 0 false rfl _ _ _, jm, jm, jl fun _ h => h.1.li 1 2, jb fun _ => neq_3 pk.p 6 z hz _ _ _, jp, trivial⟩ ?_
 rintro a w8 H ⟨O8, hb8⟩
 have hO8 := own_below hO7 hb8
 cases z with
 | true =>
  have hn : ans = none := by rw [← hans, if_pos (.inr (bne_iff_ne.1 hz))]
  refine then_normal (H.condT rfl (wp_goto ?_))
  repeat (with_reducible refine then_goto ?_)
  exact jump_goto ⟨hn, H.keep ⟨rfl, rfl, trivial⟩, _, _, rfl, rfl, O8⟩
 | false =>
 rw [if_neg (by rintro (h | h); exact h rfl; exact h (bne_eq_false_iff_eq.1 hz))] at hans
 refine then_normal (H.condF rfl (skip_wp (then_normal ?_)))
 replace H := H.kp [2, 3]
 refine H.rg 1 fun a H => ?_
 refine H.ld 1 (O8.li 1 0) fun a H => ?_
 refine H.ld 1 (O8.li 1 1) fun a H => ?_
 refine H.ld 0 (load1_31 _ _ _ _ _ _ ((O8.get 1 rfl).get 5 _ rfl)) fun a H => ?_
 have hw6 : w5.heap.size ≤ w8.heap.size := Nat.le_trans hb6.size (Nat.le_trans (Nat.le_of_eq hs7.symm) hb8.size)
 refine H.cl (segParseT pk.s pk.d pk.xs A2 c2 hc2 w8 (rb_of_own rfl hO8 hw6) (by omega)) ?_
 generalize hso : segOut pk.s pk.d pk.xs = so at hans
 obtain ⟨sg, se⟩ := so
 rintro a _ w9 ⟨A3, c3, rfl, hO9, hb9⟩ H
 have O9 := O8.call hb9
 refine H.ms 1 fun a H => ?_
 refine H.ex (r := .agg (sgL sg (.slice A3 sg.xs.length c3)).toArray) 0 fun a H => ?_
 refine H.ex (r := iz se) 0 fun a H => ?_
 refine H.storeS rfl rfl rfl rfl rfl (O9.get 0 rfl) size_sg27 rfl rfl rfl fun a w10 H hg10 hs10 hC10 => ?_
 have O10 := O9.store 0 rfl hg10 hs10 hC10
 have hw8 : w2.heap.size ≤ w8.heap.size := Nat.le_trans hw5 hw6
 have hO10 := hO9.kept hg10 (.inr (own_ne hO9 (.inl (Nat.lt_of_lt_of_le hg3 hw8))).symm)
 refine H.ms 1 fun a H => nt ?_
 refine H.rg 1 fun a H => ?_
 by_cases he : se = 0
 rotate_left
 ·have hn : ans = none := by rw [← hans, if_pos he]
  refine H.bb 0 rfl rfl rfl rfl rfl rfl (neq_k se 0 true (by rw [bne_iff_ne]; exact he) _ _ _) rfl fun a H => nt (H.condT rfl (wp_goto ?_))
  repeat (with_reducible refine then_goto ?_)
  exact jump_goto ⟨hn, H.keep ⟨rfl, rfl, trivial⟩, _, _, rfl, rfl, O10⟩
 subst he
 rw [if_neg (fun h => h rfl)] at hans
 refine H.bb 0 rfl rfl rfl rfl rfl rfl (neq_k 0 0 false rfl _ _ _) rfl fun a H => nt (H.condF rfl (skip_wp (then_normal ?_)))
 replace H := H.kp [2, 3]
 have hgw : g3 < w8.heap.size ∧ g2 < w8.heap.size := ⟨by omega, by omega⟩
 refine H.sg (fun w' => Own w g2 [(g3, sgL sg (.slice A3 sg.xs.length c3)), (g2, pkL pk (.slice A2 pk.xs.length c2))] w' ∧ w'.ownsRow w8.heap.size 5 1 (.slice A3 sg.xs.length c3) sg.xs.length (sg.xs.map bv)) ⟨O10.drew, own_below hO10 (Below.drew (Below.refl _ _))⟩ [2, 3] [ec 0 44 (.agg (pkL pk (.slice A2 pk.xs.length c2)).toArray), ec 1 45 (.agg (sgL sg (.slice A3 sg.xs.length c3)).toArray)] rfl ?_
 refine St.sto 2 ⟨jl fun _ h => loadT (h.1.get 1 rfl) Tryz.underlying89 rfl size_pk27 rfl, jl fun _ h => loadT (h.1.get 0 rfl) Tryz.underlying36 rfl size_sg27 rfl, trivial⟩ ?_
 rintro a wu H _ ⟨Ou, hOu⟩
 obtain ⟨w', hr, hg', hs', hC'⟩ := (Ou.get 1 rfl).sto (L := pkL pk (.slice A2 pk.xs.length c2)) size_pk27 rfl rfl rfl
 refine ⟨w', run_store rfl (H.ev rfl) (H.ev rfl) hr, nx0 (fun w' => Own w g2 [(g3, sgL sg (.slice A3 sg.xs.length c3)), (g2, pkL pk (.slice A2 pk.xs.length c2))] w' ∧ w'.ownsRow w8.heap.size 5 1 (.slice A3 sg.xs.length c3) sg.xs.length (sg.xs.map bv)) [] [] ⟨Ou.store 1 rfl hg' hs' hC', hOu.kept hg' (.inr (own_ne hOu (.inl hgw.2)).symm)⟩ ?_⟩
 refine St.sto 3 ⟨jl fun _ h => loadT (h.1.get 0 rfl) Tryz.underlying36 rfl size_sg27 rfl, trivial⟩ ?_
 clear hr hg' hs' hC' Ou hOu
 rintro a wu H _ ⟨Ou, hOu⟩
 obtain ⟨w', hr, hg', hs', hC'⟩ := (Ou.get 0 rfl).sto (L := sgL sg (.slice A3 sg.xs.length c3)) size_sg27 rfl rfl rfl
 refine ⟨w', run_store rfl (H.ev rfl) (H.ev rfl) hr, nx0 (fun w' => Own w g2 [(g3, sgL sg (.slice A3 sg.xs.length c3)), (g2, pkL pk (.slice A2 pk.xs.length c2))] w' ∧ w'.ownsRow w8.heap.size 5 1 (.slice A3 sg.xs.length c3) sg.xs.length (sg.xs.map bv)) [ec 4 4 (.bool true)] [] ⟨Ou.store 0 rfl hg' hs' hC', hOu.kept hg' (.inr (own_ne hOu (.inl hgw.1)).symm)⟩ ?_⟩
 refine St.fin ⟨jm, trivial⟩ ?_
 rintro a w11 H _ ⟨O11, hO11⟩
 refine then_normal (wp_ret ?_)
 repeat (first | (with_reducible refine jump_ret ?_) | (with_reducible refine then_ret ?_))
 refine bodyPost_ret (results_cct rfl _ (H.at_ 2 _ rfl) (H.at_ 3 _ rfl) (H.at_ 4 _ rfl) (loadv_pk (O11.get 1 rfl) rfl) (loadv_sg (O11.get 0 rfl) rfl)) H.df ⟨_, rfl, ?_⟩
 rw [hans0, ← hans]
 exact ⟨_, _, _, A3, c3, rfl, own_base hO11 (by omega), bl O11⟩
end
section
open Go.RowKit
section
variable {P : Program} (w : World)
theorem run_append_readF (base : Nat) (t ty e : TypeId) (z : Value) (size bytes : Nat) (ht : P.underlying t = some (.slice e)) (hi : (P.info? e).map (fun i => (i.zero, i.size, i.bytes)) = some (some z, size, bytes)) (hzs : z.cells.size = size) (hsz : 0 < size)
  (v : Value) (n : Nat) (xs : List Value) (hown : w.ownsRow base e size v n xs)
  (B : Nat) (A : Option Addr) (m c : Nat) (news : List Value) (hr : Reads w B size A m news) (h1 : ∀ u ∈ news, u.oneCell' = true)
  (h63 : n + m ≤ maxLen) (hbytes : (n + m) * bytes ≤ 140737488355328) (hbase : base ≤ w.heap.size) :
  ∃ A' c' w', (Builtin.append_ #[t, t] ty #[v, .slice A m c]).run P w = .ok (.slice A' (n + m) c') w' ∧ w'.ownsRow base e size (.slice A' (n + m) c') (n + m) (xs ++ news) ∧ w.grownBy w' v.ownBlock ∧ ((Value.slice A' (n + m) c').ownBlock = v.ownBlock ∨ (Value.slice A' (n + m) c').ownBlock = some w.heap.size) := by
 obtain ⟨i, hi0, hz0, hz1, hz2⟩ := info_parts hi
 rcases A with _ | ad
 ·have hm : m = 0 := by
   rcases Nat.eq_zero_or_pos m with h0 | h0
   ·exact h0
   ·obtain ⟨ad, h, _⟩ := hr.2 h0
    cases h
  subst hm
  have hn : news = [] := List.eq_nil_of_length_eq_zero (by simpa using hr.1)
  subst hn
  obtain ⟨A, c1, rfl, _, _⟩ := own_shape hown
  exact ⟨A, c1, w, run_append_of_nil w base t ty e i size ht hi0 _ n xs hown c, by simpa using hown, World.grownBy.refl w _, .inl rfl⟩
 ·have hcells : ∀ j u, news[j]? = some u → w.cell? (ad.add j) = some u := by
   intro j u hu
   rcases Nat.eq_zero_or_pos m with h0 | h0
   ·subst h0
    have hn : news = [] := List.eq_nil_of_length_eq_zero (by simpa using hr.1)
    subst hn
    simp at hu
   ·obtain ⟨ad', h, _, hc⟩ := hr.2 h0
    injection h with h
    subst h
    exact hc j u hu
  obtain ⟨v', w', hrun, h2, h3, _, h4⟩ := run_append_own_at (P := P) w base t ty e i z size bytes ht hi0 hz0 hz1 hz2 hzs hsz v n xs hown ad m c news hr.1 hcells h1 h63 hbytes hbase
  obtain ⟨A', c', rfl, _, _⟩ := own_shape h2
  exact ⟨A', c', w', hrun, h2, h3, h4⟩
end
theorem run_appF {P : Program} {o : Oper} {a : Act} {w : World} {s x : Operand} {t : TypeId} (ho : o.op = .call { callee := .builtin .append, args := #[s, x], argTypes := #[t, t] }) {base : Nat} {e : TypeId} {z : Value} {size bytes : Nat} (ht : P.underlying t = some (.slice e)) (hi : (P.info? e).map (fun i => (i.zero, i.size, i.bytes)) = some (some z, size, bytes)) (hzs : z.cells.size = size) (hsz : 0 < size)
  {v : Value} {n : Nat} {xs : List Value} (hs : a.eval s = v) (hown : w.ownsRow base e size v n xs) {A : Option Addr} {m c : Nat} {ys : List Value} (hx : a.eval x = .slice A m c) (hr : Reads w w.heap.size size A m ys) (h1 : ∀ u ∈ ys, u.oneCell' = true) (hn : n + m ≤ maxLen) (hb : (n + m) * bytes ≤ 140737488355328) (hbase : base ≤ w.heap.size) :
  ∃ A' c' w', (execOp a.eval o).run P w = .ok (.value (.slice A' (n + m) c')) w' ∧ w'.ownsRow base e size (.slice A' (n + m) c') (n + m) (xs ++ ys) ∧ w.grownBy w' v.ownBlock ∧ ((Value.slice A' (n + m) c').ownBlock = v.ownBlock ∨ (Value.slice A' (n + m) c').ownBlock = some w.heap.size) := by
 obtain ⟨A', c', w', hrun, h2, h3⟩ := run_append_readF (P := P) w base t o.type e z size bytes ht hi hzs hsz v n xs hown w.heap.size A m c ys hr h1 hn hb hbase
 refine ⟨A', c', w', ?_, h2, h3⟩
 unfold execOp
 simp only [ho, resolve, invoke, builtin, Sem.run_bind, Sem.run_pure, Result.andThen_ok, List.map_toArray, List.map_cons, List.map_nil, hs, hx, hrun]
section
variable {ops : Array Oper} {Q : Exit → Act → World → Prop} {n : Nat} {fixed : List (Nat × Value)} {F : World → Prop} {es : List EntC} {done : List Nat} {d : Nat} {o : Oper}
theorem St.appF (h : Nat) {s x : Operand} {t e : TypeId} {base size bytes m : Nat} {z : Value} {u : Value} {k c : Nat} {A : Option Addr} {xs ys : List Value} (hi : (Tryz.prog.info? e).map (fun i => (i.zero, i.size, i.bytes)) = some (some z, size, bytes)) (hl : LightAll ops Q n fixed F es done es)
  (hrun : ∀ w, F w → w.ownsRow base e size u k xs ∧ Reads w w.heap.size size A m ys ∧ base ≤ w.heap.size) (h1 : ∀ u ∈ ys, u.oneCell' = true) (hn : k + m ≤ maxLen ∧ (k + m) * bytes ≤ 140737488355328) (hk : ∀ w A' c' w', F w → w'.ownsRow base e size (.slice A' (k + m) c') (k + m) (xs ++ ys) → w.grownBy w' u.ownBlock → ((Value.slice A' (k + m) c').ownBlock = u.ownBlock ∨ (Value.slice A' (k + m) c').ownBlock = some w.heap.size) → Nx ops Q n fixed es done h d (.slice A' (k + m) c') w w')
  (ho : ops[h]? = some o := by rfl) (hp : o.op = .call { callee := .builtin .append, args := #[s, x], argTypes := #[t, t] } := by rfl) (hd : o.dst = some d := by rfl) (ht : Tryz.prog.underlying t = some (.slice e) := by kernel_rfl) (hzs : z.cells.size = size := by rfl) (hsz : 0 < size := by decide) (hg : okG ops (fixed ++ knownE (afts ops h) es) o = true := by rfl)
  (hs : evL (fixed ++ knownE (afts ops h) es) s = some u := by rfl) (hx : evL (fixed ++ knownE (afts ops h) es) x = some (.slice A m c) := by rfl) (hB : stB ops n fixed es done h = true := by kernel_rfl) (hN : Nat.ble ops.size 1000 = true := by kernel_rfl) (hback : backB ops = true := by kernel_rfl)
  (hF : es.all plainB = true ∨ ∀ w w', F w → Below w.heap.size w w' → F w' := by exact .inl rfl) (hst : StabAll es := by exact trivial) : St ops Q n fixed es F done := by
 refine St.val h hl ?_ ho hd hg hB hN hback hF hst
 intro a w H _ hFw
 obtain ⟨r1, r2, r3⟩ := hrun w hFw
 obtain ⟨A', c', w', hr, hO, hgr, hfr⟩ := run_appF (a := a) hp ht hi hzs hsz (H.ev hs) r1 (H.ev hx) r2 h1 hn.1 hn.2 r3
 exact ⟨_, w', hr, hk w A' c' w' hFw hO hgr hfr⟩
end
end
section
open Go.RowKit
theorem addq0 {W w : World} {B : Nat} {bs : List (Nat × List Value)} (h : Own W B bs w) {q : Nat} {L : List Value} (hB : B ≤ q) (hlt : q < w.heap.size) (hne : ∀ p ∈ bs, p.1 ≠ q) (hC : Cells w q L) : Own W B ((q, L) :: bs) w := by
 refine ⟨h.bel, h.le, ?_, fun p hp => ?_⟩
 ·rw [List.map_cons, List.nodup_cons]
  exact ⟨fun hm => by obtain ⟨p, hp, e⟩ := List.mem_map.1 hm; exact hne p hp e, h.nd⟩
 ·rcases List.mem_cons.1 hp with rfl | hp
  ·exact ⟨hB, hlt, hC⟩
  ·exact h.mem p hp
end
section
open Go.RowKit
def RBS (w : World) (S : Nat → Prop) (A : Option Addr) (xs : List UInt8) : Prop := 0 < xs.length → ∃ ad : Addr, A = some ad ∧ S ad.block ∧ ad.block < w.heap.size ∧ ∀ j u, (xs.map bv)[j]? = some u → w.cell? (ad.add j) = some u
theorem RBS.rb {w : World} {S : Nat → Prop} {A : Option Addr} {xs : List UInt8} (h : RBS w S A xs) : RB w w.heap.size A xs := by
 refine ⟨by rw [List.length_map, Nat.mul_one], fun hn => ?_⟩
 obtain ⟨ad, h1, _, h3, h4⟩ := h hn
 exact ⟨ad, h1, h3, h4⟩
theorem RBS.mono {w : World} {S S' : Nat → Prop} {A : Option Addr} {xs : List UInt8} (h : RBS w S A xs) (hS : ∀ k, k < w.heap.size → S k → S' k) : RBS w S' A xs := by
 intro hn
 obtain ⟨ad, h1, h2, h3, h4⟩ := h hn
 exact ⟨ad, h1, hS _ h3 h2, h3, h4⟩
theorem RBS.grown {w w' : World} {S : Nat → Prop} {A : Option Addr} {xs : List UInt8} {r : Option Nat} (h : RBS w S A xs) (hg : w.grownBy w' r) (hr : ∀ k, r = some k → ¬ S k) : RBS w' S A xs := by
 intro hn
 obtain ⟨ad, h1, h2, h3, h4⟩ := h hn
 refine ⟨ad, h1, h2, Nat.lt_of_lt_of_le h3 hg.size, fun j u hu => ?_⟩
 have hb : (ad.add j).block = ad.block := block_of_add ..
 exact hg.cell (h4 j u hu) (by rw [hb]; exact fun e => hr _ e.symm h2)
def SP (b : Nat) (w : World) (k : Nat) : Prop := b ≤ k ∧ ¬ TypB w k 104
theorem RBS.of_row {w : World} {b n c : Nat} {A : Option Addr} {xs : List UInt8} (h : w.ownsRow b 5 1 (.slice A n c) n (xs.map bv)) (hn : xs.length = n) : RBS w (SP b w) A xs := by
 intro hp
 rw [hn] at hp
 obtain ⟨g, cap, hv, _, hlt⟩ := h.form hp
 injection hv with hA _ _
 subst hA
 have hb := (h.lt g rfl).1
 exact ⟨_, rfl, ⟨hb, fun ht => ht.far h rfl rfl⟩, hlt, h.cells (g := g) rfl⟩
end
section
open Go.RowKit
theorem and_bitC (u v : Int) (x y : Operand) (w : World) : (do eqGuard .and 3 x y (iz u) (iz v); binOp .and 3 (iz u) (iz v) : Sem Value).run Tryz.prog w = .ok (iz (bits .and .i64 u v)) w := by kernel_rfl
theorem spanHas1 (s y : Nat) (hs : s ≤ 4294967295) (hy : y ≤ 4294967295) (w : World) : Calls Tryz.prog 89 #[spV s 1, iz y] w fun e w' => e = .returned (.tuple #[.bool (y == s), iz 0]) ∧ w = w' := by
 go_enter Tryz.func89, Tryz.ntmps89
 refine Has.start 28 [(0, spV s 1), (1, iz y)] rfl rfl ⟨rfl, rfl, trivial⟩ ?_
 intro a0 H0
 refine H0.rg 2 fun a H => nt ?_
 refine H.rg 1 fun a H => ?_
 refine H.cq 1 (spanParts s 1 hs (by decide) w) fun a H => ?_
 refine H.ex (r := iz s) 0 fun a H => ?_
 refine H.ex (r := iz 1) 0 fun a H => ?_
 refine H.ex (r := iz 0) 3 fun a H => nt ?_
 replace H := H.kp [1, 6, 7, 8]
 refine H.rg 1 fun a H => ?_
 refine H.bn 1 (neq_e 0 0 false rfl _ _ _) fun a H => ?_
 refine H.go (H.wt rfl rfl rfl) rfl rfl _ (run_move (.inl rfl) (H.ev rfl)) fun a H => ?_
 refine H.call (H.wt rfl rfl rfl) rfl rfl rfl rfl (fun _ _ => by kernel_rfl) (quietC (spanIs (y : Int) w)) ?_
 have hin : inR (y : Int) 4294967295 = true := inR_iff.2 ⟨by omega, by omega⟩
 rintro a _ _ ⟨rfl, rfl⟩ H
 rw [hin] at H
 refine H.un (H.wt rfl rfl rfl) rfl rfl rfl rfl (run_not true _) fun a H => ?_
 refine H.pick gz rfl rfl rfl rfl rfl fun a H => nt (H.condF rfl (skip_wp (then_normal ?_)))
 replace H := H.kp [1, 6, 7]
 obtain ⟨d, hd⟩ : ∃ d : Nat, (((y : Int) - (s : Int)) % 4294967296).toNat = d := ⟨_, rfl⟩
 have hyd : (decide ((d : Int) < 1)) = (y == s) := by
  rw [Bool.eq_iff_iff, decide_eq_true_iff, beq_iff_eq]
  omega
 refine H.rg 2 fun a H => ?_
 refine H.bn 0 (sub_ii (y : Int) (s : Int) (by omega) (by omega) _ _ _) fun a H => ?_
 refine H.bn 1 (and_sp ((y : Int) - (s : Int)) d hd _ _ _) fun a H => ?_
 refine H.bb 2 rfl rfl rfl rfl rfl rfl (lss_i (d : Int) 1 (y == s) hyd _ _ _) rfl fun a H => nt (wp_ret ?_)
 repeat (first | (with_reducible refine block_ret ?_) | (with_reducible refine then_ret ?_))
 exact bodyPost_ret (results_pair rfl _ _ _ (H.at_ 4 _ rfl) (H.at_ 5 _ rfl)) H.df ⟨rfl, rfl⟩
theorem block_goto {id l : Nat} {Q : Exit → Act → World → Prop} {a : Act} {w : World} (h : Q (.goto l) a w) : Exit.inBlock id Q (.goto l) a w := h
structure Cl where
 wants : Nat
 up : Bool
 got : List UInt8
def clHear (iss : Nat) (x : Cl) (q : Sg) : Cl × Bool :=
 if (bits .and .i64 q.fl 4 != 0) = true then (⟨x.wants, false, x.got⟩, false)
 else if ((bits .and .i64 q.fl 18 == 18) && (q.ak == ((spAdd iss 1 : Nat) : Int))) = true then (⟨spAdd q.sq.toNat 1, true, []⟩, true)
 else if ((!x.up || (bits .and .i64 q.fl 2 != 0)) || !(q.sq.toNat == x.wants)) = true then (x, false)
 else (⟨spAdd x.wants (q.xs.length + (if (bits .and .i64 q.fl 1 != 0) = true then 1 else 0)), x.up, x.got ++ q.xs⟩, decide (0 < q.xs.length + (if (bits .and .i64 q.fl 1 != 0) = true then 1 else 0)))
def CliR (g : Nat) (got last : List UInt8) (vG vl : Value) (w : World) : Prop :=
 w.ownsRow (g + 1) 5 1 vG got.length (got.map bv) ∧ w.ownsRow (g + 1) 5 1 vl last.length (last.map bv) ∧ ∀ k, vl.ownBlock = some k → vG.ownBlock ≠ some k
theorem CliR.next {g : Nat} {got last : List UInt8} {vG vl : Value} {w w' : World} (h : CliR g got last vG vl w) (hb : Below w.heap.size w w') : CliR g got last vG vl w' := ⟨own_below h.1 hb, own_below h.2.1 hb, h.2.2⟩
theorem CliR.box {g k0 : Nat} {got last : List UInt8} {vG vl : Value} {w w' : World} (h : CliR g got last vG vl w) (hg : w.grownBy w' (some k0)) (hk : k0 ≤ g) : CliR g got last vG vl w' :=
 ⟨h.1.kept hg (.inr (own_ne h.1 (.inl (Nat.lt_succ_of_le hk))).symm), h.2.1.kept hg (.inr (own_ne h.2.1 (.inl (Nat.lt_succ_of_le hk))).symm), h.2.2⟩
theorem CliR.nil {g : Nat} {w : World} : CliR g [] [] nilV nilV w := ⟨World.ownsRow_nil _ _ _ _, World.ownsRow_nil _ _ _ _, fun k h => by cases h⟩
def Kp (g : Nat) (v : Value) (w w' : World) : Prop := w.heap.size ≤ w'.heap.size ∧ ∀ k, k < w.heap.size → k ≠ g → some k ≠ v.ownBlock → w'.heap[k]? = w.heap[k]?
theorem Kp.refl (g : Nat) (v : Value) (w : World) : Kp g v w w := ⟨Nat.le_refl _, fun _ _ _ _ => rfl⟩
theorem Kp.grown {g : Nat} {v : Value} {w w' : World} {r : Option Nat} (hg : w.grownBy w' r) (hr : ∀ k, r = some k → k = g ∨ some k = v.ownBlock ∨ w.heap.size ≤ k) : Kp g v w w' :=
 ⟨hg.size, fun k hk h1 h2 => hg.block k hk fun e => by
  rcases hr k e.symm with h | h | h
  ·exact h1 h
  ·exact h2 h
  ·omega⟩
theorem Kp.below {g : Nat} {v : Value} {w w' : World} (hb : Below w.heap.size w w') : Kp g v w w' := Kp.grown (below_grown hb none) (fun k e => by cases e)
theorem Kp.trans {g : Nat} {v : Value} {w w1 w2 : World} (h : Kp g v w w1) (h2 : Kp g v w1 w2) : Kp g v w w2 :=
 ⟨Nat.le_trans h.1 h2.1, fun k hk h3 h4 => (h2.2 k (Nat.lt_of_lt_of_le hk h.1) h3 h4).trans (h.2 k hk h3 h4)⟩
theorem Kp.box {g : Nat} {v : Value} {w w1 w2 : World} (h : Kp g v w w1) (hg : w1.grownBy w2 (some g)) : Kp g v w w2 := h.trans (Kp.grown hg fun k e => .inl (by injection e with e; exact e.symm))
theorem Kp.next {g : Nat} {v : Value} {w w1 w2 : World} (h : Kp g v w w1) (hb : Below w1.heap.size w1 w2) : Kp g v w w2 := h.trans (Kp.below hb)
def RelV (w : World) (v v' : Value) : Prop := v'.ownBlock = v.ownBlock ∨ v'.ownBlock = none ∨ ∃ k, v'.ownBlock = some k ∧ w.heap.size ≤ k
theorem Kp.far {g : Nat} {v v1 : Value} {w w1 w2 : World} (h : Kp g v w w1) (hr : RelV w v v1) (h2 : Kp g v1 w1 w2) : Kp g v w w2 :=
 ⟨Nat.le_trans h.1 h2.1, fun k hk h3 h4 => (h2.2 k (Nat.lt_of_lt_of_le hk h.1) h3 (by
  rcases hr with e | e | ⟨j, e, hj⟩
  ·rw [e]; exact h4
  ·rw [e]; simp
  ·rw [e]; intro e2; injection e2 with e2; omega)).trans (h.2 k hk h3 h4)⟩
theorem RelV.trans {v v1 v2 : Value} {w w1 : World} (h : RelV w v v1) (hw : w.heap.size ≤ w1.heap.size) (h2 : RelV w1 v1 v2) : RelV w v v2 := by
 rcases h2 with e | e | ⟨j, e, hj⟩
 ·unfold RelV
  rw [e]; exact h
 ·exact .inr (.inl e)
 ·exact .inr (.inr ⟨j, e, Nat.le_trans hw hj⟩)
def HeardC (W : World) (B g ip mac port iss next : Nat) (x : Cl) (last : List UInt8) (vl : Value) (q : Sg) (w0 : World) (vG0 : Value) (v : Value) (w : World) : Prop :=
 ∃ x' t vG, clHear iss x q = (x', t) ∧ v = .bool t ∧ Own W B [(g, cliC ip mac port iss next x'.wants x'.up vG vl)] w ∧ CliR g x'.got last vG vl w ∧ Kp g vG0 w0 w ∧ RelV w0 vG0 vG
theorem cliHear (W : World) (B g ip mac port iss next : Nat) (x : Cl) (last : List UInt8) (vG vl : Value) (q : Sg) (sq : Nat) (hsq : q.sq = (sq : Int)) (hsl : sq ≤ 4294967295) (A : Option Addr) (c : Nat) (w : World) (O : Own W B [(g, cliC ip mac port iss next x.wants x.up vG vl)] w) (R : CliR g x.got last vG vl w)
  (hx : RB w w.heap.size A q.xs) (hn : q.xs.length ≤ 65536) (hw : x.wants ≤ 4294967295) (hi : iss ≤ 4294967295) (hgl : x.got.length ≤ 1000000000) :
  Calls Tryz.prog 52 #[pz g, .agg (sgL q (.slice A q.xs.length c)).toArray] w fun e w' => ∃ v, e = .returned v ∧ HeardC W B g ip mac port iss next x last vl q w vG v w' := by
 have hsn : q.sq.toNat = sq := by rw [hsq]; rfl
 obtain ⟨ans, hans⟩ : ∃ ans, clHear iss x q = ans := ⟨_, rfl⟩
 obtain ⟨z4, hz4⟩ : ∃ z, (bits .and .i64 q.fl 4 != 0) = z := ⟨_, rfl⟩
 obtain ⟨sy, hsy⟩ : ∃ z, (bits .and .i64 q.fl 18 == 18) = z := ⟨_, rfl⟩
 obtain ⟨ac, hac⟩ : ∃ z, (q.ak == ((spAdd iss 1 : Nat) : Int)) = z := ⟨_, rfl⟩
 obtain ⟨z2, hz2⟩ : ∃ z, (bits .and .i64 q.fl 2 != 0) = z := ⟨_, rfl⟩
 obtain ⟨nn, hnx⟩ : ∃ z, (sq == x.wants) = z := ⟨_, rfl⟩
 obtain ⟨z1, hz1⟩ : ∃ z, (bits .and .i64 q.fl 1 != 0) = z := ⟨_, rfl⟩
 have hans0 := hans
 unfold clHear at hans
 rw [hsn, hz4, hsy, hac, hz2, hnx, hz1] at hans
 go_enter Tryz.func52, Tryz.ntmps52
 refine Has.start 108 [(0, pz g), (1, .agg (sgL q (.slice A q.xs.length c)).toArray)] rfl rfl ⟨rfl, rfl, trivial⟩ ?_
 intro a0 H0
 have hgw := O.lt 0 rfl
 have hgB := O.ge 0 rfl
 refine rl ?_
 refine H0.bx (Own.start w) 1 (L := sgL q (.slice A q.xs.length c)) fun a w1 Oq H => nt ?_
 have R1 := R.next Oq.bel
 have hF3 : some w.heap.size ≠ vG.ownBlock := own_ne R.1 (.inr (Nat.le_refl _))
 have O1 := addq0 (O.call Oq.bel) (Nat.le_of_lt (Nat.lt_of_le_of_lt hgB hgw)) (Oq.lt 0 rfl) (by intro p hp; rw [List.mem_singleton.1 hp]; exact Nat.ne_of_lt hgw) (Oq.get 0 rfl)
 have hx1 := hx.next Oq.bel
 have S1 : Kp g vG w w1 := Kp.below Oq.bel
 clear O Oq R hx
 obtain ⟨g3, hg3⟩ : ∃ g3, w.heap.size = g3 := ⟨_, rfl⟩
 rw [hg3] at O1 H hgw hF3
 replace H := H.kp [0, 3]
 have drop1 : ∀ {x : Nat × List Value} {bs : List (Nat × List Value)} {w'}, Own W B (x :: bs) w' → Own W B bs w' := fun h => h.sub (List.sublist_cons_self _ _)
 refine wp_scope_one (k := 0) rfl (fun a w' => ans.2 = false ∧ Has a 108 [(3, pz g3)] ∧ ∃ vG', Own W B [(g, cliC ip mac port iss next ans.1.wants ans.1.up vG' vl)] w' ∧ CliR g ans.1.got last vG' vl w' ∧ Kp g vG w w' ∧ RelV w vG vG') (fun _ _ => 0) ?_ ?_
 rotate_left
 ·clear H H0 O1 R1 hx1
  rintro a w3 ⟨hf, H, vG', O3, R3, S3, V3⟩
  refine H.rg 1 fun a H => nt (wp_ret ?_)
  repeat (first | (with_reducible refine jump_ret ?_) | (with_reducible refine then_ret ?_))
  exact bodyPost_ret (results_tmp rfl _ _ _) H.df ⟨_, congrArg Ending.returned (H.at_ 4 _ rfl), ans.1, false, vG', by rw [hans0, ← hf], rfl, O3, R3, S3, V3⟩
 intro hpass
 refine H.rg 1 fun a H => ?_
 refine H.ld 0 (O1.li 0 4) fun a H => ?_
 refine H.bn 0 (and_bitC q.fl 18 _ _ _) fun a H => ?_
 refine H.bb 1 rfl rfl rfl rfl rfl rfl (eql_iB (bits .and .i64 q.fl 18) 18 sy hsy _ _ _) rfl fun a H => nt ?_
 replace H := H.kp [0, 3, 5]
 refine H.rg 1 fun a H => ?_
 refine H.ld 0 (load1_31 _ _ _ _ _ _ ((O1.get 0 rfl).get 6 _ rfl)) fun a H => ?_
 refine H.len gz rfl rfl rfl rfl Tryz.underlying31 fun a H => ?_
 refine H.ms 1 fun a H => nt ?_
 replace H := H.kp [0, 3, 5, 6]
 refine H.rg 3 fun a H => ?_
 refine H.ld 0 (O1.li 1 5) fun a H => ?_
 refine H.cq 1 (spanOf_yes x.wants 1 hw (by decide) w1) fun a H => ?_
 refine H.ex (r := spV x.wants 1) 0 fun a H => ?_
 refine H.ex (r := iz 0) 2 fun a H => nt ?_
 replace H := H.kp [0, 3, 5, 6, 7]
 refine H.rg 2 fun a H => ?_
 refine H.ld 0 (O1.li 0 2) fun a H => ?_
 rw [hsq] at H
 refine H.cq 1 (spanHas1 x.wants sq hw hsl w1) fun a H => ?_
 rw [hnx] at H
 refine H.ex (r := .bool nn) 0 fun a H => ?_
 refine H.ex (r := iz 0) 2 fun a H => nt (wp_seq (wp_block ?_))
 replace H := H.kp [0, 3, 5, 6, 9]
 refine H.rg 1 fun a H => ?_
 refine H.ld 0 (O1.li 0 4) fun a H => ?_
 refine H.bn 0 (and_bitC q.fl 4 _ _ _) fun a H => ?_
 refine H.bb 1 rfl rfl rfl rfl rfl rfl (neq_3 (bits .and .i64 q.fl 4) 0 z4 hz4 _ _ _) rfl fun a H => nt ?_
 cases z4 with
 | true =>
  rw [if_pos rfl] at hans
  subst hans
  refine H.condT rfl ?_
  refine H.rg 3 fun a H => ?_
  refine H.put1 (O1.get 1 rfl) 0 (fun u => store1_b _ _ _ u _) fun a w2 C2 g2' H => nt (wp_goto ?_)
  repeat (first | (with_reducible refine block_goto ?_) | (with_reducible refine then_goto ?_))
  exact jump_goto ⟨rfl, H.keep ⟨rfl, trivial⟩, vG, drop1 (O1.turn 1 rfl g2' C2), R1.box g2' (Nat.le_refl g), S1.box g2', .inl rfl⟩
 | false =>
 rw [if_neg (by decide)] at hans
 refine H.condF rfl ?_
 replace H := H.kp [0, 3, 5, 6, 9]
 refine H.dq (fun w' => Own W B [(g3, sgL q (.slice A q.xs.length c)), (g, cliC ip mac port iss next x.wants x.up vG vl)] w' ∧ CliR g x.got last vG vl w' ∧ RB w' w'.heap.size A q.xs ∧ Kp g vG w w') (fun _ _ h hb => ⟨h.1.call hb, h.2.1.next hb, h.2.2.1.next hb, h.2.2.2.next hb⟩) ⟨O1, R1, hx1, S1⟩ [0, 3, 5, 6, 9] rfl
  [ec 0 42 (.bool sy), ec 1 43 (.bool sy), ec 2 44 (gv sy (.pointer (some ⟨g3, 3, none⟩))), ec 3 45 (gv sy (iz q.ak)), ec 4 46 (gv sy (pz g)), ec 5 47 (gv sy (pz g)), ec 6 48 (gv sy (.pointer (some ⟨g, 3, none⟩))), ec 7 49 (gv sy (iz iss)), ec 8 50 (gv sy (iz (spAdd iss 1))), ec 9 51 (gv sy (.bool ac)), ec 10 52 (.bool (sy && ac)), ec 11 41 (.bool (sy && ac))] rfl
  ⟨jm, jm, (by cases sy; exact jo; exact jm), (by cases sy; exact jo; exact jl fun _ h => load1_i _ _ _ _ ((Own.get h.1 0 rfl).get 3 _ rfl)), (by cases sy; exact jo; exact jm), (by cases sy; exact jo; exact jm), (by cases sy; exact jo; exact jm), (by cases sy; exact jo; exact jl fun _ h => load1_i _ _ _ _ ((Own.get h.1 1 rfl).get 3 _ rfl)), (by cases sy; exact jo; exact jq fun w' _ => spanAdd iss 1 (by omega) (by decide) w'), (by cases sy; exact jo; exact jb fun _ => eql_iB q.ak ((spAdd iss 1 : Nat) : Int) ac hac _ _ _), (by (cases sy <;> exact jp)), jm, trivial⟩ trivial ?_
 clear O1 R1 hx1 S1 H
 rintro a w2 H _ ⟨O2, R2, hx2, S2⟩
 refine then_normal ?_
 have e : clHear iss x q = ans := hans0
 replace H := H.kp [0, 3, 6, 9, 41]
 cases hsa : sy && ac with
 | true =>
  rw [hsa] at hans H
  rw [if_pos rfl] at hans
  refine H.condT rfl ?_
  refine H.rg 4 fun a H => ?_
  refine H.ld 0 (O2.li 0 2) fun a H => ?_
  rw [hsq] at H
  refine H.cq 2 (spanAdd sq 1 (by omega) (by decide) w2) fun a H => ?_
  refine H.put1 (O2.get 1 rfl) 2 (fun u => store1_b _ _ _ u _) fun a w3 C3 g3' H => ?_
  have O3 := O2.turn 1 rfl g3' C3
  have R3 := R2.box g3' (Nat.le_refl g)
  refine H.put1 (O3.get 1 rfl) 2 (fun u => store1_i _ _ _ u _) fun a w4 C4 g4' H => ?_
  have O4 := O3.turn 1 rfl g4' C4
  have R4 := R3.box g4' (Nat.le_refl g)
  refine H.put1 (O4.get 1 rfl) 0 (fun u => store1_31 _ _ _ _ _ u _) fun a w5 C5 g5' H => nt ?_
  have O5 := O4.turn 1 rfl g5' C5
  have R5 := R4.box g5' (Nat.le_refl g)
  refine H.rg 1 fun a H => nt (wp_ret ?_)
  repeat (first | (with_reducible refine jump_ret ?_) | (with_reducible refine block_ret ?_) | (with_reducible refine then_ret ?_))
  refine bodyPost_ret (results_tmp rfl _ _ _) H.df ⟨_, congrArg Ending.returned (H.at_ 4 _ rfl), ⟨spAdd sq 1, true, []⟩, true, nilV, by rw [e, ← hans], rfl, drop1 O5, ⟨World.ownsRow_nil _ _ _ _, R5.2.1, fun k _ h => by cases h⟩, ((S2.box g3').box g4').box g5', .inr (.inl rfl)⟩
 | false =>
 rw [hsa] at hans H
 rw [if_neg (by decide)] at hans
 refine H.condF rfl ?_
 obtain ⟨up, hup⟩ : ∃ up, x.up = up := ⟨_, rfl⟩
 rw [hup] at hans
 have O2 : Own W B [(g3, sgL q (.slice A q.xs.length c)), (g, cliC ip mac port iss next x.wants up vG vl)] w2 := by rw [← hup]; exact O2
 replace H := H.kp [0, 3, 6, 9]
 refine H.tb (fun w' => Own W B [(g3, sgL q (.slice A q.xs.length c)), (g, cliC ip mac port iss next x.wants up vG vl)] w' ∧ CliR g x.got last vG vl w' ∧ RB w' w'.heap.size A q.xs ∧ Kp g vG w w') (fun _ _ h hb => ⟨h.1.call hb, h.2.1.next hb, h.2.2.1.next hb, h.2.2.2.next hb⟩) ⟨O2, R2, hx2, S2⟩
  [ec 0 66 (pz g), ec 1 67 (pz g), ec 2 68 (.pointer (some ⟨g, 6, none⟩)), ec 3 69 (.bool up), ec 4 70 (.bool (!up)), ec 5 71 (.bool (!up)), ec 6 72 (gv (!(!up)) (.pointer (some ⟨g3, 4, none⟩))), ec 7 73 (gv (!(!up)) (iz q.fl)), ec 8 74 (gv (!(!up)) (iz (bits .and .i64 q.fl 2))), ec 9 75 (gv (!(!up)) (.bool z2)), ec 10 76 (.bool ((!up) || z2)), ec 11 77 (.bool ((!up) || z2)), ec 12 78 (gv (!((!up) || z2)) (.bool nn)), ec 13 79 (gv (!((!up) || z2)) (.bool (!nn))), ec 14 80 (.bool (((!up) || z2) || (!nn))), ec 15 65 (.bool (((!up) || z2) || (!nn)))] rfl
  ⟨jm, jm, jm, jl fun _ h => load1_b _ _ _ _ ((Own.get h.1 1 rfl).get 6 _ rfl), ju (hq := run_not up), jm, (by cases up; exact jo; exact jm), (by cases up; exact jo; exact jl fun _ h => load1_i _ _ _ _ ((Own.get h.1 0 rfl).get 4 _ rfl)), (by cases up; exact jo; exact jb fun _ => and_bitC q.fl 2 _ _ _), (by cases up; exact jo; exact jb fun _ => neq_3 (bits .and .i64 q.fl 2) 0 z2 hz2 _ _ _), (by (cases up <;> exact jp)), jm, (by cases up; exact jo; cases z2; exact jm; exact jo), (by cases up; exact jo; cases z2; exact ju (hq := run_not nn); exact jo), (by cases up; exact jp; (cases z2 <;> exact jp)), jm, trivial⟩ ?_
 clear O2 R2 hx2 S2 H
 rintro a w2 H ⟨O2, R2, hx2, S2⟩
 refine then_normal (H.cond (t := (!up || z2) || !nn) rfl ?_)
 cases hno : (!up || z2) || !nn with
 | true =>
  rw [hno, if_pos rfl] at hans
  subst hans
  refine wp_goto ?_
  repeat (first | (with_reducible refine block_goto ?_) | (with_reducible refine then_goto ?_))
  exact jump_goto ⟨rfl, H.keep ⟨rfl, trivial⟩, vG, by rw [hup]; exact drop1 O2, R2, S2, .inl rfl⟩
 | false =>
 rw [hno, if_neg (by decide)] at hans
 refine skip_wp (block_normal (then_normal ?_))
 replace H := H.kp [0, 3, 6]
 obtain ⟨AG, cG, rfl, _, _⟩ := own_shape R2.1
 refine H.sg (fun w' => Own W B [(g3, sgL q (.slice A q.xs.length c)), (g, cliC ip mac port iss next x.wants up (.slice AG x.got.length cG) vl)] w' ∧ CliR g x.got last (.slice AG x.got.length cG) vl w' ∧ RB w' w'.heap.size A q.xs ∧ Kp g (.slice AG x.got.length cG) w w') ⟨O2.drew, R2.next (Below.drew (Below.refl _ _)), hx2.next (Below.drew (Below.refl _ _)), S2.next (Below.drew (Below.refl _ _))⟩ [0, 3, 6] [ec 0 81 (pz g), ec 1 82 (pz g), ec 2 83 (pz g), ec 3 84 (.pointer (some ⟨g, 7, none⟩)), ec 4 85 (.slice AG x.got.length cG), ec 5 86 (.pointer (some ⟨g3, 6, none⟩)), ec 6 87 (.slice A q.xs.length c)] rfl ?_
 refine St.appF (k := x.got.length) (m := q.xs.length) 7 info_u8 ⟨jm, jm, jm, jm, jl fun _ h => load1_31 _ _ _ _ _ _ ((h.1.get 1 rfl).get 7 _ rfl), jm, jl fun _ h => load1_31 _ _ _ _ _ _ ((h.1.get 0 rfl).get 6 _ rfl), trivial⟩ (fun _ h => ⟨h.2.1.1, h.2.2.1, Nat.succ_le_of_lt (h.1.lt 1 rfl)⟩) (bv_one q.xs) ⟨by unfold maxLen; omega, by omega⟩ ?_
 clear O2 R2 hx2 S2 H
 intro wv A' c' w' h hO hgr hfr
 have S5 : Kp g (.slice AG x.got.length cG) w w' := h.2.2.2.trans (Kp.grown hgr fun k e2 => .inr (.inl e2.symm))
 have hrel : RelV w (.slice AG x.got.length cG) (.slice A' (x.got.length + q.xs.length) c') := by
  rcases hfr with hf | hf
  ·exact .inl hf
  ·exact .inr (.inr ⟨_, hf, h.2.2.2.1⟩)
 rw [← List.map_append] at hO
 have hap : ∀ k, vl.ownBlock = some k → (Value.slice A' (x.got.length + q.xs.length) c').ownBlock ≠ some k := by
  intro k hk
  rcases hfr with hf | hf
  ·rw [hf]; exact h.2.1.2.2 k hk
  ·rw [hf]; intro e2; injection e2 with e2
   have := (h.2.1.2.1.lt k hk).2
   omega
 have hL : w'.ownsRow (g + 1) 5 1 vl last.length (last.map bv) := h.2.1.2.1.kept hgr (by
  rcases hv : vl.ownBlock with _ | k
  ·exact .inl rfl
  ·exact .inr fun e2 => h.2.1.2.2 k hv e2.symm)
 have O5 := h.1.row h.2.1.1 (Nat.le_succ_of_le hgB) hgr (by
  intro p hp
  simp only [List.mem_cons, List.not_mem_nil, or_false] at hp
  rcases hp with rfl | rfl
  ·exact hF3
  ·exact own_ne h.2.1.1 (.inl (Nat.lt_succ_self _)))
 refine nx (fun w' => Own W B [(g3, sgL q (.slice A q.xs.length c)), (g, cliC ip mac port iss next x.wants up (.slice AG x.got.length cG) vl)] w' ∧ (w'.ownsRow (g + 1) 5 1 (.slice A' (x.got.length + q.xs.length) c') (x.got.length + q.xs.length) ((x.got ++ q.xs).map bv)) ∧ w'.ownsRow (g + 1) 5 1 vl last.length (last.map bv) ∧ Kp g (.slice AG x.got.length cG) w w') [ec 8 89 (pz g), ec 9 90 (.pointer (some ⟨g, 7, none⟩))] [] ⟨O5, hO, hL, S5⟩ ?_
 clear h hO hgr hfr hL O5 S5
 refine St.sto 10 ⟨jm, jm, jm, trivial⟩ ?_
 rintro a wu H _ ⟨Ou, B6, L6, S6⟩
 obtain ⟨k1, k2⟩ := (Ou.get 1 rfl) 7 _ rfl
 refine ⟨_, run_store rfl (H.ev rfl) (H.ev rfl) (store1_31 g 7 _ _ _ _ _ k1 k2), nx0 (fun w' => Own W B [(g3, sgL q (.slice A q.xs.length c)), (g, cliC ip mac port iss next x.wants up (.slice A' (x.got.length + q.xs.length) c') vl)] w' ∧ (w'.ownsRow (g + 1) 5 1 (.slice A' (x.got.length + q.xs.length) c') (x.got.length + q.xs.length) ((x.got ++ q.xs).map bv)) ∧ w'.ownsRow (g + 1) 5 1 vl last.length (last.map bv) ∧ Kp g (.slice AG x.got.length cG) w w') [] [] ⟨Ou.turn 1 rfl (grown_setCell _ _ _ _) ((Ou.get 1 rfl).set 7 _ (Nat.lt_of_sub_pos (Nat.succ_pos 1))), B6.kept (grown_setCell _ _ _ _) (.inr (own_ne B6 (.inl (Nat.lt_succ_self g))).symm), L6.kept (grown_setCell _ _ _ _) (.inr (own_ne L6 (.inl (Nat.lt_succ_self g))).symm), S6.box (grown_setCell _ _ _ _)⟩ (St.fin trivial ?_)⟩
 clear Ou B6 L6 S6 k1 k2 H
 rintro a w3 H _ ⟨O3, B3, L3, S3⟩
 refine then_normal ?_
 replace H := H.kp [0, 3, 6]
 obtain ⟨n, hnn⟩ : ∃ n, q.xs.length + (if z1 = true then 1 else 0) = n := ⟨_, rfl⟩
 rw [hnn] at hans
 have hn2 : n ≤ 65537 := by rw [← hnn]; split <;> omega
 refine wp_seq_join (fun a w' => Has a 108 [(0, pz g), (6, iz n)] ∧ Own W B [(g3, sgL q (.slice A q.xs.length c)), (g, cliC ip mac port iss next x.wants up (.slice A' (x.got.length + q.xs.length) c') vl)] w' ∧ (w'.ownsRow (g + 1) 5 1 (.slice A' (x.got.length + q.xs.length) c') (x.got.length + q.xs.length) ((x.got ++ q.xs).map bv)) ∧ w'.ownsRow (g + 1) 5 1 vl last.length (last.map bv) ∧ Kp g (.slice AG x.got.length cG) w w') ?_ ?_
 ·refine H.rg 1 fun a H => ?_
  refine H.ld 0 (O3.li 0 4) fun a H => ?_
  refine H.bn 0 (and_bitC q.fl 1 _ _ _) fun a H => ?_
  refine H.bb 0 rfl rfl rfl rfl rfl rfl (neq_3 (bits .and .i64 q.fl 1) 0 z1 hz1 _ _ _) rfl fun a H => nt ?_
  cases z1 with
  | true =>
   rw [if_pos rfl] at hnn
   subst hnn
   refine H.condT rfl ?_
   refine H.rg 1 fun a H => ?_
   refine H.bn 1 (succ_i q.xs.length (by omega) _ _ _) fun a H => nt ?_
   exact ⟨H.keep ⟨rfl, rfl, trivial⟩, O3, B3, L3, S3⟩
  | false =>
   rw [if_neg (by decide)] at hnn
   subst hnn
   refine H.condF rfl (skip_wp (then_normal ?_))
   exact ⟨H.keep ⟨rfl, rfl, trivial⟩, O3, B3, L3, S3⟩
 clear O3 B3 L3 S3 H
 rintro a w4 ⟨H, O4, B4, L4, S4⟩
 refine H.rg 4 fun a H => ?_
 refine H.ld 1 (O4.li 1 5) fun a H => ?_
 refine H.cq 2 (spanAdd x.wants n (by omega) (by omega) w4) fun a H => ?_
 refine H.put1 (O4.get 1 rfl) 0 (fun u => store1_i _ _ _ u _) fun a w5 C5 g5' H => nt ?_
 have O5 := O4.turn 1 rfl g5' C5
 have S5 := S4.box g5'
 have B5 := B4.kept g5' (.inr (own_ne B4 (.inl (Nat.lt_succ_self g))).symm)
 have L5 := L4.kept g5' (.inr (own_ne L4 (.inl (Nat.lt_succ_self g))).symm)
 refine H.rg 1 fun a H => ?_
 refine H.bb 1 rfl rfl rfl rfl rfl rfl (gtr_i (n : Int) 0 (decide (0 < n)) (by rw [decide_eq_decide]; omega) _ _ _) rfl fun a H => nt (wp_ret ?_)
 repeat (first | (with_reducible refine jump_ret ?_) | (with_reducible refine block_ret ?_) | (with_reducible refine then_ret ?_))
 refine bodyPost_ret (results_tmp rfl _ _ _) H.df ⟨_, congrArg Ending.returned (H.at_ 4 _ rfl), ⟨spAdd x.wants n, up, x.got ++ q.xs⟩, decide (0 < n), .slice A' (x.got.length + q.xs.length) c', by rw [e, ← hans], rfl, drop1 O5, ⟨?_, L5, hap⟩, S5, hrel⟩
 show w5.ownsRow (g + 1) 5 1 _ (x.got ++ q.xs).length _
 rw [List.length_append]
 exact B5
end
section
open Go.RowKit
structure Lst where
 up : Bool
 nq : Nat
 ps : List (Nat × List UInt8)
 b : List UInt8
 rst : Bool
 fins : List Nat
end
section
open Go.RowKit
def FrsS (w : World) (S : Nat → Prop) (A : Option Addr) (l : List (List UInt8)) : Prop :=
 ∀ k b, l[k]? = some b → ∃ g o A' c', A = some ⟨g, o, none⟩ ∧ S g ∧ g < w.heap.size ∧ w.cell? ⟨g, o + k, none⟩ = some (.slice A' b.length c') ∧ b.length ≤ c' ∧ RBS w S A' b
theorem num2_lt4 (xs : List UInt8) (k : Nat) : num2 xs k 4 < 4294967296 := by
 have h1 := ofB_lt ((xs.drop k).take 4)
 have h2 : (256 : Nat) ^ ((xs.drop k).take 4).length ≤ 256 ^ 4 := Nat.pow_le_pow_right (by omega) (by rw [List.length_take]; omega)
 unfold num2
 omega
theorem segOut_ok {s d : Int} {xs : List UInt8} (h : (segOut s d xs).2 = 0) : (segOut s d xs).1 = sgParsed xs ∧ xs.length ≤ 1480 := by
 unfold segOut at h ⊢
 by_cases h1 : wordB s = false ∨ wordB d = false
 ·rw [if_pos h1] at h; cases h
 rw [if_neg h1] at h ⊢
 by_cases h2 : xs.length < 20
 ·rw [if_pos h2] at h; cases h
 rw [if_neg h2] at h ⊢
 by_cases h3 : sgN xs < 20
 ·rw [if_pos h3] at h; cases h
 rw [if_neg h3] at h ⊢
 by_cases h4 : xs.length < sgN xs
 ·rw [if_pos h4] at h; cases h
 rw [if_neg h4] at h ⊢
 by_cases h5 : 1480 < xs.length
 ·rw [if_pos h5] at h; cases h
 rw [if_neg h5] at h ⊢
 by_cases h6 : segSum s.toNat d.toNat xs ≠ 0
 ·rw [if_pos h6] at h; cases h
 rw [if_neg h6]
 exact ⟨rfl, Nat.le_of_not_lt h5⟩
theorem segIn_ok {b : List UInt8} {p : Pk} {q : Sg} (h : segIn b = some (p, q)) : q.sq = (q.sq.toNat : Int) ∧ q.sq.toNat ≤ 4294967295 ∧ q.xs.length ≤ 1480 := by
 unfold segIn at h
 by_cases h1 : (frOut b).2 ≠ 0 ∨ (frOut b).1.t ≠ 2048
 ·rw [if_pos h1] at h; cases h
 rw [if_neg h1] at h
 by_cases h2 : (parseOut (frOut b).1.xs).2 ≠ 0 ∨ (parseOut (frOut b).1.xs).1.p ≠ 6
 ·rw [if_pos h2] at h; cases h
 rw [if_neg h2] at h
 by_cases h3 : (segOut (parseOut (frOut b).1.xs).1.s (parseOut (frOut b).1.xs).1.d (parseOut (frOut b).1.xs).1.xs).2 ≠ 0
 ·rw [if_pos h3] at h; cases h
 rw [if_neg h3] at h
 injection h with h
 injection h with _ h
 obtain ⟨h4, h5⟩ := segOut_ok (Decidable.not_not.1 h3)
 rw [h4] at h
 subst h
 generalize (parseOut (frOut b).1.xs).1.xs = xs at h5
 have := num2_lt4 xs 4
 refine ⟨rfl, Nat.le_of_lt_succ this, ?_⟩
 show (xs.drop (sgN xs)).length ≤ _
 rw [List.length_drop]
 omega
theorem segInV_shape {W : World} {o : Option (Pk × Sg)} {v : Value} {w : World} (h : SegInV W o v w) : ∃ p q A0 n0 c0 A1 c1 z, v = .tuple #[.agg (pkL p (.slice A0 n0 c0)).toArray, .agg (sgL q (.slice A1 q.xs.length c1)).toArray, .bool z] ∧ Below W.heap.size W w ∧ (z = false → o = none) ∧ (z = true → o = some (p, q) ∧ w.ownsRow W.heap.size 5 1 (.slice A1 q.xs.length c1) q.xs.length (q.xs.map bv)) := by
 rcases o with _ | ⟨p, q⟩
 ·exact ⟨.zero, .zero, none, 0, 0, none, 0, false, h.1, h.2, fun _ => rfl, fun h => by cases h⟩
 ·obtain ⟨A0, n0, c0, A, c, rfl, h1, h2⟩ := h
  exact ⟨p, q, A0, n0, c0, A, c, true, rfl, h2, fun h => (by cases h), fun _ => ⟨rfl, h1⟩⟩
end
section
open Go.RowKit
theorem eql_k (u v : Int) (b : Bool) (h : (u == v) = b) (x y : Operand) (w : World) : (do eqGuard .eql 27 x y (iz u) (iz v); binOp .eql 27 (iz u) (iz v) : Sem Value).run Tryz.prog w = .ok (.bool b) w := by
 rw [← h]
 simp [go_sem]
theorem FrsS.kp {w w' : World} {S : Nat → Prop} {A : Option Addr} {l : List (List UInt8)} {g : Nat} {v : Value} (h : FrsS w S A l) (hS : ∀ k, S k → k ≠ g ∧ some k ≠ v.ownBlock) (hk : Kp g v w w') : FrsS w' S A l := by
 intro k b hb
 obtain ⟨g', o, A', c', h1, h2, h3, h4, h5, h6⟩ := h k b hb
 refine ⟨g', o, A', c', h1, h2, Nat.lt_of_lt_of_le h3 hk.1, (World.cell?_of_block (a := ⟨g', o + k, none⟩) (hk.2 g' h3 (hS g' h2).1 (hS g' h2).2)).trans h4, h5, fun hn => ?_⟩
 obtain ⟨ad, e, k1, k2, k3⟩ := h6 hn
 refine ⟨ad, e, k1, Nat.lt_of_lt_of_le k2 hk.1, fun j u hu => ?_⟩
 have hb : (ad.add j).block = ad.block := block_of_add ..
 exact (World.cell?_of_block (a := ad.add j) (by rw [hb]; exact hk.2 _ k2 (hS _ k1).1 (hS _ k1).2)).trans (k3 j u hu)
def toldCli (mac ip port : Nat) (b : List UInt8) : Option Sg :=
 match segIn b with
 | some (p, q) => if ((((((frOut b).2 == 0) && ((frOut b).1.d : Int) == (mac : Int)) && p.s == 167772161) && p.d == (ip : Int)) && q.sp == 1883) && q.dp == (port : Int) then some q else none
 | none => none
def clHears (mac ip port iss : Nat) : Cl → Bool → List (List UInt8) → Cl × Bool
 | x, t, [] => (x, t)
 | x, t, b :: l => match toldCli mac ip port b with
  | some q => clHears mac ip port iss (clHear iss x q).1 (t || (clHear iss x q).2) l
  | none => clHears mac ip port iss x t l
theorem drop_get {l : List (List UInt8)} {k : Nat} {b : List UInt8} (h : l[k]? = some b) : l.drop k = b :: l.drop (k + 1) := by
 obtain ⟨hk, e⟩ := List.getElem?_eq_some_iff.1 h
 rw [List.drop_eq_getElem_cons hk, e]
theorem clHear_ok {iss : Nat} {x : Cl} {q : Sg} (h : x.wants ≤ 4294967295) (hq : q.xs.length ≤ 1480) : (clHear iss x q).1.wants ≤ 4294967295 ∧ (clHear iss x q).1.got.length ≤ x.got.length + 1480 := by
 unfold clHear
 have h1 := spAdd_lt q.sq.toNat 1
 split
 ·exact ⟨h, Nat.le_add_right _ _⟩
 split
 ·exact ⟨by show spAdd q.sq.toNat 1 ≤ _; omega, by simp⟩
 split
 ·exact ⟨h, Nat.le_add_right _ _⟩
 ·refine ⟨Nat.le_of_lt_succ (spAdd_lt _ _), ?_⟩
  show (x.got ++ q.xs).length ≤ _
  rw [List.length_append]
  omega
structure ChJ (W : World) (B g ip mac port iss next : Nat) (x0 : Cl) (last : List UInt8) (vl : Value) (l : List (List UInt8)) (w0 : World) (vG0 : Value) (k : Nat) (t : Bool) (x : Cl) (vG : Value) (w : World) : Prop where
 h : clHears mac ip port iss x0 false l = clHears mac ip port iss x t (l.drop k)
 wn : x.wants ≤ 4294967295
 gl : x.got.length ≤ x0.got.length + 1480 * k
 O : Own W B [(g, cliC ip mac port iss next x.wants x.up vG vl)] w
 R : CliR g x.got last vG vl w
 K : Kp g vG0 w0 w
 V : RelV w0 vG0 vG
theorem ChJ.next {W : World} {B g ip mac port iss next : Nat} {x0 x : Cl} {last : List UInt8} {vl vG0 vG : Value} {l : List (List UInt8)} {w0 w w' : World} {k : Nat} {t : Bool} (J : ChJ W B g ip mac port iss next x0 last vl l w0 vG0 k t x vG w) (hb : Below w.heap.size w w') : ChJ W B g ip mac port iss next x0 last vl l w0 vG0 k t x vG w' :=
 ⟨J.h, J.wn, J.gl, J.O.call hb, J.R.next hb, J.K.next hb, J.V⟩
theorem cliHears (W : World) (B g ip mac port iss next : Nat) (x0 : Cl) (last : List UInt8) (vG0 vl : Value) (l : List (List UInt8)) (AL : Option Addr) (cL : Nat) (w : World) (O : Own W B [(g, cliC ip mac port iss next x0.wants x0.up vG0 vl)] w) (R : CliR g x0.got last vG0 vl w)
  (hL : FrsS w (fun k => k ≠ g ∧ some k ≠ vG0.ownBlock) AL l) (hl : l.length ≤ 1000) (hlb : ∀ b ∈ l, b.length ≤ 140737488351232) (hw : x0.wants ≤ 4294967295) (hgl : x0.got.length ≤ 10000000) (hip : ip < 4294967296) (hm : mac < 281474976710656) (hp : port < 65536) (hi : iss < 4294967296) (hne : next < 4294967296) :
  Calls Tryz.prog 12 #[pz g, .slice AL l.length cL] w fun e w' => ∃ v, e = .returned v ∧ ∃ x t vG, clHears mac ip port iss x0 false l = (x, t) ∧ x.wants ≤ 4294967295 ∧ x.got.length ≤ x0.got.length + 1480 * l.length ∧ Own W B [(g, cliC ip mac port iss next x.wants x.up vG vl)] w' ∧ CliR g x.got last vG vl w' ∧ Kp g vG0 w w' ∧ RelV w vG0 vG ∧
   (t = false → v = nilV) ∧ (t = true → ∃ gr A n c, v = .slice (some ⟨gr, 0, none⟩) 1 1 ∧ w.heap.size ≤ gr ∧ gr < w'.heap.size ∧ w'.cell? ⟨gr, 0, none⟩ = some (.slice A n c) ∧ RowIs w.heap.size (wire 2199023255553 mac ip 167772161 ⟨port, 1883, next, x.wants, 16, 65535, []⟩) (.slice A n c) w') := by
 go_enter Tryz.func12, Tryz.ntmps12
 refine Has.start 91 [(0, pz g), (1, .slice AL l.length cL)] rfl rfl ⟨rfl, rfl, trivial⟩ ?_
 intro a0 H0
 refine H0.rg 1 fun a H => nt ?_
 refine H.rg 1 fun a H => nt ?_
 refine H.rg 1 fun a H => ?_
 refine H.len gz rfl rfl rfl rfl Tryz.underlying37 fun a H => ?_
 refine H.ms 1 fun a H => nt ?_
 refine wp_block ?_
 refine wp_loop_up l.length (fun k a w' => ∃ t x vG, Has a 91 [(0, pz g), (5, .bool t), (13, .slice AL l.length cL), (14, iz l.length), (15, iz k)] ∧ ChJ W B g ip mac port iss next x0 last vl l w vG0 k t x vG w') ⟨false, x0, vG0, H.keep ⟨rfl, rfl, rfl, rfl, rfl, trivial⟩, ⟨rfl, hw, Nat.le_add_right _ _, O, R, Kp.refl _ _ _, .inl rfl⟩⟩ ?_
 clear H H0 O R
 rintro k a w2 hk ⟨t, x, vG, H, J⟩
 refine H.rg 0 fun a H => ?_
 by_cases hlt : k < l.length
 rotate_left
 ·refine H.bb 0 rfl rfl rfl rfl rfl rfl (lss_i _ _ false (by rw [decide_eq_false_iff_not]; omega) _ _ _) rfl fun a H => nt (wp_seq (H.condF rfl ?_))
  refine wp_exit ?_
  repeat (with_reducible refine then_exit ?_)
  refine block_leave (then_normal ?_)
  have : k = l.length := by omega
  subst this
  have hfin : clHears mac ip port iss x0 false l = (x, t) := by
   rw [J.h, List.drop_length]
   rfl
  have hss := J.O.lt 0 rfl
  refine H.rg 1 fun a H => ?_
  refine H.un gz rfl rfl rfl rfl (run_not t _) fun a H => nt ?_
  cases t with
  | false =>
   refine H.condT rfl ?_
   refine H.rg 1 fun a H => nt (wp_ret ?_)
   repeat (first | (with_reducible refine block_ret ?_) | (with_reducible refine then_ret ?_))
   exact bodyPost_ret (results_tmp rfl _ _ _) H.df ⟨_, congrArg Ending.returned (H.at_ 4 _ rfl), x, false, vG, hfin, J.wn, J.gl, J.O, J.R, J.K, J.V, fun _ => rfl, fun h => by cases h⟩
  | true =>
   refine H.condF rfl (skip_wp (then_normal ?_))
   replace H := H.kp [0]
   have hqq : Sg.ok ⟨port, 1883, (next : Nat), ((x.wants : Nat) : Int), ((16 : Nat) : Int), 65535, []⟩ = true := sg_okN port 1883 next x.wants 16 65535 [] (by omega) (by decide) (by omega) J.wn (by decide) (by decide) (by decide)
   refine H.sg (fun w' => ChJ W B g ip mac port iss next x0 last vl l w vG0 l.length true x vG w') (J.next (Below.drew (Below.refl _ _))) [0] [ec 0 80 (pz g), ec 1 81 (pz g), ec 2 82 (pz g), ec 3 83 (.pointer (some ⟨g, 4, none⟩)), ec 4 84 (iz next), ec 5 85 (pz g), ec 6 86 (pz g), ec 7 87 (.pointer (some ⟨g, 5, none⟩)), ec 8 88 (iz x.wants)] rfl ?_
   have KK : ∀ wy, ChJ W B g ip mac port iss next x0 last vl l w vG0 l.length true x vG wy → _ := fun wy h => cliSegment g ip mac port iss next x.wants x.up vG vl next x.wants 16 [] 0 rfl none 0 wy (h.O.get 0 rfl) (h.O.lt 0 rfl) hip hm hqq RB.nil
   refine St.call 9 ⟨jm, jm, jm, jm, jl fun _ h => load1_i _ _ _ _ ((h.O.get 0 rfl).get 4 _ rfl), jm, jm, jm, jl fun _ h => load1_i _ _ _ _ ((h.O.get 0 rfl).get 5 _ rfl), trivial⟩ KK ?_
   rintro wx v wz hh ⟨hrow, hbz⟩
   obtain ⟨An, cn, rfl, hO⟩ := hrow
   generalize hln : (wire 2199023255553 mac ip 167772161 ⟨port, 1883, next, x.wants, 16, 65535, []⟩) = ww at hO ⊢
   obtain ⟨nn, hnn⟩ : ∃ nn, ww.length = nn := ⟨_, rfl⟩
   rw [hnn] at hO ⊢
   refine nx (fun w' => ChJ W B g ip mac port iss next x0 last vl l w vG0 l.length true x vG w' ∧ RowIs w.heap.size ww (.slice An nn cn) w' ∧ w.heap.size ≤ w'.heap.size) [] [] ⟨hh.next hbz, RowIs.of hnn (own_base hO hh.K.1), Nat.le_trans hh.K.1 hbz.size⟩ ?_
   refine St.val 10 trivial ?_
   clear hO hbz hh
   rintro a wu H _ ⟨J2, hr2, hs2⟩
   have hb2 : Below wu.heap.size wu (wu.alloc (.cells #[.slice An nn cn] 31)) := balloc _ _
   refine ⟨.slice (some ⟨wu.heap.size, 0, none⟩) 1 1, wu.alloc (.cells #[.slice An nn cn] 31), run_any H (by intro cs b h; cases h) (by kernel_rfl) (by kernel_rfl), ?_⟩
   have hC2 := Cells.of_heap (heap_alloc_new wu (.cells #[.slice An nn cn] 31))
   have hl2 := lt_alloc wu (.cells #[.slice An nn cn] 31)
   generalize wu.alloc (.cells #[.slice An nn cn] 31) = wv at hb2 hC2 hl2 ⊢
   obtain ⟨gr, hgr⟩ : ∃ gr, wu.heap.size = gr := ⟨_, rfl⟩
   rw [hgr] at hC2 hl2 ⊢
   refine nx (fun w' => ChJ W B g ip mac port iss next x0 last vl l w vG0 l.length true x vG w' ∧ RowIs w.heap.size ww (.slice An nn cn) w' ∧ gr < w'.heap.size ∧ w'.cell? ⟨gr, 0, none⟩ = some (.slice An nn cn)) [ec 11 4 (.slice (some ⟨gr, 0, none⟩) 1 1)] [] ⟨J2.next hb2, hr2.below hb2, hl2, (hC2 0 _ rfl).1⟩ (St.fin ⟨jm, trivial⟩ ?_)
   rintro a w9 H _ ⟨J9, hr9, hl9, hc9⟩
   refine then_normal (wp_ret ?_)
   repeat (first | (with_reducible refine block_ret ?_) | (with_reducible refine then_ret ?_))
   exact bodyPost_ret (results_tmp rfl _ _ _) H.df ⟨_, congrArg Ending.returned (H.at_ 4 _ rfl), x, true, vG, hfin, J9.wn, J9.gl, J9.O, J9.R, J9.K, J9.V, fun h => (by cases h), fun _ => ⟨gr, An, nn, cn, rfl, hgr ▸ hs2, hl9, hc9, hln ▸ hr9⟩⟩
 refine H.bb 0 rfl rfl rfl rfl rfl rfl (lss_i _ _ true (by rw [decide_eq_true_iff]; omega) _ _ _) rfl fun a H => nt (wp_seq (H.condT rfl ?_))
 refine skip_wp (then_normal (wp_seq (wp_block ?_)))
 obtain ⟨b, hb⟩ : ∃ b, l[k]? = some b := ⟨_, List.getElem?_eq_getElem hlt⟩
 have hb8 := hlb b (List.mem_of_getElem? hb)
 have hL2 := hL.kp (fun _ h => h) J.K
 obtain ⟨gl, ol, A', c', rfl, _, hgl2, hck, hbc, hrb⟩ := hL2 k b hb
 have hdr := drop_get hb
 refine H.rg 0 fun a H => ?_
 refine H.index gz rfl rfl rfl rfl rfl (index_1 37 Tryz.underlying37 (fun _ => by kernel_rfl) gl ol l.length cL k hlt w2) fun a H => ?_
 refine H.ld 1 (load1_31 _ _ _ _ _ _ hck) fun a H => nt ?_
 replace H := H.kp [0, 5, 13, 14, 15, 7]
 refine H.rg 1 fun a H => ?_
 refine H.cl (ethParse b b.length rfl A' c' hbc w2 hrb.rb hb8) ?_
 rintro a _ w3 ⟨A2, c2', rfl, _, hb3⟩ H
 refine H.ms 1 fun a H => ?_
 refine H.ex (r := .agg ([iz ((frOut b).1.d : Int), iz ((frOut b).1.s : Int), iz ((frOut b).1.t : Int), .slice A2 (frOut b).1.xs.length c2'] : List Value).toArray) 0 fun a H => ?_
 refine H.ex (r := iz (frOut b).2) 0 fun a H => ?_
 refine H.nk (Own.start w3) 1 (L := [iz ((frOut b).1.d : Int), iz ((frOut b).1.s : Int), iz ((frOut b).1.t : Int), .slice A2 (frOut b).1.xs.length c2']) rfl zero_frame size_frame (fun a w4 hb4 O4 _ H => nt ?_)
 have J4 := (J.next hb3).next hb4
 have hr4 := (hrb.rb.next hb3).next hb4
 obtain ⟨g8, hg8⟩ : ∃ g8, w3.heap.size = g8 := ⟨_, rfl⟩
 rw [hg8] at O4 H
 replace H := H.kp [0, 5, 13, 14, 15, 7, 8, 9]
 refine H.rg 1 fun a H => ?_
 refine H.cl (traceSegment b A' c' hbc w4 hr4 hb8) ?_
 intro a v w5 hv H
 obtain ⟨p, q, A0, n0, c0', A1, c1, zs, rfl, hb5, hz, hsm⟩ := segInV_shape hv
 refine H.ms 1 fun a H => ?_
 refine H.ex (r := .agg (pkL p (.slice A0 n0 c0')).toArray) 0 fun a H => ?_
 refine H.ex (r := .agg (sgL q (.slice A1 q.xs.length c1)).toArray) 0 fun a H => ?_
 refine H.ex (r := .bool zs) 0 fun a H => ?_
 refine H.al (Own.start w5) 0 zero_pk27 fun a w6 O6 H => ?_
 obtain ⟨g10, hg10⟩ : ∃ g10, w5.heap.size = g10 := ⟨_, rfl⟩
 rw [hg10] at O6 H
 refine H.al O6 0 zero_sg27 fun a w7 O7 H => ?_
 generalize w6.heap.size = g11 at O7 H
 refine H.st O7 1 0 (L := pkL p (.slice A0 n0 c0')) (fun a w8 O8 H => ?_) size_pk27
 refine H.st O8 0 1 (L := sgL q (.slice A1 q.xs.length c1)) (fun a w9 O9 H => nt ?_) size_sg27
 have hb9 : Below w5.heap.size w5 w9 := hg10 ▸ O9.bel
 have J9 := (J4.next hb5).next hb9
 have P9 := (O4.call hb5).call hb9
 clear O6 O7 O8 J4 J hL2 hr4 hrb
 replace H := H.kp [0, 5, 13, 14, 15, 8, 9, 10, 11, 12]
 obtain ⟨c0, hc0⟩ : ∃ z, ((frOut b).2 == 0) = z := ⟨_, rfl⟩
 obtain ⟨c1z, hc1⟩ : ∃ z, (((frOut b).1.d : Int) == (mac : Int)) = z := ⟨_, rfl⟩
 obtain ⟨c2, hc2⟩ : ∃ z, (p.s == 167772161) = z := ⟨_, rfl⟩
 obtain ⟨c3, hc3⟩ : ∃ z, (p.d == (ip : Int)) = z := ⟨_, rfl⟩
 obtain ⟨c4, hc4⟩ : ∃ z, (q.sp == 1883) = z := ⟨_, rfl⟩
 obtain ⟨c5, hc5⟩ : ∃ z, (q.dp == (port : Int)) = z := ⟨_, rfl⟩
 cases hG : (((((c0 && zs) && c1z) && c2) && c3) && c4) && c5 with
 | false =>
  have hto : toldCli mac ip port b = none := by
   unfold toldCli
   cases zs with
   | false => rw [hz rfl]
   | true =>
    rw [(hsm rfl).1]
    show (if (((((((frOut b).2 == 0) && ((frOut b).1.d : Int) == (mac : Int)) && p.s == 167772161) && p.d == (ip : Int)) && q.sp == 1883) && q.dp == (port : Int)) = true then some q else none) = none
    rw [hc0, hc1, hc2, hc3, hc4, hc5, if_neg]
    intro h
    rw [Bool.and_true] at hG
    rw [hG] at h
    cases h
  refine H.dq (fun w' => Own w5 g10 [(g11, sgL q (.slice A1 q.xs.length c1)), (g10, pkL p (.slice A0 n0 c0'))] w' ∧ Own w3 g8 [(g8, [iz ((frOut b).1.d : Int), iz ((frOut b).1.s : Int), iz ((frOut b).1.t : Int), .slice A2 (frOut b).1.xs.length c2'])] w' ∧ ChJ W B g ip mac port iss next x0 last vl l w vG0 k t x vG w' ∧ True) (fun _ _ h hb => ⟨h.1.call hb, h.2.1.call hb, h.2.2.1.next hb, trivial⟩) ⟨O9, P9, J9, trivial⟩ [0, 5, 13, 14, 15, 8, 9, 10, 11, 12] rfl
   [ec 0 30 (iz (frOut b).2), ec 1 31 (.bool c0), ec 2 32 (.bool c0), ec 3 33 (gv c0 (.bool zs)), ec 4 34 (.bool (c0 && zs)), ec 5 35 (.bool (c0 && zs)), ec 6 36 (gv (c0 && zs) (pz g8)), ec 7 37 (gv (c0 && zs) (iz ((frOut b).1.d : Int))), ec 8 38 (gv (c0 && zs) (pz g)), ec 9 39 (gv (c0 && zs) (pz g)), ec 10 40 (gv (c0 && zs) (.pointer (some ⟨g, 1, none⟩))), ec 11 41 (gv (c0 && zs) (iz mac)), ec 12 42 (gv (c0 && zs) (.bool c1z)), ec 13 43 (.bool ((c0 && zs) && c1z)), ec 14 44 (.bool ((c0 && zs) && c1z)), ec 15 45 (gv ((c0 && zs) && c1z) (pz g10)), ec 16 46 (gv ((c0 && zs) && c1z) (iz p.s)), ec 17 47 (gv ((c0 && zs) && c1z) (.bool c2)), ec 18 48 (.bool (((c0 && zs) && c1z) && c2)), ec 19 49 (.bool (((c0 && zs) && c1z) && c2)), ec 20 50 (gv (((c0 && zs) && c1z) && c2) (.pointer (some ⟨g10, 1, none⟩))), ec 21 51 (gv (((c0 && zs) && c1z) && c2) (iz p.d)), ec 22 52 (gv (((c0 && zs) && c1z) && c2) (pz g)), ec 23 53 (gv (((c0 && zs) && c1z) && c2) (pz g)), ec 24 54 (gv (((c0 && zs) && c1z) && c2) (pz g)), ec 25 55 (gv (((c0 && zs) && c1z) && c2) (iz ip)), ec 26 56 (gv (((c0 && zs) && c1z) && c2) (.bool c3)), ec 27 57 (.bool ((((c0 && zs) && c1z) && c2) && c3)), ec 28 58 (.bool ((((c0 && zs) && c1z) && c2) && c3)), ec 29 59 (gv ((((c0 && zs) && c1z) && c2) && c3) (pz g11)), ec 30 60 (gv ((((c0 && zs) && c1z) && c2) && c3) (iz q.sp)), ec 31 61 (gv ((((c0 && zs) && c1z) && c2) && c3) (.bool c4)), ec 32 62 (.bool (((((c0 && zs) && c1z) && c2) && c3) && c4)), ec 33 63 (.bool (((((c0 && zs) && c1z) && c2) && c3) && c4)), ec 34 64 (gv (((((c0 && zs) && c1z) && c2) && c3) && c4) (.pointer (some ⟨g11, 1, none⟩))), ec 35 65 (gv (((((c0 && zs) && c1z) && c2) && c3) && c4) (iz q.dp)), ec 36 66 (gv (((((c0 && zs) && c1z) && c2) && c3) && c4) (pz g)), ec 37 67 (gv (((((c0 && zs) && c1z) && c2) && c3) && c4) (pz g)), ec 38 68 (gv (((((c0 && zs) && c1z) && c2) && c3) && c4) (.pointer (some ⟨g, 2, none⟩))), ec 39 69 (gv (((((c0 && zs) && c1z) && c2) && c3) && c4) (iz port)), ec 40 70 (gv (((((c0 && zs) && c1z) && c2) && c3) && c4) (.bool c5)), ec 41 71 (.bool ((((((c0 && zs) && c1z) && c2) && c3) && c4) && c5)), ec 42 72 (.bool ((((((c0 && zs) && c1z) && c2) && c3) && c4) && c5)), ec 43 73 (gv ((((((c0 && zs) && c1z) && c2) && c3) && c4) && c5) (pz g)), ec 44 74 (gv ((((((c0 && zs) && c1z) && c2) && c3) && c4) && c5) ((.agg (sgL q (.slice A1 q.xs.length c1)).toArray))), ec 45 75 (gv ((((((c0 && zs) && c1z) && c2) && c3) && c4) && c5) undef), ec 46 76 (.bool ((((((c0 && zs) && c1z) && c2) && c3) && c4) && c5))] rfl
   ⟨jm, jb fun _ => eql_k (frOut b).2 0 c0 hc0 _ _ _, jm, (by cases c0; exact jo; exact jm), (by (cases c0 <;> exact jp)), jm, (by cases c0; exact jo; cases zs; exact jo; exact jm), (by cases c0; exact jo; cases zs; exact jo; exact jl fun _ h => load1_i _ _ _ _ ((Own.get h.2.1 0 rfl).get 0 _ rfl)), (by cases c0; exact jo; cases zs; exact jo; exact jm), (by cases c0; exact jo; cases zs; exact jo; exact jm), (by cases c0; exact jo; cases zs; exact jo; exact jm), (by cases c0; exact jo; cases zs; exact jo; exact jl fun _ h => load1_i _ _ _ _ ((h.2.2.1.O.get 0 rfl).get 1 _ rfl)), (by cases c0; exact jo; cases zs; exact jo; exact jb fun _ => eql_iB ((frOut b).1.d : Int) (mac : Int) c1z hc1 _ _ _), (by cases c0; exact jp; (cases zs <;> exact jp)), jm, (by cases c0; exact jo; cases zs; exact jo; cases c1z; exact jo; exact jm), (by cases c0; exact jo; cases zs; exact jo; cases c1z; exact jo; exact jl fun _ h => load1_i _ _ _ _ ((Own.get h.1 1 rfl).get 0 _ rfl)), (by cases c0; exact jo; cases zs; exact jo; cases c1z; exact jo; exact jb fun _ => eql_iB p.s 167772161 c2 hc2 _ _ _), (by cases c0; exact jp; cases zs; exact jp; (cases c1z <;> exact jp)), jm, (by cases c0; exact jo; cases zs; exact jo; cases c1z; exact jo; cases c2; exact jo; exact jm), (by cases c0; exact jo; cases zs; exact jo; cases c1z; exact jo; cases c2; exact jo; exact jl fun _ h => load1_i _ _ _ _ ((Own.get h.1 1 rfl).get 1 _ rfl)), (by cases c0; exact jo; cases zs; exact jo; cases c1z; exact jo; cases c2; exact jo; exact jm), (by cases c0; exact jo; cases zs; exact jo; cases c1z; exact jo; cases c2; exact jo; exact jm), (by cases c0; exact jo; cases zs; exact jo; cases c1z; exact jo; cases c2; exact jo; exact jm), (by cases c0; exact jo; cases zs; exact jo; cases c1z; exact jo; cases c2; exact jo; exact jl fun _ h => load1_i _ _ _ _ ((h.2.2.1.O.get 0 rfl).get 0 _ rfl)), (by cases c0; exact jo; cases zs; exact jo; cases c1z; exact jo; cases c2; exact jo; exact jb fun _ => eql_iB p.d (ip : Int) c3 hc3 _ _ _), (by cases c0; exact jp; cases zs; exact jp; cases c1z; exact jp; (cases c2 <;> exact jp)), jm, (by cases c0; exact jo; cases zs; exact jo; cases c1z; exact jo; cases c2; exact jo; cases c3; exact jo; exact jm), (by cases c0; exact jo; cases zs; exact jo; cases c1z; exact jo; cases c2; exact jo; cases c3; exact jo; exact jl fun _ h => load1_i _ _ _ _ ((Own.get h.1 0 rfl).get 0 _ rfl)), (by cases c0; exact jo; cases zs; exact jo; cases c1z; exact jo; cases c2; exact jo; cases c3; exact jo; exact jb fun _ => eql_iB q.sp 1883 c4 hc4 _ _ _), (by cases c0; exact jp; cases zs; exact jp; cases c1z; exact jp; cases c2; exact jp; (cases c3 <;> exact jp)), jm, (by cases c0; exact jo; cases zs; exact jo; cases c1z; exact jo; cases c2; exact jo; cases c3; exact jo; cases c4; exact jo; exact jm), (by cases c0; exact jo; cases zs; exact jo; cases c1z; exact jo; cases c2; exact jo; cases c3; exact jo; cases c4; exact jo; exact jl fun _ h => load1_i _ _ _ _ ((Own.get h.1 0 rfl).get 1 _ rfl)), (by cases c0; exact jo; cases zs; exact jo; cases c1z; exact jo; cases c2; exact jo; cases c3; exact jo; cases c4; exact jo; exact jm), (by cases c0; exact jo; cases zs; exact jo; cases c1z; exact jo; cases c2; exact jo; cases c3; exact jo; cases c4; exact jo; exact jm), (by cases c0; exact jo; cases zs; exact jo; cases c1z; exact jo; cases c2; exact jo; cases c3; exact jo; cases c4; exact jo; exact jm), (by cases c0; exact jo; cases zs; exact jo; cases c1z; exact jo; cases c2; exact jo; cases c3; exact jo; cases c4; exact jo; exact jl fun _ h => load1_i _ _ _ _ ((h.2.2.1.O.get 0 rfl).get 2 _ rfl)), (by cases c0; exact jo; cases zs; exact jo; cases c1z; exact jo; cases c2; exact jo; cases c3; exact jo; cases c4; exact jo; exact jb fun _ => eql_iB q.dp (port : Int) c5 hc5 _ _ _), (by cases c0; exact jp; cases zs; exact jp; cases c1z; exact jp; cases c2; exact jp; cases c3; exact jp; (cases c4 <;> exact jp)), jm, (by cases c0; exact jo; cases zs; exact jo; cases c1z; exact jo; cases c2; exact jo; cases c3; exact jo; cases c4; exact jo; cases c5; exact jo; exact jm), (by cases c0; exact jo; cases zs; exact jo; cases c1z; exact jo; cases c2; exact jo; cases c3; exact jo; cases c4; exact jo; cases c5; exact jo; exact jl fun _ h => loadT (h.1.get 0 rfl) Tryz.underlying36 rfl size_sg27 rfl), (by cases c0; exact jo; cases zs; exact jo; cases c1z; exact jo; cases c2; exact jo; cases c3; exact jo; cases c4; exact jo; cases c5; exact jo; exact absurd hG (by decide)), (by cases c0; exact jp; cases zs; exact jp; cases c1z; exact jp; cases c2; exact jp; cases c3; exact jp; cases c4; exact jp; cases c5; exact jp; exact absurd hG (by decide)), trivial⟩ trivial ?_
  intro a w10 H _ ⟨_, _, J10, _⟩
  refine then_normal (H.cond (t := (((((c0 && zs) && c1z) && c2) && c3) && c4) && c5) rfl ?_)
  rw [hG]
  refine skip_wp (block_normal (then_normal ?_))
  refine H.rg 0 fun a H => ?_
  refine H.bn 1 (succ_i k (by omega) _ _ _) fun a H => nt ?_
  exact ⟨hlt, t, x, vG, H.keep ⟨rfl, rfl, rfl, rfl, rfl, trivial⟩, ⟨by rw [J10.h, hdr, clHears, hto], J10.wn, Nat.le_trans J10.gl (by omega), J10.O, J10.R, J10.K, J10.V⟩⟩
 | true =>
  simp only [Bool.and_eq_true] at hG
  obtain ⟨⟨⟨⟨⟨⟨e0, ez⟩, e1⟩, e2⟩, e3⟩, e4⟩, e5⟩ := hG
  subst e0 ez e1 e2 e3 e4 e5
  obtain ⟨hs, hrow⟩ := hsm rfl
  obtain ⟨hsq, hsl, hql⟩ := segIn_ok hs
  have hto : toldCli mac ip port b = some q := by
   unfold toldCli
   rw [hs]
   show (if (((((((frOut b).2 == 0) && ((frOut b).1.d : Int) == (mac : Int)) && p.s == 167772161) && p.d == (ip : Int)) && q.sp == 1883) && q.dp == (port : Int)) = true then some q else none) = some q
   rw [hc0, hc1, hc2, hc3, hc4, hc5]
   rfl
  have hd9 := (rb_of_own rfl hrow hb5.size).next hb9
  refine H.sg (fun w' => Own w5 g10 [(g11, sgL q (.slice A1 q.xs.length c1)), (g10, pkL p (.slice A0 n0 c0'))] w' ∧ Own w3 g8 [(g8, [iz ((frOut b).1.d : Int), iz ((frOut b).1.s : Int), iz ((frOut b).1.t : Int), .slice A2 (frOut b).1.xs.length c2'])] w' ∧ ChJ W B g ip mac port iss next x0 last vl l w vG0 k t x vG w' ∧ RB w' w'.heap.size A1 q.xs) ⟨O9.drew, P9.drew, J9.next (Below.drew (Below.refl _ _)), hd9.next (Below.drew (Below.refl _ _))⟩ [0, 5, 13, 14, 15, 8, 9, 10, 11, 12]
   [ec 0 30 (iz (frOut b).2), ec 1 31 (.bool true), ec 2 32 (.bool true), ec 3 33 (.bool true), ec 4 34 (.bool true), ec 5 35 (.bool true), ec 6 36 (pz g8), ec 7 37 (iz ((frOut b).1.d : Int)), ec 8 38 (pz g), ec 9 39 (pz g), ec 10 40 (.pointer (some ⟨g, 1, none⟩)), ec 11 41 (iz mac), ec 12 42 (.bool true), ec 13 43 (.bool true), ec 14 44 (.bool true), ec 15 45 (pz g10), ec 16 46 (iz p.s), ec 17 47 (.bool true), ec 18 48 (.bool true), ec 19 49 (.bool true), ec 20 50 (.pointer (some ⟨g10, 1, none⟩)), ec 21 51 (iz p.d), ec 22 52 (pz g), ec 23 53 (pz g), ec 24 54 (pz g), ec 25 55 (iz ip), ec 26 56 (.bool true), ec 27 57 (.bool true), ec 28 58 (.bool true), ec 29 59 (pz g11), ec 30 60 (iz q.sp), ec 31 61 (.bool true), ec 32 62 (.bool true), ec 33 63 (.bool true), ec 34 64 (.pointer (some ⟨g11, 1, none⟩)), ec 35 65 (iz q.dp), ec 36 66 (pz g), ec 37 67 (pz g), ec 38 68 (.pointer (some ⟨g, 2, none⟩)), ec 39 69 (iz port), ec 40 70 (.bool true), ec 41 71 (.bool true), ec 42 72 (.bool true), ec 43 73 (pz g), ec 44 74 ((.agg (sgL q (.slice A1 q.xs.length c1)).toArray))] rfl ?_
  have hw5 := J9.wn
  have hg5 := J9.gl
  have KK : ∀ wy, (Own w5 g10 [(g11, sgL q (.slice A1 q.xs.length c1)), (g10, pkL p (.slice A0 n0 c0'))] wy ∧ Own w3 g8 [(g8, [iz ((frOut b).1.d : Int), iz ((frOut b).1.s : Int), iz ((frOut b).1.t : Int), .slice A2 (frOut b).1.xs.length c2'])] wy ∧ ChJ W B g ip mac port iss next x0 last vl l w vG0 k t x vG wy ∧ RB wy wy.heap.size A1 q.xs) → _ := fun wy h => cliHear W B g ip mac port iss next x last vG vl q q.sq.toNat hsq hsl A1 c1 wy h.2.2.1.O h.2.2.1.R h.2.2.2 (by omega) hw5 (by omega) (by omega)
  refine St.call 45 ⟨jm, jb fun _ => eql_k (frOut b).2 0 true hc0 _ _ _, jm, jm, jp, jm, jm, jl fun _ h => load1_i _ _ _ _ ((Own.get h.2.1 0 rfl).get 0 _ rfl), jm, jm, jm, jl fun _ h => load1_i _ _ _ _ ((h.2.2.1.O.get 0 rfl).get 1 _ rfl), jb fun _ => eql_iB ((frOut b).1.d : Int) (mac : Int) true hc1 _ _ _, jp, jm, jm, jl fun _ h => load1_i _ _ _ _ ((Own.get h.1 1 rfl).get 0 _ rfl), jb fun _ => eql_iB p.s 167772161 true hc2 _ _ _, jp, jm, jm, jl fun _ h => load1_i _ _ _ _ ((Own.get h.1 1 rfl).get 1 _ rfl), jm, jm, jm, jl fun _ h => load1_i _ _ _ _ ((h.2.2.1.O.get 0 rfl).get 0 _ rfl), jb fun _ => eql_iB p.d (ip : Int) true hc3 _ _ _, jp, jm, jm, jl fun _ h => load1_i _ _ _ _ ((Own.get h.1 0 rfl).get 0 _ rfl), jb fun _ => eql_iB q.sp 1883 true hc4 _ _ _, jp, jm, jm, jl fun _ h => load1_i _ _ _ _ ((Own.get h.1 0 rfl).get 1 _ rfl), jm, jm, jm, jl fun _ h => load1_i _ _ _ _ ((h.2.2.1.O.get 0 rfl).get 2 _ rfl), jb fun _ => eql_iB q.dp (port : Int) true hc5 _ _ _, jp, jm, jm, jl fun _ h => loadT (h.1.get 0 rfl) Tryz.underlying36 rfl size_sg27 rfl, trivial⟩ KK ?_
  rintro wx v wz hh ⟨x', tt, vG', hcl, rfl, Oz, Rz, Kz, Vz⟩
  have hok := clHear_ok (iss := iss) (q := q) hw5 hql
  rw [hcl] at hok
  refine nx (fun w' => ChJ W B g ip mac port iss next x0 last vl l w vG0 (k + 1) (t || tt) x' vG' w') [ec 46 76 (.bool tt)] [] ⟨by rw [hh.2.2.1.h, hdr, clHears, hto]; show clHears mac ip port iss (clHear iss x q).1 (t || (clHear iss x q).2) _ = _; rw [hcl], hok.1, Nat.le_trans hok.2 (by omega), Oz, Rz, hh.2.2.1.K.far hh.2.2.1.V Kz, hh.2.2.1.V.trans hh.2.2.1.K.1 Vz⟩ (St.fin ⟨jp, trivial⟩ ?_)
  rintro a w10 H _ J10
  refine then_normal ?_
  cases tt with
  | true =>
   refine H.condT rfl ?_
   refine H.rg 1 fun a H => wpList_nil (block_normal (then_normal ?_))
   refine H.rg 0 fun a H => ?_
   refine H.bn 1 (succ_i k (by omega) _ _ _) fun a H => nt ?_
   exact ⟨hlt, true, x', vG', H.keep ⟨rfl, rfl, rfl, rfl, rfl, trivial⟩, by rw [Bool.or_true] at J10; exact J10⟩
  | false =>
   refine H.condF rfl (skip_wp (block_normal (then_normal ?_)))
   refine H.rg 0 fun a H => ?_
   refine H.bn 1 (succ_i k (by omega) _ _ _) fun a H => nt ?_
   exact ⟨hlt, t, x', vG', H.keep ⟨rfl, rfl, rfl, rfl, rfl, trivial⟩, by rw [Bool.or_false] at J10; exact J10⟩
end
section
open Go.RowKit
theorem wv_get (l : List (ByteArray × Int)) (k : Nat) (x : ByteArray × Int) (h : l[k]? = some x) : (wv l)[k * 2 + 0]? = some (.string x.1) ∧ (wv l)[k * 2 + 1]? = some (.int .i64 x.2) := by
 induction l generalizing k with
 | nil => simp at h
 | cons y ys ih =>
  cases k with
  | zero => simp at h; subst h; simp [wv]
  | succ k =>
   have := ih k (by simpa using h)
   rw [show (k + 1) * 2 = k * 2 + 1 + 1 by omega]
   simpa [wv, Nat.add_right_comm] using this
theorem drop_of {α : Type} {l : List α} {k : Nat} {x : α} (h : l[k]? = some x) : l.drop k = x :: l.drop (k + 1) := drop_get' l k x h
theorem packCodes (l : List Int) (n : Nat) (hl : l.length = n) (A : Option Addr) (c : Nat) (hn : n ≤ 140737488351232) (w : World) (hr : Reads w w.heap.size 1 A n (l.map iv)) :
  Calls Tryz.prog 155 #[.slice A n c] w fun e w' => e = .returned (.bool (codesOk l)) ∧ w = w' := by
 have HF := Lib.hid (show codesAll (l.drop 0) = codesAll l from rfl)
 have KW := Lib.hid (fun x w1 => packWithin x 0 2 w1)
 have KE := Lib.hid (fun w1 => packWithin (n : Int) 1 8 w1)
 have HO := Lib.hid (show codesOk l = (codesAll l && inRB n 1 8) by unfold codesOk; rw [hl])
 generalize codesOk l = Z at *
 have HL := Lib.hid hl
 clear hl
 go_enter Tryz.func155, Tryz.ntmps155
 go_wp2
 go_loop [7] (fun i => ∃ k : Nat, i = .int .i64 k ∧ k ≤ n ∧ Hid (codesAll (l.drop k) = codesAll l)) (fun i => n - (intOf i).toNat)
 case atStart => exact ⟨0, rfl, Nat.zero_le _, HF⟩
 case round =>
  obtain ⟨k, rfl, hk, hf⟩ := hrel
  by_cases hlt : k < n
  ·obtain ⟨b, o, v, rfl, _, hv, cv⟩ := hr.get1 hlt
   rw [List.getElem?_map] at hv
   obtain ⟨x, hx, rfl⟩ := Option.map_eq_some_iff.1 hv
   have hd := drop_of hx
   have hf2 := hf.out
   rw [hd, codesAll] at hf2
   cases h1 : inRB x 0 2 with
   | true =>
    have K := Lib.hid (fun w1 => h1 ▸ KW.out x w1)
    have HP : Hid (codesAll (l.drop (k + 1)) = codesAll l) := by rw [h1] at hf2; exact hf2
    clear hv hx hd hf2 hf
    go_wp2_with (go_at_call 151; (with_reducible refine (K.out _).mono ?_); rintro _ w2 ⟨rfl, rfl⟩)
    go_round
    case rel => exact ⟨k + 1, by go_num, by omega, HP⟩
    case measure => simp [intOf]; omega
   | false =>
    have K := Lib.hid (fun w1 => h1 ▸ KW.out x w1)
    by_cases h2 : x = 128
    ·subst h2
     have HP : Hid (codesAll (l.drop (k + 1)) = codesAll l) := by rw [h1] at hf2; exact hf2
     clear hv hx hd hf2 hf
     go_wp2_with (go_at_call 151; (with_reducible refine (K.out _).mono ?_); rintro _ w2 ⟨rfl, rfl⟩)
     go_round
     case rel => exact ⟨k + 1, by go_num, by omega, HP⟩
     case measure => simp [intOf]; omega
    ·have h3 : (x == 128) = false := by rw [beq_eq_false_iff_ne]; exact h2
     have HP : Hid (codesAll l = false) := by rw [h1, h3] at hf2; exact hf2.symm
     clear hv hx hd hf2 hf h2
     go_wp2_with (go_at_call 151; (with_reducible refine (K.out _).mono ?_); rintro _ w2 ⟨rfl, rfl⟩)
     go_ret
     exact ⟨by rw [HO.out, HP.out]; rfl, rfl⟩
  ·have HP : Hid (codesAll l = true) := by
    have := hf.out
    rw [List.drop_eq_nil_of_le (by rw [HL.out]; omega)] at this
    exact this.symm
   clear hf
   go_wp2_with (go_at_call 151; (with_reducible refine (KE.out _).mono ?_); rintro _ w2 ⟨rfl, rfl⟩)
   go_ret
   exact ⟨by rw [HO.out, HP.out]; simp, rfl⟩
abbrev Fits (s : ByteArray) : Prop := s.size ≤ 140737488351232
theorem packFilters (l : List ByteArray) (n : Nat) (hl : l.length = n) (hfit : ∀ s ∈ l, Fits s) (A : Option Addr) (c : Nat) (hn : n ≤ 140737488351232) (w : World) (hT : Wd w) (hr : Reads w w.heap.size 1 A n (l.map sv)) :
  Calls Tryz.prog 156 #[.slice A n c] w fun e w' => e = .returned (.bool (filtersOk l)) ∧ Below w.heap.size w w' := by
 have HF := Lib.hid (show filtersAll (l.drop 0) = filtersAll l from rfl)
 have KE := Lib.hid (fun w1 => packWithin (n : Int) 1 8 w1)
 have HO := Lib.hid (show filtersOk l = (filtersAll l && inRB n 1 8) by unfold filtersOk; rw [hl])
 generalize filtersOk l = Z at *
 have HL := Lib.hid hl
 have HFit := Lib.hid hfit
 have HR := Lib.hid hr
 have HT := Lib.hid hT
 clear hl hfit hr hT
 go_enter Tryz.func156, Tryz.ntmps156
 go_wp2
 go_loopw [7] (fun i wr => ∃ k : Nat, i = .int .i64 k ∧ k ≤ n ∧ Below w.heap.size w wr ∧ Hid (filtersAll (l.drop k) = filtersAll l)) (fun i _ => n - (intOf i).toNat)
 case atStart => exact ⟨0, rfl, Nat.zero_le _, Below.refl _ _, HF⟩
 case round =>
  obtain ⟨k, rfl, hk, hb, hf⟩ := hrel
  by_cases hlt : k < n
  ·obtain ⟨b, o, v, rfl, _, hv, cv⟩ := (HR.out.below hb).get1 hlt
   rw [List.getElem?_map] at hv
   obtain ⟨x, hx, rfl⟩ := Option.map_eq_some_iff.1 hv
   have hd := drop_of hx
   have hf2 := hf.out
   rw [hd, filtersAll] at hf2
   have K := Lib.hid (packTextV x (HFit.out x (List.mem_of_getElem? hx)) 1 64 wr (HT.out.below hb))
   have HB := Lib.hid hb
   cases h1 : textOk x 1 64 with
   | true =>
    rw [h1] at K
    have HP : Hid (filtersAll (l.drop (k + 1)) = filtersAll l) := by rw [h1] at hf2; exact hf2
    clear hv hx hd hf2 hf hb h1
    go_wp2_with (go_at_call 165; (with_reducible refine K.out.mono ?_); rintro _ w2 ⟨rfl, hb2⟩; have HB2 := Lib.hid (HB.out.trans (hb2.mono HB.out.size)); clear hb2)
    go_roundw
    case rel => exact ⟨k + 1, by go_num, by omega, HB2.out, HP⟩
    case measure => simp [intOf]; omega
   | false =>
    rw [h1] at K
    have HP : Hid (filtersAll l = false) := by rw [h1] at hf2; exact hf2.symm
    clear hv hx hd hf2 hf hb h1
    go_wp2_with (go_at_call 165; (with_reducible refine K.out.mono ?_); rintro _ w2 ⟨rfl, hb2⟩; have HB2 := Lib.hid (HB.out.trans (hb2.mono HB.out.size)); clear hb2)
    go_ret
    exact ⟨by rw [HO.out, HP.out]; rfl, HB2.out⟩
  ·have HP : Hid (filtersAll l = true) := by
    have := hf.out
    rw [List.drop_eq_nil_of_le (by rw [HL.out]; omega)] at this
    exact this.symm
   clear hf
   go_wp2_with (go_at_call 151; (with_reducible refine (KE.out _).mono ?_); rintro _ w2 ⟨rfl, rfl⟩)
   go_ret
   exact ⟨by rw [HO.out, HP.out]; simp, hb⟩
theorem packWishes (l : List (ByteArray × Int)) (n : Nat) (hl : l.length = n) (hfit : ∀ s ∈ l, Fits s.1) (A : Option Addr) (c : Nat) (hn : n ≤ 140737488351232) (w : World) (hT : Wd w) (hr : Reads w w.heap.size 2 A n (wv l)) :
  Calls Tryz.prog 154 #[.slice A n c] w fun e w' => e = .returned (.bool (wishesOk l)) ∧ Below w.heap.size w w' := by
 have HF := Lib.hid (show wishesAll (l.drop 0) = wishesAll l from rfl)
 have KW := Lib.hid (fun x w1 => packWithin x 0 2 w1)
 have KE := Lib.hid (fun w1 => packWithin (n : Int) 1 8 w1)
 have HO := Lib.hid (show wishesOk l = (wishesAll l && inRB n 1 8) by unfold wishesOk; rw [hl])
 generalize wishesOk l = Z at *
 have HL := Lib.hid hl
 have HFit := Lib.hid hfit
 have HR := Lib.hid hr
 have HT := Lib.hid hT
 clear hl hfit hr hT
 go_enter Tryz.func154, Tryz.ntmps154
 go_wp2
 go_loopw [7] (fun i wr => ∃ k : Nat, i = .int .i64 k ∧ k ≤ n ∧ Below w.heap.size w wr ∧ Hid (wishesAll (l.drop k) = wishesAll l)) (fun i _ => n - (intOf i).toNat)
 case atStart => exact ⟨0, rfl, Nat.zero_le _, Below.refl _ _, HF⟩
 case round =>
  obtain ⟨k, rfl, hk, hb, hf⟩ := hrel
  by_cases hlt : k < n
  ·obtain ⟨b, o, rfl, _, hcv⟩ := (HR.out.below hb).get2 hlt
   obtain ⟨x, hx⟩ : ∃ x, l[k]? = some x := ⟨l[k]'(by rw [HL.out]; omega), List.getElem?_eq_getElem _⟩
   obtain ⟨g0, g1⟩ := wv_get l k x hx
   have cv0 := hcv 0 _ (by omega) g0
   have cv1 := hcv 1 _ (by omega) g1
   rw [Nat.add_zero] at cv0
   have hd := drop_of hx
   have hf2 := hf.out
   rw [hd, wishesAll] at hf2
   have hba := balloc wr (.cells #[.string x.1, .int .i64 x.2] 161)
   have HB := Lib.hid (hb.trans (hba.mono hb.size))
   have K := Lib.hid (packTextV x.1 (HFit.out x (List.mem_of_getElem? hx)) 1 64 _ (HT.out.below HB.out))
   have hlt2 : wr.heap.size < (wr.alloc (.cells #[.string x.1, .int .i64 x.2] 161)).heap.size := lt_alloc _ _
   have K2 := Lib.hid (fun w1 => KW.out x.2 w1)
   cases h1 : textOk x.1 1 64 with
   | true =>
    rw [h1] at K hf2
    cases h2 : inRB x.2 0 2 with
    | true =>
     rw [h2] at K2 hf2
     have HP : Hid (wishesAll (l.drop (k + 1)) = wishesAll l) := hf2
     clear hx hd hf2 hf hb h1 h2 g0 g1 hcv hba
     go_wp2_with (first
      | (go_at_call 165; (with_reducible refine K.out.mono ?_); rintro _ w2 ⟨rfl, hb2⟩; have HB2 := Lib.hid (HB.out.trans (hb2.mono HB.out.size)); have c1 : w2.cell? ⟨wr.heap.size, 1, none⟩ = some (.int .i64 x.2) := (by rw [cellB hb2 hlt2]; simp); clear hb2)
      | (go_at_call 151; (with_reducible refine (K2.out _).mono ?_); rintro _ w3 ⟨rfl, rfl⟩))
     go_roundw
     case rel => exact ⟨k + 1, by go_num, by omega, HB2.out, HP⟩
     case measure => simp [intOf]; omega
    | false =>
     rw [h2] at K2 hf2
     have HP : Hid (wishesAll l = false) := hf2.symm
     clear hx hd hf2 hf hb h1 h2 g0 g1 hcv hba
     go_wp2_with (first
      | (go_at_call 165; (with_reducible refine K.out.mono ?_); rintro _ w2 ⟨rfl, hb2⟩; have HB2 := Lib.hid (HB.out.trans (hb2.mono HB.out.size)); have c1 : w2.cell? ⟨wr.heap.size, 1, none⟩ = some (.int .i64 x.2) := (by rw [cellB hb2 hlt2]; simp); clear hb2)
      | (go_at_call 151; (with_reducible refine (K2.out _).mono ?_); rintro _ w3 ⟨rfl, rfl⟩))
     go_ret
     exact ⟨by rw [HO.out, HP.out]; rfl, HB2.out⟩
   | false =>
    rw [h1] at K hf2
    have HP : Hid (wishesAll l = false) := hf2.symm
    clear hx hd hf2 hf hb h1 g0 g1 hcv hba
    go_wp2_with (go_at_call 165; (with_reducible refine K.out.mono ?_); rintro _ w2 ⟨rfl, hb2⟩; have HB2 := Lib.hid (HB.out.trans (hb2.mono HB.out.size)); clear hb2)
    go_ret
    exact ⟨by rw [HO.out, HP.out]; rfl, HB2.out⟩
  ·have HP : Hid (wishesAll l = true) := by
    have := hf.out
    rw [List.drop_eq_nil_of_le (by rw [HL.out]; omega)] at this
    exact this.symm
   clear hf
   go_wp2_with (go_at_call 151; (with_reducible refine (KE.out _).mono ?_); rintro _ w2 ⟨rfl, rfl⟩)
   go_ret
   exact ⟨by rw [HO.out, HP.out]; simp, hb⟩
end
section
open Go.RowKit
def eqG {α : Type} [DecidableEq α] (xs ys : List α) : Bool := decide (xs = ys)
theorem eqG_same {α : Type} [DecidableEq α] (xs : List α) : eqG xs xs = true := by simp [eqG]
theorem eqG_false {α : Type} [DecidableEq α] {xs ys : List α} (h : xs ≠ ys) : eqG xs ys = false := by simpa [eqG] using h
theorem takeG_all {α : Type} {xs ys : List α} {k : Nat} (hk : k = xs.length) (hl : xs.length = ys.length) (h : xs.take k = ys.take k) : xs = ys := by
 subst hk
 rw [List.take_length] at h
 rw [hl, List.take_length] at h
 exact h
theorem takeG_next {α : Type} {xs ys : List α} {k : Nat} {x y : α} (hx : xs[k]? = some x) (hy : ys[k]? = some y) (h : xs.take k = ys.take k) (e : x = y) : xs.take (k + 1) = ys.take (k + 1) := by
 rw [take_snoc? xs k x hx, take_snoc? ys k y hy, h, e]
theorem neG_of {α : Type} {xs ys : List α} {k : Nat} {x y : α} (hx : xs[k]? = some x) (hy : ys[k]? = some y) (e : x ≠ y) : xs ≠ ys := by
 rintro rfl
 rw [hx] at hy
 exact e (by simpa using hy)
theorem str_ne {u v : ByteArray} (h : ¬ u = v) : (u.toList == v.toList) = false := by
 rw [beq_eq_false_iff_ne, Lib.toList_data, Lib.toList_data]
 intro e
 exact h (ByteArray.ext (Array.toList_inj.1 e))
theorem drewN_below {B : Nat} {w0 w : World} (h : Below B w0 w) (n : Nat) : Below B w0 (w.drewN n) := below_drewN h n
theorem eqInts (xs ys : List (Int)) (A B : Option Addr) (c d : Nat) (w : World) (hx : Reads w w.heap.size 1 A xs.length (xs.map iv)) (hy : Reads w w.heap.size 1 B ys.length (ys.map iv)) (hn : xs.length ≤ 140737488351232) :
  Calls Tryz.prog 102 #[.slice A xs.length c, .slice B ys.length d] w fun e w' => e = .returned (.bool (eqG xs ys)) ∧ Below w.heap.size w w' := by
 by_cases hl : xs.length = ys.length
 ·have hne : (((xs.length : Int)) != ((ys.length : Nat) : Int)) = false := by simp [hl]
  have hl' := Lib.hid hl
  have hlt2 : ∀ k, k < xs.length → k < ys.length := by rw [hl]; exact fun _ h => h
  clear hl
  go_enter Tryz.func102, Tryz.ntmps102
  go_wp2
  go_loopw [5] (fun i wr => ∃ k n : Nat, k ≤ xs.length ∧ i = .int .i64 k ∧ wr = w.drewN n ∧ Hid (xs.take k = ys.take k)) (fun i _ => xs.length - (intOf i).toNat)
  case atStart => exact ⟨0, 0, Nat.zero_le _, rfl, rfl, rfl⟩
  case round =>
   obtain ⟨k, n, hk, rfl, rfl, ht⟩ := hrel
   by_cases hlt : k < xs.length
   ·have hlty := hlt2 k hlt
    obtain ⟨b, o, uu, rfl, _, hu, cu0⟩ := hx.get1 (w := w) hlt
    obtain ⟨b2, o2, vv, rfl, _, hv, cv0⟩ := hy.get1 (w := w) hlty
    rw [List.getElem?_map] at hu hv
    obtain ⟨u, hu2, rfl⟩ := Option.map_eq_some_iff.1 hu
    obtain ⟨v, hv2, rfl⟩ := Option.map_eq_some_iff.1 hv
    clear hu hv
    have hu := hu2
    have hv := hv2
    clear hu2 hv2
    clear hlt2
    have hu' := Lib.hid hu
    have hv' := Lib.hid hv
    have hi : (k : Int) < (xs.length : Int) := by omega
    have hi2 : (k : Int) < (ys.length : Int) := by omega
    clear hu hv
    by_cases he : u = v
    ·have HT : Hid (xs.take (k + 1) = ys.take (k + 1)) := takeG_next hu'.out hv'.out ht.out he
     have hne2 : (u != v) = false := by simp [he]
     go_wp2_with fail
     go_quiet (fail)
     go_wp2
     go_roundw
     case rel => exact ⟨k + 1, _, by omega, by go_num, rfl, HT⟩
     case measure => simp [intOf]; omega
    ·have HT : Hid (eqG xs ys = false) := eqG_false (neG_of hu'.out hv'.out he)
     have hne2 : (u != v) = true := by simpa using he
     go_wp2_with fail
     go_quiet (fail)
     go_wp2
     go_ret
     exact ⟨by rw [HT.out]; rfl, drewN_below (drewN_below (Below.refl _ _) _) _⟩
   ·have HT : Hid (eqG xs ys = true) := by rw [takeG_all (by omega) hl'.out ht.out]; exact eqG_same _
    go_wp2
    go_ret
    exact ⟨by rw [HT.out]; rfl, drewN_below (Below.refl _ _) _⟩
 ·have hne : (((xs.length : Int)) != ((ys.length : Nat) : Int)) = true := by
   simp only [bne_iff_ne, ne_eq, Int.natCast_inj]; exact hl
  have HT : Hid (eqG xs ys = false) := eqG_false (fun h => hl (by rw [h]))
  clear hl
  go_enter Tryz.func102, Tryz.ntmps102
  go_wp2
  go_ret
  exact ⟨by rw [HT.out]; rfl, Below.refl _ _⟩
theorem eqStrs (xs ys : List (ByteArray)) (A B : Option Addr) (c d : Nat) (w : World) (hx : Reads w w.heap.size 1 A xs.length (xs.map sv)) (hy : Reads w w.heap.size 1 B ys.length (ys.map sv)) (hn : xs.length ≤ 140737488351232) :
  Calls Tryz.prog 104 #[.slice A xs.length c, .slice B ys.length d] w fun e w' => e = .returned (.bool (eqG xs ys)) ∧ Below w.heap.size w w' := by
 by_cases hl : xs.length = ys.length
 ·have hne : (((xs.length : Int)) != ((ys.length : Nat) : Int)) = false := by simp [hl]
  have hl' := Lib.hid hl
  have hlt2 : ∀ k, k < xs.length → k < ys.length := by rw [hl]; exact fun _ h => h
  clear hl
  go_enter Tryz.func104, Tryz.ntmps104
  go_wp2
  go_loopw [5] (fun i wr => ∃ k n : Nat, k ≤ xs.length ∧ i = .int .i64 k ∧ wr = w.drewN n ∧ Hid (xs.take k = ys.take k)) (fun i _ => xs.length - (intOf i).toNat)
  case atStart => exact ⟨0, 0, Nat.zero_le _, rfl, rfl, rfl⟩
  case round =>
   obtain ⟨k, n, hk, rfl, rfl, ht⟩ := hrel
   by_cases hlt : k < xs.length
   ·have hlty := hlt2 k hlt
    obtain ⟨b, o, uu, rfl, _, hu, cu0⟩ := hx.get1 (w := w) hlt
    obtain ⟨b2, o2, vv, rfl, _, hv, cv0⟩ := hy.get1 (w := w) hlty
    rw [List.getElem?_map] at hu hv
    obtain ⟨u, hu2, rfl⟩ := Option.map_eq_some_iff.1 hu
    obtain ⟨v, hv2, rfl⟩ := Option.map_eq_some_iff.1 hv
    clear hu hv
    have hu := hu2
    have hv := hv2
    clear hu2 hv2
    clear hlt2
    have hu' := Lib.hid hu
    have hv' := Lib.hid hv
    have hi : (k : Int) < (xs.length : Int) := by omega
    have hi2 : (k : Int) < (ys.length : Int) := by omega
    clear hu hv
    by_cases he : u = v
    ·have HT : Hid (xs.take (k + 1) = ys.take (k + 1)) := takeG_next hu'.out hv'.out ht.out he
     subst he
     go_wp2_with fail
     go_quiet (fail)
     go_wp2
     go_roundw
     case rel => exact ⟨k + 1, _, by omega, by go_num, rfl, HT⟩
     case measure => simp [intOf]; omega
    ·have HT : Hid (eqG xs ys = false) := eqG_false (neG_of hu'.out hv'.out he)
     have hne2 := str_ne he
     go_wp2_with fail
     go_quiet (fail)
     go_wp2
     go_ret
     exact ⟨by rw [HT.out]; rfl, drewN_below (drewN_below (Below.refl _ _) _) _⟩
   ·have HT : Hid (eqG xs ys = true) := by rw [takeG_all (by omega) hl'.out ht.out]; exact eqG_same _
    go_wp2
    go_ret
    exact ⟨by rw [HT.out]; rfl, drewN_below (Below.refl _ _) _⟩
 ·have hne : (((xs.length : Int)) != ((ys.length : Nat) : Int)) = true := by
   simp only [bne_iff_ne, ne_eq, Int.natCast_inj]; exact hl
  have HT : Hid (eqG xs ys = false) := eqG_false (fun h => hl (by rw [h]))
  clear hl
  go_enter Tryz.func104, Tryz.ntmps104
  go_wp2
  go_ret
  exact ⟨by rw [HT.out]; rfl, Below.refl _ _⟩
theorem eqWishes (xs ys : List (ByteArray × Int)) (A B : Option Addr) (c d : Nat) (w : World) (hx : Reads w w.heap.size 2 A xs.length (wv xs)) (hy : Reads w w.heap.size 2 B ys.length (wv ys)) (hn : xs.length ≤ 140737488351232) :
  Calls Tryz.prog 103 #[.slice A xs.length c, .slice B ys.length d] w fun e w' => e = .returned (.bool (eqG xs ys)) ∧ Below w.heap.size w w' := by
 by_cases hl : xs.length = ys.length
 ·have hne : (((xs.length : Int)) != ((ys.length : Nat) : Int)) = false := by simp [hl]
  have hl' := Lib.hid hl
  have hlt2 : ∀ k, k < xs.length → k < ys.length := by rw [hl]; exact fun _ h => h
  clear hl
  go_enter Tryz.func103, Tryz.ntmps103
  go_wp2
  go_loopw [5] (fun i wr => ∃ k n : Nat, k ≤ xs.length ∧ i = .int .i64 k ∧ wr = w.drewN n ∧ Hid (xs.take k = ys.take k)) (fun i _ => xs.length - (intOf i).toNat)
  case atStart => exact ⟨0, 0, Nat.zero_le _, rfl, rfl, rfl⟩
  case round =>
   obtain ⟨k, n, hk, rfl, rfl, ht⟩ := hrel
   by_cases hlt : k < xs.length
   ·have hlty := hlt2 k hlt
    obtain ⟨b, o, rfl, _, hcv⟩ := hx.get2 (w := w) hlt
    obtain ⟨b2, o2, rfl, _, hcv2⟩ := hy.get2 (w := w) hlty
    obtain ⟨u, hu⟩ : ∃ u, xs[k]? = some u := ⟨xs[k]'hlt, List.getElem?_eq_getElem _⟩
    obtain ⟨v, hv⟩ : ∃ v, ys[k]? = some v := ⟨ys[k]'hlty, List.getElem?_eq_getElem _⟩
    obtain ⟨g0, g1⟩ := wv_get xs k u hu
    obtain ⟨p0, p1⟩ := wv_get ys k v hv
    have cu0 := hcv 0 _ (by omega) g0
    have cu1 := hcv 1 _ (by omega) g1
    have cv0 := hcv2 0 _ (by omega) p0
    have cv1 := hcv2 1 _ (by omega) p1
    rw [Nat.add_zero] at cu0 cv0
    clear g0 g1 p0 p1 hcv hcv2
    clear hlt2
    have hu' := Lib.hid hu
    have hv' := Lib.hid hv
    have hi : (k : Int) < (xs.length : Int) := by omega
    have hi2 : (k : Int) < (ys.length : Int) := by omega
    clear hu hv
    by_cases he : u = v
    ·have HT : Hid (xs.take (k + 1) = ys.take (k + 1)) := takeG_next hu'.out hv'.out ht.out he
     subst he
     go_wp2_with fail
     go_quiet (fail)
     go_wp2
     go_roundw
     case rel => exact ⟨k + 1, _, by omega, by go_num, rfl, HT⟩
     case measure => simp [intOf]; omega
    ·have HT : Hid (eqG xs ys = false) := eqG_false (neG_of hu'.out hv'.out he)
     by_cases h1 : u.1 = v.1
     ·have h2 : ¬ u.2 = v.2 := fun h => he (Prod.ext h1 h)
      clear he
      have h3 : (u.2 == v.2) = false := by rw [beq_eq_false_iff_ne]; exact h2
      go_wp2_with fail
      go_quiet (fail)
      go_wp2
      go_ret
      exact ⟨by rw [HT.out]; rfl, drewN_below (drewN_below (Below.refl _ _) _) _⟩
     ·have h3 := str_ne h1
      clear he h1
      go_wp2_with fail
      go_quiet (fail)
      go_wp2
      go_ret
      exact ⟨by rw [HT.out]; rfl, drewN_below (drewN_below (Below.refl _ _) _) _⟩
   ·have HT : Hid (eqG xs ys = true) := by rw [takeG_all (by omega) hl'.out ht.out]; exact eqG_same _
    go_wp2
    go_ret
    exact ⟨by rw [HT.out]; rfl, drewN_below (Below.refl _ _) _⟩
 ·have hne : (((xs.length : Int)) != ((ys.length : Nat) : Int)) = true := by
   simp only [bne_iff_ne, ne_eq, Int.natCast_inj]; exact hl
  have HT : Hid (eqG xs ys = false) := eqG_false (fun h => hl (by rw [h]))
  clear hl
  go_enter Tryz.func103, Tryz.ntmps103
  go_wp2
  go_ret
  exact ⟨by rw [HT.out]; rfl, Below.refl _ _⟩
theorem slInts (xs ys : List (Int)) (A B : Option Addr) (c d : Nat) (w : World) (hx : Reads w w.heap.size 1 A xs.length (xs.map iv)) (hy : Reads w w.heap.size 1 B ys.length (ys.map iv)) (hn : xs.length ≤ 140737488351232) :
  Calls Tryz.prog 157 #[.slice A xs.length c, .slice B ys.length d] w fun e w' => e = .returned (.bool (eqG xs ys)) ∧ Below w.heap.size w w' := by
 by_cases hl : xs.length = ys.length
 ·have hne : (((xs.length : Int)) != ((ys.length : Nat) : Int)) = false := by simp [hl]
  have hl' := Lib.hid hl
  have hlt2 : ∀ k, k < xs.length → k < ys.length := by rw [hl]; exact fun _ h => h
  clear hl
  go_enter Tryz.func157, Tryz.ntmps157
  go_wp2
  go_loopw [13] (fun i wr => ∃ k n : Nat, k ≤ xs.length ∧ i = .int .i64 k ∧ wr = w.drewN n ∧ Hid (xs.take k = ys.take k)) (fun i _ => xs.length - (intOf i).toNat)
  case atStart => exact ⟨0, 0, Nat.zero_le _, rfl, rfl, rfl⟩
  case round =>
   obtain ⟨k, n, hk, rfl, rfl, ht⟩ := hrel
   by_cases hlt : k < xs.length
   ·have hlty := hlt2 k hlt
    obtain ⟨b, o, uu, rfl, _, hu, cu0⟩ := hx.get1 (w := w) hlt
    obtain ⟨b2, o2, vv, rfl, _, hv, cv0⟩ := hy.get1 (w := w) hlty
    rw [List.getElem?_map] at hu hv
    obtain ⟨u, hu2, rfl⟩ := Option.map_eq_some_iff.1 hu
    obtain ⟨v, hv2, rfl⟩ := Option.map_eq_some_iff.1 hv
    clear hu hv
    have hu := hu2
    have hv := hv2
    clear hu2 hv2
    clear hlt2
    have hu' := Lib.hid hu
    have hv' := Lib.hid hv
    have hi : (k : Int) < (xs.length : Int) := by omega
    have hi2 : (k : Int) < (ys.length : Int) := by omega
    clear hu hv
    by_cases he : u = v
    ·have HT : Hid (xs.take (k + 1) = ys.take (k + 1)) := takeG_next hu'.out hv'.out ht.out he
     have hne2 : (u != v) = false := by simp [he]
     go_wp2_with fail
     go_quiet (fail)
     go_wp2
     go_roundw
     case rel => exact ⟨k + 1, _, by omega, by go_num, rfl, HT⟩
     case measure => simp [intOf]; omega
    ·have HT : Hid (eqG xs ys = false) := eqG_false (neG_of hu'.out hv'.out he)
     have hne2 : (u != v) = true := by simpa using he
     go_wp2_with fail
     go_quiet (fail)
     go_wp2
     go_ret
     exact ⟨by rw [HT.out]; rfl, drewN_below (drewN_below (Below.refl _ _) _) _⟩
   ·have HT : Hid (eqG xs ys = true) := by rw [takeG_all (by omega) hl'.out ht.out]; exact eqG_same _
    go_wp2
    go_ret
    exact ⟨by rw [HT.out]; rfl, drewN_below (Below.refl _ _) _⟩
 ·have hne : (((xs.length : Int)) != ((ys.length : Nat) : Int)) = true := by
   simp only [bne_iff_ne, ne_eq, Int.natCast_inj]; exact hl
  have HT : Hid (eqG xs ys = false) := eqG_false (fun h => hl (by rw [h]))
  clear hl
  go_enter Tryz.func157, Tryz.ntmps157
  go_wp2
  go_ret
  exact ⟨by rw [HT.out]; rfl, Below.refl _ _⟩
theorem slStrs (xs ys : List (ByteArray)) (A B : Option Addr) (c d : Nat) (w : World) (hx : Reads w w.heap.size 1 A xs.length (xs.map sv)) (hy : Reads w w.heap.size 1 B ys.length (ys.map sv)) (hn : xs.length ≤ 140737488351232) :
  Calls Tryz.prog 159 #[.slice A xs.length c, .slice B ys.length d] w fun e w' => e = .returned (.bool (eqG xs ys)) ∧ Below w.heap.size w w' := by
 by_cases hl : xs.length = ys.length
 ·have hne : (((xs.length : Int)) != ((ys.length : Nat) : Int)) = false := by simp [hl]
  have hl' := Lib.hid hl
  have hlt2 : ∀ k, k < xs.length → k < ys.length := by rw [hl]; exact fun _ h => h
  clear hl
  go_enter Tryz.func159, Tryz.ntmps159
  go_wp2
  go_loopw [13] (fun i wr => ∃ k n : Nat, k ≤ xs.length ∧ i = .int .i64 k ∧ wr = w.drewN n ∧ Hid (xs.take k = ys.take k)) (fun i _ => xs.length - (intOf i).toNat)
  case atStart => exact ⟨0, 0, Nat.zero_le _, rfl, rfl, rfl⟩
  case round =>
   obtain ⟨k, n, hk, rfl, rfl, ht⟩ := hrel
   by_cases hlt : k < xs.length
   ·have hlty := hlt2 k hlt
    obtain ⟨b, o, uu, rfl, _, hu, cu0⟩ := hx.get1 (w := w) hlt
    obtain ⟨b2, o2, vv, rfl, _, hv, cv0⟩ := hy.get1 (w := w) hlty
    rw [List.getElem?_map] at hu hv
    obtain ⟨u, hu2, rfl⟩ := Option.map_eq_some_iff.1 hu
    obtain ⟨v, hv2, rfl⟩ := Option.map_eq_some_iff.1 hv
    clear hu hv
    have hu := hu2
    have hv := hv2
    clear hu2 hv2
    clear hlt2
    have hu' := Lib.hid hu
    have hv' := Lib.hid hv
    have hi : (k : Int) < (xs.length : Int) := by omega
    have hi2 : (k : Int) < (ys.length : Int) := by omega
    clear hu hv
    by_cases he : u = v
    ·have HT : Hid (xs.take (k + 1) = ys.take (k + 1)) := takeG_next hu'.out hv'.out ht.out he
     subst he
     go_wp2_with fail
     go_quiet (fail)
     go_wp2
     go_roundw
     case rel => exact ⟨k + 1, _, by omega, by go_num, rfl, HT⟩
     case measure => simp [intOf]; omega
    ·have HT : Hid (eqG xs ys = false) := eqG_false (neG_of hu'.out hv'.out he)
     have hne2 := str_ne he
     go_wp2_with fail
     go_quiet (fail)
     go_wp2
     go_ret
     exact ⟨by rw [HT.out]; rfl, drewN_below (drewN_below (Below.refl _ _) _) _⟩
   ·have HT : Hid (eqG xs ys = true) := by rw [takeG_all (by omega) hl'.out ht.out]; exact eqG_same _
    go_wp2
    go_ret
    exact ⟨by rw [HT.out]; rfl, drewN_below (Below.refl _ _) _⟩
 ·have hne : (((xs.length : Int)) != ((ys.length : Nat) : Int)) = true := by
   simp only [bne_iff_ne, ne_eq, Int.natCast_inj]; exact hl
  have HT : Hid (eqG xs ys = false) := eqG_false (fun h => hl (by rw [h]))
  clear hl
  go_enter Tryz.func159, Tryz.ntmps159
  go_wp2
  go_ret
  exact ⟨by rw [HT.out]; rfl, Below.refl _ _⟩
theorem slWishes (xs ys : List (ByteArray × Int)) (A B : Option Addr) (c d : Nat) (w : World) (hx : Reads w w.heap.size 2 A xs.length (wv xs)) (hy : Reads w w.heap.size 2 B ys.length (wv ys)) (hn : xs.length ≤ 140737488351232) :
  Calls Tryz.prog 158 #[.slice A xs.length c, .slice B ys.length d] w fun e w' => e = .returned (.bool (eqG xs ys)) ∧ Below w.heap.size w w' := by
 by_cases hl : xs.length = ys.length
 ·have hne : (((xs.length : Int)) != ((ys.length : Nat) : Int)) = false := by simp [hl]
  have hl' := Lib.hid hl
  have hlt2 : ∀ k, k < xs.length → k < ys.length := by rw [hl]; exact fun _ h => h
  clear hl
  go_enter Tryz.func158, Tryz.ntmps158
  go_wp2
  go_loopw [13] (fun i wr => ∃ k n : Nat, k ≤ xs.length ∧ i = .int .i64 k ∧ wr = w.drewN n ∧ Hid (xs.take k = ys.take k)) (fun i _ => xs.length - (intOf i).toNat)
  case atStart => exact ⟨0, 0, Nat.zero_le _, rfl, rfl, rfl⟩
  case round =>
   obtain ⟨k, n, hk, rfl, rfl, ht⟩ := hrel
   by_cases hlt : k < xs.length
   ·have hlty := hlt2 k hlt
    obtain ⟨b, o, rfl, _, hcv⟩ := hx.get2 (w := w) hlt
    obtain ⟨b2, o2, rfl, _, hcv2⟩ := hy.get2 (w := w) hlty
    obtain ⟨u, hu⟩ : ∃ u, xs[k]? = some u := ⟨xs[k]'hlt, List.getElem?_eq_getElem _⟩
    obtain ⟨v, hv⟩ : ∃ v, ys[k]? = some v := ⟨ys[k]'hlty, List.getElem?_eq_getElem _⟩
    obtain ⟨g0, g1⟩ := wv_get xs k u hu
    obtain ⟨p0, p1⟩ := wv_get ys k v hv
    have cu0 := hcv 0 _ (by omega) g0
    have cu1 := hcv 1 _ (by omega) g1
    have cv0 := hcv2 0 _ (by omega) p0
    have cv1 := hcv2 1 _ (by omega) p1
    rw [Nat.add_zero] at cu0 cv0
    clear g0 g1 p0 p1 hcv hcv2
    clear hlt2
    have hu' := Lib.hid hu
    have hv' := Lib.hid hv
    have hi : (k : Int) < (xs.length : Int) := by omega
    have hi2 : (k : Int) < (ys.length : Int) := by omega
    clear hu hv
    by_cases he : u = v
    ·have HT : Hid (xs.take (k + 1) = ys.take (k + 1)) := takeG_next hu'.out hv'.out ht.out he
     subst he
     go_wp2_with fail
     go_quiet (fail)
     go_wp2
     go_roundw
     case rel => exact ⟨k + 1, _, by omega, by go_num, rfl, HT⟩
     case measure => simp [intOf]; omega
    ·have HT : Hid (eqG xs ys = false) := eqG_false (neG_of hu'.out hv'.out he)
     by_cases h1 : u.1 = v.1
     ·have h2 : ¬ u.2 = v.2 := fun h => he (Prod.ext h1 h)
      clear he
      have h3 : (u.2 == v.2) = false := by rw [beq_eq_false_iff_ne]; exact h2
      go_wp2_with fail
      go_quiet (fail)
      go_wp2
      go_ret
      exact ⟨by rw [HT.out]; rfl, drewN_below (drewN_below (Below.refl _ _) _) _⟩
     ·have h3 := str_ne h1
      clear he h1
      go_wp2_with fail
      go_quiet (fail)
      go_wp2
      go_ret
      exact ⟨by rw [HT.out]; rfl, drewN_below (drewN_below (Below.refl _ _) _) _⟩
   ·have HT : Hid (eqG xs ys = true) := by rw [takeG_all (by omega) hl'.out ht.out]; exact eqG_same _
    go_wp2
    go_ret
    exact ⟨by rw [HT.out]; rfl, drewN_below (Below.refl _ _) _⟩
 ·have hne : (((xs.length : Int)) != ((ys.length : Nat) : Int)) = true := by
   simp only [bne_iff_ne, ne_eq, Int.natCast_inj]; exact hl
  have HT : Hid (eqG xs ys = false) := eqG_false (fun h => hl (by rw [h]))
  clear hl
  go_enter Tryz.func158, Tryz.ntmps158
  go_wp2
  go_ret
  exact ⟨by rw [HT.out]; rfl, Below.refl _ _⟩
end
section
open Go.RowKit
structure Fr (a : Act) (n ga gb k : Nat) (c : Bool) : Prop where
 sz : a.tmps.size = n
 df : a.defers = []
 t2 : a.eval (.tmp 2) = pz ga
 t3 : a.eval (.tmp 3) = pz gb
 tk : a.eval (.tmp k) = .bool c
theorem Fr.put {a : Act} {n ga gb k : Nat} {c : Bool} (h : Fr a n ga gb k c) (d : Nat) (hd : 3 < d) (hk : d ≠ k) (v : Value) : Fr (a.put (some d) v) n ga gb k c :=
 ⟨by rw [Act.size_put, h.sz], by rw [Act.defers_put', h.df], by rw [Act.eval_put_ne _ _ _ _ (by omega), h.t2], by rw [Act.eval_put_ne _ _ _ _ (by omega), h.t3], by rw [Act.eval_put_ne _ _ _ _ hk, h.tk]⟩
theorem Fr.res {a : Act} {n ga gb k : Nat} {c : Bool} (h : Fr a n ga gb k c) (d : Nat) (hd : 3 < d) (hn : d < n) (b : Bool) : Fr (a.put (some d) (.bool b)) n ga gb d b :=
 ⟨by rw [Act.size_put, h.sz], by rw [Act.defers_put', h.df], by rw [Act.eval_put_ne _ _ _ _ (by omega), h.t2], by rw [Act.eval_put_ne _ _ _ _ (by omega), h.t3], Act.eval_put_same _ _ _ (by rw [h.sz]; exact hn)⟩
section
variable {P : Program} {ops : Array Oper} {rest : List Oper} {a : Act} {w : World} {Q : Exit → Act → World → Prop} {n ga gb k j d0 d1 d2 d3 d4 d5 d6 S T T' f off : Nat} {c e : Bool} {va vb : Value}
 {y0 y1 y2 y3 y4 y5 y6 : TypeId} {p0 p1 p2 p3 p4 p5 p6 : String} {f0 f1 f2 f3 f4 f5 f6 : Array Edge}
theorem wpList_link (hF : Fr a n ga gb k c) (hk : 3 < k) (hd0 : d0 = k + 1) (hd1 : d1 = k + 2) (hd2 : d2 = k + 3) (hd3 : d3 = k + 4) (hd4 : d4 = k + 5) (hd5 : d5 = k + 6) (hd6 : d6 = k + 7) (hn : k + 7 < n)
  (hj : (ops[j]?).bind (·.dst) = some d0)
  (hf : ∀ g w, (Instr.fieldAt S (pz g) f).run P w = .ok (.pointer (some ⟨g, off, none⟩)) w)
  (ha : (Instr.loadAt T (.pointer (some ⟨ga, off, none⟩))).run P w = .ok va w) (hb : (Instr.loadAt T (.pointer (some ⟨gb, off, none⟩))).run P w = .ok vb w)
  (hq : (do eqGuard .eql T (.tmp d2) (.tmp d4) va vb; binOp .eql T va vb : Sem Value).run P w = .ok (.bool e) w)
  (h : ∀ a', Fr a' n ga gb d6 (c && e) → wpList P ops Q rest a' w) :
  wpList P ops Q (⟨some d0, .move (.tmp k), y0, p0, f0, none⟩ :: ⟨some d1, .fieldAddr S (.tmp 2) f, y1, p1, f1, some (j, true)⟩ :: ⟨some d2, .load T (.tmp d1), y2, p2, f2, some (j, true)⟩ ::
   ⟨some d3, .fieldAddr S (.tmp 3) f, y3, p3, f3, some (j, true)⟩ :: ⟨some d4, .load T (.tmp d3), y4, p4, f4, some (j, true)⟩ ::
   ⟨some d5, .binOp .eql T (.tmp d2) (.tmp d4) T', y5, p5, f5, some (j, true)⟩ :: ⟨some d6, .pick (.tmp d0) (.tmp d5) (.const (.bool false)), y6, p6, f6, none⟩ :: rest) a w := by
 have run1 : ∀ (v : Value), (pure (.value v) : Sem Next).run P w = .ok (.value v) w := fun v => rfl
 refine wpList_go (wanted_none rfl _) d0 rfl (.bool c) w (by rw [← hF.tk]; rfl) ?_
 have F0 := hF.res d0 (by omega) (by omega) c
 generalize a.put (some d0) (.bool c) = a0 at F0
 have pick : ∀ (a5 : Act) (ee : Bool), Fr a5 n ga gb d0 c → a5.eval (.tmp d5) = .bool ee ∨ (c = false) → (c = true → ee = e) →
   wpList P ops Q (⟨some d6, .pick (.tmp d0) (.tmp d5) (.const (.bool false)), y6, p6, f6, none⟩ :: rest) a5 w := by
  intro a5 ee F5 h5 hee
  refine wpList_go (wanted_none rfl _) d6 rfl (.bool (c && e)) w ?_ (h _ (F5.res d6 (by omega) (by omega) (c && e)))
  unfold execOp
  simp only [F5.tk]
  cases c with
  | false => rfl
  | true =>
   rcases h5 with h5 | h5
   ·rw [h5, hee rfl]
    rfl
   ·cases h5
 cases c with
 | false =>
  have wf : ∀ (aa : Act) (o : Oper), o.guard = some (j, true) → Fr aa n ga gb d0 false → Region.wanted o (yielded ops aa.tmps) = false := fun aa o ho hFF => wanted_of ho (yielded_of hj hFF.tk)
  have F1 := F0.put d1 (by omega) (by omega) undef
  have F2 := F1.put d2 (by omega) (by omega) undef
  have F3 := F2.put d3 (by omega) (by omega) undef
  have F4 := F3.put d4 (by omega) (by omega) undef
  have F5 := F4.put d5 (by omega) (by omega) undef
  refine wpList_off (wf _ _ rfl F0) d1 rfl (wpList_off (wf _ _ rfl F1) d2 rfl (wpList_off (wf _ _ rfl F2) d3 rfl (wpList_off (wf _ _ rfl F3) d4 rfl (wpList_off (wf _ _ rfl F4) d5 rfl ?_))))
  exact pick _ e F5 (.inr rfl) (fun h => rfl)
 | true =>
  have wt : ∀ (aa : Act) (o : Oper), o.guard = some (j, true) → Fr aa n ga gb d0 true → Region.wanted o (yielded ops aa.tmps) = true := fun aa o ho hFF => wanted_of ho (yielded_of hj hFF.tk)
  have F1 := F0.put d1 (by omega) (by omega) (.pointer (some ⟨ga, off, none⟩))
  have e1 : (a0.put (some d1) (.pointer (some ⟨ga, off, none⟩))).eval (.tmp d1) = _ := Act.eval_put_same _ _ _ (by rw [F0.sz]; omega)
  refine wpList_go (wt _ _ rfl F0) d1 rfl (.pointer (some ⟨ga, off, none⟩)) w ?_ ?_
  ·unfold execOp
   simp only [F0.t2, Sem.run_bind, hf, Result.andThen_ok, Sem.run_pure]
  generalize a0.put (some d1) (.pointer (some ⟨ga, off, none⟩)) = a1 at F1 e1
  have F2 := F1.put d2 (by omega) (by omega) va
  have e2 : (a1.put (some d2) va).eval (.tmp d2) = _ := Act.eval_put_same _ _ _ (by rw [F1.sz]; omega)
  refine wpList_go (wt _ _ rfl F1) d2 rfl va w ?_ ?_
  ·unfold execOp
   simp only [e1, Sem.run_bind, ha, Result.andThen_ok, Sem.run_pure]
  generalize a1.put (some d2) va = a2 at F2 e2
  have F3 := F2.put d3 (by omega) (by omega) (.pointer (some ⟨gb, off, none⟩))
  have e3 : (a2.put (some d3) (.pointer (some ⟨gb, off, none⟩))).eval (.tmp d3) = _ := Act.eval_put_same _ _ _ (by rw [F2.sz]; omega)
  have e32 : (a2.put (some d3) (.pointer (some ⟨gb, off, none⟩))).eval (.tmp d2) = va := by rw [Act.eval_put_ne _ _ _ _ (by omega), e2]
  refine wpList_go (wt _ _ rfl F2) d3 rfl (.pointer (some ⟨gb, off, none⟩)) w ?_ ?_
  ·unfold execOp
   simp only [F2.t3, Sem.run_bind, hf, Result.andThen_ok, Sem.run_pure]
  generalize a2.put (some d3) (.pointer (some ⟨gb, off, none⟩)) = a3 at F3 e3 e32
  have F4 := F3.put d4 (by omega) (by omega) vb
  have e4 : (a3.put (some d4) vb).eval (.tmp d4) = _ := Act.eval_put_same _ _ _ (by rw [F3.sz]; omega)
  have e42 : (a3.put (some d4) vb).eval (.tmp d2) = va := by rw [Act.eval_put_ne _ _ _ _ (by omega), e32]
  refine wpList_go (wt _ _ rfl F3) d4 rfl vb w ?_ ?_
  ·unfold execOp
   simp only [e3, Sem.run_bind, hb, Result.andThen_ok, Sem.run_pure]
  generalize a3.put (some d4) vb = a4 at F4 e4 e42
  have F5 := F4.put d5 (by omega) (by omega) (.bool e)
  refine wpList_go (wt _ _ rfl F4) d5 rfl (.bool e) w ?_ ?_
  ·unfold execOp
   rw [Sem.run_bind] at hq
   simp only [e42, e4, Sem.run_bind, hq, Result.andThen_ok, Sem.run_pure]
  exact pick _ e F5 (.inl (Act.eval_put_same _ _ _ (by rw [F4.sz]; omega))) (fun _ => rfl)
theorem wpList_linkC {fn : FuncId} {ats : Array TypeId} (hF : Fr a n ga gb k c) (hk : 3 < k) (hd0 : d0 = k + 1) (hd1 : d1 = k + 2) (hd2 : d2 = k + 3) (hd3 : d3 = k + 4) (hd4 : d4 = k + 5) (hd5 : d5 = k + 6) (hd6 : d6 = k + 7) (hn : k + 7 < n)
  (hj : (ops[j]?).bind (·.dst) = some d0)
  (hf : ∀ g w, (Instr.fieldAt S (pz g) f).run P w = .ok (.pointer (some ⟨g, off, none⟩)) w)
  (ha : (Instr.loadAt T (.pointer (some ⟨ga, off, none⟩))).run P w = .ok va w) (hb : (Instr.loadAt T (.pointer (some ⟨gb, off, none⟩))).run P w = .ok vb w)
  (hen : ∀ (args : Array Value) (w : World), (callFunc fn args).run P w = .ok (.enter fn args) w)
  (hq : Calls P fn #[va, vb] w fun r w' => r = .returned (.bool e) ∧ Below w.heap.size w w')
  (h : ∀ a' w', Fr a' n ga gb d6 (c && e) → Below w.heap.size w w' → wpList P ops Q rest a' w') :
  wpList P ops Q (⟨some d0, .move (.tmp k), y0, p0, f0, none⟩ :: ⟨some d1, .fieldAddr S (.tmp 2) f, y1, p1, f1, some (j, true)⟩ :: ⟨some d2, .load T (.tmp d1), y2, p2, f2, some (j, true)⟩ ::
   ⟨some d3, .fieldAddr S (.tmp 3) f, y3, p3, f3, some (j, true)⟩ :: ⟨some d4, .load T (.tmp d3), y4, p4, f4, some (j, true)⟩ ::
   ⟨some d5, .call { callee := .value (.func fn), args := #[.tmp d2, .tmp d4], argTypes := ats }, y5, p5, f5, some (j, true)⟩ :: ⟨some d6, .pick (.tmp d0) (.tmp d5) (.const (.bool false)), y6, p6, f6, none⟩ :: rest) a w := by
 have hw0 : Below w.heap.size w w := Below.refl _ _
 obtain ⟨w0, hw0e⟩ : ∃ w0 : World, w0 = w := ⟨_, rfl⟩
 rw [← hw0e] at hq h hw0
 refine wpList_go (wanted_none rfl _) d0 rfl (.bool c) w (by rw [← hF.tk]; rfl) ?_
 have F0 := hF.res d0 (by omega) (by omega) c
 generalize a.put (some d0) (.bool c) = a0 at F0
 have pick : ∀ (a5 : Act) (w : World) (ee : Bool) (hB : Below w0.heap.size w0 w), Fr a5 n ga gb d0 c → a5.eval (.tmp d5) = .bool ee ∨ (c = false) → (c = true → ee = e) →
   wpList P ops Q (⟨some d6, .pick (.tmp d0) (.tmp d5) (.const (.bool false)), y6, p6, f6, none⟩ :: rest) a5 w := by
  intro a5 w ee hB F5 h5 hee
  refine wpList_go (wanted_none rfl _) d6 rfl (.bool (c && e)) w ?_ (h _ _ (F5.res d6 (by omega) (by omega) (c && e)) hB)
  unfold execOp
  simp only [F5.tk]
  cases c with
  | false => rfl
  | true =>
   rcases h5 with h5 | h5
   ·rw [h5, hee rfl]
    rfl
   ·cases h5
 cases c with
 | false =>
  have wf : ∀ (aa : Act) (o : Oper), o.guard = some (j, true) → Fr aa n ga gb d0 false → Region.wanted o (yielded ops aa.tmps) = false := fun aa o ho hFF => wanted_of ho (yielded_of hj hFF.tk)
  have F1 := F0.put d1 (by omega) (by omega) undef
  have F2 := F1.put d2 (by omega) (by omega) undef
  have F3 := F2.put d3 (by omega) (by omega) undef
  have F4 := F3.put d4 (by omega) (by omega) undef
  have F5 := F4.put d5 (by omega) (by omega) undef
  refine wpList_off (wf _ _ rfl F0) d1 rfl (wpList_off (wf _ _ rfl F1) d2 rfl (wpList_off (wf _ _ rfl F2) d3 rfl (wpList_off (wf _ _ rfl F3) d4 rfl (wpList_off (wf _ _ rfl F4) d5 rfl ?_))))
  exact pick _ w e (by rw [← hw0e]; exact hw0) F5 (.inr rfl) (fun h => rfl)
 | true =>
  have wt : ∀ (aa : Act) (o : Oper), o.guard = some (j, true) → Fr aa n ga gb d0 true → Region.wanted o (yielded ops aa.tmps) = true := fun aa o ho hFF => wanted_of ho (yielded_of hj hFF.tk)
  have F1 := F0.put d1 (by omega) (by omega) (.pointer (some ⟨ga, off, none⟩))
  have e1 : (a0.put (some d1) (.pointer (some ⟨ga, off, none⟩))).eval (.tmp d1) = _ := Act.eval_put_same _ _ _ (by rw [F0.sz]; omega)
  refine wpList_go (wt _ _ rfl F0) d1 rfl (.pointer (some ⟨ga, off, none⟩)) w ?_ ?_
  ·unfold execOp
   simp only [F0.t2, Sem.run_bind, hf, Result.andThen_ok, Sem.run_pure]
  generalize a0.put (some d1) (.pointer (some ⟨ga, off, none⟩)) = a1 at F1 e1
  have F2 := F1.put d2 (by omega) (by omega) va
  have e2 : (a1.put (some d2) va).eval (.tmp d2) = _ := Act.eval_put_same _ _ _ (by rw [F1.sz]; omega)
  refine wpList_go (wt _ _ rfl F1) d2 rfl va w ?_ ?_
  ·unfold execOp
   simp only [e1, Sem.run_bind, ha, Result.andThen_ok, Sem.run_pure]
  generalize a1.put (some d2) va = a2 at F2 e2
  have F3 := F2.put d3 (by omega) (by omega) (.pointer (some ⟨gb, off, none⟩))
  have e3 : (a2.put (some d3) (.pointer (some ⟨gb, off, none⟩))).eval (.tmp d3) = _ := Act.eval_put_same _ _ _ (by rw [F2.sz]; omega)
  have e32 : (a2.put (some d3) (.pointer (some ⟨gb, off, none⟩))).eval (.tmp d2) = va := by rw [Act.eval_put_ne _ _ _ _ (by omega), e2]
  refine wpList_go (wt _ _ rfl F2) d3 rfl (.pointer (some ⟨gb, off, none⟩)) w ?_ ?_
  ·unfold execOp
   simp only [F2.t3, Sem.run_bind, hf, Result.andThen_ok, Sem.run_pure]
  generalize a2.put (some d3) (.pointer (some ⟨gb, off, none⟩)) = a3 at F3 e3 e32
  have F4 := F3.put d4 (by omega) (by omega) vb
  have e4 : (a3.put (some d4) vb).eval (.tmp d4) = _ := Act.eval_put_same _ _ _ (by rw [F3.sz]; omega)
  have e42 : (a3.put (some d4) vb).eval (.tmp d2) = va := by rw [Act.eval_put_ne _ _ _ _ (by omega), e32]
  refine wpList_go (wt _ _ rfl F3) d4 rfl vb w ?_ ?_
  ·unfold execOp
   simp only [e3, Sem.run_bind, hb, Result.andThen_ok, Sem.run_pure]
  generalize a3.put (some d4) vb = a4 at F4 e4 e42
  have F5 := F4.put d5 (by omega) (by omega) (.bool e)
  refine wpList_enter (wt _ _ rfl F4) d5 rfl fn #[va, vb] ?_ (fun v w' => v = .bool e ∧ Below w0.heap.size w0 w') (by rw [← hw0e]; exact hq.mono fun _ _ h => ⟨_, h.1, rfl, h.2⟩) ?_
  ·rw [execOp_call_go, hen]
   simp [e42, e4]
  rintro v w' ⟨rfl, hB⟩
  exact pick _ w' e hB F5 (.inl (Act.eval_put_same _ _ _ (by rw [F4.sz]; omega))) (fun _ => rfl)
theorem wpList_link0 (hsz : a.tmps.size = n) (hdf : a.defers = []) (ht2 : a.eval (.tmp 2) = pz ga) (ht3 : a.eval (.tmp 3) = pz gb)
  (hk : 3 < d1) (hd2 : d2 = d1 + 1) (hd3 : d3 = d1 + 2) (hd4 : d4 = d1 + 3) (hd5 : d5 = d1 + 4) (hn : d1 + 4 < n)
  (hf : ∀ g w, (Instr.fieldAt S (pz g) f).run P w = .ok (.pointer (some ⟨g, off, none⟩)) w)
  (ha : (Instr.loadAt T (.pointer (some ⟨ga, off, none⟩))).run P w = .ok va w) (hb : (Instr.loadAt T (.pointer (some ⟨gb, off, none⟩))).run P w = .ok vb w)
  (hq : (do eqGuard .eql T (.tmp d2) (.tmp d4) va vb; binOp .eql T va vb : Sem Value).run P w = .ok (.bool e) w)
  (h : ∀ a', Fr a' n ga gb d5 e → wpList P ops Q rest a' w) :
  wpList P ops Q (⟨some d1, .fieldAddr S (.tmp 2) f, y1, p1, f1, none⟩ :: ⟨some d2, .load T (.tmp d1), y2, p2, f2, none⟩ ::
   ⟨some d3, .fieldAddr S (.tmp 3) f, y3, p3, f3, none⟩ :: ⟨some d4, .load T (.tmp d3), y4, p4, f4, none⟩ ::
   ⟨some d5, .binOp .eql T (.tmp d2) (.tmp d4) T', y5, p5, f5, none⟩ :: rest) a w := by
 obtain ⟨aa, haa⟩ : ∃ aa : Act, aa = a.put (some d1) (.bool true) := ⟨_, rfl⟩
 have FF : Fr aa n ga gb d1 true := by
  rw [haa]
  exact ⟨by rw [Act.size_put, hsz], by rw [Act.defers_put', hdf], by rw [Act.eval_put_ne _ _ _ _ (by omega), ht2], by rw [Act.eval_put_ne _ _ _ _ (by omega), ht3], Act.eval_put_same _ _ _ (by rw [hsz]; omega)⟩
 have z1 : (a.put (some d1) (.pointer (some ⟨ga, off, none⟩))).tmps.size = n := by rw [Act.size_put, hsz]
 have g1 : (a.put (some d1) (.pointer (some ⟨ga, off, none⟩))).defers = [] := by rw [Act.defers_put', hdf]
 have u1 : (a.put (some d1) (.pointer (some ⟨ga, off, none⟩))).eval (.tmp 2) = _ := (Act.eval_put_ne _ _ _ _ (by omega)).trans ht2
 have v1 : (a.put (some d1) (.pointer (some ⟨ga, off, none⟩))).eval (.tmp 3) = _ := (Act.eval_put_ne _ _ _ _ (by omega)).trans ht3
 have e1 : (a.put (some d1) (.pointer (some ⟨ga, off, none⟩))).eval (.tmp d1) = _ := Act.eval_put_same _ _ _ (by rw [hsz]; omega)
 refine wpList_go (wanted_none rfl _) d1 rfl (.pointer (some ⟨ga, off, none⟩)) w ?_ ?_
 ·unfold execOp
  simp only [ht2, Sem.run_bind, hf, Result.andThen_ok, Sem.run_pure]
 generalize a.put (some d1) (.pointer (some ⟨ga, off, none⟩)) = a1 at *
 have z2 : (a1.put (some d2) va).tmps.size = n := by rw [Act.size_put, z1]
 have g2 : (a1.put (some d2) va).defers = [] := by rw [Act.defers_put', g1]
 have u2 : (a1.put (some d2) va).eval (.tmp 2) = _ := (Act.eval_put_ne _ _ _ _ (by omega)).trans u1
 have v2 : (a1.put (some d2) va).eval (.tmp 3) = _ := (Act.eval_put_ne _ _ _ _ (by omega)).trans v1
 have e2 : (a1.put (some d2) va).eval (.tmp d2) = _ := Act.eval_put_same _ _ _ (by rw [z1]; omega)
 refine wpList_go (wanted_none rfl _) d2 rfl va w ?_ ?_
 ·unfold execOp
  simp only [e1, Sem.run_bind, ha, Result.andThen_ok, Sem.run_pure]
 generalize a1.put (some d2) va = a2 at *
 have z3 : (a2.put (some d3) (.pointer (some ⟨gb, off, none⟩))).tmps.size = n := by rw [Act.size_put, z2]
 have g3 : (a2.put (some d3) (.pointer (some ⟨gb, off, none⟩))).defers = [] := by rw [Act.defers_put', g2]
 have u3 : (a2.put (some d3) (.pointer (some ⟨gb, off, none⟩))).eval (.tmp 2) = _ := (Act.eval_put_ne _ _ _ _ (by omega)).trans u2
 have v3 : (a2.put (some d3) (.pointer (some ⟨gb, off, none⟩))).eval (.tmp 3) = _ := (Act.eval_put_ne _ _ _ _ (by omega)).trans v2
 have e3 : (a2.put (some d3) (.pointer (some ⟨gb, off, none⟩))).eval (.tmp d3) = _ := Act.eval_put_same _ _ _ (by rw [z2]; omega)
 have e32 : (a2.put (some d3) (.pointer (some ⟨gb, off, none⟩))).eval (.tmp d2) = va := (Act.eval_put_ne _ _ _ _ (by omega)).trans e2
 refine wpList_go (wanted_none rfl _) d3 rfl (.pointer (some ⟨gb, off, none⟩)) w ?_ ?_
 ·unfold execOp
  simp only [v2, Sem.run_bind, hf, Result.andThen_ok, Sem.run_pure]
 generalize a2.put (some d3) (.pointer (some ⟨gb, off, none⟩)) = a3 at *
 have z4 : (a3.put (some d4) vb).tmps.size = n := by rw [Act.size_put, z3]
 have g4 : (a3.put (some d4) vb).defers = [] := by rw [Act.defers_put', g3]
 have u4 : (a3.put (some d4) vb).eval (.tmp 2) = _ := (Act.eval_put_ne _ _ _ _ (by omega)).trans u3
 have v4 : (a3.put (some d4) vb).eval (.tmp 3) = _ := (Act.eval_put_ne _ _ _ _ (by omega)).trans v3
 have e4 : (a3.put (some d4) vb).eval (.tmp d4) = _ := Act.eval_put_same _ _ _ (by rw [z3]; omega)
 have e42 : (a3.put (some d4) vb).eval (.tmp d2) = va := (Act.eval_put_ne _ _ _ _ (by omega)).trans e32
 refine wpList_go (wanted_none rfl _) d4 rfl vb w ?_ ?_
 ·unfold execOp
  simp only [e3, Sem.run_bind, hb, Result.andThen_ok, Sem.run_pure]
 generalize a3.put (some d4) vb = a4 at *
 refine wpList_go (wanted_none rfl _) d5 rfl (.bool e) w ?_ ?_
 ·unfold execOp
  rw [Sem.run_bind] at hq
  simp only [e42, e4, Sem.run_bind, hq, Result.andThen_ok, Sem.run_pure]
 refine h _ ⟨by rw [Act.size_put, z4], by rw [Act.defers_put', g4], (Act.eval_put_ne _ _ _ _ (by omega)).trans u4, (Act.eval_put_ne _ _ _ _ (by omega)).trans v4, Act.eval_put_same _ _ _ (by rw [z4]; omega)⟩
end
end
section
open Go.RowKit
theorem field_0 (g : Nat) (w : World) : (Instr.fieldAt 49 (pz g) 0).run Tryz.prog w = .ok (pz g) w := by kernel_rfl
theorem field_1 (g : Nat) (w : World) : (Instr.fieldAt 49 (pz g) 1).run Tryz.prog w = .ok (.pointer (some ⟨g, 1, none⟩)) w := by kernel_rfl
theorem field_2 (g : Nat) (w : World) : (Instr.fieldAt 49 (pz g) 2).run Tryz.prog w = .ok (.pointer (some ⟨g, 2, none⟩)) w := by kernel_rfl
theorem field_3 (g : Nat) (w : World) : (Instr.fieldAt 49 (pz g) 3).run Tryz.prog w = .ok (.pointer (some ⟨g, 3, none⟩)) w := by kernel_rfl
theorem field_4 (g : Nat) (w : World) : (Instr.fieldAt 49 (pz g) 4).run Tryz.prog w = .ok (.pointer (some ⟨g, 4, none⟩)) w := by kernel_rfl
theorem field_5 (g : Nat) (w : World) : (Instr.fieldAt 49 (pz g) 5).run Tryz.prog w = .ok (.pointer (some ⟨g, 9, none⟩)) w := by kernel_rfl
theorem field_6 (g : Nat) (w : World) : (Instr.fieldAt 49 (pz g) 6).run Tryz.prog w = .ok (.pointer (some ⟨g, 10, none⟩)) w := by kernel_rfl
theorem field_7 (g : Nat) (w : World) : (Instr.fieldAt 49 (pz g) 7).run Tryz.prog w = .ok (.pointer (some ⟨g, 11, none⟩)) w := by kernel_rfl
theorem field_8 (g : Nat) (w : World) : (Instr.fieldAt 49 (pz g) 8).run Tryz.prog w = .ok (.pointer (some ⟨g, 12, none⟩)) w := by kernel_rfl
theorem field_9 (g : Nat) (w : World) : (Instr.fieldAt 49 (pz g) 9).run Tryz.prog w = .ok (.pointer (some ⟨g, 13, none⟩)) w := by kernel_rfl
theorem field_10 (g : Nat) (w : World) : (Instr.fieldAt 49 (pz g) 10).run Tryz.prog w = .ok (.pointer (some ⟨g, 14, none⟩)) w := by kernel_rfl
theorem field_11 (g : Nat) (w : World) : (Instr.fieldAt 49 (pz g) 11).run Tryz.prog w = .ok (.pointer (some ⟨g, 15, none⟩)) w := by kernel_rfl
theorem field_12 (g : Nat) (w : World) : (Instr.fieldAt 49 (pz g) 12).run Tryz.prog w = .ok (.pointer (some ⟨g, 16, none⟩)) w := by kernel_rfl
theorem field_13 (g : Nat) (w : World) : (Instr.fieldAt 49 (pz g) 13).run Tryz.prog w = .ok (.pointer (some ⟨g, 17, none⟩)) w := by kernel_rfl
theorem field_14 (g : Nat) (w : World) : (Instr.fieldAt 49 (pz g) 14).run Tryz.prog w = .ok (.pointer (some ⟨g, 18, none⟩)) w := by kernel_rfl
theorem field_15 (g : Nat) (w : World) : (Instr.fieldAt 49 (pz g) 15).run Tryz.prog w = .ok (.pointer (some ⟨g, 19, none⟩)) w := by kernel_rfl
theorem field_16 (g : Nat) (w : World) : (Instr.fieldAt 49 (pz g) 16).run Tryz.prog w = .ok (.pointer (some ⟨g, 20, none⟩)) w := by kernel_rfl
theorem field_17 (g : Nat) (w : World) : (Instr.fieldAt 49 (pz g) 17).run Tryz.prog w = .ok (.pointer (some ⟨g, 21, none⟩)) w := by kernel_rfl
theorem field_18 (g : Nat) (w : World) : (Instr.fieldAt 49 (pz g) 18).run Tryz.prog w = .ok (.pointer (some ⟨g, 22, none⟩)) w := by kernel_rfl
theorem field_19 (g : Nat) (w : World) : (Instr.fieldAt 49 (pz g) 19).run Tryz.prog w = .ok (.pointer (some ⟨g, 23, none⟩)) w := by kernel_rfl
theorem load_will (g : Nat) (l : List Value) (a : Bool) (b c : ByteArray) (d : Int) (e : Bool) (w : World) (hC : Cells w g l) (h4 : l[4]? = some (.bool a)) (h5 : l[5]? = some (.string b)) (h6 : l[6]? = some (.string c)) (h7 : l[7]? = some (iz d)) (h8 : l[8]? = some (.bool e)) :
  (Instr.loadAt 44 (.pointer (some ⟨g, 4, none⟩))).run Tryz.prog w = .ok (.agg #[.bool a, .string b, .string c, iz d, .bool e]) w := by
 have c4 := hC.get 4 _ h4
 have c5 := hC.get 5 _ h5
 have c6 := hC.get 6 _ h6
 have c7 := hC.get 7 _ h7
 have c8 := hC.get 8 _ h8
 simp [go_sem, c4, c5, c6, c7, c8]
theorem eql_w (a a' : Bool) (b b' c c' : ByteArray) (d d' : Int) (e e' : Bool) (x y : Operand) (w : World) : (do eqGuard .eql 44 x y (.agg #[.bool a, .string b, .string c, iz d, .bool e]) (.agg #[.bool a', .string b', .string c', iz d', .bool e']); binOp .eql 44 (.agg #[.bool a, .string b, .string c, iz d, .bool e]) (.agg #[.bool a', .string b', .string c', iz d', .bool e']) : Sem Value).run Tryz.prog w =
  .ok (.bool (a == a' && (b.toList == b'.toList && (c.toList == c'.toList && (d == d' && e == e'))))) w := by
 simp [go_sem]
 by_cases h1 : a = a'
 ·by_cases h2 : b.toList = b'.toList
  ·by_cases h3 : c.toList = c'.toList
   ·by_cases h4 : d = d'
    ·by_cases h5 : e = e' <;> simp [h1, h2, h3, h4, h5]
    ·simp [h1, h2, h3, h4]
   ·simp [h1, h2, h3]
  ·simp [h1, h2]
 ·simp [h1]
theorem ent_slInts (args : Array Value) (w : World) : (callFunc 157 args).run Tryz.prog w = .ok (.enter 157 args) w := by kernel_rfl
theorem ent_eqInts (args : Array Value) (w : World) : (callFunc 102 args).run Tryz.prog w = .ok (.enter 102 args) w := by kernel_rfl
theorem ent_slWishes (args : Array Value) (w : World) : (callFunc 158 args).run Tryz.prog w = .ok (.enter 158 args) w := by kernel_rfl
theorem ent_eqWishes (args : Array Value) (w : World) : (callFunc 103 args).run Tryz.prog w = .ok (.enter 103 args) w := by kernel_rfl
theorem ent_slStrs (args : Array Value) (w : World) : (callFunc 159 args).run Tryz.prog w = .ok (.enter 159 args) w := by kernel_rfl
theorem ent_eqStrs (args : Array Value) (w : World) : (callFunc 104 args).run Tryz.prog w = .ok (.enter 104 args) w := by kernel_rfl
end
section
open Go.RowKit
def Mq.same (a b : Mq) : Bool := ((a.kind == b.kind) && ((a.client.toList == b.client.toList) && ((a.clean == b.clean) && ((a.keep == b.keep) && ((a.won == b.won) && ((a.wt.toList == b.wt.toList) && ((a.wp.toList == b.wp.toList) && ((a.wq == b.wq) && ((a.wr == b.wr) && ((a.user.toList == b.user.toList) && ((a.hu == b.hu) && ((a.pass.toList == b.pass.toList) && ((a.hp == b.hp) && ((a.present == b.present) && ((a.code == b.code) && (eqG a.codes b.codes && ((a.dup == b.dup) && ((a.qos == b.qos) && ((a.retain == b.retain) && ((a.topic.toList == b.topic.toList) && ((a.id == b.id) && ((a.payload.toList == b.payload.toList) && (eqG a.wishes b.wishes && eqG a.filters b.filters)))))))))))))))))))))))
theorem str_eq {u v : ByteArray} (h : (u.toList == v.toList) = true) : u = v := by
 rw [beq_iff_eq, Lib.toList_data, Lib.toList_data] at h
 exact ByteArray.ext (Array.toList_inj.1 h)
theorem same_iff (a b : Mq) : Mq.same a b = true ↔ a = b := by
 constructor
 ·intro h
  unfold Mq.same at h
  simp only [Bool.and_eq_true] at h
  obtain ⟨h0, h1, h2, h3, h4, h5, h6, h7, h8, h9, h10, h11, h12, h13, h14, h15, h16, h17, h18, h19, h20, h21, h22, h23⟩ := h
  cases a
  cases b
  simp only [Mq.mk.injEq]
  exact ⟨by simpa using h0, str_eq h1, by simpa using h2, by simpa using h3, by simpa using h4, str_eq h5, str_eq h6, by simpa using h7, by simpa using h8, str_eq h9, by simpa using h10, str_eq h11, by simpa using h12, by simpa using h13, by simpa using h14, of_decide_eq_true h15, by simpa using h16, by simpa using h17, by simpa using h18, str_eq h19, by simpa using h20, str_eq h21, of_decide_eq_true h22, of_decide_eq_true h23⟩
 ·rintro rfl
  simp [Mq.same, eqG_same]
def MqL (w : World) (B : Nat) (m : Mq) (vc vw vf : Value) : Prop :=
 ∃ A1 c1 A2 c2 A3 c3, vc = .slice A1 m.codes.length c1 ∧ vw = .slice A2 m.wishes.length c2 ∧ vf = .slice A3 m.filters.length c3 ∧
  m.codes.length ≤ c1 ∧ m.wishes.length ≤ c2 ∧ m.filters.length ≤ c3 ∧ m.codes.length ≤ 140737488351232 ∧ m.wishes.length ≤ 140737488351232 ∧ m.filters.length ≤ 140737488351232 ∧
  Reads w B 1 A1 m.codes.length (m.codes.map iv) ∧ Reads w B 2 A2 m.wishes.length (wv m.wishes) ∧ Reads w B 1 A3 m.filters.length (m.filters.map sv)
theorem MqL.next {w w' : World} {m : Mq} {vc vw vf : Value} (h : MqL w w.heap.size m vc vw vf) (hb : Below w.heap.size w w') : MqL w' w'.heap.size m vc vw vf := by
 obtain ⟨A1, c1, A2, c2, A3, c3, e1, e2, e3, l1, l2, l3, k1, k2, k3, r1, r2, r3⟩ := h
 exact ⟨A1, c1, A2, c2, A3, c3, e1, e2, e3, l1, l2, l3, k1, k2, k3, (r1.below hb).more hb.size, (r2.below hb).more hb.size, (r3.below hb).more hb.size⟩
theorem Reads.next {w w' : World} {size n : Nat} {A : Option Addr} {xs : List Value} (h : Reads w w.heap.size size A n xs) (hb : Below w.heap.size w w') : Reads w' w'.heap.size size A n xs := (h.below hb).more hb.size
theorem packSame (a b : Mq) (va vwa vfa vb vwb vfb : Value) (w : World) (ha : MqL w w.heap.size a va vwa vfa) (hb : MqL w w.heap.size b vb vwb vfb) :
  Calls Tryz.prog 132 #[.agg (mqCells a va vwa vfa).toArray, .agg (mqCells b vb vwb vfb).toArray] w fun e w' => e = .returned (.bool (Mq.same a b)) ∧ Below w.heap.size w w' := by
 obtain ⟨A1, p1, A2, p2, A3, p3, rfl, rfl, rfl, _, _, _, k1, k2, k3, r1, r2, r3⟩ := ha
 obtain ⟨B1, q1, B2, q2, B3, q3, rfl, rfl, rfl, _, _, _, _, _, _, s1, s2, s3⟩ := hb
 have K1 := Lib.hid (fun w1 h => slInts a.codes b.codes A1 B1 p1 q1 w1 (r1.next h) (s1.next h) (by omega))
 have K2 := Lib.hid (fun w1 h => slWishes a.wishes b.wishes A2 B2 p2 q2 w1 (r2.next h) (s2.next h) (by omega))
 have K3 := Lib.hid (fun w1 h => slStrs a.filters b.filters A3 B3 p3 q3 w1 (r3.next h) (s3.next h) (by omega))
 clear r1 r2 r3 s1 s2 s3 k1 k2 k3
 have tok1 : True := trivial
 have tok2 : True := trivial
 go_enter Tryz.func132, Tryz.ntmps132
 go_upto_region 1 with (first
  | (have _t := tok1; (with_reducible refine wpList_box_cells ?_ 49 (.tmp 0) ?_ (mqCells a (.slice A1 a.codes.length p1) (.slice A2 a.wishes.length p2) (.slice A3 a.filters.length p3)) ?_ w.heap.size ?_ ?_); exact rfl; exact rfl; exact rfl; exact rfl; intro w1 hb1 hs1 hC1; have HS1 := Lib.hid hs1; have HC1 := Lib.hid hC1; have HB1 := Lib.hid hb1; clear tok1 _t hs1 hC1 hb1)
  | (have _t := tok2; have _s := HS1; (with_reducible refine wpList_box_cells ?_ 49 (.tmp 1) ?_ (mqCells b (.slice B1 b.codes.length q1) (.slice B2 b.wishes.length q2) (.slice B3 b.filters.length q3)) ?_ (w.heap.size + 1) ?_ ?_); exact rfl; exact rfl; exact rfl; exact HS1.out; intro w2 hb2 hs2 hC2; have HA2 := Lib.hid (HC1.out.below hb2 (Nat.lt_succ_self _)); have HB2 := Lib.hid hC2; have HW2 := Lib.hid (HB1.out.trans (hb2.mono (Nat.le_succ _))); have HLa2 := Lib.hid (show w.heap.size < w2.heap.size by omega); have HLb2 := Lib.hid (show w.heap.size + 1 < w2.heap.size by omega); clear tok2 _t _s hs2 hC2 hb2))
 rename_i K hK
 refine wp_region_list ?_
 refine wpList_link0 (n := 143) (ga := w.heap.size) (gb := w.heap.size + 1) rfl rfl rfl rfl (by decide) rfl rfl rfl rfl (by decide) field_0 (load1_i _ _ _ _ (HA2.out.get 0 _ rfl)) (load1_i _ _ _ _ (HB2.out.get 0 _ rfl)) (eql_i _ _ _ _ _) ?_
 intro a1 F1
 refine wpList_link F1 (by decide) rfl rfl rfl rfl rfl rfl rfl (by decide) (by kernel_rfl) field_1 (load1_s _ _ _ _ (HA2.out.get 1 _ rfl)) (load1_s _ _ _ _ (HB2.out.get 1 _ rfl)) (eql_s _ _ _ _ _) ?_
 intro a2 F2
 refine wpList_link F2 (by decide) rfl rfl rfl rfl rfl rfl rfl (by decide) (by kernel_rfl) field_2 (load1_b _ _ _ _ (HA2.out.get 2 _ rfl)) (load1_b _ _ _ _ (HB2.out.get 2 _ rfl)) (eql_b _ _ _ _ _) ?_
 intro a3 F3
 refine wpList_link F3 (by decide) rfl rfl rfl rfl rfl rfl rfl (by decide) (by kernel_rfl) field_3 (load1_i _ _ _ _ (HA2.out.get 3 _ rfl)) (load1_i _ _ _ _ (HB2.out.get 3 _ rfl)) (eql_i _ _ _ _ _) ?_
 intro a4 F4
 refine wpList_link F4 (by decide) rfl rfl rfl rfl rfl rfl rfl (by decide) (by kernel_rfl) field_4 (load_will _ _ _ _ _ _ _ _ HA2.out rfl rfl rfl rfl rfl) (load_will _ _ _ _ _ _ _ _ HB2.out rfl rfl rfl rfl rfl) (eql_w _ _ _ _ _ _ _ _ _ _ _ _ _) ?_
 intro a5 F5
 refine wpList_link F5 (by decide) rfl rfl rfl rfl rfl rfl rfl (by decide) (by kernel_rfl) field_5 (load1_s _ _ _ _ (HA2.out.get 9 _ rfl)) (load1_s _ _ _ _ (HB2.out.get 9 _ rfl)) (eql_s _ _ _ _ _) ?_
 intro a6 F6
 refine wpList_link F6 (by decide) rfl rfl rfl rfl rfl rfl rfl (by decide) (by kernel_rfl) field_6 (load1_b _ _ _ _ (HA2.out.get 10 _ rfl)) (load1_b _ _ _ _ (HB2.out.get 10 _ rfl)) (eql_b _ _ _ _ _) ?_
 intro a7 F7
 refine wpList_link F7 (by decide) rfl rfl rfl rfl rfl rfl rfl (by decide) (by kernel_rfl) field_7 (load1_s _ _ _ _ (HA2.out.get 11 _ rfl)) (load1_s _ _ _ _ (HB2.out.get 11 _ rfl)) (eql_s _ _ _ _ _) ?_
 intro a8 F8
 refine wpList_link F8 (by decide) rfl rfl rfl rfl rfl rfl rfl (by decide) (by kernel_rfl) field_8 (load1_b _ _ _ _ (HA2.out.get 12 _ rfl)) (load1_b _ _ _ _ (HB2.out.get 12 _ rfl)) (eql_b _ _ _ _ _) ?_
 intro a9 F9
 refine wpList_link F9 (by decide) rfl rfl rfl rfl rfl rfl rfl (by decide) (by kernel_rfl) field_9 (load1_b _ _ _ _ (HA2.out.get 13 _ rfl)) (load1_b _ _ _ _ (HB2.out.get 13 _ rfl)) (eql_b _ _ _ _ _) ?_
 intro a10 F10
 refine wpList_link F10 (by decide) rfl rfl rfl rfl rfl rfl rfl (by decide) (by kernel_rfl) field_10 (load1_i _ _ _ _ (HA2.out.get 14 _ rfl)) (load1_i _ _ _ _ (HB2.out.get 14 _ rfl)) (eql_i _ _ _ _ _) ?_
 intro a11 F11
 refine wpList_linkC F11 (by decide) rfl rfl rfl rfl rfl rfl rfl (by decide) (by kernel_rfl) field_11 (load1_26 _ _ _ _ _ _ (HA2.out.get 15 _ rfl)) (load1_26 _ _ _ _ _ _ (HB2.out.get 15 _ rfl)) ent_slInts (K1.out w2 HW2.out) ?_
 intro a12 w3 F12 hx3
 have HW3 := Lib.hid (HW2.out.trans (hx3.mono HW2.out.size))
 have HA3 := Lib.hid (HA2.out.below hx3 HLa2.out)
 have HB3 := Lib.hid (HB2.out.below hx3 HLb2.out)
 have HLa3 := Lib.hid (Nat.lt_of_lt_of_le HLa2.out hx3.size)
 have HLb3 := Lib.hid (Nat.lt_of_lt_of_le HLb2.out hx3.size)
 clear hx3
 refine wpList_link F12 (by decide) rfl rfl rfl rfl rfl rfl rfl (by decide) (by kernel_rfl) field_12 (load1_b _ _ _ _ (HA3.out.get 16 _ rfl)) (load1_b _ _ _ _ (HB3.out.get 16 _ rfl)) (eql_b _ _ _ _ _) ?_
 intro a13 F13
 refine wpList_link F13 (by decide) rfl rfl rfl rfl rfl rfl rfl (by decide) (by kernel_rfl) field_13 (load1_i _ _ _ _ (HA3.out.get 17 _ rfl)) (load1_i _ _ _ _ (HB3.out.get 17 _ rfl)) (eql_i _ _ _ _ _) ?_
 intro a14 F14
 refine wpList_link F14 (by decide) rfl rfl rfl rfl rfl rfl rfl (by decide) (by kernel_rfl) field_14 (load1_b _ _ _ _ (HA3.out.get 18 _ rfl)) (load1_b _ _ _ _ (HB3.out.get 18 _ rfl)) (eql_b _ _ _ _ _) ?_
 intro a15 F15
 refine wpList_link F15 (by decide) rfl rfl rfl rfl rfl rfl rfl (by decide) (by kernel_rfl) field_15 (load1_s _ _ _ _ (HA3.out.get 19 _ rfl)) (load1_s _ _ _ _ (HB3.out.get 19 _ rfl)) (eql_s _ _ _ _ _) ?_
 intro a16 F16
 refine wpList_link F16 (by decide) rfl rfl rfl rfl rfl rfl rfl (by decide) (by kernel_rfl) field_16 (load1_i _ _ _ _ (HA3.out.get 20 _ rfl)) (load1_i _ _ _ _ (HB3.out.get 20 _ rfl)) (eql_i _ _ _ _ _) ?_
 intro a17 F17
 refine wpList_link F17 (by decide) rfl rfl rfl rfl rfl rfl rfl (by decide) (by kernel_rfl) field_17 (load1_s _ _ _ _ (HA3.out.get 21 _ rfl)) (load1_s _ _ _ _ (HB3.out.get 21 _ rfl)) (eql_s _ _ _ _ _) ?_
 intro a18 F18
 refine wpList_linkC F18 (by decide) rfl rfl rfl rfl rfl rfl rfl (by decide) (by kernel_rfl) field_18 (load1_27 _ _ _ _ _ _ (HA3.out.get 22 _ rfl)) (load1_27 _ _ _ _ _ _ (HB3.out.get 22 _ rfl)) ent_slWishes (K2.out w3 HW3.out) ?_
 intro a19 w4 F19 hx4
 have HW4 := Lib.hid (HW3.out.trans (hx4.mono HW3.out.size))
 have HA4 := Lib.hid (HA3.out.below hx4 HLa3.out)
 have HB4 := Lib.hid (HB3.out.below hx4 HLb3.out)
 have HLa4 := Lib.hid (Nat.lt_of_lt_of_le HLa3.out hx4.size)
 have HLb4 := Lib.hid (Nat.lt_of_lt_of_le HLb3.out hx4.size)
 clear hx4
 refine wpList_linkC F19 (by decide) rfl rfl rfl rfl rfl rfl rfl (by decide) (by kernel_rfl) field_19 (load1_28 _ _ _ _ _ _ (HA4.out.get 23 _ rfl)) (load1_28 _ _ _ _ _ _ (HB4.out.get 23 _ rfl)) ent_slStrs (K3.out w4 HW4.out) ?_
 intro a20 w5 F20 hx5
 have HW5 := Lib.hid (HW4.out.trans (hx5.mono HW4.out.size))
 have HA5 := Lib.hid (HA4.out.below hx5 HLa4.out)
 have HB5 := Lib.hid (HB4.out.below hx5 HLb4.out)
 have HLa5 := Lib.hid (Nat.lt_of_lt_of_le HLa4.out hx5.size)
 have HLb5 := Lib.hid (Nat.lt_of_lt_of_le HLb4.out hx5.size)
 clear hx5
 refine wpList_go (wanted_none rfl _) 4 rfl (a20.eval (.tmp 142)) w5 rfl ?_
 have hr : (a20.put (some 4) (a20.eval (.tmp 142))).eval (.tmp 4) = .bool (Mq.same a b) := by
  rw [Act.eval_put_same _ _ _ (by rw [F20.sz]; decide), F20.tk]
  simp only [Mq.same, Bool.and_assoc]
 have hdf : (a20.put (some 4) (a20.eval (.tmp 142))).defers = [] := by rw [Act.defers_put', F20.df]
 generalize a20.put (some 4) (a20.eval (.tmp 142)) = az at hr hdf
 refine wpList_nil ?_
 refine hK _ _ (wp_ret ?_)
 refine bodyPost_ret (results_tmp rfl _ _ _) hdf ⟨?_, HW5.out⟩
 exact congrArg Ending.returned hr
theorem refEqMq (a b : Mq) (va vwa vfa vb vwb vfb : Value) (w : World) (ha : MqL w w.heap.size a va vwa vfa) (hb : MqL w w.heap.size b vb vwb vfb) :
  Calls Tryz.prog 65 #[.agg (mqCells a va vwa vfa).toArray, .agg (mqCells b vb vwb vfb).toArray] w fun e w' => e = .returned (.bool (Mq.same a b)) ∧ Below w.heap.size w w' := by
 obtain ⟨A1, p1, A2, p2, A3, p3, rfl, rfl, rfl, _, _, _, k1, k2, k3, r1, r2, r3⟩ := ha
 obtain ⟨B1, q1, B2, q2, B3, q3, rfl, rfl, rfl, _, _, _, _, _, _, s1, s2, s3⟩ := hb
 have K1 := Lib.hid (fun w1 h => eqInts a.codes b.codes A1 B1 p1 q1 w1 (r1.next h) (s1.next h) (by omega))
 have K2 := Lib.hid (fun w1 h => eqWishes a.wishes b.wishes A2 B2 p2 q2 w1 (r2.next h) (s2.next h) (by omega))
 have K3 := Lib.hid (fun w1 h => eqStrs a.filters b.filters A3 B3 p3 q3 w1 (r3.next h) (s3.next h) (by omega))
 clear r1 r2 r3 s1 s2 s3 k1 k2 k3
 have tok1 : True := trivial
 have tok2 : True := trivial
 go_enter Tryz.func65, Tryz.ntmps65
 go_upto_region 1 with (first
  | (have _t := tok1; (with_reducible refine wpList_box_cells ?_ 49 (.tmp 0) ?_ (mqCells a (.slice A1 a.codes.length p1) (.slice A2 a.wishes.length p2) (.slice A3 a.filters.length p3)) ?_ w.heap.size ?_ ?_); exact rfl; exact rfl; exact rfl; exact rfl; intro w1 hb1 hs1 hC1; have HS1 := Lib.hid hs1; have HC1 := Lib.hid hC1; have HB1 := Lib.hid hb1; clear tok1 _t hs1 hC1 hb1)
  | (have _t := tok2; have _s := HS1; (with_reducible refine wpList_box_cells ?_ 49 (.tmp 1) ?_ (mqCells b (.slice B1 b.codes.length q1) (.slice B2 b.wishes.length q2) (.slice B3 b.filters.length q3)) ?_ (w.heap.size + 1) ?_ ?_); exact rfl; exact rfl; exact rfl; exact HS1.out; intro w2 hb2 hs2 hC2; have HA2 := Lib.hid (HC1.out.below hb2 (Nat.lt_succ_self _)); have HB2 := Lib.hid hC2; have HW2 := Lib.hid (HB1.out.trans (hb2.mono (Nat.le_succ _))); have HLa2 := Lib.hid (show w.heap.size < w2.heap.size by omega); have HLb2 := Lib.hid (show w.heap.size + 1 < w2.heap.size by omega); clear tok2 _t _s hs2 hC2 hb2))
 rename_i K hK
 refine wp_region_list ?_
 refine wpList_link0 (n := 143) (ga := w.heap.size) (gb := w.heap.size + 1) rfl rfl rfl rfl (by decide) rfl rfl rfl rfl (by decide) field_0 (load1_i _ _ _ _ (HA2.out.get 0 _ rfl)) (load1_i _ _ _ _ (HB2.out.get 0 _ rfl)) (eql_i _ _ _ _ _) ?_
 intro a1 F1
 refine wpList_link F1 (by decide) rfl rfl rfl rfl rfl rfl rfl (by decide) (by kernel_rfl) field_1 (load1_s _ _ _ _ (HA2.out.get 1 _ rfl)) (load1_s _ _ _ _ (HB2.out.get 1 _ rfl)) (eql_s _ _ _ _ _) ?_
 intro a2 F2
 refine wpList_link F2 (by decide) rfl rfl rfl rfl rfl rfl rfl (by decide) (by kernel_rfl) field_2 (load1_b _ _ _ _ (HA2.out.get 2 _ rfl)) (load1_b _ _ _ _ (HB2.out.get 2 _ rfl)) (eql_b _ _ _ _ _) ?_
 intro a3 F3
 refine wpList_link F3 (by decide) rfl rfl rfl rfl rfl rfl rfl (by decide) (by kernel_rfl) field_3 (load1_i _ _ _ _ (HA2.out.get 3 _ rfl)) (load1_i _ _ _ _ (HB2.out.get 3 _ rfl)) (eql_i _ _ _ _ _) ?_
 intro a4 F4
 refine wpList_link F4 (by decide) rfl rfl rfl rfl rfl rfl rfl (by decide) (by kernel_rfl) field_4 (load_will _ _ _ _ _ _ _ _ HA2.out rfl rfl rfl rfl rfl) (load_will _ _ _ _ _ _ _ _ HB2.out rfl rfl rfl rfl rfl) (eql_w _ _ _ _ _ _ _ _ _ _ _ _ _) ?_
 intro a5 F5
 refine wpList_link F5 (by decide) rfl rfl rfl rfl rfl rfl rfl (by decide) (by kernel_rfl) field_5 (load1_s _ _ _ _ (HA2.out.get 9 _ rfl)) (load1_s _ _ _ _ (HB2.out.get 9 _ rfl)) (eql_s _ _ _ _ _) ?_
 intro a6 F6
 refine wpList_link F6 (by decide) rfl rfl rfl rfl rfl rfl rfl (by decide) (by kernel_rfl) field_6 (load1_b _ _ _ _ (HA2.out.get 10 _ rfl)) (load1_b _ _ _ _ (HB2.out.get 10 _ rfl)) (eql_b _ _ _ _ _) ?_
 intro a7 F7
 refine wpList_link F7 (by decide) rfl rfl rfl rfl rfl rfl rfl (by decide) (by kernel_rfl) field_7 (load1_s _ _ _ _ (HA2.out.get 11 _ rfl)) (load1_s _ _ _ _ (HB2.out.get 11 _ rfl)) (eql_s _ _ _ _ _) ?_
 intro a8 F8
 refine wpList_link F8 (by decide) rfl rfl rfl rfl rfl rfl rfl (by decide) (by kernel_rfl) field_8 (load1_b _ _ _ _ (HA2.out.get 12 _ rfl)) (load1_b _ _ _ _ (HB2.out.get 12 _ rfl)) (eql_b _ _ _ _ _) ?_
 intro a9 F9
 refine wpList_link F9 (by decide) rfl rfl rfl rfl rfl rfl rfl (by decide) (by kernel_rfl) field_9 (load1_b _ _ _ _ (HA2.out.get 13 _ rfl)) (load1_b _ _ _ _ (HB2.out.get 13 _ rfl)) (eql_b _ _ _ _ _) ?_
 intro a10 F10
 refine wpList_link F10 (by decide) rfl rfl rfl rfl rfl rfl rfl (by decide) (by kernel_rfl) field_10 (load1_i _ _ _ _ (HA2.out.get 14 _ rfl)) (load1_i _ _ _ _ (HB2.out.get 14 _ rfl)) (eql_i _ _ _ _ _) ?_
 intro a11 F11
 refine wpList_linkC F11 (by decide) rfl rfl rfl rfl rfl rfl rfl (by decide) (by kernel_rfl) field_11 (load1_26 _ _ _ _ _ _ (HA2.out.get 15 _ rfl)) (load1_26 _ _ _ _ _ _ (HB2.out.get 15 _ rfl)) ent_eqInts (K1.out w2 HW2.out) ?_
 intro a12 w3 F12 hx3
 have HW3 := Lib.hid (HW2.out.trans (hx3.mono HW2.out.size))
 have HA3 := Lib.hid (HA2.out.below hx3 HLa2.out)
 have HB3 := Lib.hid (HB2.out.below hx3 HLb2.out)
 have HLa3 := Lib.hid (Nat.lt_of_lt_of_le HLa2.out hx3.size)
 have HLb3 := Lib.hid (Nat.lt_of_lt_of_le HLb2.out hx3.size)
 clear hx3
 refine wpList_link F12 (by decide) rfl rfl rfl rfl rfl rfl rfl (by decide) (by kernel_rfl) field_12 (load1_b _ _ _ _ (HA3.out.get 16 _ rfl)) (load1_b _ _ _ _ (HB3.out.get 16 _ rfl)) (eql_b _ _ _ _ _) ?_
 intro a13 F13
 refine wpList_link F13 (by decide) rfl rfl rfl rfl rfl rfl rfl (by decide) (by kernel_rfl) field_13 (load1_i _ _ _ _ (HA3.out.get 17 _ rfl)) (load1_i _ _ _ _ (HB3.out.get 17 _ rfl)) (eql_i _ _ _ _ _) ?_
 intro a14 F14
 refine wpList_link F14 (by decide) rfl rfl rfl rfl rfl rfl rfl (by decide) (by kernel_rfl) field_14 (load1_b _ _ _ _ (HA3.out.get 18 _ rfl)) (load1_b _ _ _ _ (HB3.out.get 18 _ rfl)) (eql_b _ _ _ _ _) ?_
 intro a15 F15
 refine wpList_link F15 (by decide) rfl rfl rfl rfl rfl rfl rfl (by decide) (by kernel_rfl) field_15 (load1_s _ _ _ _ (HA3.out.get 19 _ rfl)) (load1_s _ _ _ _ (HB3.out.get 19 _ rfl)) (eql_s _ _ _ _ _) ?_
 intro a16 F16
 refine wpList_link F16 (by decide) rfl rfl rfl rfl rfl rfl rfl (by decide) (by kernel_rfl) field_16 (load1_i _ _ _ _ (HA3.out.get 20 _ rfl)) (load1_i _ _ _ _ (HB3.out.get 20 _ rfl)) (eql_i _ _ _ _ _) ?_
 intro a17 F17
 refine wpList_link F17 (by decide) rfl rfl rfl rfl rfl rfl rfl (by decide) (by kernel_rfl) field_17 (load1_s _ _ _ _ (HA3.out.get 21 _ rfl)) (load1_s _ _ _ _ (HB3.out.get 21 _ rfl)) (eql_s _ _ _ _ _) ?_
 intro a18 F18
 refine wpList_linkC F18 (by decide) rfl rfl rfl rfl rfl rfl rfl (by decide) (by kernel_rfl) field_18 (load1_27 _ _ _ _ _ _ (HA3.out.get 22 _ rfl)) (load1_27 _ _ _ _ _ _ (HB3.out.get 22 _ rfl)) ent_eqWishes (K2.out w3 HW3.out) ?_
 intro a19 w4 F19 hx4
 have HW4 := Lib.hid (HW3.out.trans (hx4.mono HW3.out.size))
 have HA4 := Lib.hid (HA3.out.below hx4 HLa3.out)
 have HB4 := Lib.hid (HB3.out.below hx4 HLb3.out)
 have HLa4 := Lib.hid (Nat.lt_of_lt_of_le HLa3.out hx4.size)
 have HLb4 := Lib.hid (Nat.lt_of_lt_of_le HLb3.out hx4.size)
 clear hx4
 refine wpList_linkC F19 (by decide) rfl rfl rfl rfl rfl rfl rfl (by decide) (by kernel_rfl) field_19 (load1_28 _ _ _ _ _ _ (HA4.out.get 23 _ rfl)) (load1_28 _ _ _ _ _ _ (HB4.out.get 23 _ rfl)) ent_eqStrs (K3.out w4 HW4.out) ?_
 intro a20 w5 F20 hx5
 have HW5 := Lib.hid (HW4.out.trans (hx5.mono HW4.out.size))
 have HA5 := Lib.hid (HA4.out.below hx5 HLa4.out)
 have HB5 := Lib.hid (HB4.out.below hx5 HLb4.out)
 have HLa5 := Lib.hid (Nat.lt_of_lt_of_le HLa4.out hx5.size)
 have HLb5 := Lib.hid (Nat.lt_of_lt_of_le HLb4.out hx5.size)
 clear hx5
 refine wpList_go (wanted_none rfl _) 4 rfl (a20.eval (.tmp 142)) w5 rfl ?_
 have hr : (a20.put (some 4) (a20.eval (.tmp 142))).eval (.tmp 4) = .bool (Mq.same a b) := by
  rw [Act.eval_put_same _ _ _ (by rw [F20.sz]; decide), F20.tk]
  simp only [Mq.same, Bool.and_assoc]
 have hdf : (a20.put (some 4) (a20.eval (.tmp 142))).defers = [] := by rw [Act.defers_put', F20.df]
 generalize a20.put (some 4) (a20.eval (.tmp 142)) = az at hr hdf
 refine wpList_nil ?_
 refine hK _ _ (wp_ret ?_)
 refine bodyPost_ret (results_tmp rfl _ _ _) hdf ⟨?_, HW5.out⟩
 exact congrArg Ending.returned hr
end
section
open Go.RowKit
theorem packConnectV (m : Mq) (vc vw vf : Value) (h1 : Fits m.client) (h2 : Fits m.wt) (h3 : Fits m.user) (w : World) (hT : Wd w) :
  Calls Tryz.prog 152 #[.agg (mqCells m vc vw vf).toArray] w fun e w' => e = .returned (.bool (connectOk m)) ∧ Below w.heap.size w w' := by
 have HP := Lib.hid (show connectOk m = (textOk m.client 0 23 && (inRB m.keep 0 65535 && (willOk m && (textOk m.user 0 64 && (decide ((m.pass.size : Int) ≤ 64) && ((m.hu || (emp m.user && !m.hp)) && (m.hp || emp m.pass))))))) from rfl)
 have K1 := Lib.hid (fun w1 hb => packTextV m.client h1 0 23 w1 (hT.below hb))
 have K2 := Lib.hid (fun w1 => packWithin m.keep 0 65535 w1)
 have K3 := Lib.hid (fun w1 hb => packWillV m.won m.wt m.wp m.wq m.wr h2 w1 (hT.below hb))
 have K4 := Lib.hid (fun w1 hb => packTextV m.user h3 0 64 w1 (hT.below hb))
 rw [← willOk_eq] at K3
 clear hT h1 h2 h3
 generalize textOk m.client 0 23 = B1 at K1 HP
 generalize inRB m.keep 0 65535 = B2 at K2 HP
 generalize willOk m = B3 at K3 HP
 generalize textOk m.user 0 64 = B4 at K4 HP
 generalize connectOk m = Z at *
 cases B1 with
 | false =>
  go_enter Tryz.func152, Tryz.ntmps152
  go_upto_region 1 with (refine wpList_box_cells rfl 49 _ rfl (mqCells m vc vw vf) (by exact rfl) w.heap.size rfl ?_; intro w1 hb1 hs1 hC1; have HC1 := Lib.hid hC1; have HB1 := Lib.hid hb1; have HL1 := Lib.hid (show w.heap.size < w1.heap.size by omega); clear hs1 hC1 hb1; have c1_1 := HC1.out.get 1 _ rfl)
  go_wp2_with (first
   | (go_at_call 165; (with_reducible refine (K1.out w1 HB1.out).mono ?_); rintro _ w2 ⟨rfl, hb2⟩; have HC2 := Lib.hid (HC1.out.below hb2 HL1.out); have HB2 := Lib.hid (HB1.out.trans (hb2.mono HB1.out.size)); have HL2 := Lib.hid (Nat.lt_of_lt_of_le HL1.out hb2.size); clear hb2; have c2_3 := HC2.out.get 3 _ rfl; have c2_4 := HC2.out.get 4 _ rfl; have c2_5 := HC2.out.get 5 _ rfl; have c2_6 := HC2.out.get 6 _ rfl; have c2_7 := HC2.out.get 7 _ rfl; have c2_8 := HC2.out.get 8 _ rfl)
   | (go_at_call 151; (with_reducible refine (K2.out _).mono ?_); rintro _ w9 ⟨rfl, rfl⟩)
   | (go_at_call 166; (with_reducible refine (K3.out w2 HB2.out).mono ?_); rintro _ w3 ⟨rfl, hb3⟩; have HC3 := Lib.hid (HC2.out.below hb3 HL2.out); have HB3 := Lib.hid (HB2.out.trans (hb3.mono HB2.out.size)); have HL3 := Lib.hid (Nat.lt_of_lt_of_le HL2.out hb3.size); clear hb3; have c3_9 := HC3.out.get 9 _ rfl)
   | (go_at_call 165; (with_reducible refine (K4.out w3 HB3.out).mono ?_); rintro _ w4 ⟨rfl, hb4⟩; have HC4 := Lib.hid (HC3.out.below hb4 HL3.out); have HB4 := Lib.hid (HB3.out.trans (hb4.mono HB3.out.size)); have HL4 := Lib.hid (Nat.lt_of_lt_of_le HL3.out hb4.size); clear hb4; have c4_9 := HC4.out.get 9 _ rfl; have c4_10 := HC4.out.get 10 _ rfl; have c4_11 := HC4.out.get 11 _ rfl; have c4_12 := HC4.out.get 12 _ rfl))
  go_ret
  exact ⟨by rw [HP.out]; rfl, HB2.out⟩
 | true =>
  cases B2 with
  | false =>
   go_enter Tryz.func152, Tryz.ntmps152
   go_upto_region 1 with (refine wpList_box_cells rfl 49 _ rfl (mqCells m vc vw vf) (by exact rfl) w.heap.size rfl ?_; intro w1 hb1 hs1 hC1; have HC1 := Lib.hid hC1; have HB1 := Lib.hid hb1; have HL1 := Lib.hid (show w.heap.size < w1.heap.size by omega); clear hs1 hC1 hb1; have c1_1 := HC1.out.get 1 _ rfl)
   go_wp2_with (first
    | (go_at_call 165; (with_reducible refine (K1.out w1 HB1.out).mono ?_); rintro _ w2 ⟨rfl, hb2⟩; have HC2 := Lib.hid (HC1.out.below hb2 HL1.out); have HB2 := Lib.hid (HB1.out.trans (hb2.mono HB1.out.size)); have HL2 := Lib.hid (Nat.lt_of_lt_of_le HL1.out hb2.size); clear hb2; have c2_3 := HC2.out.get 3 _ rfl; have c2_4 := HC2.out.get 4 _ rfl; have c2_5 := HC2.out.get 5 _ rfl; have c2_6 := HC2.out.get 6 _ rfl; have c2_7 := HC2.out.get 7 _ rfl; have c2_8 := HC2.out.get 8 _ rfl)
    | (go_at_call 151; (with_reducible refine (K2.out _).mono ?_); rintro _ w9 ⟨rfl, rfl⟩)
    | (go_at_call 166; (with_reducible refine (K3.out w2 HB2.out).mono ?_); rintro _ w3 ⟨rfl, hb3⟩; have HC3 := Lib.hid (HC2.out.below hb3 HL2.out); have HB3 := Lib.hid (HB2.out.trans (hb3.mono HB2.out.size)); have HL3 := Lib.hid (Nat.lt_of_lt_of_le HL2.out hb3.size); clear hb3; have c3_9 := HC3.out.get 9 _ rfl)
    | (go_at_call 165; (with_reducible refine (K4.out w3 HB3.out).mono ?_); rintro _ w4 ⟨rfl, hb4⟩; have HC4 := Lib.hid (HC3.out.below hb4 HL3.out); have HB4 := Lib.hid (HB3.out.trans (hb4.mono HB3.out.size)); have HL4 := Lib.hid (Nat.lt_of_lt_of_le HL3.out hb4.size); clear hb4; have c4_9 := HC4.out.get 9 _ rfl; have c4_10 := HC4.out.get 10 _ rfl; have c4_11 := HC4.out.get 11 _ rfl; have c4_12 := HC4.out.get 12 _ rfl))
   go_ret
   exact ⟨by rw [HP.out]; rfl, HB2.out⟩
  | true =>
   cases B3 with
   | false =>
    go_enter Tryz.func152, Tryz.ntmps152
    go_upto_region 1 with (refine wpList_box_cells rfl 49 _ rfl (mqCells m vc vw vf) (by exact rfl) w.heap.size rfl ?_; intro w1 hb1 hs1 hC1; have HC1 := Lib.hid hC1; have HB1 := Lib.hid hb1; have HL1 := Lib.hid (show w.heap.size < w1.heap.size by omega); clear hs1 hC1 hb1; have c1_1 := HC1.out.get 1 _ rfl)
    go_wp2_with (first
     | (go_at_call 165; (with_reducible refine (K1.out w1 HB1.out).mono ?_); rintro _ w2 ⟨rfl, hb2⟩; have HC2 := Lib.hid (HC1.out.below hb2 HL1.out); have HB2 := Lib.hid (HB1.out.trans (hb2.mono HB1.out.size)); have HL2 := Lib.hid (Nat.lt_of_lt_of_le HL1.out hb2.size); clear hb2; have c2_3 := HC2.out.get 3 _ rfl; have c2_4 := HC2.out.get 4 _ rfl; have c2_5 := HC2.out.get 5 _ rfl; have c2_6 := HC2.out.get 6 _ rfl; have c2_7 := HC2.out.get 7 _ rfl; have c2_8 := HC2.out.get 8 _ rfl)
     | (go_at_call 151; (with_reducible refine (K2.out _).mono ?_); rintro _ w9 ⟨rfl, rfl⟩)
     | (go_at_call 166; (with_reducible refine (K3.out w2 HB2.out).mono ?_); rintro _ w3 ⟨rfl, hb3⟩; have HC3 := Lib.hid (HC2.out.below hb3 HL2.out); have HB3 := Lib.hid (HB2.out.trans (hb3.mono HB2.out.size)); have HL3 := Lib.hid (Nat.lt_of_lt_of_le HL2.out hb3.size); clear hb3; have c3_9 := HC3.out.get 9 _ rfl)
     | (go_at_call 165; (with_reducible refine (K4.out w3 HB3.out).mono ?_); rintro _ w4 ⟨rfl, hb4⟩; have HC4 := Lib.hid (HC3.out.below hb4 HL3.out); have HB4 := Lib.hid (HB3.out.trans (hb4.mono HB3.out.size)); have HL4 := Lib.hid (Nat.lt_of_lt_of_le HL3.out hb4.size); clear hb4; have c4_9 := HC4.out.get 9 _ rfl; have c4_10 := HC4.out.get 10 _ rfl; have c4_11 := HC4.out.get 11 _ rfl; have c4_12 := HC4.out.get 12 _ rfl))
    go_ret
    exact ⟨by rw [HP.out]; rfl, HB3.out⟩
   | true =>
    cases B4 with
    | false =>
     go_enter Tryz.func152, Tryz.ntmps152
     go_upto_region 1 with (refine wpList_box_cells rfl 49 _ rfl (mqCells m vc vw vf) (by exact rfl) w.heap.size rfl ?_; intro w1 hb1 hs1 hC1; have HC1 := Lib.hid hC1; have HB1 := Lib.hid hb1; have HL1 := Lib.hid (show w.heap.size < w1.heap.size by omega); clear hs1 hC1 hb1; have c1_1 := HC1.out.get 1 _ rfl)
     go_wp2_with (first
      | (go_at_call 165; (with_reducible refine (K1.out w1 HB1.out).mono ?_); rintro _ w2 ⟨rfl, hb2⟩; have HC2 := Lib.hid (HC1.out.below hb2 HL1.out); have HB2 := Lib.hid (HB1.out.trans (hb2.mono HB1.out.size)); have HL2 := Lib.hid (Nat.lt_of_lt_of_le HL1.out hb2.size); clear hb2; have c2_3 := HC2.out.get 3 _ rfl; have c2_4 := HC2.out.get 4 _ rfl; have c2_5 := HC2.out.get 5 _ rfl; have c2_6 := HC2.out.get 6 _ rfl; have c2_7 := HC2.out.get 7 _ rfl; have c2_8 := HC2.out.get 8 _ rfl)
      | (go_at_call 151; (with_reducible refine (K2.out _).mono ?_); rintro _ w9 ⟨rfl, rfl⟩)
      | (go_at_call 166; (with_reducible refine (K3.out w2 HB2.out).mono ?_); rintro _ w3 ⟨rfl, hb3⟩; have HC3 := Lib.hid (HC2.out.below hb3 HL2.out); have HB3 := Lib.hid (HB2.out.trans (hb3.mono HB2.out.size)); have HL3 := Lib.hid (Nat.lt_of_lt_of_le HL2.out hb3.size); clear hb3; have c3_9 := HC3.out.get 9 _ rfl)
      | (go_at_call 165; (with_reducible refine (K4.out w3 HB3.out).mono ?_); rintro _ w4 ⟨rfl, hb4⟩; have HC4 := Lib.hid (HC3.out.below hb4 HL3.out); have HB4 := Lib.hid (HB3.out.trans (hb4.mono HB3.out.size)); have HL4 := Lib.hid (Nat.lt_of_lt_of_le HL3.out hb4.size); clear hb4; have c4_9 := HC4.out.get 9 _ rfl; have c4_10 := HC4.out.get 10 _ rfl; have c4_11 := HC4.out.get 11 _ rfl; have c4_12 := HC4.out.get 12 _ rfl))
     go_ret
     exact ⟨by rw [HP.out]; rfl, HB4.out⟩
    | true =>
     by_cases h5 : (m.pass.size : Int) ≤ 64
     ·rw [decide_eq_true h5] at HP
      cases h6 : m.hu with
      | true =>
       rw [h6] at HP
       cases h7 : m.hp with
       | true =>
        rw [h7] at HP
        have HP : Hid (Z = true) := by unfold Hid; have := HP.out; simpa using this
        go_enter Tryz.func152, Tryz.ntmps152
        go_upto_region 1 with (refine wpList_box_cells rfl 49 _ rfl (mqCells m vc vw vf) (by exact rfl) w.heap.size rfl ?_; intro w1 hb1 hs1 hC1; have HC1 := Lib.hid hC1; have HB1 := Lib.hid hb1; have HL1 := Lib.hid (show w.heap.size < w1.heap.size by omega); clear hs1 hC1 hb1; have c1_1 := HC1.out.get 1 _ rfl)
        go_wp2_with (first
         | (go_at_call 165; (with_reducible refine (K1.out w1 HB1.out).mono ?_); rintro _ w2 ⟨rfl, hb2⟩; have HC2 := Lib.hid (HC1.out.below hb2 HL1.out); have HB2 := Lib.hid (HB1.out.trans (hb2.mono HB1.out.size)); have HL2 := Lib.hid (Nat.lt_of_lt_of_le HL1.out hb2.size); clear hb2; have c2_3 := HC2.out.get 3 _ rfl; have c2_4 := HC2.out.get 4 _ rfl; have c2_5 := HC2.out.get 5 _ rfl; have c2_6 := HC2.out.get 6 _ rfl; have c2_7 := HC2.out.get 7 _ rfl; have c2_8 := HC2.out.get 8 _ rfl)
         | (go_at_call 151; (with_reducible refine (K2.out _).mono ?_); rintro _ w9 ⟨rfl, rfl⟩)
         | (go_at_call 166; (with_reducible refine (K3.out w2 HB2.out).mono ?_); rintro _ w3 ⟨rfl, hb3⟩; have HC3 := Lib.hid (HC2.out.below hb3 HL2.out); have HB3 := Lib.hid (HB2.out.trans (hb3.mono HB2.out.size)); have HL3 := Lib.hid (Nat.lt_of_lt_of_le HL2.out hb3.size); clear hb3; have c3_9 := HC3.out.get 9 _ rfl)
         | (go_at_call 165; (with_reducible refine (K4.out w3 HB3.out).mono ?_); rintro _ w4 ⟨rfl, hb4⟩; have HC4 := Lib.hid (HC3.out.below hb4 HL3.out); have HB4 := Lib.hid (HB3.out.trans (hb4.mono HB3.out.size)); have HL4 := Lib.hid (Nat.lt_of_lt_of_le HL3.out hb4.size); clear hb4; have c4_9 := HC4.out.get 9 _ rfl; have c4_10 := HC4.out.get 10 _ rfl; have c4_11 := HC4.out.get 11 _ rfl; have c4_12 := HC4.out.get 12 _ rfl))
        go_ret
        exact ⟨by rw [HP.out]; rfl, HB4.out⟩
       | false =>
        rw [h7] at HP
        have HP : Hid (Z = emp m.pass) := by unfold Hid; have := HP.out; simpa using this
        by_cases h8 : m.pass.toList = []
        ·rw [emp_true h8] at HP
         go_enter Tryz.func152, Tryz.ntmps152
         go_upto_region 1 with (refine wpList_box_cells rfl 49 _ rfl (mqCells m vc vw vf) (by exact rfl) w.heap.size rfl ?_; intro w1 hb1 hs1 hC1; have HC1 := Lib.hid hC1; have HB1 := Lib.hid hb1; have HL1 := Lib.hid (show w.heap.size < w1.heap.size by omega); clear hs1 hC1 hb1; have c1_1 := HC1.out.get 1 _ rfl)
         go_wp2_with (first
          | (go_at_call 165; (with_reducible refine (K1.out w1 HB1.out).mono ?_); rintro _ w2 ⟨rfl, hb2⟩; have HC2 := Lib.hid (HC1.out.below hb2 HL1.out); have HB2 := Lib.hid (HB1.out.trans (hb2.mono HB1.out.size)); have HL2 := Lib.hid (Nat.lt_of_lt_of_le HL1.out hb2.size); clear hb2; have c2_3 := HC2.out.get 3 _ rfl; have c2_4 := HC2.out.get 4 _ rfl; have c2_5 := HC2.out.get 5 _ rfl; have c2_6 := HC2.out.get 6 _ rfl; have c2_7 := HC2.out.get 7 _ rfl; have c2_8 := HC2.out.get 8 _ rfl)
          | (go_at_call 151; (with_reducible refine (K2.out _).mono ?_); rintro _ w9 ⟨rfl, rfl⟩)
          | (go_at_call 166; (with_reducible refine (K3.out w2 HB2.out).mono ?_); rintro _ w3 ⟨rfl, hb3⟩; have HC3 := Lib.hid (HC2.out.below hb3 HL2.out); have HB3 := Lib.hid (HB2.out.trans (hb3.mono HB2.out.size)); have HL3 := Lib.hid (Nat.lt_of_lt_of_le HL2.out hb3.size); clear hb3; have c3_9 := HC3.out.get 9 _ rfl)
          | (go_at_call 165; (with_reducible refine (K4.out w3 HB3.out).mono ?_); rintro _ w4 ⟨rfl, hb4⟩; have HC4 := Lib.hid (HC3.out.below hb4 HL3.out); have HB4 := Lib.hid (HB3.out.trans (hb4.mono HB3.out.size)); have HL4 := Lib.hid (Nat.lt_of_lt_of_le HL3.out hb4.size); clear hb4; have c4_9 := HC4.out.get 9 _ rfl; have c4_10 := HC4.out.get 10 _ rfl; have c4_11 := HC4.out.get 11 _ rfl; have c4_12 := HC4.out.get 12 _ rfl))
         go_ret
         exact ⟨by rw [HP.out]; rfl, HB4.out⟩
        ·have h8' : m.pass.toList.isEmpty = false := by simpa using h8
         rw [emp_false h8] at HP
         go_enter Tryz.func152, Tryz.ntmps152
         go_upto_region 1 with (refine wpList_box_cells rfl 49 _ rfl (mqCells m vc vw vf) (by exact rfl) w.heap.size rfl ?_; intro w1 hb1 hs1 hC1; have HC1 := Lib.hid hC1; have HB1 := Lib.hid hb1; have HL1 := Lib.hid (show w.heap.size < w1.heap.size by omega); clear hs1 hC1 hb1; have c1_1 := HC1.out.get 1 _ rfl)
         go_wp2_with (first
          | (go_at_call 165; (with_reducible refine (K1.out w1 HB1.out).mono ?_); rintro _ w2 ⟨rfl, hb2⟩; have HC2 := Lib.hid (HC1.out.below hb2 HL1.out); have HB2 := Lib.hid (HB1.out.trans (hb2.mono HB1.out.size)); have HL2 := Lib.hid (Nat.lt_of_lt_of_le HL1.out hb2.size); clear hb2; have c2_3 := HC2.out.get 3 _ rfl; have c2_4 := HC2.out.get 4 _ rfl; have c2_5 := HC2.out.get 5 _ rfl; have c2_6 := HC2.out.get 6 _ rfl; have c2_7 := HC2.out.get 7 _ rfl; have c2_8 := HC2.out.get 8 _ rfl)
          | (go_at_call 151; (with_reducible refine (K2.out _).mono ?_); rintro _ w9 ⟨rfl, rfl⟩)
          | (go_at_call 166; (with_reducible refine (K3.out w2 HB2.out).mono ?_); rintro _ w3 ⟨rfl, hb3⟩; have HC3 := Lib.hid (HC2.out.below hb3 HL2.out); have HB3 := Lib.hid (HB2.out.trans (hb3.mono HB2.out.size)); have HL3 := Lib.hid (Nat.lt_of_lt_of_le HL2.out hb3.size); clear hb3; have c3_9 := HC3.out.get 9 _ rfl)
          | (go_at_call 165; (with_reducible refine (K4.out w3 HB3.out).mono ?_); rintro _ w4 ⟨rfl, hb4⟩; have HC4 := Lib.hid (HC3.out.below hb4 HL3.out); have HB4 := Lib.hid (HB3.out.trans (hb4.mono HB3.out.size)); have HL4 := Lib.hid (Nat.lt_of_lt_of_le HL3.out hb4.size); clear hb4; have c4_9 := HC4.out.get 9 _ rfl; have c4_10 := HC4.out.get 10 _ rfl; have c4_11 := HC4.out.get 11 _ rfl; have c4_12 := HC4.out.get 12 _ rfl))
         go_ret
         exact ⟨by rw [HP.out]; rfl, HB4.out⟩
      | false =>
       rw [h6] at HP
       by_cases h9 : m.user.toList = []
       ·rw [emp_true h9] at HP
        cases h7 : m.hp with
        | true =>
         rw [h7] at HP
         go_enter Tryz.func152, Tryz.ntmps152
         go_upto_region 1 with (refine wpList_box_cells rfl 49 _ rfl (mqCells m vc vw vf) (by exact rfl) w.heap.size rfl ?_; intro w1 hb1 hs1 hC1; have HC1 := Lib.hid hC1; have HB1 := Lib.hid hb1; have HL1 := Lib.hid (show w.heap.size < w1.heap.size by omega); clear hs1 hC1 hb1; have c1_1 := HC1.out.get 1 _ rfl)
         go_wp2_with (first
          | (go_at_call 165; (with_reducible refine (K1.out w1 HB1.out).mono ?_); rintro _ w2 ⟨rfl, hb2⟩; have HC2 := Lib.hid (HC1.out.below hb2 HL1.out); have HB2 := Lib.hid (HB1.out.trans (hb2.mono HB1.out.size)); have HL2 := Lib.hid (Nat.lt_of_lt_of_le HL1.out hb2.size); clear hb2; have c2_3 := HC2.out.get 3 _ rfl; have c2_4 := HC2.out.get 4 _ rfl; have c2_5 := HC2.out.get 5 _ rfl; have c2_6 := HC2.out.get 6 _ rfl; have c2_7 := HC2.out.get 7 _ rfl; have c2_8 := HC2.out.get 8 _ rfl)
          | (go_at_call 151; (with_reducible refine (K2.out _).mono ?_); rintro _ w9 ⟨rfl, rfl⟩)
          | (go_at_call 166; (with_reducible refine (K3.out w2 HB2.out).mono ?_); rintro _ w3 ⟨rfl, hb3⟩; have HC3 := Lib.hid (HC2.out.below hb3 HL2.out); have HB3 := Lib.hid (HB2.out.trans (hb3.mono HB2.out.size)); have HL3 := Lib.hid (Nat.lt_of_lt_of_le HL2.out hb3.size); clear hb3; have c3_9 := HC3.out.get 9 _ rfl)
          | (go_at_call 165; (with_reducible refine (K4.out w3 HB3.out).mono ?_); rintro _ w4 ⟨rfl, hb4⟩; have HC4 := Lib.hid (HC3.out.below hb4 HL3.out); have HB4 := Lib.hid (HB3.out.trans (hb4.mono HB3.out.size)); have HL4 := Lib.hid (Nat.lt_of_lt_of_le HL3.out hb4.size); clear hb4; have c4_9 := HC4.out.get 9 _ rfl; have c4_10 := HC4.out.get 10 _ rfl; have c4_11 := HC4.out.get 11 _ rfl; have c4_12 := HC4.out.get 12 _ rfl))
         go_ret
         exact ⟨by rw [HP.out]; rfl, HB4.out⟩
        | false =>
         rw [h7] at HP
         have HP : Hid (Z = emp m.pass) := by unfold Hid; have := HP.out; simpa using this
         by_cases h8 : m.pass.toList = []
         ·rw [emp_true h8] at HP
          go_enter Tryz.func152, Tryz.ntmps152
          go_upto_region 1 with (refine wpList_box_cells rfl 49 _ rfl (mqCells m vc vw vf) (by exact rfl) w.heap.size rfl ?_; intro w1 hb1 hs1 hC1; have HC1 := Lib.hid hC1; have HB1 := Lib.hid hb1; have HL1 := Lib.hid (show w.heap.size < w1.heap.size by omega); clear hs1 hC1 hb1; have c1_1 := HC1.out.get 1 _ rfl)
          go_wp2_with (first
           | (go_at_call 165; (with_reducible refine (K1.out w1 HB1.out).mono ?_); rintro _ w2 ⟨rfl, hb2⟩; have HC2 := Lib.hid (HC1.out.below hb2 HL1.out); have HB2 := Lib.hid (HB1.out.trans (hb2.mono HB1.out.size)); have HL2 := Lib.hid (Nat.lt_of_lt_of_le HL1.out hb2.size); clear hb2; have c2_3 := HC2.out.get 3 _ rfl; have c2_4 := HC2.out.get 4 _ rfl; have c2_5 := HC2.out.get 5 _ rfl; have c2_6 := HC2.out.get 6 _ rfl; have c2_7 := HC2.out.get 7 _ rfl; have c2_8 := HC2.out.get 8 _ rfl)
           | (go_at_call 151; (with_reducible refine (K2.out _).mono ?_); rintro _ w9 ⟨rfl, rfl⟩)
           | (go_at_call 166; (with_reducible refine (K3.out w2 HB2.out).mono ?_); rintro _ w3 ⟨rfl, hb3⟩; have HC3 := Lib.hid (HC2.out.below hb3 HL2.out); have HB3 := Lib.hid (HB2.out.trans (hb3.mono HB2.out.size)); have HL3 := Lib.hid (Nat.lt_of_lt_of_le HL2.out hb3.size); clear hb3; have c3_9 := HC3.out.get 9 _ rfl)
           | (go_at_call 165; (with_reducible refine (K4.out w3 HB3.out).mono ?_); rintro _ w4 ⟨rfl, hb4⟩; have HC4 := Lib.hid (HC3.out.below hb4 HL3.out); have HB4 := Lib.hid (HB3.out.trans (hb4.mono HB3.out.size)); have HL4 := Lib.hid (Nat.lt_of_lt_of_le HL3.out hb4.size); clear hb4; have c4_9 := HC4.out.get 9 _ rfl; have c4_10 := HC4.out.get 10 _ rfl; have c4_11 := HC4.out.get 11 _ rfl; have c4_12 := HC4.out.get 12 _ rfl))
          go_ret
          exact ⟨by rw [HP.out]; rfl, HB4.out⟩
         ·have h8' : m.pass.toList.isEmpty = false := by simpa using h8
          rw [emp_false h8] at HP
          go_enter Tryz.func152, Tryz.ntmps152
          go_upto_region 1 with (refine wpList_box_cells rfl 49 _ rfl (mqCells m vc vw vf) (by exact rfl) w.heap.size rfl ?_; intro w1 hb1 hs1 hC1; have HC1 := Lib.hid hC1; have HB1 := Lib.hid hb1; have HL1 := Lib.hid (show w.heap.size < w1.heap.size by omega); clear hs1 hC1 hb1; have c1_1 := HC1.out.get 1 _ rfl)
          go_wp2_with (first
           | (go_at_call 165; (with_reducible refine (K1.out w1 HB1.out).mono ?_); rintro _ w2 ⟨rfl, hb2⟩; have HC2 := Lib.hid (HC1.out.below hb2 HL1.out); have HB2 := Lib.hid (HB1.out.trans (hb2.mono HB1.out.size)); have HL2 := Lib.hid (Nat.lt_of_lt_of_le HL1.out hb2.size); clear hb2; have c2_3 := HC2.out.get 3 _ rfl; have c2_4 := HC2.out.get 4 _ rfl; have c2_5 := HC2.out.get 5 _ rfl; have c2_6 := HC2.out.get 6 _ rfl; have c2_7 := HC2.out.get 7 _ rfl; have c2_8 := HC2.out.get 8 _ rfl)
           | (go_at_call 151; (with_reducible refine (K2.out _).mono ?_); rintro _ w9 ⟨rfl, rfl⟩)
           | (go_at_call 166; (with_reducible refine (K3.out w2 HB2.out).mono ?_); rintro _ w3 ⟨rfl, hb3⟩; have HC3 := Lib.hid (HC2.out.below hb3 HL2.out); have HB3 := Lib.hid (HB2.out.trans (hb3.mono HB2.out.size)); have HL3 := Lib.hid (Nat.lt_of_lt_of_le HL2.out hb3.size); clear hb3; have c3_9 := HC3.out.get 9 _ rfl)
           | (go_at_call 165; (with_reducible refine (K4.out w3 HB3.out).mono ?_); rintro _ w4 ⟨rfl, hb4⟩; have HC4 := Lib.hid (HC3.out.below hb4 HL3.out); have HB4 := Lib.hid (HB3.out.trans (hb4.mono HB3.out.size)); have HL4 := Lib.hid (Nat.lt_of_lt_of_le HL3.out hb4.size); clear hb4; have c4_9 := HC4.out.get 9 _ rfl; have c4_10 := HC4.out.get 10 _ rfl; have c4_11 := HC4.out.get 11 _ rfl; have c4_12 := HC4.out.get 12 _ rfl))
          go_ret
          exact ⟨by rw [HP.out]; rfl, HB4.out⟩
       ·have h9' : m.user.toList.isEmpty = false := by simpa using h9
        rw [emp_false h9] at HP
        have HP : Hid (Z = false) := by unfold Hid; have := HP.out; simpa using this
        go_enter Tryz.func152, Tryz.ntmps152
        go_upto_region 1 with (refine wpList_box_cells rfl 49 _ rfl (mqCells m vc vw vf) (by exact rfl) w.heap.size rfl ?_; intro w1 hb1 hs1 hC1; have HC1 := Lib.hid hC1; have HB1 := Lib.hid hb1; have HL1 := Lib.hid (show w.heap.size < w1.heap.size by omega); clear hs1 hC1 hb1; have c1_1 := HC1.out.get 1 _ rfl)
        go_wp2_with (first
         | (go_at_call 165; (with_reducible refine (K1.out w1 HB1.out).mono ?_); rintro _ w2 ⟨rfl, hb2⟩; have HC2 := Lib.hid (HC1.out.below hb2 HL1.out); have HB2 := Lib.hid (HB1.out.trans (hb2.mono HB1.out.size)); have HL2 := Lib.hid (Nat.lt_of_lt_of_le HL1.out hb2.size); clear hb2; have c2_3 := HC2.out.get 3 _ rfl; have c2_4 := HC2.out.get 4 _ rfl; have c2_5 := HC2.out.get 5 _ rfl; have c2_6 := HC2.out.get 6 _ rfl; have c2_7 := HC2.out.get 7 _ rfl; have c2_8 := HC2.out.get 8 _ rfl)
         | (go_at_call 151; (with_reducible refine (K2.out _).mono ?_); rintro _ w9 ⟨rfl, rfl⟩)
         | (go_at_call 166; (with_reducible refine (K3.out w2 HB2.out).mono ?_); rintro _ w3 ⟨rfl, hb3⟩; have HC3 := Lib.hid (HC2.out.below hb3 HL2.out); have HB3 := Lib.hid (HB2.out.trans (hb3.mono HB2.out.size)); have HL3 := Lib.hid (Nat.lt_of_lt_of_le HL2.out hb3.size); clear hb3; have c3_9 := HC3.out.get 9 _ rfl)
         | (go_at_call 165; (with_reducible refine (K4.out w3 HB3.out).mono ?_); rintro _ w4 ⟨rfl, hb4⟩; have HC4 := Lib.hid (HC3.out.below hb4 HL3.out); have HB4 := Lib.hid (HB3.out.trans (hb4.mono HB3.out.size)); have HL4 := Lib.hid (Nat.lt_of_lt_of_le HL3.out hb4.size); clear hb4; have c4_9 := HC4.out.get 9 _ rfl; have c4_10 := HC4.out.get 10 _ rfl; have c4_11 := HC4.out.get 11 _ rfl; have c4_12 := HC4.out.get 12 _ rfl))
        go_ret
        exact ⟨by rw [HP.out]; rfl, HB4.out⟩
     ·rw [decide_eq_false h5] at HP
      go_enter Tryz.func152, Tryz.ntmps152
      go_upto_region 1 with (refine wpList_box_cells rfl 49 _ rfl (mqCells m vc vw vf) (by exact rfl) w.heap.size rfl ?_; intro w1 hb1 hs1 hC1; have HC1 := Lib.hid hC1; have HB1 := Lib.hid hb1; have HL1 := Lib.hid (show w.heap.size < w1.heap.size by omega); clear hs1 hC1 hb1; have c1_1 := HC1.out.get 1 _ rfl)
      go_wp2_with (first
       | (go_at_call 165; (with_reducible refine (K1.out w1 HB1.out).mono ?_); rintro _ w2 ⟨rfl, hb2⟩; have HC2 := Lib.hid (HC1.out.below hb2 HL1.out); have HB2 := Lib.hid (HB1.out.trans (hb2.mono HB1.out.size)); have HL2 := Lib.hid (Nat.lt_of_lt_of_le HL1.out hb2.size); clear hb2; have c2_3 := HC2.out.get 3 _ rfl; have c2_4 := HC2.out.get 4 _ rfl; have c2_5 := HC2.out.get 5 _ rfl; have c2_6 := HC2.out.get 6 _ rfl; have c2_7 := HC2.out.get 7 _ rfl; have c2_8 := HC2.out.get 8 _ rfl)
       | (go_at_call 151; (with_reducible refine (K2.out _).mono ?_); rintro _ w9 ⟨rfl, rfl⟩)
       | (go_at_call 166; (with_reducible refine (K3.out w2 HB2.out).mono ?_); rintro _ w3 ⟨rfl, hb3⟩; have HC3 := Lib.hid (HC2.out.below hb3 HL2.out); have HB3 := Lib.hid (HB2.out.trans (hb3.mono HB2.out.size)); have HL3 := Lib.hid (Nat.lt_of_lt_of_le HL2.out hb3.size); clear hb3; have c3_9 := HC3.out.get 9 _ rfl)
       | (go_at_call 165; (with_reducible refine (K4.out w3 HB3.out).mono ?_); rintro _ w4 ⟨rfl, hb4⟩; have HC4 := Lib.hid (HC3.out.below hb4 HL3.out); have HB4 := Lib.hid (HB3.out.trans (hb4.mono HB3.out.size)); have HL4 := Lib.hid (Nat.lt_of_lt_of_le HL3.out hb4.size); clear hb4; have c4_9 := HC4.out.get 9 _ rfl; have c4_10 := HC4.out.get 10 _ rfl; have c4_11 := HC4.out.get 11 _ rfl; have c4_12 := HC4.out.get 12 _ rfl))
      go_ret
      exact ⟨by rw [HP.out]; rfl, HB4.out⟩
theorem packPublishV (m : Mq) (vc vw vf : Value) (h1 : Fits m.topic) (w : World) (hT : Wd w) :
  Calls Tryz.prog 153 #[.agg (mqCells m vc vw vf).toArray] w fun e w' => e = .returned (.bool (publishOk m)) ∧ Below w.heap.size w w' := by
 have HP := Lib.hid (show publishOk m = (topicOk m.topic && (inRB m.qos 0 2 && (((decide (0 < m.qos) && inRB m.id 1 65535) || (m.qos == 0 && (m.id == 0 && !m.dup))) && decide ((m.payload.size : Int) ≤ 128)))) from rfl)
 have K1 := Lib.hid (fun w1 hb => packTopicV m.topic h1 w1 (hT.below hb))
 have K2 := Lib.hid (fun w1 => packWithin m.qos 0 2 w1)
 have K3 := Lib.hid (fun w1 => packWithin m.id 1 65535 w1)
 clear hT h1
 generalize topicOk m.topic = B1 at K1 HP
 generalize inRB m.qos 0 2 = B2 at K2 HP
 generalize hB3 : inRB m.id 1 65535 = B3 at K3 HP
 have HB3 := Lib.hid hB3
 clear hB3
 generalize publishOk m = Z at *
 cases B1 with
 | false =>
  go_enter Tryz.func153, Tryz.ntmps153
  go_upto_region 1 with (refine wpList_box_cells rfl 49 _ rfl (mqCells m vc vw vf) (by exact rfl) w.heap.size rfl ?_; intro w1 hb1 hs1 hC1; have HC1 := Lib.hid hC1; have HB1 := Lib.hid hb1; have HL1 := Lib.hid (show w.heap.size < w1.heap.size by omega); clear hs1 hC1 hb1; have c1_19 := HC1.out.get 19 _ rfl)
  go_wp2_with (first
   | (go_at_call 167; (with_reducible refine (K1.out w1 HB1.out).mono ?_); rintro _ w2 ⟨rfl, hb2⟩; have HC2 := Lib.hid (HC1.out.below hb2 HL1.out); have HB2 := Lib.hid (HB1.out.trans (hb2.mono HB1.out.size)); have HL2 := Lib.hid (Nat.lt_of_lt_of_le HL1.out hb2.size); clear hb2; have c2_16 := HC2.out.get 16 _ rfl; have c2_17 := HC2.out.get 17 _ rfl; have c2_20 := HC2.out.get 20 _ rfl; have c2_21 := HC2.out.get 21 _ rfl)
   | (go_at_call 151; (with_reducible refine (K2.out _).mono ?_); rintro _ w9 ⟨rfl, rfl⟩; clear K2)
   | (go_at_call 151; (with_reducible refine (K3.out _).mono ?_); rintro _ w8 ⟨rfl, rfl⟩))
  go_ret
  exact ⟨by rw [HP.out]; rfl, HB2.out⟩
 | true =>
  cases B2 with
  | false =>
   go_enter Tryz.func153, Tryz.ntmps153
   go_upto_region 1 with (refine wpList_box_cells rfl 49 _ rfl (mqCells m vc vw vf) (by exact rfl) w.heap.size rfl ?_; intro w1 hb1 hs1 hC1; have HC1 := Lib.hid hC1; have HB1 := Lib.hid hb1; have HL1 := Lib.hid (show w.heap.size < w1.heap.size by omega); clear hs1 hC1 hb1; have c1_19 := HC1.out.get 19 _ rfl)
   go_wp2_with (first
    | (go_at_call 167; (with_reducible refine (K1.out w1 HB1.out).mono ?_); rintro _ w2 ⟨rfl, hb2⟩; have HC2 := Lib.hid (HC1.out.below hb2 HL1.out); have HB2 := Lib.hid (HB1.out.trans (hb2.mono HB1.out.size)); have HL2 := Lib.hid (Nat.lt_of_lt_of_le HL1.out hb2.size); clear hb2; have c2_16 := HC2.out.get 16 _ rfl; have c2_17 := HC2.out.get 17 _ rfl; have c2_20 := HC2.out.get 20 _ rfl; have c2_21 := HC2.out.get 21 _ rfl)
    | (go_at_call 151; (with_reducible refine (K2.out _).mono ?_); rintro _ w9 ⟨rfl, rfl⟩; clear K2)
    | (go_at_call 151; (with_reducible refine (K3.out _).mono ?_); rintro _ w8 ⟨rfl, rfl⟩))
   go_ret
   exact ⟨by rw [HP.out]; rfl, HB2.out⟩
  | true =>
   cases h4 : decide (0 < m.qos) with
   | true =>
    have h4' : (m.qos == 0) = false := by rw [beq_eq_false_iff_ne]; have := of_decide_eq_true h4; omega
    rw [h4, h4'] at HP
    cases B3 with
    | false =>
     go_enter Tryz.func153, Tryz.ntmps153
     go_upto_region 1 with (refine wpList_box_cells rfl 49 _ rfl (mqCells m vc vw vf) (by exact rfl) w.heap.size rfl ?_; intro w1 hb1 hs1 hC1; have HC1 := Lib.hid hC1; have HB1 := Lib.hid hb1; have HL1 := Lib.hid (show w.heap.size < w1.heap.size by omega); clear hs1 hC1 hb1; have c1_19 := HC1.out.get 19 _ rfl)
     go_wp2_with (first
      | (go_at_call 167; (with_reducible refine (K1.out w1 HB1.out).mono ?_); rintro _ w2 ⟨rfl, hb2⟩; have HC2 := Lib.hid (HC1.out.below hb2 HL1.out); have HB2 := Lib.hid (HB1.out.trans (hb2.mono HB1.out.size)); have HL2 := Lib.hid (Nat.lt_of_lt_of_le HL1.out hb2.size); clear hb2; have c2_16 := HC2.out.get 16 _ rfl; have c2_17 := HC2.out.get 17 _ rfl; have c2_20 := HC2.out.get 20 _ rfl; have c2_21 := HC2.out.get 21 _ rfl)
      | (go_at_call 151; (with_reducible refine (K2.out _).mono ?_); rintro _ w9 ⟨rfl, rfl⟩; clear K2)
      | (go_at_call 151; (with_reducible refine (K3.out _).mono ?_); rintro _ w8 ⟨rfl, rfl⟩))
     go_ret
     exact ⟨by rw [HP.out]; rfl, HB2.out⟩
    | true =>
     cases h9 : decide ((m.payload.size : Int) ≤ 128) with
     | true =>
      rw [h9] at HP
      go_enter Tryz.func153, Tryz.ntmps153
      go_upto_region 1 with (refine wpList_box_cells rfl 49 _ rfl (mqCells m vc vw vf) (by exact rfl) w.heap.size rfl ?_; intro w1 hb1 hs1 hC1; have HC1 := Lib.hid hC1; have HB1 := Lib.hid hb1; have HL1 := Lib.hid (show w.heap.size < w1.heap.size by omega); clear hs1 hC1 hb1; have c1_19 := HC1.out.get 19 _ rfl)
      go_wp2_with (first
       | (go_at_call 167; (with_reducible refine (K1.out w1 HB1.out).mono ?_); rintro _ w2 ⟨rfl, hb2⟩; have HC2 := Lib.hid (HC1.out.below hb2 HL1.out); have HB2 := Lib.hid (HB1.out.trans (hb2.mono HB1.out.size)); have HL2 := Lib.hid (Nat.lt_of_lt_of_le HL1.out hb2.size); clear hb2; have c2_16 := HC2.out.get 16 _ rfl; have c2_17 := HC2.out.get 17 _ rfl; have c2_20 := HC2.out.get 20 _ rfl; have c2_21 := HC2.out.get 21 _ rfl)
       | (go_at_call 151; (with_reducible refine (K2.out _).mono ?_); rintro _ w9 ⟨rfl, rfl⟩; clear K2)
       | (go_at_call 151; (with_reducible refine (K3.out _).mono ?_); rintro _ w8 ⟨rfl, rfl⟩))
      go_ret
      exact ⟨by rw [HP.out]; rfl, HB2.out⟩
     | false =>
      rw [h9] at HP
      go_enter Tryz.func153, Tryz.ntmps153
      go_upto_region 1 with (refine wpList_box_cells rfl 49 _ rfl (mqCells m vc vw vf) (by exact rfl) w.heap.size rfl ?_; intro w1 hb1 hs1 hC1; have HC1 := Lib.hid hC1; have HB1 := Lib.hid hb1; have HL1 := Lib.hid (show w.heap.size < w1.heap.size by omega); clear hs1 hC1 hb1; have c1_19 := HC1.out.get 19 _ rfl)
      go_wp2_with (first
       | (go_at_call 167; (with_reducible refine (K1.out w1 HB1.out).mono ?_); rintro _ w2 ⟨rfl, hb2⟩; have HC2 := Lib.hid (HC1.out.below hb2 HL1.out); have HB2 := Lib.hid (HB1.out.trans (hb2.mono HB1.out.size)); have HL2 := Lib.hid (Nat.lt_of_lt_of_le HL1.out hb2.size); clear hb2; have c2_16 := HC2.out.get 16 _ rfl; have c2_17 := HC2.out.get 17 _ rfl; have c2_20 := HC2.out.get 20 _ rfl; have c2_21 := HC2.out.get 21 _ rfl)
       | (go_at_call 151; (with_reducible refine (K2.out _).mono ?_); rintro _ w9 ⟨rfl, rfl⟩; clear K2)
       | (go_at_call 151; (with_reducible refine (K3.out _).mono ?_); rintro _ w8 ⟨rfl, rfl⟩))
      go_ret
      exact ⟨by rw [HP.out]; rfl, HB2.out⟩
   | false =>
    rw [h4] at HP
    cases h5 : (m.qos == 0) with
    | true =>
     rw [h5] at HP
     cases h6 : (m.id == 0) with
     | true =>
      rw [h6] at HP
      cases h7 : m.dup with
      | true =>
       rw [h7] at HP
       go_enter Tryz.func153, Tryz.ntmps153
       go_upto_region 1 with (refine wpList_box_cells rfl 49 _ rfl (mqCells m vc vw vf) (by exact rfl) w.heap.size rfl ?_; intro w1 hb1 hs1 hC1; have HC1 := Lib.hid hC1; have HB1 := Lib.hid hb1; have HL1 := Lib.hid (show w.heap.size < w1.heap.size by omega); clear hs1 hC1 hb1; have c1_19 := HC1.out.get 19 _ rfl)
       go_wp2_with (first
        | (go_at_call 167; (with_reducible refine (K1.out w1 HB1.out).mono ?_); rintro _ w2 ⟨rfl, hb2⟩; have HC2 := Lib.hid (HC1.out.below hb2 HL1.out); have HB2 := Lib.hid (HB1.out.trans (hb2.mono HB1.out.size)); have HL2 := Lib.hid (Nat.lt_of_lt_of_le HL1.out hb2.size); clear hb2; have c2_16 := HC2.out.get 16 _ rfl; have c2_17 := HC2.out.get 17 _ rfl; have c2_20 := HC2.out.get 20 _ rfl; have c2_21 := HC2.out.get 21 _ rfl)
        | (go_at_call 151; (with_reducible refine (K2.out _).mono ?_); rintro _ w9 ⟨rfl, rfl⟩; clear K2)
        | (go_at_call 151; (with_reducible refine (K3.out _).mono ?_); rintro _ w8 ⟨rfl, rfl⟩))
       go_ret
       exact ⟨by rw [HP.out]; rfl, HB2.out⟩
      | false =>
       rw [h7] at HP
       cases h9 : decide ((m.payload.size : Int) ≤ 128) with
       | true =>
        rw [h9] at HP
        go_enter Tryz.func153, Tryz.ntmps153
        go_upto_region 1 with (refine wpList_box_cells rfl 49 _ rfl (mqCells m vc vw vf) (by exact rfl) w.heap.size rfl ?_; intro w1 hb1 hs1 hC1; have HC1 := Lib.hid hC1; have HB1 := Lib.hid hb1; have HL1 := Lib.hid (show w.heap.size < w1.heap.size by omega); clear hs1 hC1 hb1; have c1_19 := HC1.out.get 19 _ rfl)
        go_wp2_with (first
         | (go_at_call 167; (with_reducible refine (K1.out w1 HB1.out).mono ?_); rintro _ w2 ⟨rfl, hb2⟩; have HC2 := Lib.hid (HC1.out.below hb2 HL1.out); have HB2 := Lib.hid (HB1.out.trans (hb2.mono HB1.out.size)); have HL2 := Lib.hid (Nat.lt_of_lt_of_le HL1.out hb2.size); clear hb2; have c2_16 := HC2.out.get 16 _ rfl; have c2_17 := HC2.out.get 17 _ rfl; have c2_20 := HC2.out.get 20 _ rfl; have c2_21 := HC2.out.get 21 _ rfl)
         | (go_at_call 151; (with_reducible refine (K2.out _).mono ?_); rintro _ w9 ⟨rfl, rfl⟩; clear K2)
         | (go_at_call 151; (with_reducible refine (K3.out _).mono ?_); rintro _ w8 ⟨rfl, rfl⟩))
        go_ret
        exact ⟨by rw [HP.out]; rfl, HB2.out⟩
       | false =>
        rw [h9] at HP
        go_enter Tryz.func153, Tryz.ntmps153
        go_upto_region 1 with (refine wpList_box_cells rfl 49 _ rfl (mqCells m vc vw vf) (by exact rfl) w.heap.size rfl ?_; intro w1 hb1 hs1 hC1; have HC1 := Lib.hid hC1; have HB1 := Lib.hid hb1; have HL1 := Lib.hid (show w.heap.size < w1.heap.size by omega); clear hs1 hC1 hb1; have c1_19 := HC1.out.get 19 _ rfl)
        go_wp2_with (first
         | (go_at_call 167; (with_reducible refine (K1.out w1 HB1.out).mono ?_); rintro _ w2 ⟨rfl, hb2⟩; have HC2 := Lib.hid (HC1.out.below hb2 HL1.out); have HB2 := Lib.hid (HB1.out.trans (hb2.mono HB1.out.size)); have HL2 := Lib.hid (Nat.lt_of_lt_of_le HL1.out hb2.size); clear hb2; have c2_16 := HC2.out.get 16 _ rfl; have c2_17 := HC2.out.get 17 _ rfl; have c2_20 := HC2.out.get 20 _ rfl; have c2_21 := HC2.out.get 21 _ rfl)
         | (go_at_call 151; (with_reducible refine (K2.out _).mono ?_); rintro _ w9 ⟨rfl, rfl⟩; clear K2)
         | (go_at_call 151; (with_reducible refine (K3.out _).mono ?_); rintro _ w8 ⟨rfl, rfl⟩))
        go_ret
        exact ⟨by rw [HP.out]; rfl, HB2.out⟩
     | false =>
      rw [h6] at HP
      go_enter Tryz.func153, Tryz.ntmps153
      go_upto_region 1 with (refine wpList_box_cells rfl 49 _ rfl (mqCells m vc vw vf) (by exact rfl) w.heap.size rfl ?_; intro w1 hb1 hs1 hC1; have HC1 := Lib.hid hC1; have HB1 := Lib.hid hb1; have HL1 := Lib.hid (show w.heap.size < w1.heap.size by omega); clear hs1 hC1 hb1; have c1_19 := HC1.out.get 19 _ rfl)
      go_wp2_with (first
       | (go_at_call 167; (with_reducible refine (K1.out w1 HB1.out).mono ?_); rintro _ w2 ⟨rfl, hb2⟩; have HC2 := Lib.hid (HC1.out.below hb2 HL1.out); have HB2 := Lib.hid (HB1.out.trans (hb2.mono HB1.out.size)); have HL2 := Lib.hid (Nat.lt_of_lt_of_le HL1.out hb2.size); clear hb2; have c2_16 := HC2.out.get 16 _ rfl; have c2_17 := HC2.out.get 17 _ rfl; have c2_20 := HC2.out.get 20 _ rfl; have c2_21 := HC2.out.get 21 _ rfl)
       | (go_at_call 151; (with_reducible refine (K2.out _).mono ?_); rintro _ w9 ⟨rfl, rfl⟩; clear K2)
       | (go_at_call 151; (with_reducible refine (K3.out _).mono ?_); rintro _ w8 ⟨rfl, rfl⟩))
      go_ret
      exact ⟨by rw [HP.out]; rfl, HB2.out⟩
    | false =>
     rw [h5] at HP
     go_enter Tryz.func153, Tryz.ntmps153
     go_upto_region 1 with (refine wpList_box_cells rfl 49 _ rfl (mqCells m vc vw vf) (by exact rfl) w.heap.size rfl ?_; intro w1 hb1 hs1 hC1; have HC1 := Lib.hid hC1; have HB1 := Lib.hid hb1; have HL1 := Lib.hid (show w.heap.size < w1.heap.size by omega); clear hs1 hC1 hb1; have c1_19 := HC1.out.get 19 _ rfl)
     go_wp2_with (first
      | (go_at_call 167; (with_reducible refine (K1.out w1 HB1.out).mono ?_); rintro _ w2 ⟨rfl, hb2⟩; have HC2 := Lib.hid (HC1.out.below hb2 HL1.out); have HB2 := Lib.hid (HB1.out.trans (hb2.mono HB1.out.size)); have HL2 := Lib.hid (Nat.lt_of_lt_of_le HL1.out hb2.size); clear hb2; have c2_16 := HC2.out.get 16 _ rfl; have c2_17 := HC2.out.get 17 _ rfl; have c2_20 := HC2.out.get 20 _ rfl; have c2_21 := HC2.out.get 21 _ rfl)
      | (go_at_call 151; (with_reducible refine (K2.out _).mono ?_); rintro _ w9 ⟨rfl, rfl⟩; clear K2)
      | (go_at_call 151; (with_reducible refine (K3.out _).mono ?_); rintro _ w8 ⟨rfl, rfl⟩))
     go_ret
     exact ⟨by rw [HP.out]; rfl, HB2.out⟩
end
section
open Go.RowKit
section
variable {P : Program} {ops : Array Oper} {rest : List Oper} {o : Oper} {a : Act} {w : World} {Q : Exit → Act → World → Prop}
end
theorem store1_26 (g o n c : Nat) (A : Option Addr) (u : Value) (w : World) (h : w.cell? ⟨g, o, none⟩ = some u) (hf : w.frozen? ⟨g, o, none⟩ = false) : (Instr.storeAt 45 (.pointer (some ⟨g, o, none⟩)) (.slice A n c)).run Tryz.prog w = .ok () (w.setCell ⟨g, o, none⟩ (.slice A n c)) := by
 simp [go_sem, h, hf]
theorem store1_27 (g o n c : Nat) (A : Option Addr) (u : Value) (w : World) (h : w.cell? ⟨g, o, none⟩ = some u) (hf : w.frozen? ⟨g, o, none⟩ = false) : (Instr.storeAt 46 (.pointer (some ⟨g, o, none⟩)) (.slice A n c)).run Tryz.prog w = .ok () (w.setCell ⟨g, o, none⟩ (.slice A n c)) := by
 simp [go_sem, h, hf]
theorem store1_28 (g o n c : Nat) (A : Option Addr) (u : Value) (w : World) (h : w.cell? ⟨g, o, none⟩ = some u) (hf : w.frozen? ⟨g, o, none⟩ = false) : (Instr.storeAt 47 (.pointer (some ⟨g, o, none⟩)) (.slice A n c)).run Tryz.prog w = .ok () (w.setCell ⟨g, o, none⟩ (.slice A n c)) := by
 simp [go_sem, h, hf]
end
section
open Go.RowKit
def Onlied (m : Mq) (w : World) (e : Ending) (w' : World) : Prop :=
 ∃ vc vw vf, e = .returned (.tuple #[.agg (mqCells (onlyOf m) vc vw vf).toArray, .bool (okOf m)]) ∧ MqL w' w'.heap.size (onlyOf m) vc vw vf ∧ Below w.heap.size w w'
theorem onlied_of {m : Mq} {w w' : World} {L : List Value} {b : Bool} {vc vw vf : Value} (hL : L = mqCells (onlyOf m) vc vw vf) (hb : b = okOf m) (hM : MqL w' w'.heap.size (onlyOf m) vc vw vf) (hB : Below w.heap.size w w') :
  Onlied m w (.returned (.tuple #[.agg L.toArray, .bool b])) w' := by
 subst hL hb
 exact ⟨vc, vw, vf, rfl, hM, hB⟩
theorem MqL.nil {w : World} {B : Nat} {m : Mq} (h1 : m.codes = []) (h2 : m.wishes = []) (h3 : m.filters = []) : MqL w B m nilV nilV nilV := by
 refine ⟨none, 0, none, 0, none, 0, ?_, ?_, ?_, ?_, ?_, ?_, ?_, ?_, ?_, ?_, ?_, ?_⟩ <;> simp [h1, h2, h3, wv, Reads]
theorem MqL.onlyC {w : World} {B : Nat} {m m' : Mq} {vc vw vf : Value} (h : MqL w B m vc vw vf) (h1 : m'.codes = m.codes) (h2 : m'.wishes = []) (h3 : m'.filters = []) : MqL w B m' vc nilV nilV := by
 obtain ⟨A1, c1, A2, c2, A3, c3, e1, e2, e3, l1, l2, l3, k1, k2, k3, r1, r2, r3⟩ := h
 refine ⟨A1, c1, none, 0, none, 0, ?_, ?_, ?_, ?_, ?_, ?_, ?_, ?_, ?_, ?_, ?_, ?_⟩ <;> simp [h1, h2, h3, wv, Reads.none_, e1, l1, r1, k1]
theorem MqL.onlyW {w : World} {B : Nat} {m m' : Mq} {vc vw vf : Value} (h : MqL w B m vc vw vf) (h1 : m'.codes = []) (h2 : m'.wishes = m.wishes) (h3 : m'.filters = []) : MqL w B m' nilV vw nilV := by
 obtain ⟨A1, c1, A2, c2, A3, c3, e1, e2, e3, l1, l2, l3, k1, k2, k3, r1, r2, r3⟩ := h
 refine ⟨none, 0, A2, c2, none, 0, ?_, ?_, ?_, ?_, ?_, ?_, ?_, ?_, ?_, ?_, ?_, ?_⟩ <;> simp [h1, h2, h3, Reads.none_, e2, l2, r2, k2]
theorem MqL.onlyF {w : World} {B : Nat} {m m' : Mq} {vc vw vf : Value} (h : MqL w B m vc vw vf) (h1 : m'.codes = []) (h2 : m'.wishes = []) (h3 : m'.filters = m.filters) : MqL w B m' nilV nilV vf := by
 obtain ⟨A1, c1, A2, c2, A3, c3, e1, e2, e3, l1, l2, l3, k1, k2, k3, r1, r2, r3⟩ := h
 refine ⟨none, 0, none, 0, A3, c3, ?_, ?_, ?_, ?_, ?_, ?_, ?_, ?_, ?_, ?_, ?_, ?_⟩ <;> simp [h1, h2, h3, wv, Reads.none_, e3, l3, r3, k3]
structure MqFit (m : Mq) : Prop where
 client : Fits m.client
 wt : Fits m.wt
 wp : Fits m.wp
 user : Fits m.user
 pass : Fits m.pass
 topic : Fits m.topic
 payload : Fits m.payload
 wishes : ∀ s ∈ m.wishes, Fits s.1
 filters : ∀ s ∈ m.filters, Fits s
theorem kind_ne {k c d : Int} (h : k = c) (hd : (c == d) = false) : (k == d) = false := by rw [h]; exact hd
theorem kind_eq {k c : Int} (h : k = c) : (k == c) = true := by rw [h]; exact beq_self_eq_true c
end
section
open Go.RowKit
theorem may_kind {m : Mq} (h : okOf m = true) : 1 ≤ m.kind ∧ m.kind ≤ 14 := by
 unfold okOf at h
 split at h
 ·omega
 ·split at h
  ·omega
  ·split at h
   ·omega
   ·split at h
    ·next hk =>
     simp only [idKind, Bool.or_eq_true, beq_iff_eq] at hk
     omega
    ·split at h
     ·omega
     ·split at h
      ·omega
      ·split at h
       ·omega
       ·simp only [bareKind, Bool.or_eq_true, beq_iff_eq] at h
        omega
theorem emp_nos {s : ByteArray} (h : emp s = true) : s = nos := by
 have h0 : s.size = 0 := by simpa [emp] using h
 cases s with
 | mk d =>
  have : d = #[] := Array.eq_empty_of_size_eq_zero h0
  rw [this]
theorem flags_bits (a b c d e : Bool) (q : Nat) (hq : q ≤ 2) :
  let F := UInt8.ofNat (cb a 2 + cb b 4 + 8 * q + cb c 32 + cb d 64 + cb e 128)
  bitB F 2 = a ∧ bitB F 4 = b ∧ bitB F 32 = c ∧ bitB F 64 = d ∧ bitB F 128 = e ∧ (F >>> 3 &&& 3).toNat = q := by
 obtain ⟨q', rfl⟩ : ∃ q' : Fin 3, q = q'.val := ⟨⟨q, by omega⟩, rfl⟩
 revert a b c d e q'
 decide
theorem pub_bits (d r : Bool) (q : Nat) (hq : q ≤ 2) (x : Nat) (hx : x = 0 ∨ x = 48) :
  let F := UInt8.ofNat (x + (cb d 8 + 2 * q + cb r 1))
  bitB F 8 = d ∧ bitB F 1 = r ∧ (F >>> 1 &&& 3).toNat = q := by
 obtain ⟨q', rfl⟩ : ∃ q' : Fin 3, q = q'.val := ⟨⟨q, by omega⟩, rfl⟩
 rcases hx with rfl | rfl <;> revert d r q' <;> decide
structure Good (one : Rd → UInt8 × Rd) (two : Rd → Nat × Rd) (text : Rd → ByteArray × Rd) : Prop where
 o : ∀ x b, one (x :: b, false) = (x, (b, false))
 t : ∀ n b, n < 65536 → two (big 2 n ++ b, false) = (n, (b, false))
 s : ∀ s b, s.size < 65536 → text (strB s ++ b, false) = (s, (b, false))
theorem goodP : Good oneP twoP textP := ⟨oneP_cons, fun n b h => twoP_big n h b, fun s b h => textP_str s h b⟩
theorem big2_nat {n : Int} (h0 : 0 ≤ n) : ((n.toNat : Nat) : Int) = n := by omega
theorem connect_back {one : Rd → UInt8 × Rd} {two : Rd → Nat × Rd} {text : Rd → ByteArray × Rd} (G : Good one two text) (m : Mq) (hk : m.kind = 1) (h : connectOk m = true) (s : Rd)
  (hs : s = (UInt8.ofNat (flagsC m) :: (big 2 m.keep.toNat ++ (strB m.client ++ ((if m.won then strB m.wt ++ strB m.wp else []) ++ ((if m.hu then strB m.user else []) ++ (if m.hp then strB m.pass else []))))), false)) :
  (connOf one two text s).mq = onlyOf m ∧ (connOf one two text s).s = ([], false) := by
 subst hs
 simp only [connectOk, Bool.and_eq_true, decide_eq_true_eq] at h
 obtain ⟨hc, hkp, hw, hu, hps, h1, h2⟩ := h
 have hkp := inRB_iff.1 hkp
 have hc' := textOk_size hc
 have hu' := textOk_size hu
 have hwq : m.wq.toNat ≤ 2 ∧ m.wt.size < 65536 ∧ m.wp.size < 65536 ∧ 0 ≤ m.wq ∧ (m.won = false → m.wt = nos ∧ m.wp = nos ∧ m.wq = 0 ∧ m.wr = false) := by
  unfold willOk at hw
  cases hwon : m.won with
  | true =>
   rw [hwon, if_pos rfl] at hw
   simp only [Bool.and_eq_true, decide_eq_true_eq] at hw
   obtain ⟨a, b, c⟩ := hw
   have := inRB_iff.1 c
   have := textOk_size a
   exact ⟨by omega, by omega, by omega, by omega, fun h => by cases h⟩
  | false =>
   rw [hwon, if_neg (by simp)] at hw
   simp only [Bool.and_eq_true, beq_iff_eq, Bool.not_eq_true'] at hw
   obtain ⟨a, b, c, d⟩ := hw
   rw [emp_nos a, emp_nos b, c, d]
   exact ⟨by decide, by decide, by decide, by decide, fun _ => ⟨rfl, rfl, rfl, rfl⟩⟩
 obtain ⟨hq2, hwt, hwp, hq0, hno⟩ := hwq
 have hF := flags_bits m.clean m.won m.wr m.hp m.hu m.wq.toNat hq2
 have hFe : cb m.clean 2 + cb m.won 4 + 8 * m.wq.toNat + cb m.wr 32 + cb m.hp 64 + cb m.hu 128 = flagsC m := rfl
 rw [hFe] at hF
 generalize UInt8.ofNat (flagsC m) = F at hF
 obtain ⟨b2, b4, b32, b64, b128, bq⟩ := hF
 have hus : m.hu = false → m.user = nos ∧ m.hp = false := by
  intro h
  rw [h] at h1
  simp only [Bool.false_or, Bool.and_eq_true, Bool.not_eq_true'] at h1
  exact ⟨emp_nos h1.1, h1.2⟩
 have hpsz : m.hp = false → m.pass = nos := by
  intro h
  rw [h] at h2
  exact emp_nos (by simpa using h2)
 have hk' : onlyOf m = { mq0 1 with client := m.client, clean := m.clean, keep := m.keep, won := m.won, wt := m.wt, wp := m.wp, wq := m.wq, wr := m.wr, user := m.user, hu := m.hu, pass := m.pass, hp := m.hp } := by
  unfold onlyOf
  rw [if_pos hk, hk]
 rw [hk']
 unfold connOf
 simp only [Conn.mq, G.o, G.t _ _ (show m.keep.toNat < 65536 by omega), G.s _ _ (show m.client.size < 65536 by omega), b2, b4, b32, b64, b128, bq]
 cases hwon : m.won with
 | true =>
  simp only [if_true, List.append_assoc, G.s _ _ hwt, G.s _ _ hwp]
  cases hhu : m.hu with
  | true =>
   simp only [if_true, G.s _ _ (show m.user.size < 65536 by omega)]
   cases hhp : m.hp with
   | true =>
    have := G.s m.pass [] (by omega)
    rw [List.append_nil] at this
    simp only [if_true, this]
    exact ⟨by rw [big2_nat hkp.1, big2_nat hq0, Bool.true_and], by first | rfl | trivial⟩
   | false =>
    simp only [Bool.false_eq_true, if_false]
    rw [hpsz hhp]
    exact ⟨by rw [big2_nat hkp.1, big2_nat hq0, Bool.true_and], by first | rfl | trivial⟩
  | false =>
   obtain ⟨e1, e2⟩ := hus hhu
   simp only [Bool.false_eq_true, if_false, e2, e1, hpsz e2]
   exact ⟨by rw [big2_nat hkp.1, big2_nat hq0, Bool.true_and], by first | rfl | trivial⟩
 | false =>
  obtain ⟨w1, w2, w3, w4⟩ := hno hwon
  simp only [Bool.false_eq_true, if_false, List.nil_append, w1, w2, w3, w4]
  cases hhu : m.hu with
  | true =>
   simp only [if_true, G.s _ _ (show m.user.size < 65536 by omega)]
   cases hhp : m.hp with
   | true =>
    have := G.s m.pass [] (by omega)
    rw [List.append_nil] at this
    simp only [if_true, this]
    exact ⟨by rw [big2_nat hkp.1, Bool.false_and], by first | rfl | trivial⟩
   | false =>
    simp only [Bool.false_eq_true, if_false]
    rw [hpsz hhp]
    exact ⟨by rw [big2_nat hkp.1, Bool.false_and], by first | rfl | trivial⟩
  | false =>
   obtain ⟨e1, e2⟩ := hus hhu
   simp only [Bool.false_eq_true, if_false, e2, e1, hpsz e2]
   exact ⟨by rw [big2_nat hkp.1, Bool.false_and], by first | rfl | trivial⟩
theorem connectP (m : Mq) (hk : m.kind = 1) (h : connectOk m = true) : (connP (connectBy m, false)).mq = onlyOf m ∧ (connP (connectBy m, false)).s = ([], false) := by
 unfold connP connectBy
 simp only [List.append_assoc]
 rw [show big 2 4 ++ ([77, 81, 84, 84] ++ ([4, UInt8.ofNat (flagsC m)] ++ (big 2 m.keep.toNat ++ (strB m.client ++ ((if m.won = true then strB m.wt ++ strB m.wp else []) ++ ((if m.hu = true then strB m.user else []) ++ (if m.hp = true then strB m.pass else []))))))) =
  [0, 4, 77, 81, 84, 84, 4] ++ (UInt8.ofNat (flagsC m) :: (big 2 m.keep.toNat ++ (strB m.client ++ ((if m.won = true then strB m.wt ++ strB m.wp else []) ++ ((if m.hu = true then strB m.user else []) ++ (if m.hp = true then strB m.pass else [])))))) from rfl]
 rw [takeP_app _ _ 7 rfl]
 exact connect_back goodP m hk h _ rfl
theorem ne_zero_q (F : UInt8) (q : Nat) (h : (F >>> 1 &&& 3).toNat = q) : (F >>> 1 &&& 3 != 0) = decide (0 < q) := by
 subst h
 rw [Bool.eq_iff_iff, bne_iff_ne, decide_eq_true_eq]
 constructor
 ·intro h
  rcases Nat.eq_zero_or_pos (F >>> 1 &&& 3).toNat with h0 | h0
  ·exact absurd (UInt8.toNat_inj.1 (by rw [h0]; rfl)) h
  ·exact h0
 ·intro h e
  rw [e] at h
  exact absurd h (by decide)
theorem publish_facts {m : Mq} (h : publishOk m = true) : m.topic.size ≤ 64 ∧ 0 ≤ m.qos ∧ m.qos ≤ 2 ∧ (0 < m.qos → 1 ≤ m.id ∧ m.id ≤ 65535) ∧ (m.qos = 0 → m.id = 0) ∧ m.payload.size ≤ 128 := by
 simp only [publishOk, topicOk, Bool.and_eq_true, decide_eq_true_eq, Bool.or_eq_true, beq_iff_eq] at h
 obtain ⟨⟨ht, _⟩, hq, hi, hp⟩ := h
 have ht := textOk_size ht
 have hq := inRB_iff.1 hq
 refine ⟨by omega, hq.1, hq.2, fun h => ?_, fun h => ?_, by omega⟩
 ·rcases hi with ⟨_, hi⟩ | ⟨hi, _⟩
  ·have := inRB_iff.1 hi
   omega
  ·omega
 ·rcases hi with ⟨hi, _⟩ | ⟨_, hi, _⟩
  ·omega
  ·exact hi
theorem publish_backP (m : Mq) (hk : m.kind = 3) (h : publishOk m = true) (F : UInt8) (b8 : bitB F 8 = m.dup) (b1 : bitB F 1 = m.retain) (bq : (F >>> 1 &&& 3).toNat = m.qos.toNat) : pubP F (publishBy m, false) = (onlyOf m, ([], false)) := by
 obtain ⟨ht, hq0, hq2, hi, hz, hp⟩ := publish_facts h
 have hk' : onlyOf m = { mq0 3 with topic := m.topic, qos := m.qos, dup := m.dup, retain := m.retain, id := m.id, payload := m.payload } := by
  unfold onlyOf
  rw [if_neg (by omega), if_neg (by omega), if_pos hk, hk]
 rw [hk']
 unfold pubP publishBy
 simp only [List.append_assoc, textP_str _ (show m.topic.size < 65536 by omega), ne_zero_q F _ bq, pubMq, b8, b1, bq]
 by_cases hq : 0 < m.qos
 ·obtain ⟨i1, i2⟩ := hi hq
  have hd : decide (0 < m.qos.toNat) = true := by simp; omega
  simp only [hd, if_pos hq, if_true, twoP_big _ (show m.id.toNat < 65536 by omega)]
  have hta := takeP_app (sb m.payload) [] _ rfl
  rw [List.append_nil] at hta
  simp only [hta, mkS_sb]
  rw [big2_nat hq0, big2_nat (show 0 ≤ m.id by omega)]
 ·have hq' : m.qos = 0 := by omega
  have hd : decide (0 < m.qos.toNat) = false := by simp; omega
  simp only [hd, if_neg (show ¬ 0 < m.qos by omega), Bool.false_eq_true, if_false, List.nil_append]
  have hta := takeP_app (sb m.payload) [] _ rfl
  rw [List.append_nil] at hta
  simp only [hta, mkS_sb]
  rw [big2_nat hq0, hz hq']
theorem wishesAll_mem {l : List (ByteArray × Int)} {x : ByteArray × Int} {xs : List (ByteArray × Int)} (e : l = x :: xs) (h : wishesAll l = true) : x.1.size ≤ 64 ∧ 0 ≤ x.2 ∧ x.2 ≤ 2 ∧ wishesAll xs = true := by
 subst e
 simp only [wishesAll, Bool.and_eq_true] at h
 obtain ⟨⟨a, b⟩, c⟩ := h
 have := textOk_size a
 have := inRB_iff.1 b
 exact ⟨by omega, by omega, by omega, c⟩
theorem filtersAll_mem {l : List ByteArray} {x : ByteArray} {xs : List ByteArray} (e : l = x :: xs) (h : filtersAll l = true) : x.size ≤ 64 ∧ filtersAll xs = true := by
 subst e
 simp only [filtersAll, Bool.and_eq_true] at h
 have := textOk_size h.1
 exact ⟨by omega, h.2⟩
theorem codesAll_mem {l : List Int} {x : Int} {xs : List Int} (e : l = x :: xs) (h : codesAll l = true) : 0 ≤ x ∧ x ≤ 128 ∧ codesAll xs = true := by
 subst e
 simp only [codesAll, Bool.and_eq_true, Bool.or_eq_true, beq_iff_eq] at h
 obtain ⟨a, b⟩ := h
 rcases a with a | a
 ·have := inRB_iff.1 a
  exact ⟨by omega, by omega, b⟩
 ·exact ⟨by omega, by omega, b⟩
theorem byte_back {x : Int} (h0 : 0 ≤ x) (h1 : x ≤ 255) : ((UInt8.ofNat x.toNat).toNat : Int) = x := by
 rw [UInt8.toNat_ofNat']
 omega
theorem loopP8 (l : List (ByteArray × Int)) (h : wishesAll l = true) : ∀ (f : Nat) (m : Mq), l.length < f → loopP 8 f m (wishesBy l, false) = ({ m with wishes := m.wishes ++ l }, ([], false)) := by
 induction l with
 | nil =>
  intro f m hf
  cases f with
  | zero => omega
  | succ f => simp [loopP, wishesBy]
 | cons x xs ih =>
  intro f m hf
  obtain ⟨a, b, c, d⟩ := wishesAll_mem rfl h
  cases f with
  | zero => omega
  | succ f =>
   have hb : wishesBy (x :: xs) = strB x.1 ++ (UInt8.ofNat x.2.toNat :: wishesBy xs) := by simp [wishesBy]
   have hl : 0 < (strB x.1 ++ (UInt8.ofNat x.2.toNat :: wishesBy xs)).length := by simp; omega
   rw [hb, loopP]
   simp only [hl, and_self, if_true, textP_str _ (show x.1.size < 65536 by omega), oneP_cons, byte_back b (by omega)]
   rw [ih d f _ (by simp at hf; omega)]
   simp
theorem loopP9 (l : List Int) (h : codesAll l = true) : ∀ (f : Nat) (m : Mq), l.length < f → loopP 9 f m (codesBy l, false) = ({ m with codes := m.codes ++ l }, ([], false)) := by
 induction l with
 | nil =>
  intro f m hf
  cases f with
  | zero => omega
  | succ f => simp [loopP, codesBy]
 | cons x xs ih =>
  intro f m hf
  obtain ⟨a, b, d⟩ := codesAll_mem rfl h
  cases f with
  | zero => omega
  | succ f =>
   rw [show codesBy (x :: xs) = UInt8.ofNat x.toNat :: codesBy xs from rfl, loopP]
   simp only [List.length_cons, Nat.zero_lt_succ, and_self, if_true, show ¬ ((9 : Int) = 8) by decide, if_false, oneP_cons, byte_back a (by omega)]
   rw [ih d f _ (by simp at hf; omega)]
   simp
theorem loopP10 (l : List ByteArray) (h : filtersAll l = true) : ∀ (f : Nat) (m : Mq), l.length < f → loopP 10 f m (filtersBy l, false) = ({ m with filters := m.filters ++ l }, ([], false)) := by
 induction l with
 | nil =>
  intro f m hf
  cases f with
  | zero => omega
  | succ f => simp [loopP, filtersBy]
 | cons x xs ih =>
  intro f m hf
  obtain ⟨a, d⟩ := filtersAll_mem rfl h
  cases f with
  | zero => omega
  | succ f =>
   have hl : 0 < (strB x ++ filtersBy xs).length := by simp [strB, big_length]; omega
   rw [show filtersBy (x :: xs) = strB x ++ filtersBy xs from rfl, loopP]
   simp only [hl, and_self, if_true, show ¬ ((10 : Int) = 8) by decide, show ¬ ((10 : Int) = 9) by decide, if_false, textP_str _ (show x.size < 65536 by omega)]
   rw [ih d f _ (by simp at hf; omega)]
   simp
end
section
open Go.RowKit
def loB (x : UInt8) : UInt8 := x &&& 15
theorem first_parts (k f : Nat) (hk : k ≤ 14) (hf : f ≤ 15) : (UInt8.ofNat (16 * k + f)).toNat / 16 = k ∧ loB (UInt8.ofNat (16 * k + f)) = UInt8.ofNat f := by
 obtain ⟨k', rfl⟩ : ∃ k' : Fin 15, k = k'.val := ⟨⟨k, by omega⟩, rfl⟩
 obtain ⟨f', rfl⟩ : ∃ f' : Fin 16, f = f'.val := ⟨⟨f, by omega⟩, rfl⟩
 revert k' f'
 decide
theorem flagsBy_le {m : Mq} (h : okOf m = true) : flagsBy m ≤ 15 := by
 unfold flagsBy
 split
 ·next hk =>
  have h' : publishOk m = true := by
   unfold okOf at h
   rw [if_neg (by omega), if_neg (by omega), if_pos hk] at h
   exact h
  obtain ⟨_, h0, h2, _⟩ := publish_facts h'
  have : cb m.dup 8 ≤ 8 := by unfold cb; split <;> omega
  have : cb m.retain 1 ≤ 1 := by unfold cb; split <;> omega
  omega
 ·split
  ·omega
  ·split
   ·omega
   ·split <;> omega
theorem readP_back {m : Mq} (h : mayB m) : readP m.kind (UInt8.ofNat (flagsBy m)) (bodyBy m, false) = (m, ([], false)) := by
 obtain ⟨h, ho⟩ := h
 have hkk := may_kind h
 have ids : ∀ {n : Int}, inRB n 1 65535 = true → 0 ≤ n ∧ n.toNat < 65536 := fun h => by have := inRB_iff.1 h; omega
 unfold readP
 by_cases k1 : m.kind = 1
 ·have hc : connectOk m = true := by unfold okOf at h; rw [if_pos k1] at h; exact h
  obtain ⟨a, b⟩ := connectP m k1 hc
  rw [if_pos k1, show bodyBy m = connectBy m by unfold bodyBy; rw [if_pos k1], a, b, ← ho]
 rw [if_neg k1]
 by_cases k2 : m.kind = 2
 ·have hc : (inRB m.code 0 5 && (!m.present || m.code == 0)) = true := by unfold okOf at h; rw [if_neg k1, if_pos k2] at h; exact h
  simp only [Bool.and_eq_true] at hc
  have hc := inRB_iff.1 hc.1
  rw [if_pos k2, show bodyBy m = [UInt8.ofNat (cb m.present 1), UInt8.ofNat m.code.toNat] by unfold bodyBy; rw [if_neg k1, if_pos k2]]
  simp only [oneP_cons, byte_back hc.1 (by omega)]
  have hp : (UInt8.ofNat (cb m.present 1) == 1) = m.present := by cases m.present <;> rfl
  rw [hp]
  have e : onlyOf m = { mq0 m.kind with present := m.present, code := m.code } := by unfold onlyOf; rw [if_neg k1, if_pos k2]
  rw [← e, ← ho]
 rw [if_neg k2]
 by_cases k3 : m.kind = 3
 ·have hc : publishOk m = true := by unfold okOf at h; rw [if_neg k1, if_neg k2, if_pos k3] at h; exact h
  obtain ⟨_, h0, hq2, _⟩ := publish_facts hc
  have hb := pub_bits m.dup m.retain m.qos.toNat (by omega) 0 (.inl rfl)
  rw [Nat.zero_add, show cb m.dup 8 + 2 * m.qos.toNat + cb m.retain 1 = flagsBy m by unfold flagsBy; rw [if_pos k3]] at hb
  rw [if_pos k3, show bodyBy m = publishBy m by unfold bodyBy; rw [if_neg k1, if_neg k2, if_pos k3], publish_backP m k3 hc _ hb.1 hb.2.1 hb.2.2, ← ho]
 rw [if_neg k3]
 by_cases k8 : m.kind = 8
 ·have hc : (inRB m.id 1 65535 && wishesOk m.wishes) = true := by
   unfold okOf at h; rw [if_neg k1, if_neg k2, if_neg k3, if_neg (by simp [idKind, k8]), if_pos k8] at h; exact h
  simp only [Bool.and_eq_true, wishesOk] at hc
  obtain ⟨i0, i1⟩ := ids hc.1
  rw [if_pos (by simp [listKind, k8]), show bodyBy m = big 2 m.id.toNat ++ wishesBy m.wishes by unfold bodyBy; rw [if_neg k1, if_neg k2, if_neg k3, if_pos k8]]
  simp only [twoP_big _ i1, big2_nat i0, k8]
  have hl : ∀ l : List (ByteArray × Int), l.length ≤ (wishesBy l).length := by
   intro l
   induction l with
   | nil => simp [wishesBy]
   | cons x xs ih => simp [wishesBy]; omega
  rw [loopP8 _ hc.2.1 _ _ (by have := hl m.wishes; omega)]
  have e : onlyOf m = { mq0 m.kind with id := m.id, wishes := m.wishes } := by
   unfold onlyOf; rw [if_neg k1, if_neg k2, if_neg k3, if_neg (by simp [idKind, k8]), if_pos k8]
  rw [k8] at e
  rw [ho, e]
  rfl
 by_cases k9 : m.kind = 9
 ·have hc : (inRB m.id 1 65535 && codesOk m.codes) = true := by
   unfold okOf at h; rw [if_neg k1, if_neg k2, if_neg k3, if_neg (by simp [idKind, k9]), if_neg k8, if_pos k9] at h; exact h
  simp only [Bool.and_eq_true, codesOk] at hc
  obtain ⟨i0, i1⟩ := ids hc.1
  rw [if_pos (by simp [listKind, k9]), show bodyBy m = big 2 m.id.toNat ++ codesBy m.codes by unfold bodyBy; rw [if_neg k1, if_neg k2, if_neg k3, if_neg k8, if_pos k9]]
  simp only [twoP_big _ i1, big2_nat i0, k9]
  have hl : ∀ l : List Int, l.length ≤ (codesBy l).length := by
   intro l
   induction l with
   | nil => simp [codesBy]
   | cons x xs ih => simp [codesBy]; omega
  rw [loopP9 _ hc.2.1 _ _ (by have := hl m.codes; omega)]
  have e : onlyOf m = { mq0 m.kind with id := m.id, codes := m.codes } := by
   unfold onlyOf; rw [if_neg k1, if_neg k2, if_neg k3, if_neg (by simp [idKind, k9]), if_neg k8, if_pos k9]
  rw [k9] at e
  rw [ho, e]
  rfl
 by_cases k10 : m.kind = 10
 ·have hc : (inRB m.id 1 65535 && filtersOk m.filters) = true := by
   unfold okOf at h; rw [if_neg k1, if_neg k2, if_neg k3, if_neg (by simp [idKind, k10]), if_neg k8, if_neg k9, if_pos k10] at h; exact h
  simp only [Bool.and_eq_true, filtersOk] at hc
  obtain ⟨i0, i1⟩ := ids hc.1
  rw [if_pos (by simp [listKind, k10]), show bodyBy m = big 2 m.id.toNat ++ filtersBy m.filters by unfold bodyBy; rw [if_neg k1, if_neg k2, if_neg k3, if_neg k8, if_neg k9, if_pos k10]]
  simp only [twoP_big _ i1, big2_nat i0, k10]
  have hl : ∀ l : List ByteArray, l.length ≤ (filtersBy l).length := by
   intro l
   induction l with
   | nil => simp [filtersBy]
   | cons x xs ih => simp [filtersBy, strB, big_length]; omega
  rw [loopP10 _ hc.2.1 _ _ (by have := hl m.filters; omega)]
  have e : onlyOf m = { mq0 m.kind with id := m.id, filters := m.filters } := by
   unfold onlyOf; rw [if_neg k1, if_neg k2, if_neg k3, if_neg (by simp [idKind, k10]), if_neg k8, if_neg k9, if_pos k10]
  rw [k10] at e
  rw [ho, e]
  rfl
 rw [if_neg (by simp [listKind, k8, k9, k10])]
 by_cases ki : idKind m.kind = true
 ·have hc : inRB m.id 1 65535 = true := by
   unfold okOf at h; rw [if_neg k1, if_neg k2, if_neg k3, if_pos ki] at h; exact h
  obtain ⟨i0, i1⟩ := ids hc
  have kb : ¬ bareKind m.kind = true := by
   simp only [idKind, Bool.or_eq_true, beq_iff_eq] at ki
   simp only [bareKind, Bool.or_eq_true, beq_iff_eq]
   omega
  rw [if_pos ki, show bodyBy m = big 2 m.id.toNat by unfold bodyBy; rw [if_neg k1, if_neg k2, if_neg k3, if_neg k8, if_neg k9, if_neg k10, if_neg kb]]
  have := twoP_big _ i1 []
  rw [List.append_nil] at this
  simp only [this, big2_nat i0]
  have e : onlyOf m = { mq0 m.kind with id := m.id } := by unfold onlyOf; rw [if_neg k1, if_neg k2, if_neg k3, if_pos ki]
  rw [← e, ← ho]
 rw [if_neg ki]
 have kb : bareKind m.kind = true := by
  unfold okOf at h; rw [if_neg k1, if_neg k2, if_neg k3, if_neg ki, if_neg k8, if_neg k9, if_neg k10] at h; exact h
 rw [show bodyBy m = [] by unfold bodyBy; rw [if_neg k1, if_neg k2, if_neg k3, if_neg k8, if_neg k9, if_neg k10, if_pos kb]]
 have e : onlyOf m = mq0 m.kind := by unfold onlyOf; rw [if_neg k1, if_neg k2, if_neg k3, if_neg ki, if_neg k8, if_neg k9, if_neg k10]
 rw [← e, ← ho]
theorem strB_length (s : ByteArray) : (strB s).length = 2 + s.size := by simp [strB, big_length]
theorem wishesBy_le : ∀ (l : List (ByteArray × Int)), wishesAll l = true → (wishesBy l).length ≤ 67 * l.length
 | [], _ => by simp [wishesBy]
 | x :: xs, h => by
  obtain ⟨a, _, _, d⟩ := wishesAll_mem rfl h
  have := wishesBy_le xs d
  simp [wishesBy, strB_length]
  omega
theorem codesBy_le : ∀ (l : List Int), (codesBy l).length = l.length
 | [] => rfl
 | x :: xs => by simp [codesBy, codesBy_le xs]
theorem filtersBy_le : ∀ (l : List ByteArray), filtersAll l = true → (filtersBy l).length ≤ 66 * l.length
 | [], _ => by simp [filtersBy]
 | x :: xs, h => by
  obtain ⟨a, d⟩ := filtersAll_mem rfl h
  have := filtersBy_le xs d
  simp [filtersBy, strB_length]
  omega
theorem body_le {m : Mq} (h : okOf m = true) : (bodyBy m).length ≤ 540 := by
 have hkk := may_kind h
 unfold bodyBy
 by_cases k1 : m.kind = 1
 ·have hc : connectOk m = true := by unfold okOf at h; rw [if_pos k1] at h; exact h
  rw [if_pos k1]
  simp only [connectOk, Bool.and_eq_true, decide_eq_true_eq] at hc
  obtain ⟨hc, hkp, hw, hu, hps, h1, h2⟩ := hc
  have hc' := textOk_size hc
  have hu' := textOk_size hu
  have hwq : m.wt.size ≤ 64 ∧ m.wp.size ≤ 128 := by
   unfold willOk at hw
   cases hwon : m.won with
   | true =>
    rw [hwon, if_pos rfl] at hw
    simp only [Bool.and_eq_true, decide_eq_true_eq] at hw
    obtain ⟨a, b, c⟩ := hw
    have := textOk_size a
    exact ⟨by omega, by omega⟩
   | false =>
    rw [hwon, if_neg (by simp)] at hw
    simp only [Bool.and_eq_true, beq_iff_eq, Bool.not_eq_true'] at hw
    obtain ⟨a, b, c, d⟩ := hw
    rw [emp_nos a, emp_nos b]
    exact ⟨by decide, by decide⟩
  have a1 : (if m.won = true then strB m.wt ++ strB m.wp else []).length ≤ 200 := by split <;> simp [strB_length] <;> omega
  have a2 : (if m.hu = true then strB m.user else []).length ≤ 70 := by split <;> simp [strB_length] <;> omega
  have a3 : (if m.hp = true then strB m.pass else []).length ≤ 70 := by split <;> simp [strB_length] <;> omega
  unfold connectBy
  simp only [List.length_append, big_length, strB_length, List.length_cons, List.length_nil]
  omega
 rw [if_neg k1]
 by_cases k2 : m.kind = 2
 ·rw [if_pos k2]; simp
 rw [if_neg k2]
 by_cases k3 : m.kind = 3
 ·have hc : publishOk m = true := by unfold okOf at h; rw [if_neg k1, if_neg k2, if_pos k3] at h; exact h
  obtain ⟨ht, _, _, _, _, hp⟩ := publish_facts hc
  rw [if_pos k3]
  have a1 : (if 0 < m.qos then big 2 m.id.toNat else []).length ≤ 2 := by split <;> simp [big_length]
  unfold publishBy
  simp only [List.length_append, strB_length, sb_length]
  omega
 rw [if_neg k3]
 by_cases k8 : m.kind = 8
 ·have hc : (inRB m.id 1 65535 && wishesOk m.wishes) = true := by
   unfold okOf at h; rw [if_neg k1, if_neg k2, if_neg k3, if_neg (by simp [idKind, k8]), if_pos k8] at h; exact h
  simp only [Bool.and_eq_true, wishesOk] at hc
  have hl := inRB_iff.1 hc.2.2
  have := wishesBy_le _ hc.2.1
  rw [if_pos k8, List.length_append, big_length]
  omega
 rw [if_neg k8]
 by_cases k9 : m.kind = 9
 ·have hc : (inRB m.id 1 65535 && codesOk m.codes) = true := by
   unfold okOf at h; rw [if_neg k1, if_neg k2, if_neg k3, if_neg (by simp [idKind, k9]), if_neg k8, if_pos k9] at h; exact h
  simp only [Bool.and_eq_true, codesOk] at hc
  have hl := inRB_iff.1 hc.2.2
  rw [if_pos k9, List.length_append, big_length, codesBy_le]
  omega
 rw [if_neg k9]
 by_cases k10 : m.kind = 10
 ·have hc : (inRB m.id 1 65535 && filtersOk m.filters) = true := by
   unfold okOf at h; rw [if_neg k1, if_neg k2, if_neg k3, if_neg (by simp [idKind, k10]), if_neg k8, if_neg k9, if_pos k10] at h; exact h
  simp only [Bool.and_eq_true, filtersOk] at hc
  have hl := inRB_iff.1 hc.2.2
  have := filtersBy_le _ hc.2.1
  rw [if_pos k10, List.length_append, big_length]
  omega
 rw [if_neg k10]
 split
 ·simp
 ·rw [big_length]; omega
def sizeGo : Nat → Nat → Nat → List UInt8 → Except Int (Nat × Nat)
 | _, _, _, [] => .error 7
 | 0, _, _, _ :: _ => .error 1
 | f + 1, i, n, x :: r =>
  if 128 ≤ x.toNat then (if i = 4 then .error 1 else sizeGo f (i + 1) (n + x.toNat % 128 * 128 ^ (i - 1)) r)
  else if x.toNat = 0 ∧ 1 < i then .error 1
  else if 1024 < n + x.toNat % 128 * 128 ^ (i - 1) + (i + 1) then .error 2
  else if r.length < n + x.toNat % 128 * 128 ^ (i - 1) then .error 7
  else .ok (n + x.toNat % 128 * 128 ^ (i - 1) + (i + 1), i + 1)
def sizeD : List UInt8 → Except Int (Nat × Nat)
 | [] => .error 7
 | _ :: r => sizeGo 4 1 0 r
theorem vlen_short (n : Nat) (h : n < 128) : vlen n = [UInt8.ofNat n] := by unfold vlen; rw [if_pos h]
theorem vlen_long (n : Nat) (h : ¬ n < 128) (h2 : n < 16384) : vlen n = [UInt8.ofNat (n % 128 + 128), UInt8.ofNat (n / 128)] := by
 unfold vlen; rw [if_neg h, vlen_short _ (by omega)]
theorem ofNat_nat (n : Nat) (h : n < 256) : (UInt8.ofNat n).toNat = n := by rw [UInt8.toNat_ofNat']; omega
theorem sizeD_lay (x : UInt8) (B rest : List UInt8) (h : B.length ≤ 540) : sizeD (x :: (vlen B.length ++ B ++ rest)) = .ok (1 + (vlen B.length).length + B.length, 1 + (vlen B.length).length) := by
 unfold sizeD
 by_cases hs : B.length < 128
 ·rw [vlen_short _ hs]
  simp only [List.cons_append, List.nil_append, sizeGo, ofNat_nat _ (show B.length < 256 by omega), List.length_append, List.length_cons, List.length_nil]
  rw [if_neg (by omega), if_neg (by omega), if_neg (by omega), if_neg (by omega)]
  have : B.length % 128 * 128 ^ (1 - 1) = B.length := by omega
  rw [this]
  congr 2
  omega
 ·rw [vlen_long _ hs (by omega)]
  simp only [List.cons_append, List.nil_append, sizeGo, ofNat_nat _ (show B.length % 128 + 128 < 256 by omega), ofNat_nat _ (show B.length / 128 < 256 by omega), List.length_append, List.length_cons, List.length_nil]
  rw [if_pos (by omega), if_neg (by omega), if_neg (by omega), if_neg (by omega)]
  have : 0 + (B.length % 128 + 128) % 128 * 128 ^ (1 - 1) + B.length / 128 % 128 * 128 ^ (1 + 1 - 1) = B.length := by omega
  rw [this, if_neg (by omega), if_neg (by omega)]
  congr 2
  omega
def Parsed (b : List UInt8) (m : Mq) (n : Nat) (e : Int) : Prop :=
 match sizeD b with
 | .error er => e = er ∧ m = mq0 0 ∧ n = 0
 | .ok (t, _) => (mayB m ∧ layB m = b.take t ∧ n = t ∧ e = 0) ∨ ((∀ m', mayB m' → layB m' ≠ b.take t) ∧ m = mq0 0 ∧ n = 0 ∧ e = 1)
theorem lay_parts {m : Mq} (h : mayB m) : sizeD (layB m) = .ok ((layB m).length, 1 + (vlen (bodyBy m).length).length) ∧ (layB m).drop (1 + (vlen (bodyBy m).length).length) = bodyBy m := by
 have hb := body_le h.1
 have e : layB m = UInt8.ofNat (16 * m.kind.toNat + flagsBy m) :: (vlen (bodyBy m).length ++ bodyBy m ++ []) := by rw [List.append_nil]; rfl
 constructor
 ·rw [e, sizeD_lay _ _ _ hb]
  congr 2
  simp
  omega
 ·rw [e, List.append_nil, Nat.add_comm 1, List.drop_succ_cons, List.drop_left]
theorem lay_inj {m m' : Mq} (h : mayB m) (h' : mayB m') (e : layB m = layB m') : m = m' := by
 have p := lay_parts h
 have p' := lay_parts h'
 rw [← e] at p'
 have hh : 1 + (vlen (bodyBy m).length).length = 1 + (vlen (bodyBy m').length).length := by
  have := p.1.symm.trans p'.1
  injection this with this
  injection this
 have hbody : bodyBy m = bodyBy m' := by rw [← p.2, ← p'.2, hh]
 have hx : UInt8.ofNat (16 * m.kind.toNat + flagsBy m) = UInt8.ofNat (16 * m'.kind.toNat + flagsBy m') := by
  have := congrArg (fun l => l.headD 0) e
  simpa [layB] using this
 have k1 := may_kind h.1
 have k2 := may_kind h'.1
 have f1 := first_parts m.kind.toNat (flagsBy m) (by omega) (flagsBy_le h.1)
 have f2 := first_parts m'.kind.toNat (flagsBy m') (by omega) (flagsBy_le h'.1)
 rw [hx] at f1
 have hk : m.kind = m'.kind := by
  have := f1.1.symm.trans f2.1
  omega
 have r1 := readP_back h
 have r2 := readP_back h'
 have hf : UInt8.ofNat (flagsBy m) = UInt8.ofNat (flagsBy m') := f1.2.symm.trans f2.2
 rw [hk, hf, hbody, r2] at r1
 exact (congrArg (·.1) r1).symm
theorem parsed_one {b : List UInt8} {m m' : Mq} {n n' : Nat} {e e' : Int} (h : Parsed b m n e) (h' : Parsed b m' n' e') : m = m' ∧ n = n' ∧ e = e' := by
 unfold Parsed at h h'
 cases hs : sizeD b with
 | error er =>
  rw [hs] at h h'
  obtain ⟨rfl, rfl, rfl⟩ := h
  obtain ⟨rfl, rfl, rfl⟩ := h'
  exact ⟨rfl, rfl, rfl⟩
 | ok p =>
  rw [hs] at h h'
  rcases h with ⟨a, b1, c, d⟩ | ⟨a, b1, c, d⟩
  ·rcases h' with ⟨a', b', c', d'⟩ | ⟨a', b', c', d'⟩
   ·exact ⟨lay_inj a a' (b1.trans b'.symm), c.trans c'.symm, d.trans d'.symm⟩
   ·exact absurd b1 (a' _ a)
  ·rcases h' with ⟨a', b', c', d'⟩ | ⟨a', b', c', d'⟩
   ·exact absurd b' (a _ a')
   ·exact ⟨b1.trans b'.symm, c.trans c'.symm, d.trans d'.symm⟩
theorem lay_length {m : Mq} : (layB m).length = 1 + (vlen (bodyBy m).length).length + (bodyBy m).length := by
 unfold layB; simp; omega
theorem vlen_le (n : Nat) (h : n < 16384) : (vlen n).length ≤ 2 := by
 by_cases hs : n < 128
 ·rw [vlen_short _ hs]; simp
 ·rw [vlen_long _ hs h]; simp
theorem lay_le {m : Mq} (h : mayB m) : (layB m).length ≤ 543 := by
 have hb := body_le h.1
 have := vlen_le (bodyBy m).length (by omega)
 rw [lay_length]
 omega
theorem parsed_lay {m : Mq} (h : mayB m) (rest : List UInt8) : Parsed (layB m ++ rest) m (layB m).length 0 := by
 unfold Parsed
 have hb := body_le h.1
 have e : layB m ++ rest = UInt8.ofNat (16 * m.kind.toNat + flagsBy m) :: (vlen (bodyBy m).length ++ bodyBy m ++ rest) := by simp [layB]
 rw [e, sizeD_lay _ _ _ hb, ← lay_length, ← e]
 exact .inl ⟨h, by simp, rfl, rfl⟩
theorem parsed_ok {b : List UInt8} {t i : Nat} (hs : sizeD b = .ok (t, i)) {m : Mq} (hm : mayB m) (hl : layB m = b.take t) : Parsed b m t 0 := by
 unfold Parsed; rw [hs]; exact .inl ⟨hm, hl, rfl, rfl⟩
theorem sizeGo_ge : ∀ (f i n : Nat) (l : List UInt8) (t j : Nat), sizeGo f i n l = .ok (t, j) → i + 1 ≤ j ∧ j ≤ t ∧ t ≤ i + l.length ∧ t ≤ 1024 := by
 intro f
 induction f with
 | zero => intro i n l t j h; cases l <;> simp [sizeGo] at h
 | succ f ih =>
  intro i n l t j h
  cases l with
  | nil => simp [sizeGo] at h
  | cons x r =>
   rw [sizeGo] at h
   split at h
   ·split at h
    ·cases h
    ·have := ih _ _ _ _ _ h
     simp only [List.length_cons]
     omega
   ·split at h
    ·cases h
    ·split at h
     ·cases h
     ·split at h
      ·cases h
      ·injection h with h
       injection h with h1 h2
       simp only [List.length_cons]
       omega
theorem sizeD_ge {b : List UInt8} {t i : Nat} (hs : sizeD b = .ok (t, i)) : 2 ≤ i ∧ i ≤ t ∧ t ≤ b.length ∧ t ≤ 1024 := by
 cases b with
 | nil => cases hs
 | cons x r =>
  have := sizeGo_ge _ _ _ _ _ _ hs
  simp only [List.length_cons]
  omega
theorem take_lay {b : List UInt8} {t i : Nat} (hs : sizeD b = .ok (t, i)) {m : Mq} (hm : mayB m) (hl : layB m = b.take t) : b.headD 0 = UInt8.ofNat (16 * m.kind.toNat + flagsBy m) ∧ (b.take t).drop i = bodyBy m := by
 have hg := sizeD_ge hs
 have hp := lay_parts hm
 have hx : b.headD 0 = UInt8.ofNat (16 * m.kind.toNat + flagsBy m) := by
  have : (b.take t).headD 0 = b.headD 0 := by
   cases b with
   | nil => simp
   | cons x r =>
    obtain ⟨t', rfl⟩ : ∃ t', t = t' + 1 := ⟨t - 1, by omega⟩
    rfl
  rw [← this, ← hl]
  rfl
 refine ⟨hx, ?_⟩
 have hb := body_le hm.1
 have e : b = layB m ++ b.drop t := by rw [hl, List.take_append_drop]
 have hs2 : sizeD (layB m ++ b.drop t) = .ok (1 + (vlen (bodyBy m).length).length + (bodyBy m).length, 1 + (vlen (bodyBy m).length).length) := by
  have : layB m ++ b.drop t = UInt8.ofNat (16 * m.kind.toNat + flagsBy m) :: (vlen (bodyBy m).length ++ bodyBy m ++ b.drop t) := by simp [layB]
  rw [this, sizeD_lay _ _ _ hb]
 rw [← e] at hs2
 have hi : i = 1 + (vlen (bodyBy m).length).length := by
  have := hs.symm.trans hs2
  injection this with this
  injection this
 rw [← hl, hi]
 exact hp.2
theorem parsed_readP {b : List UInt8} {t i : Nat} (hs : sizeD b = .ok (t, i)) (r : Mq × Rd) (hr : r = readP (((b.headD 0).toNat / 16 : Nat) : Int) (loB (b.headD 0)) ((b.take t).drop i, false)) :
  (r.2.2 = false ∧ mayB r.1 ∧ layB r.1 = b.take t → Parsed b r.1 t 0) ∧ (¬ (r.2.2 = false ∧ mayB r.1 ∧ layB r.1 = b.take t) → Parsed b (mq0 0) 0 1) := by
 refine ⟨fun h => parsed_ok hs h.2.1 h.2.2, fun h => ?_⟩
 unfold Parsed
 rw [hs]
 refine .inr ⟨fun m' hm hl => h ?_, rfl, rfl, rfl⟩
 obtain ⟨hx, hb⟩ := take_lay hs hm hl
 have kk := may_kind hm.1
 have fp := first_parts m'.kind.toNat (flagsBy m') (by omega) (flagsBy_le hm.1)
 have : r = (m', ([], false)) := by
  rw [hr, hx, hb, fp.1, fp.2, show ((m'.kind.toNat : Nat) : Int) = m'.kind by omega]
  exact readP_back hm
 rw [this]
 exact ⟨rfl, hm, hl⟩
end
section
open Go.RowKit
section
variable {P : Program} {o : Oper} {a : Act} {w : World}
theorem run_append_strR (hgb : P.underlying 31 = some (.slice 5)) (hst : P.underlying 9 = some .string) (hi : (P.info? 5).map (fun i => (i.zero, i.size, i.bytes)) = some (some (.int .u8 0), 1, 1)) {s x : Operand}
  (ho : o.op = .call { callee := .builtin .append, args := #[s, x], argTypes := #[31, 9] }) {b : Nat} {xs : List UInt8} {v : Value} {str : ByteArray} (hs : a.eval s = v) (hx : a.eval x = .string str) (hv : RowIs b xs v w)
  (hn : xs.length + str.size ≤ 140737488355328) (hb : b ≤ w.heap.size) : ∃ v' w', (execOp a.eval o).run P w = .ok (.value v') w' ∧ RowIs b (xs ++ sb str) v' w' ∧ Below b w w' ∧ w.grownBy w' v.ownBlock := by
 obtain ⟨A, c, rfl, hown⟩ := hv
 obtain ⟨i0, hi0, hz0, hz1, hz2⟩ := info_parts hi
 obtain ⟨v', w', hrun, h2, h3, _⟩ := Lib.run_append_own_string (P := P) (w := w) b 31 9 o.type 5 i0 hgb hst hi0 hz0 hz1 hz2 _ xs.length (xs.map bv) hown str (by unfold maxLen; omega) hn hb
 obtain ⟨A', c', rfl, _, _⟩ := own_shape h2
 refine ⟨_, w', ?_, ⟨A', c', by rw [List.length_append, sb_length], by rw [List.length_append, sb_length, List.map_append, ← strCells_bv]; exact h2⟩, (Below.refl _ _).grown h3 hb fun k hk => (hown.lt k hk).1, h3⟩
 unfold execOp
 simp only [ho, resolve, invoke, builtin, Sem.run_bind, Sem.run_pure, Result.andThen_ok, List.map_toArray, List.map_cons, List.map_nil, hs, hx, hrun]
end
section
variable {P : Program} {ops : Array Oper} {rest : List Oper} {o : Oper} {a : Act} {w : World} {Q : Exit → Act → World → Prop} {n : Nat} {l : List (Nat × Value)}
theorem Has.appendStr (H : Has a n l) (hgb : P.underlying 31 = some (.slice 5)) (hst : P.underlying 9 = some .string) (hi : (P.info? 5).map (fun i => (i.zero, i.size, i.bytes)) = some (some (.int .u8 0), 1, 1)) (hw : Region.wanted o (yielded ops a.tmps) = true) {d : Nat} {s x : Operand}
  (ho : o.op = .call { callee := .builtin .append, args := #[s, x], argTypes := #[31, 9] }) (hd : o.dst = some d) (hn : Nat.blt d n = true) {b : Nat} {xs : List UInt8} {v : Value} {str : ByteArray} (hs : evL l s = some v) (hx : evL l x = some (.string str)) (hv : RowIs b xs v w)
  (hl : xs.length + str.size ≤ 140737488355328) (hb : b ≤ w.heap.size) (h : ∀ a' v' w', Has a' n ((d, v') :: l) → RowIs b (xs ++ sb str) v' w' → Below b w w' → w.grownBy w' v.ownBlock → wpList P ops Q rest a' w') : wpList P ops Q (o :: rest) a w := by
 obtain ⟨v', w', hrun, h1, h2, h3⟩ := run_append_strR (P := P) (a := a) (w := w) hgb hst hi (o := o) ho (H.ev hs) (H.ev hx) hv hl hb
 exact H.go hw hd hn v' hrun (fun a' H' => h a' v' w' H' h1 h2 h3)
end
theorem rowTwo (b : Nat) (xs : List UInt8) (v : Value) (k : Int) (h0 : 0 ≤ k) (h1 : k ≤ 65535) (w : World) (hv : RowIs b xs v w) (hb : b ≤ w.heap.size) (hn : xs.length ≤ 140737488251232) :
  Calls Tryz.prog 163 #[v, iz k] w fun e w' => ∃ v', e = .returned v' ∧ (RowIs b (xs ++ big 2 k.toNat) v' w' ∧ Below b w w') := by
 obtain ⟨A, c, rfl, hown⟩ := hv
 refine (packTwo b xs xs.length A c k k.toNat (by omega) (by omega) w hown hb (by omega)).mono ?_
 rintro e w' ⟨A', c', rfl, ho, hbl⟩
 exact ⟨_, rfl, ⟨A', c', by rw [List.length_append, big_length], by rw [List.length_append, big_length]; exact ho⟩, hbl⟩
theorem rowText (b : Nat) (xs : List UInt8) (v : Value) (s : ByteArray) (hs : s.size ≤ 65535) (w : World) (hv : RowIs b xs v w) (hb : b ≤ w.heap.size) (hn : xs.length ≤ 140737488251232) :
  Calls Tryz.prog 162 #[v, .string s] w fun e w' => ∃ v', e = .returned v' ∧ (RowIs b (xs ++ strB s) v' w' ∧ Below b w w') := by
 obtain ⟨A, c, rfl, hown⟩ := hv
 refine (packText b xs xs.length A c s hs w hown hb hn).mono ?_
 rintro e w' ⟨A', c', rfl, ho, hbl⟩
 refine ⟨_, rfl, ⟨A', c', by rw [List.length_append, strB_length, Nat.add_assoc], ?_⟩, hbl⟩
 rw [List.length_append, strB_length, ← Nat.add_assoc, strB, ← List.append_assoc]
 exact ho
theorem lit_two (k : Int) (h0 : 0 ≤ k) (h1 : k ≤ 65535) : [Value.int .u8 (k / 256 % 256), .int .u8 (k % 256)] = (big 2 k.toNat).map bv := by
 rw [big2]
 simp only [List.map_cons, List.map_nil, bv, UInt8.toNat_ofNat']
 congr 2
 ·congr 1; omega
 ·congr 2; omega
end
section
open Go.RowKit
theorem packBitN (b : Bool) (nI : Int) (n : Nat) (h : nI = (n : Int)) (w : World) : Calls Tryz.prog 161 #[.bool b, iz nI] w fun e w' => e = .returned (iz (cb b n)) ∧ w = w' := by
 refine (packBit b nI w).mono ?_
 rintro e w' ⟨rfl, rfl⟩
 refine ⟨?_, rfl⟩
 subst h
 cases b <;> rfl
theorem cb_lt (b : Bool) (n : Nat) (h : n < 256) : cb b n < 256 := by unfold cb; split <;> omega
theorem or_lt8 {a b : Nat} (ha : a < 256) (hb : b < 256) : (a ||| b) < 256 := Nat.or_lt_two_pow (n := 8) ha hb
theorem lt8 {a : Nat} (h : a < 256) : a < 9223372036854775808 := by omega
theorem shl3 (k : Int) (h0 : 0 ≤ k) (h2 : k ≤ 2) (x y : Operand) (w : World) : (do eqGuard .shl 3 x y (iz k) (.int .u64 3); binOp .shl 3 (iz k) (.int .u64 3) : Sem Value).run Tryz.prog w = .ok (iz ((k.toNat * 8 : Nat) : Int)) w := by
 have : k = 0 ∨ k = 1 ∨ k = 2 := by omega
 rcases this with rfl | rfl | rfl <;> simp [go_sem] <;> rfl
theorem flags_or (a b c d e : Bool) (q : Nat) (hq : q ≤ 2) : (((((cb a 2 ||| cb b 4) ||| q * 8) ||| cb c 32) ||| cb d 64) ||| cb e 128) = cb a 2 + cb b 4 + 8 * q + cb c 32 + cb d 64 + cb e 128 := by
 obtain ⟨q', rfl⟩ : ∃ q' : Fin 3, q = q'.val := ⟨⟨q, by omega⟩, rfl⟩
 revert a b c d e q'
 decide
def Laid (xs : List UInt8) (w : World) (e : Ending) (w' : World) : Prop := ∃ v, e = .returned v ∧ RowIs w.heap.size xs v w' ∧ Below w.heap.size w w'
theorem connect_spell (m : Mq) : connectBy m = ((((((([0, 4, 77, 81, 84, 84] : List UInt8) ++ [4, UInt8.ofNat (flagsC m)]) ++ big 2 m.keep.toNat) ++ strB m.client) ++ (if m.won then strB m.wt ++ strB m.wp else [])) ++ (if m.hu then strB m.user else [])) ++ (if m.hp then strB m.pass else [])) := rfl
theorem layConnectW (m : Mq) (vc vw vf : Value) (w : World) (hc : m.client.size ≤ 65535) (ht : m.wt.size ≤ 65535) (hp : m.wp.size ≤ 65535) (hu' : m.user.size ≤ 65535) (hp' : m.pass.size ≤ 65535) (hk0 : 0 ≤ m.keep) (hk1 : m.keep ≤ 65535) (hq0 : 0 ≤ m.wq) (hq2 : m.wq ≤ 2) :
  Calls Tryz.prog 160 #[.agg (mqCells m vc vw vf).toArray] w (Laid (connectBy m) w) := by
 go_enter Tryz.func160, Tryz.ntmps160
 refine Has.start 68 [(0, .agg (mqCells m vc vw vf).toArray)] rfl rfl ⟨rfl, trivial⟩ ?_
 intro a0 H0
 have O0 := Own.start w
 refine rl ?_
 refine H0.bx O0 1 fun a2 w1 O1 H2 => nt ?_
 have H3 := H2.kp [1]
 have HB1 := Base.of O1
 obtain ⟨b0, hb0⟩ : ∃ b0, b0 = w1.heap.size := ⟨_, rfl⟩
 rw [← hb0] at HB1
 have hb0' := hb0
 clear hb0
 repeat (refine wp_seq ?_)
 have h12a : cb m.clean 2 < 256 := cb_lt _ _ (by decide)
 have h12b : cb m.won 4 < 256 := cb_lt _ _ (by decide)
 have h17a : (cb m.clean 2 ||| cb m.won 4) < 256 := or_lt8 h12a h12b
 have h17b : m.wq.toNat * 8 < 256 := by omega
 have h22a : ((cb m.clean 2 ||| cb m.won 4) ||| m.wq.toNat * 8) < 256 := or_lt8 h17a h17b
 have h22b : cb m.wr 32 < 256 := cb_lt _ _ (by decide)
 have h26a : (((cb m.clean 2 ||| cb m.won 4) ||| m.wq.toNat * 8) ||| cb m.wr 32) < 256 := or_lt8 h22a h22b
 have h26b : cb m.hp 64 < 256 := cb_lt _ _ (by decide)
 have h30a : ((((cb m.clean 2 ||| cb m.won 4) ||| m.wq.toNat * 8) ||| cb m.wr 32) ||| cb m.hp 64) < 256 := or_lt8 h26a h26b
 have h30b : cb m.hu 128 < 256 := cb_lt _ _ (by decide)
 have hflags : (((((cb m.clean 2 ||| cb m.won 4) ||| m.wq.toNat * 8) ||| cb m.wr 32) ||| cb m.hp 64) ||| cb m.hu 128) = flagsC m := flags_or _ _ _ _ _ _ (by omega)
 refine H3.dr HB1 [1] rfl [ec 0 5 (.pointer (some ⟨w.heap.size, 2, none⟩)), ec 1 6 (.bool m.clean), ec 2 7 (iz (cb m.clean 2)), ec 3 8 (.pointer (some ⟨w.heap.size, 4, none⟩)), ec 4 9 (.pointer (some ⟨w.heap.size, 4, none⟩)), ec 5 10 (.bool m.won), ec 6 11 (iz (cb m.won 4)), ec 7 12 (iz (((cb m.clean 2 ||| cb m.won 4) : Nat) : Int)), ec 8 13 (.pointer (some ⟨w.heap.size, 4, none⟩)), ec 9 14 (.pointer (some ⟨w.heap.size, 7, none⟩)), ec 10 15 (iz m.wq), ec 11 16 (iz ((m.wq.toNat * 8 : Nat) : Int)), ec 12 17 (iz ((((cb m.clean 2 ||| cb m.won 4) ||| m.wq.toNat * 8) : Nat) : Int)), ec 13 18 (.pointer (some ⟨w.heap.size, 4, none⟩)), ec 14 19 (.pointer (some ⟨w.heap.size, 8, none⟩)), ec 15 20 (.bool m.wr), ec 16 21 (iz (cb m.wr 32)), ec 17 22 (iz (((((cb m.clean 2 ||| cb m.won 4) ||| m.wq.toNat * 8) ||| cb m.wr 32) : Nat) : Int)), ec 18 23 (.pointer (some ⟨w.heap.size, 12, none⟩)), ec 19 24 (.bool m.hp), ec 20 25 (iz (cb m.hp 64)), ec 21 26 (iz ((((((cb m.clean 2 ||| cb m.won 4) ||| m.wq.toNat * 8) ||| cb m.wr 32) ||| cb m.hp 64) : Nat) : Int)), ec 22 27 (.pointer (some ⟨w.heap.size, 10, none⟩)), ec 23 28 (.bool m.hu), ec 24 29 (iz (cb m.hu 128)), ec 25 30 (iz (((((((cb m.clean 2 ||| cb m.won 4) ||| m.wq.toNat * 8) ||| cb m.wr 32) ||| cb m.hp 64) ||| cb m.hu 128) : Nat) : Int)), ec 26 3 (iz (((((((cb m.clean 2 ||| cb m.won 4) ||| m.wq.toNat * 8) ||| cb m.wr 32) ||| cb m.hp 64) ||| cb m.hu 128) : Nat) : Int))] rfl ⟨jm, (jl fun _ h => h.own.lb 0 2), (jq fun ww _ => (packBitN m.clean 2 2 rfl ww)), jm, jm, (jl fun _ h => h.own.lb 0 4), (jq fun ww _ => (packBitN m.won 4 4 rfl ww)), (jB rfl rfl rfl rfl rfl rfl fun _ => (or_i _ _ (by first | exact lt8 h12a | omega) (by first | exact lt8 h12b | omega) _ _ _)), jm, jm, (jl fun _ h => h.own.li 0 7), (jb fun _ => (shl3 _ hq0 hq2 _ _ _)), (jB rfl rfl rfl rfl rfl rfl fun _ => (or_i _ _ (by first | exact lt8 h17a | omega) (by first | exact lt8 h17b | omega) _ _ _)), jm, jm, (jl fun _ h => h.own.lb 0 8), (jq fun ww _ => (packBitN m.wr 32 32 rfl ww)), (jB rfl rfl rfl rfl rfl rfl fun _ => (or_i _ _ (by first | exact lt8 h22a | omega) (by first | exact lt8 h22b | omega) _ _ _)), jm, (jl fun _ h => h.own.lb 0 12), (jq fun ww _ => (packBitN m.hp 64 64 rfl ww)), (jB rfl rfl rfl rfl rfl rfl fun _ => (or_i _ _ (by first | exact lt8 h26a | omega) (by first | exact lt8 h26b | omega) _ _ _)), jm, (jl fun _ h => h.own.lb 0 10), (jq fun ww _ => (packBitN m.hu 128 128 rfl ww)), (jB rfl rfl rfl rfl rfl rfl fun _ => (or_i _ _ (by first | exact lt8 h30a | omega) (by first | exact lt8 h30b | omega) _ _ _)), jm, trivial⟩ trivial ?_ ?_
 ·exact fun _ _ _ _ _ _ _ _ _ _ _ hh => False.elim hh
 ·intro listed a4 w2 hall hI
  have r_3 := hI.vs _ (ma 26 rfl) (.inr (hall 26 (by decide))) trivial
  have H4 : Has a4 68 [(1, pz w.heap.size), (3, iz (((((((cb m.clean 2 ||| cb m.won 4) ||| m.wq.toNat * 8) ||| cb m.wr 32) ||| cb m.hp 64) ||| cb m.hu 128) : Nat) : Int))] := Has.of hI.sz hI.df ⟨hI.fx.1, r_3, trivial⟩
  have HB2 := hI.wp
  refine then_normal ?_
  refine H4.dr HB2 [1, 3] rfl [er 0 31 [4] (fun v w => RowIs b0 [0, 4, 77, 81, 84, 84] v w), ec 1 32 (iz (((((((cb m.clean 2 ||| cb m.won 4) ||| m.wq.toNat * 8) ||| cb m.wr 32) ||| cb m.hp 64) ||| cb m.hu 128) : Nat) : Int)), ec 2 33 (.int .u8 ((((((((cb m.clean 2 ||| cb m.won 4) ||| m.wq.toNat * 8) ||| cb m.wr 32) ||| cb m.hp 64) ||| cb m.hu 128) : Nat) : Int) % 256)), er 3 34 [4] (fun v w => BytesAre [4, UInt8.ofNat (flagsC m)] v w), er 4 35 [7] (fun v w => RowIs b0 ([0, 4, 77, 81, 84, 84] ++ [4, UInt8.ofNat (flagsC m)]) v w), ec 5 36 (.pointer (some ⟨w.heap.size, 3, none⟩)), ec 6 37 (iz m.keep), er 7 38 [] (fun v w => RowIs b0 (([0, 4, 77, 81, 84, 84] ++ [4, UInt8.ofNat (flagsC m)]) ++ big 2 m.keep.toNat) v w), er 8 4 [] (fun v w => RowIs b0 (([0, 4, 77, 81, 84, 84] ++ [4, UInt8.ofNat (flagsC m)]) ++ big 2 m.keep.toNat) v w)] rfl ⟨jm, (jc fun _ => (conv_u8 _ _)), jm, (jl fun _ h => h.own.li 0 3), trivial⟩ trivial ?_ ?_
  ·intro listed aa ww i o hs hni hcl ho hd hI hh
   have hls : listed.size = 9 := hs
   rcases hh with rfl | rfl | rfl | rfl | rfl | hh
   ·obtain rfl := pick_op ho rfl
    have HH : Has aa 68 [] := Has.of hI.sz hI.df trivial
    refine wpOp_enter ho gz 31 rfl 162 _ (run_callH HH rfl rfl (fun _ _ => by kernel_rfl)) _ (rowText ww.heap.size [] (.slice none 0 0) ({ data := #[77, 81, 84, 84] } : ByteArray) (by decide) ww (RowIs.nil _ _) (Nat.le_refl _) (by simp)) ?_
    rintro v' w' ⟨hrow, hb⟩
    exact hI.ph hls 0 rfl (v') (by rw [show ([0, 4, 77, 81, 84, 84] : List UInt8) = [] ++ strB ({ data := #[77, 81, 84, 84] } : ByteArray) by decide]; exact hrow.base hI.wp.bw) (hI.wp.call hb) ⟨fun h => absurd rfl h, fun _ _ _ _ _ h => h.below hb, fun _ _ _ _ _ h => h.below hb, fun _ _ _ _ _ h => h.below hb, fun _ _ _ _ _ h => h.below hb, trivial⟩
   ·obtain rfl := pick_op ho rfl
    have r_33 := hI.vs _ (ma 2 rfl) (.inr (ran_of hd 2 (by kernel_rfl))) trivial
    have u_33 : aa.eval (.tmp 33) = .int .u8 ((((((((cb m.clean 2 ||| cb m.won 4) ||| m.wq.toNat * 8) ||| cb m.wr 32) ||| cb m.hp 64) ||| cb m.hu 128) : Nat) : Int) % 256) := r_33
    have HH : Has aa 68 [(33, .int .u8 ((((((((cb m.clean 2 ||| cb m.won 4) ||| m.wq.toNat * 8) ||| cb m.wr 32) ||| cb m.hp 64) ||| cb m.hu 128) : Nat) : Int) % 256))] := Has.of hI.sz hI.df ⟨u_33, trivial⟩
    obtain ⟨hby, hb⟩ := bytes_lit ww [4, UInt8.ofNat (flagsC m)] [.int .u8 4, .int .u8 ((((((((cb m.clean 2 ||| cb m.won 4) ||| m.wq.toNat * 8) ||| cb m.wr 32) ||| cb m.hp 64) ||| cb m.hu 128) : Nat) : Int) % 256)] (by rw [hflags, byte_of_int _ (by omega)]; rfl) 5 2 rfl
    refine wpOp_go ho gz 34 rfl (.slice (some ⟨ww.heap.size, 0, none⟩) 2 2) (ww.alloc (.cells ([.int .u8 4, .int .u8 ((((((((cb m.clean 2 ||| cb m.won 4) ||| m.wq.toNat * 8) ||| cb m.wr 32) ||| cb m.hp 64) ||| cb m.hu 128) : Nat) : Int) % 256)] : List Value).toArray 5)) (run_any HH (by intro cs b h; cases h) (by kernel_rfl) (by kernel_rfl)) ?_
    exact hI.ph hls 3 rfl (.slice (some ⟨ww.heap.size, 0, none⟩) 2 2) hby (hI.wp.call hb) ⟨fun _ _ _ _ _ h => h.below hb, fun h => absurd rfl h, fun _ _ _ _ _ h => h.below hb, fun _ _ _ _ _ h => h.below hb, fun _ _ _ _ _ h => h.below hb, trivial⟩
   ·obtain rfl := pick_op ho rfl
    have r_31 := hI.vs _ (ma 0 rfl) (.inr (ran_of hd 0 (by kernel_rfl))) ⟨hni, trivial⟩
    have r_34 := hI.vs _ (ma 3 rfl) (.inr (ran_of hd 3 (by kernel_rfl))) ⟨hni, trivial⟩
    have HH : Has aa 68 [(31, aa.eval (.tmp 31)), (34, aa.eval (.tmp 34))] := Has.of hI.sz hI.df ⟨rfl, rfl, trivial⟩
    obtain ⟨v', w', hrun, hrow, hb0, hg⟩ := run_append_row (P := Tryz.prog) (a := aa) (w := ww) Tryz.underlying31 info_u8 (o := ⟨some 35, _, _, _, _, none⟩) rfl rfl rfl r_31 r_34 (by simp only [List.length_cons, List.length_nil]; omega) hI.wp.bw
    refine wpOp_go ho gz 35 rfl v' w' hrun ?_
    exact hI.ph hls 4 rfl (v') hrow (hI.wp.step hb0) ⟨fun _ h => absurd (by show 4 ∈ ([4] : List Nat); decide) h, fun _ h => absurd (by show 4 ∈ ([4] : List Nat); decide) h, fun h => absurd rfl h, fun _ _ h => absurd (hni.symm.trans (ran_of (hcl 7 _ rfl (h.resolve_left (by rw [hls]; show ¬ 9 ≤ 7; decide))) 4 (by kernel_rfl))) (by decide), fun _ _ h => absurd (hni.symm.trans (ran_of (hcl 7 _ rfl (ran_of (hcl 8 _ rfl (h.resolve_left (by rw [hls]; show ¬ 9 ≤ 8; decide))) 7 (by kernel_rfl))) 4 (by kernel_rfl))) (by decide), trivial⟩
   ·obtain rfl := pick_op ho rfl
    have r_35 := hI.vs _ (ma 4 rfl) (.inr (ran_of hd 4 (by kernel_rfl))) ⟨hni, trivial⟩
    have r_37 := hI.vs _ (ma 6 rfl) (.inr (ran_of hd 6 (by kernel_rfl))) trivial
    have u_37 : aa.eval (.tmp 37) = iz m.keep := r_37
    have HH : Has aa 68 [(35, aa.eval (.tmp 35)), (37, iz m.keep)] := Has.of hI.sz hI.df ⟨rfl, u_37, trivial⟩
    refine wpOp_enter ho gz 38 rfl 163 _ (run_callH HH rfl rfl (fun _ _ => by kernel_rfl)) _ (rowTwo b0 ([0, 4, 77, 81, 84, 84] ++ [4, UInt8.ofNat (flagsC m)]) (aa.eval (.tmp 35)) m.keep hk0 hk1 ww r_35 hI.wp.bw (by simp only [List.length_append, List.length_cons, List.length_nil]; omega)) ?_
    rintro v' w' ⟨hrow, hb0⟩
    exact hI.ph hls 7 rfl (v') hrow (hI.wp.step hb0) ⟨fun _ _ _ hk => absurd (hk.1.symm.trans (ran_of hd 4 (by kernel_rfl))) (by decide), fun _ _ _ hk => absurd (hk.1.symm.trans (ran_of hd 4 (by kernel_rfl))) (by decide), fun _ h => absurd (by show 7 ∈ ([7] : List Nat); decide) h, fun h => absurd rfl h, fun _ _ h => absurd (hni.symm.trans (ran_of (hcl 8 _ rfl (h.resolve_left (by rw [hls]; show ¬ 9 ≤ 8; decide))) 7 (by kernel_rfl))) (by decide), trivial⟩
   ·obtain rfl := pick_op ho rfl
    have r_38 := hI.vs _ (ma 7 rfl) (.inr (ran_of hd 7 (by kernel_rfl))) trivial
    have HH : Has aa 68 [(38, aa.eval (.tmp 38))] := Has.of hI.sz hI.df ⟨rfl, trivial⟩
    refine wpOp_go ho gz 4 rfl (aa.eval (.tmp 38)) ww (run_move (.inr rfl) (HH.ev rfl)) ?_
    exact hI.ph hls 8 rfl (aa.eval (.tmp 38)) r_38 hI.wp AllC.same
   ·exact False.elim hh
  ·intro listed a5 w3 hall hI
   have r_4 := hI.vs _ (ma 8 rfl) (.inr (hall 8 (by decide))) trivial
   have H5 : Has a5 68 [(1, pz w.heap.size), (3, iz (((((((cb m.clean 2 ||| cb m.won 4) ||| m.wq.toNat * 8) ||| cb m.wr 32) ||| cb m.hp 64) ||| cb m.hu 128) : Nat) : Int)), (4, a5.eval (.tmp 4))] := Has.of hI.sz hI.df ⟨hI.fx.1, hI.fx.2.1, rfl, trivial⟩
   have HB3 := hI.wp
   have R4_3 : RowIs b0 (([0, 4, 77, 81, 84, 84] ++ [4, UInt8.ofNat (flagsC m)]) ++ big 2 m.keep.toNat) (a5.eval (.tmp 4)) w3 := r_4
   refine then_normal ?_
   have H6 := H5.kp [1, 4]
   refine H6.rg 2 fun a8 H8 => ?_
   refine H8.ld 0 (HB3.own.ls 0 1) fun a9 H9 => ?_
   refine H9.cl (rowText b0 (([0, 4, 77, 81, 84, 84] ++ [4, UInt8.ofNat (flagsC m)]) ++ big 2 m.keep.toNat) _ m.client hc _ R4_3 HB3.bw (by simp only [List.length_append, big_length, List.length_cons, List.length_nil]; omega)) ?_
   rintro a10 v42 w4 ⟨R42, hb⟩ H10
   have HB4 := HB3.step hb
   clear hb
   refine H10.ms 1 fun a11 H11 => nt ?_
   refine wp_seq_join (fun a w' => ∃ v, Has a 68 [(1, pz w.heap.size), (4, v)] ∧ RowIs b0 (((([0, 4, 77, 81, 84, 84] ++ [4, UInt8.ofNat (flagsC m)]) ++ big 2 m.keep.toNat) ++ strB m.client) ++ (if m.won then strB m.wt ++ strB m.wp else [])) v w' ∧ Base w b0 [(w.heap.size, (mqCells m vc vw vf))] w') ?_ ?_
   ·cases hb45 : m.won with
    | true =>
     refine H11.rg 2 fun a13 H13 => ?_
     refine H13.ld 0 (HB4.own.lb 0 4) fun a14 H14 => nt ?_
     have H14b := H14.keep (l' := [(1, pz w.heap.size), (4, v42), (45, .bool true)]) ⟨rfl, rfl, by first | exact congrArg (fun x => some (Value.bool x)) hb45, trivial⟩
     refine H14b.condT rfl ?_
     have H15 := H14b
     refine H15.dr HB4 [1] rfl [er 0 46 [4] (fun v w => RowIs b0 ((([0, 4, 77, 81, 84, 84] ++ [4, UInt8.ofNat (flagsC m)]) ++ big 2 m.keep.toNat) ++ strB m.client) v w), ec 1 47 (.pointer (some ⟨w.heap.size, 4, none⟩)), ec 2 48 (.pointer (some ⟨w.heap.size, 5, none⟩)), ec 3 49 (.string m.wt), er 4 50 [8] (fun v w => RowIs b0 (((([0, 4, 77, 81, 84, 84] ++ [4, UInt8.ofNat (flagsC m)]) ++ big 2 m.keep.toNat) ++ strB m.client) ++ strB m.wt) v w), ec 5 51 (.pointer (some ⟨w.heap.size, 4, none⟩)), ec 6 52 (.pointer (some ⟨w.heap.size, 6, none⟩)), ec 7 53 (.string m.wp), er 8 54 [] (fun v w => RowIs b0 (((([0, 4, 77, 81, 84, 84] ++ [4, UInt8.ofNat (flagsC m)]) ++ big 2 m.keep.toNat) ++ strB m.client) ++ strB m.wt ++ strB m.wp) v w), er 9 4 [] (fun v w => RowIs b0 (((([0, 4, 77, 81, 84, 84] ++ [4, UInt8.ofNat (flagsC m)]) ++ big 2 m.keep.toNat) ++ strB m.client) ++ strB m.wt ++ strB m.wp) v w), er 1000 4 [4, 9] (fun v w => RowIs b0 ((([0, 4, 77, 81, 84, 84] ++ [4, UInt8.ofNat (flagsC m)]) ++ big 2 m.keep.toNat) ++ strB m.client) v w)] rfl ⟨jm, jm, (jl fun _ h => h.own.ls 0 5), jm, jm, (jl fun _ h => h.own.ls 0 6), trivial⟩ ⟨(by rw [H15.at_ 4 _ rfl]; exact R42.drew), trivial⟩ ?_ ?_
     ·intro listed aa ww i o hs hni hcl ho hd hI hh
      have hls : listed.size = 10 := hs
      rcases hh with rfl | rfl | rfl | rfl | hh
      ·obtain rfl := pick_op ho rfl
       have r_4 := hI.vs _ (ma 10 rfl) (.inl (by rw [hls]; show 10 ≤ 1000; decide)) ⟨(Bool.eq_false_iff.2 fun h => absurd (hni.symm.trans (ran_of (hcl 4 _ rfl h) 0 (by kernel_rfl))) (by decide)), (Bool.eq_false_iff.2 fun h => absurd (hni.symm.trans (ran_of (hcl 4 _ rfl (ran_of (hcl 8 _ rfl (ran_of (hcl 9 _ rfl h) 8 (by kernel_rfl))) 4 (by kernel_rfl))) 0 (by kernel_rfl))) (by decide)), trivial⟩
       have HH : Has aa 68 [(4, aa.eval (.tmp 4))] := Has.of hI.sz hI.df ⟨rfl, trivial⟩
       refine wpOp_go ho gz 46 rfl (aa.eval (.tmp 4)) ww (run_move (.inl rfl) (HH.ev rfl)) ?_
       exact hI.ph hls 0 rfl (aa.eval (.tmp 4)) r_4 hI.wp AllC.same
      ·obtain rfl := pick_op ho rfl
       have r_46 := hI.vs _ (ma 0 rfl) (.inr (ran_of hd 0 (by kernel_rfl))) ⟨hni, trivial⟩
       have r_49 := hI.vs _ (ma 3 rfl) (.inr (ran_of hd 3 (by kernel_rfl))) trivial
       have u_49 : aa.eval (.tmp 49) = .string m.wt := r_49
       have HH : Has aa 68 [(46, aa.eval (.tmp 46)), (49, .string m.wt)] := Has.of hI.sz hI.df ⟨rfl, u_49, trivial⟩
       refine wpOp_enter ho gz 50 rfl 162 _ (run_callH HH rfl rfl (fun _ _ => by kernel_rfl)) _ (rowText b0 ((([0, 4, 77, 81, 84, 84] ++ [4, UInt8.ofNat (flagsC m)]) ++ big 2 m.keep.toNat) ++ strB m.client) (aa.eval (.tmp 46)) m.wt ht ww r_46 hI.wp.bw (by simp only [List.length_append, strB_length, big_length, List.length_cons, List.length_nil]; omega)) ?_
       rintro v' w' ⟨hrow, hb0⟩
       exact hI.ph hls 4 rfl (v') hrow (hI.wp.step hb0) ⟨fun _ h => absurd (by show 4 ∈ ([4] : List Nat); decide) h, fun h => absurd rfl h, fun _ _ h => absurd (hni.symm.trans (ran_of (hcl 8 _ rfl (h.resolve_left (by rw [hls]; show ¬ 10 ≤ 8; decide))) 4 (by kernel_rfl))) (by decide), fun _ _ h => absurd (hni.symm.trans (ran_of (hcl 8 _ rfl (ran_of (hcl 9 _ rfl (h.resolve_left (by rw [hls]; show ¬ 10 ≤ 9; decide))) 8 (by kernel_rfl))) 4 (by kernel_rfl))) (by decide), fun _ h => absurd (by show 4 ∈ ([4, 9] : List Nat); decide) h, trivial⟩
      ·obtain rfl := pick_op ho rfl
       have r_50 := hI.vs _ (ma 4 rfl) (.inr (ran_of hd 4 (by kernel_rfl))) ⟨hni, trivial⟩
       have r_53 := hI.vs _ (ma 7 rfl) (.inr (ran_of hd 7 (by kernel_rfl))) trivial
       have u_53 : aa.eval (.tmp 53) = .string m.wp := r_53
       have HH : Has aa 68 [(50, aa.eval (.tmp 50)), (53, .string m.wp)] := Has.of hI.sz hI.df ⟨rfl, u_53, trivial⟩
       refine wpOp_enter ho gz 54 rfl 162 _ (run_callH HH rfl rfl (fun _ _ => by kernel_rfl)) _ (rowText b0 (((([0, 4, 77, 81, 84, 84] ++ [4, UInt8.ofNat (flagsC m)]) ++ big 2 m.keep.toNat) ++ strB m.client) ++ strB m.wt) (aa.eval (.tmp 50)) m.wp hp ww r_50 hI.wp.bw (by simp only [List.length_append, strB_length, big_length, List.length_cons, List.length_nil]; omega)) ?_
       rintro v' w' ⟨hrow, hb0⟩
       exact hI.ph hls 8 rfl (v') hrow (hI.wp.step hb0) ⟨fun _ _ _ hk => absurd (hk.1.symm.trans (ran_of hd 4 (by kernel_rfl))) (by decide), fun _ h => absurd (by show 8 ∈ ([8] : List Nat); decide) h, fun h => absurd rfl h, fun _ _ h => absurd (hni.symm.trans (ran_of (hcl 9 _ rfl (h.resolve_left (by rw [hls]; show ¬ 10 ≤ 9; decide))) 8 (by kernel_rfl))) (by decide), fun _ _ _ hk => absurd (hk.1.symm.trans (ran_of hd 4 (by kernel_rfl))) (by decide), trivial⟩
      ·obtain rfl := pick_op ho rfl
       have r_54 := hI.vs _ (ma 8 rfl) (.inr (ran_of hd 8 (by kernel_rfl))) trivial
       have HH : Has aa 68 [(54, aa.eval (.tmp 54))] := Has.of hI.sz hI.df ⟨rfl, trivial⟩
       refine wpOp_go ho gz 4 rfl (aa.eval (.tmp 54)) ww (run_move (.inr rfl) (HH.ev rfl)) ?_
       exact hI.ph hls 9 rfl (aa.eval (.tmp 54)) r_54 hI.wp AllC.same
      ·exact False.elim hh
     ·intro listed a16 w5 hall hI
      have r_4 := hI.vs _ (ma 9 rfl) (.inr (hall 9 (by decide))) trivial
      have H16 : Has a16 68 [(1, pz w.heap.size), (4, a16.eval (.tmp 4))] := Has.of hI.sz hI.df ⟨hI.fx.1, rfl, trivial⟩
      have HB5 := hI.wp
      have R4_5 : RowIs b0 (((([0, 4, 77, 81, 84, 84] ++ [4, UInt8.ofNat (flagsC m)]) ++ big 2 m.keep.toNat) ++ strB m.client) ++ strB m.wt ++ strB m.wp) (a16.eval (.tmp 4)) w5 := r_4
      refine then_normal ?_
      exact ⟨_, H16.keep ⟨rfl, rfl, trivial⟩, (by rw [if_pos rfl, ← List.append_assoc]; exact R4_5), HB5⟩
    | false =>
     refine H11.rg 2 fun a13 H13 => ?_
     refine H13.ld 0 (HB4.own.lb 0 4) fun a14 H14 => nt ?_
     have H14b := H14.keep (l' := [(1, pz w.heap.size), (4, v42), (45, .bool false)]) ⟨rfl, rfl, by first | exact congrArg (fun x => some (Value.bool x)) hb45, trivial⟩
     refine H14b.condF rfl ?_
     refine skip_wp ?_
     refine then_normal ?_
     exact ⟨_, H14b.keep ⟨rfl, rfl, trivial⟩, (by rw [if_neg (show ¬ (false = true) by decide), List.append_nil]; exact R42), HB4⟩
   ·rintro a51 w24 ⟨v4_24, H51, R4_24, HB24⟩
    have hl1 : (if m.won then strB m.wt ++ strB m.wp else []).length ≤ 200000 := by split <;> simp [strB_length] <;> omega
    refine wp_seq_join (fun a w' => ∃ v, Has a 68 [(1, pz w.heap.size), (4, v)] ∧ RowIs b0 ((((([0, 4, 77, 81, 84, 84] ++ [4, UInt8.ofNat (flagsC m)]) ++ big 2 m.keep.toNat) ++ strB m.client) ++ (if m.won then strB m.wt ++ strB m.wp else [])) ++ (if m.hu then strB m.user else [])) v w' ∧ Base w b0 [(w.heap.size, (mqCells m vc vw vf))] w') ?_ ?_
    ·cases hb56 : m.hu with
     | true =>
      refine H51.rg 1 fun a52 H52 => ?_
      refine H52.ld 0 (HB24.own.lb 0 10) fun a53 H53 => nt ?_
      have H53b := H53.keep (l' := [(1, pz w.heap.size), (4, v4_24), (56, .bool true)]) ⟨rfl, rfl, by first | exact congrArg (fun x => some (Value.bool x)) hb56, trivial⟩
      refine H53b.condT rfl ?_
      have H54 := H53b
      refine H54.rg 2 fun a56 H56 => ?_
      refine H56.ld 0 (HB24.own.ls 0 9) fun a57 H57 => ?_
      refine H57.cl (rowText b0 (((([0, 4, 77, 81, 84, 84] ++ [4, UInt8.ofNat (flagsC m)]) ++ big 2 m.keep.toNat) ++ strB m.client) ++ (if m.won then strB m.wt ++ strB m.wp else [])) _ m.user hu' _ R4_24 HB24.bw (by simp only [List.length_append, strB_length, big_length, List.length_cons, List.length_nil]; omega)) ?_
      rintro a58 v60 w25 ⟨R60, hb⟩ H58
      have HB25 := HB24.step hb
      clear hb
      refine H58.ms 1 fun a59 H59 => nt ?_
      exact ⟨_, H59.keep ⟨rfl, rfl, trivial⟩, (by rw [if_pos rfl]; exact R60), HB25⟩
     | false =>
      refine H51.rg 1 fun a52 H52 => ?_
      refine H52.ld 0 (HB24.own.lb 0 10) fun a53 H53 => nt ?_
      have H53b := H53.keep (l' := [(1, pz w.heap.size), (4, v4_24), (56, .bool false)]) ⟨rfl, rfl, by first | exact congrArg (fun x => some (Value.bool x)) hb56, trivial⟩
      refine H53b.condF rfl ?_
      refine skip_wp ?_
      refine then_normal ?_
      exact ⟨_, H53b.keep ⟨rfl, rfl, trivial⟩, (by rw [if_neg (show ¬ (false = true) by decide), List.append_nil]; exact R4_24), HB24⟩
    ·rintro a91 w44 ⟨v4_44, H91, R4_44, HB44⟩
     have hl2 : (if m.hu then strB m.user else []).length ≤ 200000 := by split <;> simp [strB_length] <;> omega
     refine wp_seq_join (fun a w' => ∃ v, Has a 68 [(1, pz w.heap.size), (4, v)] ∧ RowIs b0 (((((([0, 4, 77, 81, 84, 84] ++ [4, UInt8.ofNat (flagsC m)]) ++ big 2 m.keep.toNat) ++ strB m.client) ++ (if m.won then strB m.wt ++ strB m.wp else [])) ++ (if m.hu then strB m.user else [])) ++ (if m.hp then strB m.pass else [])) v w' ∧ Base w b0 [(w.heap.size, (mqCells m vc vw vf))] w') ?_ ?_
     ·cases hb62 : m.hp with
      | true =>
       refine H91.rg 1 fun a92 H92 => ?_
       refine H92.ld 0 (HB44.own.lb 0 12) fun a93 H93 => nt ?_
       have H93b := H93.keep (l' := [(1, pz w.heap.size), (4, v4_44), (62, .bool true)]) ⟨rfl, rfl, by first | exact congrArg (fun x => some (Value.bool x)) hb62, trivial⟩
       refine H93b.condT rfl ?_
       have H94 := H93b
       refine H94.rg 2 fun a96 H96 => ?_
       refine H96.ld 0 (HB44.own.ls 0 11) fun a97 H97 => ?_
       refine H97.cl (rowText b0 ((((([0, 4, 77, 81, 84, 84] ++ [4, UInt8.ofNat (flagsC m)]) ++ big 2 m.keep.toNat) ++ strB m.client) ++ (if m.won then strB m.wt ++ strB m.wp else [])) ++ (if m.hu then strB m.user else [])) _ m.pass hp' _ R4_44 HB44.bw (by simp only [List.length_append, strB_length, big_length, List.length_cons, List.length_nil]; omega)) ?_
       rintro a98 v66 w45 ⟨R66, hb⟩ H98
       have HB45 := HB44.step hb
       clear hb
       refine H98.ms 1 fun a99 H99 => nt ?_
       exact ⟨_, H99.keep ⟨rfl, rfl, trivial⟩, (by rw [if_pos rfl]; exact R66), HB45⟩
      | false =>
       refine H91.rg 1 fun a92 H92 => ?_
       refine H92.ld 0 (HB44.own.lb 0 12) fun a93 H93 => nt ?_
       have H93b := H93.keep (l' := [(1, pz w.heap.size), (4, v4_44), (62, .bool false)]) ⟨rfl, rfl, by first | exact congrArg (fun x => some (Value.bool x)) hb62, trivial⟩
       refine H93b.condF rfl ?_
       refine skip_wp ?_
       refine then_normal ?_
       exact ⟨_, H93b.keep ⟨rfl, rfl, trivial⟩, (by rw [if_neg (show ¬ (false = true) by decide), List.append_nil]; exact R4_44), HB44⟩
     ·rintro a131 w64 ⟨v4_64, H131, R4_64, HB64⟩
      refine H131.rg 2 fun a133 H133 => nt ?_
      refine wp_ret ?_
      repeat (first | (with_reducible refine block_ret ?_) | (with_reducible refine then_ret ?_))
      refine bodyPost_ret (results_tmp rfl _ _ _) H133.df ?_
      refine ⟨_, congrArg Ending.returned (H133.at_ 2 _ rfl), ?_, HB64.own.bel⟩
      rw [connect_spell]; exact R4_64.base HB64.hb
end
end Go.Proofs.YtlacidnnankjlaaGreatDoor
