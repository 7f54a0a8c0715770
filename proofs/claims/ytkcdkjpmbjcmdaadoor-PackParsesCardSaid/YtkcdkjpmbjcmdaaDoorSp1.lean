/-
  kiosklaw0's Numbers, Strings, Wishes, Mqs: what was answered is written over.
-/
import Derived.Test.YtkcdkjpmbjcmdaaDoorCa5
namespace Go.Proofs.YtkcdkjpmbjcmdaaDoor
open Go.RowKit

theorem wpList_append_rowsG {P : Program} {w : World} {ops : Array Oper} {rest : List Oper} {o : Oper} {a : Act} {Q : Exit → Act → World → Prop} (hgd : o.guard = none) (s x : Operand) (t : TypeId)
    (ho : o.op = .call { callee := .builtin .append, args := #[s, x], argTypes := #[t, t] })
    (base : Nat) (e : TypeId) (z : Value) (size bytes : Nat) (ht : P.underlying t = some (.slice e)) (hi : (P.info? e).map (fun i => (i.zero, i.size, i.bytes)) = some (some z, size, bytes)) (hzs : z.cells.size = size) (hsz : 0 < size)
    (v : Value) (n : Nat) (xs : List Value) (hs : a.eval s = v) (hown : w.ownsRow base e size v n xs) (A : Option Addr) (m c : Nat) (ys : List Value) (hx : a.eval x = .slice A m c) (hr : Reads w w.heap.size size A m ys) (h1 : ∀ u ∈ ys, u.oneCell' = true)
    (hn : n + m ≤ maxLen) (hby : (n + m) * bytes ≤ 140737488355328) (hbase : base ≤ w.heap.size)
    (h : ∀ A' c' w', w'.ownsRow base e size (.slice A' (n + m) c') (n + m) (xs ++ ys) → w.grownBy w' v.ownBlock → wpList P ops Q rest (a.put o.dst (.slice A' (n + m) c')) w') :
    wpList P ops Q (o :: rest) a w := by
  refine wpList_plain hgd fun K hK => ?_
  obtain ⟨A', c', w', hrun, h2, h3⟩ := run_append_read (P := P) w base t o.type e z size bytes ht hi hzs hsz v n xs hown w.heap.size A m c ys hr h1 hn hby hbase
  unfold Oper.wp execOp
  simp only [ho, resolve, invoke, builtin, Sem.run_bind, Sem.run_pure, Result.andThen_ok, List.map_toArray, List.map_cons, List.map_nil, hs, hx, hrun]
  exact hK _ _ (h A' c' w' h2 h3)
theorem grown_size {w w' : World} {r : Option Nat} (h : w.grownBy w' r) {b : Nat} (hb : b ≤ w.heap.size) : b ≤ w'.heap.size := Nat.le_trans hb h.size
set_option maxRecDepth 100000 in
set_option maxHeartbeats 800000 in
theorem spoilInts (base : Nat) (xs : List Value) (n : Nat) (A : Option Addr) (c : Nat) (w : World) (hown : w.ownsRow base 3 1 (.slice A n c) n xs) (hbase : base ≤ w.heap.size) (hn : n ≤ 2000000) :
    Calls Tryd.prog 65 #[.slice A n c] w fun e w' => e = .returned (.tuple #[]) ∧ w.grownBy w' (Value.slice A n c).ownBlock := by
  have HO := Lib.hid hown
  clear hown
  go_enter Tryd.func65, Tryd.ntmps65
  go_wp2
  go_loopw [2] (fun i wr => ∃ (k : Nat) (ys : List Value), k ≤ n ∧ i = .int .i64 k ∧ wr.ownsRow base 3 1 (.slice A n c) n ys ∧ Hid (w.grownBy wr (Value.slice A n c).ownBlock)) (fun i _ => n - (intOf i).toNat)
  case atStart => exact ⟨0, xs, Nat.zero_le _, rfl, HO.out, World.grownBy.refl w _⟩
  case round =>
    obtain ⟨k, ys, hk, rfl, hown, hg⟩ := hrel
    have hg := hg.out
    by_cases hlt : k < n
    · obtain ⟨g, cap, hA, _, hg2⟩ := hown.form (by omega)
      injection hA with hA _ _
      subst hA
      have hl2 : ys.length = n * 1 := hown.1
      obtain ⟨z0, hcell0⟩ : ∃ u, wr.cell? ⟨g, k, none⟩ = some u := ⟨_, (hown.cellAt (k) (by omega)).trans (List.getElem?_eq_getElem (by omega))⟩
      have hfz0 := hown.frozenAt (k)
      have hkI : (k : Int) < (n : Int) := by omega
      have HO2 := Lib.hid (hown.stored (k) (.int .i64 (-99))).1
      have HG2 := Lib.hid (hg.trans (hown.stored (k) (.int .i64 (-99))).2)
      clear hown hg hl2
      go_wp2
      go_roundw
      case rel => exact ⟨k + 1, (ys.set (k) (.int .i64 (-99))), by omega, by go_num, HO2.out, HG2⟩
      case measure => simp [intOf]; omega
    · have hbs := grown_size hg hbase
      go_wp2_with (at_builtin; refine wpList_append_rowsG rfl _ _ 26 rfl base 3 (.int .i64 0) 1 8 Tryd.underlying26 info_int rfl (by decide) _ _ _ (by exact rfl) (hown.alloc _) _ 1 1 [iv 5] (by exact rfl) (Reads.lit wr 3 [iv 5] (0, 0) 1 1 rfl) (one_iv _) (by unfold maxLen; omega) (by omega) (Nat.le_trans hbs (balloc _ _).size) ?_; intro A' c' w' hown' hg')
      go_end0
      exact ⟨rfl, (hg.trans (World.grownBy_alloc wr _ _)).trans hg'⟩
set_option maxRecDepth 100000 in
set_option maxHeartbeats 800000 in
theorem spoilStrs (base : Nat) (xs : List Value) (n : Nat) (A : Option Addr) (c : Nat) (w : World) (hown : w.ownsRow base 9 1 (.slice A n c) n xs) (hbase : base ≤ w.heap.size) (hn : n ≤ 2000000) :
    Calls Tryd.prog 67 #[.slice A n c] w fun e w' => e = .returned (.tuple #[]) ∧ w.grownBy w' (Value.slice A n c).ownBlock := by
  have HO := Lib.hid hown
  clear hown
  go_enter Tryd.func67, Tryd.ntmps67
  go_wp2
  go_loopw [2] (fun i wr => ∃ (k : Nat) (ys : List Value), k ≤ n ∧ i = .int .i64 k ∧ wr.ownsRow base 9 1 (.slice A n c) n ys ∧ Hid (w.grownBy wr (Value.slice A n c).ownBlock)) (fun i _ => n - (intOf i).toNat)
  case atStart => exact ⟨0, xs, Nat.zero_le _, rfl, HO.out, World.grownBy.refl w _⟩
  case round =>
    obtain ⟨k, ys, hk, rfl, hown, hg⟩ := hrel
    have hg := hg.out
    by_cases hlt : k < n
    · obtain ⟨g, cap, hA, _, hg2⟩ := hown.form (by omega)
      injection hA with hA _ _
      subst hA
      have hl2 : ys.length = n * 1 := hown.1
      obtain ⟨z0, hcell0⟩ : ∃ u, wr.cell? ⟨g, k, none⟩ = some u := ⟨_, (hown.cellAt (k) (by omega)).trans (List.getElem?_eq_getElem (by omega))⟩
      have hfz0 := hown.frozenAt (k)
      have hkI : (k : Int) < (n : Int) := by omega
      have HO2 := Lib.hid (hown.stored (k) (.string { data := #[63] })).1
      have HG2 := Lib.hid (hg.trans (hown.stored (k) (.string { data := #[63] })).2)
      clear hown hg hl2
      go_wp2
      go_roundw
      case rel => exact ⟨k + 1, (ys.set (k) (.string { data := #[63] })), by omega, by go_num, HO2.out, HG2⟩
      case measure => simp [intOf]; omega
    · have hbs := grown_size hg hbase
      go_wp2_with (at_builtin; refine wpList_append_rowsG rfl _ _ 28 rfl base 9 (.string ⟨#[]⟩) 1 16 Tryd.underlying28 info_string rfl (by decide) _ _ _ (by exact rfl) (hown.alloc _) _ 1 1 [sv { data := #[63] }] (by exact rfl) (Reads.lit wr 9 [sv { data := #[63] }] (0, 0) 1 1 rfl) (one_sv _) (by unfold maxLen; omega) (by omega) (Nat.le_trans hbs (balloc _ _).size) ?_; intro A' c' w' hown' hg')
      go_end0
      exact ⟨rfl, (hg.trans (World.grownBy_alloc wr _ _)).trans hg'⟩
set_option maxRecDepth 100000 in
set_option maxHeartbeats 800000 in
theorem spoilWishes (base : Nat) (xs : List Value) (n : Nat) (A : Option Addr) (c : Nat) (w : World) (hown : w.ownsRow base 95 2 (.slice A n c) n xs) (hbase : base ≤ w.heap.size) (hn : n ≤ 2000000) :
    Calls Tryd.prog 66 #[.slice A n c] w fun e w' => e = .returned (.tuple #[]) ∧ w.grownBy w' (Value.slice A n c).ownBlock := by
  have HO := Lib.hid hown
  clear hown
  go_enter Tryd.func66, Tryd.ntmps66
  go_wp2
  go_loopw [2] (fun i wr => ∃ (k : Nat) (ys : List Value), k ≤ n ∧ i = .int .i64 k ∧ wr.ownsRow base 95 2 (.slice A n c) n ys ∧ Hid (w.grownBy wr (Value.slice A n c).ownBlock)) (fun i _ => n - (intOf i).toNat)
  case atStart => exact ⟨0, xs, Nat.zero_le _, rfl, HO.out, World.grownBy.refl w _⟩
  case round =>
    obtain ⟨k, ys, hk, rfl, hown, hg⟩ := hrel
    have hg := hg.out
    by_cases hlt : k < n
    · obtain ⟨g, cap, hA, _, hg2⟩ := hown.form (by omega)
      injection hA with hA _ _
      subst hA
      have hl2 : ys.length = n * 2 := hown.1
      obtain ⟨z0, hcell0⟩ : ∃ u, wr.cell? ⟨g, k * 2, none⟩ = some u := ⟨_, (hown.cellAt (k * 2) (by omega)).trans (List.getElem?_eq_getElem (by omega))⟩
      have hfz0 := hown.frozenAt (k * 2)
      obtain ⟨z1, hcell1⟩ : ∃ u, wr.cell? ⟨g, k * 2 + 1, none⟩ = some u := ⟨_, (hown.cellAt (k * 2 + 1) (by omega)).trans (List.getElem?_eq_getElem (by omega))⟩
      have hfz1 := hown.frozenAt (k * 2 + 1)
      have hkI : (k : Int) < (n : Int) := by omega
      have HO2 := Lib.hid ((hown.stored (k * 2) (.string { data := #[63] })).1.stored (k * 2 + 1) (.int .i64 0)).1
      have HG2 := Lib.hid ((hg.trans (hown.stored (k * 2) (.string { data := #[63] })).2).trans ((hown.stored (k * 2) (.string { data := #[63] })).1.stored (k * 2 + 1) (.int .i64 0)).2)
      clear hown hg hl2
      go_wp2
      go_roundw
      case rel => exact ⟨k + 1, ((ys.set (k * 2) (.string { data := #[63] })).set (k * 2 + 1) (.int .i64 0)), by omega, by go_num, HO2.out, HG2⟩
      case measure => simp [intOf]; omega
    · have hbs := grown_size hg hbase
      go_wp2_with (at_builtin; refine wpList_append_rowsG rfl _ _ 27 rfl base 95 (.agg #[.string ⟨#[]⟩, .int .i64 0]) 2 24 Tryd.underlying27 info_wish rfl (by decide) _ _ _ (by exact rfl) (hown.alloc _) _ 1 1 (wv [(nos, 0)]) (by exact rfl) (Reads.lit wr 95 (wv [(nos, 0)]) (0, 0) 2 1 rfl) (one_wv _) (by unfold maxLen; omega) (by omega) (Nat.le_trans hbs (balloc _ _).size) ?_; intro A' c' w' hown' hg')
      go_end0
      exact ⟨rfl, (hg.trans (World.grownBy_alloc wr _ _)).trans hg'⟩
theorem gC {P : Program} {f : FuncId} {args : Array Value} {w : World} {v : Value} {r : Option Nat} (h : Calls P f args w fun e w' => e = .returned v ∧ w.grownBy w' r) : Calls P f args w fun e w' => ∃ v', e = .returned v' ∧ (v' = v ∧ w.grownBy w' r) :=
  h.mono fun _ _ h => ⟨v, h.1, rfl, h.2⟩
set_option maxRecDepth 100000 in
theorem index_at0 (g : Nat) (w : World) : (Instr.indexAt 52 (.slice (some ⟨g, 0, none⟩) 1 1) (.int .i64 ((0 : Nat) : Int))).run Tryd.prog w = .ok (.pointer (some ⟨g, 0, none⟩)) w := by
  exact index_m 52 Tryd.underlying52 24 (fun _ => by kernel_rfl) g 0 1 1 0 (by decide) w
set_option maxRecDepth 100000 in
set_option maxHeartbeats 1600000 in
theorem spoilMq1 (m : Mq) (vc vw vf : Value) (g base : Nat) (w : World) (hC : Cells w g (mqCells m vc vw vf)) (hlt : g < w.heap.size) (hbg : base ≤ g) (hr : Own3 w base m vc vw vf) (hS : Short m 1000001) (n1 : some g ≠ vc.ownBlock) (n2 : some g ≠ vw.ownBlock) (n3 : some g ≠ vf.ownBlock) :
    Calls Tryd.prog 35 #[.slice (some ⟨g, 0, none⟩) 1 1] w fun e w' => e = .returned (.tuple #[]) ∧ Below base w w' := by
  have hb0 : base ≤ w.heap.size := Nat.le_of_lt (Nat.lt_of_le_of_lt hbg hlt)
  obtain ⟨oc, ow, of⟩ := hr
  obtain ⟨s1, s2, s3⟩ := hS
  obtain ⟨Ac, cc, rfl, _, _⟩ := own_shape oc
  obtain ⟨Aw, cw, rfl, _, _⟩ := own_shape ow
  obtain ⟨Af, cf, rfl, _, _⟩ := own_shape of
  have d12 := own_apart ow oc rfl
  have d13 := own_apart of oc rfl
  have d23 := own_apart of ow rfl
  go_enter Tryd.func35, Tryd.ntmps35
  refine Has.start 31 [(0, .slice (some ⟨g, 0, none⟩) 1 1)] rfl rfl ⟨rfl, trivial⟩ ?_
  intro a0 H0
  refine H0.rg 1 fun a1 H1 => nt ?_
  refine wp_block ?_
  refine wp_loop_up 1 (fun k a w' => Has a 31 [(0, .slice (some ⟨g, 0, none⟩) 1 1), (2, .int .i64 ((k : Nat) : Int))] ∧ (if k = 0 then w = w' else Below base w w')) ?_ ?_
  · exact ⟨H1.keep ⟨rfl, rfl, trivial⟩, rfl⟩
  · rintro k a2 w1 hkn ⟨H2, hw⟩
    match k, hkn with
    | 0, _ =>
      rw [if_pos rfl] at hw
      subst hw
      refine H2.rg 2 fun a4 H4 => ?_
      refine H4.len gz rfl rfl rfl rfl Tryd.underlying52 ?_
      intro a5 H5
      refine H5.bb 0 rfl rfl rfl rfl rfl rfl (lss_i _ _ true (by decide) _ _ _) rfl fun a6 H6 => nt ?_
      refine H6.condT rfl ?_
      refine skip_wp ?_
      refine then_normal ?_
      repeat (refine wp_seq ?_)
      refine wp_block ?_
      have oc0 := oc
      refine H6.rg 2 fun a8 H8 => ?_
      refine H8.index gz rfl rfl rfl rfl rfl (index_at0 _ _) ?_
      intro a9 H9
      refine H9.ms 1 fun a10 H10 => ?_
      refine H10.ld 0 (load1_26 _ _ _ _ _ _ (hC.get 15 _ rfl)) fun a11 H11 => ?_
      refine H11.cl (gC ((spoilInts base _ _ _ _ _ oc hb0 (by omega)))) ?_
      rintro a12 _ w1 ⟨rfl, hg⟩ H12
      have hC := hC.kept hg hlt n1
      have ow := ow.kept hg d12
      have of := of.kept hg d13
      have hbel := (Below.refl base w).grown hg hb0 (fun k hk => (oc0.lt k hk).1)
      have hlt := Nat.lt_of_lt_of_le hlt hg.size
      have hb0 := Nat.le_trans hb0 hg.size
      clear hg
      refine nt ?_
      refine H12.rg 2 fun a14 H14 => ?_
      refine H14.index gz rfl rfl rfl rfl rfl (index_at0 _ _) ?_
      intro a15 H15
      refine H15.ms 1 fun a16 H16 => ?_
      refine H16.ld 0 (load1_27 _ _ _ _ _ _ (hC.get 22 _ rfl)) fun a17 H17 => ?_
      refine H17.cl (gC ((spoilWishes base _ _ _ _ _ ow hb0 (by omega)))) ?_
      rintro a18 _ w2 ⟨rfl, hg⟩ H18
      have hC := hC.kept hg hlt n2
      have of := of.kept hg d23
      have hbel := hbel.grown hg hb0 (fun k hk => (ow.lt k hk).1)
      have hlt := Nat.lt_of_lt_of_le hlt hg.size
      have hb0 := Nat.le_trans hb0 hg.size
      clear hg
      refine nt ?_
      refine H18.rg 2 fun a20 H20 => ?_
      refine H20.index gz rfl rfl rfl rfl rfl (index_at0 _ _) ?_
      intro a21 H21
      refine H21.ms 1 fun a22 H22 => ?_
      refine H22.ld 0 (load1_28 _ _ _ _ _ _ (hC.get 23 _ rfl)) fun a23 H23 => ?_
      refine H23.cl (gC ((spoilStrs base _ _ _ _ _ of hb0 (by omega)))) ?_
      rintro a24 _ w3 ⟨rfl, hg⟩ H24
      have hC := hC.kept hg hlt n3
      have hbel := hbel.grown hg hb0 (fun k hk => (of.lt k hk).1)
      have hlt := Nat.lt_of_lt_of_le hlt hg.size
      have hb0 := Nat.le_trans hb0 hg.size
      clear hg
      refine nt ?_
      refine H24.rg 2 fun a26 H26 => ?_
      refine H26.any (w' := w3) gz rfl rfl (.agg (mqCells (mq0 (-9)) nilV nilV nilV).toArray) (by intro cs b h; cases h) (by kernel_rfl) (by kernel_rfl) ?_
      intro a27 H27
      refine H27.index gz rfl rfl rfl rfl rfl (index_at0 _ _) ?_
      intro a28 H28
      refine H28.storeS rfl rfl rfl rfl (L := mqCells (mq0 (-9)) nilV nilV nilV) rfl hC size_mq rfl rfl rfl ?_
      intro a29 w4 H29 hg hs _
      have hbel := hbel.grown hg hb0 (fun k hk => by injection hk with hk; rw [← hk]; exact hbg)
      refine wpList_nil ?_
      refine block_normal ?_
      refine then_normal ?_
      refine H29.rg 1 fun a30 H30 => ?_
      refine H30.bb 1 rfl rfl rfl rfl rfl rfl (succ_i _ (by decide) _ _ _) rfl fun a32 H32 => nt ?_
      exact ⟨Nat.lt_succ_self 0, H32.keep ⟨rfl, rfl, trivial⟩, by rw [if_neg (by decide)]; exact hbel⟩
    | 1, _ =>
      rw [if_neg (by decide)] at hw
      refine H2.rg 2 fun a4 H4 => ?_
      refine H4.len gz rfl rfl rfl rfl Tryd.underlying52 ?_
      intro a5 H5
      refine H5.bb 0 rfl rfl rfl rfl rfl rfl (lss_i _ _ false (by decide) _ _ _) rfl fun a6 H6 => nt ?_
      refine H6.condF rfl ?_
      refine wp_exit ?_
      repeat (with_reducible refine then_exit ?_)
      refine block_leave ?_
      exact bodyPost_end (results_none rfl _ _ _) H6.df ⟨rfl, hw⟩
end Go.Proofs.YtkcdkjpmbjcmdaaDoor

