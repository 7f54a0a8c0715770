/-
  pack.only: what it answers at every packet.
-/
import Derived.Test.YtkcdkjpmbjcmdaaDoorBa2
namespace Go.Proofs.YtkcdkjpmbjcmdaaDoor
open Go.RowKit

/-- what 'only' answers. -/
def Onlied (m : Mq) (w : World) (e : Ending) (w' : World) : Prop :=
  ∃ vc vw vf, e = .returned (.tuple #[.agg (mqCells (onlyOf m) vc vw vf).toArray, .bool (okOf m)]) ∧ MqL w' w'.heap.size (onlyOf m) vc vw vf ∧ Below w.heap.size w w'
theorem onlied_of {m : Mq} {w w' : World} {L : List Value} {b : Bool} {vc vw vf : Value} (hL : L = mqCells (onlyOf m) vc vw vf) (hb : b = okOf m) (hM : MqL w' w'.heap.size (onlyOf m) vc vw vf) (hB : Below w.heap.size w w') :
    Onlied m w (.returned (.tuple #[.agg L.toArray, .bool b])) w' := by
  subst hL hb
  exact ⟨vc, vw, vf, rfl, hM, hB⟩
theorem MqL.nil {w : World} {B : Nat} {m : Mq} (h1 : m.codes = []) (h2 : m.wishes = []) (h3 : m.filters = []) : MqL w B m nilV nilV nilV := by
  refine ⟨none, 0, none, 0, none, 0, ?_, ?_, ?_, ?_, ?_, ?_, ?_, ?_, ?_, ?_, ?_, ?_⟩ <;> simp [h1, h2, h3, wv, Reads]
theorem MqL.onlyC {w : World} {B : Nat} {m m' : Mq} {vc vw vf : Value} (h : MqL w B m vc vw vf) (h1 : m'.codes = m.codes) (h2 : m'.wishes = []) (h3 : m'.filters = []) : MqL w B m' vc nilV nilV := by
  obtain ⟨A1, c1, A2, c2, A3, c3, e1, e2, e3, l1, l2, l3, k1, k2, k3, r1, r2, r3⟩ := h
  refine ⟨A1, c1, none, 0, none, 0, ?_, ?_, ?_, ?_, ?_, ?_, ?_, ?_, ?_, ?_, ?_, ?_⟩ <;> simp [h1, h2, h3, wv, Reads.none_, e1, l1, r1, k1]
theorem MqL.onlyW {w : World} {B : Nat} {m m' : Mq} {vc vw vf : Value} (h : MqL w B m vc vw vf) (h1 : m'.codes = []) (h2 : m'.wishes = m.wishes) (h3 : m'.filters = []) : MqL w B m' nilV vw nilV := by
  obtain ⟨A1, c1, A2, c2, A3, c3, e1, e2, e3, l1, l2, l3, k1, k2, k3, r1, r2, r3⟩ := h
  refine ⟨none, 0, A2, c2, none, 0, ?_, ?_, ?_, ?_, ?_, ?_, ?_, ?_, ?_, ?_, ?_, ?_⟩ <;> simp [h1, h2, h3, Reads.none_, e2, l2, r2, k2]
theorem MqL.onlyF {w : World} {B : Nat} {m m' : Mq} {vc vw vf : Value} (h : MqL w B m vc vw vf) (h1 : m'.codes = []) (h2 : m'.wishes = []) (h3 : m'.filters = m.filters) : MqL w B m' nilV nilV vf := by
  obtain ⟨A1, c1, A2, c2, A3, c3, e1, e2, e3, l1, l2, l3, k1, k2, k3, r1, r2, r3⟩ := h
  refine ⟨none, 0, none, 0, A3, c3, ?_, ?_, ?_, ?_, ?_, ?_, ?_, ?_, ?_, ?_, ?_, ?_⟩ <;> simp [h1, h2, h3, wv, Reads.none_, e3, l3, r3, k3]
/-- a packet's strings are no longer than memory is. -/
structure MqFit (m : Mq) : Prop where
  client : Fits m.client
  wt : Fits m.wt
  wp : Fits m.wp
  user : Fits m.user
  pass : Fits m.pass
  topic : Fits m.topic
  payload : Fits m.payload
  wishes : ∀ s ∈ m.wishes, Fits s.1
  filters : ∀ s ∈ m.filters, Fits s
theorem results_two {P : Program} {fn : Func} {p q : Tmp} {T : TypeId} (h : fn.results = #[.cell p T, .tmp q]) (tmps : Array Value) {w : World} {g : Nat} {l : List Value} (d : TypeDesc) (v : Value) (hp : tmps.getD p undef = .pointer (some ⟨g, 0, none⟩)) (hq : tmps.getD q undef = v) (hC : Cells w g l)
    (hu : P.underlying T = some d) (hd : d.isRow = true) (n : Nat) (hi : (P.info? T).map (·.size) = some n) (hl : l.length = n) : (results fn tmps).run P w = .ok (.tuple #[.agg l.toArray, v]) w := by
  rw [← hl] at hi
  have hp' : tmps[p]?.getD undef = .pointer (some ⟨g, 0, none⟩) := by simpa using hp
  have hq' : tmps[q]?.getD undef = v := by simpa using hq
  simp [results, h, hp', hq', asAddr, run_loadVar_mid w g 0 T l d hC.range hu hd hi]
theorem eql_iB (u v : Int) (b : Bool) (h : (u == v) = b) (x y : Operand) (w : World) : (do eqGuard .eql 3 x y (.int .i64 u) (.int .i64 v); binOp .eql 3 (.int .i64 u) (.int .i64 v) : Sem Value).run Tryd.prog w = .ok (.bool b) w := by
  rw [← h]; exact eql_i u v x y w
theorem kind_ne {k c d : Int} (h : k = c) (hd : (c == d) = false) : (k == d) = false := by rw [h]; exact hd
theorem kind_eq {k c : Int} (h : k = c) : (k == c) = true := by rw [h]; exact beq_self_eq_true c

set_option maxRecDepth 100000 in
set_option maxHeartbeats 1600000 in
theorem only_1 (m : Mq) (vc vw vf : Value) (w : World) (_hL : MqL w w.heap.size m vc vw vf) (hF : MqFit m) (hW : Wd w) (hk : m.kind = 1) :
    Calls Tryd.prog 72 #[.agg (mqCells m vc vw vf).toArray] w (Onlied m w) := by
  have k1 : m.kind = 1 := hk
  have b1 : (m.kind == 1) = true := kind_eq hk
  have ho : onlyOf m = { mq0 m.kind with client := m.client, clean := m.clean, keep := m.keep, won := m.won, wt := m.wt, wp := m.wp, wq := m.wq, wr := m.wr, user := m.user, hu := m.hu, pass := m.pass, hp := m.hp } := by unfold onlyOf; rw [if_pos k1]
  have hq : okOf m = connectOk m := by unfold okOf; rw [if_pos k1]
  go_enter Tryd.func72, Tryd.ntmps72
  refine Has.start 144 [(0, .agg (mqCells m vc vw vf).toArray)] rfl rfl ⟨rfl, trivial⟩ ?_
  intro a0 H0
  have O0 := Own.start w
  repeat (refine wp_seq ?_)
  refine wp_region_list ?_
  refine H0.box rfl rfl rfl rfl rfl ?_
  intro a1 w1 hb hs hC H1
  have O1 := O0.alloc hb hs hC
  clear hb hs hC
  refine H1.alloc rfl rfl rfl rfl _ zero_mq ?_
  intro a2 w2 hb hs hC H2
  have O2 := O1.alloc hb hs hC
  clear hb hs hC
  refine H2.move gz (.inr rfl) rfl rfl rfl ?_
  intro a3 H3
  refine nt ?_
  repeat (refine wp_seq ?_)
  refine wp_region_list ?_
  refine H3.field gz rfl rfl rfl rfl field_0 ?_
  intro a4 H4
  refine H4.load gz rfl rfl rfl rfl (load1_i _ _ _ _ ((O2.get 1 rfl).get 0 _ rfl)) ?_
  intro a5 H5
  refine H5.field gz rfl rfl rfl rfl field_0 ?_
  intro a6 H6
  refine H6.storeC O2 0 rfl gz rfl rfl rfl rfl rfl (fun u h f => store1_i _ _ _ u _ h f) ?_
  intro a7 w3 H7 O3
  refine nt ?_
  repeat (refine wp_seq ?_)
  refine wp_region_list ?_
  refine H7.field gz rfl rfl rfl rfl field_16 ?_
  intro a8 H8
  refine H8.load gz rfl rfl rfl rfl (load1_i _ _ _ _ ((O3.get 1 rfl).get 20 _ rfl)) ?_
  intro a9 H9
  refine H9.call gz rfl rfl rfl rfl (fun _ _ => by kernel_rfl) (quietC (packWithin m.id 1 65535 _)) ?_
  rintro a10 _ _ ⟨rfl, rfl⟩ H10
  refine H10.move gz (.inr rfl) rfl rfl rfl ?_
  intro a11 H11
  refine nt ?_
  repeat (refine wp_seq ?_)
  refine wp_region_list ?_
  refine H11.field gz rfl rfl rfl rfl field_0 ?_
  intro a12 H12
  refine H12.load gz rfl rfl rfl rfl (load1_i _ _ _ _ ((O3.get 1 rfl).get 0 _ rfl)) ?_
  intro a13 H13
  refine nt ?_
  have H14 := H13.keep (l' := [(1, .pointer (some ⟨w.heap.size, 0, none⟩)), (2, .pointer (some ⟨w1.heap.size, 0, none⟩)), (3, .bool false), (4, .bool (inRB m.id 1 65535)), (12, .int .i64 m.kind)]) ⟨rfl, rfl, rfl, rfl, rfl, trivial⟩
  repeat (refine wp_seq ?_)
  refine wp_block ?_
  repeat (refine wp_seq ?_)
  refine wp_region_list ?_
  refine H14.bin gz rfl rfl rfl rfl rfl (eql_iB _ _ _ b1 _ _ _) ?_
  intro a15 H15
  refine H15.move gz (.inr rfl) rfl rfl rfl ?_
  intro a16 H16
  refine nt ?_
  refine H16.condT rfl ?_
  repeat (refine wp_seq ?_)
  refine wp_region_list ?_
  refine H16.field gz rfl rfl rfl rfl field_0 ?_
  intro a17 H17
  refine H17.load gz rfl rfl rfl rfl (load1_i _ _ _ _ ((O3.get 1 rfl).get 0 _ rfl)) ?_
  intro a18 H18
  refine H18.field gz rfl rfl rfl rfl field_1 ?_
  intro a19 H19
  refine H19.load gz rfl rfl rfl rfl (load1_s _ _ _ _ ((O3.get 1 rfl).get 1 _ rfl)) ?_
  intro a20 H20
  refine H20.field gz rfl rfl rfl rfl field_2 ?_
  intro a21 H21
  refine H21.load gz rfl rfl rfl rfl (load1_b _ _ _ _ ((O3.get 1 rfl).get 2 _ rfl)) ?_
  intro a22 H22
  refine H22.field gz rfl rfl rfl rfl field_3 ?_
  intro a23 H23
  refine H23.load gz rfl rfl rfl rfl (load1_i _ _ _ _ ((O3.get 1 rfl).get 3 _ rfl)) ?_
  intro a24 H24
  refine H24.field gz rfl rfl rfl rfl field_4 ?_
  intro a25 H25
  refine H25.load gz rfl rfl rfl rfl (load_will _ _ _ _ _ _ _ _ (O3.get 1 rfl) rfl rfl rfl rfl rfl) ?_
  intro a26 H26
  refine H26.field gz rfl rfl rfl rfl field_5 ?_
  intro a27 H27
  refine H27.load gz rfl rfl rfl rfl (load1_s _ _ _ _ ((O3.get 1 rfl).get 9 _ rfl)) ?_
  intro a28 H28
  refine H28.field gz rfl rfl rfl rfl field_6 ?_
  intro a29 H29
  refine H29.load gz rfl rfl rfl rfl (load1_b _ _ _ _ ((O3.get 1 rfl).get 10 _ rfl)) ?_
  intro a30 H30
  refine H30.field gz rfl rfl rfl rfl field_7 ?_
  intro a31 H31
  refine H31.load gz rfl rfl rfl rfl (load1_s _ _ _ _ ((O3.get 1 rfl).get 11 _ rfl)) ?_
  intro a32 H32
  refine H32.field gz rfl rfl rfl rfl field_8 ?_
  intro a33 H33
  refine H33.load gz rfl rfl rfl rfl (load1_b _ _ _ _ ((O3.get 1 rfl).get 12 _ rfl)) ?_
  intro a34 H34
  refine H34.any (w' := w3) gz rfl rfl (.agg (mqCells { mq0 m.kind with client := m.client, clean := m.clean, keep := m.keep, won := m.won, wt := m.wt, wp := m.wp, wq := m.wq, wr := m.wr, user := m.user, hu := m.hu, pass := m.pass, hp := m.hp } nilV nilV nilV).toArray) (by intro cs b h; cases h) (by kernel_rfl) (by kernel_rfl) ?_
  intro a35 H35
  refine H35.storeS rfl rfl rfl rfl rfl (O3.get 0 rfl) size_mq rfl rfl rfl ?_
  intro a36 w4 H36 hg hs hC
  have O4 := O3.store 0 rfl hg hs hC
  clear hg hs hC
  refine nt ?_
  repeat (refine wp_seq ?_)
  refine region_keep (n := 144) (g1 := w.heap.size) (g2 := w1.heap.size) (B := w.heap.size) (W := w) (L1 := (mqCells m vc vw vf)) (L2 := (mqCells { mq0 m.kind with client := m.client, clean := m.clean, keep := m.keep, won := m.won, wt := m.wt, wp := m.wp, wq := m.wq, wr := m.wr, user := m.user, hu := m.hu, pass := m.pass, hp := m.hp } nilV nilV nilV)) (e := connectOk m) (by kernel_rfl) H36.sz H36.df (H36.at_ 1 _ rfl) (H36.at_ 2 _ rfl) O4.two rfl (back_of (by kernel_rfl)) (edge_of rfl) (edge_of rfl) (edge_of rfl) _ Tryd.underlying30 rfl 24 size_mq rfl rfl rfl (fun _ _ => by kernel_rfl) (fun w' hT => packConnectV m _ _ _ hF.client hF.wt hF.user w' (hW.below hT.bel)) ?_
  intro a37 w5 df e2 e3 hT
  refine then_normal ?_
  refine wp_ret ?_
  repeat (first | (with_reducible refine block_ret ?_) | (with_reducible refine then_ret ?_))
  refine bodyPost_ret (results_two Tryd.results72 _ _ _ e2 e3 hT.c2 Tryd.underlying30 rfl 24 size_mq rfl) df ?_
  exact onlied_of (vc := nilV) (vw := nilV) (vf := nilV) (by rw [ho] <;> rfl) hq.symm (MqL.nil (by rw [ho]; rfl) (by rw [ho]; rfl) (by rw [ho]; rfl)) hT.bel

set_option maxRecDepth 100000 in
set_option maxHeartbeats 1600000 in
theorem only_2 (m : Mq) (vc vw vf : Value) (w : World) (_hL : MqL w w.heap.size m vc vw vf) (_hF : MqFit m) (_hW : Wd w) (hk : m.kind = 2) :
    Calls Tryd.prog 72 #[.agg (mqCells m vc vw vf).toArray] w (Onlied m w) := by
  have k1 : ¬ m.kind = 1 := by rw [hk]; decide
  have k2 : m.kind = 2 := hk
  have b1 : (m.kind == 1) = false := kind_ne hk rfl
  have b2 : (m.kind == 2) = true := kind_eq hk
  have ho : onlyOf m = { mq0 m.kind with present := m.present, code := m.code } := by unfold onlyOf; rw [if_neg k1, if_pos k2]
  have hq : okOf m = (inRB m.code 0 5 && (!m.present || m.code == 0)) := by unfold okOf; rw [if_neg k1, if_pos k2]
  go_enter Tryd.func72, Tryd.ntmps72
  refine Has.start 144 [(0, .agg (mqCells m vc vw vf).toArray)] rfl rfl ⟨rfl, trivial⟩ ?_
  intro a0 H0
  have O0 := Own.start w
  repeat (refine wp_seq ?_)
  refine wp_region_list ?_
  refine H0.box rfl rfl rfl rfl rfl ?_
  intro a1 w1 hb hs hC H1
  have O1 := O0.alloc hb hs hC
  clear hb hs hC
  refine H1.alloc rfl rfl rfl rfl _ zero_mq ?_
  intro a2 w2 hb hs hC H2
  have O2 := O1.alloc hb hs hC
  clear hb hs hC
  refine H2.move gz (.inr rfl) rfl rfl rfl ?_
  intro a3 H3
  refine nt ?_
  repeat (refine wp_seq ?_)
  refine wp_region_list ?_
  refine H3.field gz rfl rfl rfl rfl field_0 ?_
  intro a4 H4
  refine H4.load gz rfl rfl rfl rfl (load1_i _ _ _ _ ((O2.get 1 rfl).get 0 _ rfl)) ?_
  intro a5 H5
  refine H5.field gz rfl rfl rfl rfl field_0 ?_
  intro a6 H6
  refine H6.storeC O2 0 rfl gz rfl rfl rfl rfl rfl (fun u h f => store1_i _ _ _ u _ h f) ?_
  intro a7 w3 H7 O3
  refine nt ?_
  repeat (refine wp_seq ?_)
  refine wp_region_list ?_
  refine H7.field gz rfl rfl rfl rfl field_16 ?_
  intro a8 H8
  refine H8.load gz rfl rfl rfl rfl (load1_i _ _ _ _ ((O3.get 1 rfl).get 20 _ rfl)) ?_
  intro a9 H9
  refine H9.call gz rfl rfl rfl rfl (fun _ _ => by kernel_rfl) (quietC (packWithin m.id 1 65535 _)) ?_
  rintro a10 _ _ ⟨rfl, rfl⟩ H10
  refine H10.move gz (.inr rfl) rfl rfl rfl ?_
  intro a11 H11
  refine nt ?_
  repeat (refine wp_seq ?_)
  refine wp_region_list ?_
  refine H11.field gz rfl rfl rfl rfl field_0 ?_
  intro a12 H12
  refine H12.load gz rfl rfl rfl rfl (load1_i _ _ _ _ ((O3.get 1 rfl).get 0 _ rfl)) ?_
  intro a13 H13
  refine nt ?_
  have H14 := H13.keep (l' := [(1, .pointer (some ⟨w.heap.size, 0, none⟩)), (2, .pointer (some ⟨w1.heap.size, 0, none⟩)), (3, .bool false), (4, .bool (inRB m.id 1 65535)), (12, .int .i64 m.kind)]) ⟨rfl, rfl, rfl, rfl, rfl, trivial⟩
  repeat (refine wp_seq ?_)
  refine wp_block ?_
  repeat (refine wp_seq ?_)
  refine wp_region_list ?_
  refine H14.bin gz rfl rfl rfl rfl rfl (eql_iB _ _ _ b1 _ _ _) ?_
  intro a15 H15
  refine H15.move gz (.inr rfl) rfl rfl rfl ?_
  intro a16 H16
  refine nt ?_
  refine H16.condF rfl ?_
  repeat (refine wp_seq ?_)
  refine wp_region_list ?_
  refine H16.bin gz rfl rfl rfl rfl rfl (eql_iB _ _ _ b2 _ _ _) ?_
  intro a17 H17
  refine H17.move gz (.inr rfl) rfl rfl rfl ?_
  intro a18 H18
  refine nt ?_
  refine H18.condT rfl ?_
  repeat (refine wp_seq ?_)
  refine region_copy2 (n := 144) (g1 := w.heap.size) (g2 := w1.heap.size) (B := w.heap.size) (W := w) (L1 := (mqCells m vc vw vf)) (L2 := ((mqCells (mq0 0) nilV nilV nilV).set 0 (.int .i64 m.kind))) (c := .bool (inRB m.id 1 65535)) (by kernel_rfl) H18.sz H18.df (H18.at_ 1 _ rfl) (H18.at_ 2 _ rfl) (H18.at_ 4 _ rfl) O3.two rfl (back_of (by kernel_rfl)) (edge_of rfl) (edge_of rfl) (edge_of rfl) (edge_of rfl) (edge_of rfl) (edge_of rfl) field_9 field_10 (fun w' hC => load1_b _ _ _ _ (hC.get 13 _ rfl)) (fun w' hC => load1_i _ _ _ _ (hC.get 14 _ rfl)) (fun w' L hC hj => by obtain ⟨c1, c2⟩ := hC _ _ (List.getElem?_eq_getElem hj); exact store1_b _ _ _ _ _ c1 c2) (fun w' L hC hj => by obtain ⟨c1, c2⟩ := hC _ _ (List.getElem?_eq_getElem hj); exact store1_i _ _ _ _ _ c1 c2) (by decide) (by simp) (by simp) ?_
  intro a19 w4 sz df e1 e2 e4 hT
  have H19 := Has.of (l := [(1, .pointer (some ⟨w.heap.size, 0, none⟩)), (2, .pointer (some ⟨w1.heap.size, 0, none⟩)), (4, .bool (inRB m.id 1 65535))]) sz df ⟨e1, e2, e4, trivial⟩
  have O4 := hT.own
  clear sz df e1 e2 e4 hT
  refine then_normal ?_
  repeat (refine wp_seq ?_)
  refine region_keepC (n := 144) (g1 := w.heap.size) (g2 := w1.heap.size) (B := w.heap.size) (W := w) (L1 := (mqCells m vc vw vf)) (L2 := ((((mqCells (mq0 0) nilV nilV nilV).set 0 (.int .i64 m.kind)).set 14 (.int .i64 m.code)).set 13 (.bool m.present))) (c := inRB m.code 0 5) (p := m.present) (code := m.code) (by kernel_rfl) H19.sz H19.df (H19.at_ 1 _ rfl) (H19.at_ 2 _ rfl) O4.two rfl (back_of (by kernel_rfl)) (edge_of rfl) (edge_of rfl) (edge_of rfl) (edge_of rfl) (edge_of rfl) (edge_of rfl) (edge_of rfl) (edge_of rfl) (edge_of rfl) (edge_of rfl) (edge_of rfl) (edge_of rfl) (edge_of rfl) (edge_of rfl) (edge_of rfl) (edge_of rfl) (edge_of rfl) (edge_of rfl) (edge_of rfl) (edge_of rfl) (edge_of rfl) (edge_of rfl) _ Tryd.underlying30 rfl 24 size_mq rfl rfl field_10 field_9 (fun w' hT => load1_i _ _ _ _ (hT.c1.get 14 _ rfl)) (fun w' hT => load1_b _ _ _ _ (hT.c1.get 13 _ rfl)) (fun w' x y => eql_i _ _ x y w') (fun _ _ => by kernel_rfl) (fun w' hT => (packWithin m.code 0 5 w').mono fun _ _ h => ⟨h.1, h.2 ▸ Below.refl _ _⟩) ?_
  intro a20 w5 df e2 e3 hT
  refine then_normal ?_
  refine wp_ret ?_
  repeat (first | (with_reducible refine block_ret ?_) | (with_reducible refine then_ret ?_))
  refine bodyPost_ret (results_two Tryd.results72 _ _ _ e2 e3 hT.c2 Tryd.underlying30 rfl 24 size_mq rfl) df ?_
  exact onlied_of (vc := nilV) (vw := nilV) (vf := nilV) (by rw [ho] <;> rfl) hq.symm (MqL.nil (by rw [ho]; rfl) (by rw [ho]; rfl) (by rw [ho]; rfl)) hT.bel

set_option maxRecDepth 100000 in
set_option maxHeartbeats 1600000 in
theorem only_3 (m : Mq) (vc vw vf : Value) (w : World) (_hL : MqL w w.heap.size m vc vw vf) (hF : MqFit m) (hW : Wd w) (hk : m.kind = 3) :
    Calls Tryd.prog 72 #[.agg (mqCells m vc vw vf).toArray] w (Onlied m w) := by
  have k1 : ¬ m.kind = 1 := by rw [hk]; decide
  have k2 : ¬ m.kind = 2 := by rw [hk]; decide
  have k3 : m.kind = 3 := hk
  have b1 : (m.kind == 1) = false := kind_ne hk rfl
  have b2 : (m.kind == 2) = false := kind_ne hk rfl
  have b3 : (m.kind == 3) = true := kind_eq hk
  have ho : onlyOf m = { mq0 m.kind with topic := m.topic, qos := m.qos, dup := m.dup, retain := m.retain, id := m.id, payload := m.payload } := by unfold onlyOf; rw [if_neg k1, if_neg k2, if_pos k3]
  have hq : okOf m = publishOk m := by unfold okOf; rw [if_neg k1, if_neg k2, if_pos k3]
  go_enter Tryd.func72, Tryd.ntmps72
  refine Has.start 144 [(0, .agg (mqCells m vc vw vf).toArray)] rfl rfl ⟨rfl, trivial⟩ ?_
  intro a0 H0
  have O0 := Own.start w
  repeat (refine wp_seq ?_)
  refine wp_region_list ?_
  refine H0.box rfl rfl rfl rfl rfl ?_
  intro a1 w1 hb hs hC H1
  have O1 := O0.alloc hb hs hC
  clear hb hs hC
  refine H1.alloc rfl rfl rfl rfl _ zero_mq ?_
  intro a2 w2 hb hs hC H2
  have O2 := O1.alloc hb hs hC
  clear hb hs hC
  refine H2.move gz (.inr rfl) rfl rfl rfl ?_
  intro a3 H3
  refine nt ?_
  repeat (refine wp_seq ?_)
  refine wp_region_list ?_
  refine H3.field gz rfl rfl rfl rfl field_0 ?_
  intro a4 H4
  refine H4.load gz rfl rfl rfl rfl (load1_i _ _ _ _ ((O2.get 1 rfl).get 0 _ rfl)) ?_
  intro a5 H5
  refine H5.field gz rfl rfl rfl rfl field_0 ?_
  intro a6 H6
  refine H6.storeC O2 0 rfl gz rfl rfl rfl rfl rfl (fun u h f => store1_i _ _ _ u _ h f) ?_
  intro a7 w3 H7 O3
  refine nt ?_
  repeat (refine wp_seq ?_)
  refine wp_region_list ?_
  refine H7.field gz rfl rfl rfl rfl field_16 ?_
  intro a8 H8
  refine H8.load gz rfl rfl rfl rfl (load1_i _ _ _ _ ((O3.get 1 rfl).get 20 _ rfl)) ?_
  intro a9 H9
  refine H9.call gz rfl rfl rfl rfl (fun _ _ => by kernel_rfl) (quietC (packWithin m.id 1 65535 _)) ?_
  rintro a10 _ _ ⟨rfl, rfl⟩ H10
  refine H10.move gz (.inr rfl) rfl rfl rfl ?_
  intro a11 H11
  refine nt ?_
  repeat (refine wp_seq ?_)
  refine wp_region_list ?_
  refine H11.field gz rfl rfl rfl rfl field_0 ?_
  intro a12 H12
  refine H12.load gz rfl rfl rfl rfl (load1_i _ _ _ _ ((O3.get 1 rfl).get 0 _ rfl)) ?_
  intro a13 H13
  refine nt ?_
  have H14 := H13.keep (l' := [(1, .pointer (some ⟨w.heap.size, 0, none⟩)), (2, .pointer (some ⟨w1.heap.size, 0, none⟩)), (3, .bool false), (4, .bool (inRB m.id 1 65535)), (12, .int .i64 m.kind)]) ⟨rfl, rfl, rfl, rfl, rfl, trivial⟩
  repeat (refine wp_seq ?_)
  refine wp_block ?_
  repeat (refine wp_seq ?_)
  refine wp_region_list ?_
  refine H14.bin gz rfl rfl rfl rfl rfl (eql_iB _ _ _ b1 _ _ _) ?_
  intro a15 H15
  refine H15.move gz (.inr rfl) rfl rfl rfl ?_
  intro a16 H16
  refine nt ?_
  refine H16.condF rfl ?_
  repeat (refine wp_seq ?_)
  refine wp_region_list ?_
  refine H16.bin gz rfl rfl rfl rfl rfl (eql_iB _ _ _ b2 _ _ _) ?_
  intro a17 H17
  refine H17.move gz (.inr rfl) rfl rfl rfl ?_
  intro a18 H18
  refine nt ?_
  refine H18.condF rfl ?_
  repeat (refine wp_seq ?_)
  refine wp_region_list ?_
  refine H18.bin gz rfl rfl rfl rfl rfl (eql_iB _ _ _ b3 _ _ _) ?_
  intro a19 H19
  refine H19.move gz (.inr rfl) rfl rfl rfl ?_
  intro a20 H20
  refine nt ?_
  refine H20.condT rfl ?_
  repeat (refine wp_seq ?_)
  refine region_copy6 (n := 144) (g1 := w.heap.size) (g2 := w1.heap.size) (B := w.heap.size) (W := w) (L1 := (mqCells m vc vw vf)) (L2 := ((mqCells (mq0 0) nilV nilV nilV).set 0 (.int .i64 m.kind))) (c := .bool (inRB m.id 1 65535)) (by kernel_rfl) H20.sz H20.df (H20.at_ 1 _ rfl) (H20.at_ 2 _ rfl) (H20.at_ 4 _ rfl) O3.two rfl (back_of (by kernel_rfl)) (edge_of rfl) (edge_of rfl) (edge_of rfl) (edge_of rfl) (edge_of rfl) (edge_of rfl) (edge_of rfl) (edge_of rfl) (edge_of rfl) (edge_of rfl) (edge_of rfl) (edge_of rfl) (edge_of rfl) (edge_of rfl) (edge_of rfl) (edge_of rfl) (edge_of rfl) (edge_of rfl) field_15 field_13 field_12 field_14 field_16 field_17 (fun w' hC => load1_s _ _ _ _ (hC.get 19 _ rfl)) (fun w' hC => load1_i _ _ _ _ (hC.get 17 _ rfl)) (fun w' hC => load1_b _ _ _ _ (hC.get 16 _ rfl)) (fun w' hC => load1_b _ _ _ _ (hC.get 18 _ rfl)) (fun w' hC => load1_i _ _ _ _ (hC.get 20 _ rfl)) (fun w' hC => load1_s _ _ _ _ (hC.get 21 _ rfl)) (fun w' L hC hj => by obtain ⟨c1, c2⟩ := hC _ _ (List.getElem?_eq_getElem hj); exact store1_s _ _ _ _ _ c1 c2) (fun w' L hC hj => by obtain ⟨c1, c2⟩ := hC _ _ (List.getElem?_eq_getElem hj); exact store1_i _ _ _ _ _ c1 c2) (fun w' L hC hj => by obtain ⟨c1, c2⟩ := hC _ _ (List.getElem?_eq_getElem hj); exact store1_b _ _ _ _ _ c1 c2) (fun w' L hC hj => by obtain ⟨c1, c2⟩ := hC _ _ (List.getElem?_eq_getElem hj); exact store1_b _ _ _ _ _ c1 c2) (fun w' L hC hj => by obtain ⟨c1, c2⟩ := hC _ _ (List.getElem?_eq_getElem hj); exact store1_i _ _ _ _ _ c1 c2) (fun w' L hC hj => by obtain ⟨c1, c2⟩ := hC _ _ (List.getElem?_eq_getElem hj); exact store1_s _ _ _ _ _ c1 c2) (by decide) (by decide) (by decide) (by decide) (by decide) (by decide) (by decide) (by decide) (by decide) (by decide) (by decide) (by decide) (by decide) (by decide) (by decide) (by simp) (by simp) (by simp) (by simp) (by simp) (by simp) ?_
  intro a21 w4 sz df e1 e2 e4 hT
  have H21 := Has.of (l := [(1, .pointer (some ⟨w.heap.size, 0, none⟩)), (2, .pointer (some ⟨w1.heap.size, 0, none⟩)), (4, .bool (inRB m.id 1 65535))]) sz df ⟨e1, e2, e4, trivial⟩
  have O4 := hT.own
  clear sz df e1 e2 e4 hT
  refine then_normal ?_
  repeat (refine wp_seq ?_)
  refine region_keep (n := 144) (g1 := w.heap.size) (g2 := w1.heap.size) (B := w.heap.size) (W := w) (L1 := (mqCells m vc vw vf)) (L2 := ((((((((mqCells (mq0 0) nilV nilV nilV).set 0 (.int .i64 m.kind)).set 21 (.string m.payload)).set 20 (.int .i64 m.id)).set 18 (.bool m.retain)).set 16 (.bool m.dup)).set 17 (.int .i64 m.qos)).set 19 (.string m.topic))) (e := publishOk m) (by kernel_rfl) H21.sz H21.df (H21.at_ 1 _ rfl) (H21.at_ 2 _ rfl) O4.two rfl (back_of (by kernel_rfl)) (edge_of rfl) (edge_of rfl) (edge_of rfl) _ Tryd.underlying30 rfl 24 size_mq rfl rfl rfl (fun _ _ => by kernel_rfl) (fun w' hT => packPublishV m _ _ _ hF.topic w' (hW.below hT.bel)) ?_
  intro a22 w5 df e2 e3 hT
  refine then_normal ?_
  refine wp_ret ?_
  repeat (first | (with_reducible refine block_ret ?_) | (with_reducible refine then_ret ?_))
  refine bodyPost_ret (results_two Tryd.results72 _ _ _ e2 e3 hT.c2 Tryd.underlying30 rfl 24 size_mq rfl) df ?_
  exact onlied_of (vc := nilV) (vw := nilV) (vf := nilV) (by rw [ho] <;> rfl) hq.symm (MqL.nil (by rw [ho]; rfl) (by rw [ho]; rfl) (by rw [ho]; rfl)) hT.bel

set_option maxRecDepth 100000 in
set_option maxHeartbeats 1600000 in
theorem only_4 (m : Mq) (vc vw vf : Value) (w : World) (_hL : MqL w w.heap.size m vc vw vf) (_hF : MqFit m) (_hW : Wd w) (hk : m.kind = 4) :
    Calls Tryd.prog 72 #[.agg (mqCells m vc vw vf).toArray] w (Onlied m w) := by
  have k1 : ¬ m.kind = 1 := by rw [hk]; decide
  have k2 : ¬ m.kind = 2 := by rw [hk]; decide
  have k3 : ¬ m.kind = 3 := by rw [hk]; decide
  have ki : idKind m.kind = true := by rw [hk]; decide
  have b1 : (m.kind == 1) = false := kind_ne hk rfl
  have b2 : (m.kind == 2) = false := kind_ne hk rfl
  have b3 : (m.kind == 3) = false := kind_ne hk rfl
  have b4 : (m.kind == 4) = true := kind_eq hk
  have ho : onlyOf m = { mq0 m.kind with id := m.id } := by unfold onlyOf; rw [if_neg k1, if_neg k2, if_neg k3, if_pos ki]
  have hq : okOf m = inRB m.id 1 65535 := by unfold okOf; rw [if_neg k1, if_neg k2, if_neg k3, if_pos ki]
  go_enter Tryd.func72, Tryd.ntmps72
  refine Has.start 144 [(0, .agg (mqCells m vc vw vf).toArray)] rfl rfl ⟨rfl, trivial⟩ ?_
  intro a0 H0
  have O0 := Own.start w
  repeat (refine wp_seq ?_)
  refine wp_region_list ?_
  refine H0.box rfl rfl rfl rfl rfl ?_
  intro a1 w1 hb hs hC H1
  have O1 := O0.alloc hb hs hC
  clear hb hs hC
  refine H1.alloc rfl rfl rfl rfl _ zero_mq ?_
  intro a2 w2 hb hs hC H2
  have O2 := O1.alloc hb hs hC
  clear hb hs hC
  refine H2.move gz (.inr rfl) rfl rfl rfl ?_
  intro a3 H3
  refine nt ?_
  repeat (refine wp_seq ?_)
  refine wp_region_list ?_
  refine H3.field gz rfl rfl rfl rfl field_0 ?_
  intro a4 H4
  refine H4.load gz rfl rfl rfl rfl (load1_i _ _ _ _ ((O2.get 1 rfl).get 0 _ rfl)) ?_
  intro a5 H5
  refine H5.field gz rfl rfl rfl rfl field_0 ?_
  intro a6 H6
  refine H6.storeC O2 0 rfl gz rfl rfl rfl rfl rfl (fun u h f => store1_i _ _ _ u _ h f) ?_
  intro a7 w3 H7 O3
  refine nt ?_
  repeat (refine wp_seq ?_)
  refine wp_region_list ?_
  refine H7.field gz rfl rfl rfl rfl field_16 ?_
  intro a8 H8
  refine H8.load gz rfl rfl rfl rfl (load1_i _ _ _ _ ((O3.get 1 rfl).get 20 _ rfl)) ?_
  intro a9 H9
  refine H9.call gz rfl rfl rfl rfl (fun _ _ => by kernel_rfl) (quietC (packWithin m.id 1 65535 _)) ?_
  rintro a10 _ _ ⟨rfl, rfl⟩ H10
  refine H10.move gz (.inr rfl) rfl rfl rfl ?_
  intro a11 H11
  refine nt ?_
  repeat (refine wp_seq ?_)
  refine wp_region_list ?_
  refine H11.field gz rfl rfl rfl rfl field_0 ?_
  intro a12 H12
  refine H12.load gz rfl rfl rfl rfl (load1_i _ _ _ _ ((O3.get 1 rfl).get 0 _ rfl)) ?_
  intro a13 H13
  refine nt ?_
  have H14 := H13.keep (l' := [(1, .pointer (some ⟨w.heap.size, 0, none⟩)), (2, .pointer (some ⟨w1.heap.size, 0, none⟩)), (3, .bool false), (4, .bool (inRB m.id 1 65535)), (12, .int .i64 m.kind)]) ⟨rfl, rfl, rfl, rfl, rfl, trivial⟩
  repeat (refine wp_seq ?_)
  refine wp_block ?_
  repeat (refine wp_seq ?_)
  refine wp_region_list ?_
  refine H14.bin gz rfl rfl rfl rfl rfl (eql_iB _ _ _ b1 _ _ _) ?_
  intro a15 H15
  refine H15.move gz (.inr rfl) rfl rfl rfl ?_
  intro a16 H16
  refine nt ?_
  refine H16.condF rfl ?_
  repeat (refine wp_seq ?_)
  refine wp_region_list ?_
  refine H16.bin gz rfl rfl rfl rfl rfl (eql_iB _ _ _ b2 _ _ _) ?_
  intro a17 H17
  refine H17.move gz (.inr rfl) rfl rfl rfl ?_
  intro a18 H18
  refine nt ?_
  refine H18.condF rfl ?_
  repeat (refine wp_seq ?_)
  refine wp_region_list ?_
  refine H18.bin gz rfl rfl rfl rfl rfl (eql_iB _ _ _ b3 _ _ _) ?_
  intro a19 H19
  refine H19.move gz (.inr rfl) rfl rfl rfl ?_
  intro a20 H20
  refine nt ?_
  refine H20.condF rfl ?_
  repeat (refine wp_seq ?_)
  repeat (refine wp_seq ?_)
  refine wp_region_list ?_
  refine H20.bin gz rfl rfl rfl rfl rfl (eql_iB _ _ _ b4 _ _ _) ?_
  intro a21 H21
  refine H21.move gz (.inr rfl) rfl rfl rfl ?_
  intro a22 H22
  refine nt ?_
  refine H22.condT rfl ?_
  refine skip_wp ?_
  refine then_normal ?_
  refine H22.condT rfl ?_
  repeat (refine wp_seq ?_)
  refine wp_region_list ?_
  refine H22.field gz rfl rfl rfl rfl field_16 ?_
  intro a23 H23
  refine H23.load gz rfl rfl rfl rfl (load1_i _ _ _ _ ((O3.get 1 rfl).get 20 _ rfl)) ?_
  intro a24 H24
  refine H24.field gz rfl rfl rfl rfl field_16 ?_
  intro a25 H25
  refine H25.storeC O3 0 rfl gz rfl rfl rfl rfl rfl (fun u h f => store1_i _ _ _ u _ h f) ?_
  intro a26 w4 H26 O4
  refine nt ?_
  repeat (refine wp_seq ?_)
  refine wp_region_list ?_
  refine H26.loadS rfl rfl rfl rfl rfl (O4.get 0 rfl) Tryd.underlying30 rfl size_mq rfl ?_
  intro a27 H27
  refine H27.move gz (.inl rfl) rfl rfl rfl ?_
  intro a28 H28
  refine H28.storeS rfl rfl rfl rfl rfl (O4.get 0 rfl) size_mq rfl rfl rfl ?_
  intro a29 w5 H29 hg hs hC
  have O5 := O4.store 0 rfl hg hs hC
  clear hg hs hC
  refine H29.move gz (.inr rfl) rfl rfl rfl ?_
  intro a30 H30
  refine wpList_nil ?_
  have e2 := H30.at_ 2 _ rfl
  have e3 := H30.at_ 3 _ rfl
  have df := H30.df
  have hT := O5.two
  refine then_normal ?_
  refine wp_ret ?_
  repeat (first | (with_reducible refine block_ret ?_) | (with_reducible refine then_ret ?_))
  refine bodyPost_ret (results_two Tryd.results72 _ _ _ e2 e3 hT.c2 Tryd.underlying30 rfl 24 size_mq rfl) df ?_
  exact onlied_of (vc := nilV) (vw := nilV) (vf := nilV) (by rw [ho] <;> rfl) hq.symm (MqL.nil (by rw [ho]; rfl) (by rw [ho]; rfl) (by rw [ho]; rfl)) hT.bel

set_option maxRecDepth 100000 in
set_option maxHeartbeats 1600000 in
theorem only_5 (m : Mq) (vc vw vf : Value) (w : World) (_hL : MqL w w.heap.size m vc vw vf) (_hF : MqFit m) (_hW : Wd w) (hk : m.kind = 5) :
    Calls Tryd.prog 72 #[.agg (mqCells m vc vw vf).toArray] w (Onlied m w) := by
  have k1 : ¬ m.kind = 1 := by rw [hk]; decide
  have k2 : ¬ m.kind = 2 := by rw [hk]; decide
  have k3 : ¬ m.kind = 3 := by rw [hk]; decide
  have ki : idKind m.kind = true := by rw [hk]; decide
  have b1 : (m.kind == 1) = false := kind_ne hk rfl
  have b2 : (m.kind == 2) = false := kind_ne hk rfl
  have b3 : (m.kind == 3) = false := kind_ne hk rfl
  have b4 : (m.kind == 4) = false := kind_ne hk rfl
  have b5 : (m.kind == 5) = true := kind_eq hk
  have ho : onlyOf m = { mq0 m.kind with id := m.id } := by unfold onlyOf; rw [if_neg k1, if_neg k2, if_neg k3, if_pos ki]
  have hq : okOf m = inRB m.id 1 65535 := by unfold okOf; rw [if_neg k1, if_neg k2, if_neg k3, if_pos ki]
  go_enter Tryd.func72, Tryd.ntmps72
  refine Has.start 144 [(0, .agg (mqCells m vc vw vf).toArray)] rfl rfl ⟨rfl, trivial⟩ ?_
  intro a0 H0
  have O0 := Own.start w
  repeat (refine wp_seq ?_)
  refine wp_region_list ?_
  refine H0.box rfl rfl rfl rfl rfl ?_
  intro a1 w1 hb hs hC H1
  have O1 := O0.alloc hb hs hC
  clear hb hs hC
  refine H1.alloc rfl rfl rfl rfl _ zero_mq ?_
  intro a2 w2 hb hs hC H2
  have O2 := O1.alloc hb hs hC
  clear hb hs hC
  refine H2.move gz (.inr rfl) rfl rfl rfl ?_
  intro a3 H3
  refine nt ?_
  repeat (refine wp_seq ?_)
  refine wp_region_list ?_
  refine H3.field gz rfl rfl rfl rfl field_0 ?_
  intro a4 H4
  refine H4.load gz rfl rfl rfl rfl (load1_i _ _ _ _ ((O2.get 1 rfl).get 0 _ rfl)) ?_
  intro a5 H5
  refine H5.field gz rfl rfl rfl rfl field_0 ?_
  intro a6 H6
  refine H6.storeC O2 0 rfl gz rfl rfl rfl rfl rfl (fun u h f => store1_i _ _ _ u _ h f) ?_
  intro a7 w3 H7 O3
  refine nt ?_
  repeat (refine wp_seq ?_)
  refine wp_region_list ?_
  refine H7.field gz rfl rfl rfl rfl field_16 ?_
  intro a8 H8
  refine H8.load gz rfl rfl rfl rfl (load1_i _ _ _ _ ((O3.get 1 rfl).get 20 _ rfl)) ?_
  intro a9 H9
  refine H9.call gz rfl rfl rfl rfl (fun _ _ => by kernel_rfl) (quietC (packWithin m.id 1 65535 _)) ?_
  rintro a10 _ _ ⟨rfl, rfl⟩ H10
  refine H10.move gz (.inr rfl) rfl rfl rfl ?_
  intro a11 H11
  refine nt ?_
  repeat (refine wp_seq ?_)
  refine wp_region_list ?_
  refine H11.field gz rfl rfl rfl rfl field_0 ?_
  intro a12 H12
  refine H12.load gz rfl rfl rfl rfl (load1_i _ _ _ _ ((O3.get 1 rfl).get 0 _ rfl)) ?_
  intro a13 H13
  refine nt ?_
  have H14 := H13.keep (l' := [(1, .pointer (some ⟨w.heap.size, 0, none⟩)), (2, .pointer (some ⟨w1.heap.size, 0, none⟩)), (3, .bool false), (4, .bool (inRB m.id 1 65535)), (12, .int .i64 m.kind)]) ⟨rfl, rfl, rfl, rfl, rfl, trivial⟩
  repeat (refine wp_seq ?_)
  refine wp_block ?_
  repeat (refine wp_seq ?_)
  refine wp_region_list ?_
  refine H14.bin gz rfl rfl rfl rfl rfl (eql_iB _ _ _ b1 _ _ _) ?_
  intro a15 H15
  refine H15.move gz (.inr rfl) rfl rfl rfl ?_
  intro a16 H16
  refine nt ?_
  refine H16.condF rfl ?_
  repeat (refine wp_seq ?_)
  refine wp_region_list ?_
  refine H16.bin gz rfl rfl rfl rfl rfl (eql_iB _ _ _ b2 _ _ _) ?_
  intro a17 H17
  refine H17.move gz (.inr rfl) rfl rfl rfl ?_
  intro a18 H18
  refine nt ?_
  refine H18.condF rfl ?_
  repeat (refine wp_seq ?_)
  refine wp_region_list ?_
  refine H18.bin gz rfl rfl rfl rfl rfl (eql_iB _ _ _ b3 _ _ _) ?_
  intro a19 H19
  refine H19.move gz (.inr rfl) rfl rfl rfl ?_
  intro a20 H20
  refine nt ?_
  refine H20.condF rfl ?_
  repeat (refine wp_seq ?_)
  repeat (refine wp_seq ?_)
  refine wp_region_list ?_
  refine H20.bin gz rfl rfl rfl rfl rfl (eql_iB _ _ _ b4 _ _ _) ?_
  intro a21 H21
  refine H21.move gz (.inr rfl) rfl rfl rfl ?_
  intro a22 H22
  refine nt ?_
  refine H22.condF rfl ?_
  repeat (refine wp_seq ?_)
  refine wp_region_list ?_
  refine H22.bin gz rfl rfl rfl rfl rfl (eql_iB _ _ _ b5 _ _ _) ?_
  intro a23 H23
  refine H23.move gz (.inr rfl) rfl rfl rfl ?_
  intro a24 H24
  refine nt ?_
  refine H24.condT rfl ?_
  refine skip_wp ?_
  refine then_normal ?_
  refine H24.condT rfl ?_
  repeat (refine wp_seq ?_)
  refine wp_region_list ?_
  refine H24.field gz rfl rfl rfl rfl field_16 ?_
  intro a25 H25
  refine H25.load gz rfl rfl rfl rfl (load1_i _ _ _ _ ((O3.get 1 rfl).get 20 _ rfl)) ?_
  intro a26 H26
  refine H26.field gz rfl rfl rfl rfl field_16 ?_
  intro a27 H27
  refine H27.storeC O3 0 rfl gz rfl rfl rfl rfl rfl (fun u h f => store1_i _ _ _ u _ h f) ?_
  intro a28 w4 H28 O4
  refine nt ?_
  repeat (refine wp_seq ?_)
  refine wp_region_list ?_
  refine H28.loadS rfl rfl rfl rfl rfl (O4.get 0 rfl) Tryd.underlying30 rfl size_mq rfl ?_
  intro a29 H29
  refine H29.move gz (.inl rfl) rfl rfl rfl ?_
  intro a30 H30
  refine H30.storeS rfl rfl rfl rfl rfl (O4.get 0 rfl) size_mq rfl rfl rfl ?_
  intro a31 w5 H31 hg hs hC
  have O5 := O4.store 0 rfl hg hs hC
  clear hg hs hC
  refine H31.move gz (.inr rfl) rfl rfl rfl ?_
  intro a32 H32
  refine wpList_nil ?_
  have e2 := H32.at_ 2 _ rfl
  have e3 := H32.at_ 3 _ rfl
  have df := H32.df
  have hT := O5.two
  refine then_normal ?_
  refine wp_ret ?_
  repeat (first | (with_reducible refine block_ret ?_) | (with_reducible refine then_ret ?_))
  refine bodyPost_ret (results_two Tryd.results72 _ _ _ e2 e3 hT.c2 Tryd.underlying30 rfl 24 size_mq rfl) df ?_
  exact onlied_of (vc := nilV) (vw := nilV) (vf := nilV) (by rw [ho] <;> rfl) hq.symm (MqL.nil (by rw [ho]; rfl) (by rw [ho]; rfl) (by rw [ho]; rfl)) hT.bel

set_option maxRecDepth 100000 in
set_option maxHeartbeats 1600000 in
theorem only_6 (m : Mq) (vc vw vf : Value) (w : World) (_hL : MqL w w.heap.size m vc vw vf) (_hF : MqFit m) (_hW : Wd w) (hk : m.kind = 6) :
    Calls Tryd.prog 72 #[.agg (mqCells m vc vw vf).toArray] w (Onlied m w) := by
  have k1 : ¬ m.kind = 1 := by rw [hk]; decide
  have k2 : ¬ m.kind = 2 := by rw [hk]; decide
  have k3 : ¬ m.kind = 3 := by rw [hk]; decide
  have ki : idKind m.kind = true := by rw [hk]; decide
  have b1 : (m.kind == 1) = false := kind_ne hk rfl
  have b2 : (m.kind == 2) = false := kind_ne hk rfl
  have b3 : (m.kind == 3) = false := kind_ne hk rfl
  have b4 : (m.kind == 4) = false := kind_ne hk rfl
  have b5 : (m.kind == 5) = false := kind_ne hk rfl
  have b6 : (m.kind == 6) = true := kind_eq hk
  have ho : onlyOf m = { mq0 m.kind with id := m.id } := by unfold onlyOf; rw [if_neg k1, if_neg k2, if_neg k3, if_pos ki]
  have hq : okOf m = inRB m.id 1 65535 := by unfold okOf; rw [if_neg k1, if_neg k2, if_neg k3, if_pos ki]
  go_enter Tryd.func72, Tryd.ntmps72
  refine Has.start 144 [(0, .agg (mqCells m vc vw vf).toArray)] rfl rfl ⟨rfl, trivial⟩ ?_
  intro a0 H0
  have O0 := Own.start w
  repeat (refine wp_seq ?_)
  refine wp_region_list ?_
  refine H0.box rfl rfl rfl rfl rfl ?_
  intro a1 w1 hb hs hC H1
  have O1 := O0.alloc hb hs hC
  clear hb hs hC
  refine H1.alloc rfl rfl rfl rfl _ zero_mq ?_
  intro a2 w2 hb hs hC H2
  have O2 := O1.alloc hb hs hC
  clear hb hs hC
  refine H2.move gz (.inr rfl) rfl rfl rfl ?_
  intro a3 H3
  refine nt ?_
  repeat (refine wp_seq ?_)
  refine wp_region_list ?_
  refine H3.field gz rfl rfl rfl rfl field_0 ?_
  intro a4 H4
  refine H4.load gz rfl rfl rfl rfl (load1_i _ _ _ _ ((O2.get 1 rfl).get 0 _ rfl)) ?_
  intro a5 H5
  refine H5.field gz rfl rfl rfl rfl field_0 ?_
  intro a6 H6
  refine H6.storeC O2 0 rfl gz rfl rfl rfl rfl rfl (fun u h f => store1_i _ _ _ u _ h f) ?_
  intro a7 w3 H7 O3
  refine nt ?_
  repeat (refine wp_seq ?_)
  refine wp_region_list ?_
  refine H7.field gz rfl rfl rfl rfl field_16 ?_
  intro a8 H8
  refine H8.load gz rfl rfl rfl rfl (load1_i _ _ _ _ ((O3.get 1 rfl).get 20 _ rfl)) ?_
  intro a9 H9
  refine H9.call gz rfl rfl rfl rfl (fun _ _ => by kernel_rfl) (quietC (packWithin m.id 1 65535 _)) ?_
  rintro a10 _ _ ⟨rfl, rfl⟩ H10
  refine H10.move gz (.inr rfl) rfl rfl rfl ?_
  intro a11 H11
  refine nt ?_
  repeat (refine wp_seq ?_)
  refine wp_region_list ?_
  refine H11.field gz rfl rfl rfl rfl field_0 ?_
  intro a12 H12
  refine H12.load gz rfl rfl rfl rfl (load1_i _ _ _ _ ((O3.get 1 rfl).get 0 _ rfl)) ?_
  intro a13 H13
  refine nt ?_
  have H14 := H13.keep (l' := [(1, .pointer (some ⟨w.heap.size, 0, none⟩)), (2, .pointer (some ⟨w1.heap.size, 0, none⟩)), (3, .bool false), (4, .bool (inRB m.id 1 65535)), (12, .int .i64 m.kind)]) ⟨rfl, rfl, rfl, rfl, rfl, trivial⟩
  repeat (refine wp_seq ?_)
  refine wp_block ?_
  repeat (refine wp_seq ?_)
  refine wp_region_list ?_
  refine H14.bin gz rfl rfl rfl rfl rfl (eql_iB _ _ _ b1 _ _ _) ?_
  intro a15 H15
  refine H15.move gz (.inr rfl) rfl rfl rfl ?_
  intro a16 H16
  refine nt ?_
  refine H16.condF rfl ?_
  repeat (refine wp_seq ?_)
  refine wp_region_list ?_
  refine H16.bin gz rfl rfl rfl rfl rfl (eql_iB _ _ _ b2 _ _ _) ?_
  intro a17 H17
  refine H17.move gz (.inr rfl) rfl rfl rfl ?_
  intro a18 H18
  refine nt ?_
  refine H18.condF rfl ?_
  repeat (refine wp_seq ?_)
  refine wp_region_list ?_
  refine H18.bin gz rfl rfl rfl rfl rfl (eql_iB _ _ _ b3 _ _ _) ?_
  intro a19 H19
  refine H19.move gz (.inr rfl) rfl rfl rfl ?_
  intro a20 H20
  refine nt ?_
  refine H20.condF rfl ?_
  repeat (refine wp_seq ?_)
  repeat (refine wp_seq ?_)
  refine wp_region_list ?_
  refine H20.bin gz rfl rfl rfl rfl rfl (eql_iB _ _ _ b4 _ _ _) ?_
  intro a21 H21
  refine H21.move gz (.inr rfl) rfl rfl rfl ?_
  intro a22 H22
  refine nt ?_
  refine H22.condF rfl ?_
  repeat (refine wp_seq ?_)
  refine wp_region_list ?_
  refine H22.bin gz rfl rfl rfl rfl rfl (eql_iB _ _ _ b5 _ _ _) ?_
  intro a23 H23
  refine H23.move gz (.inr rfl) rfl rfl rfl ?_
  intro a24 H24
  refine nt ?_
  refine H24.condF rfl ?_
  repeat (refine wp_seq ?_)
  refine wp_region_list ?_
  refine H24.bin gz rfl rfl rfl rfl rfl (eql_iB _ _ _ b6 _ _ _) ?_
  intro a25 H25
  refine H25.move gz (.inr rfl) rfl rfl rfl ?_
  intro a26 H26
  refine nt ?_
  refine H26.condT rfl ?_
  refine skip_wp ?_
  refine then_normal ?_
  refine H26.condT rfl ?_
  repeat (refine wp_seq ?_)
  refine wp_region_list ?_
  refine H26.field gz rfl rfl rfl rfl field_16 ?_
  intro a27 H27
  refine H27.load gz rfl rfl rfl rfl (load1_i _ _ _ _ ((O3.get 1 rfl).get 20 _ rfl)) ?_
  intro a28 H28
  refine H28.field gz rfl rfl rfl rfl field_16 ?_
  intro a29 H29
  refine H29.storeC O3 0 rfl gz rfl rfl rfl rfl rfl (fun u h f => store1_i _ _ _ u _ h f) ?_
  intro a30 w4 H30 O4
  refine nt ?_
  repeat (refine wp_seq ?_)
  refine wp_region_list ?_
  refine H30.loadS rfl rfl rfl rfl rfl (O4.get 0 rfl) Tryd.underlying30 rfl size_mq rfl ?_
  intro a31 H31
  refine H31.move gz (.inl rfl) rfl rfl rfl ?_
  intro a32 H32
  refine H32.storeS rfl rfl rfl rfl rfl (O4.get 0 rfl) size_mq rfl rfl rfl ?_
  intro a33 w5 H33 hg hs hC
  have O5 := O4.store 0 rfl hg hs hC
  clear hg hs hC
  refine H33.move gz (.inr rfl) rfl rfl rfl ?_
  intro a34 H34
  refine wpList_nil ?_
  have e2 := H34.at_ 2 _ rfl
  have e3 := H34.at_ 3 _ rfl
  have df := H34.df
  have hT := O5.two
  refine then_normal ?_
  refine wp_ret ?_
  repeat (first | (with_reducible refine block_ret ?_) | (with_reducible refine then_ret ?_))
  refine bodyPost_ret (results_two Tryd.results72 _ _ _ e2 e3 hT.c2 Tryd.underlying30 rfl 24 size_mq rfl) df ?_
  exact onlied_of (vc := nilV) (vw := nilV) (vf := nilV) (by rw [ho] <;> rfl) hq.symm (MqL.nil (by rw [ho]; rfl) (by rw [ho]; rfl) (by rw [ho]; rfl)) hT.bel

set_option maxRecDepth 100000 in
set_option maxHeartbeats 1600000 in
theorem only_7 (m : Mq) (vc vw vf : Value) (w : World) (_hL : MqL w w.heap.size m vc vw vf) (_hF : MqFit m) (_hW : Wd w) (hk : m.kind = 7) :
    Calls Tryd.prog 72 #[.agg (mqCells m vc vw vf).toArray] w (Onlied m w) := by
  have k1 : ¬ m.kind = 1 := by rw [hk]; decide
  have k2 : ¬ m.kind = 2 := by rw [hk]; decide
  have k3 : ¬ m.kind = 3 := by rw [hk]; decide
  have ki : idKind m.kind = true := by rw [hk]; decide
  have b1 : (m.kind == 1) = false := kind_ne hk rfl
  have b2 : (m.kind == 2) = false := kind_ne hk rfl
  have b3 : (m.kind == 3) = false := kind_ne hk rfl
  have b4 : (m.kind == 4) = false := kind_ne hk rfl
  have b5 : (m.kind == 5) = false := kind_ne hk rfl
  have b6 : (m.kind == 6) = false := kind_ne hk rfl
  have b7 : (m.kind == 7) = true := kind_eq hk
  have ho : onlyOf m = { mq0 m.kind with id := m.id } := by unfold onlyOf; rw [if_neg k1, if_neg k2, if_neg k3, if_pos ki]
  have hq : okOf m = inRB m.id 1 65535 := by unfold okOf; rw [if_neg k1, if_neg k2, if_neg k3, if_pos ki]
  go_enter Tryd.func72, Tryd.ntmps72
  refine Has.start 144 [(0, .agg (mqCells m vc vw vf).toArray)] rfl rfl ⟨rfl, trivial⟩ ?_
  intro a0 H0
  have O0 := Own.start w
  repeat (refine wp_seq ?_)
  refine wp_region_list ?_
  refine H0.box rfl rfl rfl rfl rfl ?_
  intro a1 w1 hb hs hC H1
  have O1 := O0.alloc hb hs hC
  clear hb hs hC
  refine H1.alloc rfl rfl rfl rfl _ zero_mq ?_
  intro a2 w2 hb hs hC H2
  have O2 := O1.alloc hb hs hC
  clear hb hs hC
  refine H2.move gz (.inr rfl) rfl rfl rfl ?_
  intro a3 H3
  refine nt ?_
  repeat (refine wp_seq ?_)
  refine wp_region_list ?_
  refine H3.field gz rfl rfl rfl rfl field_0 ?_
  intro a4 H4
  refine H4.load gz rfl rfl rfl rfl (load1_i _ _ _ _ ((O2.get 1 rfl).get 0 _ rfl)) ?_
  intro a5 H5
  refine H5.field gz rfl rfl rfl rfl field_0 ?_
  intro a6 H6
  refine H6.storeC O2 0 rfl gz rfl rfl rfl rfl rfl (fun u h f => store1_i _ _ _ u _ h f) ?_
  intro a7 w3 H7 O3
  refine nt ?_
  repeat (refine wp_seq ?_)
  refine wp_region_list ?_
  refine H7.field gz rfl rfl rfl rfl field_16 ?_
  intro a8 H8
  refine H8.load gz rfl rfl rfl rfl (load1_i _ _ _ _ ((O3.get 1 rfl).get 20 _ rfl)) ?_
  intro a9 H9
  refine H9.call gz rfl rfl rfl rfl (fun _ _ => by kernel_rfl) (quietC (packWithin m.id 1 65535 _)) ?_
  rintro a10 _ _ ⟨rfl, rfl⟩ H10
  refine H10.move gz (.inr rfl) rfl rfl rfl ?_
  intro a11 H11
  refine nt ?_
  repeat (refine wp_seq ?_)
  refine wp_region_list ?_
  refine H11.field gz rfl rfl rfl rfl field_0 ?_
  intro a12 H12
  refine H12.load gz rfl rfl rfl rfl (load1_i _ _ _ _ ((O3.get 1 rfl).get 0 _ rfl)) ?_
  intro a13 H13
  refine nt ?_
  have H14 := H13.keep (l' := [(1, .pointer (some ⟨w.heap.size, 0, none⟩)), (2, .pointer (some ⟨w1.heap.size, 0, none⟩)), (3, .bool false), (4, .bool (inRB m.id 1 65535)), (12, .int .i64 m.kind)]) ⟨rfl, rfl, rfl, rfl, rfl, trivial⟩
  repeat (refine wp_seq ?_)
  refine wp_block ?_
  repeat (refine wp_seq ?_)
  refine wp_region_list ?_
  refine H14.bin gz rfl rfl rfl rfl rfl (eql_iB _ _ _ b1 _ _ _) ?_
  intro a15 H15
  refine H15.move gz (.inr rfl) rfl rfl rfl ?_
  intro a16 H16
  refine nt ?_
  refine H16.condF rfl ?_
  repeat (refine wp_seq ?_)
  refine wp_region_list ?_
  refine H16.bin gz rfl rfl rfl rfl rfl (eql_iB _ _ _ b2 _ _ _) ?_
  intro a17 H17
  refine H17.move gz (.inr rfl) rfl rfl rfl ?_
  intro a18 H18
  refine nt ?_
  refine H18.condF rfl ?_
  repeat (refine wp_seq ?_)
  refine wp_region_list ?_
  refine H18.bin gz rfl rfl rfl rfl rfl (eql_iB _ _ _ b3 _ _ _) ?_
  intro a19 H19
  refine H19.move gz (.inr rfl) rfl rfl rfl ?_
  intro a20 H20
  refine nt ?_
  refine H20.condF rfl ?_
  repeat (refine wp_seq ?_)
  repeat (refine wp_seq ?_)
  refine wp_region_list ?_
  refine H20.bin gz rfl rfl rfl rfl rfl (eql_iB _ _ _ b4 _ _ _) ?_
  intro a21 H21
  refine H21.move gz (.inr rfl) rfl rfl rfl ?_
  intro a22 H22
  refine nt ?_
  refine H22.condF rfl ?_
  repeat (refine wp_seq ?_)
  refine wp_region_list ?_
  refine H22.bin gz rfl rfl rfl rfl rfl (eql_iB _ _ _ b5 _ _ _) ?_
  intro a23 H23
  refine H23.move gz (.inr rfl) rfl rfl rfl ?_
  intro a24 H24
  refine nt ?_
  refine H24.condF rfl ?_
  repeat (refine wp_seq ?_)
  refine wp_region_list ?_
  refine H24.bin gz rfl rfl rfl rfl rfl (eql_iB _ _ _ b6 _ _ _) ?_
  intro a25 H25
  refine H25.move gz (.inr rfl) rfl rfl rfl ?_
  intro a26 H26
  refine nt ?_
  refine H26.condF rfl ?_
  repeat (refine wp_seq ?_)
  refine wp_region_list ?_
  refine H26.bin gz rfl rfl rfl rfl rfl (eql_iB _ _ _ b7 _ _ _) ?_
  intro a27 H27
  refine H27.move gz (.inr rfl) rfl rfl rfl ?_
  intro a28 H28
  refine nt ?_
  refine H28.condT rfl ?_
  refine skip_wp ?_
  refine then_normal ?_
  refine H28.condT rfl ?_
  repeat (refine wp_seq ?_)
  refine wp_region_list ?_
  refine H28.field gz rfl rfl rfl rfl field_16 ?_
  intro a29 H29
  refine H29.load gz rfl rfl rfl rfl (load1_i _ _ _ _ ((O3.get 1 rfl).get 20 _ rfl)) ?_
  intro a30 H30
  refine H30.field gz rfl rfl rfl rfl field_16 ?_
  intro a31 H31
  refine H31.storeC O3 0 rfl gz rfl rfl rfl rfl rfl (fun u h f => store1_i _ _ _ u _ h f) ?_
  intro a32 w4 H32 O4
  refine nt ?_
  repeat (refine wp_seq ?_)
  refine wp_region_list ?_
  refine H32.loadS rfl rfl rfl rfl rfl (O4.get 0 rfl) Tryd.underlying30 rfl size_mq rfl ?_
  intro a33 H33
  refine H33.move gz (.inl rfl) rfl rfl rfl ?_
  intro a34 H34
  refine H34.storeS rfl rfl rfl rfl rfl (O4.get 0 rfl) size_mq rfl rfl rfl ?_
  intro a35 w5 H35 hg hs hC
  have O5 := O4.store 0 rfl hg hs hC
  clear hg hs hC
  refine H35.move gz (.inr rfl) rfl rfl rfl ?_
  intro a36 H36
  refine wpList_nil ?_
  have e2 := H36.at_ 2 _ rfl
  have e3 := H36.at_ 3 _ rfl
  have df := H36.df
  have hT := O5.two
  refine then_normal ?_
  refine wp_ret ?_
  repeat (first | (with_reducible refine block_ret ?_) | (with_reducible refine then_ret ?_))
  refine bodyPost_ret (results_two Tryd.results72 _ _ _ e2 e3 hT.c2 Tryd.underlying30 rfl 24 size_mq rfl) df ?_
  exact onlied_of (vc := nilV) (vw := nilV) (vf := nilV) (by rw [ho] <;> rfl) hq.symm (MqL.nil (by rw [ho]; rfl) (by rw [ho]; rfl) (by rw [ho]; rfl)) hT.bel

set_option maxRecDepth 100000 in
set_option maxHeartbeats 1600000 in
theorem only_8 (m : Mq) (vc vw vf : Value) (w : World) (hL : MqL w w.heap.size m vc vw vf) (hF : MqFit m) (hW : Wd w) (hk : m.kind = 8) :
    Calls Tryd.prog 72 #[.agg (mqCells m vc vw vf).toArray] w (Onlied m w) := by
  have k1 : ¬ m.kind = 1 := by rw [hk]; decide
  have k2 : ¬ m.kind = 2 := by rw [hk]; decide
  have k3 : ¬ m.kind = 3 := by rw [hk]; decide
  have ki : ¬ idKind m.kind = true := by rw [hk]; decide
  have k8 : m.kind = 8 := hk
  have b1 : (m.kind == 1) = false := kind_ne hk rfl
  have b2 : (m.kind == 2) = false := kind_ne hk rfl
  have b3 : (m.kind == 3) = false := kind_ne hk rfl
  have b4 : (m.kind == 4) = false := kind_ne hk rfl
  have b5 : (m.kind == 5) = false := kind_ne hk rfl
  have b6 : (m.kind == 6) = false := kind_ne hk rfl
  have b7 : (m.kind == 7) = false := kind_ne hk rfl
  have b11 : (m.kind == 11) = false := kind_ne hk rfl
  have b8 : (m.kind == 8) = true := kind_eq hk
  have ho : onlyOf m = { mq0 m.kind with id := m.id, wishes := m.wishes } := by unfold onlyOf; rw [if_neg k1, if_neg k2, if_neg k3, if_neg ki, if_pos k8]
  have hq : okOf m = (inRB m.id 1 65535 && wishesOk m.wishes) := by unfold okOf; rw [if_neg k1, if_neg k2, if_neg k3, if_neg ki, if_pos k8]
  obtain ⟨A1, c1, A2, c2, A3, c3, rfl, rfl, rfl, l1, l2, l3, k1', k2', k3', r1, r2, r3⟩ := id hL
  go_enter Tryd.func72, Tryd.ntmps72
  refine Has.start 144 [(0, .agg (mqCells m (.slice A1 m.codes.length c1) (.slice A2 m.wishes.length c2) (.slice A3 m.filters.length c3)).toArray)] rfl rfl ⟨rfl, trivial⟩ ?_
  intro a0 H0
  have O0 := Own.start w
  repeat (refine wp_seq ?_)
  refine wp_region_list ?_
  refine H0.box rfl rfl rfl rfl rfl ?_
  intro a1 w1 hb hs hC H1
  have O1 := O0.alloc hb hs hC
  clear hb hs hC
  refine H1.alloc rfl rfl rfl rfl _ zero_mq ?_
  intro a2 w2 hb hs hC H2
  have O2 := O1.alloc hb hs hC
  clear hb hs hC
  refine H2.move gz (.inr rfl) rfl rfl rfl ?_
  intro a3 H3
  refine nt ?_
  repeat (refine wp_seq ?_)
  refine wp_region_list ?_
  refine H3.field gz rfl rfl rfl rfl field_0 ?_
  intro a4 H4
  refine H4.load gz rfl rfl rfl rfl (load1_i _ _ _ _ ((O2.get 1 rfl).get 0 _ rfl)) ?_
  intro a5 H5
  refine H5.field gz rfl rfl rfl rfl field_0 ?_
  intro a6 H6
  refine H6.storeC O2 0 rfl gz rfl rfl rfl rfl rfl (fun u h f => store1_i _ _ _ u _ h f) ?_
  intro a7 w3 H7 O3
  refine nt ?_
  repeat (refine wp_seq ?_)
  refine wp_region_list ?_
  refine H7.field gz rfl rfl rfl rfl field_16 ?_
  intro a8 H8
  refine H8.load gz rfl rfl rfl rfl (load1_i _ _ _ _ ((O3.get 1 rfl).get 20 _ rfl)) ?_
  intro a9 H9
  refine H9.call gz rfl rfl rfl rfl (fun _ _ => by kernel_rfl) (quietC (packWithin m.id 1 65535 _)) ?_
  rintro a10 _ _ ⟨rfl, rfl⟩ H10
  refine H10.move gz (.inr rfl) rfl rfl rfl ?_
  intro a11 H11
  refine nt ?_
  repeat (refine wp_seq ?_)
  refine wp_region_list ?_
  refine H11.field gz rfl rfl rfl rfl field_0 ?_
  intro a12 H12
  refine H12.load gz rfl rfl rfl rfl (load1_i _ _ _ _ ((O3.get 1 rfl).get 0 _ rfl)) ?_
  intro a13 H13
  refine nt ?_
  have H14 := H13.keep (l' := [(1, .pointer (some ⟨w.heap.size, 0, none⟩)), (2, .pointer (some ⟨w1.heap.size, 0, none⟩)), (3, .bool false), (4, .bool (inRB m.id 1 65535)), (12, .int .i64 m.kind)]) ⟨rfl, rfl, rfl, rfl, rfl, trivial⟩
  repeat (refine wp_seq ?_)
  refine wp_block ?_
  repeat (refine wp_seq ?_)
  refine wp_region_list ?_
  refine H14.bin gz rfl rfl rfl rfl rfl (eql_iB _ _ _ b1 _ _ _) ?_
  intro a15 H15
  refine H15.move gz (.inr rfl) rfl rfl rfl ?_
  intro a16 H16
  refine nt ?_
  refine H16.condF rfl ?_
  repeat (refine wp_seq ?_)
  refine wp_region_list ?_
  refine H16.bin gz rfl rfl rfl rfl rfl (eql_iB _ _ _ b2 _ _ _) ?_
  intro a17 H17
  refine H17.move gz (.inr rfl) rfl rfl rfl ?_
  intro a18 H18
  refine nt ?_
  refine H18.condF rfl ?_
  repeat (refine wp_seq ?_)
  refine wp_region_list ?_
  refine H18.bin gz rfl rfl rfl rfl rfl (eql_iB _ _ _ b3 _ _ _) ?_
  intro a19 H19
  refine H19.move gz (.inr rfl) rfl rfl rfl ?_
  intro a20 H20
  refine nt ?_
  refine H20.condF rfl ?_
  repeat (refine wp_seq ?_)
  repeat (refine wp_seq ?_)
  refine wp_region_list ?_
  refine H20.bin gz rfl rfl rfl rfl rfl (eql_iB _ _ _ b4 _ _ _) ?_
  intro a21 H21
  refine H21.move gz (.inr rfl) rfl rfl rfl ?_
  intro a22 H22
  refine nt ?_
  refine H22.condF rfl ?_
  repeat (refine wp_seq ?_)
  refine wp_region_list ?_
  refine H22.bin gz rfl rfl rfl rfl rfl (eql_iB _ _ _ b5 _ _ _) ?_
  intro a23 H23
  refine H23.move gz (.inr rfl) rfl rfl rfl ?_
  intro a24 H24
  refine nt ?_
  refine H24.condF rfl ?_
  repeat (refine wp_seq ?_)
  refine wp_region_list ?_
  refine H24.bin gz rfl rfl rfl rfl rfl (eql_iB _ _ _ b6 _ _ _) ?_
  intro a25 H25
  refine H25.move gz (.inr rfl) rfl rfl rfl ?_
  intro a26 H26
  refine nt ?_
  refine H26.condF rfl ?_
  repeat (refine wp_seq ?_)
  refine wp_region_list ?_
  refine H26.bin gz rfl rfl rfl rfl rfl (eql_iB _ _ _ b7 _ _ _) ?_
  intro a27 H27
  refine H27.move gz (.inr rfl) rfl rfl rfl ?_
  intro a28 H28
  refine nt ?_
  refine H28.condF rfl ?_
  repeat (refine wp_seq ?_)
  refine wp_region_list ?_
  refine H28.bin gz rfl rfl rfl rfl rfl (eql_iB _ _ _ b11 _ _ _) ?_
  intro a29 H29
  refine H29.move gz (.inr rfl) rfl rfl rfl ?_
  intro a30 H30
  refine nt ?_
  refine H30.condF rfl ?_
  repeat (refine wp_seq ?_)
  refine wp_region_list ?_
  refine H30.bin gz rfl rfl rfl rfl rfl (eql_iB _ _ _ b8 _ _ _) ?_
  intro a31 H31
  refine H31.move gz (.inr rfl) rfl rfl rfl ?_
  intro a32 H32
  refine nt ?_
  refine H32.condT rfl ?_
  repeat (refine wp_seq ?_)
  refine region_copy2 (n := 144) (g1 := w.heap.size) (g2 := w1.heap.size) (B := w.heap.size) (W := w) (L1 := (mqCells m (.slice A1 m.codes.length c1) (.slice A2 m.wishes.length c2) (.slice A3 m.filters.length c3))) (L2 := ((mqCells (mq0 0) nilV nilV nilV).set 0 (.int .i64 m.kind))) (c := .bool (inRB m.id 1 65535)) (by kernel_rfl) H32.sz H32.df (H32.at_ 1 _ rfl) (H32.at_ 2 _ rfl) (H32.at_ 4 _ rfl) O3.two rfl (back_of (by kernel_rfl)) (edge_of rfl) (edge_of rfl) (edge_of rfl) (edge_of rfl) (edge_of rfl) (edge_of rfl) field_16 field_18 (fun w' hC => load1_i _ _ _ _ (hC.get 20 _ rfl)) (fun w' hC => load1_27 _ _ _ _ _ _ (hC.get 22 _ rfl)) (fun w' L hC hj => by obtain ⟨c1, c2⟩ := hC _ _ (List.getElem?_eq_getElem hj); exact store1_i _ _ _ _ _ c1 c2) (fun w' L hC hj => by obtain ⟨c1, c2⟩ := hC _ _ (List.getElem?_eq_getElem hj); exact store1_27 _ _ _ _ _ _ _ c1 c2) (by decide) (by simp) (by simp) ?_
  intro a33 w4 sz df e1 e2 e4 hT
  have H33 := Has.of (l := [(1, .pointer (some ⟨w.heap.size, 0, none⟩)), (2, .pointer (some ⟨w1.heap.size, 0, none⟩)), (4, .bool (inRB m.id 1 65535))]) sz df ⟨e1, e2, e4, trivial⟩
  have O4 := hT.own
  clear sz df e1 e2 e4 hT
  refine then_normal ?_
  repeat (refine wp_seq ?_)
  refine region_keepL (n := 144) (g1 := w.heap.size) (g2 := w1.heap.size) (B := w.heap.size) (W := w) (L1 := (mqCells m (.slice A1 m.codes.length c1) (.slice A2 m.wishes.length c2) (.slice A3 m.filters.length c3))) (L2 := ((((mqCells (mq0 0) nilV nilV nilV).set 0 (.int .i64 m.kind)).set 22 (.slice A2 m.wishes.length c2)).set 20 (.int .i64 m.id))) (c := inRB m.id 1 65535) (e := wishesOk m.wishes) (by kernel_rfl) H33.sz H33.df (H33.at_ 1 _ rfl) (H33.at_ 2 _ rfl) (H33.at_ 4 _ rfl) O4.two rfl (back_of (by kernel_rfl)) (edge_of rfl) (edge_of rfl) (edge_of rfl) (edge_of rfl) (edge_of rfl) (edge_of rfl) (edge_of rfl) (edge_of rfl) (edge_of rfl) (edge_of rfl) _ Tryd.underlying30 rfl 24 size_mq rfl rfl field_18 (fun w' hT => load1_27 _ _ _ _ _ _ (hT.c1.get 22 _ rfl)) (fun _ _ => by kernel_rfl) (fun w' hT => packWishes m.wishes _ rfl hF.wishes A2 c2 (by omega) w' (hW.below hT.bel) ((r2.below hT.bel).more hT.bel.size)) ?_
  intro a34 w5 df e2 e3 hT
  refine then_normal ?_
  refine wp_ret ?_
  repeat (first | (with_reducible refine block_ret ?_) | (with_reducible refine then_ret ?_))
  refine bodyPost_ret (results_two Tryd.results72 _ _ _ e2 e3 hT.c2 Tryd.underlying30 rfl 24 size_mq rfl) df ?_
  exact onlied_of (vc := nilV) (vw := (.slice A2 m.wishes.length c2)) (vf := nilV) (by rw [ho] <;> rfl) hq.symm ((hL.next hT.bel).onlyW (by rw [ho]; rfl) (by rw [ho]) (by rw [ho]; rfl)) hT.bel

set_option maxRecDepth 100000 in
set_option maxHeartbeats 1600000 in
theorem only_9 (m : Mq) (vc vw vf : Value) (w : World) (hL : MqL w w.heap.size m vc vw vf) (_hF : MqFit m) (_hW : Wd w) (hk : m.kind = 9) :
    Calls Tryd.prog 72 #[.agg (mqCells m vc vw vf).toArray] w (Onlied m w) := by
  have k1 : ¬ m.kind = 1 := by rw [hk]; decide
  have k2 : ¬ m.kind = 2 := by rw [hk]; decide
  have k3 : ¬ m.kind = 3 := by rw [hk]; decide
  have ki : ¬ idKind m.kind = true := by rw [hk]; decide
  have k8 : ¬ m.kind = 8 := by rw [hk]; decide
  have k9 : m.kind = 9 := hk
  have b1 : (m.kind == 1) = false := kind_ne hk rfl
  have b2 : (m.kind == 2) = false := kind_ne hk rfl
  have b3 : (m.kind == 3) = false := kind_ne hk rfl
  have b4 : (m.kind == 4) = false := kind_ne hk rfl
  have b5 : (m.kind == 5) = false := kind_ne hk rfl
  have b6 : (m.kind == 6) = false := kind_ne hk rfl
  have b7 : (m.kind == 7) = false := kind_ne hk rfl
  have b11 : (m.kind == 11) = false := kind_ne hk rfl
  have b8 : (m.kind == 8) = false := kind_ne hk rfl
  have b9 : (m.kind == 9) = true := kind_eq hk
  have ho : onlyOf m = { mq0 m.kind with id := m.id, codes := m.codes } := by unfold onlyOf; rw [if_neg k1, if_neg k2, if_neg k3, if_neg ki, if_neg k8, if_pos k9]
  have hq : okOf m = (inRB m.id 1 65535 && codesOk m.codes) := by unfold okOf; rw [if_neg k1, if_neg k2, if_neg k3, if_neg ki, if_neg k8, if_pos k9]
  obtain ⟨A1, c1, A2, c2, A3, c3, rfl, rfl, rfl, l1, l2, l3, k1', k2', k3', r1, r2, r3⟩ := id hL
  go_enter Tryd.func72, Tryd.ntmps72
  refine Has.start 144 [(0, .agg (mqCells m (.slice A1 m.codes.length c1) (.slice A2 m.wishes.length c2) (.slice A3 m.filters.length c3)).toArray)] rfl rfl ⟨rfl, trivial⟩ ?_
  intro a0 H0
  have O0 := Own.start w
  repeat (refine wp_seq ?_)
  refine wp_region_list ?_
  refine H0.box rfl rfl rfl rfl rfl ?_
  intro a1 w1 hb hs hC H1
  have O1 := O0.alloc hb hs hC
  clear hb hs hC
  refine H1.alloc rfl rfl rfl rfl _ zero_mq ?_
  intro a2 w2 hb hs hC H2
  have O2 := O1.alloc hb hs hC
  clear hb hs hC
  refine H2.move gz (.inr rfl) rfl rfl rfl ?_
  intro a3 H3
  refine nt ?_
  repeat (refine wp_seq ?_)
  refine wp_region_list ?_
  refine H3.field gz rfl rfl rfl rfl field_0 ?_
  intro a4 H4
  refine H4.load gz rfl rfl rfl rfl (load1_i _ _ _ _ ((O2.get 1 rfl).get 0 _ rfl)) ?_
  intro a5 H5
  refine H5.field gz rfl rfl rfl rfl field_0 ?_
  intro a6 H6
  refine H6.storeC O2 0 rfl gz rfl rfl rfl rfl rfl (fun u h f => store1_i _ _ _ u _ h f) ?_
  intro a7 w3 H7 O3
  refine nt ?_
  repeat (refine wp_seq ?_)
  refine wp_region_list ?_
  refine H7.field gz rfl rfl rfl rfl field_16 ?_
  intro a8 H8
  refine H8.load gz rfl rfl rfl rfl (load1_i _ _ _ _ ((O3.get 1 rfl).get 20 _ rfl)) ?_
  intro a9 H9
  refine H9.call gz rfl rfl rfl rfl (fun _ _ => by kernel_rfl) (quietC (packWithin m.id 1 65535 _)) ?_
  rintro a10 _ _ ⟨rfl, rfl⟩ H10
  refine H10.move gz (.inr rfl) rfl rfl rfl ?_
  intro a11 H11
  refine nt ?_
  repeat (refine wp_seq ?_)
  refine wp_region_list ?_
  refine H11.field gz rfl rfl rfl rfl field_0 ?_
  intro a12 H12
  refine H12.load gz rfl rfl rfl rfl (load1_i _ _ _ _ ((O3.get 1 rfl).get 0 _ rfl)) ?_
  intro a13 H13
  refine nt ?_
  have H14 := H13.keep (l' := [(1, .pointer (some ⟨w.heap.size, 0, none⟩)), (2, .pointer (some ⟨w1.heap.size, 0, none⟩)), (3, .bool false), (4, .bool (inRB m.id 1 65535)), (12, .int .i64 m.kind)]) ⟨rfl, rfl, rfl, rfl, rfl, trivial⟩
  repeat (refine wp_seq ?_)
  refine wp_block ?_
  repeat (refine wp_seq ?_)
  refine wp_region_list ?_
  refine H14.bin gz rfl rfl rfl rfl rfl (eql_iB _ _ _ b1 _ _ _) ?_
  intro a15 H15
  refine H15.move gz (.inr rfl) rfl rfl rfl ?_
  intro a16 H16
  refine nt ?_
  refine H16.condF rfl ?_
  repeat (refine wp_seq ?_)
  refine wp_region_list ?_
  refine H16.bin gz rfl rfl rfl rfl rfl (eql_iB _ _ _ b2 _ _ _) ?_
  intro a17 H17
  refine H17.move gz (.inr rfl) rfl rfl rfl ?_
  intro a18 H18
  refine nt ?_
  refine H18.condF rfl ?_
  repeat (refine wp_seq ?_)
  refine wp_region_list ?_
  refine H18.bin gz rfl rfl rfl rfl rfl (eql_iB _ _ _ b3 _ _ _) ?_
  intro a19 H19
  refine H19.move gz (.inr rfl) rfl rfl rfl ?_
  intro a20 H20
  refine nt ?_
  refine H20.condF rfl ?_
  repeat (refine wp_seq ?_)
  repeat (refine wp_seq ?_)
  refine wp_region_list ?_
  refine H20.bin gz rfl rfl rfl rfl rfl (eql_iB _ _ _ b4 _ _ _) ?_
  intro a21 H21
  refine H21.move gz (.inr rfl) rfl rfl rfl ?_
  intro a22 H22
  refine nt ?_
  refine H22.condF rfl ?_
  repeat (refine wp_seq ?_)
  refine wp_region_list ?_
  refine H22.bin gz rfl rfl rfl rfl rfl (eql_iB _ _ _ b5 _ _ _) ?_
  intro a23 H23
  refine H23.move gz (.inr rfl) rfl rfl rfl ?_
  intro a24 H24
  refine nt ?_
  refine H24.condF rfl ?_
  repeat (refine wp_seq ?_)
  refine wp_region_list ?_
  refine H24.bin gz rfl rfl rfl rfl rfl (eql_iB _ _ _ b6 _ _ _) ?_
  intro a25 H25
  refine H25.move gz (.inr rfl) rfl rfl rfl ?_
  intro a26 H26
  refine nt ?_
  refine H26.condF rfl ?_
  repeat (refine wp_seq ?_)
  refine wp_region_list ?_
  refine H26.bin gz rfl rfl rfl rfl rfl (eql_iB _ _ _ b7 _ _ _) ?_
  intro a27 H27
  refine H27.move gz (.inr rfl) rfl rfl rfl ?_
  intro a28 H28
  refine nt ?_
  refine H28.condF rfl ?_
  repeat (refine wp_seq ?_)
  refine wp_region_list ?_
  refine H28.bin gz rfl rfl rfl rfl rfl (eql_iB _ _ _ b11 _ _ _) ?_
  intro a29 H29
  refine H29.move gz (.inr rfl) rfl rfl rfl ?_
  intro a30 H30
  refine nt ?_
  refine H30.condF rfl ?_
  repeat (refine wp_seq ?_)
  refine wp_region_list ?_
  refine H30.bin gz rfl rfl rfl rfl rfl (eql_iB _ _ _ b8 _ _ _) ?_
  intro a31 H31
  refine H31.move gz (.inr rfl) rfl rfl rfl ?_
  intro a32 H32
  refine nt ?_
  refine H32.condF rfl ?_
  repeat (refine wp_seq ?_)
  refine wp_region_list ?_
  refine H32.bin gz rfl rfl rfl rfl rfl (eql_iB _ _ _ b9 _ _ _) ?_
  intro a33 H33
  refine H33.move gz (.inr rfl) rfl rfl rfl ?_
  intro a34 H34
  refine nt ?_
  refine H34.condT rfl ?_
  repeat (refine wp_seq ?_)
  refine region_copy2 (n := 144) (g1 := w.heap.size) (g2 := w1.heap.size) (B := w.heap.size) (W := w) (L1 := (mqCells m (.slice A1 m.codes.length c1) (.slice A2 m.wishes.length c2) (.slice A3 m.filters.length c3))) (L2 := ((mqCells (mq0 0) nilV nilV nilV).set 0 (.int .i64 m.kind))) (c := .bool (inRB m.id 1 65535)) (by kernel_rfl) H34.sz H34.df (H34.at_ 1 _ rfl) (H34.at_ 2 _ rfl) (H34.at_ 4 _ rfl) O3.two rfl (back_of (by kernel_rfl)) (edge_of rfl) (edge_of rfl) (edge_of rfl) (edge_of rfl) (edge_of rfl) (edge_of rfl) field_16 field_11 (fun w' hC => load1_i _ _ _ _ (hC.get 20 _ rfl)) (fun w' hC => load1_26 _ _ _ _ _ _ (hC.get 15 _ rfl)) (fun w' L hC hj => by obtain ⟨c1, c2⟩ := hC _ _ (List.getElem?_eq_getElem hj); exact store1_i _ _ _ _ _ c1 c2) (fun w' L hC hj => by obtain ⟨c1, c2⟩ := hC _ _ (List.getElem?_eq_getElem hj); exact store1_26 _ _ _ _ _ _ _ c1 c2) (by decide) (by simp) (by simp) ?_
  intro a35 w4 sz df e1 e2 e4 hT
  have H35 := Has.of (l := [(1, .pointer (some ⟨w.heap.size, 0, none⟩)), (2, .pointer (some ⟨w1.heap.size, 0, none⟩)), (4, .bool (inRB m.id 1 65535))]) sz df ⟨e1, e2, e4, trivial⟩
  have O4 := hT.own
  clear sz df e1 e2 e4 hT
  refine then_normal ?_
  repeat (refine wp_seq ?_)
  refine region_keepL (n := 144) (g1 := w.heap.size) (g2 := w1.heap.size) (B := w.heap.size) (W := w) (L1 := (mqCells m (.slice A1 m.codes.length c1) (.slice A2 m.wishes.length c2) (.slice A3 m.filters.length c3))) (L2 := ((((mqCells (mq0 0) nilV nilV nilV).set 0 (.int .i64 m.kind)).set 15 (.slice A1 m.codes.length c1)).set 20 (.int .i64 m.id))) (c := inRB m.id 1 65535) (e := codesOk m.codes) (by kernel_rfl) H35.sz H35.df (H35.at_ 1 _ rfl) (H35.at_ 2 _ rfl) (H35.at_ 4 _ rfl) O4.two rfl (back_of (by kernel_rfl)) (edge_of rfl) (edge_of rfl) (edge_of rfl) (edge_of rfl) (edge_of rfl) (edge_of rfl) (edge_of rfl) (edge_of rfl) (edge_of rfl) (edge_of rfl) _ Tryd.underlying30 rfl 24 size_mq rfl rfl field_11 (fun w' hT => load1_26 _ _ _ _ _ _ (hT.c1.get 15 _ rfl)) (fun _ _ => by kernel_rfl) (fun w' hT => (packCodes m.codes _ rfl A1 c1 (by omega) w' ((r1.below hT.bel).more hT.bel.size)).mono fun _ _ h => ⟨h.1, h.2 ▸ Below.refl _ _⟩) ?_
  intro a36 w5 df e2 e3 hT
  refine then_normal ?_
  refine wp_ret ?_
  repeat (first | (with_reducible refine block_ret ?_) | (with_reducible refine then_ret ?_))
  refine bodyPost_ret (results_two Tryd.results72 _ _ _ e2 e3 hT.c2 Tryd.underlying30 rfl 24 size_mq rfl) df ?_
  exact onlied_of (vc := (.slice A1 m.codes.length c1)) (vw := nilV) (vf := nilV) (by rw [ho] <;> rfl) hq.symm ((hL.next hT.bel).onlyC (by rw [ho]) (by rw [ho]; rfl) (by rw [ho]; rfl)) hT.bel

set_option maxRecDepth 100000 in
set_option maxHeartbeats 1600000 in
theorem only_10 (m : Mq) (vc vw vf : Value) (w : World) (hL : MqL w w.heap.size m vc vw vf) (hF : MqFit m) (hW : Wd w) (hk : m.kind = 10) :
    Calls Tryd.prog 72 #[.agg (mqCells m vc vw vf).toArray] w (Onlied m w) := by
  have k1 : ¬ m.kind = 1 := by rw [hk]; decide
  have k2 : ¬ m.kind = 2 := by rw [hk]; decide
  have k3 : ¬ m.kind = 3 := by rw [hk]; decide
  have ki : ¬ idKind m.kind = true := by rw [hk]; decide
  have k8 : ¬ m.kind = 8 := by rw [hk]; decide
  have k9 : ¬ m.kind = 9 := by rw [hk]; decide
  have k10 : m.kind = 10 := hk
  have b1 : (m.kind == 1) = false := kind_ne hk rfl
  have b2 : (m.kind == 2) = false := kind_ne hk rfl
  have b3 : (m.kind == 3) = false := kind_ne hk rfl
  have b4 : (m.kind == 4) = false := kind_ne hk rfl
  have b5 : (m.kind == 5) = false := kind_ne hk rfl
  have b6 : (m.kind == 6) = false := kind_ne hk rfl
  have b7 : (m.kind == 7) = false := kind_ne hk rfl
  have b11 : (m.kind == 11) = false := kind_ne hk rfl
  have b8 : (m.kind == 8) = false := kind_ne hk rfl
  have b9 : (m.kind == 9) = false := kind_ne hk rfl
  have b10 : (m.kind == 10) = true := kind_eq hk
  have ho : onlyOf m = { mq0 m.kind with id := m.id, filters := m.filters } := by unfold onlyOf; rw [if_neg k1, if_neg k2, if_neg k3, if_neg ki, if_neg k8, if_neg k9, if_pos k10]
  have hq : okOf m = (inRB m.id 1 65535 && filtersOk m.filters) := by unfold okOf; rw [if_neg k1, if_neg k2, if_neg k3, if_neg ki, if_neg k8, if_neg k9, if_pos k10]
  obtain ⟨A1, c1, A2, c2, A3, c3, rfl, rfl, rfl, l1, l2, l3, k1', k2', k3', r1, r2, r3⟩ := id hL
  go_enter Tryd.func72, Tryd.ntmps72
  refine Has.start 144 [(0, .agg (mqCells m (.slice A1 m.codes.length c1) (.slice A2 m.wishes.length c2) (.slice A3 m.filters.length c3)).toArray)] rfl rfl ⟨rfl, trivial⟩ ?_
  intro a0 H0
  have O0 := Own.start w
  repeat (refine wp_seq ?_)
  refine wp_region_list ?_
  refine H0.box rfl rfl rfl rfl rfl ?_
  intro a1 w1 hb hs hC H1
  have O1 := O0.alloc hb hs hC
  clear hb hs hC
  refine H1.alloc rfl rfl rfl rfl _ zero_mq ?_
  intro a2 w2 hb hs hC H2
  have O2 := O1.alloc hb hs hC
  clear hb hs hC
  refine H2.move gz (.inr rfl) rfl rfl rfl ?_
  intro a3 H3
  refine nt ?_
  repeat (refine wp_seq ?_)
  refine wp_region_list ?_
  refine H3.field gz rfl rfl rfl rfl field_0 ?_
  intro a4 H4
  refine H4.load gz rfl rfl rfl rfl (load1_i _ _ _ _ ((O2.get 1 rfl).get 0 _ rfl)) ?_
  intro a5 H5
  refine H5.field gz rfl rfl rfl rfl field_0 ?_
  intro a6 H6
  refine H6.storeC O2 0 rfl gz rfl rfl rfl rfl rfl (fun u h f => store1_i _ _ _ u _ h f) ?_
  intro a7 w3 H7 O3
  refine nt ?_
  repeat (refine wp_seq ?_)
  refine wp_region_list ?_
  refine H7.field gz rfl rfl rfl rfl field_16 ?_
  intro a8 H8
  refine H8.load gz rfl rfl rfl rfl (load1_i _ _ _ _ ((O3.get 1 rfl).get 20 _ rfl)) ?_
  intro a9 H9
  refine H9.call gz rfl rfl rfl rfl (fun _ _ => by kernel_rfl) (quietC (packWithin m.id 1 65535 _)) ?_
  rintro a10 _ _ ⟨rfl, rfl⟩ H10
  refine H10.move gz (.inr rfl) rfl rfl rfl ?_
  intro a11 H11
  refine nt ?_
  repeat (refine wp_seq ?_)
  refine wp_region_list ?_
  refine H11.field gz rfl rfl rfl rfl field_0 ?_
  intro a12 H12
  refine H12.load gz rfl rfl rfl rfl (load1_i _ _ _ _ ((O3.get 1 rfl).get 0 _ rfl)) ?_
  intro a13 H13
  refine nt ?_
  have H14 := H13.keep (l' := [(1, .pointer (some ⟨w.heap.size, 0, none⟩)), (2, .pointer (some ⟨w1.heap.size, 0, none⟩)), (3, .bool false), (4, .bool (inRB m.id 1 65535)), (12, .int .i64 m.kind)]) ⟨rfl, rfl, rfl, rfl, rfl, trivial⟩
  repeat (refine wp_seq ?_)
  refine wp_block ?_
  repeat (refine wp_seq ?_)
  refine wp_region_list ?_
  refine H14.bin gz rfl rfl rfl rfl rfl (eql_iB _ _ _ b1 _ _ _) ?_
  intro a15 H15
  refine H15.move gz (.inr rfl) rfl rfl rfl ?_
  intro a16 H16
  refine nt ?_
  refine H16.condF rfl ?_
  repeat (refine wp_seq ?_)
  refine wp_region_list ?_
  refine H16.bin gz rfl rfl rfl rfl rfl (eql_iB _ _ _ b2 _ _ _) ?_
  intro a17 H17
  refine H17.move gz (.inr rfl) rfl rfl rfl ?_
  intro a18 H18
  refine nt ?_
  refine H18.condF rfl ?_
  repeat (refine wp_seq ?_)
  refine wp_region_list ?_
  refine H18.bin gz rfl rfl rfl rfl rfl (eql_iB _ _ _ b3 _ _ _) ?_
  intro a19 H19
  refine H19.move gz (.inr rfl) rfl rfl rfl ?_
  intro a20 H20
  refine nt ?_
  refine H20.condF rfl ?_
  repeat (refine wp_seq ?_)
  repeat (refine wp_seq ?_)
  refine wp_region_list ?_
  refine H20.bin gz rfl rfl rfl rfl rfl (eql_iB _ _ _ b4 _ _ _) ?_
  intro a21 H21
  refine H21.move gz (.inr rfl) rfl rfl rfl ?_
  intro a22 H22
  refine nt ?_
  refine H22.condF rfl ?_
  repeat (refine wp_seq ?_)
  refine wp_region_list ?_
  refine H22.bin gz rfl rfl rfl rfl rfl (eql_iB _ _ _ b5 _ _ _) ?_
  intro a23 H23
  refine H23.move gz (.inr rfl) rfl rfl rfl ?_
  intro a24 H24
  refine nt ?_
  refine H24.condF rfl ?_
  repeat (refine wp_seq ?_)
  refine wp_region_list ?_
  refine H24.bin gz rfl rfl rfl rfl rfl (eql_iB _ _ _ b6 _ _ _) ?_
  intro a25 H25
  refine H25.move gz (.inr rfl) rfl rfl rfl ?_
  intro a26 H26
  refine nt ?_
  refine H26.condF rfl ?_
  repeat (refine wp_seq ?_)
  refine wp_region_list ?_
  refine H26.bin gz rfl rfl rfl rfl rfl (eql_iB _ _ _ b7 _ _ _) ?_
  intro a27 H27
  refine H27.move gz (.inr rfl) rfl rfl rfl ?_
  intro a28 H28
  refine nt ?_
  refine H28.condF rfl ?_
  repeat (refine wp_seq ?_)
  refine wp_region_list ?_
  refine H28.bin gz rfl rfl rfl rfl rfl (eql_iB _ _ _ b11 _ _ _) ?_
  intro a29 H29
  refine H29.move gz (.inr rfl) rfl rfl rfl ?_
  intro a30 H30
  refine nt ?_
  refine H30.condF rfl ?_
  repeat (refine wp_seq ?_)
  refine wp_region_list ?_
  refine H30.bin gz rfl rfl rfl rfl rfl (eql_iB _ _ _ b8 _ _ _) ?_
  intro a31 H31
  refine H31.move gz (.inr rfl) rfl rfl rfl ?_
  intro a32 H32
  refine nt ?_
  refine H32.condF rfl ?_
  repeat (refine wp_seq ?_)
  refine wp_region_list ?_
  refine H32.bin gz rfl rfl rfl rfl rfl (eql_iB _ _ _ b9 _ _ _) ?_
  intro a33 H33
  refine H33.move gz (.inr rfl) rfl rfl rfl ?_
  intro a34 H34
  refine nt ?_
  refine H34.condF rfl ?_
  repeat (refine wp_seq ?_)
  refine wp_region_list ?_
  refine H34.bin gz rfl rfl rfl rfl rfl (eql_iB _ _ _ b10 _ _ _) ?_
  intro a35 H35
  refine H35.move gz (.inr rfl) rfl rfl rfl ?_
  intro a36 H36
  refine nt ?_
  refine H36.condT rfl ?_
  repeat (refine wp_seq ?_)
  refine region_copy2 (n := 144) (g1 := w.heap.size) (g2 := w1.heap.size) (B := w.heap.size) (W := w) (L1 := (mqCells m (.slice A1 m.codes.length c1) (.slice A2 m.wishes.length c2) (.slice A3 m.filters.length c3))) (L2 := ((mqCells (mq0 0) nilV nilV nilV).set 0 (.int .i64 m.kind))) (c := .bool (inRB m.id 1 65535)) (by kernel_rfl) H36.sz H36.df (H36.at_ 1 _ rfl) (H36.at_ 2 _ rfl) (H36.at_ 4 _ rfl) O3.two rfl (back_of (by kernel_rfl)) (edge_of rfl) (edge_of rfl) (edge_of rfl) (edge_of rfl) (edge_of rfl) (edge_of rfl) field_16 field_19 (fun w' hC => load1_i _ _ _ _ (hC.get 20 _ rfl)) (fun w' hC => load1_28 _ _ _ _ _ _ (hC.get 23 _ rfl)) (fun w' L hC hj => by obtain ⟨c1, c2⟩ := hC _ _ (List.getElem?_eq_getElem hj); exact store1_i _ _ _ _ _ c1 c2) (fun w' L hC hj => by obtain ⟨c1, c2⟩ := hC _ _ (List.getElem?_eq_getElem hj); exact store1_28 _ _ _ _ _ _ _ c1 c2) (by decide) (by simp) (by simp) ?_
  intro a37 w4 sz df e1 e2 e4 hT
  have H37 := Has.of (l := [(1, .pointer (some ⟨w.heap.size, 0, none⟩)), (2, .pointer (some ⟨w1.heap.size, 0, none⟩)), (4, .bool (inRB m.id 1 65535))]) sz df ⟨e1, e2, e4, trivial⟩
  have O4 := hT.own
  clear sz df e1 e2 e4 hT
  refine then_normal ?_
  repeat (refine wp_seq ?_)
  refine region_keepL (n := 144) (g1 := w.heap.size) (g2 := w1.heap.size) (B := w.heap.size) (W := w) (L1 := (mqCells m (.slice A1 m.codes.length c1) (.slice A2 m.wishes.length c2) (.slice A3 m.filters.length c3))) (L2 := ((((mqCells (mq0 0) nilV nilV nilV).set 0 (.int .i64 m.kind)).set 23 (.slice A3 m.filters.length c3)).set 20 (.int .i64 m.id))) (c := inRB m.id 1 65535) (e := filtersOk m.filters) (by kernel_rfl) H37.sz H37.df (H37.at_ 1 _ rfl) (H37.at_ 2 _ rfl) (H37.at_ 4 _ rfl) O4.two rfl (back_of (by kernel_rfl)) (edge_of rfl) (edge_of rfl) (edge_of rfl) (edge_of rfl) (edge_of rfl) (edge_of rfl) (edge_of rfl) (edge_of rfl) (edge_of rfl) (edge_of rfl) _ Tryd.underlying30 rfl 24 size_mq rfl rfl field_19 (fun w' hT => load1_28 _ _ _ _ _ _ (hT.c1.get 23 _ rfl)) (fun _ _ => by kernel_rfl) (fun w' hT => packFilters m.filters _ rfl hF.filters A3 c3 (by omega) w' (hW.below hT.bel) ((r3.below hT.bel).more hT.bel.size)) ?_
  intro a38 w5 df e2 e3 hT
  refine then_normal ?_
  refine wp_ret ?_
  repeat (first | (with_reducible refine block_ret ?_) | (with_reducible refine then_ret ?_))
  refine bodyPost_ret (results_two Tryd.results72 _ _ _ e2 e3 hT.c2 Tryd.underlying30 rfl 24 size_mq rfl) df ?_
  exact onlied_of (vc := nilV) (vw := nilV) (vf := (.slice A3 m.filters.length c3)) (by rw [ho] <;> rfl) hq.symm ((hL.next hT.bel).onlyF (by rw [ho]; rfl) (by rw [ho]; rfl) (by rw [ho])) hT.bel

set_option maxRecDepth 100000 in
set_option maxHeartbeats 1600000 in
theorem only_11 (m : Mq) (vc vw vf : Value) (w : World) (_hL : MqL w w.heap.size m vc vw vf) (_hF : MqFit m) (_hW : Wd w) (hk : m.kind = 11) :
    Calls Tryd.prog 72 #[.agg (mqCells m vc vw vf).toArray] w (Onlied m w) := by
  have k1 : ¬ m.kind = 1 := by rw [hk]; decide
  have k2 : ¬ m.kind = 2 := by rw [hk]; decide
  have k3 : ¬ m.kind = 3 := by rw [hk]; decide
  have ki : idKind m.kind = true := by rw [hk]; decide
  have b1 : (m.kind == 1) = false := kind_ne hk rfl
  have b2 : (m.kind == 2) = false := kind_ne hk rfl
  have b3 : (m.kind == 3) = false := kind_ne hk rfl
  have b4 : (m.kind == 4) = false := kind_ne hk rfl
  have b5 : (m.kind == 5) = false := kind_ne hk rfl
  have b6 : (m.kind == 6) = false := kind_ne hk rfl
  have b7 : (m.kind == 7) = false := kind_ne hk rfl
  have b11 : (m.kind == 11) = true := kind_eq hk
  have ho : onlyOf m = { mq0 m.kind with id := m.id } := by unfold onlyOf; rw [if_neg k1, if_neg k2, if_neg k3, if_pos ki]
  have hq : okOf m = inRB m.id 1 65535 := by unfold okOf; rw [if_neg k1, if_neg k2, if_neg k3, if_pos ki]
  go_enter Tryd.func72, Tryd.ntmps72
  refine Has.start 144 [(0, .agg (mqCells m vc vw vf).toArray)] rfl rfl ⟨rfl, trivial⟩ ?_
  intro a0 H0
  have O0 := Own.start w
  repeat (refine wp_seq ?_)
  refine wp_region_list ?_
  refine H0.box rfl rfl rfl rfl rfl ?_
  intro a1 w1 hb hs hC H1
  have O1 := O0.alloc hb hs hC
  clear hb hs hC
  refine H1.alloc rfl rfl rfl rfl _ zero_mq ?_
  intro a2 w2 hb hs hC H2
  have O2 := O1.alloc hb hs hC
  clear hb hs hC
  refine H2.move gz (.inr rfl) rfl rfl rfl ?_
  intro a3 H3
  refine nt ?_
  repeat (refine wp_seq ?_)
  refine wp_region_list ?_
  refine H3.field gz rfl rfl rfl rfl field_0 ?_
  intro a4 H4
  refine H4.load gz rfl rfl rfl rfl (load1_i _ _ _ _ ((O2.get 1 rfl).get 0 _ rfl)) ?_
  intro a5 H5
  refine H5.field gz rfl rfl rfl rfl field_0 ?_
  intro a6 H6
  refine H6.storeC O2 0 rfl gz rfl rfl rfl rfl rfl (fun u h f => store1_i _ _ _ u _ h f) ?_
  intro a7 w3 H7 O3
  refine nt ?_
  repeat (refine wp_seq ?_)
  refine wp_region_list ?_
  refine H7.field gz rfl rfl rfl rfl field_16 ?_
  intro a8 H8
  refine H8.load gz rfl rfl rfl rfl (load1_i _ _ _ _ ((O3.get 1 rfl).get 20 _ rfl)) ?_
  intro a9 H9
  refine H9.call gz rfl rfl rfl rfl (fun _ _ => by kernel_rfl) (quietC (packWithin m.id 1 65535 _)) ?_
  rintro a10 _ _ ⟨rfl, rfl⟩ H10
  refine H10.move gz (.inr rfl) rfl rfl rfl ?_
  intro a11 H11
  refine nt ?_
  repeat (refine wp_seq ?_)
  refine wp_region_list ?_
  refine H11.field gz rfl rfl rfl rfl field_0 ?_
  intro a12 H12
  refine H12.load gz rfl rfl rfl rfl (load1_i _ _ _ _ ((O3.get 1 rfl).get 0 _ rfl)) ?_
  intro a13 H13
  refine nt ?_
  have H14 := H13.keep (l' := [(1, .pointer (some ⟨w.heap.size, 0, none⟩)), (2, .pointer (some ⟨w1.heap.size, 0, none⟩)), (3, .bool false), (4, .bool (inRB m.id 1 65535)), (12, .int .i64 m.kind)]) ⟨rfl, rfl, rfl, rfl, rfl, trivial⟩
  repeat (refine wp_seq ?_)
  refine wp_block ?_
  repeat (refine wp_seq ?_)
  refine wp_region_list ?_
  refine H14.bin gz rfl rfl rfl rfl rfl (eql_iB _ _ _ b1 _ _ _) ?_
  intro a15 H15
  refine H15.move gz (.inr rfl) rfl rfl rfl ?_
  intro a16 H16
  refine nt ?_
  refine H16.condF rfl ?_
  repeat (refine wp_seq ?_)
  refine wp_region_list ?_
  refine H16.bin gz rfl rfl rfl rfl rfl (eql_iB _ _ _ b2 _ _ _) ?_
  intro a17 H17
  refine H17.move gz (.inr rfl) rfl rfl rfl ?_
  intro a18 H18
  refine nt ?_
  refine H18.condF rfl ?_
  repeat (refine wp_seq ?_)
  refine wp_region_list ?_
  refine H18.bin gz rfl rfl rfl rfl rfl (eql_iB _ _ _ b3 _ _ _) ?_
  intro a19 H19
  refine H19.move gz (.inr rfl) rfl rfl rfl ?_
  intro a20 H20
  refine nt ?_
  refine H20.condF rfl ?_
  repeat (refine wp_seq ?_)
  repeat (refine wp_seq ?_)
  refine wp_region_list ?_
  refine H20.bin gz rfl rfl rfl rfl rfl (eql_iB _ _ _ b4 _ _ _) ?_
  intro a21 H21
  refine H21.move gz (.inr rfl) rfl rfl rfl ?_
  intro a22 H22
  refine nt ?_
  refine H22.condF rfl ?_
  repeat (refine wp_seq ?_)
  refine wp_region_list ?_
  refine H22.bin gz rfl rfl rfl rfl rfl (eql_iB _ _ _ b5 _ _ _) ?_
  intro a23 H23
  refine H23.move gz (.inr rfl) rfl rfl rfl ?_
  intro a24 H24
  refine nt ?_
  refine H24.condF rfl ?_
  repeat (refine wp_seq ?_)
  refine wp_region_list ?_
  refine H24.bin gz rfl rfl rfl rfl rfl (eql_iB _ _ _ b6 _ _ _) ?_
  intro a25 H25
  refine H25.move gz (.inr rfl) rfl rfl rfl ?_
  intro a26 H26
  refine nt ?_
  refine H26.condF rfl ?_
  repeat (refine wp_seq ?_)
  refine wp_region_list ?_
  refine H26.bin gz rfl rfl rfl rfl rfl (eql_iB _ _ _ b7 _ _ _) ?_
  intro a27 H27
  refine H27.move gz (.inr rfl) rfl rfl rfl ?_
  intro a28 H28
  refine nt ?_
  refine H28.condF rfl ?_
  repeat (refine wp_seq ?_)
  refine wp_region_list ?_
  refine H28.bin gz rfl rfl rfl rfl rfl (eql_iB _ _ _ b11 _ _ _) ?_
  intro a29 H29
  refine H29.move gz (.inr rfl) rfl rfl rfl ?_
  intro a30 H30
  refine nt ?_
  refine H30.condT rfl ?_
  repeat (refine wp_seq ?_)
  refine wp_region_list ?_
  refine H30.field gz rfl rfl rfl rfl field_16 ?_
  intro a31 H31
  refine H31.load gz rfl rfl rfl rfl (load1_i _ _ _ _ ((O3.get 1 rfl).get 20 _ rfl)) ?_
  intro a32 H32
  refine H32.field gz rfl rfl rfl rfl field_16 ?_
  intro a33 H33
  refine H33.storeC O3 0 rfl gz rfl rfl rfl rfl rfl (fun u h f => store1_i _ _ _ u _ h f) ?_
  intro a34 w4 H34 O4
  refine nt ?_
  repeat (refine wp_seq ?_)
  refine wp_region_list ?_
  refine H34.loadS rfl rfl rfl rfl rfl (O4.get 0 rfl) Tryd.underlying30 rfl size_mq rfl ?_
  intro a35 H35
  refine H35.move gz (.inl rfl) rfl rfl rfl ?_
  intro a36 H36
  refine H36.storeS rfl rfl rfl rfl rfl (O4.get 0 rfl) size_mq rfl rfl rfl ?_
  intro a37 w5 H37 hg hs hC
  have O5 := O4.store 0 rfl hg hs hC
  clear hg hs hC
  refine H37.move gz (.inr rfl) rfl rfl rfl ?_
  intro a38 H38
  refine wpList_nil ?_
  have e2 := H38.at_ 2 _ rfl
  have e3 := H38.at_ 3 _ rfl
  have df := H38.df
  have hT := O5.two
  refine then_normal ?_
  refine wp_ret ?_
  repeat (first | (with_reducible refine block_ret ?_) | (with_reducible refine then_ret ?_))
  refine bodyPost_ret (results_two Tryd.results72 _ _ _ e2 e3 hT.c2 Tryd.underlying30 rfl 24 size_mq rfl) df ?_
  exact onlied_of (vc := nilV) (vw := nilV) (vf := nilV) (by rw [ho] <;> rfl) hq.symm (MqL.nil (by rw [ho]; rfl) (by rw [ho]; rfl) (by rw [ho]; rfl)) hT.bel

set_option maxRecDepth 100000 in
set_option maxHeartbeats 1600000 in
theorem only_12 (m : Mq) (vc vw vf : Value) (w : World) (_hL : MqL w w.heap.size m vc vw vf) (_hF : MqFit m) (_hW : Wd w) (hk : m.kind = 12) :
    Calls Tryd.prog 72 #[.agg (mqCells m vc vw vf).toArray] w (Onlied m w) := by
  have k1 : ¬ m.kind = 1 := by rw [hk]; decide
  have k2 : ¬ m.kind = 2 := by rw [hk]; decide
  have k3 : ¬ m.kind = 3 := by rw [hk]; decide
  have ki : ¬ idKind m.kind = true := by rw [hk]; decide
  have k8 : ¬ m.kind = 8 := by rw [hk]; decide
  have k9 : ¬ m.kind = 9 := by rw [hk]; decide
  have k10 : ¬ m.kind = 10 := by rw [hk]; decide
  have b1 : (m.kind == 1) = false := kind_ne hk rfl
  have b2 : (m.kind == 2) = false := kind_ne hk rfl
  have b3 : (m.kind == 3) = false := kind_ne hk rfl
  have b4 : (m.kind == 4) = false := kind_ne hk rfl
  have b5 : (m.kind == 5) = false := kind_ne hk rfl
  have b6 : (m.kind == 6) = false := kind_ne hk rfl
  have b7 : (m.kind == 7) = false := kind_ne hk rfl
  have b11 : (m.kind == 11) = false := kind_ne hk rfl
  have b8 : (m.kind == 8) = false := kind_ne hk rfl
  have b9 : (m.kind == 9) = false := kind_ne hk rfl
  have b10 : (m.kind == 10) = false := kind_ne hk rfl
  have b12 : (m.kind == 12) = true := kind_eq hk
  have ho : onlyOf m = mq0 m.kind := by unfold onlyOf; rw [if_neg k1, if_neg k2, if_neg k3, if_neg ki, if_neg k8, if_neg k9, if_neg k10]
  have hq : okOf m = true := by unfold okOf; rw [if_neg k1, if_neg k2, if_neg k3, if_neg ki, if_neg k8, if_neg k9, if_neg k10, hk]; rfl
  go_enter Tryd.func72, Tryd.ntmps72
  refine Has.start 144 [(0, .agg (mqCells m vc vw vf).toArray)] rfl rfl ⟨rfl, trivial⟩ ?_
  intro a0 H0
  have O0 := Own.start w
  repeat (refine wp_seq ?_)
  refine wp_region_list ?_
  refine H0.box rfl rfl rfl rfl rfl ?_
  intro a1 w1 hb hs hC H1
  have O1 := O0.alloc hb hs hC
  clear hb hs hC
  refine H1.alloc rfl rfl rfl rfl _ zero_mq ?_
  intro a2 w2 hb hs hC H2
  have O2 := O1.alloc hb hs hC
  clear hb hs hC
  refine H2.move gz (.inr rfl) rfl rfl rfl ?_
  intro a3 H3
  refine nt ?_
  repeat (refine wp_seq ?_)
  refine wp_region_list ?_
  refine H3.field gz rfl rfl rfl rfl field_0 ?_
  intro a4 H4
  refine H4.load gz rfl rfl rfl rfl (load1_i _ _ _ _ ((O2.get 1 rfl).get 0 _ rfl)) ?_
  intro a5 H5
  refine H5.field gz rfl rfl rfl rfl field_0 ?_
  intro a6 H6
  refine H6.storeC O2 0 rfl gz rfl rfl rfl rfl rfl (fun u h f => store1_i _ _ _ u _ h f) ?_
  intro a7 w3 H7 O3
  refine nt ?_
  repeat (refine wp_seq ?_)
  refine wp_region_list ?_
  refine H7.field gz rfl rfl rfl rfl field_16 ?_
  intro a8 H8
  refine H8.load gz rfl rfl rfl rfl (load1_i _ _ _ _ ((O3.get 1 rfl).get 20 _ rfl)) ?_
  intro a9 H9
  refine H9.call gz rfl rfl rfl rfl (fun _ _ => by kernel_rfl) (quietC (packWithin m.id 1 65535 _)) ?_
  rintro a10 _ _ ⟨rfl, rfl⟩ H10
  refine H10.move gz (.inr rfl) rfl rfl rfl ?_
  intro a11 H11
  refine nt ?_
  repeat (refine wp_seq ?_)
  refine wp_region_list ?_
  refine H11.field gz rfl rfl rfl rfl field_0 ?_
  intro a12 H12
  refine H12.load gz rfl rfl rfl rfl (load1_i _ _ _ _ ((O3.get 1 rfl).get 0 _ rfl)) ?_
  intro a13 H13
  refine nt ?_
  have H14 := H13.keep (l' := [(1, .pointer (some ⟨w.heap.size, 0, none⟩)), (2, .pointer (some ⟨w1.heap.size, 0, none⟩)), (3, .bool false), (4, .bool (inRB m.id 1 65535)), (12, .int .i64 m.kind)]) ⟨rfl, rfl, rfl, rfl, rfl, trivial⟩
  repeat (refine wp_seq ?_)
  refine wp_block ?_
  repeat (refine wp_seq ?_)
  refine wp_region_list ?_
  refine H14.bin gz rfl rfl rfl rfl rfl (eql_iB _ _ _ b1 _ _ _) ?_
  intro a15 H15
  refine H15.move gz (.inr rfl) rfl rfl rfl ?_
  intro a16 H16
  refine nt ?_
  refine H16.condF rfl ?_
  repeat (refine wp_seq ?_)
  refine wp_region_list ?_
  refine H16.bin gz rfl rfl rfl rfl rfl (eql_iB _ _ _ b2 _ _ _) ?_
  intro a17 H17
  refine H17.move gz (.inr rfl) rfl rfl rfl ?_
  intro a18 H18
  refine nt ?_
  refine H18.condF rfl ?_
  repeat (refine wp_seq ?_)
  refine wp_region_list ?_
  refine H18.bin gz rfl rfl rfl rfl rfl (eql_iB _ _ _ b3 _ _ _) ?_
  intro a19 H19
  refine H19.move gz (.inr rfl) rfl rfl rfl ?_
  intro a20 H20
  refine nt ?_
  refine H20.condF rfl ?_
  repeat (refine wp_seq ?_)
  repeat (refine wp_seq ?_)
  refine wp_region_list ?_
  refine H20.bin gz rfl rfl rfl rfl rfl (eql_iB _ _ _ b4 _ _ _) ?_
  intro a21 H21
  refine H21.move gz (.inr rfl) rfl rfl rfl ?_
  intro a22 H22
  refine nt ?_
  refine H22.condF rfl ?_
  repeat (refine wp_seq ?_)
  refine wp_region_list ?_
  refine H22.bin gz rfl rfl rfl rfl rfl (eql_iB _ _ _ b5 _ _ _) ?_
  intro a23 H23
  refine H23.move gz (.inr rfl) rfl rfl rfl ?_
  intro a24 H24
  refine nt ?_
  refine H24.condF rfl ?_
  repeat (refine wp_seq ?_)
  refine wp_region_list ?_
  refine H24.bin gz rfl rfl rfl rfl rfl (eql_iB _ _ _ b6 _ _ _) ?_
  intro a25 H25
  refine H25.move gz (.inr rfl) rfl rfl rfl ?_
  intro a26 H26
  refine nt ?_
  refine H26.condF rfl ?_
  repeat (refine wp_seq ?_)
  refine wp_region_list ?_
  refine H26.bin gz rfl rfl rfl rfl rfl (eql_iB _ _ _ b7 _ _ _) ?_
  intro a27 H27
  refine H27.move gz (.inr rfl) rfl rfl rfl ?_
  intro a28 H28
  refine nt ?_
  refine H28.condF rfl ?_
  repeat (refine wp_seq ?_)
  refine wp_region_list ?_
  refine H28.bin gz rfl rfl rfl rfl rfl (eql_iB _ _ _ b11 _ _ _) ?_
  intro a29 H29
  refine H29.move gz (.inr rfl) rfl rfl rfl ?_
  intro a30 H30
  refine nt ?_
  refine H30.condF rfl ?_
  repeat (refine wp_seq ?_)
  refine wp_region_list ?_
  refine H30.bin gz rfl rfl rfl rfl rfl (eql_iB _ _ _ b8 _ _ _) ?_
  intro a31 H31
  refine H31.move gz (.inr rfl) rfl rfl rfl ?_
  intro a32 H32
  refine nt ?_
  refine H32.condF rfl ?_
  repeat (refine wp_seq ?_)
  refine wp_region_list ?_
  refine H32.bin gz rfl rfl rfl rfl rfl (eql_iB _ _ _ b9 _ _ _) ?_
  intro a33 H33
  refine H33.move gz (.inr rfl) rfl rfl rfl ?_
  intro a34 H34
  refine nt ?_
  refine H34.condF rfl ?_
  repeat (refine wp_seq ?_)
  refine wp_region_list ?_
  refine H34.bin gz rfl rfl rfl rfl rfl (eql_iB _ _ _ b10 _ _ _) ?_
  intro a35 H35
  refine H35.move gz (.inr rfl) rfl rfl rfl ?_
  intro a36 H36
  refine nt ?_
  refine H36.condF rfl ?_
  repeat (refine wp_seq ?_)
  repeat (refine wp_seq ?_)
  refine wp_region_list ?_
  refine H36.bin gz rfl rfl rfl rfl rfl (eql_iB _ _ _ b12 _ _ _) ?_
  intro a37 H37
  refine H37.move gz (.inr rfl) rfl rfl rfl ?_
  intro a38 H38
  refine nt ?_
  refine H38.condT rfl ?_
  refine skip_wp ?_
  refine then_normal ?_
  refine H38.condT rfl ?_
  repeat (refine wp_seq ?_)
  refine wp_region_list ?_
  refine H38.loadS rfl rfl rfl rfl rfl (O3.get 0 rfl) Tryd.underlying30 rfl size_mq rfl ?_
  intro a39 H39
  refine H39.storeS rfl rfl rfl rfl rfl (O3.get 0 rfl) size_mq rfl rfl rfl ?_
  intro a40 w4 H40 hg hs hC
  have O4 := O3.store 0 rfl hg hs hC
  clear hg hs hC
  refine H40.move gz (.inr rfl) rfl rfl rfl ?_
  intro a41 H41
  refine wpList_nil ?_
  have e2 := H41.at_ 2 _ rfl
  have e3 := H41.at_ 3 _ rfl
  have df := H41.df
  have hT := O4.two
  refine then_normal ?_
  refine wp_ret ?_
  repeat (first | (with_reducible refine block_ret ?_) | (with_reducible refine then_ret ?_))
  refine bodyPost_ret (results_two Tryd.results72 _ _ _ e2 e3 hT.c2 Tryd.underlying30 rfl 24 size_mq rfl) df ?_
  exact onlied_of (vc := nilV) (vw := nilV) (vf := nilV) (by rw [ho] <;> rfl) hq.symm (MqL.nil (by rw [ho]; rfl) (by rw [ho]; rfl) (by rw [ho]; rfl)) hT.bel

set_option maxRecDepth 100000 in
set_option maxHeartbeats 1600000 in
theorem only_13 (m : Mq) (vc vw vf : Value) (w : World) (_hL : MqL w w.heap.size m vc vw vf) (_hF : MqFit m) (_hW : Wd w) (hk : m.kind = 13) :
    Calls Tryd.prog 72 #[.agg (mqCells m vc vw vf).toArray] w (Onlied m w) := by
  have k1 : ¬ m.kind = 1 := by rw [hk]; decide
  have k2 : ¬ m.kind = 2 := by rw [hk]; decide
  have k3 : ¬ m.kind = 3 := by rw [hk]; decide
  have ki : ¬ idKind m.kind = true := by rw [hk]; decide
  have k8 : ¬ m.kind = 8 := by rw [hk]; decide
  have k9 : ¬ m.kind = 9 := by rw [hk]; decide
  have k10 : ¬ m.kind = 10 := by rw [hk]; decide
  have b1 : (m.kind == 1) = false := kind_ne hk rfl
  have b2 : (m.kind == 2) = false := kind_ne hk rfl
  have b3 : (m.kind == 3) = false := kind_ne hk rfl
  have b4 : (m.kind == 4) = false := kind_ne hk rfl
  have b5 : (m.kind == 5) = false := kind_ne hk rfl
  have b6 : (m.kind == 6) = false := kind_ne hk rfl
  have b7 : (m.kind == 7) = false := kind_ne hk rfl
  have b11 : (m.kind == 11) = false := kind_ne hk rfl
  have b8 : (m.kind == 8) = false := kind_ne hk rfl
  have b9 : (m.kind == 9) = false := kind_ne hk rfl
  have b10 : (m.kind == 10) = false := kind_ne hk rfl
  have b12 : (m.kind == 12) = false := kind_ne hk rfl
  have b13 : (m.kind == 13) = true := kind_eq hk
  have ho : onlyOf m = mq0 m.kind := by unfold onlyOf; rw [if_neg k1, if_neg k2, if_neg k3, if_neg ki, if_neg k8, if_neg k9, if_neg k10]
  have hq : okOf m = true := by unfold okOf; rw [if_neg k1, if_neg k2, if_neg k3, if_neg ki, if_neg k8, if_neg k9, if_neg k10, hk]; rfl
  go_enter Tryd.func72, Tryd.ntmps72
  refine Has.start 144 [(0, .agg (mqCells m vc vw vf).toArray)] rfl rfl ⟨rfl, trivial⟩ ?_
  intro a0 H0
  have O0 := Own.start w
  repeat (refine wp_seq ?_)
  refine wp_region_list ?_
  refine H0.box rfl rfl rfl rfl rfl ?_
  intro a1 w1 hb hs hC H1
  have O1 := O0.alloc hb hs hC
  clear hb hs hC
  refine H1.alloc rfl rfl rfl rfl _ zero_mq ?_
  intro a2 w2 hb hs hC H2
  have O2 := O1.alloc hb hs hC
  clear hb hs hC
  refine H2.move gz (.inr rfl) rfl rfl rfl ?_
  intro a3 H3
  refine nt ?_
  repeat (refine wp_seq ?_)
  refine wp_region_list ?_
  refine H3.field gz rfl rfl rfl rfl field_0 ?_
  intro a4 H4
  refine H4.load gz rfl rfl rfl rfl (load1_i _ _ _ _ ((O2.get 1 rfl).get 0 _ rfl)) ?_
  intro a5 H5
  refine H5.field gz rfl rfl rfl rfl field_0 ?_
  intro a6 H6
  refine H6.storeC O2 0 rfl gz rfl rfl rfl rfl rfl (fun u h f => store1_i _ _ _ u _ h f) ?_
  intro a7 w3 H7 O3
  refine nt ?_
  repeat (refine wp_seq ?_)
  refine wp_region_list ?_
  refine H7.field gz rfl rfl rfl rfl field_16 ?_
  intro a8 H8
  refine H8.load gz rfl rfl rfl rfl (load1_i _ _ _ _ ((O3.get 1 rfl).get 20 _ rfl)) ?_
  intro a9 H9
  refine H9.call gz rfl rfl rfl rfl (fun _ _ => by kernel_rfl) (quietC (packWithin m.id 1 65535 _)) ?_
  rintro a10 _ _ ⟨rfl, rfl⟩ H10
  refine H10.move gz (.inr rfl) rfl rfl rfl ?_
  intro a11 H11
  refine nt ?_
  repeat (refine wp_seq ?_)
  refine wp_region_list ?_
  refine H11.field gz rfl rfl rfl rfl field_0 ?_
  intro a12 H12
  refine H12.load gz rfl rfl rfl rfl (load1_i _ _ _ _ ((O3.get 1 rfl).get 0 _ rfl)) ?_
  intro a13 H13
  refine nt ?_
  have H14 := H13.keep (l' := [(1, .pointer (some ⟨w.heap.size, 0, none⟩)), (2, .pointer (some ⟨w1.heap.size, 0, none⟩)), (3, .bool false), (4, .bool (inRB m.id 1 65535)), (12, .int .i64 m.kind)]) ⟨rfl, rfl, rfl, rfl, rfl, trivial⟩
  repeat (refine wp_seq ?_)
  refine wp_block ?_
  repeat (refine wp_seq ?_)
  refine wp_region_list ?_
  refine H14.bin gz rfl rfl rfl rfl rfl (eql_iB _ _ _ b1 _ _ _) ?_
  intro a15 H15
  refine H15.move gz (.inr rfl) rfl rfl rfl ?_
  intro a16 H16
  refine nt ?_
  refine H16.condF rfl ?_
  repeat (refine wp_seq ?_)
  refine wp_region_list ?_
  refine H16.bin gz rfl rfl rfl rfl rfl (eql_iB _ _ _ b2 _ _ _) ?_
  intro a17 H17
  refine H17.move gz (.inr rfl) rfl rfl rfl ?_
  intro a18 H18
  refine nt ?_
  refine H18.condF rfl ?_
  repeat (refine wp_seq ?_)
  refine wp_region_list ?_
  refine H18.bin gz rfl rfl rfl rfl rfl (eql_iB _ _ _ b3 _ _ _) ?_
  intro a19 H19
  refine H19.move gz (.inr rfl) rfl rfl rfl ?_
  intro a20 H20
  refine nt ?_
  refine H20.condF rfl ?_
  repeat (refine wp_seq ?_)
  repeat (refine wp_seq ?_)
  refine wp_region_list ?_
  refine H20.bin gz rfl rfl rfl rfl rfl (eql_iB _ _ _ b4 _ _ _) ?_
  intro a21 H21
  refine H21.move gz (.inr rfl) rfl rfl rfl ?_
  intro a22 H22
  refine nt ?_
  refine H22.condF rfl ?_
  repeat (refine wp_seq ?_)
  refine wp_region_list ?_
  refine H22.bin gz rfl rfl rfl rfl rfl (eql_iB _ _ _ b5 _ _ _) ?_
  intro a23 H23
  refine H23.move gz (.inr rfl) rfl rfl rfl ?_
  intro a24 H24
  refine nt ?_
  refine H24.condF rfl ?_
  repeat (refine wp_seq ?_)
  refine wp_region_list ?_
  refine H24.bin gz rfl rfl rfl rfl rfl (eql_iB _ _ _ b6 _ _ _) ?_
  intro a25 H25
  refine H25.move gz (.inr rfl) rfl rfl rfl ?_
  intro a26 H26
  refine nt ?_
  refine H26.condF rfl ?_
  repeat (refine wp_seq ?_)
  refine wp_region_list ?_
  refine H26.bin gz rfl rfl rfl rfl rfl (eql_iB _ _ _ b7 _ _ _) ?_
  intro a27 H27
  refine H27.move gz (.inr rfl) rfl rfl rfl ?_
  intro a28 H28
  refine nt ?_
  refine H28.condF rfl ?_
  repeat (refine wp_seq ?_)
  refine wp_region_list ?_
  refine H28.bin gz rfl rfl rfl rfl rfl (eql_iB _ _ _ b11 _ _ _) ?_
  intro a29 H29
  refine H29.move gz (.inr rfl) rfl rfl rfl ?_
  intro a30 H30
  refine nt ?_
  refine H30.condF rfl ?_
  repeat (refine wp_seq ?_)
  refine wp_region_list ?_
  refine H30.bin gz rfl rfl rfl rfl rfl (eql_iB _ _ _ b8 _ _ _) ?_
  intro a31 H31
  refine H31.move gz (.inr rfl) rfl rfl rfl ?_
  intro a32 H32
  refine nt ?_
  refine H32.condF rfl ?_
  repeat (refine wp_seq ?_)
  refine wp_region_list ?_
  refine H32.bin gz rfl rfl rfl rfl rfl (eql_iB _ _ _ b9 _ _ _) ?_
  intro a33 H33
  refine H33.move gz (.inr rfl) rfl rfl rfl ?_
  intro a34 H34
  refine nt ?_
  refine H34.condF rfl ?_
  repeat (refine wp_seq ?_)
  refine wp_region_list ?_
  refine H34.bin gz rfl rfl rfl rfl rfl (eql_iB _ _ _ b10 _ _ _) ?_
  intro a35 H35
  refine H35.move gz (.inr rfl) rfl rfl rfl ?_
  intro a36 H36
  refine nt ?_
  refine H36.condF rfl ?_
  repeat (refine wp_seq ?_)
  repeat (refine wp_seq ?_)
  refine wp_region_list ?_
  refine H36.bin gz rfl rfl rfl rfl rfl (eql_iB _ _ _ b12 _ _ _) ?_
  intro a37 H37
  refine H37.move gz (.inr rfl) rfl rfl rfl ?_
  intro a38 H38
  refine nt ?_
  refine H38.condF rfl ?_
  repeat (refine wp_seq ?_)
  refine wp_region_list ?_
  refine H38.bin gz rfl rfl rfl rfl rfl (eql_iB _ _ _ b13 _ _ _) ?_
  intro a39 H39
  refine H39.move gz (.inr rfl) rfl rfl rfl ?_
  intro a40 H40
  refine nt ?_
  refine H40.condT rfl ?_
  refine skip_wp ?_
  refine then_normal ?_
  refine H40.condT rfl ?_
  repeat (refine wp_seq ?_)
  refine wp_region_list ?_
  refine H40.loadS rfl rfl rfl rfl rfl (O3.get 0 rfl) Tryd.underlying30 rfl size_mq rfl ?_
  intro a41 H41
  refine H41.storeS rfl rfl rfl rfl rfl (O3.get 0 rfl) size_mq rfl rfl rfl ?_
  intro a42 w4 H42 hg hs hC
  have O4 := O3.store 0 rfl hg hs hC
  clear hg hs hC
  refine H42.move gz (.inr rfl) rfl rfl rfl ?_
  intro a43 H43
  refine wpList_nil ?_
  have e2 := H43.at_ 2 _ rfl
  have e3 := H43.at_ 3 _ rfl
  have df := H43.df
  have hT := O4.two
  refine then_normal ?_
  refine wp_ret ?_
  repeat (first | (with_reducible refine block_ret ?_) | (with_reducible refine then_ret ?_))
  refine bodyPost_ret (results_two Tryd.results72 _ _ _ e2 e3 hT.c2 Tryd.underlying30 rfl 24 size_mq rfl) df ?_
  exact onlied_of (vc := nilV) (vw := nilV) (vf := nilV) (by rw [ho] <;> rfl) hq.symm (MqL.nil (by rw [ho]; rfl) (by rw [ho]; rfl) (by rw [ho]; rfl)) hT.bel

set_option maxRecDepth 100000 in
set_option maxHeartbeats 1600000 in
theorem only_14 (m : Mq) (vc vw vf : Value) (w : World) (_hL : MqL w w.heap.size m vc vw vf) (_hF : MqFit m) (_hW : Wd w) (hk : m.kind = 14) :
    Calls Tryd.prog 72 #[.agg (mqCells m vc vw vf).toArray] w (Onlied m w) := by
  have k1 : ¬ m.kind = 1 := by rw [hk]; decide
  have k2 : ¬ m.kind = 2 := by rw [hk]; decide
  have k3 : ¬ m.kind = 3 := by rw [hk]; decide
  have ki : ¬ idKind m.kind = true := by rw [hk]; decide
  have k8 : ¬ m.kind = 8 := by rw [hk]; decide
  have k9 : ¬ m.kind = 9 := by rw [hk]; decide
  have k10 : ¬ m.kind = 10 := by rw [hk]; decide
  have b1 : (m.kind == 1) = false := kind_ne hk rfl
  have b2 : (m.kind == 2) = false := kind_ne hk rfl
  have b3 : (m.kind == 3) = false := kind_ne hk rfl
  have b4 : (m.kind == 4) = false := kind_ne hk rfl
  have b5 : (m.kind == 5) = false := kind_ne hk rfl
  have b6 : (m.kind == 6) = false := kind_ne hk rfl
  have b7 : (m.kind == 7) = false := kind_ne hk rfl
  have b11 : (m.kind == 11) = false := kind_ne hk rfl
  have b8 : (m.kind == 8) = false := kind_ne hk rfl
  have b9 : (m.kind == 9) = false := kind_ne hk rfl
  have b10 : (m.kind == 10) = false := kind_ne hk rfl
  have b12 : (m.kind == 12) = false := kind_ne hk rfl
  have b13 : (m.kind == 13) = false := kind_ne hk rfl
  have b14 : (m.kind == 14) = true := kind_eq hk
  have ho : onlyOf m = mq0 m.kind := by unfold onlyOf; rw [if_neg k1, if_neg k2, if_neg k3, if_neg ki, if_neg k8, if_neg k9, if_neg k10]
  have hq : okOf m = true := by unfold okOf; rw [if_neg k1, if_neg k2, if_neg k3, if_neg ki, if_neg k8, if_neg k9, if_neg k10, hk]; rfl
  go_enter Tryd.func72, Tryd.ntmps72
  refine Has.start 144 [(0, .agg (mqCells m vc vw vf).toArray)] rfl rfl ⟨rfl, trivial⟩ ?_
  intro a0 H0
  have O0 := Own.start w
  repeat (refine wp_seq ?_)
  refine wp_region_list ?_
  refine H0.box rfl rfl rfl rfl rfl ?_
  intro a1 w1 hb hs hC H1
  have O1 := O0.alloc hb hs hC
  clear hb hs hC
  refine H1.alloc rfl rfl rfl rfl _ zero_mq ?_
  intro a2 w2 hb hs hC H2
  have O2 := O1.alloc hb hs hC
  clear hb hs hC
  refine H2.move gz (.inr rfl) rfl rfl rfl ?_
  intro a3 H3
  refine nt ?_
  repeat (refine wp_seq ?_)
  refine wp_region_list ?_
  refine H3.field gz rfl rfl rfl rfl field_0 ?_
  intro a4 H4
  refine H4.load gz rfl rfl rfl rfl (load1_i _ _ _ _ ((O2.get 1 rfl).get 0 _ rfl)) ?_
  intro a5 H5
  refine H5.field gz rfl rfl rfl rfl field_0 ?_
  intro a6 H6
  refine H6.storeC O2 0 rfl gz rfl rfl rfl rfl rfl (fun u h f => store1_i _ _ _ u _ h f) ?_
  intro a7 w3 H7 O3
  refine nt ?_
  repeat (refine wp_seq ?_)
  refine wp_region_list ?_
  refine H7.field gz rfl rfl rfl rfl field_16 ?_
  intro a8 H8
  refine H8.load gz rfl rfl rfl rfl (load1_i _ _ _ _ ((O3.get 1 rfl).get 20 _ rfl)) ?_
  intro a9 H9
  refine H9.call gz rfl rfl rfl rfl (fun _ _ => by kernel_rfl) (quietC (packWithin m.id 1 65535 _)) ?_
  rintro a10 _ _ ⟨rfl, rfl⟩ H10
  refine H10.move gz (.inr rfl) rfl rfl rfl ?_
  intro a11 H11
  refine nt ?_
  repeat (refine wp_seq ?_)
  refine wp_region_list ?_
  refine H11.field gz rfl rfl rfl rfl field_0 ?_
  intro a12 H12
  refine H12.load gz rfl rfl rfl rfl (load1_i _ _ _ _ ((O3.get 1 rfl).get 0 _ rfl)) ?_
  intro a13 H13
  refine nt ?_
  have H14 := H13.keep (l' := [(1, .pointer (some ⟨w.heap.size, 0, none⟩)), (2, .pointer (some ⟨w1.heap.size, 0, none⟩)), (3, .bool false), (4, .bool (inRB m.id 1 65535)), (12, .int .i64 m.kind)]) ⟨rfl, rfl, rfl, rfl, rfl, trivial⟩
  repeat (refine wp_seq ?_)
  refine wp_block ?_
  repeat (refine wp_seq ?_)
  refine wp_region_list ?_
  refine H14.bin gz rfl rfl rfl rfl rfl (eql_iB _ _ _ b1 _ _ _) ?_
  intro a15 H15
  refine H15.move gz (.inr rfl) rfl rfl rfl ?_
  intro a16 H16
  refine nt ?_
  refine H16.condF rfl ?_
  repeat (refine wp_seq ?_)
  refine wp_region_list ?_
  refine H16.bin gz rfl rfl rfl rfl rfl (eql_iB _ _ _ b2 _ _ _) ?_
  intro a17 H17
  refine H17.move gz (.inr rfl) rfl rfl rfl ?_
  intro a18 H18
  refine nt ?_
  refine H18.condF rfl ?_
  repeat (refine wp_seq ?_)
  refine wp_region_list ?_
  refine H18.bin gz rfl rfl rfl rfl rfl (eql_iB _ _ _ b3 _ _ _) ?_
  intro a19 H19
  refine H19.move gz (.inr rfl) rfl rfl rfl ?_
  intro a20 H20
  refine nt ?_
  refine H20.condF rfl ?_
  repeat (refine wp_seq ?_)
  repeat (refine wp_seq ?_)
  refine wp_region_list ?_
  refine H20.bin gz rfl rfl rfl rfl rfl (eql_iB _ _ _ b4 _ _ _) ?_
  intro a21 H21
  refine H21.move gz (.inr rfl) rfl rfl rfl ?_
  intro a22 H22
  refine nt ?_
  refine H22.condF rfl ?_
  repeat (refine wp_seq ?_)
  refine wp_region_list ?_
  refine H22.bin gz rfl rfl rfl rfl rfl (eql_iB _ _ _ b5 _ _ _) ?_
  intro a23 H23
  refine H23.move gz (.inr rfl) rfl rfl rfl ?_
  intro a24 H24
  refine nt ?_
  refine H24.condF rfl ?_
  repeat (refine wp_seq ?_)
  refine wp_region_list ?_
  refine H24.bin gz rfl rfl rfl rfl rfl (eql_iB _ _ _ b6 _ _ _) ?_
  intro a25 H25
  refine H25.move gz (.inr rfl) rfl rfl rfl ?_
  intro a26 H26
  refine nt ?_
  refine H26.condF rfl ?_
  repeat (refine wp_seq ?_)
  refine wp_region_list ?_
  refine H26.bin gz rfl rfl rfl rfl rfl (eql_iB _ _ _ b7 _ _ _) ?_
  intro a27 H27
  refine H27.move gz (.inr rfl) rfl rfl rfl ?_
  intro a28 H28
  refine nt ?_
  refine H28.condF rfl ?_
  repeat (refine wp_seq ?_)
  refine wp_region_list ?_
  refine H28.bin gz rfl rfl rfl rfl rfl (eql_iB _ _ _ b11 _ _ _) ?_
  intro a29 H29
  refine H29.move gz (.inr rfl) rfl rfl rfl ?_
  intro a30 H30
  refine nt ?_
  refine H30.condF rfl ?_
  repeat (refine wp_seq ?_)
  refine wp_region_list ?_
  refine H30.bin gz rfl rfl rfl rfl rfl (eql_iB _ _ _ b8 _ _ _) ?_
  intro a31 H31
  refine H31.move gz (.inr rfl) rfl rfl rfl ?_
  intro a32 H32
  refine nt ?_
  refine H32.condF rfl ?_
  repeat (refine wp_seq ?_)
  refine wp_region_list ?_
  refine H32.bin gz rfl rfl rfl rfl rfl (eql_iB _ _ _ b9 _ _ _) ?_
  intro a33 H33
  refine H33.move gz (.inr rfl) rfl rfl rfl ?_
  intro a34 H34
  refine nt ?_
  refine H34.condF rfl ?_
  repeat (refine wp_seq ?_)
  refine wp_region_list ?_
  refine H34.bin gz rfl rfl rfl rfl rfl (eql_iB _ _ _ b10 _ _ _) ?_
  intro a35 H35
  refine H35.move gz (.inr rfl) rfl rfl rfl ?_
  intro a36 H36
  refine nt ?_
  refine H36.condF rfl ?_
  repeat (refine wp_seq ?_)
  repeat (refine wp_seq ?_)
  refine wp_region_list ?_
  refine H36.bin gz rfl rfl rfl rfl rfl (eql_iB _ _ _ b12 _ _ _) ?_
  intro a37 H37
  refine H37.move gz (.inr rfl) rfl rfl rfl ?_
  intro a38 H38
  refine nt ?_
  refine H38.condF rfl ?_
  repeat (refine wp_seq ?_)
  refine wp_region_list ?_
  refine H38.bin gz rfl rfl rfl rfl rfl (eql_iB _ _ _ b13 _ _ _) ?_
  intro a39 H39
  refine H39.move gz (.inr rfl) rfl rfl rfl ?_
  intro a40 H40
  refine nt ?_
  refine H40.condF rfl ?_
  repeat (refine wp_seq ?_)
  refine wp_region_list ?_
  refine H40.bin gz rfl rfl rfl rfl rfl (eql_iB _ _ _ b14 _ _ _) ?_
  intro a41 H41
  refine H41.move gz (.inr rfl) rfl rfl rfl ?_
  intro a42 H42
  refine nt ?_
  refine H42.condT rfl ?_
  repeat (refine wp_seq ?_)
  refine wp_region_list ?_
  refine H42.loadS rfl rfl rfl rfl rfl (O3.get 0 rfl) Tryd.underlying30 rfl size_mq rfl ?_
  intro a43 H43
  refine H43.storeS rfl rfl rfl rfl rfl (O3.get 0 rfl) size_mq rfl rfl rfl ?_
  intro a44 w4 H44 hg hs hC
  have O4 := O3.store 0 rfl hg hs hC
  clear hg hs hC
  refine H44.move gz (.inr rfl) rfl rfl rfl ?_
  intro a45 H45
  refine wpList_nil ?_
  have e2 := H45.at_ 2 _ rfl
  have e3 := H45.at_ 3 _ rfl
  have df := H45.df
  have hT := O4.two
  refine then_normal ?_
  refine wp_ret ?_
  repeat (first | (with_reducible refine block_ret ?_) | (with_reducible refine then_ret ?_))
  refine bodyPost_ret (results_two Tryd.results72 _ _ _ e2 e3 hT.c2 Tryd.underlying30 rfl 24 size_mq rfl) df ?_
  exact onlied_of (vc := nilV) (vw := nilV) (vf := nilV) (by rw [ho] <;> rfl) hq.symm (MqL.nil (by rw [ho]; rfl) (by rw [ho]; rfl) (by rw [ho]; rfl)) hT.bel

set_option maxRecDepth 100000 in
set_option maxHeartbeats 1600000 in
theorem only_x (m : Mq) (vc vw vf : Value) (w : World) (_hL : MqL w w.heap.size m vc vw vf) (_hF : MqFit m) (_hW : Wd w) (b1 : (m.kind == 1) = false) (b2 : (m.kind == 2) = false) (b3 : (m.kind == 3) = false) (b4 : (m.kind == 4) = false) (b5 : (m.kind == 5) = false) (b6 : (m.kind == 6) = false) (b7 : (m.kind == 7) = false) (b11 : (m.kind == 11) = false) (b8 : (m.kind == 8) = false) (b9 : (m.kind == 9) = false) (b10 : (m.kind == 10) = false) (b12 : (m.kind == 12) = false) (b13 : (m.kind == 13) = false) (b14 : (m.kind == 14) = false) :
    Calls Tryd.prog 72 #[.agg (mqCells m vc vw vf).toArray] w (Onlied m w) := by
  have k1 : ¬ m.kind = 1 := by simpa using b1
  have k2 : ¬ m.kind = 2 := by simpa using b2
  have k3 : ¬ m.kind = 3 := by simpa using b3
  have k8 : ¬ m.kind = 8 := by simpa using b8
  have k9 : ¬ m.kind = 9 := by simpa using b9
  have k10 : ¬ m.kind = 10 := by simpa using b10
  have ki : ¬ idKind m.kind = true := by simp [idKind, b4, b5, b6, b7, b11]
  have ho : onlyOf m = mq0 m.kind := by unfold onlyOf; rw [if_neg k1, if_neg k2, if_neg k3, if_neg ki, if_neg k8, if_neg k9, if_neg k10]
  have hq : okOf m = false := by unfold okOf; rw [if_neg k1, if_neg k2, if_neg k3, if_neg ki, if_neg k8, if_neg k9, if_neg k10]; simp [bareKind, b12, b13, b14]
  go_enter Tryd.func72, Tryd.ntmps72
  refine Has.start 144 [(0, .agg (mqCells m vc vw vf).toArray)] rfl rfl ⟨rfl, trivial⟩ ?_
  intro a0 H0
  have O0 := Own.start w
  repeat (refine wp_seq ?_)
  refine wp_region_list ?_
  refine H0.box rfl rfl rfl rfl rfl ?_
  intro a1 w1 hb hs hC H1
  have O1 := O0.alloc hb hs hC
  clear hb hs hC
  refine H1.alloc rfl rfl rfl rfl _ zero_mq ?_
  intro a2 w2 hb hs hC H2
  have O2 := O1.alloc hb hs hC
  clear hb hs hC
  refine H2.move gz (.inr rfl) rfl rfl rfl ?_
  intro a3 H3
  refine nt ?_
  repeat (refine wp_seq ?_)
  refine wp_region_list ?_
  refine H3.field gz rfl rfl rfl rfl field_0 ?_
  intro a4 H4
  refine H4.load gz rfl rfl rfl rfl (load1_i _ _ _ _ ((O2.get 1 rfl).get 0 _ rfl)) ?_
  intro a5 H5
  refine H5.field gz rfl rfl rfl rfl field_0 ?_
  intro a6 H6
  refine H6.storeC O2 0 rfl gz rfl rfl rfl rfl rfl (fun u h f => store1_i _ _ _ u _ h f) ?_
  intro a7 w3 H7 O3
  refine nt ?_
  repeat (refine wp_seq ?_)
  refine wp_region_list ?_
  refine H7.field gz rfl rfl rfl rfl field_16 ?_
  intro a8 H8
  refine H8.load gz rfl rfl rfl rfl (load1_i _ _ _ _ ((O3.get 1 rfl).get 20 _ rfl)) ?_
  intro a9 H9
  refine H9.call gz rfl rfl rfl rfl (fun _ _ => by kernel_rfl) (quietC (packWithin m.id 1 65535 _)) ?_
  rintro a10 _ _ ⟨rfl, rfl⟩ H10
  refine H10.move gz (.inr rfl) rfl rfl rfl ?_
  intro a11 H11
  refine nt ?_
  repeat (refine wp_seq ?_)
  refine wp_region_list ?_
  refine H11.field gz rfl rfl rfl rfl field_0 ?_
  intro a12 H12
  refine H12.load gz rfl rfl rfl rfl (load1_i _ _ _ _ ((O3.get 1 rfl).get 0 _ rfl)) ?_
  intro a13 H13
  refine nt ?_
  have H14 := H13.keep (l' := [(1, .pointer (some ⟨w.heap.size, 0, none⟩)), (2, .pointer (some ⟨w1.heap.size, 0, none⟩)), (3, .bool false), (4, .bool (inRB m.id 1 65535)), (12, .int .i64 m.kind)]) ⟨rfl, rfl, rfl, rfl, rfl, trivial⟩
  repeat (refine wp_seq ?_)
  refine wp_block ?_
  repeat (refine wp_seq ?_)
  refine wp_region_list ?_
  refine H14.bin gz rfl rfl rfl rfl rfl (eql_iB _ _ _ b1 _ _ _) ?_
  intro a15 H15
  refine H15.move gz (.inr rfl) rfl rfl rfl ?_
  intro a16 H16
  refine nt ?_
  refine H16.condF rfl ?_
  repeat (refine wp_seq ?_)
  refine wp_region_list ?_
  refine H16.bin gz rfl rfl rfl rfl rfl (eql_iB _ _ _ b2 _ _ _) ?_
  intro a17 H17
  refine H17.move gz (.inr rfl) rfl rfl rfl ?_
  intro a18 H18
  refine nt ?_
  refine H18.condF rfl ?_
  repeat (refine wp_seq ?_)
  refine wp_region_list ?_
  refine H18.bin gz rfl rfl rfl rfl rfl (eql_iB _ _ _ b3 _ _ _) ?_
  intro a19 H19
  refine H19.move gz (.inr rfl) rfl rfl rfl ?_
  intro a20 H20
  refine nt ?_
  refine H20.condF rfl ?_
  repeat (refine wp_seq ?_)
  repeat (refine wp_seq ?_)
  refine wp_region_list ?_
  refine H20.bin gz rfl rfl rfl rfl rfl (eql_iB _ _ _ b4 _ _ _) ?_
  intro a21 H21
  refine H21.move gz (.inr rfl) rfl rfl rfl ?_
  intro a22 H22
  refine nt ?_
  refine H22.condF rfl ?_
  repeat (refine wp_seq ?_)
  refine wp_region_list ?_
  refine H22.bin gz rfl rfl rfl rfl rfl (eql_iB _ _ _ b5 _ _ _) ?_
  intro a23 H23
  refine H23.move gz (.inr rfl) rfl rfl rfl ?_
  intro a24 H24
  refine nt ?_
  refine H24.condF rfl ?_
  repeat (refine wp_seq ?_)
  refine wp_region_list ?_
  refine H24.bin gz rfl rfl rfl rfl rfl (eql_iB _ _ _ b6 _ _ _) ?_
  intro a25 H25
  refine H25.move gz (.inr rfl) rfl rfl rfl ?_
  intro a26 H26
  refine nt ?_
  refine H26.condF rfl ?_
  repeat (refine wp_seq ?_)
  refine wp_region_list ?_
  refine H26.bin gz rfl rfl rfl rfl rfl (eql_iB _ _ _ b7 _ _ _) ?_
  intro a27 H27
  refine H27.move gz (.inr rfl) rfl rfl rfl ?_
  intro a28 H28
  refine nt ?_
  refine H28.condF rfl ?_
  repeat (refine wp_seq ?_)
  refine wp_region_list ?_
  refine H28.bin gz rfl rfl rfl rfl rfl (eql_iB _ _ _ b11 _ _ _) ?_
  intro a29 H29
  refine H29.move gz (.inr rfl) rfl rfl rfl ?_
  intro a30 H30
  refine nt ?_
  refine H30.condF rfl ?_
  repeat (refine wp_seq ?_)
  refine wp_region_list ?_
  refine H30.bin gz rfl rfl rfl rfl rfl (eql_iB _ _ _ b8 _ _ _) ?_
  intro a31 H31
  refine H31.move gz (.inr rfl) rfl rfl rfl ?_
  intro a32 H32
  refine nt ?_
  refine H32.condF rfl ?_
  repeat (refine wp_seq ?_)
  refine wp_region_list ?_
  refine H32.bin gz rfl rfl rfl rfl rfl (eql_iB _ _ _ b9 _ _ _) ?_
  intro a33 H33
  refine H33.move gz (.inr rfl) rfl rfl rfl ?_
  intro a34 H34
  refine nt ?_
  refine H34.condF rfl ?_
  repeat (refine wp_seq ?_)
  refine wp_region_list ?_
  refine H34.bin gz rfl rfl rfl rfl rfl (eql_iB _ _ _ b10 _ _ _) ?_
  intro a35 H35
  refine H35.move gz (.inr rfl) rfl rfl rfl ?_
  intro a36 H36
  refine nt ?_
  refine H36.condF rfl ?_
  repeat (refine wp_seq ?_)
  repeat (refine wp_seq ?_)
  refine wp_region_list ?_
  refine H36.bin gz rfl rfl rfl rfl rfl (eql_iB _ _ _ b12 _ _ _) ?_
  intro a37 H37
  refine H37.move gz (.inr rfl) rfl rfl rfl ?_
  intro a38 H38
  refine nt ?_
  refine H38.condF rfl ?_
  repeat (refine wp_seq ?_)
  refine wp_region_list ?_
  refine H38.bin gz rfl rfl rfl rfl rfl (eql_iB _ _ _ b13 _ _ _) ?_
  intro a39 H39
  refine H39.move gz (.inr rfl) rfl rfl rfl ?_
  intro a40 H40
  refine nt ?_
  refine H40.condF rfl ?_
  repeat (refine wp_seq ?_)
  refine wp_region_list ?_
  refine H40.bin gz rfl rfl rfl rfl rfl (eql_iB _ _ _ b14 _ _ _) ?_
  intro a41 H41
  refine H41.move gz (.inr rfl) rfl rfl rfl ?_
  intro a42 H42
  refine nt ?_
  refine H42.condF rfl ?_
  refine skip_wp ?_
  refine block_normal ?_
  refine then_normal ?_
  repeat (refine wp_seq ?_)
  refine wp_region_list ?_
  refine H42.loadS rfl rfl rfl rfl rfl (O3.get 0 rfl) Tryd.underlying30 rfl size_mq rfl ?_
  intro a43 H43
  refine H43.storeS rfl rfl rfl rfl rfl (O3.get 0 rfl) size_mq rfl rfl rfl ?_
  intro a44 w4 H44 hg hs hC
  have O4 := O3.store 0 rfl hg hs hC
  clear hg hs hC
  refine H44.move gz (.inr rfl) rfl rfl rfl ?_
  intro a45 H45
  refine wpList_nil ?_
  have e2 := H45.at_ 2 _ rfl
  have e3 := H45.at_ 3 _ rfl
  have df := H45.df
  have hT := O4.two
  refine then_normal ?_
  refine wp_ret ?_
  repeat (first | (with_reducible refine block_ret ?_) | (with_reducible refine then_ret ?_))
  refine bodyPost_ret (results_two Tryd.results72 _ _ _ e2 e3 hT.c2 Tryd.underlying30 rfl 24 size_mq rfl) df ?_
  exact onlied_of (vc := nilV) (vw := nilV) (vf := nilV) (by rw [ho] <;> rfl) hq.symm (MqL.nil (by rw [ho]; rfl) (by rw [ho]; rfl) (by rw [ho]; rfl)) hT.bel

theorem packOnly (m : Mq) (vc vw vf : Value) (w : World) (hL : MqL w w.heap.size m vc vw vf) (hF : MqFit m) (hW : Wd w) :
    Calls Tryd.prog 72 #[.agg (mqCells m vc vw vf).toArray] w (Onlied m w) := by
  by_cases k1 : m.kind = 1
  · exact only_1 m vc vw vf w hL hF hW k1
  by_cases k2 : m.kind = 2
  · exact only_2 m vc vw vf w hL hF hW k2
  by_cases k3 : m.kind = 3
  · exact only_3 m vc vw vf w hL hF hW k3
  by_cases k4 : m.kind = 4
  · exact only_4 m vc vw vf w hL hF hW k4
  by_cases k5 : m.kind = 5
  · exact only_5 m vc vw vf w hL hF hW k5
  by_cases k6 : m.kind = 6
  · exact only_6 m vc vw vf w hL hF hW k6
  by_cases k7 : m.kind = 7
  · exact only_7 m vc vw vf w hL hF hW k7
  by_cases k11 : m.kind = 11
  · exact only_11 m vc vw vf w hL hF hW k11
  by_cases k8 : m.kind = 8
  · exact only_8 m vc vw vf w hL hF hW k8
  by_cases k9 : m.kind = 9
  · exact only_9 m vc vw vf w hL hF hW k9
  by_cases k10 : m.kind = 10
  · exact only_10 m vc vw vf w hL hF hW k10
  by_cases k12 : m.kind = 12
  · exact only_12 m vc vw vf w hL hF hW k12
  by_cases k13 : m.kind = 13
  · exact only_13 m vc vw vf w hL hF hW k13
  by_cases k14 : m.kind = 14
  · exact only_14 m vc vw vf w hL hF hW k14
  exact only_x m vc vw vf w hL hF hW (by simpa using k1) (by simpa using k2) (by simpa using k3) (by simpa using k4) (by simpa using k5) (by simpa using k6) (by simpa using k7) (by simpa using k11) (by simpa using k8) (by simpa using k9) (by simpa using k10) (by simpa using k12) (by simpa using k13) (by simpa using k14)
end Go.Proofs.YtkcdkjpmbjcmdaaDoor

/-
  A region that draws its order and makes memory, by an invariant: of each operation that has come up it is known what its slot holds, as long as no other operation has used it up.
-/
namespace Go.Proofs.YtkcdkjpmbjcmdaaDoor
open Go.RowKit

section
variable {P : Program} {md : Region.Mode} {ops : Array Oper} {Q : Exit → Act → World → Prop}
def Closed (md : Region.Mode) (ops : Array Oper) (listed : Array Bool) : Prop := ∀ (i : Nat) (o : Oper), ops[i]? = some o → listed.getD i false = true → ∀ e ∈ o.after, Region.binds md e = true → listed.getD e.on false = true
theorem ran_mono {listed : Array Bool} {i j : Nat} (h : listed.getD j false = true) : (listed.setIfInBounds i true).getD j false = true := by
  by_cases e : i = j
  · subst e
    have hi : i < listed.size := by
      rcases Nat.lt_or_ge i listed.size with h1 | h1
      · exact h1
      · rw [Array.getD_eq_getD_getElem?, Array.getElem?_eq_none h1] at h; cases h
    exact ran_same listed hi
  · rw [ran_ne listed e]; exact h
theorem wpAny_invB (I : Array Bool → Act → World → Prop) (hback : ∀ (i : Nat) (o : Oper), ops[i]? = some o → ∀ e ∈ o.after, Region.binds md e = true → e.on < i)
    (hstep : ∀ (listed : Array Bool) (a : Act) (w : World) (i : Nat) (o : Oper), listed.size = ops.size → listed.getD i false = false → Closed md ops listed → ops[i]? = some o → (∀ e ∈ o.after, Region.binds md e = true → listed.getD e.on false = true) → I listed a w →
      wpOp P ops Q i (fun a' w' => I (listed.setIfInBounds i true) a' w') a w)
    (hfin : ∀ (listed : Array Bool) (a : Act) (w : World), (∀ i, i < ops.size → listed.getD i false = true) → I listed a w → Q .normal a w) :
    ∀ (fuel : Nat) (listed : Array Bool) (a : Act) (w : World), listed.size = ops.size → listed.toList.count false ≤ fuel → Closed md ops listed → I listed a w → wpAny P md ops Q fuel listed a w := by
  intro fuel
  induction fuel with
  | zero =>
    intro listed a w hs hc hcl hI
    have hnil : Region.ready md ops listed = [] := by
      rcases hr : Region.ready md ops listed with _ | ⟨i, rs⟩
      · rfl
      · exfalso
        have hm : i ∈ Region.ready md ops listed := by rw [hr]; exact List.mem_cons_self
        obtain ⟨h0, o, ho, _⟩ := mem_ready.1 hm
        have hi : i < listed.size := by
          have := (Array.getElem?_eq_some_iff.1 ho).1
          omega
        have h1 : listed.toList[i]? = some false := by
          simp only [Array.getD_eq_getD_getElem?, Array.getElem?_eq_getElem hi, Option.getD_some] at h0
          simp [hi, h0]
        have := count_set _ _ h1
        omega
    exact ⟨hnil, hfin listed a w (all_listed hback hs hnil) hI⟩
  | succ fuel ih =>
    intro listed a w hs hc hcl hI
    refine ⟨fun hnil => hfin listed a w (all_listed hback hs hnil) hI, fun i hm => ?_⟩
    obtain ⟨h0, o, ho, hd⟩ := mem_ready.1 hm
    have hi : i < listed.size := by
      have := (Array.getElem?_eq_some_iff.1 ho).1
      omega
    have h0' : listed.getD i false = false := by
      simp only [Array.getD_eq_getD_getElem?, Array.getElem?_eq_getElem hi, Option.getD_some] at h0 ⊢
      exact h0
    have h1 : listed.toList[i]? = some false := by
      simp only [Array.getD_eq_getD_getElem?, Array.getElem?_eq_getElem hi, Option.getD_some] at h0
      simp [hi, h0]
    have hcs := count_set _ _ h1
    refine wpOp_mono (fun a' w' hI' => ih _ a' w' (by simpa using hs) ?_ ?_ hI') (hstep listed a w i o hs h0' hcl ho hd hI)
    · rw [Array.toList_setIfInBounds]
      omega
    · intro j oj hoj hj e he hb
      rcases getD_set hj with e2 | hj
      · subst e2
        have e3 : oj = o := by rw [ho] at hoj; injection hoj with hoj; exact hoj.symm
        subst e3
        exact ran_mono (hd e he hb)
      · exact ran_mono (hcl j oj hoj hj e he hb)
theorem wp_region_invB {id : Nat} {a : Act} {w : World} (hm : P.follows .mixedOrders = true) (I : Array Bool → Act → World → Prop) (hback : ∀ (i : Nat) (o : Oper), ops[i]? = some o → ∀ e ∈ o.after, Region.binds .any e = true → e.on < i)
    (hstep : ∀ (listed : Array Bool) (a : Act) (w : World) (i : Nat) (o : Oper), listed.size = ops.size → listed.getD i false = false → Closed .any ops listed → ops[i]? = some o → (∀ e ∈ o.after, Region.binds .any e = true → listed.getD e.on false = true) → I listed a w →
      wpOp P ops Q i (fun a' w' => I (listed.setIfInBounds i true) a' w') a w)
    (hfin : ∀ (listed : Array Bool) (a : Act) (w : World), (∀ i, i < ops.size → listed.getD i false = true) → I listed a w → Q .normal a w)
    (h0 : I (Array.replicate ops.size false) a w.drew) : (Code.region id ops true).wp P Q a w := by
  refine wp_region_any hm (wpAny_invB I hback hstep hfin ops.size _ a _ (by simp) ?_ ?_ h0)
  · simp
  · intro i o _ h
    rw [none_ran] at h
    cases h
end

/-- what an operation's slot holds, and which operations use it up. -/
structure Ent where
  op : Nat
  slot : Nat
  kill : List Nat
  p : Value → World → Prop
def KillEv (listed : Array Bool) : List Nat → Prop
  | [] => True
  | k :: ks => listed.getD k false = false ∧ KillEv listed ks
def AllSt (i : Nat) (listed : Array Bool) (w w' : World) : List Ent → Prop
  | [] => True
  | t :: es => (t.op ≠ i → i ∉ t.kill → (listed.size ≤ t.op ∨ listed.getD t.op false = true) → KillEv listed t.kill → ∀ u, t.p u w → t.p u w') ∧ AllSt i listed w w' es
theorem AllSt.get {i : Nat} {listed : Array Bool} {w w' : World} : ∀ {es : List Ent}, AllSt i listed w w' es → ∀ t ∈ es, t.op ≠ i → i ∉ t.kill → (listed.size ≤ t.op ∨ listed.getD t.op false = true) → KillEv listed t.kill → ∀ u, t.p u w → t.p u w'
  | _ :: _, h, t, ht => by
    rcases List.mem_cons.1 ht with rfl | ht
    · exact h.1
    · exact AllSt.get h.2 t ht
theorem AllSt.same {i : Nat} {listed : Array Bool} {w : World} : ∀ {es : List Ent}, AllSt i listed w w es
  | [] => trivial
  | _ :: _ => ⟨fun _ _ _ _ _ h => h, AllSt.same⟩
structure InvB (n : Nat) (fixed : List (Nat × Value)) (es : List Ent) (Wp : World → Prop) (listed : Array Bool) (a : Act) (w : World) : Prop where
  sz : a.tmps.size = n
  df : a.defers = []
  fx : AllEv a fixed
  vs : ∀ t ∈ es, (listed.size ≤ t.op ∨ listed.getD t.op false = true) → KillEv listed t.kill → t.p (a.eval (.tmp t.slot)) w
  wp : Wp w
def fitsB (n : Nat) (fixed : List (Nat × Value)) (es : List Ent) : Bool :=
  es.all (fun t => decide (t.slot < n) && fixed.all (fun f => f.1 != t.slot)) && es.all (fun u => es.all fun t => u.op == t.op || (u.slot != t.slot || (u.kill.contains t.op || decide (1000 ≤ t.op)))) && (es.map (·.op)).Nodup
theorem KillEv.back {listed : Array Bool} {i : Nat} : ∀ {ks : List Nat}, KillEv (listed.setIfInBounds i true) ks → i < listed.size → KillEv listed ks ∧ i ∉ ks
  | [], _, _ => ⟨trivial, by simp⟩
  | k :: ks, h, hi => by
    obtain ⟨h1, h2⟩ := KillEv.back h.2 hi
    have hk : i ≠ k := by
      intro e
      subst e
      have := h.1
      rw [ran_same listed hi] at this
      cases this
    refine ⟨⟨?_, h1⟩, ?_⟩
    · have := h.1
      rw [ran_ne listed hk] at this
      exact this
    · simp only [List.mem_cons, not_or]
      exact ⟨hk, h2⟩
theorem AllEv.put {a : Act} {d : Nat} {v : Value} : ∀ {l : List (Nat × Value)}, AllEv a l → l.all (fun f => f.1 != d) = true → AllEv (a.put (some d) v) l
  | [], _, _ => trivial
  | f :: l, h, hd => by
    simp only [List.all_cons, Bool.and_eq_true, bne_iff_ne] at hd
    exact ⟨(Act.eval_put_ne _ _ _ _ (Ne.symm hd.1)).trans h.1, AllEv.put h.2 hd.2⟩
theorem InvB.put {n : Nat} {fixed : List (Nat × Value)} {es : List Ent} {Wp Wp' : World → Prop} {listed : Array Bool} {a : Act} {w w' : World} (h : InvB n fixed es Wp listed a w) (hf : fitsB n fixed es = true) (t : Ent) (ht : t ∈ es) (hi : t.op < listed.size) (hN : listed.size ≤ 1000)
    (v : Value) (hp : t.p v w') (hw : Wp' w') (hst : AllSt t.op listed w w' es) : InvB n fixed es Wp' (listed.setIfInBounds t.op true) (a.put (some t.slot) v) w' := by
  simp only [fitsB, Bool.and_eq_true, decide_eq_true_eq] at hf
  obtain ⟨⟨hf, hn⟩, hm⟩ := hf
  have hf : ∀ t ∈ es, t.slot < n ∧ fixed.all (fun f => f.1 != t.slot) = true := fun t ht => by
    have := List.all_eq_true.1 hf t ht
    simp only [Bool.and_eq_true, decide_eq_true_eq] at this
    exact this
  have hn : ∀ u ∈ es, ∀ t ∈ es, (u.op == t.op || (u.slot != t.slot || (u.kill.contains t.op || decide (1000 ≤ t.op)))) = true := fun u hu t ht => List.all_eq_true.1 (List.all_eq_true.1 hn u hu) t ht
  refine ⟨by rw [Act.size_put, h.sz], by rw [Act.defers_put', h.df], h.fx.put (hf t ht).2, fun u hu hl hk => ?_, hw⟩
  obtain ⟨hk1, hk2⟩ := KillEv.back hk hi
  by_cases e : u.op = t.op
  · have e2 : u = t := nodup_eq hm u hu t ht e
    subst e2
    rw [Act.eval_put_same _ _ _ (by rw [h.sz]; exact (hf u hu).1)]
    exact hp
  · rw [ran_ne listed (Ne.symm e), Array.size_setIfInBounds] at hl
    have hs : t.slot ≠ u.slot := by
      intro e2
      have := hn u hu t ht
      simp only [Bool.or_eq_true, beq_iff_eq, bne_iff_ne, List.contains_iff_mem, decide_eq_true_eq] at this
      rcases this with h1 | h1 | h1 | h1
      · exact e h1
      · exact h1 e2.symm
      · exact hk2 h1
      · omega
    rw [Act.eval_put_ne _ _ _ _ hs]
    exact hst.get u hu e hk2 hl hk1 _ (h.vs u hu hl hk1)
/-- an operation without a slot. -/
theorem InvB.done {n : Nat} {fixed : List (Nat × Value)} {es : List Ent} {Wp Wp' : World → Prop} {listed : Array Bool} {a : Act} {w w' : World} (h : InvB n fixed es Wp listed a w) (i : Nat) (hi : i < listed.size) (hne : es.all (fun t => t.op != i) = true) (hw : Wp' w') (hst : AllSt i listed w w' es) : InvB n fixed es Wp' (listed.setIfInBounds i true) a w' := by
  refine ⟨h.sz, h.df, h.fx, fun u hu hl hk => ?_, hw⟩
  obtain ⟨hk1, hk2⟩ := KillEv.back hk hi
  have e : u.op ≠ i := by simpa using List.all_eq_true.1 hne u hu
  rw [ran_ne listed (Ne.symm e), Array.size_setIfInBounds] at hl
  exact hst.get u hu e hk2 hl hk1 _ (h.vs u hu hl hk1)
theorem wt_of {ops : Array Oper} {o : Oper} {a : Act} {j d : Nat} {b : Bool} (hg : o.guard = some (j, b)) (hj : (ops[j]?).bind (·.dst) = some d) (h : a.eval (.tmp d) = .bool b) : Region.wanted o (yielded ops a.tmps) = true := by
  have hy := yielded_of hj h
  cases b with
  | true => exact wanted_of hg hy
  | false => rw [wantedf_of hg hy]; rfl
theorem wf_of {ops : Array Oper} {o : Oper} {a : Act} {j d : Nat} {b : Bool} (hg : o.guard = some (j, b)) (hj : (ops[j]?).bind (·.dst) = some d) (h : a.eval (.tmp d) = .bool !b) : Region.wanted o (yielded ops a.tmps) = false := by
  have hy := yielded_of hj h
  cases b with
  | true => exact wanted_of hg hy
  | false => rw [wantedf_of hg hy]; rfl
theorem ran_of {f : Array Edge} {listed : Array Bool} (hd : ∀ e ∈ f, Region.binds .any e = true → listed.getD e.on false = true) (j : Nat) (h : f.toList.any (fun e => Region.binds .any e && e.on == j) = true) : listed.getD j false = true := by
  obtain ⟨e, he, hb, hon⟩ := edge_of h
  rw [← hon]
  exact hd e he hb

/-- blocks of one's own below b; what is made of rows lies from b on. -/
structure Base (W : World) (b : Nat) (bs : List (Nat × List Value)) (w : World) : Prop where
  own : Own W W.heap.size bs w
  bw : b ≤ w.heap.size
  hb : W.heap.size ≤ b
  all : ∀ p ∈ bs, p.1 < b
theorem Base.of {W w : World} {bs : List (Nat × List Value)} (O : Own W W.heap.size bs w) : Base W w.heap.size bs w := ⟨O, Nat.le_refl _, O.le, fun p hp => (O.mem p hp).2.1⟩
theorem Base.step {W w w' : World} {b : Nat} {bs : List (Nat × List Value)} (h : Base W b bs w) (hb : Below b w w') : Base W b bs w' :=
  ⟨⟨h.own.bel.trans (hb.mono h.hb), Nat.le_trans h.own.le hb.size, h.own.nd, fun p hp => ⟨(h.own.mem p hp).1, Nat.lt_of_lt_of_le (h.own.mem p hp).2.1 hb.size, (h.own.mem p hp).2.2.below hb (h.all p hp)⟩⟩, Nat.le_trans h.bw hb.size, h.hb, h.all⟩
theorem Base.call {W w w' : World} {b : Nat} {bs : List (Nat × List Value)} (h : Base W b bs w) (hb : Below w.heap.size w w') : Base W b bs w' := h.step (hb.mono h.bw)
theorem Base.drew {W w : World} {b : Nat} {bs : List (Nat × List Value)} (h : Base W b bs w) : Base W b bs w.drew := h.call (Below.drew (Below.refl _ _))
theorem Base.get {W w : World} {b : Nat} {bs : List (Nat × List Value)} (h : Base W b bs w) (i : Nat) {g : Nat} {L : List Value} (hi : bs[i]? = some (g, L)) : Cells w g L := h.own.get i hi

/-! what one operation runs to -/
section
variable {P : Program} {o : Oper} {a : Act} {w : World}
theorem run_field {S f g off : Nat} {x : Operand} (ho : o.op = .fieldAddr S x f) {off0 : Nat} (hx : a.eval x = .pointer (some ⟨g, off0, none⟩)) (hf : ∀ g w, (Instr.fieldAt S (.pointer (some ⟨g, off0, none⟩)) f).run P w = .ok (.pointer (some ⟨g, off, none⟩)) w) :
    (execOp a.eval o).run P w = .ok (.value (.pointer (some ⟨g, off, none⟩))) w := by
  unfold execOp
  simp only [ho, hx, Sem.run_bind, hf, Result.andThen_ok, Sem.run_pure]
theorem run_load {T : Nat} {x : Operand} {p v : Value} (ho : o.op = .load T x) (hx : a.eval x = p) (hl : (Instr.loadAt T p).run P w = .ok v w) : (execOp a.eval o).run P w = .ok (.value v) w := by
  unfold execOp
  simp only [ho, hx, Sem.run_bind, hl, Result.andThen_ok, Sem.run_pure]
theorem run_move {x : Operand} {v : Value} (ho : o.op = .move x ∨ o.op = .assign x) (hx : a.eval x = v) : (execOp a.eval o).run P w = .ok (.value v) w := by
  rw [← hx]
  unfold execOp
  rcases ho with ho | ho <;> simp only [ho] <;> rfl
theorem run_bin {b : BinOp} {T T' : TypeId} {x y : Operand} {u v r : Value} (ho : o.op = .binOp b T x y T') (hx : a.eval x = u) (hy : a.eval y = v) (hq : (do eqGuard b T x y u v; binOp b T u v : Sem Value).run P w = .ok r w) : (execOp a.eval o).run P w = .ok (.value r) w := by
  unfold execOp
  rw [Sem.run_bind] at hq
  simp only [ho, hx, hy, Sem.run_bind, hq, Result.andThen_ok, Sem.run_pure]
theorem run_un {b : UnOp} {T : TypeId} {x : Operand} {u r : Value} (ho : o.op = .unOp b T x) (hx : a.eval x = u) (hq : (Op.unary b u).run P w = .ok r w) : (execOp a.eval o).run P w = .ok (.value r) w := by
  unfold execOp
  simp only [ho, hx, Sem.run_bind, hq, Result.andThen_ok, Sem.run_pure]
theorem run_conv {T T' : TypeId} {x : Operand} {u r : Value} {w' : World} (ho : o.op = .convert T T' x) (hx : a.eval x = u) (hq : (convert T T' u).run P w = .ok r w') : (execOp a.eval o).run P w = .ok (.value r) w' := by
  unfold execOp
  simp only [ho, hx, Sem.run_bind, hq, Result.andThen_ok, Sem.run_pure]
theorem run_extract {i : Nat} {x : Operand} {u r : Value} (ho : o.op = .extract x i) (hx : a.eval x = u) (hq : (Instr.extract u i).run P w = .ok r w) : (execOp a.eval o).run P w = .ok (.value r) w := by
  unfold execOp
  simp only [ho, hx, Sem.run_bind, hq, Result.andThen_ok, Sem.run_pure]
theorem run_call {f : FuncId} {xs : Array Operand} {ats : Array TypeId} {vs : Array Value} (ho : o.op = .call { callee := .value (.func f), args := xs, argTypes := ats }) (hx : xs.map a.eval = vs)
    (hen : ∀ (args : Array Value) (w : World), (callFunc f args).run P w = .ok (.enter f args) w) : (execOp a.eval o).run P w = .ok (.enter f vs) w := by
  have : execOp a.eval o = callFunc f (xs.map a.eval) := by
    obtain ⟨dst, op, ty, pos, after, guard⟩ := o
    have ho' : op = .call { callee := .value (.func f), args := xs, argTypes := ats } := ho
    subst ho'
    rw [execOp_call_go]
    simp
  rw [this, hen, hx]
/-- a literal slice of bytes: a block of its own. -/
theorem run_bytes {T n : Nat} {parts : Array (Nat × Operand)} {vs : List Value} (ho : o.op = .buildSlice T n parts) (e : TypeId) (_he : P.underlying T = some (.slice e)) (hrun : (Instr.buildSlice T n (parts.map fun (i, x) => (i, a.eval x))).run P w = .ok (.slice (some ⟨w.heap.size, 0, none⟩) n n) (w.alloc (.cells vs.toArray e))) :
    (execOp a.eval o).run P w = .ok (.value (.slice (some ⟨w.heap.size, 0, none⟩) n n)) (w.alloc (.cells vs.toArray e)) := by
  unfold execOp
  simp only [ho, Sem.run_bind, hrun, Result.andThen_ok, Sem.run_pure]
end

/-- a row of bytes of one's own, from block b on. -/
def RowIs (b : Nat) (xs : List UInt8) (v : Value) (w : World) : Prop := ∃ A c, v = .slice A xs.length c ∧ w.ownsRow b 5 1 v xs.length (xs.map bv)
/-- bytes that can be read. -/
def BytesAre (xs : List UInt8) (v : Value) (w : World) : Prop := ∃ A c, v = .slice A xs.length c ∧ RB w w.heap.size A xs
theorem RowIs.below {b : Nat} {xs : List UInt8} {v : Value} {w w' : World} (h : RowIs b xs v w) (hb : Below w.heap.size w w') : RowIs b xs v w' := by
  obtain ⟨A, c, rfl, ho⟩ := h
  exact ⟨A, c, rfl, own_below ho hb⟩
theorem BytesAre.below {xs : List UInt8} {v : Value} {w w' : World} (h : BytesAre xs v w) (hb : Below w.heap.size w w') : BytesAre xs v w' := by
  obtain ⟨A, c, rfl, ho⟩ := h
  exact ⟨A, c, rfl, ho.next hb⟩
theorem RowIs.base {b b' : Nat} {xs : List UInt8} {v : Value} {w : World} (h : RowIs b xs v w) (hb : b' ≤ b) : RowIs b' xs v w := by
  obtain ⟨A, c, rfl, ho⟩ := h
  exact ⟨A, c, rfl, own_base ho hb⟩
theorem RowIs.drew {b : Nat} {xs : List UInt8} {v : Value} {w : World} (h : RowIs b xs v w) : RowIs b xs v w.drew := h.below (Below.drew (Below.refl _ _))
theorem RowIs.nil (b : Nat) (w : World) : RowIs b [] (.slice none 0 0) w := ⟨none, 0, rfl, World.ownsRow_nil _ _ _ _⟩
def StartEv (N : Nat) (a : Act) (w : World) : List Ent → Prop
  | [] => True
  | t :: es => (N ≤ t.op → t.p (a.eval (.tmp t.slot)) w) ∧ StartEv N a w es
theorem InvB.start {n N : Nat} {fixed : List (Nat × Value)} {es : List Ent} {Wp : World → Prop} {a : Act} {w : World} (hz : a.tmps.size = n) (hd : a.defers = []) (hf : AllEv a fixed) (hv : StartEv N a w es) (hw : Wp w) : InvB n fixed es Wp (Array.replicate N false) a w := by
  refine ⟨hz, hd, hf, ?_, hw⟩
  intro t ht hl _
  have hN : N ≤ t.op := by
    rcases hl with h | h
    · simpa using h
    · rw [none_ran] at h; cases h
  clear hl hf hz hd hw
  induction es with
  | nil => cases ht
  | cons u es ih =>
    rcases List.mem_cons.1 ht with rfl | ht
    · exact hv.1 hN
    · exact ih hv.2 ht
theorem run_any {P : Program} {o : Oper} {a : Act} {w w' : World} {n : Nat} {l : List (Nat × Value)} {x : Next} (H : Has a n l) (hs : ∀ cs b, o.op ≠ .select cs b) (hk : o.op.operands.all (fun x => (evL l x).isSome) = true)
    (hrun : (execOp (fun x => (evL l x).getD undef) o).run P w = .ok x w') : (execOp a.eval o).run P w = .ok x w' := by
  rw [← hrun]
  congr 1
  refine execOp_congr o hs (fun x hx => ?_)
  obtain ⟨u, hu⟩ := Option.isSome_iff_exists.1 (Array.all_eq_true'.1 hk x hx)
  rw [H.ev hu, hu]
  rfl
end Go.Proofs.YtkcdkjpmbjcmdaaDoor

/-
  What is laid is read back, by both readers (plain Lean).
-/
namespace Go.Proofs.YtkcdkjpmbjcmdaaDoor
open Go.RowKit

theorem may_kind {m : Mq} (h : okOf m = true) : 1 ≤ m.kind ∧ m.kind ≤ 14 := by
  unfold okOf at h
  split at h
  · omega
  · split at h
    · omega
    · split at h
      · omega
      · split at h
        · next hk =>
          simp only [idKind, Bool.or_eq_true, beq_iff_eq] at hk
          omega
        · split at h
          · omega
          · split at h
            · omega
            · split at h
              · omega
              · simp only [bareKind, Bool.or_eq_true, beq_iff_eq] at h
                omega

theorem emp_nos {s : ByteArray} (h : emp s = true) : s = nos := by
  have h0 : s.size = 0 := by simpa [emp] using h
  cases s with
  | mk d =>
    have : d = #[] := Array.eq_empty_of_size_eq_zero h0
    rw [this]

/-- the flags of a packet that wants to be connected, read back. -/
theorem flags_bits (a b c d e : Bool) (q : Nat) (hq : q ≤ 2) :
    let F := UInt8.ofNat (cb a 2 + cb b 4 + 8 * q + cb c 32 + cb d 64 + cb e 128)
    bitB F 2 = a ∧ bitB F 4 = b ∧ bitB F 32 = c ∧ bitB F 64 = d ∧ bitB F 128 = e ∧ (F >>> 3 &&& 3).toNat = q := by
  obtain ⟨q', rfl⟩ : ∃ q' : Fin 3, q = q'.val := ⟨⟨q, by omega⟩, rfl⟩
  revert a b c d e q'
  decide

theorem pub_bits (d r : Bool) (q : Nat) (hq : q ≤ 2) (x : Nat) (hx : x = 0 ∨ x = 48) :
    let F := UInt8.ofNat (x + (cb d 8 + 2 * q + cb r 1))
    bitB F 8 = d ∧ bitB F 1 = r ∧ (F >>> 1 &&& 3).toNat = q := by
  obtain ⟨q', rfl⟩ : ∃ q' : Fin 3, q = q'.val := ⟨⟨q, by omega⟩, rfl⟩
  rcases hx with rfl | rfl <;> revert d r q' <;> decide

/-- a reader that reads what is laid. -/
structure Good (one : Rd → UInt8 × Rd) (two : Rd → Nat × Rd) (text : Rd → ByteArray × Rd) : Prop where
  o : ∀ x b, one (x :: b, false) = (x, (b, false))
  t : ∀ n b, n < 65536 → two (big 2 n ++ b, false) = (n, (b, false))
  s : ∀ s b, s.size < 65536 → text (strB s ++ b, false) = (s, (b, false))
theorem goodP : Good oneP twoP textP := ⟨oneP_cons, fun n b h => twoP_big n h b, fun s b h => textP_str s h b⟩
theorem goodR : Good oneR numR textR := ⟨oneR_cons, fun n b h => numR_big n h b, fun s b h => textR_str s h b⟩

theorem big2_nat {n : Int} (h0 : 0 ≤ n) : ((n.toNat : Nat) : Int) = n := by omega

theorem connect_back {one : Rd → UInt8 × Rd} {two : Rd → Nat × Rd} {text : Rd → ByteArray × Rd} (G : Good one two text) (m : Mq) (hk : m.kind = 1) (h : connectOk m = true) (s : Rd)
    (hs : s = (UInt8.ofNat (flagsC m) :: (big 2 m.keep.toNat ++ (strB m.client ++ ((if m.won then strB m.wt ++ strB m.wp else []) ++ ((if m.hu then strB m.user else []) ++ (if m.hp then strB m.pass else []))))), false)) :
    (connOf one two text s).mq = onlyOf m ∧ (connOf one two text s).s = ([], false) := by
  subst hs
  simp only [connectOk, Bool.and_eq_true, decide_eq_true_eq] at h
  obtain ⟨hc, hkp, hw, hu, hps, h1, h2⟩ := h
  have hkp := inRB_iff.1 hkp
  have hc' := textOk_size hc
  have hu' := textOk_size hu
  have hwq : m.wq.toNat ≤ 2 ∧ m.wt.size < 65536 ∧ m.wp.size < 65536 ∧ 0 ≤ m.wq ∧ (m.won = false → m.wt = nos ∧ m.wp = nos ∧ m.wq = 0 ∧ m.wr = false) := by
    unfold willOk at hw
    cases hwon : m.won with
    | true =>
      rw [hwon, if_pos rfl] at hw
      simp only [Bool.and_eq_true, decide_eq_true_eq] at hw
      obtain ⟨a, b, c⟩ := hw
      have := inRB_iff.1 c
      have := textOk_size a
      exact ⟨by omega, by omega, by omega, by omega, fun h => by cases h⟩
    | false =>
      rw [hwon, if_neg (by simp)] at hw
      simp only [Bool.and_eq_true, beq_iff_eq, Bool.not_eq_true'] at hw
      obtain ⟨a, b, c, d⟩ := hw
      rw [emp_nos a, emp_nos b, c, d]
      exact ⟨by decide, by decide, by decide, by decide, fun _ => ⟨rfl, rfl, rfl, rfl⟩⟩
  obtain ⟨hq2, hwt, hwp, hq0, hno⟩ := hwq
  have hF := flags_bits m.clean m.won m.wr m.hp m.hu m.wq.toNat hq2
  have hFe : cb m.clean 2 + cb m.won 4 + 8 * m.wq.toNat + cb m.wr 32 + cb m.hp 64 + cb m.hu 128 = flagsC m := rfl
  rw [hFe] at hF
  generalize UInt8.ofNat (flagsC m) = F at hF
  obtain ⟨b2, b4, b32, b64, b128, bq⟩ := hF
  have hus : m.hu = false → m.user = nos ∧ m.hp = false := by
    intro h
    rw [h] at h1
    simp only [Bool.false_or, Bool.and_eq_true, Bool.not_eq_true'] at h1
    exact ⟨emp_nos h1.1, h1.2⟩
  have hpsz : m.hp = false → m.pass = nos := by
    intro h
    rw [h] at h2
    exact emp_nos (by simpa using h2)
  have hk' : onlyOf m = { mq0 1 with client := m.client, clean := m.clean, keep := m.keep, won := m.won, wt := m.wt, wp := m.wp, wq := m.wq, wr := m.wr, user := m.user, hu := m.hu, pass := m.pass, hp := m.hp } := by
    unfold onlyOf
    rw [if_pos hk, hk]
  rw [hk']
  unfold connOf
  simp only [Conn.mq, G.o, G.t _ _ (show m.keep.toNat < 65536 by omega), G.s _ _ (show m.client.size < 65536 by omega), b2, b4, b32, b64, b128, bq]
  cases hwon : m.won with
  | true =>
    simp only [if_true, List.append_assoc, G.s _ _ hwt, G.s _ _ hwp]
    cases hhu : m.hu with
    | true =>
      simp only [if_true, G.s _ _ (show m.user.size < 65536 by omega)]
      cases hhp : m.hp with
      | true =>
        have := G.s m.pass [] (by omega)
        rw [List.append_nil] at this
        simp only [if_true, this]
        exact ⟨by rw [big2_nat hkp.1, big2_nat hq0, Bool.true_and], by first | rfl | trivial⟩
      | false =>
        simp only [Bool.false_eq_true, if_false]
        rw [hpsz hhp]
        exact ⟨by rw [big2_nat hkp.1, big2_nat hq0, Bool.true_and], by first | rfl | trivial⟩
    | false =>
      obtain ⟨e1, e2⟩ := hus hhu
      simp only [Bool.false_eq_true, if_false, e2, e1, hpsz e2]
      exact ⟨by rw [big2_nat hkp.1, big2_nat hq0, Bool.true_and], by first | rfl | trivial⟩
  | false =>
    obtain ⟨w1, w2, w3, w4⟩ := hno hwon
    simp only [Bool.false_eq_true, if_false, List.nil_append, w1, w2, w3, w4]
    cases hhu : m.hu with
    | true =>
      simp only [if_true, G.s _ _ (show m.user.size < 65536 by omega)]
      cases hhp : m.hp with
      | true =>
        have := G.s m.pass [] (by omega)
        rw [List.append_nil] at this
        simp only [if_true, this]
        exact ⟨by rw [big2_nat hkp.1, Bool.false_and], by first | rfl | trivial⟩
      | false =>
        simp only [Bool.false_eq_true, if_false]
        rw [hpsz hhp]
        exact ⟨by rw [big2_nat hkp.1, Bool.false_and], by first | rfl | trivial⟩
    | false =>
      obtain ⟨e1, e2⟩ := hus hhu
      simp only [Bool.false_eq_true, if_false, e2, e1, hpsz e2]
      exact ⟨by rw [big2_nat hkp.1, Bool.false_and], by first | rfl | trivial⟩

theorem seven (F : UInt8) (r : List UInt8) : big 2 4 ++ [77, 81, 84, 84] ++ [4, F] ++ r = [0, 4, 77, 81, 84, 84, 4] ++ (F :: r) := rfl
theorem connectP (m : Mq) (hk : m.kind = 1) (h : connectOk m = true) : (connP (connectBy m, false)).mq = onlyOf m ∧ (connP (connectBy m, false)).s = ([], false) := by
  unfold connP connectBy
  simp only [List.append_assoc]
  rw [show big 2 4 ++ ([77, 81, 84, 84] ++ ([4, UInt8.ofNat (flagsC m)] ++ (big 2 m.keep.toNat ++ (strB m.client ++ ((if m.won = true then strB m.wt ++ strB m.wp else []) ++ ((if m.hu = true then strB m.user else []) ++ (if m.hp = true then strB m.pass else []))))))) =
    [0, 4, 77, 81, 84, 84, 4] ++ (UInt8.ofNat (flagsC m) :: (big 2 m.keep.toNat ++ (strB m.client ++ ((if m.won = true then strB m.wt ++ strB m.wp else []) ++ ((if m.hu = true then strB m.user else []) ++ (if m.hp = true then strB m.pass else [])))))) from rfl]
  rw [takeP_app _ _ 7 rfl]
  exact connect_back goodP m hk h _ rfl
theorem connectR (m : Mq) (hk : m.kind = 1) (h : connectOk m = true) : (connR (connectBy m, false)).mq = onlyOf m ∧ (connR (connectBy m, false)).s = ([], false) := by
  unfold connR connectBy
  simp only [List.append_assoc]
  rw [show big 2 4 ++ ([77, 81, 84, 84] ++ ([4, UInt8.ofNat (flagsC m)] ++ (big 2 m.keep.toNat ++ (strB m.client ++ ((if m.won = true then strB m.wt ++ strB m.wp else []) ++ ((if m.hu = true then strB m.user else []) ++ (if m.hp = true then strB m.pass else []))))))) =
    [0, 4, 77, 81, 84, 84, 4] ++ (UInt8.ofNat (flagsC m) :: (big 2 m.keep.toNat ++ (strB m.client ++ ((if m.won = true then strB m.wt ++ strB m.wp else []) ++ ((if m.hu = true then strB m.user else []) ++ (if m.hp = true then strB m.pass else [])))))) from rfl]
  rw [takeR_app _ _ 7 rfl]
  exact connect_back goodR m hk h _ rfl

theorem ne_zero_q (F : UInt8) (q : Nat) (h : (F >>> 1 &&& 3).toNat = q) : (F >>> 1 &&& 3 != 0) = decide (0 < q) := by
  subst h
  rw [Bool.eq_iff_iff, bne_iff_ne, decide_eq_true_eq]
  constructor
  · intro h
    rcases Nat.eq_zero_or_pos (F >>> 1 &&& 3).toNat with h0 | h0
    · exact absurd (UInt8.toNat_inj.1 (by rw [h0]; rfl)) h
    · exact h0
  · intro h e
    rw [e] at h
    exact absurd h (by decide)

theorem publish_facts {m : Mq} (h : publishOk m = true) : m.topic.size ≤ 64 ∧ 0 ≤ m.qos ∧ m.qos ≤ 2 ∧ (0 < m.qos → 1 ≤ m.id ∧ m.id ≤ 65535) ∧ (m.qos = 0 → m.id = 0) ∧ m.payload.size ≤ 128 := by
  simp only [publishOk, topicOk, Bool.and_eq_true, decide_eq_true_eq, Bool.or_eq_true, beq_iff_eq] at h
  obtain ⟨⟨ht, _⟩, hq, hi, hp⟩ := h
  have ht := textOk_size ht
  have hq := inRB_iff.1 hq
  refine ⟨by omega, hq.1, hq.2, fun h => ?_, fun h => ?_, by omega⟩
  · rcases hi with ⟨_, hi⟩ | ⟨hi, _⟩
    · have := inRB_iff.1 hi
      omega
    · omega
  · rcases hi with ⟨hi, _⟩ | ⟨_, hi, _⟩
    · omega
    · exact hi

theorem publish_backP (m : Mq) (hk : m.kind = 3) (h : publishOk m = true) (F : UInt8) (b8 : bitB F 8 = m.dup) (b1 : bitB F 1 = m.retain) (bq : (F >>> 1 &&& 3).toNat = m.qos.toNat) : pubP F (publishBy m, false) = (onlyOf m, ([], false)) := by
  obtain ⟨ht, hq0, hq2, hi, hz, hp⟩ := publish_facts h
  have hk' : onlyOf m = { mq0 3 with topic := m.topic, qos := m.qos, dup := m.dup, retain := m.retain, id := m.id, payload := m.payload } := by
    unfold onlyOf
    rw [if_neg (by omega), if_neg (by omega), if_pos hk, hk]
  rw [hk']
  unfold pubP publishBy
  simp only [List.append_assoc, textP_str _ (show m.topic.size < 65536 by omega), ne_zero_q F _ bq, pubMq, b8, b1, bq]
  by_cases hq : 0 < m.qos
  · obtain ⟨i1, i2⟩ := hi hq
    have hd : decide (0 < m.qos.toNat) = true := by simp; omega
    simp only [hd, if_pos hq, if_true, twoP_big _ (show m.id.toNat < 65536 by omega)]
    have hta := takeP_app (sb m.payload) [] _ rfl
    rw [List.append_nil] at hta
    simp only [hta, mkS_sb]
    rw [big2_nat hq0, big2_nat (show 0 ≤ m.id by omega)]
  · have hq' : m.qos = 0 := by omega
    have hd : decide (0 < m.qos.toNat) = false := by simp; omega
    simp only [hd, if_neg (show ¬ 0 < m.qos by omega), Bool.false_eq_true, if_false, List.nil_append]
    have hta := takeP_app (sb m.payload) [] _ rfl
    rw [List.append_nil] at hta
    simp only [hta, mkS_sb]
    rw [big2_nat hq0, hz hq']
theorem publish_backR (m : Mq) (hk : m.kind = 3) (h : publishOk m = true) (F : UInt8) (b8 : bitB F 8 = m.dup) (b1 : bitB F 1 = m.retain) (bq : (F >>> 1 &&& 3).toNat = m.qos.toNat) : ∃ s, pubR F (publishBy m, false) = (onlyOf m, (s, false)) := by
  obtain ⟨ht, hq0, hq2, hi, hz, hp⟩ := publish_facts h
  have hk' : onlyOf m = { mq0 3 with topic := m.topic, qos := m.qos, dup := m.dup, retain := m.retain, id := m.id, payload := m.payload } := by
    unfold onlyOf
    rw [if_neg (by omega), if_neg (by omega), if_pos hk, hk]
  rw [hk']
  unfold pubR publishBy
  simp only [List.append_assoc, textR_str _ (show m.topic.size < 65536 by omega), ne_zero_q F _ bq, pubMq, b8, b1, bq]
  by_cases hq : 0 < m.qos
  · obtain ⟨i1, i2⟩ := hi hq
    have hd : decide (0 < m.qos.toNat) = true := by simp; omega
    simp only [hd, if_pos hq, if_true, numR_big _ (show m.id.toNat < 65536 by omega), mkS_sb]
    rw [big2_nat hq0, big2_nat (show 0 ≤ m.id by omega)]
    exact ⟨_, rfl⟩
  · have hq' : m.qos = 0 := by omega
    have hd : decide (0 < m.qos.toNat) = false := by simp; omega
    simp only [hd, if_neg (show ¬ 0 < m.qos by omega), Bool.false_eq_true, if_false, List.nil_append, mkS_sb]
    rw [big2_nat hq0, hz hq']
    exact ⟨_, rfl⟩

theorem wishesAll_mem {l : List (ByteArray × Int)} {x : ByteArray × Int} {xs : List (ByteArray × Int)} (e : l = x :: xs) (h : wishesAll l = true) : x.1.size ≤ 64 ∧ 0 ≤ x.2 ∧ x.2 ≤ 2 ∧ wishesAll xs = true := by
  subst e
  simp only [wishesAll, Bool.and_eq_true] at h
  obtain ⟨⟨a, b⟩, c⟩ := h
  have := textOk_size a
  have := inRB_iff.1 b
  exact ⟨by omega, by omega, by omega, c⟩
theorem filtersAll_mem {l : List ByteArray} {x : ByteArray} {xs : List ByteArray} (e : l = x :: xs) (h : filtersAll l = true) : x.size ≤ 64 ∧ filtersAll xs = true := by
  subst e
  simp only [filtersAll, Bool.and_eq_true] at h
  have := textOk_size h.1
  exact ⟨by omega, h.2⟩
theorem codesAll_mem {l : List Int} {x : Int} {xs : List Int} (e : l = x :: xs) (h : codesAll l = true) : 0 ≤ x ∧ x ≤ 128 ∧ codesAll xs = true := by
  subst e
  simp only [codesAll, Bool.and_eq_true, Bool.or_eq_true, beq_iff_eq] at h
  obtain ⟨a, b⟩ := h
  rcases a with a | a
  · have := inRB_iff.1 a
    exact ⟨by omega, by omega, b⟩
  · exact ⟨by omega, by omega, b⟩
theorem byte_back {x : Int} (h0 : 0 ≤ x) (h1 : x ≤ 255) : ((UInt8.ofNat x.toNat).toNat : Int) = x := by
  rw [UInt8.toNat_ofNat']
  omega

theorem loopP8 (l : List (ByteArray × Int)) (h : wishesAll l = true) : ∀ (f : Nat) (m : Mq), l.length < f → loopP 8 f m (wishesBy l, false) = ({ m with wishes := m.wishes ++ l }, ([], false)) := by
  induction l with
  | nil =>
    intro f m hf
    cases f with
    | zero => omega
    | succ f => simp [loopP, wishesBy]
  | cons x xs ih =>
    intro f m hf
    obtain ⟨a, b, c, d⟩ := wishesAll_mem rfl h
    cases f with
    | zero => omega
    | succ f =>
      have hb : wishesBy (x :: xs) = strB x.1 ++ (UInt8.ofNat x.2.toNat :: wishesBy xs) := by simp [wishesBy]
      have hl : 0 < (strB x.1 ++ (UInt8.ofNat x.2.toNat :: wishesBy xs)).length := by simp; omega
      rw [hb, loopP]
      simp only [hl, and_self, if_true, textP_str _ (show x.1.size < 65536 by omega), oneP_cons, byte_back b (by omega)]
      rw [ih d f _ (by simp at hf; omega)]
      simp
theorem loopR8 (l : List (ByteArray × Int)) (h : wishesAll l = true) : ∀ (f : Nat) (m : Mq), l.length ≤ f → loopR 8 f m (wishesBy l, false) = ({ m with wishes := m.wishes ++ l }, ([], false)) := by
  induction l with
  | nil =>
    intro f m hf
    cases f with
    | zero => simp [loopR, wishesBy]
    | succ f => simp [loopR, wishesBy]
  | cons x xs ih =>
    intro f m hf
    obtain ⟨a, b, c, d⟩ := wishesAll_mem rfl h
    cases f with
    | zero => simp at hf
    | succ f =>
      have hb : wishesBy (x :: xs) = strB x.1 ++ (UInt8.ofNat x.2.toNat :: wishesBy xs) := by simp [wishesBy]
      have hl : 0 < (strB x.1 ++ (UInt8.ofNat x.2.toNat :: wishesBy xs)).length := by simp; omega
      rw [hb, loopR]
      simp only [hl, if_true, textR_str _ (show x.1.size < 65536 by omega), oneR_cons, byte_back b (by omega)]
      rw [ih d f _ (by simp at hf; omega)]
      simp
theorem loopP9 (l : List Int) (h : codesAll l = true) : ∀ (f : Nat) (m : Mq), l.length < f → loopP 9 f m (codesBy l, false) = ({ m with codes := m.codes ++ l }, ([], false)) := by
  induction l with
  | nil =>
    intro f m hf
    cases f with
    | zero => omega
    | succ f => simp [loopP, codesBy]
  | cons x xs ih =>
    intro f m hf
    obtain ⟨a, b, d⟩ := codesAll_mem rfl h
    cases f with
    | zero => omega
    | succ f =>
      rw [show codesBy (x :: xs) = UInt8.ofNat x.toNat :: codesBy xs from rfl, loopP]
      simp only [List.length_cons, Nat.zero_lt_succ, and_self, if_true, show ¬ ((9 : Int) = 8) by decide, if_false, oneP_cons, byte_back a (by omega)]
      rw [ih d f _ (by simp at hf; omega)]
      simp
theorem loopR9 (l : List Int) (h : codesAll l = true) : ∀ (f : Nat) (m : Mq), l.length ≤ f → loopR 9 f m (codesBy l, false) = ({ m with codes := m.codes ++ l }, ([], false)) := by
  induction l with
  | nil =>
    intro f m hf
    cases f with
    | zero => simp [loopR, codesBy]
    | succ f => simp [loopR, codesBy]
  | cons x xs ih =>
    intro f m hf
    obtain ⟨a, b, d⟩ := codesAll_mem rfl h
    cases f with
    | zero => simp at hf
    | succ f =>
      rw [show codesBy (x :: xs) = UInt8.ofNat x.toNat :: codesBy xs from rfl, loopR]
      simp only [List.length_cons, Nat.zero_lt_succ, if_true, show ¬ ((9 : Int) = 8) by decide, if_false, oneR_cons, byte_back a (by omega)]
      rw [ih d f _ (by simp at hf; omega)]
      simp
theorem loopP10 (l : List ByteArray) (h : filtersAll l = true) : ∀ (f : Nat) (m : Mq), l.length < f → loopP 10 f m (filtersBy l, false) = ({ m with filters := m.filters ++ l }, ([], false)) := by
  induction l with
  | nil =>
    intro f m hf
    cases f with
    | zero => omega
    | succ f => simp [loopP, filtersBy]
  | cons x xs ih =>
    intro f m hf
    obtain ⟨a, d⟩ := filtersAll_mem rfl h
    cases f with
    | zero => omega
    | succ f =>
      have hl : 0 < (strB x ++ filtersBy xs).length := by simp [strB, big_length]; omega
      rw [show filtersBy (x :: xs) = strB x ++ filtersBy xs from rfl, loopP]
      simp only [hl, and_self, if_true, show ¬ ((10 : Int) = 8) by decide, show ¬ ((10 : Int) = 9) by decide, if_false, textP_str _ (show x.size < 65536 by omega)]
      rw [ih d f _ (by simp at hf; omega)]
      simp
theorem loopR10 (l : List ByteArray) (h : filtersAll l = true) : ∀ (f : Nat) (m : Mq), l.length ≤ f → loopR 10 f m (filtersBy l, false) = ({ m with filters := m.filters ++ l }, ([], false)) := by
  induction l with
  | nil =>
    intro f m hf
    cases f with
    | zero => simp [loopR, filtersBy]
    | succ f => simp [loopR, filtersBy]
  | cons x xs ih =>
    intro f m hf
    obtain ⟨a, d⟩ := filtersAll_mem rfl h
    cases f with
    | zero => simp at hf
    | succ f =>
      have hl : 0 < (strB x ++ filtersBy xs).length := by simp [strB, big_length]; omega
      rw [show filtersBy (x :: xs) = strB x ++ filtersBy xs from rfl, loopR]
      simp only [hl, if_true, show ¬ ((10 : Int) = 8) by decide, show ¬ ((10 : Int) = 9) by decide, if_false, textR_str _ (show x.size < 65536 by omega)]
      rw [ih d f _ (by simp at hf; omega)]
      simp
end Go.Proofs.YtkcdkjpmbjcmdaaDoor

/-
  A packet's length at its head, and what a parser answers at any bytes (plain Lean).
-/
namespace Go.Proofs.YtkcdkjpmbjcmdaaDoor
open Go.RowKit

def loB (x : UInt8) : UInt8 := x &&& 15
theorem first_parts (k f : Nat) (hk : k ≤ 14) (hf : f ≤ 15) : (UInt8.ofNat (16 * k + f)).toNat / 16 = k ∧ loB (UInt8.ofNat (16 * k + f)) = UInt8.ofNat f := by
  obtain ⟨k', rfl⟩ : ∃ k' : Fin 15, k = k'.val := ⟨⟨k, by omega⟩, rfl⟩
  obtain ⟨f', rfl⟩ : ∃ f' : Fin 16, f = f'.val := ⟨⟨f, by omega⟩, rfl⟩
  revert k' f'
  decide

theorem flagsBy_le {m : Mq} (h : okOf m = true) : flagsBy m ≤ 15 := by
  unfold flagsBy
  split
  · next hk =>
    have h' : publishOk m = true := by
      unfold okOf at h
      rw [if_neg (by omega), if_neg (by omega), if_pos hk] at h
      exact h
    obtain ⟨_, h0, h2, _⟩ := publish_facts h'
    have : cb m.dup 8 ≤ 8 := by unfold cb; split <;> omega
    have : cb m.retain 1 ≤ 1 := by unfold cb; split <;> omega
    omega
  · split
    · omega
    · split
      · omega
      · split <;> omega

/-- what is known of a packet that may be, by its kind. -/
theorem readP_back {m : Mq} (h : mayB m) : readP m.kind (UInt8.ofNat (flagsBy m)) (bodyBy m, false) = (m, ([], false)) := by
  obtain ⟨h, ho⟩ := h
  have hkk := may_kind h
  have ids : ∀ {n : Int}, inRB n 1 65535 = true → 0 ≤ n ∧ n.toNat < 65536 := fun h => by have := inRB_iff.1 h; omega
  unfold readP
  by_cases k1 : m.kind = 1
  · have hc : connectOk m = true := by unfold okOf at h; rw [if_pos k1] at h; exact h
    obtain ⟨a, b⟩ := connectP m k1 hc
    rw [if_pos k1, show bodyBy m = connectBy m by unfold bodyBy; rw [if_pos k1], a, b, ← ho]
  rw [if_neg k1]
  by_cases k2 : m.kind = 2
  · have hc : (inRB m.code 0 5 && (!m.present || m.code == 0)) = true := by unfold okOf at h; rw [if_neg k1, if_pos k2] at h; exact h
    simp only [Bool.and_eq_true] at hc
    have hc := inRB_iff.1 hc.1
    rw [if_pos k2, show bodyBy m = [UInt8.ofNat (cb m.present 1), UInt8.ofNat m.code.toNat] by unfold bodyBy; rw [if_neg k1, if_pos k2]]
    simp only [oneP_cons, byte_back hc.1 (by omega)]
    have hp : (UInt8.ofNat (cb m.present 1) == 1) = m.present := by cases m.present <;> rfl
    rw [hp]
    have e : onlyOf m = { mq0 m.kind with present := m.present, code := m.code } := by unfold onlyOf; rw [if_neg k1, if_pos k2]
    rw [← e, ← ho]
  rw [if_neg k2]
  by_cases k3 : m.kind = 3
  · have hc : publishOk m = true := by unfold okOf at h; rw [if_neg k1, if_neg k2, if_pos k3] at h; exact h
    obtain ⟨_, h0, hq2, _⟩ := publish_facts hc
    have hb := pub_bits m.dup m.retain m.qos.toNat (by omega) 0 (.inl rfl)
    rw [Nat.zero_add, show cb m.dup 8 + 2 * m.qos.toNat + cb m.retain 1 = flagsBy m by unfold flagsBy; rw [if_pos k3]] at hb
    rw [if_pos k3, show bodyBy m = publishBy m by unfold bodyBy; rw [if_neg k1, if_neg k2, if_pos k3], publish_backP m k3 hc _ hb.1 hb.2.1 hb.2.2, ← ho]
  rw [if_neg k3]
  by_cases k8 : m.kind = 8
  · have hc : (inRB m.id 1 65535 && wishesOk m.wishes) = true := by
      unfold okOf at h; rw [if_neg k1, if_neg k2, if_neg k3, if_neg (by simp [idKind, k8]), if_pos k8] at h; exact h
    simp only [Bool.and_eq_true, wishesOk] at hc
    obtain ⟨i0, i1⟩ := ids hc.1
    rw [if_pos (by simp [listKind, k8]), show bodyBy m = big 2 m.id.toNat ++ wishesBy m.wishes by unfold bodyBy; rw [if_neg k1, if_neg k2, if_neg k3, if_pos k8]]
    simp only [twoP_big _ i1, big2_nat i0, k8]
    have hl : ∀ l : List (ByteArray × Int), l.length ≤ (wishesBy l).length := by
      intro l
      induction l with
      | nil => simp [wishesBy]
      | cons x xs ih => simp [wishesBy]; omega
    rw [loopP8 _ hc.2.1 _ _ (by have := hl m.wishes; omega)]
    have e : onlyOf m = { mq0 m.kind with id := m.id, wishes := m.wishes } := by
      unfold onlyOf; rw [if_neg k1, if_neg k2, if_neg k3, if_neg (by simp [idKind, k8]), if_pos k8]
    rw [k8] at e
    rw [ho, e]
    rfl
  by_cases k9 : m.kind = 9
  · have hc : (inRB m.id 1 65535 && codesOk m.codes) = true := by
      unfold okOf at h; rw [if_neg k1, if_neg k2, if_neg k3, if_neg (by simp [idKind, k9]), if_neg k8, if_pos k9] at h; exact h
    simp only [Bool.and_eq_true, codesOk] at hc
    obtain ⟨i0, i1⟩ := ids hc.1
    rw [if_pos (by simp [listKind, k9]), show bodyBy m = big 2 m.id.toNat ++ codesBy m.codes by unfold bodyBy; rw [if_neg k1, if_neg k2, if_neg k3, if_neg k8, if_pos k9]]
    simp only [twoP_big _ i1, big2_nat i0, k9]
    have hl : ∀ l : List Int, l.length ≤ (codesBy l).length := by
      intro l
      induction l with
      | nil => simp [codesBy]
      | cons x xs ih => simp [codesBy]; omega
    rw [loopP9 _ hc.2.1 _ _ (by have := hl m.codes; omega)]
    have e : onlyOf m = { mq0 m.kind with id := m.id, codes := m.codes } := by
      unfold onlyOf; rw [if_neg k1, if_neg k2, if_neg k3, if_neg (by simp [idKind, k9]), if_neg k8, if_pos k9]
    rw [k9] at e
    rw [ho, e]
    rfl
  by_cases k10 : m.kind = 10
  · have hc : (inRB m.id 1 65535 && filtersOk m.filters) = true := by
      unfold okOf at h; rw [if_neg k1, if_neg k2, if_neg k3, if_neg (by simp [idKind, k10]), if_neg k8, if_neg k9, if_pos k10] at h; exact h
    simp only [Bool.and_eq_true, filtersOk] at hc
    obtain ⟨i0, i1⟩ := ids hc.1
    rw [if_pos (by simp [listKind, k10]), show bodyBy m = big 2 m.id.toNat ++ filtersBy m.filters by unfold bodyBy; rw [if_neg k1, if_neg k2, if_neg k3, if_neg k8, if_neg k9, if_pos k10]]
    simp only [twoP_big _ i1, big2_nat i0, k10]
    have hl : ∀ l : List ByteArray, l.length ≤ (filtersBy l).length := by
      intro l
      induction l with
      | nil => simp [filtersBy]
      | cons x xs ih => simp [filtersBy, strB, big_length]; omega
    rw [loopP10 _ hc.2.1 _ _ (by have := hl m.filters; omega)]
    have e : onlyOf m = { mq0 m.kind with id := m.id, filters := m.filters } := by
      unfold onlyOf; rw [if_neg k1, if_neg k2, if_neg k3, if_neg (by simp [idKind, k10]), if_neg k8, if_neg k9, if_pos k10]
    rw [k10] at e
    rw [ho, e]
    rfl
  rw [if_neg (by simp [listKind, k8, k9, k10])]
  by_cases ki : idKind m.kind = true
  · have hc : inRB m.id 1 65535 = true := by
      unfold okOf at h; rw [if_neg k1, if_neg k2, if_neg k3, if_pos ki] at h; exact h
    obtain ⟨i0, i1⟩ := ids hc
    have kb : ¬ bareKind m.kind = true := by
      simp only [idKind, Bool.or_eq_true, beq_iff_eq] at ki
      simp only [bareKind, Bool.or_eq_true, beq_iff_eq]
      omega
    rw [if_pos ki, show bodyBy m = big 2 m.id.toNat by unfold bodyBy; rw [if_neg k1, if_neg k2, if_neg k3, if_neg k8, if_neg k9, if_neg k10, if_neg kb]]
    have := twoP_big _ i1 []
    rw [List.append_nil] at this
    simp only [this, big2_nat i0]
    have e : onlyOf m = { mq0 m.kind with id := m.id } := by unfold onlyOf; rw [if_neg k1, if_neg k2, if_neg k3, if_pos ki]
    rw [← e, ← ho]
  rw [if_neg ki]
  have kb : bareKind m.kind = true := by
    unfold okOf at h; rw [if_neg k1, if_neg k2, if_neg k3, if_neg ki, if_neg k8, if_neg k9, if_neg k10] at h; exact h
  rw [show bodyBy m = [] by unfold bodyBy; rw [if_neg k1, if_neg k2, if_neg k3, if_neg k8, if_neg k9, if_neg k10, if_pos kb]]
  have e : onlyOf m = mq0 m.kind := by unfold onlyOf; rw [if_neg k1, if_neg k2, if_neg k3, if_neg ki, if_neg k8, if_neg k9, if_neg k10]
  rw [← e, ← ho]

theorem loopR_skip (k : Int) (h8 : k ≠ 8) (h9 : k ≠ 9) (h10 : k ≠ 10) : ∀ (f : Nat) (m : Mq) (s : Rd), loopR k f m s = (m, s) := by
  intro f
  induction f with
  | zero => intro m s; rfl
  | succ f ih =>
    intro m s
    rw [loopR]
    split
    · exact ih m s
    · rfl

theorem readR_back {m : Mq} (h : mayB m) : ∃ s, readR m.kind (UInt8.ofNat (16 * m.kind.toNat + flagsBy m)) (bodyBy m, false) = (m, (s, false)) := by
  obtain ⟨h, ho⟩ := h
  have hkk := may_kind h
  have ids : ∀ {n : Int}, inRB n 1 65535 = true → 0 ≤ n ∧ n.toNat < 65536 := fun h => by have := inRB_iff.1 h; omega
  unfold readR
  by_cases k1 : m.kind = 1
  · have hc : connectOk m = true := by unfold okOf at h; rw [if_pos k1] at h; exact h
    obtain ⟨a, b⟩ := connectR m k1 hc
    rw [if_pos k1, show bodyBy m = connectBy m by unfold bodyBy; rw [if_pos k1], a, b, ← ho]
    exact ⟨_, rfl⟩
  rw [if_neg k1]
  by_cases k2 : m.kind = 2
  · have hc : (inRB m.code 0 5 && (!m.present || m.code == 0)) = true := by unfold okOf at h; rw [if_neg k1, if_pos k2] at h; exact h
    simp only [Bool.and_eq_true] at hc
    have hc := inRB_iff.1 hc.1
    rw [if_pos k2, show bodyBy m = [UInt8.ofNat (cb m.present 1), UInt8.ofNat m.code.toNat] by unfold bodyBy; rw [if_neg k1, if_pos k2]]
    have ht := takeR_app [UInt8.ofNat (cb m.present 1), UInt8.ofNat m.code.toNat] [] 2 rfl
    rw [List.append_nil] at ht
    simp only [ht, List.getD_cons_zero, List.getD_cons_succ, byte_back hc.1 (by omega)]
    have hp : (UInt8.ofNat (cb m.present 1) == 1) = m.present := by cases m.present <;> rfl
    rw [hp]
    have e : onlyOf m = { mq0 m.kind with present := m.present, code := m.code } := by unfold onlyOf; rw [if_neg k1, if_pos k2]
    rw [← e, ← ho]
    exact ⟨_, rfl⟩
  rw [if_neg k2]
  by_cases k3 : m.kind = 3
  · have hc : publishOk m = true := by unfold okOf at h; rw [if_neg k1, if_neg k2, if_pos k3] at h; exact h
    obtain ⟨_, h0, hq2, _⟩ := publish_facts hc
    have hb := pub_bits m.dup m.retain m.qos.toNat (by omega) 48 (.inr rfl)
    rw [show cb m.dup 8 + 2 * m.qos.toNat + cb m.retain 1 = flagsBy m by unfold flagsBy; rw [if_pos k3], show 48 = 16 * m.kind.toNat by rw [k3]; rfl] at hb
    obtain ⟨s, hs⟩ := publish_backR m k3 hc _ hb.1 hb.2.1 hb.2.2
    rw [if_pos k3, show bodyBy m = publishBy m by unfold bodyBy; rw [if_neg k1, if_neg k2, if_pos k3], hs, ← ho]
    exact ⟨_, rfl⟩
  rw [if_neg k3]
  by_cases kb : bareKind m.kind = true
  · have kb' := kb
    simp only [bareKind, Bool.or_eq_true, beq_iff_eq] at kb'
    have ki : ¬ idKind m.kind = true := by
      simp only [idKind, Bool.or_eq_true, beq_iff_eq]
      omega
    rw [if_pos kb, show bodyBy m = [] by unfold bodyBy; rw [if_neg k1, if_neg k2, if_neg k3, if_neg (by omega), if_neg (by omega), if_neg (by omega), if_pos kb]]
    have e : onlyOf m = mq0 m.kind := by unfold onlyOf; rw [if_neg k1, if_neg k2, if_neg k3, if_neg ki, if_neg (by omega), if_neg (by omega), if_neg (by omega)]
    rw [← e, ← ho]
    exact ⟨_, rfl⟩
  rw [if_neg kb]
  by_cases k8 : m.kind = 8
  · have hc : (inRB m.id 1 65535 && wishesOk m.wishes) = true := by
      unfold okOf at h; rw [if_neg k1, if_neg k2, if_neg k3, if_neg (by simp [idKind, k8]), if_pos k8] at h; exact h
    simp only [Bool.and_eq_true, wishesOk] at hc
    obtain ⟨i0, i1⟩ := ids hc.1
    have hl := inRB_iff.1 hc.2.2
    rw [show bodyBy m = big 2 m.id.toNat ++ wishesBy m.wishes by unfold bodyBy; rw [if_neg k1, if_neg k2, if_neg k3, if_pos k8]]
    simp only [numR_big _ i1, big2_nat i0, k8]
    rw [loopR8 _ hc.2.1 _ _ (by omega)]
    have e : onlyOf m = { mq0 m.kind with id := m.id, wishes := m.wishes } := by
      unfold onlyOf; rw [if_neg k1, if_neg k2, if_neg k3, if_neg (by simp [idKind, k8]), if_pos k8]
    rw [k8] at e
    refine ⟨[], ?_⟩
    rw [ho, e]
    rfl
  by_cases k9 : m.kind = 9
  · have hc : (inRB m.id 1 65535 && codesOk m.codes) = true := by
      unfold okOf at h; rw [if_neg k1, if_neg k2, if_neg k3, if_neg (by simp [idKind, k9]), if_neg k8, if_pos k9] at h; exact h
    simp only [Bool.and_eq_true, codesOk] at hc
    obtain ⟨i0, i1⟩ := ids hc.1
    have hl := inRB_iff.1 hc.2.2
    rw [show bodyBy m = big 2 m.id.toNat ++ codesBy m.codes by unfold bodyBy; rw [if_neg k1, if_neg k2, if_neg k3, if_neg k8, if_pos k9]]
    simp only [numR_big _ i1, big2_nat i0, k9]
    rw [loopR9 _ hc.2.1 _ _ (by omega)]
    have e : onlyOf m = { mq0 m.kind with id := m.id, codes := m.codes } := by
      unfold onlyOf; rw [if_neg k1, if_neg k2, if_neg k3, if_neg (by simp [idKind, k9]), if_neg k8, if_pos k9]
    rw [k9] at e
    refine ⟨[], ?_⟩
    rw [ho, e]
    rfl
  by_cases k10 : m.kind = 10
  · have hc : (inRB m.id 1 65535 && filtersOk m.filters) = true := by
      unfold okOf at h; rw [if_neg k1, if_neg k2, if_neg k3, if_neg (by simp [idKind, k10]), if_neg k8, if_neg k9, if_pos k10] at h; exact h
    simp only [Bool.and_eq_true, filtersOk] at hc
    obtain ⟨i0, i1⟩ := ids hc.1
    have hl := inRB_iff.1 hc.2.2
    rw [show bodyBy m = big 2 m.id.toNat ++ filtersBy m.filters by unfold bodyBy; rw [if_neg k1, if_neg k2, if_neg k3, if_neg k8, if_neg k9, if_pos k10]]
    simp only [numR_big _ i1, big2_nat i0, k10]
    rw [loopR10 _ hc.2.1 _ _ (by omega)]
    have e : onlyOf m = { mq0 m.kind with id := m.id, filters := m.filters } := by
      unfold onlyOf; rw [if_neg k1, if_neg k2, if_neg k3, if_neg (by simp [idKind, k10]), if_neg k8, if_neg k9, if_pos k10]
    rw [k10] at e
    refine ⟨[], ?_⟩
    rw [ho, e]
    rfl
  have ki : idKind m.kind = true := by
    simp only [bareKind, Bool.or_eq_true, beq_iff_eq] at kb
    simp only [idKind, Bool.or_eq_true, beq_iff_eq]
    omega
  have hc : inRB m.id 1 65535 = true := by
    unfold okOf at h; rw [if_neg k1, if_neg k2, if_neg k3, if_pos ki] at h; exact h
  obtain ⟨i0, i1⟩ := ids hc
  rw [show bodyBy m = big 2 m.id.toNat by unfold bodyBy; rw [if_neg k1, if_neg k2, if_neg k3, if_neg k8, if_neg k9, if_neg k10, if_neg kb]]
  have := numR_big _ i1 []
  rw [List.append_nil] at this
  rw [loopR_skip _ k8 k9 k10, this, big2_nat i0]
  have e : onlyOf m = { mq0 m.kind with id := m.id } := by unfold onlyOf; rw [if_neg k1, if_neg k2, if_neg k3, if_pos ki]
  rw [← e, ← ho]
  exact ⟨_, rfl⟩

/-! how long -/
theorem strB_length (s : ByteArray) : (strB s).length = 2 + s.size := by simp [strB, big_length]
theorem wishesBy_le : ∀ (l : List (ByteArray × Int)), wishesAll l = true → (wishesBy l).length ≤ 67 * l.length
  | [], _ => by simp [wishesBy]
  | x :: xs, h => by
    obtain ⟨a, _, _, d⟩ := wishesAll_mem rfl h
    have := wishesBy_le xs d
    simp [wishesBy, strB_length]
    omega
theorem codesBy_le : ∀ (l : List Int), (codesBy l).length = l.length
  | [] => rfl
  | x :: xs => by simp [codesBy, codesBy_le xs]
theorem filtersBy_le : ∀ (l : List ByteArray), filtersAll l = true → (filtersBy l).length ≤ 66 * l.length
  | [], _ => by simp [filtersBy]
  | x :: xs, h => by
    obtain ⟨a, d⟩ := filtersAll_mem rfl h
    have := filtersBy_le xs d
    simp [filtersBy, strB_length]
    omega
theorem body_le {m : Mq} (h : okOf m = true) : (bodyBy m).length ≤ 540 := by
  have hkk := may_kind h
  unfold bodyBy
  by_cases k1 : m.kind = 1
  · have hc : connectOk m = true := by unfold okOf at h; rw [if_pos k1] at h; exact h
    rw [if_pos k1]
    simp only [connectOk, Bool.and_eq_true, decide_eq_true_eq] at hc
    obtain ⟨hc, hkp, hw, hu, hps, h1, h2⟩ := hc
    have hc' := textOk_size hc
    have hu' := textOk_size hu
    have hwq : m.wt.size ≤ 64 ∧ m.wp.size ≤ 128 := by
      unfold willOk at hw
      cases hwon : m.won with
      | true =>
        rw [hwon, if_pos rfl] at hw
        simp only [Bool.and_eq_true, decide_eq_true_eq] at hw
        obtain ⟨a, b, c⟩ := hw
        have := textOk_size a
        exact ⟨by omega, by omega⟩
      | false =>
        rw [hwon, if_neg (by simp)] at hw
        simp only [Bool.and_eq_true, beq_iff_eq, Bool.not_eq_true'] at hw
        obtain ⟨a, b, c, d⟩ := hw
        rw [emp_nos a, emp_nos b]
        exact ⟨by decide, by decide⟩
    have a1 : (if m.won = true then strB m.wt ++ strB m.wp else []).length ≤ 200 := by split <;> simp [strB_length] <;> omega
    have a2 : (if m.hu = true then strB m.user else []).length ≤ 70 := by split <;> simp [strB_length] <;> omega
    have a3 : (if m.hp = true then strB m.pass else []).length ≤ 70 := by split <;> simp [strB_length] <;> omega
    unfold connectBy
    simp only [List.length_append, big_length, strB_length, List.length_cons, List.length_nil]
    omega
  rw [if_neg k1]
  by_cases k2 : m.kind = 2
  · rw [if_pos k2]; simp
  rw [if_neg k2]
  by_cases k3 : m.kind = 3
  · have hc : publishOk m = true := by unfold okOf at h; rw [if_neg k1, if_neg k2, if_pos k3] at h; exact h
    obtain ⟨ht, _, _, _, _, hp⟩ := publish_facts hc
    rw [if_pos k3]
    have a1 : (if 0 < m.qos then big 2 m.id.toNat else []).length ≤ 2 := by split <;> simp [big_length]
    unfold publishBy
    simp only [List.length_append, strB_length, sb_length]
    omega
  rw [if_neg k3]
  by_cases k8 : m.kind = 8
  · have hc : (inRB m.id 1 65535 && wishesOk m.wishes) = true := by
      unfold okOf at h; rw [if_neg k1, if_neg k2, if_neg k3, if_neg (by simp [idKind, k8]), if_pos k8] at h; exact h
    simp only [Bool.and_eq_true, wishesOk] at hc
    have hl := inRB_iff.1 hc.2.2
    have := wishesBy_le _ hc.2.1
    rw [if_pos k8, List.length_append, big_length]
    omega
  rw [if_neg k8]
  by_cases k9 : m.kind = 9
  · have hc : (inRB m.id 1 65535 && codesOk m.codes) = true := by
      unfold okOf at h; rw [if_neg k1, if_neg k2, if_neg k3, if_neg (by simp [idKind, k9]), if_neg k8, if_pos k9] at h; exact h
    simp only [Bool.and_eq_true, codesOk] at hc
    have hl := inRB_iff.1 hc.2.2
    rw [if_pos k9, List.length_append, big_length, codesBy_le]
    omega
  rw [if_neg k9]
  by_cases k10 : m.kind = 10
  · have hc : (inRB m.id 1 65535 && filtersOk m.filters) = true := by
      unfold okOf at h; rw [if_neg k1, if_neg k2, if_neg k3, if_neg (by simp [idKind, k10]), if_neg k8, if_neg k9, if_pos k10] at h; exact h
    simp only [Bool.and_eq_true, filtersOk] at hc
    have hl := inRB_iff.1 hc.2.2
    have := filtersBy_le _ hc.2.1
    rw [if_pos k10, List.length_append, big_length]
    omega
  rw [if_neg k10]
  split
  · simp
  · rw [big_length]; omega

/-- a packet's length, and its head's, read at its beginning: 'i' bytes are gone, 'n' is what they said. -/
def sizeGo : Nat → Nat → Nat → List UInt8 → Except Int (Nat × Nat)
  | _, _, _, [] => .error 7
  | 0, _, _, _ :: _ => .error 1
  | f + 1, i, n, x :: r =>
    if 128 ≤ x.toNat then (if i = 4 then .error 1 else sizeGo f (i + 1) (n + x.toNat % 128 * 128 ^ (i - 1)) r)
    else if x.toNat = 0 ∧ 1 < i then .error 1
    else if 1024 < n + x.toNat % 128 * 128 ^ (i - 1) + (i + 1) then .error 2
    else if r.length < n + x.toNat % 128 * 128 ^ (i - 1) then .error 7
    else .ok (n + x.toNat % 128 * 128 ^ (i - 1) + (i + 1), i + 1)
def sizeD : List UInt8 → Except Int (Nat × Nat)
  | [] => .error 7
  | _ :: r => sizeGo 4 1 0 r

theorem vlen_short (n : Nat) (h : n < 128) : vlen n = [UInt8.ofNat n] := by unfold vlen; rw [if_pos h]
theorem vlen_long (n : Nat) (h : ¬ n < 128) (h2 : n < 16384) : vlen n = [UInt8.ofNat (n % 128 + 128), UInt8.ofNat (n / 128)] := by
  unfold vlen; rw [if_neg h, vlen_short _ (by omega)]
theorem ofNat_nat (n : Nat) (h : n < 256) : (UInt8.ofNat n).toNat = n := by rw [UInt8.toNat_ofNat']; omega

theorem sizeD_lay (x : UInt8) (B rest : List UInt8) (h : B.length ≤ 540) : sizeD (x :: (vlen B.length ++ B ++ rest)) = .ok (1 + (vlen B.length).length + B.length, 1 + (vlen B.length).length) := by
  unfold sizeD
  by_cases hs : B.length < 128
  · rw [vlen_short _ hs]
    simp only [List.cons_append, List.nil_append, sizeGo, ofNat_nat _ (show B.length < 256 by omega), List.length_append, List.length_cons, List.length_nil]
    rw [if_neg (by omega), if_neg (by omega), if_neg (by omega), if_neg (by omega)]
    have : B.length % 128 * 128 ^ (1 - 1) = B.length := by omega
    rw [this]
    congr 2
    omega
  · rw [vlen_long _ hs (by omega)]
    simp only [List.cons_append, List.nil_append, sizeGo, ofNat_nat _ (show B.length % 128 + 128 < 256 by omega), ofNat_nat _ (show B.length / 128 < 256 by omega), List.length_append, List.length_cons, List.length_nil]
    rw [if_pos (by omega), if_neg (by omega), if_neg (by omega), if_neg (by omega)]
    have : 0 + (B.length % 128 + 128) % 128 * 128 ^ (1 - 1) + B.length / 128 % 128 * 128 ^ (1 + 1 - 1) = B.length := by omega
    rw [this, if_neg (by omega), if_neg (by omega)]
    congr 2
    omega
theorem sizeD_cut (x : UInt8) (B : List UInt8) (h : B.length ≤ 540) (k : Nat) (hk : k < 1 + (vlen B.length).length + B.length) : sizeD ((x :: (vlen B.length ++ B)).take k) = .error 7 := by
  match k with
  | 0 => rfl
  | 1 => rfl
  | k + 2 =>
    by_cases hs : B.length < 128
    · rw [vlen_short _ hs] at hk ⊢
      simp only [List.cons_append, List.nil_append, List.take_succ_cons, sizeD, sizeGo, ofNat_nat _ (show B.length < 256 by omega), List.length_take, List.length_cons, List.length_nil] at hk ⊢
      rw [if_neg (by omega), if_neg (by omega), if_neg (by omega), if_pos (by omega)]
    · rw [vlen_long _ hs (by omega)] at hk ⊢
      simp only [List.length_cons, List.length_nil] at hk
      match k with
      | 0 =>
        simp only [List.cons_append, List.nil_append, List.take_succ_cons, List.take_zero, sizeD, sizeGo, ofNat_nat _ (show B.length % 128 + 128 < 256 by omega)]
        rw [if_pos (by omega), if_neg (by omega)]
      | k + 1 =>
        simp only [List.cons_append, List.nil_append, List.take_succ_cons, sizeD, sizeGo, ofNat_nat _ (show B.length % 128 + 128 < 256 by omega), ofNat_nat _ (show B.length / 128 < 256 by omega), List.length_take]
        rw [if_pos (by omega), if_neg (by omega), if_neg (by omega), if_neg (by omega), if_neg (by omega), if_pos (by omega)]

/-- what a parser answers at b: the packet, how many bytes, the error. -/
def Parsed (b : List UInt8) (m : Mq) (n : Nat) (e : Int) : Prop :=
  match sizeD b with
  | .error er => e = er ∧ m = mq0 0 ∧ n = 0
  | .ok (t, _) => (mayB m ∧ layB m = b.take t ∧ n = t ∧ e = 0) ∨ ((∀ m', mayB m' → layB m' ≠ b.take t) ∧ m = mq0 0 ∧ n = 0 ∧ e = 1)

/-- the same first bytes: the same kind, body. -/
theorem lay_parts {m : Mq} (h : mayB m) : sizeD (layB m) = .ok ((layB m).length, 1 + (vlen (bodyBy m).length).length) ∧ (layB m).drop (1 + (vlen (bodyBy m).length).length) = bodyBy m := by
  have hb := body_le h.1
  have e : layB m = UInt8.ofNat (16 * m.kind.toNat + flagsBy m) :: (vlen (bodyBy m).length ++ bodyBy m ++ []) := by rw [List.append_nil]; rfl
  constructor
  · rw [e, sizeD_lay _ _ _ hb]
    congr 2
    simp
    omega
  · rw [e, List.append_nil, Nat.add_comm 1, List.drop_succ_cons, List.drop_left]
theorem lay_inj {m m' : Mq} (h : mayB m) (h' : mayB m') (e : layB m = layB m') : m = m' := by
  have p := lay_parts h
  have p' := lay_parts h'
  rw [← e] at p'
  have hh : 1 + (vlen (bodyBy m).length).length = 1 + (vlen (bodyBy m').length).length := by
    have := p.1.symm.trans p'.1
    injection this with this
    injection this
  have hbody : bodyBy m = bodyBy m' := by rw [← p.2, ← p'.2, hh]
  have hx : UInt8.ofNat (16 * m.kind.toNat + flagsBy m) = UInt8.ofNat (16 * m'.kind.toNat + flagsBy m') := by
    have := congrArg (fun l => l.headD 0) e
    simpa [layB] using this
  have k1 := may_kind h.1
  have k2 := may_kind h'.1
  have f1 := first_parts m.kind.toNat (flagsBy m) (by omega) (flagsBy_le h.1)
  have f2 := first_parts m'.kind.toNat (flagsBy m') (by omega) (flagsBy_le h'.1)
  rw [hx] at f1
  have hk : m.kind = m'.kind := by
    have := f1.1.symm.trans f2.1
    omega
  have r1 := readP_back h
  have r2 := readP_back h'
  have hf : UInt8.ofNat (flagsBy m) = UInt8.ofNat (flagsBy m') := f1.2.symm.trans f2.2
  rw [hk, hf, hbody, r2] at r1
  exact (congrArg (·.1) r1).symm
theorem parsed_one {b : List UInt8} {m m' : Mq} {n n' : Nat} {e e' : Int} (h : Parsed b m n e) (h' : Parsed b m' n' e') : m = m' ∧ n = n' ∧ e = e' := by
  unfold Parsed at h h'
  cases hs : sizeD b with
  | error er =>
    rw [hs] at h h'
    obtain ⟨rfl, rfl, rfl⟩ := h
    obtain ⟨rfl, rfl, rfl⟩ := h'
    exact ⟨rfl, rfl, rfl⟩
  | ok p =>
    rw [hs] at h h'
    rcases h with ⟨a, b1, c, d⟩ | ⟨a, b1, c, d⟩
    · rcases h' with ⟨a', b', c', d'⟩ | ⟨a', b', c', d'⟩
      · exact ⟨lay_inj a a' (b1.trans b'.symm), c.trans c'.symm, d.trans d'.symm⟩
      · exact absurd b1 (a' _ a)
    · rcases h' with ⟨a', b', c', d'⟩ | ⟨a', b', c', d'⟩
      · exact absurd b' (a _ a')
      · exact ⟨b1.trans b'.symm, c.trans c'.symm, d.trans d'.symm⟩
theorem lay_length {m : Mq} : (layB m).length = 1 + (vlen (bodyBy m).length).length + (bodyBy m).length := by
  unfold layB; simp; omega
theorem vlen_le (n : Nat) (h : n < 16384) : (vlen n).length ≤ 2 := by
  by_cases hs : n < 128
  · rw [vlen_short _ hs]; simp
  · rw [vlen_long _ hs h]; simp
theorem lay_le {m : Mq} (h : mayB m) : (layB m).length ≤ 543 := by
  have hb := body_le h.1
  have := vlen_le (bodyBy m).length (by omega)
  rw [lay_length]
  omega
/-- a packet's bytes, whatever stands behind them. -/
theorem parsed_lay {m : Mq} (h : mayB m) (rest : List UInt8) : Parsed (layB m ++ rest) m (layB m).length 0 := by
  unfold Parsed
  have hb := body_le h.1
  have e : layB m ++ rest = UInt8.ofNat (16 * m.kind.toNat + flagsBy m) :: (vlen (bodyBy m).length ++ bodyBy m ++ rest) := by simp [layB]
  rw [e, sizeD_lay _ _ _ hb, ← lay_length, ← e]
  exact .inl ⟨h, by simp, rfl, rfl⟩
theorem parsed_cut {m : Mq} (h : mayB m) (k : Nat) (hk : k < (layB m).length) : Parsed ((layB m).take k) (mq0 0) 0 7 := by
  unfold Parsed
  have hb := body_le h.1
  rw [lay_length] at hk
  have e : layB m = UInt8.ofNat (16 * m.kind.toNat + flagsBy m) :: (vlen (bodyBy m).length ++ bodyBy m) := rfl
  rw [e, sizeD_cut _ _ hb k hk]
  exact ⟨rfl, rfl, rfl⟩
/-- package pack's way to read: the answer. -/
theorem parsed_ok {b : List UInt8} {t i : Nat} (hs : sizeD b = .ok (t, i)) {m : Mq} (hm : mayB m) (hl : layB m = b.take t) : Parsed b m t 0 := by
  unfold Parsed; rw [hs]; exact .inl ⟨hm, hl, rfl, rfl⟩
theorem sizeGo_ge : ∀ (f i n : Nat) (l : List UInt8) (t j : Nat), sizeGo f i n l = .ok (t, j) → i + 1 ≤ j ∧ j ≤ t ∧ t ≤ i + l.length ∧ t ≤ 1024 := by
  intro f
  induction f with
  | zero => intro i n l t j h; cases l <;> simp [sizeGo] at h
  | succ f ih =>
    intro i n l t j h
    cases l with
    | nil => simp [sizeGo] at h
    | cons x r =>
      rw [sizeGo] at h
      split at h
      · split at h
        · cases h
        · have := ih _ _ _ _ _ h
          simp only [List.length_cons]
          omega
      · split at h
        · cases h
        · split at h
          · cases h
          · split at h
            · cases h
            · injection h with h
              injection h with h1 h2
              simp only [List.length_cons]
              omega
theorem sizeD_ge {b : List UInt8} {t i : Nat} (hs : sizeD b = .ok (t, i)) : 2 ≤ i ∧ i ≤ t ∧ t ≤ b.length ∧ t ≤ 1024 := by
  cases b with
  | nil => cases hs
  | cons x r =>
    have := sizeGo_ge _ _ _ _ _ _ hs
    simp only [List.length_cons]
    omega
theorem take_lay {b : List UInt8} {t i : Nat} (hs : sizeD b = .ok (t, i)) {m : Mq} (hm : mayB m) (hl : layB m = b.take t) : b.headD 0 = UInt8.ofNat (16 * m.kind.toNat + flagsBy m) ∧ (b.take t).drop i = bodyBy m := by
  have hg := sizeD_ge hs
  have hp := lay_parts hm
  have hx : b.headD 0 = UInt8.ofNat (16 * m.kind.toNat + flagsBy m) := by
    have : (b.take t).headD 0 = b.headD 0 := by
      cases b with
      | nil => simp
      | cons x r =>
        obtain ⟨t', rfl⟩ : ∃ t', t = t' + 1 := ⟨t - 1, by omega⟩
        rfl
    rw [← this, ← hl]
    rfl
  refine ⟨hx, ?_⟩
  have hb := body_le hm.1
  have e : b = layB m ++ b.drop t := by rw [hl, List.take_append_drop]
  have hs2 : sizeD (layB m ++ b.drop t) = .ok (1 + (vlen (bodyBy m).length).length + (bodyBy m).length, 1 + (vlen (bodyBy m).length).length) := by
    have : layB m ++ b.drop t = UInt8.ofNat (16 * m.kind.toNat + flagsBy m) :: (vlen (bodyBy m).length ++ bodyBy m ++ b.drop t) := by simp [layB]
    rw [this, sizeD_lay _ _ _ hb]
  rw [← e] at hs2
  have hi : i = 1 + (vlen (bodyBy m).length).length := by
    have := hs.symm.trans hs2
    injection this with this
    injection this
  rw [← hl, hi]
  exact hp.2
/-- the packet that package pack reads there, if there is one at all. -/
theorem parsed_readP {b : List UInt8} {t i : Nat} (hs : sizeD b = .ok (t, i)) (r : Mq × Rd) (hr : r = readP (((b.headD 0).toNat / 16 : Nat) : Int) (loB (b.headD 0)) ((b.take t).drop i, false)) :
    (r.2.2 = false ∧ mayB r.1 ∧ layB r.1 = b.take t → Parsed b r.1 t 0) ∧ (¬ (r.2.2 = false ∧ mayB r.1 ∧ layB r.1 = b.take t) → Parsed b (mq0 0) 0 1) := by
  refine ⟨fun h => parsed_ok hs h.2.1 h.2.2, fun h => ?_⟩
  unfold Parsed
  rw [hs]
  refine .inr ⟨fun m' hm hl => h ?_, rfl, rfl, rfl⟩
  obtain ⟨hx, hb⟩ := take_lay hs hm hl
  have kk := may_kind hm.1
  have fp := first_parts m'.kind.toNat (flagsBy m') (by omega) (flagsBy_le hm.1)
  have : r = (m', ([], false)) := by
    rw [hr, hx, hb, fp.1, fp.2, show ((m'.kind.toNat : Nat) : Int) = m'.kind by omega]
    exact readP_back hm
  rw [this]
  exact ⟨rfl, hm, hl⟩
theorem parsed_readR {b : List UInt8} {t i : Nat} (hs : sizeD b = .ok (t, i)) (r : Mq × Rd) (hr : r = readR (((b.headD 0).toNat / 16 : Nat) : Int) (b.headD 0) ((b.take t).drop i, false)) :
    (r.2.2 = false ∧ mayB r.1 ∧ layB r.1 = b.take t → Parsed b r.1 t 0) ∧ (¬ (r.2.2 = false ∧ mayB r.1 ∧ layB r.1 = b.take t) → Parsed b (mq0 0) 0 1) := by
  refine ⟨fun h => parsed_ok hs h.2.1 h.2.2, fun h => ?_⟩
  unfold Parsed
  rw [hs]
  refine .inr ⟨fun m' hm hl => h ?_, rfl, rfl, rfl⟩
  obtain ⟨hx, hb⟩ := take_lay hs hm hl
  have kk := may_kind hm.1
  have fp := first_parts m'.kind.toNat (flagsBy m') (by omega) (flagsBy_le hm.1)
  obtain ⟨s, hsr⟩ := readR_back hm
  have : r = (m', (s, false)) := by
    rw [hr, hx, hb, fp.1, show ((m'.kind.toNat : Nat) : Int) = m'.kind by omega]
    exact hsr
  rw [this]
  exact ⟨rfl, hm, hl⟩
end Go.Proofs.YtkcdkjpmbjcmdaaDoor

/-
  Rows of bytes at a frame that is a letter: what is laid by 'two', 'text', append, a literal; one operation each.
-/
namespace Go.Proofs.YtkcdkjpmbjcmdaaDoor
open Go.RowKit

theorem wp_seq_join {P : Program} {x y : Code} {Q : Exit → Act → World → Prop} {a : Act} {w : World} (St : Act → World → Prop) (hx : x.wp P (Exit.then St Q) a w) (hy : ∀ a w, St a w → y.wp P Q a w) : (Code.seq x y).wp P Q a w := by
  refine wp_seq (wp_mono hx ?_)
  intro e a w h
  cases e with
  | normal => exact hy a w h
  | _ => exact h

section
variable {P : Program} {ops : Array Oper} {rest : List Oper} {o : Oper} {a : Act} {w : World} {Q : Exit → Act → World → Prop} {n : Nat} {l : List (Nat × Value)}
theorem run_callH (H : Has a n l) {f : FuncId} {xs : Array Operand} {ats : Array TypeId} {vs : List Value} (ho : o.op = .call { callee := .value (.func f), args := xs, argTypes := ats }) (hx : evLs l xs.toList = some vs)
    (hen : ∀ (args : Array Value) (w : World), (callFunc f args).run P w = .ok (.enter f args) w) : (execOp a.eval o).run P w = .ok (.enter f vs.toArray) w :=
  run_call ho (by rw [← H.evs hx, ← Array.toList_map, Array.toArray_toList]) hen
/-- append(row, bytes..). -/
theorem run_append_row (hgb : P.underlying 31 = some (.slice 5)) (hi : (P.info? 5).map (fun i => (i.zero, i.size, i.bytes)) = some (some (.int .u8 0), 1, 1)) {s x : Operand}
    (ho : o.op = .call { callee := .builtin .append, args := #[s, x], argTypes := #[31, 31] }) {b : Nat} {xs ys : List UInt8} {v u : Value} (hs : a.eval s = v) (hx : a.eval x = u) (hv : RowIs b xs v w) (hu : BytesAre ys u w)
    (hn : xs.length + ys.length ≤ 140737488355328) (hb : b ≤ w.heap.size) : ∃ v' w', (execOp a.eval o).run P w = .ok (.value v') w' ∧ RowIs b (xs ++ ys) v' w' ∧ Below b w w' ∧ w.grownBy w' v.ownBlock := by
  obtain ⟨A, c, rfl, hown⟩ := hv
  obtain ⟨A2, c2, rfl, hr⟩ := hu
  obtain ⟨A', c', w', hrun, h2, h3⟩ := run_append_read (P := P) w b 31 o.type 5 (.int .u8 0) 1 1 hgb hi rfl (by decide) _ xs.length (xs.map bv) hown w.heap.size A2 ys.length c2 (ys.map bv) hr (bv_one ys) (by unfold maxLen; omega) (by omega) hb
  refine ⟨_, w', ?_, ⟨A', c', by rw [List.length_append], by rw [List.length_append, List.map_append]; exact h2⟩, (Below.refl _ _).grown h3 hb fun k hk => (hown.lt k hk).1, h3⟩
  unfold execOp
  simp only [ho, resolve, invoke, builtin, Sem.run_bind, Sem.run_pure, Result.andThen_ok, List.map_toArray, List.map_cons, List.map_nil, hs, hx, hrun]
/-- append(row, string..). -/
theorem run_append_strR (hgb : P.underlying 31 = some (.slice 5)) (hst : P.underlying 9 = some .string) (hi : (P.info? 5).map (fun i => (i.zero, i.size, i.bytes)) = some (some (.int .u8 0), 1, 1)) {s x : Operand}
    (ho : o.op = .call { callee := .builtin .append, args := #[s, x], argTypes := #[31, 9] }) {b : Nat} {xs : List UInt8} {v : Value} {str : ByteArray} (hs : a.eval s = v) (hx : a.eval x = .string str) (hv : RowIs b xs v w)
    (hn : xs.length + str.size ≤ 140737488355328) (hb : b ≤ w.heap.size) : ∃ v' w', (execOp a.eval o).run P w = .ok (.value v') w' ∧ RowIs b (xs ++ sb str) v' w' ∧ Below b w w' ∧ w.grownBy w' v.ownBlock := by
  obtain ⟨A, c, rfl, hown⟩ := hv
  obtain ⟨i0, hi0, hz0, hz1, hz2⟩ := info_parts hi
  obtain ⟨v', w', hrun, h2, h3, _⟩ := Lib.run_append_own_string (P := P) (w := w) b 31 9 o.type 5 i0 hgb hst hi0 hz0 hz1 hz2 _ xs.length (xs.map bv) hown str (by unfold maxLen; omega) hn hb
  obtain ⟨A', c', rfl, _, _⟩ := own_shape h2
  refine ⟨_, w', ?_, ⟨A', c', by rw [List.length_append, sb_length], by rw [List.length_append, sb_length, List.map_append, ← strCells_bv]; exact h2⟩, (Below.refl _ _).grown h3 hb fun k hk => (hown.lt k hk).1, h3⟩
  unfold execOp
  simp only [ho, resolve, invoke, builtin, Sem.run_bind, Sem.run_pure, Result.andThen_ok, List.map_toArray, List.map_cons, List.map_nil, hs, hx, hrun]
theorem run_len {s : Operand} {t : TypeId} {A : Option Addr} {m c : Nat} (ho : o.op = .call { callee := .builtin .len, args := #[s], argTypes := #[t] }) (hs : a.eval s = .slice A m c) {e : TypeId} (ht : P.underlying t = some (.slice e)) :
    (execOp a.eval o).run P w = .ok (.value (.int .i64 m)) w := by
  unfold execOp
  simp only [ho, resolve, invoke, builtin, Sem.run_bind, Sem.run_pure, Result.andThen_ok, List.map_toArray, List.map_cons, List.map_nil, hs]
  simp [Builtin.len_, run_underlying ht, goInt]
end

/-- 'two' and 'text' of package pack, rows in and out. -/
theorem rowTwo (b : Nat) (xs : List UInt8) (v : Value) (k : Int) (h0 : 0 ≤ k) (h1 : k ≤ 65535) (w : World) (hv : RowIs b xs v w) (hb : b ≤ w.heap.size) (hn : xs.length ≤ 140737488251232) :
    Calls Tryd.prog 100 #[v, .int .i64 k] w fun e w' => ∃ v', e = .returned v' ∧ (RowIs b (xs ++ big 2 k.toNat) v' w' ∧ Below b w w') := by
  obtain ⟨A, c, rfl, hown⟩ := hv
  refine (packTwo b xs xs.length A c k k.toNat (by omega) (by omega) w hown hb (by omega)).mono ?_
  rintro e w' ⟨A', c', rfl, ho, hbl⟩
  exact ⟨_, rfl, ⟨A', c', by rw [List.length_append, big_length], by rw [List.length_append, big_length]; exact ho⟩, hbl⟩
theorem rowText (b : Nat) (xs : List UInt8) (v : Value) (s : ByteArray) (hs : s.size ≤ 65535) (w : World) (hv : RowIs b xs v w) (hb : b ≤ w.heap.size) (hn : xs.length ≤ 140737488251232) :
    Calls Tryd.prog 99 #[v, .string s] w fun e w' => ∃ v', e = .returned v' ∧ (RowIs b (xs ++ strB s) v' w' ∧ Below b w w') := by
  obtain ⟨A, c, rfl, hown⟩ := hv
  refine (packText b xs xs.length A c s hs w hown hb hn).mono ?_
  rintro e w' ⟨A', c', rfl, ho, hbl⟩
  refine ⟨_, rfl, ⟨A', c', by rw [List.length_append, strB_length, Nat.add_assoc], ?_⟩, hbl⟩
  rw [List.length_append, strB_length, ← Nat.add_assoc, strB, ← List.append_assoc]
  exact ho
theorem own_under {W w w' : World} {B b : Nat} {bs : List (Nat × List Value)} (h : Own W B bs w) (hb : Below b w w') (hB : B ≤ b) (hall : ∀ p ∈ bs, p.1 < b) : Own W B bs w' :=
  ⟨h.bel.trans (hb.mono hB), Nat.le_trans h.le hb.size, h.nd, fun p hp => ⟨(h.mem p hp).1, Nat.lt_of_lt_of_le (h.mem p hp).2.1 hb.size, (h.mem p hp).2.2.below hb (hall p hp)⟩⟩
theorem conv_u8 (k : Int) (w : World) : (convert 3 5 (.int .i64 k)).run Tryd.prog w = .ok (.int .u8 (k % 256)) w := by
  simp [go_sem]
  rfl
theorem fieldW_0 (g : Nat) (w : World) : (Instr.fieldAt 25 (.pointer (some ⟨g, 4, none⟩)) 0).run Tryd.prog w = .ok (.pointer (some ⟨g, 4, none⟩)) w := by kernel_rfl
theorem fieldW_1 (g : Nat) (w : World) : (Instr.fieldAt 25 (.pointer (some ⟨g, 4, none⟩)) 1).run Tryd.prog w = .ok (.pointer (some ⟨g, 5, none⟩)) w := by kernel_rfl
theorem fieldW_2 (g : Nat) (w : World) : (Instr.fieldAt 25 (.pointer (some ⟨g, 4, none⟩)) 2).run Tryd.prog w = .ok (.pointer (some ⟨g, 6, none⟩)) w := by kernel_rfl
theorem fieldW_3 (g : Nat) (w : World) : (Instr.fieldAt 25 (.pointer (some ⟨g, 4, none⟩)) 3).run Tryd.prog w = .ok (.pointer (some ⟨g, 7, none⟩)) w := by kernel_rfl
theorem fieldW_4 (g : Nat) (w : World) : (Instr.fieldAt 25 (.pointer (some ⟨g, 4, none⟩)) 4).run Tryd.prog w = .ok (.pointer (some ⟨g, 8, none⟩)) w := by kernel_rfl
/-- a literal of bytes stands in a block of its own. -/
theorem bytes_lit (w : World) (xs : List UInt8) (vs : List Value) (h : vs = xs.map bv) (e : TypeId) (k : Nat) (hk : xs.length = k) : BytesAre xs (.slice (some ⟨w.heap.size, 0, none⟩) k k) (w.alloc (.cells vs.toArray e)) ∧ Below w.heap.size w (w.alloc (.cells vs.toArray e)) := by
  subst hk
  exact ⟨⟨_, _, rfl, RB.lit w e vs.toArray (0, 0) xs (by simpa using h)⟩, balloc w _⟩
theorem byte_of_int (k : Int) (h0 : 0 ≤ k) : Value.int .u8 (k % 256) = bv (UInt8.ofNat k.toNat) := by
  unfold bv
  rw [UInt8.toNat_ofNat']
  congr 1
  omega
theorem or_i (a b : Nat) (ha : a < 9223372036854775808) (hb : b < 9223372036854775808) (x y : Operand) (w : World) : (do eqGuard .or 3 x y (.int .i64 a) (.int .i64 b); binOp .or 3 (.int .i64 a) (.int .i64 b) : Sem Value).run Tryd.prog w = .ok (.int .i64 ((a ||| b : Nat) : Int)) w := by
  have := i64_or_nat a b ha hb
  simp [go_sem, this]
end Go.Proofs.YtkcdkjpmbjcmdaaDoor

/-
  pack.layConnect: the bytes of a packet that wants to be connected.
-/
namespace Go.Proofs.YtkcdkjpmbjcmdaaDoor
open Go.RowKit

theorem packBitN (b : Bool) (nI : Int) (n : Nat) (h : nI = (n : Int)) (w : World) : Calls Tryd.prog 98 #[.bool b, .int .i64 nI] w fun e w' => e = .returned (.int .i64 ((cb b n : Nat) : Int)) ∧ w = w' := by
  refine (packBit b nI w).mono ?_
  rintro e w' ⟨rfl, rfl⟩
  refine ⟨?_, rfl⟩
  subst h
  cases b <;> rfl
theorem cb_lt (b : Bool) (n : Nat) (h : n < 256) : cb b n < 256 := by unfold cb; split <;> omega
theorem or_lt8 {a b : Nat} (ha : a < 256) (hb : b < 256) : (a ||| b) < 256 := Nat.or_lt_two_pow (n := 8) ha hb
theorem lt8 {a : Nat} (h : a < 256) : a < 9223372036854775808 := by omega
theorem shl3 (k : Int) (h0 : 0 ≤ k) (h2 : k ≤ 2) (x y : Operand) (w : World) : (do eqGuard .shl 3 x y (.int .i64 k) (.int .u64 3); binOp .shl 3 (.int .i64 k) (.int .u64 3) : Sem Value).run Tryd.prog w = .ok (.int .i64 ((k.toNat * 8 : Nat) : Int)) w := by
  have : k = 0 ∨ k = 1 ∨ k = 2 := by omega
  rcases this with rfl | rfl | rfl <;> simp [go_sem] <;> rfl
theorem flags_or (a b c d e : Bool) (q : Nat) (hq : q ≤ 2) : (((((cb a 2 ||| cb b 4) ||| q * 8) ||| cb c 32) ||| cb d 64) ||| cb e 128) = cb a 2 + cb b 4 + 8 * q + cb c 32 + cb d 64 + cb e 128 := by
  obtain ⟨q', rfl⟩ : ∃ q' : Fin 3, q = q'.val := ⟨⟨q, by omega⟩, rfl⟩
  revert a b c d e q'
  decide
/-- what a function that lays bytes answers. -/
def Laid (xs : List UInt8) (w : World) (e : Ending) (w' : World) : Prop := ∃ v, e = .returned v ∧ RowIs w.heap.size xs v w' ∧ Below w.heap.size w w'
theorem connect_spell (m : Mq) : connectBy m = ((((((([0, 4, 77, 81, 84, 84] : List UInt8) ++ [4, UInt8.ofNat (flagsC m)]) ++ big 2 m.keep.toNat) ++ strB m.client) ++ (if m.won then strB m.wt ++ strB m.wp else [])) ++ (if m.hu then strB m.user else [])) ++ (if m.hp then strB m.pass else [])) := rfl
set_option maxRecDepth 100000 in
set_option maxHeartbeats 3200000 in
theorem layConnectW (m : Mq) (vc vw vf : Value) (w : World) (hc : m.client.size ≤ 65535) (ht : m.wt.size ≤ 65535) (hp : m.wp.size ≤ 65535) (hu' : m.user.size ≤ 65535) (hp' : m.pass.size ≤ 65535) (hk0 : 0 ≤ m.keep) (hk1 : m.keep ≤ 65535) (hq0 : 0 ≤ m.wq) (hq2 : m.wq ≤ 2) :
    Calls Tryd.prog 97 #[.agg (mqCells m vc vw vf).toArray] w (Laid (connectBy m) w) := by
  go_enter Tryd.func97, Tryd.ntmps97
  refine Has.start 68 [(0, .agg (mqCells m vc vw vf).toArray)] rfl rfl ⟨rfl, trivial⟩ ?_
  intro a0 H0
  have O0 := Own.start w
  repeat (refine wp_seq ?_)
  refine wp_region_list ?_
  refine H0.box rfl rfl rfl rfl rfl ?_
  intro a1 w1 hb hs hC H1
  have O1 := O0.alloc hb hs hC
  clear hb hs hC
  refine H1.move gz (.inr rfl) rfl rfl rfl ?_
  intro a2 H2
  refine nt ?_
  have H3 := H2.keep (l' := [(1, .pointer (some ⟨w.heap.size, 0, none⟩))]) ⟨rfl, trivial⟩
  have HB1 := Base.of O1
  obtain ⟨b0, hb0⟩ : ∃ b0, b0 = w1.heap.size := ⟨_, rfl⟩
  rw [← hb0] at HB1
  have hb0' := hb0
  clear hb0
  repeat (refine wp_seq ?_)
  have h12a : cb m.clean 2 < 256 := cb_lt _ _ (by decide)
  have h12b : cb m.won 4 < 256 := cb_lt _ _ (by decide)
  have h17a : (cb m.clean 2 ||| cb m.won 4) < 256 := or_lt8 h12a h12b
  have h17b : m.wq.toNat * 8 < 256 := by omega
  have h22a : ((cb m.clean 2 ||| cb m.won 4) ||| m.wq.toNat * 8) < 256 := or_lt8 h17a h17b
  have h22b : cb m.wr 32 < 256 := cb_lt _ _ (by decide)
  have h26a : (((cb m.clean 2 ||| cb m.won 4) ||| m.wq.toNat * 8) ||| cb m.wr 32) < 256 := or_lt8 h22a h22b
  have h26b : cb m.hp 64 < 256 := cb_lt _ _ (by decide)
  have h30a : ((((cb m.clean 2 ||| cb m.won 4) ||| m.wq.toNat * 8) ||| cb m.wr 32) ||| cb m.hp 64) < 256 := or_lt8 h26a h26b
  have h30b : cb m.hu 128 < 256 := cb_lt _ _ (by decide)
  have hflags : (((((cb m.clean 2 ||| cb m.won 4) ||| m.wq.toNat * 8) ||| cb m.wr 32) ||| cb m.hp 64) ||| cb m.hu 128) = flagsC m := flags_or _ _ _ _ _ _ (by omega)
  refine wp_region_invB (by kernel_rfl) (InvB 68 [(1, .pointer (some ⟨w.heap.size, 0, none⟩))] [⟨0, 5, [], fun v _ => v = .pointer (some ⟨w.heap.size, 2, none⟩)⟩, ⟨1, 6, [], fun v _ => v = .bool m.clean⟩, ⟨2, 7, [], fun v _ => v = .int .i64 ((cb m.clean 2 : Nat) : Int)⟩, ⟨3, 8, [], fun v _ => v = .pointer (some ⟨w.heap.size, 4, none⟩)⟩, ⟨4, 9, [], fun v _ => v = .pointer (some ⟨w.heap.size, 4, none⟩)⟩, ⟨5, 10, [], fun v _ => v = .bool m.won⟩, ⟨6, 11, [], fun v _ => v = .int .i64 ((cb m.won 4 : Nat) : Int)⟩, ⟨7, 12, [], fun v _ => v = .int .i64 (((cb m.clean 2 ||| cb m.won 4) : Nat) : Int)⟩, ⟨8, 13, [], fun v _ => v = .pointer (some ⟨w.heap.size, 4, none⟩)⟩, ⟨9, 14, [], fun v _ => v = .pointer (some ⟨w.heap.size, 7, none⟩)⟩, ⟨10, 15, [], fun v _ => v = .int .i64 m.wq⟩, ⟨11, 16, [], fun v _ => v = .int .i64 ((m.wq.toNat * 8 : Nat) : Int)⟩, ⟨12, 17, [], fun v _ => v = .int .i64 ((((cb m.clean 2 ||| cb m.won 4) ||| m.wq.toNat * 8) : Nat) : Int)⟩, ⟨13, 18, [], fun v _ => v = .pointer (some ⟨w.heap.size, 4, none⟩)⟩, ⟨14, 19, [], fun v _ => v = .pointer (some ⟨w.heap.size, 8, none⟩)⟩, ⟨15, 20, [], fun v _ => v = .bool m.wr⟩, ⟨16, 21, [], fun v _ => v = .int .i64 ((cb m.wr 32 : Nat) : Int)⟩, ⟨17, 22, [], fun v _ => v = .int .i64 (((((cb m.clean 2 ||| cb m.won 4) ||| m.wq.toNat * 8) ||| cb m.wr 32) : Nat) : Int)⟩, ⟨18, 23, [], fun v _ => v = .pointer (some ⟨w.heap.size, 12, none⟩)⟩, ⟨19, 24, [], fun v _ => v = .bool m.hp⟩, ⟨20, 25, [], fun v _ => v = .int .i64 ((cb m.hp 64 : Nat) : Int)⟩, ⟨21, 26, [], fun v _ => v = .int .i64 ((((((cb m.clean 2 ||| cb m.won 4) ||| m.wq.toNat * 8) ||| cb m.wr 32) ||| cb m.hp 64) : Nat) : Int)⟩, ⟨22, 27, [], fun v _ => v = .pointer (some ⟨w.heap.size, 10, none⟩)⟩, ⟨23, 28, [], fun v _ => v = .bool m.hu⟩, ⟨24, 29, [], fun v _ => v = .int .i64 ((cb m.hu 128 : Nat) : Int)⟩, ⟨25, 30, [], fun v _ => v = .int .i64 (((((((cb m.clean 2 ||| cb m.won 4) ||| m.wq.toNat * 8) ||| cb m.wr 32) ||| cb m.hp 64) ||| cb m.hu 128) : Nat) : Int)⟩, ⟨26, 3, [], fun v _ => v = .int .i64 (((((((cb m.clean 2 ||| cb m.won 4) ||| m.wq.toNat * 8) ||| cb m.wr 32) ||| cb m.hp 64) ||| cb m.hu 128) : Nat) : Int)⟩] (Base w b0 [(w.heap.size, (mqCells m vc vw vf))])) (back_of (by kernel_rfl)) ?_ ?_ ?_
  · intro listed aa ww i o hs hni hcl ho hd hI
    have hls : listed.size = 27 := hs
    have u_1 : aa.eval (.tmp 1) = .pointer (some ⟨w.heap.size, 0, none⟩) := hI.fx.1
    match i, ho with
    | 0, ho =>
      obtain rfl := pick_op ho rfl
      have HH : Has aa 68 [(1, .pointer (some ⟨w.heap.size, 0, none⟩))] := Has.of hI.sz hI.df ⟨u_1, trivial⟩
      refine wpOp_go ho gz 5 rfl (.pointer (some ⟨w.heap.size, 2, none⟩)) ww (run_field rfl (HH.ev rfl) field_2) ?_
      exact hI.put (by kernel_rfl) _ (ma 0 rfl) (by rw [hls]; show 0 < 27; decide) (by rw [hls]; decide) (.pointer (some ⟨w.heap.size, 2, none⟩)) rfl hI.wp AllSt.same
    | 1, ho =>
      obtain rfl := pick_op ho rfl
      have r_5 := hI.vs _ (ma 0 rfl) (.inr (ran_of hd 0 (by kernel_rfl))) trivial
      have u_5 : aa.eval (.tmp 5) = .pointer (some ⟨w.heap.size, 2, none⟩) := r_5
      have HH : Has aa 68 [(5, .pointer (some ⟨w.heap.size, 2, none⟩))] := Has.of hI.sz hI.df ⟨u_5, trivial⟩
      refine wpOp_go ho gz 6 rfl (.bool m.clean) ww (run_load rfl (HH.ev rfl) (load1_b _ _ _ _ ((hI.wp.get 0 rfl).get 2 _ rfl))) ?_
      exact hI.put (by kernel_rfl) _ (ma 1 rfl) (by rw [hls]; show 1 < 27; decide) (by rw [hls]; decide) (.bool m.clean) rfl hI.wp AllSt.same
    | 2, ho =>
      obtain rfl := pick_op ho rfl
      have r_6 := hI.vs _ (ma 1 rfl) (.inr (ran_of hd 1 (by kernel_rfl))) trivial
      have u_6 : aa.eval (.tmp 6) = .bool m.clean := r_6
      have HH : Has aa 68 [(6, .bool m.clean)] := Has.of hI.sz hI.df ⟨u_6, trivial⟩
      refine wpOp_enter ho gz 7 rfl 98 _ (run_callH HH rfl rfl (fun _ _ => by kernel_rfl)) _ (quietC (packBitN m.clean 2 2 rfl ww)) ?_
      rintro _ _ ⟨rfl, rfl⟩
      exact hI.put (by kernel_rfl) _ (ma 2 rfl) (by rw [hls]; show 2 < 27; decide) (by rw [hls]; decide) (.int .i64 ((cb m.clean 2 : Nat) : Int)) rfl hI.wp AllSt.same
    | 3, ho =>
      obtain rfl := pick_op ho rfl
      have HH : Has aa 68 [(1, .pointer (some ⟨w.heap.size, 0, none⟩))] := Has.of hI.sz hI.df ⟨u_1, trivial⟩
      refine wpOp_go ho gz 8 rfl (.pointer (some ⟨w.heap.size, 4, none⟩)) ww (run_field rfl (HH.ev rfl) field_4) ?_
      exact hI.put (by kernel_rfl) _ (ma 3 rfl) (by rw [hls]; show 3 < 27; decide) (by rw [hls]; decide) (.pointer (some ⟨w.heap.size, 4, none⟩)) rfl hI.wp AllSt.same
    | 4, ho =>
      obtain rfl := pick_op ho rfl
      have r_8 := hI.vs _ (ma 3 rfl) (.inr (ran_of hd 3 (by kernel_rfl))) trivial
      have u_8 : aa.eval (.tmp 8) = .pointer (some ⟨w.heap.size, 4, none⟩) := r_8
      have HH : Has aa 68 [(8, .pointer (some ⟨w.heap.size, 4, none⟩))] := Has.of hI.sz hI.df ⟨u_8, trivial⟩
      refine wpOp_go ho gz 9 rfl (.pointer (some ⟨w.heap.size, 4, none⟩)) ww (run_field rfl (HH.ev rfl) fieldW_0) ?_
      exact hI.put (by kernel_rfl) _ (ma 4 rfl) (by rw [hls]; show 4 < 27; decide) (by rw [hls]; decide) (.pointer (some ⟨w.heap.size, 4, none⟩)) rfl hI.wp AllSt.same
    | 5, ho =>
      obtain rfl := pick_op ho rfl
      have r_9 := hI.vs _ (ma 4 rfl) (.inr (ran_of hd 4 (by kernel_rfl))) trivial
      have u_9 : aa.eval (.tmp 9) = .pointer (some ⟨w.heap.size, 4, none⟩) := r_9
      have HH : Has aa 68 [(9, .pointer (some ⟨w.heap.size, 4, none⟩))] := Has.of hI.sz hI.df ⟨u_9, trivial⟩
      refine wpOp_go ho gz 10 rfl (.bool m.won) ww (run_load rfl (HH.ev rfl) (load1_b _ _ _ _ ((hI.wp.get 0 rfl).get 4 _ rfl))) ?_
      exact hI.put (by kernel_rfl) _ (ma 5 rfl) (by rw [hls]; show 5 < 27; decide) (by rw [hls]; decide) (.bool m.won) rfl hI.wp AllSt.same
    | 6, ho =>
      obtain rfl := pick_op ho rfl
      have r_10 := hI.vs _ (ma 5 rfl) (.inr (ran_of hd 5 (by kernel_rfl))) trivial
      have u_10 : aa.eval (.tmp 10) = .bool m.won := r_10
      have HH : Has aa 68 [(10, .bool m.won)] := Has.of hI.sz hI.df ⟨u_10, trivial⟩
      refine wpOp_enter ho gz 11 rfl 98 _ (run_callH HH rfl rfl (fun _ _ => by kernel_rfl)) _ (quietC (packBitN m.won 4 4 rfl ww)) ?_
      rintro _ _ ⟨rfl, rfl⟩
      exact hI.put (by kernel_rfl) _ (ma 6 rfl) (by rw [hls]; show 6 < 27; decide) (by rw [hls]; decide) (.int .i64 ((cb m.won 4 : Nat) : Int)) rfl hI.wp AllSt.same
    | 7, ho =>
      obtain rfl := pick_op ho rfl
      have r_7 := hI.vs _ (ma 2 rfl) (.inr (ran_of hd 2 (by kernel_rfl))) trivial
      have u_7 : aa.eval (.tmp 7) = .int .i64 ((cb m.clean 2 : Nat) : Int) := r_7
      have r_11 := hI.vs _ (ma 6 rfl) (.inr (ran_of hd 6 (by kernel_rfl))) trivial
      have u_11 : aa.eval (.tmp 11) = .int .i64 ((cb m.won 4 : Nat) : Int) := r_11
      have HH : Has aa 68 [(7, .int .i64 ((cb m.clean 2 : Nat) : Int)), (11, .int .i64 ((cb m.won 4 : Nat) : Int))] := Has.of hI.sz hI.df ⟨u_7, u_11, trivial⟩
      refine wpOp_go ho gz 12 rfl (.int .i64 (((cb m.clean 2 ||| cb m.won 4) : Nat) : Int)) ww (run_bin rfl (HH.ev rfl) (HH.ev rfl) (or_i _ _ (by first | exact lt8 h12a | omega) (by first | exact lt8 h12b | omega) _ _ _)) ?_
      exact hI.put (by kernel_rfl) _ (ma 7 rfl) (by rw [hls]; show 7 < 27; decide) (by rw [hls]; decide) (.int .i64 (((cb m.clean 2 ||| cb m.won 4) : Nat) : Int)) rfl hI.wp AllSt.same
    | 8, ho =>
      obtain rfl := pick_op ho rfl
      have HH : Has aa 68 [(1, .pointer (some ⟨w.heap.size, 0, none⟩))] := Has.of hI.sz hI.df ⟨u_1, trivial⟩
      refine wpOp_go ho gz 13 rfl (.pointer (some ⟨w.heap.size, 4, none⟩)) ww (run_field rfl (HH.ev rfl) field_4) ?_
      exact hI.put (by kernel_rfl) _ (ma 8 rfl) (by rw [hls]; show 8 < 27; decide) (by rw [hls]; decide) (.pointer (some ⟨w.heap.size, 4, none⟩)) rfl hI.wp AllSt.same
    | 9, ho =>
      obtain rfl := pick_op ho rfl
      have r_13 := hI.vs _ (ma 8 rfl) (.inr (ran_of hd 8 (by kernel_rfl))) trivial
      have u_13 : aa.eval (.tmp 13) = .pointer (some ⟨w.heap.size, 4, none⟩) := r_13
      have HH : Has aa 68 [(13, .pointer (some ⟨w.heap.size, 4, none⟩))] := Has.of hI.sz hI.df ⟨u_13, trivial⟩
      refine wpOp_go ho gz 14 rfl (.pointer (some ⟨w.heap.size, 7, none⟩)) ww (run_field rfl (HH.ev rfl) fieldW_3) ?_
      exact hI.put (by kernel_rfl) _ (ma 9 rfl) (by rw [hls]; show 9 < 27; decide) (by rw [hls]; decide) (.pointer (some ⟨w.heap.size, 7, none⟩)) rfl hI.wp AllSt.same
    | 10, ho =>
      obtain rfl := pick_op ho rfl
      have r_14 := hI.vs _ (ma 9 rfl) (.inr (ran_of hd 9 (by kernel_rfl))) trivial
      have u_14 : aa.eval (.tmp 14) = .pointer (some ⟨w.heap.size, 7, none⟩) := r_14
      have HH : Has aa 68 [(14, .pointer (some ⟨w.heap.size, 7, none⟩))] := Has.of hI.sz hI.df ⟨u_14, trivial⟩
      refine wpOp_go ho gz 15 rfl (.int .i64 m.wq) ww (run_load rfl (HH.ev rfl) (load1_i _ _ _ _ ((hI.wp.get 0 rfl).get 7 _ rfl))) ?_
      exact hI.put (by kernel_rfl) _ (ma 10 rfl) (by rw [hls]; show 10 < 27; decide) (by rw [hls]; decide) (.int .i64 m.wq) rfl hI.wp AllSt.same
    | 11, ho =>
      obtain rfl := pick_op ho rfl
      have r_15 := hI.vs _ (ma 10 rfl) (.inr (ran_of hd 10 (by kernel_rfl))) trivial
      have u_15 : aa.eval (.tmp 15) = .int .i64 m.wq := r_15
      have HH : Has aa 68 [(15, .int .i64 m.wq)] := Has.of hI.sz hI.df ⟨u_15, trivial⟩
      refine wpOp_go ho gz 16 rfl (.int .i64 ((m.wq.toNat * 8 : Nat) : Int)) ww (run_bin rfl (HH.ev rfl) (HH.ev rfl) (shl3 _ hq0 hq2 _ _ _)) ?_
      exact hI.put (by kernel_rfl) _ (ma 11 rfl) (by rw [hls]; show 11 < 27; decide) (by rw [hls]; decide) (.int .i64 ((m.wq.toNat * 8 : Nat) : Int)) rfl hI.wp AllSt.same
    | 12, ho =>
      obtain rfl := pick_op ho rfl
      have r_12 := hI.vs _ (ma 7 rfl) (.inr (ran_of hd 7 (by kernel_rfl))) trivial
      have u_12 : aa.eval (.tmp 12) = .int .i64 (((cb m.clean 2 ||| cb m.won 4) : Nat) : Int) := r_12
      have r_16 := hI.vs _ (ma 11 rfl) (.inr (ran_of hd 11 (by kernel_rfl))) trivial
      have u_16 : aa.eval (.tmp 16) = .int .i64 ((m.wq.toNat * 8 : Nat) : Int) := r_16
      have HH : Has aa 68 [(12, .int .i64 (((cb m.clean 2 ||| cb m.won 4) : Nat) : Int)), (16, .int .i64 ((m.wq.toNat * 8 : Nat) : Int))] := Has.of hI.sz hI.df ⟨u_12, u_16, trivial⟩
      refine wpOp_go ho gz 17 rfl (.int .i64 ((((cb m.clean 2 ||| cb m.won 4) ||| m.wq.toNat * 8) : Nat) : Int)) ww (run_bin rfl (HH.ev rfl) (HH.ev rfl) (or_i _ _ (by first | exact lt8 h17a | omega) (by first | exact lt8 h17b | omega) _ _ _)) ?_
      exact hI.put (by kernel_rfl) _ (ma 12 rfl) (by rw [hls]; show 12 < 27; decide) (by rw [hls]; decide) (.int .i64 ((((cb m.clean 2 ||| cb m.won 4) ||| m.wq.toNat * 8) : Nat) : Int)) rfl hI.wp AllSt.same
    | 13, ho =>
      obtain rfl := pick_op ho rfl
      have HH : Has aa 68 [(1, .pointer (some ⟨w.heap.size, 0, none⟩))] := Has.of hI.sz hI.df ⟨u_1, trivial⟩
      refine wpOp_go ho gz 18 rfl (.pointer (some ⟨w.heap.size, 4, none⟩)) ww (run_field rfl (HH.ev rfl) field_4) ?_
      exact hI.put (by kernel_rfl) _ (ma 13 rfl) (by rw [hls]; show 13 < 27; decide) (by rw [hls]; decide) (.pointer (some ⟨w.heap.size, 4, none⟩)) rfl hI.wp AllSt.same
    | 14, ho =>
      obtain rfl := pick_op ho rfl
      have r_18 := hI.vs _ (ma 13 rfl) (.inr (ran_of hd 13 (by kernel_rfl))) trivial
      have u_18 : aa.eval (.tmp 18) = .pointer (some ⟨w.heap.size, 4, none⟩) := r_18
      have HH : Has aa 68 [(18, .pointer (some ⟨w.heap.size, 4, none⟩))] := Has.of hI.sz hI.df ⟨u_18, trivial⟩
      refine wpOp_go ho gz 19 rfl (.pointer (some ⟨w.heap.size, 8, none⟩)) ww (run_field rfl (HH.ev rfl) fieldW_4) ?_
      exact hI.put (by kernel_rfl) _ (ma 14 rfl) (by rw [hls]; show 14 < 27; decide) (by rw [hls]; decide) (.pointer (some ⟨w.heap.size, 8, none⟩)) rfl hI.wp AllSt.same
    | 15, ho =>
      obtain rfl := pick_op ho rfl
      have r_19 := hI.vs _ (ma 14 rfl) (.inr (ran_of hd 14 (by kernel_rfl))) trivial
      have u_19 : aa.eval (.tmp 19) = .pointer (some ⟨w.heap.size, 8, none⟩) := r_19
      have HH : Has aa 68 [(19, .pointer (some ⟨w.heap.size, 8, none⟩))] := Has.of hI.sz hI.df ⟨u_19, trivial⟩
      refine wpOp_go ho gz 20 rfl (.bool m.wr) ww (run_load rfl (HH.ev rfl) (load1_b _ _ _ _ ((hI.wp.get 0 rfl).get 8 _ rfl))) ?_
      exact hI.put (by kernel_rfl) _ (ma 15 rfl) (by rw [hls]; show 15 < 27; decide) (by rw [hls]; decide) (.bool m.wr) rfl hI.wp AllSt.same
    | 16, ho =>
      obtain rfl := pick_op ho rfl
      have r_20 := hI.vs _ (ma 15 rfl) (.inr (ran_of hd 15 (by kernel_rfl))) trivial
      have u_20 : aa.eval (.tmp 20) = .bool m.wr := r_20
      have HH : Has aa 68 [(20, .bool m.wr)] := Has.of hI.sz hI.df ⟨u_20, trivial⟩
      refine wpOp_enter ho gz 21 rfl 98 _ (run_callH HH rfl rfl (fun _ _ => by kernel_rfl)) _ (quietC (packBitN m.wr 32 32 rfl ww)) ?_
      rintro _ _ ⟨rfl, rfl⟩
      exact hI.put (by kernel_rfl) _ (ma 16 rfl) (by rw [hls]; show 16 < 27; decide) (by rw [hls]; decide) (.int .i64 ((cb m.wr 32 : Nat) : Int)) rfl hI.wp AllSt.same
    | 17, ho =>
      obtain rfl := pick_op ho rfl
      have r_17 := hI.vs _ (ma 12 rfl) (.inr (ran_of hd 12 (by kernel_rfl))) trivial
      have u_17 : aa.eval (.tmp 17) = .int .i64 ((((cb m.clean 2 ||| cb m.won 4) ||| m.wq.toNat * 8) : Nat) : Int) := r_17
      have r_21 := hI.vs _ (ma 16 rfl) (.inr (ran_of hd 16 (by kernel_rfl))) trivial
      have u_21 : aa.eval (.tmp 21) = .int .i64 ((cb m.wr 32 : Nat) : Int) := r_21
      have HH : Has aa 68 [(17, .int .i64 ((((cb m.clean 2 ||| cb m.won 4) ||| m.wq.toNat * 8) : Nat) : Int)), (21, .int .i64 ((cb m.wr 32 : Nat) : Int))] := Has.of hI.sz hI.df ⟨u_17, u_21, trivial⟩
      refine wpOp_go ho gz 22 rfl (.int .i64 (((((cb m.clean 2 ||| cb m.won 4) ||| m.wq.toNat * 8) ||| cb m.wr 32) : Nat) : Int)) ww (run_bin rfl (HH.ev rfl) (HH.ev rfl) (or_i _ _ (by first | exact lt8 h22a | omega) (by first | exact lt8 h22b | omega) _ _ _)) ?_
      exact hI.put (by kernel_rfl) _ (ma 17 rfl) (by rw [hls]; show 17 < 27; decide) (by rw [hls]; decide) (.int .i64 (((((cb m.clean 2 ||| cb m.won 4) ||| m.wq.toNat * 8) ||| cb m.wr 32) : Nat) : Int)) rfl hI.wp AllSt.same
    | 18, ho =>
      obtain rfl := pick_op ho rfl
      have HH : Has aa 68 [(1, .pointer (some ⟨w.heap.size, 0, none⟩))] := Has.of hI.sz hI.df ⟨u_1, trivial⟩
      refine wpOp_go ho gz 23 rfl (.pointer (some ⟨w.heap.size, 12, none⟩)) ww (run_field rfl (HH.ev rfl) field_8) ?_
      exact hI.put (by kernel_rfl) _ (ma 18 rfl) (by rw [hls]; show 18 < 27; decide) (by rw [hls]; decide) (.pointer (some ⟨w.heap.size, 12, none⟩)) rfl hI.wp AllSt.same
    | 19, ho =>
      obtain rfl := pick_op ho rfl
      have r_23 := hI.vs _ (ma 18 rfl) (.inr (ran_of hd 18 (by kernel_rfl))) trivial
      have u_23 : aa.eval (.tmp 23) = .pointer (some ⟨w.heap.size, 12, none⟩) := r_23
      have HH : Has aa 68 [(23, .pointer (some ⟨w.heap.size, 12, none⟩))] := Has.of hI.sz hI.df ⟨u_23, trivial⟩
      refine wpOp_go ho gz 24 rfl (.bool m.hp) ww (run_load rfl (HH.ev rfl) (load1_b _ _ _ _ ((hI.wp.get 0 rfl).get 12 _ rfl))) ?_
      exact hI.put (by kernel_rfl) _ (ma 19 rfl) (by rw [hls]; show 19 < 27; decide) (by rw [hls]; decide) (.bool m.hp) rfl hI.wp AllSt.same
    | 20, ho =>
      obtain rfl := pick_op ho rfl
      have r_24 := hI.vs _ (ma 19 rfl) (.inr (ran_of hd 19 (by kernel_rfl))) trivial
      have u_24 : aa.eval (.tmp 24) = .bool m.hp := r_24
      have HH : Has aa 68 [(24, .bool m.hp)] := Has.of hI.sz hI.df ⟨u_24, trivial⟩
      refine wpOp_enter ho gz 25 rfl 98 _ (run_callH HH rfl rfl (fun _ _ => by kernel_rfl)) _ (quietC (packBitN m.hp 64 64 rfl ww)) ?_
      rintro _ _ ⟨rfl, rfl⟩
      exact hI.put (by kernel_rfl) _ (ma 20 rfl) (by rw [hls]; show 20 < 27; decide) (by rw [hls]; decide) (.int .i64 ((cb m.hp 64 : Nat) : Int)) rfl hI.wp AllSt.same
    | 21, ho =>
      obtain rfl := pick_op ho rfl
      have r_22 := hI.vs _ (ma 17 rfl) (.inr (ran_of hd 17 (by kernel_rfl))) trivial
      have u_22 : aa.eval (.tmp 22) = .int .i64 (((((cb m.clean 2 ||| cb m.won 4) ||| m.wq.toNat * 8) ||| cb m.wr 32) : Nat) : Int) := r_22
      have r_25 := hI.vs _ (ma 20 rfl) (.inr (ran_of hd 20 (by kernel_rfl))) trivial
      have u_25 : aa.eval (.tmp 25) = .int .i64 ((cb m.hp 64 : Nat) : Int) := r_25
      have HH : Has aa 68 [(22, .int .i64 (((((cb m.clean 2 ||| cb m.won 4) ||| m.wq.toNat * 8) ||| cb m.wr 32) : Nat) : Int)), (25, .int .i64 ((cb m.hp 64 : Nat) : Int))] := Has.of hI.sz hI.df ⟨u_22, u_25, trivial⟩
      refine wpOp_go ho gz 26 rfl (.int .i64 ((((((cb m.clean 2 ||| cb m.won 4) ||| m.wq.toNat * 8) ||| cb m.wr 32) ||| cb m.hp 64) : Nat) : Int)) ww (run_bin rfl (HH.ev rfl) (HH.ev rfl) (or_i _ _ (by first | exact lt8 h26a | omega) (by first | exact lt8 h26b | omega) _ _ _)) ?_
      exact hI.put (by kernel_rfl) _ (ma 21 rfl) (by rw [hls]; show 21 < 27; decide) (by rw [hls]; decide) (.int .i64 ((((((cb m.clean 2 ||| cb m.won 4) ||| m.wq.toNat * 8) ||| cb m.wr 32) ||| cb m.hp 64) : Nat) : Int)) rfl hI.wp AllSt.same
    | 22, ho =>
      obtain rfl := pick_op ho rfl
      have HH : Has aa 68 [(1, .pointer (some ⟨w.heap.size, 0, none⟩))] := Has.of hI.sz hI.df ⟨u_1, trivial⟩
      refine wpOp_go ho gz 27 rfl (.pointer (some ⟨w.heap.size, 10, none⟩)) ww (run_field rfl (HH.ev rfl) field_6) ?_
      exact hI.put (by kernel_rfl) _ (ma 22 rfl) (by rw [hls]; show 22 < 27; decide) (by rw [hls]; decide) (.pointer (some ⟨w.heap.size, 10, none⟩)) rfl hI.wp AllSt.same
    | 23, ho =>
      obtain rfl := pick_op ho rfl
      have r_27 := hI.vs _ (ma 22 rfl) (.inr (ran_of hd 22 (by kernel_rfl))) trivial
      have u_27 : aa.eval (.tmp 27) = .pointer (some ⟨w.heap.size, 10, none⟩) := r_27
      have HH : Has aa 68 [(27, .pointer (some ⟨w.heap.size, 10, none⟩))] := Has.of hI.sz hI.df ⟨u_27, trivial⟩
      refine wpOp_go ho gz 28 rfl (.bool m.hu) ww (run_load rfl (HH.ev rfl) (load1_b _ _ _ _ ((hI.wp.get 0 rfl).get 10 _ rfl))) ?_
      exact hI.put (by kernel_rfl) _ (ma 23 rfl) (by rw [hls]; show 23 < 27; decide) (by rw [hls]; decide) (.bool m.hu) rfl hI.wp AllSt.same
    | 24, ho =>
      obtain rfl := pick_op ho rfl
      have r_28 := hI.vs _ (ma 23 rfl) (.inr (ran_of hd 23 (by kernel_rfl))) trivial
      have u_28 : aa.eval (.tmp 28) = .bool m.hu := r_28
      have HH : Has aa 68 [(28, .bool m.hu)] := Has.of hI.sz hI.df ⟨u_28, trivial⟩
      refine wpOp_enter ho gz 29 rfl 98 _ (run_callH HH rfl rfl (fun _ _ => by kernel_rfl)) _ (quietC (packBitN m.hu 128 128 rfl ww)) ?_
      rintro _ _ ⟨rfl, rfl⟩
      exact hI.put (by kernel_rfl) _ (ma 24 rfl) (by rw [hls]; show 24 < 27; decide) (by rw [hls]; decide) (.int .i64 ((cb m.hu 128 : Nat) : Int)) rfl hI.wp AllSt.same
    | 25, ho =>
      obtain rfl := pick_op ho rfl
      have r_26 := hI.vs _ (ma 21 rfl) (.inr (ran_of hd 21 (by kernel_rfl))) trivial
      have u_26 : aa.eval (.tmp 26) = .int .i64 ((((((cb m.clean 2 ||| cb m.won 4) ||| m.wq.toNat * 8) ||| cb m.wr 32) ||| cb m.hp 64) : Nat) : Int) := r_26
      have r_29 := hI.vs _ (ma 24 rfl) (.inr (ran_of hd 24 (by kernel_rfl))) trivial
      have u_29 : aa.eval (.tmp 29) = .int .i64 ((cb m.hu 128 : Nat) : Int) := r_29
      have HH : Has aa 68 [(26, .int .i64 ((((((cb m.clean 2 ||| cb m.won 4) ||| m.wq.toNat * 8) ||| cb m.wr 32) ||| cb m.hp 64) : Nat) : Int)), (29, .int .i64 ((cb m.hu 128 : Nat) : Int))] := Has.of hI.sz hI.df ⟨u_26, u_29, trivial⟩
      refine wpOp_go ho gz 30 rfl (.int .i64 (((((((cb m.clean 2 ||| cb m.won 4) ||| m.wq.toNat * 8) ||| cb m.wr 32) ||| cb m.hp 64) ||| cb m.hu 128) : Nat) : Int)) ww (run_bin rfl (HH.ev rfl) (HH.ev rfl) (or_i _ _ (by first | exact lt8 h30a | omega) (by first | exact lt8 h30b | omega) _ _ _)) ?_
      exact hI.put (by kernel_rfl) _ (ma 25 rfl) (by rw [hls]; show 25 < 27; decide) (by rw [hls]; decide) (.int .i64 (((((((cb m.clean 2 ||| cb m.won 4) ||| m.wq.toNat * 8) ||| cb m.wr 32) ||| cb m.hp 64) ||| cb m.hu 128) : Nat) : Int)) rfl hI.wp AllSt.same
    | 26, ho =>
      obtain rfl := pick_op ho rfl
      have r_30 := hI.vs _ (ma 25 rfl) (.inr (ran_of hd 25 (by kernel_rfl))) trivial
      have u_30 : aa.eval (.tmp 30) = .int .i64 (((((((cb m.clean 2 ||| cb m.won 4) ||| m.wq.toNat * 8) ||| cb m.wr 32) ||| cb m.hp 64) ||| cb m.hu 128) : Nat) : Int) := r_30
      have HH : Has aa 68 [(30, .int .i64 (((((((cb m.clean 2 ||| cb m.won 4) ||| m.wq.toNat * 8) ||| cb m.wr 32) ||| cb m.hp 64) ||| cb m.hu 128) : Nat) : Int))] := Has.of hI.sz hI.df ⟨u_30, trivial⟩
      refine wpOp_go ho gz 3 rfl (.int .i64 (((((((cb m.clean 2 ||| cb m.won 4) ||| m.wq.toNat * 8) ||| cb m.wr 32) ||| cb m.hp 64) ||| cb m.hu 128) : Nat) : Int)) ww (run_move (.inr rfl) (HH.ev rfl)) ?_
      exact hI.put (by kernel_rfl) _ (ma 26 rfl) (by rw [hls]; show 26 < 27; decide) (by rw [hls]; decide) (.int .i64 (((((((cb m.clean 2 ||| cb m.won 4) ||| m.wq.toNat * 8) ||| cb m.wr 32) ||| cb m.hp 64) ||| cb m.hu 128) : Nat) : Int)) rfl hI.wp AllSt.same
    | (k + 27), ho => simp at ho
  · intro listed a4 w2 hall hI
    have r_3 := hI.vs _ (ma 26 rfl) (.inr (hall 26 (by decide))) trivial
    have H4 : Has a4 68 [(1, .pointer (some ⟨w.heap.size, 0, none⟩)), (3, .int .i64 (((((((cb m.clean 2 ||| cb m.won 4) ||| m.wq.toNat * 8) ||| cb m.wr 32) ||| cb m.hp 64) ||| cb m.hu 128) : Nat) : Int))] := Has.of hI.sz hI.df ⟨hI.fx.1, r_3, trivial⟩
    have HB2 := hI.wp
    refine then_normal ?_
    repeat (refine wp_seq ?_)
    refine wp_region_invB (by kernel_rfl) (InvB 68 [(1, .pointer (some ⟨w.heap.size, 0, none⟩)), (3, .int .i64 (((((((cb m.clean 2 ||| cb m.won 4) ||| m.wq.toNat * 8) ||| cb m.wr 32) ||| cb m.hp 64) ||| cb m.hu 128) : Nat) : Int))] [⟨0, 31, [4], fun v w => RowIs b0 [0, 4, 77, 81, 84, 84] v w⟩, ⟨1, 32, [], fun v _ => v = .int .i64 (((((((cb m.clean 2 ||| cb m.won 4) ||| m.wq.toNat * 8) ||| cb m.wr 32) ||| cb m.hp 64) ||| cb m.hu 128) : Nat) : Int)⟩, ⟨2, 33, [], fun v _ => v = .int .u8 ((((((((cb m.clean 2 ||| cb m.won 4) ||| m.wq.toNat * 8) ||| cb m.wr 32) ||| cb m.hp 64) ||| cb m.hu 128) : Nat) : Int) % 256)⟩, ⟨3, 34, [4], fun v w => BytesAre [4, UInt8.ofNat (flagsC m)] v w⟩, ⟨4, 35, [7], fun v w => RowIs b0 ([0, 4, 77, 81, 84, 84] ++ [4, UInt8.ofNat (flagsC m)]) v w⟩, ⟨5, 36, [], fun v _ => v = .pointer (some ⟨w.heap.size, 3, none⟩)⟩, ⟨6, 37, [], fun v _ => v = .int .i64 m.keep⟩, ⟨7, 38, [], fun v w => RowIs b0 (([0, 4, 77, 81, 84, 84] ++ [4, UInt8.ofNat (flagsC m)]) ++ big 2 m.keep.toNat) v w⟩, ⟨8, 4, [], fun v w => RowIs b0 (([0, 4, 77, 81, 84, 84] ++ [4, UInt8.ofNat (flagsC m)]) ++ big 2 m.keep.toNat) v w⟩] (Base w b0 [(w.heap.size, (mqCells m vc vw vf))])) (back_of (by kernel_rfl)) ?_ ?_ ?_
    · intro listed aa ww i o hs hni hcl ho hd hI
      have hls : listed.size = 9 := hs
      have u_1 : aa.eval (.tmp 1) = .pointer (some ⟨w.heap.size, 0, none⟩) := hI.fx.1
      have u_3 : aa.eval (.tmp 3) = .int .i64 (((((((cb m.clean 2 ||| cb m.won 4) ||| m.wq.toNat * 8) ||| cb m.wr 32) ||| cb m.hp 64) ||| cb m.hu 128) : Nat) : Int) := hI.fx.2.1
      match i, ho with
      | 0, ho =>
        obtain rfl := pick_op ho rfl
        have HH : Has aa 68 [] := Has.of hI.sz hI.df trivial
        refine wpOp_enter ho gz 31 rfl 99 _ (run_callH HH rfl rfl (fun _ _ => by kernel_rfl)) _ (rowText ww.heap.size [] (.slice none 0 0) ({ data := #[77, 81, 84, 84] } : ByteArray) (by decide) ww (RowIs.nil _ _) (Nat.le_refl _) (by simp)) ?_
        rintro v' w' ⟨hrow, hb⟩
        exact hI.put (by kernel_rfl) _ (ma 0 rfl) (by rw [hls]; show 0 < 9; decide) (by rw [hls]; decide) (v') (by rw [show ([0, 4, 77, 81, 84, 84] : List UInt8) = [] ++ strB ({ data := #[77, 81, 84, 84] } : ByteArray) by decide]; exact hrow.base hI.wp.bw) (hI.wp.call hb) ⟨fun h => absurd rfl h, fun _ _ _ _ _ h => h, fun _ _ _ _ _ h => h, fun _ _ _ _ _ h => h.below hb, fun _ _ _ _ _ h => h.below hb, fun _ _ _ _ _ h => h, fun _ _ _ _ _ h => h, fun _ _ _ _ _ h => h.below hb, fun _ _ _ _ _ h => h.below hb, trivial⟩
      | 1, ho =>
        obtain rfl := pick_op ho rfl
        have HH : Has aa 68 [(3, .int .i64 (((((((cb m.clean 2 ||| cb m.won 4) ||| m.wq.toNat * 8) ||| cb m.wr 32) ||| cb m.hp 64) ||| cb m.hu 128) : Nat) : Int))] := Has.of hI.sz hI.df ⟨u_3, trivial⟩
        refine wpOp_go ho gz 32 rfl (.int .i64 (((((((cb m.clean 2 ||| cb m.won 4) ||| m.wq.toNat * 8) ||| cb m.wr 32) ||| cb m.hp 64) ||| cb m.hu 128) : Nat) : Int)) ww (run_move (.inl rfl) (HH.ev rfl)) ?_
        exact hI.put (by kernel_rfl) _ (ma 1 rfl) (by rw [hls]; show 1 < 9; decide) (by rw [hls]; decide) (.int .i64 (((((((cb m.clean 2 ||| cb m.won 4) ||| m.wq.toNat * 8) ||| cb m.wr 32) ||| cb m.hp 64) ||| cb m.hu 128) : Nat) : Int)) rfl hI.wp AllSt.same
      | 2, ho =>
        obtain rfl := pick_op ho rfl
        have r_32 := hI.vs _ (ma 1 rfl) (.inr (ran_of hd 1 (by kernel_rfl))) trivial
        have u_32 : aa.eval (.tmp 32) = .int .i64 (((((((cb m.clean 2 ||| cb m.won 4) ||| m.wq.toNat * 8) ||| cb m.wr 32) ||| cb m.hp 64) ||| cb m.hu 128) : Nat) : Int) := r_32
        have HH : Has aa 68 [(32, .int .i64 (((((((cb m.clean 2 ||| cb m.won 4) ||| m.wq.toNat * 8) ||| cb m.wr 32) ||| cb m.hp 64) ||| cb m.hu 128) : Nat) : Int))] := Has.of hI.sz hI.df ⟨u_32, trivial⟩
        refine wpOp_go ho gz 33 rfl (.int .u8 ((((((((cb m.clean 2 ||| cb m.won 4) ||| m.wq.toNat * 8) ||| cb m.wr 32) ||| cb m.hp 64) ||| cb m.hu 128) : Nat) : Int) % 256)) ww (run_conv rfl (HH.ev rfl) (conv_u8 _ _)) ?_
        exact hI.put (by kernel_rfl) _ (ma 2 rfl) (by rw [hls]; show 2 < 9; decide) (by rw [hls]; decide) (.int .u8 ((((((((cb m.clean 2 ||| cb m.won 4) ||| m.wq.toNat * 8) ||| cb m.wr 32) ||| cb m.hp 64) ||| cb m.hu 128) : Nat) : Int) % 256)) rfl hI.wp AllSt.same
      | 3, ho =>
        obtain rfl := pick_op ho rfl
        have r_33 := hI.vs _ (ma 2 rfl) (.inr (ran_of hd 2 (by kernel_rfl))) trivial
        have u_33 : aa.eval (.tmp 33) = .int .u8 ((((((((cb m.clean 2 ||| cb m.won 4) ||| m.wq.toNat * 8) ||| cb m.wr 32) ||| cb m.hp 64) ||| cb m.hu 128) : Nat) : Int) % 256) := r_33
        have HH : Has aa 68 [(33, .int .u8 ((((((((cb m.clean 2 ||| cb m.won 4) ||| m.wq.toNat * 8) ||| cb m.wr 32) ||| cb m.hp 64) ||| cb m.hu 128) : Nat) : Int) % 256))] := Has.of hI.sz hI.df ⟨u_33, trivial⟩
        obtain ⟨hby, hb⟩ := bytes_lit ww [4, UInt8.ofNat (flagsC m)] [.int .u8 4, .int .u8 ((((((((cb m.clean 2 ||| cb m.won 4) ||| m.wq.toNat * 8) ||| cb m.wr 32) ||| cb m.hp 64) ||| cb m.hu 128) : Nat) : Int) % 256)] (by rw [hflags, byte_of_int _ (by omega)]; rfl) 5 2 rfl
        refine wpOp_go ho gz 34 rfl (.slice (some ⟨ww.heap.size, 0, none⟩) 2 2) (ww.alloc (.cells ([.int .u8 4, .int .u8 ((((((((cb m.clean 2 ||| cb m.won 4) ||| m.wq.toNat * 8) ||| cb m.wr 32) ||| cb m.hp 64) ||| cb m.hu 128) : Nat) : Int) % 256)] : List Value).toArray 5)) (run_any HH (by intro cs b h; cases h) (by kernel_rfl) (by kernel_rfl)) ?_
        exact hI.put (by kernel_rfl) _ (ma 3 rfl) (by rw [hls]; show 3 < 9; decide) (by rw [hls]; decide) (.slice (some ⟨ww.heap.size, 0, none⟩) 2 2) hby (hI.wp.call hb) ⟨fun _ _ _ _ _ h => h.below hb, fun _ _ _ _ _ h => h, fun _ _ _ _ _ h => h, fun h => absurd rfl h, fun _ _ _ _ _ h => h.below hb, fun _ _ _ _ _ h => h, fun _ _ _ _ _ h => h, fun _ _ _ _ _ h => h.below hb, fun _ _ _ _ _ h => h.below hb, trivial⟩
      | 4, ho =>
        obtain rfl := pick_op ho rfl
        have r_31 := hI.vs _ (ma 0 rfl) (.inr (ran_of hd 0 (by kernel_rfl))) ⟨hni, trivial⟩
        have r_34 := hI.vs _ (ma 3 rfl) (.inr (ran_of hd 3 (by kernel_rfl))) ⟨hni, trivial⟩
        have HH : Has aa 68 [(31, aa.eval (.tmp 31)), (34, aa.eval (.tmp 34))] := Has.of hI.sz hI.df ⟨rfl, rfl, trivial⟩
        obtain ⟨v', w', hrun, hrow, hb0, hg⟩ := run_append_row (P := Tryd.prog) (a := aa) (w := ww) Tryd.underlying31 info_u8 (o := ⟨some 35, _, _, _, _, none⟩) rfl rfl rfl r_31 r_34 (by simp only [List.length_cons, List.length_nil]; omega) hI.wp.bw
        refine wpOp_go ho gz 35 rfl v' w' hrun ?_
        exact hI.put (by kernel_rfl) _ (ma 4 rfl) (by rw [hls]; show 4 < 9; decide) (by rw [hls]; decide) (v') hrow (hI.wp.step hb0) ⟨fun _ h => absurd (by show 4 ∈ ([4] : List Nat); decide) h, fun _ _ _ _ _ h => h, fun _ _ _ _ _ h => h, fun _ h => absurd (by show 4 ∈ ([4] : List Nat); decide) h, fun h => absurd rfl h, fun _ _ _ _ _ h => h, fun _ _ _ _ _ h => h, fun _ _ h => absurd (hni.symm.trans (ran_of (hcl 7 _ rfl (h.resolve_left (by rw [hls]; show ¬ 9 ≤ 7; decide))) 4 (by kernel_rfl))) (by decide), fun _ _ h => absurd (hni.symm.trans (ran_of (hcl 7 _ rfl (ran_of (hcl 8 _ rfl (h.resolve_left (by rw [hls]; show ¬ 9 ≤ 8; decide))) 7 (by kernel_rfl))) 4 (by kernel_rfl))) (by decide), trivial⟩
      | 5, ho =>
        obtain rfl := pick_op ho rfl
        have HH : Has aa 68 [(1, .pointer (some ⟨w.heap.size, 0, none⟩))] := Has.of hI.sz hI.df ⟨u_1, trivial⟩
        refine wpOp_go ho gz 36 rfl (.pointer (some ⟨w.heap.size, 3, none⟩)) ww (run_field rfl (HH.ev rfl) field_3) ?_
        exact hI.put (by kernel_rfl) _ (ma 5 rfl) (by rw [hls]; show 5 < 9; decide) (by rw [hls]; decide) (.pointer (some ⟨w.heap.size, 3, none⟩)) rfl hI.wp AllSt.same
      | 6, ho =>
        obtain rfl := pick_op ho rfl
        have r_36 := hI.vs _ (ma 5 rfl) (.inr (ran_of hd 5 (by kernel_rfl))) trivial
        have u_36 : aa.eval (.tmp 36) = .pointer (some ⟨w.heap.size, 3, none⟩) := r_36
        have HH : Has aa 68 [(36, .pointer (some ⟨w.heap.size, 3, none⟩))] := Has.of hI.sz hI.df ⟨u_36, trivial⟩
        refine wpOp_go ho gz 37 rfl (.int .i64 m.keep) ww (run_load rfl (HH.ev rfl) (load1_i _ _ _ _ ((hI.wp.get 0 rfl).get 3 _ rfl))) ?_
        exact hI.put (by kernel_rfl) _ (ma 6 rfl) (by rw [hls]; show 6 < 9; decide) (by rw [hls]; decide) (.int .i64 m.keep) rfl hI.wp AllSt.same
      | 7, ho =>
        obtain rfl := pick_op ho rfl
        have r_35 := hI.vs _ (ma 4 rfl) (.inr (ran_of hd 4 (by kernel_rfl))) ⟨hni, trivial⟩
        have r_37 := hI.vs _ (ma 6 rfl) (.inr (ran_of hd 6 (by kernel_rfl))) trivial
        have u_37 : aa.eval (.tmp 37) = .int .i64 m.keep := r_37
        have HH : Has aa 68 [(35, aa.eval (.tmp 35)), (37, .int .i64 m.keep)] := Has.of hI.sz hI.df ⟨rfl, u_37, trivial⟩
        refine wpOp_enter ho gz 38 rfl 100 _ (run_callH HH rfl rfl (fun _ _ => by kernel_rfl)) _ (rowTwo b0 ([0, 4, 77, 81, 84, 84] ++ [4, UInt8.ofNat (flagsC m)]) (aa.eval (.tmp 35)) m.keep hk0 hk1 ww r_35 hI.wp.bw (by simp only [List.length_append, List.length_cons, List.length_nil]; omega)) ?_
        rintro v' w' ⟨hrow, hb0⟩
        exact hI.put (by kernel_rfl) _ (ma 7 rfl) (by rw [hls]; show 7 < 9; decide) (by rw [hls]; decide) (v') hrow (hI.wp.step hb0) ⟨fun _ _ _ hk => absurd (hk.1.symm.trans (ran_of hd 4 (by kernel_rfl))) (by decide), fun _ _ _ _ _ h => h, fun _ _ _ _ _ h => h, fun _ _ _ hk => absurd (hk.1.symm.trans (ran_of hd 4 (by kernel_rfl))) (by decide), fun _ h => absurd (by show 7 ∈ ([7] : List Nat); decide) h, fun _ _ _ _ _ h => h, fun _ _ _ _ _ h => h, fun h => absurd rfl h, fun _ _ h => absurd (hni.symm.trans (ran_of (hcl 8 _ rfl (h.resolve_left (by rw [hls]; show ¬ 9 ≤ 8; decide))) 7 (by kernel_rfl))) (by decide), trivial⟩
      | 8, ho =>
        obtain rfl := pick_op ho rfl
        have r_38 := hI.vs _ (ma 7 rfl) (.inr (ran_of hd 7 (by kernel_rfl))) trivial
        have HH : Has aa 68 [(38, aa.eval (.tmp 38))] := Has.of hI.sz hI.df ⟨rfl, trivial⟩
        refine wpOp_go ho gz 4 rfl (aa.eval (.tmp 38)) ww (run_move (.inr rfl) (HH.ev rfl)) ?_
        exact hI.put (by kernel_rfl) _ (ma 8 rfl) (by rw [hls]; show 8 < 9; decide) (by rw [hls]; decide) (aa.eval (.tmp 38)) r_38 hI.wp AllSt.same
      | (k + 9), ho => simp at ho
    · intro listed a5 w3 hall hI
      have r_4 := hI.vs _ (ma 8 rfl) (.inr (hall 8 (by decide))) trivial
      have H5 : Has a5 68 [(1, .pointer (some ⟨w.heap.size, 0, none⟩)), (3, .int .i64 (((((((cb m.clean 2 ||| cb m.won 4) ||| m.wq.toNat * 8) ||| cb m.wr 32) ||| cb m.hp 64) ||| cb m.hu 128) : Nat) : Int)), (4, a5.eval (.tmp 4))] := Has.of hI.sz hI.df ⟨hI.fx.1, hI.fx.2.1, rfl, trivial⟩
      have HB3 := hI.wp
      have R4_3 : RowIs b0 (([0, 4, 77, 81, 84, 84] ++ [4, UInt8.ofNat (flagsC m)]) ++ big 2 m.keep.toNat) (a5.eval (.tmp 4)) w3 := r_4
      refine then_normal ?_
      have H6 := H5.keep (l' := [(1, .pointer (some ⟨w.heap.size, 0, none⟩)), (4, a5.eval (.tmp 4))]) ⟨rfl, rfl, trivial⟩
      repeat (refine wp_seq ?_)
      refine wp_region_list ?_
      refine H6.move gz (.inl rfl) rfl rfl rfl ?_
      intro a7 H7
      refine H7.field gz rfl rfl rfl rfl field_1 ?_
      intro a8 H8
      refine H8.load gz rfl rfl rfl rfl (load1_s _ _ _ _ ((HB3.get 0 rfl).get 1 _ rfl)) ?_
      intro a9 H9
      refine H9.call gz rfl rfl rfl rfl (fun _ _ => by kernel_rfl) (rowText b0 (([0, 4, 77, 81, 84, 84] ++ [4, UInt8.ofNat (flagsC m)]) ++ big 2 m.keep.toNat) _ m.client hc _ R4_3 HB3.bw (by simp only [List.length_append, big_length, List.length_cons, List.length_nil]; omega)) ?_
      rintro a10 v42 w4 ⟨R42, hb⟩ H10
      have HB4 := HB3.step hb
      clear hb
      refine H10.move gz (.inr rfl) rfl rfl rfl ?_
      intro a11 H11
      refine nt ?_
      refine wp_seq_join (fun a w' => ∃ v, Has a 68 [(1, .pointer (some ⟨w.heap.size, 0, none⟩)), (4, v)] ∧ RowIs b0 (((([0, 4, 77, 81, 84, 84] ++ [4, UInt8.ofNat (flagsC m)]) ++ big 2 m.keep.toNat) ++ strB m.client) ++ (if m.won then strB m.wt ++ strB m.wp else [])) v w' ∧ Base w b0 [(w.heap.size, (mqCells m vc vw vf))] w') ?_ ?_
      · cases hb45 : m.won with
        | true =>
          repeat (refine wp_seq ?_)
          refine wp_region_list ?_
          refine H11.field gz rfl rfl rfl rfl field_4 ?_
          intro a12 H12
          refine H12.go gz rfl rfl _ (run_field rfl (H12.ev rfl) fieldW_0) ?_
          intro a13 H13
          refine H13.load gz rfl rfl rfl rfl (load1_b _ _ _ _ ((HB4.get 0 rfl).get 4 _ rfl)) ?_
          intro a14 H14
          refine nt ?_
          have H14b := H14.keep (l' := [(1, .pointer (some ⟨w.heap.size, 0, none⟩)), (4, v42), (45, .bool true)]) ⟨rfl, rfl, by first | exact congrArg (fun x => some (Value.bool x)) hb45, trivial⟩
          refine H14b.condT rfl ?_
          have H15 := H14b
          refine wp_region_invB (by kernel_rfl) (InvB 68 [(1, .pointer (some ⟨w.heap.size, 0, none⟩))] [⟨0, 46, [4], fun v w => RowIs b0 ((([0, 4, 77, 81, 84, 84] ++ [4, UInt8.ofNat (flagsC m)]) ++ big 2 m.keep.toNat) ++ strB m.client) v w⟩, ⟨1, 47, [], fun v _ => v = .pointer (some ⟨w.heap.size, 4, none⟩)⟩, ⟨2, 48, [], fun v _ => v = .pointer (some ⟨w.heap.size, 5, none⟩)⟩, ⟨3, 49, [], fun v _ => v = .string m.wt⟩, ⟨4, 50, [8], fun v w => RowIs b0 (((([0, 4, 77, 81, 84, 84] ++ [4, UInt8.ofNat (flagsC m)]) ++ big 2 m.keep.toNat) ++ strB m.client) ++ strB m.wt) v w⟩, ⟨5, 51, [], fun v _ => v = .pointer (some ⟨w.heap.size, 4, none⟩)⟩, ⟨6, 52, [], fun v _ => v = .pointer (some ⟨w.heap.size, 6, none⟩)⟩, ⟨7, 53, [], fun v _ => v = .string m.wp⟩, ⟨8, 54, [], fun v w => RowIs b0 (((([0, 4, 77, 81, 84, 84] ++ [4, UInt8.ofNat (flagsC m)]) ++ big 2 m.keep.toNat) ++ strB m.client) ++ strB m.wt ++ strB m.wp) v w⟩, ⟨9, 4, [], fun v w => RowIs b0 (((([0, 4, 77, 81, 84, 84] ++ [4, UInt8.ofNat (flagsC m)]) ++ big 2 m.keep.toNat) ++ strB m.client) ++ strB m.wt ++ strB m.wp) v w⟩, ⟨1000, 4, [4, 9], fun v w => RowIs b0 ((([0, 4, 77, 81, 84, 84] ++ [4, UInt8.ofNat (flagsC m)]) ++ big 2 m.keep.toNat) ++ strB m.client) v w⟩] (Base w b0 [(w.heap.size, (mqCells m vc vw vf))])) (back_of (by kernel_rfl)) ?_ ?_ ?_
          · intro listed aa ww i o hs hni hcl ho hd hI
            have hls : listed.size = 10 := hs
            have u_1 : aa.eval (.tmp 1) = .pointer (some ⟨w.heap.size, 0, none⟩) := hI.fx.1
            match i, ho with
            | 0, ho =>
              obtain rfl := pick_op ho rfl
              have r_4 := hI.vs _ (ma 10 rfl) (.inl (by rw [hls]; show 10 ≤ 1000; decide)) ⟨(Bool.eq_false_iff.2 fun h => absurd (hni.symm.trans (ran_of (hcl 4 _ rfl h) 0 (by kernel_rfl))) (by decide)), (Bool.eq_false_iff.2 fun h => absurd (hni.symm.trans (ran_of (hcl 4 _ rfl (ran_of (hcl 8 _ rfl (ran_of (hcl 9 _ rfl h) 8 (by kernel_rfl))) 4 (by kernel_rfl))) 0 (by kernel_rfl))) (by decide)), trivial⟩
              have HH : Has aa 68 [(4, aa.eval (.tmp 4))] := Has.of hI.sz hI.df ⟨rfl, trivial⟩
              refine wpOp_go ho gz 46 rfl (aa.eval (.tmp 4)) ww (run_move (.inl rfl) (HH.ev rfl)) ?_
              exact hI.put (by kernel_rfl) _ (ma 0 rfl) (by rw [hls]; show 0 < 10; decide) (by rw [hls]; decide) (aa.eval (.tmp 4)) r_4 hI.wp AllSt.same
            | 1, ho =>
              obtain rfl := pick_op ho rfl
              have HH : Has aa 68 [(1, .pointer (some ⟨w.heap.size, 0, none⟩))] := Has.of hI.sz hI.df ⟨u_1, trivial⟩
              refine wpOp_go ho gz 47 rfl (.pointer (some ⟨w.heap.size, 4, none⟩)) ww (run_field rfl (HH.ev rfl) field_4) ?_
              exact hI.put (by kernel_rfl) _ (ma 1 rfl) (by rw [hls]; show 1 < 10; decide) (by rw [hls]; decide) (.pointer (some ⟨w.heap.size, 4, none⟩)) rfl hI.wp AllSt.same
            | 2, ho =>
              obtain rfl := pick_op ho rfl
              have r_47 := hI.vs _ (ma 1 rfl) (.inr (ran_of hd 1 (by kernel_rfl))) trivial
              have u_47 : aa.eval (.tmp 47) = .pointer (some ⟨w.heap.size, 4, none⟩) := r_47
              have HH : Has aa 68 [(47, .pointer (some ⟨w.heap.size, 4, none⟩))] := Has.of hI.sz hI.df ⟨u_47, trivial⟩
              refine wpOp_go ho gz 48 rfl (.pointer (some ⟨w.heap.size, 5, none⟩)) ww (run_field rfl (HH.ev rfl) fieldW_1) ?_
              exact hI.put (by kernel_rfl) _ (ma 2 rfl) (by rw [hls]; show 2 < 10; decide) (by rw [hls]; decide) (.pointer (some ⟨w.heap.size, 5, none⟩)) rfl hI.wp AllSt.same
            | 3, ho =>
              obtain rfl := pick_op ho rfl
              have r_48 := hI.vs _ (ma 2 rfl) (.inr (ran_of hd 2 (by kernel_rfl))) trivial
              have u_48 : aa.eval (.tmp 48) = .pointer (some ⟨w.heap.size, 5, none⟩) := r_48
              have HH : Has aa 68 [(48, .pointer (some ⟨w.heap.size, 5, none⟩))] := Has.of hI.sz hI.df ⟨u_48, trivial⟩
              refine wpOp_go ho gz 49 rfl (.string m.wt) ww (run_load rfl (HH.ev rfl) (load1_s _ _ _ _ ((hI.wp.get 0 rfl).get 5 _ rfl))) ?_
              exact hI.put (by kernel_rfl) _ (ma 3 rfl) (by rw [hls]; show 3 < 10; decide) (by rw [hls]; decide) (.string m.wt) rfl hI.wp AllSt.same
            | 4, ho =>
              obtain rfl := pick_op ho rfl
              have r_46 := hI.vs _ (ma 0 rfl) (.inr (ran_of hd 0 (by kernel_rfl))) ⟨hni, trivial⟩
              have r_49 := hI.vs _ (ma 3 rfl) (.inr (ran_of hd 3 (by kernel_rfl))) trivial
              have u_49 : aa.eval (.tmp 49) = .string m.wt := r_49
              have HH : Has aa 68 [(46, aa.eval (.tmp 46)), (49, .string m.wt)] := Has.of hI.sz hI.df ⟨rfl, u_49, trivial⟩
              refine wpOp_enter ho gz 50 rfl 99 _ (run_callH HH rfl rfl (fun _ _ => by kernel_rfl)) _ (rowText b0 ((([0, 4, 77, 81, 84, 84] ++ [4, UInt8.ofNat (flagsC m)]) ++ big 2 m.keep.toNat) ++ strB m.client) (aa.eval (.tmp 46)) m.wt ht ww r_46 hI.wp.bw (by simp only [List.length_append, strB_length, big_length, List.length_cons, List.length_nil]; omega)) ?_
              rintro v' w' ⟨hrow, hb0⟩
              exact hI.put (by kernel_rfl) _ (ma 4 rfl) (by rw [hls]; show 4 < 10; decide) (by rw [hls]; decide) (v') hrow (hI.wp.step hb0) ⟨fun _ h => absurd (by show 4 ∈ ([4] : List Nat); decide) h, fun _ _ _ _ _ h => h, fun _ _ _ _ _ h => h, fun _ _ _ _ _ h => h, fun h => absurd rfl h, fun _ _ _ _ _ h => h, fun _ _ _ _ _ h => h, fun _ _ _ _ _ h => h, fun _ _ h => absurd (hni.symm.trans (ran_of (hcl 8 _ rfl (h.resolve_left (by rw [hls]; show ¬ 10 ≤ 8; decide))) 4 (by kernel_rfl))) (by decide), fun _ _ h => absurd (hni.symm.trans (ran_of (hcl 8 _ rfl (ran_of (hcl 9 _ rfl (h.resolve_left (by rw [hls]; show ¬ 10 ≤ 9; decide))) 8 (by kernel_rfl))) 4 (by kernel_rfl))) (by decide), fun _ h => absurd (by show 4 ∈ ([4, 9] : List Nat); decide) h, trivial⟩
            | 5, ho =>
              obtain rfl := pick_op ho rfl
              have HH : Has aa 68 [(1, .pointer (some ⟨w.heap.size, 0, none⟩))] := Has.of hI.sz hI.df ⟨u_1, trivial⟩
              refine wpOp_go ho gz 51 rfl (.pointer (some ⟨w.heap.size, 4, none⟩)) ww (run_field rfl (HH.ev rfl) field_4) ?_
              exact hI.put (by kernel_rfl) _ (ma 5 rfl) (by rw [hls]; show 5 < 10; decide) (by rw [hls]; decide) (.pointer (some ⟨w.heap.size, 4, none⟩)) rfl hI.wp AllSt.same
            | 6, ho =>
              obtain rfl := pick_op ho rfl
              have r_51 := hI.vs _ (ma 5 rfl) (.inr (ran_of hd 5 (by kernel_rfl))) trivial
              have u_51 : aa.eval (.tmp 51) = .pointer (some ⟨w.heap.size, 4, none⟩) := r_51
              have HH : Has aa 68 [(51, .pointer (some ⟨w.heap.size, 4, none⟩))] := Has.of hI.sz hI.df ⟨u_51, trivial⟩
              refine wpOp_go ho gz 52 rfl (.pointer (some ⟨w.heap.size, 6, none⟩)) ww (run_field rfl (HH.ev rfl) fieldW_2) ?_
              exact hI.put (by kernel_rfl) _ (ma 6 rfl) (by rw [hls]; show 6 < 10; decide) (by rw [hls]; decide) (.pointer (some ⟨w.heap.size, 6, none⟩)) rfl hI.wp AllSt.same
            | 7, ho =>
              obtain rfl := pick_op ho rfl
              have r_52 := hI.vs _ (ma 6 rfl) (.inr (ran_of hd 6 (by kernel_rfl))) trivial
              have u_52 : aa.eval (.tmp 52) = .pointer (some ⟨w.heap.size, 6, none⟩) := r_52
              have HH : Has aa 68 [(52, .pointer (some ⟨w.heap.size, 6, none⟩))] := Has.of hI.sz hI.df ⟨u_52, trivial⟩
              refine wpOp_go ho gz 53 rfl (.string m.wp) ww (run_load rfl (HH.ev rfl) (load1_s _ _ _ _ ((hI.wp.get 0 rfl).get 6 _ rfl))) ?_
              exact hI.put (by kernel_rfl) _ (ma 7 rfl) (by rw [hls]; show 7 < 10; decide) (by rw [hls]; decide) (.string m.wp) rfl hI.wp AllSt.same
            | 8, ho =>
              obtain rfl := pick_op ho rfl
              have r_50 := hI.vs _ (ma 4 rfl) (.inr (ran_of hd 4 (by kernel_rfl))) ⟨hni, trivial⟩
              have r_53 := hI.vs _ (ma 7 rfl) (.inr (ran_of hd 7 (by kernel_rfl))) trivial
              have u_53 : aa.eval (.tmp 53) = .string m.wp := r_53
              have HH : Has aa 68 [(50, aa.eval (.tmp 50)), (53, .string m.wp)] := Has.of hI.sz hI.df ⟨rfl, u_53, trivial⟩
              refine wpOp_enter ho gz 54 rfl 99 _ (run_callH HH rfl rfl (fun _ _ => by kernel_rfl)) _ (rowText b0 (((([0, 4, 77, 81, 84, 84] ++ [4, UInt8.ofNat (flagsC m)]) ++ big 2 m.keep.toNat) ++ strB m.client) ++ strB m.wt) (aa.eval (.tmp 50)) m.wp hp ww r_50 hI.wp.bw (by simp only [List.length_append, strB_length, big_length, List.length_cons, List.length_nil]; omega)) ?_
              rintro v' w' ⟨hrow, hb0⟩
              exact hI.put (by kernel_rfl) _ (ma 8 rfl) (by rw [hls]; show 8 < 10; decide) (by rw [hls]; decide) (v') hrow (hI.wp.step hb0) ⟨fun _ _ _ hk => absurd (hk.1.symm.trans (ran_of hd 4 (by kernel_rfl))) (by decide), fun _ _ _ _ _ h => h, fun _ _ _ _ _ h => h, fun _ _ _ _ _ h => h, fun _ h => absurd (by show 8 ∈ ([8] : List Nat); decide) h, fun _ _ _ _ _ h => h, fun _ _ _ _ _ h => h, fun _ _ _ _ _ h => h, fun h => absurd rfl h, fun _ _ h => absurd (hni.symm.trans (ran_of (hcl 9 _ rfl (h.resolve_left (by rw [hls]; show ¬ 10 ≤ 9; decide))) 8 (by kernel_rfl))) (by decide), fun _ _ _ hk => absurd (hk.1.symm.trans (ran_of hd 4 (by kernel_rfl))) (by decide), trivial⟩
            | 9, ho =>
              obtain rfl := pick_op ho rfl
              have r_54 := hI.vs _ (ma 8 rfl) (.inr (ran_of hd 8 (by kernel_rfl))) trivial
              have HH : Has aa 68 [(54, aa.eval (.tmp 54))] := Has.of hI.sz hI.df ⟨rfl, trivial⟩
              refine wpOp_go ho gz 4 rfl (aa.eval (.tmp 54)) ww (run_move (.inr rfl) (HH.ev rfl)) ?_
              exact hI.put (by kernel_rfl) _ (ma 9 rfl) (by rw [hls]; show 9 < 10; decide) (by rw [hls]; decide) (aa.eval (.tmp 54)) r_54 hI.wp AllSt.same
            | (k + 10), ho => simp at ho
          · intro listed a16 w5 hall hI
            have r_4 := hI.vs _ (ma 9 rfl) (.inr (hall 9 (by decide))) trivial
            have H16 : Has a16 68 [(1, .pointer (some ⟨w.heap.size, 0, none⟩)), (4, a16.eval (.tmp 4))] := Has.of hI.sz hI.df ⟨hI.fx.1, rfl, trivial⟩
            have HB5 := hI.wp
            have R4_5 : RowIs b0 (((([0, 4, 77, 81, 84, 84] ++ [4, UInt8.ofNat (flagsC m)]) ++ big 2 m.keep.toNat) ++ strB m.client) ++ strB m.wt ++ strB m.wp) (a16.eval (.tmp 4)) w5 := r_4
            refine then_normal ?_
            exact ⟨_, H16.keep ⟨rfl, rfl, trivial⟩, (by rw [if_pos rfl, ← List.append_assoc]; exact R4_5), HB5⟩
          · exact InvB.start H15.sz H15.df ⟨H15.at_ 1 _ rfl, trivial⟩ ⟨fun h => absurd h (by show ¬ 10 ≤ 0; decide), fun h => absurd h (by show ¬ 10 ≤ 1; decide), fun h => absurd h (by show ¬ 10 ≤ 2; decide), fun h => absurd h (by show ¬ 10 ≤ 3; decide), fun h => absurd h (by show ¬ 10 ≤ 4; decide), fun h => absurd h (by show ¬ 10 ≤ 5; decide), fun h => absurd h (by show ¬ 10 ≤ 6; decide), fun h => absurd h (by show ¬ 10 ≤ 7; decide), fun h => absurd h (by show ¬ 10 ≤ 8; decide), fun h => absurd h (by show ¬ 10 ≤ 9; decide), fun _ => (by rw [H15.at_ 4 _ rfl]; exact R42.drew), trivial⟩ HB4.drew
        | false =>
          repeat (refine wp_seq ?_)
          refine wp_region_list ?_
          refine H11.field gz rfl rfl rfl rfl field_4 ?_
          intro a12 H12
          refine H12.go gz rfl rfl _ (run_field rfl (H12.ev rfl) fieldW_0) ?_
          intro a13 H13
          refine H13.load gz rfl rfl rfl rfl (load1_b _ _ _ _ ((HB4.get 0 rfl).get 4 _ rfl)) ?_
          intro a14 H14
          refine nt ?_
          have H14b := H14.keep (l' := [(1, .pointer (some ⟨w.heap.size, 0, none⟩)), (4, v42), (45, .bool false)]) ⟨rfl, rfl, by first | exact congrArg (fun x => some (Value.bool x)) hb45, trivial⟩
          refine H14b.condF rfl ?_
          refine skip_wp ?_
          refine then_normal ?_
          exact ⟨_, H14b.keep ⟨rfl, rfl, trivial⟩, (by rw [if_neg (show ¬ (false = true) by decide), List.append_nil]; exact R42), HB4⟩
      · rintro a51 w24 ⟨v4_24, H51, R4_24, HB24⟩
        have hl1 : (if m.won then strB m.wt ++ strB m.wp else []).length ≤ 200000 := by split <;> simp [strB_length] <;> omega
        refine wp_seq_join (fun a w' => ∃ v, Has a 68 [(1, .pointer (some ⟨w.heap.size, 0, none⟩)), (4, v)] ∧ RowIs b0 ((((([0, 4, 77, 81, 84, 84] ++ [4, UInt8.ofNat (flagsC m)]) ++ big 2 m.keep.toNat) ++ strB m.client) ++ (if m.won then strB m.wt ++ strB m.wp else [])) ++ (if m.hu then strB m.user else [])) v w' ∧ Base w b0 [(w.heap.size, (mqCells m vc vw vf))] w') ?_ ?_
        · cases hb56 : m.hu with
          | true =>
            repeat (refine wp_seq ?_)
            refine wp_region_list ?_
            refine H51.field gz rfl rfl rfl rfl field_6 ?_
            intro a52 H52
            refine H52.load gz rfl rfl rfl rfl (load1_b _ _ _ _ ((HB24.get 0 rfl).get 10 _ rfl)) ?_
            intro a53 H53
            refine nt ?_
            have H53b := H53.keep (l' := [(1, .pointer (some ⟨w.heap.size, 0, none⟩)), (4, v4_24), (56, .bool true)]) ⟨rfl, rfl, by first | exact congrArg (fun x => some (Value.bool x)) hb56, trivial⟩
            refine H53b.condT rfl ?_
            have H54 := H53b
            refine wp_region_list ?_
            refine H54.move gz (.inl rfl) rfl rfl rfl ?_
            intro a55 H55
            refine H55.field gz rfl rfl rfl rfl field_5 ?_
            intro a56 H56
            refine H56.load gz rfl rfl rfl rfl (load1_s _ _ _ _ ((HB24.get 0 rfl).get 9 _ rfl)) ?_
            intro a57 H57
            refine H57.call gz rfl rfl rfl rfl (fun _ _ => by kernel_rfl) (rowText b0 (((([0, 4, 77, 81, 84, 84] ++ [4, UInt8.ofNat (flagsC m)]) ++ big 2 m.keep.toNat) ++ strB m.client) ++ (if m.won then strB m.wt ++ strB m.wp else [])) _ m.user hu' _ R4_24 HB24.bw (by simp only [List.length_append, strB_length, big_length, List.length_cons, List.length_nil]; omega)) ?_
            rintro a58 v60 w25 ⟨R60, hb⟩ H58
            have HB25 := HB24.step hb
            clear hb
            refine H58.move gz (.inr rfl) rfl rfl rfl ?_
            intro a59 H59
            refine nt ?_
            exact ⟨_, H59.keep ⟨rfl, rfl, trivial⟩, (by rw [if_pos rfl]; exact R60), HB25⟩
          | false =>
            repeat (refine wp_seq ?_)
            refine wp_region_list ?_
            refine H51.field gz rfl rfl rfl rfl field_6 ?_
            intro a52 H52
            refine H52.load gz rfl rfl rfl rfl (load1_b _ _ _ _ ((HB24.get 0 rfl).get 10 _ rfl)) ?_
            intro a53 H53
            refine nt ?_
            have H53b := H53.keep (l' := [(1, .pointer (some ⟨w.heap.size, 0, none⟩)), (4, v4_24), (56, .bool false)]) ⟨rfl, rfl, by first | exact congrArg (fun x => some (Value.bool x)) hb56, trivial⟩
            refine H53b.condF rfl ?_
            refine skip_wp ?_
            refine then_normal ?_
            exact ⟨_, H53b.keep ⟨rfl, rfl, trivial⟩, (by rw [if_neg (show ¬ (false = true) by decide), List.append_nil]; exact R4_24), HB24⟩
        · rintro a91 w44 ⟨v4_44, H91, R4_44, HB44⟩
          have hl2 : (if m.hu then strB m.user else []).length ≤ 200000 := by split <;> simp [strB_length] <;> omega
          refine wp_seq_join (fun a w' => ∃ v, Has a 68 [(1, .pointer (some ⟨w.heap.size, 0, none⟩)), (4, v)] ∧ RowIs b0 (((((([0, 4, 77, 81, 84, 84] ++ [4, UInt8.ofNat (flagsC m)]) ++ big 2 m.keep.toNat) ++ strB m.client) ++ (if m.won then strB m.wt ++ strB m.wp else [])) ++ (if m.hu then strB m.user else [])) ++ (if m.hp then strB m.pass else [])) v w' ∧ Base w b0 [(w.heap.size, (mqCells m vc vw vf))] w') ?_ ?_
          · cases hb62 : m.hp with
            | true =>
              repeat (refine wp_seq ?_)
              refine wp_region_list ?_
              refine H91.field gz rfl rfl rfl rfl field_8 ?_
              intro a92 H92
              refine H92.load gz rfl rfl rfl rfl (load1_b _ _ _ _ ((HB44.get 0 rfl).get 12 _ rfl)) ?_
              intro a93 H93
              refine nt ?_
              have H93b := H93.keep (l' := [(1, .pointer (some ⟨w.heap.size, 0, none⟩)), (4, v4_44), (62, .bool true)]) ⟨rfl, rfl, by first | exact congrArg (fun x => some (Value.bool x)) hb62, trivial⟩
              refine H93b.condT rfl ?_
              have H94 := H93b
              refine wp_region_list ?_
              refine H94.move gz (.inl rfl) rfl rfl rfl ?_
              intro a95 H95
              refine H95.field gz rfl rfl rfl rfl field_7 ?_
              intro a96 H96
              refine H96.load gz rfl rfl rfl rfl (load1_s _ _ _ _ ((HB44.get 0 rfl).get 11 _ rfl)) ?_
              intro a97 H97
              refine H97.call gz rfl rfl rfl rfl (fun _ _ => by kernel_rfl) (rowText b0 ((((([0, 4, 77, 81, 84, 84] ++ [4, UInt8.ofNat (flagsC m)]) ++ big 2 m.keep.toNat) ++ strB m.client) ++ (if m.won then strB m.wt ++ strB m.wp else [])) ++ (if m.hu then strB m.user else [])) _ m.pass hp' _ R4_44 HB44.bw (by simp only [List.length_append, strB_length, big_length, List.length_cons, List.length_nil]; omega)) ?_
              rintro a98 v66 w45 ⟨R66, hb⟩ H98
              have HB45 := HB44.step hb
              clear hb
              refine H98.move gz (.inr rfl) rfl rfl rfl ?_
              intro a99 H99
              refine nt ?_
              exact ⟨_, H99.keep ⟨rfl, rfl, trivial⟩, (by rw [if_pos rfl]; exact R66), HB45⟩
            | false =>
              repeat (refine wp_seq ?_)
              refine wp_region_list ?_
              refine H91.field gz rfl rfl rfl rfl field_8 ?_
              intro a92 H92
              refine H92.load gz rfl rfl rfl rfl (load1_b _ _ _ _ ((HB44.get 0 rfl).get 12 _ rfl)) ?_
              intro a93 H93
              refine nt ?_
              have H93b := H93.keep (l' := [(1, .pointer (some ⟨w.heap.size, 0, none⟩)), (4, v4_44), (62, .bool false)]) ⟨rfl, rfl, by first | exact congrArg (fun x => some (Value.bool x)) hb62, trivial⟩
              refine H93b.condF rfl ?_
              refine skip_wp ?_
              refine then_normal ?_
              exact ⟨_, H93b.keep ⟨rfl, rfl, trivial⟩, (by rw [if_neg (show ¬ (false = true) by decide), List.append_nil]; exact R4_44), HB44⟩
          · rintro a131 w64 ⟨v4_64, H131, R4_64, HB64⟩
            repeat (refine wp_seq ?_)
            refine wp_region_list ?_
            refine H131.move gz (.inl rfl) rfl rfl rfl ?_
            intro a132 H132
            refine H132.move gz (.inr rfl) rfl rfl rfl ?_
            intro a133 H133
            refine nt ?_
            refine wp_ret ?_
            repeat (first | (with_reducible refine block_ret ?_) | (with_reducible refine then_ret ?_))
            refine bodyPost_ret (results_tmp rfl _ _ _) H133.df ?_
            refine ⟨_, congrArg Ending.returned (H133.at_ 2 _ rfl), ?_, HB64.own.bel⟩
            rw [connect_spell]; exact R4_64.base HB64.hb
    · exact InvB.start H4.sz H4.df ⟨H4.at_ 1 _ rfl, H4.at_ 3 _ rfl, trivial⟩ ⟨fun h => absurd h (by show ¬ 9 ≤ 0; decide), fun h => absurd h (by show ¬ 9 ≤ 1; decide), fun h => absurd h (by show ¬ 9 ≤ 2; decide), fun h => absurd h (by show ¬ 9 ≤ 3; decide), fun h => absurd h (by show ¬ 9 ≤ 4; decide), fun h => absurd h (by show ¬ 9 ≤ 5; decide), fun h => absurd h (by show ¬ 9 ≤ 6; decide), fun h => absurd h (by show ¬ 9 ≤ 7; decide), fun h => absurd h (by show ¬ 9 ≤ 8; decide), trivial⟩ HB2.drew
  · exact InvB.start H3.sz H3.df ⟨H3.at_ 1 _ rfl, trivial⟩ ⟨fun h => absurd h (by show ¬ 27 ≤ 0; decide), fun h => absurd h (by show ¬ 27 ≤ 1; decide), fun h => absurd h (by show ¬ 27 ≤ 2; decide), fun h => absurd h (by show ¬ 27 ≤ 3; decide), fun h => absurd h (by show ¬ 27 ≤ 4; decide), fun h => absurd h (by show ¬ 27 ≤ 5; decide), fun h => absurd h (by show ¬ 27 ≤ 6; decide), fun h => absurd h (by show ¬ 27 ≤ 7; decide), fun h => absurd h (by show ¬ 27 ≤ 8; decide), fun h => absurd h (by show ¬ 27 ≤ 9; decide), fun h => absurd h (by show ¬ 27 ≤ 10; decide), fun h => absurd h (by show ¬ 27 ≤ 11; decide), fun h => absurd h (by show ¬ 27 ≤ 12; decide), fun h => absurd h (by show ¬ 27 ≤ 13; decide), fun h => absurd h (by show ¬ 27 ≤ 14; decide), fun h => absurd h (by show ¬ 27 ≤ 15; decide), fun h => absurd h (by show ¬ 27 ≤ 16; decide), fun h => absurd h (by show ¬ 27 ≤ 17; decide), fun h => absurd h (by show ¬ 27 ≤ 18; decide), fun h => absurd h (by show ¬ 27 ≤ 19; decide), fun h => absurd h (by show ¬ 27 ≤ 20; decide), fun h => absurd h (by show ¬ 27 ≤ 21; decide), fun h => absurd h (by show ¬ 27 ≤ 22; decide), fun h => absurd h (by show ¬ 27 ≤ 23; decide), fun h => absurd h (by show ¬ 27 ≤ 24; decide), fun h => absurd h (by show ¬ 27 ≤ 25; decide), fun h => absurd h (by show ¬ 27 ≤ 26; decide), trivial⟩ HB1.drew
end Go.Proofs.YtkcdkjpmbjcmdaaDoor

/-
  Loops at a frame that is a letter; 'two' and 'text' once more: which block is written.
-/
namespace Go.Proofs.YtkcdkjpmbjcmdaaDoor
open Go.RowKit

section
variable {P : Program} {Q : Exit → Act → World → Prop} {a : Act} {w : World}
/-- a loop whose rounds are counted: k of N are done. -/
theorem wp_loop_up {c : Code} (N : Nat) (J : Nat → Act → World → Prop) (h0 : J 0 a w) (round : ∀ k a w, k ≤ N → J k a w → c.wp P (Exit.then (fun a' w' => k < N ∧ J (k + 1) a' w') Q) a w) : (Code.loop c).wp P Q a w := by
  have key : ∀ n k a w, N - k = n → k ≤ N → J k a w → Code.rounds P c Q (n + 1) a w := by
    intro n
    induction n with
    | zero =>
      intro k a w hn hk hJ
      rw [rounds_succ]
      refine wp_mono (round k a w hk hJ) ?_
      intro e a' w' he
      cases e with
      | normal => exact absurd he.1 (by omega)
      | _ => exact he
    | succ n ih =>
      intro k a w hn hk hJ
      rw [rounds_succ]
      refine wp_mono (round k a w hk hJ) ?_
      intro e a' w' he
      cases e with
      | normal => exact ih (k + 1) a' w' (by omega) he.1 he.2
      | _ => exact he
  exact wp_loop_rounds (N + 1) (key N 0 a w (by omega) (Nat.zero_le _) h0)
theorem then_exit {next : Act → World → Prop} {id : Nat} (h : Q (.exit id) a w) : Exit.then next Q (.exit id) a w := h
theorem block_leave {id : Nat} (h : Q .normal a w) : Exit.inBlock id Q (.exit id) a w := by
  simp only [Exit.inBlock, if_true]
  exact h
theorem block_pass {id id' : Nat} (hne : Nat.beq id' id = false) (h : Q (.exit id') a w) : Exit.inBlock id Q (.exit id') a w := by
  have hn : id' ≠ id := by intro e; subst e; rw [Nat.beq_refl] at hne; cases hne
  simp only [Exit.inBlock, hn, if_false]
  exact h
end
theorem shr8 (k : Int) (_h0 : 0 ≤ k) (_h1 : k ≤ 65535) (x y : Operand) (w : World) : (do eqGuard .shr 3 x y (.int .i64 k) (.int .u64 8); binOp .shr 3 (.int .i64 k) (.int .u64 8) : Sem Value).run Tryd.prog w = .ok (.int .i64 (k / 256)) w := by
  simp [go_sem]
theorem lss_i (u v : Int) (b : Bool) (h : decide (u < v) = b) (x y : Operand) (w : World) : (do eqGuard .lss 3 x y (.int .i64 u) (.int .i64 v); binOp .lss 3 (.int .i64 u) (.int .i64 v) : Sem Value).run Tryd.prog w = .ok (.bool b) w := by
  subst h
  simp [go_sem]
theorem gtr_i (u v : Int) (b : Bool) (h : decide (v < u) = b) (x y : Operand) (w : World) : (do eqGuard .gtr 3 x y (.int .i64 u) (.int .i64 v); binOp .gtr 3 (.int .i64 u) (.int .i64 v) : Sem Value).run Tryd.prog w = .ok (.bool b) w := by
  subst h
  simp [go_sem]
theorem geq_i (u v : Int) (b : Bool) (h : decide (v ≤ u) = b) (x y : Operand) (w : World) : (do eqGuard .geq 3 x y (.int .i64 u) (.int .i64 v); binOp .geq 3 (.int .i64 u) (.int .i64 v) : Sem Value).run Tryd.prog w = .ok (.bool b) w := by
  subst h
  simp [go_sem]
theorem succ_i (k : Nat) (h : k < 9223372036854775807) (x y : Operand) (w : World) : (do eqGuard .add 3 x y (.int .i64 k) (.int .i64 1); binOp .add 3 (.int .i64 k) (.int .i64 1) : Sem Value).run Tryd.prog w = .ok (.int .i64 ((k + 1 : Nat) : Int)) w := by
  simp [go_sem]
  exact IntWalk.i64_in _ (by omega)
theorem index_1 (T : TypeId) (hT : Tryd.prog.underlying T = some (.slice (Tryd.prog.elem T))) (hs : ∀ w, (sizeOf (Tryd.prog.elem T)).run Tryd.prog w = .ok 1 w) (b o n c k : Nat) (hk : k < n) (w : World) : (Instr.indexAt T (.slice (some ⟨b, o, none⟩) n c) (.int .i64 k)).run Tryd.prog w = .ok (.pointer (some ⟨b, o + k, none⟩)) w := by
  rw [run_indexAt_slice (h := hT), if_pos ⟨by omega, by omega⟩, hs]
  have e : (Addr.mk b o none).add ((k : Int).toNat * 1) = ⟨b, o + k, none⟩ := by
    rw [Int.toNat_natCast, Nat.mul_one]
    unfold Addr.add
    by_cases h : k = 0 <;> simp [h]
  rw [Result.andThen_ok, e]
theorem index_2 (T : TypeId) (hT : Tryd.prog.underlying T = some (.slice (Tryd.prog.elem T))) (hs : ∀ w, (sizeOf (Tryd.prog.elem T)).run Tryd.prog w = .ok 2 w) (b o n c k : Nat) (hk : k < n) (w : World) : (Instr.indexAt T (.slice (some ⟨b, o, none⟩) n c) (.int .i64 k)).run Tryd.prog w = .ok (.pointer (some ⟨b, o + k * 2, none⟩)) w := by
  rw [run_indexAt_slice (h := hT), if_pos ⟨by omega, by omega⟩, hs]
  have e : (Addr.mk b o none).add ((k : Int).toNat * 2) = ⟨b, o + k * 2, none⟩ := by
    rw [Int.toNat_natCast]
    unfold Addr.add
    by_cases h : k = 0
    · simp [h]
    · rw [if_neg (by omega)]
  rw [Result.andThen_ok, e]
section
variable {P : Program} {ops : Array Oper} {rest : List Oper} {o : Oper} {a : Act} {w : World} {Q : Exit → Act → World → Prop} {n : Nat} {l : List (Nat × Value)}
theorem Has.index (H : Has a n l) (hw : Region.wanted o (yielded ops a.tmps) = true) {T d : Nat} {x i : Operand} {u v r : Value} (ho : o.op = .indexAddr T x i) (hd : o.dst = some d) (hn : Nat.blt d n = true) (hx : evL l x = some u) (hi : evL l i = some v)
    (hq : (Instr.indexAt T u v).run P w = .ok r w) (h : ∀ a', Has a' n ((d, r) :: l) → wpList P ops Q rest a' w) : wpList P ops Q (o :: rest) a w := by
  refine H.go hw hd hn _ ?_ h
  unfold execOp
  simp only [ho, H.ev hx, H.ev hi, Sem.run_bind, hq, Result.andThen_ok, Sem.run_pure]
theorem Has.len (H : Has a n l) (hw : Region.wanted o (yielded ops a.tmps) = true) {d : Nat} {s : Operand} {t : TypeId} {A : Option Addr} {m c : Nat} (ho : o.op = .call { callee := .builtin .len, args := #[s], argTypes := #[t] }) (hd : o.dst = some d) (hn : Nat.blt d n = true) (hs : evL l s = some (.slice A m c)) {e : TypeId} (ht : P.underlying t = some (.slice e))
    (h : ∀ a', Has a' n ((d, .int .i64 m) :: l) → wpList P ops Q rest a' w) : wpList P ops Q (o :: rest) a w :=
  H.go hw hd hn _ (run_len ho (H.ev hs) ht) h
theorem Has.bytes (H : Has a n l) (hw : Region.wanted o (yielded ops a.tmps) = true) {d k : Nat} (hd : o.dst = some d) (hn : Nat.blt d n = true) (xs : List UInt8) (vs : List Value) (hxs : vs = xs.map bv) (hk : xs.length = k) (e : TypeId) (hs : ∀ cs b, o.op ≠ .select cs b) (hops : o.op.operands.all (fun x => (evL l x).isSome) = true)
    (hrun : (execOp (fun x => (evL l x).getD undef) o).run P w = .ok (.value (.slice (some ⟨w.heap.size, 0, none⟩) k k)) (w.alloc (.cells vs.toArray e)))
    (h : ∀ a' v w', Has a' n ((d, v) :: l) → BytesAre xs v w' → Below w.heap.size w w' → wpList P ops Q rest a' w') : wpList P ops Q (o :: rest) a w := by
  obtain ⟨h1, h2⟩ := bytes_lit w xs vs hxs e k hk
  exact H.go hw hd hn _ (run_any H hs hops hrun) (fun a' H' => h a' _ _ H' h1 h2)
theorem Has.appendRow (H : Has a n l) (hgb : P.underlying 31 = some (.slice 5)) (hi : (P.info? 5).map (fun i => (i.zero, i.size, i.bytes)) = some (some (.int .u8 0), 1, 1)) (hw : Region.wanted o (yielded ops a.tmps) = true) {d : Nat} {s x : Operand}
    (ho : o.op = .call { callee := .builtin .append, args := #[s, x], argTypes := #[31, 31] }) (hd : o.dst = some d) (hn : Nat.blt d n = true) {b : Nat} {xs ys : List UInt8} {v u : Value} (hs : evL l s = some v) (hx : evL l x = some u) (hv : RowIs b xs v w) (hu : BytesAre ys u w)
    (hl : xs.length + ys.length ≤ 140737488355328) (hb : b ≤ w.heap.size) (h : ∀ a' v' w', Has a' n ((d, v') :: l) → RowIs b (xs ++ ys) v' w' → Below b w w' → w.grownBy w' v.ownBlock → wpList P ops Q rest a' w') : wpList P ops Q (o :: rest) a w := by
  obtain ⟨v', w', hrun, h1, h2, h3⟩ := run_append_row (P := P) (a := a) (w := w) hgb hi (o := o) ho (H.ev hs) (H.ev hx) hv hu hl hb
  exact H.go hw hd hn v' hrun (fun a' H' => h a' v' w' H' h1 h2 h3)
theorem Has.appendStr (H : Has a n l) (hgb : P.underlying 31 = some (.slice 5)) (hst : P.underlying 9 = some .string) (hi : (P.info? 5).map (fun i => (i.zero, i.size, i.bytes)) = some (some (.int .u8 0), 1, 1)) (hw : Region.wanted o (yielded ops a.tmps) = true) {d : Nat} {s x : Operand}
    (ho : o.op = .call { callee := .builtin .append, args := #[s, x], argTypes := #[31, 9] }) (hd : o.dst = some d) (hn : Nat.blt d n = true) {b : Nat} {xs : List UInt8} {v : Value} {str : ByteArray} (hs : evL l s = some v) (hx : evL l x = some (.string str)) (hv : RowIs b xs v w)
    (hl : xs.length + str.size ≤ 140737488355328) (hb : b ≤ w.heap.size) (h : ∀ a' v' w', Has a' n ((d, v') :: l) → RowIs b (xs ++ sb str) v' w' → Below b w w' → w.grownBy w' v.ownBlock → wpList P ops Q rest a' w') : wpList P ops Q (o :: rest) a w := by
  obtain ⟨v', w', hrun, h1, h2, h3⟩ := run_append_strR (P := P) (a := a) (w := w) hgb hst hi (o := o) ho (H.ev hs) (H.ev hx) hv hl hb
  exact H.go hw hd hn v' hrun (fun a' H' => h a' v' w' H' h1 h2 h3)
end
section
variable {P : Program} {o : Oper} {a : Act} {w : World}
theorem run_index {T : Nat} {x i : Operand} {u v r : Value} (ho : o.op = .indexAddr T x i) (hx : a.eval x = u) (hi : a.eval i = v) (hq : (Instr.indexAt T u v).run P w = .ok r w) : (execOp a.eval o).run P w = .ok (.value r) w := by
  unfold execOp
  simp only [ho, hx, hi, Sem.run_bind, hq, Result.andThen_ok, Sem.run_pure]
end
theorem lit_two (k : Int) (h0 : 0 ≤ k) (h1 : k ≤ 65535) : [Value.int .u8 (k / 256 % 256), .int .u8 (k % 256)] = (big 2 k.toNat).map bv := by
  rw [big2]
  simp only [List.map_cons, List.map_nil, bv, UInt8.toNat_ofNat']
  congr 2
  · congr 1; omega
  · congr 2; omega
end Go.Proofs.YtkcdkjpmbjcmdaaDoor
