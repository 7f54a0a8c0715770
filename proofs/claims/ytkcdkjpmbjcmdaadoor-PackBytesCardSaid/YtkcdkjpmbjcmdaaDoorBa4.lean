/-
  pack.body: a packet's bytes behind its length.
-/
import Derived.Maps.AppendAt
import Derived.Deep.Strs
import Derived.Deep.SlicePairs
import Derived.Test.YtkcdkjpmbjcmdaaDoorBa3
namespace Go.Proofs.YtkcdkjpmbjcmdaaDoor
open Go.RowKit

theorem RowIs.read {b : Nat} {xs : List UInt8} {v : Value} {w : World} (h : RowIs b xs v w) : BytesAre xs v w := by
  obtain ⟨A, c, rfl, ho⟩ := h
  exact ⟨A, c, rfl, RB.of_ownN ho⟩
/-- what 'body' answers. -/
def Bodied (m : Mq) (w : World) (e : Ending) (w' : World) : Prop := ∃ v, e = .returned (.tuple #[.int .i64 ((flagsBy m : Nat) : Int), v]) ∧ BytesAre (bodyBy m) v w' ∧ Below w.heap.size w w'
theorem bodied_of {m : Mq} {w w' : World} {b : Nat} {bs : List (Nat × List Value)} {f : Int} {xs : List UInt8} {v : Value} (hf : f = ((flagsBy m : Nat) : Int)) (hx : bodyBy m = xs) (hv : BytesAre xs v w') (hb : Base w b bs w') :
    Bodied m w (.returned (.tuple #[.int .i64 f, v])) w' := by
  subst hf hx
  exact ⟨v, rfl, hv, hb.own.bel⟩
theorem results_pair {P : Program} {fn : Func} {p q : Tmp} (h : fn.results = #[.tmp p, .tmp q]) (tmps : Array Value) (u v : Value) {w : World} (hp : tmps.getD p undef = u) (hq : tmps.getD q undef = v) : (results fn tmps).run P w = .ok (.tuple #[u, v]) w := by
  have hp' : tmps[p]?.getD undef = u := by simpa using hp
  have hq' : tmps[q]?.getD undef = v := by simpa using hq
  simp [results, h, hp', hq']
theorem Laid.row {xs : List UInt8} {w w' : World} {e : Ending} {b : Nat} (h : Laid xs w e w') (hb : b ≤ w.heap.size) : ∃ v', e = .returned v' ∧ (RowIs b xs v' w' ∧ Below b w w') := by
  obtain ⟨v, rfl, hr, hbl⟩ := h
  exact ⟨v, rfl, hr.base hb, hbl.mono hb⟩
theorem mul2 (k : Int) (h0 : 0 ≤ k) (h2 : k ≤ 2) (x y : Operand) (w : World) : (do eqGuard .mul 3 x y (.int .i64 2) (.int .i64 k); binOp .mul 3 (.int .i64 2) (.int .i64 k) : Sem Value).run Tryd.prog w = .ok (.int .i64 ((2 * k.toNat : Nat) : Int)) w := by
  have : k = 0 ∨ k = 1 ∨ k = 2 := by omega
  rcases this with rfl | rfl | rfl <;> simp [go_sem] <;> rfl
theorem pub_or (a b : Bool) (q : Nat) (hq : q ≤ 2) : ((cb a 8 ||| 2 * q) ||| cb b 1) = cb a 8 + 2 * q + cb b 1 := by
  obtain ⟨q', rfl⟩ : ∃ q' : Fin 3, q = q'.val := ⟨⟨q, by omega⟩, rfl⟩
  revert a b q'
  decide
theorem Reads.int {w : World} {B n k : Nat} {A : Option Addr} {l : List Int} (h : Reads w B 1 A n (l.map iv)) (hl : l.length = n) (hk : k < n) : ∃ b o x, A = some ⟨b, o, none⟩ ∧ b < B ∧ l[k]? = some x ∧ w.cell? ⟨b, o + k, none⟩ = some (.int .i64 x) := by
  obtain ⟨b, o, v, hA, hb, hv, hc⟩ := h.get1 hk
  have hx : l[k]? = some l[k] := List.getElem?_eq_getElem (by omega)
  rw [List.getElem?_map, hx] at hv
  injection hv with hv
  exact ⟨b, o, _, hA, hb, hx, by rw [hc, ← hv]⟩
theorem Reads.str {w : World} {B n k : Nat} {A : Option Addr} {l : List ByteArray} (h : Reads w B 1 A n (l.map sv)) (hl : l.length = n) (hk : k < n) : ∃ b o x, A = some ⟨b, o, none⟩ ∧ b < B ∧ l[k]? = some x ∧ w.cell? ⟨b, o + k, none⟩ = some (.string x) := by
  obtain ⟨b, o, v, hA, hb, hv, hc⟩ := h.get1 hk
  have hx : l[k]? = some l[k] := List.getElem?_eq_getElem (by omega)
  rw [List.getElem?_map, hx] at hv
  injection hv with hv
  exact ⟨b, o, _, hA, hb, hx, by rw [hc, ← hv]⟩
theorem codesAll_get : ∀ {l : List Int} {k : Nat} {x : Int}, codesAll l = true → l[k]? = some x → 0 ≤ x ∧ x ≤ 128
  | y :: l, 0, x, h, hx => by
    simp only [List.getElem?_cons_zero, Option.some.injEq] at hx
    subst hx
    obtain ⟨a, b, _⟩ := codesAll_mem rfl h
    exact ⟨a, b⟩
  | y :: l, k + 1, x, h, hx => codesAll_get (codesAll_mem rfl h).2.2 (by simpa using hx)
theorem filtersAll_get : ∀ {l : List ByteArray} {k : Nat} {x : ByteArray}, filtersAll l = true → l[k]? = some x → x.size ≤ 64
  | y :: l, 0, x, h, hx => by
    simp only [List.getElem?_cons_zero, Option.some.injEq] at hx
    subst hx
    exact (filtersAll_mem rfl h).1
  | y :: l, k + 1, x, h, hx => filtersAll_get (filtersAll_mem rfl h).2 (by simpa using hx)
theorem filtersAll_take : ∀ {l : List ByteArray} (k : Nat), filtersAll l = true → filtersAll (l.take k) = true
  | _, 0, _ => by simp [filtersAll]
  | [], k + 1, _ => by simp [filtersAll]
  | y :: l, k + 1, h => by
    simp only [filtersAll, Bool.and_eq_true] at h
    simp only [List.take_succ_cons, filtersAll, Bool.and_eq_true]
    exact ⟨h.1, filtersAll_take k h.2⟩
theorem wishesAll_get : ∀ {l : List (ByteArray × Int)} {k : Nat} {x : ByteArray × Int}, wishesAll l = true → l[k]? = some x → x.1.size ≤ 64 ∧ 0 ≤ x.2 ∧ x.2 ≤ 2
  | y :: l, 0, x, h, hx => by
    simp only [List.getElem?_cons_zero, Option.some.injEq] at hx
    subst hx
    obtain ⟨a, b, c, _⟩ := wishesAll_mem rfl h
    exact ⟨a, b, c⟩
  | y :: l, k + 1, x, h, hx => wishesAll_get (wishesAll_mem rfl h).2.2.2 (by simpa using hx)
theorem wishesAll_take : ∀ {l : List (ByteArray × Int)} (k : Nat), wishesAll l = true → wishesAll (l.take k) = true
  | _, 0, _ => by simp [wishesAll]
  | [], k + 1, _ => by simp [wishesAll]
  | y :: l, k + 1, h => by
    simp only [wishesAll, Bool.and_eq_true] at h
    simp only [List.take_succ_cons, wishesAll, Bool.and_eq_true]
    exact ⟨h.1, wishesAll_take k h.2⟩
theorem codesBy_app : ∀ (a : List Int) (x : Int), codesBy (a ++ [x]) = codesBy a ++ [UInt8.ofNat x.toNat]
  | [], _ => rfl
  | y :: a, x => by simp [codesBy, codesBy_app a x]
theorem filtersBy_app : ∀ (a : List ByteArray) (x : ByteArray), filtersBy (a ++ [x]) = filtersBy a ++ strB x
  | [], x => by simp [filtersBy]
  | y :: a, x => by simp [filtersBy, filtersBy_app a x]
theorem wishesBy_app : ∀ (a : List (ByteArray × Int)) (x : ByteArray × Int), wishesBy (a ++ [x]) = wishesBy a ++ (strB x.1 ++ [UInt8.ofNat x.2.toNat])
  | [], x => by simp [wishesBy]
  | y :: a, x => by simp [wishesBy, wishesBy_app a x]

set_option maxRecDepth 100000 in
set_option maxHeartbeats 3200000 in
theorem body_1 (m : Mq) (vc vw vf : Value) (w : World) (hk : m.kind = 1) (hc : m.client.size ≤ 65535) (ht : m.wt.size ≤ 65535) (hp : m.wp.size ≤ 65535) (hu' : m.user.size ≤ 65535) (hp' : m.pass.size ≤ 65535) (hk0 : 0 ≤ m.keep) (hk1 : m.keep ≤ 65535) (hq0 : 0 ≤ m.wq) (hq2 : m.wq ≤ 2) :
    Calls Tryd.prog 74 #[.agg (mqCells m vc vw vf).toArray] w (Bodied m w) := by
  have b1 : (m.kind == 1) = true := kind_eq hk
  go_enter Tryd.func74, Tryd.ntmps74
  refine Has.start 123 [(0, .agg (mqCells m vc vw vf).toArray)] rfl rfl ⟨rfl, trivial⟩ ?_
  intro a0 H0
  have O0 := Own.start w
  repeat (refine wp_seq ?_)
  refine wp_region_list ?_
  refine H0.box rfl rfl rfl rfl rfl ?_
  intro a1 w1 hb hs hC H1
  have O1 := O0.alloc hb hs hC
  clear hb hs hC
  refine H1.move gz (.inr rfl) rfl rfl rfl ?_
  intro a2 H2
  refine H2.move gz (.inr rfl) rfl rfl rfl ?_
  intro a3 H3
  refine nt ?_
  have HB1 := Base.of O1
  obtain ⟨b0, hb0⟩ : ∃ b0, b0 = w1.heap.size := ⟨_, rfl⟩
  rw [← hb0] at HB1
  have hb0' := hb0
  clear hb0
  repeat (refine wp_seq ?_)
  refine wp_region_list ?_
  refine H3.field gz rfl rfl rfl rfl field_0 ?_
  intro a4 H4
  refine H4.load gz rfl rfl rfl rfl (load1_i _ _ _ _ ((HB1.get 0 rfl).get 0 _ rfl)) ?_
  intro a5 H5
  refine nt ?_
  have H6 := H5.keep (l' := [(1, .pointer (some ⟨w.heap.size, 0, none⟩)), (2, .int .i64 0), (3, .slice none 0 0), (11, .int .i64 m.kind)]) ⟨rfl, rfl, rfl, rfl, trivial⟩
  repeat (refine wp_seq ?_)
  refine wp_block ?_
  repeat (refine wp_seq ?_)
  refine wp_region_list ?_
  refine H6.bin gz rfl rfl rfl rfl rfl (eql_iB _ _ _ b1 _ _ _) ?_
  intro a7 H7
  refine H7.move gz (.inr rfl) rfl rfl rfl ?_
  intro a8 H8
  refine nt ?_
  refine H8.condT rfl ?_
  repeat (refine wp_seq ?_)
  refine wp_region_list ?_
  refine H8.loadS rfl rfl rfl rfl rfl (HB1.get 0 rfl) Tryd.underlying30 rfl size_mq rfl ?_
  intro a9 H9
  refine H9.call gz rfl rfl rfl rfl (fun _ _ => by kernel_rfl) (((layConnectW m _ _ _ _ hc ht hp hu' hp' hk0 hk1 hq0 hq2).mono fun _ _ h => h.row HB1.bw)) ?_
  rintro a10 v15 w2 ⟨R15, hb⟩ H10
  have HB2 := HB1.step hb
  clear hb
  refine H10.move gz (.inr rfl) rfl rfl rfl ?_
  intro a11 H11
  refine H11.move gz (.inr rfl) rfl rfl rfl ?_
  intro a12 H12
  refine nt ?_
  refine wp_ret ?_
  repeat (first | (with_reducible refine block_ret ?_) | (with_reducible refine then_ret ?_))
  refine bodyPost_ret (results_pair rfl _ _ _ (H12.at_ 2 _ rfl) (H12.at_ 3 _ rfl)) H12.df ?_
  refine bodied_of (by unfold flagsBy; simp [hk]) ?_ R15.read HB2
  unfold bodyBy; rw [if_pos hk]

set_option maxRecDepth 100000 in
set_option maxHeartbeats 3200000 in
theorem body_2 (m : Mq) (vc vw vf : Value) (w : World) (hk : m.kind = 2) (hc0 : 0 ≤ m.code) :
    Calls Tryd.prog 74 #[.agg (mqCells m vc vw vf).toArray] w (Bodied m w) := by
  have b1 : (m.kind == 1) = false := kind_ne hk rfl
  have b2 : (m.kind == 2) = true := kind_eq hk
  go_enter Tryd.func74, Tryd.ntmps74
  refine Has.start 123 [(0, .agg (mqCells m vc vw vf).toArray)] rfl rfl ⟨rfl, trivial⟩ ?_
  intro a0 H0
  have O0 := Own.start w
  repeat (refine wp_seq ?_)
  refine wp_region_list ?_
  refine H0.box rfl rfl rfl rfl rfl ?_
  intro a1 w1 hb hs hC H1
  have O1 := O0.alloc hb hs hC
  clear hb hs hC
  refine H1.move gz (.inr rfl) rfl rfl rfl ?_
  intro a2 H2
  refine H2.move gz (.inr rfl) rfl rfl rfl ?_
  intro a3 H3
  refine nt ?_
  have HB1 := Base.of O1
  obtain ⟨b0, hb0⟩ : ∃ b0, b0 = w1.heap.size := ⟨_, rfl⟩
  rw [← hb0] at HB1
  have hb0' := hb0
  clear hb0
  repeat (refine wp_seq ?_)
  refine wp_region_list ?_
  refine H3.field gz rfl rfl rfl rfl field_0 ?_
  intro a4 H4
  refine H4.load gz rfl rfl rfl rfl (load1_i _ _ _ _ ((HB1.get 0 rfl).get 0 _ rfl)) ?_
  intro a5 H5
  refine nt ?_
  have H6 := H5.keep (l' := [(1, .pointer (some ⟨w.heap.size, 0, none⟩)), (2, .int .i64 0), (3, .slice none 0 0), (11, .int .i64 m.kind)]) ⟨rfl, rfl, rfl, rfl, trivial⟩
  repeat (refine wp_seq ?_)
  refine wp_block ?_
  repeat (refine wp_seq ?_)
  refine wp_region_list ?_
  refine H6.bin gz rfl rfl rfl rfl rfl (eql_iB _ _ _ b1 _ _ _) ?_
  intro a7 H7
  refine H7.move gz (.inr rfl) rfl rfl rfl ?_
  intro a8 H8
  refine nt ?_
  refine H8.condF rfl ?_
  repeat (refine wp_seq ?_)
  refine wp_region_list ?_
  refine H8.bin gz rfl rfl rfl rfl rfl (eql_iB _ _ _ b2 _ _ _) ?_
  intro a9 H9
  refine H9.move gz (.inr rfl) rfl rfl rfl ?_
  intro a10 H10
  refine nt ?_
  refine H10.condT rfl ?_
  repeat (refine wp_seq ?_)
  refine wp_region_invB (by kernel_rfl) (InvB 123 [(1, .pointer (some ⟨w.heap.size, 0, none⟩))] [⟨0, 18, [], fun v _ => v = .pointer (some ⟨w.heap.size, 13, none⟩)⟩, ⟨1, 19, [], fun v _ => v = .bool m.present⟩, ⟨2, 20, [], fun v _ => v = .int .i64 ((cb m.present 1 : Nat) : Int)⟩, ⟨3, 21, [], fun v _ => v = .int .u8 (((cb m.present 1 : Nat) : Int) % 256)⟩, ⟨4, 22, [], fun v _ => v = .pointer (some ⟨w.heap.size, 14, none⟩)⟩, ⟨5, 23, [], fun v _ => v = .int .i64 m.code⟩, ⟨6, 24, [], fun v _ => v = .int .u8 (m.code % 256)⟩, ⟨7, 25, [], fun v w => BytesAre [UInt8.ofNat (cb m.present 1), UInt8.ofNat m.code.toNat] v w⟩, ⟨8, 2, [], fun v _ => v = .int .i64 0⟩, ⟨9, 3, [], fun v w => BytesAre [UInt8.ofNat (cb m.present 1), UInt8.ofNat m.code.toNat] v w⟩] (Base w b0 [(w.heap.size, (mqCells m vc vw vf))])) (back_of (by kernel_rfl)) ?_ ?_ ?_
  · intro listed aa ww i o hs hni hcl ho hd hI
    have hls : listed.size = 10 := hs
    have u_1 : aa.eval (.tmp 1) = .pointer (some ⟨w.heap.size, 0, none⟩) := hI.fx.1
    match i, ho with
    | 0, ho =>
      obtain rfl := pick_op ho rfl
      have HH : Has aa 123 [(1, .pointer (some ⟨w.heap.size, 0, none⟩))] := Has.of hI.sz hI.df ⟨u_1, trivial⟩
      refine wpOp_go ho gz 18 rfl (.pointer (some ⟨w.heap.size, 13, none⟩)) ww (run_field rfl (HH.ev rfl) field_9) ?_
      exact hI.put (by kernel_rfl) _ (ma 0 rfl) (by rw [hls]; show 0 < 10; decide) (by rw [hls]; decide) (.pointer (some ⟨w.heap.size, 13, none⟩)) rfl hI.wp AllSt.same
    | 1, ho =>
      obtain rfl := pick_op ho rfl
      have r_18 := hI.vs _ (ma 0 rfl) (.inr (ran_of hd 0 (by kernel_rfl))) trivial
      have u_18 : aa.eval (.tmp 18) = .pointer (some ⟨w.heap.size, 13, none⟩) := r_18
      have HH : Has aa 123 [(18, .pointer (some ⟨w.heap.size, 13, none⟩))] := Has.of hI.sz hI.df ⟨u_18, trivial⟩
      refine wpOp_go ho gz 19 rfl (.bool m.present) ww (run_load rfl (HH.ev rfl) (load1_b _ _ _ _ ((hI.wp.get 0 rfl).get 13 _ rfl))) ?_
      exact hI.put (by kernel_rfl) _ (ma 1 rfl) (by rw [hls]; show 1 < 10; decide) (by rw [hls]; decide) (.bool m.present) rfl hI.wp AllSt.same
    | 2, ho =>
      obtain rfl := pick_op ho rfl
      have r_19 := hI.vs _ (ma 1 rfl) (.inr (ran_of hd 1 (by kernel_rfl))) trivial
      have u_19 : aa.eval (.tmp 19) = .bool m.present := r_19
      have HH : Has aa 123 [(19, .bool m.present)] := Has.of hI.sz hI.df ⟨u_19, trivial⟩
      refine wpOp_enter ho gz 20 rfl 98 _ (run_callH HH rfl rfl (fun _ _ => by kernel_rfl)) _ (quietC (packBitN m.present 1 1 rfl ww)) ?_
      rintro _ _ ⟨rfl, rfl⟩
      exact hI.put (by kernel_rfl) _ (ma 2 rfl) (by rw [hls]; show 2 < 10; decide) (by rw [hls]; decide) (.int .i64 ((cb m.present 1 : Nat) : Int)) rfl hI.wp AllSt.same
    | 3, ho =>
      obtain rfl := pick_op ho rfl
      have r_20 := hI.vs _ (ma 2 rfl) (.inr (ran_of hd 2 (by kernel_rfl))) trivial
      have u_20 : aa.eval (.tmp 20) = .int .i64 ((cb m.present 1 : Nat) : Int) := r_20
      have HH : Has aa 123 [(20, .int .i64 ((cb m.present 1 : Nat) : Int))] := Has.of hI.sz hI.df ⟨u_20, trivial⟩
      refine wpOp_go ho gz 21 rfl (.int .u8 (((cb m.present 1 : Nat) : Int) % 256)) ww (run_conv rfl (HH.ev rfl) (conv_u8 _ _)) ?_
      exact hI.put (by kernel_rfl) _ (ma 3 rfl) (by rw [hls]; show 3 < 10; decide) (by rw [hls]; decide) (.int .u8 (((cb m.present 1 : Nat) : Int) % 256)) rfl hI.wp AllSt.same
    | 4, ho =>
      obtain rfl := pick_op ho rfl
      have HH : Has aa 123 [(1, .pointer (some ⟨w.heap.size, 0, none⟩))] := Has.of hI.sz hI.df ⟨u_1, trivial⟩
      refine wpOp_go ho gz 22 rfl (.pointer (some ⟨w.heap.size, 14, none⟩)) ww (run_field rfl (HH.ev rfl) field_10) ?_
      exact hI.put (by kernel_rfl) _ (ma 4 rfl) (by rw [hls]; show 4 < 10; decide) (by rw [hls]; decide) (.pointer (some ⟨w.heap.size, 14, none⟩)) rfl hI.wp AllSt.same
    | 5, ho =>
      obtain rfl := pick_op ho rfl
      have r_22 := hI.vs _ (ma 4 rfl) (.inr (ran_of hd 4 (by kernel_rfl))) trivial
      have u_22 : aa.eval (.tmp 22) = .pointer (some ⟨w.heap.size, 14, none⟩) := r_22
      have HH : Has aa 123 [(22, .pointer (some ⟨w.heap.size, 14, none⟩))] := Has.of hI.sz hI.df ⟨u_22, trivial⟩
      refine wpOp_go ho gz 23 rfl (.int .i64 m.code) ww (run_load rfl (HH.ev rfl) (load1_i _ _ _ _ ((hI.wp.get 0 rfl).get 14 _ rfl))) ?_
      exact hI.put (by kernel_rfl) _ (ma 5 rfl) (by rw [hls]; show 5 < 10; decide) (by rw [hls]; decide) (.int .i64 m.code) rfl hI.wp AllSt.same
    | 6, ho =>
      obtain rfl := pick_op ho rfl
      have r_23 := hI.vs _ (ma 5 rfl) (.inr (ran_of hd 5 (by kernel_rfl))) trivial
      have u_23 : aa.eval (.tmp 23) = .int .i64 m.code := r_23
      have HH : Has aa 123 [(23, .int .i64 m.code)] := Has.of hI.sz hI.df ⟨u_23, trivial⟩
      refine wpOp_go ho gz 24 rfl (.int .u8 (m.code % 256)) ww (run_conv rfl (HH.ev rfl) (conv_u8 _ _)) ?_
      exact hI.put (by kernel_rfl) _ (ma 6 rfl) (by rw [hls]; show 6 < 10; decide) (by rw [hls]; decide) (.int .u8 (m.code % 256)) rfl hI.wp AllSt.same
    | 7, ho =>
      obtain rfl := pick_op ho rfl
      have r_21 := hI.vs _ (ma 3 rfl) (.inr (ran_of hd 3 (by kernel_rfl))) trivial
      have u_21 : aa.eval (.tmp 21) = .int .u8 (((cb m.present 1 : Nat) : Int) % 256) := r_21
      have r_24 := hI.vs _ (ma 6 rfl) (.inr (ran_of hd 6 (by kernel_rfl))) trivial
      have u_24 : aa.eval (.tmp 24) = .int .u8 (m.code % 256) := r_24
      have HH : Has aa 123 [(21, .int .u8 (((cb m.present 1 : Nat) : Int) % 256)), (24, .int .u8 (m.code % 256))] := Has.of hI.sz hI.df ⟨u_21, u_24, trivial⟩
      obtain ⟨hby, hb⟩ := bytes_lit ww [UInt8.ofNat (cb m.present 1), UInt8.ofNat m.code.toNat] [.int .u8 (((cb m.present 1 : Nat) : Int) % 256), .int .u8 (m.code % 256)] (by rw [byte_of_int _ (by omega), byte_of_int _ hc0]; rfl) 5 2 rfl
      refine wpOp_go ho gz 25 rfl (.slice (some ⟨ww.heap.size, 0, none⟩) 2 2) (ww.alloc (.cells ([.int .u8 (((cb m.present 1 : Nat) : Int) % 256), .int .u8 (m.code % 256)] : List Value).toArray 5)) (run_any HH (by intro cs b h; cases h) (by kernel_rfl) (by kernel_rfl)) ?_
      exact hI.put (by kernel_rfl) _ (ma 7 rfl) (by rw [hls]; show 7 < 10; decide) (by rw [hls]; decide) (.slice (some ⟨ww.heap.size, 0, none⟩) 2 2) hby (hI.wp.call hb) ⟨fun _ _ _ _ _ h => h, fun _ _ _ _ _ h => h, fun _ _ _ _ _ h => h, fun _ _ _ _ _ h => h, fun _ _ _ _ _ h => h, fun _ _ _ _ _ h => h, fun _ _ _ _ _ h => h, fun h => absurd rfl h, fun _ _ _ _ _ h => h, fun _ _ _ _ _ h => h.below hb, trivial⟩
    | 8, ho =>
      obtain rfl := pick_op ho rfl
      have HH : Has aa 123 [] := Has.of hI.sz hI.df trivial
      refine wpOp_go ho gz 2 rfl (.int .i64 0) ww (run_move (.inr rfl) (HH.ev rfl)) ?_
      exact hI.put (by kernel_rfl) _ (ma 8 rfl) (by rw [hls]; show 8 < 10; decide) (by rw [hls]; decide) (.int .i64 0) rfl hI.wp AllSt.same
    | 9, ho =>
      obtain rfl := pick_op ho rfl
      have r_25 := hI.vs _ (ma 7 rfl) (.inr (ran_of hd 7 (by kernel_rfl))) trivial
      have HH : Has aa 123 [(25, aa.eval (.tmp 25))] := Has.of hI.sz hI.df ⟨rfl, trivial⟩
      refine wpOp_go ho gz 3 rfl (aa.eval (.tmp 25)) ww (run_move (.inr rfl) (HH.ev rfl)) ?_
      exact hI.put (by kernel_rfl) _ (ma 9 rfl) (by rw [hls]; show 9 < 10; decide) (by rw [hls]; decide) (aa.eval (.tmp 25)) r_25 hI.wp AllSt.same
    | (k + 10), ho => simp at ho
  · intro listed a11 w2 hall hI
    have r_2 := hI.vs _ (ma 8 rfl) (.inr (hall 8 (by decide))) trivial
    have r_3 := hI.vs _ (ma 9 rfl) (.inr (hall 9 (by decide))) trivial
    have H11 : Has a11 123 [(1, .pointer (some ⟨w.heap.size, 0, none⟩)), (2, .int .i64 0), (3, a11.eval (.tmp 3))] := Has.of hI.sz hI.df ⟨hI.fx.1, r_2, rfl, trivial⟩
    have HB2 := hI.wp
    have R3_2 : BytesAre [UInt8.ofNat (cb m.present 1), UInt8.ofNat m.code.toNat] (a11.eval (.tmp 3)) w2 := r_3
    refine then_normal ?_
    refine wp_ret ?_
    repeat (first | (with_reducible refine block_ret ?_) | (with_reducible refine then_ret ?_))
    refine bodyPost_ret (results_pair rfl _ _ _ (H11.at_ 2 _ rfl) (H11.at_ 3 _ rfl)) H11.df ?_
    refine bodied_of (by unfold flagsBy; simp [hk]) ?_ R3_2 HB2
    unfold bodyBy; simp [hk]
  · exact InvB.start H10.sz H10.df ⟨H10.at_ 1 _ rfl, trivial⟩ ⟨fun h => absurd h (by show ¬ 10 ≤ 0; decide), fun h => absurd h (by show ¬ 10 ≤ 1; decide), fun h => absurd h (by show ¬ 10 ≤ 2; decide), fun h => absurd h (by show ¬ 10 ≤ 3; decide), fun h => absurd h (by show ¬ 10 ≤ 4; decide), fun h => absurd h (by show ¬ 10 ≤ 5; decide), fun h => absurd h (by show ¬ 10 ≤ 6; decide), fun h => absurd h (by show ¬ 10 ≤ 7; decide), fun h => absurd h (by show ¬ 10 ≤ 8; decide), fun h => absurd h (by show ¬ 10 ≤ 9; decide), trivial⟩ HB1.drew

set_option maxRecDepth 100000 in
set_option maxHeartbeats 3200000 in
theorem body_3 (m : Mq) (vc vw vf : Value) (w : World) (hk : m.kind = 3) (ht : m.topic.size ≤ 65535) (hp : m.payload.size ≤ 65535) (hq0 : 0 ≤ m.qos) (hq2 : m.qos ≤ 2) (hi0 : 0 ≤ m.id) (hi1 : m.id ≤ 65535) :
    Calls Tryd.prog 74 #[.agg (mqCells m vc vw vf).toArray] w (Bodied m w) := by
  have b1 : (m.kind == 1) = false := kind_ne hk rfl
  have b2 : (m.kind == 2) = false := kind_ne hk rfl
  have b3 : (m.kind == 3) = true := kind_eq hk
  go_enter Tryd.func74, Tryd.ntmps74
  refine Has.start 123 [(0, .agg (mqCells m vc vw vf).toArray)] rfl rfl ⟨rfl, trivial⟩ ?_
  intro a0 H0
  have O0 := Own.start w
  repeat (refine wp_seq ?_)
  refine wp_region_list ?_
  refine H0.box rfl rfl rfl rfl rfl ?_
  intro a1 w1 hb hs hC H1
  have O1 := O0.alloc hb hs hC
  clear hb hs hC
  refine H1.move gz (.inr rfl) rfl rfl rfl ?_
  intro a2 H2
  refine H2.move gz (.inr rfl) rfl rfl rfl ?_
  intro a3 H3
  refine nt ?_
  have HB1 := Base.of O1
  obtain ⟨b0, hb0⟩ : ∃ b0, b0 = w1.heap.size := ⟨_, rfl⟩
  rw [← hb0] at HB1
  have hb0' := hb0
  clear hb0
  repeat (refine wp_seq ?_)
  refine wp_region_list ?_
  refine H3.field gz rfl rfl rfl rfl field_0 ?_
  intro a4 H4
  refine H4.load gz rfl rfl rfl rfl (load1_i _ _ _ _ ((HB1.get 0 rfl).get 0 _ rfl)) ?_
  intro a5 H5
  refine nt ?_
  have H6 := H5.keep (l' := [(1, .pointer (some ⟨w.heap.size, 0, none⟩)), (2, .int .i64 0), (3, .slice none 0 0), (11, .int .i64 m.kind)]) ⟨rfl, rfl, rfl, rfl, trivial⟩
  repeat (refine wp_seq ?_)
  refine wp_block ?_
  repeat (refine wp_seq ?_)
  refine wp_region_list ?_
  refine H6.bin gz rfl rfl rfl rfl rfl (eql_iB _ _ _ b1 _ _ _) ?_
  intro a7 H7
  refine H7.move gz (.inr rfl) rfl rfl rfl ?_
  intro a8 H8
  refine nt ?_
  refine H8.condF rfl ?_
  repeat (refine wp_seq ?_)
  refine wp_region_list ?_
  refine H8.bin gz rfl rfl rfl rfl rfl (eql_iB _ _ _ b2 _ _ _) ?_
  intro a9 H9
  refine H9.move gz (.inr rfl) rfl rfl rfl ?_
  intro a10 H10
  refine nt ?_
  refine H10.condF rfl ?_
  repeat (refine wp_seq ?_)
  refine wp_region_list ?_
  refine H10.bin gz rfl rfl rfl rfl rfl (eql_iB _ _ _ b3 _ _ _) ?_
  intro a11 H11
  refine H11.move gz (.inr rfl) rfl rfl rfl ?_
  intro a12 H12
  refine nt ?_
  refine H12.condT rfl ?_
  refine wp_seq_join (fun a w' => ∃ v, Has a 123 [(1, .pointer (some ⟨w.heap.size, 0, none⟩)), (3, v)] ∧ RowIs b0 (([] ++ strB m.topic) ++ (if 0 < m.qos then big 2 m.id.toNat else [])) v w' ∧ Base w b0 [(w.heap.size, (mqCells m vc vw vf))] w') ?_ ?_
  · skip
    repeat (refine wp_seq ?_)
    refine wp_region_list ?_
    refine H12.field gz rfl rfl rfl rfl field_15 ?_
    intro a13 H13
    refine H13.load gz rfl rfl rfl rfl (load1_s _ _ _ _ ((HB1.get 0 rfl).get 19 _ rfl)) ?_
    intro a14 H14
    refine H14.call gz rfl rfl rfl rfl (fun _ _ => by kernel_rfl) (rowText b0 [] _ m.topic ht _ (RowIs.nil _ _) HB1.bw (by simp)) ?_
    rintro a15 v30 w2 ⟨R30, hb⟩ H15
    have HB2 := HB1.step hb
    clear hb
    refine H15.move gz (.inr rfl) rfl rfl rfl ?_
    intro a16 H16
    refine nt ?_
    by_cases hq : 0 < m.qos
    · skip
      repeat (refine wp_seq ?_)
      refine wp_region_list ?_
      refine H16.field gz rfl rfl rfl rfl field_13 ?_
      intro a17 H17
      refine H17.load gz rfl rfl rfl rfl (load1_i _ _ _ _ ((HB2.get 0 rfl).get 17 _ rfl)) ?_
      intro a18 H18
      refine H18.bin gz rfl rfl rfl rfl rfl (gtr_i _ _ true (by simpa using hq) _ _ _) ?_
      intro a19 H19
      refine nt ?_
      refine H19.condT rfl ?_
      refine wp_region_list ?_
      refine H19.move gz (.inl rfl) rfl rfl rfl ?_
      intro a20 H20
      refine H20.field gz rfl rfl rfl rfl field_16 ?_
      intro a21 H21
      refine H21.load gz rfl rfl rfl rfl (load1_i _ _ _ _ ((HB2.get 0 rfl).get 20 _ rfl)) ?_
      intro a22 H22
      refine H22.call gz rfl rfl rfl rfl (fun _ _ => by kernel_rfl) (rowTwo b0 ([] ++ strB m.topic) _ m.id hi0 hi1 _ R30 HB2.bw (by simp only [List.length_append, strB_length, List.length_nil]; omega)) ?_
      rintro a23 v37 w3 ⟨R37, hb⟩ H23
      have HB3 := HB2.step hb
      clear hb
      refine H23.move gz (.inr rfl) rfl rfl rfl ?_
      intro a24 H24
      refine nt ?_
      exact ⟨_, H24.keep ⟨rfl, rfl, trivial⟩, (by rw [if_pos hq]; exact R37), HB3⟩
    · skip
      repeat (refine wp_seq ?_)
      refine wp_region_list ?_
      refine H16.field gz rfl rfl rfl rfl field_13 ?_
      intro a17 H17
      refine H17.load gz rfl rfl rfl rfl (load1_i _ _ _ _ ((HB2.get 0 rfl).get 17 _ rfl)) ?_
      intro a18 H18
      refine H18.bin gz rfl rfl rfl rfl rfl (gtr_i _ _ false (by simpa using hq) _ _ _) ?_
      intro a19 H19
      refine nt ?_
      refine H19.condF rfl ?_
      refine skip_wp ?_
      refine then_normal ?_
      exact ⟨_, H19.keep ⟨rfl, rfl, trivial⟩, (by rw [if_neg hq, List.append_nil]; exact R30), HB2⟩
  · rintro a46 w12 ⟨v3, H46, R3, HB12⟩
    have hl1 : (if 0 < m.qos then big 2 m.id.toNat else []).length ≤ 2 := by split <;> simp [big_length]
    have g1 : cb m.dup 8 < 256 := cb_lt _ _ (by decide)
    have g2 : 2 * m.qos.toNat < 256 := by omega
    have g3 : (cb m.dup 8 ||| 2 * m.qos.toNat) < 256 := or_lt8 g1 g2
    have g4 : cb m.retain 1 < 256 := cb_lt _ _ (by decide)
    have gf : ((cb m.dup 8 ||| 2 * m.qos.toNat) ||| cb m.retain 1) = cb m.dup 8 + 2 * m.qos.toNat + cb m.retain 1 := pub_or _ _ _ (by omega)
    repeat (refine wp_seq ?_)
    refine wp_region_invB (by kernel_rfl) (InvB 123 [(1, .pointer (some ⟨w.heap.size, 0, none⟩))] [⟨0, 38, [], fun v _ => v = .pointer (some ⟨w.heap.size, 16, none⟩)⟩, ⟨1, 39, [], fun v _ => v = .bool m.dup⟩, ⟨2, 40, [], fun v _ => v = .int .i64 ((cb m.dup 8 : Nat) : Int)⟩, ⟨3, 41, [], fun v _ => v = .pointer (some ⟨w.heap.size, 17, none⟩)⟩, ⟨4, 42, [], fun v _ => v = .int .i64 m.qos⟩, ⟨5, 43, [], fun v _ => v = .int .i64 ((2 * m.qos.toNat : Nat) : Int)⟩, ⟨6, 44, [], fun v _ => v = .int .i64 (((cb m.dup 8 ||| 2 * m.qos.toNat) : Nat) : Int)⟩, ⟨7, 45, [], fun v _ => v = .pointer (some ⟨w.heap.size, 18, none⟩)⟩, ⟨8, 46, [], fun v _ => v = .bool m.retain⟩, ⟨9, 47, [], fun v _ => v = .int .i64 ((cb m.retain 1 : Nat) : Int)⟩, ⟨10, 48, [], fun v _ => v = .int .i64 ((((cb m.dup 8 ||| 2 * m.qos.toNat) ||| cb m.retain 1) : Nat) : Int)⟩, ⟨11, 49, [14], fun v w => RowIs b0 (([] ++ strB m.topic) ++ (if 0 < m.qos then big 2 m.id.toNat else [])) v w⟩, ⟨12, 50, [], fun v _ => v = .pointer (some ⟨w.heap.size, 21, none⟩)⟩, ⟨13, 51, [], fun v _ => v = .string m.payload⟩, ⟨14, 52, [], fun v w => RowIs b0 ((([] ++ strB m.topic) ++ (if 0 < m.qos then big 2 m.id.toNat else [])) ++ sb m.payload) v w⟩, ⟨15, 2, [], fun v _ => v = .int .i64 ((((cb m.dup 8 ||| 2 * m.qos.toNat) ||| cb m.retain 1) : Nat) : Int)⟩, ⟨16, 3, [], fun v w => RowIs b0 ((([] ++ strB m.topic) ++ (if 0 < m.qos then big 2 m.id.toNat else [])) ++ sb m.payload) v w⟩, ⟨1000, 3, [14, 16], fun v w => RowIs b0 (([] ++ strB m.topic) ++ (if 0 < m.qos then big 2 m.id.toNat else [])) v w⟩] (Base w b0 [(w.heap.size, (mqCells m vc vw vf))])) (back_of (by kernel_rfl)) ?_ ?_ ?_
    · intro listed aa ww i o hs hni hcl ho hd hI
      have hls : listed.size = 17 := hs
      have u_1 : aa.eval (.tmp 1) = .pointer (some ⟨w.heap.size, 0, none⟩) := hI.fx.1
      match i, ho with
      | 0, ho =>
        obtain rfl := pick_op ho rfl
        have HH : Has aa 123 [(1, .pointer (some ⟨w.heap.size, 0, none⟩))] := Has.of hI.sz hI.df ⟨u_1, trivial⟩
        refine wpOp_go ho gz 38 rfl (.pointer (some ⟨w.heap.size, 16, none⟩)) ww (run_field rfl (HH.ev rfl) field_12) ?_
        exact hI.put (by kernel_rfl) _ (ma 0 rfl) (by rw [hls]; show 0 < 17; decide) (by rw [hls]; decide) (.pointer (some ⟨w.heap.size, 16, none⟩)) rfl hI.wp AllSt.same
      | 1, ho =>
        obtain rfl := pick_op ho rfl
        have r_38 := hI.vs _ (ma 0 rfl) (.inr (ran_of hd 0 (by kernel_rfl))) trivial
        have u_38 : aa.eval (.tmp 38) = .pointer (some ⟨w.heap.size, 16, none⟩) := r_38
        have HH : Has aa 123 [(38, .pointer (some ⟨w.heap.size, 16, none⟩))] := Has.of hI.sz hI.df ⟨u_38, trivial⟩
        refine wpOp_go ho gz 39 rfl (.bool m.dup) ww (run_load rfl (HH.ev rfl) (load1_b _ _ _ _ ((hI.wp.get 0 rfl).get 16 _ rfl))) ?_
        exact hI.put (by kernel_rfl) _ (ma 1 rfl) (by rw [hls]; show 1 < 17; decide) (by rw [hls]; decide) (.bool m.dup) rfl hI.wp AllSt.same
      | 2, ho =>
        obtain rfl := pick_op ho rfl
        have r_39 := hI.vs _ (ma 1 rfl) (.inr (ran_of hd 1 (by kernel_rfl))) trivial
        have u_39 : aa.eval (.tmp 39) = .bool m.dup := r_39
        have HH : Has aa 123 [(39, .bool m.dup)] := Has.of hI.sz hI.df ⟨u_39, trivial⟩
        refine wpOp_enter ho gz 40 rfl 98 _ (run_callH HH rfl rfl (fun _ _ => by kernel_rfl)) _ (quietC (packBitN m.dup 8 8 rfl ww)) ?_
        rintro _ _ ⟨rfl, rfl⟩
        exact hI.put (by kernel_rfl) _ (ma 2 rfl) (by rw [hls]; show 2 < 17; decide) (by rw [hls]; decide) (.int .i64 ((cb m.dup 8 : Nat) : Int)) rfl hI.wp AllSt.same
      | 3, ho =>
        obtain rfl := pick_op ho rfl
        have HH : Has aa 123 [(1, .pointer (some ⟨w.heap.size, 0, none⟩))] := Has.of hI.sz hI.df ⟨u_1, trivial⟩
        refine wpOp_go ho gz 41 rfl (.pointer (some ⟨w.heap.size, 17, none⟩)) ww (run_field rfl (HH.ev rfl) field_13) ?_
        exact hI.put (by kernel_rfl) _ (ma 3 rfl) (by rw [hls]; show 3 < 17; decide) (by rw [hls]; decide) (.pointer (some ⟨w.heap.size, 17, none⟩)) rfl hI.wp AllSt.same
      | 4, ho =>
        obtain rfl := pick_op ho rfl
        have r_41 := hI.vs _ (ma 3 rfl) (.inr (ran_of hd 3 (by kernel_rfl))) trivial
        have u_41 : aa.eval (.tmp 41) = .pointer (some ⟨w.heap.size, 17, none⟩) := r_41
        have HH : Has aa 123 [(41, .pointer (some ⟨w.heap.size, 17, none⟩))] := Has.of hI.sz hI.df ⟨u_41, trivial⟩
        refine wpOp_go ho gz 42 rfl (.int .i64 m.qos) ww (run_load rfl (HH.ev rfl) (load1_i _ _ _ _ ((hI.wp.get 0 rfl).get 17 _ rfl))) ?_
        exact hI.put (by kernel_rfl) _ (ma 4 rfl) (by rw [hls]; show 4 < 17; decide) (by rw [hls]; decide) (.int .i64 m.qos) rfl hI.wp AllSt.same
      | 5, ho =>
        obtain rfl := pick_op ho rfl
        have r_42 := hI.vs _ (ma 4 rfl) (.inr (ran_of hd 4 (by kernel_rfl))) trivial
        have u_42 : aa.eval (.tmp 42) = .int .i64 m.qos := r_42
        have HH : Has aa 123 [(42, .int .i64 m.qos)] := Has.of hI.sz hI.df ⟨u_42, trivial⟩
        refine wpOp_go ho gz 43 rfl (.int .i64 ((2 * m.qos.toNat : Nat) : Int)) ww (run_bin rfl (HH.ev rfl) (HH.ev rfl) (mul2 _ hq0 hq2 _ _ _)) ?_
        exact hI.put (by kernel_rfl) _ (ma 5 rfl) (by rw [hls]; show 5 < 17; decide) (by rw [hls]; decide) (.int .i64 ((2 * m.qos.toNat : Nat) : Int)) rfl hI.wp AllSt.same
      | 6, ho =>
        obtain rfl := pick_op ho rfl
        have r_40 := hI.vs _ (ma 2 rfl) (.inr (ran_of hd 2 (by kernel_rfl))) trivial
        have u_40 : aa.eval (.tmp 40) = .int .i64 ((cb m.dup 8 : Nat) : Int) := r_40
        have r_43 := hI.vs _ (ma 5 rfl) (.inr (ran_of hd 5 (by kernel_rfl))) trivial
        have u_43 : aa.eval (.tmp 43) = .int .i64 ((2 * m.qos.toNat : Nat) : Int) := r_43
        have HH : Has aa 123 [(40, .int .i64 ((cb m.dup 8 : Nat) : Int)), (43, .int .i64 ((2 * m.qos.toNat : Nat) : Int))] := Has.of hI.sz hI.df ⟨u_40, u_43, trivial⟩
        refine wpOp_go ho gz 44 rfl (.int .i64 (((cb m.dup 8 ||| 2 * m.qos.toNat) : Nat) : Int)) ww (run_bin rfl (HH.ev rfl) (HH.ev rfl) (or_i _ _ (lt8 g1) (lt8 g2) _ _ _)) ?_
        exact hI.put (by kernel_rfl) _ (ma 6 rfl) (by rw [hls]; show 6 < 17; decide) (by rw [hls]; decide) (.int .i64 (((cb m.dup 8 ||| 2 * m.qos.toNat) : Nat) : Int)) rfl hI.wp AllSt.same
      | 7, ho =>
        obtain rfl := pick_op ho rfl
        have HH : Has aa 123 [(1, .pointer (some ⟨w.heap.size, 0, none⟩))] := Has.of hI.sz hI.df ⟨u_1, trivial⟩
        refine wpOp_go ho gz 45 rfl (.pointer (some ⟨w.heap.size, 18, none⟩)) ww (run_field rfl (HH.ev rfl) field_14) ?_
        exact hI.put (by kernel_rfl) _ (ma 7 rfl) (by rw [hls]; show 7 < 17; decide) (by rw [hls]; decide) (.pointer (some ⟨w.heap.size, 18, none⟩)) rfl hI.wp AllSt.same
      | 8, ho =>
        obtain rfl := pick_op ho rfl
        have r_45 := hI.vs _ (ma 7 rfl) (.inr (ran_of hd 7 (by kernel_rfl))) trivial
        have u_45 : aa.eval (.tmp 45) = .pointer (some ⟨w.heap.size, 18, none⟩) := r_45
        have HH : Has aa 123 [(45, .pointer (some ⟨w.heap.size, 18, none⟩))] := Has.of hI.sz hI.df ⟨u_45, trivial⟩
        refine wpOp_go ho gz 46 rfl (.bool m.retain) ww (run_load rfl (HH.ev rfl) (load1_b _ _ _ _ ((hI.wp.get 0 rfl).get 18 _ rfl))) ?_
        exact hI.put (by kernel_rfl) _ (ma 8 rfl) (by rw [hls]; show 8 < 17; decide) (by rw [hls]; decide) (.bool m.retain) rfl hI.wp AllSt.same
      | 9, ho =>
        obtain rfl := pick_op ho rfl
        have r_46 := hI.vs _ (ma 8 rfl) (.inr (ran_of hd 8 (by kernel_rfl))) trivial
        have u_46 : aa.eval (.tmp 46) = .bool m.retain := r_46
        have HH : Has aa 123 [(46, .bool m.retain)] := Has.of hI.sz hI.df ⟨u_46, trivial⟩
        refine wpOp_enter ho gz 47 rfl 98 _ (run_callH HH rfl rfl (fun _ _ => by kernel_rfl)) _ (quietC (packBitN m.retain 1 1 rfl ww)) ?_
        rintro _ _ ⟨rfl, rfl⟩
        exact hI.put (by kernel_rfl) _ (ma 9 rfl) (by rw [hls]; show 9 < 17; decide) (by rw [hls]; decide) (.int .i64 ((cb m.retain 1 : Nat) : Int)) rfl hI.wp AllSt.same
      | 10, ho =>
        obtain rfl := pick_op ho rfl
        have r_44 := hI.vs _ (ma 6 rfl) (.inr (ran_of hd 6 (by kernel_rfl))) trivial
        have u_44 : aa.eval (.tmp 44) = .int .i64 (((cb m.dup 8 ||| 2 * m.qos.toNat) : Nat) : Int) := r_44
        have r_47 := hI.vs _ (ma 9 rfl) (.inr (ran_of hd 9 (by kernel_rfl))) trivial
        have u_47 : aa.eval (.tmp 47) = .int .i64 ((cb m.retain 1 : Nat) : Int) := r_47
        have HH : Has aa 123 [(44, .int .i64 (((cb m.dup 8 ||| 2 * m.qos.toNat) : Nat) : Int)), (47, .int .i64 ((cb m.retain 1 : Nat) : Int))] := Has.of hI.sz hI.df ⟨u_44, u_47, trivial⟩
        refine wpOp_go ho gz 48 rfl (.int .i64 ((((cb m.dup 8 ||| 2 * m.qos.toNat) ||| cb m.retain 1) : Nat) : Int)) ww (run_bin rfl (HH.ev rfl) (HH.ev rfl) (or_i _ _ (lt8 g3) (lt8 g4) _ _ _)) ?_
        exact hI.put (by kernel_rfl) _ (ma 10 rfl) (by rw [hls]; show 10 < 17; decide) (by rw [hls]; decide) (.int .i64 ((((cb m.dup 8 ||| 2 * m.qos.toNat) ||| cb m.retain 1) : Nat) : Int)) rfl hI.wp AllSt.same
      | 11, ho =>
        obtain rfl := pick_op ho rfl
        have r_3 := hI.vs _ (ma 17 rfl) (.inl (by rw [hls]; show 17 ≤ 1000; decide)) ⟨(Bool.eq_false_iff.2 fun h => absurd (hni.symm.trans (ran_of (hcl 14 _ rfl h) 11 (by kernel_rfl))) (by decide)), (Bool.eq_false_iff.2 fun h => absurd (hni.symm.trans (ran_of (hcl 14 _ rfl (ran_of (hcl 16 _ rfl h) 14 (by kernel_rfl))) 11 (by kernel_rfl))) (by decide)), trivial⟩
        have HH : Has aa 123 [(3, aa.eval (.tmp 3))] := Has.of hI.sz hI.df ⟨rfl, trivial⟩
        refine wpOp_go ho gz 49 rfl (aa.eval (.tmp 3)) ww (run_move (.inl rfl) (HH.ev rfl)) ?_
        exact hI.put (by kernel_rfl) _ (ma 11 rfl) (by rw [hls]; show 11 < 17; decide) (by rw [hls]; decide) (aa.eval (.tmp 3)) r_3 hI.wp AllSt.same
      | 12, ho =>
        obtain rfl := pick_op ho rfl
        have HH : Has aa 123 [(1, .pointer (some ⟨w.heap.size, 0, none⟩))] := Has.of hI.sz hI.df ⟨u_1, trivial⟩
        refine wpOp_go ho gz 50 rfl (.pointer (some ⟨w.heap.size, 21, none⟩)) ww (run_field rfl (HH.ev rfl) field_17) ?_
        exact hI.put (by kernel_rfl) _ (ma 12 rfl) (by rw [hls]; show 12 < 17; decide) (by rw [hls]; decide) (.pointer (some ⟨w.heap.size, 21, none⟩)) rfl hI.wp AllSt.same
      | 13, ho =>
        obtain rfl := pick_op ho rfl
        have r_50 := hI.vs _ (ma 12 rfl) (.inr (ran_of hd 12 (by kernel_rfl))) trivial
        have u_50 : aa.eval (.tmp 50) = .pointer (some ⟨w.heap.size, 21, none⟩) := r_50
        have HH : Has aa 123 [(50, .pointer (some ⟨w.heap.size, 21, none⟩))] := Has.of hI.sz hI.df ⟨u_50, trivial⟩
        refine wpOp_go ho gz 51 rfl (.string m.payload) ww (run_load rfl (HH.ev rfl) (load1_s _ _ _ _ ((hI.wp.get 0 rfl).get 21 _ rfl))) ?_
        exact hI.put (by kernel_rfl) _ (ma 13 rfl) (by rw [hls]; show 13 < 17; decide) (by rw [hls]; decide) (.string m.payload) rfl hI.wp AllSt.same
      | 14, ho =>
        obtain rfl := pick_op ho rfl
        have r_49 := hI.vs _ (ma 11 rfl) (.inr (ran_of hd 11 (by kernel_rfl))) ⟨hni, trivial⟩
        have r_51 := hI.vs _ (ma 13 rfl) (.inr (ran_of hd 13 (by kernel_rfl))) trivial
        have u_51 : aa.eval (.tmp 51) = .string m.payload := r_51
        have HH : Has aa 123 [(49, aa.eval (.tmp 49)), (51, .string m.payload)] := Has.of hI.sz hI.df ⟨rfl, u_51, trivial⟩
        obtain ⟨v', w', hrun, hrow, hb0, hg⟩ := run_append_strR (P := Tryd.prog) (a := aa) (w := ww) Tryd.underlying31 Tryd.underlying9 info_u8 (o := ⟨some 52, _, _, _, _, none⟩) rfl rfl u_51 r_49 (by simp only [List.length_append, strB_length, List.length_nil]; omega) hI.wp.bw
        refine wpOp_go ho gz 52 rfl v' w' hrun ?_
        exact hI.put (by kernel_rfl) _ (ma 14 rfl) (by rw [hls]; show 14 < 17; decide) (by rw [hls]; decide) (v') hrow (hI.wp.step hb0) ⟨fun _ _ _ _ _ h => h, fun _ _ _ _ _ h => h, fun _ _ _ _ _ h => h, fun _ _ _ _ _ h => h, fun _ _ _ _ _ h => h, fun _ _ _ _ _ h => h, fun _ _ _ _ _ h => h, fun _ _ _ _ _ h => h, fun _ _ _ _ _ h => h, fun _ _ _ _ _ h => h, fun _ _ _ _ _ h => h, fun _ h => absurd (by show 14 ∈ ([14] : List Nat); decide) h, fun _ _ _ _ _ h => h, fun _ _ _ _ _ h => h, fun h => absurd rfl h, fun _ _ _ _ _ h => h, fun _ _ h => absurd (hni.symm.trans (ran_of (hcl 16 _ rfl (h.resolve_left (by rw [hls]; show ¬ 17 ≤ 16; decide))) 14 (by kernel_rfl))) (by decide), fun _ h => absurd (by show 14 ∈ ([14, 16] : List Nat); decide) h, trivial⟩
      | 15, ho =>
        obtain rfl := pick_op ho rfl
        have r_48 := hI.vs _ (ma 10 rfl) (.inr (ran_of hd 10 (by kernel_rfl))) trivial
        have u_48 : aa.eval (.tmp 48) = .int .i64 ((((cb m.dup 8 ||| 2 * m.qos.toNat) ||| cb m.retain 1) : Nat) : Int) := r_48
        have HH : Has aa 123 [(48, .int .i64 ((((cb m.dup 8 ||| 2 * m.qos.toNat) ||| cb m.retain 1) : Nat) : Int))] := Has.of hI.sz hI.df ⟨u_48, trivial⟩
        refine wpOp_go ho gz 2 rfl (.int .i64 ((((cb m.dup 8 ||| 2 * m.qos.toNat) ||| cb m.retain 1) : Nat) : Int)) ww (run_move (.inr rfl) (HH.ev rfl)) ?_
        exact hI.put (by kernel_rfl) _ (ma 15 rfl) (by rw [hls]; show 15 < 17; decide) (by rw [hls]; decide) (.int .i64 ((((cb m.dup 8 ||| 2 * m.qos.toNat) ||| cb m.retain 1) : Nat) : Int)) rfl hI.wp AllSt.same
      | 16, ho =>
        obtain rfl := pick_op ho rfl
        have r_52 := hI.vs _ (ma 14 rfl) (.inr (ran_of hd 14 (by kernel_rfl))) trivial
        have HH : Has aa 123 [(52, aa.eval (.tmp 52))] := Has.of hI.sz hI.df ⟨rfl, trivial⟩
        refine wpOp_go ho gz 3 rfl (aa.eval (.tmp 52)) ww (run_move (.inr rfl) (HH.ev rfl)) ?_
        exact hI.put (by kernel_rfl) _ (ma 16 rfl) (by rw [hls]; show 16 < 17; decide) (by rw [hls]; decide) (aa.eval (.tmp 52)) r_52 hI.wp AllSt.same
      | (k + 17), ho => simp at ho
    · intro listed a47 w13 hall hI
      have r_2 := hI.vs _ (ma 15 rfl) (.inr (hall 15 (by decide))) trivial
      have r_3 := hI.vs _ (ma 16 rfl) (.inr (hall 16 (by decide))) trivial
      have H47 : Has a47 123 [(1, .pointer (some ⟨w.heap.size, 0, none⟩)), (2, .int .i64 ((((cb m.dup 8 ||| 2 * m.qos.toNat) ||| cb m.retain 1) : Nat) : Int)), (3, a47.eval (.tmp 3))] := Has.of hI.sz hI.df ⟨hI.fx.1, r_2, rfl, trivial⟩
      have HB13 := hI.wp
      have R3_13 : RowIs b0 ((([] ++ strB m.topic) ++ (if 0 < m.qos then big 2 m.id.toNat else [])) ++ sb m.payload) (a47.eval (.tmp 3)) w13 := r_3
      refine then_normal ?_
      refine wp_ret ?_
      repeat (first | (with_reducible refine block_ret ?_) | (with_reducible refine then_ret ?_))
      refine bodyPost_ret (results_pair rfl _ _ _ (H47.at_ 2 _ rfl) (H47.at_ 3 _ rfl)) H47.df ?_
      refine bodied_of (by rw [gf]; unfold flagsBy; rw [if_pos hk]) ?_ R3_13.read HB13
      unfold bodyBy; rw [if_neg (by rw [hk]; decide), if_neg (by rw [hk]; decide), if_pos hk]; rfl
    · exact InvB.start H46.sz H46.df ⟨H46.at_ 1 _ rfl, trivial⟩ ⟨fun h => absurd h (by show ¬ 17 ≤ 0; decide), fun h => absurd h (by show ¬ 17 ≤ 1; decide), fun h => absurd h (by show ¬ 17 ≤ 2; decide), fun h => absurd h (by show ¬ 17 ≤ 3; decide), fun h => absurd h (by show ¬ 17 ≤ 4; decide), fun h => absurd h (by show ¬ 17 ≤ 5; decide), fun h => absurd h (by show ¬ 17 ≤ 6; decide), fun h => absurd h (by show ¬ 17 ≤ 7; decide), fun h => absurd h (by show ¬ 17 ≤ 8; decide), fun h => absurd h (by show ¬ 17 ≤ 9; decide), fun h => absurd h (by show ¬ 17 ≤ 10; decide), fun h => absurd h (by show ¬ 17 ≤ 11; decide), fun h => absurd h (by show ¬ 17 ≤ 12; decide), fun h => absurd h (by show ¬ 17 ≤ 13; decide), fun h => absurd h (by show ¬ 17 ≤ 14; decide), fun h => absurd h (by show ¬ 17 ≤ 15; decide), fun h => absurd h (by show ¬ 17 ≤ 16; decide), fun _ => (by rw [H46.at_ 3 _ rfl]; exact R3.drew), trivial⟩ HB12.drew

set_option maxRecDepth 100000 in
set_option maxHeartbeats 3200000 in
theorem body_i (m : Mq) (vc vw vf : Value) (w : World) (b1 : (m.kind == 1) = false) (b2 : (m.kind == 2) = false) (b3 : (m.kind == 3) = false) (b8 : (m.kind == 8) = false) (b9 : (m.kind == 9) = false) (b10 : (m.kind == 10) = false) (b12 : (m.kind == 12) = false) (b13 : (m.kind == 13) = false) (b14 : (m.kind == 14) = false) (kb : Bool) (bk : (m.kind == 6) = kb) (hi0 : 0 ≤ m.id) (hi1 : m.id ≤ 65535) :
    Calls Tryd.prog 74 #[.agg (mqCells m vc vw vf).toArray] w (Bodied m w) := by
  go_enter Tryd.func74, Tryd.ntmps74
  refine Has.start 123 [(0, .agg (mqCells m vc vw vf).toArray)] rfl rfl ⟨rfl, trivial⟩ ?_
  intro a0 H0
  have O0 := Own.start w
  repeat (refine wp_seq ?_)
  refine wp_region_list ?_
  refine H0.box rfl rfl rfl rfl rfl ?_
  intro a1 w1 hb hs hC H1
  have O1 := O0.alloc hb hs hC
  clear hb hs hC
  refine H1.move gz (.inr rfl) rfl rfl rfl ?_
  intro a2 H2
  refine H2.move gz (.inr rfl) rfl rfl rfl ?_
  intro a3 H3
  refine nt ?_
  have HB1 := Base.of O1
  obtain ⟨b0, hb0⟩ : ∃ b0, b0 = w1.heap.size := ⟨_, rfl⟩
  rw [← hb0] at HB1
  have hb0' := hb0
  clear hb0
  repeat (refine wp_seq ?_)
  refine wp_region_list ?_
  refine H3.field gz rfl rfl rfl rfl field_0 ?_
  intro a4 H4
  refine H4.load gz rfl rfl rfl rfl (load1_i _ _ _ _ ((HB1.get 0 rfl).get 0 _ rfl)) ?_
  intro a5 H5
  refine nt ?_
  have H6 := H5.keep (l' := [(1, .pointer (some ⟨w.heap.size, 0, none⟩)), (2, .int .i64 0), (3, .slice none 0 0), (11, .int .i64 m.kind)]) ⟨rfl, rfl, rfl, rfl, trivial⟩
  repeat (refine wp_seq ?_)
  refine wp_block ?_
  repeat (refine wp_seq ?_)
  refine wp_region_list ?_
  refine H6.bin gz rfl rfl rfl rfl rfl (eql_iB _ _ _ b1 _ _ _) ?_
  intro a7 H7
  refine H7.move gz (.inr rfl) rfl rfl rfl ?_
  intro a8 H8
  refine nt ?_
  refine H8.condF rfl ?_
  repeat (refine wp_seq ?_)
  refine wp_region_list ?_
  refine H8.bin gz rfl rfl rfl rfl rfl (eql_iB _ _ _ b2 _ _ _) ?_
  intro a9 H9
  refine H9.move gz (.inr rfl) rfl rfl rfl ?_
  intro a10 H10
  refine nt ?_
  refine H10.condF rfl ?_
  repeat (refine wp_seq ?_)
  refine wp_region_list ?_
  refine H10.bin gz rfl rfl rfl rfl rfl (eql_iB _ _ _ b3 _ _ _) ?_
  intro a11 H11
  refine H11.move gz (.inr rfl) rfl rfl rfl ?_
  intro a12 H12
  refine nt ?_
  refine H12.condF rfl ?_
  repeat (refine wp_seq ?_)
  refine wp_region_list ?_
  refine H12.bin gz rfl rfl rfl rfl rfl (eql_iB _ _ _ b8 _ _ _) ?_
  intro a13 H13
  refine H13.move gz (.inr rfl) rfl rfl rfl ?_
  intro a14 H14
  refine nt ?_
  refine H14.condF rfl ?_
  repeat (refine wp_seq ?_)
  refine wp_region_list ?_
  refine H14.bin gz rfl rfl rfl rfl rfl (eql_iB _ _ _ b9 _ _ _) ?_
  intro a15 H15
  refine H15.move gz (.inr rfl) rfl rfl rfl ?_
  intro a16 H16
  refine nt ?_
  refine H16.condF rfl ?_
  repeat (refine wp_seq ?_)
  refine wp_region_list ?_
  refine H16.bin gz rfl rfl rfl rfl rfl (eql_iB _ _ _ b10 _ _ _) ?_
  intro a17 H17
  refine H17.move gz (.inr rfl) rfl rfl rfl ?_
  intro a18 H18
  refine nt ?_
  refine H18.condF rfl ?_
  repeat (refine wp_seq ?_)
  repeat (refine wp_seq ?_)
  refine wp_region_list ?_
  refine H18.bin gz rfl rfl rfl rfl rfl (eql_iB _ _ _ b12 _ _ _) ?_
  intro a19 H19
  refine H19.move gz (.inr rfl) rfl rfl rfl ?_
  intro a20 H20
  refine nt ?_
  refine H20.condF rfl ?_
  repeat (refine wp_seq ?_)
  refine wp_region_list ?_
  refine H20.bin gz rfl rfl rfl rfl rfl (eql_iB _ _ _ b13 _ _ _) ?_
  intro a21 H21
  refine H21.move gz (.inr rfl) rfl rfl rfl ?_
  intro a22 H22
  refine nt ?_
  refine H22.condF rfl ?_
  repeat (refine wp_seq ?_)
  refine wp_region_list ?_
  refine H22.bin gz rfl rfl rfl rfl rfl (eql_iB _ _ _ b14 _ _ _) ?_
  intro a23 H23
  refine H23.move gz (.inr rfl) rfl rfl rfl ?_
  intro a24 H24
  refine nt ?_
  refine H24.condF rfl ?_
  refine skip_wp ?_
  refine block_normal ?_
  refine then_normal ?_
  repeat (refine wp_seq ?_)
  refine wp_region_invB (by kernel_rfl) (InvB 123 [(1, .pointer (some ⟨w.heap.size, 0, none⟩))] [⟨0, 116, [], fun v _ => v = .pointer (some ⟨w.heap.size, 0, none⟩)⟩, ⟨1, 117, [], fun v _ => v = .int .i64 m.kind⟩, ⟨2, 118, [], fun v _ => v = .bool kb⟩, ⟨3, 119, [], fun v _ => v = .int .i64 ((cb kb 2 : Nat) : Int)⟩, ⟨4, 120, [], fun v _ => v = .pointer (some ⟨w.heap.size, 20, none⟩)⟩, ⟨5, 121, [], fun v _ => v = .int .i64 m.id⟩, ⟨6, 122, [], fun v w => RowIs b0 ([] ++ big 2 m.id.toNat) v w⟩, ⟨7, 2, [], fun v _ => v = .int .i64 ((cb kb 2 : Nat) : Int)⟩, ⟨8, 3, [], fun v w => RowIs b0 ([] ++ big 2 m.id.toNat) v w⟩] (Base w b0 [(w.heap.size, (mqCells m vc vw vf))])) (back_of (by kernel_rfl)) ?_ ?_ ?_
  · intro listed aa ww i o hs hni hcl ho hd hI
    have hls : listed.size = 9 := hs
    have u_1 : aa.eval (.tmp 1) = .pointer (some ⟨w.heap.size, 0, none⟩) := hI.fx.1
    match i, ho with
    | 0, ho =>
      obtain rfl := pick_op ho rfl
      have HH : Has aa 123 [(1, .pointer (some ⟨w.heap.size, 0, none⟩))] := Has.of hI.sz hI.df ⟨u_1, trivial⟩
      refine wpOp_go ho gz 116 rfl (.pointer (some ⟨w.heap.size, 0, none⟩)) ww (run_field rfl (HH.ev rfl) field_0) ?_
      exact hI.put (by kernel_rfl) _ (ma 0 rfl) (by rw [hls]; show 0 < 9; decide) (by rw [hls]; decide) (.pointer (some ⟨w.heap.size, 0, none⟩)) rfl hI.wp AllSt.same
    | 1, ho =>
      obtain rfl := pick_op ho rfl
      have r_116 := hI.vs _ (ma 0 rfl) (.inr (ran_of hd 0 (by kernel_rfl))) trivial
      have u_116 : aa.eval (.tmp 116) = .pointer (some ⟨w.heap.size, 0, none⟩) := r_116
      have HH : Has aa 123 [(116, .pointer (some ⟨w.heap.size, 0, none⟩))] := Has.of hI.sz hI.df ⟨u_116, trivial⟩
      refine wpOp_go ho gz 117 rfl (.int .i64 m.kind) ww (run_load rfl (HH.ev rfl) (load1_i _ _ _ _ ((hI.wp.get 0 rfl).get 0 _ rfl))) ?_
      exact hI.put (by kernel_rfl) _ (ma 1 rfl) (by rw [hls]; show 1 < 9; decide) (by rw [hls]; decide) (.int .i64 m.kind) rfl hI.wp AllSt.same
    | 2, ho =>
      obtain rfl := pick_op ho rfl
      have r_117 := hI.vs _ (ma 1 rfl) (.inr (ran_of hd 1 (by kernel_rfl))) trivial
      have u_117 : aa.eval (.tmp 117) = .int .i64 m.kind := r_117
      have HH : Has aa 123 [(117, .int .i64 m.kind)] := Has.of hI.sz hI.df ⟨u_117, trivial⟩
      refine wpOp_go ho gz 118 rfl (.bool kb) ww (run_bin rfl (HH.ev rfl) (HH.ev rfl) (eql_iB _ _ _ bk _ _ _)) ?_
      exact hI.put (by kernel_rfl) _ (ma 2 rfl) (by rw [hls]; show 2 < 9; decide) (by rw [hls]; decide) (.bool kb) rfl hI.wp AllSt.same
    | 3, ho =>
      obtain rfl := pick_op ho rfl
      have r_118 := hI.vs _ (ma 2 rfl) (.inr (ran_of hd 2 (by kernel_rfl))) trivial
      have u_118 : aa.eval (.tmp 118) = .bool kb := r_118
      have HH : Has aa 123 [(118, .bool kb)] := Has.of hI.sz hI.df ⟨u_118, trivial⟩
      refine wpOp_enter ho gz 119 rfl 98 _ (run_callH HH rfl rfl (fun _ _ => by kernel_rfl)) _ (quietC (packBitN kb 2 2 rfl ww)) ?_
      rintro _ _ ⟨rfl, rfl⟩
      exact hI.put (by kernel_rfl) _ (ma 3 rfl) (by rw [hls]; show 3 < 9; decide) (by rw [hls]; decide) (.int .i64 ((cb kb 2 : Nat) : Int)) rfl hI.wp AllSt.same
    | 4, ho =>
      obtain rfl := pick_op ho rfl
      have HH : Has aa 123 [(1, .pointer (some ⟨w.heap.size, 0, none⟩))] := Has.of hI.sz hI.df ⟨u_1, trivial⟩
      refine wpOp_go ho gz 120 rfl (.pointer (some ⟨w.heap.size, 20, none⟩)) ww (run_field rfl (HH.ev rfl) field_16) ?_
      exact hI.put (by kernel_rfl) _ (ma 4 rfl) (by rw [hls]; show 4 < 9; decide) (by rw [hls]; decide) (.pointer (some ⟨w.heap.size, 20, none⟩)) rfl hI.wp AllSt.same
    | 5, ho =>
      obtain rfl := pick_op ho rfl
      have r_120 := hI.vs _ (ma 4 rfl) (.inr (ran_of hd 4 (by kernel_rfl))) trivial
      have u_120 : aa.eval (.tmp 120) = .pointer (some ⟨w.heap.size, 20, none⟩) := r_120
      have HH : Has aa 123 [(120, .pointer (some ⟨w.heap.size, 20, none⟩))] := Has.of hI.sz hI.df ⟨u_120, trivial⟩
      refine wpOp_go ho gz 121 rfl (.int .i64 m.id) ww (run_load rfl (HH.ev rfl) (load1_i _ _ _ _ ((hI.wp.get 0 rfl).get 20 _ rfl))) ?_
      exact hI.put (by kernel_rfl) _ (ma 5 rfl) (by rw [hls]; show 5 < 9; decide) (by rw [hls]; decide) (.int .i64 m.id) rfl hI.wp AllSt.same
    | 6, ho =>
      obtain rfl := pick_op ho rfl
      have r_121 := hI.vs _ (ma 5 rfl) (.inr (ran_of hd 5 (by kernel_rfl))) trivial
      have u_121 : aa.eval (.tmp 121) = .int .i64 m.id := r_121
      have HH : Has aa 123 [(121, .int .i64 m.id)] := Has.of hI.sz hI.df ⟨u_121, trivial⟩
      refine wpOp_enter ho gz 122 rfl 100 _ (run_callH HH rfl rfl (fun _ _ => by kernel_rfl)) _ (rowTwo ww.heap.size [] (.slice none 0 0) m.id hi0 hi1 ww (RowIs.nil _ _) (Nat.le_refl _) (by simp)) ?_
      rintro v' w' ⟨hrow, hb⟩
      exact hI.put (by kernel_rfl) _ (ma 6 rfl) (by rw [hls]; show 6 < 9; decide) (by rw [hls]; decide) (v') (hrow.base hI.wp.bw) (hI.wp.call hb) ⟨fun _ _ _ _ _ h => h, fun _ _ _ _ _ h => h, fun _ _ _ _ _ h => h, fun _ _ _ _ _ h => h, fun _ _ _ _ _ h => h, fun _ _ _ _ _ h => h, fun h => absurd rfl h, fun _ _ _ _ _ h => h, fun _ _ _ _ _ h => h.below hb, trivial⟩
    | 7, ho =>
      obtain rfl := pick_op ho rfl
      have r_119 := hI.vs _ (ma 3 rfl) (.inr (ran_of hd 3 (by kernel_rfl))) trivial
      have u_119 : aa.eval (.tmp 119) = .int .i64 ((cb kb 2 : Nat) : Int) := r_119
      have HH : Has aa 123 [(119, .int .i64 ((cb kb 2 : Nat) : Int))] := Has.of hI.sz hI.df ⟨u_119, trivial⟩
      refine wpOp_go ho gz 2 rfl (.int .i64 ((cb kb 2 : Nat) : Int)) ww (run_move (.inr rfl) (HH.ev rfl)) ?_
      exact hI.put (by kernel_rfl) _ (ma 7 rfl) (by rw [hls]; show 7 < 9; decide) (by rw [hls]; decide) (.int .i64 ((cb kb 2 : Nat) : Int)) rfl hI.wp AllSt.same
    | 8, ho =>
      obtain rfl := pick_op ho rfl
      have r_122 := hI.vs _ (ma 6 rfl) (.inr (ran_of hd 6 (by kernel_rfl))) trivial
      have HH : Has aa 123 [(122, aa.eval (.tmp 122))] := Has.of hI.sz hI.df ⟨rfl, trivial⟩
      refine wpOp_go ho gz 3 rfl (aa.eval (.tmp 122)) ww (run_move (.inr rfl) (HH.ev rfl)) ?_
      exact hI.put (by kernel_rfl) _ (ma 8 rfl) (by rw [hls]; show 8 < 9; decide) (by rw [hls]; decide) (aa.eval (.tmp 122)) r_122 hI.wp AllSt.same
    | (k + 9), ho => simp at ho
  · intro listed a25 w2 hall hI
    have r_2 := hI.vs _ (ma 7 rfl) (.inr (hall 7 (by decide))) trivial
    have r_3 := hI.vs _ (ma 8 rfl) (.inr (hall 8 (by decide))) trivial
    have H25 : Has a25 123 [(1, .pointer (some ⟨w.heap.size, 0, none⟩)), (2, .int .i64 ((cb kb 2 : Nat) : Int)), (3, a25.eval (.tmp 3))] := Has.of hI.sz hI.df ⟨hI.fx.1, r_2, rfl, trivial⟩
    have HB2 := hI.wp
    have R3_2 : RowIs b0 ([] ++ big 2 m.id.toNat) (a25.eval (.tmp 3)) w2 := r_3
    refine then_normal ?_
    refine wp_ret ?_
    repeat (first | (with_reducible refine block_ret ?_) | (with_reducible refine then_ret ?_))
    refine bodyPost_ret (results_pair rfl _ _ _ (H25.at_ 2 _ rfl) (H25.at_ 3 _ rfl)) H25.df ?_
    refine bodied_of (by simp only [beq_eq_false_iff_ne] at b3 b8 b10; unfold flagsBy; subst bk; simp [b3, b8, b10, cb]) ?_ R3_2.read HB2
    simp only [beq_eq_false_iff_ne] at b1 b2 b3 b8 b9 b10 b12 b13 b14; unfold bodyBy; simp [b1, b2, b3, b8, b9, b10, b12, b13, b14, bareKind]
  · exact InvB.start H24.sz H24.df ⟨H24.at_ 1 _ rfl, trivial⟩ ⟨fun h => absurd h (by show ¬ 9 ≤ 0; decide), fun h => absurd h (by show ¬ 9 ≤ 1; decide), fun h => absurd h (by show ¬ 9 ≤ 2; decide), fun h => absurd h (by show ¬ 9 ≤ 3; decide), fun h => absurd h (by show ¬ 9 ≤ 4; decide), fun h => absurd h (by show ¬ 9 ≤ 5; decide), fun h => absurd h (by show ¬ 9 ≤ 6; decide), fun h => absurd h (by show ¬ 9 ≤ 7; decide), fun h => absurd h (by show ¬ 9 ≤ 8; decide), trivial⟩ HB1.drew

set_option maxRecDepth 100000 in
set_option maxHeartbeats 3200000 in
theorem body_9 (m : Mq) (vw vf : Value) (w : World) (hk : m.kind = 9) (hi0 : 0 ≤ m.id) (hi1 : m.id ≤ 65535) (A : Option Addr) (c : Nat) (hr : Reads w w.heap.size 1 A m.codes.length (m.codes.map iv)) (hw : codesAll m.codes = true) (hl : m.codes.length ≤ 8) :
    Calls Tryd.prog 74 #[.agg (mqCells m (.slice A m.codes.length c) vw vf).toArray] w (Bodied m w) := by
  have b1 : (m.kind == 1) = false := kind_ne hk rfl
  have b2 : (m.kind == 2) = false := kind_ne hk rfl
  have b3 : (m.kind == 3) = false := kind_ne hk rfl
  have b8 : (m.kind == 8) = false := kind_ne hk rfl
  have b9 : (m.kind == 9) = true := kind_eq hk
  go_enter Tryd.func74, Tryd.ntmps74
  refine Has.start 123 [(0, .agg (mqCells m (.slice A m.codes.length c) vw vf).toArray)] rfl rfl ⟨rfl, trivial⟩ ?_
  intro a0 H0
  have O0 := Own.start w
  repeat (refine wp_seq ?_)
  refine wp_region_list ?_
  refine H0.box rfl rfl rfl rfl rfl ?_
  intro a1 w1 hb hs hC H1
  have O1 := O0.alloc hb hs hC
  clear hb hs hC
  refine H1.move gz (.inr rfl) rfl rfl rfl ?_
  intro a2 H2
  refine H2.move gz (.inr rfl) rfl rfl rfl ?_
  intro a3 H3
  refine nt ?_
  have HB1 := Base.of O1
  obtain ⟨b0, hb0⟩ : ∃ b0, b0 = w1.heap.size := ⟨_, rfl⟩
  rw [← hb0] at HB1
  have hb0' := hb0
  clear hb0
  repeat (refine wp_seq ?_)
  refine wp_region_list ?_
  refine H3.field gz rfl rfl rfl rfl field_0 ?_
  intro a4 H4
  refine H4.load gz rfl rfl rfl rfl (load1_i _ _ _ _ ((HB1.get 0 rfl).get 0 _ rfl)) ?_
  intro a5 H5
  refine nt ?_
  have H6 := H5.keep (l' := [(1, .pointer (some ⟨w.heap.size, 0, none⟩)), (2, .int .i64 0), (3, .slice none 0 0), (11, .int .i64 m.kind)]) ⟨rfl, rfl, rfl, rfl, trivial⟩
  repeat (refine wp_seq ?_)
  refine wp_block ?_
  repeat (refine wp_seq ?_)
  refine wp_region_list ?_
  refine H6.bin gz rfl rfl rfl rfl rfl (eql_iB _ _ _ b1 _ _ _) ?_
  intro a7 H7
  refine H7.move gz (.inr rfl) rfl rfl rfl ?_
  intro a8 H8
  refine nt ?_
  refine H8.condF rfl ?_
  repeat (refine wp_seq ?_)
  refine wp_region_list ?_
  refine H8.bin gz rfl rfl rfl rfl rfl (eql_iB _ _ _ b2 _ _ _) ?_
  intro a9 H9
  refine H9.move gz (.inr rfl) rfl rfl rfl ?_
  intro a10 H10
  refine nt ?_
  refine H10.condF rfl ?_
  repeat (refine wp_seq ?_)
  refine wp_region_list ?_
  refine H10.bin gz rfl rfl rfl rfl rfl (eql_iB _ _ _ b3 _ _ _) ?_
  intro a11 H11
  refine H11.move gz (.inr rfl) rfl rfl rfl ?_
  intro a12 H12
  refine nt ?_
  refine H12.condF rfl ?_
  repeat (refine wp_seq ?_)
  refine wp_region_list ?_
  refine H12.bin gz rfl rfl rfl rfl rfl (eql_iB _ _ _ b8 _ _ _) ?_
  intro a13 H13
  refine H13.move gz (.inr rfl) rfl rfl rfl ?_
  intro a14 H14
  refine nt ?_
  refine H14.condF rfl ?_
  repeat (refine wp_seq ?_)
  refine wp_region_list ?_
  refine H14.bin gz rfl rfl rfl rfl rfl (eql_iB _ _ _ b9 _ _ _) ?_
  intro a15 H15
  refine H15.move gz (.inr rfl) rfl rfl rfl ?_
  intro a16 H16
  refine nt ?_
  refine H16.condT rfl ?_
  repeat (refine wp_seq ?_)
  refine wp_region_list ?_
  refine H16.field gz rfl rfl rfl rfl field_16 ?_
  intro a17 H17
  refine H17.load gz rfl rfl rfl rfl (load1_i _ _ _ _ ((HB1.get 0 rfl).get 20 _ rfl)) ?_
  intro a18 H18
  refine H18.call gz rfl rfl rfl rfl (fun _ _ => by kernel_rfl) (rowTwo b0 [] _ m.id hi0 hi1 _ (RowIs.nil _ _) HB1.bw (by simp)) ?_
  rintro a19 v80 w2 ⟨R80, hb⟩ H19
  have HB2 := HB1.step hb
  clear hb
  refine H19.move gz (.inr rfl) rfl rfl rfl ?_
  intro a20 H20
  refine nt ?_
  repeat (refine wp_seq ?_)
  refine wp_region_list ?_
  refine H20.field gz rfl rfl rfl rfl field_11 ?_
  intro a21 H21
  refine H21.load gz rfl rfl rfl rfl (load1_26 _ _ _ _ _ _ ((HB2.get 0 rfl).get 15 _ rfl)) ?_
  intro a22 H22
  refine H22.len gz rfl rfl rfl rfl Tryd.underlying26 ?_
  intro a23 H23
  refine H23.move gz (.inl rfl) rfl rfl rfl ?_
  intro a24 H24
  refine nt ?_
  repeat (refine wp_seq ?_)
  refine wp_block ?_
  refine wp_loop_up m.codes.length (fun k a w' => ∃ v, Has a 123 [(1, .pointer (some ⟨w.heap.size, 0, none⟩)), (3, v), (82, .slice A m.codes.length c), (83, .int .i64 (m.codes.length : Int)), (84, .int .i64 (k : Int))] ∧ RowIs b0 (([] ++ big 2 m.id.toNat) ++ codesBy (m.codes.take k)) v w' ∧ Base w b0 [(w.heap.size, (mqCells m (.slice A m.codes.length c) vw vf))] w') ?_ ?_
  · exact ⟨_, H24.keep ⟨rfl, rfl, rfl, rfl, rfl, trivial⟩, (by rw [List.take_zero]; simpa [codesBy] using R80), HB2⟩
  · rintro k a25 w3 hkn ⟨v3, H25, R3, HB3⟩
    have hlb : (codesBy (m.codes.take k)).length ≤ 1000 := by
      rw [codesBy_le, List.length_take]; omega
    by_cases hlt : k < m.codes.length
    · skip
      obtain ⟨gb, go, x, rfl, hgb, hx, hcell⟩ := Reads.int (hr.below HB3.own.bel) rfl hlt
      obtain ⟨hx0, hx1⟩ := codesAll_get hw hx
      repeat (refine wp_seq ?_)
      refine wp_region_list ?_
      refine H25.bin gz rfl rfl rfl rfl rfl (lss_i _ _ true (by simp; omega) _ _ _) ?_
      intro a26 H26
      refine nt ?_
      repeat (refine wp_seq ?_)
      refine H26.condT rfl ?_
      refine skip_wp ?_
      refine then_normal ?_
      repeat (refine wp_seq ?_)
      refine wp_block ?_
      repeat (refine wp_seq ?_)
      refine wp_region_list ?_
      refine H26.index gz rfl rfl rfl rfl rfl (index_1 26 Tryd.underlying26 (fun _ => by kernel_rfl) _ _ _ _ _ hlt _) ?_
      intro a27 H27
      refine H27.load gz rfl rfl rfl rfl (load1_i _ _ _ _ hcell) ?_
      intro a28 H28
      refine H28.move gz (.inr rfl) rfl rfl rfl ?_
      intro a29 H29
      refine nt ?_
      refine wp_region_list ?_
      refine H29.move gz (.inl rfl) rfl rfl rfl ?_
      intro a30 H30
      refine H30.move gz (.inl rfl) rfl rfl rfl ?_
      intro a31 H31
      refine H31.conv gz rfl rfl rfl rfl (conv_u8 _ _) ?_
      intro a32 H32
      refine H32.bytes gz rfl rfl [UInt8.ofNat x.toNat] [.int .u8 (x % 256)] (by rw [byte_of_int _ hx0]; rfl) (k := 1) rfl 5 (by intro cs b h; cases h) (by kernel_rfl) (by kernel_rfl) ?_
      intro a33 v91 w4 H33 B91 hb
      have HB4 := HB3.call hb
      have R3 := R3.below hb
      clear hb
      refine H33.appendRow Tryd.underlying31 info_u8 gz rfl rfl rfl rfl rfl R3 B91 (by simp only [List.length_append, big_length, List.length_cons, List.length_nil]; omega) HB4.bw ?_
      intro a34 v92 w5 H34 R92 hb _
      have HB5 := HB4.step hb
      clear hb
      refine H34.move gz (.inr rfl) rfl rfl rfl ?_
      intro a35 H35
      refine wpList_nil ?_
      refine block_normal ?_
      refine then_normal ?_
      refine wp_region_list ?_
      refine H35.bin gz rfl rfl rfl rfl rfl (succ_i _ (by omega) _ _ _) ?_
      intro a36 H36
      refine H36.move gz (.inl rfl) rfl rfl rfl ?_
      intro a37 H37
      refine nt ?_
      exact ⟨hlt, _, H37.keep ⟨rfl, rfl, rfl, rfl, rfl, trivial⟩, (by rw [take_snoc? _ _ _ hx, codesBy_app, ← List.append_assoc]; exact R92), HB5⟩
    · skip
      obtain rfl : k = m.codes.length := by omega
      repeat (refine wp_seq ?_)
      refine wp_region_list ?_
      refine H25.bin gz rfl rfl rfl rfl rfl (lss_i _ _ false (by simp) _ _ _) ?_
      intro a26 H26
      refine nt ?_
      repeat (refine wp_seq ?_)
      refine H26.condF rfl ?_
      refine wp_exit ?_
      repeat (with_reducible refine then_exit ?_)
      refine block_leave ?_
      refine then_normal ?_
      repeat (refine wp_seq ?_)
      refine wp_region_list ?_
      refine H26.move gz (.inl rfl) rfl rfl rfl ?_
      intro a27 H27
      refine H27.move gz (.inr rfl) rfl rfl rfl ?_
      intro a28 H28
      refine H28.move gz (.inr rfl) rfl rfl rfl ?_
      intro a29 H29
      refine nt ?_
      rw [List.take_length] at R3
      refine wp_ret ?_
      repeat (first | (with_reducible refine block_ret ?_) | (with_reducible refine then_ret ?_))
      refine bodyPost_ret (results_pair rfl _ _ _ (H29.at_ 2 _ rfl) (H29.at_ 3 _ rfl)) H29.df ?_
      refine bodied_of (by unfold flagsBy; simp [hk]) ?_ R3.read HB3
      unfold bodyBy; simp [hk]

set_option maxRecDepth 100000 in
set_option maxHeartbeats 3200000 in
theorem body_10 (m : Mq) (vc vw : Value) (w : World) (hk : m.kind = 10) (hi0 : 0 ≤ m.id) (hi1 : m.id ≤ 65535) (A : Option Addr) (c : Nat) (hr : Reads w w.heap.size 1 A m.filters.length (m.filters.map sv)) (hw : filtersAll m.filters = true) (hl : m.filters.length ≤ 8) :
    Calls Tryd.prog 74 #[.agg (mqCells m vc vw (.slice A m.filters.length c)).toArray] w (Bodied m w) := by
  have b1 : (m.kind == 1) = false := kind_ne hk rfl
  have b2 : (m.kind == 2) = false := kind_ne hk rfl
  have b3 : (m.kind == 3) = false := kind_ne hk rfl
  have b8 : (m.kind == 8) = false := kind_ne hk rfl
  have b9 : (m.kind == 9) = false := kind_ne hk rfl
  have b10 : (m.kind == 10) = true := kind_eq hk
  go_enter Tryd.func74, Tryd.ntmps74
  refine Has.start 123 [(0, .agg (mqCells m vc vw (.slice A m.filters.length c)).toArray)] rfl rfl ⟨rfl, trivial⟩ ?_
  intro a0 H0
  have O0 := Own.start w
  repeat (refine wp_seq ?_)
  refine wp_region_list ?_
  refine H0.box rfl rfl rfl rfl rfl ?_
  intro a1 w1 hb hs hC H1
  have O1 := O0.alloc hb hs hC
  clear hb hs hC
  refine H1.move gz (.inr rfl) rfl rfl rfl ?_
  intro a2 H2
  refine H2.move gz (.inr rfl) rfl rfl rfl ?_
  intro a3 H3
  refine nt ?_
  have HB1 := Base.of O1
  obtain ⟨b0, hb0⟩ : ∃ b0, b0 = w1.heap.size := ⟨_, rfl⟩
  rw [← hb0] at HB1
  have hb0' := hb0
  clear hb0
  repeat (refine wp_seq ?_)
  refine wp_region_list ?_
  refine H3.field gz rfl rfl rfl rfl field_0 ?_
  intro a4 H4
  refine H4.load gz rfl rfl rfl rfl (load1_i _ _ _ _ ((HB1.get 0 rfl).get 0 _ rfl)) ?_
  intro a5 H5
  refine nt ?_
  have H6 := H5.keep (l' := [(1, .pointer (some ⟨w.heap.size, 0, none⟩)), (2, .int .i64 0), (3, .slice none 0 0), (11, .int .i64 m.kind)]) ⟨rfl, rfl, rfl, rfl, trivial⟩
  repeat (refine wp_seq ?_)
  refine wp_block ?_
  repeat (refine wp_seq ?_)
  refine wp_region_list ?_
  refine H6.bin gz rfl rfl rfl rfl rfl (eql_iB _ _ _ b1 _ _ _) ?_
  intro a7 H7
  refine H7.move gz (.inr rfl) rfl rfl rfl ?_
  intro a8 H8
  refine nt ?_
  refine H8.condF rfl ?_
  repeat (refine wp_seq ?_)
  refine wp_region_list ?_
  refine H8.bin gz rfl rfl rfl rfl rfl (eql_iB _ _ _ b2 _ _ _) ?_
  intro a9 H9
  refine H9.move gz (.inr rfl) rfl rfl rfl ?_
  intro a10 H10
  refine nt ?_
  refine H10.condF rfl ?_
  repeat (refine wp_seq ?_)
  refine wp_region_list ?_
  refine H10.bin gz rfl rfl rfl rfl rfl (eql_iB _ _ _ b3 _ _ _) ?_
  intro a11 H11
  refine H11.move gz (.inr rfl) rfl rfl rfl ?_
  intro a12 H12
  refine nt ?_
  refine H12.condF rfl ?_
  repeat (refine wp_seq ?_)
  refine wp_region_list ?_
  refine H12.bin gz rfl rfl rfl rfl rfl (eql_iB _ _ _ b8 _ _ _) ?_
  intro a13 H13
  refine H13.move gz (.inr rfl) rfl rfl rfl ?_
  intro a14 H14
  refine nt ?_
  refine H14.condF rfl ?_
  repeat (refine wp_seq ?_)
  refine wp_region_list ?_
  refine H14.bin gz rfl rfl rfl rfl rfl (eql_iB _ _ _ b9 _ _ _) ?_
  intro a15 H15
  refine H15.move gz (.inr rfl) rfl rfl rfl ?_
  intro a16 H16
  refine nt ?_
  refine H16.condF rfl ?_
  repeat (refine wp_seq ?_)
  refine wp_region_list ?_
  refine H16.bin gz rfl rfl rfl rfl rfl (eql_iB _ _ _ b10 _ _ _) ?_
  intro a17 H17
  refine H17.move gz (.inr rfl) rfl rfl rfl ?_
  intro a18 H18
  refine nt ?_
  refine H18.condT rfl ?_
  repeat (refine wp_seq ?_)
  refine wp_region_list ?_
  refine H18.field gz rfl rfl rfl rfl field_16 ?_
  intro a19 H19
  refine H19.load gz rfl rfl rfl rfl (load1_i _ _ _ _ ((HB1.get 0 rfl).get 20 _ rfl)) ?_
  intro a20 H20
  refine H20.call gz rfl rfl rfl rfl (fun _ _ => by kernel_rfl) (rowTwo b0 [] _ m.id hi0 hi1 _ (RowIs.nil _ _) HB1.bw (by simp)) ?_
  rintro a21 v99 w2 ⟨R99, hb⟩ H21
  have HB2 := HB1.step hb
  clear hb
  refine H21.move gz (.inr rfl) rfl rfl rfl ?_
  intro a22 H22
  refine nt ?_
  repeat (refine wp_seq ?_)
  refine wp_region_list ?_
  refine H22.field gz rfl rfl rfl rfl field_19 ?_
  intro a23 H23
  refine H23.load gz rfl rfl rfl rfl (load1_28 _ _ _ _ _ _ ((HB2.get 0 rfl).get 23 _ rfl)) ?_
  intro a24 H24
  refine H24.len gz rfl rfl rfl rfl Tryd.underlying28 ?_
  intro a25 H25
  refine H25.move gz (.inl rfl) rfl rfl rfl ?_
  intro a26 H26
  refine nt ?_
  repeat (refine wp_seq ?_)
  refine wp_block ?_
  refine wp_loop_up m.filters.length (fun k a w' => ∃ v, Has a 123 [(1, .pointer (some ⟨w.heap.size, 0, none⟩)), (3, v), (101, .slice A m.filters.length c), (102, .int .i64 (m.filters.length : Int)), (103, .int .i64 (k : Int))] ∧ RowIs b0 (([] ++ big 2 m.id.toNat) ++ filtersBy (m.filters.take k)) v w' ∧ Base w b0 [(w.heap.size, (mqCells m vc vw (.slice A m.filters.length c)))] w') ?_ ?_
  · exact ⟨_, H26.keep ⟨rfl, rfl, rfl, rfl, rfl, trivial⟩, (by rw [List.take_zero]; simpa [filtersBy] using R99), HB2⟩
  · rintro k a27 w3 hkn ⟨v3, H27, R3, HB3⟩
    have hlb : (filtersBy (m.filters.take k)).length ≤ 1000 := by
      have := filtersBy_le _ (filtersAll_take k hw); rw [List.length_take] at this; omega
    by_cases hlt : k < m.filters.length
    · skip
      obtain ⟨gb, go, x, rfl, hgb, hx, hcell⟩ := Reads.str (hr.below HB3.own.bel) rfl hlt
      have hxs := filtersAll_get hw hx
      repeat (refine wp_seq ?_)
      refine wp_region_list ?_
      refine H27.bin gz rfl rfl rfl rfl rfl (lss_i _ _ true (by simp; omega) _ _ _) ?_
      intro a28 H28
      refine nt ?_
      repeat (refine wp_seq ?_)
      refine H28.condT rfl ?_
      refine skip_wp ?_
      refine then_normal ?_
      repeat (refine wp_seq ?_)
      refine wp_block ?_
      repeat (refine wp_seq ?_)
      refine wp_region_list ?_
      refine H28.index gz rfl rfl rfl rfl rfl (index_1 28 Tryd.underlying28 (fun _ => by kernel_rfl) _ _ _ _ _ hlt _) ?_
      intro a29 H29
      refine H29.load gz rfl rfl rfl rfl (load1_s _ _ _ _ hcell) ?_
      intro a30 H30
      refine H30.move gz (.inr rfl) rfl rfl rfl ?_
      intro a31 H31
      refine nt ?_
      refine wp_region_list ?_
      refine H31.move gz (.inl rfl) rfl rfl rfl ?_
      intro a32 H32
      refine H32.move gz (.inl rfl) rfl rfl rfl ?_
      intro a33 H33
      refine H33.call gz rfl rfl rfl rfl (fun _ _ => by kernel_rfl) (rowText b0 (([] ++ big 2 m.id.toNat) ++ filtersBy (m.filters.take k)) _ x (by omega) _ R3 HB3.bw (by simp only [List.length_append, big_length, List.length_nil]; omega)) ?_
      rintro a34 v109 w4 ⟨R109, hb⟩ H34
      have HB4 := HB3.step hb
      clear hb
      refine H34.move gz (.inr rfl) rfl rfl rfl ?_
      intro a35 H35
      refine wpList_nil ?_
      refine block_normal ?_
      refine then_normal ?_
      refine wp_region_list ?_
      refine H35.bin gz rfl rfl rfl rfl rfl (succ_i _ (by omega) _ _ _) ?_
      intro a36 H36
      refine H36.move gz (.inl rfl) rfl rfl rfl ?_
      intro a37 H37
      refine nt ?_
      exact ⟨hlt, _, H37.keep ⟨rfl, rfl, rfl, rfl, rfl, trivial⟩, (by rw [take_snoc? _ _ _ hx, filtersBy_app, ← List.append_assoc]; exact R109), HB4⟩
    · skip
      obtain rfl : k = m.filters.length := by omega
      repeat (refine wp_seq ?_)
      refine wp_region_list ?_
      refine H27.bin gz rfl rfl rfl rfl rfl (lss_i _ _ false (by simp) _ _ _) ?_
      intro a28 H28
      refine nt ?_
      repeat (refine wp_seq ?_)
      refine H28.condF rfl ?_
      refine wp_exit ?_
      repeat (with_reducible refine then_exit ?_)
      refine block_leave ?_
      refine then_normal ?_
      repeat (refine wp_seq ?_)
      refine wp_region_list ?_
      refine H28.move gz (.inl rfl) rfl rfl rfl ?_
      intro a29 H29
      refine H29.move gz (.inr rfl) rfl rfl rfl ?_
      intro a30 H30
      refine H30.move gz (.inr rfl) rfl rfl rfl ?_
      intro a31 H31
      refine nt ?_
      rw [List.take_length] at R3
      refine wp_ret ?_
      repeat (first | (with_reducible refine block_ret ?_) | (with_reducible refine then_ret ?_))
      refine bodyPost_ret (results_pair rfl _ _ _ (H31.at_ 2 _ rfl) (H31.at_ 3 _ rfl)) H31.df ?_
      refine bodied_of (by unfold flagsBy; simp [hk]) ?_ R3.read HB3
      unfold bodyBy; simp [hk]

set_option maxRecDepth 100000 in
set_option maxHeartbeats 3200000 in
theorem body_12 (m : Mq) (vc vw vf : Value) (w : World) (hk : m.kind = 12)  :
    Calls Tryd.prog 74 #[.agg (mqCells m vc vw vf).toArray] w (Bodied m w) := by
  have b1 : (m.kind == 1) = false := kind_ne hk rfl
  have b2 : (m.kind == 2) = false := kind_ne hk rfl
  have b3 : (m.kind == 3) = false := kind_ne hk rfl
  have b8 : (m.kind == 8) = false := kind_ne hk rfl
  have b9 : (m.kind == 9) = false := kind_ne hk rfl
  have b10 : (m.kind == 10) = false := kind_ne hk rfl
  have b12 : (m.kind == 12) = true := kind_eq hk
  go_enter Tryd.func74, Tryd.ntmps74
  refine Has.start 123 [(0, .agg (mqCells m vc vw vf).toArray)] rfl rfl ⟨rfl, trivial⟩ ?_
  intro a0 H0
  have O0 := Own.start w
  repeat (refine wp_seq ?_)
  refine wp_region_list ?_
  refine H0.box rfl rfl rfl rfl rfl ?_
  intro a1 w1 hb hs hC H1
  have O1 := O0.alloc hb hs hC
  clear hb hs hC
  refine H1.move gz (.inr rfl) rfl rfl rfl ?_
  intro a2 H2
  refine H2.move gz (.inr rfl) rfl rfl rfl ?_
  intro a3 H3
  refine nt ?_
  have HB1 := Base.of O1
  obtain ⟨b0, hb0⟩ : ∃ b0, b0 = w1.heap.size := ⟨_, rfl⟩
  rw [← hb0] at HB1
  have hb0' := hb0
  clear hb0
  repeat (refine wp_seq ?_)
  refine wp_region_list ?_
  refine H3.field gz rfl rfl rfl rfl field_0 ?_
  intro a4 H4
  refine H4.load gz rfl rfl rfl rfl (load1_i _ _ _ _ ((HB1.get 0 rfl).get 0 _ rfl)) ?_
  intro a5 H5
  refine nt ?_
  have H6 := H5.keep (l' := [(1, .pointer (some ⟨w.heap.size, 0, none⟩)), (2, .int .i64 0), (3, .slice none 0 0), (11, .int .i64 m.kind)]) ⟨rfl, rfl, rfl, rfl, trivial⟩
  repeat (refine wp_seq ?_)
  refine wp_block ?_
  repeat (refine wp_seq ?_)
  refine wp_region_list ?_
  refine H6.bin gz rfl rfl rfl rfl rfl (eql_iB _ _ _ b1 _ _ _) ?_
  intro a7 H7
  refine H7.move gz (.inr rfl) rfl rfl rfl ?_
  intro a8 H8
  refine nt ?_
  refine H8.condF rfl ?_
  repeat (refine wp_seq ?_)
  refine wp_region_list ?_
  refine H8.bin gz rfl rfl rfl rfl rfl (eql_iB _ _ _ b2 _ _ _) ?_
  intro a9 H9
  refine H9.move gz (.inr rfl) rfl rfl rfl ?_
  intro a10 H10
  refine nt ?_
  refine H10.condF rfl ?_
  repeat (refine wp_seq ?_)
  refine wp_region_list ?_
  refine H10.bin gz rfl rfl rfl rfl rfl (eql_iB _ _ _ b3 _ _ _) ?_
  intro a11 H11
  refine H11.move gz (.inr rfl) rfl rfl rfl ?_
  intro a12 H12
  refine nt ?_
  refine H12.condF rfl ?_
  repeat (refine wp_seq ?_)
  refine wp_region_list ?_
  refine H12.bin gz rfl rfl rfl rfl rfl (eql_iB _ _ _ b8 _ _ _) ?_
  intro a13 H13
  refine H13.move gz (.inr rfl) rfl rfl rfl ?_
  intro a14 H14
  refine nt ?_
  refine H14.condF rfl ?_
  repeat (refine wp_seq ?_)
  refine wp_region_list ?_
  refine H14.bin gz rfl rfl rfl rfl rfl (eql_iB _ _ _ b9 _ _ _) ?_
  intro a15 H15
  refine H15.move gz (.inr rfl) rfl rfl rfl ?_
  intro a16 H16
  refine nt ?_
  refine H16.condF rfl ?_
  repeat (refine wp_seq ?_)
  refine wp_region_list ?_
  refine H16.bin gz rfl rfl rfl rfl rfl (eql_iB _ _ _ b10 _ _ _) ?_
  intro a17 H17
  refine H17.move gz (.inr rfl) rfl rfl rfl ?_
  intro a18 H18
  refine nt ?_
  refine H18.condF rfl ?_
  repeat (refine wp_seq ?_)
  repeat (refine wp_seq ?_)
  refine wp_region_list ?_
  refine H18.bin gz rfl rfl rfl rfl rfl (eql_iB _ _ _ b12 _ _ _) ?_
  intro a19 H19
  refine H19.move gz (.inr rfl) rfl rfl rfl ?_
  intro a20 H20
  refine nt ?_
  refine H20.condT rfl ?_
  refine skip_wp ?_
  refine then_normal ?_
  refine H20.condT rfl ?_
  repeat (refine wp_seq ?_)
  refine wp_region_list ?_
  refine H20.move gz (.inr rfl) rfl rfl rfl ?_
  intro a21 H21
  refine H21.move gz (.inr rfl) rfl rfl rfl ?_
  intro a22 H22
  refine nt ?_
  refine wp_ret ?_
  repeat (first | (with_reducible refine block_ret ?_) | (with_reducible refine then_ret ?_))
  refine bodyPost_ret (results_pair rfl _ _ _ (H22.at_ 2 _ rfl) (H22.at_ 3 _ rfl)) H22.df ?_
  refine bodied_of (by unfold flagsBy; simp [hk]) ?_ (RowIs.nil b0 _).read HB1
  unfold bodyBy; simp [hk, bareKind]

set_option maxRecDepth 100000 in
set_option maxHeartbeats 3200000 in
theorem body_13 (m : Mq) (vc vw vf : Value) (w : World) (hk : m.kind = 13)  :
    Calls Tryd.prog 74 #[.agg (mqCells m vc vw vf).toArray] w (Bodied m w) := by
  have b1 : (m.kind == 1) = false := kind_ne hk rfl
  have b2 : (m.kind == 2) = false := kind_ne hk rfl
  have b3 : (m.kind == 3) = false := kind_ne hk rfl
  have b8 : (m.kind == 8) = false := kind_ne hk rfl
  have b9 : (m.kind == 9) = false := kind_ne hk rfl
  have b10 : (m.kind == 10) = false := kind_ne hk rfl
  have b12 : (m.kind == 12) = false := kind_ne hk rfl
  have b13 : (m.kind == 13) = true := kind_eq hk
  go_enter Tryd.func74, Tryd.ntmps74
  refine Has.start 123 [(0, .agg (mqCells m vc vw vf).toArray)] rfl rfl ⟨rfl, trivial⟩ ?_
  intro a0 H0
  have O0 := Own.start w
  repeat (refine wp_seq ?_)
  refine wp_region_list ?_
  refine H0.box rfl rfl rfl rfl rfl ?_
  intro a1 w1 hb hs hC H1
  have O1 := O0.alloc hb hs hC
  clear hb hs hC
  refine H1.move gz (.inr rfl) rfl rfl rfl ?_
  intro a2 H2
  refine H2.move gz (.inr rfl) rfl rfl rfl ?_
  intro a3 H3
  refine nt ?_
  have HB1 := Base.of O1
  obtain ⟨b0, hb0⟩ : ∃ b0, b0 = w1.heap.size := ⟨_, rfl⟩
  rw [← hb0] at HB1
  have hb0' := hb0
  clear hb0
  repeat (refine wp_seq ?_)
  refine wp_region_list ?_
  refine H3.field gz rfl rfl rfl rfl field_0 ?_
  intro a4 H4
  refine H4.load gz rfl rfl rfl rfl (load1_i _ _ _ _ ((HB1.get 0 rfl).get 0 _ rfl)) ?_
  intro a5 H5
  refine nt ?_
  have H6 := H5.keep (l' := [(1, .pointer (some ⟨w.heap.size, 0, none⟩)), (2, .int .i64 0), (3, .slice none 0 0), (11, .int .i64 m.kind)]) ⟨rfl, rfl, rfl, rfl, trivial⟩
  repeat (refine wp_seq ?_)
  refine wp_block ?_
  repeat (refine wp_seq ?_)
  refine wp_region_list ?_
  refine H6.bin gz rfl rfl rfl rfl rfl (eql_iB _ _ _ b1 _ _ _) ?_
  intro a7 H7
  refine H7.move gz (.inr rfl) rfl rfl rfl ?_
  intro a8 H8
  refine nt ?_
  refine H8.condF rfl ?_
  repeat (refine wp_seq ?_)
  refine wp_region_list ?_
  refine H8.bin gz rfl rfl rfl rfl rfl (eql_iB _ _ _ b2 _ _ _) ?_
  intro a9 H9
  refine H9.move gz (.inr rfl) rfl rfl rfl ?_
  intro a10 H10
  refine nt ?_
  refine H10.condF rfl ?_
  repeat (refine wp_seq ?_)
  refine wp_region_list ?_
  refine H10.bin gz rfl rfl rfl rfl rfl (eql_iB _ _ _ b3 _ _ _) ?_
  intro a11 H11
  refine H11.move gz (.inr rfl) rfl rfl rfl ?_
  intro a12 H12
  refine nt ?_
  refine H12.condF rfl ?_
  repeat (refine wp_seq ?_)
  refine wp_region_list ?_
  refine H12.bin gz rfl rfl rfl rfl rfl (eql_iB _ _ _ b8 _ _ _) ?_
  intro a13 H13
  refine H13.move gz (.inr rfl) rfl rfl rfl ?_
  intro a14 H14
  refine nt ?_
  refine H14.condF rfl ?_
  repeat (refine wp_seq ?_)
  refine wp_region_list ?_
  refine H14.bin gz rfl rfl rfl rfl rfl (eql_iB _ _ _ b9 _ _ _) ?_
  intro a15 H15
  refine H15.move gz (.inr rfl) rfl rfl rfl ?_
  intro a16 H16
  refine nt ?_
  refine H16.condF rfl ?_
  repeat (refine wp_seq ?_)
  refine wp_region_list ?_
  refine H16.bin gz rfl rfl rfl rfl rfl (eql_iB _ _ _ b10 _ _ _) ?_
  intro a17 H17
  refine H17.move gz (.inr rfl) rfl rfl rfl ?_
  intro a18 H18
  refine nt ?_
  refine H18.condF rfl ?_
  repeat (refine wp_seq ?_)
  repeat (refine wp_seq ?_)
  refine wp_region_list ?_
  refine H18.bin gz rfl rfl rfl rfl rfl (eql_iB _ _ _ b12 _ _ _) ?_
  intro a19 H19
  refine H19.move gz (.inr rfl) rfl rfl rfl ?_
  intro a20 H20
  refine nt ?_
  refine H20.condF rfl ?_
  repeat (refine wp_seq ?_)
  refine wp_region_list ?_
  refine H20.bin gz rfl rfl rfl rfl rfl (eql_iB _ _ _ b13 _ _ _) ?_
  intro a21 H21
  refine H21.move gz (.inr rfl) rfl rfl rfl ?_
  intro a22 H22
  refine nt ?_
  refine H22.condT rfl ?_
  refine skip_wp ?_
  refine then_normal ?_
  refine H22.condT rfl ?_
  repeat (refine wp_seq ?_)
  refine wp_region_list ?_
  refine H22.move gz (.inr rfl) rfl rfl rfl ?_
  intro a23 H23
  refine H23.move gz (.inr rfl) rfl rfl rfl ?_
  intro a24 H24
  refine nt ?_
  refine wp_ret ?_
  repeat (first | (with_reducible refine block_ret ?_) | (with_reducible refine then_ret ?_))
  refine bodyPost_ret (results_pair rfl _ _ _ (H24.at_ 2 _ rfl) (H24.at_ 3 _ rfl)) H24.df ?_
  refine bodied_of (by unfold flagsBy; simp [hk]) ?_ (RowIs.nil b0 _).read HB1
  unfold bodyBy; simp [hk, bareKind]

set_option maxRecDepth 100000 in
set_option maxHeartbeats 3200000 in
theorem body_14 (m : Mq) (vc vw vf : Value) (w : World) (hk : m.kind = 14)  :
    Calls Tryd.prog 74 #[.agg (mqCells m vc vw vf).toArray] w (Bodied m w) := by
  have b1 : (m.kind == 1) = false := kind_ne hk rfl
  have b2 : (m.kind == 2) = false := kind_ne hk rfl
  have b3 : (m.kind == 3) = false := kind_ne hk rfl
  have b8 : (m.kind == 8) = false := kind_ne hk rfl
  have b9 : (m.kind == 9) = false := kind_ne hk rfl
  have b10 : (m.kind == 10) = false := kind_ne hk rfl
  have b12 : (m.kind == 12) = false := kind_ne hk rfl
  have b13 : (m.kind == 13) = false := kind_ne hk rfl
  have b14 : (m.kind == 14) = true := kind_eq hk
  go_enter Tryd.func74, Tryd.ntmps74
  refine Has.start 123 [(0, .agg (mqCells m vc vw vf).toArray)] rfl rfl ⟨rfl, trivial⟩ ?_
  intro a0 H0
  have O0 := Own.start w
  repeat (refine wp_seq ?_)
  refine wp_region_list ?_
  refine H0.box rfl rfl rfl rfl rfl ?_
  intro a1 w1 hb hs hC H1
  have O1 := O0.alloc hb hs hC
  clear hb hs hC
  refine H1.move gz (.inr rfl) rfl rfl rfl ?_
  intro a2 H2
  refine H2.move gz (.inr rfl) rfl rfl rfl ?_
  intro a3 H3
  refine nt ?_
  have HB1 := Base.of O1
  obtain ⟨b0, hb0⟩ : ∃ b0, b0 = w1.heap.size := ⟨_, rfl⟩
  rw [← hb0] at HB1
  have hb0' := hb0
  clear hb0
  repeat (refine wp_seq ?_)
  refine wp_region_list ?_
  refine H3.field gz rfl rfl rfl rfl field_0 ?_
  intro a4 H4
  refine H4.load gz rfl rfl rfl rfl (load1_i _ _ _ _ ((HB1.get 0 rfl).get 0 _ rfl)) ?_
  intro a5 H5
  refine nt ?_
  have H6 := H5.keep (l' := [(1, .pointer (some ⟨w.heap.size, 0, none⟩)), (2, .int .i64 0), (3, .slice none 0 0), (11, .int .i64 m.kind)]) ⟨rfl, rfl, rfl, rfl, trivial⟩
  repeat (refine wp_seq ?_)
  refine wp_block ?_
  repeat (refine wp_seq ?_)
  refine wp_region_list ?_
  refine H6.bin gz rfl rfl rfl rfl rfl (eql_iB _ _ _ b1 _ _ _) ?_
  intro a7 H7
  refine H7.move gz (.inr rfl) rfl rfl rfl ?_
  intro a8 H8
  refine nt ?_
  refine H8.condF rfl ?_
  repeat (refine wp_seq ?_)
  refine wp_region_list ?_
  refine H8.bin gz rfl rfl rfl rfl rfl (eql_iB _ _ _ b2 _ _ _) ?_
  intro a9 H9
  refine H9.move gz (.inr rfl) rfl rfl rfl ?_
  intro a10 H10
  refine nt ?_
  refine H10.condF rfl ?_
  repeat (refine wp_seq ?_)
  refine wp_region_list ?_
  refine H10.bin gz rfl rfl rfl rfl rfl (eql_iB _ _ _ b3 _ _ _) ?_
  intro a11 H11
  refine H11.move gz (.inr rfl) rfl rfl rfl ?_
  intro a12 H12
  refine nt ?_
  refine H12.condF rfl ?_
  repeat (refine wp_seq ?_)
  refine wp_region_list ?_
  refine H12.bin gz rfl rfl rfl rfl rfl (eql_iB _ _ _ b8 _ _ _) ?_
  intro a13 H13
  refine H13.move gz (.inr rfl) rfl rfl rfl ?_
  intro a14 H14
  refine nt ?_
  refine H14.condF rfl ?_
  repeat (refine wp_seq ?_)
  refine wp_region_list ?_
  refine H14.bin gz rfl rfl rfl rfl rfl (eql_iB _ _ _ b9 _ _ _) ?_
  intro a15 H15
  refine H15.move gz (.inr rfl) rfl rfl rfl ?_
  intro a16 H16
  refine nt ?_
  refine H16.condF rfl ?_
  repeat (refine wp_seq ?_)
  refine wp_region_list ?_
  refine H16.bin gz rfl rfl rfl rfl rfl (eql_iB _ _ _ b10 _ _ _) ?_
  intro a17 H17
  refine H17.move gz (.inr rfl) rfl rfl rfl ?_
  intro a18 H18
  refine nt ?_
  refine H18.condF rfl ?_
  repeat (refine wp_seq ?_)
  repeat (refine wp_seq ?_)
  refine wp_region_list ?_
  refine H18.bin gz rfl rfl rfl rfl rfl (eql_iB _ _ _ b12 _ _ _) ?_
  intro a19 H19
  refine H19.move gz (.inr rfl) rfl rfl rfl ?_
  intro a20 H20
  refine nt ?_
  refine H20.condF rfl ?_
  repeat (refine wp_seq ?_)
  refine wp_region_list ?_
  refine H20.bin gz rfl rfl rfl rfl rfl (eql_iB _ _ _ b13 _ _ _) ?_
  intro a21 H21
  refine H21.move gz (.inr rfl) rfl rfl rfl ?_
  intro a22 H22
  refine nt ?_
  refine H22.condF rfl ?_
  repeat (refine wp_seq ?_)
  refine wp_region_list ?_
  refine H22.bin gz rfl rfl rfl rfl rfl (eql_iB _ _ _ b14 _ _ _) ?_
  intro a23 H23
  refine H23.move gz (.inr rfl) rfl rfl rfl ?_
  intro a24 H24
  refine nt ?_
  refine H24.condT rfl ?_
  repeat (refine wp_seq ?_)
  refine wp_region_list ?_
  refine H24.move gz (.inr rfl) rfl rfl rfl ?_
  intro a25 H25
  refine H25.move gz (.inr rfl) rfl rfl rfl ?_
  intro a26 H26
  refine nt ?_
  refine wp_ret ?_
  repeat (first | (with_reducible refine block_ret ?_) | (with_reducible refine then_ret ?_))
  refine bodyPost_ret (results_pair rfl _ _ _ (H26.at_ 2 _ rfl) (H26.at_ 3 _ rfl)) H26.df ?_
  refine bodied_of (by unfold flagsBy; simp [hk]) ?_ (RowIs.nil b0 _).read HB1
  unfold bodyBy; simp [hk, bareKind]

end Go.Proofs.YtkcdkjpmbjcmdaaDoor

/-
  pack.body at wishes.
-/
namespace Go.Proofs.YtkcdkjpmbjcmdaaDoor
open Go.RowKit

theorem load_wish (g o : Nat) (f : ByteArray) (q : Int) (w : World) (h0 : w.cell? ⟨g, o, none⟩ = some (.string f)) (h1 : w.cell? ⟨g, o + 1, none⟩ = some (.int .i64 q)) : (Instr.loadAt 95 (.pointer (some ⟨g, o, none⟩))).run Tryd.prog w = .ok (.agg #[.string f, .int .i64 q]) w := by
  simp [go_sem, h0, h1]
theorem zero_wish (w : World) : (zeroValue 95).run Tryd.prog w = .ok (.agg ([.string nos, .int .i64 0] : List Value).toArray) w := by kernel_rfl
theorem size_wish : (Tryd.prog.info? 95).map (·.size) = some 2 := by kernel_rfl
theorem fieldS_0 (g : Nat) (w : World) : (Instr.fieldAt 95 (.pointer (some ⟨g, 0, none⟩)) 0).run Tryd.prog w = .ok (.pointer (some ⟨g, 0, none⟩)) w := by kernel_rfl
theorem fieldS_1 (g : Nat) (w : World) : (Instr.fieldAt 95 (.pointer (some ⟨g, 0, none⟩)) 1).run Tryd.prog w = .ok (.pointer (some ⟨g, 1, none⟩)) w := by kernel_rfl
theorem Reads.wish {w : World} {B n k : Nat} {A : Option Addr} {l : List (ByteArray × Int)} (h : Reads w B 2 A n (wv l)) (hl : l.length = n) (hk : k < n) : ∃ b o x, A = some ⟨b, o, none⟩ ∧ b < B ∧ l[k]? = some x ∧ w.cell? ⟨b, o + k * 2, none⟩ = some (.string x.1) ∧ w.cell? ⟨b, o + k * 2 + 1, none⟩ = some (.int .i64 x.2) := by
  obtain ⟨b, o, hA, hb, hc⟩ := h.get2 hk
  have hx : l[k]? = some l[k] := List.getElem?_eq_getElem (by omega)
  obtain ⟨h0, h1⟩ := wv_get l k _ hx
  exact ⟨b, o, _, hA, hb, hx, hc 0 _ (by omega) h0, hc 1 _ (by omega) h1⟩
theorem RowIs.away {b : Nat} {xs : List UInt8} {v : Value} {w : World} (h : RowIs b xs v w) {g : Nat} (hg : g < b ∨ w.heap.size ≤ g) : some g ≠ v.ownBlock := by
  obtain ⟨A, c, rfl, ho⟩ := h
  exact own_ne ho hg
theorem Cells.onBlock {w w' : World} {g : Nat} {L : List Value} (h : Cells w g L) (hb : w'.heap[g]? = w.heap[g]?) : Cells w' g L := fun j v hv =>
  ⟨(World.cell?_of_block (a := ⟨g, j, none⟩) hb).trans (h j v hv).1, (World.frozen?_of_block (a := ⟨g, j, none⟩) hb).trans (h j v hv).2⟩
theorem lit_keep {w w' : World} {g5 : Nat} {v3 : Value} {ys : List UInt8} {k : Nat} (hK : ∀ g, g < w.heap.size → some g ≠ v3.ownBlock → w'.heap[g]? = w.heap[g]?) (hfar : ∀ g, g5 ≤ g → some g ≠ v3.ownBlock) (hs : w.heap.size ≤ w'.heap.size) {v : Value}
    (h : ∃ g, v = .slice (some ⟨g, 0, none⟩) k k ∧ g5 ≤ g ∧ g < w.heap.size ∧ BytesAre ys v w) : ∃ g, v = .slice (some ⟨g, 0, none⟩) k k ∧ g5 ≤ g ∧ g < w'.heap.size ∧ BytesAre ys v w' := by
  obtain ⟨g, rfl, hg, hlt, A, c, e, hr⟩ := h
  refine ⟨g, rfl, hg, Nat.lt_of_lt_of_le hlt hs, A, c, e, ?_⟩
  injection e with e1 e2 e3
  subst e1
  refine ⟨hr.1, fun hn => ?_⟩
  obtain ⟨ad, hA, hbl, hc⟩ := hr.2 hn
  injection hA with hA
  subst hA
  refine ⟨_, rfl, Nat.lt_of_lt_of_le hbl hs, fun j u hu => ?_⟩
  rw [← hc j u hu]
  refine World.cell?_of_block ?_
  rw [block_of_add]
  exact hK g hlt (hfar g hg)
/-- append(row, bytes..), and which block the row lies in. -/
theorem run_append_rowG {P : Program} {o : Oper} {a : Act} {w : World} (hgb : P.underlying 31 = some (.slice 5)) (hi : (P.info? 5).map (fun i => (i.zero, i.size, i.bytes)) = some (some (.int .u8 0), 1, 1)) {s x : Operand}
    (ho : o.op = .call { callee := .builtin .append, args := #[s, x], argTypes := #[31, 31] }) {b : Nat} {xs ys : List UInt8} {v : Value} {ad : Addr} {c : Nat} (hs : a.eval s = v) (hx : a.eval x = .slice (some ad) ys.length c) (hv : RowIs b xs v w) (hu : RB w w.heap.size (some ad) ys) (hy : 0 < ys.length)
    (hn : xs.length + ys.length ≤ 140737488355328) (hb : b ≤ w.heap.size) : ∃ v' w', (execOp a.eval o).run P w = .ok (.value v') w' ∧ RowIs b (xs ++ ys) v' w' ∧ Below b w w' ∧ w.grownBy w' v.ownBlock ∧ (v'.ownBlock = v.ownBlock ∨ v'.ownBlock = some w.heap.size) := by
  obtain ⟨A, cc, rfl, hown⟩ := hv
  obtain ⟨i, hi0, hz0, hz1, hz2⟩ := info_parts hi
  have hcells : ∀ j u, (ys.map bv)[j]? = some u → w.cell? (ad.add j) = some u := by
    intro j u hu'
    obtain ⟨ad', h, _, hc⟩ := hu.2 hy
    injection h with h
    subst h
    exact hc j u hu'
  obtain ⟨v', w', hrun, h2, h3, _, h5⟩ := run_append_own_at (P := P) w b 31 o.type 5 i (.int .u8 0) 1 1 hgb hi0 hz0 hz1 hz2 rfl (by decide) _ xs.length (xs.map bv) hown ad ys.length c (ys.map bv) (by simp) hcells (bv_one ys) (by unfold maxLen; omega) (by omega) hb
  obtain ⟨A', c', rfl, _, _⟩ := own_shape h2
  refine ⟨_, w', ?_, ⟨A', c', by rw [List.length_append], by rw [List.length_append, List.map_append]; exact h2⟩, (Below.refl _ _).grown h3 hb fun k hk => (hown.lt k hk).1, h3, h5⟩
  unfold execOp
  simp only [ho, resolve, invoke, builtin, Sem.run_bind, Sem.run_pure, Result.andThen_ok, List.map_toArray, List.map_cons, List.map_nil, hs, hx, hrun]
set_option maxRecDepth 100000 in
set_option maxHeartbeats 800000 in
theorem rowTwoG (b : Nat) (xs : List UInt8) (v : Value) (k : Int) (h0 : 0 ≤ k) (h1 : k ≤ 65535) (w : World) (hv : RowIs b xs v w) (hb : b ≤ w.heap.size) (hn : xs.length ≤ 140737488251232) :
    Calls Tryd.prog 100 #[v, .int .i64 k] w fun e w' => ∃ v', e = .returned v' ∧ (RowIs b (xs ++ big 2 k.toNat) v' w' ∧ Below b w w' ∧ (∀ g, g < w.heap.size → some g ≠ v.ownBlock → w'.heap[g]? = w.heap[g]?) ∧ (v'.ownBlock = v.ownBlock ∨ ∃ q, v'.ownBlock = some q ∧ w.heap.size ≤ q)) := by
  go_enter Tryd.func100, Tryd.ntmps100
  refine Has.start 13 [(0, v), (1, .int .i64 k)] rfl rfl ⟨rfl, rfl, trivial⟩ ?_
  intro a0 H0
  repeat (refine wp_seq ?_)
  refine wp_region_list ?_
  refine H0.move gz (.inr rfl) rfl rfl rfl ?_
  intro a1 H1
  refine nt ?_
  repeat (refine wp_seq ?_)
  refine wp_region_list ?_
  refine H1.move gz (.inl rfl) rfl rfl rfl ?_
  intro a2 H2
  refine H2.move gz (.inl rfl) rfl rfl rfl ?_
  intro a3 H3
  refine H3.bin gz rfl rfl rfl rfl rfl (shr8 _ h0 h1 _ _ _) ?_
  intro a4 H4
  refine H4.conv gz rfl rfl rfl rfl (conv_u8 _ _) ?_
  intro a5 H5
  refine H5.move gz (.inl rfl) rfl rfl rfl ?_
  intro a6 H6
  refine H6.conv gz rfl rfl rfl rfl (conv_u8 _ _) ?_
  intro a7 H7
  obtain ⟨⟨A1, c1, e1, hrb⟩, hb1⟩ := bytes_lit w (big 2 k.toNat) [.int .u8 (k / 256 % 256), .int .u8 (k % 256)] (lit_two k h0 h1) 5 2 (big_length 2 _)
  rw [big_length] at e1
  injection e1 with e1 _ _
  subst e1
  refine H7.go gz rfl rfl _ (run_any H7 (by intro cs b h; cases h) (by kernel_rfl) (x := .value (.slice (some ⟨w.heap.size, 0, none⟩) 2 2)) (w' := w.alloc (.cells ([.int .u8 (k / 256 % 256), .int .u8 (k % 256)] : List Value).toArray 5)) (by kernel_rfl)) ?_
  intro a8 H8
  obtain ⟨v', w', hrun, hrow, hb2, hg, hob⟩ := run_append_rowG (P := Tryd.prog) (a := a8) (w := w.alloc (.cells ([.int .u8 (k / 256 % 256), .int .u8 (k % 256)] : List Value).toArray 5)) Tryd.underlying31 info_u8 (o := ⟨some 12, _, _, _, _, none⟩) (b := b) (xs := xs) (ys := big 2 k.toNat) (v := v) rfl (H8.at_ 5 _ rfl) (by rw [big_length]; exact H8.at_ 11 _ rfl) (hv.below hb1) hrb (by rw [big_length]; omega) (by rw [big_length]; omega) (Nat.le_trans hb hb1.size)
  refine H8.go gz rfl rfl _ hrun ?_
  intro a9 H9
  refine H9.move gz (.inr rfl) rfl rfl rfl ?_
  intro a10 H10
  refine nt ?_
  refine wp_ret ?_
  refine bodyPost_ret (results_tmp rfl _ _ _) H10.df ⟨_, congrArg Ending.returned (H10.at_ 4 _ rfl), hrow, (hb1.mono hb).trans hb2, fun g hlt hne => (hg.block g (Nat.lt_of_lt_of_le hlt hb1.size) hne).trans (hb1.block g hlt), ?_⟩
  rcases hob with h | h
  · exact .inl h
  · exact .inr ⟨_, h, hb1.size⟩
set_option maxRecDepth 100000 in
set_option maxHeartbeats 800000 in
theorem rowTextG (b : Nat) (xs : List UInt8) (v : Value) (s : ByteArray) (hs : s.size ≤ 65535) (w : World) (hv : RowIs b xs v w) (hb : b ≤ w.heap.size) (hn : xs.length ≤ 140737488251232) :
    Calls Tryd.prog 99 #[v, .string s] w fun e w' => ∃ v', e = .returned v' ∧ (RowIs b (xs ++ strB s) v' w' ∧ Below b w w' ∧ (∀ g, g < w.heap.size → some g ≠ v.ownBlock → w'.heap[g]? = w.heap[g]?)) := by
  go_enter Tryd.func99, Tryd.ntmps99
  refine Has.start 11 [(0, v), (1, .string s)] rfl rfl ⟨rfl, rfl, trivial⟩ ?_
  intro a0 H0
  repeat (refine wp_seq ?_)
  refine wp_region_list ?_
  refine H0.move gz (.inr rfl) rfl rfl rfl ?_
  intro a1 H1
  refine nt ?_
  repeat (refine wp_seq ?_)
  refine wp_region_list ?_
  refine H1.move gz (.inl rfl) rfl rfl rfl ?_
  intro a2 H2
  refine H2.move gz (.inl rfl) rfl rfl rfl ?_
  intro a3 H3
  refine H3.go gz rfl rfl (.int .i64 (s.size : Int)) (w' := w) (run_any H3 (by intro cs b h; cases h) (by kernel_rfl) (by kernel_rfl)) ?_
  intro a4 H4
  refine H4.call gz rfl rfl rfl rfl (fun _ _ => by kernel_rfl) (rowTwoG b xs v (s.size : Int) (by omega) (by omega) w hv hb hn) ?_
  rintro a5 v8 w1 ⟨R8, hb1, hK1, hob⟩ H5
  refine H5.move gz (.inl rfl) rfl rfl rfl ?_
  intro a6 H6
  rw [show ((s.size : Int)).toNat = s.size from rfl] at R8
  obtain ⟨v', w', hrun, hrow, hb2, hg⟩ := run_append_strR (P := Tryd.prog) (a := a6) (w := w1) Tryd.underlying31 Tryd.underlying9 info_u8 (o := ⟨some 10, _, _, _, _, none⟩) rfl rfl (H6.at_ 9 _ rfl) ((H6.at_ 8 _ rfl).symm ▸ R8) (by rw [List.length_append, big_length]; omega) (Nat.le_trans hb hb1.size)
  refine H6.go gz rfl rfl _ hrun ?_
  intro a7 H7
  refine H7.move gz (.inr rfl) rfl rfl rfl ?_
  intro a8 H8
  refine nt ?_
  refine wp_ret ?_
  refine bodyPost_ret (results_tmp rfl _ _ _) H8.df ⟨_, congrArg Ending.returned (H8.at_ 4 _ rfl), (by unfold strB; rw [← List.append_assoc]; exact hrow), hb1.trans hb2, fun g hlt hne => (hg.block g (Nat.lt_of_lt_of_le hlt hb1.size) ?_).trans (hK1 g hlt hne)⟩
  rw [H6.at_ 8 _ rfl]
  rcases hob with h | ⟨q, h, hq⟩
  · rw [h]; exact hne
  · rw [h]; intro e; injection e with e; omega
set_option maxRecDepth 100000 in
set_option maxHeartbeats 3200000 in
theorem body_8 (m : Mq) (vc vf : Value) (w : World) (hk : m.kind = 8) (hi0 : 0 ≤ m.id) (hi1 : m.id ≤ 65535) (A : Option Addr) (c : Nat) (hr : Reads w w.heap.size 2 A m.wishes.length (wv m.wishes)) (hw : wishesAll m.wishes = true) (hl : m.wishes.length ≤ 8) :
    Calls Tryd.prog 74 #[.agg (mqCells m vc (.slice A m.wishes.length c) vf).toArray] w (Bodied m w) := by
  have b1 : (m.kind == 1) = false := kind_ne hk rfl
  have b2 : (m.kind == 2) = false := kind_ne hk rfl
  have b3 : (m.kind == 3) = false := kind_ne hk rfl
  have b8 : (m.kind == 8) = true := kind_eq hk
  go_enter Tryd.func74, Tryd.ntmps74
  refine Has.start 123 [(0, .agg (mqCells m vc (.slice A m.wishes.length c) vf).toArray)] rfl rfl ⟨rfl, trivial⟩ ?_
  intro a0 H0
  have O0 := Own.start w
  repeat (refine wp_seq ?_)
  refine wp_region_list ?_
  refine H0.box rfl rfl rfl rfl rfl ?_
  intro a1 w1 hb hs hC H1
  have O1 := O0.alloc hb hs hC
  clear hb hs hC
  refine H1.move gz (.inr rfl) rfl rfl rfl ?_
  intro a2 H2
  refine H2.move gz (.inr rfl) rfl rfl rfl ?_
  intro a3 H3
  refine nt ?_
  have HB1 := Base.of O1
  obtain ⟨b0, hb0⟩ : ∃ b0, b0 = w1.heap.size := ⟨_, rfl⟩
  rw [← hb0] at HB1
  have hb0' := hb0
  clear hb0
  repeat (refine wp_seq ?_)
  refine wp_region_list ?_
  refine H3.field gz rfl rfl rfl rfl field_0 ?_
  intro a4 H4
  refine H4.load gz rfl rfl rfl rfl (load1_i _ _ _ _ ((HB1.get 0 rfl).get 0 _ rfl)) ?_
  intro a5 H5
  refine nt ?_
  have H6 := H5.keep (l' := [(1, .pointer (some ⟨w.heap.size, 0, none⟩)), (2, .int .i64 0), (3, .slice none 0 0), (11, .int .i64 m.kind)]) ⟨rfl, rfl, rfl, rfl, trivial⟩
  repeat (refine wp_seq ?_)
  refine wp_block ?_
  repeat (refine wp_seq ?_)
  refine wp_region_list ?_
  refine H6.bin gz rfl rfl rfl rfl rfl (eql_iB _ _ _ b1 _ _ _) ?_
  intro a7 H7
  refine H7.move gz (.inr rfl) rfl rfl rfl ?_
  intro a8 H8
  refine nt ?_
  refine H8.condF rfl ?_
  repeat (refine wp_seq ?_)
  refine wp_region_list ?_
  refine H8.bin gz rfl rfl rfl rfl rfl (eql_iB _ _ _ b2 _ _ _) ?_
  intro a9 H9
  refine H9.move gz (.inr rfl) rfl rfl rfl ?_
  intro a10 H10
  refine nt ?_
  refine H10.condF rfl ?_
  repeat (refine wp_seq ?_)
  refine wp_region_list ?_
  refine H10.bin gz rfl rfl rfl rfl rfl (eql_iB _ _ _ b3 _ _ _) ?_
  intro a11 H11
  refine H11.move gz (.inr rfl) rfl rfl rfl ?_
  intro a12 H12
  refine nt ?_
  refine H12.condF rfl ?_
  repeat (refine wp_seq ?_)
  refine wp_region_list ?_
  refine H12.bin gz rfl rfl rfl rfl rfl (eql_iB _ _ _ b8 _ _ _) ?_
  intro a13 H13
  refine H13.move gz (.inr rfl) rfl rfl rfl ?_
  intro a14 H14
  refine nt ?_
  refine H14.condT rfl ?_
  repeat (refine wp_seq ?_)
  refine wp_region_list ?_
  refine H14.field gz rfl rfl rfl rfl field_16 ?_
  intro a15 H15
  refine H15.load gz rfl rfl rfl rfl (load1_i _ _ _ _ ((HB1.get 0 rfl).get 20 _ rfl)) ?_
  intro a16 H16
  refine H16.call gz rfl rfl rfl rfl (fun _ _ => by kernel_rfl) (rowTwo b0 [] _ m.id hi0 hi1 _ (RowIs.nil _ _) HB1.bw (by simp)) ?_
  rintro a17 v57 w2 ⟨R57, hb⟩ H17
  have HB2 := HB1.step hb
  clear hb
  refine H17.move gz (.inr rfl) rfl rfl rfl ?_
  intro a18 H18
  refine nt ?_
  repeat (refine wp_seq ?_)
  refine wp_region_list ?_
  refine H18.field gz rfl rfl rfl rfl field_18 ?_
  intro a19 H19
  refine H19.load gz rfl rfl rfl rfl (load1_27 _ _ _ _ _ _ ((HB2.get 0 rfl).get 22 _ rfl)) ?_
  intro a20 H20
  refine H20.len gz rfl rfl rfl rfl Tryd.underlying27 ?_
  intro a21 H21
  refine H21.move gz (.inl rfl) rfl rfl rfl ?_
  intro a22 H22
  refine nt ?_
  repeat (refine wp_seq ?_)
  refine wp_block ?_
  refine wp_loop_up m.wishes.length (fun k a w' => ∃ v, Has a 123 [(1, .pointer (some ⟨w.heap.size, 0, none⟩)), (3, v), (59, .slice A m.wishes.length c), (60, .int .i64 (m.wishes.length : Int)), (61, .int .i64 (k : Int))] ∧ RowIs b0 (([] ++ big 2 m.id.toNat) ++ wishesBy (m.wishes.take k)) v w' ∧ Base w b0 [(w.heap.size, (mqCells m vc (.slice A m.wishes.length c) vf))] w') ?_ ?_
  · exact ⟨_, H22.keep ⟨rfl, rfl, rfl, rfl, rfl, trivial⟩, (by rw [List.take_zero]; simpa [wishesBy] using R57), HB2⟩
  · rintro k a23 w3 hkn ⟨v3, H23, R3, HB3⟩
    have hlb : (wishesBy (m.wishes.take k)).length ≤ 1000 := by
      have := wishesBy_le _ (wishesAll_take k hw); rw [List.length_take] at this; omega
    by_cases hlt : k < m.wishes.length
    · skip
      obtain ⟨gb, go, x, rfl, hgb, hx, hc0, hc1⟩ := Reads.wish (hr.below HB3.own.bel) rfl hlt
      obtain ⟨hxs, hx0, hx1⟩ := wishesAll_get hw hx
      repeat (refine wp_seq ?_)
      refine wp_region_list ?_
      refine H23.bin gz rfl rfl rfl rfl rfl (lss_i _ _ true (by simp; omega) _ _ _) ?_
      intro a24 H24
      refine nt ?_
      repeat (refine wp_seq ?_)
      refine H24.condT rfl ?_
      refine skip_wp ?_
      refine then_normal ?_
      repeat (refine wp_seq ?_)
      refine wp_block ?_
      repeat (refine wp_seq ?_)
      refine wp_region_list ?_
      refine H24.index gz rfl rfl rfl rfl rfl (index_2 27 Tryd.underlying27 (fun _ => by kernel_rfl) _ _ _ _ _ hlt _) ?_
      intro a25 H25
      refine H25.load gz rfl rfl rfl rfl (load_wish _ _ _ _ _ hc0 hc1) ?_
      intro a26 H26
      refine H26.alloc rfl rfl rfl rfl _ zero_wish ?_
      intro a27 w4 hbA hsA hCA H27
      refine H27.storeS rfl rfl rfl rfl (L := [.string x.1, .int .i64 x.2]) rfl hCA size_wish rfl rfl rfl ?_
      intro a28 w5 H28 hgS hsS hC5
      have hb5 : Below w3.heap.size w3 w5 := hbA.grown hgS hbA.size (fun k hk => by injection hk with hk; rw [← hk]; exact Nat.le_refl _)
      have hlt5 : w3.heap.size < w5.heap.size := by rw [hsS, hsA]; exact Nat.lt_succ_self _
      have hfar : ∀ g, w3.heap.size ≤ g → some g ≠ v3.ownBlock := fun g hg => R3.away (.inr hg)
      generalize w3.heap.size = g5 at hC5 hlt5 hfar H28
      have R3 := R3.below hb5
      have HB5 := HB3.call hb5
      clear hbA hsA hCA hgS hsS hb5
      refine nt ?_
      have H29 := H28.keep (l' := [(1, .pointer (some ⟨w.heap.size, 0, none⟩)), (3, v3), (5, .pointer (some ⟨g5, 0, none⟩)), (59, .slice (some ⟨gb, go, none⟩) m.wishes.length c), (60, .int .i64 (m.wishes.length : Int)), (61, .int .i64 (k : Int))]) ⟨rfl, rfl, rfl, rfl, rfl, rfl, trivial⟩
      refine wp_region_invB (by kernel_rfl) (InvB 123 [(1, .pointer (some ⟨w.heap.size, 0, none⟩)), (5, .pointer (some ⟨g5, 0, none⟩)), (59, .slice (some ⟨gb, go, none⟩) m.wishes.length c), (60, .int .i64 (m.wishes.length : Int)), (61, .int .i64 (k : Int))] [⟨0, 65, [3], fun v w => v = v3 ∧ RowIs b0 (([] ++ big 2 m.id.toNat) ++ wishesBy (m.wishes.take k)) v w⟩, ⟨1, 66, [], fun v _ => v = .pointer (some ⟨g5, 0, none⟩)⟩, ⟨2, 67, [], fun v _ => v = .string x.1⟩, ⟨3, 68, [8], fun v w => RowIs b0 ((([] ++ big 2 m.id.toNat) ++ wishesBy (m.wishes.take k)) ++ strB x.1) v w⟩, ⟨4, 69, [], fun v _ => v = .pointer (some ⟨g5, 1, none⟩)⟩, ⟨5, 70, [], fun v _ => v = .int .i64 x.2⟩, ⟨6, 71, [], fun v _ => v = .int .u8 (x.2 % 256)⟩, ⟨7, 72, [8], fun v w => ∃ g, v = .slice (some ⟨g, 0, none⟩) 1 1 ∧ g5 ≤ g ∧ g < w.heap.size ∧ BytesAre [UInt8.ofNat x.2.toNat] v w⟩, ⟨8, 73, [], fun v w => RowIs b0 (((([] ++ big 2 m.id.toNat) ++ wishesBy (m.wishes.take k)) ++ strB x.1) ++ [UInt8.ofNat x.2.toNat]) v w⟩, ⟨9, 3, [], fun v w => RowIs b0 (((([] ++ big 2 m.id.toNat) ++ wishesBy (m.wishes.take k)) ++ strB x.1) ++ [UInt8.ofNat x.2.toNat]) v w⟩, ⟨1000, 3, [3, 9], fun v w => v = v3 ∧ RowIs b0 (([] ++ big 2 m.id.toNat) ++ wishesBy (m.wishes.take k)) v w⟩, ⟨1001, 121, [8], fun _ w => Cells w g5 [.string x.1, .int .i64 x.2] ∧ g5 < w.heap.size⟩] (Base w b0 [(w.heap.size, (mqCells m vc (.slice (some ⟨gb, go, none⟩) m.wishes.length c) vf))])) (back_of (by kernel_rfl)) ?_ ?_ ?_
      · intro listed aa ww i o hs hni hcl ho hd hI
        have hls : listed.size = 10 := hs
        have u_1 : aa.eval (.tmp 1) = .pointer (some ⟨w.heap.size, 0, none⟩) := hI.fx.1
        have u_5 : aa.eval (.tmp 5) = .pointer (some ⟨g5, 0, none⟩) := hI.fx.2.1
        have u_59 : aa.eval (.tmp 59) = .slice (some ⟨gb, go, none⟩) m.wishes.length c := hI.fx.2.2.1
        have u_60 : aa.eval (.tmp 60) = .int .i64 (m.wishes.length : Int) := hI.fx.2.2.2.1
        have u_61 : aa.eval (.tmp 61) = .int .i64 (k : Int) := hI.fx.2.2.2.2.1
        match i, ho with
        | 0, ho =>
          obtain rfl := pick_op ho rfl
          have r3 := hI.vs _ (ma 10 rfl) (.inl (by rw [hls]; show 10 ≤ 1000; decide)) ⟨(Bool.eq_false_iff.2 fun h => absurd (hni.symm.trans (ran_of (hcl 3 _ rfl h) 0 (by kernel_rfl))) (by decide)), (Bool.eq_false_iff.2 fun h => absurd (hni.symm.trans (ran_of (hcl 3 _ rfl (ran_of (hcl 8 _ rfl (ran_of (hcl 9 _ rfl h) 8 (by kernel_rfl))) 3 (by kernel_rfl))) 0 (by kernel_rfl))) (by decide)), trivial⟩
          obtain ⟨e3, hR⟩ : aa.eval (.tmp 3) = v3 ∧ RowIs b0 (([] ++ big 2 m.id.toNat) ++ wishesBy (m.wishes.take k)) (aa.eval (.tmp 3)) ww := r3
          refine wpOp_go ho gz 65 rfl (aa.eval (.tmp 3)) ww (run_move (.inl rfl) rfl) ?_
          exact hI.put (by kernel_rfl) _ (ma 0 rfl) (by rw [hls]; show 0 < 10; decide) (by rw [hls]; decide) (aa.eval (.tmp 3)) ⟨e3, hR⟩ hI.wp AllSt.same
        | 1, ho =>
          obtain rfl := pick_op ho rfl
          have HH : Has aa 123 [(5, .pointer (some ⟨g5, 0, none⟩))] := Has.of hI.sz hI.df ⟨u_5, trivial⟩
          refine wpOp_go ho gz 66 rfl (.pointer (some ⟨g5, 0, none⟩)) ww (run_field rfl (HH.ev rfl) fieldS_0) ?_
          exact hI.put (by kernel_rfl) _ (ma 1 rfl) (by rw [hls]; show 1 < 10; decide) (by rw [hls]; decide) (.pointer (some ⟨g5, 0, none⟩)) rfl hI.wp AllSt.same
        | 2, ho =>
          obtain rfl := pick_op ho rfl
          have rp := hI.vs _ (ma 1 rfl) (.inr (ran_of hd 1 (by kernel_rfl))) trivial
          have up : aa.eval (.tmp 66) = .pointer (some ⟨g5, 0, none⟩) := rp
          have rbox := hI.vs _ (ma 11 rfl) (.inl (by rw [hls]; show 10 ≤ 1001; decide)) ⟨(Bool.eq_false_iff.2 fun h => absurd (hni.symm.trans (ran_of (hcl 3 _ rfl (ran_of (hcl 8 _ rfl h) 3 (by kernel_rfl))) 2 (by kernel_rfl))) (by decide)), trivial⟩
          refine wpOp_go ho gz 67 rfl (.string x.1) ww (run_load rfl up (load1_s _ _ _ _ (rbox.1.get 0 _ rfl))) ?_
          exact hI.put (by kernel_rfl) _ (ma 2 rfl) (by rw [hls]; show 2 < 10; decide) (by rw [hls]; decide) (.string x.1) rfl hI.wp AllSt.same
        | 3, ho =>
          obtain rfl := pick_op ho rfl
          have r65 := hI.vs _ (ma 0 rfl) (.inr (ran_of hd 0 (by kernel_rfl))) ⟨hni, trivial⟩
          obtain ⟨e65, hR⟩ : aa.eval (.tmp 65) = v3 ∧ RowIs b0 (([] ++ big 2 m.id.toNat) ++ wishesBy (m.wishes.take k)) (aa.eval (.tmp 65)) ww := r65
          have r67 := hI.vs _ (ma 2 rfl) (.inr (ran_of hd 2 (by kernel_rfl))) trivial
          have u67 : aa.eval (.tmp 67) = .string x.1 := r67
          have HH : Has aa 123 [(65, v3), (67, .string x.1)] := Has.of hI.sz hI.df ⟨e65, u67, trivial⟩
          rw [e65] at hR
          refine wpOp_enter ho gz 68 rfl 99 _ (run_callH HH rfl rfl (fun _ _ => by kernel_rfl)) _ (rowTextG b0 (([] ++ big 2 m.id.toNat) ++ wishesBy (m.wishes.take k)) v3 x.1 (by omega) ww hR hI.wp.bw (by simp only [List.length_append, big_length, List.length_nil]; omega)) ?_
          rintro v' w' ⟨hrow, hb0, hK⟩
          exact hI.put (by kernel_rfl) _ (ma 3 rfl) (by rw [hls]; show 3 < 10; decide) (by rw [hls]; decide) (v') hrow (hI.wp.step hb0) ⟨fun _ h => absurd (by show 3 ∈ ([3] : List Nat); decide) h, fun _ _ _ _ _ h => h, fun _ _ _ _ _ h => h, fun h => absurd rfl h, fun _ _ _ _ _ h => h, fun _ _ _ _ _ h => h, fun _ _ _ _ _ h => h, fun _ _ _ _ _ h => lit_keep hK hfar hb0.size h, fun _ _ h => absurd (hni.symm.trans (ran_of (hcl 8 _ rfl (h.resolve_left (by rw [hls]; show ¬ 10 ≤ 8; decide))) 3 (by kernel_rfl))) (by decide), fun _ _ h => absurd (hni.symm.trans (ran_of (hcl 8 _ rfl (ran_of (hcl 9 _ rfl (h.resolve_left (by rw [hls]; show ¬ 10 ≤ 9; decide))) 8 (by kernel_rfl))) 3 (by kernel_rfl))) (by decide), fun _ h => absurd (by show 3 ∈ ([3, 9] : List Nat); decide) h, fun _ _ _ _ _ h => ⟨h.1.onBlock (hK g5 h.2 (hfar g5 (Nat.le_refl _))), Nat.lt_of_lt_of_le h.2 hb0.size⟩, trivial⟩
        | 4, ho =>
          obtain rfl := pick_op ho rfl
          have HH : Has aa 123 [(5, .pointer (some ⟨g5, 0, none⟩))] := Has.of hI.sz hI.df ⟨u_5, trivial⟩
          refine wpOp_go ho gz 69 rfl (.pointer (some ⟨g5, 1, none⟩)) ww (run_field rfl (HH.ev rfl) fieldS_1) ?_
          exact hI.put (by kernel_rfl) _ (ma 4 rfl) (by rw [hls]; show 4 < 10; decide) (by rw [hls]; decide) (.pointer (some ⟨g5, 1, none⟩)) rfl hI.wp AllSt.same
        | 5, ho =>
          obtain rfl := pick_op ho rfl
          have rp := hI.vs _ (ma 4 rfl) (.inr (ran_of hd 4 (by kernel_rfl))) trivial
          have up : aa.eval (.tmp 69) = .pointer (some ⟨g5, 1, none⟩) := rp
          have rbox := hI.vs _ (ma 11 rfl) (.inl (by rw [hls]; show 10 ≤ 1001; decide)) ⟨(Bool.eq_false_iff.2 fun h => absurd (hni.symm.trans (ran_of (hcl 6 _ rfl (ran_of (hcl 7 _ rfl (ran_of (hcl 8 _ rfl h) 7 (by kernel_rfl))) 6 (by kernel_rfl))) 5 (by kernel_rfl))) (by decide)), trivial⟩
          refine wpOp_go ho gz 70 rfl (.int .i64 x.2) ww (run_load rfl up (load1_i _ _ _ _ (rbox.1.get 1 _ rfl))) ?_
          exact hI.put (by kernel_rfl) _ (ma 5 rfl) (by rw [hls]; show 5 < 10; decide) (by rw [hls]; decide) (.int .i64 x.2) rfl hI.wp AllSt.same
        | 6, ho =>
          obtain rfl := pick_op ho rfl
          have r_70 := hI.vs _ (ma 5 rfl) (.inr (ran_of hd 5 (by kernel_rfl))) trivial
          have u_70 : aa.eval (.tmp 70) = .int .i64 x.2 := r_70
          have HH : Has aa 123 [(70, .int .i64 x.2)] := Has.of hI.sz hI.df ⟨u_70, trivial⟩
          refine wpOp_go ho gz 71 rfl (.int .u8 (x.2 % 256)) ww (run_conv rfl (HH.ev rfl) (conv_u8 _ _)) ?_
          exact hI.put (by kernel_rfl) _ (ma 6 rfl) (by rw [hls]; show 6 < 10; decide) (by rw [hls]; decide) (.int .u8 (x.2 % 256)) rfl hI.wp AllSt.same
        | 7, ho =>
          obtain rfl := pick_op ho rfl
          have r71 := hI.vs _ (ma 6 rfl) (.inr (ran_of hd 6 (by kernel_rfl))) trivial
          have u71 : aa.eval (.tmp 71) = .int .u8 (x.2 % 256) := r71
          have rbox := hI.vs _ (ma 11 rfl) (.inl (by rw [hls]; show 10 ≤ 1001; decide)) ⟨(Bool.eq_false_iff.2 fun h => absurd (hni.symm.trans (ran_of (hcl 8 _ rfl h) 7 (by kernel_rfl))) (by decide)), trivial⟩
          have hg5 : g5 < ww.heap.size := rbox.2
          have HH : Has aa 123 [(71, .int .u8 (x.2 % 256))] := Has.of hI.sz hI.df ⟨u71, trivial⟩
          obtain ⟨hby, hb⟩ := bytes_lit ww [UInt8.ofNat x.2.toNat] [.int .u8 (x.2 % 256)] (by rw [byte_of_int _ hx0]; rfl) 5 1 rfl
          refine wpOp_go ho gz 72 rfl (.slice (some ⟨ww.heap.size, 0, none⟩) 1 1) (ww.alloc (.cells ([.int .u8 (x.2 % 256)] : List Value).toArray 5)) (run_any HH (by intro cs b h; cases h) (by kernel_rfl) (by kernel_rfl)) ?_
          exact hI.put (by kernel_rfl) _ (ma 7 rfl) (by rw [hls]; show 7 < 10; decide) (by rw [hls]; decide) (.slice (some ⟨ww.heap.size, 0, none⟩) 1 1) ⟨_, rfl, Nat.le_of_lt hg5, lt_alloc ww _, hby⟩ (hI.wp.call hb) ⟨fun _ _ _ _ _ h => ⟨h.1, h.2.below hb⟩, fun _ _ _ _ _ h => h, fun _ _ _ _ _ h => h, fun _ _ _ _ _ h => h.below hb, fun _ _ _ _ _ h => h, fun _ _ _ _ _ h => h, fun _ _ _ _ _ h => h, fun h => absurd rfl h, fun _ _ _ _ _ h => h.below hb, fun _ _ _ _ _ h => h.below hb, fun _ _ _ _ _ h => ⟨h.1, h.2.below hb⟩, fun _ _ _ _ _ h => ⟨h.1.below hb h.2, Nat.lt_of_lt_of_le h.2 hb.size⟩, trivial⟩
        | 8, ho =>
          obtain rfl := pick_op ho rfl
          have r68 := hI.vs _ (ma 3 rfl) (.inr (ran_of hd 3 (by kernel_rfl))) ⟨hni, trivial⟩
          have r72 := hI.vs _ (ma 7 rfl) (.inr (ran_of hd 7 (by kernel_rfl))) ⟨hni, trivial⟩
          obtain ⟨_, _, _, _, hby⟩ := r72
          obtain ⟨v', w', hrun, hrow, hb0, hg⟩ := run_append_row (P := Tryd.prog) (a := aa) (w := ww) Tryd.underlying31 info_u8 (o := ⟨some 73, _, _, _, _, none⟩) rfl rfl rfl r68 hby (by simp only [List.length_append, strB_length, big_length, List.length_cons, List.length_nil]; omega) hI.wp.bw
          refine wpOp_go ho gz 73 rfl v' w' hrun ?_
          exact hI.put (by kernel_rfl) _ (ma 8 rfl) (by rw [hls]; show 8 < 10; decide) (by rw [hls]; decide) (v') hrow (hI.wp.step hb0) ⟨fun _ _ _ hk => absurd (hk.1.symm.trans (ran_of hd 3 (by kernel_rfl))) (by decide), fun _ _ _ _ _ h => h, fun _ _ _ _ _ h => h, fun _ h => absurd (by show 8 ∈ ([8] : List Nat); decide) h, fun _ _ _ _ _ h => h, fun _ _ _ _ _ h => h, fun _ _ _ _ _ h => h, fun _ h => absurd (by show 8 ∈ ([8] : List Nat); decide) h, fun h => absurd rfl h, fun _ _ h => absurd (hni.symm.trans (ran_of (hcl 9 _ rfl (h.resolve_left (by rw [hls]; show ¬ 10 ≤ 9; decide))) 8 (by kernel_rfl))) (by decide), fun _ _ _ hk => absurd (hk.1.symm.trans (ran_of hd 3 (by kernel_rfl))) (by decide), fun _ h => absurd (by show 8 ∈ ([8] : List Nat); decide) h, trivial⟩
        | 9, ho =>
          obtain rfl := pick_op ho rfl
          have r_73 := hI.vs _ (ma 8 rfl) (.inr (ran_of hd 8 (by kernel_rfl))) trivial
          have HH : Has aa 123 [(73, aa.eval (.tmp 73))] := Has.of hI.sz hI.df ⟨rfl, trivial⟩
          refine wpOp_go ho gz 3 rfl (aa.eval (.tmp 73)) ww (run_move (.inr rfl) (HH.ev rfl)) ?_
          exact hI.put (by kernel_rfl) _ (ma 9 rfl) (by rw [hls]; show 9 < 10; decide) (by rw [hls]; decide) (aa.eval (.tmp 73)) r_73 hI.wp AllSt.same
        | (k + 10), ho => simp at ho
      · intro listed a30 w6 hall hI
        have r_3 := hI.vs _ (ma 9 rfl) (.inr (hall 9 (by decide))) trivial
        have H30 : Has a30 123 [(1, .pointer (some ⟨w.heap.size, 0, none⟩)), (5, .pointer (some ⟨g5, 0, none⟩)), (59, .slice (some ⟨gb, go, none⟩) m.wishes.length c), (60, .int .i64 (m.wishes.length : Int)), (61, .int .i64 (k : Int)), (3, a30.eval (.tmp 3))] := Has.of hI.sz hI.df ⟨hI.fx.1, hI.fx.2.1, hI.fx.2.2.1, hI.fx.2.2.2.1, hI.fx.2.2.2.2.1, rfl, trivial⟩
        have HB6 := hI.wp
        have R3_6 : RowIs b0 (((([] ++ big 2 m.id.toNat) ++ wishesBy (m.wishes.take k)) ++ strB x.1) ++ [UInt8.ofNat x.2.toNat]) (a30.eval (.tmp 3)) w6 := r_3
        refine block_normal ?_
        refine then_normal ?_
        refine wp_region_list ?_
        refine H30.bin gz rfl rfl rfl rfl rfl (succ_i _ (by omega) _ _ _) ?_
        intro a31 H31
        refine H31.move gz (.inl rfl) rfl rfl rfl ?_
        intro a32 H32
        refine nt ?_
        exact ⟨hlt, _, H32.keep ⟨rfl, rfl, rfl, rfl, rfl, trivial⟩, (by rw [take_snoc? _ _ _ hx, wishesBy_app, ← List.append_assoc, ← List.append_assoc]; exact R3_6), HB6⟩
      · exact InvB.start H29.sz H29.df ⟨H29.at_ 1 _ rfl, H29.at_ 5 _ rfl, H29.at_ 59 _ rfl, H29.at_ 60 _ rfl, H29.at_ 61 _ rfl, trivial⟩ ⟨fun h => absurd h (by show ¬ 10 ≤ 0; decide), fun h => absurd h (by show ¬ 10 ≤ 1; decide), fun h => absurd h (by show ¬ 10 ≤ 2; decide), fun h => absurd h (by show ¬ 10 ≤ 3; decide), fun h => absurd h (by show ¬ 10 ≤ 4; decide), fun h => absurd h (by show ¬ 10 ≤ 5; decide), fun h => absurd h (by show ¬ 10 ≤ 6; decide), fun h => absurd h (by show ¬ 10 ≤ 7; decide), fun h => absurd h (by show ¬ 10 ≤ 8; decide), fun h => absurd h (by show ¬ 10 ≤ 9; decide), fun _ => (by rw [H29.at_ 3 _ rfl]; exact ⟨rfl, R3.drew⟩), fun _ => ⟨hC5.below (Below.drew (Below.refl _ _)) hlt5, hlt5⟩, trivial⟩ HB5.drew
    · skip
      obtain rfl : k = m.wishes.length := by omega
      repeat (refine wp_seq ?_)
      refine wp_region_list ?_
      refine H23.bin gz rfl rfl rfl rfl rfl (lss_i _ _ false (by simp) _ _ _) ?_
      intro a24 H24
      refine nt ?_
      repeat (refine wp_seq ?_)
      refine H24.condF rfl ?_
      refine wp_exit ?_
      repeat (with_reducible refine then_exit ?_)
      refine block_leave ?_
      refine then_normal ?_
      repeat (refine wp_seq ?_)
      refine wp_region_list ?_
      refine H24.move gz (.inl rfl) rfl rfl rfl ?_
      intro a25 H25
      refine H25.move gz (.inr rfl) rfl rfl rfl ?_
      intro a26 H26
      refine H26.move gz (.inr rfl) rfl rfl rfl ?_
      intro a27 H27
      refine nt ?_
      rw [List.take_length] at R3
      refine wp_ret ?_
      repeat (first | (with_reducible refine block_ret ?_) | (with_reducible refine then_ret ?_))
      refine bodyPost_ret (results_pair rfl _ _ _ (H27.at_ 2 _ rfl) (H27.at_ 3 _ rfl)) H27.df ?_
      refine bodied_of (by unfold flagsBy; simp [hk]) ?_ R3.read HB3
      unfold bodyBy; simp [hk]
end Go.Proofs.YtkcdkjpmbjcmdaaDoor

/-
  pack.body at every packet that may be.
-/
namespace Go.Proofs.YtkcdkjpmbjcmdaaDoor
open Go.RowKit

theorem packBody (m : Mq) (vc vw vf : Value) (w : World) (hm : mayB m) (hL : MqL w w.heap.size m vc vw vf) :
    Calls Tryd.prog 74 #[.agg (mqCells m vc vw vf).toArray] w (Bodied m w) := by
  obtain ⟨h, ho⟩ := hm
  have hkk := may_kind h
  have ids : ∀ {n : Int}, inRB n 1 65535 = true → 0 ≤ n ∧ n ≤ 65535 := fun h => by have := inRB_iff.1 h; omega
  by_cases k1 : m.kind = 1
  · have hc : connectOk m = true := by unfold okOf at h; rw [if_pos k1] at h; exact h
    simp only [connectOk, Bool.and_eq_true, decide_eq_true_eq] at hc
    obtain ⟨hc, hkp, hw, hu, hps, h1, h2⟩ := hc
    have hc' := textOk_size hc
    have hu' := textOk_size hu
    have hkp := inRB_iff.1 hkp
    have hwq : m.wt.size ≤ 64 ∧ m.wp.size ≤ 128 ∧ 0 ≤ m.wq ∧ m.wq ≤ 2 := by
      unfold willOk at hw
      cases hwon : m.won with
      | true =>
        rw [hwon, if_pos rfl] at hw
        simp only [Bool.and_eq_true, decide_eq_true_eq] at hw
        obtain ⟨a, b, c⟩ := hw
        have := textOk_size a
        have := inRB_iff.1 c
        exact ⟨by omega, by omega, by omega, by omega⟩
      | false =>
        rw [hwon, if_neg (by simp)] at hw
        simp only [Bool.and_eq_true, beq_iff_eq, Bool.not_eq_true'] at hw
        obtain ⟨a, b, c, d⟩ := hw
        rw [emp_nos a, emp_nos b, c]
        exact ⟨by decide, by decide, by decide, by decide⟩
    exact body_1 m vc vw vf w k1 (by omega) (by omega) (by omega) (by omega) (by omega) (by omega) (by omega) (by omega) (by omega)
  by_cases k2 : m.kind = 2
  · have hc : (inRB m.code 0 5 && (!m.present || m.code == 0)) = true := by unfold okOf at h; rw [if_neg k1, if_pos k2] at h; exact h
    simp only [Bool.and_eq_true] at hc
    exact body_2 m vc vw vf w k2 (inRB_iff.1 hc.1).1
  by_cases k3 : m.kind = 3
  · have hc : publishOk m = true := by unfold okOf at h; rw [if_neg k1, if_neg k2, if_pos k3] at h; exact h
    obtain ⟨ht, hq0, hq2, hi, hz, hp⟩ := publish_facts hc
    have : 0 ≤ m.id ∧ m.id ≤ 65535 := by
      by_cases hq : 0 < m.qos
      · have := hi hq; omega
      · have := hz (by omega); omega
    exact body_3 m vc vw vf w k3 (by omega) (by omega) hq0 hq2 this.1 this.2
  by_cases k8 : m.kind = 8
  · have hc : (inRB m.id 1 65535 && wishesOk m.wishes) = true := by
      unfold okOf at h; rw [if_neg k1, if_neg k2, if_neg k3, if_neg (by simp [idKind, k8]), if_pos k8] at h; exact h
    simp only [Bool.and_eq_true, wishesOk] at hc
    obtain ⟨i0, i1⟩ := ids hc.1
    have hl := inRB_iff.1 hc.2.2
    obtain ⟨A1, c1, A2, c2, A3, c3, rfl, rfl, rfl, l1, l2, l3, k1', k2', k3', r1, r2, r3⟩ := hL
    exact body_8 m _ _ w k8 i0 i1 A2 c2 r2 hc.2.1 (by omega)
  by_cases k9 : m.kind = 9
  · have hc : (inRB m.id 1 65535 && codesOk m.codes) = true := by
      unfold okOf at h; rw [if_neg k1, if_neg k2, if_neg k3, if_neg (by simp [idKind, k9]), if_neg k8, if_pos k9] at h; exact h
    simp only [Bool.and_eq_true, codesOk] at hc
    obtain ⟨i0, i1⟩ := ids hc.1
    have hl := inRB_iff.1 hc.2.2
    obtain ⟨A1, c1, A2, c2, A3, c3, rfl, rfl, rfl, l1, l2, l3, k1', k2', k3', r1, r2, r3⟩ := hL
    exact body_9 m _ _ w k9 i0 i1 A1 c1 r1 hc.2.1 (by omega)
  by_cases k10 : m.kind = 10
  · have hc : (inRB m.id 1 65535 && filtersOk m.filters) = true := by
      unfold okOf at h; rw [if_neg k1, if_neg k2, if_neg k3, if_neg (by simp [idKind, k10]), if_neg k8, if_neg k9, if_pos k10] at h; exact h
    simp only [Bool.and_eq_true, filtersOk] at hc
    obtain ⟨i0, i1⟩ := ids hc.1
    have hl := inRB_iff.1 hc.2.2
    obtain ⟨A1, c1, A2, c2, A3, c3, rfl, rfl, rfl, l1, l2, l3, k1', k2', k3', r1, r2, r3⟩ := hL
    exact body_10 m _ _ w k10 i0 i1 A3 c3 r3 hc.2.1 (by omega)
  by_cases ki : idKind m.kind = true
  · have hc : inRB m.id 1 65535 = true := by
      unfold okOf at h; rw [if_neg k1, if_neg k2, if_neg k3, if_pos ki] at h; exact h
    obtain ⟨i0, i1⟩ := ids hc
    simp only [idKind, Bool.or_eq_true, beq_iff_eq] at ki
    exact body_i m vc vw vf w (by simpa using k1) (by simpa using k2) (by simpa using k3) (by simpa using k8) (by simpa using k9) (by simpa using k10) (by simp; omega) (by simp; omega) (by simp; omega) _ rfl i0 i1
  have kb : bareKind m.kind = true := by
    unfold okOf at h; rw [if_neg k1, if_neg k2, if_neg k3, if_neg ki, if_neg k8, if_neg k9, if_neg k10] at h; exact h
  simp only [bareKind, Bool.or_eq_true, beq_iff_eq] at kb
  rcases kb with k | k | k
  · exact body_12 m vc vw vf w k
  · exact body_13 m vc vw vf w k
  · exact body_14 m vc vw vf w k
end Go.Proofs.YtkcdkjpmbjcmdaaDoor

/-
  Where the ways of a guarded operation meet again: a list of operations in two parts.
-/
namespace Go.Proofs.YtkcdkjpmbjcmdaaDoor
open Go.RowKit

section
variable {P : Program} {ops : Array Oper} {Q : Exit → Act → World → Prop}
theorem upon_then {o : Oper} {a : Act} {K : Act → World → Prop} {St : Act → World → Prop} {r : Result Next} (h : o.upon P a K (Exit.then St Q) r) : o.upon P a K Q r := by
  cases r with
  | ok n w' =>
    cases n with
    | enter f args =>
      refine Calls.mono h ?_
      intro e w'' he
      cases e with
      | returned v => exact he
      | panicked c => exact he
      | outgrown => exact he
    | _ => exact h
  | halt x w' =>
    cases x <;> exact h
theorem wpList_join {St : Act → World → Prop} (h2 : List Oper) (h : ∀ a w, St a w → wpList P ops Q h2 a w) : ∀ (l : List Oper) (a : Act) (w : World), wpList P ops (Exit.then St Q) l a w → wpList P ops Q (l ++ h2) a w
  | [], a, w, hl => h a w hl
  | o :: l, a, w, hl => by
    rw [List.cons_append]
    unfold wpList at hl ⊢
    split at hl
    · next hw =>
      rw [if_pos hw]
      rcases hl with hl | ⟨h1, h3⟩
      · left
        exact upon_then (Oper.wp_mono (fun a w hh => wpList_join h2 h l a w hh) hl)
      · exact .inr ⟨h1, h3⟩
    · next hw =>
      rw [if_neg hw]
      exact wpList_join h2 h l _ _ hl
/-- the first k operations lead to St, the others go on from there. -/
theorem wpList_cut {l : List Oper} {a : Act} {w : World} (k : Nat) (St : Act → World → Prop) (h1 : wpList P ops (Exit.then St Q) (l.take k) a w) (h2 : ∀ a w, St a w → wpList P ops Q (l.drop k) a w) : wpList P ops Q l a w := by
  rw [← List.take_append_drop k l]
  exact wpList_join _ h2 _ _ _ h1
end
theorem leq_i (u v : Int) (b : Bool) (h : decide (u ≤ v) = b) (x y : Operand) (w : World) : (do eqGuard .leq 3 x y (.int .i64 u) (.int .i64 v); binOp .leq 3 (.int .i64 u) (.int .i64 v) : Sem Value).run Tryd.prog w = .ok (.bool b) w := by
  subst h
  simp [go_sem]
end Go.Proofs.YtkcdkjpmbjcmdaaDoor

/-
  'o.f, o.g = p.f, p.g' in a region that draws: fields of one struct stored into another one's.
-/
namespace Go.Proofs.YtkcdkjpmbjcmdaaDoor
open Go.RowKit

section
variable {P : Program} {Q : Exit → Act → World → Prop} {a : Act} {w W : World} {id n s1 s2 s4 B g1 g2 T a0 l0 b0 T0 fi0 o0 a1 l1 b1 T1 fi1 o1 a2 l2 b2 T2 fi2 o2 a3 l3 b3 T3 fi3 o3 o3_1 o3_2 o3_3 o3_4 a4 l4 b4 T4 fi4 o4 a5 l5 b5 T5 fi5 o5 a6 l6 b6 T6 fi6 o6 a7 l7 b7 T7 fi7 o7 : Nat} {L1 L2 : List Value} {c : Value} {v0 v1 v2 v3_0 v3_1 v3_2 v3_3 v3_4 v4 v5 v6 v7 : Value}
  {y0 y1 y2 y3 y4 y5 y6 y7 y8 y9 y10 y11 y12 y13 y14 y15 y16 y17 y18 y19 y20 y21 y22 y23 y24 y25 y26 y27 y28 y29 y30 y31 : TypeId} {p0 p1 p2 p3 p4 p5 p6 p7 p8 p9 p10 p11 p12 p13 p14 p15 p16 p17 p18 p19 p20 p21 p22 p23 p24 p25 p26 p27 p28 p29 p30 p31 : String} {f0 f1 f2 f3 f4 f5 f6 f7 f8 f9 f10 f11 f12 f13 f14 f15 f16 f17 f18 f19 f20 f21 f22 f23 f24 f25 f26 f27 f28 f29 f30 f31 : Array Edge}
set_option maxHeartbeats 3200000 in
theorem region_copy8 (hm : P.follows .mixedOrders = true) (hsz : a.tmps.size = n) (hdf : a.defers = []) (h1 : a.eval (.tmp s1) = .pointer (some ⟨g1, 0, none⟩)) (h2 : a.eval (.tmp s2) = .pointer (some ⟨g2, 0, none⟩)) (h4 : a.eval (.tmp s4) = c)
    (hT : Two W B g1 g2 L1 L2 w) (hfit : fits n [(s1, .pointer (some ⟨g1, 0, none⟩)), (s2, .pointer (some ⟨g2, 0, none⟩)), (s4, c)] [(0, a0, .pointer (some ⟨g1, o0, none⟩)), (1, l0, v0), (2, a1, .pointer (some ⟨g1, o1, none⟩)), (3, l1, v1), (4, a2, .pointer (some ⟨g1, o2, none⟩)), (5, l2, v2), (6, a3, .pointer (some ⟨g1, o3, none⟩)), (7, l3, (.agg #[v3_0, v3_1, v3_2, v3_3, v3_4])), (8, a4, .pointer (some ⟨g1, o4, none⟩)), (9, l4, v4), (10, a5, .pointer (some ⟨g1, o5, none⟩)), (11, l5, v5), (12, a6, .pointer (some ⟨g1, o6, none⟩)), (13, l6, v6), (14, a7, .pointer (some ⟨g1, o7, none⟩)), (15, l7, v7), (16, b0, .pointer (some ⟨g2, o0, none⟩)), (18, b1, .pointer (some ⟨g2, o1, none⟩)), (20, b2, .pointer (some ⟨g2, o2, none⟩)), (22, b3, .pointer (some ⟨g2, o3, none⟩)), (24, b4, .pointer (some ⟨g2, o4, none⟩)), (26, b5, .pointer (some ⟨g2, o5, none⟩)), (28, b6, .pointer (some ⟨g2, o6, none⟩)), (30, b7, .pointer (some ⟨g2, o7, none⟩))] = true)
    (hback : ∀ (i : Nat) (o : Oper), (#[⟨some a0, .fieldAddr T (.tmp s1) fi0, y0, p0, f0, none⟩, ⟨some l0, .load T0 (.tmp a0), y1, p1, f1, none⟩, ⟨some a1, .fieldAddr T (.tmp s1) fi1, y2, p2, f2, none⟩, ⟨some l1, .load T1 (.tmp a1), y3, p3, f3, none⟩, ⟨some a2, .fieldAddr T (.tmp s1) fi2, y4, p4, f4, none⟩, ⟨some l2, .load T2 (.tmp a2), y5, p5, f5, none⟩, ⟨some a3, .fieldAddr T (.tmp s1) fi3, y6, p6, f6, none⟩, ⟨some l3, .load T3 (.tmp a3), y7, p7, f7, none⟩, ⟨some a4, .fieldAddr T (.tmp s1) fi4, y8, p8, f8, none⟩, ⟨some l4, .load T4 (.tmp a4), y9, p9, f9, none⟩, ⟨some a5, .fieldAddr T (.tmp s1) fi5, y10, p10, f10, none⟩, ⟨some l5, .load T5 (.tmp a5), y11, p11, f11, none⟩, ⟨some a6, .fieldAddr T (.tmp s1) fi6, y12, p12, f12, none⟩, ⟨some l6, .load T6 (.tmp a6), y13, p13, f13, none⟩, ⟨some a7, .fieldAddr T (.tmp s1) fi7, y14, p14, f14, none⟩, ⟨some l7, .load T7 (.tmp a7), y15, p15, f15, none⟩, ⟨some b0, .fieldAddr T (.tmp s2) fi0, y16, p16, f16, none⟩, ⟨none, .store T0 (.tmp b0) (.tmp l0), y17, p17, f17, none⟩, ⟨some b1, .fieldAddr T (.tmp s2) fi1, y18, p18, f18, none⟩, ⟨none, .store T1 (.tmp b1) (.tmp l1), y19, p19, f19, none⟩, ⟨some b2, .fieldAddr T (.tmp s2) fi2, y20, p20, f20, none⟩, ⟨none, .store T2 (.tmp b2) (.tmp l2), y21, p21, f21, none⟩, ⟨some b3, .fieldAddr T (.tmp s2) fi3, y22, p22, f22, none⟩, ⟨none, .store T3 (.tmp b3) (.tmp l3), y23, p23, f23, none⟩, ⟨some b4, .fieldAddr T (.tmp s2) fi4, y24, p24, f24, none⟩, ⟨none, .store T4 (.tmp b4) (.tmp l4), y25, p25, f25, none⟩, ⟨some b5, .fieldAddr T (.tmp s2) fi5, y26, p26, f26, none⟩, ⟨none, .store T5 (.tmp b5) (.tmp l5), y27, p27, f27, none⟩, ⟨some b6, .fieldAddr T (.tmp s2) fi6, y28, p28, f28, none⟩, ⟨none, .store T6 (.tmp b6) (.tmp l6), y29, p29, f29, none⟩, ⟨some b7, .fieldAddr T (.tmp s2) fi7, y30, p30, f30, none⟩, ⟨none, .store T7 (.tmp b7) (.tmp l7), y31, p31, f31, none⟩] : Array Oper)[i]? = some o → ∀ e ∈ o.after, Region.binds .any e = true → e.on < i)
    (e1_0 : ∃ e ∈ f1, Region.binds .any e = true ∧ e.on = 0) (e3_2 : ∃ e ∈ f3, Region.binds .any e = true ∧ e.on = 2) (e5_4 : ∃ e ∈ f5, Region.binds .any e = true ∧ e.on = 4) (e7_6 : ∃ e ∈ f7, Region.binds .any e = true ∧ e.on = 6) (e9_8 : ∃ e ∈ f9, Region.binds .any e = true ∧ e.on = 8) (e11_10 : ∃ e ∈ f11, Region.binds .any e = true ∧ e.on = 10) (e13_12 : ∃ e ∈ f13, Region.binds .any e = true ∧ e.on = 12) (e15_14 : ∃ e ∈ f15, Region.binds .any e = true ∧ e.on = 14) (e17_16 : ∃ e ∈ f17, Region.binds .any e = true ∧ e.on = 16) (e19_18 : ∃ e ∈ f19, Region.binds .any e = true ∧ e.on = 18) (e21_20 : ∃ e ∈ f21, Region.binds .any e = true ∧ e.on = 20) (e23_22 : ∃ e ∈ f23, Region.binds .any e = true ∧ e.on = 22) (e25_24 : ∃ e ∈ f25, Region.binds .any e = true ∧ e.on = 24) (e27_26 : ∃ e ∈ f27, Region.binds .any e = true ∧ e.on = 26) (e29_28 : ∃ e ∈ f29, Region.binds .any e = true ∧ e.on = 28) (e31_30 : ∃ e ∈ f31, Region.binds .any e = true ∧ e.on = 30) (e17_1 : ∃ e ∈ f17, Region.binds .any e = true ∧ e.on = 1) (e19_3 : ∃ e ∈ f19, Region.binds .any e = true ∧ e.on = 3) (e21_5 : ∃ e ∈ f21, Region.binds .any e = true ∧ e.on = 5) (e23_7 : ∃ e ∈ f23, Region.binds .any e = true ∧ e.on = 7) (e25_9 : ∃ e ∈ f25, Region.binds .any e = true ∧ e.on = 9) (e27_11 : ∃ e ∈ f27, Region.binds .any e = true ∧ e.on = 11) (e29_13 : ∃ e ∈ f29, Region.binds .any e = true ∧ e.on = 13) (e31_15 : ∃ e ∈ f31, Region.binds .any e = true ∧ e.on = 15)
    (hf0 : ∀ g w, (Instr.fieldAt T (.pointer (some ⟨g, 0, none⟩)) fi0).run P w = .ok (.pointer (some ⟨g, o0, none⟩)) w) (hf1 : ∀ g w, (Instr.fieldAt T (.pointer (some ⟨g, 0, none⟩)) fi1).run P w = .ok (.pointer (some ⟨g, o1, none⟩)) w) (hf2 : ∀ g w, (Instr.fieldAt T (.pointer (some ⟨g, 0, none⟩)) fi2).run P w = .ok (.pointer (some ⟨g, o2, none⟩)) w) (hf3 : ∀ g w, (Instr.fieldAt T (.pointer (some ⟨g, 0, none⟩)) fi3).run P w = .ok (.pointer (some ⟨g, o3, none⟩)) w) (hf4 : ∀ g w, (Instr.fieldAt T (.pointer (some ⟨g, 0, none⟩)) fi4).run P w = .ok (.pointer (some ⟨g, o4, none⟩)) w) (hf5 : ∀ g w, (Instr.fieldAt T (.pointer (some ⟨g, 0, none⟩)) fi5).run P w = .ok (.pointer (some ⟨g, o5, none⟩)) w) (hf6 : ∀ g w, (Instr.fieldAt T (.pointer (some ⟨g, 0, none⟩)) fi6).run P w = .ok (.pointer (some ⟨g, o6, none⟩)) w) (hf7 : ∀ g w, (Instr.fieldAt T (.pointer (some ⟨g, 0, none⟩)) fi7).run P w = .ok (.pointer (some ⟨g, o7, none⟩)) w)
    (hl0 : ∀ w', Cells w' g1 L1 → (Instr.loadAt T0 (.pointer (some ⟨g1, o0, none⟩))).run P w' = .ok v0 w') (hl1 : ∀ w', Cells w' g1 L1 → (Instr.loadAt T1 (.pointer (some ⟨g1, o1, none⟩))).run P w' = .ok v1 w') (hl2 : ∀ w', Cells w' g1 L1 → (Instr.loadAt T2 (.pointer (some ⟨g1, o2, none⟩))).run P w' = .ok v2 w') (hl3 : ∀ w', Cells w' g1 L1 → (Instr.loadAt T3 (.pointer (some ⟨g1, o3, none⟩))).run P w' = .ok (.agg #[v3_0, v3_1, v3_2, v3_3, v3_4]) w') (hl4 : ∀ w', Cells w' g1 L1 → (Instr.loadAt T4 (.pointer (some ⟨g1, o4, none⟩))).run P w' = .ok v4 w') (hl5 : ∀ w', Cells w' g1 L1 → (Instr.loadAt T5 (.pointer (some ⟨g1, o5, none⟩))).run P w' = .ok v5 w') (hl6 : ∀ w', Cells w' g1 L1 → (Instr.loadAt T6 (.pointer (some ⟨g1, o6, none⟩))).run P w' = .ok v6 w') (hl7 : ∀ w', Cells w' g1 L1 → (Instr.loadAt T7 (.pointer (some ⟨g1, o7, none⟩))).run P w' = .ok v7 w')
    (hs0 : ∀ w' L, Cells w' g2 L → o0 < L.length → (Instr.storeAt T0 (.pointer (some ⟨g2, o0, none⟩)) v0).run P w' = .ok () (w'.setCell ⟨g2, o0, none⟩ v0)) (hs1 : ∀ w' L, Cells w' g2 L → o1 < L.length → (Instr.storeAt T1 (.pointer (some ⟨g2, o1, none⟩)) v1).run P w' = .ok () (w'.setCell ⟨g2, o1, none⟩ v1)) (hs2 : ∀ w' L, Cells w' g2 L → o2 < L.length → (Instr.storeAt T2 (.pointer (some ⟨g2, o2, none⟩)) v2).run P w' = .ok () (w'.setCell ⟨g2, o2, none⟩ v2)) (hs3 : ∀ w' L, Cells w' g2 L → o3_4 < L.length → (Instr.storeAt T3 (.pointer (some ⟨g2, o3, none⟩)) (.agg #[v3_0, v3_1, v3_2, v3_3, v3_4])).run P w' = .ok () (w'.setCell ⟨g2, o3, none⟩ v3_0 |>.setCell ⟨g2, o3_1, none⟩ v3_1 |>.setCell ⟨g2, o3_2, none⟩ v3_2 |>.setCell ⟨g2, o3_3, none⟩ v3_3 |>.setCell ⟨g2, o3_4, none⟩ v3_4)) (hs4 : ∀ w' L, Cells w' g2 L → o4 < L.length → (Instr.storeAt T4 (.pointer (some ⟨g2, o4, none⟩)) v4).run P w' = .ok () (w'.setCell ⟨g2, o4, none⟩ v4)) (hs5 : ∀ w' L, Cells w' g2 L → o5 < L.length → (Instr.storeAt T5 (.pointer (some ⟨g2, o5, none⟩)) v5).run P w' = .ok () (w'.setCell ⟨g2, o5, none⟩ v5)) (hs6 : ∀ w' L, Cells w' g2 L → o6 < L.length → (Instr.storeAt T6 (.pointer (some ⟨g2, o6, none⟩)) v6).run P w' = .ok () (w'.setCell ⟨g2, o6, none⟩ v6)) (hs7 : ∀ w' L, Cells w' g2 L → o7 < L.length → (Instr.storeAt T7 (.pointer (some ⟨g2, o7, none⟩)) v7).run P w' = .ok () (w'.setCell ⟨g2, o7, none⟩ v7))
    (hnd : [o0, o1, o2, o3, o3_1, o3_2, o3_3, o3_4, o4, o5, o6, o7].Nodup) (hb0 : o0 < L2.length) (hb1 : o1 < L2.length) (hb2 : o2 < L2.length) (hb3 : o3 < L2.length) (hb3_1 : o3_1 < L2.length) (hb3_2 : o3_2 < L2.length) (hb3_3 : o3_3 < L2.length) (hb3_4 : o3_4 < L2.length) (hb4 : o4 < L2.length) (hb5 : o5 < L2.length) (hb6 : o6 < L2.length) (hb7 : o7 < L2.length)
    (hfin : ∀ a' w', a'.tmps.size = n → a'.defers = [] → a'.eval (.tmp s1) = .pointer (some ⟨g1, 0, none⟩) → a'.eval (.tmp s2) = .pointer (some ⟨g2, 0, none⟩) → a'.eval (.tmp s4) = c → Two W B g1 g2 L1 (setIf (true) o0 v0 (setIf (true) o1 v1 (setIf (true) o2 v2 (setIf (true) o3_4 v3_4 (setIf (true) o3_3 v3_3 (setIf (true) o3_2 v3_2 (setIf (true) o3_1 v3_1 (setIf (true) o3 v3_0 (setIf (true) o4 v4 (setIf (true) o5 v5 (setIf (true) o6 v6 (setIf (true) o7 v7 L2)))))))))))) w' → Q .normal a' w') :
    (Code.region id #[⟨some a0, .fieldAddr T (.tmp s1) fi0, y0, p0, f0, none⟩, ⟨some l0, .load T0 (.tmp a0), y1, p1, f1, none⟩, ⟨some a1, .fieldAddr T (.tmp s1) fi1, y2, p2, f2, none⟩, ⟨some l1, .load T1 (.tmp a1), y3, p3, f3, none⟩, ⟨some a2, .fieldAddr T (.tmp s1) fi2, y4, p4, f4, none⟩, ⟨some l2, .load T2 (.tmp a2), y5, p5, f5, none⟩, ⟨some a3, .fieldAddr T (.tmp s1) fi3, y6, p6, f6, none⟩, ⟨some l3, .load T3 (.tmp a3), y7, p7, f7, none⟩, ⟨some a4, .fieldAddr T (.tmp s1) fi4, y8, p8, f8, none⟩, ⟨some l4, .load T4 (.tmp a4), y9, p9, f9, none⟩, ⟨some a5, .fieldAddr T (.tmp s1) fi5, y10, p10, f10, none⟩, ⟨some l5, .load T5 (.tmp a5), y11, p11, f11, none⟩, ⟨some a6, .fieldAddr T (.tmp s1) fi6, y12, p12, f12, none⟩, ⟨some l6, .load T6 (.tmp a6), y13, p13, f13, none⟩, ⟨some a7, .fieldAddr T (.tmp s1) fi7, y14, p14, f14, none⟩, ⟨some l7, .load T7 (.tmp a7), y15, p15, f15, none⟩, ⟨some b0, .fieldAddr T (.tmp s2) fi0, y16, p16, f16, none⟩, ⟨none, .store T0 (.tmp b0) (.tmp l0), y17, p17, f17, none⟩, ⟨some b1, .fieldAddr T (.tmp s2) fi1, y18, p18, f18, none⟩, ⟨none, .store T1 (.tmp b1) (.tmp l1), y19, p19, f19, none⟩, ⟨some b2, .fieldAddr T (.tmp s2) fi2, y20, p20, f20, none⟩, ⟨none, .store T2 (.tmp b2) (.tmp l2), y21, p21, f21, none⟩, ⟨some b3, .fieldAddr T (.tmp s2) fi3, y22, p22, f22, none⟩, ⟨none, .store T3 (.tmp b3) (.tmp l3), y23, p23, f23, none⟩, ⟨some b4, .fieldAddr T (.tmp s2) fi4, y24, p24, f24, none⟩, ⟨none, .store T4 (.tmp b4) (.tmp l4), y25, p25, f25, none⟩, ⟨some b5, .fieldAddr T (.tmp s2) fi5, y26, p26, f26, none⟩, ⟨none, .store T5 (.tmp b5) (.tmp l5), y27, p27, f27, none⟩, ⟨some b6, .fieldAddr T (.tmp s2) fi6, y28, p28, f28, none⟩, ⟨none, .store T6 (.tmp b6) (.tmp l6), y29, p29, f29, none⟩, ⟨some b7, .fieldAddr T (.tmp s2) fi7, y30, p30, f30, none⟩, ⟨none, .store T7 (.tmp b7) (.tmp l7), y31, p31, f31, none⟩] true).wp P Q a w := by
  refine wp_region_inv hm (fun listed a w => Inv n [(s1, .pointer (some ⟨g1, 0, none⟩)), (s2, .pointer (some ⟨g2, 0, none⟩)), (s4, c)] [(0, a0, .pointer (some ⟨g1, o0, none⟩)), (1, l0, v0), (2, a1, .pointer (some ⟨g1, o1, none⟩)), (3, l1, v1), (4, a2, .pointer (some ⟨g1, o2, none⟩)), (5, l2, v2), (6, a3, .pointer (some ⟨g1, o3, none⟩)), (7, l3, (.agg #[v3_0, v3_1, v3_2, v3_3, v3_4])), (8, a4, .pointer (some ⟨g1, o4, none⟩)), (9, l4, v4), (10, a5, .pointer (some ⟨g1, o5, none⟩)), (11, l5, v5), (12, a6, .pointer (some ⟨g1, o6, none⟩)), (13, l6, v6), (14, a7, .pointer (some ⟨g1, o7, none⟩)), (15, l7, v7), (16, b0, .pointer (some ⟨g2, o0, none⟩)), (18, b1, .pointer (some ⟨g2, o1, none⟩)), (20, b2, .pointer (some ⟨g2, o2, none⟩)), (22, b3, .pointer (some ⟨g2, o3, none⟩)), (24, b4, .pointer (some ⟨g2, o4, none⟩)), (26, b5, .pointer (some ⟨g2, o5, none⟩)), (28, b6, .pointer (some ⟨g2, o6, none⟩)), (30, b7, .pointer (some ⟨g2, o7, none⟩))] (Two W B g1 g2 L1 (setIf (listed.getD 17 false) o0 v0 (setIf (listed.getD 19 false) o1 v1 (setIf (listed.getD 21 false) o2 v2 (setIf (listed.getD 23 false) o3_4 v3_4 (setIf (listed.getD 23 false) o3_3 v3_3 (setIf (listed.getD 23 false) o3_2 v3_2 (setIf (listed.getD 23 false) o3_1 v3_1 (setIf (listed.getD 23 false) o3 v3_0 (setIf (listed.getD 25 false) o4 v4 (setIf (listed.getD 27 false) o5 v5 (setIf (listed.getD 29 false) o6 v6 (setIf (listed.getD 31 false) o7 v7 L2))))))))))))) listed a w) hback ?_ ?_ ?_
  · intro listed aa ww i o hs ho hd hI
    have u1 : aa.eval (.tmp s1) = .pointer (some ⟨g1, 0, none⟩) := hI.fx (s1, _) (by simp)
    have u2 : aa.eval (.tmp s2) = .pointer (some ⟨g2, 0, none⟩) := hI.fx (s2, _) (by simp)
    have hls : listed.size = 32 := hs
    match i, ho with
    | 0, ho =>
      obtain rfl := pick_op ho rfl
      refine wpOp_go ho (wanted_none rfl _) a0 rfl (.pointer (some ⟨g1, o0, none⟩)) ww ?_ (hI.put' hfit 0 a0 _ (ma 0 rfl) (by rw [ran_ne listed (i := 0) (k := 17) (by decide), ran_ne listed (i := 0) (k := 19) (by decide), ran_ne listed (i := 0) (k := 21) (by decide), ran_ne listed (i := 0) (k := 23) (by decide), ran_ne listed (i := 0) (k := 25) (by decide), ran_ne listed (i := 0) (k := 27) (by decide), ran_ne listed (i := 0) (k := 29) (by decide), ran_ne listed (i := 0) (k := 31) (by decide)]; exact hI.wp))
      unfold execOp
      simp only [u1, Sem.run_bind, hf0, Result.andThen_ok, Sem.run_pure]
    | 1, ho =>
      obtain rfl := pick_op ho rfl
      have u_0 : aa.eval (.tmp a0) = .pointer (some ⟨g1, o0, none⟩) := by
        obtain ⟨ed, hed, hbd, hon⟩ := e1_0
        have hl := hd ed hed hbd
        rw [hon] at hl
        exact hI.vs (0, a0, .pointer (some ⟨g1, o0, none⟩)) (ma 0 rfl) hl
      refine wpOp_go ho (wanted_none rfl _) l0 rfl (v0) ww ?_ (hI.put' hfit 1 l0 _ (ma 1 rfl) (by rw [ran_ne listed (i := 1) (k := 17) (by decide), ran_ne listed (i := 1) (k := 19) (by decide), ran_ne listed (i := 1) (k := 21) (by decide), ran_ne listed (i := 1) (k := 23) (by decide), ran_ne listed (i := 1) (k := 25) (by decide), ran_ne listed (i := 1) (k := 27) (by decide), ran_ne listed (i := 1) (k := 29) (by decide), ran_ne listed (i := 1) (k := 31) (by decide)]; exact hI.wp))
      unfold execOp
      simp only [u_0, Sem.run_bind, hl0 ww hI.wp.c1, Result.andThen_ok, Sem.run_pure]
    | 2, ho =>
      obtain rfl := pick_op ho rfl
      refine wpOp_go ho (wanted_none rfl _) a1 rfl (.pointer (some ⟨g1, o1, none⟩)) ww ?_ (hI.put' hfit 2 a1 _ (ma 2 rfl) (by rw [ran_ne listed (i := 2) (k := 17) (by decide), ran_ne listed (i := 2) (k := 19) (by decide), ran_ne listed (i := 2) (k := 21) (by decide), ran_ne listed (i := 2) (k := 23) (by decide), ran_ne listed (i := 2) (k := 25) (by decide), ran_ne listed (i := 2) (k := 27) (by decide), ran_ne listed (i := 2) (k := 29) (by decide), ran_ne listed (i := 2) (k := 31) (by decide)]; exact hI.wp))
      unfold execOp
      simp only [u1, Sem.run_bind, hf1, Result.andThen_ok, Sem.run_pure]
    | 3, ho =>
      obtain rfl := pick_op ho rfl
      have u_2 : aa.eval (.tmp a1) = .pointer (some ⟨g1, o1, none⟩) := by
        obtain ⟨ed, hed, hbd, hon⟩ := e3_2
        have hl := hd ed hed hbd
        rw [hon] at hl
        exact hI.vs (2, a1, .pointer (some ⟨g1, o1, none⟩)) (ma 2 rfl) hl
      refine wpOp_go ho (wanted_none rfl _) l1 rfl (v1) ww ?_ (hI.put' hfit 3 l1 _ (ma 3 rfl) (by rw [ran_ne listed (i := 3) (k := 17) (by decide), ran_ne listed (i := 3) (k := 19) (by decide), ran_ne listed (i := 3) (k := 21) (by decide), ran_ne listed (i := 3) (k := 23) (by decide), ran_ne listed (i := 3) (k := 25) (by decide), ran_ne listed (i := 3) (k := 27) (by decide), ran_ne listed (i := 3) (k := 29) (by decide), ran_ne listed (i := 3) (k := 31) (by decide)]; exact hI.wp))
      unfold execOp
      simp only [u_2, Sem.run_bind, hl1 ww hI.wp.c1, Result.andThen_ok, Sem.run_pure]
    | 4, ho =>
      obtain rfl := pick_op ho rfl
      refine wpOp_go ho (wanted_none rfl _) a2 rfl (.pointer (some ⟨g1, o2, none⟩)) ww ?_ (hI.put' hfit 4 a2 _ (ma 4 rfl) (by rw [ran_ne listed (i := 4) (k := 17) (by decide), ran_ne listed (i := 4) (k := 19) (by decide), ran_ne listed (i := 4) (k := 21) (by decide), ran_ne listed (i := 4) (k := 23) (by decide), ran_ne listed (i := 4) (k := 25) (by decide), ran_ne listed (i := 4) (k := 27) (by decide), ran_ne listed (i := 4) (k := 29) (by decide), ran_ne listed (i := 4) (k := 31) (by decide)]; exact hI.wp))
      unfold execOp
      simp only [u1, Sem.run_bind, hf2, Result.andThen_ok, Sem.run_pure]
    | 5, ho =>
      obtain rfl := pick_op ho rfl
      have u_4 : aa.eval (.tmp a2) = .pointer (some ⟨g1, o2, none⟩) := by
        obtain ⟨ed, hed, hbd, hon⟩ := e5_4
        have hl := hd ed hed hbd
        rw [hon] at hl
        exact hI.vs (4, a2, .pointer (some ⟨g1, o2, none⟩)) (ma 4 rfl) hl
      refine wpOp_go ho (wanted_none rfl _) l2 rfl (v2) ww ?_ (hI.put' hfit 5 l2 _ (ma 5 rfl) (by rw [ran_ne listed (i := 5) (k := 17) (by decide), ran_ne listed (i := 5) (k := 19) (by decide), ran_ne listed (i := 5) (k := 21) (by decide), ran_ne listed (i := 5) (k := 23) (by decide), ran_ne listed (i := 5) (k := 25) (by decide), ran_ne listed (i := 5) (k := 27) (by decide), ran_ne listed (i := 5) (k := 29) (by decide), ran_ne listed (i := 5) (k := 31) (by decide)]; exact hI.wp))
      unfold execOp
      simp only [u_4, Sem.run_bind, hl2 ww hI.wp.c1, Result.andThen_ok, Sem.run_pure]
    | 6, ho =>
      obtain rfl := pick_op ho rfl
      refine wpOp_go ho (wanted_none rfl _) a3 rfl (.pointer (some ⟨g1, o3, none⟩)) ww ?_ (hI.put' hfit 6 a3 _ (ma 6 rfl) (by rw [ran_ne listed (i := 6) (k := 17) (by decide), ran_ne listed (i := 6) (k := 19) (by decide), ran_ne listed (i := 6) (k := 21) (by decide), ran_ne listed (i := 6) (k := 23) (by decide), ran_ne listed (i := 6) (k := 25) (by decide), ran_ne listed (i := 6) (k := 27) (by decide), ran_ne listed (i := 6) (k := 29) (by decide), ran_ne listed (i := 6) (k := 31) (by decide)]; exact hI.wp))
      unfold execOp
      simp only [u1, Sem.run_bind, hf3, Result.andThen_ok, Sem.run_pure]
    | 7, ho =>
      obtain rfl := pick_op ho rfl
      have u_6 : aa.eval (.tmp a3) = .pointer (some ⟨g1, o3, none⟩) := by
        obtain ⟨ed, hed, hbd, hon⟩ := e7_6
        have hl := hd ed hed hbd
        rw [hon] at hl
        exact hI.vs (6, a3, .pointer (some ⟨g1, o3, none⟩)) (ma 6 rfl) hl
      refine wpOp_go ho (wanted_none rfl _) l3 rfl ((.agg #[v3_0, v3_1, v3_2, v3_3, v3_4])) ww ?_ (hI.put' hfit 7 l3 _ (ma 7 rfl) (by rw [ran_ne listed (i := 7) (k := 17) (by decide), ran_ne listed (i := 7) (k := 19) (by decide), ran_ne listed (i := 7) (k := 21) (by decide), ran_ne listed (i := 7) (k := 23) (by decide), ran_ne listed (i := 7) (k := 25) (by decide), ran_ne listed (i := 7) (k := 27) (by decide), ran_ne listed (i := 7) (k := 29) (by decide), ran_ne listed (i := 7) (k := 31) (by decide)]; exact hI.wp))
      unfold execOp
      simp only [u_6, Sem.run_bind, hl3 ww hI.wp.c1, Result.andThen_ok, Sem.run_pure]
    | 8, ho =>
      obtain rfl := pick_op ho rfl
      refine wpOp_go ho (wanted_none rfl _) a4 rfl (.pointer (some ⟨g1, o4, none⟩)) ww ?_ (hI.put' hfit 8 a4 _ (ma 8 rfl) (by rw [ran_ne listed (i := 8) (k := 17) (by decide), ran_ne listed (i := 8) (k := 19) (by decide), ran_ne listed (i := 8) (k := 21) (by decide), ran_ne listed (i := 8) (k := 23) (by decide), ran_ne listed (i := 8) (k := 25) (by decide), ran_ne listed (i := 8) (k := 27) (by decide), ran_ne listed (i := 8) (k := 29) (by decide), ran_ne listed (i := 8) (k := 31) (by decide)]; exact hI.wp))
      unfold execOp
      simp only [u1, Sem.run_bind, hf4, Result.andThen_ok, Sem.run_pure]
    | 9, ho =>
      obtain rfl := pick_op ho rfl
      have u_8 : aa.eval (.tmp a4) = .pointer (some ⟨g1, o4, none⟩) := by
        obtain ⟨ed, hed, hbd, hon⟩ := e9_8
        have hl := hd ed hed hbd
        rw [hon] at hl
        exact hI.vs (8, a4, .pointer (some ⟨g1, o4, none⟩)) (ma 8 rfl) hl
      refine wpOp_go ho (wanted_none rfl _) l4 rfl (v4) ww ?_ (hI.put' hfit 9 l4 _ (ma 9 rfl) (by rw [ran_ne listed (i := 9) (k := 17) (by decide), ran_ne listed (i := 9) (k := 19) (by decide), ran_ne listed (i := 9) (k := 21) (by decide), ran_ne listed (i := 9) (k := 23) (by decide), ran_ne listed (i := 9) (k := 25) (by decide), ran_ne listed (i := 9) (k := 27) (by decide), ran_ne listed (i := 9) (k := 29) (by decide), ran_ne listed (i := 9) (k := 31) (by decide)]; exact hI.wp))
      unfold execOp
      simp only [u_8, Sem.run_bind, hl4 ww hI.wp.c1, Result.andThen_ok, Sem.run_pure]
    | 10, ho =>
      obtain rfl := pick_op ho rfl
      refine wpOp_go ho (wanted_none rfl _) a5 rfl (.pointer (some ⟨g1, o5, none⟩)) ww ?_ (hI.put' hfit 10 a5 _ (ma 10 rfl) (by rw [ran_ne listed (i := 10) (k := 17) (by decide), ran_ne listed (i := 10) (k := 19) (by decide), ran_ne listed (i := 10) (k := 21) (by decide), ran_ne listed (i := 10) (k := 23) (by decide), ran_ne listed (i := 10) (k := 25) (by decide), ran_ne listed (i := 10) (k := 27) (by decide), ran_ne listed (i := 10) (k := 29) (by decide), ran_ne listed (i := 10) (k := 31) (by decide)]; exact hI.wp))
      unfold execOp
      simp only [u1, Sem.run_bind, hf5, Result.andThen_ok, Sem.run_pure]
    | 11, ho =>
      obtain rfl := pick_op ho rfl
      have u_10 : aa.eval (.tmp a5) = .pointer (some ⟨g1, o5, none⟩) := by
        obtain ⟨ed, hed, hbd, hon⟩ := e11_10
        have hl := hd ed hed hbd
        rw [hon] at hl
        exact hI.vs (10, a5, .pointer (some ⟨g1, o5, none⟩)) (ma 10 rfl) hl
      refine wpOp_go ho (wanted_none rfl _) l5 rfl (v5) ww ?_ (hI.put' hfit 11 l5 _ (ma 11 rfl) (by rw [ran_ne listed (i := 11) (k := 17) (by decide), ran_ne listed (i := 11) (k := 19) (by decide), ran_ne listed (i := 11) (k := 21) (by decide), ran_ne listed (i := 11) (k := 23) (by decide), ran_ne listed (i := 11) (k := 25) (by decide), ran_ne listed (i := 11) (k := 27) (by decide), ran_ne listed (i := 11) (k := 29) (by decide), ran_ne listed (i := 11) (k := 31) (by decide)]; exact hI.wp))
      unfold execOp
      simp only [u_10, Sem.run_bind, hl5 ww hI.wp.c1, Result.andThen_ok, Sem.run_pure]
    | 12, ho =>
      obtain rfl := pick_op ho rfl
      refine wpOp_go ho (wanted_none rfl _) a6 rfl (.pointer (some ⟨g1, o6, none⟩)) ww ?_ (hI.put' hfit 12 a6 _ (ma 12 rfl) (by rw [ran_ne listed (i := 12) (k := 17) (by decide), ran_ne listed (i := 12) (k := 19) (by decide), ran_ne listed (i := 12) (k := 21) (by decide), ran_ne listed (i := 12) (k := 23) (by decide), ran_ne listed (i := 12) (k := 25) (by decide), ran_ne listed (i := 12) (k := 27) (by decide), ran_ne listed (i := 12) (k := 29) (by decide), ran_ne listed (i := 12) (k := 31) (by decide)]; exact hI.wp))
      unfold execOp
      simp only [u1, Sem.run_bind, hf6, Result.andThen_ok, Sem.run_pure]
    | 13, ho =>
      obtain rfl := pick_op ho rfl
      have u_12 : aa.eval (.tmp a6) = .pointer (some ⟨g1, o6, none⟩) := by
        obtain ⟨ed, hed, hbd, hon⟩ := e13_12
        have hl := hd ed hed hbd
        rw [hon] at hl
        exact hI.vs (12, a6, .pointer (some ⟨g1, o6, none⟩)) (ma 12 rfl) hl
      refine wpOp_go ho (wanted_none rfl _) l6 rfl (v6) ww ?_ (hI.put' hfit 13 l6 _ (ma 13 rfl) (by rw [ran_ne listed (i := 13) (k := 17) (by decide), ran_ne listed (i := 13) (k := 19) (by decide), ran_ne listed (i := 13) (k := 21) (by decide), ran_ne listed (i := 13) (k := 23) (by decide), ran_ne listed (i := 13) (k := 25) (by decide), ran_ne listed (i := 13) (k := 27) (by decide), ran_ne listed (i := 13) (k := 29) (by decide), ran_ne listed (i := 13) (k := 31) (by decide)]; exact hI.wp))
      unfold execOp
      simp only [u_12, Sem.run_bind, hl6 ww hI.wp.c1, Result.andThen_ok, Sem.run_pure]
    | 14, ho =>
      obtain rfl := pick_op ho rfl
      refine wpOp_go ho (wanted_none rfl _) a7 rfl (.pointer (some ⟨g1, o7, none⟩)) ww ?_ (hI.put' hfit 14 a7 _ (ma 14 rfl) (by rw [ran_ne listed (i := 14) (k := 17) (by decide), ran_ne listed (i := 14) (k := 19) (by decide), ran_ne listed (i := 14) (k := 21) (by decide), ran_ne listed (i := 14) (k := 23) (by decide), ran_ne listed (i := 14) (k := 25) (by decide), ran_ne listed (i := 14) (k := 27) (by decide), ran_ne listed (i := 14) (k := 29) (by decide), ran_ne listed (i := 14) (k := 31) (by decide)]; exact hI.wp))
      unfold execOp
      simp only [u1, Sem.run_bind, hf7, Result.andThen_ok, Sem.run_pure]
    | 15, ho =>
      obtain rfl := pick_op ho rfl
      have u_14 : aa.eval (.tmp a7) = .pointer (some ⟨g1, o7, none⟩) := by
        obtain ⟨ed, hed, hbd, hon⟩ := e15_14
        have hl := hd ed hed hbd
        rw [hon] at hl
        exact hI.vs (14, a7, .pointer (some ⟨g1, o7, none⟩)) (ma 14 rfl) hl
      refine wpOp_go ho (wanted_none rfl _) l7 rfl (v7) ww ?_ (hI.put' hfit 15 l7 _ (ma 15 rfl) (by rw [ran_ne listed (i := 15) (k := 17) (by decide), ran_ne listed (i := 15) (k := 19) (by decide), ran_ne listed (i := 15) (k := 21) (by decide), ran_ne listed (i := 15) (k := 23) (by decide), ran_ne listed (i := 15) (k := 25) (by decide), ran_ne listed (i := 15) (k := 27) (by decide), ran_ne listed (i := 15) (k := 29) (by decide), ran_ne listed (i := 15) (k := 31) (by decide)]; exact hI.wp))
      unfold execOp
      simp only [u_14, Sem.run_bind, hl7 ww hI.wp.c1, Result.andThen_ok, Sem.run_pure]
    | 16, ho =>
      obtain rfl := pick_op ho rfl
      refine wpOp_go ho (wanted_none rfl _) b0 rfl (.pointer (some ⟨g2, o0, none⟩)) ww ?_ (hI.put' hfit 16 b0 _ (ma 16 rfl) (by rw [ran_ne listed (i := 16) (k := 17) (by decide), ran_ne listed (i := 16) (k := 19) (by decide), ran_ne listed (i := 16) (k := 21) (by decide), ran_ne listed (i := 16) (k := 23) (by decide), ran_ne listed (i := 16) (k := 25) (by decide), ran_ne listed (i := 16) (k := 27) (by decide), ran_ne listed (i := 16) (k := 29) (by decide), ran_ne listed (i := 16) (k := 31) (by decide)]; exact hI.wp))
      unfold execOp
      simp only [u2, Sem.run_bind, hf0, Result.andThen_ok, Sem.run_pure]
    | 17, ho =>
      obtain rfl := pick_op ho rfl
      have u_16 : aa.eval (.tmp b0) = .pointer (some ⟨g2, o0, none⟩) := by
        obtain ⟨ed, hed, hbd, hon⟩ := e17_16
        have hl := hd ed hed hbd
        rw [hon] at hl
        exact hI.vs (16, b0, .pointer (some ⟨g2, o0, none⟩)) (ma 16 rfl) hl
      have u_1 : aa.eval (.tmp l0) = v0 := by
        obtain ⟨ed, hed, hbd, hon⟩ := e17_1
        have hl := hd ed hed hbd
        rw [hon] at hl
        exact hI.vs (1, l0, v0) (ma 1 rfl) hl
      have hlen : o0 < ((setIf (listed.getD 17 false) o0 v0 (setIf (listed.getD 19 false) o1 v1 (setIf (listed.getD 21 false) o2 v2 (setIf (listed.getD 23 false) o3_4 v3_4 (setIf (listed.getD 23 false) o3_3 v3_3 (setIf (listed.getD 23 false) o3_2 v3_2 (setIf (listed.getD 23 false) o3_1 v3_1 (setIf (listed.getD 23 false) o3 v3_0 (setIf (listed.getD 25 false) o4 v4 (setIf (listed.getD 27 false) o5 v5 (setIf (listed.getD 29 false) o6 v6 (setIf (listed.getD 31 false) o7 v7 L2))))))))))))).length := by simp only [setIf_length]; exact hb0
      have hw := hI.wp.set o0 v0 (by simp only [setIf_length]; exact hb0)
      rw [setIf_same] at hw
      refine wpOp_do ho (wanted_none rfl _) rfl (ww.setCell ⟨g2, o0, none⟩ v0) ?_ (hI.mute' 17 rfl ?_)
      · unfold execOp
        simp only [u_16, u_1, Sem.run_bind, hs0 ww _ hI.wp.c2 hlen, Result.andThen_ok, Sem.run_pure]
      · rw [ran_same listed (i := 17) (by omega), ran_ne listed (i := 17) (k := 19) (by decide), ran_ne listed (i := 17) (k := 21) (by decide), ran_ne listed (i := 17) (k := 23) (by decide), ran_ne listed (i := 17) (k := 25) (by decide), ran_ne listed (i := 17) (k := 27) (by decide), ran_ne listed (i := 17) (k := 29) (by decide), ran_ne listed (i := 17) (k := 31) (by decide)]
        exact hw
    | 18, ho =>
      obtain rfl := pick_op ho rfl
      refine wpOp_go ho (wanted_none rfl _) b1 rfl (.pointer (some ⟨g2, o1, none⟩)) ww ?_ (hI.put' hfit 18 b1 _ (ma 17 rfl) (by rw [ran_ne listed (i := 18) (k := 17) (by decide), ran_ne listed (i := 18) (k := 19) (by decide), ran_ne listed (i := 18) (k := 21) (by decide), ran_ne listed (i := 18) (k := 23) (by decide), ran_ne listed (i := 18) (k := 25) (by decide), ran_ne listed (i := 18) (k := 27) (by decide), ran_ne listed (i := 18) (k := 29) (by decide), ran_ne listed (i := 18) (k := 31) (by decide)]; exact hI.wp))
      unfold execOp
      simp only [u2, Sem.run_bind, hf1, Result.andThen_ok, Sem.run_pure]
    | 19, ho =>
      obtain rfl := pick_op ho rfl
      have u_18 : aa.eval (.tmp b1) = .pointer (some ⟨g2, o1, none⟩) := by
        obtain ⟨ed, hed, hbd, hon⟩ := e19_18
        have hl := hd ed hed hbd
        rw [hon] at hl
        exact hI.vs (18, b1, .pointer (some ⟨g2, o1, none⟩)) (ma 17 rfl) hl
      have u_3 : aa.eval (.tmp l1) = v1 := by
        obtain ⟨ed, hed, hbd, hon⟩ := e19_3
        have hl := hd ed hed hbd
        rw [hon] at hl
        exact hI.vs (3, l1, v1) (ma 3 rfl) hl
      have hlen : o1 < ((setIf (listed.getD 17 false) o0 v0 (setIf (listed.getD 19 false) o1 v1 (setIf (listed.getD 21 false) o2 v2 (setIf (listed.getD 23 false) o3_4 v3_4 (setIf (listed.getD 23 false) o3_3 v3_3 (setIf (listed.getD 23 false) o3_2 v3_2 (setIf (listed.getD 23 false) o3_1 v3_1 (setIf (listed.getD 23 false) o3 v3_0 (setIf (listed.getD 25 false) o4 v4 (setIf (listed.getD 27 false) o5 v5 (setIf (listed.getD 29 false) o6 v6 (setIf (listed.getD 31 false) o7 v7 L2))))))))))))).length := by simp only [setIf_length]; exact hb1
      have hw := hI.wp.set o1 v1 (by simp only [setIf_length]; exact hb1)
      rw [setIf_ne (nd_ne hnd 1 0 rfl rfl (by decide)), setIf_same] at hw
      refine wpOp_do ho (wanted_none rfl _) rfl (ww.setCell ⟨g2, o1, none⟩ v1) ?_ (hI.mute' 19 rfl ?_)
      · unfold execOp
        simp only [u_18, u_3, Sem.run_bind, hs1 ww _ hI.wp.c2 hlen, Result.andThen_ok, Sem.run_pure]
      · rw [ran_same listed (i := 19) (by omega), ran_ne listed (i := 19) (k := 17) (by decide), ran_ne listed (i := 19) (k := 21) (by decide), ran_ne listed (i := 19) (k := 23) (by decide), ran_ne listed (i := 19) (k := 25) (by decide), ran_ne listed (i := 19) (k := 27) (by decide), ran_ne listed (i := 19) (k := 29) (by decide), ran_ne listed (i := 19) (k := 31) (by decide)]
        exact hw
    | 20, ho =>
      obtain rfl := pick_op ho rfl
      refine wpOp_go ho (wanted_none rfl _) b2 rfl (.pointer (some ⟨g2, o2, none⟩)) ww ?_ (hI.put' hfit 20 b2 _ (ma 18 rfl) (by rw [ran_ne listed (i := 20) (k := 17) (by decide), ran_ne listed (i := 20) (k := 19) (by decide), ran_ne listed (i := 20) (k := 21) (by decide), ran_ne listed (i := 20) (k := 23) (by decide), ran_ne listed (i := 20) (k := 25) (by decide), ran_ne listed (i := 20) (k := 27) (by decide), ran_ne listed (i := 20) (k := 29) (by decide), ran_ne listed (i := 20) (k := 31) (by decide)]; exact hI.wp))
      unfold execOp
      simp only [u2, Sem.run_bind, hf2, Result.andThen_ok, Sem.run_pure]
    | 21, ho =>
      obtain rfl := pick_op ho rfl
      have u_20 : aa.eval (.tmp b2) = .pointer (some ⟨g2, o2, none⟩) := by
        obtain ⟨ed, hed, hbd, hon⟩ := e21_20
        have hl := hd ed hed hbd
        rw [hon] at hl
        exact hI.vs (20, b2, .pointer (some ⟨g2, o2, none⟩)) (ma 18 rfl) hl
      have u_5 : aa.eval (.tmp l2) = v2 := by
        obtain ⟨ed, hed, hbd, hon⟩ := e21_5
        have hl := hd ed hed hbd
        rw [hon] at hl
        exact hI.vs (5, l2, v2) (ma 5 rfl) hl
      have hlen : o2 < ((setIf (listed.getD 17 false) o0 v0 (setIf (listed.getD 19 false) o1 v1 (setIf (listed.getD 21 false) o2 v2 (setIf (listed.getD 23 false) o3_4 v3_4 (setIf (listed.getD 23 false) o3_3 v3_3 (setIf (listed.getD 23 false) o3_2 v3_2 (setIf (listed.getD 23 false) o3_1 v3_1 (setIf (listed.getD 23 false) o3 v3_0 (setIf (listed.getD 25 false) o4 v4 (setIf (listed.getD 27 false) o5 v5 (setIf (listed.getD 29 false) o6 v6 (setIf (listed.getD 31 false) o7 v7 L2))))))))))))).length := by simp only [setIf_length]; exact hb2
      have hw := hI.wp.set o2 v2 (by simp only [setIf_length]; exact hb2)
      rw [setIf_ne (nd_ne hnd 2 0 rfl rfl (by decide)), setIf_ne (nd_ne hnd 2 1 rfl rfl (by decide)), setIf_same] at hw
      refine wpOp_do ho (wanted_none rfl _) rfl (ww.setCell ⟨g2, o2, none⟩ v2) ?_ (hI.mute' 21 rfl ?_)
      · unfold execOp
        simp only [u_20, u_5, Sem.run_bind, hs2 ww _ hI.wp.c2 hlen, Result.andThen_ok, Sem.run_pure]
      · rw [ran_same listed (i := 21) (by omega), ran_ne listed (i := 21) (k := 17) (by decide), ran_ne listed (i := 21) (k := 19) (by decide), ran_ne listed (i := 21) (k := 23) (by decide), ran_ne listed (i := 21) (k := 25) (by decide), ran_ne listed (i := 21) (k := 27) (by decide), ran_ne listed (i := 21) (k := 29) (by decide), ran_ne listed (i := 21) (k := 31) (by decide)]
        exact hw
    | 22, ho =>
      obtain rfl := pick_op ho rfl
      refine wpOp_go ho (wanted_none rfl _) b3 rfl (.pointer (some ⟨g2, o3, none⟩)) ww ?_ (hI.put' hfit 22 b3 _ (ma 19 rfl) (by rw [ran_ne listed (i := 22) (k := 17) (by decide), ran_ne listed (i := 22) (k := 19) (by decide), ran_ne listed (i := 22) (k := 21) (by decide), ran_ne listed (i := 22) (k := 23) (by decide), ran_ne listed (i := 22) (k := 25) (by decide), ran_ne listed (i := 22) (k := 27) (by decide), ran_ne listed (i := 22) (k := 29) (by decide), ran_ne listed (i := 22) (k := 31) (by decide)]; exact hI.wp))
      unfold execOp
      simp only [u2, Sem.run_bind, hf3, Result.andThen_ok, Sem.run_pure]
    | 23, ho =>
      obtain rfl := pick_op ho rfl
      have u_22 : aa.eval (.tmp b3) = .pointer (some ⟨g2, o3, none⟩) := by
        obtain ⟨ed, hed, hbd, hon⟩ := e23_22
        have hl := hd ed hed hbd
        rw [hon] at hl
        exact hI.vs (22, b3, .pointer (some ⟨g2, o3, none⟩)) (ma 19 rfl) hl
      have u_7 : aa.eval (.tmp l3) = (.agg #[v3_0, v3_1, v3_2, v3_3, v3_4]) := by
        obtain ⟨ed, hed, hbd, hon⟩ := e23_7
        have hl := hd ed hed hbd
        rw [hon] at hl
        exact hI.vs (7, l3, (.agg #[v3_0, v3_1, v3_2, v3_3, v3_4])) (ma 7 rfl) hl
      have hlen : o3_4 < ((setIf (listed.getD 17 false) o0 v0 (setIf (listed.getD 19 false) o1 v1 (setIf (listed.getD 21 false) o2 v2 (setIf (listed.getD 23 false) o3_4 v3_4 (setIf (listed.getD 23 false) o3_3 v3_3 (setIf (listed.getD 23 false) o3_2 v3_2 (setIf (listed.getD 23 false) o3_1 v3_1 (setIf (listed.getD 23 false) o3 v3_0 (setIf (listed.getD 25 false) o4 v4 (setIf (listed.getD 27 false) o5 v5 (setIf (listed.getD 29 false) o6 v6 (setIf (listed.getD 31 false) o7 v7 L2))))))))))))).length := by simp only [setIf_length]; exact hb3_4
      have hw := hI.wp.set o3 v3_0 (by simp only [setIf_length]; exact hb3)
      have hw := hw.set o3_1 v3_1 (by simp only [setIf_length, List.length_set]; exact hb3_1)
      have hw := hw.set o3_2 v3_2 (by simp only [setIf_length, List.length_set]; exact hb3_2)
      have hw := hw.set o3_3 v3_3 (by simp only [setIf_length, List.length_set]; exact hb3_3)
      have hw := hw.set o3_4 v3_4 (by simp only [setIf_length, List.length_set]; exact hb3_4)
      rw [setIf_ne (nd_ne hnd 3 0 rfl rfl (by decide)), setIf_ne (nd_ne hnd 3 1 rfl rfl (by decide)), setIf_ne (nd_ne hnd 3 2 rfl rfl (by decide)), setIf_ne (nd_ne hnd 3 7 rfl rfl (by decide)), setIf_ne (nd_ne hnd 3 6 rfl rfl (by decide)), setIf_ne (nd_ne hnd 3 5 rfl rfl (by decide)), setIf_ne (nd_ne hnd 3 4 rfl rfl (by decide)), setIf_same] at hw
      rw [setIf_ne (nd_ne hnd 4 0 rfl rfl (by decide)), setIf_ne (nd_ne hnd 4 1 rfl rfl (by decide)), setIf_ne (nd_ne hnd 4 2 rfl rfl (by decide)), setIf_ne (nd_ne hnd 4 7 rfl rfl (by decide)), setIf_ne (nd_ne hnd 4 6 rfl rfl (by decide)), setIf_ne (nd_ne hnd 4 5 rfl rfl (by decide)), setIf_same] at hw
      rw [setIf_ne (nd_ne hnd 5 0 rfl rfl (by decide)), setIf_ne (nd_ne hnd 5 1 rfl rfl (by decide)), setIf_ne (nd_ne hnd 5 2 rfl rfl (by decide)), setIf_ne (nd_ne hnd 5 7 rfl rfl (by decide)), setIf_ne (nd_ne hnd 5 6 rfl rfl (by decide)), setIf_same] at hw
      rw [setIf_ne (nd_ne hnd 6 0 rfl rfl (by decide)), setIf_ne (nd_ne hnd 6 1 rfl rfl (by decide)), setIf_ne (nd_ne hnd 6 2 rfl rfl (by decide)), setIf_ne (nd_ne hnd 6 7 rfl rfl (by decide)), setIf_same] at hw
      rw [setIf_ne (nd_ne hnd 7 0 rfl rfl (by decide)), setIf_ne (nd_ne hnd 7 1 rfl rfl (by decide)), setIf_ne (nd_ne hnd 7 2 rfl rfl (by decide)), setIf_same] at hw
      refine wpOp_do ho (wanted_none rfl _) rfl (ww.setCell ⟨g2, o3, none⟩ v3_0 |>.setCell ⟨g2, o3_1, none⟩ v3_1 |>.setCell ⟨g2, o3_2, none⟩ v3_2 |>.setCell ⟨g2, o3_3, none⟩ v3_3 |>.setCell ⟨g2, o3_4, none⟩ v3_4) ?_ (hI.mute' 23 rfl ?_)
      · unfold execOp
        simp only [u_22, u_7, Sem.run_bind, hs3 ww _ hI.wp.c2 hlen, Result.andThen_ok, Sem.run_pure]
      · rw [ran_same listed (i := 23) (by omega), ran_ne listed (i := 23) (k := 17) (by decide), ran_ne listed (i := 23) (k := 19) (by decide), ran_ne listed (i := 23) (k := 21) (by decide), ran_ne listed (i := 23) (k := 25) (by decide), ran_ne listed (i := 23) (k := 27) (by decide), ran_ne listed (i := 23) (k := 29) (by decide), ran_ne listed (i := 23) (k := 31) (by decide)]
        exact hw
    | 24, ho =>
      obtain rfl := pick_op ho rfl
      refine wpOp_go ho (wanted_none rfl _) b4 rfl (.pointer (some ⟨g2, o4, none⟩)) ww ?_ (hI.put' hfit 24 b4 _ (ma 20 rfl) (by rw [ran_ne listed (i := 24) (k := 17) (by decide), ran_ne listed (i := 24) (k := 19) (by decide), ran_ne listed (i := 24) (k := 21) (by decide), ran_ne listed (i := 24) (k := 23) (by decide), ran_ne listed (i := 24) (k := 25) (by decide), ran_ne listed (i := 24) (k := 27) (by decide), ran_ne listed (i := 24) (k := 29) (by decide), ran_ne listed (i := 24) (k := 31) (by decide)]; exact hI.wp))
      unfold execOp
      simp only [u2, Sem.run_bind, hf4, Result.andThen_ok, Sem.run_pure]
    | 25, ho =>
      obtain rfl := pick_op ho rfl
      have u_24 : aa.eval (.tmp b4) = .pointer (some ⟨g2, o4, none⟩) := by
        obtain ⟨ed, hed, hbd, hon⟩ := e25_24
        have hl := hd ed hed hbd
        rw [hon] at hl
        exact hI.vs (24, b4, .pointer (some ⟨g2, o4, none⟩)) (ma 20 rfl) hl
      have u_9 : aa.eval (.tmp l4) = v4 := by
        obtain ⟨ed, hed, hbd, hon⟩ := e25_9
        have hl := hd ed hed hbd
        rw [hon] at hl
        exact hI.vs (9, l4, v4) (ma 9 rfl) hl
      have hlen : o4 < ((setIf (listed.getD 17 false) o0 v0 (setIf (listed.getD 19 false) o1 v1 (setIf (listed.getD 21 false) o2 v2 (setIf (listed.getD 23 false) o3_4 v3_4 (setIf (listed.getD 23 false) o3_3 v3_3 (setIf (listed.getD 23 false) o3_2 v3_2 (setIf (listed.getD 23 false) o3_1 v3_1 (setIf (listed.getD 23 false) o3 v3_0 (setIf (listed.getD 25 false) o4 v4 (setIf (listed.getD 27 false) o5 v5 (setIf (listed.getD 29 false) o6 v6 (setIf (listed.getD 31 false) o7 v7 L2))))))))))))).length := by simp only [setIf_length]; exact hb4
      have hw := hI.wp.set o4 v4 (by simp only [setIf_length]; exact hb4)
      rw [setIf_ne (nd_ne hnd 8 0 rfl rfl (by decide)), setIf_ne (nd_ne hnd 8 1 rfl rfl (by decide)), setIf_ne (nd_ne hnd 8 2 rfl rfl (by decide)), setIf_ne (nd_ne hnd 8 7 rfl rfl (by decide)), setIf_ne (nd_ne hnd 8 6 rfl rfl (by decide)), setIf_ne (nd_ne hnd 8 5 rfl rfl (by decide)), setIf_ne (nd_ne hnd 8 4 rfl rfl (by decide)), setIf_ne (nd_ne hnd 8 3 rfl rfl (by decide)), setIf_same] at hw
      refine wpOp_do ho (wanted_none rfl _) rfl (ww.setCell ⟨g2, o4, none⟩ v4) ?_ (hI.mute' 25 rfl ?_)
      · unfold execOp
        simp only [u_24, u_9, Sem.run_bind, hs4 ww _ hI.wp.c2 hlen, Result.andThen_ok, Sem.run_pure]
      · rw [ran_same listed (i := 25) (by omega), ran_ne listed (i := 25) (k := 17) (by decide), ran_ne listed (i := 25) (k := 19) (by decide), ran_ne listed (i := 25) (k := 21) (by decide), ran_ne listed (i := 25) (k := 23) (by decide), ran_ne listed (i := 25) (k := 27) (by decide), ran_ne listed (i := 25) (k := 29) (by decide), ran_ne listed (i := 25) (k := 31) (by decide)]
        exact hw
    | 26, ho =>
      obtain rfl := pick_op ho rfl
      refine wpOp_go ho (wanted_none rfl _) b5 rfl (.pointer (some ⟨g2, o5, none⟩)) ww ?_ (hI.put' hfit 26 b5 _ (ma 21 rfl) (by rw [ran_ne listed (i := 26) (k := 17) (by decide), ran_ne listed (i := 26) (k := 19) (by decide), ran_ne listed (i := 26) (k := 21) (by decide), ran_ne listed (i := 26) (k := 23) (by decide), ran_ne listed (i := 26) (k := 25) (by decide), ran_ne listed (i := 26) (k := 27) (by decide), ran_ne listed (i := 26) (k := 29) (by decide), ran_ne listed (i := 26) (k := 31) (by decide)]; exact hI.wp))
      unfold execOp
      simp only [u2, Sem.run_bind, hf5, Result.andThen_ok, Sem.run_pure]
    | 27, ho =>
      obtain rfl := pick_op ho rfl
      have u_26 : aa.eval (.tmp b5) = .pointer (some ⟨g2, o5, none⟩) := by
        obtain ⟨ed, hed, hbd, hon⟩ := e27_26
        have hl := hd ed hed hbd
        rw [hon] at hl
        exact hI.vs (26, b5, .pointer (some ⟨g2, o5, none⟩)) (ma 21 rfl) hl
      have u_11 : aa.eval (.tmp l5) = v5 := by
        obtain ⟨ed, hed, hbd, hon⟩ := e27_11
        have hl := hd ed hed hbd
        rw [hon] at hl
        exact hI.vs (11, l5, v5) (ma 11 rfl) hl
      have hlen : o5 < ((setIf (listed.getD 17 false) o0 v0 (setIf (listed.getD 19 false) o1 v1 (setIf (listed.getD 21 false) o2 v2 (setIf (listed.getD 23 false) o3_4 v3_4 (setIf (listed.getD 23 false) o3_3 v3_3 (setIf (listed.getD 23 false) o3_2 v3_2 (setIf (listed.getD 23 false) o3_1 v3_1 (setIf (listed.getD 23 false) o3 v3_0 (setIf (listed.getD 25 false) o4 v4 (setIf (listed.getD 27 false) o5 v5 (setIf (listed.getD 29 false) o6 v6 (setIf (listed.getD 31 false) o7 v7 L2))))))))))))).length := by simp only [setIf_length]; exact hb5
      have hw := hI.wp.set o5 v5 (by simp only [setIf_length]; exact hb5)
      rw [setIf_ne (nd_ne hnd 9 0 rfl rfl (by decide)), setIf_ne (nd_ne hnd 9 1 rfl rfl (by decide)), setIf_ne (nd_ne hnd 9 2 rfl rfl (by decide)), setIf_ne (nd_ne hnd 9 7 rfl rfl (by decide)), setIf_ne (nd_ne hnd 9 6 rfl rfl (by decide)), setIf_ne (nd_ne hnd 9 5 rfl rfl (by decide)), setIf_ne (nd_ne hnd 9 4 rfl rfl (by decide)), setIf_ne (nd_ne hnd 9 3 rfl rfl (by decide)), setIf_ne (nd_ne hnd 9 8 rfl rfl (by decide)), setIf_same] at hw
      refine wpOp_do ho (wanted_none rfl _) rfl (ww.setCell ⟨g2, o5, none⟩ v5) ?_ (hI.mute' 27 rfl ?_)
      · unfold execOp
        simp only [u_26, u_11, Sem.run_bind, hs5 ww _ hI.wp.c2 hlen, Result.andThen_ok, Sem.run_pure]
      · rw [ran_same listed (i := 27) (by omega), ran_ne listed (i := 27) (k := 17) (by decide), ran_ne listed (i := 27) (k := 19) (by decide), ran_ne listed (i := 27) (k := 21) (by decide), ran_ne listed (i := 27) (k := 23) (by decide), ran_ne listed (i := 27) (k := 25) (by decide), ran_ne listed (i := 27) (k := 29) (by decide), ran_ne listed (i := 27) (k := 31) (by decide)]
        exact hw
    | 28, ho =>
      obtain rfl := pick_op ho rfl
      refine wpOp_go ho (wanted_none rfl _) b6 rfl (.pointer (some ⟨g2, o6, none⟩)) ww ?_ (hI.put' hfit 28 b6 _ (ma 22 rfl) (by rw [ran_ne listed (i := 28) (k := 17) (by decide), ran_ne listed (i := 28) (k := 19) (by decide), ran_ne listed (i := 28) (k := 21) (by decide), ran_ne listed (i := 28) (k := 23) (by decide), ran_ne listed (i := 28) (k := 25) (by decide), ran_ne listed (i := 28) (k := 27) (by decide), ran_ne listed (i := 28) (k := 29) (by decide), ran_ne listed (i := 28) (k := 31) (by decide)]; exact hI.wp))
      unfold execOp
      simp only [u2, Sem.run_bind, hf6, Result.andThen_ok, Sem.run_pure]
    | 29, ho =>
      obtain rfl := pick_op ho rfl
      have u_28 : aa.eval (.tmp b6) = .pointer (some ⟨g2, o6, none⟩) := by
        obtain ⟨ed, hed, hbd, hon⟩ := e29_28
        have hl := hd ed hed hbd
        rw [hon] at hl
        exact hI.vs (28, b6, .pointer (some ⟨g2, o6, none⟩)) (ma 22 rfl) hl
      have u_13 : aa.eval (.tmp l6) = v6 := by
        obtain ⟨ed, hed, hbd, hon⟩ := e29_13
        have hl := hd ed hed hbd
        rw [hon] at hl
        exact hI.vs (13, l6, v6) (ma 13 rfl) hl
      have hlen : o6 < ((setIf (listed.getD 17 false) o0 v0 (setIf (listed.getD 19 false) o1 v1 (setIf (listed.getD 21 false) o2 v2 (setIf (listed.getD 23 false) o3_4 v3_4 (setIf (listed.getD 23 false) o3_3 v3_3 (setIf (listed.getD 23 false) o3_2 v3_2 (setIf (listed.getD 23 false) o3_1 v3_1 (setIf (listed.getD 23 false) o3 v3_0 (setIf (listed.getD 25 false) o4 v4 (setIf (listed.getD 27 false) o5 v5 (setIf (listed.getD 29 false) o6 v6 (setIf (listed.getD 31 false) o7 v7 L2))))))))))))).length := by simp only [setIf_length]; exact hb6
      have hw := hI.wp.set o6 v6 (by simp only [setIf_length]; exact hb6)
      rw [setIf_ne (nd_ne hnd 10 0 rfl rfl (by decide)), setIf_ne (nd_ne hnd 10 1 rfl rfl (by decide)), setIf_ne (nd_ne hnd 10 2 rfl rfl (by decide)), setIf_ne (nd_ne hnd 10 7 rfl rfl (by decide)), setIf_ne (nd_ne hnd 10 6 rfl rfl (by decide)), setIf_ne (nd_ne hnd 10 5 rfl rfl (by decide)), setIf_ne (nd_ne hnd 10 4 rfl rfl (by decide)), setIf_ne (nd_ne hnd 10 3 rfl rfl (by decide)), setIf_ne (nd_ne hnd 10 8 rfl rfl (by decide)), setIf_ne (nd_ne hnd 10 9 rfl rfl (by decide)), setIf_same] at hw
      refine wpOp_do ho (wanted_none rfl _) rfl (ww.setCell ⟨g2, o6, none⟩ v6) ?_ (hI.mute' 29 rfl ?_)
      · unfold execOp
        simp only [u_28, u_13, Sem.run_bind, hs6 ww _ hI.wp.c2 hlen, Result.andThen_ok, Sem.run_pure]
      · rw [ran_same listed (i := 29) (by omega), ran_ne listed (i := 29) (k := 17) (by decide), ran_ne listed (i := 29) (k := 19) (by decide), ran_ne listed (i := 29) (k := 21) (by decide), ran_ne listed (i := 29) (k := 23) (by decide), ran_ne listed (i := 29) (k := 25) (by decide), ran_ne listed (i := 29) (k := 27) (by decide), ran_ne listed (i := 29) (k := 31) (by decide)]
        exact hw
    | 30, ho =>
      obtain rfl := pick_op ho rfl
      refine wpOp_go ho (wanted_none rfl _) b7 rfl (.pointer (some ⟨g2, o7, none⟩)) ww ?_ (hI.put' hfit 30 b7 _ (ma 23 rfl) (by rw [ran_ne listed (i := 30) (k := 17) (by decide), ran_ne listed (i := 30) (k := 19) (by decide), ran_ne listed (i := 30) (k := 21) (by decide), ran_ne listed (i := 30) (k := 23) (by decide), ran_ne listed (i := 30) (k := 25) (by decide), ran_ne listed (i := 30) (k := 27) (by decide), ran_ne listed (i := 30) (k := 29) (by decide), ran_ne listed (i := 30) (k := 31) (by decide)]; exact hI.wp))
      unfold execOp
      simp only [u2, Sem.run_bind, hf7, Result.andThen_ok, Sem.run_pure]
    | 31, ho =>
      obtain rfl := pick_op ho rfl
      have u_30 : aa.eval (.tmp b7) = .pointer (some ⟨g2, o7, none⟩) := by
        obtain ⟨ed, hed, hbd, hon⟩ := e31_30
        have hl := hd ed hed hbd
        rw [hon] at hl
        exact hI.vs (30, b7, .pointer (some ⟨g2, o7, none⟩)) (ma 23 rfl) hl
      have u_15 : aa.eval (.tmp l7) = v7 := by
        obtain ⟨ed, hed, hbd, hon⟩ := e31_15
        have hl := hd ed hed hbd
        rw [hon] at hl
        exact hI.vs (15, l7, v7) (ma 15 rfl) hl
      have hlen : o7 < ((setIf (listed.getD 17 false) o0 v0 (setIf (listed.getD 19 false) o1 v1 (setIf (listed.getD 21 false) o2 v2 (setIf (listed.getD 23 false) o3_4 v3_4 (setIf (listed.getD 23 false) o3_3 v3_3 (setIf (listed.getD 23 false) o3_2 v3_2 (setIf (listed.getD 23 false) o3_1 v3_1 (setIf (listed.getD 23 false) o3 v3_0 (setIf (listed.getD 25 false) o4 v4 (setIf (listed.getD 27 false) o5 v5 (setIf (listed.getD 29 false) o6 v6 (setIf (listed.getD 31 false) o7 v7 L2))))))))))))).length := by simp only [setIf_length]; exact hb7
      have hw := hI.wp.set o7 v7 (by simp only [setIf_length]; exact hb7)
      rw [setIf_ne (nd_ne hnd 11 0 rfl rfl (by decide)), setIf_ne (nd_ne hnd 11 1 rfl rfl (by decide)), setIf_ne (nd_ne hnd 11 2 rfl rfl (by decide)), setIf_ne (nd_ne hnd 11 7 rfl rfl (by decide)), setIf_ne (nd_ne hnd 11 6 rfl rfl (by decide)), setIf_ne (nd_ne hnd 11 5 rfl rfl (by decide)), setIf_ne (nd_ne hnd 11 4 rfl rfl (by decide)), setIf_ne (nd_ne hnd 11 3 rfl rfl (by decide)), setIf_ne (nd_ne hnd 11 8 rfl rfl (by decide)), setIf_ne (nd_ne hnd 11 9 rfl rfl (by decide)), setIf_ne (nd_ne hnd 11 10 rfl rfl (by decide)), setIf_same] at hw
      refine wpOp_do ho (wanted_none rfl _) rfl (ww.setCell ⟨g2, o7, none⟩ v7) ?_ (hI.mute' 31 rfl ?_)
      · unfold execOp
        simp only [u_30, u_15, Sem.run_bind, hs7 ww _ hI.wp.c2 hlen, Result.andThen_ok, Sem.run_pure]
      · rw [ran_same listed (i := 31) (by omega), ran_ne listed (i := 31) (k := 17) (by decide), ran_ne listed (i := 31) (k := 19) (by decide), ran_ne listed (i := 31) (k := 21) (by decide), ran_ne listed (i := 31) (k := 23) (by decide), ran_ne listed (i := 31) (k := 25) (by decide), ran_ne listed (i := 31) (k := 27) (by decide), ran_ne listed (i := 31) (k := 29) (by decide)]
        exact hw
    | (k + 32), ho => simp at ho
  · intro listed aa ww hall hI
    have hw := hI.wp
    rw [hall 17 (by simp), hall 19 (by simp), hall 21 (by simp), hall 23 (by simp), hall 25 (by simp), hall 27 (by simp), hall 29 (by simp), hall 31 (by simp)] at hw
    exact hfin aa ww hI.sz hI.df (hI.fx (s1, _) (by simp)) (hI.fx (s2, _) (by simp)) (hI.fx (s4, _) (by simp)) hw
  · refine ⟨hsz, hdf, ?_, ?_, ?_⟩
    · intro f hf
      simp only [List.mem_cons, List.not_mem_nil, or_false] at hf
      rcases hf with rfl | rfl | rfl
      · exact h1
      · exact h2
      · exact h4
    · intro t ht hl
      rw [none_ran] at hl
      cases hl
    · rw [none_ran _ 17, none_ran _ 19, none_ran _ 21, none_ran _ 23, none_ran _ 25, none_ran _ 27, none_ran _ 29, none_ran _ 31]
      exact hT.drew
end
end Go.Proofs.YtkcdkjpmbjcmdaaDoor

/-
  Guarded operations that are not wanted: many at once.
-/
namespace Go.Proofs.YtkcdkjpmbjcmdaaDoor
open Go.RowKit

/-- a slot's value that does not meet a guard. -/
def noB : Value → Bool → Bool
  | .bool c, b => bif b then !c else c
  | _, _ => true
/-- the first m operations are guarded by slots that do not meet the guard. -/
def offL (ops : Array Oper) (n : Nat) : Nat → List Oper → List (Nat × Value) → Option (List (Nat × Value))
  | 0, _, l => some l
  | _ + 1, [], _ => none
  | m + 1, o :: os, l => match o.guard, o.dst with
    | some (j, b), some k => match (ops[j]?).bind (·.dst) with
      | some d => match look l d with
        | some v => bif noB v b && Nat.blt k n then offL ops n m os ((k, undef) :: l) else none
        | none => none
      | none => none
    | _, _ => none
section
variable {P : Program} {ops : Array Oper} {a : Act} {w : World} {Q : Exit → Act → World → Prop} {n : Nat}
theorem yielded_not {j d : Nat} {v : Value} {b : Bool} (hj : (ops[j]?).bind (·.dst) = some d) (h : a.eval (.tmp d) = v) (hn : noB v b = true) : yielded ops a.tmps j ≠ some b := by
  intro hy
  unfold yielded at hy
  rw [hj, Option.bind_some] at hy
  split at hy
  · next c hc =>
    injection hy with hy
    subst hy
    have : a.eval (.tmp d) = .bool c := by
      simp only [Act.eval, Array.getD_eq_getD_getElem?, hc, Option.getD_some]
    rw [← h, this] at hn
    cases c <;> cases hn
  · cases hy
theorem Has.offs : ∀ (m : Nat) {L : List Oper} {l l' : List (Nat × Value)} {a : Act}, Has a n l → offL ops n m L l = some l' → (∀ a', Has a' n l' → wpList P ops Q (L.drop m) a' w) → wpList P ops Q L a w
  | 0, L, l, l', a, H, h0, h => by
    simp only [offL, Option.some.injEq] at h0
    subst h0
    exact h a H
  | m + 1, [], l, l', a, H, h0, h => by cases h0
  | m + 1, o :: os, l, l', a, H, h0, h => by
    unfold offL at h0
    split at h0
    · next j b k hg hd =>
      split at h0
      · next d hj =>
        split at h0
        · next v hv =>
          cases hb : (noB v b && Nat.blt k n) with
          | false => rw [hb, cond_false] at h0; cases h0
          | true =>
            rw [hb, cond_true] at h0
            rw [Bool.and_eq_true] at hb
            have hw : Region.wanted o (yielded ops a.tmps) = false := by
              unfold Region.wanted
              rw [hg]
              have := yielded_not hj (H.at_ d v hv) hb.1
              simpa using this
            exact wpList_off hw k hd (Has.offs m (H.put hb.2 undef) h0 h)
        · cases h0
      · cases h0
    · cases h0
end
section
variable {P : Program} {ops : Array Oper} {rest : List Oper} {o : Oper} {a : Act} {w : World} {Q : Exit → Act → World → Prop} {n : Nat} {l : List (Nat × Value)}
theorem run_lenS {s : Operand} {t : TypeId} {u : ByteArray} (ho : o.op = .call { callee := .builtin .len, args := #[s], argTypes := #[t] }) (hs : a.eval s = .string u) (ht : P.underlying t = some .string) :
    (execOp a.eval o).run P w = .ok (.value (.int .i64 u.size)) w := by
  unfold execOp
  simp only [ho, resolve, invoke, builtin, Sem.run_bind, Sem.run_pure, Result.andThen_ok, List.map_toArray, List.map_cons, List.map_nil, hs]
  simp [Builtin.len_, run_underlying ht, goInt]
theorem Has.lenS (H : Has a n l) (hw : Region.wanted o (yielded ops a.tmps) = true) {d : Nat} {s : Operand} {t : TypeId} {u : ByteArray} (ho : o.op = .call { callee := .builtin .len, args := #[s], argTypes := #[t] }) (hd : o.dst = some d) (hn : Nat.blt d n = true) (hs : evL l s = some (.string u)) (ht : P.underlying t = some .string)
    (h : ∀ a', Has a' n ((d, .int .i64 u.size) :: l) → wpList P ops Q rest a' w) : wpList P ops Q (o :: rest) a w :=
  H.go hw hd hn _ (run_lenS ho (H.ev hs) ht) h
end
theorem eql_e (u : ByteArray) (x y : Operand) (w : World) : (do eqGuard .eql 9 x y (.string u) (.string { data := #[] }); binOp .eql 9 (.string u) (.string { data := #[] }) : Sem Value).run Tryd.prog w = .ok (.bool (emp u)) w := by
  have e : (u.toList == (⟨#[]⟩ : ByteArray).toList) = emp u := by
    have h2 : (⟨#[]⟩ : ByteArray).toList = [] := by simp
    by_cases h : u.toList = []
    · rw [emp_true h, h, h2]; rfl
    · rw [emp_false h, h2]
      simpa using h
  rw [eql_s, e]
theorem store_will (g : Nat) (L : List Value) (a : Bool) (b c : ByteArray) (d : Int) (e : Bool) (w : World) (hC : Cells w g L) (hl : 8 < L.length) :
    (Instr.storeAt 25 (.pointer (some ⟨g, 4, none⟩)) (.agg #[.bool a, .string b, .string c, .int .i64 d, .bool e])).run Tryd.prog w = .ok () (w.setCell ⟨g, 4, none⟩ (.bool a) |>.setCell ⟨g, 5, none⟩ (.string b) |>.setCell ⟨g, 6, none⟩ (.string c) |>.setCell ⟨g, 7, none⟩ (.int .i64 d) |>.setCell ⟨g, 8, none⟩ (.bool e)) := by
  have ht : w.there g 4 5 := fun j hj => by
    obtain ⟨c1, c2⟩ := hC (4 + j) _ (List.getElem?_eq_getElem (by omega))
    exact ⟨by rw [c1]; rfl, c2⟩
  exact run_storeAt_mid w g 4 25 #[.bool a, .string b, .string c, .int .i64 d, .bool e] ht (by kernel_rfl) (all_oneCell_toArray (by intro v hv; simp only [List.mem_cons, List.not_mem_nil, or_false] at hv; rcases hv with rfl | rfl | rfl | rfl | rfl <;> rfl))
end Go.Proofs.YtkcdkjpmbjcmdaaDoor

/-
  Copies of packets; how much a packet weighs.
-/
namespace Go.Proofs.YtkcdkjpmbjcmdaaDoor
open Go.RowKit

theorem wpList_append_rows {P : Program} {w0 w : World} {ops : Array Oper} {rest : List Oper} {o : Oper} {a : Act} {Q : Exit → Act → World → Prop} (B : Nat) (hb : Below B w0 w) (hgd : o.guard = none) (s x : Operand) (t : TypeId)
    (ho : o.op = .call { callee := .builtin .append, args := #[s, x], argTypes := #[t, t] })
    (base : Nat) (e : TypeId) (z : Value) (size bytes : Nat) (ht : P.underlying t = some (.slice e)) (hi : (P.info? e).map (fun i => (i.zero, i.size, i.bytes)) = some (some z, size, bytes)) (hzs : z.cells.size = size) (hsz : 0 < size)
    (v : Value) (n : Nat) (xs : List Value) (hs : a.eval s = v) (hown : w.ownsRow base e size v n xs) (A : Option Addr) (m c : Nat) (ys : List Value) (hx : a.eval x = .slice A m c) (hr : Reads w w.heap.size size A m ys) (h1 : ∀ u ∈ ys, u.oneCell' = true)
    (hn : n + m ≤ maxLen) (hby : (n + m) * bytes ≤ 140737488355328) (hbase : base ≤ w.heap.size) (hB : B ≤ base)
    (h : ∀ A' c' w', w'.ownsRow base e size (.slice A' (n + m) c') (n + m) (xs ++ ys) → Below B w0 w' → wpList P ops Q rest (a.put o.dst (.slice A' (n + m) c')) w') :
    wpList P ops Q (o :: rest) a w := by
  refine wpList_plain hgd fun K hK => ?_
  obtain ⟨A', c', w', hrun, h2, h3⟩ := run_append_read (P := P) w base t o.type e z size bytes ht hi hzs hsz v n xs hown w.heap.size A m c ys hr h1 hn hby hbase
  unfold Oper.wp execOp
  simp only [ho, resolve, invoke, builtin, Sem.run_bind, Sem.run_pure, Result.andThen_ok, List.map_toArray, List.map_cons, List.map_nil, hs, hx, hrun]
  refine hK _ _ (h A' c' w' h2 (hb.grown h3 (by omega) ?_))
  intro k hk
  exact Nat.le_trans hB (hown.lt k hk).1

set_option maxHeartbeats 800000 in
theorem copyInts (l : List Int) (A : Option Addr) (c : Nat) (w : World) (hr : Reads w w.heap.size 1 A l.length (l.map iv)) (hn : l.length ≤ 1000000) :
    Calls Tryd.prog 45 #[.slice A l.length c] w fun e w' => ∃ v, e = .returned v ∧ (w'.ownsRow w.heap.size 3 1 v l.length (l.map iv) ∧ Below w.heap.size w w') := by
  go_enter Tryd.func45, Tryd.ntmps45
  go_wp2
  go_loopw [3, 4] (fun v i wr => ∃ k : Nat, k ≤ l.length ∧ i = .int .i64 k ∧ wr.ownsRow w.heap.size 3 1 v k ((l.take k).map iv) ∧ Below w.heap.size w wr)
    (fun _ i _ => l.length - (intOf i).toNat)
  case atStart => exact ⟨0, Nat.zero_le _, rfl, World.ownsRow_nil _ _ _ _, Below.refl _ _⟩
  case round =>
    obtain ⟨k, hk, rfl, hown, hnx⟩ := hrel
    by_cases hlt : k < l.length
    · obtain ⟨b, o, x, rfl, hb, hx, hcell⟩ := Reads.int (hr.below hnx) rfl hlt
      have HS : Hid ((l.take (k+1)).map iv = (l.take k).map iv ++ [.int .i64 x]) := by rw [take_snoc? l k x hx]; simp [Hid]
      clear hx
      go_wp2_with (at_builtin; refine wpList_append1 w.heap.size hnx rfl _ _ 26 rfl w.heap.size 3 (.int .i64 0) 8 Tryd.underlying26 info_int rfl _ _ _ (by exact rfl) hown (.int .i64 x) (by exact rfl) rfl (by omega) (by unfold maxLen; omega) hnx.size (Nat.le_refl _) ?_; intro A' c' w' hown' hb')
      go_roundw
      case rel => exact ⟨k + 1, by omega, by go_num, by rw [HS.out]; exact hown', hb'⟩
      case measure => simp [intOf]; omega
    · obtain rfl : k = l.length := by omega
      go_wp2
      go_ret
      exact ⟨_, rfl, by simpa using hown, hnx⟩
set_option maxHeartbeats 800000 in
theorem copyStrs (l : List ByteArray) (A : Option Addr) (c : Nat) (w : World) (hr : Reads w w.heap.size 1 A l.length (l.map sv)) (hn : l.length ≤ 1000000) :
    Calls Tryd.prog 47 #[.slice A l.length c] w fun e w' => ∃ v, e = .returned v ∧ (w'.ownsRow w.heap.size 9 1 v l.length (l.map sv) ∧ Below w.heap.size w w') := by
  go_enter Tryd.func47, Tryd.ntmps47
  go_wp2
  go_loopw [3, 4] (fun v i wr => ∃ k : Nat, k ≤ l.length ∧ i = .int .i64 k ∧ wr.ownsRow w.heap.size 9 1 v k ((l.take k).map sv) ∧ Below w.heap.size w wr)
    (fun _ i _ => l.length - (intOf i).toNat)
  case atStart => exact ⟨0, Nat.zero_le _, rfl, World.ownsRow_nil _ _ _ _, Below.refl _ _⟩
  case round =>
    obtain ⟨k, hk, rfl, hown, hnx⟩ := hrel
    by_cases hlt : k < l.length
    · obtain ⟨b, o, x, rfl, hb, hx, hcell⟩ := Reads.str (hr.below hnx) rfl hlt
      have HS : Hid ((l.take (k+1)).map sv = (l.take k).map sv ++ [.string x]) := by rw [take_snoc? l k x hx]; simp [Hid]
      clear hx
      go_wp2_with (at_builtin; refine wpList_append1 w.heap.size hnx rfl _ _ 28 rfl w.heap.size 9 (.string ⟨#[]⟩) 16 Tryd.underlying28 info_string rfl _ _ _ (by exact rfl) hown (.string x) (by exact rfl) rfl (by omega) (by unfold maxLen; omega) hnx.size (Nat.le_refl _) ?_; intro A' c' w' hown' hb')
      go_roundw
      case rel => exact ⟨k + 1, by omega, by go_num, by rw [HS.out]; exact hown', hb'⟩
      case measure => simp [intOf]; omega
    · obtain rfl : k = l.length := by omega
      go_wp2
      go_ret
      exact ⟨_, rfl, by simpa using hown, hnx⟩
set_option maxHeartbeats 800000 in
theorem copyWishes (l : List (ByteArray × Int)) (A : Option Addr) (c : Nat) (w : World) (hr : Reads w w.heap.size 2 A l.length (wv l)) (hn : l.length ≤ 1000000) :
    Calls Tryd.prog 46 #[.slice A l.length c] w fun e w' => ∃ v, e = .returned v ∧ (w'.ownsRow w.heap.size 95 2 v l.length (wv l) ∧ Below w.heap.size w w') := by
  go_enter Tryd.func46, Tryd.ntmps46
  go_wp2
  go_loopw [3, 4] (fun v i wr => ∃ k : Nat, k ≤ l.length ∧ i = .int .i64 k ∧ wr.ownsRow w.heap.size 95 2 v k (wv (l.take k)) ∧ Below w.heap.size w wr)
    (fun _ i _ => l.length - (intOf i).toNat)
  case atStart => exact ⟨0, Nat.zero_le _, rfl, World.ownsRow_nil _ _ _ _, Below.refl _ _⟩
  case round =>
    obtain ⟨k, hk, rfl, hown, hnx⟩ := hrel
    by_cases hlt : k < l.length
    · obtain ⟨b, o, x, rfl, hb, hx, hc0, hc1⟩ := Reads.wish (hr.below hnx) rfl hlt
      have HS : Hid (wv (l.take (k+1)) = wv (l.take k) ++ wv [x]) := by rw [take_snoc? l k x hx, wv_append]; simp [Hid]
      clear hx
      go_wp2_with (at_builtin; refine wpList_append_rows w.heap.size (hnx.alloc hnx.size _) rfl _ _ 27 rfl w.heap.size 95 (.agg #[.string ⟨#[]⟩, .int .i64 0]) 2 24 Tryd.underlying27 info_wish rfl (by decide) _ _ _ (by exact rfl) (hown.alloc _) _ 1 1 (wv [x]) (by exact rfl) (Reads.lit wr 95 (wv [x]) (0, 0) 2 1 rfl) (one_wv _) (by unfold maxLen; omega) (by omega) (Nat.le_trans hnx.size (balloc _ _).size) (Nat.le_refl _) ?_; intro A' c' w' hown' hb')
      go_roundw
      case rel => exact ⟨k + 1, by omega, by go_num, by rw [HS.out]; exact hown', hb'⟩
      case measure => simp [intOf]; omega
    · obtain rfl : k = l.length := by omega
      go_wp2
      go_ret
      exact ⟨_, rfl, by simpa using hown, hnx⟩
/-- a packet's three lists, rows of the call's own. -/
def Own3 (w : World) (base : Nat) (m : Mq) (vc vw vf : Value) : Prop :=
  w.ownsRow base 3 1 vc m.codes.length (m.codes.map iv) ∧ w.ownsRow base 95 2 vw m.wishes.length (wv m.wishes) ∧ w.ownsRow base 9 1 vf m.filters.length (m.filters.map sv)
/-- no list is longer than n. -/
def Short (m : Mq) (n : Nat) : Prop := m.codes.length ≤ n ∧ m.wishes.length ≤ n ∧ m.filters.length ≤ n
theorem Own3.lists {w : World} {b : Nat} {m : Mq} {vc vw vf : Value} (h : Own3 w b m vc vw vf) {n : Nat} (hl : Short m n) (hn : n ≤ 140737488351232) : MqL w w.heap.size m vc vw vf := by
  obtain ⟨h1, h2, h3⟩ := h
  obtain ⟨l1, l2, l3⟩ := hl
  obtain ⟨A1, c1, rfl, a1, _⟩ := own_shape h1
  obtain ⟨A2, c2, rfl, a2, _⟩ := own_shape h2
  obtain ⟨A3, c3, rfl, a3, _⟩ := own_shape h3
  exact ⟨A1, c1, A2, c2, A3, c3, rfl, rfl, rfl, a1, a2, a3, by omega, by omega, by omega, Reads.of_own h1, Reads.of_own h2, Reads.of_own h3⟩
theorem Own3.below {w w' : World} {b : Nat} {m : Mq} {vc vw vf : Value} (h : Own3 w b m vc vw vf) (hb : Below w.heap.size w w') : Own3 w' b m vc vw vf := ⟨own_below h.1 hb, own_below h.2.1 hb, own_below h.2.2 hb⟩
/-- a cell of a block of one's own is written; nothing else turns. -/
theorem Has.storeG {P : Program} {ops : Array Oper} {rest : List Oper} {o : Oper} {a : Act} {w W : World} {B : Nat} {bs : List (Nat × List Value)} {Q : Exit → Act → World → Prop} {n : Nat} {l : List (Nat × Value)} (H : Has a n l) (hO : Own W B bs w) (i : Nat) {g j : Nat} {L : List Value} (hi : bs[i]? = some (g, L))
    (hw : Region.wanted o (yielded ops a.tmps) = true) {T : Nat} {x y : Operand} {v : Value} (ho : o.op = .store T x y) (hd : o.dst = none) (hx : evL l x = some (.pointer (some ⟨g, j, none⟩))) (hy : evL l y = some v) (hj : Nat.blt j L.length = true)
    (hst : ∀ u, w.cell? ⟨g, j, none⟩ = some u → w.frozen? ⟨g, j, none⟩ = false → (Instr.storeAt T (.pointer (some ⟨g, j, none⟩)) v).run P w = .ok () (w.setCell ⟨g, j, none⟩ v))
    (h : ∀ a' w', Has a' n l → Own W B (bs.set i (g, L.set j v)) w' → w.grownBy w' (some g) → wpList P ops Q rest a' w') : wpList P ops Q (o :: rest) a w := by
  have hj' : j < L.length := by simpa [Nat.blt_eq] using hj
  have hC := hO.get i hi
  obtain ⟨c1, c2⟩ := hC j _ (List.getElem?_eq_getElem hj')
  refine H.store hw ho hd hx hy (hst _ c1 c2) (fun a' H' => h a' _ H' ?_ (grown_setCell w g j v))
  exact hO.store i hi (grown_setCell w g j v) (size_setCell' _ _ _) (hC.set j v hj')
set_option maxRecDepth 100000 in
set_option maxHeartbeats 1600000 in
theorem refCopyMq (m : Mq) (vc vw vf : Value) (w : World) (hL : MqL w w.heap.size m vc vw vf) (hS : Short m 1000000) :
    Calls Tryd.prog 23 #[.agg (mqCells m vc vw vf).toArray] w fun e w' => ∃ v, e = .returned v ∧ (∃ vc' vw' vf', v = .agg (mqCells m vc' vw' vf').toArray ∧ Own3 w' w.heap.size m vc' vw' vf' ∧ Below w.heap.size w w') := by
  obtain ⟨A1, c1, A2, c2, A3, c3, rfl, rfl, rfl, l1, l2, l3, k1', k2', k3', r1, r2, r3⟩ := id hL
  obtain ⟨s1, s2, s3⟩ := hS
  go_enter Tryd.func23, Tryd.ntmps23
  refine Has.start 18 [(0, .agg (mqCells m (.slice A1 m.codes.length c1) (.slice A2 m.wishes.length c2) (.slice A3 m.filters.length c3)).toArray)] rfl rfl ⟨rfl, trivial⟩ ?_
  intro a0 H0
  have O0 := Own.start w
  repeat (refine wp_seq ?_)
  refine wp_region_list ?_
  refine H0.box rfl rfl rfl rfl rfl ?_
  intro a1 w1 hb hs hC H1
  have O1 := O0.alloc hb hs hC
  clear hb hs hC
  refine H1.alloc rfl rfl rfl rfl _ zero_mq ?_
  intro a2 w2 hb hs hC H2
  have O2 := O1.alloc hb hs hC
  clear hb hs hC
  refine nt ?_
  repeat (refine wp_seq ?_)
  refine wp_region_list ?_
  refine H2.loadS rfl rfl rfl rfl rfl (O2.get 1 rfl) Tryd.underlying30 rfl size_mq rfl ?_
  intro a3 H3
  refine H3.alloc rfl rfl rfl rfl _ zero_mq ?_
  intro a4 w3 hb hs hC H4
  have O3 := O2.alloc hb hs hC
  clear hb hs hC
  refine H4.storeS rfl rfl rfl rfl rfl (O3.get 0 rfl) size_mq rfl rfl rfl ?_
  intro a5 w4 H5 hg hs hC
  have O4 := O3.store 0 rfl hg hs hC
  clear hg hs hC
  refine nt ?_
  obtain ⟨b0, hb0⟩ : ∃ b0, b0 = w4.heap.size := ⟨_, rfl⟩
  have q2 := O4.lt 1 rfl
  have q3 := O4.lt 0 rfl
  rw [← hb0] at q2 q3
  have hle : b0 ≤ w4.heap.size := Nat.le_of_eq hb0
  have hwb : w.heap.size ≤ b0 := by rw [hb0]; exact O4.le
  repeat (refine wp_seq ?_)
  refine wp_region_list ?_
  refine H5.field gz rfl rfl rfl rfl field_11 ?_
  intro a6 H6
  refine H6.load gz rfl rfl rfl rfl (load1_26 _ _ _ _ _ _ ((O4.get 2 rfl).get 15 _ rfl)) ?_
  intro a7 H7
  refine H7.call gz rfl rfl rfl rfl (fun _ _ => by kernel_rfl) (copyInts m.codes A1 c1 _ (r1.next O4.bel) (by omega)) ?_
  rintro a8 v w5 ⟨oc, hb⟩ H8
  have O5 := O4.call hb
  have oc := own_base oc hle
  have hle := Nat.le_trans hle hb.size
  clear hb
  obtain ⟨Ac, cc, rfl, _, _⟩ := own_shape oc
  refine H8.field gz rfl rfl rfl rfl field_11 ?_
  intro a9 H9
  refine H9.storeG O5 0 rfl gz rfl rfl rfl rfl rfl (fun u h f => store1_26 _ _ _ _ _ u _ h f) ?_
  intro a10 w6 H10 O6 hg
  have oc := oc.kept hg (Or.inr (Ne.symm (own_ne oc (Or.inl q3))))
  have hle := Nat.le_trans hle hg.size
  clear hg
  refine nt ?_
  repeat (refine wp_seq ?_)
  refine wp_region_list ?_
  refine H10.field gz rfl rfl rfl rfl field_18 ?_
  intro a11 H11
  refine H11.load gz rfl rfl rfl rfl (load1_27 _ _ _ _ _ _ ((O6.get 2 rfl).get 22 _ rfl)) ?_
  intro a12 H12
  refine H12.call gz rfl rfl rfl rfl (fun _ _ => by kernel_rfl) (copyWishes m.wishes A2 c2 _ (r2.next O6.bel) (by omega)) ?_
  rintro a13 v w7 ⟨ow, hb⟩ H13
  have O7 := O6.call hb
  have oc := own_below oc hb
  have ow := own_base ow hle
  have hle := Nat.le_trans hle hb.size
  clear hb
  obtain ⟨Aw, cw, rfl, _, _⟩ := own_shape ow
  refine H13.field gz rfl rfl rfl rfl field_18 ?_
  intro a14 H14
  refine H14.storeG O7 0 rfl gz rfl rfl rfl rfl rfl (fun u h f => store1_27 _ _ _ _ _ u _ h f) ?_
  intro a15 w8 H15 O8 hg
  have oc := oc.kept hg (Or.inr (Ne.symm (own_ne oc (Or.inl q3))))
  have ow := ow.kept hg (Or.inr (Ne.symm (own_ne ow (Or.inl q3))))
  have hle := Nat.le_trans hle hg.size
  clear hg
  refine nt ?_
  repeat (refine wp_seq ?_)
  refine wp_region_list ?_
  refine H15.field gz rfl rfl rfl rfl field_19 ?_
  intro a16 H16
  refine H16.load gz rfl rfl rfl rfl (load1_28 _ _ _ _ _ _ ((O8.get 2 rfl).get 23 _ rfl)) ?_
  intro a17 H17
  refine H17.call gz rfl rfl rfl rfl (fun _ _ => by kernel_rfl) (copyStrs m.filters A3 c3 _ (r3.next O8.bel) (by omega)) ?_
  rintro a18 v w9 ⟨of, hb⟩ H18
  have O9 := O8.call hb
  have oc := own_below oc hb
  have ow := own_below ow hb
  have of := own_base of hle
  have hle := Nat.le_trans hle hb.size
  clear hb
  obtain ⟨Af, cf, rfl, _, _⟩ := own_shape of
  refine H18.field gz rfl rfl rfl rfl field_19 ?_
  intro a19 H19
  refine H19.storeG O9 0 rfl gz rfl rfl rfl rfl rfl (fun u h f => store1_28 _ _ _ _ _ u _ h f) ?_
  intro a20 w10 H20 O10 hg
  have oc := oc.kept hg (Or.inr (Ne.symm (own_ne oc (Or.inl q3))))
  have ow := ow.kept hg (Or.inr (Ne.symm (own_ne ow (Or.inl q3))))
  have of := of.kept hg (Or.inr (Ne.symm (own_ne of (Or.inl q3))))
  have hle := Nat.le_trans hle hg.size
  clear hg
  refine nt ?_
  repeat (refine wp_seq ?_)
  refine wp_region_list ?_
  refine H20.loadS rfl rfl rfl rfl rfl (O10.get 0 rfl) Tryd.underlying30 rfl size_mq rfl ?_
  intro a21 H21
  refine H21.storeS rfl rfl rfl rfl rfl (O10.get 1 rfl) size_mq rfl rfl rfl ?_
  intro a22 w11 H22 hg hs hC
  have O11 := O10.store 1 rfl hg hs hC
  have hg := hg
  clear hg hs hC
  have oc := oc.kept hg (Or.inr (Ne.symm (own_ne oc (Or.inl q2))))
  have ow := ow.kept hg (Or.inr (Ne.symm (own_ne ow (Or.inl q2))))
  have of := of.kept hg (Or.inr (Ne.symm (own_ne of (Or.inl q2))))
  refine nt ?_
  refine wp_ret ?_
  repeat (first | (with_reducible refine block_ret ?_) | (with_reducible refine then_ret ?_))
  refine bodyPost_ret (results_cells Tryd.results23 _ _ (H22.at_ 2 _ rfl) (O11.get 1 rfl) Tryd.underlying30 rfl 24 size_mq rfl) H22.df ?_
  exact ⟨_, rfl, _, _, _, rfl, ⟨own_base oc hwb, own_base ow hwb, own_base of hwb⟩, O11.bel⟩

end Go.Proofs.YtkcdkjpmbjcmdaaDoor

/-
  How much a packet weighs.
-/
namespace Go.Proofs.YtkcdkjpmbjcmdaaDoor
open Go.RowKit

def wgt : List Nat → Nat → Nat
  | [], n => n
  | x :: xs, n => if n < 1048576 then wgt xs (n + x) else n
theorem wgt_ge : ∀ (l : List Nat) (n : Nat), n ≤ wgt l n
  | [], _ => Nat.le_refl _
  | x :: xs, n => by
    unfold wgt
    split
    · exact Nat.le_trans (Nat.le_add_right n x) (wgt_ge xs (n + x))
    · exact Nat.le_refl _
theorem wgt_le (M : Nat) (hM : 1048576 ≤ M) (X : Nat) : ∀ (l : List Nat) (n : Nat), (∀ x ∈ l, x ≤ X) → n ≤ M + X → wgt l n ≤ M + X
  | [], _, _, hn => hn
  | x :: xs, n, h, hn => by
    unfold wgt
    have hx := h x List.mem_cons_self
    split
    · exact wgt_le M hM X xs (n + x) (fun y hy => h y (List.mem_cons_of_mem _ hy)) (by omega)
    · exact hn
theorem add_wrap (a b : Nat) (h : a + b < 9223372036854775808) : IntKind.i64.wrap ((a : Int) + (b : Int)) = ((a + b : Nat) : Int) := by
  rw [IntWalk.i64_in _ (by omega)]; omega
set_option maxRecDepth 100000 in
set_option maxHeartbeats 800000 in
theorem weighWishes (l : List (ByteArray × Int)) (A : Option Addr) (c : Nat) (hn : l.length ≤ 140737488351232) (hf : ∀ s ∈ l, Fits s.1) (w : World) (hr : Reads w w.heap.size 2 A l.length (wv l)) :
    Calls Tryd.prog 70 #[.slice A l.length c] w fun e w' => e = .returned (.int .i64 ((wgt (l.map (·.1.size)) l.length : Nat) : Int)) ∧ w = w' := by
  have HX : Hid (wgt ((l.drop 0).map (·.1.size)) l.length = wgt (l.map (·.1.size)) l.length) := rfl
  generalize wgt (l.map (·.1.size)) l.length = X at *
  go_enter Tryd.func70, Tryd.ntmps70
  go_wp2
  go_loopw [3, 4] (fun nv i wr => ∃ k n : Nat, k ≤ l.length ∧ nv = .int .i64 (n : Int) ∧ i = .int .i64 (k : Int) ∧ w = wr ∧ n ≤ 140737489399808 ∧ Hid (wgt ((l.drop k).map (·.1.size)) n = X)) (fun _ i _ => l.length - (intOf i).toNat)
  case atStart => exact ⟨0, l.length, Nat.zero_le _, rfl, rfl, rfl, by omega, HX⟩
  case round =>
    obtain ⟨k, n, hk, rfl, rfl, rfl, hnB, hf2⟩ := hrel
    by_cases hlt : k < l.length
    · obtain ⟨b, o, x, rfl, hb, hx, hc0, hc1⟩ := Reads.wish hr rfl hlt
      have hs := hf x (List.mem_of_getElem? hx)
      have hd := drop_of hx
      have hf3 := hf2.out
      rw [hd, List.map_cons, wgt] at hf3
      by_cases hn2 : n < 1048576
      · rw [if_pos hn2] at hf3
        have HP : Hid (wgt ((l.drop (k + 1)).map (·.1.size)) (n + x.1.size) = X) := hf3
        have hw := add_wrap n x.1.size (by omega)
        have hn3 : (n : Int) < 1048576 := by omega
        clear hn2
        clear hx hd hf3 hf2 hc1 hf
        go_wp2
        go_roundw
        case rel => exact ⟨k + 1, n + x.1.size, by omega, by simp, by go_num, by first | trivial | rfl, by omega, HP⟩
        case measure => simp [intOf]; omega
      · rw [if_neg hn2] at hf3
        have HP : Hid (n = X) := hf3
        have hn3 : ¬ (n : Int) < 1048576 := by omega
        clear hn2
        clear hx hd hf3 hf2 hc1 hf hc0
        go_wp2
        go_ret
        exact ⟨by rw [← HP.out]; rfl, rfl⟩
    · have HP : Hid (n = X) := by
        have := hf2.out
        rw [List.drop_eq_nil_of_le (by omega)] at this
        exact this
      clear hf2 hf
      go_wp2
      go_ret
      exact ⟨by rw [← HP.out]; rfl, rfl⟩
set_option maxRecDepth 100000 in
set_option maxHeartbeats 800000 in
theorem weighStrs (l : List ByteArray) (A : Option Addr) (c : Nat) (hn : l.length ≤ 140737488351232) (hf : ∀ s ∈ l, Fits s) (w : World) (hr : Reads w w.heap.size 1 A l.length (l.map sv)) :
    Calls Tryd.prog 71 #[.slice A l.length c] w fun e w' => e = .returned (.int .i64 ((wgt (l.map (·.size)) l.length : Nat) : Int)) ∧ w = w' := by
  have HX : Hid (wgt ((l.drop 0).map (·.size)) l.length = wgt (l.map (·.size)) l.length) := rfl
  generalize wgt (l.map (·.size)) l.length = X at *
  go_enter Tryd.func71, Tryd.ntmps71
  go_wp2
  go_loopw [3, 4] (fun nv i wr => ∃ k n : Nat, k ≤ l.length ∧ nv = .int .i64 (n : Int) ∧ i = .int .i64 (k : Int) ∧ w = wr ∧ n ≤ 140737489399808 ∧ Hid (wgt ((l.drop k).map (·.size)) n = X)) (fun _ i _ => l.length - (intOf i).toNat)
  case atStart => exact ⟨0, l.length, Nat.zero_le _, rfl, rfl, rfl, by omega, HX⟩
  case round =>
    obtain ⟨k, n, hk, rfl, rfl, rfl, hnB, hf2⟩ := hrel
    by_cases hlt : k < l.length
    · obtain ⟨b, o, x, rfl, hb, hx, hc0⟩ := Reads.str hr rfl hlt
      have hs := hf x (List.mem_of_getElem? hx)
      have hd := drop_of hx
      have hf3 := hf2.out
      rw [hd, List.map_cons, wgt] at hf3
      by_cases hn2 : n < 1048576
      · rw [if_pos hn2] at hf3
        have HP : Hid (wgt ((l.drop (k + 1)).map (·.size)) (n + x.size) = X) := hf3
        have hw := add_wrap n x.size (by omega)
        have hn3 : (n : Int) < 1048576 := by omega
        clear hn2
        clear hx hd hf3 hf2 hf
        go_wp2
        go_roundw
        case rel => exact ⟨k + 1, n + x.size, by omega, by simp, by go_num, by first | trivial | rfl, by omega, HP⟩
        case measure => simp [intOf]; omega
      · rw [if_neg hn2] at hf3
        have HP : Hid (n = X) := hf3
        have hn3 : ¬ (n : Int) < 1048576 := by omega
        clear hn2
        clear hx hd hf3 hf2 hf hc0
        go_wp2
        go_ret
        exact ⟨by rw [← HP.out]; rfl, rfl⟩
    · have HP : Hid (n = X) := by
        have := hf2.out
        rw [List.drop_eq_nil_of_le (by omega)] at this
        exact this
      clear hf2 hf
      go_wp2
      go_ret
      exact ⟨by rw [← HP.out]; rfl, rfl⟩
theorem add_n (a b : Nat) (h : a + b < 9223372036854775808) (x y : Operand) (w : World) : (do eqGuard .add 3 x y (.int .i64 (a : Int)) (.int .i64 (b : Int)); binOp .add 3 (.int .i64 (a : Int)) (.int .i64 (b : Int)) : Sem Value).run Tryd.prog w = .ok (.int .i64 ((a + b : Nat) : Int)) w := by
  simp [go_sem]
  rw [add_wrap _ _ h]
  rfl
def wishW (m : Mq) : Nat := wgt (m.wishes.map (·.1.size)) m.wishes.length
def filtW (m : Mq) : Nat := wgt (m.filters.map (·.size)) m.filters.length
def mqW (m : Mq) : Nat := m.client.size + m.wt.size + m.wp.size + m.user.size + m.pass.size + m.codes.length + m.topic.size + m.payload.size + wishW m + filtW m
set_option maxRecDepth 100000 in
set_option maxHeartbeats 1600000 in
theorem weighMq (m : Mq) (vc vw vf : Value) (w : World) (hL : MqL w w.heap.size m vc vw vf) (hF : MqFit m) :
    Calls Tryd.prog 43 #[.agg (mqCells m vc vw vf).toArray] w fun e w' => e = .returned (.int .i64 ((mqW m : Nat) : Int)) ∧ Below w.heap.size w w' := by
  obtain ⟨A1, c1, A2, c2, A3, c3, rfl, rfl, rfl, l1, l2, l3, k1', k2', k3', r1, r2, r3⟩ := id hL
  have f1 := hF.client
  have f2 := hF.wt
  have f3 := hF.wp
  have f4 := hF.user
  have f5 := hF.pass
  have f6 := hF.topic
  have f7 := hF.payload
  unfold Fits at f1 f2 f3 f4 f5 f6 f7
  have g1 : wishW m ≤ 1000000000000000 := Nat.le_trans (wgt_le 140737488351232 (by decide) 140737488351232 _ _ (by intro x hx; obtain ⟨s, hs, rfl⟩ := List.mem_map.1 hx; exact hF.wishes s hs) (by omega)) (by decide)
  have g2 : filtW m ≤ 1000000000000000 := Nat.le_trans (wgt_le 140737488351232 (by decide) 140737488351232 _ _ (by intro x hx; obtain ⟨s, hs, rfl⟩ := List.mem_map.1 hx; exact hF.filters s hs) (by omega)) (by decide)
  go_enter Tryd.func43, Tryd.ntmps43
  refine Has.start 44 [(0, .agg (mqCells m (.slice A1 m.codes.length c1) (.slice A2 m.wishes.length c2) (.slice A3 m.filters.length c3)).toArray)] rfl rfl ⟨rfl, trivial⟩ ?_
  intro a0 H0
  have O0 := Own.start w
  repeat (refine wp_seq ?_)
  refine wp_region_list ?_
  refine H0.box rfl rfl rfl rfl rfl ?_
  intro a1 w1 hb hs hC H1
  have O1 := O0.alloc hb hs hC
  clear hb hs hC
  refine H1.move gz (.inr rfl) rfl rfl rfl ?_
  intro a2 H2
  refine nt ?_
  have HB1 := Base.of O1
  obtain ⟨b0, hb0⟩ : ∃ b0, b0 = w1.heap.size := ⟨_, rfl⟩
  rw [← hb0] at HB1
  have hb0' := hb0
  clear hb0
  have H3 := H2.keep (l' := [(1, .pointer (some ⟨w.heap.size, 0, none⟩))]) ⟨rfl, trivial⟩
  repeat (refine wp_seq ?_)
  refine wp_region_invB (by kernel_rfl) (InvB 44 [(1, .pointer (some ⟨w.heap.size, 0, none⟩))] [⟨0, 3, [], fun v _ => v = .pointer (some ⟨w.heap.size, 1, none⟩)⟩, ⟨1, 4, [], fun v _ => v = .string m.client⟩, ⟨2, 5, [], fun v _ => v = .int .i64 ((m.client.size : Nat) : Int)⟩, ⟨3, 6, [], fun v _ => v = .pointer (some ⟨w.heap.size, 4, none⟩)⟩, ⟨4, 7, [], fun v _ => v = .pointer (some ⟨w.heap.size, 5, none⟩)⟩, ⟨5, 8, [], fun v _ => v = .string m.wt⟩, ⟨6, 9, [], fun v _ => v = .int .i64 ((m.wt.size : Nat) : Int)⟩, ⟨7, 10, [], fun v _ => v = .int .i64 ((m.client.size + m.wt.size : Nat) : Int)⟩, ⟨8, 11, [], fun v _ => v = .pointer (some ⟨w.heap.size, 4, none⟩)⟩, ⟨9, 12, [], fun v _ => v = .pointer (some ⟨w.heap.size, 6, none⟩)⟩, ⟨10, 13, [], fun v _ => v = .string m.wp⟩, ⟨11, 14, [], fun v _ => v = .int .i64 ((m.wp.size : Nat) : Int)⟩, ⟨12, 15, [], fun v _ => v = .int .i64 ((m.client.size + m.wt.size + m.wp.size : Nat) : Int)⟩, ⟨13, 16, [], fun v _ => v = .pointer (some ⟨w.heap.size, 9, none⟩)⟩, ⟨14, 17, [], fun v _ => v = .string m.user⟩, ⟨15, 18, [], fun v _ => v = .int .i64 ((m.user.size : Nat) : Int)⟩, ⟨16, 19, [], fun v _ => v = .int .i64 ((m.client.size + m.wt.size + m.wp.size + m.user.size : Nat) : Int)⟩, ⟨17, 20, [], fun v _ => v = .pointer (some ⟨w.heap.size, 11, none⟩)⟩, ⟨18, 21, [], fun v _ => v = .string m.pass⟩, ⟨19, 22, [], fun v _ => v = .int .i64 ((m.pass.size : Nat) : Int)⟩, ⟨20, 23, [], fun v _ => v = .int .i64 ((m.client.size + m.wt.size + m.wp.size + m.user.size + m.pass.size : Nat) : Int)⟩, ⟨21, 24, [], fun v _ => v = .pointer (some ⟨w.heap.size, 15, none⟩)⟩, ⟨22, 25, [], fun v _ => v = (.slice A1 m.codes.length c1)⟩, ⟨23, 26, [], fun v _ => v = .int .i64 ((m.codes.length : Nat) : Int)⟩, ⟨24, 27, [], fun v _ => v = .int .i64 ((m.client.size + m.wt.size + m.wp.size + m.user.size + m.pass.size + m.codes.length : Nat) : Int)⟩, ⟨25, 28, [], fun v _ => v = .pointer (some ⟨w.heap.size, 19, none⟩)⟩, ⟨26, 29, [], fun v _ => v = .string m.topic⟩, ⟨27, 30, [], fun v _ => v = .int .i64 ((m.topic.size : Nat) : Int)⟩, ⟨28, 31, [], fun v _ => v = .int .i64 ((m.client.size + m.wt.size + m.wp.size + m.user.size + m.pass.size + m.codes.length + m.topic.size : Nat) : Int)⟩, ⟨29, 32, [], fun v _ => v = .pointer (some ⟨w.heap.size, 21, none⟩)⟩, ⟨30, 33, [], fun v _ => v = .string m.payload⟩, ⟨31, 34, [], fun v _ => v = .int .i64 ((m.payload.size : Nat) : Int)⟩, ⟨32, 35, [], fun v _ => v = .int .i64 ((m.client.size + m.wt.size + m.wp.size + m.user.size + m.pass.size + m.codes.length + m.topic.size + m.payload.size : Nat) : Int)⟩, ⟨33, 36, [], fun v _ => v = .pointer (some ⟨w.heap.size, 22, none⟩)⟩, ⟨34, 37, [], fun v _ => v = (.slice A2 m.wishes.length c2)⟩, ⟨35, 38, [], fun v _ => v = .int .i64 ((wishW m : Nat) : Int)⟩, ⟨36, 39, [], fun v _ => v = .int .i64 ((m.client.size + m.wt.size + m.wp.size + m.user.size + m.pass.size + m.codes.length + m.topic.size + m.payload.size + wishW m : Nat) : Int)⟩, ⟨37, 40, [], fun v _ => v = .pointer (some ⟨w.heap.size, 23, none⟩)⟩, ⟨38, 41, [], fun v _ => v = (.slice A3 m.filters.length c3)⟩, ⟨39, 42, [], fun v _ => v = .int .i64 ((filtW m : Nat) : Int)⟩, ⟨40, 43, [], fun v _ => v = .int .i64 ((m.client.size + m.wt.size + m.wp.size + m.user.size + m.pass.size + m.codes.length + m.topic.size + m.payload.size + wishW m + filtW m : Nat) : Int)⟩, ⟨41, 2, [], fun v _ => v = .int .i64 ((m.client.size + m.wt.size + m.wp.size + m.user.size + m.pass.size + m.codes.length + m.topic.size + m.payload.size + wishW m + filtW m : Nat) : Int)⟩] (Base w b0 [(w.heap.size, (mqCells m (.slice A1 m.codes.length c1) (.slice A2 m.wishes.length c2) (.slice A3 m.filters.length c3)))])) (back_of (by kernel_rfl)) ?_ ?_ ?_
  · intro listed aa ww i o hs hni hcl ho hd hI
    have hls : listed.size = 42 := hs
    have u_1 : aa.eval (.tmp 1) = .pointer (some ⟨w.heap.size, 0, none⟩) := hI.fx.1
    match i, ho with
    | 0, ho =>
      obtain rfl := pick_op ho rfl
      have HH : Has aa 44 [(1, .pointer (some ⟨w.heap.size, 0, none⟩))] := Has.of hI.sz hI.df ⟨u_1, trivial⟩
      refine wpOp_go ho gz 3 rfl (.pointer (some ⟨w.heap.size, 1, none⟩)) ww (run_field rfl (HH.ev rfl) field_1) ?_
      exact hI.put (by kernel_rfl) _ (ma 0 rfl) (by rw [hls]; show 0 < 42; decide) (by rw [hls]; decide) (.pointer (some ⟨w.heap.size, 1, none⟩)) rfl hI.wp AllSt.same
    | 1, ho =>
      obtain rfl := pick_op ho rfl
      have r_3 := hI.vs _ (ma 0 rfl) (.inr (ran_of hd 0 (by kernel_rfl))) trivial
      have u_3 : aa.eval (.tmp 3) = .pointer (some ⟨w.heap.size, 1, none⟩) := r_3
      have HH : Has aa 44 [(3, .pointer (some ⟨w.heap.size, 1, none⟩))] := Has.of hI.sz hI.df ⟨u_3, trivial⟩
      refine wpOp_go ho gz 4 rfl (.string m.client) ww (run_load rfl (HH.ev rfl) (load1_s _ _ _ _ ((hI.wp.get 0 rfl).get 1 _ rfl))) ?_
      exact hI.put (by kernel_rfl) _ (ma 1 rfl) (by rw [hls]; show 1 < 42; decide) (by rw [hls]; decide) (.string m.client) rfl hI.wp AllSt.same
    | 2, ho =>
      obtain rfl := pick_op ho rfl
      have r_4 := hI.vs _ (ma 1 rfl) (.inr (ran_of hd 1 (by kernel_rfl))) trivial
      have u_4 : aa.eval (.tmp 4) = .string m.client := r_4
      have HH : Has aa 44 [(4, .string m.client)] := Has.of hI.sz hI.df ⟨u_4, trivial⟩
      refine wpOp_go ho gz 5 rfl (.int .i64 ((m.client.size : Nat) : Int)) ww (run_lenS rfl (HH.ev rfl) Tryd.underlying9) ?_
      exact hI.put (by kernel_rfl) _ (ma 2 rfl) (by rw [hls]; show 2 < 42; decide) (by rw [hls]; decide) (.int .i64 ((m.client.size : Nat) : Int)) rfl hI.wp AllSt.same
    | 3, ho =>
      obtain rfl := pick_op ho rfl
      have HH : Has aa 44 [(1, .pointer (some ⟨w.heap.size, 0, none⟩))] := Has.of hI.sz hI.df ⟨u_1, trivial⟩
      refine wpOp_go ho gz 6 rfl (.pointer (some ⟨w.heap.size, 4, none⟩)) ww (run_field rfl (HH.ev rfl) field_4) ?_
      exact hI.put (by kernel_rfl) _ (ma 3 rfl) (by rw [hls]; show 3 < 42; decide) (by rw [hls]; decide) (.pointer (some ⟨w.heap.size, 4, none⟩)) rfl hI.wp AllSt.same
    | 4, ho =>
      obtain rfl := pick_op ho rfl
      have r_6 := hI.vs _ (ma 3 rfl) (.inr (ran_of hd 3 (by kernel_rfl))) trivial
      have u_6 : aa.eval (.tmp 6) = .pointer (some ⟨w.heap.size, 4, none⟩) := r_6
      have HH : Has aa 44 [(6, .pointer (some ⟨w.heap.size, 4, none⟩))] := Has.of hI.sz hI.df ⟨u_6, trivial⟩
      refine wpOp_go ho gz 7 rfl (.pointer (some ⟨w.heap.size, 5, none⟩)) ww (run_field rfl (HH.ev rfl) fieldW_1) ?_
      exact hI.put (by kernel_rfl) _ (ma 4 rfl) (by rw [hls]; show 4 < 42; decide) (by rw [hls]; decide) (.pointer (some ⟨w.heap.size, 5, none⟩)) rfl hI.wp AllSt.same
    | 5, ho =>
      obtain rfl := pick_op ho rfl
      have r_7 := hI.vs _ (ma 4 rfl) (.inr (ran_of hd 4 (by kernel_rfl))) trivial
      have u_7 : aa.eval (.tmp 7) = .pointer (some ⟨w.heap.size, 5, none⟩) := r_7
      have HH : Has aa 44 [(7, .pointer (some ⟨w.heap.size, 5, none⟩))] := Has.of hI.sz hI.df ⟨u_7, trivial⟩
      refine wpOp_go ho gz 8 rfl (.string m.wt) ww (run_load rfl (HH.ev rfl) (load1_s _ _ _ _ ((hI.wp.get 0 rfl).get 5 _ rfl))) ?_
      exact hI.put (by kernel_rfl) _ (ma 5 rfl) (by rw [hls]; show 5 < 42; decide) (by rw [hls]; decide) (.string m.wt) rfl hI.wp AllSt.same
    | 6, ho =>
      obtain rfl := pick_op ho rfl
      have r_8 := hI.vs _ (ma 5 rfl) (.inr (ran_of hd 5 (by kernel_rfl))) trivial
      have u_8 : aa.eval (.tmp 8) = .string m.wt := r_8
      have HH : Has aa 44 [(8, .string m.wt)] := Has.of hI.sz hI.df ⟨u_8, trivial⟩
      refine wpOp_go ho gz 9 rfl (.int .i64 ((m.wt.size : Nat) : Int)) ww (run_lenS rfl (HH.ev rfl) Tryd.underlying9) ?_
      exact hI.put (by kernel_rfl) _ (ma 6 rfl) (by rw [hls]; show 6 < 42; decide) (by rw [hls]; decide) (.int .i64 ((m.wt.size : Nat) : Int)) rfl hI.wp AllSt.same
    | 7, ho =>
      obtain rfl := pick_op ho rfl
      have r_5 := hI.vs _ (ma 2 rfl) (.inr (ran_of hd 2 (by kernel_rfl))) trivial
      have u_5 : aa.eval (.tmp 5) = .int .i64 ((m.client.size : Nat) : Int) := r_5
      have r_9 := hI.vs _ (ma 6 rfl) (.inr (ran_of hd 6 (by kernel_rfl))) trivial
      have u_9 : aa.eval (.tmp 9) = .int .i64 ((m.wt.size : Nat) : Int) := r_9
      have HH : Has aa 44 [(5, .int .i64 ((m.client.size : Nat) : Int)), (9, .int .i64 ((m.wt.size : Nat) : Int))] := Has.of hI.sz hI.df ⟨u_5, u_9, trivial⟩
      refine wpOp_go ho gz 10 rfl (.int .i64 ((m.client.size + m.wt.size : Nat) : Int)) ww (run_bin rfl (HH.ev rfl) (HH.ev rfl) (add_n _ _ (by omega) _ _ _)) ?_
      exact hI.put (by kernel_rfl) _ (ma 7 rfl) (by rw [hls]; show 7 < 42; decide) (by rw [hls]; decide) (.int .i64 ((m.client.size + m.wt.size : Nat) : Int)) rfl hI.wp AllSt.same
    | 8, ho =>
      obtain rfl := pick_op ho rfl
      have HH : Has aa 44 [(1, .pointer (some ⟨w.heap.size, 0, none⟩))] := Has.of hI.sz hI.df ⟨u_1, trivial⟩
      refine wpOp_go ho gz 11 rfl (.pointer (some ⟨w.heap.size, 4, none⟩)) ww (run_field rfl (HH.ev rfl) field_4) ?_
      exact hI.put (by kernel_rfl) _ (ma 8 rfl) (by rw [hls]; show 8 < 42; decide) (by rw [hls]; decide) (.pointer (some ⟨w.heap.size, 4, none⟩)) rfl hI.wp AllSt.same
    | 9, ho =>
      obtain rfl := pick_op ho rfl
      have r_11 := hI.vs _ (ma 8 rfl) (.inr (ran_of hd 8 (by kernel_rfl))) trivial
      have u_11 : aa.eval (.tmp 11) = .pointer (some ⟨w.heap.size, 4, none⟩) := r_11
      have HH : Has aa 44 [(11, .pointer (some ⟨w.heap.size, 4, none⟩))] := Has.of hI.sz hI.df ⟨u_11, trivial⟩
      refine wpOp_go ho gz 12 rfl (.pointer (some ⟨w.heap.size, 6, none⟩)) ww (run_field rfl (HH.ev rfl) fieldW_2) ?_
      exact hI.put (by kernel_rfl) _ (ma 9 rfl) (by rw [hls]; show 9 < 42; decide) (by rw [hls]; decide) (.pointer (some ⟨w.heap.size, 6, none⟩)) rfl hI.wp AllSt.same
    | 10, ho =>
      obtain rfl := pick_op ho rfl
      have r_12 := hI.vs _ (ma 9 rfl) (.inr (ran_of hd 9 (by kernel_rfl))) trivial
      have u_12 : aa.eval (.tmp 12) = .pointer (some ⟨w.heap.size, 6, none⟩) := r_12
      have HH : Has aa 44 [(12, .pointer (some ⟨w.heap.size, 6, none⟩))] := Has.of hI.sz hI.df ⟨u_12, trivial⟩
      refine wpOp_go ho gz 13 rfl (.string m.wp) ww (run_load rfl (HH.ev rfl) (load1_s _ _ _ _ ((hI.wp.get 0 rfl).get 6 _ rfl))) ?_
      exact hI.put (by kernel_rfl) _ (ma 10 rfl) (by rw [hls]; show 10 < 42; decide) (by rw [hls]; decide) (.string m.wp) rfl hI.wp AllSt.same
    | 11, ho =>
      obtain rfl := pick_op ho rfl
      have r_13 := hI.vs _ (ma 10 rfl) (.inr (ran_of hd 10 (by kernel_rfl))) trivial
      have u_13 : aa.eval (.tmp 13) = .string m.wp := r_13
      have HH : Has aa 44 [(13, .string m.wp)] := Has.of hI.sz hI.df ⟨u_13, trivial⟩
      refine wpOp_go ho gz 14 rfl (.int .i64 ((m.wp.size : Nat) : Int)) ww (run_lenS rfl (HH.ev rfl) Tryd.underlying9) ?_
      exact hI.put (by kernel_rfl) _ (ma 11 rfl) (by rw [hls]; show 11 < 42; decide) (by rw [hls]; decide) (.int .i64 ((m.wp.size : Nat) : Int)) rfl hI.wp AllSt.same
    | 12, ho =>
      obtain rfl := pick_op ho rfl
      have r_10 := hI.vs _ (ma 7 rfl) (.inr (ran_of hd 7 (by kernel_rfl))) trivial
      have u_10 : aa.eval (.tmp 10) = .int .i64 ((m.client.size + m.wt.size : Nat) : Int) := r_10
      have r_14 := hI.vs _ (ma 11 rfl) (.inr (ran_of hd 11 (by kernel_rfl))) trivial
      have u_14 : aa.eval (.tmp 14) = .int .i64 ((m.wp.size : Nat) : Int) := r_14
      have HH : Has aa 44 [(10, .int .i64 ((m.client.size + m.wt.size : Nat) : Int)), (14, .int .i64 ((m.wp.size : Nat) : Int))] := Has.of hI.sz hI.df ⟨u_10, u_14, trivial⟩
      refine wpOp_go ho gz 15 rfl (.int .i64 ((m.client.size + m.wt.size + m.wp.size : Nat) : Int)) ww (run_bin rfl (HH.ev rfl) (HH.ev rfl) (add_n _ _ (by omega) _ _ _)) ?_
      exact hI.put (by kernel_rfl) _ (ma 12 rfl) (by rw [hls]; show 12 < 42; decide) (by rw [hls]; decide) (.int .i64 ((m.client.size + m.wt.size + m.wp.size : Nat) : Int)) rfl hI.wp AllSt.same
    | 13, ho =>
      obtain rfl := pick_op ho rfl
      have HH : Has aa 44 [(1, .pointer (some ⟨w.heap.size, 0, none⟩))] := Has.of hI.sz hI.df ⟨u_1, trivial⟩
      refine wpOp_go ho gz 16 rfl (.pointer (some ⟨w.heap.size, 9, none⟩)) ww (run_field rfl (HH.ev rfl) field_5) ?_
      exact hI.put (by kernel_rfl) _ (ma 13 rfl) (by rw [hls]; show 13 < 42; decide) (by rw [hls]; decide) (.pointer (some ⟨w.heap.size, 9, none⟩)) rfl hI.wp AllSt.same
    | 14, ho =>
      obtain rfl := pick_op ho rfl
      have r_16 := hI.vs _ (ma 13 rfl) (.inr (ran_of hd 13 (by kernel_rfl))) trivial
      have u_16 : aa.eval (.tmp 16) = .pointer (some ⟨w.heap.size, 9, none⟩) := r_16
      have HH : Has aa 44 [(16, .pointer (some ⟨w.heap.size, 9, none⟩))] := Has.of hI.sz hI.df ⟨u_16, trivial⟩
      refine wpOp_go ho gz 17 rfl (.string m.user) ww (run_load rfl (HH.ev rfl) (load1_s _ _ _ _ ((hI.wp.get 0 rfl).get 9 _ rfl))) ?_
      exact hI.put (by kernel_rfl) _ (ma 14 rfl) (by rw [hls]; show 14 < 42; decide) (by rw [hls]; decide) (.string m.user) rfl hI.wp AllSt.same
    | 15, ho =>
      obtain rfl := pick_op ho rfl
      have r_17 := hI.vs _ (ma 14 rfl) (.inr (ran_of hd 14 (by kernel_rfl))) trivial
      have u_17 : aa.eval (.tmp 17) = .string m.user := r_17
      have HH : Has aa 44 [(17, .string m.user)] := Has.of hI.sz hI.df ⟨u_17, trivial⟩
      refine wpOp_go ho gz 18 rfl (.int .i64 ((m.user.size : Nat) : Int)) ww (run_lenS rfl (HH.ev rfl) Tryd.underlying9) ?_
      exact hI.put (by kernel_rfl) _ (ma 15 rfl) (by rw [hls]; show 15 < 42; decide) (by rw [hls]; decide) (.int .i64 ((m.user.size : Nat) : Int)) rfl hI.wp AllSt.same
    | 16, ho =>
      obtain rfl := pick_op ho rfl
      have r_15 := hI.vs _ (ma 12 rfl) (.inr (ran_of hd 12 (by kernel_rfl))) trivial
      have u_15 : aa.eval (.tmp 15) = .int .i64 ((m.client.size + m.wt.size + m.wp.size : Nat) : Int) := r_15
      have r_18 := hI.vs _ (ma 15 rfl) (.inr (ran_of hd 15 (by kernel_rfl))) trivial
      have u_18 : aa.eval (.tmp 18) = .int .i64 ((m.user.size : Nat) : Int) := r_18
      have HH : Has aa 44 [(15, .int .i64 ((m.client.size + m.wt.size + m.wp.size : Nat) : Int)), (18, .int .i64 ((m.user.size : Nat) : Int))] := Has.of hI.sz hI.df ⟨u_15, u_18, trivial⟩
      refine wpOp_go ho gz 19 rfl (.int .i64 ((m.client.size + m.wt.size + m.wp.size + m.user.size : Nat) : Int)) ww (run_bin rfl (HH.ev rfl) (HH.ev rfl) (add_n _ _ (by omega) _ _ _)) ?_
      exact hI.put (by kernel_rfl) _ (ma 16 rfl) (by rw [hls]; show 16 < 42; decide) (by rw [hls]; decide) (.int .i64 ((m.client.size + m.wt.size + m.wp.size + m.user.size : Nat) : Int)) rfl hI.wp AllSt.same
    | 17, ho =>
      obtain rfl := pick_op ho rfl
      have HH : Has aa 44 [(1, .pointer (some ⟨w.heap.size, 0, none⟩))] := Has.of hI.sz hI.df ⟨u_1, trivial⟩
      refine wpOp_go ho gz 20 rfl (.pointer (some ⟨w.heap.size, 11, none⟩)) ww (run_field rfl (HH.ev rfl) field_7) ?_
      exact hI.put (by kernel_rfl) _ (ma 17 rfl) (by rw [hls]; show 17 < 42; decide) (by rw [hls]; decide) (.pointer (some ⟨w.heap.size, 11, none⟩)) rfl hI.wp AllSt.same
    | 18, ho =>
      obtain rfl := pick_op ho rfl
      have r_20 := hI.vs _ (ma 17 rfl) (.inr (ran_of hd 17 (by kernel_rfl))) trivial
      have u_20 : aa.eval (.tmp 20) = .pointer (some ⟨w.heap.size, 11, none⟩) := r_20
      have HH : Has aa 44 [(20, .pointer (some ⟨w.heap.size, 11, none⟩))] := Has.of hI.sz hI.df ⟨u_20, trivial⟩
      refine wpOp_go ho gz 21 rfl (.string m.pass) ww (run_load rfl (HH.ev rfl) (load1_s _ _ _ _ ((hI.wp.get 0 rfl).get 11 _ rfl))) ?_
      exact hI.put (by kernel_rfl) _ (ma 18 rfl) (by rw [hls]; show 18 < 42; decide) (by rw [hls]; decide) (.string m.pass) rfl hI.wp AllSt.same
    | 19, ho =>
      obtain rfl := pick_op ho rfl
      have r_21 := hI.vs _ (ma 18 rfl) (.inr (ran_of hd 18 (by kernel_rfl))) trivial
      have u_21 : aa.eval (.tmp 21) = .string m.pass := r_21
      have HH : Has aa 44 [(21, .string m.pass)] := Has.of hI.sz hI.df ⟨u_21, trivial⟩
      refine wpOp_go ho gz 22 rfl (.int .i64 ((m.pass.size : Nat) : Int)) ww (run_lenS rfl (HH.ev rfl) Tryd.underlying9) ?_
      exact hI.put (by kernel_rfl) _ (ma 19 rfl) (by rw [hls]; show 19 < 42; decide) (by rw [hls]; decide) (.int .i64 ((m.pass.size : Nat) : Int)) rfl hI.wp AllSt.same
    | 20, ho =>
      obtain rfl := pick_op ho rfl
      have r_19 := hI.vs _ (ma 16 rfl) (.inr (ran_of hd 16 (by kernel_rfl))) trivial
      have u_19 : aa.eval (.tmp 19) = .int .i64 ((m.client.size + m.wt.size + m.wp.size + m.user.size : Nat) : Int) := r_19
      have r_22 := hI.vs _ (ma 19 rfl) (.inr (ran_of hd 19 (by kernel_rfl))) trivial
      have u_22 : aa.eval (.tmp 22) = .int .i64 ((m.pass.size : Nat) : Int) := r_22
      have HH : Has aa 44 [(19, .int .i64 ((m.client.size + m.wt.size + m.wp.size + m.user.size : Nat) : Int)), (22, .int .i64 ((m.pass.size : Nat) : Int))] := Has.of hI.sz hI.df ⟨u_19, u_22, trivial⟩
      refine wpOp_go ho gz 23 rfl (.int .i64 ((m.client.size + m.wt.size + m.wp.size + m.user.size + m.pass.size : Nat) : Int)) ww (run_bin rfl (HH.ev rfl) (HH.ev rfl) (add_n _ _ (by omega) _ _ _)) ?_
      exact hI.put (by kernel_rfl) _ (ma 20 rfl) (by rw [hls]; show 20 < 42; decide) (by rw [hls]; decide) (.int .i64 ((m.client.size + m.wt.size + m.wp.size + m.user.size + m.pass.size : Nat) : Int)) rfl hI.wp AllSt.same
    | 21, ho =>
      obtain rfl := pick_op ho rfl
      have HH : Has aa 44 [(1, .pointer (some ⟨w.heap.size, 0, none⟩))] := Has.of hI.sz hI.df ⟨u_1, trivial⟩
      refine wpOp_go ho gz 24 rfl (.pointer (some ⟨w.heap.size, 15, none⟩)) ww (run_field rfl (HH.ev rfl) field_11) ?_
      exact hI.put (by kernel_rfl) _ (ma 21 rfl) (by rw [hls]; show 21 < 42; decide) (by rw [hls]; decide) (.pointer (some ⟨w.heap.size, 15, none⟩)) rfl hI.wp AllSt.same
    | 22, ho =>
      obtain rfl := pick_op ho rfl
      have r_24 := hI.vs _ (ma 21 rfl) (.inr (ran_of hd 21 (by kernel_rfl))) trivial
      have u_24 : aa.eval (.tmp 24) = .pointer (some ⟨w.heap.size, 15, none⟩) := r_24
      have HH : Has aa 44 [(24, .pointer (some ⟨w.heap.size, 15, none⟩))] := Has.of hI.sz hI.df ⟨u_24, trivial⟩
      refine wpOp_go ho gz 25 rfl ((.slice A1 m.codes.length c1)) ww (run_load rfl (HH.ev rfl) (load1_26 _ _ _ _ _ _ ((hI.wp.get 0 rfl).get 15 _ rfl))) ?_
      exact hI.put (by kernel_rfl) _ (ma 22 rfl) (by rw [hls]; show 22 < 42; decide) (by rw [hls]; decide) ((.slice A1 m.codes.length c1)) rfl hI.wp AllSt.same
    | 23, ho =>
      obtain rfl := pick_op ho rfl
      have r_25 := hI.vs _ (ma 22 rfl) (.inr (ran_of hd 22 (by kernel_rfl))) trivial
      have u_25 : aa.eval (.tmp 25) = (.slice A1 m.codes.length c1) := r_25
      have HH : Has aa 44 [(25, (.slice A1 m.codes.length c1))] := Has.of hI.sz hI.df ⟨u_25, trivial⟩
      refine wpOp_go ho gz 26 rfl (.int .i64 ((m.codes.length : Nat) : Int)) ww (run_len rfl (HH.ev rfl) Tryd.underlying26) ?_
      exact hI.put (by kernel_rfl) _ (ma 23 rfl) (by rw [hls]; show 23 < 42; decide) (by rw [hls]; decide) (.int .i64 ((m.codes.length : Nat) : Int)) rfl hI.wp AllSt.same
    | 24, ho =>
      obtain rfl := pick_op ho rfl
      have r_23 := hI.vs _ (ma 20 rfl) (.inr (ran_of hd 20 (by kernel_rfl))) trivial
      have u_23 : aa.eval (.tmp 23) = .int .i64 ((m.client.size + m.wt.size + m.wp.size + m.user.size + m.pass.size : Nat) : Int) := r_23
      have r_26 := hI.vs _ (ma 23 rfl) (.inr (ran_of hd 23 (by kernel_rfl))) trivial
      have u_26 : aa.eval (.tmp 26) = .int .i64 ((m.codes.length : Nat) : Int) := r_26
      have HH : Has aa 44 [(23, .int .i64 ((m.client.size + m.wt.size + m.wp.size + m.user.size + m.pass.size : Nat) : Int)), (26, .int .i64 ((m.codes.length : Nat) : Int))] := Has.of hI.sz hI.df ⟨u_23, u_26, trivial⟩
      refine wpOp_go ho gz 27 rfl (.int .i64 ((m.client.size + m.wt.size + m.wp.size + m.user.size + m.pass.size + m.codes.length : Nat) : Int)) ww (run_bin rfl (HH.ev rfl) (HH.ev rfl) (add_n _ _ (by omega) _ _ _)) ?_
      exact hI.put (by kernel_rfl) _ (ma 24 rfl) (by rw [hls]; show 24 < 42; decide) (by rw [hls]; decide) (.int .i64 ((m.client.size + m.wt.size + m.wp.size + m.user.size + m.pass.size + m.codes.length : Nat) : Int)) rfl hI.wp AllSt.same
    | 25, ho =>
      obtain rfl := pick_op ho rfl
      have HH : Has aa 44 [(1, .pointer (some ⟨w.heap.size, 0, none⟩))] := Has.of hI.sz hI.df ⟨u_1, trivial⟩
      refine wpOp_go ho gz 28 rfl (.pointer (some ⟨w.heap.size, 19, none⟩)) ww (run_field rfl (HH.ev rfl) field_15) ?_
      exact hI.put (by kernel_rfl) _ (ma 25 rfl) (by rw [hls]; show 25 < 42; decide) (by rw [hls]; decide) (.pointer (some ⟨w.heap.size, 19, none⟩)) rfl hI.wp AllSt.same
    | 26, ho =>
      obtain rfl := pick_op ho rfl
      have r_28 := hI.vs _ (ma 25 rfl) (.inr (ran_of hd 25 (by kernel_rfl))) trivial
      have u_28 : aa.eval (.tmp 28) = .pointer (some ⟨w.heap.size, 19, none⟩) := r_28
      have HH : Has aa 44 [(28, .pointer (some ⟨w.heap.size, 19, none⟩))] := Has.of hI.sz hI.df ⟨u_28, trivial⟩
      refine wpOp_go ho gz 29 rfl (.string m.topic) ww (run_load rfl (HH.ev rfl) (load1_s _ _ _ _ ((hI.wp.get 0 rfl).get 19 _ rfl))) ?_
      exact hI.put (by kernel_rfl) _ (ma 26 rfl) (by rw [hls]; show 26 < 42; decide) (by rw [hls]; decide) (.string m.topic) rfl hI.wp AllSt.same
    | 27, ho =>
      obtain rfl := pick_op ho rfl
      have r_29 := hI.vs _ (ma 26 rfl) (.inr (ran_of hd 26 (by kernel_rfl))) trivial
      have u_29 : aa.eval (.tmp 29) = .string m.topic := r_29
      have HH : Has aa 44 [(29, .string m.topic)] := Has.of hI.sz hI.df ⟨u_29, trivial⟩
      refine wpOp_go ho gz 30 rfl (.int .i64 ((m.topic.size : Nat) : Int)) ww (run_lenS rfl (HH.ev rfl) Tryd.underlying9) ?_
      exact hI.put (by kernel_rfl) _ (ma 27 rfl) (by rw [hls]; show 27 < 42; decide) (by rw [hls]; decide) (.int .i64 ((m.topic.size : Nat) : Int)) rfl hI.wp AllSt.same
    | 28, ho =>
      obtain rfl := pick_op ho rfl
      have r_27 := hI.vs _ (ma 24 rfl) (.inr (ran_of hd 24 (by kernel_rfl))) trivial
      have u_27 : aa.eval (.tmp 27) = .int .i64 ((m.client.size + m.wt.size + m.wp.size + m.user.size + m.pass.size + m.codes.length : Nat) : Int) := r_27
      have r_30 := hI.vs _ (ma 27 rfl) (.inr (ran_of hd 27 (by kernel_rfl))) trivial
      have u_30 : aa.eval (.tmp 30) = .int .i64 ((m.topic.size : Nat) : Int) := r_30
      have HH : Has aa 44 [(27, .int .i64 ((m.client.size + m.wt.size + m.wp.size + m.user.size + m.pass.size + m.codes.length : Nat) : Int)), (30, .int .i64 ((m.topic.size : Nat) : Int))] := Has.of hI.sz hI.df ⟨u_27, u_30, trivial⟩
      refine wpOp_go ho gz 31 rfl (.int .i64 ((m.client.size + m.wt.size + m.wp.size + m.user.size + m.pass.size + m.codes.length + m.topic.size : Nat) : Int)) ww (run_bin rfl (HH.ev rfl) (HH.ev rfl) (add_n _ _ (by omega) _ _ _)) ?_
      exact hI.put (by kernel_rfl) _ (ma 28 rfl) (by rw [hls]; show 28 < 42; decide) (by rw [hls]; decide) (.int .i64 ((m.client.size + m.wt.size + m.wp.size + m.user.size + m.pass.size + m.codes.length + m.topic.size : Nat) : Int)) rfl hI.wp AllSt.same
    | 29, ho =>
      obtain rfl := pick_op ho rfl
      have HH : Has aa 44 [(1, .pointer (some ⟨w.heap.size, 0, none⟩))] := Has.of hI.sz hI.df ⟨u_1, trivial⟩
      refine wpOp_go ho gz 32 rfl (.pointer (some ⟨w.heap.size, 21, none⟩)) ww (run_field rfl (HH.ev rfl) field_17) ?_
      exact hI.put (by kernel_rfl) _ (ma 29 rfl) (by rw [hls]; show 29 < 42; decide) (by rw [hls]; decide) (.pointer (some ⟨w.heap.size, 21, none⟩)) rfl hI.wp AllSt.same
    | 30, ho =>
      obtain rfl := pick_op ho rfl
      have r_32 := hI.vs _ (ma 29 rfl) (.inr (ran_of hd 29 (by kernel_rfl))) trivial
      have u_32 : aa.eval (.tmp 32) = .pointer (some ⟨w.heap.size, 21, none⟩) := r_32
      have HH : Has aa 44 [(32, .pointer (some ⟨w.heap.size, 21, none⟩))] := Has.of hI.sz hI.df ⟨u_32, trivial⟩
      refine wpOp_go ho gz 33 rfl (.string m.payload) ww (run_load rfl (HH.ev rfl) (load1_s _ _ _ _ ((hI.wp.get 0 rfl).get 21 _ rfl))) ?_
      exact hI.put (by kernel_rfl) _ (ma 30 rfl) (by rw [hls]; show 30 < 42; decide) (by rw [hls]; decide) (.string m.payload) rfl hI.wp AllSt.same
    | 31, ho =>
      obtain rfl := pick_op ho rfl
      have r_33 := hI.vs _ (ma 30 rfl) (.inr (ran_of hd 30 (by kernel_rfl))) trivial
      have u_33 : aa.eval (.tmp 33) = .string m.payload := r_33
      have HH : Has aa 44 [(33, .string m.payload)] := Has.of hI.sz hI.df ⟨u_33, trivial⟩
      refine wpOp_go ho gz 34 rfl (.int .i64 ((m.payload.size : Nat) : Int)) ww (run_lenS rfl (HH.ev rfl) Tryd.underlying9) ?_
      exact hI.put (by kernel_rfl) _ (ma 31 rfl) (by rw [hls]; show 31 < 42; decide) (by rw [hls]; decide) (.int .i64 ((m.payload.size : Nat) : Int)) rfl hI.wp AllSt.same
    | 32, ho =>
      obtain rfl := pick_op ho rfl
      have r_31 := hI.vs _ (ma 28 rfl) (.inr (ran_of hd 28 (by kernel_rfl))) trivial
      have u_31 : aa.eval (.tmp 31) = .int .i64 ((m.client.size + m.wt.size + m.wp.size + m.user.size + m.pass.size + m.codes.length + m.topic.size : Nat) : Int) := r_31
      have r_34 := hI.vs _ (ma 31 rfl) (.inr (ran_of hd 31 (by kernel_rfl))) trivial
      have u_34 : aa.eval (.tmp 34) = .int .i64 ((m.payload.size : Nat) : Int) := r_34
      have HH : Has aa 44 [(31, .int .i64 ((m.client.size + m.wt.size + m.wp.size + m.user.size + m.pass.size + m.codes.length + m.topic.size : Nat) : Int)), (34, .int .i64 ((m.payload.size : Nat) : Int))] := Has.of hI.sz hI.df ⟨u_31, u_34, trivial⟩
      refine wpOp_go ho gz 35 rfl (.int .i64 ((m.client.size + m.wt.size + m.wp.size + m.user.size + m.pass.size + m.codes.length + m.topic.size + m.payload.size : Nat) : Int)) ww (run_bin rfl (HH.ev rfl) (HH.ev rfl) (add_n _ _ (by omega) _ _ _)) ?_
      exact hI.put (by kernel_rfl) _ (ma 32 rfl) (by rw [hls]; show 32 < 42; decide) (by rw [hls]; decide) (.int .i64 ((m.client.size + m.wt.size + m.wp.size + m.user.size + m.pass.size + m.codes.length + m.topic.size + m.payload.size : Nat) : Int)) rfl hI.wp AllSt.same
    | 33, ho =>
      obtain rfl := pick_op ho rfl
      have HH : Has aa 44 [(1, .pointer (some ⟨w.heap.size, 0, none⟩))] := Has.of hI.sz hI.df ⟨u_1, trivial⟩
      refine wpOp_go ho gz 36 rfl (.pointer (some ⟨w.heap.size, 22, none⟩)) ww (run_field rfl (HH.ev rfl) field_18) ?_
      exact hI.put (by kernel_rfl) _ (ma 33 rfl) (by rw [hls]; show 33 < 42; decide) (by rw [hls]; decide) (.pointer (some ⟨w.heap.size, 22, none⟩)) rfl hI.wp AllSt.same
    | 34, ho =>
      obtain rfl := pick_op ho rfl
      have r_36 := hI.vs _ (ma 33 rfl) (.inr (ran_of hd 33 (by kernel_rfl))) trivial
      have u_36 : aa.eval (.tmp 36) = .pointer (some ⟨w.heap.size, 22, none⟩) := r_36
      have HH : Has aa 44 [(36, .pointer (some ⟨w.heap.size, 22, none⟩))] := Has.of hI.sz hI.df ⟨u_36, trivial⟩
      refine wpOp_go ho gz 37 rfl ((.slice A2 m.wishes.length c2)) ww (run_load rfl (HH.ev rfl) (load1_27 _ _ _ _ _ _ ((hI.wp.get 0 rfl).get 22 _ rfl))) ?_
      exact hI.put (by kernel_rfl) _ (ma 34 rfl) (by rw [hls]; show 34 < 42; decide) (by rw [hls]; decide) ((.slice A2 m.wishes.length c2)) rfl hI.wp AllSt.same
    | 35, ho =>
      obtain rfl := pick_op ho rfl
      have r_37 := hI.vs _ (ma 34 rfl) (.inr (ran_of hd 34 (by kernel_rfl))) trivial
      have u_37 : aa.eval (.tmp 37) = (.slice A2 m.wishes.length c2) := r_37
      have HH : Has aa 44 [(37, (.slice A2 m.wishes.length c2))] := Has.of hI.sz hI.df ⟨u_37, trivial⟩
      refine wpOp_enter ho gz 38 rfl 70 _ (run_callH HH rfl rfl (fun _ _ => by kernel_rfl)) _ (quietC (weighWishes m.wishes A2 c2 k2' hF.wishes ww ((r2.below hI.wp.own.bel).more hI.wp.own.le))) ?_
      rintro _ _ ⟨rfl, rfl⟩
      exact hI.put (by kernel_rfl) _ (ma 35 rfl) (by rw [hls]; show 35 < 42; decide) (by rw [hls]; decide) (.int .i64 ((wishW m : Nat) : Int)) rfl hI.wp AllSt.same
    | 36, ho =>
      obtain rfl := pick_op ho rfl
      have r_35 := hI.vs _ (ma 32 rfl) (.inr (ran_of hd 32 (by kernel_rfl))) trivial
      have u_35 : aa.eval (.tmp 35) = .int .i64 ((m.client.size + m.wt.size + m.wp.size + m.user.size + m.pass.size + m.codes.length + m.topic.size + m.payload.size : Nat) : Int) := r_35
      have r_38 := hI.vs _ (ma 35 rfl) (.inr (ran_of hd 35 (by kernel_rfl))) trivial
      have u_38 : aa.eval (.tmp 38) = .int .i64 ((wishW m : Nat) : Int) := r_38
      have HH : Has aa 44 [(35, .int .i64 ((m.client.size + m.wt.size + m.wp.size + m.user.size + m.pass.size + m.codes.length + m.topic.size + m.payload.size : Nat) : Int)), (38, .int .i64 ((wishW m : Nat) : Int))] := Has.of hI.sz hI.df ⟨u_35, u_38, trivial⟩
      refine wpOp_go ho gz 39 rfl (.int .i64 ((m.client.size + m.wt.size + m.wp.size + m.user.size + m.pass.size + m.codes.length + m.topic.size + m.payload.size + wishW m : Nat) : Int)) ww (run_bin rfl (HH.ev rfl) (HH.ev rfl) (add_n _ _ (by omega) _ _ _)) ?_
      exact hI.put (by kernel_rfl) _ (ma 36 rfl) (by rw [hls]; show 36 < 42; decide) (by rw [hls]; decide) (.int .i64 ((m.client.size + m.wt.size + m.wp.size + m.user.size + m.pass.size + m.codes.length + m.topic.size + m.payload.size + wishW m : Nat) : Int)) rfl hI.wp AllSt.same
    | 37, ho =>
      obtain rfl := pick_op ho rfl
      have HH : Has aa 44 [(1, .pointer (some ⟨w.heap.size, 0, none⟩))] := Has.of hI.sz hI.df ⟨u_1, trivial⟩
      refine wpOp_go ho gz 40 rfl (.pointer (some ⟨w.heap.size, 23, none⟩)) ww (run_field rfl (HH.ev rfl) field_19) ?_
      exact hI.put (by kernel_rfl) _ (ma 37 rfl) (by rw [hls]; show 37 < 42; decide) (by rw [hls]; decide) (.pointer (some ⟨w.heap.size, 23, none⟩)) rfl hI.wp AllSt.same
    | 38, ho =>
      obtain rfl := pick_op ho rfl
      have r_40 := hI.vs _ (ma 37 rfl) (.inr (ran_of hd 37 (by kernel_rfl))) trivial
      have u_40 : aa.eval (.tmp 40) = .pointer (some ⟨w.heap.size, 23, none⟩) := r_40
      have HH : Has aa 44 [(40, .pointer (some ⟨w.heap.size, 23, none⟩))] := Has.of hI.sz hI.df ⟨u_40, trivial⟩
      refine wpOp_go ho gz 41 rfl ((.slice A3 m.filters.length c3)) ww (run_load rfl (HH.ev rfl) (load1_28 _ _ _ _ _ _ ((hI.wp.get 0 rfl).get 23 _ rfl))) ?_
      exact hI.put (by kernel_rfl) _ (ma 38 rfl) (by rw [hls]; show 38 < 42; decide) (by rw [hls]; decide) ((.slice A3 m.filters.length c3)) rfl hI.wp AllSt.same
    | 39, ho =>
      obtain rfl := pick_op ho rfl
      have r_41 := hI.vs _ (ma 38 rfl) (.inr (ran_of hd 38 (by kernel_rfl))) trivial
      have u_41 : aa.eval (.tmp 41) = (.slice A3 m.filters.length c3) := r_41
      have HH : Has aa 44 [(41, (.slice A3 m.filters.length c3))] := Has.of hI.sz hI.df ⟨u_41, trivial⟩
      refine wpOp_enter ho gz 42 rfl 71 _ (run_callH HH rfl rfl (fun _ _ => by kernel_rfl)) _ (quietC (weighStrs m.filters A3 c3 k3' hF.filters ww ((r3.below hI.wp.own.bel).more hI.wp.own.le))) ?_
      rintro _ _ ⟨rfl, rfl⟩
      exact hI.put (by kernel_rfl) _ (ma 39 rfl) (by rw [hls]; show 39 < 42; decide) (by rw [hls]; decide) (.int .i64 ((filtW m : Nat) : Int)) rfl hI.wp AllSt.same
    | 40, ho =>
      obtain rfl := pick_op ho rfl
      have r_39 := hI.vs _ (ma 36 rfl) (.inr (ran_of hd 36 (by kernel_rfl))) trivial
      have u_39 : aa.eval (.tmp 39) = .int .i64 ((m.client.size + m.wt.size + m.wp.size + m.user.size + m.pass.size + m.codes.length + m.topic.size + m.payload.size + wishW m : Nat) : Int) := r_39
      have r_42 := hI.vs _ (ma 39 rfl) (.inr (ran_of hd 39 (by kernel_rfl))) trivial
      have u_42 : aa.eval (.tmp 42) = .int .i64 ((filtW m : Nat) : Int) := r_42
      have HH : Has aa 44 [(39, .int .i64 ((m.client.size + m.wt.size + m.wp.size + m.user.size + m.pass.size + m.codes.length + m.topic.size + m.payload.size + wishW m : Nat) : Int)), (42, .int .i64 ((filtW m : Nat) : Int))] := Has.of hI.sz hI.df ⟨u_39, u_42, trivial⟩
      refine wpOp_go ho gz 43 rfl (.int .i64 ((m.client.size + m.wt.size + m.wp.size + m.user.size + m.pass.size + m.codes.length + m.topic.size + m.payload.size + wishW m + filtW m : Nat) : Int)) ww (run_bin rfl (HH.ev rfl) (HH.ev rfl) (add_n _ _ (by omega) _ _ _)) ?_
      exact hI.put (by kernel_rfl) _ (ma 40 rfl) (by rw [hls]; show 40 < 42; decide) (by rw [hls]; decide) (.int .i64 ((m.client.size + m.wt.size + m.wp.size + m.user.size + m.pass.size + m.codes.length + m.topic.size + m.payload.size + wishW m + filtW m : Nat) : Int)) rfl hI.wp AllSt.same
    | 41, ho =>
      obtain rfl := pick_op ho rfl
      have r_43 := hI.vs _ (ma 40 rfl) (.inr (ran_of hd 40 (by kernel_rfl))) trivial
      have u_43 : aa.eval (.tmp 43) = .int .i64 ((m.client.size + m.wt.size + m.wp.size + m.user.size + m.pass.size + m.codes.length + m.topic.size + m.payload.size + wishW m + filtW m : Nat) : Int) := r_43
      have HH : Has aa 44 [(43, .int .i64 ((m.client.size + m.wt.size + m.wp.size + m.user.size + m.pass.size + m.codes.length + m.topic.size + m.payload.size + wishW m + filtW m : Nat) : Int))] := Has.of hI.sz hI.df ⟨u_43, trivial⟩
      refine wpOp_go ho gz 2 rfl (.int .i64 ((m.client.size + m.wt.size + m.wp.size + m.user.size + m.pass.size + m.codes.length + m.topic.size + m.payload.size + wishW m + filtW m : Nat) : Int)) ww (run_move (.inr rfl) (HH.ev rfl)) ?_
      exact hI.put (by kernel_rfl) _ (ma 41 rfl) (by rw [hls]; show 41 < 42; decide) (by rw [hls]; decide) (.int .i64 ((m.client.size + m.wt.size + m.wp.size + m.user.size + m.pass.size + m.codes.length + m.topic.size + m.payload.size + wishW m + filtW m : Nat) : Int)) rfl hI.wp AllSt.same
    | (k + 42), ho => simp at ho
  · intro listed a4 w2 hall hI
    have r_2 := hI.vs _ (ma 41 rfl) (.inr (hall 41 (by decide))) trivial
    have H4 : Has a4 44 [(1, .pointer (some ⟨w.heap.size, 0, none⟩)), (2, .int .i64 ((m.client.size + m.wt.size + m.wp.size + m.user.size + m.pass.size + m.codes.length + m.topic.size + m.payload.size + wishW m + filtW m : Nat) : Int))] := Has.of hI.sz hI.df ⟨hI.fx.1, r_2, trivial⟩
    have HB2 := hI.wp
    refine then_normal ?_
    refine wp_ret ?_
    repeat (first | (with_reducible refine block_ret ?_) | (with_reducible refine then_ret ?_))
    exact bodyPost_ret (results_tmp rfl _ _ _) H4.df ⟨congrArg Ending.returned (H4.at_ 2 _ rfl), HB2.own.bel⟩
  · exact InvB.start H3.sz H3.df ⟨H3.at_ 1 _ rfl, trivial⟩ ⟨fun h => absurd h (by show ¬ 42 ≤ 0; decide), fun h => absurd h (by show ¬ 42 ≤ 1; decide), fun h => absurd h (by show ¬ 42 ≤ 2; decide), fun h => absurd h (by show ¬ 42 ≤ 3; decide), fun h => absurd h (by show ¬ 42 ≤ 4; decide), fun h => absurd h (by show ¬ 42 ≤ 5; decide), fun h => absurd h (by show ¬ 42 ≤ 6; decide), fun h => absurd h (by show ¬ 42 ≤ 7; decide), fun h => absurd h (by show ¬ 42 ≤ 8; decide), fun h => absurd h (by show ¬ 42 ≤ 9; decide), fun h => absurd h (by show ¬ 42 ≤ 10; decide), fun h => absurd h (by show ¬ 42 ≤ 11; decide), fun h => absurd h (by show ¬ 42 ≤ 12; decide), fun h => absurd h (by show ¬ 42 ≤ 13; decide), fun h => absurd h (by show ¬ 42 ≤ 14; decide), fun h => absurd h (by show ¬ 42 ≤ 15; decide), fun h => absurd h (by show ¬ 42 ≤ 16; decide), fun h => absurd h (by show ¬ 42 ≤ 17; decide), fun h => absurd h (by show ¬ 42 ≤ 18; decide), fun h => absurd h (by show ¬ 42 ≤ 19; decide), fun h => absurd h (by show ¬ 42 ≤ 20; decide), fun h => absurd h (by show ¬ 42 ≤ 21; decide), fun h => absurd h (by show ¬ 42 ≤ 22; decide), fun h => absurd h (by show ¬ 42 ≤ 23; decide), fun h => absurd h (by show ¬ 42 ≤ 24; decide), fun h => absurd h (by show ¬ 42 ≤ 25; decide), fun h => absurd h (by show ¬ 42 ≤ 26; decide), fun h => absurd h (by show ¬ 42 ≤ 27; decide), fun h => absurd h (by show ¬ 42 ≤ 28; decide), fun h => absurd h (by show ¬ 42 ≤ 29; decide), fun h => absurd h (by show ¬ 42 ≤ 30; decide), fun h => absurd h (by show ¬ 42 ≤ 31; decide), fun h => absurd h (by show ¬ 42 ≤ 32; decide), fun h => absurd h (by show ¬ 42 ≤ 33; decide), fun h => absurd h (by show ¬ 42 ≤ 34; decide), fun h => absurd h (by show ¬ 42 ≤ 35; decide), fun h => absurd h (by show ¬ 42 ≤ 36; decide), fun h => absurd h (by show ¬ 42 ≤ 37; decide), fun h => absurd h (by show ¬ 42 ≤ 38; decide), fun h => absurd h (by show ¬ 42 ≤ 39; decide), fun h => absurd h (by show ¬ 42 ≤ 40; decide), fun h => absurd h (by show ¬ 42 ≤ 41; decide), trivial⟩ HB1.drew
theorem fieldA_0 (g : Nat) (w : World) : (Instr.fieldAt 33 (.pointer (some ⟨g, 0, none⟩)) 0).run Tryd.prog w = .ok (.pointer (some ⟨g, 0, none⟩)) w := by kernel_rfl
theorem fieldA_1 (g : Nat) (w : World) : (Instr.fieldAt 33 (.pointer (some ⟨g, 0, none⟩)) 1).run Tryd.prog w = .ok (.pointer (some ⟨g, 24, none⟩)) w := by kernel_rfl
theorem load1_31 (g o n c : Nat) (A : Option Addr) (w : World) (h : w.cell? ⟨g, o, none⟩ = some (.slice A n c)) : (Instr.loadAt 31 (.pointer (some ⟨g, o, none⟩))).run Tryd.prog w = .ok (.slice A n c) w := by
  simp [go_sem, h]
theorem Cells.front {w : World} {g : Nat} {l1 l2 : List Value} (h : Cells w g (l1 ++ l2)) : Cells w g l1 := fun j v hv => h j v (by rw [List.getElem?_append_left (List.getElem?_eq_some_iff.1 hv).1]; exact hv)
set_option maxRecDepth 100000 in
set_option maxHeartbeats 1600000 in
theorem heavy18 (m : Mq) (vc vw vf : Value) (xs : List UInt8) (AX : Option Addr) (cX : Nat) (w : World) (hL : MqL w w.heap.size m vc vw vf) (hF : MqFit m) :
    Calls Tryd.prog 22 #[.agg (mqCells m vc vw vf ++ [Value.slice AX xs.length cX]).toArray] w fun e w' => ∃ v, e = .returned v ∧ (∃ b, v = .bool b ∧ (b = false → mqW m ≤ 3000 ∧ xs.length ≤ 3000) ∧ Below w.heap.size w w') := by
  go_enter Tryd.func22, Tryd.ntmps22
  refine Has.start 13 [(0, .agg (mqCells m vc vw vf ++ [Value.slice AX xs.length cX]).toArray)] rfl rfl ⟨rfl, trivial⟩ ?_
  intro a0 H0
  have O0 := Own.start w
  repeat (refine wp_seq ?_)
  refine wp_region_list ?_
  refine H0.box rfl rfl rfl rfl rfl ?_
  intro a1 w1 hb hs hC H1
  have O1 := O0.alloc hb hs hC
  clear hb hs hC
  refine H1.move gz (.inr rfl) rfl rfl rfl ?_
  intro a2 H2
  refine nt ?_
  repeat (refine wp_seq ?_)
  refine wp_region_list ?_
  refine H2.field gz rfl rfl rfl rfl fieldA_0 ?_
  intro a3 H3
  refine H3.loadS rfl rfl rfl rfl rfl (O1.get 0 rfl).front Tryd.underlying30 rfl size_mq rfl ?_
  intro a4 H4
  refine H4.call gz rfl rfl rfl rfl (fun _ _ => by kernel_rfl) (belowC (weighMq m _ _ _ _ (hL.next O1.bel) hF)) ?_
  rintro a5 _ w2 ⟨rfl, hb⟩ H5
  have O2 := O1.call hb
  clear hb
  obtain ⟨b1, q1⟩ : ∃ b, decide (3000 < mqW m) = b := ⟨_, rfl⟩
  refine H5.bin gz rfl rfl rfl rfl rfl (gtr_i _ _ b1 (by rw [← q1]; simp; omega) _ _ _) ?_
  intro a6 H6
  refine H6.move gz (.inl rfl) rfl rfl rfl ?_
  intro a7 H7
  cases b1 with
  | true =>
    refine H7.offs 4 rfl ?_
    intro a8 H8
    refine H8.pick gz rfl rfl rfl rfl rfl ?_
    intro a9 H9
    refine H9.move gz (.inr rfl) rfl rfl rfl ?_
    intro a10 H10
    refine nt ?_
    refine wp_ret ?_
    repeat (first | (with_reducible refine block_ret ?_) | (with_reducible refine then_ret ?_))
    exact bodyPost_ret (results_tmp rfl _ _ _) H10.df ⟨_, congrArg Ending.returned (H10.at_ 2 _ rfl), _, rfl, (fun h => by cases h), O2.bel⟩
  | false =>
    refine H7.field (H7.wt rfl rfl rfl) rfl rfl rfl rfl fieldA_1 ?_
    intro a8 H8
    refine H8.load (H8.wt rfl rfl rfl) rfl rfl rfl rfl (load1_31 _ _ _ _ _ _ ((O2.get 0 rfl).get 24 _ rfl)) ?_
    intro a9 H9
    refine H9.len (H9.wt rfl rfl rfl) rfl rfl rfl rfl Tryd.underlying31 ?_
    intro a10 H10
    obtain ⟨b2, q2⟩ : ∃ b, decide (3000 < xs.length) = b := ⟨_, rfl⟩
    refine H10.bin (H10.wt rfl rfl rfl) rfl rfl rfl rfl rfl (gtr_i _ _ b2 (by rw [← q2]; simp; omega) _ _ _) ?_
    intro a11 H11
    refine H11.pick gz rfl rfl rfl rfl rfl ?_
    intro a12 H12
    refine H12.move gz (.inr rfl) rfl rfl rfl ?_
    intro a13 H13
    refine nt ?_
    refine wp_ret ?_
    repeat (first | (with_reducible refine block_ret ?_) | (with_reducible refine then_ret ?_))
    exact bodyPost_ret (results_tmp rfl _ _ _) H13.df ⟨_, congrArg Ending.returned (H13.at_ 2 _ rfl), _, rfl, (fun h => by subst h; simp at q1 q2; omega), O2.bel⟩

end Go.Proofs.YtkcdkjpmbjcmdaaDoor

/-
  How packets that came in read.
-/
namespace Go.Proofs.YtkcdkjpmbjcmdaaDoor
open Go.ChangeShapes Go.WideShapes Go.ChangeAt Go.RowKit Go.Deep

theorem cells_int : Tryd.prog.cellsOf 3 = 1 := by kernel_rfl
theorem cells_str : Tryd.prog.cellsOf 9 = 1 := by kernel_rfl
theorem cells_bool : Tryd.prog.cellsOf 4 = 1 := by kernel_rfl
theorem cells_wish : Tryd.prog.cellsOf 95 = 2 := by kernel_rfl
theorem cells_bytes : Tryd.prog.cellsOf 31 = 1 := by kernel_rfl
theorem cells_ints : Tryd.prog.cellsOf 26 = 1 := by kernel_rfl
theorem cells_strs : Tryd.prog.cellsOf 28 = 1 := by kernel_rfl
theorem cells_wishes : Tryd.prog.cellsOf 27 = 1 := by kernel_rfl
theorem cells_mq : Tryd.prog.cellsOf 30 = 24 := by kernel_rfl
theorem cells_will : Tryd.prog.cellsOf 25 = 5 := by kernel_rfl
theorem bytes_int : Tryd.prog.bytesOf 3 = 8 := by kernel_rfl
theorem bytes_str : Tryd.prog.bytesOf 9 = 16 := by kernel_rfl
theorem bytes_wish : Tryd.prog.bytesOf 95 = 24 := by kernel_rfl
section
variable {H : Type} {enc : TypeId × Value → H} {W : World}
theorem Fit.str {s : ByteArray} (h : Fit (H := H) 9 (.lit (.string s.data.toList))) : Fits s := by
  have h1 : s.data.toList.length ∈ DataW.weights (H := H) Tryd.prog 9 (.lit (.string s.data.toList)) := by
    rw [DataW.weights]
    exact List.mem_singleton.2 rfl
  have h2 := h _ h1
  rw [Array.length_toList] at h2
  exact h2
theorem read_str {n : Nat} {cs : List Value} {x : DataW H × List MemPlace} (hfit : Fit 9 x.1) (h : DataW.trod enc Tryd.prog W 0 (fun _ => true) true n 9 cs = some x) : ∃ s : ByteArray, cs = [.string s] ∧ Fits s := by
  obtain ⟨s, h1, h2, _⟩ := DataW.trod_string Tryd.underlying9 h
  refine ⟨s, h1, ?_⟩
  rw [h2] at hfit
  exact Fit.str hfit
theorem reads_of {a : Addr} {size n : Nat} {xs : List Value} (hl : xs.length = n * size) (hs : 0 < size) (hc : ∀ j u, xs[j]? = some u → W.cell? (a.add j) = some u) : Reads W W.heap.size size (some a) n xs := by
  refine ⟨hl, fun hn => ⟨a, rfl, ?_, hc⟩⟩
  have h0 : 0 < xs.length := by rw [hl]; exact Nat.mul_pos hn hs
  have := World.block_lt_of_cell? W _ (hc 0 _ (List.getElem?_eq_getElem h0))
  rwa [block_of_add] at this
theorem read_ints {n : Nat} {cs : List Value} {x : DataW H × List MemPlace} (hfit : Fit 26 x.1) (h : DataW.trod enc Tryd.prog W 0 (fun _ => true) true n 26 cs = some x) :
    ∃ (l : List Int) (A : Option Addr) (c : Nat), cs = [.slice A l.length c] ∧ l.length ≤ c ∧ l.length ≤ 140737488351232 ∧ Reads W W.heap.size 1 A l.length (l.map iv) := by
  rcases open_ints Tryd.underlying26 Tryd.underlying3 cells_int h with ⟨hcs, _⟩ | ⟨a, len, cap, zs, hcs, _, hl, _, hz, hxe, hc, _⟩
  · exact ⟨[], none, 0, hcs, by simp, by simp, Reads.none_⟩
  · simp only [if_true] at hz
    have hm : cap ≤ 140737488351232 := by
      rw [hxe] at hfit
      have := (hfit.slice Tryd.underlying26).1
      rw [bytes_int] at this
      simp [lits] at this
      omega
    have hlen : (zs.take len).length = len := by rw [List.length_take]; omega
    refine ⟨zs.take len, some a, cap, by rw [hcs, hlen], by omega, by omega, reads_of (by simp) (by decide) ?_⟩
    intro j u hu
    rw [List.getElem?_map] at hu
    obtain ⟨z, hz1, rfl⟩ := Option.map_eq_some_iff.1 hu
    have hj : j < (zs.take len).length := (List.getElem?_eq_some_iff.1 hz1).1
    rw [hlen] at hj
    rw [hc j (by omega)]
    rw [List.getElem?_take_of_lt hj] at hz1
    simp [List.getD, hz1]
theorem read_strs {n : Nat} {cs : List Value} {x : DataW H × List MemPlace} (hfit : Fit 28 x.1) (h : DataW.trod enc Tryd.prog W 0 (fun _ => true) true n 28 cs = some x) :
    ∃ (l : List ByteArray) (A : Option Addr) (c : Nat), cs = [.slice A l.length c] ∧ l.length ≤ c ∧ l.length ≤ 140737488351232 ∧ Reads W W.heap.size 1 A l.length (l.map sv) ∧ ∀ s ∈ l, Fits s := by
  rcases open_strs Tryd.underlying28 Tryd.underlying9 cells_str h with ⟨hcs, _⟩ | ⟨a, len, cap, m, Sx, hcs, _, hl, _, hm, hxe, hi⟩
  · exact ⟨[], none, 0, hcs, by simp, by simp, Reads.none_, fun s hs => by cases hs⟩
  · simp only [if_true] at hm
    rw [hxe] at hfit
    obtain ⟨hw, hf⟩ := hfit.slice Tryd.underlying28
    rw [bytes_str] at hw
    simp at hw
    have hlen : ((List.range len).map Sx).length = len := by simp
    refine ⟨(List.range len).map Sx, some a, cap, by rw [hcs, hlen], by omega, by omega, reads_of (by simp) (by decide) ?_, ?_⟩
    · intro j u hu
      rw [List.getElem?_map, List.getElem?_map] at hu
      obtain ⟨z, hz1, rfl⟩ := Option.map_eq_some_iff.1 hu
      obtain ⟨q, hq, rfl⟩ := Option.map_eq_some_iff.1 hz1
      have hj : j < len := by have := (List.getElem?_eq_some_iff.1 hq).1; simpa using this
      rw [List.getElem?_range hj] at hq
      injection hq with hq
      subst hq
      exact (hi j (by omega)).1
    · intro s hs
      obtain ⟨i, hi2, rfl⟩ := List.mem_map.1 hs
      exact Fit.str (hf _ (List.mem_map.2 ⟨i, hi2, rfl⟩))
def sOf : Value → ByteArray
  | .string s => s
  | _ => nos
def nOf : Value → Int
  | .int _ n => n
  | _ => 0
theorem wv_at (f : Nat → ByteArray × Int) (len j : Nat) (u : Value) (h : (wv ((List.range len).map f))[j]? = some u) : ∃ i, i < len ∧ ((j = i * 2 ∧ u = .string (f i).1) ∨ (j = i * 2 + 1 ∧ u = .int .i64 (f i).2)) := by
  have hj : j < (wv ((List.range len).map f)).length := (List.getElem?_eq_some_iff.1 h).1
  rw [wv_length] at hj
  simp at hj
  have hi : j / 2 < len := by omega
  refine ⟨j / 2, hi, ?_⟩
  obtain ⟨g0, g1⟩ := wv_get ((List.range len).map f) (j / 2) (f (j / 2)) (by rw [List.getElem?_map, List.getElem?_range hi]; rfl)
  rcases Nat.mod_two_eq_zero_or_one j with e | e
  · left
    have : j = j / 2 * 2 + 0 := by omega
    rw [this, g0] at h
    injection h with h
    exact ⟨by omega, h.symm⟩
  · right
    have : j = j / 2 * 2 + 1 := by omega
    rw [this, g1] at h
    injection h with h
    exact ⟨by omega, h.symm⟩
theorem read_wishes {n : Nat} {cs : List Value} {x : DataW H × List MemPlace} (hfit : Fit 27 x.1) (h : DataW.trod enc Tryd.prog W 0 (fun _ => true) true n 27 cs = some x) :
    ∃ (l : List (ByteArray × Int)) (A : Option Addr) (c : Nat), cs = [.slice A l.length c] ∧ l.length ≤ c ∧ l.length ≤ 140737488351232 ∧ Reads W W.heap.size 2 A l.length (wv l) ∧ ∀ s ∈ l, Fits s.1 := by
  rcases open_slice_pairs Tryd.underlying27 Tryd.underlying95 cells_wish rfl rfl cells_str cells_int h with ⟨hcs, _⟩ | ⟨a, len, cap, m, k, V0, V1, D0, D1, P0, P1, hcs, _, hl, _, hm, hxe, hi⟩
  · exact ⟨[], none, 0, hcs, by simp, by simp, Reads.none_, fun s hs => by cases hs⟩
  · simp only [if_true] at hm
    rw [hxe] at hfit
    obtain ⟨hw, hf⟩ := hfit.slice Tryd.underlying27
    rw [bytes_wish] at hw
    simp at hw
    have each : ∀ i, i < m → V0 i = .string (sOf (V0 i)) ∧ V1 i = .int .i64 (nOf (V1 i)) ∧ D0 i = .lit (.string (sOf (V0 i)).data.toList) := by
      intro i hi2
      obtain ⟨_, _, t0, t1⟩ := hi i hi2
      obtain ⟨s, e0, x0, _⟩ := DataW.trod_string Tryd.underlying9 t0
      obtain ⟨z, e1, _, _⟩ := DataW.trod_int Tryd.underlying3 t1
      simp only [List.cons.injEq, and_true] at e0 e1
      simp only [Prod.mk.injEq] at x0
      rw [e0, e1, x0.1]
      exact ⟨rfl, rfl, rfl⟩
    have hlen : ((List.range len).map fun i => (sOf (V0 i), nOf (V1 i))).length = len := by simp
    refine ⟨(List.range len).map fun i => (sOf (V0 i), nOf (V1 i)), some a, cap, by rw [hcs, hlen], by omega, by omega, reads_of (wv_length _) (by decide) ?_, ?_⟩
    · intro j u hu
      obtain ⟨i, hi2, ⟨rfl, rfl⟩ | ⟨rfl, rfl⟩⟩ := wv_at _ _ _ _ hu
      · rw [← (each i (by omega)).1]; exact (hi i (by omega)).1
      · rw [← (each i (by omega)).2.1]; exact (hi i (by omega)).2.1
    · intro s hs
      obtain ⟨i, hi2, rfl⟩ := List.mem_map.1 hs
      have hi3 : i < len := by simpa using hi2
      have hd := hf _ (List.mem_map.2 ⟨i, hi2, rfl⟩)
      rw [(each i (by omega)).2.2] at hd
      refine Fit.str (H := H) fun n hn => hd n ?_
      have hw2 : DataW.weights Tryd.prog 95 (DataW.agg [DataW.lit (.string (sOf (V0 i)).data.toList), D1 i]) = DataW.weightsEach Tryd.prog [9, 3] [DataW.lit (.string (sOf (V0 i)).data.toList), D1 i] := by
        simp [DataW.weights, Tryd.underlying95]
      rw [hw2]
      exact DataW.weights_mem_each (j := 0) rfl rfl n hn
set_option maxRecDepth 100000 in
set_option maxHeartbeats 1600000 in
/-- a packet that came in. -/
theorem read_mq {n : Nat} {cs : List Value} {x : DataW H × List MemPlace} (hlen : cs.length = 24) (hfit : Fit 30 x.1) (h : DataW.trod enc Tryd.prog W 0 (fun _ => true) true n 30 cs = some x) :
    ∃ (m : Mq) (vc vw vf : Value), cs = mqCells m vc vw vf ∧ MqL W W.heap.size m vc vw vf ∧ MqFit m := by
  match cs, hlen with
  | [k0, k1, k2, k3, k4, k5, k6, k7, k8, k9, k10, k11, k12, k13, k14, k15, k16, k17, k18, k19, k20, k21, k22, k23], _ =>
    obtain ⟨ysM, mM, _, exM, _, ylM, hfM⟩ := DataW.trod_struct Tryd.underlying30 h
    rw [exM] at hfit
    have fM_0 := hfM 0 _ rfl
    simp only [List.getElem_toArray, List.getElem_cons_zero, cells_int, List.drop_zero, List.take_succ_cons, List.take_zero] at fM_0
    rw [List.getElem?_eq_getElem (by rw [ylM]; decide)] at fM_0
    obtain ⟨kind, e_kind, _, _⟩ := DataW.trod_int Tryd.underlying3 fM_0
    simp only [List.cons.injEq, and_true] at e_kind
    subst e_kind
    have fM_1 := hfM 1 _ rfl
    simp only [List.getElem_toArray, List.getElem_cons_zero, List.getElem_cons_succ, cells_str, List.drop_zero, List.take_succ_cons, List.take_zero, List.drop_succ_cons] at fM_1
    rw [List.getElem?_eq_getElem (by rw [ylM]; decide)] at fM_1
    have gfM_1 := Fit.struct hfit Tryd.underlying30 1 _ rfl _ (List.getElem?_eq_getElem (by rw [ylM]; decide))
    obtain ⟨client, e_client, t_client⟩ := read_str gfM_1 fM_1
    simp only [List.cons.injEq, and_true] at e_client
    subst e_client
    have fM_2 := hfM 2 _ rfl
    simp only [List.getElem_toArray, List.getElem_cons_zero, List.getElem_cons_succ, cells_bool, List.drop_zero, List.take_succ_cons, List.take_zero, List.drop_succ_cons] at fM_2
    rw [List.getElem?_eq_getElem (by rw [ylM]; decide)] at fM_2
    obtain ⟨clean, e_clean, _⟩ := DataW.trod_bool Tryd.underlying4 fM_2
    simp only [List.cons.injEq, and_true] at e_clean
    subst e_clean
    have fM_3 := hfM 3 _ rfl
    simp only [List.getElem_toArray, List.getElem_cons_zero, List.getElem_cons_succ, cells_int, List.drop_zero, List.take_succ_cons, List.take_zero, List.drop_succ_cons] at fM_3
    rw [List.getElem?_eq_getElem (by rw [ylM]; decide)] at fM_3
    obtain ⟨keep, e_keep, _, _⟩ := DataW.trod_int Tryd.underlying3 fM_3
    simp only [List.cons.injEq, and_true] at e_keep
    subst e_keep
    have fM_4 := hfM 4 _ rfl
    simp only [List.getElem_toArray, List.getElem_cons_zero, List.getElem_cons_succ, cells_will, List.drop_zero, List.take_succ_cons, List.take_zero, List.drop_succ_cons] at fM_4
    rw [List.getElem?_eq_getElem (by rw [ylM]; decide)] at fM_4
    have gfM_4 := Fit.struct hfit Tryd.underlying30 4 _ rfl _ (List.getElem?_eq_getElem (by rw [ylM]; decide))
    obtain ⟨ysW, mW, _, exW, _, ylW, hfW⟩ := DataW.trod_struct Tryd.underlying25 fM_4
    rw [exW] at gfM_4
    have fW_0 := hfW 0 _ rfl
    simp only [List.getElem_toArray, List.getElem_cons_zero, cells_bool, List.drop_zero, List.take_succ_cons, List.take_zero] at fW_0
    rw [List.getElem?_eq_getElem (by rw [ylW]; decide)] at fW_0
    obtain ⟨won, e_won, _⟩ := DataW.trod_bool Tryd.underlying4 fW_0
    simp only [List.cons.injEq, and_true] at e_won
    subst e_won
    have fW_1 := hfW 1 _ rfl
    simp only [List.getElem_toArray, List.getElem_cons_zero, List.getElem_cons_succ, cells_str, List.drop_zero, List.take_succ_cons, List.take_zero, List.drop_succ_cons] at fW_1
    rw [List.getElem?_eq_getElem (by rw [ylW]; decide)] at fW_1
    have gfW_1 := Fit.struct gfM_4 Tryd.underlying25 1 _ rfl _ (List.getElem?_eq_getElem (by rw [ylW]; decide))
    obtain ⟨wt, e_wt, t_wt⟩ := read_str gfW_1 fW_1
    simp only [List.cons.injEq, and_true] at e_wt
    subst e_wt
    have fW_2 := hfW 2 _ rfl
    simp only [List.getElem_toArray, List.getElem_cons_zero, List.getElem_cons_succ, cells_str, List.drop_zero, List.take_succ_cons, List.take_zero, List.drop_succ_cons] at fW_2
    rw [List.getElem?_eq_getElem (by rw [ylW]; decide)] at fW_2
    have gfW_2 := Fit.struct gfM_4 Tryd.underlying25 2 _ rfl _ (List.getElem?_eq_getElem (by rw [ylW]; decide))
    obtain ⟨wp, e_wp, t_wp⟩ := read_str gfW_2 fW_2
    simp only [List.cons.injEq, and_true] at e_wp
    subst e_wp
    have fW_3 := hfW 3 _ rfl
    simp only [List.getElem_toArray, List.getElem_cons_zero, List.getElem_cons_succ, cells_int, List.drop_zero, List.take_succ_cons, List.take_zero, List.drop_succ_cons] at fW_3
    rw [List.getElem?_eq_getElem (by rw [ylW]; decide)] at fW_3
    obtain ⟨wq, e_wq, _, _⟩ := DataW.trod_int Tryd.underlying3 fW_3
    simp only [List.cons.injEq, and_true] at e_wq
    subst e_wq
    have fW_4 := hfW 4 _ rfl
    simp only [List.getElem_toArray, List.getElem_cons_zero, List.getElem_cons_succ, cells_bool, List.drop_zero, List.take_succ_cons, List.take_zero, List.drop_succ_cons] at fW_4
    rw [List.getElem?_eq_getElem (by rw [ylW]; decide)] at fW_4
    obtain ⟨wr, e_wr, _⟩ := DataW.trod_bool Tryd.underlying4 fW_4
    simp only [List.cons.injEq, and_true] at e_wr
    subst e_wr
    have fM_5 := hfM 5 _ rfl
    simp only [List.getElem_toArray, List.getElem_cons_zero, List.getElem_cons_succ, cells_str, List.drop_zero, List.take_succ_cons, List.take_zero, List.drop_succ_cons] at fM_5
    rw [List.getElem?_eq_getElem (by rw [ylM]; decide)] at fM_5
    have gfM_5 := Fit.struct hfit Tryd.underlying30 5 _ rfl _ (List.getElem?_eq_getElem (by rw [ylM]; decide))
    obtain ⟨user, e_user, t_user⟩ := read_str gfM_5 fM_5
    simp only [List.cons.injEq, and_true] at e_user
    subst e_user
    have fM_6 := hfM 6 _ rfl
    simp only [List.getElem_toArray, List.getElem_cons_zero, List.getElem_cons_succ, cells_bool, List.drop_zero, List.take_succ_cons, List.take_zero, List.drop_succ_cons] at fM_6
    rw [List.getElem?_eq_getElem (by rw [ylM]; decide)] at fM_6
    obtain ⟨hu, e_hu, _⟩ := DataW.trod_bool Tryd.underlying4 fM_6
    simp only [List.cons.injEq, and_true] at e_hu
    subst e_hu
    have fM_7 := hfM 7 _ rfl
    simp only [List.getElem_toArray, List.getElem_cons_zero, List.getElem_cons_succ, cells_str, List.drop_zero, List.take_succ_cons, List.take_zero, List.drop_succ_cons] at fM_7
    rw [List.getElem?_eq_getElem (by rw [ylM]; decide)] at fM_7
    have gfM_7 := Fit.struct hfit Tryd.underlying30 7 _ rfl _ (List.getElem?_eq_getElem (by rw [ylM]; decide))
    obtain ⟨pass, e_pass, t_pass⟩ := read_str gfM_7 fM_7
    simp only [List.cons.injEq, and_true] at e_pass
    subst e_pass
    have fM_8 := hfM 8 _ rfl
    simp only [List.getElem_toArray, List.getElem_cons_zero, List.getElem_cons_succ, cells_bool, List.drop_zero, List.take_succ_cons, List.take_zero, List.drop_succ_cons] at fM_8
    rw [List.getElem?_eq_getElem (by rw [ylM]; decide)] at fM_8
    obtain ⟨hp, e_hp, _⟩ := DataW.trod_bool Tryd.underlying4 fM_8
    simp only [List.cons.injEq, and_true] at e_hp
    subst e_hp
    have fM_9 := hfM 9 _ rfl
    simp only [List.getElem_toArray, List.getElem_cons_zero, List.getElem_cons_succ, cells_bool, List.drop_zero, List.take_succ_cons, List.take_zero, List.drop_succ_cons] at fM_9
    rw [List.getElem?_eq_getElem (by rw [ylM]; decide)] at fM_9
    obtain ⟨present, e_present, _⟩ := DataW.trod_bool Tryd.underlying4 fM_9
    simp only [List.cons.injEq, and_true] at e_present
    subst e_present
    have fM_10 := hfM 10 _ rfl
    simp only [List.getElem_toArray, List.getElem_cons_zero, List.getElem_cons_succ, cells_int, List.drop_zero, List.take_succ_cons, List.take_zero, List.drop_succ_cons] at fM_10
    rw [List.getElem?_eq_getElem (by rw [ylM]; decide)] at fM_10
    obtain ⟨code, e_code, _, _⟩ := DataW.trod_int Tryd.underlying3 fM_10
    simp only [List.cons.injEq, and_true] at e_code
    subst e_code
    have fM_11 := hfM 11 _ rfl
    simp only [List.getElem_toArray, List.getElem_cons_zero, List.getElem_cons_succ, cells_ints, List.drop_zero, List.take_succ_cons, List.take_zero, List.drop_succ_cons] at fM_11
    rw [List.getElem?_eq_getElem (by rw [ylM]; decide)] at fM_11
    have gfM_11 := Fit.struct hfit Tryd.underlying30 11 _ rfl _ (List.getElem?_eq_getElem (by rw [ylM]; decide))
    obtain ⟨codes, A1, c1, e_codes, l1, b1, r1⟩ := read_ints gfM_11 fM_11
    simp only [List.cons.injEq, and_true] at e_codes
    subst e_codes
    have fM_12 := hfM 12 _ rfl
    simp only [List.getElem_toArray, List.getElem_cons_zero, List.getElem_cons_succ, cells_bool, List.drop_zero, List.take_succ_cons, List.take_zero, List.drop_succ_cons] at fM_12
    rw [List.getElem?_eq_getElem (by rw [ylM]; decide)] at fM_12
    obtain ⟨dup, e_dup, _⟩ := DataW.trod_bool Tryd.underlying4 fM_12
    simp only [List.cons.injEq, and_true] at e_dup
    subst e_dup
    have fM_13 := hfM 13 _ rfl
    simp only [List.getElem_toArray, List.getElem_cons_zero, List.getElem_cons_succ, cells_int, List.drop_zero, List.take_succ_cons, List.take_zero, List.drop_succ_cons] at fM_13
    rw [List.getElem?_eq_getElem (by rw [ylM]; decide)] at fM_13
    obtain ⟨qos, e_qos, _, _⟩ := DataW.trod_int Tryd.underlying3 fM_13
    simp only [List.cons.injEq, and_true] at e_qos
    subst e_qos
    have fM_14 := hfM 14 _ rfl
    simp only [List.getElem_toArray, List.getElem_cons_zero, List.getElem_cons_succ, cells_bool, List.drop_zero, List.take_succ_cons, List.take_zero, List.drop_succ_cons] at fM_14
    rw [List.getElem?_eq_getElem (by rw [ylM]; decide)] at fM_14
    obtain ⟨retain, e_retain, _⟩ := DataW.trod_bool Tryd.underlying4 fM_14
    simp only [List.cons.injEq, and_true] at e_retain
    subst e_retain
    have fM_15 := hfM 15 _ rfl
    simp only [List.getElem_toArray, List.getElem_cons_zero, List.getElem_cons_succ, cells_str, List.drop_zero, List.take_succ_cons, List.take_zero, List.drop_succ_cons] at fM_15
    rw [List.getElem?_eq_getElem (by rw [ylM]; decide)] at fM_15
    have gfM_15 := Fit.struct hfit Tryd.underlying30 15 _ rfl _ (List.getElem?_eq_getElem (by rw [ylM]; decide))
    obtain ⟨topic, e_topic, t_topic⟩ := read_str gfM_15 fM_15
    simp only [List.cons.injEq, and_true] at e_topic
    subst e_topic
    have fM_16 := hfM 16 _ rfl
    simp only [List.getElem_toArray, List.getElem_cons_zero, List.getElem_cons_succ, cells_int, List.drop_zero, List.take_succ_cons, List.take_zero, List.drop_succ_cons] at fM_16
    rw [List.getElem?_eq_getElem (by rw [ylM]; decide)] at fM_16
    obtain ⟨id, e_id, _, _⟩ := DataW.trod_int Tryd.underlying3 fM_16
    simp only [List.cons.injEq, and_true] at e_id
    subst e_id
    have fM_17 := hfM 17 _ rfl
    simp only [List.getElem_toArray, List.getElem_cons_zero, List.getElem_cons_succ, cells_str, List.drop_zero, List.take_succ_cons, List.take_zero, List.drop_succ_cons] at fM_17
    rw [List.getElem?_eq_getElem (by rw [ylM]; decide)] at fM_17
    have gfM_17 := Fit.struct hfit Tryd.underlying30 17 _ rfl _ (List.getElem?_eq_getElem (by rw [ylM]; decide))
    obtain ⟨payload, e_payload, t_payload⟩ := read_str gfM_17 fM_17
    simp only [List.cons.injEq, and_true] at e_payload
    subst e_payload
    have fM_18 := hfM 18 _ rfl
    simp only [List.getElem_toArray, List.getElem_cons_zero, List.getElem_cons_succ, cells_wishes, List.drop_zero, List.take_succ_cons, List.take_zero, List.drop_succ_cons] at fM_18
    rw [List.getElem?_eq_getElem (by rw [ylM]; decide)] at fM_18
    have gfM_18 := Fit.struct hfit Tryd.underlying30 18 _ rfl _ (List.getElem?_eq_getElem (by rw [ylM]; decide))
    obtain ⟨wishes, A2, c2, e_wishes, l2, b2, r2, t_wishes⟩ := read_wishes gfM_18 fM_18
    simp only [List.cons.injEq, and_true] at e_wishes
    subst e_wishes
    have fM_19 := hfM 19 _ rfl
    simp only [List.getElem_toArray, List.getElem_cons_zero, List.getElem_cons_succ, cells_strs, List.drop_zero, List.take_succ_cons, List.take_zero, List.drop_succ_cons] at fM_19
    rw [List.getElem?_eq_getElem (by rw [ylM]; decide)] at fM_19
    have gfM_19 := Fit.struct hfit Tryd.underlying30 19 _ rfl _ (List.getElem?_eq_getElem (by rw [ylM]; decide))
    obtain ⟨filters, A3, c3, e_filters, l3, b3, r3, t_filters⟩ := read_strs gfM_19 fM_19
    simp only [List.cons.injEq, and_true] at e_filters
    subst e_filters
    exact ⟨{ kind := kind, client := client, clean := clean, keep := keep, won := won, wt := wt, wp := wp, wq := wq, wr := wr, user := user, hu := hu, pass := pass, hp := hp, present := present, code := code, codes := codes, dup := dup, qos := qos, retain := retain, topic := topic, id := id, payload := payload, wishes := wishes, filters := filters }, _, _, _, rfl, ⟨A1, c1, A2, c2, A3, c3, rfl, rfl, rfl, l1, l2, l3, b1, b2, b3, r1, r2, r3⟩, ⟨t_client, t_wt, t_wp, t_user, t_pass, t_topic, t_payload, t_wishes, t_filters⟩⟩
end
/-- the argument of the laws of chapter 18. -/
def AskMq (W : World) (A : Option Addr) (len : Nat) : Prop :=
  ∀ i, i < len → ∃ (b o : Nat) (m : Mq) (vc vw vf : Value) (xs : List UInt8) (AX : Option Addr) (cX : Nat), A = some ⟨b, o, none⟩ ∧ b < W.heap.size ∧ W.rangeAt b (o + i * 25) (mqCells m vc vw vf ++ [Value.slice AX xs.length cX]) ∧
    MqL W W.heap.size m vc vw vf ∧ MqFit m ∧ xs.length ≤ cX ∧ cX ≤ 140737488351232 ∧ RB W W.heap.size AX xs
theorem cells_ask : Tryd.prog.cellsOf 33 = 25 := by kernel_rfl
set_option maxRecDepth 100000 in
theorem AskMq.of {H : Type} {enc : TypeId × Value → H} {W : World} {v : Value} {d : DataW H} {p : List MemPlace} (h : Comes enc W 22 v d p) :
    ∃ (A : Option Addr) (len cap : Nat), v = .slice A len cap ∧ len ≤ cap ∧ cap ≤ maxLen ∧ AskMq W A len := by
  obtain ⟨A, len, cap, fuel, rfl, hl, hc, hi⟩ := read_rows Tryd.underlying22 cells_ask (by decide) h
  refine ⟨A, len, cap, rfl, hl, hc, fun i hlt => ?_⟩
  obtain ⟨b, o, cs, x, hA, hblt, hlen, hcell, htr, hft⟩ := hi i hlt
  obtain ⟨ys, k, _, ex, _, yl, hf⟩ := DataW.trod_struct Tryd.underlying33 htr
  rw [ex] at hft
  have f0 := hf 0 _ rfl
  have f1 := hf 1 _ rfl
  simp only [List.getElem_toArray, List.getElem_cons_zero, List.getElem_cons_succ, cells_mq, cells_bytes, List.drop_zero] at f0 f1
  rw [List.getElem?_eq_getElem (by rw [yl]; decide)] at f0 f1
  have g0 := Fit.struct hft Tryd.underlying33 0 _ rfl _ (List.getElem?_eq_getElem (by rw [yl]; decide))
  have g1 := Fit.struct hft Tryd.underlying33 1 _ rfl _ (List.getElem?_eq_getElem (by rw [yl]; decide))
  obtain ⟨m, vc, vw, vf, e0, hL, hF⟩ := read_mq (by rw [List.length_take]; omega) g0 f0
  obtain ⟨xs, AX, cX, e1, l1, l2, r1⟩ := read_bytes g1 f1
  refine ⟨b, o, m, vc, vw, vf, xs, AX, cX, hA, hblt, ?_, hL, hF, l1, l2, r1⟩
  have ecs : cs = mqCells m vc vw vf ++ [Value.slice AX xs.length cX] := by
    rw [← e0, ← e1]
    have h1 : (cs.drop 24).take 1 = cs.drop 24 := List.take_of_length_le (by rw [List.length_drop]; omega)
    rw [h1, List.take_append_drop]
  intro j u hu
  rw [← ecs] at hu
  have hj : j < 25 := by have := (List.getElem?_eq_some_iff.1 hu).1; omega
  rw [hcell j hj]
  exact hu
end Go.Proofs.YtkcdkjpmbjcmdaaDoor

/-
  The page's check of wishes.
-/
namespace Go.Proofs.YtkcdkjpmbjcmdaaDoor
open Go.RowKit

set_option maxRecDepth 100000 in
theorem refWishes (l : List (ByteArray × Int)) (n : Nat) (hl : l.length = n) (hfit : ∀ s ∈ l, Fits s.1) (A : Option Addr) (c : Nat) (hn : n ≤ 140737488351232) (w : World) (hT : Wd w) (hr : Reads w w.heap.size 2 A n (wv l)) :
    Calls Tryd.prog 55 #[.slice A n c] w fun e w' => e = .returned (.bool (wishesOk l)) ∧ Below w.heap.size w w' := by
  have HF := Lib.hid (show wishesAll (l.drop 0) = wishesAll l from rfl)
  have KW := Lib.hid (fun x w1 => refNumB x 2 w1)
  have HO := Lib.hid (show wishesOk l = (wishesAll l && inRB n 1 8) by unfold wishesOk; rw [hl])
  generalize wishesOk l = Z at *
  have HL := Lib.hid hl
  have HFit := Lib.hid hfit
  have HR := Lib.hid hr
  have HT := Lib.hid hT
  clear hl hfit hr hT
  by_cases h1 : (n : Int) < 1
  · have HP : Hid (inRB n 1 8 = false) := Lib.hid (by unfold inRB; rw [decide_eq_false (by omega)]; rfl)
    go_enter Tryd.func55, Tryd.ntmps55
    go_wp2
    go_ret
    exact ⟨by rw [HO.out, HP.out, Bool.and_false]; rfl, Below.refl _ _⟩
  by_cases h8 : (8 : Int) < n
  · have HP : Hid (inRB n 1 8 = false) := Lib.hid (by unfold inRB; rw [decide_eq_false (show ¬ (n : Int) ≤ 8 by omega), Bool.and_false])
    go_enter Tryd.func55, Tryd.ntmps55
    go_wp2
    go_ret
    exact ⟨by rw [HO.out, HP.out, Bool.and_false]; rfl, Below.refl _ _⟩
  have HP : Hid (inRB n 1 8 = true) := inRB_iff.2 ⟨by omega, by omega⟩
  go_enter Tryd.func55, Tryd.ntmps55
  go_wp2
  go_loopw [3] (fun i wr => ∃ k : Nat, i = .int .i64 k ∧ k ≤ n ∧ Below w.heap.size w wr ∧ Hid (wishesAll (l.drop k) = wishesAll l)) (fun i _ => n - (intOf i).toNat)
  case atStart => exact ⟨0, rfl, Nat.zero_le _, Below.refl _ _, HF⟩
  case round =>
    obtain ⟨k, rfl, hk, hb, hf⟩ := hrel
    by_cases hlt : k < n
    · obtain ⟨b, o, rfl, hblt, hcv⟩ := (HR.out.below hb).get2 hlt
      obtain ⟨x, hx⟩ : ∃ x, l[k]? = some x := ⟨l[k]'(by rw [HL.out]; omega), List.getElem?_eq_getElem _⟩
      obtain ⟨g0, g1⟩ := wv_get l k x hx
      have cv0 := hcv 0 _ (by omega) g0
      have cv1 := hcv 1 _ (by omega) g1
      rw [Nat.add_zero] at cv0
      have hd := drop_of hx
      have hf2 := hf.out
      rw [hd, wishesAll] at hf2
      have HB := Lib.hid hb
      have K := Lib.hid (refTextV x.1 (HFit.out x (List.mem_of_getElem? hx)) 1 64 wr (HT.out.below HB.out))
      have hlt2 : b < wr.heap.size := Nat.lt_of_lt_of_le hblt hb.size
      have HLT2 := Lib.hid hlt2
      have CV1 := Lib.hid cv1
      have K2 := Lib.hid (fun w1 => KW.out x.2 w1)
      clear cv1 hlt2 hblt
      cases h1 : textOk x.1 1 64 with
      | true =>
        rw [h1] at K hf2
        cases h2 : inRB x.2 0 2 with
        | true =>
          rw [h2] at K2 hf2
          have HQ : Hid (wishesAll (l.drop (k + 1)) = wishesAll l) := hf2
          clear hx hd hf2 hf hb h1 h2 g0 g1 hcv
          go_wp2_with (first
            | (go_at_call 50; (with_reducible refine K.out.mono ?_); rintro _ w2 ⟨rfl, hb2⟩; have HB2 := Lib.hid (HB.out.trans (hb2.mono HB.out.size)); have c1 := (cellB hb2 HLT2.out).trans CV1.out; clear hb2)
            | (go_at_call 51; (with_reducible refine (K2.out _).mono ?_); rintro _ w3 ⟨rfl, rfl⟩))
          go_roundw
          case rel => exact ⟨k + 1, by go_num, by omega, HB2.out, HQ⟩
          case measure => simp [intOf]; omega
        | false =>
          rw [h2] at K2 hf2
          have HQ : Hid (wishesAll l = false) := hf2.symm
          clear hx hd hf2 hf hb h1 h2 g0 g1 hcv
          go_wp2_with (first
            | (go_at_call 50; (with_reducible refine K.out.mono ?_); rintro _ w2 ⟨rfl, hb2⟩; have HB2 := Lib.hid (HB.out.trans (hb2.mono HB.out.size)); have c1 := (cellB hb2 HLT2.out).trans CV1.out; clear hb2)
            | (go_at_call 51; (with_reducible refine (K2.out _).mono ?_); rintro _ w3 ⟨rfl, rfl⟩))
          go_ret
          exact ⟨by rw [HO.out, HQ.out]; rfl, HB2.out⟩
      | false =>
        rw [h1] at K hf2
        have HQ : Hid (wishesAll l = false) := hf2.symm
        clear hx hd hf2 hf hb h1 g0 g1 hcv
        go_wp2_with (go_at_call 50; (with_reducible refine K.out.mono ?_); rintro _ w2 ⟨rfl, hb2⟩; have HB2 := Lib.hid (HB.out.trans (hb2.mono HB.out.size)); clear hb2)
        go_ret
        exact ⟨by rw [HO.out, HQ.out]; rfl, HB2.out⟩
    · have HQ : Hid (wishesAll l = true) := by
        have := hf.out
        rw [List.drop_eq_nil_of_le (by rw [HL.out]; omega)] at this
        exact this.symm
      clear hf
      go_wp2
      go_ret
      exact ⟨by rw [HO.out, HP.out, HQ.out]; rfl, hb⟩

end Go.Proofs.YtkcdkjpmbjcmdaaDoor

/-
  pack.May, pack.Check.
-/
namespace Go.Proofs.YtkcdkjpmbjcmdaaDoor
open Go.RowKit

/-- may a packet be? -/
def mayBb (m : Mq) : Bool := okOf m && Mq.same m (onlyOf m)
theorem mayBb_iff (m : Mq) : mayBb m = true ↔ mayB m := by
  unfold mayBb mayB
  rw [Bool.and_eq_true, same_iff]
theorem loadS_run {w : World} {g : Nat} {L : List Value} {m : Nat} (hC : Cells w g L) (hi : (Tryd.prog.info? 30).map (·.size) = some m := by exact size_mq) (hl : L.length = m := by rfl) : (Instr.loadAt 30 (.pointer (some ⟨g, 0, none⟩))).run Tryd.prog w = .ok (.agg L.toArray) w := by
  rw [← hl] at hi
  have := run_loadVar_mid w g 0 30 L _ hC.range Tryd.underlying30 rfl hi
  simp only [Instr.loadAt, Instr.sureAddr, Sem.run_bind, Sem.run_pure, Result.andThen_ok, this]
theorem onlyC (m : Mq) (vc vw vf : Value) (w : World) (b : Bool) (hb : okOf m = b) (hL : MqL w w.heap.size m vc vw vf) (hF : MqFit m) (hW : Wd w) :
    Calls Tryd.prog 72 #[.agg (mqCells m vc vw vf).toArray] w fun e w' => ∃ v, e = .returned v ∧ (∃ vc' vw' vf', v = .tuple #[.agg (mqCells (onlyOf m) vc' vw' vf').toArray, .bool b] ∧ MqL w' w'.heap.size (onlyOf m) vc' vw' vf' ∧ Below w.heap.size w w') := by
  subst hb
  refine (packOnly m vc vw vf w hL hF hW).mono ?_
  rintro e w' ⟨vc', vw', vf', rfl, hM, hB⟩
  exact ⟨_, rfl, vc', vw', vf', rfl, hM, hB⟩
set_option maxRecDepth 100000 in
set_option maxHeartbeats 1600000 in
theorem may_true (m : Mq) (vc vw vf : Value) (w : World) (hL : MqL w w.heap.size m vc vw vf) (hF : MqFit m) (hW : Wd w) (hb0 : okOf m = true) :
    Calls Tryd.prog 48 #[.agg (mqCells m vc vw vf).toArray] w fun e w' => e = .returned (.bool (mayBb m)) ∧ Below w.heap.size w w' := by
  have hm : mayBb m = Mq.same m (onlyOf m) := by unfold mayBb; rw [hb0]; rfl
  go_enter Tryd.func48, Tryd.ntmps48
  refine Has.start 16 [(0, .agg (mqCells m vc vw vf).toArray)] rfl rfl ⟨rfl, trivial⟩ ?_
  intro a0 H0
  have O0 := Own.start w
  repeat (refine wp_seq ?_)
  refine wp_region_list ?_
  refine H0.box rfl rfl rfl rfl rfl ?_
  intro a1 w1 hb hs hC H1
  have O1 := O0.alloc hb hs hC
  clear hb hs hC
  refine H1.move gz (.inr rfl) rfl rfl rfl ?_
  intro a2 H2
  refine nt ?_
  repeat (refine wp_seq ?_)
  refine wp_region_list ?_
  refine H2.loadS rfl rfl rfl rfl rfl (O1.get 0 rfl) Tryd.underlying30 rfl size_mq rfl ?_
  intro a3 H3
  refine H3.call gz rfl rfl rfl rfl (fun _ _ => by kernel_rfl) (onlyC m _ _ _ _ true hb0 (hL.next O1.bel) hF (hW.below O1.bel)) ?_
  rintro a4 _ w2 ⟨vc', vw', vf', rfl, hM, hb⟩ H4
  have O2 := O1.call hb
  clear hb
  refine H4.move gz (.inl rfl) rfl rfl rfl ?_
  intro a5 H5
  refine H5.extract gz rfl rfl rfl rfl (by rfl) ?_
  intro a6 H6
  refine H6.extract gz rfl rfl rfl rfl (by rfl) ?_
  intro a7 H7
  have hM1 := hM
  refine H7.alloc rfl rfl rfl rfl _ zero_mq ?_
  intro a8 w3 hb hs hC H8
  have O3 := O2.alloc hb hs hC
  have hbA := hb
  clear hb hs hC
  obtain ⟨_, _, _, _, _, _, e1, e2, e3, _⟩ := id hM
  refine H8.storeS rfl rfl rfl rfl rfl (O3.get 0 rfl) size_mq rfl rfl (by subst e1 e2 e3; rfl) ?_
  intro a9 w4 H9 hg hs hC
  have O4 := O3.store 0 rfl hg hs hC
  have hgA := hg
  clear hg hs hC
  have hbm := hbA.grown hgA hbA.size (fun k hk => by injection hk with hk; rw [← hk]; exact Nat.le_refl _)
  refine H9.move gz (.inr rfl) rfl rfl rfl ?_
  intro a10 H10
  refine nt ?_
  repeat (refine wp_seq ?_)
  refine wp_region_list ?_
  refine H10.move gz (.inl rfl) rfl rfl rfl ?_
  intro a11 H11
  refine H11.move gz (.inl rfl) rfl rfl rfl ?_
  intro a12 H12
  refine H12.go (H12.wt rfl rfl rfl) rfl rfl _ (run_load rfl (H12.ev rfl) (loadS_run ((O4.get 1 rfl)))) ?_
  intro a13 H13
  refine H13.go (H13.wt rfl rfl rfl) rfl rfl _ (run_load rfl (H13.ev rfl) (loadS_run ((O4.get 0 rfl)))) ?_
  intro a14 H14
  refine H14.call (H14.wt rfl rfl rfl) rfl rfl rfl rfl (fun _ _ => by kernel_rfl) (belowC (packSame m (onlyOf m) _ _ _ _ _ _ _ (hL.next O4.bel) (hM.next hbm))) ?_
  rintro a15 _ w5 ⟨rfl, hb⟩ H15
  have O5 := O4.call hb
  clear hb
  refine H15.pick gz rfl rfl rfl rfl rfl ?_
  intro a16 H16
  refine H16.move gz (.inr rfl) rfl rfl rfl ?_
  intro a17 H17
  refine nt ?_
  refine wp_ret ?_
  repeat (first | (with_reducible refine block_ret ?_) | (with_reducible refine then_ret ?_))
  refine bodyPost_ret (results_tmp rfl _ _ _) H17.df ⟨?_, O5.bel⟩
  rw [hm]
  exact congrArg Ending.returned (H17.at_ 2 _ rfl)
set_option maxRecDepth 100000 in
set_option maxHeartbeats 1600000 in
theorem may_false (m : Mq) (vc vw vf : Value) (w : World) (hL : MqL w w.heap.size m vc vw vf) (hF : MqFit m) (hW : Wd w) (hb0 : okOf m = false) :
    Calls Tryd.prog 48 #[.agg (mqCells m vc vw vf).toArray] w fun e w' => e = .returned (.bool (mayBb m)) ∧ Below w.heap.size w w' := by
  have hm : mayBb m = false := by unfold mayBb; rw [hb0]; rfl
  go_enter Tryd.func48, Tryd.ntmps48
  refine Has.start 16 [(0, .agg (mqCells m vc vw vf).toArray)] rfl rfl ⟨rfl, trivial⟩ ?_
  intro a0 H0
  have O0 := Own.start w
  repeat (refine wp_seq ?_)
  refine wp_region_list ?_
  refine H0.box rfl rfl rfl rfl rfl ?_
  intro a1 w1 hb hs hC H1
  have O1 := O0.alloc hb hs hC
  clear hb hs hC
  refine H1.move gz (.inr rfl) rfl rfl rfl ?_
  intro a2 H2
  refine nt ?_
  repeat (refine wp_seq ?_)
  refine wp_region_list ?_
  refine H2.loadS rfl rfl rfl rfl rfl (O1.get 0 rfl) Tryd.underlying30 rfl size_mq rfl ?_
  intro a3 H3
  refine H3.call gz rfl rfl rfl rfl (fun _ _ => by kernel_rfl) (onlyC m _ _ _ _ false hb0 (hL.next O1.bel) hF (hW.below O1.bel)) ?_
  rintro a4 _ w2 ⟨vc', vw', vf', rfl, hM, hb⟩ H4
  have O2 := O1.call hb
  clear hb
  refine H4.move gz (.inl rfl) rfl rfl rfl ?_
  intro a5 H5
  refine H5.extract gz rfl rfl rfl rfl (by rfl) ?_
  intro a6 H6
  refine H6.extract gz rfl rfl rfl rfl (by rfl) ?_
  intro a7 H7
  have hM1 := hM
  refine H7.alloc rfl rfl rfl rfl _ zero_mq ?_
  intro a8 w3 hb hs hC H8
  have O3 := O2.alloc hb hs hC
  have hbA := hb
  clear hb hs hC
  obtain ⟨_, _, _, _, _, _, e1, e2, e3, _⟩ := id hM
  refine H8.storeS rfl rfl rfl rfl rfl (O3.get 0 rfl) size_mq rfl rfl (by subst e1 e2 e3; rfl) ?_
  intro a9 w4 H9 hg hs hC
  have O4 := O3.store 0 rfl hg hs hC
  have hgA := hg
  clear hg hs hC
  have hbm := hbA.grown hgA hbA.size (fun k hk => by injection hk with hk; rw [← hk]; exact Nat.le_refl _)
  refine H9.move gz (.inr rfl) rfl rfl rfl ?_
  intro a10 H10
  refine nt ?_
  repeat (refine wp_seq ?_)
  refine wp_region_list ?_
  refine H10.move gz (.inl rfl) rfl rfl rfl ?_
  intro a11 H11
  refine H11.move gz (.inl rfl) rfl rfl rfl ?_
  intro a12 H12
  refine H12.off rfl rfl rfl rfl rfl ?_
  intro a13 H13
  refine H13.off rfl rfl rfl rfl rfl ?_
  intro a14 H14
  refine H14.off rfl rfl rfl rfl rfl ?_
  intro a15 H15
  refine H15.pick gz rfl rfl rfl rfl rfl ?_
  intro a16 H16
  refine H16.move gz (.inr rfl) rfl rfl rfl ?_
  intro a17 H17
  refine nt ?_
  refine wp_ret ?_
  repeat (first | (with_reducible refine block_ret ?_) | (with_reducible refine then_ret ?_))
  refine bodyPost_ret (results_tmp rfl _ _ _) H17.df ⟨?_, O4.bel⟩
  rw [hm]
  exact congrArg Ending.returned (H17.at_ 2 _ rfl)
theorem packMay (m : Mq) (vc vw vf : Value) (w : World) (hL : MqL w w.heap.size m vc vw vf) (hF : MqFit m) (hW : Wd w) :
    Calls Tryd.prog 48 #[.agg (mqCells m vc vw vf).toArray] w fun e w' => e = .returned (.bool (mayBb m)) ∧ Below w.heap.size w w' := by
  cases hb : okOf m
  · exact may_false m vc vw vf w hL hF hW hb
  · exact may_true m vc vw vf w hL hF hW hb
set_option maxRecDepth 100000 in
set_option maxHeartbeats 1600000 in
theorem packCheck (m : Mq) (vc vw vf : Value) (w : World) (hL : MqL w w.heap.size m vc vw vf) (hF : MqFit m) (hW : Wd w) :
    Calls Tryd.prog 27 #[.agg (mqCells m vc vw vf).toArray] w fun e w' => e = .returned (.int .i64 (if mayBb m then 0 else 1)) ∧ Below w.heap.size w w' := by
  cases hb : mayBb m
  · go_enter Tryd.func27, Tryd.ntmps27
    refine Has.start 6 [(0, .agg (mqCells m vc vw vf).toArray)] rfl rfl ⟨rfl, trivial⟩ ?_
    intro a0 H0
    have O0 := Own.start w
    repeat (refine wp_seq ?_)
    refine wp_region_list ?_
    refine H0.box rfl rfl rfl rfl rfl ?_
    intro a1 w1 hb hs hC H1
    have O1 := O0.alloc hb hs hC
    clear hb hs hC
    refine H1.move gz (.inr rfl) rfl rfl rfl ?_
    intro a2 H2
    refine nt ?_
    repeat (refine wp_seq ?_)
    refine wp_region_list ?_
    refine H2.loadS rfl rfl rfl rfl rfl (O1.get 0 rfl) Tryd.underlying30 rfl size_mq rfl ?_
    intro a3 H3
    refine H3.call gz rfl rfl rfl rfl (fun _ _ => by kernel_rfl) (belowC (hb ▸ packMay m _ _ _ _ (hL.next O1.bel) hF (hW.below O1.bel))) ?_
    rintro a4 _ w2 ⟨rfl, hb⟩ H4
    have O2 := O1.call hb
    clear hb
    refine H4.un gz rfl rfl rfl rfl rfl ?_
    intro a5 H5
    refine nt ?_
    repeat (refine wp_seq ?_)
    refine H5.condT rfl ?_
    repeat (refine wp_seq ?_)
    refine wp_region_list ?_
    refine H5.move gz (.inr rfl) rfl rfl rfl ?_
    intro a6 H6
    refine nt ?_
    refine wp_ret ?_
    repeat (first | (with_reducible refine block_ret ?_) | (with_reducible refine then_ret ?_))
    exact bodyPost_ret (results_tmp rfl _ _ _) H6.df ⟨congrArg Ending.returned (H6.at_ 2 _ rfl), O2.bel⟩
  · go_enter Tryd.func27, Tryd.ntmps27
    refine Has.start 6 [(0, .agg (mqCells m vc vw vf).toArray)] rfl rfl ⟨rfl, trivial⟩ ?_
    intro a0 H0
    have O0 := Own.start w
    repeat (refine wp_seq ?_)
    refine wp_region_list ?_
    refine H0.box rfl rfl rfl rfl rfl ?_
    intro a1 w1 hb hs hC H1
    have O1 := O0.alloc hb hs hC
    clear hb hs hC
    refine H1.move gz (.inr rfl) rfl rfl rfl ?_
    intro a2 H2
    refine nt ?_
    repeat (refine wp_seq ?_)
    refine wp_region_list ?_
    refine H2.loadS rfl rfl rfl rfl rfl (O1.get 0 rfl) Tryd.underlying30 rfl size_mq rfl ?_
    intro a3 H3
    refine H3.call gz rfl rfl rfl rfl (fun _ _ => by kernel_rfl) (belowC (hb ▸ packMay m _ _ _ _ (hL.next O1.bel) hF (hW.below O1.bel))) ?_
    rintro a4 _ w2 ⟨rfl, hb⟩ H4
    have O2 := O1.call hb
    clear hb
    refine H4.un gz rfl rfl rfl rfl rfl ?_
    intro a5 H5
    refine nt ?_
    repeat (refine wp_seq ?_)
    refine H5.condF rfl ?_
    refine skip_wp ?_
    refine then_normal ?_
    repeat (refine wp_seq ?_)
    refine wp_region_list ?_
    refine H5.move gz (.inr rfl) rfl rfl rfl ?_
    intro a6 H6
    refine nt ?_
    refine wp_ret ?_
    repeat (first | (with_reducible refine block_ret ?_) | (with_reducible refine then_ret ?_))
    exact bodyPost_ret (results_tmp rfl _ _ _) H6.df ⟨congrArg Ending.returned (H6.at_ 2 _ rfl), O2.bel⟩
end Go.Proofs.YtkcdkjpmbjcmdaaDoor
