/-
  Texts of the claim: Body Body8 BodyA InvS Only2 May Lay SizeW Rst RdC RdL RdK ParW ParP BoxQ Concat Fed Parts CliPlain FrB TrFrame FeedW.
-/
import Derived.Maps.AppendAt
import Derived.Deep.LoopGhost
import Derived.Lib.AppendZerosOnto
import Derived.Lib.SliceRun
import Derived.WalkKit
import Derived.Test.YtlacidnnankjlaaGreatDoorCt3
namespace Go.Proofs.YtlacidnnankjlaaGreatDoor
set_option maxRecDepth 100000
set_option maxHeartbeats 25600000
section
open Go.RowKit
def Bodied (m : Mq) (w : World) (e : Ending) (w' : World) : Prop := ∃ v, e = .returned (.tuple #[iz (flagsBy m), v]) ∧ BytesAre (bodyBy m) v w' ∧ Below w.heap.size w w'
theorem bodied_of {m : Mq} {w w' : World} {b : Nat} {bs : List (Nat × List Value)} {f : Int} {xs : List UInt8} {v : Value} (hf : f = ((flagsBy m : Nat) : Int)) (hx : bodyBy m = xs) (hv : BytesAre xs v w') (hb : Base w b bs w') :
  Bodied m w (.returned (.tuple #[iz f, v])) w' := by
 subst hf hx
 exact ⟨v, rfl, hv, hb.own.bel⟩
theorem Laid.row {xs : List UInt8} {w w' : World} {e : Ending} {b : Nat} (h : Laid xs w e w') (hb : b ≤ w.heap.size) : ∃ v', e = .returned v' ∧ (RowIs b xs v' w' ∧ Below b w w') := by
 obtain ⟨v, rfl, hr, hbl⟩ := h
 exact ⟨v, rfl, hr.base hb, hbl.mono hb⟩
theorem mul2 (k : Int) (h0 : 0 ≤ k) (h2 : k ≤ 2) (x y : Operand) (w : World) : (do eqGuard .mul 3 x y (iz 2) (iz k); binOp .mul 3 (iz 2) (iz k) : Sem Value).run Tryz.prog w = .ok (iz ((2 * k.toNat : Nat) : Int)) w := by
 have : k = 0 ∨ k = 1 ∨ k = 2 := by omega
 rcases this with rfl | rfl | rfl <;> simp [go_sem] <;> rfl
theorem pub_or (a b : Bool) (q : Nat) (hq : q ≤ 2) : ((cb a 8 ||| 2 * q) ||| cb b 1) = cb a 8 + 2 * q + cb b 1 := by
 obtain ⟨q', rfl⟩ : ∃ q' : Fin 3, q = q'.val := ⟨⟨q, by omega⟩, rfl⟩
 revert a b q'
 decide
theorem Reads.int {w : World} {B n k : Nat} {A : Option Addr} {l : List Int} (h : Reads w B 1 A n (l.map iv)) (hl : l.length = n) (hk : k < n) : ∃ b o x, A = some ⟨b, o, none⟩ ∧ b < B ∧ l[k]? = some x ∧ w.cell? ⟨b, o + k, none⟩ = some (iz x) := by
 obtain ⟨b, o, v, hA, hb, hv, hc⟩ := h.get1 hk
 have hx : l[k]? = some l[k] := List.getElem?_eq_getElem (by omega)
 rw [List.getElem?_map, hx] at hv
 injection hv with hv
 exact ⟨b, o, _, hA, hb, hx, by rw [hc, ← hv]⟩
theorem Reads.str {w : World} {B n k : Nat} {A : Option Addr} {l : List ByteArray} (h : Reads w B 1 A n (l.map sv)) (hl : l.length = n) (hk : k < n) : ∃ b o x, A = some ⟨b, o, none⟩ ∧ b < B ∧ l[k]? = some x ∧ w.cell? ⟨b, o + k, none⟩ = some (.string x) := by
 obtain ⟨b, o, v, hA, hb, hv, hc⟩ := h.get1 hk
 have hx : l[k]? = some l[k] := List.getElem?_eq_getElem (by omega)
 rw [List.getElem?_map, hx] at hv
 injection hv with hv
 exact ⟨b, o, _, hA, hb, hx, by rw [hc, ← hv]⟩
theorem codesAll_get : ∀ {l : List Int} {k : Nat} {x : Int}, codesAll l = true → l[k]? = some x → 0 ≤ x ∧ x ≤ 128
 | y :: l, 0, x, h, hx => by
  simp only [List.getElem?_cons_zero, Option.some.injEq] at hx
  subst hx
  obtain ⟨a, b, _⟩ := codesAll_mem rfl h
  exact ⟨a, b⟩
 | y :: l, k + 1, x, h, hx => codesAll_get (codesAll_mem rfl h).2.2 (by simpa using hx)
theorem filtersAll_get : ∀ {l : List ByteArray} {k : Nat} {x : ByteArray}, filtersAll l = true → l[k]? = some x → x.size ≤ 64
 | y :: l, 0, x, h, hx => by
  simp only [List.getElem?_cons_zero, Option.some.injEq] at hx
  subst hx
  exact (filtersAll_mem rfl h).1
 | y :: l, k + 1, x, h, hx => filtersAll_get (filtersAll_mem rfl h).2 (by simpa using hx)
theorem filtersAll_take : ∀ {l : List ByteArray} (k : Nat), filtersAll l = true → filtersAll (l.take k) = true
 | _, 0, _ => by simp [filtersAll]
 | [], k + 1, _ => by simp [filtersAll]
 | y :: l, k + 1, h => by
  simp only [filtersAll, Bool.and_eq_true] at h
  simp only [List.take_succ_cons, filtersAll, Bool.and_eq_true]
  exact ⟨h.1, filtersAll_take k h.2⟩
theorem wishesAll_get : ∀ {l : List (ByteArray × Int)} {k : Nat} {x : ByteArray × Int}, wishesAll l = true → l[k]? = some x → x.1.size ≤ 64 ∧ 0 ≤ x.2 ∧ x.2 ≤ 2
 | y :: l, 0, x, h, hx => by
  simp only [List.getElem?_cons_zero, Option.some.injEq] at hx
  subst hx
  obtain ⟨a, b, c, _⟩ := wishesAll_mem rfl h
  exact ⟨a, b, c⟩
 | y :: l, k + 1, x, h, hx => wishesAll_get (wishesAll_mem rfl h).2.2.2 (by simpa using hx)
theorem wishesAll_take : ∀ {l : List (ByteArray × Int)} (k : Nat), wishesAll l = true → wishesAll (l.take k) = true
 | _, 0, _ => by simp [wishesAll]
 | [], k + 1, _ => by simp [wishesAll]
 | y :: l, k + 1, h => by
  simp only [wishesAll, Bool.and_eq_true] at h
  simp only [List.take_succ_cons, wishesAll, Bool.and_eq_true]
  exact ⟨h.1, wishesAll_take k h.2⟩
theorem codesBy_app : ∀ (a : List Int) (x : Int), codesBy (a ++ [x]) = codesBy a ++ [UInt8.ofNat x.toNat]
 | [], _ => rfl
 | y :: a, x => by simp [codesBy, codesBy_app a x]
theorem filtersBy_app : ∀ (a : List ByteArray) (x : ByteArray), filtersBy (a ++ [x]) = filtersBy a ++ strB x
 | [], x => by simp [filtersBy]
 | y :: a, x => by simp [filtersBy, filtersBy_app a x]
theorem wishesBy_app : ∀ (a : List (ByteArray × Int)) (x : ByteArray × Int), wishesBy (a ++ [x]) = wishesBy a ++ (strB x.1 ++ [UInt8.ofNat x.2.toNat])
 | [], x => by simp [wishesBy]
 | y :: a, x => by simp [wishesBy, wishesBy_app a x]
theorem body_1 (m : Mq) (vc vw vf : Value) (w : World) (hk : m.kind = 1) (hc : m.client.size ≤ 65535) (ht : m.wt.size ≤ 65535) (hp : m.wp.size ≤ 65535) (hu' : m.user.size ≤ 65535) (hp' : m.pass.size ≤ 65535) (hk0 : 0 ≤ m.keep) (hk1 : m.keep ≤ 65535) (hq0 : 0 ≤ m.wq) (hq2 : m.wq ≤ 2) :
  Calls Tryz.prog 133 #[.agg (mqCells m vc vw vf).toArray] w (Bodied m w) := by
 have b1 : (m.kind == 1) = true := kind_eq hk
 go_enter Tryz.func133, Tryz.ntmps133
 refine Has.start 123 [(0, .agg (mqCells m vc vw vf).toArray)] rfl rfl ⟨rfl, trivial⟩ ?_
 intro a0 H0
 have O0 := Own.start w
 refine rl ?_
 refine H0.bx O0 2 fun a3 w1 O1 H3 => nt ?_
 have HB1 := Base.of O1
 obtain ⟨b0, hb0⟩ : ∃ b0, b0 = w1.heap.size := ⟨_, rfl⟩
 rw [← hb0] at HB1
 have hb0' := hb0
 clear hb0
 refine H3.rg 1 fun a4 H4 => ?_
 refine H4.ld 0 (HB1.own.li 0 0) fun a5 H5 => nt ?_
 have H6 := H5.kp [1, 2, 3, 11]
 repeat (refine wp_seq ?_)
 refine wp_block ?_
 refine rl ?_
 refine H6.bn 1 (eql_iB _ _ _ b1 _ _ _) fun a8 H8 => nt ?_
 refine H8.condT rfl ?_
 refine rl ?_
 refine H8.lm HB1.own 0 0 fun a9 H9 => ?_
 refine H9.cl (((layConnectW m _ _ _ _ hc ht hp hu' hp' hk0 hk1 hq0 hq2).mono fun _ _ h => h.row HB1.bw)) ?_
 rintro a10 v15 w2 ⟨R15, hb⟩ H10
 have HB2 := HB1.step hb
 clear hb
 refine H10.ms 2 fun a12 H12 => nt ?_
 refine wp_ret ?_
 repeat (first | (with_reducible refine block_ret ?_) | (with_reducible refine then_ret ?_))
 refine bodyPost_ret (results_pair rfl _ _ _ (H12.at_ 2 _ rfl) (H12.at_ 3 _ rfl)) H12.df ?_
 refine bodied_of (by unfold flagsBy; simp [hk]) ?_ R15.read HB2
 unfold bodyBy; rw [if_pos hk]
theorem body_2 (m : Mq) (vc vw vf : Value) (w : World) (hk : m.kind = 2) (hc0 : 0 ≤ m.code) :
  Calls Tryz.prog 133 #[.agg (mqCells m vc vw vf).toArray] w (Bodied m w) := by
 have b1 : (m.kind == 1) = false := kind_ne hk rfl
 have b2 : (m.kind == 2) = true := kind_eq hk
 go_enter Tryz.func133, Tryz.ntmps133
 refine Has.start 123 [(0, .agg (mqCells m vc vw vf).toArray)] rfl rfl ⟨rfl, trivial⟩ ?_
 intro a0 H0
 have O0 := Own.start w
 refine rl ?_
 refine H0.bx O0 2 fun a3 w1 O1 H3 => nt ?_
 have HB1 := Base.of O1
 obtain ⟨b0, hb0⟩ : ∃ b0, b0 = w1.heap.size := ⟨_, rfl⟩
 rw [← hb0] at HB1
 have hb0' := hb0
 clear hb0
 refine H3.rg 1 fun a4 H4 => ?_
 refine H4.ld 0 (HB1.own.li 0 0) fun a5 H5 => nt ?_
 have H6 := H5.kp [1, 2, 3, 11]
 repeat (refine wp_seq ?_)
 refine wp_block ?_
 refine rl ?_
 refine H6.bn 1 (eql_iB _ _ _ b1 _ _ _) fun a8 H8 => nt ?_
 refine H8.condF rfl ?_
 refine rl ?_
 refine H8.bn 1 (eql_iB _ _ _ b2 _ _ _) fun a10 H10 => nt ?_
 refine H10.condT rfl ?_
 refine H10.dr HB1 [1] rfl [ec 0 18 (.pointer (some ⟨w.heap.size, 13, none⟩)), ec 1 19 (.bool m.present), ec 2 20 (iz (cb m.present 1)), ec 3 21 (.int .u8 (((cb m.present 1 : Nat) : Int) % 256)), ec 4 22 (.pointer (some ⟨w.heap.size, 14, none⟩)), ec 5 23 (iz m.code), ec 6 24 (.int .u8 (m.code % 256)), er 7 25 [] (fun v w => BytesAre [UInt8.ofNat (cb m.present 1), UInt8.ofNat m.code.toNat] v w), ec 8 2 (iz 0), er 9 3 [] (fun v w => BytesAre [UInt8.ofNat (cb m.present 1), UInt8.ofNat m.code.toNat] v w)] rfl ⟨jm, (jl fun _ h => h.own.lb 0 13), (jq fun ww _ => (packBitN m.present 1 1 rfl ww)), (jc fun _ => (conv_u8 _ _)), jm, (jl fun _ h => h.own.li 0 14), (jc fun _ => (conv_u8 _ _)), jm, trivial⟩ trivial ?_ ?_
 ·intro listed aa ww i o hs hni hcl ho hd hI hh
  have hls : listed.size = 10 := hs
  rcases hh with rfl | rfl | hh
  ·obtain rfl := pick_op ho rfl
   have r_21 := hI.vs _ (ma 3 rfl) (.inr (ran_of hd 3 (by kernel_rfl))) trivial
   have u_21 : aa.eval (.tmp 21) = .int .u8 (((cb m.present 1 : Nat) : Int) % 256) := r_21
   have r_24 := hI.vs _ (ma 6 rfl) (.inr (ran_of hd 6 (by kernel_rfl))) trivial
   have u_24 : aa.eval (.tmp 24) = .int .u8 (m.code % 256) := r_24
   have HH : Has aa 123 [(21, .int .u8 (((cb m.present 1 : Nat) : Int) % 256)), (24, .int .u8 (m.code % 256))] := Has.of hI.sz hI.df ⟨u_21, u_24, trivial⟩
   obtain ⟨hby, hb⟩ := bytes_lit ww [UInt8.ofNat (cb m.present 1), UInt8.ofNat m.code.toNat] [.int .u8 (((cb m.present 1 : Nat) : Int) % 256), .int .u8 (m.code % 256)] (by rw [byte_of_int _ (by omega), byte_of_int _ hc0]; rfl) 5 2 rfl
   refine wpOp_go ho gz 25 rfl (.slice (some ⟨ww.heap.size, 0, none⟩) 2 2) (ww.alloc (.cells ([.int .u8 (((cb m.present 1 : Nat) : Int) % 256), .int .u8 (m.code % 256)] : List Value).toArray 5)) (run_any HH (by intro cs b h; cases h) (by kernel_rfl) (by kernel_rfl)) ?_
   exact hI.ph hls 7 rfl (.slice (some ⟨ww.heap.size, 0, none⟩) 2 2) hby (hI.wp.call hb) ⟨fun h => absurd rfl h, fun _ _ _ _ _ h => h.below hb, trivial⟩
  ·obtain rfl := pick_op ho rfl
   have r_25 := hI.vs _ (ma 7 rfl) (.inr (ran_of hd 7 (by kernel_rfl))) trivial
   have HH : Has aa 123 [(25, aa.eval (.tmp 25))] := Has.of hI.sz hI.df ⟨rfl, trivial⟩
   refine wpOp_go ho gz 3 rfl (aa.eval (.tmp 25)) ww (run_move (.inr rfl) (HH.ev rfl)) ?_
   exact hI.ph hls 9 rfl (aa.eval (.tmp 25)) r_25 hI.wp AllC.same
  ·exact False.elim hh
 ·intro listed a11 w2 hall hI
  have r_2 := hI.vs _ (ma 8 rfl) (.inr (hall 8 (by decide))) trivial
  have r_3 := hI.vs _ (ma 9 rfl) (.inr (hall 9 (by decide))) trivial
  have H11 : Has a11 123 [(1, pz w.heap.size), (2, iz 0), (3, a11.eval (.tmp 3))] := Has.of hI.sz hI.df ⟨hI.fx.1, r_2, rfl, trivial⟩
  have HB2 := hI.wp
  have R3_2 : BytesAre [UInt8.ofNat (cb m.present 1), UInt8.ofNat m.code.toNat] (a11.eval (.tmp 3)) w2 := r_3
  refine then_normal ?_
  refine wp_ret ?_
  repeat (first | (with_reducible refine block_ret ?_) | (with_reducible refine then_ret ?_))
  refine bodyPost_ret (results_pair rfl _ _ _ (H11.at_ 2 _ rfl) (H11.at_ 3 _ rfl)) H11.df ?_
  refine bodied_of (by unfold flagsBy; simp [hk]) ?_ R3_2 HB2
  unfold bodyBy; simp [hk]
theorem body_3 (m : Mq) (vc vw vf : Value) (w : World) (hk : m.kind = 3) (ht : m.topic.size ≤ 65535) (hp : m.payload.size ≤ 65535) (hq0 : 0 ≤ m.qos) (hq2 : m.qos ≤ 2) (hi0 : 0 ≤ m.id) (hi1 : m.id ≤ 65535) :
  Calls Tryz.prog 133 #[.agg (mqCells m vc vw vf).toArray] w (Bodied m w) := by
 have b1 : (m.kind == 1) = false := kind_ne hk rfl
 have b2 : (m.kind == 2) = false := kind_ne hk rfl
 have b3 : (m.kind == 3) = true := kind_eq hk
 go_enter Tryz.func133, Tryz.ntmps133
 refine Has.start 123 [(0, .agg (mqCells m vc vw vf).toArray)] rfl rfl ⟨rfl, trivial⟩ ?_
 intro a0 H0
 have O0 := Own.start w
 refine rl ?_
 refine H0.bx O0 2 fun a3 w1 O1 H3 => nt ?_
 have HB1 := Base.of O1
 obtain ⟨b0, hb0⟩ : ∃ b0, b0 = w1.heap.size := ⟨_, rfl⟩
 rw [← hb0] at HB1
 have hb0' := hb0
 clear hb0
 refine H3.rg 1 fun a4 H4 => ?_
 refine H4.ld 0 (HB1.own.li 0 0) fun a5 H5 => nt ?_
 have H6 := H5.kp [1, 2, 3, 11]
 repeat (refine wp_seq ?_)
 refine wp_block ?_
 refine rl ?_
 refine H6.bn 1 (eql_iB _ _ _ b1 _ _ _) fun a8 H8 => nt ?_
 refine H8.condF rfl ?_
 refine rl ?_
 refine H8.bn 1 (eql_iB _ _ _ b2 _ _ _) fun a10 H10 => nt ?_
 refine H10.condF rfl ?_
 refine rl ?_
 refine H10.bn 1 (eql_iB _ _ _ b3 _ _ _) fun a12 H12 => nt ?_
 refine H12.condT rfl ?_
 refine wp_seq_join (fun a w' => ∃ v, Has a 123 [(1, pz w.heap.size), (3, v)] ∧ RowIs b0 (([] ++ strB m.topic) ++ (if 0 < m.qos then big 2 m.id.toNat else [])) v w' ∧ Base w b0 [(w.heap.size, (mqCells m vc vw vf))] w') ?_ ?_
 ·skip
  refine H12.rg 1 fun a13 H13 => ?_
  refine H13.ld 0 (HB1.own.ls 0 19) fun a14 H14 => ?_
  refine H14.cl (rowText b0 [] _ m.topic ht _ (RowIs.nil _ _) HB1.bw (by simp)) ?_
  rintro a15 v30 w2 ⟨R30, hb⟩ H15
  have HB2 := HB1.step hb
  clear hb
  refine H15.ms 1 fun a16 H16 => nt ?_
  by_cases hq : 0 < m.qos
  ·skip
   refine H16.rg 1 fun a17 H17 => ?_
   refine H17.ld 0 (HB2.own.li 0 17) fun a18 H18 => ?_
   refine H18.bb 0 rfl rfl rfl rfl rfl rfl (gtr_i _ _ true (by simpa using hq) _ _ _) rfl fun a19 H19 => nt ?_
   refine H19.condT rfl ?_
   refine H19.rg 2 fun a21 H21 => ?_
   refine H21.ld 0 (HB2.own.li 0 20) fun a22 H22 => ?_
   refine H22.cl (rowTwo b0 ([] ++ strB m.topic) _ m.id hi0 hi1 _ R30 HB2.bw (by simp only [List.length_append, strB_length, List.length_nil]; omega)) ?_
   rintro a23 v37 w3 ⟨R37, hb⟩ H23
   have HB3 := HB2.step hb
   clear hb
   refine H23.ms 1 fun a24 H24 => nt ?_
   exact ⟨_, H24.keep ⟨rfl, rfl, trivial⟩, (by rw [if_pos hq]; exact R37), HB3⟩
  ·skip
   refine H16.rg 1 fun a17 H17 => ?_
   refine H17.ld 0 (HB2.own.li 0 17) fun a18 H18 => ?_
   refine H18.bb 0 rfl rfl rfl rfl rfl rfl (gtr_i _ _ false (by simpa using hq) _ _ _) rfl fun a19 H19 => nt ?_
   refine H19.condF rfl ?_
   refine skip_wp ?_
   refine then_normal ?_
   exact ⟨_, H19.keep ⟨rfl, rfl, trivial⟩, (by rw [if_neg hq, List.append_nil]; exact R30), HB2⟩
 ·rintro a46 w12 ⟨v3, H46, R3, HB12⟩
  have hl1 : (if 0 < m.qos then big 2 m.id.toNat else []).length ≤ 2 := by split <;> simp [big_length]
  have g1 : cb m.dup 8 < 256 := cb_lt _ _ (by decide)
  have g2 : 2 * m.qos.toNat < 256 := by omega
  have g3 : (cb m.dup 8 ||| 2 * m.qos.toNat) < 256 := or_lt8 g1 g2
  have g4 : cb m.retain 1 < 256 := cb_lt _ _ (by decide)
  have gf : ((cb m.dup 8 ||| 2 * m.qos.toNat) ||| cb m.retain 1) = cb m.dup 8 + 2 * m.qos.toNat + cb m.retain 1 := pub_or _ _ _ (by omega)
  refine H46.dr HB12 [1] rfl [ec 0 38 (.pointer (some ⟨w.heap.size, 16, none⟩)), ec 1 39 (.bool m.dup), ec 2 40 (iz (cb m.dup 8)), ec 3 41 (.pointer (some ⟨w.heap.size, 17, none⟩)), ec 4 42 (iz m.qos), ec 5 43 (iz ((2 * m.qos.toNat : Nat) : Int)), ec 6 44 (iz (((cb m.dup 8 ||| 2 * m.qos.toNat) : Nat) : Int)), ec 7 45 (.pointer (some ⟨w.heap.size, 18, none⟩)), ec 8 46 (.bool m.retain), ec 9 47 (iz (cb m.retain 1)), ec 10 48 (iz ((((cb m.dup 8 ||| 2 * m.qos.toNat) ||| cb m.retain 1) : Nat) : Int)), er 11 49 [14] (fun v w => RowIs b0 (([] ++ strB m.topic) ++ (if 0 < m.qos then big 2 m.id.toNat else [])) v w), ec 12 50 (.pointer (some ⟨w.heap.size, 21, none⟩)), ec 13 51 (.string m.payload), er 14 52 [] (fun v w => RowIs b0 ((([] ++ strB m.topic) ++ (if 0 < m.qos then big 2 m.id.toNat else [])) ++ sb m.payload) v w), ec 15 2 (iz ((((cb m.dup 8 ||| 2 * m.qos.toNat) ||| cb m.retain 1) : Nat) : Int)), er 16 3 [] (fun v w => RowIs b0 ((([] ++ strB m.topic) ++ (if 0 < m.qos then big 2 m.id.toNat else [])) ++ sb m.payload) v w), er 1000 3 [14, 16] (fun v w => RowIs b0 (([] ++ strB m.topic) ++ (if 0 < m.qos then big 2 m.id.toNat else [])) v w)] rfl ⟨jm, (jl fun _ h => h.own.lb 0 16), (jq fun ww _ => (packBitN m.dup 8 8 rfl ww)), jm, (jl fun _ h => h.own.li 0 17), (jb fun _ => (mul2 _ hq0 hq2 _ _ _)), (jb fun _ => (or_i _ _ (lt8 g1) (lt8 g2) _ _ _)), jm, (jl fun _ h => h.own.lb 0 18), (jq fun ww _ => (packBitN m.retain 1 1 rfl ww)), (jb fun _ => (or_i _ _ (lt8 g3) (lt8 g4) _ _ _)), jm, (jl fun _ h => h.own.ls 0 21), jm, trivial⟩ ⟨(by rw [H46.at_ 3 _ rfl]; exact R3.drew), trivial⟩ ?_ ?_
  ·intro listed aa ww i o hs hni hcl ho hd hI hh
   have hls : listed.size = 17 := hs
   rcases hh with rfl | rfl | rfl | hh
   ·obtain rfl := pick_op ho rfl
    have r_3 := hI.vs _ (ma 17 rfl) (.inl (by rw [hls]; show 17 ≤ 1000; decide)) ⟨(Bool.eq_false_iff.2 fun h => absurd (hni.symm.trans (ran_of (hcl 14 _ rfl h) 11 (by kernel_rfl))) (by decide)), (Bool.eq_false_iff.2 fun h => absurd (hni.symm.trans (ran_of (hcl 14 _ rfl (ran_of (hcl 16 _ rfl h) 14 (by kernel_rfl))) 11 (by kernel_rfl))) (by decide)), trivial⟩
    have HH : Has aa 123 [(3, aa.eval (.tmp 3))] := Has.of hI.sz hI.df ⟨rfl, trivial⟩
    refine wpOp_go ho gz 49 rfl (aa.eval (.tmp 3)) ww (run_move (.inl rfl) (HH.ev rfl)) ?_
    exact hI.ph hls 11 rfl (aa.eval (.tmp 3)) r_3 hI.wp AllC.same
   ·obtain rfl := pick_op ho rfl
    have r_49 := hI.vs _ (ma 11 rfl) (.inr (ran_of hd 11 (by kernel_rfl))) ⟨hni, trivial⟩
    have r_51 := hI.vs _ (ma 13 rfl) (.inr (ran_of hd 13 (by kernel_rfl))) trivial
    have u_51 : aa.eval (.tmp 51) = .string m.payload := r_51
    have HH : Has aa 123 [(49, aa.eval (.tmp 49)), (51, .string m.payload)] := Has.of hI.sz hI.df ⟨rfl, u_51, trivial⟩
    obtain ⟨v', w', hrun, hrow, hb0, hg⟩ := run_append_strR (P := Tryz.prog) (a := aa) (w := ww) Tryz.underlying31 Tryz.underlying9 info_u8 (o := ⟨some 52, _, _, _, _, none⟩) rfl rfl u_51 r_49 (by simp only [List.length_append, strB_length, List.length_nil]; omega) hI.wp.bw
    refine wpOp_go ho gz 52 rfl v' w' hrun ?_
    exact hI.ph hls 14 rfl (v') hrow (hI.wp.step hb0) ⟨fun _ h => absurd (by show 14 ∈ ([14] : List Nat); decide) h, fun h => absurd rfl h, fun _ _ h => absurd (hni.symm.trans (ran_of (hcl 16 _ rfl (h.resolve_left (by rw [hls]; show ¬ 17 ≤ 16; decide))) 14 (by kernel_rfl))) (by decide), fun _ h => absurd (by show 14 ∈ ([14, 16] : List Nat); decide) h, trivial⟩
   ·obtain rfl := pick_op ho rfl
    have r_52 := hI.vs _ (ma 14 rfl) (.inr (ran_of hd 14 (by kernel_rfl))) trivial
    have HH : Has aa 123 [(52, aa.eval (.tmp 52))] := Has.of hI.sz hI.df ⟨rfl, trivial⟩
    refine wpOp_go ho gz 3 rfl (aa.eval (.tmp 52)) ww (run_move (.inr rfl) (HH.ev rfl)) ?_
    exact hI.ph hls 16 rfl (aa.eval (.tmp 52)) r_52 hI.wp AllC.same
   ·exact False.elim hh
  ·intro listed a47 w13 hall hI
   have r_2 := hI.vs _ (ma 15 rfl) (.inr (hall 15 (by decide))) trivial
   have r_3 := hI.vs _ (ma 16 rfl) (.inr (hall 16 (by decide))) trivial
   have H47 : Has a47 123 [(1, pz w.heap.size), (2, iz ((((cb m.dup 8 ||| 2 * m.qos.toNat) ||| cb m.retain 1) : Nat) : Int)), (3, a47.eval (.tmp 3))] := Has.of hI.sz hI.df ⟨hI.fx.1, r_2, rfl, trivial⟩
   have HB13 := hI.wp
   have R3_13 : RowIs b0 ((([] ++ strB m.topic) ++ (if 0 < m.qos then big 2 m.id.toNat else [])) ++ sb m.payload) (a47.eval (.tmp 3)) w13 := r_3
   refine then_normal ?_
   refine wp_ret ?_
   repeat (first | (with_reducible refine block_ret ?_) | (with_reducible refine then_ret ?_))
   refine bodyPost_ret (results_pair rfl _ _ _ (H47.at_ 2 _ rfl) (H47.at_ 3 _ rfl)) H47.df ?_
   refine bodied_of (by rw [gf]; unfold flagsBy; rw [if_pos hk]) ?_ R3_13.read HB13
   unfold bodyBy; rw [if_neg (by rw [hk]; decide), if_neg (by rw [hk]; decide), if_pos hk]; rfl
theorem body_i (m : Mq) (vc vw vf : Value) (w : World) (b1 : (m.kind == 1) = false) (b2 : (m.kind == 2) = false) (b3 : (m.kind == 3) = false) (b8 : (m.kind == 8) = false) (b9 : (m.kind == 9) = false) (b10 : (m.kind == 10) = false) (b12 : (m.kind == 12) = false) (b13 : (m.kind == 13) = false) (b14 : (m.kind == 14) = false) (kb : Bool) (bk : (m.kind == 6) = kb) (hi0 : 0 ≤ m.id) (hi1 : m.id ≤ 65535) :
  Calls Tryz.prog 133 #[.agg (mqCells m vc vw vf).toArray] w (Bodied m w) := by
 go_enter Tryz.func133, Tryz.ntmps133
 refine Has.start 123 [(0, .agg (mqCells m vc vw vf).toArray)] rfl rfl ⟨rfl, trivial⟩ ?_
 intro a0 H0
 have O0 := Own.start w
 refine rl ?_
 refine H0.bx O0 2 fun a3 w1 O1 H3 => nt ?_
 have HB1 := Base.of O1
 obtain ⟨b0, hb0⟩ : ∃ b0, b0 = w1.heap.size := ⟨_, rfl⟩
 rw [← hb0] at HB1
 have hb0' := hb0
 clear hb0
 refine H3.rg 1 fun a4 H4 => ?_
 refine H4.ld 0 (HB1.own.li 0 0) fun a5 H5 => nt ?_
 have H6 := H5.kp [1, 2, 3, 11]
 repeat (refine wp_seq ?_)
 refine wp_block ?_
 refine rl ?_
 refine H6.bn 1 (eql_iB _ _ _ b1 _ _ _) fun a8 H8 => nt ?_
 refine H8.condF rfl ?_
 refine rl ?_
 refine H8.bn 1 (eql_iB _ _ _ b2 _ _ _) fun a10 H10 => nt ?_
 refine H10.condF rfl ?_
 refine rl ?_
 refine H10.bn 1 (eql_iB _ _ _ b3 _ _ _) fun a12 H12 => nt ?_
 refine H12.condF rfl ?_
 refine rl ?_
 refine H12.bn 1 (eql_iB _ _ _ b8 _ _ _) fun a14 H14 => nt ?_
 refine H14.condF rfl ?_
 refine rl ?_
 refine H14.bn 1 (eql_iB _ _ _ b9 _ _ _) fun a16 H16 => nt ?_
 refine H16.condF rfl ?_
 refine rl ?_
 refine H16.bn 1 (eql_iB _ _ _ b10 _ _ _) fun a18 H18 => nt ?_
 refine H18.condF rfl ?_
 repeat (refine wp_seq ?_)
 refine rl ?_
 refine H18.bn 1 (eql_iB _ _ _ b12 _ _ _) fun a20 H20 => nt ?_
 refine H20.condF rfl ?_
 refine rl ?_
 refine H20.bn 1 (eql_iB _ _ _ b13 _ _ _) fun a22 H22 => nt ?_
 refine H22.condF rfl ?_
 refine rl ?_
 refine H22.bn 1 (eql_iB _ _ _ b14 _ _ _) fun a24 H24 => nt ?_
 refine H24.condF rfl ?_
 refine skip_wp ?_
 refine block_normal ?_
 refine then_normal ?_
 refine H24.dr HB1 [1] rfl [ec 0 116 (pz w.heap.size), ec 1 117 (iz m.kind), ec 2 118 (.bool kb), ec 3 119 (iz (cb kb 2)), ec 4 120 (.pointer (some ⟨w.heap.size, 20, none⟩)), ec 5 121 (iz m.id), er 6 122 [] (fun v w => RowIs b0 ([] ++ big 2 m.id.toNat) v w), ec 7 2 (iz (cb kb 2)), er 8 3 [] (fun v w => RowIs b0 ([] ++ big 2 m.id.toNat) v w)] rfl ⟨jm, (jl fun _ h => h.own.li 0 0), (jb fun _ => (eql_iB _ _ _ bk _ _ _)), (jq fun ww _ => (packBitN kb 2 2 rfl ww)), jm, (jl fun _ h => h.own.li 0 20), jm, trivial⟩ trivial ?_ ?_
 ·intro listed aa ww i o hs hni hcl ho hd hI hh
  have hls : listed.size = 9 := hs
  rcases hh with rfl | rfl | hh
  ·obtain rfl := pick_op ho rfl
   have r_121 := hI.vs _ (ma 5 rfl) (.inr (ran_of hd 5 (by kernel_rfl))) trivial
   have u_121 : aa.eval (.tmp 121) = iz m.id := r_121
   have HH : Has aa 123 [(121, iz m.id)] := Has.of hI.sz hI.df ⟨u_121, trivial⟩
   refine wpOp_enter ho gz 122 rfl 163 _ (run_callH HH rfl rfl (fun _ _ => by kernel_rfl)) _ (rowTwo ww.heap.size [] (.slice none 0 0) m.id hi0 hi1 ww (RowIs.nil _ _) (Nat.le_refl _) (by simp)) ?_
   rintro v' w' ⟨hrow, hb⟩
   exact hI.ph hls 6 rfl (v') (hrow.base hI.wp.bw) (hI.wp.call hb) ⟨fun h => absurd rfl h, fun _ _ _ _ _ h => h.below hb, trivial⟩
  ·obtain rfl := pick_op ho rfl
   have r_122 := hI.vs _ (ma 6 rfl) (.inr (ran_of hd 6 (by kernel_rfl))) trivial
   have HH : Has aa 123 [(122, aa.eval (.tmp 122))] := Has.of hI.sz hI.df ⟨rfl, trivial⟩
   refine wpOp_go ho gz 3 rfl (aa.eval (.tmp 122)) ww (run_move (.inr rfl) (HH.ev rfl)) ?_
   exact hI.ph hls 8 rfl (aa.eval (.tmp 122)) r_122 hI.wp AllC.same
  ·exact False.elim hh
 ·intro listed a25 w2 hall hI
  have r_2 := hI.vs _ (ma 7 rfl) (.inr (hall 7 (by decide))) trivial
  have r_3 := hI.vs _ (ma 8 rfl) (.inr (hall 8 (by decide))) trivial
  have H25 : Has a25 123 [(1, pz w.heap.size), (2, iz (cb kb 2)), (3, a25.eval (.tmp 3))] := Has.of hI.sz hI.df ⟨hI.fx.1, r_2, rfl, trivial⟩
  have HB2 := hI.wp
  have R3_2 : RowIs b0 ([] ++ big 2 m.id.toNat) (a25.eval (.tmp 3)) w2 := r_3
  refine then_normal ?_
  refine wp_ret ?_
  repeat (first | (with_reducible refine block_ret ?_) | (with_reducible refine then_ret ?_))
  refine bodyPost_ret (results_pair rfl _ _ _ (H25.at_ 2 _ rfl) (H25.at_ 3 _ rfl)) H25.df ?_
  refine bodied_of (by simp only [beq_eq_false_iff_ne] at b3 b8 b10; unfold flagsBy; subst bk; simp [b3, b8, b10, cb]) ?_ R3_2.read HB2
  simp only [beq_eq_false_iff_ne] at b1 b2 b3 b8 b9 b10 b12 b13 b14; unfold bodyBy; simp [b1, b2, b3, b8, b9, b10, b12, b13, b14, bareKind]
theorem body_9 (m : Mq) (vw vf : Value) (w : World) (hk : m.kind = 9) (hi0 : 0 ≤ m.id) (hi1 : m.id ≤ 65535) (A : Option Addr) (c : Nat) (hr : Reads w w.heap.size 1 A m.codes.length (m.codes.map iv)) (hw : codesAll m.codes = true) (hl : m.codes.length ≤ 8) :
  Calls Tryz.prog 133 #[.agg (mqCells m (.slice A m.codes.length c) vw vf).toArray] w (Bodied m w) := by
 have b1 : (m.kind == 1) = false := kind_ne hk rfl
 have b2 : (m.kind == 2) = false := kind_ne hk rfl
 have b3 : (m.kind == 3) = false := kind_ne hk rfl
 have b8 : (m.kind == 8) = false := kind_ne hk rfl
 have b9 : (m.kind == 9) = true := kind_eq hk
 go_enter Tryz.func133, Tryz.ntmps133
 refine Has.start 123 [(0, .agg (mqCells m (.slice A m.codes.length c) vw vf).toArray)] rfl rfl ⟨rfl, trivial⟩ ?_
 intro a0 H0
 have O0 := Own.start w
 refine rl ?_
 refine H0.bx O0 2 fun a3 w1 O1 H3 => nt ?_
 have HB1 := Base.of O1
 obtain ⟨b0, hb0⟩ : ∃ b0, b0 = w1.heap.size := ⟨_, rfl⟩
 rw [← hb0] at HB1
 have hb0' := hb0
 clear hb0
 refine H3.rg 1 fun a4 H4 => ?_
 refine H4.ld 0 (HB1.own.li 0 0) fun a5 H5 => nt ?_
 have H6 := H5.kp [1, 2, 3, 11]
 repeat (refine wp_seq ?_)
 refine wp_block ?_
 refine rl ?_
 refine H6.bn 1 (eql_iB _ _ _ b1 _ _ _) fun a8 H8 => nt ?_
 refine H8.condF rfl ?_
 refine rl ?_
 refine H8.bn 1 (eql_iB _ _ _ b2 _ _ _) fun a10 H10 => nt ?_
 refine H10.condF rfl ?_
 refine rl ?_
 refine H10.bn 1 (eql_iB _ _ _ b3 _ _ _) fun a12 H12 => nt ?_
 refine H12.condF rfl ?_
 refine rl ?_
 refine H12.bn 1 (eql_iB _ _ _ b8 _ _ _) fun a14 H14 => nt ?_
 refine H14.condF rfl ?_
 refine rl ?_
 refine H14.bn 1 (eql_iB _ _ _ b9 _ _ _) fun a16 H16 => nt ?_
 refine H16.condT rfl ?_
 refine H16.rg 1 fun a17 H17 => ?_
 refine H17.ld 0 (HB1.own.li 0 20) fun a18 H18 => ?_
 refine H18.cl (rowTwo b0 [] _ m.id hi0 hi1 _ (RowIs.nil _ _) HB1.bw (by simp)) ?_
 rintro a19 v80 w2 ⟨R80, hb⟩ H19
 have HB2 := HB1.step hb
 clear hb
 refine H19.ms 1 fun a20 H20 => nt ?_
 refine H20.rg 1 fun a21 H21 => ?_
 refine H21.ld 0 (HB2.own.l6 0 15) fun a22 H22 => ?_
 refine H22.len gz rfl rfl rfl rfl Tryz.underlying45 ?_
 intro a23 H23
 refine H23.ms 1 fun a24 H24 => nt ?_
 repeat (refine wp_seq ?_)
 refine wp_block ?_
 refine wp_loop_up m.codes.length (fun k a w' => ∃ v, Has a 123 [(1, pz w.heap.size), (3, v), (82, .slice A m.codes.length c), (83, iz m.codes.length), (84, iz k)] ∧ RowIs b0 (([] ++ big 2 m.id.toNat) ++ codesBy (m.codes.take k)) v w' ∧ Base w b0 [(w.heap.size, (mqCells m (.slice A m.codes.length c) vw vf))] w') ?_ ?_
 ·exact ⟨_, H24.keep ⟨rfl, rfl, rfl, rfl, rfl, trivial⟩, (by rw [List.take_zero]; simpa [codesBy] using R80), HB2⟩
 ·rintro k a25 w3 hkn ⟨v3, H25, R3, HB3⟩
  have hlb : (codesBy (m.codes.take k)).length ≤ 1000 := by
   rw [codesBy_le, List.length_take]; omega
  by_cases hlt : k < m.codes.length
  ·skip
   obtain ⟨gb, go, x, rfl, hgb, hx, hcell⟩ := Reads.int (hr.below HB3.own.bel) rfl hlt
   obtain ⟨hx0, hx1⟩ := codesAll_get hw hx
   refine rl ?_
   refine H25.bb 0 rfl rfl rfl rfl rfl rfl (lss_i _ _ true (by simp; omega) _ _ _) rfl fun a26 H26 => nt ?_
   repeat (refine wp_seq ?_)
   refine H26.condT rfl ?_
   refine skip_wp ?_
   refine then_normal ?_
   repeat (refine wp_seq ?_)
   refine wp_block ?_
   refine rl ?_
   refine H26.index gz rfl rfl rfl rfl rfl (index_1 45 Tryz.underlying45 (fun _ => by kernel_rfl) _ _ _ _ _ hlt _) ?_
   intro a27 H27
   refine H27.ld 1 (load1_i _ _ _ _ hcell) fun a29 H29 => nt ?_
   refine H29.rg 2 fun a31 H31 => ?_
   refine H31.cv 0 (conv_u8 _ _) fun a32 H32 => ?_
   refine H32.bytes gz rfl rfl [UInt8.ofNat x.toNat] [.int .u8 (x % 256)] (by rw [byte_of_int _ hx0]; rfl) (k := 1) rfl 5 (by intro cs b h; cases h) (by kernel_rfl) (by kernel_rfl) ?_
   intro a33 v91 w4 H33 B91 hb
   have HB4 := HB3.call hb
   have R3 := R3.below hb
   clear hb
   refine H33.appendRow Tryz.underlying31 info_u8 gz rfl rfl rfl rfl rfl R3 B91 (by simp only [List.length_append, big_length, List.length_cons, List.length_nil]; omega) HB4.bw ?_
   intro a34 v92 w5 H34 R92 hb _
   have HB5 := HB4.step hb
   clear hb
   refine H34.ms 1 fun a35 H35 => ?_
   refine wpList_nil ?_
   refine block_normal ?_
   refine then_normal ?_
   refine rl ?_
   refine H35.bb 1 rfl rfl rfl rfl rfl rfl (succ_i _ (by omega) _ _ _) rfl fun a37 H37 => nt ?_
   exact ⟨hlt, _, H37.keep ⟨rfl, rfl, rfl, rfl, rfl, trivial⟩, (by rw [take_snoc? _ _ _ hx, codesBy_app, ← List.append_assoc]; exact R92), HB5⟩
  ·skip
   obtain rfl : k = m.codes.length := by omega
   refine rl ?_
   refine H25.bb 0 rfl rfl rfl rfl rfl rfl (lss_i _ _ false (by simp) _ _ _) rfl fun a26 H26 => nt ?_
   repeat (refine wp_seq ?_)
   refine H26.condF rfl ?_
   refine wp_exit ?_
   repeat (with_reducible refine then_exit ?_)
   refine block_leave ?_
   refine then_normal ?_
   refine H26.rg 3 fun a29 H29 => nt ?_
   rw [List.take_length] at R3
   refine wp_ret ?_
   repeat (first | (with_reducible refine block_ret ?_) | (with_reducible refine then_ret ?_))
   refine bodyPost_ret (results_pair rfl _ _ _ (H29.at_ 2 _ rfl) (H29.at_ 3 _ rfl)) H29.df ?_
   refine bodied_of (by unfold flagsBy; simp [hk]) ?_ R3.read HB3
   unfold bodyBy; simp [hk]
theorem body_10 (m : Mq) (vc vw : Value) (w : World) (hk : m.kind = 10) (hi0 : 0 ≤ m.id) (hi1 : m.id ≤ 65535) (A : Option Addr) (c : Nat) (hr : Reads w w.heap.size 1 A m.filters.length (m.filters.map sv)) (hw : filtersAll m.filters = true) (hl : m.filters.length ≤ 8) :
  Calls Tryz.prog 133 #[.agg (mqCells m vc vw (.slice A m.filters.length c)).toArray] w (Bodied m w) := by
 have b1 : (m.kind == 1) = false := kind_ne hk rfl
 have b2 : (m.kind == 2) = false := kind_ne hk rfl
 have b3 : (m.kind == 3) = false := kind_ne hk rfl
 have b8 : (m.kind == 8) = false := kind_ne hk rfl
 have b9 : (m.kind == 9) = false := kind_ne hk rfl
 have b10 : (m.kind == 10) = true := kind_eq hk
 go_enter Tryz.func133, Tryz.ntmps133
 refine Has.start 123 [(0, .agg (mqCells m vc vw (.slice A m.filters.length c)).toArray)] rfl rfl ⟨rfl, trivial⟩ ?_
 intro a0 H0
 have O0 := Own.start w
 refine rl ?_
 refine H0.bx O0 2 fun a3 w1 O1 H3 => nt ?_
 have HB1 := Base.of O1
 obtain ⟨b0, hb0⟩ : ∃ b0, b0 = w1.heap.size := ⟨_, rfl⟩
 rw [← hb0] at HB1
 have hb0' := hb0
 clear hb0
 refine H3.rg 1 fun a4 H4 => ?_
 refine H4.ld 0 (HB1.own.li 0 0) fun a5 H5 => nt ?_
 have H6 := H5.kp [1, 2, 3, 11]
 repeat (refine wp_seq ?_)
 refine wp_block ?_
 refine rl ?_
 refine H6.bn 1 (eql_iB _ _ _ b1 _ _ _) fun a8 H8 => nt ?_
 refine H8.condF rfl ?_
 refine rl ?_
 refine H8.bn 1 (eql_iB _ _ _ b2 _ _ _) fun a10 H10 => nt ?_
 refine H10.condF rfl ?_
 refine rl ?_
 refine H10.bn 1 (eql_iB _ _ _ b3 _ _ _) fun a12 H12 => nt ?_
 refine H12.condF rfl ?_
 refine rl ?_
 refine H12.bn 1 (eql_iB _ _ _ b8 _ _ _) fun a14 H14 => nt ?_
 refine H14.condF rfl ?_
 refine rl ?_
 refine H14.bn 1 (eql_iB _ _ _ b9 _ _ _) fun a16 H16 => nt ?_
 refine H16.condF rfl ?_
 refine rl ?_
 refine H16.bn 1 (eql_iB _ _ _ b10 _ _ _) fun a18 H18 => nt ?_
 refine H18.condT rfl ?_
 refine H18.rg 1 fun a19 H19 => ?_
 refine H19.ld 0 (HB1.own.li 0 20) fun a20 H20 => ?_
 refine H20.cl (rowTwo b0 [] _ m.id hi0 hi1 _ (RowIs.nil _ _) HB1.bw (by simp)) ?_
 rintro a21 v99 w2 ⟨R99, hb⟩ H21
 have HB2 := HB1.step hb
 clear hb
 refine H21.ms 1 fun a22 H22 => nt ?_
 refine H22.rg 1 fun a23 H23 => ?_
 refine H23.ld 0 (HB2.own.l8 0 23) fun a24 H24 => ?_
 refine H24.len gz rfl rfl rfl rfl Tryz.underlying47 ?_
 intro a25 H25
 refine H25.ms 1 fun a26 H26 => nt ?_
 repeat (refine wp_seq ?_)
 refine wp_block ?_
 refine wp_loop_up m.filters.length (fun k a w' => ∃ v, Has a 123 [(1, pz w.heap.size), (3, v), (101, .slice A m.filters.length c), (102, iz m.filters.length), (103, iz k)] ∧ RowIs b0 (([] ++ big 2 m.id.toNat) ++ filtersBy (m.filters.take k)) v w' ∧ Base w b0 [(w.heap.size, (mqCells m vc vw (.slice A m.filters.length c)))] w') ?_ ?_
 ·exact ⟨_, H26.keep ⟨rfl, rfl, rfl, rfl, rfl, trivial⟩, (by rw [List.take_zero]; simpa [filtersBy] using R99), HB2⟩
 ·rintro k a27 w3 hkn ⟨v3, H27, R3, HB3⟩
  have hlb : (filtersBy (m.filters.take k)).length ≤ 1000 := by
   have := filtersBy_le _ (filtersAll_take k hw); rw [List.length_take] at this; omega
  by_cases hlt : k < m.filters.length
  ·skip
   obtain ⟨gb, go, x, rfl, hgb, hx, hcell⟩ := Reads.str (hr.below HB3.own.bel) rfl hlt
   have hxs := filtersAll_get hw hx
   refine rl ?_
   refine H27.bb 0 rfl rfl rfl rfl rfl rfl (lss_i _ _ true (by simp; omega) _ _ _) rfl fun a28 H28 => nt ?_
   repeat (refine wp_seq ?_)
   refine H28.condT rfl ?_
   refine skip_wp ?_
   refine then_normal ?_
   repeat (refine wp_seq ?_)
   refine wp_block ?_
   refine rl ?_
   refine H28.index gz rfl rfl rfl rfl rfl (index_1 47 Tryz.underlying47 (fun _ => by kernel_rfl) _ _ _ _ _ hlt _) ?_
   intro a29 H29
   refine H29.ld 1 (load1_s _ _ _ _ hcell) fun a31 H31 => nt ?_
   refine H31.rg 2 fun a33 H33 => ?_
   refine H33.cl (rowText b0 (([] ++ big 2 m.id.toNat) ++ filtersBy (m.filters.take k)) _ x (by omega) _ R3 HB3.bw (by simp only [List.length_append, big_length, List.length_nil]; omega)) ?_
   rintro a34 v109 w4 ⟨R109, hb⟩ H34
   have HB4 := HB3.step hb
   clear hb
   refine H34.ms 1 fun a35 H35 => ?_
   refine wpList_nil ?_
   refine block_normal ?_
   refine then_normal ?_
   refine rl ?_
   refine H35.bb 1 rfl rfl rfl rfl rfl rfl (succ_i _ (by omega) _ _ _) rfl fun a37 H37 => nt ?_
   exact ⟨hlt, _, H37.keep ⟨rfl, rfl, rfl, rfl, rfl, trivial⟩, (by rw [take_snoc? _ _ _ hx, filtersBy_app, ← List.append_assoc]; exact R109), HB4⟩
  ·skip
   obtain rfl : k = m.filters.length := by omega
   refine rl ?_
   refine H27.bb 0 rfl rfl rfl rfl rfl rfl (lss_i _ _ false (by simp) _ _ _) rfl fun a28 H28 => nt ?_
   repeat (refine wp_seq ?_)
   refine H28.condF rfl ?_
   refine wp_exit ?_
   repeat (with_reducible refine then_exit ?_)
   refine block_leave ?_
   refine then_normal ?_
   refine H28.rg 3 fun a31 H31 => nt ?_
   rw [List.take_length] at R3
   refine wp_ret ?_
   repeat (first | (with_reducible refine block_ret ?_) | (with_reducible refine then_ret ?_))
   refine bodyPost_ret (results_pair rfl _ _ _ (H31.at_ 2 _ rfl) (H31.at_ 3 _ rfl)) H31.df ?_
   refine bodied_of (by unfold flagsBy; simp [hk]) ?_ R3.read HB3
   unfold bodyBy; simp [hk]
theorem body_12 (m : Mq) (vc vw vf : Value) (w : World) (hk : m.kind = 12)  :
  Calls Tryz.prog 133 #[.agg (mqCells m vc vw vf).toArray] w (Bodied m w) := by
 have b1 : (m.kind == 1) = false := kind_ne hk rfl
 have b2 : (m.kind == 2) = false := kind_ne hk rfl
 have b3 : (m.kind == 3) = false := kind_ne hk rfl
 have b8 : (m.kind == 8) = false := kind_ne hk rfl
 have b9 : (m.kind == 9) = false := kind_ne hk rfl
 have b10 : (m.kind == 10) = false := kind_ne hk rfl
 have b12 : (m.kind == 12) = true := kind_eq hk
 go_enter Tryz.func133, Tryz.ntmps133
 refine Has.start 123 [(0, .agg (mqCells m vc vw vf).toArray)] rfl rfl ⟨rfl, trivial⟩ ?_
 intro a0 H0
 have O0 := Own.start w
 refine rl ?_
 refine H0.bx O0 2 fun a3 w1 O1 H3 => nt ?_
 have HB1 := Base.of O1
 obtain ⟨b0, hb0⟩ : ∃ b0, b0 = w1.heap.size := ⟨_, rfl⟩
 rw [← hb0] at HB1
 have hb0' := hb0
 clear hb0
 refine H3.rg 1 fun a4 H4 => ?_
 refine H4.ld 0 (HB1.own.li 0 0) fun a5 H5 => nt ?_
 have H6 := H5.kp [1, 2, 3, 11]
 repeat (refine wp_seq ?_)
 refine wp_block ?_
 refine rl ?_
 refine H6.bn 1 (eql_iB _ _ _ b1 _ _ _) fun a8 H8 => nt ?_
 refine H8.condF rfl ?_
 refine rl ?_
 refine H8.bn 1 (eql_iB _ _ _ b2 _ _ _) fun a10 H10 => nt ?_
 refine H10.condF rfl ?_
 refine rl ?_
 refine H10.bn 1 (eql_iB _ _ _ b3 _ _ _) fun a12 H12 => nt ?_
 refine H12.condF rfl ?_
 refine rl ?_
 refine H12.bn 1 (eql_iB _ _ _ b8 _ _ _) fun a14 H14 => nt ?_
 refine H14.condF rfl ?_
 refine rl ?_
 refine H14.bn 1 (eql_iB _ _ _ b9 _ _ _) fun a16 H16 => nt ?_
 refine H16.condF rfl ?_
 refine rl ?_
 refine H16.bn 1 (eql_iB _ _ _ b10 _ _ _) fun a18 H18 => nt ?_
 refine H18.condF rfl ?_
 repeat (refine wp_seq ?_)
 refine rl ?_
 refine H18.bn 1 (eql_iB _ _ _ b12 _ _ _) fun a20 H20 => nt ?_
 refine H20.condT rfl ?_
 refine skip_wp ?_
 refine then_normal ?_
 refine H20.condT rfl ?_
 refine H20.rg 2 fun a22 H22 => nt ?_
 refine wp_ret ?_
 repeat (first | (with_reducible refine block_ret ?_) | (with_reducible refine then_ret ?_))
 refine bodyPost_ret (results_pair rfl _ _ _ (H22.at_ 2 _ rfl) (H22.at_ 3 _ rfl)) H22.df ?_
 refine bodied_of (by unfold flagsBy; simp [hk]) ?_ (RowIs.nil b0 _).read HB1
 unfold bodyBy; simp [hk, bareKind]
theorem body_13 (m : Mq) (vc vw vf : Value) (w : World) (hk : m.kind = 13)  :
  Calls Tryz.prog 133 #[.agg (mqCells m vc vw vf).toArray] w (Bodied m w) := by
 have b1 : (m.kind == 1) = false := kind_ne hk rfl
 have b2 : (m.kind == 2) = false := kind_ne hk rfl
 have b3 : (m.kind == 3) = false := kind_ne hk rfl
 have b8 : (m.kind == 8) = false := kind_ne hk rfl
 have b9 : (m.kind == 9) = false := kind_ne hk rfl
 have b10 : (m.kind == 10) = false := kind_ne hk rfl
 have b12 : (m.kind == 12) = false := kind_ne hk rfl
 have b13 : (m.kind == 13) = true := kind_eq hk
 go_enter Tryz.func133, Tryz.ntmps133
 refine Has.start 123 [(0, .agg (mqCells m vc vw vf).toArray)] rfl rfl ⟨rfl, trivial⟩ ?_
 intro a0 H0
 have O0 := Own.start w
 refine rl ?_
 refine H0.bx O0 2 fun a3 w1 O1 H3 => nt ?_
 have HB1 := Base.of O1
 obtain ⟨b0, hb0⟩ : ∃ b0, b0 = w1.heap.size := ⟨_, rfl⟩
 rw [← hb0] at HB1
 have hb0' := hb0
 clear hb0
 refine H3.rg 1 fun a4 H4 => ?_
 refine H4.ld 0 (HB1.own.li 0 0) fun a5 H5 => nt ?_
 have H6 := H5.kp [1, 2, 3, 11]
 repeat (refine wp_seq ?_)
 refine wp_block ?_
 refine rl ?_
 refine H6.bn 1 (eql_iB _ _ _ b1 _ _ _) fun a8 H8 => nt ?_
 refine H8.condF rfl ?_
 refine rl ?_
 refine H8.bn 1 (eql_iB _ _ _ b2 _ _ _) fun a10 H10 => nt ?_
 refine H10.condF rfl ?_
 refine rl ?_
 refine H10.bn 1 (eql_iB _ _ _ b3 _ _ _) fun a12 H12 => nt ?_
 refine H12.condF rfl ?_
 refine rl ?_
 refine H12.bn 1 (eql_iB _ _ _ b8 _ _ _) fun a14 H14 => nt ?_
 refine H14.condF rfl ?_
 refine rl ?_
 refine H14.bn 1 (eql_iB _ _ _ b9 _ _ _) fun a16 H16 => nt ?_
 refine H16.condF rfl ?_
 refine rl ?_
 refine H16.bn 1 (eql_iB _ _ _ b10 _ _ _) fun a18 H18 => nt ?_
 refine H18.condF rfl ?_
 repeat (refine wp_seq ?_)
 refine rl ?_
 refine H18.bn 1 (eql_iB _ _ _ b12 _ _ _) fun a20 H20 => nt ?_
 refine H20.condF rfl ?_
 refine rl ?_
 refine H20.bn 1 (eql_iB _ _ _ b13 _ _ _) fun a22 H22 => nt ?_
 refine H22.condT rfl ?_
 refine skip_wp ?_
 refine then_normal ?_
 refine H22.condT rfl ?_
 refine H22.rg 2 fun a24 H24 => nt ?_
 refine wp_ret ?_
 repeat (first | (with_reducible refine block_ret ?_) | (with_reducible refine then_ret ?_))
 refine bodyPost_ret (results_pair rfl _ _ _ (H24.at_ 2 _ rfl) (H24.at_ 3 _ rfl)) H24.df ?_
 refine bodied_of (by unfold flagsBy; simp [hk]) ?_ (RowIs.nil b0 _).read HB1
 unfold bodyBy; simp [hk, bareKind]
theorem body_14 (m : Mq) (vc vw vf : Value) (w : World) (hk : m.kind = 14)  :
  Calls Tryz.prog 133 #[.agg (mqCells m vc vw vf).toArray] w (Bodied m w) := by
 have b1 : (m.kind == 1) = false := kind_ne hk rfl
 have b2 : (m.kind == 2) = false := kind_ne hk rfl
 have b3 : (m.kind == 3) = false := kind_ne hk rfl
 have b8 : (m.kind == 8) = false := kind_ne hk rfl
 have b9 : (m.kind == 9) = false := kind_ne hk rfl
 have b10 : (m.kind == 10) = false := kind_ne hk rfl
 have b12 : (m.kind == 12) = false := kind_ne hk rfl
 have b13 : (m.kind == 13) = false := kind_ne hk rfl
 have b14 : (m.kind == 14) = true := kind_eq hk
 go_enter Tryz.func133, Tryz.ntmps133
 refine Has.start 123 [(0, .agg (mqCells m vc vw vf).toArray)] rfl rfl ⟨rfl, trivial⟩ ?_
 intro a0 H0
 have O0 := Own.start w
 refine rl ?_
 refine H0.bx O0 2 fun a3 w1 O1 H3 => nt ?_
 have HB1 := Base.of O1
 obtain ⟨b0, hb0⟩ : ∃ b0, b0 = w1.heap.size := ⟨_, rfl⟩
 rw [← hb0] at HB1
 have hb0' := hb0
 clear hb0
 refine H3.rg 1 fun a4 H4 => ?_
 refine H4.ld 0 (HB1.own.li 0 0) fun a5 H5 => nt ?_
 have H6 := H5.kp [1, 2, 3, 11]
 repeat (refine wp_seq ?_)
 refine wp_block ?_
 refine rl ?_
 refine H6.bn 1 (eql_iB _ _ _ b1 _ _ _) fun a8 H8 => nt ?_
 refine H8.condF rfl ?_
 refine rl ?_
 refine H8.bn 1 (eql_iB _ _ _ b2 _ _ _) fun a10 H10 => nt ?_
 refine H10.condF rfl ?_
 refine rl ?_
 refine H10.bn 1 (eql_iB _ _ _ b3 _ _ _) fun a12 H12 => nt ?_
 refine H12.condF rfl ?_
 refine rl ?_
 refine H12.bn 1 (eql_iB _ _ _ b8 _ _ _) fun a14 H14 => nt ?_
 refine H14.condF rfl ?_
 refine rl ?_
 refine H14.bn 1 (eql_iB _ _ _ b9 _ _ _) fun a16 H16 => nt ?_
 refine H16.condF rfl ?_
 refine rl ?_
 refine H16.bn 1 (eql_iB _ _ _ b10 _ _ _) fun a18 H18 => nt ?_
 refine H18.condF rfl ?_
 repeat (refine wp_seq ?_)
 refine rl ?_
 refine H18.bn 1 (eql_iB _ _ _ b12 _ _ _) fun a20 H20 => nt ?_
 refine H20.condF rfl ?_
 refine rl ?_
 refine H20.bn 1 (eql_iB _ _ _ b13 _ _ _) fun a22 H22 => nt ?_
 refine H22.condF rfl ?_
 refine rl ?_
 refine H22.bn 1 (eql_iB _ _ _ b14 _ _ _) fun a24 H24 => nt ?_
 refine H24.condT rfl ?_
 refine H24.rg 2 fun a26 H26 => nt ?_
 refine wp_ret ?_
 repeat (first | (with_reducible refine block_ret ?_) | (with_reducible refine then_ret ?_))
 refine bodyPost_ret (results_pair rfl _ _ _ (H26.at_ 2 _ rfl) (H26.at_ 3 _ rfl)) H26.df ?_
 refine bodied_of (by unfold flagsBy; simp [hk]) ?_ (RowIs.nil b0 _).read HB1
 unfold bodyBy; simp [hk, bareKind]
end
section
open Go.RowKit
theorem load_wish (g o : Nat) (f : ByteArray) (q : Int) (w : World) (h0 : w.cell? ⟨g, o, none⟩ = some (.string f)) (h1 : w.cell? ⟨g, o + 1, none⟩ = some (iz q)) : (Instr.loadAt 161 (.pointer (some ⟨g, o, none⟩))).run Tryz.prog w = .ok (.agg #[.string f, iz q]) w := by
 simp [go_sem, h0, h1]
theorem zero_wish (w : World) : (zeroValue 161).run Tryz.prog w = .ok (.agg ([.string nos, iz 0] : List Value).toArray) w := by kernel_rfl
theorem size_wish : (Tryz.prog.info? 161).map (·.size) = some 2 := by kernel_rfl
theorem Reads.wish {w : World} {B n k : Nat} {A : Option Addr} {l : List (ByteArray × Int)} (h : Reads w B 2 A n (wv l)) (hl : l.length = n) (hk : k < n) : ∃ b o x, A = some ⟨b, o, none⟩ ∧ b < B ∧ l[k]? = some x ∧ w.cell? ⟨b, o + k * 2, none⟩ = some (.string x.1) ∧ w.cell? ⟨b, o + k * 2 + 1, none⟩ = some (iz x.2) := by
 obtain ⟨b, o, hA, hb, hc⟩ := h.get2 hk
 have hx : l[k]? = some l[k] := List.getElem?_eq_getElem (by omega)
 obtain ⟨h0, h1⟩ := wv_get l k _ hx
 exact ⟨b, o, _, hA, hb, hx, hc 0 _ (by omega) h0, hc 1 _ (by omega) h1⟩
theorem RowIs.away {b : Nat} {xs : List UInt8} {v : Value} {w : World} (h : RowIs b xs v w) {g : Nat} (hg : g < b ∨ w.heap.size ≤ g) : some g ≠ v.ownBlock := by
 obtain ⟨A, c, rfl, ho⟩ := h
 exact own_ne ho hg
theorem Cells.onBlock {w w' : World} {g : Nat} {L : List Value} (h : Cells w g L) (hb : w'.heap[g]? = w.heap[g]?) : Cells w' g L := fun j v hv =>
 ⟨(World.cell?_of_block (a := ⟨g, j, none⟩) hb).trans (h j v hv).1, (World.frozen?_of_block (a := ⟨g, j, none⟩) hb).trans (h j v hv).2⟩
theorem lit_keep {w w' : World} {g5 : Nat} {v3 : Value} {ys : List UInt8} {k : Nat} (hK : ∀ g, g < w.heap.size → some g ≠ v3.ownBlock → w'.heap[g]? = w.heap[g]?) (hfar : ∀ g, g5 ≤ g → some g ≠ v3.ownBlock) (hs : w.heap.size ≤ w'.heap.size) {v : Value}
  (h : ∃ g, v = .slice (some ⟨g, 0, none⟩) k k ∧ g5 ≤ g ∧ g < w.heap.size ∧ BytesAre ys v w) : ∃ g, v = .slice (some ⟨g, 0, none⟩) k k ∧ g5 ≤ g ∧ g < w'.heap.size ∧ BytesAre ys v w' := by
 obtain ⟨g, rfl, hg, hlt, A, c, e, hr⟩ := h
 refine ⟨g, rfl, hg, Nat.lt_of_lt_of_le hlt hs, A, c, e, ?_⟩
 injection e with e1 e2 e3
 subst e1
 refine ⟨hr.1, fun hn => ?_⟩
 obtain ⟨ad, hA, hbl, hc⟩ := hr.2 hn
 injection hA with hA
 subst hA
 refine ⟨_, rfl, Nat.lt_of_lt_of_le hbl hs, fun j u hu => ?_⟩
 rw [← hc j u hu]
 refine World.cell?_of_block ?_
 rw [block_of_add]
 exact hK g hlt (hfar g hg)
theorem run_append_rowG {P : Program} {o : Oper} {a : Act} {w : World} (hgb : P.underlying 31 = some (.slice 5)) (hi : (P.info? 5).map (fun i => (i.zero, i.size, i.bytes)) = some (some (.int .u8 0), 1, 1)) {s x : Operand}
  (ho : o.op = .call { callee := .builtin .append, args := #[s, x], argTypes := #[31, 31] }) {b : Nat} {xs ys : List UInt8} {v : Value} {ad : Addr} {c : Nat} (hs : a.eval s = v) (hx : a.eval x = .slice (some ad) ys.length c) (hv : RowIs b xs v w) (hu : RB w w.heap.size (some ad) ys) (hy : 0 < ys.length)
  (hn : xs.length + ys.length ≤ 140737488355328) (hb : b ≤ w.heap.size) : ∃ v' w', (execOp a.eval o).run P w = .ok (.value v') w' ∧ RowIs b (xs ++ ys) v' w' ∧ Below b w w' ∧ w.grownBy w' v.ownBlock ∧ (v'.ownBlock = v.ownBlock ∨ v'.ownBlock = some w.heap.size) := by
 obtain ⟨A, cc, rfl, hown⟩ := hv
 obtain ⟨i, hi0, hz0, hz1, hz2⟩ := info_parts hi
 have hcells : ∀ j u, (ys.map bv)[j]? = some u → w.cell? (ad.add j) = some u := by
  intro j u hu'
  obtain ⟨ad', h, _, hc⟩ := hu.2 hy
  injection h with h
  subst h
  exact hc j u hu'
 obtain ⟨v', w', hrun, h2, h3, _, h5⟩ := run_append_own_at (P := P) w b 31 o.type 5 i (.int .u8 0) 1 1 hgb hi0 hz0 hz1 hz2 rfl (by decide) _ xs.length (xs.map bv) hown ad ys.length c (ys.map bv) (by simp) hcells (bv_one ys) (by unfold maxLen; omega) (by omega) hb
 obtain ⟨A', c', rfl, _, _⟩ := own_shape h2
 refine ⟨_, w', ?_, ⟨A', c', by rw [List.length_append], by rw [List.length_append, List.map_append]; exact h2⟩, (Below.refl _ _).grown h3 hb fun k hk => (hown.lt k hk).1, h3, h5⟩
 unfold execOp
 simp only [ho, resolve, invoke, builtin, Sem.run_bind, Sem.run_pure, Result.andThen_ok, List.map_toArray, List.map_cons, List.map_nil, hs, hx, hrun]
theorem rowTwoG (b : Nat) (xs : List UInt8) (v : Value) (k : Int) (h0 : 0 ≤ k) (h1 : k ≤ 65535) (w : World) (hv : RowIs b xs v w) (hb : b ≤ w.heap.size) (hn : xs.length ≤ 140737488251232) :
  Calls Tryz.prog 163 #[v, iz k] w fun e w' => ∃ v', e = .returned v' ∧ (RowIs b (xs ++ big 2 k.toNat) v' w' ∧ Below b w w' ∧ (∀ g, g < w.heap.size → some g ≠ v.ownBlock → w'.heap[g]? = w.heap[g]?) ∧ (v'.ownBlock = v.ownBlock ∨ ∃ q, v'.ownBlock = some q ∧ w.heap.size ≤ q)) := by
 go_enter Tryz.func163, Tryz.ntmps163
 refine Has.start 13 [(0, v), (1, iz k)] rfl rfl ⟨rfl, rfl, trivial⟩ ?_
 intro a0 H0
 refine H0.rg 1 fun a1 H1 => nt ?_
 refine H1.rg 2 fun a3 H3 => ?_
 refine H3.bn 0 (shr8 _ h0 h1 _ _ _) fun a4 H4 => ?_
 refine H4.cv 1 (conv_u8 _ _) fun a6 H6 => ?_
 refine H6.cv 0 (conv_u8 _ _) fun a7 H7 => ?_
 obtain ⟨⟨A1, c1, e1, hrb⟩, hb1⟩ := bytes_lit w (big 2 k.toNat) [.int .u8 (k / 256 % 256), .int .u8 (k % 256)] (lit_two k h0 h1) 5 2 (big_length 2 _)
 rw [big_length] at e1
 injection e1 with e1 _ _
 subst e1
 refine H7.go gz rfl rfl _ (run_any H7 (by intro cs b h; cases h) (by kernel_rfl) (x := .value (.slice (some ⟨w.heap.size, 0, none⟩) 2 2)) (w' := w.alloc (.cells ([.int .u8 (k / 256 % 256), .int .u8 (k % 256)] : List Value).toArray 5)) (by kernel_rfl)) ?_
 intro a8 H8
 obtain ⟨v', w', hrun, hrow, hb2, hg, hob⟩ := run_append_rowG (P := Tryz.prog) (a := a8) (w := w.alloc (.cells ([.int .u8 (k / 256 % 256), .int .u8 (k % 256)] : List Value).toArray 5)) Tryz.underlying31 info_u8 (o := ⟨some 12, _, _, _, _, none⟩) (b := b) (xs := xs) (ys := big 2 k.toNat) (v := v) rfl (H8.at_ 5 _ rfl) (by rw [big_length]; exact H8.at_ 11 _ rfl) (hv.below hb1) hrb (by rw [big_length]; omega) (by rw [big_length]; omega) (Nat.le_trans hb hb1.size)
 refine H8.go gz rfl rfl _ hrun ?_
 intro a9 H9
 refine H9.ms 1 fun a10 H10 => nt ?_
 refine wp_ret ?_
 refine bodyPost_ret (results_tmp rfl _ _ _) H10.df ⟨_, congrArg Ending.returned (H10.at_ 4 _ rfl), hrow, (hb1.mono hb).trans hb2, fun g hlt hne => (hg.block g (Nat.lt_of_lt_of_le hlt hb1.size) hne).trans (hb1.block g hlt), ?_⟩
 rcases hob with h | h
 ·exact .inl h
 ·exact .inr ⟨_, h, hb1.size⟩
theorem rowTextG (b : Nat) (xs : List UInt8) (v : Value) (s : ByteArray) (hs : s.size ≤ 65535) (w : World) (hv : RowIs b xs v w) (hb : b ≤ w.heap.size) (hn : xs.length ≤ 140737488251232) :
  Calls Tryz.prog 162 #[v, .string s] w fun e w' => ∃ v', e = .returned v' ∧ (RowIs b (xs ++ strB s) v' w' ∧ Below b w w' ∧ (∀ g, g < w.heap.size → some g ≠ v.ownBlock → w'.heap[g]? = w.heap[g]?)) := by
 go_enter Tryz.func162, Tryz.ntmps162
 refine Has.start 11 [(0, v), (1, .string s)] rfl rfl ⟨rfl, rfl, trivial⟩ ?_
 intro a0 H0
 refine H0.rg 1 fun a1 H1 => nt ?_
 refine H1.rg 2 fun a3 H3 => ?_
 refine H3.go gz rfl rfl (iz s.size) (w' := w) (run_any H3 (by intro cs b h; cases h) (by kernel_rfl) (by kernel_rfl)) ?_
 intro a4 H4
 refine H4.cl (rowTwoG b xs v (s.size : Int) (by omega) (by omega) w hv hb hn) ?_
 rintro a5 v8 w1 ⟨R8, hb1, hK1, hob⟩ H5
 refine H5.ms 1 fun a6 H6 => ?_
 rw [show ((s.size : Int)).toNat = s.size from rfl] at R8
 obtain ⟨v', w', hrun, hrow, hb2, hg⟩ := run_append_strR (P := Tryz.prog) (a := a6) (w := w1) Tryz.underlying31 Tryz.underlying9 info_u8 (o := ⟨some 10, _, _, _, _, none⟩) rfl rfl (H6.at_ 9 _ rfl) ((H6.at_ 8 _ rfl).symm ▸ R8) (by rw [List.length_append, big_length]; omega) (Nat.le_trans hb hb1.size)
 refine H6.go gz rfl rfl _ hrun ?_
 intro a7 H7
 refine H7.ms 1 fun a8 H8 => nt ?_
 refine wp_ret ?_
 refine bodyPost_ret (results_tmp rfl _ _ _) H8.df ⟨_, congrArg Ending.returned (H8.at_ 4 _ rfl), (by unfold strB; rw [← List.append_assoc]; exact hrow), hb1.trans hb2, fun g hlt hne => (hg.block g (Nat.lt_of_lt_of_le hlt hb1.size) ?_).trans (hK1 g hlt hne)⟩
 rw [H6.at_ 8 _ rfl]
 rcases hob with h | ⟨q, h, hq⟩
 ·rw [h]; exact hne
 ·rw [h]; intro e; injection e with e; omega
theorem body_8 (m : Mq) (vc vf : Value) (w : World) (hk : m.kind = 8) (hi0 : 0 ≤ m.id) (hi1 : m.id ≤ 65535) (A : Option Addr) (c : Nat) (hr : Reads w w.heap.size 2 A m.wishes.length (wv m.wishes)) (hw : wishesAll m.wishes = true) (hl : m.wishes.length ≤ 8) :
  Calls Tryz.prog 133 #[.agg (mqCells m vc (.slice A m.wishes.length c) vf).toArray] w (Bodied m w) := by
 have b1 : (m.kind == 1) = false := kind_ne hk rfl
 have b2 : (m.kind == 2) = false := kind_ne hk rfl
 have b3 : (m.kind == 3) = false := kind_ne hk rfl
 have b8 : (m.kind == 8) = true := kind_eq hk
 go_enter Tryz.func133, Tryz.ntmps133
 refine Has.start 123 [(0, .agg (mqCells m vc (.slice A m.wishes.length c) vf).toArray)] rfl rfl ⟨rfl, trivial⟩ ?_
 intro a0 H0
 have O0 := Own.start w
 refine rl ?_
 refine H0.bx O0 2 fun a3 w1 O1 H3 => nt ?_
 have HB1 := Base.of O1
 obtain ⟨b0, hb0⟩ : ∃ b0, b0 = w1.heap.size := ⟨_, rfl⟩
 rw [← hb0] at HB1
 have hb0' := hb0
 clear hb0
 refine H3.rg 1 fun a4 H4 => ?_
 refine H4.ld 0 (HB1.own.li 0 0) fun a5 H5 => nt ?_
 have H6 := H5.kp [1, 2, 3, 11]
 repeat (refine wp_seq ?_)
 refine wp_block ?_
 refine rl ?_
 refine H6.bn 1 (eql_iB _ _ _ b1 _ _ _) fun a8 H8 => nt ?_
 refine H8.condF rfl ?_
 refine rl ?_
 refine H8.bn 1 (eql_iB _ _ _ b2 _ _ _) fun a10 H10 => nt ?_
 refine H10.condF rfl ?_
 refine rl ?_
 refine H10.bn 1 (eql_iB _ _ _ b3 _ _ _) fun a12 H12 => nt ?_
 refine H12.condF rfl ?_
 refine rl ?_
 refine H12.bn 1 (eql_iB _ _ _ b8 _ _ _) fun a14 H14 => nt ?_
 refine H14.condT rfl ?_
 refine H14.rg 1 fun a15 H15 => ?_
 refine H15.ld 0 (HB1.own.li 0 20) fun a16 H16 => ?_
 refine H16.cl (rowTwo b0 [] _ m.id hi0 hi1 _ (RowIs.nil _ _) HB1.bw (by simp)) ?_
 rintro a17 v57 w2 ⟨R57, hb⟩ H17
 have HB2 := HB1.step hb
 clear hb
 refine H17.ms 1 fun a18 H18 => nt ?_
 refine H18.rg 1 fun a19 H19 => ?_
 refine H19.ld 0 (HB2.own.l7 0 22) fun a20 H20 => ?_
 refine H20.len gz rfl rfl rfl rfl Tryz.underlying46 ?_
 intro a21 H21
 refine H21.ms 1 fun a22 H22 => nt ?_
 repeat (refine wp_seq ?_)
 refine wp_block ?_
 refine wp_loop_up m.wishes.length (fun k a w' => ∃ v, Has a 123 [(1, pz w.heap.size), (3, v), (59, .slice A m.wishes.length c), (60, iz m.wishes.length), (61, iz k)] ∧ RowIs b0 (([] ++ big 2 m.id.toNat) ++ wishesBy (m.wishes.take k)) v w' ∧ Base w b0 [(w.heap.size, (mqCells m vc (.slice A m.wishes.length c) vf))] w') ?_ ?_
 ·exact ⟨_, H22.keep ⟨rfl, rfl, rfl, rfl, rfl, trivial⟩, (by rw [List.take_zero]; simpa [wishesBy] using R57), HB2⟩
 ·rintro k a23 w3 hkn ⟨v3, H23, R3, HB3⟩
  have hlb : (wishesBy (m.wishes.take k)).length ≤ 1000 := by
   have := wishesBy_le _ (wishesAll_take k hw); rw [List.length_take] at this; omega
  by_cases hlt : k < m.wishes.length
  ·skip
   obtain ⟨gb, go, x, rfl, hgb, hx, hc0, hc1⟩ := Reads.wish (hr.below HB3.own.bel) rfl hlt
   obtain ⟨hxs, hx0, hx1⟩ := wishesAll_get hw hx
   refine rl ?_
   refine H23.bb 0 rfl rfl rfl rfl rfl rfl (lss_i _ _ true (by simp; omega) _ _ _) rfl fun a24 H24 => nt ?_
   repeat (refine wp_seq ?_)
   refine H24.condT rfl ?_
   refine skip_wp ?_
   refine then_normal ?_
   repeat (refine wp_seq ?_)
   refine wp_block ?_
   refine rl ?_
   refine H24.index gz rfl rfl rfl rfl rfl (index_2 46 Tryz.underlying46 (fun _ => by kernel_rfl) _ _ _ _ _ hlt _) ?_
   intro a25 H25
   refine H25.ld 0 (load_wish _ _ _ _ _ hc0 hc1) fun a26 H26 => ?_
   refine H26.alloc rfl rfl rfl rfl _ zero_wish ?_
   intro a27 w4 hbA hsA hCA H27
   refine H27.storeS rfl rfl rfl rfl (L := [.string x.1, iz x.2]) rfl hCA size_wish rfl rfl rfl ?_
   intro a28 w5 H28 hgS hsS hC5
   have hb5 : Below w3.heap.size w3 w5 := hbA.grown hgS hbA.size (fun k hk => by injection hk with hk; rw [← hk]; exact Nat.le_refl _)
   have hlt5 : w3.heap.size < w5.heap.size := by rw [hsS, hsA]; exact Nat.lt_succ_self _
   have hfar : ∀ g, w3.heap.size ≤ g → some g ≠ v3.ownBlock := fun g hg => R3.away (.inr hg)
   generalize w3.heap.size = g5 at hC5 hlt5 hfar H28
   have R3 := R3.below hb5
   have HB5 := HB3.call hb5
   clear hbA hsA hCA hgS hsS hb5
   refine nt ?_
   have H29 := H28.kp [1, 3, 5, 59, 60, 61]
   refine H29.dr HB5 [1, 5, 59, 60, 61] rfl [er 0 65 [3] (fun v w => v = v3 ∧ RowIs b0 (([] ++ big 2 m.id.toNat) ++ wishesBy (m.wishes.take k)) v w), ec 1 66 (pz g5), eh 2 67 (.string x.1), er 3 68 [8] (fun v w => RowIs b0 ((([] ++ big 2 m.id.toNat) ++ wishesBy (m.wishes.take k)) ++ strB x.1) v w), ec 4 69 (.pointer (some ⟨g5, 1, none⟩)), eh 5 70 (iz x.2), ec 6 71 (.int .u8 (x.2 % 256)), er 7 72 [8] (fun v w => ∃ g, v = .slice (some ⟨g, 0, none⟩) 1 1 ∧ g5 ≤ g ∧ g < w.heap.size ∧ BytesAre [UInt8.ofNat x.2.toNat] v w), er 8 73 [] (fun v w => RowIs b0 (((([] ++ big 2 m.id.toNat) ++ wishesBy (m.wishes.take k)) ++ strB x.1) ++ [UInt8.ofNat x.2.toNat]) v w), er 9 3 [] (fun v w => RowIs b0 (((([] ++ big 2 m.id.toNat) ++ wishesBy (m.wishes.take k)) ++ strB x.1) ++ [UInt8.ofNat x.2.toNat]) v w), er 1000 3 [3, 9] (fun v w => v = v3 ∧ RowIs b0 (([] ++ big 2 m.id.toNat) ++ wishesBy (m.wishes.take k)) v w), er 1001 121 [8] (fun _ w => Cells w g5 [.string x.1, iz x.2] ∧ g5 < w.heap.size)] rfl ⟨jm, jm, (jc fun _ => (conv_u8 _ _)), trivial⟩ ⟨(by rw [H29.at_ 3 _ rfl]; exact ⟨rfl, R3.drew⟩), ⟨hC5.below (Below.drew (Below.refl _ _)) hlt5, hlt5⟩, trivial⟩ ?_ ?_
   ·intro listed aa ww i o hs hni hcl ho hd hI hh
    have hls : listed.size = 10 := hs
    rcases hh with rfl | rfl | rfl | rfl | rfl | rfl | rfl | hh
    ·obtain rfl := pick_op ho rfl
     have r3 := hI.vs _ (ma 10 rfl) (.inl (by rw [hls]; show 10 ≤ 1000; decide)) ⟨(Bool.eq_false_iff.2 fun h => absurd (hni.symm.trans (ran_of (hcl 3 _ rfl h) 0 (by kernel_rfl))) (by decide)), (Bool.eq_false_iff.2 fun h => absurd (hni.symm.trans (ran_of (hcl 3 _ rfl (ran_of (hcl 8 _ rfl (ran_of (hcl 9 _ rfl h) 8 (by kernel_rfl))) 3 (by kernel_rfl))) 0 (by kernel_rfl))) (by decide)), trivial⟩
     obtain ⟨e3, hR⟩ : aa.eval (.tmp 3) = v3 ∧ RowIs b0 (([] ++ big 2 m.id.toNat) ++ wishesBy (m.wishes.take k)) (aa.eval (.tmp 3)) ww := r3
     refine wpOp_go ho gz 65 rfl (aa.eval (.tmp 3)) ww (run_move (.inl rfl) rfl) ?_
     exact hI.ph hls 0 rfl (aa.eval (.tmp 3)) ⟨e3, hR⟩ hI.wp AllC.same
    ·obtain rfl := pick_op ho rfl
     have rp := hI.vs _ (ma 1 rfl) (.inr (ran_of hd 1 (by kernel_rfl))) trivial
     have up : aa.eval (.tmp 66) = pz g5 := rp
     have rbox := hI.vs _ (ma 11 rfl) (.inl (by rw [hls]; show 10 ≤ 1001; decide)) ⟨(Bool.eq_false_iff.2 fun h => absurd (hni.symm.trans (ran_of (hcl 3 _ rfl (ran_of (hcl 8 _ rfl h) 3 (by kernel_rfl))) 2 (by kernel_rfl))) (by decide)), trivial⟩
     refine wpOp_go ho gz 67 rfl (.string x.1) ww (run_load rfl up (load1_s _ _ _ _ (rbox.1.get 0 _ rfl))) ?_
     exact hI.ph hls 2 rfl (.string x.1) rfl hI.wp AllC.same
    ·obtain rfl := pick_op ho rfl
     have r65 := hI.vs _ (ma 0 rfl) (.inr (ran_of hd 0 (by kernel_rfl))) ⟨hni, trivial⟩
     obtain ⟨e65, hR⟩ : aa.eval (.tmp 65) = v3 ∧ RowIs b0 (([] ++ big 2 m.id.toNat) ++ wishesBy (m.wishes.take k)) (aa.eval (.tmp 65)) ww := r65
     have r67 := hI.vs _ (ma 2 rfl) (.inr (ran_of hd 2 (by kernel_rfl))) trivial
     have u67 : aa.eval (.tmp 67) = .string x.1 := r67
     have HH : Has aa 123 [(65, v3), (67, .string x.1)] := Has.of hI.sz hI.df ⟨e65, u67, trivial⟩
     rw [e65] at hR
     refine wpOp_enter ho gz 68 rfl 162 _ (run_callH HH rfl rfl (fun _ _ => by kernel_rfl)) _ (rowTextG b0 (([] ++ big 2 m.id.toNat) ++ wishesBy (m.wishes.take k)) v3 x.1 (by omega) ww hR hI.wp.bw (by simp only [List.length_append, big_length, List.length_nil]; omega)) ?_
     rintro v' w' ⟨hrow, hb0, hK⟩
     exact hI.ph hls 3 rfl (v') hrow (hI.wp.step hb0) ⟨fun _ h => absurd (by show 3 ∈ ([3] : List Nat); decide) h, fun h => absurd rfl h, fun _ _ _ _ _ h => lit_keep hK hfar hb0.size h, fun _ _ h => absurd (hni.symm.trans (ran_of (hcl 8 _ rfl (h.resolve_left (by rw [hls]; show ¬ 10 ≤ 8; decide))) 3 (by kernel_rfl))) (by decide), fun _ _ h => absurd (hni.symm.trans (ran_of (hcl 8 _ rfl (ran_of (hcl 9 _ rfl (h.resolve_left (by rw [hls]; show ¬ 10 ≤ 9; decide))) 8 (by kernel_rfl))) 3 (by kernel_rfl))) (by decide), fun _ h => absurd (by show 3 ∈ ([3, 9] : List Nat); decide) h, fun _ _ _ _ _ h => ⟨h.1.onBlock (hK g5 h.2 (hfar g5 (Nat.le_refl _))), Nat.lt_of_lt_of_le h.2 hb0.size⟩, trivial⟩
    ·obtain rfl := pick_op ho rfl
     have rp := hI.vs _ (ma 4 rfl) (.inr (ran_of hd 4 (by kernel_rfl))) trivial
     have up : aa.eval (.tmp 69) = .pointer (some ⟨g5, 1, none⟩) := rp
     have rbox := hI.vs _ (ma 11 rfl) (.inl (by rw [hls]; show 10 ≤ 1001; decide)) ⟨(Bool.eq_false_iff.2 fun h => absurd (hni.symm.trans (ran_of (hcl 6 _ rfl (ran_of (hcl 7 _ rfl (ran_of (hcl 8 _ rfl h) 7 (by kernel_rfl))) 6 (by kernel_rfl))) 5 (by kernel_rfl))) (by decide)), trivial⟩
     refine wpOp_go ho gz 70 rfl (iz x.2) ww (run_load rfl up (load1_i _ _ _ _ (rbox.1.get 1 _ rfl))) ?_
     exact hI.ph hls 5 rfl (iz x.2) rfl hI.wp AllC.same
    ·obtain rfl := pick_op ho rfl
     have r71 := hI.vs _ (ma 6 rfl) (.inr (ran_of hd 6 (by kernel_rfl))) trivial
     have u71 : aa.eval (.tmp 71) = .int .u8 (x.2 % 256) := r71
     have rbox := hI.vs _ (ma 11 rfl) (.inl (by rw [hls]; show 10 ≤ 1001; decide)) ⟨(Bool.eq_false_iff.2 fun h => absurd (hni.symm.trans (ran_of (hcl 8 _ rfl h) 7 (by kernel_rfl))) (by decide)), trivial⟩
     have hg5 : g5 < ww.heap.size := rbox.2
     have HH : Has aa 123 [(71, .int .u8 (x.2 % 256))] := Has.of hI.sz hI.df ⟨u71, trivial⟩
     obtain ⟨hby, hb⟩ := bytes_lit ww [UInt8.ofNat x.2.toNat] [.int .u8 (x.2 % 256)] (by rw [byte_of_int _ hx0]; rfl) 5 1 rfl
     refine wpOp_go ho gz 72 rfl (.slice (some ⟨ww.heap.size, 0, none⟩) 1 1) (ww.alloc (.cells ([.int .u8 (x.2 % 256)] : List Value).toArray 5)) (run_any HH (by intro cs b h; cases h) (by kernel_rfl) (by kernel_rfl)) ?_
     exact hI.ph hls 7 rfl (.slice (some ⟨ww.heap.size, 0, none⟩) 1 1) ⟨_, rfl, Nat.le_of_lt hg5, lt_alloc ww _, hby⟩ (hI.wp.call hb) ⟨fun _ _ _ _ _ h => ⟨h.1, h.2.below hb⟩, fun _ _ _ _ _ h => h.below hb, fun h => absurd rfl h, fun _ _ _ _ _ h => h.below hb, fun _ _ _ _ _ h => h.below hb, fun _ _ _ _ _ h => ⟨h.1, h.2.below hb⟩, fun _ _ _ _ _ h => ⟨h.1.below hb h.2, Nat.lt_of_lt_of_le h.2 hb.size⟩, trivial⟩
    ·obtain rfl := pick_op ho rfl
     have r68 := hI.vs _ (ma 3 rfl) (.inr (ran_of hd 3 (by kernel_rfl))) ⟨hni, trivial⟩
     have r72 := hI.vs _ (ma 7 rfl) (.inr (ran_of hd 7 (by kernel_rfl))) ⟨hni, trivial⟩
     obtain ⟨_, _, _, _, hby⟩ := r72
     obtain ⟨v', w', hrun, hrow, hb0, hg⟩ := run_append_row (P := Tryz.prog) (a := aa) (w := ww) Tryz.underlying31 info_u8 (o := ⟨some 73, _, _, _, _, none⟩) rfl rfl rfl r68 hby (by simp only [List.length_append, strB_length, big_length, List.length_cons, List.length_nil]; omega) hI.wp.bw
     refine wpOp_go ho gz 73 rfl v' w' hrun ?_
     exact hI.ph hls 8 rfl (v') hrow (hI.wp.step hb0) ⟨fun _ _ _ hk => absurd (hk.1.symm.trans (ran_of hd 3 (by kernel_rfl))) (by decide), fun _ h => absurd (by show 8 ∈ ([8] : List Nat); decide) h, fun _ h => absurd (by show 8 ∈ ([8] : List Nat); decide) h, fun h => absurd rfl h, fun _ _ h => absurd (hni.symm.trans (ran_of (hcl 9 _ rfl (h.resolve_left (by rw [hls]; show ¬ 10 ≤ 9; decide))) 8 (by kernel_rfl))) (by decide), fun _ _ _ hk => absurd (hk.1.symm.trans (ran_of hd 3 (by kernel_rfl))) (by decide), fun _ h => absurd (by show 8 ∈ ([8] : List Nat); decide) h, trivial⟩
    ·obtain rfl := pick_op ho rfl
     have r_73 := hI.vs _ (ma 8 rfl) (.inr (ran_of hd 8 (by kernel_rfl))) trivial
     have HH : Has aa 123 [(73, aa.eval (.tmp 73))] := Has.of hI.sz hI.df ⟨rfl, trivial⟩
     refine wpOp_go ho gz 3 rfl (aa.eval (.tmp 73)) ww (run_move (.inr rfl) (HH.ev rfl)) ?_
     exact hI.ph hls 9 rfl (aa.eval (.tmp 73)) r_73 hI.wp AllC.same
    ·exact False.elim hh
   ·intro listed a30 w6 hall hI
    have r_3 := hI.vs _ (ma 9 rfl) (.inr (hall 9 (by decide))) trivial
    have H30 : Has a30 123 [(1, pz w.heap.size), (5, pz g5), (59, .slice (some ⟨gb, go, none⟩) m.wishes.length c), (60, iz m.wishes.length), (61, iz k), (3, a30.eval (.tmp 3))] := Has.of hI.sz hI.df ⟨hI.fx.1, hI.fx.2.1, hI.fx.2.2.1, hI.fx.2.2.2.1, hI.fx.2.2.2.2.1, rfl, trivial⟩
    have HB6 := hI.wp
    have R3_6 : RowIs b0 (((([] ++ big 2 m.id.toNat) ++ wishesBy (m.wishes.take k)) ++ strB x.1) ++ [UInt8.ofNat x.2.toNat]) (a30.eval (.tmp 3)) w6 := r_3
    refine block_normal ?_
    refine then_normal ?_
    refine rl ?_
    refine H30.bb 1 rfl rfl rfl rfl rfl rfl (succ_i _ (by omega) _ _ _) rfl fun a32 H32 => nt ?_
    exact ⟨hlt, _, H32.keep ⟨rfl, rfl, rfl, rfl, rfl, trivial⟩, (by rw [take_snoc? _ _ _ hx, wishesBy_app, ← List.append_assoc, ← List.append_assoc]; exact R3_6), HB6⟩
  ·skip
   obtain rfl : k = m.wishes.length := by omega
   refine rl ?_
   refine H23.bb 0 rfl rfl rfl rfl rfl rfl (lss_i _ _ false (by simp) _ _ _) rfl fun a24 H24 => nt ?_
   repeat (refine wp_seq ?_)
   refine H24.condF rfl ?_
   refine wp_exit ?_
   repeat (with_reducible refine then_exit ?_)
   refine block_leave ?_
   refine then_normal ?_
   refine H24.rg 3 fun a27 H27 => nt ?_
   rw [List.take_length] at R3
   refine wp_ret ?_
   repeat (first | (with_reducible refine block_ret ?_) | (with_reducible refine then_ret ?_))
   refine bodyPost_ret (results_pair rfl _ _ _ (H27.at_ 2 _ rfl) (H27.at_ 3 _ rfl)) H27.df ?_
   refine bodied_of (by unfold flagsBy; simp [hk]) ?_ R3.read HB3
   unfold bodyBy; simp [hk]
end
section
open Go.RowKit
theorem packBody (m : Mq) (vc vw vf : Value) (w : World) (hm : mayB m) (hL : MqL w w.heap.size m vc vw vf) :
  Calls Tryz.prog 133 #[.agg (mqCells m vc vw vf).toArray] w (Bodied m w) := by
 obtain ⟨h, ho⟩ := hm
 have hkk := may_kind h
 have ids : ∀ {n : Int}, inRB n 1 65535 = true → 0 ≤ n ∧ n ≤ 65535 := fun h => by have := inRB_iff.1 h; omega
 by_cases k1 : m.kind = 1
 ·have hc : connectOk m = true := by unfold okOf at h; rw [if_pos k1] at h; exact h
  simp only [connectOk, Bool.and_eq_true, decide_eq_true_eq] at hc
  obtain ⟨hc, hkp, hw, hu, hps, h1, h2⟩ := hc
  have hc' := textOk_size hc
  have hu' := textOk_size hu
  have hkp := inRB_iff.1 hkp
  have hwq : m.wt.size ≤ 64 ∧ m.wp.size ≤ 128 ∧ 0 ≤ m.wq ∧ m.wq ≤ 2 := by
   unfold willOk at hw
   cases hwon : m.won with
   | true =>
    rw [hwon, if_pos rfl] at hw
    simp only [Bool.and_eq_true, decide_eq_true_eq] at hw
    obtain ⟨a, b, c⟩ := hw
    have := textOk_size a
    have := inRB_iff.1 c
    exact ⟨by omega, by omega, by omega, by omega⟩
   | false =>
    rw [hwon, if_neg (by simp)] at hw
    simp only [Bool.and_eq_true, beq_iff_eq, Bool.not_eq_true'] at hw
    obtain ⟨a, b, c, d⟩ := hw
    rw [emp_nos a, emp_nos b, c]
    exact ⟨by decide, by decide, by decide, by decide⟩
  exact body_1 m vc vw vf w k1 (by omega) (by omega) (by omega) (by omega) (by omega) (by omega) (by omega) (by omega) (by omega)
 by_cases k2 : m.kind = 2
 ·have hc : (inRB m.code 0 5 && (!m.present || m.code == 0)) = true := by unfold okOf at h; rw [if_neg k1, if_pos k2] at h; exact h
  simp only [Bool.and_eq_true] at hc
  exact body_2 m vc vw vf w k2 (inRB_iff.1 hc.1).1
 by_cases k3 : m.kind = 3
 ·have hc : publishOk m = true := by unfold okOf at h; rw [if_neg k1, if_neg k2, if_pos k3] at h; exact h
  obtain ⟨ht, hq0, hq2, hi, hz, hp⟩ := publish_facts hc
  have : 0 ≤ m.id ∧ m.id ≤ 65535 := by
   by_cases hq : 0 < m.qos
   ·have := hi hq; omega
   ·have := hz (by omega); omega
  exact body_3 m vc vw vf w k3 (by omega) (by omega) hq0 hq2 this.1 this.2
 by_cases k8 : m.kind = 8
 ·have hc : (inRB m.id 1 65535 && wishesOk m.wishes) = true := by
   unfold okOf at h; rw [if_neg k1, if_neg k2, if_neg k3, if_neg (by simp [idKind, k8]), if_pos k8] at h; exact h
  simp only [Bool.and_eq_true, wishesOk] at hc
  obtain ⟨i0, i1⟩ := ids hc.1
  have hl := inRB_iff.1 hc.2.2
  obtain ⟨A1, c1, A2, c2, A3, c3, rfl, rfl, rfl, l1, l2, l3, k1', k2', k3', r1, r2, r3⟩ := hL
  exact body_8 m _ _ w k8 i0 i1 A2 c2 r2 hc.2.1 (by omega)
 by_cases k9 : m.kind = 9
 ·have hc : (inRB m.id 1 65535 && codesOk m.codes) = true := by
   unfold okOf at h; rw [if_neg k1, if_neg k2, if_neg k3, if_neg (by simp [idKind, k9]), if_neg k8, if_pos k9] at h; exact h
  simp only [Bool.and_eq_true, codesOk] at hc
  obtain ⟨i0, i1⟩ := ids hc.1
  have hl := inRB_iff.1 hc.2.2
  obtain ⟨A1, c1, A2, c2, A3, c3, rfl, rfl, rfl, l1, l2, l3, k1', k2', k3', r1, r2, r3⟩ := hL
  exact body_9 m _ _ w k9 i0 i1 A1 c1 r1 hc.2.1 (by omega)
 by_cases k10 : m.kind = 10
 ·have hc : (inRB m.id 1 65535 && filtersOk m.filters) = true := by
   unfold okOf at h; rw [if_neg k1, if_neg k2, if_neg k3, if_neg (by simp [idKind, k10]), if_neg k8, if_neg k9, if_pos k10] at h; exact h
  simp only [Bool.and_eq_true, filtersOk] at hc
  obtain ⟨i0, i1⟩ := ids hc.1
  have hl := inRB_iff.1 hc.2.2
  obtain ⟨A1, c1, A2, c2, A3, c3, rfl, rfl, rfl, l1, l2, l3, k1', k2', k3', r1, r2, r3⟩ := hL
  exact body_10 m _ _ w k10 i0 i1 A3 c3 r3 hc.2.1 (by omega)
 by_cases ki : idKind m.kind = true
 ·have hc : inRB m.id 1 65535 = true := by
   unfold okOf at h; rw [if_neg k1, if_neg k2, if_neg k3, if_pos ki] at h; exact h
  obtain ⟨i0, i1⟩ := ids hc
  simp only [idKind, Bool.or_eq_true, beq_iff_eq] at ki
  exact body_i m vc vw vf w (by simpa using k1) (by simpa using k2) (by simpa using k3) (by simpa using k8) (by simpa using k9) (by simpa using k10) (by simp; omega) (by simp; omega) (by simp; omega) _ rfl i0 i1
 have kb : bareKind m.kind = true := by
  unfold okOf at h; rw [if_neg k1, if_neg k2, if_neg k3, if_neg ki, if_neg k8, if_neg k9, if_neg k10] at h; exact h
 simp only [bareKind, Bool.or_eq_true, beq_iff_eq] at kb
 rcases kb with k | k | k
 ·exact body_12 m vc vw vf w k
 ·exact body_13 m vc vw vf w k
 ·exact body_14 m vc vw vf w k
end
section
open Go.RowKit
def setR : Nat → List Value → List Value → List Value
 | _, [], L => L
 | o, v :: vs, L => setR (o + 1) vs (L.set o v)
structure StE where
 op : Nat
 off : Nat
 vs : List Value
def setsF (listed : Array Bool) : List StE → List Value → List Value
 | [], L => L
 | j :: js, L => bif listed.getD j.op false then setR j.off j.vs (setsF listed js L) else setsF listed js L
def setsA : List StE → List Value → List Value
 | [], L => L
 | j :: js, L => setR j.off j.vs (setsA js L)
theorem setR_length : ∀ (vs : List Value) (o : Nat) (L : List Value), (setR o vs L).length = L.length
 | [], _, _ => rfl
 | v :: vs, o, L => by rw [setR, setR_length vs, List.length_set]
theorem setR_set : ∀ (vs : List Value) (o k : Nat) (u : Value) (L : List Value), (k < o ∨ o + vs.length ≤ k) → setR o vs (L.set k u) = (setR o vs L).set k u
 | [], _, _, _, _, _ => rfl
 | v :: vs, o, k, u, L, h => by
  simp only [List.length_cons] at h
  rw [setR, setR, List.set_comm _ _ (show k ≠ o by omega), setR_set vs (o + 1) k u _ (by omega)]
theorem setR_comm : ∀ (vs us : List Value) (o k : Nat) (L : List Value), (o + vs.length ≤ k ∨ k + us.length ≤ o) → setR o vs (setR k us L) = setR k us (setR o vs L)
 | [], _, _, _, _, _ => rfl
 | v :: vs, us, o, k, L, h => by
  simp only [List.length_cons] at h
  rw [setR, setR, ← setR_set us k o v L (by omega), setR_comm vs us (o + 1) k _ (by omega)]
theorem setsF_length (listed : Array Bool) (L : List Value) : ∀ js : List StE, (setsF listed js L).length = L.length
 | [] => rfl
 | j :: js => by
  unfold setsF
  cases listed.getD j.op false with
  | true => rw [cond_true, setR_length]; exact setsF_length listed L js
  | false => rw [cond_false]; exact setsF_length listed L js
theorem setsF_other {listed : Array Bool} {i : Nat} {L : List Value} : ∀ {js : List StE}, (∀ j ∈ js, j.op ≠ i) → setsF (listed.setIfInBounds i true) js L = setsF listed js L
 | [], _ => rfl
 | j :: js, h => by
  rw [setsF, setsF, ran_ne listed (Ne.symm (h j List.mem_cons_self)), setsF_other fun u hu => h u (List.mem_cons_of_mem _ hu)]
def apartB (js : List StE) : Bool := js.all fun j => js.all fun k => Nat.beq j.op k.op || (Nat.ble (j.off + j.vs.length) k.off || Nat.ble (k.off + k.vs.length) j.off)
theorem setsF_set {listed : Array Bool} {L : List Value} {j0 : StE} (hi : j0.op < listed.size) (h0 : listed.getD j0.op false = false) : ∀ {js : List StE}, (js.map (·.op)).Nodup → j0 ∈ js → (∀ k ∈ js, k.op = j0.op ∨ j0.off + j0.vs.length ≤ k.off ∨ k.off + k.vs.length ≤ j0.off) →
  setsF (listed.setIfInBounds j0.op true) js L = setR j0.off j0.vs (setsF listed js L)
 | j :: js, hn, hm, ha => by
  rw [List.map_cons, List.nodup_cons] at hn
  rcases List.mem_cons.1 hm with rfl | hm
  ·rw [setsF, setsF, ran_same listed hi, h0, cond_true, cond_false, setsF_other fun u hu e => hn.1 (by rw [← e]; exact List.mem_map_of_mem hu)]
  ·have hne : j0.op ≠ j.op := fun e => hn.1 (by rw [← e]; exact List.mem_map_of_mem hm)
   rw [setsF, setsF, ran_ne listed hne, setsF_set hi h0 hn.2 hm fun k hk => ha k (List.mem_cons_of_mem _ hk)]
   cases listed.getD j.op false with
   | true =>
    rw [cond_true, cond_true]
    refine setR_comm _ _ _ _ _ ?_
    rcases ha j List.mem_cons_self with h | h | h
    ·exact absurd h.symm hne
    ·exact .inr h
    ·exact .inl h
   | false => rfl
theorem setsF_none {N : Nat} {L : List Value} : ∀ {js : List StE}, setsF (Array.replicate N false) js L = L
 | [] => rfl
 | j :: js => by rw [setsF, none_ran, cond_false, setsF_none]
theorem setsF_all {listed : Array Bool} {L : List Value} : ∀ {js : List StE}, (∀ j ∈ js, listed.getD j.op false = true) → setsF listed js L = setsA js L
 | [], _ => rfl
 | j :: js, h => by rw [setsF, setsA, h j List.mem_cons_self, cond_true, setsF_all fun u hu => h u (List.mem_cons_of_mem _ hu)]
def StoreE (ops : Array Oper) (n : Nat) (l : List (Nat × Value)) (g m : Nat) (j : StE) : Prop :=
 ∃ o, ops[j.op]? = some o ∧ o.dst = none ∧ ∀ (a : Act) (w : World) (L : List Value), Has a n l → Cells w g L → L.length = m → Region.wanted o (yielded ops a.tmps) = true ∧ ∃ w', (execOp a.eval o).run Tryz.prog w = .ok .skip w' ∧ w.grownBy w' (some g) ∧ w'.heap.size = w.heap.size ∧ Cells w' g (setR j.off j.vs L)
def StoreAll (ops : Array Oper) (n : Nat) (fixed : List (Nat × Value)) (es : List EntC) (g m : Nat) : List StE → Prop
 | [] => True
 | ⟨op, off, vs⟩ :: js => StoreE ops n (fixed ++ knownE (afts ops op) es) g m ⟨op, off, vs⟩ ∧ StoreAll ops n fixed es g m js
theorem store_at {ops : Array Oper} {n : Nat} {fixed : List (Nat × Value)} {es : List EntC} {g m : Nat} : ∀ {js : List StE}, StoreAll ops n fixed es g m js → ∀ j ∈ js, StoreE ops n (fixed ++ knownE (afts ops j.op) es) g m j
 | k :: js, h, j, hj => by
  rcases List.mem_cons.1 hj with rfl | hj
  ·exact h.1
  ·exact store_at h.2 j hj
section
variable {ops : Array Oper} {Q : Exit → Act → World → Prop} {n : Nat} {l fixed : List (Nat × Value)} {es : List EntC}
theorem Has.ds {a : Act} {w W : World} {B : Nat} {bs : List (Nat × List Value)} {c : Code} {id : Nat} {Q' : Exit → Act → World → Prop} (H : Has a n l) (O : Own W B bs w) (i : Nat) {g : Nat} {L : List Value} (ss : List Nat) (hs : sel l ss = some fixed) (es : List EntC) (js : List StE) (hc : peel Tryz.prog c Q' = (.region id ops true, Q)) (hi : bs[i]? = some (g, L))
  (hp : PureAll ops Q n fixed (fun w => ∃ L', L'.length = L.length ∧ Own W B (bs.set i (g, L')) w) es es) (hst : StoreAll ops n fixed es g L.length js) (hfin : ∀ (a : Act) (w : World), Has a n (fixed ++ finV es) → Own W B (bs.set i (g, setsA js L)) w → Q .normal a w)
  (hf : (fitsB n fixed (es.map EntC.e) && (es.all plainB && (coverD ops.size es (js.map (·.op)) && Nat.ble ops.size 1000))) = true := by kernel_rfl) (hj : (apartB js && (decide (js.map (·.op)).Nodup && (js.all (fun j => Nat.blt j.op ops.size && es.all (fun t => t.op != j.op)) && es.all (fun t => Nat.blt t.op ops.size)))) = true := by kernel_rfl)
  (hback : (List.range ops.size).all (fun i => match ops[i]? with | some o => o.after.all (fun e => !Region.binds .any e || decide (e.on < i)) | none => true) = true := by kernel_rfl) (hm : Tryz.prog.follows .mixedOrders = true := by kernel_rfl) : c.wp Tryz.prog Q' a w := by
 simp only [Bool.and_eq_true, decide_eq_true_eq] at hf hj
 obtain ⟨hf, hpl, hcv, hN⟩ := hf
 obtain ⟨hap, hnd, hjl, hel⟩ := hj
 have hN : ops.size ≤ 1000 := by simpa using hN
 have hlt : ∀ j ∈ js, j.op < ops.size ∧ es.all (fun t => t.op != j.op) = true := fun j hj => by
  have := List.all_eq_true.1 hjl j hj
  simpa [Nat.blt_eq] using this
 have hel : ∀ t ∈ es, t.op < ops.size := fun t ht => by simpa [Nat.blt_eq] using List.all_eq_true.1 hel t ht
 have hpure : ∀ t ∈ es, ∃ v, t.c = some v ∧ t.arm = false := fun t ht => by
  have := List.all_eq_true.1 hpl t ht
  simp only [plainB, Bool.and_eq_true, Bool.not_eq_true'] at this
  obtain ⟨v, hv⟩ := Option.isSome_iff_exists.1 this.1
  exact ⟨v, hv, this.2⟩
 have hst' : ∀ {k : Nat} {listed : Array Bool} {w w' : World} {ts : List EntC}, (∀ t ∈ ts, t ∈ es) → AllC k listed w w' ts := by
  intro k listed w w' ts hts
  induction ts with
  | nil => trivial
  | cons t ts ih =>
   obtain ⟨v, hv, _⟩ := hpure t (hts t List.mem_cons_self)
   unfold AllC
   rw [hv]
   exact ih fun u hu => hts u (List.mem_cons_of_mem _ hu)
 have hli : i < bs.length := (List.getElem?_eq_some_iff.1 hi).1
 refine peel_wp c Q' ?_
 rw [hc]
 refine wp_region_invB hm (fun listed => InvB n fixed (es.map EntC.e) (fun w => Own W B (bs.set i (g, setsF listed js L)) w) listed) (back_of hback) ?_ ?_ ⟨H.sz, H.df, sel_ok H hs, ?_, ?_⟩
 ·intro listed a w k o hsz hni hcl ho hd hI
  have hk : k < ops.size := (Array.getElem?_eq_some_iff.1 ho).1
  have hkk : afts ops k = o.after.toList := by unfold afts; rw [ho]
  have HH := Has.of hI.sz hI.df (AllEv.app hI.fx (known_ok hI hd fun _ h => h))
  by_cases hmem : k ∈ es.map (·.op)
  ·obtain ⟨t, ht, he⟩ := List.mem_map.1 hmem
   subst he
   obtain ⟨v, hv, hm⟩ := hpure t ht
   have hO : Own W B (bs.set i (g, setsF (listed.setIfInBounds t.op true) js L)) w := by
    rw [setsF_other]
    ·exact hI.wp
    ·intro j hj e
     have := List.all_eq_true.1 (hlt j hj).2 t ht
     simp [e] at this
   have hK := hI.put (Wp' := fun w => Own W B (bs.set i (g, setsF (listed.setIfInBounds t.op true) js L)) w) hf t.e (List.mem_map_of_mem ht) (by rw [EntC.e_op, hsz]; exact hk) (by rw [hsz]; exact hN) v (by simp only [EntC.e, hv]) hO AllSt.same
   rw [EntC.e_op] at hK
   have hsl : t.e.slot = t.slot := by simp only [EntC.e, hv]
   rw [hsl] at hK
   have hp' := pure_at hp t ht v hv hm
   rw [hkk] at hp'
   exact hp' _ a w HH ⟨_, setsF_length _ _ _, hI.wp⟩ hK
  ·have hkj : k ∈ js.map (·.op) := by
    have := List.all_eq_true.1 hcv k (List.mem_range.2 hk)
    simp only [Bool.or_eq_true] at this
    rcases this with h | h
    ·obtain ⟨t, ht, he⟩ := List.any_eq_true.1 h
     exact absurd (List.mem_map.2 ⟨t, ht, by simpa using he⟩) hmem
    ·simpa using h
   obtain ⟨j, hj, he⟩ := List.mem_map.1 hkj
   subst he
   obtain ⟨o', ho', hdst, hrun⟩ := store_at hst j hj
   rw [ho] at ho'
   injection ho' with ho'
   subst ho'
   rw [hkk] at hrun
   have hgi : (bs.set i (g, setsF listed js L))[i]? = some (g, setsF listed js L) := by simp [hli]
   obtain ⟨hwt, w', hr, hg, hs', hC⟩ := hrun a w _ HH (hI.wp.get i hgi) (setsF_length _ _ _)
   refine wpOp_do ho hwt hdst w' hr ?_
   refine hI.done j.op (by rw [hsz]; exact hk) ?_ ?_ (hst' fun _ h => h).all
   ·refine List.all_eq_true.2 fun t ht => ?_
    obtain ⟨u, hu, rfl⟩ := List.mem_map.1 ht
    rw [EntC.e_op]
    exact List.all_eq_true.1 (hlt j hj).2 u hu
   ·have := hI.wp.store i hgi hg hs' hC
    rw [List.set_set] at this
    rw [setsF_set (by rw [hsz]; exact hk) hni hnd hj]
    ·exact this
    ·intro k hk'
     have := List.all_eq_true.1 (List.all_eq_true.1 hap j hj) k hk'
     simp only [Bool.or_eq_true, Nat.ble_eq] at this
     rcases this with h | h | h
     ·exact .inl (Nat.eq_of_beq_eq_true h).symm
     ·exact .inr (.inl h)
     ·exact .inr (.inr h)
 ·intro listed a w hall hI
  have hO := hI.wp
  rw [setsF_all fun j hj => hall j.op (hlt j hj).1] at hO
  exact hfin a w (Has.of hI.sz hI.df (AllEv.app hI.fx (finV_ok hI (fun t ht => hall t.op (hel t ht)) fun _ h => h))) hO
 ·intro u hu hl _
  obtain ⟨t, ht, rfl⟩ := List.mem_map.1 hu
  rw [EntC.e_op] at hl
  have := hel t ht
  rcases hl with hl | hl
  ·rw [Array.size_replicate] at hl; omega
  ·rw [none_ran] at hl; cases hl
 ·rw [setsF_none]
  have : bs.set i (g, L) = bs := by
   refine List.ext_getElem? fun k => ?_
   rw [List.getElem?_set]
   by_cases e : i = k
   ·subst e
    rw [if_pos rfl, if_pos hli, hi]
   ·rw [if_neg e]
  rw [this]
  exact O.drew
theorem q1 {T i off g m : Nat} {x y : Operand} {v : Value} {o : Oper} (hst : ∀ (w : World) (u : Value), w.cell? ⟨g, off, none⟩ = some u → w.frozen? ⟨g, off, none⟩ = false → (Instr.storeAt T (.pointer (some ⟨g, off, none⟩)) v).run Tryz.prog w = .ok () (w.setCell ⟨g, off, none⟩ v)) (ho : ops[i]? = some o := by rfl) (hp : o.op = .store T x y := by rfl)
  (hd : o.dst = none := by rfl) (hg : okG ops l o = true := by rfl) (hx : evL l x = some (.pointer (some ⟨g, off, none⟩)) := by rfl) (hy : evL l y = some v := by rfl) (hj : Nat.blt off m = true := by rfl) : StoreE ops n l g m ⟨i, off, [v]⟩ := by
 refine ⟨o, ho, hd, fun a w L H hC hl => ⟨okG_w H hg, ?_⟩⟩
 have hj' : off < L.length := by rw [hl]; simpa [Nat.blt_eq] using hj
 obtain ⟨c1, c2⟩ := hC off _ (List.getElem?_eq_getElem hj')
 exact ⟨_, run_store hp (H.ev hx) (H.ev hy) (hst w _ c1 c2), grown_setCell w g off v, size_setCell' _ _ _, hC.set off v hj'⟩
theorem q5 {i g m : Nat} {x y : Operand} {b c : Bool} {t u : ByteArray} {q : Int} {o : Oper} (ho : ops[i]? = some o := by rfl) (hp : o.op = .store 44 x y := by rfl) (hd : o.dst = none := by rfl) (hg : okG ops l o = true := by rfl) (hx : evL l x = some (.pointer (some ⟨g, 4, none⟩)) := by rfl)
  (hy : evL l y = some (.agg #[.bool b, .string t, .string u, iz q, .bool c]) := by rfl) (hj : Nat.blt 8 m = true := by rfl) : StoreE ops n l g m ⟨i, 4, [.bool b, .string t, .string u, iz q, .bool c]⟩ := by
 refine ⟨o, ho, hd, fun a w L H hC hl => ⟨okG_w H hg, ?_⟩⟩
 have hj' : 8 < L.length := by rw [hl]; simpa [Nat.blt_eq] using hj
 refine ⟨_, run_store hp (H.ev hx) (H.ev hy) (store_will g L b t u q c w hC hj'), ?_, ?_, ?_⟩
 ·exact ((((grown_setCell w g 4 _).trans (grown_setCell _ g 5 _)).trans (grown_setCell _ g 6 _)).trans (grown_setCell _ g 7 _)).trans (grown_setCell _ g 8 _)
 ·simp only [size_setCell']
 ·exact ((((hC.set 4 _ (by omega)).set 5 _ (by simp only [List.length_set]; omega)).set 6 _ (by simp only [List.length_set]; omega)).set 7 _ (by simp only [List.length_set]; omega)).set 8 _ (by simp only [List.length_set]; omega)
end
end
section
open Go.RowKit
theorem Own.sto {W w : World} {B : Nat} {bs : List (Nat × List Value)} (O : Own W B bs w) (i : Nat) {g : Nat} {L0 L : List Value} {T m : Nat} (hi : bs[i]? = some (g, L0)) (hm : (Tryz.prog.info? T).map (·.size) = some m) (h0 : L0.length = m) (h1 : L.length = m) (hc : L.all (·.oneCell') = true) :
  ∃ w', (Instr.storeAt T (pz g) (.agg L.toArray)).run Tryz.prog w = .ok () w' ∧ Own W B (bs.set i (g, L)) w' := by
 have hC := O.get i hi
 have ht : w.there g 0 L.toArray.size := by
  have := hC.there
  rw [h0, ← h1] at this
  simpa using this
 refine ⟨_, run_storeAt_mid w g 0 T L.toArray ht (by rw [hm, ← h1]; simp) (all_oneCell_toArray fun v hv => List.all_eq_true.1 hc v hv), O.store i hi (setCells_only g _ 0 w).2 (setCells_only g _ 0 w).1.size ?_⟩
 intro j v hv
 have hj := (List.getElem?_eq_some_iff.1 hv).1
 have a := World.rangeAt_setCells_same w g 0 L (by simpa using ht) j v hv
 have b := (World.there_setCells (by simpa using ht) g 0 L j hj).2
 rw [Nat.zero_add] at a b
 exact ⟨a, b⟩
theorem packOnly (m : Mq) (vc vw vf : Value) (w : World) (hL : MqL w w.heap.size m vc vw vf) (hF : MqFit m) (hW : Wd w) :
  Calls Tryz.prog 131 #[.agg (mqCells m vc vw vf).toArray] w (Onlied m w) := by
 go_enter Tryz.func131, Tryz.ntmps131
 refine Has.start 144 [(0, .agg (mqCells m vc vw vf).toArray)] rfl rfl ⟨rfl, trivial⟩ ?_
 intro a0 H0
 have O0 := Own.start w
 refine rl ?_
 refine H0.bx O0 0 fun a1 w1 O1 H1 => ?_
 refine H1.al O1 1 zero_mq fun a3 w2 O2 H3 => nt ?_
 refine H3.rg 1 fun a4 H4 => ?_
 refine H4.ld 1 (O2.li 1 0) fun a6 H6 => ?_
 refine H6.sc O2 0 0 (fun u h f => store1_i _ _ _ u _ h f) fun a7 w3 O3 H7 => nt ?_
 refine H7.rg 1 fun a8 H8 => ?_
 refine H8.ld 0 (O3.li 1 20) fun a9 H9 => ?_
 refine H9.cq 1 (packWithin m.id 1 65535 _) fun a11 H11 => nt ?_
 refine H11.rg 1 fun a12 H12 => ?_
 refine H12.ld 0 (O3.li 1 0) fun a13 H13 => nt ?_
 obtain ⟨g1, hg1⟩ : ∃ g, w.heap.size = g := ⟨_, rfl⟩
 obtain ⟨g2, hg2⟩ : ∃ g, w1.heap.size = g := ⟨_, rfl⟩
 obtain ⟨i, hi⟩ : ∃ i, inRB m.id 1 65535 = i := ⟨_, rfl⟩
 have hE : ∀ (a : Act) (w' : World) (m' : Mq) (vc' vw' vf' : Value) (b : Bool) (L1 : List Value), Has a 144 [(2, pz g2), (3, .bool b)] → Own w g1 [(g2, mqCells m' vc' vw' vf'), (g1, L1)] w' → onlyOf m = m' → okOf m = b → MqL w' w'.heap.size m' vc' vw' vf' →
   (results Tryz.f131 a.tmps).run Tryz.prog w' = .ok (.tuple #[.agg (mqCells m' vc' vw' vf').toArray, .bool b]) w' ∧ a.defers = [] ∧ Onlied m w (.returned (.tuple #[.agg (mqCells m' vc' vw' vf').toArray, .bool b])) w' := by
  intro a w' m' vc' vw' vf' b L1 H O ho hq hM
  exact ⟨results_two Tryz.results131 _ _ _ (H.at_ 2 _ rfl) (H.at_ 3 _ rfl) (O.get 0 rfl) Tryz.underlying49 rfl 24 size_mq rfl, H.df, onlied_of (by rw [ho]) hq.symm (by rw [ho]; exact hM) (hg1 ▸ O.bel)⟩
 have H14 := H13.kp [1, 2, 3, 4, 12]
 have O := O3
 rw [hg1, hg2] at H14 O
 rw [hi] at H14
 clear H0 H1 H3 H4 H6 H7 H8 H9 H11 H12 H13 O0 O1 O2 O3
 refine wp_block ?_
 refine H14.rg 0 fun a1 H1 => ?_
 refine H1.bn 1 (eql_i _ _ _ _ _) fun a2 H2 => nt ?_
 refine H2.cond (t := m.kind == 1) rfl ?_
 cases b1 : (m.kind == 1) with
 | true =>
  have k1 : m.kind = 1 := by simpa using b1
  refine H2.rg 1 fun a17 H17 => ?_
  refine H17.ld 1 (O.li 1 0) fun a19 H19 => ?_
  refine H19.ld 1 (O.ls 1 1) fun a21 H21 => ?_
  refine H21.ld 1 (O.lb 1 2) fun a23 H23 => ?_
  refine H23.ld 1 (O.li 1 3) fun a25 H25 => ?_
  refine H25.ld 1 (load_will _ _ _ _ _ _ _ _ (O.get 1 rfl) rfl rfl rfl rfl rfl) fun a27 H27 => ?_
  refine H27.ld 1 (O.ls 1 9) fun a29 H29 => ?_
  refine H29.ld 1 (O.lb 1 10) fun a31 H31 => ?_
  refine H31.ld 1 (O.ls 1 11) fun a33 H33 => ?_
  refine H33.ld 0 (O.lb 1 12) fun a34 H34 => ?_
  obtain ⟨m', hm'⟩ : ∃ m', m' = { mq0 m.kind with client := m.client, clean := m.clean, keep := m.keep, won := m.won, wt := m.wt, wp := m.wp, wq := m.wq, wr := m.wr, user := m.user, hu := m.hu, pass := m.pass, hp := m.hp } := ⟨_, rfl⟩
  refine H34.any (w' := w3) gz rfl rfl (.agg (mqCells m' nilV nilV nilV).toArray) (by intro cs b h; cases h) (by kernel_rfl) (by rw [hm']; kernel_rfl) ?_
  intro a35 H35
  refine H35.st O 0 0 (hi := size_mq) fun a36 w4 O4 H36 => nt ?_
  refine H36.sg (fun w' => Own w g1 [(g2, mqCells m' nilV nilV nilV), (g1, mqCells m vc vw vf)] w') O4.drew [1, 2] [ec 0 34 (.agg (mqCells m' nilV nilV nilV).toArray), ec 1 35 (.agg (mqCells m vc vw vf).toArray), eh 2 36 (.bool (connectOk m))] rfl ?_
  refine St.sto 3 ⟨jl fun _ h => loadS_run (h.get 0 rfl), jl fun _ h => loadS_run (h.get 1 rfl), kb fun w' h => packConnectV m _ _ _ hF.client hF.wt hF.user w' (hW.below (hg1 ▸ h.bel)), trivial⟩ (hF := .inr fun _ _ h hb => h.call hb) ?_
  intro a wx H _ h
  obtain ⟨w', hr, hO⟩ := h.sto 0 (L := mqCells m' nilV nilV nilV) rfl size_mq rfl rfl rfl
  refine ⟨w', run_store rfl (H.ev rfl) (H.ev rfl) hr, nx0 (fun w' => Own w g1 [(g2, mqCells m' nilV nilV nilV), (g1, mqCells m vc vw vf)] w') [ec 4 3 (.bool (connectOk m))] [] hO ?_⟩
  refine St.fin ⟨jm, trivial⟩ (hF := .inr fun _ _ h hb => h.call hb) ?_
  intro a wx H _ h
  obtain ⟨q1, q2, q3⟩ := hE a wx m' _ _ _ _ _ (H.keep ⟨rfl, rfl, trivial⟩) h (by rw [hm']; unfold onlyOf; rw [if_pos k1]) (by unfold okOf; rw [if_pos k1]) (by subst hm'; exact MqL.nil rfl rfl rfl)
  refine then_normal (wp_ret ?_)
  repeat (first | (with_reducible refine block_ret ?_) | (with_reducible refine then_ret ?_))
  exact bodyPost_ret q1 q2 q3
 | false =>
 have n1 := kind_not b1
 refine H2.rg 0 fun a1 H1 => ?_
 refine H1.bn 1 (eql_i _ _ _ _ _) fun a2 H2 => nt ?_
 refine H2.cond (t := m.kind == 2) rfl ?_
 cases b2 : (m.kind == 2) with
 | true =>
  have k2 : m.kind = 2 := by simpa using b2
  refine H2.ds O 0 [1, 2] rfl [ec 0 39 (.pointer (some ⟨g1, 13, none⟩)), ec 1 40 (.bool m.present), ec 2 41 (.pointer (some ⟨g1, 14, none⟩)), ec 3 42 (iz m.code), ec 4 43 (.pointer (some ⟨g2, 13, none⟩)), ec 6 44 (.pointer (some ⟨g2, 14, none⟩))] [⟨7, 14, [(iz m.code)]⟩, ⟨5, 13, [(.bool m.present)]⟩] rfl rfl ⟨jm, jl fun _ ⟨_, _, h⟩ => load1_b _ _ _ _ ((h.get 1 rfl).get 13 _ rfl), jm, jl fun _ ⟨_, _, h⟩ => load1_i _ _ _ _ ((h.get 1 rfl).get 14 _ rfl), jm, jm, trivial⟩ ⟨q1 fun _ u h f => store1_i _ _ _ u _ h f, q1 fun _ u h f => store1_b _ _ _ u _ h f, trivial⟩ ?_
  intro a3 w4 H3 O4
  refine then_normal ?_
  obtain ⟨m', hm'⟩ : ∃ m', m' = { mq0 m.kind with present := m.present, code := m.code } := ⟨_, rfl⟩
  have O5 : Own w g1 [(g2, mqCells m' nilV nilV nilV), (g1, mqCells m vc vw vf)] w4 := by subst hm'; exact O4
  obtain ⟨i5, hi5⟩ : ∃ i, inRB m.code 0 5 = i := ⟨_, rfl⟩
  obtain ⟨p, hp⟩ : ∃ p, m.present = p := ⟨_, rfl⟩
  obtain ⟨z, hz⟩ : ∃ z, (m.code == 0) = z := ⟨_, rfl⟩
  refine H3.sg (fun w' => Own w g1 [(g2, mqCells m' nilV nilV nilV), (g1, mqCells m vc vw vf)] w') O5.drew [1, 2] [ec 0 45 (.agg (mqCells m' nilV nilV nilV).toArray), ec 1 46 (.pointer (some ⟨g1, 14, none⟩)), ec 2 47 (iz m.code), ec 3 48 (.bool i5), ec 4 49 (.bool i5), ec 5 50 (gv i5 (.pointer (some ⟨g1, 13, none⟩))), ec 6 51 (gv i5 (.bool p)), ec 7 52 (gv i5 (.bool !p)), ec 8 53 (gv i5 (.bool !p)), ec 9 54 (gv (i5 && p) (.pointer (some ⟨g1, 14, none⟩))), ec 10 55 (gv (i5 && p) (iz m.code)), ec 11 56 (gv (i5 && p) (.bool z)), ec 12 57 (gv i5 (.bool (!p || z))), ec 13 58 (.bool (i5 && (!p || z)))] rfl ?_
  refine St.sto 14 ⟨jl fun _ h => loadS_run (h.get 0 rfl), jm, jl fun _ h => load1_i _ _ _ _ ((h.get 1 rfl).get 14 _ rfl), jq fun w' _ => hi5 ▸ packWithin m.code 0 5 w', jm, (by cases i5; exact jo; exact jm), (by cases i5; exact jo; exact jl fun _ h => load1_b _ _ _ _ (hp ▸ (h.get 1 rfl).get 13 _ rfl)), (by cases i5; exact jo; exact ju (hq := run_not p)), (by cases i5; exact jo; exact jm), (by cases i5; exact jo; cases p; exact jo; exact jm), (by cases i5; exact jo; cases p; exact jo; exact jl fun _ h => load1_i _ _ _ _ ((h.get 1 rfl).get 14 _ rfl)), (by cases i5; exact jo; cases p; exact jo; exact jb fun _ => eql_iB _ _ _ hz _ _ _), (by cases i5; exact jo; cases p <;> exact jp), (by cases i5 <;> exact jp), trivial⟩ (hF := .inr fun _ _ h hb => h.call hb) ?_
  intro a wx H _ h
  obtain ⟨w', hr, hO⟩ := h.sto 0 (L := mqCells m' nilV nilV nilV) rfl size_mq rfl rfl rfl
  refine ⟨w', run_store rfl (H.ev rfl) (H.ev rfl) hr, nx0 (fun w' => Own w g1 [(g2, mqCells m' nilV nilV nilV), (g1, mqCells m vc vw vf)] w') [ec 15 3 (.bool (i5 && (!p || z)))] [] hO ?_⟩
  refine St.fin ⟨jm, (by cases i5; exact jo; cases p; exact jo; exact jm), (by cases i5; exact jo; cases p; exact jo; exact jl fun _ h => load1_i _ _ _ _ ((h.get 1 rfl).get 14 _ rfl)), (by cases i5; exact jo; cases p; exact jo; exact jb fun _ => eql_iB _ _ _ hz _ _ _), (by cases i5; exact jo; cases p <;> exact jp), (by cases i5 <;> exact jp), trivial⟩ (hF := .inr fun _ _ h hb => h.call hb) ?_
  intro a wx H _ h
  obtain ⟨q1, q2, q3⟩ := hE a wx m' _ _ _ _ _ (H.keep ⟨rfl, rfl, trivial⟩) h (by rw [hm']; unfold onlyOf; rw [if_neg n1, if_pos k2]) (by unfold okOf; rw [if_neg n1, if_pos k2, hi5, hp, hz]) (by subst hm'; exact MqL.nil rfl rfl rfl)
  refine then_normal (wp_ret ?_)
  repeat (first | (with_reducible refine block_ret ?_) | (with_reducible refine then_ret ?_))
  exact bodyPost_ret q1 q2 q3
 | false =>
 have n2 := kind_not b2
 refine H2.rg 0 fun a1 H1 => ?_
 refine H1.bn 1 (eql_i _ _ _ _ _) fun a2 H2 => nt ?_
 refine H2.cond (t := m.kind == 3) rfl ?_
 cases b3 : (m.kind == 3) with
 | true =>
  have k3 : m.kind = 3 := by simpa using b3
  refine H2.ds O 0 [1, 2] rfl [ec 0 61 (.pointer (some ⟨g1, 19, none⟩)), ec 1 62 (.string m.topic), ec 2 63 (.pointer (some ⟨g1, 17, none⟩)), ec 3 64 (iz m.qos), ec 4 65 (.pointer (some ⟨g1, 16, none⟩)), ec 5 66 (.bool m.dup), ec 6 67 (.pointer (some ⟨g1, 18, none⟩)), ec 7 68 (.bool m.retain), ec 8 69 (.pointer (some ⟨g1, 20, none⟩)), ec 9 70 (iz m.id), ec 10 71 (.pointer (some ⟨g1, 21, none⟩)), ec 11 72 (.string m.payload), ec 12 73 (.pointer (some ⟨g2, 19, none⟩)), ec 14 74 (.pointer (some ⟨g2, 17, none⟩)), ec 16 75 (.pointer (some ⟨g2, 16, none⟩)), ec 18 76 (.pointer (some ⟨g2, 18, none⟩)), ec 20 77 (.pointer (some ⟨g2, 20, none⟩)), ec 22 78 (.pointer (some ⟨g2, 21, none⟩))] [⟨23, 21, [(.string m.payload)]⟩, ⟨21, 20, [(iz m.id)]⟩, ⟨19, 18, [(.bool m.retain)]⟩, ⟨17, 16, [(.bool m.dup)]⟩, ⟨15, 17, [(iz m.qos)]⟩, ⟨13, 19, [(.string m.topic)]⟩] rfl rfl ⟨jm, jl fun _ ⟨_, _, h⟩ => load1_s _ _ _ _ ((h.get 1 rfl).get 19 _ rfl), jm, jl fun _ ⟨_, _, h⟩ => load1_i _ _ _ _ ((h.get 1 rfl).get 17 _ rfl), jm, jl fun _ ⟨_, _, h⟩ => load1_b _ _ _ _ ((h.get 1 rfl).get 16 _ rfl), jm, jl fun _ ⟨_, _, h⟩ => load1_b _ _ _ _ ((h.get 1 rfl).get 18 _ rfl), jm, jl fun _ ⟨_, _, h⟩ => load1_i _ _ _ _ ((h.get 1 rfl).get 20 _ rfl), jm, jl fun _ ⟨_, _, h⟩ => load1_s _ _ _ _ ((h.get 1 rfl).get 21 _ rfl), jm, jm, jm, jm, jm, jm, trivial⟩ ⟨q1 fun _ u h f => store1_s _ _ _ u _ h f, q1 fun _ u h f => store1_i _ _ _ u _ h f, q1 fun _ u h f => store1_b _ _ _ u _ h f, q1 fun _ u h f => store1_b _ _ _ u _ h f, q1 fun _ u h f => store1_i _ _ _ u _ h f, q1 fun _ u h f => store1_s _ _ _ u _ h f, trivial⟩ ?_
  intro a3 w4 H3 O4
  refine then_normal ?_
  obtain ⟨m', hm'⟩ : ∃ m', m' = { mq0 m.kind with topic := m.topic, qos := m.qos, dup := m.dup, retain := m.retain, id := m.id, payload := m.payload } := ⟨_, rfl⟩
  have O5 : Own w g1 [(g2, mqCells m' nilV nilV nilV), (g1, mqCells m vc vw vf)] w4 := by subst hm'; exact O4
  refine H3.sg (fun w' => Own w g1 [(g2, mqCells m' nilV nilV nilV), (g1, mqCells m vc vw vf)] w') O5.drew [1, 2] [ec 0 79 (.agg (mqCells m' nilV nilV nilV).toArray), ec 1 80 (.agg (mqCells m vc vw vf).toArray), eh 2 81 (.bool (publishOk m))] rfl ?_
  refine St.sto 3 ⟨jl fun _ h => loadS_run (h.get 0 rfl), jl fun _ h => loadS_run (h.get 1 rfl), kb fun w' h => packPublishV m _ _ _ hF.topic w' (hW.below (hg1 ▸ h.bel)), trivial⟩ (hF := .inr fun _ _ h hb => h.call hb) ?_
  intro a wx H _ h
  obtain ⟨w', hr, hO⟩ := h.sto 0 (L := mqCells m' nilV nilV nilV) rfl size_mq rfl rfl rfl
  refine ⟨w', run_store rfl (H.ev rfl) (H.ev rfl) hr, nx0 (fun w' => Own w g1 [(g2, mqCells m' nilV nilV nilV), (g1, mqCells m vc vw vf)] w') [ec 4 3 (.bool (publishOk m))] [] hO ?_⟩
  refine St.fin ⟨jm, trivial⟩ (hF := .inr fun _ _ h hb => h.call hb) ?_
  intro a wx H _ h
  obtain ⟨q1, q2, q3⟩ := hE a wx m' _ _ _ _ _ (H.keep ⟨rfl, rfl, trivial⟩) h (by rw [hm']; unfold onlyOf; rw [if_neg n1, if_neg n2, if_pos k3]) (by unfold okOf; rw [if_neg n1, if_neg n2, if_pos k3]) (by subst hm'; exact MqL.nil rfl rfl rfl)
  refine then_normal (wp_ret ?_)
  repeat (first | (with_reducible refine block_ret ?_) | (with_reducible refine then_ret ?_))
  exact bodyPost_ret q1 q2 q3
 | false =>
 have n3 := kind_not b3
 refine wp_seq_join (fun a w' => Has a 144 [(1, pz g1), (2, pz g2), (4, .bool i), (12, iz m.kind), (82, .bool (idKind m.kind))] ∧ w3 = w') ?_ ?_
 ·refine H2.rg 0 fun a1 H1 => ?_
  refine H1.bn 1 (eql_i _ _ _ _ _) fun a2 H2 => nt ?_
  refine H2.cond (t := m.kind == 4) rfl ?_
  cases c4 : (m.kind == 4) with
  | true => exact skip_wp (then_normal ⟨H2.keep ⟨rfl, rfl, rfl, rfl, congrArg (fun b => some (Value.bool b)) (show (m.kind == 4) = idKind m.kind by unfold idKind; rw [c4]; rfl), trivial⟩, rfl⟩)
  | false =>
  refine H2.rg 0 fun a1 H1 => ?_
  refine H1.bn 1 (eql_i _ _ _ _ _) fun a2 H2 => nt ?_
  refine H2.cond (t := m.kind == 5) rfl ?_
  cases c5 : (m.kind == 5) with
  | true => exact skip_wp (then_normal ⟨H2.keep ⟨rfl, rfl, rfl, rfl, congrArg (fun b => some (Value.bool b)) (show (m.kind == 5) = idKind m.kind by unfold idKind; rw [c4, c5]; rfl), trivial⟩, rfl⟩)
  | false =>
  refine H2.rg 0 fun a1 H1 => ?_
  refine H1.bn 1 (eql_i _ _ _ _ _) fun a2 H2 => nt ?_
  refine H2.cond (t := m.kind == 6) rfl ?_
  cases c6 : (m.kind == 6) with
  | true => exact skip_wp (then_normal ⟨H2.keep ⟨rfl, rfl, rfl, rfl, congrArg (fun b => some (Value.bool b)) (show (m.kind == 6) = idKind m.kind by unfold idKind; rw [c4, c5, c6]; rfl), trivial⟩, rfl⟩)
  | false =>
  refine H2.rg 0 fun a1 H1 => ?_
  refine H1.bn 1 (eql_i _ _ _ _ _) fun a2 H2 => nt ?_
  refine H2.cond (t := m.kind == 7) rfl ?_
  cases c7 : (m.kind == 7) with
  | true => exact skip_wp (then_normal ⟨H2.keep ⟨rfl, rfl, rfl, rfl, congrArg (fun b => some (Value.bool b)) (show (m.kind == 7) = idKind m.kind by unfold idKind; rw [c4, c5, c6, c7]; rfl), trivial⟩, rfl⟩)
  | false =>
  refine H2.rg 0 fun a1 H1 => ?_
  refine H1.bn 1 (eql_i _ _ _ _ _) fun a2 H2 => nt ?_
  exact ⟨H2.keep ⟨rfl, rfl, rfl, rfl, congrArg (fun b => some (Value.bool b)) (by unfold idKind; rw [c4, c5, c6, c7]; rfl), trivial⟩, rfl⟩
 rintro a0 _ ⟨H0, rfl⟩
 clear H1 H2
 refine H0.cond (t := idKind m.kind) rfl ?_
 cases bi : idKind m.kind with
 | true =>
  refine H0.rg 1 fun a1 H1 => ?_
  refine H1.ld 1 (O.li 1 20) fun a2 H2 => ?_
  refine H2.sc O 0 0 (fun u h f => store1_i _ _ _ u _ h f) fun a3 w4 O4 H3 => nt ?_
  obtain ⟨m', hm'⟩ : ∃ m', m' = { mq0 m.kind with id := m.id } := ⟨_, rfl⟩
  have O5 : Own w g1 [(g2, mqCells m' nilV nilV nilV), (g1, mqCells m vc vw vf)] w4 := by subst hm'; exact O4
  refine rl ?_
  refine H3.lm O5 0 1 fun a4 H4 => ?_
  refine H4.st O5 0 1 (hi := size_mq) fun a5 w5 O6 H5 => nt ?_
  obtain ⟨q1, q2, q3⟩ := hE a5 w5 m' _ _ _ _ _ (H5.keep ⟨rfl, rfl, trivial⟩) O6 (by rw [hm']; unfold onlyOf; rw [if_neg n1, if_neg n2, if_neg n3, if_pos bi]) (by unfold okOf; rw [if_neg n1, if_neg n2, if_neg n3, if_pos bi, hi]) (by subst hm'; exact MqL.nil rfl rfl rfl)
  refine wp_ret ?_
  repeat (first | (with_reducible refine block_ret ?_) | (with_reducible refine then_ret ?_))
  exact bodyPost_ret q1 q2 q3
 | false =>
 have ni : ¬ idKind m.kind = true := by rw [bi]; decide
 refine H0.rg 0 fun a1 H1 => ?_
 refine H1.bn 1 (eql_i _ _ _ _ _) fun a2 H2 => nt ?_
 refine H2.cond (t := m.kind == 8) rfl ?_
 cases b8 : (m.kind == 8) with
 | true =>
  have k8 : m.kind = 8 := by simpa using b8
  obtain ⟨A1, c1, A2, c2, A3, c3, rfl, rfl, rfl, l1, l2, l3, k1', k2', k3', r1, r2, r3⟩ := id hL
  refine H2.ds O 0 [1, 2, 4] rfl [ec 0 95 (.pointer (some ⟨g1, 20, none⟩)), ec 1 96 (iz m.id), ec 2 97 (.pointer (some ⟨g1, 22, none⟩)), ec 3 98 (.slice A2 m.wishes.length c2), ec 4 99 (.pointer (some ⟨g2, 20, none⟩)), ec 6 100 (.pointer (some ⟨g2, 22, none⟩))] [⟨7, 22, [(.slice A2 m.wishes.length c2)]⟩, ⟨5, 20, [(iz m.id)]⟩] rfl rfl ⟨jm, jl fun _ ⟨_, _, h⟩ => load1_i _ _ _ _ ((h.get 1 rfl).get 20 _ rfl), jm, jl fun _ ⟨_, _, h⟩ => load1_27 _ _ _ _ _ _ ((h.get 1 rfl).get 22 _ rfl), jm, jm, trivial⟩ ⟨q1 fun _ u h f => store1_27 _ _ _ _ _ u _ h f, q1 fun _ u h f => store1_i _ _ _ u _ h f, trivial⟩ ?_
  intro a3 w4 H3 O4
  refine then_normal ?_
  obtain ⟨m', hm'⟩ : ∃ m', m' = { mq0 m.kind with id := m.id, wishes := m.wishes } := ⟨_, rfl⟩
  have O5 : Own w g1 [(g2, mqCells m' nilV (.slice A2 m.wishes.length c2) nilV), (g1, mqCells m (.slice A1 m.codes.length c1) (.slice A2 m.wishes.length c2) (.slice A3 m.filters.length c3))] w4 := by subst hm'; exact O4
  refine H3.sg (fun w' => Own w g1 [(g2, mqCells m' nilV (.slice A2 m.wishes.length c2) nilV), (g1, mqCells m (.slice A1 m.codes.length c1) (.slice A2 m.wishes.length c2) (.slice A3 m.filters.length c3))] w') O5.drew [1, 2, 4] [ec 0 101 (.agg (mqCells m' nilV (.slice A2 m.wishes.length c2) nilV).toArray), ec 1 102 (.bool i), ec 2 103 (.bool i), ec 3 104 (gv i (.pointer (some ⟨g1, 22, none⟩))), ec 4 105 (gv i (.slice A2 m.wishes.length c2)), eh 5 106 (gv i (.bool (wishesOk m.wishes))), ec 6 107 (.bool (i && wishesOk m.wishes))] rfl ?_
  refine St.sto 7 ⟨jl fun _ h => loadS_run (h.get 0 rfl), jm, jm, (by cases i; exact jo; exact jm), (by cases i; exact jo; exact jl fun _ h => load1_27 _ _ _ _ _ _ ((h.get 1 rfl).get 22 _ rfl)), (by cases i; exact ko; exact kb fun w' h => packWishes m.wishes _ rfl hF.wishes A2 c2 k2' w' (hW.below (hg1 ▸ h.bel)) (r2.next (hg1 ▸ h.bel))), (by cases i <;> exact jp), trivial⟩ (hF := .inr fun _ _ h hb => h.call hb) ?_
  intro a wx H _ h
  obtain ⟨w', hr, hO⟩ := h.sto 0 (L := mqCells m' nilV (.slice A2 m.wishes.length c2) nilV) rfl size_mq rfl rfl rfl
  refine ⟨w', run_store rfl (H.ev rfl) (H.ev rfl) hr, nx0 (fun w' => Own w g1 [(g2, mqCells m' nilV (.slice A2 m.wishes.length c2) nilV), (g1, mqCells m (.slice A1 m.codes.length c1) (.slice A2 m.wishes.length c2) (.slice A3 m.filters.length c3))] w') [ec 8 3 (.bool (i && wishesOk m.wishes))] [] hO ?_⟩
  refine St.fin ⟨jm, (by cases i <;> exact jp), trivial⟩ (hF := .inr fun _ _ h hb => h.call hb) ?_
  intro a wx H _ h
  obtain ⟨q1, q2, q3⟩ := hE a wx m' _ _ _ _ _ (H.keep ⟨rfl, rfl, trivial⟩) h (by rw [hm']; unfold onlyOf; rw [if_neg n1, if_neg n2, if_neg n3, if_neg ni, if_pos k8]) (by unfold okOf; rw [if_neg n1, if_neg n2, if_neg n3, if_neg ni, if_pos k8, hi]) (by subst hm'; exact (hL.next (hg1 ▸ h.bel)).onlyW rfl rfl rfl)
  refine then_normal (wp_ret ?_)
  repeat (first | (with_reducible refine block_ret ?_) | (with_reducible refine then_ret ?_))
  exact bodyPost_ret q1 q2 q3
 | false =>
 have n8 := kind_not b8
 replace H0 := H2
 clear H1 H2
 refine H0.rg 0 fun a1 H1 => ?_
 refine H1.bn 1 (eql_i _ _ _ _ _) fun a2 H2 => nt ?_
 refine H2.cond (t := m.kind == 9) rfl ?_
 cases b9 : (m.kind == 9) with
 | true =>
  have k9 : m.kind = 9 := by simpa using b9
  obtain ⟨A1, c1, A2, c2, A3, c3, rfl, rfl, rfl, l1, l2, l3, k1', k2', k3', r1, r2, r3⟩ := id hL
  refine H2.ds O 0 [1, 2, 4] rfl [ec 0 110 (.pointer (some ⟨g1, 20, none⟩)), ec 1 111 (iz m.id), ec 2 112 (.pointer (some ⟨g1, 15, none⟩)), ec 3 113 (.slice A1 m.codes.length c1), ec 4 114 (.pointer (some ⟨g2, 20, none⟩)), ec 6 115 (.pointer (some ⟨g2, 15, none⟩))] [⟨7, 15, [(.slice A1 m.codes.length c1)]⟩, ⟨5, 20, [(iz m.id)]⟩] rfl rfl ⟨jm, jl fun _ ⟨_, _, h⟩ => load1_i _ _ _ _ ((h.get 1 rfl).get 20 _ rfl), jm, jl fun _ ⟨_, _, h⟩ => load1_26 _ _ _ _ _ _ ((h.get 1 rfl).get 15 _ rfl), jm, jm, trivial⟩ ⟨q1 fun _ u h f => store1_26 _ _ _ _ _ u _ h f, q1 fun _ u h f => store1_i _ _ _ u _ h f, trivial⟩ ?_
  intro a3 w4 H3 O4
  refine then_normal ?_
  obtain ⟨m', hm'⟩ : ∃ m', m' = { mq0 m.kind with id := m.id, codes := m.codes } := ⟨_, rfl⟩
  have O5 : Own w g1 [(g2, mqCells m' (.slice A1 m.codes.length c1) nilV nilV), (g1, mqCells m (.slice A1 m.codes.length c1) (.slice A2 m.wishes.length c2) (.slice A3 m.filters.length c3))] w4 := by subst hm'; exact O4
  refine H3.sg (fun w' => Own w g1 [(g2, mqCells m' (.slice A1 m.codes.length c1) nilV nilV), (g1, mqCells m (.slice A1 m.codes.length c1) (.slice A2 m.wishes.length c2) (.slice A3 m.filters.length c3))] w') O5.drew [1, 2, 4] [ec 0 116 (.agg (mqCells m' (.slice A1 m.codes.length c1) nilV nilV).toArray), ec 1 117 (.bool i), ec 2 118 (.bool i), ec 3 119 (gv i (.pointer (some ⟨g1, 15, none⟩))), ec 4 120 (gv i (.slice A1 m.codes.length c1)), eh 5 121 (gv i (.bool (codesOk m.codes))), ec 6 122 (.bool (i && codesOk m.codes))] rfl ?_
  refine St.sto 7 ⟨jl fun _ h => loadS_run (h.get 0 rfl), jm, jm, (by cases i; exact jo; exact jm), (by cases i; exact jo; exact jl fun _ h => load1_26 _ _ _ _ _ _ ((h.get 1 rfl).get 15 _ rfl)), (by cases i; exact ko; exact kb fun w' h => (packCodes m.codes _ rfl A1 c1 k1' w' (r1.next (hg1 ▸ h.bel))).mono fun _ _ h => ⟨h.1, h.2 ▸ Below.refl _ _⟩), (by cases i <;> exact jp), trivial⟩ (hF := .inr fun _ _ h hb => h.call hb) ?_
  intro a wx H _ h
  obtain ⟨w', hr, hO⟩ := h.sto 0 (L := mqCells m' (.slice A1 m.codes.length c1) nilV nilV) rfl size_mq rfl rfl rfl
  refine ⟨w', run_store rfl (H.ev rfl) (H.ev rfl) hr, nx0 (fun w' => Own w g1 [(g2, mqCells m' (.slice A1 m.codes.length c1) nilV nilV), (g1, mqCells m (.slice A1 m.codes.length c1) (.slice A2 m.wishes.length c2) (.slice A3 m.filters.length c3))] w') [ec 8 3 (.bool (i && codesOk m.codes))] [] hO ?_⟩
  refine St.fin ⟨jm, (by cases i <;> exact jp), trivial⟩ (hF := .inr fun _ _ h hb => h.call hb) ?_
  intro a wx H _ h
  obtain ⟨q1, q2, q3⟩ := hE a wx m' _ _ _ _ _ (H.keep ⟨rfl, rfl, trivial⟩) h (by rw [hm']; unfold onlyOf; rw [if_neg n1, if_neg n2, if_neg n3, if_neg ni, if_neg n8, if_pos k9]) (by unfold okOf; rw [if_neg n1, if_neg n2, if_neg n3, if_neg ni, if_neg n8, if_pos k9, hi]) (by subst hm'; exact (hL.next (hg1 ▸ h.bel)).onlyC rfl rfl rfl)
  refine then_normal (wp_ret ?_)
  repeat (first | (with_reducible refine block_ret ?_) | (with_reducible refine then_ret ?_))
  exact bodyPost_ret q1 q2 q3
 | false =>
 have n9 := kind_not b9
 replace H0 := H2
 clear H1 H2
 refine H0.rg 0 fun a1 H1 => ?_
 refine H1.bn 1 (eql_i _ _ _ _ _) fun a2 H2 => nt ?_
 refine H2.cond (t := m.kind == 10) rfl ?_
 cases b10 : (m.kind == 10) with
 | true =>
  have k10 : m.kind = 10 := by simpa using b10
  obtain ⟨A1, c1, A2, c2, A3, c3, rfl, rfl, rfl, l1, l2, l3, k1', k2', k3', r1, r2, r3⟩ := id hL
  refine H2.ds O 0 [1, 2, 4] rfl [ec 0 125 (.pointer (some ⟨g1, 20, none⟩)), ec 1 126 (iz m.id), ec 2 127 (.pointer (some ⟨g1, 23, none⟩)), ec 3 128 (.slice A3 m.filters.length c3), ec 4 129 (.pointer (some ⟨g2, 20, none⟩)), ec 6 130 (.pointer (some ⟨g2, 23, none⟩))] [⟨7, 23, [(.slice A3 m.filters.length c3)]⟩, ⟨5, 20, [(iz m.id)]⟩] rfl rfl ⟨jm, jl fun _ ⟨_, _, h⟩ => load1_i _ _ _ _ ((h.get 1 rfl).get 20 _ rfl), jm, jl fun _ ⟨_, _, h⟩ => load1_28 _ _ _ _ _ _ ((h.get 1 rfl).get 23 _ rfl), jm, jm, trivial⟩ ⟨q1 fun _ u h f => store1_28 _ _ _ _ _ u _ h f, q1 fun _ u h f => store1_i _ _ _ u _ h f, trivial⟩ ?_
  intro a3 w4 H3 O4
  refine then_normal ?_
  obtain ⟨m', hm'⟩ : ∃ m', m' = { mq0 m.kind with id := m.id, filters := m.filters } := ⟨_, rfl⟩
  have O5 : Own w g1 [(g2, mqCells m' nilV nilV (.slice A3 m.filters.length c3)), (g1, mqCells m (.slice A1 m.codes.length c1) (.slice A2 m.wishes.length c2) (.slice A3 m.filters.length c3))] w4 := by subst hm'; exact O4
  refine H3.sg (fun w' => Own w g1 [(g2, mqCells m' nilV nilV (.slice A3 m.filters.length c3)), (g1, mqCells m (.slice A1 m.codes.length c1) (.slice A2 m.wishes.length c2) (.slice A3 m.filters.length c3))] w') O5.drew [1, 2, 4] [ec 0 131 (.agg (mqCells m' nilV nilV (.slice A3 m.filters.length c3)).toArray), ec 1 132 (.bool i), ec 2 133 (.bool i), ec 3 134 (gv i (.pointer (some ⟨g1, 23, none⟩))), ec 4 135 (gv i (.slice A3 m.filters.length c3)), eh 5 136 (gv i (.bool (filtersOk m.filters))), ec 6 137 (.bool (i && filtersOk m.filters))] rfl ?_
  refine St.sto 7 ⟨jl fun _ h => loadS_run (h.get 0 rfl), jm, jm, (by cases i; exact jo; exact jm), (by cases i; exact jo; exact jl fun _ h => load1_28 _ _ _ _ _ _ ((h.get 1 rfl).get 23 _ rfl)), (by cases i; exact ko; exact kb fun w' h => packFilters m.filters _ rfl hF.filters A3 c3 k3' w' (hW.below (hg1 ▸ h.bel)) (r3.next (hg1 ▸ h.bel))), (by cases i <;> exact jp), trivial⟩ (hF := .inr fun _ _ h hb => h.call hb) ?_
  intro a wx H _ h
  obtain ⟨w', hr, hO⟩ := h.sto 0 (L := mqCells m' nilV nilV (.slice A3 m.filters.length c3)) rfl size_mq rfl rfl rfl
  refine ⟨w', run_store rfl (H.ev rfl) (H.ev rfl) hr, nx0 (fun w' => Own w g1 [(g2, mqCells m' nilV nilV (.slice A3 m.filters.length c3)), (g1, mqCells m (.slice A1 m.codes.length c1) (.slice A2 m.wishes.length c2) (.slice A3 m.filters.length c3))] w') [ec 8 3 (.bool (i && filtersOk m.filters))] [] hO ?_⟩
  refine St.fin ⟨jm, (by cases i <;> exact jp), trivial⟩ (hF := .inr fun _ _ h hb => h.call hb) ?_
  intro a wx H _ h
  obtain ⟨q1, q2, q3⟩ := hE a wx m' _ _ _ _ _ (H.keep ⟨rfl, rfl, trivial⟩) h (by rw [hm']; unfold onlyOf; rw [if_neg n1, if_neg n2, if_neg n3, if_neg ni, if_neg n8, if_neg n9, if_pos k10]) (by unfold okOf; rw [if_neg n1, if_neg n2, if_neg n3, if_neg ni, if_neg n8, if_neg n9, if_pos k10, hi]) (by subst hm'; exact (hL.next (hg1 ▸ h.bel)).onlyF rfl rfl rfl)
  refine then_normal (wp_ret ?_)
  repeat (first | (with_reducible refine block_ret ?_) | (with_reducible refine then_ret ?_))
  exact bodyPost_ret q1 q2 q3
 | false =>
 have n10 := kind_not b10
 replace H0 := H2
 clear H1 H2
 refine wp_seq_join (fun a w' => Has a 144 [(1, pz g1), (2, pz g2), (138, .bool (bareKind m.kind))] ∧ w3 = w') ?_ ?_
 ·refine H0.rg 0 fun a1 H1 => ?_
  refine H1.bn 1 (eql_i _ _ _ _ _) fun a2 H2 => nt ?_
  refine H2.cond (t := m.kind == 12) rfl ?_
  cases c12 : (m.kind == 12) with
  | true => exact skip_wp (then_normal ⟨H2.keep ⟨rfl, rfl, congrArg (fun b => some (Value.bool b)) (show (m.kind == 12) = bareKind m.kind by unfold bareKind; rw [c12]; rfl), trivial⟩, rfl⟩)
  | false =>
  refine H2.rg 0 fun a1 H1 => ?_
  refine H1.bn 1 (eql_i _ _ _ _ _) fun a2 H2 => nt ?_
  refine H2.cond (t := m.kind == 13) rfl ?_
  cases c13 : (m.kind == 13) with
  | true => exact skip_wp (then_normal ⟨H2.keep ⟨rfl, rfl, congrArg (fun b => some (Value.bool b)) (show (m.kind == 13) = bareKind m.kind by unfold bareKind; rw [c12, c13]; rfl), trivial⟩, rfl⟩)
  | false =>
  refine H2.rg 0 fun a1 H1 => ?_
  refine H1.bn 1 (eql_i _ _ _ _ _) fun a2 H2 => nt ?_
  exact ⟨H2.keep ⟨rfl, rfl, congrArg (fun b => some (Value.bool b)) (by unfold bareKind; rw [c12, c13]; rfl), trivial⟩, rfl⟩
 rintro a0 _ ⟨H0, rfl⟩
 obtain ⟨m', hm'⟩ : ∃ m', m' = mq0 m.kind := ⟨_, rfl⟩
 have O5 : Own w g1 [(g2, mqCells m' nilV nilV nilV), (g1, mqCells m vc vw vf)] w3 := by subst hm'; exact O
 refine H0.cond (t := bareKind m.kind) rfl ?_
 cases bb : bareKind m.kind with
 | true =>
  refine rl ?_
  refine H0.lm O5 0 0 fun a4 H4 => ?_
  refine H4.st O5 0 1 (hi := size_mq) fun a5 w5 O6 H5 => nt ?_
  obtain ⟨q1, q2, q3⟩ := hE a5 w5 m' _ _ _ _ _ (H5.keep ⟨rfl, rfl, trivial⟩) O6 (by rw [hm']; unfold onlyOf; rw [if_neg n1, if_neg n2, if_neg n3, if_neg ni, if_neg n8, if_neg n9, if_neg n10]) (by unfold okOf; rw [if_neg n1, if_neg n2, if_neg n3, if_neg ni, if_neg n8, if_neg n9, if_neg n10, bb]) (by subst hm'; exact MqL.nil rfl rfl rfl)
  refine wp_ret ?_
  repeat (first | (with_reducible refine block_ret ?_) | (with_reducible refine then_ret ?_))
  exact bodyPost_ret q1 q2 q3
 | false =>
  refine skip_wp (block_normal (then_normal ?_))
  refine rl ?_
  refine H0.lm O5 0 0 fun a4 H4 => ?_
  refine H4.st O5 0 1 (hi := size_mq) fun a5 w5 O6 H5 => nt ?_
  obtain ⟨q1, q2, q3⟩ := hE a5 w5 m' _ _ _ _ _ (H5.keep ⟨rfl, rfl, trivial⟩) O6 (by rw [hm']; unfold onlyOf; rw [if_neg n1, if_neg n2, if_neg n3, if_neg ni, if_neg n8, if_neg n9, if_neg n10]) (by unfold okOf; rw [if_neg n1, if_neg n2, if_neg n3, if_neg ni, if_neg n8, if_neg n9, if_neg n10, bb]) (by subst hm'; exact MqL.nil rfl rfl rfl)
  refine wp_ret ?_
  repeat (first | (with_reducible refine block_ret ?_) | (with_reducible refine then_ret ?_))
  exact bodyPost_ret q1 q2 q3
end
section
open Go.RowKit
def mayBb (m : Mq) : Bool := okOf m && Mq.same m (onlyOf m)
theorem mayBb_iff (m : Mq) : mayBb m = true ↔ mayB m := by
 unfold mayBb mayB
 rw [Bool.and_eq_true, same_iff]
theorem onlyC (m : Mq) (vc vw vf : Value) (w : World) (b : Bool) (hb : okOf m = b) (hL : MqL w w.heap.size m vc vw vf) (hF : MqFit m) (hW : Wd w) :
  Calls Tryz.prog 131 #[.agg (mqCells m vc vw vf).toArray] w fun e w' => ∃ v, e = .returned v ∧ (∃ vc' vw' vf', v = .tuple #[.agg (mqCells (onlyOf m) vc' vw' vf').toArray, .bool b] ∧ MqL w' w'.heap.size (onlyOf m) vc' vw' vf' ∧ Below w.heap.size w w') := by
 subst hb
 refine (packOnly m vc vw vf w hL hF hW).mono ?_
 rintro e w' ⟨vc', vw', vf', rfl, hM, hB⟩
 exact ⟨_, rfl, vc', vw', vf', rfl, hM, hB⟩
theorem may_true (m : Mq) (vc vw vf : Value) (w : World) (hL : MqL w w.heap.size m vc vw vf) (hF : MqFit m) (hW : Wd w) (hb0 : okOf m = true) :
  Calls Tryz.prog 108 #[.agg (mqCells m vc vw vf).toArray] w fun e w' => e = .returned (.bool (mayBb m)) ∧ Below w.heap.size w w' := by
 have hm : mayBb m = Mq.same m (onlyOf m) := by unfold mayBb; rw [hb0]; rfl
 go_enter Tryz.func108, Tryz.ntmps108
 refine Has.start 16 [(0, .agg (mqCells m vc vw vf).toArray)] rfl rfl ⟨rfl, trivial⟩ ?_
 intro a0 H0
 have O0 := Own.start w
 refine rl ?_
 refine H0.bx O0 1 fun a2 w1 O1 H2 => nt ?_
 refine rl ?_
 refine H2.lm O1 0 0 fun a3 H3 => ?_
 refine H3.cl (onlyC m _ _ _ _ true hb0 (hL.next O1.bel) hF (hW.below O1.bel)) ?_
 rintro a4 _ w2 ⟨vc', vw', vf', rfl, hM, hb⟩ H4
 have O2 := O1.call hb
 clear hb
 refine H4.ms 1 fun a5 H5 => ?_
 refine H5.ex 0 fun a6 H6 => ?_
 refine H6.ex 0 fun a7 H7 => ?_
 have hM1 := hM
 refine H7.alloc rfl rfl rfl rfl _ zero_mq ?_
 intro a8 w3 hb hs hC H8
 have O3 := O2.alloc hb hs hC
 have hbA := hb
 clear hb hs hC
 obtain ⟨_, _, _, _, _, _, e1, e2, e3, _⟩ := id hM
 refine H8.storeS rfl rfl rfl rfl rfl (O3.get 0 rfl) size_mq rfl rfl (by subst e1 e2 e3; rfl) ?_
 intro a9 w4 H9 hg hs hC
 have O4 := O3.store 0 rfl hg hs hC
 have hgA := hg
 clear hg hs hC
 have hbm := hbA.grown hgA hbA.size (fun k hk => by injection hk with hk; rw [← hk]; exact Nat.le_refl _)
 refine H9.ms 1 fun a10 H10 => nt ?_
 refine H10.rg 2 fun a12 H12 => ?_
 refine H12.go (H12.wt rfl rfl rfl) rfl rfl _ (run_load rfl (H12.ev rfl) (loadS_run ((O4.get 1 rfl)))) ?_
 intro a13 H13
 refine H13.go (H13.wt rfl rfl rfl) rfl rfl _ (run_load rfl (H13.ev rfl) (loadS_run ((O4.get 0 rfl)))) ?_
 intro a14 H14
 refine H14.call (H14.wt rfl rfl rfl) rfl rfl rfl rfl (fun _ _ => by kernel_rfl) (belowC (packSame m (onlyOf m) _ _ _ _ _ _ _ (hL.next O4.bel) (hM.next hbm))) ?_
 rintro a15 _ w5 ⟨rfl, hb⟩ H15
 have O5 := O4.call hb
 clear hb
 refine H15.pick gz rfl rfl rfl rfl rfl ?_
 intro a16 H16
 refine H16.ms 1 fun a17 H17 => nt ?_
 refine wp_ret ?_
 repeat (first | (with_reducible refine block_ret ?_) | (with_reducible refine then_ret ?_))
 refine bodyPost_ret (results_tmp rfl _ _ _) H17.df ⟨?_, O5.bel⟩
 rw [hm]
 exact congrArg Ending.returned (H17.at_ 2 _ rfl)
theorem may_false (m : Mq) (vc vw vf : Value) (w : World) (hL : MqL w w.heap.size m vc vw vf) (hF : MqFit m) (hW : Wd w) (hb0 : okOf m = false) :
  Calls Tryz.prog 108 #[.agg (mqCells m vc vw vf).toArray] w fun e w' => e = .returned (.bool (mayBb m)) ∧ Below w.heap.size w w' := by
 have hm : mayBb m = false := by unfold mayBb; rw [hb0]; rfl
 go_enter Tryz.func108, Tryz.ntmps108
 refine Has.start 16 [(0, .agg (mqCells m vc vw vf).toArray)] rfl rfl ⟨rfl, trivial⟩ ?_
 intro a0 H0
 have O0 := Own.start w
 refine rl ?_
 refine H0.bx O0 1 fun a2 w1 O1 H2 => nt ?_
 refine rl ?_
 refine H2.lm O1 0 0 fun a3 H3 => ?_
 refine H3.cl (onlyC m _ _ _ _ false hb0 (hL.next O1.bel) hF (hW.below O1.bel)) ?_
 rintro a4 _ w2 ⟨vc', vw', vf', rfl, hM, hb⟩ H4
 have O2 := O1.call hb
 clear hb
 refine H4.ms 1 fun a5 H5 => ?_
 refine H5.ex 0 fun a6 H6 => ?_
 refine H6.ex 0 fun a7 H7 => ?_
 have hM1 := hM
 refine H7.alloc rfl rfl rfl rfl _ zero_mq ?_
 intro a8 w3 hb hs hC H8
 have O3 := O2.alloc hb hs hC
 have hbA := hb
 clear hb hs hC
 obtain ⟨_, _, _, _, _, _, e1, e2, e3, _⟩ := id hM
 refine H8.storeS rfl rfl rfl rfl rfl (O3.get 0 rfl) size_mq rfl rfl (by subst e1 e2 e3; rfl) ?_
 intro a9 w4 H9 hg hs hC
 have O4 := O3.store 0 rfl hg hs hC
 have hgA := hg
 clear hg hs hC
 have hbm := hbA.grown hgA hbA.size (fun k hk => by injection hk with hk; rw [← hk]; exact Nat.le_refl _)
 refine H9.ms 1 fun a10 H10 => nt ?_
 refine H10.rg 2 fun a12 H12 => ?_
 refine H12.off rfl rfl rfl rfl rfl ?_
 intro a13 H13
 refine H13.off rfl rfl rfl rfl rfl ?_
 intro a14 H14
 refine H14.off rfl rfl rfl rfl rfl ?_
 intro a15 H15
 refine H15.pick gz rfl rfl rfl rfl rfl ?_
 intro a16 H16
 refine H16.ms 1 fun a17 H17 => nt ?_
 refine wp_ret ?_
 repeat (first | (with_reducible refine block_ret ?_) | (with_reducible refine then_ret ?_))
 refine bodyPost_ret (results_tmp rfl _ _ _) H17.df ⟨?_, O4.bel⟩
 rw [hm]
 exact congrArg Ending.returned (H17.at_ 2 _ rfl)
theorem packMay (m : Mq) (vc vw vf : Value) (w : World) (hL : MqL w w.heap.size m vc vw vf) (hF : MqFit m) (hW : Wd w) :
  Calls Tryz.prog 108 #[.agg (mqCells m vc vw vf).toArray] w fun e w' => e = .returned (.bool (mayBb m)) ∧ Below w.heap.size w w' := by
 cases hb : okOf m
 ·exact may_false m vc vw vf w hL hF hW hb
 ·exact may_true m vc vw vf w hL hF hW hb
end
section
open Go.RowKit
theorem or16 (k f : Nat) (hf : f < 16) : (16 * k ||| f) = 16 * k + f := (Nat.two_pow_add_eq_or_of_lt (i := 4) (by omega) k).symm
theorem shl4 (k : Int) (h0 : 0 ≤ k) (h1 : k ≤ 14) (x y : Operand) (w : World) : (do eqGuard .shl 3 x y (iz k) (.int .u64 4); binOp .shl 3 (iz k) (.int .u64 4) : Sem Value).run Tryz.prog w = .ok (iz ((16 * k.toNat : Nat) : Int)) w := by
 have e : IntKind.i64.wrap (k * 16) = ((16 * k.toNat : Nat) : Int) := by rw [IntWalk.i64_in _ (by omega)]; omega
 simp [go_sem]
 rw [e]
 omega
theorem shr7 (n : Nat) (_h : n < 16384) (x y : Operand) (w : World) : (do eqGuard .shr 3 x y (iz n) (.int .u64 7); binOp .shr 3 (iz n) (.int .u64 7) : Sem Value).run Tryz.prog w = .ok (iz ((n / 128 : Nat) : Int)) w := by
 simp [go_sem]
theorem or128_u8 (x : Fin 256) : bits .or .u8 (x.val : Int) 128 = ((x.val % 128 + 128 : Nat) : Int) := by
 revert x
 decide
theorem or128 (n : Nat) (x y : Operand) (w : World) : (do eqGuard .or 5 x y (.int .u8 ((n : Int) % 256)) (.int .u8 128); binOp .or 5 (.int .u8 ((n : Int) % 256)) (.int .u8 128) : Sem Value).run Tryz.prog w = .ok (.int .u8 ((n % 128 + 128 : Nat) : Int)) w := by
 have e := or128_u8 ⟨n % 256, by omega⟩
 have e2 : (((⟨n % 256, by omega⟩ : Fin 256).val : Nat) : Int) = (n : Int) % 256 := by simp
 have e3 : n % 256 % 128 = n % 128 := by omega
 simp only [e3] at e
 rw [← e]
 simp [go_sem]
theorem bv_nat (n : Nat) (h : n < 256) : Value.int .u8 (n : Int) = bv (UInt8.ofNat n) := by
 unfold bv
 rw [UInt8.toNat_ofNat', Nat.mod_eq_of_lt (by simpa using h)]
theorem vlen_step (n : Nat) (h : 128 ≤ n) : vlen n = UInt8.ofNat (n % 128 + 128) :: vlen (n / 128) := by
 conv => lhs; unfold vlen
 rw [if_neg (by omega)]
theorem vlen_pos (n : Nat) : 0 < (vlen n).length := by
 unfold vlen
 split <;> simp
theorem row_lit (w : World) (b : Nat) (hb : b ≤ w.heap.size) (xs : List UInt8) (vs : List Value) (h : vs = xs.map bv) (k : Nat) (hk : xs.length = k) (hm : k ≤ 1000) : RowIs b xs (.slice (some ⟨w.heap.size, 0, none⟩) k k) (w.alloc (.cells vs.toArray 5)) := by
 subst hk h
 refine ⟨_, _, rfl, by simp, .inr ⟨w.heap.size, xs.length, _, rfl, hb, heap_alloc_new w _, Nat.le_refl _, ?_, by simp, ?_⟩⟩
 ·unfold maxLen; omega
 ·rw [Nat.mul_one, List.take_of_length_le (by simp)]
theorem Has.lit {P : Program} {ops : Array Oper} {rest : List Oper} {o : Oper} {a : Act} {w : World} {Q : Exit → Act → World → Prop} {n : Nat} {l : List (Nat × Value)} (H : Has a n l) (hw : Region.wanted o (yielded ops a.tmps) = true) {d k : Nat} (hd : o.dst = some d) (hn : Nat.blt d n = true) (xs : List UInt8) (vs : List Value) (hxs : vs = xs.map bv) (hk : xs.length = k) (_e : TypeId) (hs : ∀ cs b, o.op ≠ .select cs b) (hops : o.op.operands.all (fun x => (evL l x).isSome) = true)
  (hrun : (execOp (fun x => (evL l x).getD undef) o).run P w = .ok (.value (.slice (some ⟨w.heap.size, 0, none⟩) k k)) (w.alloc (.cells vs.toArray 5))) {b : Nat} (hb : b ≤ w.heap.size) (h : ∀ a' v w', Has a' n ((d, v) :: l) → RowIs b xs v w' → Below w.heap.size w w' → wpList P ops Q rest a' w') (hm : k ≤ 1000 := by decide) : wpList P ops Q (o :: rest) a w :=
 H.go hw hd hn _ (run_any H hs hops hrun) (fun a' H' => h a' _ _ H' (row_lit w b hb xs vs hxs k hk hm) (balloc w _))
theorem bodyC (m : Mq) (vc vw vf : Value) (w : World) (hm : mayB m) (hL : MqL w w.heap.size m vc vw vf) :
  Calls Tryz.prog 133 #[.agg (mqCells m vc vw vf).toArray] w fun e w' => ∃ v, e = .returned v ∧ (∃ vb, v = .tuple #[iz (flagsBy m), vb] ∧ BytesAre (bodyBy m) vb w' ∧ Below w.heap.size w w') := by
 refine (packBody m vc vw vf w hm hL).mono ?_
 rintro e w' ⟨v, rfl, hB, hb⟩
 exact ⟨_, rfl, v, rfl, hB, hb⟩
theorem packLay (m : Mq) (vc vw vf : Value) (w : World) (hm : mayB m) (hL : MqL w w.heap.size m vc vw vf) :
  Calls Tryz.prog 109 #[.agg (mqCells m vc vw vf).toArray] w (Laid (layB m) w) := by
 have hbl := body_le hm.1
 have hfl := flagsBy_le hm.1
 have hkk := may_kind hm.1
 have hor : ((16 * m.kind.toNat : Nat) ||| flagsBy m) = 16 * m.kind.toNat + flagsBy m := or16 _ _ (by omega)
 go_enter Tryz.func109, Tryz.ntmps109
 refine Has.start 38 [(0, .agg (mqCells m vc vw vf).toArray)] rfl rfl ⟨rfl, trivial⟩ ?_
 intro a0 H0
 have O0 := Own.start w
 refine rl ?_
 refine H0.bx O0 1 fun a2 w1 O1 H2 => nt ?_
 refine rl ?_
 refine H2.lm O1 0 0 fun a3 H3 => ?_
 refine H3.cl (bodyC m _ _ _ _ hm (hL.next O1.bel)) ?_
 rintro a4 _ w2 ⟨vb, rfl, hB, hb⟩ H4
 have O2 := O1.call hb
 clear hb
 obtain ⟨Ab, cb', rfl, hrb⟩ := hB
 have HB2 := Base.of O2
 obtain ⟨b0, hb0⟩ : ∃ b0, b0 = w2.heap.size := ⟨_, rfl⟩
 rw [← hb0] at HB2
 have hb0' := hb0
 clear hb0
 rw [← hb0'] at hrb
 refine H4.ms 1 fun a5 H5 => ?_
 refine H5.ex (r := iz (flagsBy m)) 0 fun a6 H6 => ?_
 refine H6.ex (r := .slice Ab (bodyBy m).length cb') 2 fun a9 H9 => nt ?_
 refine H9.rg 1 fun a10 H10 => ?_
 refine H10.ld 0 (HB2.own.li 0 0) fun a11 H11 => ?_
 refine H11.bb 1 rfl rfl rfl rfl rfl rfl (shl4 _ (by omega) (by omega) _ _ _) rfl fun a13 H13 => ?_
 refine H13.bb 0 rfl rfl rfl rfl rfl rfl (or_i _ _ (by omega) (by omega) _ _ _) rfl fun a14 H14 => ?_
 refine H14.cv 0 (conv_u8 _ _) fun a15 H15 => ?_
 refine H15.lit gz rfl rfl [UInt8.ofNat (16 * m.kind.toNat + flagsBy m)] [.int .u8 ((((16 * m.kind.toNat : Nat) ||| flagsBy m : Nat) : Int) % 256)] (by rw [hor, byte_of_int _ (by omega)]; rfl) (k := 1) rfl 5 (by intro cs b h; cases h) (by kernel_rfl) (by kernel_rfl) HB2.bw ?_
 intro a16 v18 w3 H16 R18 hb
 have HB3 := HB2.call hb
 have hrb := hrb.below (hb.mono HB2.bw)
 clear hb
 refine H16.ms 1 fun a17 H17 => nt ?_
 refine H17.rg 1 fun a18 H18 => ?_
 refine H18.len gz rfl rfl rfl rfl Tryz.underlying31 ?_
 intro a19 H19
 refine H19.ms 1 fun a20 H20 => nt ?_
 repeat (refine wp_seq ?_)
 refine wp_block ?_
 refine wp_loop_up 2 (fun k a w' => ∃ n pre v, k < 2 ∧ n < 128 ^ (2 - k) ∧ vlen (bodyBy m).length = pre ++ vlen n ∧ pre.length ≤ 2 ∧ Has a 38 [(1, pz w.heap.size), (4, .slice Ab (bodyBy m).length cb'), (5, v), (6, iz n)] ∧ RowIs b0 ([UInt8.ofNat (16 * m.kind.toNat + flagsBy m)] ++ pre) v w' ∧ RB w' b0 Ab (bodyBy m) ∧ Base w b0 [(w.heap.size, (mqCells m vc vw vf))] w') ?_ ?_
 ·exact ⟨_, [], _, by omega, by omega, rfl, by simp, H20.keep ⟨rfl, rfl, rfl, rfl, trivial⟩, by simpa using R18, hrb, HB3⟩
 ·rintro k a21 w4 hkn ⟨n, pre, v5, hk2, hn, hpre, hpl, H21, R5, hrb, HB4⟩
  have hn2 : n < 16384 := by
   rcases Nat.lt_or_ge k 1 with h | h
   ·obtain rfl : k = 0 := by omega
    omega
   ·obtain rfl : k = 1 := by omega
    omega
  by_cases hlt : 128 ≤ n
  ·skip
   have hk0 : k = 0 := by
    rcases Nat.lt_or_ge k 1 with h | h
    ·omega
    ·obtain rfl : k = 1 := by omega
     omega
   subst hk0
   refine H21.rg 1 fun a22 H22 => ?_
   refine H22.bb 0 rfl rfl rfl rfl rfl rfl (geq_i _ _ true (by simp; omega) _ _ _) rfl fun a23 H23 => nt ?_
   repeat (refine wp_seq ?_)
   refine H23.condT rfl ?_
   refine skip_wp ?_
   refine then_normal ?_
   repeat (refine wp_seq ?_)
   refine wp_block ?_
   refine H23.rg 2 fun a25 H25 => ?_
   refine H25.cv 0 (conv_u8 _ _) fun a26 H26 => ?_
   refine H26.bn 0 (or128 n _ _ _) fun a27 H27 => ?_
   refine H27.lit gz rfl rfl [UInt8.ofNat (n % 128 + 128)] [.int .u8 ((n % 128 + 128 : Nat) : Int)] (by rw [bv_nat _ (by omega)]; rfl) (k := 1) rfl 5 (by intro cs b h; cases h) (by kernel_rfl) (by kernel_rfl) HB4.bw ?_
   intro a28 v29 w5 H28 R29 hb
   have HB5 := HB4.call hb
   have R5 := R5.below hb
   have hrb := hrb.below (hb.mono HB4.bw)
   clear hb
   refine H28.appendRow Tryz.underlying31 info_u8 gz rfl rfl rfl rfl rfl R5 R29.read (by simp; omega) HB5.bw ?_
   intro a29 v30 w6 H29 R30 hb _
   have HB6 := HB5.step hb
   have hrb := hrb.below hb
   clear hb
   refine H29.ms 1 fun a30 H30 => ?_
   refine wpList_nil ?_
   refine block_normal ?_
   refine then_normal ?_
   refine H30.rg 1 fun a31 H31 => ?_
   refine H31.bn 1 (shr7 n hn2 _ _ _) fun a33 H33 => nt ?_
   refine ⟨by omega, n / 128, pre ++ [UInt8.ofNat (n % 128 + 128)], _, by omega, by omega, ?_, ?_, H33.keep ⟨rfl, rfl, rfl, rfl, trivial⟩, (by rw [← List.append_assoc]; exact R30), hrb, HB6⟩
   ·rw [hpre, vlen_step _ hlt, List.append_assoc]; rfl
   ·have : pre = [] := by
     have h1 := congrArg List.length hpre
     rw [vlen_step _ hlt] at h1
     have h2 := vlen_le (bodyBy m).length (by omega)
     have h3 := vlen_pos (n / 128)
     simp only [List.length_append, List.length_cons] at h1
     exact List.eq_nil_of_length_eq_zero (by omega)
    rw [this]; simp
  ·skip
   refine H21.rg 1 fun a22 H22 => ?_
   refine H22.bb 0 rfl rfl rfl rfl rfl rfl (geq_i _ _ false (by simp; omega) _ _ _) rfl fun a23 H23 => nt ?_
   repeat (refine wp_seq ?_)
   refine H23.condF rfl ?_
   refine wp_exit ?_
   repeat (with_reducible refine then_exit ?_)
   refine block_leave ?_
   refine then_normal ?_
   refine H23.rg 2 fun a25 H25 => ?_
   refine H25.cv 0 (conv_u8 _ _) fun a26 H26 => ?_
   refine H26.lit gz rfl rfl [UInt8.ofNat n] [.int .u8 ((n : Int) % 256)] (by rw [byte_of_int _ (by omega)]; rfl) (k := 1) rfl 5 (by intro cs b h; cases h) (by kernel_rfl) (by kernel_rfl) HB4.bw ?_
   intro a27 v34 w5 H27 R34 hb
   have HB5 := HB4.call hb
   have R5 := R5.below hb
   have hrb := hrb.below (hb.mono HB4.bw)
   clear hb
   refine H27.appendRow Tryz.underlying31 info_u8 gz rfl rfl rfl rfl rfl R5 R34.read (by simp; omega) HB5.bw ?_
   intro a28 v35 w6 H28 R35 hb _
   have HB6 := HB5.step hb
   have hrb := hrb.below hb
   clear hb
   refine H28.ms 1 fun a29 H29 => ?_
   refine H29.appendRow Tryz.underlying31 info_u8 gz rfl rfl rfl rfl rfl R35 ⟨_, _, rfl, hrb.more HB6.bw⟩ (by simp; omega) HB6.bw ?_
   intro a30 v37 w7 H30 R37 hb _
   have HB7 := HB6.step hb
   have hrb := hrb.below hb
   clear hb
   refine H30.ms 1 fun a31 H31 => nt ?_
   refine wp_ret ?_
   repeat (first | (with_reducible refine block_ret ?_) | (with_reducible refine then_ret ?_))
   refine bodyPost_ret (results_tmp rfl _ _ _) H31.df ⟨_, congrArg Ending.returned (H31.at_ 2 _ rfl), ?_, HB7.own.bel⟩
   have e : layB m = (([UInt8.ofNat (16 * m.kind.toNat + flagsBy m)] ++ pre) ++ [UInt8.ofNat n]) ++ bodyBy m := by
    unfold layB; rw [hpre, vlen_short _ (by omega)]; simp
   rw [e]; exact R37.base HB7.hb
def BytesSaid (m : Mq) (w : World) (e : Ending) (w' : World) : Prop :=
 (mayB m ∧ ∃ v, e = .returned (.tuple #[v, iz 0]) ∧ RowIs w.heap.size (layB m) v w' ∧ Below w.heap.size w w') ∨ (¬ mayB m ∧ e = .returned (.tuple #[.slice none 0 0, iz 1]) ∧ Below w.heap.size w w')
theorem packBytes (m : Mq) (vc vw vf : Value) (w : World) (hL : MqL w w.heap.size m vc vw vf) (hF : MqFit m) (hW : Wd w) :
  Calls Tryz.prog 79 #[.agg (mqCells m vc vw vf).toArray] w (BytesSaid m w) := by
 cases hb : mayBb m
 ·go_enter Tryz.func79, Tryz.ntmps79
  refine Has.start 9 [(0, .agg (mqCells m vc vw vf).toArray)] rfl rfl ⟨rfl, trivial⟩ ?_
  intro a0 H0
  have O0 := Own.start w
  refine rl ?_
  refine H0.bx O0 2 fun a3 w1 O1 H3 => nt ?_
  refine rl ?_
  refine H3.lm O1 0 0 fun a4 H4 => ?_
  refine H4.cl (belowC (hb ▸ packMay m _ _ _ _ (hL.next O1.bel) hF (hW.below O1.bel))) ?_
  rintro a5 _ w2 ⟨rfl, hb⟩ H5
  have O2 := O1.call hb
  clear hb
  refine H5.uo 0 fun a6 H6 => nt ?_
  repeat (refine wp_seq ?_)
  refine H6.condT rfl ?_
  refine H6.rg 2 fun a8 H8 => nt ?_
  refine wp_ret ?_
  repeat (first | (with_reducible refine block_ret ?_) | (with_reducible refine then_ret ?_))
  exact bodyPost_ret (results_pair rfl _ _ _ (H8.at_ 2 _ rfl) (H8.at_ 3 _ rfl)) H8.df (.inr ⟨(fun h => by rw [(mayBb_iff m).2 h] at hb; cases hb), rfl, O2.bel⟩)
 ·go_enter Tryz.func79, Tryz.ntmps79
  refine Has.start 9 [(0, .agg (mqCells m vc vw vf).toArray)] rfl rfl ⟨rfl, trivial⟩ ?_
  intro a0 H0
  have O0 := Own.start w
  refine rl ?_
  refine H0.bx O0 2 fun a3 w1 O1 H3 => nt ?_
  refine rl ?_
  refine H3.lm O1 0 0 fun a4 H4 => ?_
  refine H4.cl (belowC (hb ▸ packMay m _ _ _ _ (hL.next O1.bel) hF (hW.below O1.bel))) ?_
  rintro a5 _ w2 ⟨rfl, hb⟩ H5
  have O2 := O1.call hb
  clear hb
  refine H5.uo 0 fun a6 H6 => nt ?_
  repeat (refine wp_seq ?_)
  have hmay := (mayBb_iff m).1 hb
  refine H6.condF rfl ?_
  refine skip_wp ?_
  refine then_normal ?_
  refine rl ?_
  refine H6.lm O2 0 0 fun a7 H7 => ?_
  refine H7.cl ((packLay m _ _ _ _ hmay (hL.next O2.bel)).mono fun _ _ h => h.row (Nat.le_refl _)) ?_
  rintro a8 vr w3 ⟨hR, hb2⟩ H8
  have O3 := O2.call hb2
  refine H8.ms 2 fun a10 H10 => nt ?_
  refine wp_ret ?_
  repeat (first | (with_reducible refine block_ret ?_) | (with_reducible refine then_ret ?_))
  exact bodyPost_ret (results_pair rfl _ _ _ (H10.at_ 2 _ rfl) (H10.at_ 3 _ rfl)) H10.df (.inl ⟨hmay, vr, rfl, hR.base O2.le, O3.bel⟩)
end
section
open Go.RowKit
theorem and127_u8 (x : Fin 256) : bits .and .u8 (x.val : Int) 127 = ((x.val % 128 : Nat) : Int) := by
 revert x
 decide
theorem and127 (x : UInt8) (a b : Operand) (w : World) : (do eqGuard .and 5 a b (.int .u8 (x.toNat : Int)) (.int .u8 127); binOp .and 5 (.int .u8 (x.toNat : Int)) (.int .u8 127) : Sem Value).run Tryz.prog w = .ok (.int .u8 ((x.toNat % 128 : Nat) : Int)) w := by
 have e := and127_u8 ⟨x.toNat, x.toNat_lt⟩
 simp only [] at e
 rw [← e]
 simp [go_sem]
theorem conv_58 (k : Nat) (h : k < 256) (w : World) : (convert 5 3 (.int .u8 (k : Int))).run Tryz.prog w = .ok (.int .i64 (k : Int)) w := by
 simp [go_sem]
 exact IntWalk.i64_in _ (by omega)
theorem pred_i (k : Nat) (x y : Operand) (w : World) : (do eqGuard .sub 3 x y (.int .i64 ((k + 1 : Nat) : Int)) (.int .i64 1); binOp .sub 3 (.int .i64 ((k + 1 : Nat) : Int)) (.int .i64 1) : Sem Value).run Tryz.prog w = .ok (.int .i64 (IntKind.i64.wrap (k : Int))) w := by
 have e : ((k + 1 : Nat) : Int) - 1 = (k : Int) := by omega
 simp [go_sem]
theorem mul7 (k : Nat) (hk : k ≤ 3) (x y : Operand) (w : World) : (do eqGuard .mul 3 x y (.int .i64 7) (.int .i64 (IntKind.i64.wrap (k : Int))); binOp .mul 3 (.int .i64 7) (.int .i64 (IntKind.i64.wrap (k : Int))) : Sem Value).run Tryz.prog w = .ok (.int .i64 ((7 * k : Nat) : Int)) w := by
 have : k = 0 ∨ k = 1 ∨ k = 2 ∨ k = 3 := by omega
 rcases this with rfl | rfl | rfl | rfl <;> simp [go_sem] <;> rfl
theorem shlK (v k : Nat) (hv : v < 128) (hk : k ≤ 3) (x y : Operand) (w : World) : (do eqGuard .shl 3 x y (.int .i64 (v : Int)) (.int .i64 ((7 * k : Nat) : Int)); binOp .shl 3 (.int .i64 (v : Int)) (.int .i64 ((7 * k : Nat) : Int)) : Sem Value).run Tryz.prog w = .ok (.int .i64 ((v * 128 ^ k : Nat) : Int)) w := by
 have : k = 0 ∨ k = 1 ∨ k = 2 ∨ k = 3 := by omega
 rcases this with rfl | rfl | rfl | rfl <;> simp [go_sem] <;> exact IntWalk.i64_in _ (by omega)
theorem or_pow (n v k : Nat) (hn : n < 128 ^ k) : (n ||| v * 128 ^ k) = n + v * 128 ^ k := by
 have e : (128 : Nat) ^ k = 2 ^ (7 * k) := by rw [Nat.pow_mul]
 rw [e] at hn ⊢
 rw [Nat.or_comm, Nat.mul_comm v, ← Nat.two_pow_add_eq_or_of_lt hn, Nat.add_comm]
theorem geq_u (u v : Int) (b : Bool) (h : decide (v ≤ u) = b) (x y : Operand) (w : World) : (do eqGuard .geq 5 x y (.int .u8 u) (.int .u8 v); binOp .geq 5 (.int .u8 u) (.int .u8 v) : Sem Value).run Tryz.prog w = .ok (.bool b) w := by
 subst h
 simp [go_sem]
theorem sub1024 (k : Nat) (hk : k ≤ 1024) (x y : Operand) (w : World) : (do eqGuard .sub 3 x y (.int .i64 1024) (.int .i64 (k : Int)); binOp .sub 3 (.int .i64 1024) (.int .i64 (k : Int)) : Sem Value).run Tryz.prog w = .ok (.int .i64 (1024 - (k : Int))) w := by
 simp [go_sem]
 exact IntWalk.i64_in _ (by omega)
theorem add_i (u v : Nat) (h : u + v ≤ 1000000000) (x y : Operand) (w : World) : (do eqGuard .add 3 x y (.int .i64 (u : Int)) (.int .i64 (v : Int)); binOp .add 3 (.int .i64 (u : Int)) (.int .i64 (v : Int)) : Sem Value).run Tryz.prog w = .ok (.int .i64 ((u + v : Nat) : Int)) w := by
 simp [go_sem]
 exact IntWalk.i64_in _ (by omega)
def sized : Except Int (Nat × Nat) → Value
 | .ok (t, i) => .tuple #[.int .i64 (t : Int), .int .i64 (i : Int), .int .i64 0]
 | .error e => .tuple #[.int .i64 0, .int .i64 0, .int .i64 e]
theorem packSize (xs : List UInt8) (A : Option Addr) (c : Nat) (w : World) (hr : RB w w.heap.size A xs) (hl : xs.length ≤ 140737488351232) :
  Calls Tryz.prog 121 #[.slice A xs.length c] w fun e w' => e = .returned (sized (sizeD xs)) ∧ w' = w := by
 go_enter Tryz.func121, Tryz.ntmps121
 refine Has.start 60 [(0, .slice A xs.length c)] rfl rfl ⟨rfl, trivial⟩ ?_
 intro a0 H0
 refine H0.rg 3 fun a3 H3 => nt ?_
 refine wp_scope_two rfl rfl 3 (fun k a w' => ∃ n, w' = w ∧ Has a 60 [(0, .slice A xs.length c), (5, .int .i64 ((n : Nat) : Int)), (6, .int .i64 ((k + 1 : Nat) : Int))] ∧ n < 128 ^ k ∧ sizeD xs = sizeGo (4 - k) (k + 1) n (xs.drop (k + 1)) ∧ k + 1 ≤ xs.length) (fun a w' => w' = w ∧ Has a 60 [(0, .slice A xs.length c)] ∧ sizeD xs = .error 1) ?_ ?_ ?_
 ·intro hpass
  refine H3.rg 2 fun a5 H5 => nt ?_
  rcases Nat.eq_zero_or_pos xs.length with hz | hz
  ·skip
   refine H5.rg 1 fun a6 H6 => ?_
   refine H6.len gz rfl rfl rfl rfl Tryz.underlying31 ?_
   intro a7 H7
   refine H7.bb 0 rfl rfl rfl rfl rfl rfl (eql_iB _ _ true (by rw [beq_iff_eq]; omega) _ _ _) rfl fun a8 H8 => nt ?_
   refine H8.condT rfl ?_
   refine H8.rg 3 fun a11 H11 => nt ?_
   refine wp_ret ?_
   repeat (first | (with_reducible refine block_ret ?_) | (with_reducible refine then_ret ?_) | (with_reducible refine two_ret ?_))
   refine bodyPost_ret (results_three rfl _ _ _ _ (H11.at_ 2 _ rfl) (H11.at_ 3 _ rfl) (H11.at_ 4 _ rfl)) H11.df ?_
   exact ⟨by rw [show sizeD xs = .error 7 by rw [List.eq_nil_of_length_eq_zero hz]; rfl] <;> rfl, rfl⟩
  ·skip
   refine H5.rg 1 fun a6 H6 => ?_
   refine H6.len gz rfl rfl rfl rfl Tryz.underlying31 ?_
   intro a7 H7
   refine H7.bb 0 rfl rfl rfl rfl rfl rfl (eql_iB _ _ false (by rw [beq_eq_false_iff_ne]; omega) _ _ _) rfl fun a8 H8 => nt ?_
   refine H8.condF rfl ?_
   refine skip_wp ?_
   refine then_normal ?_
   refine wp_seq (label_wp (then_normal ?_))
   refine hpass 0 _ _ (by omega) ⟨0, rfl, H8.keep ⟨rfl, rfl, rfl, trivial⟩, by decide, ?_, hz⟩
   cases xs with
   | nil => simp at hz
   | cons y r => rfl
 ·rintro k a43 _ hk ⟨n, rfl, H43, hn, hs, hz⟩
  have hn28 : n < 2097152 := Nat.lt_of_lt_of_le hn (Nat.pow_le_pow_right (n := 128) (by decide) hk)
  have hxl : xs.length ≤ 140737488351232 := hl
  rcases Nat.lt_or_ge (k + 1) xs.length with hlt | hge
  ·skip
   obtain ⟨gb, go, x, rfl, hgb, hx, hcell⟩ := RB.get hr hlt
   have hdr : xs.drop (k + 1) = x :: xs.drop (k + 1 + 1) := drop_get' _ _ _ hx
   rw [hdr, show 4 - k = (3 - k) + 1 by omega, sizeGo, show k + 1 - 1 = k by omega] at hs
   have hxb := x.toNat_lt
   obtain ⟨n', hn'⟩ : ∃ n' : Nat, n' = n + x.toNat % 128 * 128 ^ k := ⟨_, rfl⟩
   rw [← hn'] at hs
   have hor : (n ||| x.toNat % 128 * 128 ^ k) = n' := by rw [hn', or_pow _ _ _ hn]
   have hp21 : 128 ^ k ≤ 2097152 := Nat.pow_le_pow_right (n := 128) (by decide) hk
   have hn1 : n' < 128 ^ (k + 1) := by
    rw [hn', Nat.pow_succ]
    have : x.toNat % 128 * 128 ^ k ≤ 127 * 128 ^ k := Nat.mul_le_mul_right _ (by omega)
    omega
   have hnb : n' < 268435456 := by
    rw [Nat.pow_succ] at hn1
    omega
   have hvb : x.toNat % 128 * 128 ^ k < 268435456 := by omega
   refine H43.rg 2 fun a45 H45 => ?_
   refine H45.len gz rfl rfl rfl rfl Tryz.underlying31 ?_
   intro a46 H46
   refine H46.bb 0 rfl rfl rfl rfl rfl rfl (eql_iB _ _ false (by rw [beq_eq_false_iff_ne]; omega) _ _ _) rfl fun a47 H47 => nt ?_
   refine H47.condF rfl ?_
   refine skip_wp ?_
   refine then_normal ?_
   refine H47.rg 3 fun a50 H50 => ?_
   refine H50.index gz rfl rfl rfl rfl rfl (index_1 31 Tryz.underlying31 (fun _ => by kernel_rfl) _ _ _ _ _ hlt _) ?_
   intro a51 H51
   refine H51.ld 0 (load1_u _ _ _ _ hcell) fun a52 H52 => ?_
   refine H52.bn 0 (and127 x _ _ _) fun a53 H53 => ?_
   refine H53.conv gz rfl rfl rfl rfl (conv_58 _ (by omega) _) ?_
   intro a54 H54
   refine H54.ms 1 fun a55 H55 => ?_
   refine H55.bn 0 (pred_i _ _ _ _) fun a56 H56 => ?_
   refine H56.bn 0 (mul7 _ hk _ _ _) fun a57 H57 => ?_
   refine H57.bb 0 rfl rfl rfl rfl rfl rfl (shlK _ _ (by omega) hk _ _ _) rfl fun a58 H58 => ?_
   refine H58.bb 1 rfl rfl rfl rfl rfl rfl (or_i _ _ (by omega) (by omega) _ _ _) rfl fun a60 H60 => nt ?_
   rw [hor] at H60
   have H61 := H60.kp [0, 5, 6]
   by_cases h128 : 128 ≤ x.toNat
   ·skip
    rw [if_pos h128] at hs
    refine H61.rg 2 fun a63 H63 => ?_
    refine H63.index gz rfl rfl rfl rfl rfl (index_1 31 Tryz.underlying31 (fun _ => by kernel_rfl) _ _ _ _ _ hlt _) ?_
    intro a64 H64
    refine H64.ld 0 (load1_u _ _ _ _ hcell) fun a65 H65 => ?_
    refine H65.bb 0 rfl rfl rfl rfl rfl rfl (geq_u _ _ true (by simp; omega) _ _ _) rfl fun a66 H66 => nt ?_
    refine H66.condT rfl ?_
    by_cases h4 : k = 3
    ·skip
     rw [if_pos (by omega)] at hs
     refine H66.rg 1 fun a67 H67 => ?_
     refine H67.bb 0 rfl rfl rfl rfl rfl rfl (eql_iB _ _ true (by subst h4; rfl) _ _ _) rfl fun a68 H68 => nt ?_
     refine H68.condT rfl ?_
     refine wp_goto ?_
     repeat (first | (with_reducible refine then_goto ?_))
     exact two_goto1 ⟨rfl, H68.keep ⟨rfl, trivial⟩, hs⟩
    ·skip
     rw [if_neg (by omega)] at hs
     refine H66.rg 1 fun a67 H67 => ?_
     refine H67.bb 0 rfl rfl rfl rfl rfl rfl (eql_iB _ _ false (by rw [beq_eq_false_iff_ne]; omega) _ _ _) rfl fun a68 H68 => nt ?_
     refine H68.condF rfl ?_
     refine skip_wp ?_
     refine then_normal ?_
     refine H68.rg 1 fun a69 H69 => ?_
     refine H69.bb 1 rfl rfl rfl rfl rfl rfl (succ_i _ (by omega) _ _ _) rfl fun a71 H71 => nt ?_
     refine wp_goto ?_
     repeat (first | (with_reducible refine then_goto ?_))
     exact two_goto0 ⟨by omega, n', rfl, H71.keep ⟨rfl, rfl, rfl, trivial⟩, hn1, by rw [hs, show 3 - k = 4 - (k + 1) by omega], by omega⟩
   ·skip
    rw [if_neg h128] at hs
    refine H61.rg 2 fun a63 H63 => ?_
    refine H63.index gz rfl rfl rfl rfl rfl (index_1 31 Tryz.underlying31 (fun _ => by kernel_rfl) _ _ _ _ _ hlt _) ?_
    intro a64 H64
    refine H64.ld 0 (load1_u _ _ _ _ hcell) fun a65 H65 => ?_
    refine H65.bb 0 rfl rfl rfl rfl rfl rfl (geq_u _ _ false (by simp; omega) _ _ _) rfl fun a66 H66 => nt ?_
    refine H66.condF rfl ?_
    refine skip_wp ?_
    refine then_normal ?_
    by_cases h0 : x.toNat = 0
    ·skip
     by_cases h1 : 1 < k + 1
     ·skip
      rw [if_pos ⟨h0, h1⟩] at hs
      refine H66.rg 2 fun a68 H68 => ?_
      refine H68.index gz rfl rfl rfl rfl rfl (index_1 31 Tryz.underlying31 (fun _ => by kernel_rfl) _ _ _ _ _ hlt _) ?_
      intro a69 H69
      refine H69.ld 0 (load1_u _ _ _ _ hcell) fun a70 H70 => ?_
      refine H70.bb 1 rfl rfl rfl rfl rfl rfl (eql_u _ _ true (by simpa using h0) _ _ _) rfl fun a72 H72 => ?_
      refine H72.move (H72.wt rfl rfl rfl) (.inl rfl) rfl rfl rfl ?_
      intro a73 H73
      refine H73.bin (H73.wt rfl rfl rfl) rfl rfl rfl rfl rfl (gtr_i _ _ true (by simp; omega) _ _ _) ?_
      intro a74 H74
      refine H74.pick gz rfl rfl rfl rfl rfl ?_
      intro a75 H75
      refine nt ?_
      refine H75.condT rfl ?_
      refine wp_goto ?_
      repeat (first | (with_reducible refine then_goto ?_))
      exact two_goto1 ⟨rfl, H75.keep ⟨rfl, trivial⟩, hs⟩
     ·skip
      rw [if_neg (fun h => h1 h.2)] at hs
      refine H66.rg 2 fun a68 H68 => ?_
      refine H68.index gz rfl rfl rfl rfl rfl (index_1 31 Tryz.underlying31 (fun _ => by kernel_rfl) _ _ _ _ _ hlt _) ?_
      intro a69 H69
      refine H69.ld 0 (load1_u _ _ _ _ hcell) fun a70 H70 => ?_
      refine H70.bb 1 rfl rfl rfl rfl rfl rfl (eql_u _ _ true (by simpa using h0) _ _ _) rfl fun a72 H72 => ?_
      refine H72.move (H72.wt rfl rfl rfl) (.inl rfl) rfl rfl rfl ?_
      intro a73 H73
      refine H73.bin (H73.wt rfl rfl rfl) rfl rfl rfl rfl rfl (gtr_i _ _ false (by simp; omega) _ _ _) ?_
      intro a74 H74
      refine H74.pick gz rfl rfl rfl rfl rfl ?_
      intro a75 H75
      refine nt ?_
      refine H75.condF rfl ?_
      refine skip_wp ?_
      refine then_normal ?_
      refine H75.rg 1 fun a76 H76 => ?_
      refine H76.bb 1 rfl rfl rfl rfl rfl rfl (succ_i _ (by omega) _ _ _) rfl fun a78 H78 => nt ?_
      by_cases hb : 1024 < n' + (k + 2)
      ·skip
       rw [if_pos (by omega)] at hs
       refine H78.rg 2 fun a80 H80 => ?_
       refine H80.bb 0 rfl rfl rfl rfl rfl rfl (sub1024 _ (by omega) _ _ _) rfl fun a81 H81 => ?_
       refine H81.bb 0 rfl rfl rfl rfl rfl rfl (gtr_i _ _ true (by simp; omega) _ _ _) rfl fun a82 H82 => nt ?_
       refine H82.condT rfl ?_
       refine H82.rg 3 fun a85 H85 => nt ?_
       refine wp_ret ?_
       repeat (first | (with_reducible refine block_ret ?_) | (with_reducible refine then_ret ?_) | (with_reducible refine two_ret ?_))
       refine bodyPost_ret (results_three rfl _ _ _ _ (H85.at_ 2 _ rfl) (H85.at_ 3 _ rfl) (H85.at_ 4 _ rfl)) H85.df ?_
       exact ⟨by rw [hs] <;> rfl, rfl⟩
      ·skip
       rw [if_neg (by omega)] at hs
       refine H78.rg 2 fun a80 H80 => ?_
       refine H80.bb 0 rfl rfl rfl rfl rfl rfl (sub1024 _ (by omega) _ _ _) rfl fun a81 H81 => ?_
       refine H81.bb 0 rfl rfl rfl rfl rfl rfl (gtr_i _ _ false (by simp; omega) _ _ _) rfl fun a82 H82 => nt ?_
       refine H82.condF rfl ?_
       refine skip_wp ?_
       refine then_normal ?_
       by_cases hc2 : xs.length < n' + (k + 2)
       ·skip
        rw [if_pos (by rw [List.length_drop]; omega)] at hs
        refine H82.rg 1 fun a83 H83 => ?_
        refine H83.len gz rfl rfl rfl rfl Tryz.underlying31 ?_
        intro a84 H84
        refine H84.ms 2 fun a86 H86 => ?_
        refine H86.bb 0 rfl rfl rfl rfl rfl rfl (add_i _ _ (by omega) _ _ _) rfl fun a87 H87 => ?_
        refine H87.bb 0 rfl rfl rfl rfl rfl rfl (lss_i _ _ true (by simp; omega) _ _ _) rfl fun a88 H88 => nt ?_
        refine H88.condT rfl ?_
        refine H88.rg 3 fun a91 H91 => nt ?_
        refine wp_ret ?_
        repeat (first | (with_reducible refine block_ret ?_) | (with_reducible refine then_ret ?_) | (with_reducible refine two_ret ?_))
        refine bodyPost_ret (results_three rfl _ _ _ _ (H91.at_ 2 _ rfl) (H91.at_ 3 _ rfl) (H91.at_ 4 _ rfl)) H91.df ?_
        exact ⟨by rw [hs] <;> rfl, rfl⟩
       ·skip
        rw [if_neg (by rw [List.length_drop]; omega)] at hs
        refine H82.rg 1 fun a83 H83 => ?_
        refine H83.len gz rfl rfl rfl rfl Tryz.underlying31 ?_
        intro a84 H84
        refine H84.ms 2 fun a86 H86 => ?_
        refine H86.bb 0 rfl rfl rfl rfl rfl rfl (add_i _ _ (by omega) _ _ _) rfl fun a87 H87 => ?_
        refine H87.bb 0 rfl rfl rfl rfl rfl rfl (lss_i _ _ false (by simp; omega) _ _ _) rfl fun a88 H88 => nt ?_
        refine H88.condF rfl ?_
        refine skip_wp ?_
        refine then_normal ?_
        refine H88.rg 2 fun a90 H90 => ?_
        refine H90.bb 4 rfl rfl rfl rfl rfl rfl (add_i _ _ (by omega) _ _ _) rfl fun a95 H95 => nt ?_
        refine wp_ret ?_
        repeat (first | (with_reducible refine block_ret ?_) | (with_reducible refine then_ret ?_) | (with_reducible refine two_ret ?_))
        refine bodyPost_ret (results_three rfl _ _ _ _ (H95.at_ 2 _ rfl) (H95.at_ 3 _ rfl) (H95.at_ 4 _ rfl)) H95.df ?_
        exact ⟨by rw [hs] <;> rfl, rfl⟩
    ·skip
     rw [if_neg (fun h => h0 h.1)] at hs
     refine H66.rg 2 fun a68 H68 => ?_
     refine H68.index gz rfl rfl rfl rfl rfl (index_1 31 Tryz.underlying31 (fun _ => by kernel_rfl) _ _ _ _ _ hlt _) ?_
     intro a69 H69
     refine H69.ld 0 (load1_u _ _ _ _ hcell) fun a70 H70 => ?_
     refine H70.bb 1 rfl rfl rfl rfl rfl rfl (eql_u _ _ false (by simpa using h0) _ _ _) rfl fun a72 H72 => ?_
     refine H72.off rfl rfl rfl rfl rfl ?_
     intro a73 H73
     refine H73.off rfl rfl rfl rfl rfl ?_
     intro a74 H74
     refine H74.pick gz rfl rfl rfl rfl rfl ?_
     intro a75 H75
     refine nt ?_
     refine H75.condF rfl ?_
     refine skip_wp ?_
     refine then_normal ?_
     refine H75.rg 1 fun a76 H76 => ?_
     refine H76.bb 1 rfl rfl rfl rfl rfl rfl (succ_i _ (by omega) _ _ _) rfl fun a78 H78 => nt ?_
     by_cases hb : 1024 < n' + (k + 2)
     ·skip
      rw [if_pos (by omega)] at hs
      refine H78.rg 2 fun a80 H80 => ?_
      refine H80.bb 0 rfl rfl rfl rfl rfl rfl (sub1024 _ (by omega) _ _ _) rfl fun a81 H81 => ?_
      refine H81.bb 0 rfl rfl rfl rfl rfl rfl (gtr_i _ _ true (by simp; omega) _ _ _) rfl fun a82 H82 => nt ?_
      refine H82.condT rfl ?_
      refine H82.rg 3 fun a85 H85 => nt ?_
      refine wp_ret ?_
      repeat (first | (with_reducible refine block_ret ?_) | (with_reducible refine then_ret ?_) | (with_reducible refine two_ret ?_))
      refine bodyPost_ret (results_three rfl _ _ _ _ (H85.at_ 2 _ rfl) (H85.at_ 3 _ rfl) (H85.at_ 4 _ rfl)) H85.df ?_
      exact ⟨by rw [hs] <;> rfl, rfl⟩
     ·skip
      rw [if_neg (by omega)] at hs
      refine H78.rg 2 fun a80 H80 => ?_
      refine H80.bb 0 rfl rfl rfl rfl rfl rfl (sub1024 _ (by omega) _ _ _) rfl fun a81 H81 => ?_
      refine H81.bb 0 rfl rfl rfl rfl rfl rfl (gtr_i _ _ false (by simp; omega) _ _ _) rfl fun a82 H82 => nt ?_
      refine H82.condF rfl ?_
      refine skip_wp ?_
      refine then_normal ?_
      by_cases hc2 : xs.length < n' + (k + 2)
      ·skip
       rw [if_pos (by rw [List.length_drop]; omega)] at hs
       refine H82.rg 1 fun a83 H83 => ?_
       refine H83.len gz rfl rfl rfl rfl Tryz.underlying31 ?_
       intro a84 H84
       refine H84.ms 2 fun a86 H86 => ?_
       refine H86.bb 0 rfl rfl rfl rfl rfl rfl (add_i _ _ (by omega) _ _ _) rfl fun a87 H87 => ?_
       refine H87.bb 0 rfl rfl rfl rfl rfl rfl (lss_i _ _ true (by simp; omega) _ _ _) rfl fun a88 H88 => nt ?_
       refine H88.condT rfl ?_
       refine H88.rg 3 fun a91 H91 => nt ?_
       refine wp_ret ?_
       repeat (first | (with_reducible refine block_ret ?_) | (with_reducible refine then_ret ?_) | (with_reducible refine two_ret ?_))
       refine bodyPost_ret (results_three rfl _ _ _ _ (H91.at_ 2 _ rfl) (H91.at_ 3 _ rfl) (H91.at_ 4 _ rfl)) H91.df ?_
       exact ⟨by rw [hs] <;> rfl, rfl⟩
      ·skip
       rw [if_neg (by rw [List.length_drop]; omega)] at hs
       refine H82.rg 1 fun a83 H83 => ?_
       refine H83.len gz rfl rfl rfl rfl Tryz.underlying31 ?_
       intro a84 H84
       refine H84.ms 2 fun a86 H86 => ?_
       refine H86.bb 0 rfl rfl rfl rfl rfl rfl (add_i _ _ (by omega) _ _ _) rfl fun a87 H87 => ?_
       refine H87.bb 0 rfl rfl rfl rfl rfl rfl (lss_i _ _ false (by simp; omega) _ _ _) rfl fun a88 H88 => nt ?_
       refine H88.condF rfl ?_
       refine skip_wp ?_
       refine then_normal ?_
       refine H88.rg 2 fun a90 H90 => ?_
       refine H90.bb 4 rfl rfl rfl rfl rfl rfl (add_i _ _ (by omega) _ _ _) rfl fun a95 H95 => nt ?_
       refine wp_ret ?_
       repeat (first | (with_reducible refine block_ret ?_) | (with_reducible refine then_ret ?_) | (with_reducible refine two_ret ?_))
       refine bodyPost_ret (results_three rfl _ _ _ _ (H95.at_ 2 _ rfl) (H95.at_ 3 _ rfl) (H95.at_ 4 _ rfl)) H95.df ?_
       exact ⟨by rw [hs] <;> rfl, rfl⟩
  ·skip
   rw [List.drop_eq_nil_of_le hge] at hs
   have hs7 : sizeD xs = .error 7 := by rw [hs]; cases (4 - k) <;> rfl
   have hkl : k + 1 = xs.length ∨ xs.length < k + 1 := by omega
   refine H43.rg 2 fun a45 H45 => ?_
   refine H45.len gz rfl rfl rfl rfl Tryz.underlying31 ?_
   intro a46 H46
   refine H46.bb 0 rfl rfl rfl rfl rfl rfl (eql_iB _ _ true (by rw [beq_iff_eq]; omega) _ _ _) rfl fun a47 H47 => nt ?_
   refine H47.condT rfl ?_
   refine H47.rg 3 fun a50 H50 => nt ?_
   refine wp_ret ?_
   repeat (first | (with_reducible refine block_ret ?_) | (with_reducible refine then_ret ?_) | (with_reducible refine two_ret ?_))
   refine bodyPost_ret (results_three rfl _ _ _ _ (H50.at_ 2 _ rfl) (H50.at_ 3 _ rfl) (H50.at_ 4 _ rfl)) H50.df ?_
   exact ⟨by rw [hs7] <;> rfl, rfl⟩
 ·rintro a51 _ ⟨rfl, H51, hs⟩
  refine H51.rg 3 fun a54 H54 => nt ?_
  refine wp_ret ?_
  repeat (first | (with_reducible refine block_ret ?_) | (with_reducible refine then_ret ?_) | (with_reducible refine two_ret ?_))
  refine bodyPost_ret (results_three rfl _ _ _ _ (H54.at_ 2 _ rfl) (H54.at_ 3 _ rfl) (H54.at_ 4 _ rfl)) H54.df ?_
  exact ⟨by rw [hs] <;> rfl, rfl⟩
end
section
open Go.RowKit
structure Rst (w0 : World) (B g gp : Nat) (s : Rd) (L : List Value) (w : World) : Prop where
 rd : RdAt w B g s
 ce : Cells w gp L
 gr : w0.grownBy w (some g)
 ge : w0.heap.size ≤ gp
 hB : B ≤ gp
 ne : gp ≠ g
 lt : gp < w.heap.size
section
variable {w0 w w' : World} {B g gp : Nat} {s s' : Rd} {L L' : List Value}
theorem Rst.call (h : Rst w0 B g gp s L w) (hr : RdAt w' B g s') (hg : w.grownBy w' (some g)) : Rst w0 B g gp s' L w' :=
 ⟨hr, h.ce.kept hg h.lt (by simpa using h.ne), h.gr.trans hg, h.ge, h.hB, h.ne, Nat.lt_of_lt_of_le h.lt hg.size⟩
theorem Rst.set (h : Rst w0 B g gp s L w) (j : Nat) (v : Value) (hj : j < L.length) : Rst w0 B g gp s (L.set j v) (w.setCell ⟨gp, j, none⟩ v) :=
 ⟨h.rd.store (a := ⟨gp, j, none⟩) h.hB h.ne v, h.ce.set j v hj, grown_store h.gr (a := ⟨gp, j, none⟩) h.ge v, h.ge, h.hB, h.ne, by rw [size_setCell']; exact h.lt⟩
theorem Rst.is (h : Rst w0 B g gp s L w) (e : L = L') (e' : s = s') : Rst w0 B g gp s' L' w := by rw [← e, ← e']; exact h
end
section
variable {w0 w : World} {B g gp : Nat} {s : Rd} {L : List Value} {ops : Array Oper} {rest rest' : List Oper} {o : Oper} {a : Act} {Q : Exit → Act → World → Prop} {n : Nat} {l l' : List (Nat × Value)}
theorem Has.rc (H : Has a n l) (R : Rst w0 B g gp s L w) (k : Nat) {d : Nat} {f : FuncId} {xs : Array Operand} {ats : Array TypeId} {vs : List Value} {v : Value} {s' : Rd} (hc : Calls Tryz.prog f vs.toArray w (Rdd w B g v s')) (h : ∀ a' w', Rst w0 B g gp s' L w' → Has a' n l' → wpList Tryz.prog ops Q rest' a' w')
  (ho : o.op = .call { callee := .value (.func f), args := xs, argTypes := ats } := by rfl) (hd : o.dst = some d := by rfl) (hn : Nat.blt d n = true := by rfl) (hg : o.guard = none := by rfl) (hx : evLs l xs.toList = some vs := by rfl)
  (hen : ∀ (args : Array Value) (w : World), (callFunc f args).run Tryz.prog w = .ok (.enter f args) w := by exact fun _ _ => by kernel_rfl) (hr : runM n k rest ((d, v) :: l) = some (rest', l') := by rfl) : wpList Tryz.prog ops Q (o :: rest) a w :=
 H.call (gz hg) ho hd hn hx hen (R := fun u w' => u = v ∧ RdAt w' B g s' ∧ w.grownBy w' (some g)) (hc.mono fun _ _ h => ⟨v, h.1, rfl, h.2⟩) (by rintro _ _ w' ⟨rfl, h1, h2⟩ H'; exact runM_ok k H' hr fun a' H'' => h a' w' (R.call h1 h2) H'')
theorem Has.rs (H : Has a n l) (R : Rst w0 B g gp s L w) (k : Nat) {T j : Nat} {x y : Operand} {v : Value} (hst : ∀ u, w.cell? ⟨gp, j, none⟩ = some u → w.frozen? ⟨gp, j, none⟩ = false → (Instr.storeAt T (.pointer (some ⟨gp, j, none⟩)) v).run Tryz.prog w = .ok () (w.setCell ⟨gp, j, none⟩ v))
  (h : ∀ a' w', Rst w0 B g gp s (L.set j v) w' → Has a' n l' → wpList Tryz.prog ops Q rest' a' w')
  (ho : o.op = .store T x y := by rfl) (hd : o.dst = none := by rfl) (hg : o.guard = none := by rfl) (hx : evL l x = some (.pointer (some ⟨gp, j, none⟩)) := by rfl) (hy : evL l y = some v := by rfl) (hj : Nat.blt j L.length = true := by rfl) (hr : runM n k rest l = some (rest', l') := by rfl) : wpList Tryz.prog ops Q (o :: rest) a w := by
 have hj' : j < L.length := by simpa [Nat.blt_eq] using hj
 obtain ⟨c1, c2⟩ := R.ce j _ (List.getElem?_eq_getElem hj')
 exact H.store (gz hg) ho hd hx hy (hst _ c1 c2) fun a' H' => runM_ok k H' hr fun a' H'' => h a' _ (R.set j v hj') H''
theorem Has.si (H : Has a n l) (R : Rst w0 B g gp s L w) (k : Nat) {j : Nat} {x y : Operand} {v : Int} (h : ∀ a' w', Rst w0 B g gp s (L.set j (iz v)) w' → Has a' n l' → wpList Tryz.prog ops Q rest' a' w')
  (ho : o.op = .store 3 x y := by rfl) (hd : o.dst = none := by rfl) (hg : o.guard = none := by rfl) (hx : evL l x = some (.pointer (some ⟨gp, j, none⟩)) := by rfl) (hy : evL l y = some (iz v) := by rfl) (hj : Nat.blt j L.length = true := by rfl) (hr : runM n k rest l = some (rest', l') := by rfl) : wpList Tryz.prog ops Q (o :: rest) a w :=
 H.rs R k (fun u h f => store1_i _ _ _ u _ h f) h ho hd hg hx hy hj hr
theorem Has.sb (H : Has a n l) (R : Rst w0 B g gp s L w) (k : Nat) {j : Nat} {x y : Operand} {v : Bool} (h : ∀ a' w', Rst w0 B g gp s (L.set j (.bool v)) w' → Has a' n l' → wpList Tryz.prog ops Q rest' a' w')
  (ho : o.op = .store 4 x y := by rfl) (hd : o.dst = none := by rfl) (hg : o.guard = none := by rfl) (hx : evL l x = some (.pointer (some ⟨gp, j, none⟩)) := by rfl) (hy : evL l y = some (.bool v) := by rfl) (hj : Nat.blt j L.length = true := by rfl) (hr : runM n k rest l = some (rest', l') := by rfl) : wpList Tryz.prog ops Q (o :: rest) a w :=
 H.rs R k (fun u h f => store1_b _ _ _ u _ h f) h ho hd hg hx hy hj hr
theorem Has.ss (H : Has a n l) (R : Rst w0 B g gp s L w) (k : Nat) {j : Nat} {x y : Operand} {v : ByteArray} (h : ∀ a' w', Rst w0 B g gp s (L.set j (.string v)) w' → Has a' n l' → wpList Tryz.prog ops Q rest' a' w')
  (ho : o.op = .store 9 x y := by rfl) (hd : o.dst = none := by rfl) (hg : o.guard = none := by rfl) (hx : evL l x = some (.pointer (some ⟨gp, j, none⟩)) := by rfl) (hy : evL l y = some (.string v) := by rfl) (hj : Nat.blt j L.length = true := by rfl) (hr : runM n k rest l = some (rest', l') := by rfl) : wpList Tryz.prog ops Q (o :: rest) a w :=
 H.rs R k (fun u h f => store1_s _ _ _ u _ h f) h ho hd hg hx hy hj hr
theorem Has.sw (H : Has a n l) (R : Rst w0 B g gp s L w) (k : Nat) {x y : Operand} {b c : Bool} {t u : ByteArray} {q : Int} (h : ∀ a' w', Rst w0 B g gp s (((((L.set 4 (.bool b)).set 5 (.string t)).set 6 (.string u)).set 7 (iz q)).set 8 (.bool c)) w' → Has a' n l' → wpList Tryz.prog ops Q rest' a' w')
  (ho : o.op = .store 44 x y := by rfl) (hd : o.dst = none := by rfl) (hg : o.guard = none := by rfl) (hx : evL l x = some (.pointer (some ⟨gp, 4, none⟩)) := by rfl) (hy : evL l y = some (.agg #[.bool b, .string t, .string u, iz q, .bool c]) := by rfl) (hj : Nat.blt 8 L.length = true := by rfl) (hr : runM n k rest l = some (rest', l') := by rfl) : wpList Tryz.prog ops Q (o :: rest) a w := by
 have hj' : 8 < L.length := by simpa [Nat.blt_eq] using hj
 refine H.store (gz hg) ho hd hx hy (store_will gp L b t u q c w R.ce hj') fun a' H' => runM_ok k H' hr fun a' H'' => h a' _ ?_ H''
 exact ((((R.set 4 _ (by omega)).set 5 _ (by simp only [List.length_set]; omega)).set 6 _ (by simp only [List.length_set]; omega)).set 7 _ (by simp only [List.length_set]; omega)).set 8 _ (by simp only [List.length_set]; omega)
theorem Rst.lb (R : Rst w0 B g gp s L w) (j : Nat) {v : Bool} (h : L[j]? = some (.bool v) := by rfl) : (Instr.loadAt 4 (.pointer (some ⟨gp, j, none⟩))).run Tryz.prog w = .ok (.bool v) w := load1_b _ _ _ _ (R.ce.get j _ h)
theorem Rst.li (R : Rst w0 B g gp s L w) (j : Nat) {v : Int} (h : L[j]? = some (iz v) := by rfl) : (Instr.loadAt 3 (.pointer (some ⟨gp, j, none⟩))).run Tryz.prog w = .ok (iz v) w := load1_i _ _ _ _ (R.ce.get j _ h)
end
theorem and_i (u v : Int) (x y : Operand) (w : World) : (do eqGuard .and 3 x y (iz u) (iz v); binOp .and 3 (iz u) (iz v) : Sem Value).run Tryz.prog w = .ok (iz (bits .and .i64 u v)) w := by kernel_rfl
theorem neq_iB (u v : Int) (b : Bool) (h : (u != v) = b) (x y : Operand) (w : World) : (do eqGuard .neq 3 x y (iz u) (iz v); binOp .neq 3 (iz u) (iz v) : Sem Value).run Tryz.prog w = .ok (.bool b) w := by
 rw [← h]
 kernel_rfl
end
section
open Go.RowKit
theorem packOneQ (B g : Nat) (s : Rd) {x : UInt8} {s' : Rd} (e : oneP s = (x, s')) (w : World) (h : RdAt w B g s) :
  Calls Tryz.prog 140 #[pz g] w (Rdd w B g (iz x.toNat) s') := by
 have := packOne B g s w h
 rw [e] at this
 exact this
theorem packTextQ (B g : Nat) (s : Rd) {t : ByteArray} {s' : Rd} (e : textP s = (t, s')) (w : World) (h : RdAt w B g s) :
  Calls Tryz.prog 141 #[pz g] w (Rdd w B g (.string t) s') := by
 have := packTextR B g s w h
 rw [e] at this
 exact this
def Conned (w0 : World) (B g gp : Nat) (r : Conn) (e : Ending) (w' : World) : Prop :=
 e = .returned (.tuple #[]) ∧ RdAt w' B g r.s ∧ Cells w' gp (mqCells r.mq nilV nilV nilV) ∧ w0.grownBy w' (some g) ∧ gp < w'.heap.size
theorem lt_set {w : World} {g : Nat} (h : g < w.heap.size) (a : Addr) (v : Value) : g < (w.setCell a v).heap.size := by rw [size_setCell']; exact h
theorem shr3 (f : UInt8) : bits BinOp.and IntKind.i64 ((f.toNat : Int) / 8) 3 = ((f >>> 3 &&& 3).toNat : Int) := by
 have h := f.toNat_lt
 have e : (f.toNat : Int) / 8 = ((f.toNat / 8 : Nat) : Int) := by omega
 rw [e]
 have := i64_and_nat (f.toNat / 8) 3 (by omega) (by omega)
 rw [show ((3 : Nat) : Int) = 3 from rfl] at this
 rw [this]
 congr 1
 rw [UInt8.toNat_and, UInt8.toNat_shiftRight]
 rw [Nat.shiftRight_eq_div_pow]
 rfl
theorem shr_3 (u : Int) (x y : Operand) (w : World) : (do eqGuard .shr 3 x y (iz u) (.int .u64 3); binOp .shr 3 (iz u) (.int .u64 3) : Sem Value).run Tryz.prog w = .ok (iz (u / 8)) w := by
 simp [go_sem]
theorem bit_i (f : UInt8) (n : Nat) (hn : n < 256) (x y : Operand) (w : World) : (do eqGuard .neq 3 x y (iz (bits .and .i64 (f.toNat : Int) (n : Int))) (iz 0); binOp .neq 3 (iz (bits .and .i64 (f.toNat : Int) (n : Int))) (iz 0) : Sem Value).run Tryz.prog w = .ok (.bool (bitB f (UInt8.ofNat n))) w :=
 neq_iB _ _ _ (bitB_iff f n hn).symm _ _ _
theorem packConn (B g gp : Nat) (s : Rd) (w0 w : World) (hR : RdAt w B g s) (hC : Cells w gp (mqCells (mq0 1) nilV nilV nilV)) (hG : w0.grownBy w (some g)) (hp : w0.heap.size ≤ gp) (hB : B ≤ gp) (hne : gp ≠ g) (hlt : gp < w.heap.size) :
  Calls Tryz.prog 139 #[pz g, pz gp] w (Conned w0 B g gp (connP s)) := by
 obtain ⟨r, hr⟩ : ∃ r, connP s = r := ⟨_, rfl⟩
 obtain ⟨s1, e1⟩ : ∃ x, (takeP s 7).2 = x := ⟨_, rfl⟩
 obtain ⟨f, hf⟩ : ∃ f, (oneP s1).1 = f := ⟨_, rfl⟩
 obtain ⟨s2, e2⟩ : ∃ x, (oneP s1).2 = x := ⟨_, rfl⟩
 obtain ⟨k, hk⟩ : ∃ x, twoP s2 = x := ⟨_, rfl⟩
 obtain ⟨c, hc⟩ : ∃ x, textP k.2 = x := ⟨_, rfl⟩
 obtain ⟨t, ht⟩ : ∃ x, textP c.2 = x := ⟨_, rfl⟩
 obtain ⟨y, hy⟩ : ∃ x, textP t.2 = x := ⟨_, rfl⟩
 obtain ⟨s5, e5⟩ : ∃ x, (if bitB f 4 then y.2 else c.2) = x := ⟨_, rfl⟩
 obtain ⟨u, hu⟩ : ∃ x, textP s5 = x := ⟨_, rfl⟩
 obtain ⟨s6, e6⟩ : ∃ x, (if bitB f 128 then u.2 else s5) = x := ⟨_, rfl⟩
 obtain ⟨q, hq⟩ : ∃ x, textP s6 = x := ⟨_, rfl⟩
 obtain ⟨s7, e7⟩ : ∃ x, (if bitB f 64 then q.2 else s6) = x := ⟨_, rfl⟩
 have hr' : r = ⟨f, k, c, t, y, u, q, s7⟩ := by
  subst hr e1 hf e2 hk hc ht hy e5 hu e6 hq e7
  rfl
 rw [hr]
 clear hr
 go_enter Tryz.func139, Tryz.ntmps139
 refine Has.start 72 [(0, pz g), (1, pz gp)] rfl rfl ⟨rfl, rfl, trivial⟩ ?_
 intro a0 H0
 have R0 : Rst w0 B g gp s (mqCells (mq0 1) nilV nilV nilV) w := ⟨hR, hC, hG, hp, hB, hne, hlt⟩
 refine H0.rg 1 fun a1 H1 => ?_
 refine H1.cl (R := fun _ w' => RdAt w' B g s1 ∧ w.grownBy w' (some g)) ((packTake B g s 7 7 rfl (by omega) w R0.rd).mono ?_) ?_
 ·rintro _ _ ⟨_, _, rfl, _, _, _, h1, h2⟩
  exact ⟨_, rfl, e1 ▸ h1, h2⟩
 rintro a2 v2 w2 ⟨h1, h2⟩ H2
 have R2 := R0.call h1 h2
 refine nt ?_
 refine H2.rg 1 fun a3 H3 => ?_
 refine H3.rc R2 1 (packOne B g _ _ R2.rd) fun a4 w4 R4 H4 => nt ?_
 rw [e2] at R4
 rw [hf] at H4
 refine H4.rg 2 fun a5 H5 => ?_
 refine H5.rc R4 2 (packTwoR B g _ _ R4.rd) fun a6 w6 R6 H6 => ?_
 refine H6.si R6 0 fun a7 w7 R7 H7 => nt ?_
 rw [hk] at R7
 refine H7.rg 2 fun a8 H8 => ?_
 refine H8.rc R7 2 (packTextR B g _ _ R7.rd) fun a9 w9 R9 H9 => ?_
 refine H9.ss R9 0 fun b1 x1 R10 H10 => nt ?_
 rw [hc] at R10
 refine H10.rg 4 fun b2 H11 => ?_
 refine H11.bn 0 (and_i _ _ _ _ _) fun b3 H12 => ?_
 refine H12.bn 1 (bit_i f 2 (by omega) _ _ _) fun b4 H13 => ?_
 refine H13.bn 0 (and_i _ _ _ _ _) fun b5 H14 => ?_
 refine H14.bn 1 (bit_i f 64 (by omega) _ _ _) fun b6 H15 => ?_
 refine H15.bn 0 (and_i _ _ _ _ _) fun b7 H16 => ?_
 refine H16.bn 2 (bit_i f 128 (by omega) _ _ _) fun b8 H17 => ?_
 refine H17.sb R10 2 fun b9 x9 R11 H18 => ?_
 refine H18.sb R11 2 fun c1 y1 R12 H19 => ?_
 refine H19.sb R12 0 fun c2 y2 R13 H20 => nt ?_
 have R14 := R13.is (L' := mqCells { mq0 1 with keep := k.1, client := c.1, clean := bitB f 2, hp := bitB f 64, hu := bitB f 128 } nilV nilV nilV) rfl rfl
 clear R0 R2 R4 R6 R7 R9 R10 R11 R12 R13
 refine wp_seq_join (fun a w' => Has a 72 [(0, pz g), (1, pz gp)] ∧ Rst w0 B g gp s5 (mqCells { mq0 1 with keep := k.1, client := c.1, clean := bitB f 2, hp := bitB f 64, hu := bitB f 128, won := bitB f 4, wt := (if bitB f 4 then t.1 else nos), wp := (if bitB f 4 then y.1 else nos), wq := (if bitB f 4 then ((f >>> 3 &&& 3).toNat : Int) else 0), wr := (bitB f 4 && bitB f 32) } nilV nilV nilV) w') ?_ ?_
 ·refine H20.rg 1 fun c3 H21 => ?_
  refine H21.bn 0 (and_i _ _ _ _ _) fun c4 H22 => ?_
  refine H22.bn 0 (bit_i f 4 (by omega) _ _ _) fun c5 H23 => nt ?_
  refine H23.cond (t := bitB f 4) rfl ?_
  cases b4 : bitB f 4 with
  | true =>
   rw [b4, if_pos rfl] at e5
   refine (H23.kp [0, 1, 4]).rg 2 fun c6 H24 => ?_
   refine H24.rc R14 1 (packTextR B g _ _ R14.rd) fun c7 y7 R15 H25 => ?_
   rw [ht] at R15 H25
   refine H25.rc R15 1 (packTextR B g _ _ R15.rd) fun c8 y8 R16 H26 => ?_
   rw [hy, e5] at R16
   rw [hy] at H26
   refine H26.bn 0 (shr_3 _ _ _ _) fun c9 H27 => ?_
   refine H27.bn 1 (and_i _ _ _ _ _) fun d1 H28 => ?_
   refine H28.bn 0 (and_i _ _ _ _ _) fun d2 H29 => ?_
   refine H29.bn 0 (bit_i f 32 (by omega) _ _ _) fun d3 H30 => ?_
   refine H30.any (w' := y8) gz rfl rfl (.agg #[.bool true, .string t.1, .string y.1, iz (bits .and .i64 ((f.toNat : Int) / 8) 3), .bool (bitB f 32)]) (by intro cs b h; cases h) (by kernel_rfl) (by kernel_rfl) fun d4 H31 => ?_
   refine H31.ms 2 fun d5 H32 => ?_
   refine H32.sw R16 0 fun d6 z6 R17 H33 => nt ?_
   exact ⟨H33.keep ⟨rfl, rfl, trivial⟩, R17.is (by rw [shr3]; rfl) rfl⟩
  | false =>
   rw [b4, if_neg (by decide)] at e5
   refine skip_wp (then_normal ⟨H23.keep ⟨rfl, rfl, trivial⟩, ?_⟩)
   rw [← e5]
   exact R14
 rintro a0 w1 ⟨H0, R0⟩
 refine wp_seq_join (fun a w' => Has a 72 [(0, pz g), (1, pz gp)] ∧ Rst w0 B g gp s6 (mqCells { mq0 1 with keep := k.1, client := c.1, clean := bitB f 2, hp := bitB f 64, hu := bitB f 128, won := bitB f 4, wt := (if bitB f 4 then t.1 else nos), wp := (if bitB f 4 then y.1 else nos), wq := (if bitB f 4 then ((f >>> 3 &&& 3).toNat : Int) else 0), wr := (bitB f 4 && bitB f 32), user := (if bitB f 128 then u.1 else nos) } nilV nilV nilV) w') ?_ ?_
 ·refine H0.rg 3 fun a1 H1 => ?_
  refine H1.ld 0 (R0.lb 10) fun a2 H2 => nt ?_
  refine H2.cond (t := bitB f 128) rfl ?_
  cases b4 : bitB f 128 with
  | true =>
   rw [b4, if_pos rfl] at e6
   refine H2.rg 2 fun a3 H3 => ?_
   refine H3.rc R0 2 (packTextR B g _ _ R0.rd) fun a4 w4 R4 H4 => ?_
   refine H4.ss R4 0 fun a5 w5 R5 H5 => nt ?_
   rw [hu, e6] at R5
   exact ⟨H5.keep ⟨rfl, rfl, trivial⟩, R5.is (by rw [b4]; rfl) rfl⟩
  | false =>
   rw [b4, if_neg (by decide)] at e6
   refine skip_wp (then_normal ⟨H2.keep ⟨rfl, rfl, trivial⟩, ?_⟩)
   exact R0.is (by rw [b4]; rfl) e6
 clear R0 H0
 rintro a0 w1 ⟨H0, R0⟩
 refine H0.rg 3 fun a1 H1 => ?_
 refine H1.ld 0 (R0.lb 12) fun a2 H2 => nt ?_
 refine H2.cond (t := bitB f 64) rfl ?_
 cases b4 : bitB f 64 with
 | true =>
  rw [b4, if_pos rfl] at e7
  refine H2.rg 2 fun a3 H3 => ?_
  refine H3.rc R0 2 (packTextR B g _ _ R0.rd) fun a4 w4 R4 H4 => ?_
  refine H4.ss R4 0 fun a5 w5 R5 H5 => ?_
  rw [hq, e7] at R5
  refine wpList_nil (bodyPost_end (results_none rfl _ _ _) H5.df ⟨rfl, ?_⟩)
  rw [hr']
  have R6 := R5.is (L' := mqCells (Conn.mk f k c t y u q s7).mq nilV nilV nilV) (by unfold Conn.mq; simp only [b4]; rfl) rfl
  exact ⟨R6.rd, R6.ce, R6.gr, R6.lt⟩
 | false =>
  rw [b4, if_neg (by decide)] at e7
  refine skip_wp (bodyPost_end (results_none rfl _ _ _) H2.df ⟨rfl, ?_⟩)
  rw [hr']
  have R6 := R0.is (L' := mqCells (Conn.mk f k c t y u q s7).mq nilV nilV nilV) (by unfold Conn.mq; simp only [b4]; rfl) e7
  exact ⟨R6.rd, R6.ce, R6.gr, R6.lt⟩
end
section
open Go.RowKit
def Listed (w0 : World) (B g gp base : Nat) (r : Mq × Rd) (e : Ending) (w' : World) : Prop :=
 e = .returned (.tuple #[]) ∧ RdAt w' B g r.2 ∧ w0.grownBy w' (some g) ∧ gp < w'.heap.size ∧
  ∃ vc vw vf, Cells w' gp (mqCells r.1 vc vw vf) ∧ w'.ownsRow base 3 1 vc r.1.codes.length (r.1.codes.map iv) ∧ w'.ownsRow base 161 2 vw r.1.wishes.length (wv r.1.wishes) ∧ w'.ownsRow base 9 1 vf r.1.filters.length (r.1.filters.map sv)
theorem packLists9 (B g gp : Nat) (s : Rd) (hs : s.1.length ≤ 1000000) (w0 w : World) (hR : RdAt w B g s) (hC : Cells w gp (mqCells (mq0 9) nilV nilV nilV)) (hG : w0.grownBy w (some g)) (hp : w0.heap.size ≤ gp) (hB : B ≤ gp) (hne : gp ≠ g) (hlt : gp < w.heap.size) :
  Calls Tryz.prog 144 #[.pointer (some ⟨g, 0, none⟩), .pointer (some ⟨gp, 0, none⟩)] w (Listed w0 B g gp w.heap.size (loopP 9 ((twoP s).2.1.length + 1) { mq0 9 with id := ((twoP s).1 : Int) } (twoP s).2)) := by
 have HP := Lib.hid hp
 have HBp := Lib.hid hB
 have HNe := Lib.hid hne
 have HC0 := Lib.hid hC
 have HG0 := Lib.hid hG
 have HL0 := Lib.hid hlt
 have K1 := Lib.hid (packTwoR B g s w hR)
 have HgW : Hid (g < w.heap.size) := by
  obtain ⟨_, _, _, _, _, _, _, _, _, h⟩ := hR
  exact h
 have HLW : Hid (gp < w.heap.size) := hlt
 clear hp hB hne hC hG hlt hR
 generalize hl : (twoP s).2.1.length + 1 = L
 have hs2 : (twoP s).2.1.length ≤ 1000000 := Nat.le_trans (twoP_le s) hs
 generalize twoP s = t at *
 obtain ⟨i, s1⟩ := t
 dsimp only at *
 generalize hfin : loopP 9 L { mq0 9 with id := (i : Int) } s1 = fin
 have HF := Lib.hid hfin
 have HS2 := Lib.hid hs2
 have HLL := Lib.hid hl
 clear hfin hl hs2 hs
 go_enter Tryz.func144, Tryz.ntmps144
 go_wp2_with fail
 (with_reducible refine K1.out.mono ?_)
 rintro _ w1 ⟨rfl, hR1, hg1⟩
 have HC1 := Lib.hid (HC0.out.kept hg1 HL0.out (by simpa using HNe.out))
 have c1 := HC1.out.get 20 _ rfl
 have f1 := HC1.out.fr 20 rfl
 go_wp2_with fail
 go_loopg [] L (fun gk wx => ∃ (l : List Int) (s' : Rd) (vc : Value), RdAt wx B g s' ∧ w0.grownBy wx (some g) ∧ gp < wx.heap.size ∧ w.heap.size ≤ wx.heap.size ∧ Hid (Cells wx gp (mqCells { mq0 9 with id := (i : Int), codes := l } vc nilV nilV)) ∧
  Hid (wx.ownsRow w.heap.size 3 1 vc l.length (l.map iv)) ∧ Hid (loopP 9 gk { mq0 9 with id := (i : Int), codes := l } s' = fin) ∧ 0 < gk ∧ (s'.2 = false → s'.1.length < gk) ∧ l.length + gk ≤ 1000010)
 case atStart =>
  have hl := HLL.out
  have h2 := HS2.out
  refine ⟨[], s1, nilV, hR1.store (a := ⟨gp, 20, none⟩) HBp.out HNe.out _, grown_store (HG0.out.trans hg1) (a := ⟨gp, 20, none⟩) HP.out _, lt_set (Nat.lt_of_lt_of_le HL0.out hg1.size) _ _, by rw [size_setCell']; exact hg1.size, HC1.out.set 20 _ (by simp), World.ownsRow_nil _ _ _ _, HF.out, by omega, fun _ => by omega, by simp; omega⟩
 case round =>
  obtain ⟨l, s', vc, hR, hG, hL, hW, hC, hO, hk, hgk, hl2, hll⟩ := hrel
  have KM := Lib.hid (packMore B g s' _ hR)
  by_cases hm : s'.2 = false ∧ 0 < s'.1.length
  ·have hMore : (!s'.2 && decide (0 < s'.1.length)) = true := by rw [hm.1, decide_eq_true hm.2]; rfl
   rw [hMore] at KM
   obtain ⟨gk, rfl⟩ : ∃ n, gk = n + 1 := ⟨gk - 1, by omega⟩
   obtain ⟨⟨x, s2⟩, e1⟩ : ∃ r, oneP s' = r := ⟨_, rfl⟩
   have hk2 : loopP 9 gk { mq0 9 with id := (i : Int), codes := l ++ [(x.toNat : Int)] } s2 = fin := by
    have := hk.out
    unfold loopP at this
    rw [if_pos hm, if_neg (by decide), if_pos rfl, e1] at this
    exact this
   have hg2 : s2.2 = false → s2.1.length + 1 = s'.1.length := by
    intro h
    have := oneP_good s' (by rw [e1]; exact h)
    rw [e1] at this
    exact this.2
   have hgk2 : 0 < gk ∧ (s2.2 = false → s2.1.length < gk) := by
    have := hl2 hm.1
    exact ⟨by omega, fun h => by have := hg2 h; omega⟩
   have HK := Lib.hid hk2
   have HGK := Lib.hid hgk2
   obtain ⟨A, c, rfl, _, _⟩ := own_shape hO.out
   have hgW := HgW.out
   have hlm : l.length + 1 ≤ maxLen := by unfold maxLen; omega
   have hlb : (l.length + 1) * 8 ≤ 140737488355328 := by omega
   have c0 := hC.out.get 0 _ rfl
   have c15 := hC.out.get 15 _ rfl
   have f15 := hC.out.fr 15 rfl
   have HR := Lib.hid hR
   have HGr := Lib.hid hG
   clear hMore hk hk2 hg2 hgk2 hgk hl2 hm hR hG
   go_wp2_with (go_at_call 164; (with_reducible refine KM.out.mono ?_); rintro _ w' ⟨rfl, rfl⟩)
   clear KM
   go_region_law
    (first
     | (go_simp; go_at_call 140; (with_reducible refine (packOneQ B g _ e1 _ HR.out.drew).mono ?_); rintro _ w2 ⟨rfl, hR2, hg2⟩; replace hg2 := of_drew_grown hg2; have HC2 := Lib.hid (hC.out.kept hg2 hL (by simpa using HNe.out)); have c15' := HC2.out.get 15 _ rfl; have HO2 := Lib.hid (hO.out.kept hg2 (Or.inr (Ne.symm (own_ne hO.out (Or.inl hgW))))); have hW2 := Nat.le_trans hW hg2.size; have hL2 := Nat.lt_of_lt_of_le hL hg2.size)
     | (refine step_append_row rfl _ _ 45 rfl w.heap.size 3 (.int .i64 0) 1 8 Tryz.underlying45 info_int rfl (by decide) _ _ (l.map iv) (by exact rfl) (HO2.out.alloc _) _ 1 1 [iv (x.toNat : Int)] (by exact rfl) (Reads.lit w2 3 [iv (x.toNat : Int)] (0, 0) 1 1 rfl) (one_iv _) hlm hlb (Nat.le_trans hW2 (balloc _ _).size) ?_; intro A3 c3 w3 hO3 hg3; have HC3 := Lib.hid ((HC2.out.alloc hL2 _).kept hg3 (Nat.lt_trans hL2 (lt_alloc _ _)) (own_ne HO2.out (Or.inl HLW.out))); have c15'' := HC3.out.get 15 _ rfl; have f15'' := HC3.out.fr 15 rfl))
   all_goals
    have hL3 := Nat.lt_of_lt_of_le (Nat.lt_trans hL2 (lt_alloc w2 (.cells #[iv (x.toNat : Int)] 3))) hg3.size
    have hW3 := Nat.le_trans hW2 (Nat.le_trans (Nat.le_of_lt (lt_alloc w2 (.cells #[iv (x.toNat : Int)] 3))) hg3.size)
    have hG3 : w0.grownBy w3 (some g) := grown_row_of (HGr.out.trans hg2) HO2.out (Nat.le_trans HP.out (Nat.le_of_lt HLW.out)) _ hg3
    have hR3 : RdAt w3 B g s2 := hR2.row_of HO2.out HgW.out _ hg3
    have HO3 := Lib.hid hO3
    clear hO3
    go_wp2_with fail
    go_roundg gk
    case measure => omega
    case rel =>
     refine ⟨l ++ [(x.toNat : Int)], s2, .slice A3 (l.length + 1) c3, hR3.store (a := ⟨gp, 15, none⟩) HBp.out HNe.out _, grown_store hG3 (a := ⟨gp, 15, none⟩) HP.out _, lt_set hL3 _ _, by rw [size_setCell']; exact hW3, ?_, ?_, HK.out, HGK.out.1, HGK.out.2, ?_⟩
     ·exact HC3.out.set 15 _ (by simp)
     ·have := ownsRow_setCell_below HO3.out (a := ⟨gp, 15, none⟩) HLW.out (.slice A3 (l.length + 1) c3)
      unfold Hid
      rw [map_iv_snoc, List.length_append]
      exact this
     ·simp; omega
  ·have hMore : (!s'.2 && decide (0 < s'.1.length)) = false := by
    rw [Bool.and_eq_false_iff]
    by_cases h : s'.2 = false
    ·exact Or.inr (decide_eq_false fun h0 => hm ⟨h, h0⟩)
    ·exact Or.inl (by simpa using h)
   rw [hMore] at KM
   obtain ⟨gk, rfl⟩ : ∃ n, gk = n + 1 := ⟨gk - 1, by omega⟩
   have hk2 := hk.out
   unfold loopP at hk2
   rw [if_neg hm] at hk2
   have HK := Lib.hid hk2
   clear hk hk2 hm hMore
   go_wp2_with (go_at_call 164; (with_reducible refine KM.out.mono ?_); rintro _ w' ⟨rfl, rfl⟩)
   refine bodyPost_end (results_none rfl _ _ _) rfl ?_
   rw [← HK.out]
   exact ⟨rfl, hR, hG, hL, vc, nilV, nilV, hC.out, hO.out, World.ownsRow_nil _ _ _ _, World.ownsRow_nil _ _ _ _⟩
theorem packLists10 (B g gp : Nat) (s : Rd) (hs : s.1.length ≤ 1000000) (w0 w : World) (hR : RdAt w B g s) (hC : Cells w gp (mqCells (mq0 10) nilV nilV nilV)) (hG : w0.grownBy w (some g)) (hp : w0.heap.size ≤ gp) (hB : B ≤ gp) (hne : gp ≠ g) (hlt : gp < w.heap.size) :
  Calls Tryz.prog 144 #[.pointer (some ⟨g, 0, none⟩), .pointer (some ⟨gp, 0, none⟩)] w (Listed w0 B g gp w.heap.size (loopP 10 ((twoP s).2.1.length + 1) { mq0 10 with id := ((twoP s).1 : Int) } (twoP s).2)) := by
 have HP := Lib.hid hp
 have HBp := Lib.hid hB
 have HNe := Lib.hid hne
 have HC0 := Lib.hid hC
 have HG0 := Lib.hid hG
 have HL0 := Lib.hid hlt
 have K1 := Lib.hid (packTwoR B g s w hR)
 have HgW : Hid (g < w.heap.size) := by
  obtain ⟨_, _, _, _, _, _, _, _, _, h⟩ := hR
  exact h
 have HLW : Hid (gp < w.heap.size) := hlt
 clear hp hB hne hC hG hlt hR
 generalize hl : (twoP s).2.1.length + 1 = L
 have hs2 : (twoP s).2.1.length ≤ 1000000 := Nat.le_trans (twoP_le s) hs
 generalize twoP s = t at *
 obtain ⟨i, s1⟩ := t
 dsimp only at *
 generalize hfin : loopP 10 L { mq0 10 with id := (i : Int) } s1 = fin
 have HF := Lib.hid hfin
 have HS2 := Lib.hid hs2
 have HLL := Lib.hid hl
 clear hfin hl hs2 hs
 go_enter Tryz.func144, Tryz.ntmps144
 go_wp2_with fail
 (with_reducible refine K1.out.mono ?_)
 rintro _ w1 ⟨rfl, hR1, hg1⟩
 have HC1 := Lib.hid (HC0.out.kept hg1 HL0.out (by simpa using HNe.out))
 have c1 := HC1.out.get 20 _ rfl
 have f1 := HC1.out.fr 20 rfl
 go_wp2_with fail
 go_loopg [] L (fun gk wx => ∃ (l : List ByteArray) (s' : Rd) (vc : Value), RdAt wx B g s' ∧ w0.grownBy wx (some g) ∧ gp < wx.heap.size ∧ w.heap.size ≤ wx.heap.size ∧ Hid (Cells wx gp (mqCells { mq0 10 with id := (i : Int), filters := l } nilV nilV vc)) ∧
  Hid (wx.ownsRow w.heap.size 9 1 vc l.length (l.map sv)) ∧ Hid (loopP 10 gk { mq0 10 with id := (i : Int), filters := l } s' = fin) ∧ 0 < gk ∧ (s'.2 = false → s'.1.length < gk) ∧ l.length + gk ≤ 1000010)
 case atStart =>
  have hl := HLL.out
  have h2 := HS2.out
  refine ⟨[], s1, nilV, hR1.store (a := ⟨gp, 20, none⟩) HBp.out HNe.out _, grown_store (HG0.out.trans hg1) (a := ⟨gp, 20, none⟩) HP.out _, lt_set (Nat.lt_of_lt_of_le HL0.out hg1.size) _ _, by rw [size_setCell']; exact hg1.size, HC1.out.set 20 _ (by simp), World.ownsRow_nil _ _ _ _, HF.out, by omega, fun _ => by omega, by simp; omega⟩
 case round =>
  obtain ⟨l, s', vc, hR, hG, hL, hW, hC, hO, hk, hgk, hl2, hll⟩ := hrel
  have KM := Lib.hid (packMore B g s' _ hR)
  by_cases hm : s'.2 = false ∧ 0 < s'.1.length
  ·have hMore : (!s'.2 && decide (0 < s'.1.length)) = true := by rw [hm.1, decide_eq_true hm.2]; rfl
   rw [hMore] at KM
   obtain ⟨gk, rfl⟩ : ∃ n, gk = n + 1 := ⟨gk - 1, by omega⟩
   obtain ⟨⟨x, s2⟩, e1⟩ : ∃ r, textP s' = r := ⟨_, rfl⟩
   have hk2 : loopP 10 gk { mq0 10 with id := (i : Int), filters := l ++ [x] } s2 = fin := by
    have := hk.out
    unfold loopP at this
    rw [if_pos hm, if_neg (by decide), if_neg (by decide), e1] at this
    exact this
   have hg2 : s2.2 = false → s2.1.length + 2 ≤ s'.1.length := by
    intro h
    have := textP_good s' (by rw [e1]; exact h)
    rw [e1] at this
    exact this.2
   have hgk2 : 0 < gk ∧ (s2.2 = false → s2.1.length < gk) := by
    have := hl2 hm.1
    exact ⟨by omega, fun h => by have := hg2 h; omega⟩
   have HK := Lib.hid hk2
   have HGK := Lib.hid hgk2
   obtain ⟨A, c, rfl, _, _⟩ := own_shape hO.out
   have hgW := HgW.out
   have hlm : l.length + 1 ≤ maxLen := by unfold maxLen; omega
   have hlb : (l.length + 1) * 16 ≤ 140737488355328 := by omega
   have c0 := hC.out.get 0 _ rfl
   have c23 := hC.out.get 23 _ rfl
   have f23 := hC.out.fr 23 rfl
   have HR := Lib.hid hR
   have HGr := Lib.hid hG
   clear hMore hk hk2 hg2 hgk2 hgk hl2 hm hR hG
   go_wp2_with (go_at_call 164; (with_reducible refine KM.out.mono ?_); rintro _ w' ⟨rfl, rfl⟩)
   clear KM
   go_region_law
    (first
     | (go_simp; go_at_call 141; (with_reducible refine (packTextQ B g _ e1 _ HR.out.drew).mono ?_); rintro _ w2 ⟨rfl, hR2, hg2⟩; replace hg2 := of_drew_grown hg2; have HC2 := Lib.hid (hC.out.kept hg2 hL (by simpa using HNe.out)); have c23' := HC2.out.get 23 _ rfl; have HO2 := Lib.hid (hO.out.kept hg2 (Or.inr (Ne.symm (own_ne hO.out (Or.inl hgW))))); have hW2 := Nat.le_trans hW hg2.size; have hL2 := Nat.lt_of_lt_of_le hL hg2.size)
     | (refine step_append_row rfl _ _ 47 rfl w.heap.size 9 (.string ⟨#[]⟩) 1 16 Tryz.underlying47 info_string rfl (by decide) _ _ (l.map sv) (by exact rfl) (HO2.out.alloc _) _ 1 1 [sv x] (by exact rfl) (Reads.lit w2 9 [sv x] (0, 0) 1 1 rfl) (one_sv _) hlm hlb (Nat.le_trans hW2 (balloc _ _).size) ?_; intro A3 c3 w3 hO3 hg3; have HC3 := Lib.hid ((HC2.out.alloc hL2 _).kept hg3 (Nat.lt_trans hL2 (lt_alloc _ _)) (own_ne HO2.out (Or.inl HLW.out))); have c23'' := HC3.out.get 23 _ rfl; have f23'' := HC3.out.fr 23 rfl))
   all_goals
    have hL3 := Nat.lt_of_lt_of_le (Nat.lt_trans hL2 (lt_alloc w2 (.cells #[sv x] 9))) hg3.size
    have hW3 := Nat.le_trans hW2 (Nat.le_trans (Nat.le_of_lt (lt_alloc w2 (.cells #[sv x] 9))) hg3.size)
    have hG3 : w0.grownBy w3 (some g) := grown_row_of (HGr.out.trans hg2) HO2.out (Nat.le_trans HP.out (Nat.le_of_lt HLW.out)) _ hg3
    have hR3 : RdAt w3 B g s2 := hR2.row_of HO2.out HgW.out _ hg3
    have HO3 := Lib.hid hO3
    clear hO3
    go_wp2_with fail
    go_roundg gk
    case measure => omega
    case rel =>
     refine ⟨l ++ [x], s2, .slice A3 (l.length + 1) c3, hR3.store (a := ⟨gp, 23, none⟩) HBp.out HNe.out _, grown_store hG3 (a := ⟨gp, 23, none⟩) HP.out _, lt_set hL3 _ _, by rw [size_setCell']; exact hW3, ?_, ?_, HK.out, HGK.out.1, HGK.out.2, ?_⟩
     ·exact HC3.out.set 23 _ (by simp)
     ·have := ownsRow_setCell_below HO3.out (a := ⟨gp, 23, none⟩) HLW.out (.slice A3 (l.length + 1) c3)
      unfold Hid
      rw [map_sv_snoc, List.length_append]
      exact this
     ·simp; omega
  ·have hMore : (!s'.2 && decide (0 < s'.1.length)) = false := by
    rw [Bool.and_eq_false_iff]
    by_cases h : s'.2 = false
    ·exact Or.inr (decide_eq_false fun h0 => hm ⟨h, h0⟩)
    ·exact Or.inl (by simpa using h)
   rw [hMore] at KM
   obtain ⟨gk, rfl⟩ : ∃ n, gk = n + 1 := ⟨gk - 1, by omega⟩
   have hk2 := hk.out
   unfold loopP at hk2
   rw [if_neg hm] at hk2
   have HK := Lib.hid hk2
   clear hk hk2 hm hMore
   go_wp2_with (go_at_call 164; (with_reducible refine KM.out.mono ?_); rintro _ w' ⟨rfl, rfl⟩)
   refine bodyPost_end (results_none rfl _ _ _) rfl ?_
   rw [← HK.out]
   exact ⟨rfl, hR, hG, hL, nilV, nilV, vc, hC.out, World.ownsRow_nil _ _ _ _, World.ownsRow_nil _ _ _ _, hO.out⟩
theorem packLists8 (B g gp : Nat) (s : Rd) (hs : s.1.length ≤ 1000000) (w0 w : World) (hR : RdAt w B g s) (hC : Cells w gp (mqCells (mq0 8) nilV nilV nilV)) (hG : w0.grownBy w (some g)) (hp : w0.heap.size ≤ gp) (hB : B ≤ gp) (hne : gp ≠ g) (hlt : gp < w.heap.size) :
  Calls Tryz.prog 144 #[.pointer (some ⟨g, 0, none⟩), .pointer (some ⟨gp, 0, none⟩)] w (Listed w0 B g gp w.heap.size (loopP 8 ((twoP s).2.1.length + 1) { mq0 8 with id := ((twoP s).1 : Int) } (twoP s).2)) := by
 have HP := Lib.hid hp
 have HBp := Lib.hid hB
 have HNe := Lib.hid hne
 have HC0 := Lib.hid hC
 have HG0 := Lib.hid hG
 have HL0 := Lib.hid hlt
 have K1 := Lib.hid (packTwoR B g s w hR)
 have HgW : Hid (g < w.heap.size) := by
  obtain ⟨_, _, _, _, _, _, _, _, _, h⟩ := hR
  exact h
 have HLW : Hid (gp < w.heap.size) := hlt
 clear hp hB hne hC hG hlt hR
 generalize hl : (twoP s).2.1.length + 1 = L
 have hs2 : (twoP s).2.1.length ≤ 1000000 := Nat.le_trans (twoP_le s) hs
 generalize twoP s = t at *
 obtain ⟨i, s1⟩ := t
 dsimp only at *
 generalize hfin : loopP 8 L { mq0 8 with id := (i : Int) } s1 = fin
 have HF := Lib.hid hfin
 have HS2 := Lib.hid hs2
 have HLL := Lib.hid hl
 clear hfin hl hs2 hs
 go_enter Tryz.func144, Tryz.ntmps144
 go_wp2_with fail
 (with_reducible refine K1.out.mono ?_)
 rintro _ w1 ⟨rfl, hR1, hg1⟩
 have HC1 := Lib.hid (HC0.out.kept hg1 HL0.out (by simpa using HNe.out))
 have c1 := HC1.out.get 20 _ rfl
 have f1 := HC1.out.fr 20 rfl
 go_wp2_with fail
 go_loopg [] L (fun gk wx => ∃ (l : List (ByteArray × Int)) (s' : Rd) (vc : Value), RdAt wx B g s' ∧ w0.grownBy wx (some g) ∧ gp < wx.heap.size ∧ w.heap.size ≤ wx.heap.size ∧ Hid (Cells wx gp (mqCells { mq0 8 with id := (i : Int), wishes := l } nilV vc nilV)) ∧
  Hid (wx.ownsRow w.heap.size 161 2 vc l.length (wv l)) ∧ Hid (loopP 8 gk { mq0 8 with id := (i : Int), wishes := l } s' = fin) ∧ 0 < gk ∧ (s'.2 = false → s'.1.length < gk) ∧ l.length + gk ≤ 1000010)
 case atStart =>
  have hl := HLL.out
  have h2 := HS2.out
  refine ⟨[], s1, nilV, hR1.store (a := ⟨gp, 20, none⟩) HBp.out HNe.out _, grown_store (HG0.out.trans hg1) (a := ⟨gp, 20, none⟩) HP.out _, lt_set (Nat.lt_of_lt_of_le HL0.out hg1.size) _ _, by rw [size_setCell']; exact hg1.size, HC1.out.set 20 _ (by simp), World.ownsRow_nil _ _ _ _, HF.out, by omega, fun _ => by omega, by simp; omega⟩
 case round =>
  obtain ⟨l, s', vc, hR, hG, hL, hW, hC, hO, hk, hgk, hl2, hll⟩ := hrel
  have KM := Lib.hid (packMore B g s' _ hR)
  by_cases hm : s'.2 = false ∧ 0 < s'.1.length
  ·have hMore : (!s'.2 && decide (0 < s'.1.length)) = true := by rw [hm.1, decide_eq_true hm.2]; rfl
   rw [hMore] at KM
   obtain ⟨gk, rfl⟩ : ∃ n, gk = n + 1 := ⟨gk - 1, by omega⟩
   obtain ⟨⟨y, s3⟩, e1⟩ : ∃ r, textP s' = r := ⟨_, rfl⟩
   obtain ⟨⟨x, s2⟩, e2⟩ : ∃ r, oneP s3 = r := ⟨_, rfl⟩
   have hk2 : loopP 8 gk { mq0 8 with id := (i : Int), wishes := l ++ [(y, (x.toNat : Int))] } s2 = fin := by
    have := hk.out
    unfold loopP at this
    rw [if_pos hm, if_pos rfl, e1] at this
    dsimp only at this
    rw [e2] at this
    exact this
   have hg2 : s2.2 = false → s2.1.length + 3 ≤ s'.1.length := by
    intro h
    have h3 := oneP_good s3 (by rw [e2]; exact h)
    rw [e2] at h3
    have h4 := textP_good s' (by rw [e1]; exact h3.1)
    rw [e1] at h4
    have := h3.2
    have := h4.2
    dsimp only at *
    omega
   have hgk2 : 0 < gk ∧ (s2.2 = false → s2.1.length < gk) := by
    have := hl2 hm.1
    exact ⟨by omega, fun h => by have := hg2 h; omega⟩
   have HK := Lib.hid hk2
   have HGK := Lib.hid hgk2
   obtain ⟨A, c, rfl, _, _⟩ := own_shape hO.out
   have hgW := HgW.out
   have hlm : l.length + 1 ≤ maxLen := by unfold maxLen; omega
   have hlb : (l.length + 1) * 24 ≤ 140737488355328 := by omega
   have c0 := hC.out.get 0 _ rfl
   have HR := Lib.hid hR
   have HGr := Lib.hid hG
   clear hMore hk hk2 hg2 hgk2 hgk hl2 hm hR hG
   go_wp2_with (go_at_call 164; (with_reducible refine KM.out.mono ?_); rintro _ w' ⟨rfl, rfl⟩)
   clear KM
   go_wp2_with (go_at_call 141; (with_reducible refine (packTextQ B g _ e1 _ HR.out).mono ?_); rintro _ w5 ⟨rfl, hR5, hg5⟩)
   have HC5 := Lib.hid (hC.out.kept hg5 hL (by simpa using HNe.out))
   have c22 := HC5.out.get 22 _ rfl
   have HO5 := Lib.hid (hO.out.kept hg5 (Or.inr (Ne.symm (own_ne hO.out (Or.inl hgW)))))
   have hW5 := Nat.le_trans hW hg5.size
   have hL5 := Nat.lt_of_lt_of_le hL hg5.size
   have HR5 := Lib.hid hR5
   have HG5 := Lib.hid (HGr.out.trans hg5)
   clear hR5 hg5 hW hL HR HGr
   go_region_law
    (first
     | (go_simp; go_at_call 140; (with_reducible refine (packOneQ B g _ e2 _ HR5.out.drew).mono ?_); rintro _ w2 ⟨rfl, hR2, hg2⟩; replace hg2 := of_drew_grown hg2; have HC2 := Lib.hid (HC5.out.kept hg2 hL5 (by simpa using HNe.out)); have c22' := HC2.out.get 22 _ rfl; have HO2 := Lib.hid (HO5.out.kept hg2 (Or.inr (Ne.symm (own_ne HO5.out (Or.inl hgW))))); have hW2 := Nat.le_trans hW5 hg2.size; have hL2 := Nat.lt_of_lt_of_le hL5 hg2.size)
     | (refine step_append_row rfl _ _ 46 rfl w.heap.size 161 (.agg #[.string ⟨#[]⟩, .int .i64 0]) 2 24 Tryz.underlying46 info_wish rfl (by decide) _ _ (wv l) (by exact rfl) (HO2.out.alloc _) _ 1 1 (wv [(y, (x.toNat : Int))]) (by exact rfl) (Reads.lit w2 161 (wv [(y, (x.toNat : Int))]) (0, 0) 2 1 rfl) (one_wv _) hlm hlb (Nat.le_trans hW2 (balloc _ _).size) ?_; intro A3 c3 w3 hO3 hg3; have HC3 := Lib.hid ((HC2.out.alloc hL2 _).kept hg3 (Nat.lt_trans hL2 (lt_alloc _ _)) (own_ne HO2.out (Or.inl HLW.out))); have c22'' := HC3.out.get 22 _ rfl; have f22'' := HC3.out.fr 22 rfl))
   all_goals
    have hL3 := Nat.lt_of_lt_of_le (Nat.lt_trans hL2 (lt_alloc w2 (.cells (wv [(y, (x.toNat : Int))]).toArray 161))) hg3.size
    have hW3 := Nat.le_trans hW2 (Nat.le_trans (Nat.le_of_lt (lt_alloc w2 (.cells (wv [(y, (x.toNat : Int))]).toArray 161))) hg3.size)
    have hG3 : w0.grownBy w3 (some g) := grown_row_of (HG5.out.trans hg2) HO2.out (Nat.le_trans HP.out (Nat.le_of_lt HLW.out)) _ hg3
    have hR3 : RdAt w3 B g s2 := hR2.row_of HO2.out HgW.out _ hg3
    have HO3 := Lib.hid hO3
    clear hO3
    go_wp2_with fail
    go_roundg gk
    case measure => omega
    case rel =>
     refine ⟨l ++ [(y, (x.toNat : Int))], s2, .slice A3 (l.length + 1) c3, hR3.store (a := ⟨gp, 22, none⟩) HBp.out HNe.out _, grown_store hG3 (a := ⟨gp, 22, none⟩) HP.out _, lt_set hL3 _ _, by rw [size_setCell']; exact hW3, ?_, ?_, HK.out, HGK.out.1, HGK.out.2, ?_⟩
     ·exact HC3.out.set 22 _ (by simp)
     ·have := ownsRow_setCell_below HO3.out (a := ⟨gp, 22, none⟩) HLW.out (.slice A3 (l.length + 1) c3)
      unfold Hid
      rw [wv_append, List.length_append]
      exact this
     ·simp; omega
  ·have hMore : (!s'.2 && decide (0 < s'.1.length)) = false := by
    rw [Bool.and_eq_false_iff]
    by_cases h : s'.2 = false
    ·exact Or.inr (decide_eq_false fun h0 => hm ⟨h, h0⟩)
    ·exact Or.inl (by simpa using h)
   rw [hMore] at KM
   obtain ⟨gk, rfl⟩ : ∃ n, gk = n + 1 := ⟨gk - 1, by omega⟩
   have hk2 := hk.out
   unfold loopP at hk2
   rw [if_neg hm] at hk2
   have HK := Lib.hid hk2
   clear hk hk2 hm hMore
   go_wp2_with (go_at_call 164; (with_reducible refine KM.out.mono ?_); rintro _ w' ⟨rfl, rfl⟩)
   refine bodyPost_end (results_none rfl _ _ _) rfl ?_
   rw [← HK.out]
   exact ⟨rfl, hR, hG, hL, nilV, vc, nilV, hC.out, World.ownsRow_nil _ _ _ _, hO.out, World.ownsRow_nil _ _ _ _⟩
end
section
open Go.RowKit
def Rows3 (w : World) (base : Nat) (m : Mq) (vc vw vf : Value) : Prop :=
 w.ownsRow base 3 1 vc m.codes.length (m.codes.map iv) ∧ w.ownsRow base 161 2 vw m.wishes.length (wv m.wishes) ∧ w.ownsRow base 9 1 vf m.filters.length (m.filters.map sv)
def PkMid (w wx : World) (B g : Nat) (r : Mq × Rd) : Prop :=
 RdAt wx B g r.2 ∧ w.grownBy wx (some g) ∧ w.heap.size + 1 < wx.heap.size ∧ Cells wx w.heap.size (mqCells (mq0 0) nilV nilV nilV) ∧
  ∃ vc vw vf, Cells wx (w.heap.size + 1) (mqCells r.1 vc vw vf) ∧ Rows3 wx (w.heap.size + 2) r.1 vc vw vf
def Packed (w : World) (B g : Nat) (r : Mq × Rd) (e : Ending) (w' : World) : Prop :=
 ∃ vc vw vf, e = .returned (.agg (mqCells r.1 vc vw vf).toArray) ∧ RdAt w' B g r.2 ∧ w.grownBy w' (some g) ∧ Rows3 w' w.heap.size r.1 vc vw vf
theorem shr1 (f : UInt8) : bits BinOp.and IntKind.i64 ((f.toNat : Int) / 2) 3 = ((f >>> 1 &&& 3).toNat : Int) := by
 have h := f.toNat_lt
 have e : (f.toNat : Int) / 2 = ((f.toNat / 2 : Nat) : Int) := by omega
 rw [e]
 have := i64_and_nat (f.toNat / 2) 3 (by omega) (by omega)
 rw [show ((3 : Nat) : Int) = 3 from rfl] at this
 rw [this]
 congr 1
theorem own_one {w : World} {base : Nat} {e : TypeId} {size n : Nat} {v : Value} {xs : List Value} (h : w.ownsRow base e size v n xs) : v.oneCell' = true := by
 obtain ⟨A, c, rfl, _, _⟩ := own_shape h
 rfl
theorem mq_one (m : Mq) {vc vw vf : Value} (h1 : vc.oneCell' = true) (h2 : vw.oneCell' = true) (h3 : vf.oneCell' = true) : (mqCells m vc vw vf).all (·.oneCell') = true := by
 simp [List.all, h1, h2, h3]
 exact ⟨rfl, rfl, rfl, rfl, rfl, rfl, rfl, rfl, rfl, rfl, rfl, rfl, rfl, rfl, rfl, rfl, rfl, rfl, rfl, rfl, rfl⟩
theorem RdAt.below {w w' : World} {B g : Nat} {s : Rd} (h : RdAt w B g s) (hb : Below w.heap.size w w') : RdAt w' B g s := h.kept (below_grown hb none) (by simp) (by simp)
theorem RdAt.lts {w : World} {B g : Nat} {s : Rd} (h : RdAt w B g s) : B ≤ g ∧ g < w.heap.size := by obtain ⟨_, _, _, _, _, _, _, _, h, h'⟩ := h; exact ⟨h, h'⟩
theorem pk_start {w w1 w2 w3 : World} {B g : Nat} {s : Rd} {l : List Value} (hR : RdAt w B g s) (hb1 : Below w.heap.size w w1) (hs1 : w1.heap.size = w.heap.size + 1) (hb2 : Below (w.heap.size + 1) w1 w2) (hs2 : w2.heap.size = w.heap.size + 1 + 1)
  (hg3 : w2.grownBy w3 (some (w.heap.size + 1))) (hs3 : w3.heap.size = w2.heap.size) (hC3 : Cells w3 (w.heap.size + 1) l) :
  RdAt w3 B g s ∧ w1.grownBy w3 (some g) ∧ w1.heap.size ≤ w.heap.size + 1 ∧ B ≤ w.heap.size + 1 ∧ w.heap.size + 1 ≠ g ∧ w.heap.size + 1 < w3.heap.size ∧ Cells w3 (w.heap.size + 1) l ∧ w3.heap.size = w.heap.size + 2 := by
 have hb2' : Below w1.heap.size w1 w2 := by rw [hs1]; exact hb2
 have hB := hR.lts
 have hR2 := (hR.below hb1).below hb2'
 refine ⟨hR2.kept hg3 (fun k hk => by injection hk with hk; omega) (by intro e; injection e with e; omega), ?_, by omega, by omega, by omega, by omega, hC3, by omega⟩
 exact grown_mix (below_grown hb2' (some g)) hg3 (fun k hk => by injection hk with hk; omega)
theorem pk_mid {w w1 wx : World} {B g : Nat} {r : Mq × Rd} {s' : Rd} {l : List Value} {vc vw vf : Value} (hb1 : Below w.heap.size w w1) (hs1 : w1.heap.size = w.heap.size + 1) (hC1 : Cells w1 w.heap.size (mqCells (mq0 0) nilV nilV nilV)) (hg : g < w.heap.size)
  (hR : RdAt wx B g s') (hC : Cells wx (w.heap.size + 1) l) (hG : w1.grownBy wx (some g)) (hL : w.heap.size + 1 < wx.heap.size) (he : s' = r.2) (hl : l = mqCells r.1 vc vw vf) (hrows : Rows3 wx (w.heap.size + 2) r.1 vc vw vf) : PkMid w wx B g r := by
 subst he hl
 exact ⟨hR, (below_grown hb1 (some g)).trans hG, hL, hC1.kept hG (by omega) (by intro e; injection e with e; omega), vc, vw, vf, hC, hrows⟩
theorem rows_nil (w : World) (base : Nat) {m : Mq} (h1 : m.codes = []) (h2 : m.wishes = []) (h3 : m.filters = []) : Rows3 w base m nilV nilV nilV := by
 unfold Rows3
 rw [h1, h2, h3]
 exact ⟨World.ownsRow_nil _ _ _ _, World.ownsRow_nil _ _ _ _, World.ownsRow_nil _ _ _ _⟩
theorem pk_end {w wx w4 : World} {B g : Nat} {r : Mq × Rd} {vc vw vf : Value} (hR : RdAt wx B g r.2) (hG : w.grownBy wx (some g)) (hg : g ≠ w.heap.size) (hB : B ≤ w.heap.size) (hrows : Rows3 wx (w.heap.size + 2) r.1 vc vw vf)
  (h4 : wx.grownBy w4 (some w.heap.size)) : Packed w B g r (.returned (.agg (mqCells r.1 vc vw vf).toArray)) w4 := by
 obtain ⟨r1, r2, r3⟩ := hrows
 have k : ∀ {e : TypeId} {size n : Nat} {v : Value} {xs : List Value}, wx.ownsRow (w.heap.size + 2) e size v n xs → w4.ownsRow w.heap.size e size v n xs := fun h =>
  own_base (h.kept h4 (Or.inr (Ne.symm (own_ne h (Or.inl (by omega)))))) (by omega)
 exact ⟨vc, vw, vf, rfl, hR.kept h4 (fun k hk => by injection hk with hk; omega) (by intro e; injection e with e; exact hg e), grown_mix hG h4 (fun k hk => by injection hk with hk; omega), k r1, k r2, k r3⟩
theorem u8_is_one (x : UInt8) : ((x.toNat : Int) == 1) = (x == 1) := by
 by_cases h : x = 1
 ·subst h; rfl
 ·have a : (x == 1) = false := by simpa using h
  rw [a, beq_eq_false_iff_ne]
  intro e
  exact h ((byte_eq x 1).1 e)
theorem textP_le (s : Rd) : (textP s).2.1.length ≤ s.1.length := Nat.le_trans (takeP_le (twoP s).2 _) (twoP_le s)
theorem shr_1 (u : Int) (x y : Operand) (w : World) : (do eqGuard .shr 3 x y (iz u) (.int .u64 1); binOp .shr 3 (iz u) (.int .u64 1) : Sem Value).run Tryz.prog w = .ok (iz (u / 2)) w := by
 simp [go_sem]
theorem packLists (k : Int) (hk : listKind k = true) (B g gp : Nat) (s : Rd) (hs : s.1.length ≤ 1000000) (w0 w : World) (hR : RdAt w B g s) (hC : Cells w gp (mqCells (mq0 k) nilV nilV nilV)) (hG : w0.grownBy w (some g)) (hp : w0.heap.size ≤ gp) (hB : B ≤ gp) (hne : gp ≠ g) (hlt : gp < w.heap.size) :
  Calls Tryz.prog 144 #[pz g, pz gp] w (Listed w0 B g gp w.heap.size (loopP k ((twoP s).2.1.length + 1) { mq0 k with id := ((twoP s).1 : Int) } (twoP s).2)) := by
 unfold listKind at hk
 simp only [Bool.or_eq_true, beq_iff_eq] at hk
 rcases hk with rfl | rfl | rfl
 ·exact packLists8 B g gp s hs w0 w hR hC hG hp hB hne hlt
 ·exact packLists9 B g gp s hs w0 w hR hC hG hp hB hne hlt
 ·exact packLists10 B g gp s hs w0 w hR hC hG hp hB hne hlt
theorem packPacket (B g : Nat) (s : Rd) (k : Int) (f : UInt8) (hs : s.1.length ≤ 1000000) (w : World) (hR : RdAt w B g s) :
  Calls Tryz.prog 122 #[pz g, iz k, iz f.toNat] w (Packed w B g (readP k f s)) := by
 have hlts := hR.lts
 go_enter Tryz.func122, Tryz.ntmps122
 refine Has.start 72 [(0, pz g), (1, iz k), (2, iz f.toNat)] rfl rfl ⟨rfl, rfl, rfl, trivial⟩ ?_
 intro a0 H0
 refine rl ?_
 refine H0.alloc rfl rfl rfl rfl _ zero_mq ?_
 intro a1 w1 hb1 hs1 hC1 H1
 refine nt ?_
 refine H1.rg 1 fun a2 H2 => ?_
 refine H2.any (w' := w1) gz rfl rfl (.agg (mqCells (mq0 k) nilV nilV nilV).toArray) (by intro cs b h; cases h) (by kernel_rfl) (by kernel_rfl) fun a3 H3 => ?_
 refine H3.alloc rfl rfl rfl rfl _ zero_mq ?_
 intro a4 w2 hb2 hs2 hC2 H4
 refine H4.storeS rfl rfl rfl rfl rfl hC2 size_mq rfl rfl rfl ?_
 intro a5 w3 H5 hg3 hs3 hC3
 refine nt ?_
 rw [hs1] at hb2 hs2 hg3 hC3 H5
 obtain ⟨p1, p2, p3, p4, p5, p6, p7, p8⟩ := pk_start hR hb1 hs1 hb2 hs2 hg3 hs3 hC3
 have R3 : Rst w1 B g (w.heap.size + 1) s (mqCells (mq0 k) nilV nilV nilV) w3 := ⟨p1, p7, p2, p3, p4, p5, p6⟩
 have hM := fun (r : Mq × Rd) wx (s' : Rd) l vc vw vf => fun (R : Rst w1 B g (w.heap.size + 1) s' l wx) => pk_mid (w := w) (w1 := w1) (wx := wx) (r := r) (vc := vc) (vw := vw) (vf := vf) hb1 hs1 hC1 hlts.2 R.rd R.ce R.gr R.lt
 refine wp_seq_join (fun a w' => Has a 72 [(6, pz w.heap.size), (7, pz (w.heap.size + 1))] ∧ PkMid w w' B g (readP k f s)) ?_ ?_
 ·refine H5.rg 1 fun a6 H6 => nt ?_
  have H7 := H6.kp [0, 2, 6, 7, 10]
  clear hb2 hs2 hg3 hC3 hC2 H6 H5 H4 H3 H2 H1 H0 p1 p2 p3 p4 p5 p6 p7
  refine wp_block ?_
  refine H7.rg 0 fun a1 H1 => ?_
  refine H1.bn 1 (eql_i _ _ _ _ _) fun a2 H2 => nt ?_
  refine H2.cond (t := k == 1) rfl ?_
  cases b1 : (k == 1) with
  | true =>
   have k1 : k = 1 := by simpa using b1
   subst k1
   refine H2.rg 1 fun a3 H3 => ?_
   refine H3.cl (R := fun _ w' => RdAt w' B g (connP s).s ∧ Cells w' (w.heap.size + 1) (mqCells (connP s).mq nilV nilV nilV) ∧ w1.grownBy w' (some g) ∧ w.heap.size + 1 < w'.heap.size) ((packConn B g _ s w1 w3 R3.rd R3.ce R3.gr R3.ge R3.hB R3.ne R3.lt).mono fun _ _ h => ⟨_, h.1, h.2⟩) ?_
   rintro a4 v4 w4 ⟨h1, h2, h3, h4⟩ H4
   refine wpList_nil (block_normal (then_normal ⟨H4.keep ⟨rfl, rfl, trivial⟩, ?_⟩))
   exact hM _ _ _ _ nilV nilV nilV ⟨h1, h2, h3, R3.ge, R3.hB, R3.ne, h4⟩ rfl rfl (rows_nil _ _ rfl rfl rfl)
  | false =>
  refine H2.rg 0 fun a1 H1 => ?_
  refine H1.bn 1 (eql_i _ _ _ _ _) fun a2 H2 => nt ?_
  refine H2.cond (t := k == 2) rfl ?_
  cases b2 : (k == 2) with
  | true =>
   have k1 : k = 2 := by simpa using b2
   subst k1
   refine H2.rg 1 fun a3 H3 => ?_
   refine H3.rc R3 0 (packOne B g _ _ R3.rd) fun a4 w4 R4 H4 => ?_
   refine H4.bn 1 (eql_i _ _ _ _ _) fun a5 H5 => ?_
   refine H5.sb R4 0 fun a6 w6 R6 H6 => nt ?_
   refine H6.rg 1 fun a7 H7 => ?_
   refine H7.rc R6 1 (packOne B g _ _ R6.rd) fun a8 w8 R8 H8 => ?_
   refine H8.si R8 0 fun a9 w9 R9 H9 => ?_
   refine wpList_nil <| block_normal <| then_normal ⟨H9.keep ⟨rfl, rfl, trivial⟩, ?_⟩
   exact hM _ _ _ _ nilV nilV nilV R9 rfl (by rw [u8_is_one]; rfl) (rows_nil _ _ rfl rfl rfl)
  | false =>
  refine H2.rg 0 fun a1 H1 => ?_
  refine H1.bn 1 (eql_i _ _ _ _ _) fun a2 H2 => nt ?_
  refine H2.cond (t := k == 3) rfl ?_
  cases b3 : (k == 3) with
  | true =>
   have k1 : k = 3 := by simpa using b3
   subst k1
   refine H2.rg 1 fun a3 H3 => ?_
   refine H3.bn 0 (and_i _ _ _ _ _) fun a4 H4 => ?_
   refine H4.bn 1 (bit_i f 8 (by omega) _ _ _) fun a5 H5 => ?_
   refine H5.bn 0 (shr_1 _ _ _ _) fun a6 H6 => ?_
   refine H6.bn 1 (and_i _ _ _ _ _) fun a7 H7 => ?_
   refine H7.bn 0 (and_i _ _ _ _ _) fun a8 H8 => ?_
   refine H8.bn 1 (bit_i f 1 (by omega) _ _ _) fun a9 H9 => ?_
   refine H9.sb R3 1 fun b1 x1 R4 H10 => ?_
   refine H10.si R4 1 fun b2 x2 R5 H11 => ?_
   refine H11.sb R5 0 fun b3 x3 R6 H12 => nt ?_
   refine H12.rg 1 fun b4 H13 => ?_
   refine H13.rc R6 1 (packTextR B g _ _ R6.rd) fun b5 x5 R7 H14 => ?_
   refine H14.ss R7 0 fun b6 x6 R8 H15 => nt ?_
   obtain ⟨q, hq⟩ : ∃ q, (f >>> 1 &&& 3 != 0) = q := ⟨_, rfl⟩
   obtain ⟨s2, e2⟩ : ∃ s2, (if (f >>> 1 &&& 3 != 0) then (twoP (textP s).2).2 else (textP s).2) = s2 := ⟨_, rfl⟩
   have R9 := R8.is (L' := mqCells { mq0 3 with dup := bitB f 8, qos := ((f >>> 1 &&& 3).toNat : Int), retain := bitB f 1, topic := (textP s).1 } nilV nilV nilV) (by rw [shr1]; rfl) rfl
   have hq3 : (decide ((0 : Int) < ((f >>> 1 &&& 3).toNat : Int))) = q := by
    rw [← hq, Bool.eq_iff_iff, decide_eq_true_iff, bne_iff_ne]
    constructor
    ·intro h e; rw [e] at h; exact absurd h (by decide)
    ·intro h
     have : (f >>> 1 &&& 3).toNat ≠ 0 := fun e => h (UInt8.toNat_inj.1 e)
     omega
   refine wp_seq_join (fun a w' => Has a 72 [(0, pz g), (6, pz w.heap.size), (7, pz (w.heap.size + 1))] ∧ Rst w1 B g (w.heap.size + 1) s2 (mqCells { mq0 3 with dup := bitB f 8, qos := ((f >>> 1 &&& 3).toNat : Int), retain := bitB f 1, topic := (textP s).1, id := (if (f >>> 1 &&& 3 != 0) then ((twoP (textP s).2).1 : Int) else 0) } nilV nilV nilV) w') ?_ ?_
   ·refine H15.rg 1 fun c1 H16 => ?_
    refine H16.ld 0 (R9.li 17) fun c2 H17 => ?_
    refine H17.bn 0 (gtr_i _ _ q hq3 _ _ _) fun c3 H18 => nt ?_
    refine H18.cond rfl ?_
    rw [hq] at e2 ⊢
    cases q with
    | true =>
     rw [if_pos rfl] at e2
     refine H18.rg 1 fun c4 H19 => ?_
     refine H19.rc R9 1 (packTwoR B g _ _ R9.rd) fun c5 y5 R10 H20 => ?_
     refine H20.si R10 0 fun c6 y6 R11 H21 => nt ?_
     exact ⟨H21.keep ⟨rfl, rfl, rfl, trivial⟩, R11.is rfl e2⟩
    | false =>
     rw [if_neg (by decide)] at e2
     exact skip_wp (then_normal ⟨H18.keep ⟨rfl, rfl, rfl, trivial⟩, R9.is rfl e2⟩)
   clear R3 R4 R5 R6 R7 R8 R9 H1 H2 H3 H4 H5 H6 H7 H8 H9 H10 H11 H12 H13 H14 H15
   rintro a0 w0 ⟨H0, R0⟩
   obtain ⟨A, c, hcl, c0, c1, _, _, hrb, _, _⟩ := R0.rd
   refine H0.rg 3 fun a1 H1 => ?_
   refine H1.go gz rfl rfl _ (run_field rfl (H1.ev rfl) (off0 := 0) (off := 0) (fun g w => by kernel_rfl)) fun a2 H2 => ?_
   refine H2.ld 0 (load1_31 _ _ _ _ _ _ c0) fun a3 H3 => ?_
   refine H3.len gz rfl rfl rfl rfl Tryz.underlying31 fun a4 H4 => ?_
   have hle : s2.1.length ≤ 1000000 := by
    rw [← e2]
    have h1 := textP_le s
    have h2 := twoP_le (textP s).2
    split <;> omega
   refine H4.cl (R := fun v w' => ∃ A' c', v = .slice A' s2.1.length c' ∧ (takeP s2 s2.1.length).1.length = s2.1.length ∧ RB w' w'.heap.size A' (takeP s2 s2.1.length).1 ∧ RdAt w' B g (takeP s2 s2.1.length).2 ∧ w0.grownBy w' (some g)) ((packTake B g s2 s2.1.length _ rfl hle w0 R0.rd).mono ?_) ?_
   ·rintro _ _ ⟨A', c', rfl, _, h1, h2, h3, h4⟩
    exact ⟨_, rfl, A', c', rfl, h1, h2, h3, h4⟩
   rintro a5 _ w5 ⟨A', c', rfl, h1, h2, h3, h4⟩ H5
   have R5 := R0.call h3 h4
   refine H5.cv 1 (run_string_of Tryz.underlying31 Tryz.underlying5 Tryz.underlying9 h2 h1 c') fun a6 H6 => ?_
   refine H6.ss R5 0 fun a7 w7 R7 H7 => ?_
   refine wpList_nil <| block_normal <| then_normal ⟨H7.keep ⟨rfl, rfl, trivial⟩, ?_⟩
   refine hM _ _ _ _ nilV nilV nilV R7 ?_ ?_ (rows_nil _ _ rfl rfl rfl)
   ·subst e2; rfl
   ·subst e2; rfl
  | false =>
  have n1 := kind_not b1
  have n2 := kind_not b2
  have n3 := kind_not b3
  refine wp_seq_join (fun a w' => Has a 72 [(0, pz g), (6, pz w.heap.size), (7, pz (w.heap.size + 1)), (10, iz k), (56, .bool (listKind k))] ∧ w3 = w') ?_ ?_
  ·refine H2.rg 0 fun a1 H1 => ?_
   refine H1.bn 1 (eql_i _ _ _ _ _) fun a2 H2 => nt ?_
   refine H2.cond (t := k == 8) rfl ?_
   cases c1 : (k == 8) with
   | true => exact skip_wp (then_normal ⟨H2.keep ⟨rfl, rfl, rfl, rfl, congrArg (fun b => some (Value.bool b)) (by unfold listKind; rw [c1]; rfl), trivial⟩, rfl⟩)
   | false =>
   refine H2.rg 0 fun a1 H1 => ?_
   refine H1.bn 1 (eql_i _ _ _ _ _) fun a2 H2 => nt ?_
   refine H2.cond (t := k == 9) rfl ?_
   cases c2 : (k == 9) with
   | true => exact skip_wp (then_normal ⟨H2.keep ⟨rfl, rfl, rfl, rfl, congrArg (fun b => some (Value.bool b)) (by unfold listKind; rw [c1, c2]; rfl), trivial⟩, rfl⟩)
   | false =>
   refine H2.rg 0 fun a1 H1 => ?_
   refine H1.bn 1 (eql_i _ _ _ _ _) fun a2 H2 => nt ?_
   exact ⟨H2.keep ⟨rfl, rfl, rfl, rfl, congrArg (fun b => some (Value.bool b)) (by unfold listKind; rw [c1, c2]; rfl), trivial⟩, rfl⟩
  clear H1 H2
  rintro a0 _ ⟨H0, rfl⟩
  refine H0.cond (t := listKind k) rfl ?_
  cases b4 : listKind k with
  | true =>
   refine H0.rg 1 fun a1 H1 => ?_
   refine H1.cl (R := fun _ w' => Listed w1 B g (w.heap.size + 1) w3.heap.size (loopP k ((twoP s).2.1.length + 1) { mq0 k with id := ((twoP s).1 : Int) } (twoP s).2) (.returned (.tuple #[])) w') ((packLists k b4 B g _ s hs w1 w3 R3.rd R3.ce R3.gr R3.ge R3.hB R3.ne R3.lt).mono fun _ _ h => ⟨_, h.1, rfl, h.2⟩) ?_
   rintro a4 v4 w4 ⟨_, h1, h2, h3, vc, vw, vf, h4, h5⟩ H4
   refine wpList_nil (block_normal (then_normal ⟨H4.keep ⟨rfl, rfl, trivial⟩, ?_⟩))
   rw [p8] at h5
   have hr : readP k f s = loopP k ((twoP s).2.1.length + 1) { mq0 k with id := ((twoP s).1 : Int) } (twoP s).2 := by unfold readP; rw [if_neg n1, if_neg n2, if_neg n3, if_pos b4]
   rw [hr]
   exact hM _ _ _ _ vc vw vf ⟨h1, h4, h2, R3.ge, R3.hB, R3.ne, h3⟩ rfl rfl h5
  | false =>
  refine wp_seq_join (fun a w' => Has a 72 [(0, pz g), (6, pz w.heap.size), (7, pz (w.heap.size + 1)), (62, .bool (idKind k))] ∧ w3 = w') ?_ ?_
  ·refine H0.rg 0 fun a1 H1 => ?_
   refine H1.bn 1 (eql_i _ _ _ _ _) fun a2 H2 => nt ?_
   refine H2.cond (t := k == 4) rfl ?_
   cases c1 : (k == 4) with
   | true => exact skip_wp (then_normal ⟨H2.keep ⟨rfl, rfl, rfl, congrArg (fun b => some (Value.bool b)) (by unfold idKind; rw [c1]; rfl), trivial⟩, rfl⟩)
   | false =>
   refine H2.rg 0 fun a1 H1 => ?_
   refine H1.bn 1 (eql_i _ _ _ _ _) fun a2 H2 => nt ?_
   refine H2.cond (t := k == 5) rfl ?_
   cases c2 : (k == 5) with
   | true => exact skip_wp (then_normal ⟨H2.keep ⟨rfl, rfl, rfl, congrArg (fun b => some (Value.bool b)) (by unfold idKind; rw [c1, c2]; rfl), trivial⟩, rfl⟩)
   | false =>
   refine H2.rg 0 fun a1 H1 => ?_
   refine H1.bn 1 (eql_i _ _ _ _ _) fun a2 H2 => nt ?_
   refine H2.cond (t := k == 6) rfl ?_
   cases c3 : (k == 6) with
   | true => exact skip_wp (then_normal ⟨H2.keep ⟨rfl, rfl, rfl, congrArg (fun b => some (Value.bool b)) (by unfold idKind; rw [c1, c2, c3]; rfl), trivial⟩, rfl⟩)
   | false =>
   refine H2.rg 0 fun a1 H1 => ?_
   refine H1.bn 1 (eql_i _ _ _ _ _) fun a2 H2 => nt ?_
   refine H2.cond (t := k == 7) rfl ?_
   cases c4 : (k == 7) with
   | true => exact skip_wp (then_normal ⟨H2.keep ⟨rfl, rfl, rfl, congrArg (fun b => some (Value.bool b)) (by unfold idKind; rw [c1, c2, c3, c4]; rfl), trivial⟩, rfl⟩)
   | false =>
   refine H2.rg 0 fun a1 H1 => ?_
   refine H1.bn 1 (eql_i _ _ _ _ _) fun a2 H2 => nt ?_
   exact ⟨H2.keep ⟨rfl, rfl, rfl, congrArg (fun b => some (Value.bool b)) (by unfold idKind; rw [c1, c2, c3, c4]; rfl), trivial⟩, rfl⟩
  clear H0
  rintro a0 _ ⟨H0, rfl⟩
  refine H0.cond (t := idKind k) rfl ?_
  have hr : readP k f s = if idKind k then ({ mq0 k with id := ((twoP s).1 : Int) }, (twoP s).2) else (mq0 k, s) := by unfold readP; rw [if_neg n1, if_neg n2, if_neg n3, if_neg (by rw [b4]; decide)]
  rw [hr]
  cases b5 : idKind k with
  | true =>
   refine H0.rg 1 fun a1 H1 => ?_
   refine H1.rc R3 1 (packTwoR B g _ _ R3.rd) fun a2 w4 R4 H2 => ?_
   refine H2.si R4 0 fun a3 w5 R5 H3 => ?_
   refine wpList_nil (block_normal (then_normal ⟨H3.keep ⟨rfl, rfl, trivial⟩, ?_⟩))
   exact hM _ _ _ _ nilV nilV nilV R5 rfl rfl (rows_nil _ _ rfl rfl rfl)
  | false =>
   refine skip_wp (block_normal (then_normal ⟨H0.keep ⟨rfl, rfl, trivial⟩, ?_⟩))
   exact hM _ _ _ _ nilV nilV nilV R3 rfl rfl (rows_nil _ _ rfl rfl rfl)
 clear hM R3 H5
 rintro a0 w4 ⟨H0, hR4, hG, hL, hC0, vc, vw, vf, hC, hrows⟩
 refine H0.rg 0 fun a1 H1 => ?_
 refine H1.loadS rfl rfl rfl rfl rfl hC Tryz.underlying49 rfl size_mq rfl fun a2 H2 => ?_
 refine H2.storeS rfl rfl rfl rfl rfl hC0 size_mq rfl rfl (mq_one _ (own_one hrows.1) (own_one hrows.2.1) (own_one hrows.2.2)) fun a3 w5 H3 hg5 hs5 hC5 => ?_
 refine nt (wp_ret (bodyPost_ret (results_cells rfl _ _ (H3.at_ 6 _ rfl) hC5 Tryz.underlying49 rfl 24 size_mq rfl) H3.df ?_))
 exact pk_end hR4 hG (by omega) (by omega) hrows hg5
end
section
open Go.RowKit
section
variable {P : Program} {o : Oper} {a : Act} {w : World}
end
theorem neq_35 (u v : Int) (b : Bool) (h : (u != v) = b) (x y : Operand) (w : World) : (do eqGuard .neq 27 x y (iz u) (iz v); binOp .neq 27 (iz u) (iz v) : Sem Value).run Tryz.prog w = .ok (.bool b) w := by
 rw [← h]
 simp [go_sem]
theorem bytesEq (xs ys : List UInt8) (u v : Value) (w : World) (hu : BytesAre xs u w) (hv : BytesAre ys v w) :
  Calls Tryz.prog 123 #[u, v] w fun e w' => e = .returned (.bool (decide (xs = ys))) ∧ w = w' := by
 obtain ⟨A, c, rfl, hx⟩ := hu
 obtain ⟨B, d, rfl, hy⟩ := hv
 go_enter Tryz.func123, Tryz.ntmps123
 refine Has.start 10 [(0, .slice A xs.length c), (1, .slice B ys.length d)] rfl rfl ⟨rfl, rfl, trivial⟩ ?_
 intro a0 H0
 refine H0.rg 1 fun a1 H1 => nt ?_
 refine H1.rg 1 fun a2 H2 => ?_
 refine H2.conv gz rfl rfl rfl rfl (run_string_of Tryz.underlying31 Tryz.underlying5 Tryz.underlying9 hx rfl c) ?_
 intro a3 H3
 refine H3.ms 1 fun a4 H4 => ?_
 refine H4.conv gz rfl rfl rfl rfl (run_string_of Tryz.underlying31 Tryz.underlying5 Tryz.underlying9 hy rfl d) ?_
 intro a5 H5
 refine H5.bn 1 (eql_s _ _ _ _ _) fun a7 H7 => nt ?_
 refine wp_ret ?_
 refine bodyPost_ret (results_tmp rfl _ _ _) H7.df ⟨?_, rfl⟩
 have e : ((mkS xs).toList == (mkS ys).toList) = decide (xs = ys) := by
  rw [Lib.toList_data, Lib.toList_data, Bool.eq_iff_iff, beq_iff_eq, decide_eq_true_eq]
 rw [← e]
 exact congrArg Ending.returned (H7.at_ 4 _ rfl)
structure Small (m : Mq) : Prop where
 client : m.client.size ≤ 1000000
 wt : m.wt.size ≤ 1000000
 wp : m.wp.size ≤ 1000000
 user : m.user.size ≤ 1000000
 pass : m.pass.size ≤ 1000000
 topic : m.topic.size ≤ 1000000
 payload : m.payload.size ≤ 1000000
 wishes : ∀ s ∈ m.wishes, s.1.size ≤ 1000000
 filters : ∀ s ∈ m.filters, s.size ≤ 1000000
theorem Small.fit {m : Mq} (h : Small m) : MqFit m :=
 ⟨Nat.le_trans h.client (by decide), Nat.le_trans h.wt (by decide), Nat.le_trans h.wp (by decide), Nat.le_trans h.user (by decide), Nat.le_trans h.pass (by decide), Nat.le_trans h.topic (by decide), Nat.le_trans h.payload (by decide),
  fun s hs => Nat.le_trans (h.wishes s hs) (by decide), fun s hs => Nat.le_trans (h.filters s hs) (by decide)⟩
theorem nosz : nos.size ≤ 1000000 := by decide
theorem small0 (k : Int) : Small (mq0 k) := ⟨nosz, nosz, nosz, nosz, nosz, nosz, nosz, (fun s hs => by cases hs), (fun s hs => by cases hs)⟩
def Shorts (text : Rd → ByteArray × Rd) : Prop := ∀ s, (text s).1.size ≤ 1000000
theorem mkS_size (xs : List UInt8) : (mkS xs).size = xs.length := by simp [ByteArray.size]
theorem takeP_length (s : Rd) (n : Nat) : (takeP s n).1.length = n := by unfold takeP; split <;> simp <;> omega
theorem shortsP : Shorts textP := by
 intro s
 unfold textP
 rw [mkS_size, takeP_length]
 have := twoP_lt s
 omega
theorem small_conn {one : Rd → UInt8 × Rd} {two : Rd → Nat × Rd} {text : Rd → ByteArray × Rd} (h : Shorts text) (s : Rd) : Small (connOf one two text s).mq := by
 unfold connOf
 simp only [Conn.mq]
 refine ⟨h _, ?_, ?_, ?_, ?_, nosz, nosz, (fun s hs => by cases hs), (fun s hs => by cases hs)⟩
 all_goals (simp only []; split <;> first | exact h _ | exact nosz)
theorem small_loopP (k : Int) : ∀ (f : Nat) (m : Mq) (s : Rd), Small m → Small (loopP k f m s).1 := by
 intro f
 induction f with
 | zero => intro m s h; exact h
 | succ f ih =>
  intro m s h
  rw [loopP]
  split
  ·split
   ·refine ih _ _ ⟨h.client, h.wt, h.wp, h.user, h.pass, h.topic, h.payload, fun x hx => ?_, h.filters⟩
    rcases List.mem_append.1 hx with hx | hx
    ·exact h.wishes x hx
    ·simp only [List.mem_singleton] at hx
     subst hx
     exact shortsP _
   ·split
    ·exact ih _ _ ⟨h.client, h.wt, h.wp, h.user, h.pass, h.topic, h.payload, h.wishes, h.filters⟩
    ·refine ih _ _ ⟨h.client, h.wt, h.wp, h.user, h.pass, h.topic, h.payload, h.wishes, fun x hx => ?_⟩
     rcases List.mem_append.1 hx with hx | hx
     ·exact h.filters x hx
     ·simp only [List.mem_singleton] at hx
      subst hx
      exact shortsP _
  ·exact h
theorem takeP_left (s : Rd) (n : Nat) : (takeP s n).2.1.length ≤ s.1.length := by unfold takeP; split <;> simp
theorem small_readP (k : Int) (f : UInt8) (s : Rd) (h : s.1.length ≤ 1000000) : Small (readP k f s).1 := by
 unfold readP
 split
 ·exact small_conn shortsP _
 ·split
  ·exact ⟨nosz, nosz, nosz, nosz, nosz, nosz, nosz, (fun s hs => by cases hs), (fun s hs => by cases hs)⟩
  ·split
   ·refine ⟨nosz, nosz, nosz, nosz, nosz, ?_, ?_, (fun s hs => by cases hs), (fun s hs => by cases hs)⟩
    ·exact shortsP _
    ·simp only [pubP, pubMq]
     rw [mkS_size, takeP_length]
     split
     ·have h1 := takeP_left (oneP (oneP (textP s).2).2).2 0
      have h2 : (twoP (textP s).2).2.1.length ≤ (textP s).2.1.length := twoP_le _
      have h3 := textP_le s
      omega
     ·have h3 := textP_le s
      omega
   ·split
    ·exact small_loopP _ _ _ _ ⟨nosz, nosz, nosz, nosz, nosz, nosz, nosz, (fun s hs => by cases hs), (fun s hs => by cases hs)⟩
    ·split
     ·exact ⟨nosz, nosz, nosz, nosz, nosz, nosz, nosz, (fun s hs => by cases hs), (fun s hs => by cases hs)⟩
     ·exact small0 k
def Lens (m : Mq) (n : Nat) : Prop := m.codes.length ≤ n ∧ m.wishes.length ≤ n ∧ m.filters.length ≤ n
theorem lens_loopP (k : Int) : ∀ (f : Nat) (m : Mq) (s : Rd) (n : Nat), Lens m n → Lens (loopP k f m s).1 (n + f) := by
 intro f
 induction f with
 | zero => intro m s n h; exact h
 | succ f ih =>
  intro m s n h
  rw [loopP]
  have up : ∀ m', Lens m' (n + 1) → ∀ s, Lens (loopP k f m' s).1 (n + (f + 1)) := fun m' h' s => by
   have := ih m' s (n + 1) h'
   rwa [show n + 1 + f = n + (f + 1) by omega] at this
  obtain ⟨a, b, c⟩ := h
  split
  ·split
   ·exact up _ ⟨by simp only []; omega, by simp only [List.length_append, List.length_singleton]; omega, by simp only []; omega⟩ _
   ·split
    ·exact up _ ⟨by simp only [List.length_append, List.length_singleton]; omega, by simp only []; omega, by simp only []; omega⟩ _
    ·exact up _ ⟨by simp only []; omega, by simp only []; omega, by simp only [List.length_append, List.length_singleton]; omega⟩ _
  ·exact ⟨Nat.le_trans a (by omega), Nat.le_trans b (by omega), Nat.le_trans c (by omega)⟩
theorem lens_readP (k : Int) (f : UInt8) (s : Rd) (h : s.1.length ≤ 1000000) : Lens (readP k f s).1 1000001 := by
 have z : ∀ m : Mq, m.codes = [] → m.wishes = [] → m.filters = [] → Lens m 1000001 := fun m a b c => ⟨by simp [a], by simp [b], by simp [c]⟩
 unfold readP
 split
 ·exact z _ rfl rfl rfl
 ·split
  ·exact z _ rfl rfl rfl
  ·split
   ·exact z _ rfl rfl rfl
   ·split
    ·have h2 : (twoP s).2.1.length ≤ s.1.length := twoP_le _
     obtain ⟨a, b, c⟩ := lens_loopP k ((twoP s).2.1.length + 1) { mq0 k with id := ((twoP s).1 : Int) } (twoP s).2 0 ⟨Nat.zero_le _, Nat.zero_le _, Nat.zero_le _⟩
     exact ⟨by omega, by omega, by omega⟩
    ·split
     ·exact z _ rfl rfl rfl
     ·exact z _ rfl rfl rfl
theorem MqL.of_rows {w : World} {b : Nat} {m : Mq} {vc vw vf : Value} (h : Rows3 w b m vc vw vf) {n : Nat} (hl : Lens m n) (hn : n ≤ 140737488351232) : MqL w w.heap.size m vc vw vf := by
 obtain ⟨h1, h2, h3⟩ := h
 obtain ⟨l1, l2, l3⟩ := hl
 obtain ⟨A1, c1, rfl, a1, _⟩ := own_shape h1
 obtain ⟨A2, c2, rfl, a2, _⟩ := own_shape h2
 obtain ⟨A3, c3, rfl, a3, _⟩ := own_shape h3
 exact ⟨A1, c1, A2, c2, A3, c3, rfl, rfl, rfl, a1, a2, a3, by omega, by omega, by omega, Reads.of_own h1, Reads.of_own h2, Reads.of_own h3⟩
end
section
open Go.RowKit
def ParseSaid (xs : List UInt8) (w : World) (e : Ending) (w' : World) : Prop :=
 ∃ m n er vc vw vf, Parsed xs m n er ∧ e = .returned (.tuple #[.agg (mqCells m vc vw vf).toArray, .int .i64 ((n : Nat) : Int), .int .i64 er]) ∧ (Rows3 w' w.heap.size m vc vw vf ∧ Lens m 1000001) ∧ Small m ∧ Below w.heap.size w w'
theorem none_rows (w : World) (b : Nat) (k : Int) : Rows3 w b (mq0 k) nilV nilV nilV ∧ Lens (mq0 k) 1000001 := ⟨rows_nil w b rfl rfl rfl, Nat.zero_le _, Nat.zero_le _, Nat.zero_le _⟩
theorem results_m2 {P : Program} {fn : Func} {p q r : Tmp} {T : TypeId} (h : fn.results = #[.cell p T, .tmp q, .tmp r]) (tmps : Array Value) {w : World} {g : Nat} {l : List Value} {d : TypeDesc} {u v : Value} (hp : tmps.getD p undef = .pointer (some ⟨g, 0, none⟩)) (hq : tmps.getD q undef = u) (hr : tmps.getD r undef = v) (hC : Cells w g l)
  (hu : P.underlying T = some d) (hd : d.isRow = true) {n : Nat} (hi : (P.info? T).map (·.size) = some n) (hl : l.length = n) : (results fn tmps).run P w = .ok (.tuple #[.agg l.toArray, u, v]) w := by
 rw [← hl] at hi
 have hp' : tmps[p]?.getD undef = .pointer (some ⟨g, 0, none⟩) := by simpa using hp
 have hq' : tmps[q]?.getD undef = u := by simpa using hq
 have hr' : tmps[r]?.getD undef = v := by simpa using hr
 simp [results, h, hp', hq', hr', asAddr, run_loadVar_mid w g 0 T l d hC.range hu hd hi]
theorem sizeGo_err : ∀ (f i n : Nat) (l : List UInt8) (er : Int), sizeGo f i n l = .error er → er = 7 ∨ er = 1 ∨ er = 2 := by
 intro f
 induction f with
 | zero => intro i n l er h; cases l <;> simp [sizeGo] at h <;> omega
 | succ f ih =>
  intro i n l er h
  cases l with
  | nil => simp [sizeGo] at h; omega
  | cons x r =>
   rw [sizeGo] at h
   split at h
   ·split at h
    ·injection h with h; omega
    ·exact ih _ _ _ _ h
   ·split at h
    ·injection h with h; omega
    ·split at h
     ·injection h with h; omega
     ·split at h
      ·injection h with h; omega
      ·cases h
theorem sizeD_err {xs : List UInt8} {er : Int} (h : sizeD xs = .error er) : (er != 0) = true := by
 have : er = 7 ∨ er = 1 ∨ er = 2 := by
  cases xs with
  | nil => injection h with h; omega
  | cons x r => exact sizeGo_err _ _ _ _ _ h
 rw [bne_iff_ne]
 omega
theorem parsed_err {xs : List UInt8} {er : Int} (h : sizeD xs = .error er) : Parsed xs (mq0 0) 0 er := by
 unfold Parsed
 rw [h]
 exact ⟨rfl, rfl, rfl⟩
theorem sizeC (xs : List UInt8) (A : Option Addr) (c : Nat) (r : Except Int (Nat × Nat)) (h : sizeD xs = r) (w : World) (hr : RB w w.heap.size A xs) (hl : xs.length ≤ 140737488351232) :
  Calls Tryz.prog 121 #[.slice A xs.length c] w fun e w' => e = .returned (sized r) ∧ w = w' := by
 subst h
 exact (packSize xs A c w hr hl).mono fun _ _ h => ⟨h.1, h.2.symm⟩
theorem head_of {xs : List UInt8} {x : UInt8} (h : xs[0]? = some x) : xs.headD 0 = x := by
 cases xs with
 | nil => simp at h
 | cons y r => simpa using h
theorem fieldX87_1 (g : Nat) (w : World) : (Instr.fieldAt 175 (.pointer (some ⟨g, 0, none⟩)) 1).run Tryz.prog w = .ok (.pointer (some ⟨g, 1, none⟩)) w := by kernel_rfl
theorem and15_n (x : Fin 256) : bits .and .u8 (x.val : Int) 15 = ((x.val % 16 : Nat) : Int) := by
 revert x
 decide
theorem loB_nat (x : UInt8) : (loB x).toNat = x.toNat % 16 := by
 unfold loB
 rw [UInt8.toNat_and]
 exact Nat.and_two_pow_sub_one_eq_mod x.toNat 4
theorem and15_u (x : UInt8) (a b : Operand) (w : World) : (do eqGuard .and 5 a b (.int .u8 (x.toNat : Int)) (.int .u8 15); binOp .and 5 (.int .u8 (x.toNat : Int)) (.int .u8 15) : Sem Value).run Tryz.prog w = .ok (.int .u8 ((loB x).toNat : Int)) w := by
 have e := and15_n ⟨x.toNat, x.toNat_lt⟩
 simp only [] at e
 rw [loB_nat, ← e]
 simp [go_sem]
theorem shr4_u (x : UInt8) (a b : Operand) (w : World) : (do eqGuard .shr 5 a b (.int .u8 (x.toNat : Int)) (.int .u64 4); binOp .shr 5 (.int .u8 (x.toNat : Int)) (.int .u64 4) : Sem Value).run Tryz.prog w = .ok (.int .u8 ((x.toNat / 16 : Nat) : Int)) w := by
 have := x.toNat_lt
 simp [go_sem]
structure ParMid (W : World) (g6 : Nat) (s : Rd) (w : World) : Prop where
 bel : Below W.heap.size W w
 rd : RdAt w W.heap.size g6 s
 box : Cells w W.heap.size (mqCells (mq0 0) nilV nilV nilV)
 lt : W.heap.size < w.heap.size
 ne : W.heap.size ≠ g6
theorem ParMid.drew {W w : World} {g6 : Nat} {s : Rd} (h : ParMid W g6 s w) : ParMid W g6 s w.drew :=
 ⟨h.bel.drew, h.rd.below (Below.drew (Below.refl _ _)), h.box.below (Below.drew (Below.refl _ _)) h.lt, h.lt, h.ne⟩
theorem ParMid.call {W w w' : World} {g6 : Nat} {s s' : Rd} (h : ParMid W g6 s w) (hr : RdAt w' W.heap.size g6 s') (hg : w.grownBy w' (some g6)) : ParMid W g6 s' w' :=
 ⟨h.bel.grown hg (Nat.le_of_lt h.lt) (fun k hk => by injection hk with hk; rw [← hk]; exact h.rd.lts.1), hr, h.box.kept hg h.lt (fun e => h.ne (by injection e)), Nat.lt_of_lt_of_le h.lt hg.size, h.ne⟩
structure ParEnd (W : World) (g6 : Nat) (r : Mq × Rd) (vc vw vf : Value) (w : World) : Prop where
 bel : Below W.heap.size W w
 rd : RdAt w W.heap.size g6 r.2
 box : Cells w W.heap.size (mqCells r.1 vc vw vf)
 lt : W.heap.size < w.heap.size
 rows : Rows3 w (W.heap.size + 1) r.1 vc vw vf
theorem ParMid.fin {W w w' : World} {g6 : Nat} {r : Mq × Rd} {vc vw vf : Value} (h : ParMid W g6 r.2 w) (hr : Rows3 w (W.heap.size + 1) r.1 vc vw vf) (hg : w.grownBy w' (some W.heap.size)) (hs : w'.heap.size = w.heap.size) (hC : Cells w' W.heap.size (mqCells r.1 vc vw vf)) : ParEnd W g6 r vc vw vf w' := by
 have k : ∀ {e : TypeId} {size n : Nat} {v : Value} {xs : List Value}, w.ownsRow (W.heap.size + 1) e size v n xs → w'.ownsRow (W.heap.size + 1) e size v n xs := fun h =>
  h.kept hg (Or.inr (Ne.symm (own_ne h (Or.inl (by omega)))))
 exact ⟨h.bel.grown hg (Nat.le_of_lt h.lt) (fun k hk => by injection hk with hk; rw [← hk]; exact Nat.le_refl _), h.rd.kept hg (fun k hk => by injection hk with hk; rw [← hk]; exact Nat.le_refl _) (fun e => h.ne (by injection e with e; exact e.symm)), hC, by rw [hs]; exact h.lt, k hr.1, k hr.2.1, k hr.2.2⟩
structure ParSix (W : World) (g6 : Nat) (r : Mq × Rd) (vc vw vf : Value) (w : World) : Prop where
 bel : Below W.heap.size W w
 bad : w.cell? ⟨g6, 1, none⟩ = some (.bool r.2.2)
 lt6 : g6 < w.heap.size
 box : Cells w W.heap.size (mqCells r.1 vc vw vf)
 lt : W.heap.size < w.heap.size
 rows : Rows3 w (W.heap.size + 1) r.1 vc vw vf
 len : Lens r.1 1000001
theorem ParSix.lists {W w : World} {g6 : Nat} {r : Mq × Rd} {vc vw vf : Value} (h : ParSix W g6 r vc vw vf w) : MqL w w.heap.size r.1 vc vw vf := MqL.of_rows h.rows h.len (by decide)
theorem ParSix.one {W w : World} {g6 : Nat} {r : Mq × Rd} {vc vw vf : Value} (h : ParSix W g6 r vc vw vf w) : (mqCells r.1 vc vw vf).all (·.oneCell') = true := mq_one _ (own_one h.rows.1) (own_one h.rows.2.1) (own_one h.rows.2.2)
theorem ParEnd.six {W w : World} {g6 : Nat} {r : Mq × Rd} {vc vw vf : Value} (h : ParEnd W g6 r vc vw vf w) (hl : Lens r.1 1000001) : ParSix W g6 r vc vw vf w := by
 obtain ⟨_, _, _, _, c1, _, _, _, _, hlt⟩ := h.rd
 exact ⟨h.bel, c1, hlt, h.box, h.lt, h.rows, hl⟩
theorem ParSix.call {W w w' : World} {g6 : Nat} {r : Mq × Rd} {vc vw vf : Value} (h : ParSix W g6 r vc vw vf w) (hb : Below w.heap.size w w') : ParSix W g6 r vc vw vf w' :=
 ⟨h.bel.trans (hb.mono (Nat.le_of_lt h.lt)), (cellB hb h.lt6).trans h.bad, Nat.lt_of_lt_of_le h.lt6 hb.size, h.box.below hb h.lt, Nat.lt_of_lt_of_le h.lt hb.size, ⟨own_below h.rows.1 hb, own_below h.rows.2.1 hb, own_below h.rows.2.2 hb⟩, h.len⟩
theorem ParSix.keep {W w w' : World} {g6 : Nat} {r : Mq × Rd} {vc vw vf : Value} (h : ParSix W g6 r vc vw vf w) (hg : w.grownBy w' (some W.heap.size)) (_hs : w'.heap.size = w.heap.size) : Rows3 w' W.heap.size r.1 vc vw vf ∧ Lens r.1 1000001 := by
 have k : ∀ {e : TypeId} {size n : Nat} {v : Value} {xs : List Value}, w.ownsRow (W.heap.size + 1) e size v n xs → w'.ownsRow (W.heap.size + 1) e size v n xs := fun h =>
  h.kept hg (Or.inr (Ne.symm (own_ne h (Or.inl (by omega)))))
 exact ⟨⟨own_base (k h.rows.1) (Nat.le_succ _), own_base (k h.rows.2.1) (Nat.le_succ _), own_base (k h.rows.2.2) (Nat.le_succ _)⟩, h.len⟩
theorem ParSix.belK {W w w' : World} {g6 : Nat} {r : Mq × Rd} {vc vw vf : Value} (h : ParSix W g6 r vc vw vf w) (hg : w.grownBy w' (some W.heap.size)) (_hs : w'.heap.size = w.heap.size) : Below W.heap.size W w' :=
 h.bel.grown hg (Nat.le_of_lt h.lt) (fun k hk => by injection hk with hk; rw [← hk]; exact Nat.le_refl _)
section
variable {ops : Array Oper} {Q : Exit → Act → World → Prop} {n : Nat} {l fixed : List (Nat × Value)} {F : World → Prop} {es : List EntC} {i s : Nat} {o : Oper}
theorem kC {f : FuncId} {xs : Array Operand} {ats : Array TypeId} {t : EntC} (ho : ops[t.op]? = some o) (hp : o.op = .call { callee := .value (.func f), args := xs, argTypes := ats }) (hd : o.dst = some t.slot) (hg : okG ops (fixed ++ knownE (afts ops t.op) es) o = true)
  (hc : ∀ a w, Has a n (fixed ++ knownE (afts ops t.op) es) → KnownR (afts ops t.op) a w es → F w → ∃ vs : List Value, xs.toList.map a.eval = vs ∧ Calls Tryz.prog f vs.toArray w fun e w' => ∃ v, e = .returned v ∧ (t.e.p v w' ∧ Below w.heap.size w w'))
  (hen : ∀ (args : Array Value) (w : World), (callFunc f args).run Tryz.prog w = .ok (.enter f args) w := by exact fun _ _ => by kernel_rfl) : HeavyE ops Q n fixed F es t := kc hc ho hp hd hg hen
end
theorem mayB_of' {m : Mq} {b : Bool} (h : mayBb m = b) (hb : b = true := by rfl) : mayB m := (mayBb_iff m).1 (h.trans hb)
theorem belowQ {P : Program} {f : FuncId} {args : Array Value} {w : World} {b b' : Bool} (h : Calls P f args w fun e w' => e = .returned (.bool b) ∧ w = w') (hb : b = b') : Calls P f args w fun e w' => ∃ v, e = .returned v ∧ (v = .bool b' ∧ Below w.heap.size w w') :=
 h.mono fun _ _ ⟨h1, h2⟩ => ⟨_, h1, by rw [hb], h2 ▸ Below.refl _ _⟩
theorem packetC (B g : Nat) (s : Rd) (k : Nat) (f : UInt8) (hs : s.1.length ≤ 1000000) (r : Mq × Rd) (hr : readP (k : Int) f s = r) (w : World) (hR : RdAt w B g s) :
  Calls Tryz.prog 122 #[.pointer (some ⟨g, 0, none⟩), .int .i64 (k : Int), .int .i64 (f.toNat : Int)] w fun e w' => ∃ v, e = .returned v ∧ ((∃ vc vw vf, v = .agg (mqCells r.1 vc vw vf).toArray ∧ Rows3 w' w.heap.size r.1 vc vw vf) ∧ RdAt w' B g r.2 ∧ w.grownBy w' (some g)) := by
 subst hr
 refine (packPacket B g s k f hs w hR).mono ?_
 rintro e w' ⟨vc, vw, vf, rfl, h1, h2, h3⟩
 exact ⟨_, rfl, ⟨vc, vw, vf, rfl, h3⟩, h1, h2⟩
theorem Rows3.base {w : World} {b b' : Nat} {m : Mq} {vc vw vf : Value} (h : Rows3 w b m vc vw vf) (hb : b' ≤ b) : Rows3 w b' m vc vw vf := ⟨own_base h.1 hb, own_base h.2.1 hb, own_base h.2.2 hb⟩
theorem parse_err (xs : List UInt8) (A : Option Addr) (c : Nat) (w : World) (hr : RB w w.heap.size A xs) (hl : xs.length ≤ 140737488351232) (er : Int) (hs : sizeD xs = .error er) :
  Calls Tryz.prog 95 #[.slice A xs.length c] w (ParseSaid xs w) := by
 have her : (er != 0) = true := sizeD_err hs
 go_enter Tryz.func95, Tryz.ntmps95
 refine Has.start 56 [(0, .slice A xs.length c)] rfl rfl ⟨rfl, trivial⟩ ?_
 intro a0 H0
 have O0 := Own.start w
 refine rl ?_
 refine H0.al O0 2 zero_mq fun a3 w1 O1 H3 => nt ?_
 refine H3.rg 1 fun a4 H4 => ?_
 refine H4.cq 1 (sizeC xs A c (.error er) hs _ (hr.next O1.bel) hl) fun a6 H6 => ?_
 refine H6.ex (r := .int .i64 0) 0 fun a7 H7 => ?_
 refine H7.ex (r := .int .i64 0) 0 fun a8 H8 => ?_
 refine H8.ex (r := .int .i64 er) 3 fun a12 H12 => nt ?_
 refine H12.rg 1 fun a13 H13 => ?_
 refine H13.bn 0 (neq_35 _ _ true her _ _ _) fun a14 H14 => nt ?_
 refine H14.condT rfl ?_
 refine rl ?_
 refine H14.any (w' := w1) gz rfl rfl (.agg (mqCells (mq0 0) nilV nilV nilV).toArray) (by intro cs b h; cases h) (by kernel_rfl) (by kernel_rfl) ?_
 intro a15 H15
 refine H15.ms 1 fun a16 H16 => ?_
 refine H16.st O1 0 2 (hi := size_mq) fun a19 w2 O2 H19 => nt ?_
 refine wp_ret ?_
 repeat (first | (with_reducible refine block_ret ?_) | (with_reducible refine then_ret ?_))
 refine bodyPost_ret (results_m2 Tryz.results95 _ (H19.at_ 2 _ rfl) (H19.at_ 3 _ rfl) (H19.at_ 4 _ rfl) (O2.get 0 rfl) Tryz.underlying49 rfl size_mq rfl) H19.df ?_
 exact ⟨mq0 0, 0, er, nilV, nilV, nilV, parsed_err hs, rfl, none_rows _ _ 0, small0 0, O2.bel⟩
theorem parse_good (xs : List UInt8) (A : Option Addr) (c : Nat) (hc : xs.length ≤ c) (w : World) (hr : RB w w.heap.size A xs) (hl : xs.length ≤ 140737488351232) (hT : Wd w) (t i : Nat) (hs : sizeD xs = .ok (t, i)) (r : Mq × Rd) (hrd : r = readP (((xs.headD 0).toNat / 16 : Nat) : Int) (loB (xs.headD 0)) ((xs.take t).drop i, false)) :
  Calls Tryz.prog 95 #[.slice A xs.length c] w (ParseSaid xs w) := by
 have hg := sizeD_ge hs
 obtain ⟨gb, go, x, hA, hgb, hx, hcell⟩ := RB.get hr (k := 0) (by omega)
 subst hA
 rw [Nat.add_zero] at hcell
 have hx0 : xs.headD 0 = x := head_of hx
 rw [hx0] at hrd
 have hxb := x.toNat_lt
 have hyl : ((xs.take t).drop i).length = t - i := by simp; omega
 have hys : ((xs.take t).drop i, false).1.length ≤ 1000000 := by show ((xs.take t).drop i).length ≤ _; omega
 have hsm : Small r.1 := by rw [hrd]; exact small_readP _ _ _ hys
 have hln : Lens r.1 1000001 := by rw [hrd]; exact lens_readP _ _ _ hys
 have hP := parsed_readP hs r (by rw [hx0]; exact hrd)
 go_enter Tryz.func95, Tryz.ntmps95
 refine Has.start 56 [(0, .slice (some ⟨gb, go, none⟩) xs.length c)] rfl rfl ⟨rfl, trivial⟩ ?_
 intro a0 H0
 have O0 := Own.start w
 refine rl ?_
 refine H0.al O0 2 zero_mq fun a3 w1 O1 H3 => nt ?_
 refine H3.rg 1 fun a4 H4 => ?_
 refine H4.cq 1 (sizeC xs _ c (.ok (t, i)) hs _ (hr.next O1.bel) hl) fun a6 H6 => ?_
 refine H6.ex (r := .int .i64 (t : Int)) 0 fun a7 H7 => ?_
 refine H7.ex (r := .int .i64 (i : Int)) 0 fun a8 H8 => ?_
 refine H8.ex (r := .int .i64 0) 3 fun a12 H12 => nt ?_
 refine H12.rg 1 fun a13 H13 => ?_
 refine H13.bn 0 (neq_35 _ _ false rfl _ _ _) fun a14 H14 => nt ?_
 refine H14.condF rfl ?_
 refine skip_wp ?_
 refine then_normal ?_
 refine H14.rg 3 fun a17 H17 => ?_
 refine H17.go gz rfl rfl _ (run_slice rfl (H17.ev rfl) (H17.ev rfl) (H17.ev rfl) (slice_lh _ _ _ _ _ hg.2.1 hg.2.2.1 hc _)) ?_
 intro a18 H18
 refine H18.any (w' := w1) gz rfl rfl (.agg ([.slice (if c = i then (some ⟨gb, go, none⟩ : Option Addr) else (some ⟨gb, go, none⟩ : Option Addr).map (·.add i)) (t - i) (c - i), .bool false] : List Value).toArray) (by intro cs b h; cases h) (by kernel_rfl) (by kernel_rfl) ?_
 intro a19 H19
 refine H19.bx O1 1 fun a21 w2 O2 H21 => nt ?_
 obtain ⟨g6, hg6⟩ : ∃ g6, g6 = w1.heap.size := ⟨_, rfl⟩
 have hR : RdAt w2 w.heap.size g6 ((xs.take t).drop i, false) := RdAt.of hyl (by omega) (hg6 ▸ (O2.get 0 rfl).get 0 _ rfl) (hg6 ▸ (O2.get 0 rfl).get 1 _ rfl) (hg6 ▸ (O2.get 0 rfl).fr 0 rfl) (hg6 ▸ (O2.get 0 rfl).fr 1 rfl) ((((hr.below O2.bel).take t).cut (by simp; omega) (by simp; omega))) (hg6 ▸ O2.ge 0 rfl) (hg6 ▸ O2.lt 0 rfl)
 have H22 := H21.kp [0, 2, 3, 6]
 have hM : ParMid w g6 ((xs.take t).drop i, false) w2 := ⟨O2.bel, hR, O2.get 1 rfl, O2.lt 1 rfl, (by rw [hg6]; exact Nat.ne_of_lt (O1.lt 0 rfl))⟩
 rw [← hg6] at H22
 refine H22.sg (ParMid w g6 ((xs.take t).drop i, false)) hM.drew [0, 2, 3, 6] [ec 0 23 (.pointer (some ⟨g6, 0, none⟩)), ec 1 24 (.slice (some ⟨gb, go, none⟩) xs.length c), ec 2 25 (.pointer (some ⟨gb, go, none⟩)), ec 3 26 (.int .u8 (x.toNat : Int)), ec 4 27 (.int .u8 ((x.toNat / 16 : Nat) : Int)), ec 5 28 (.int .i64 ((x.toNat / 16 : Nat) : Int)), ec 6 29 (.slice (some ⟨gb, go, none⟩) xs.length c), ec 7 30 (.pointer (some ⟨gb, go, none⟩)), ec 8 31 (.int .u8 (x.toNat : Int)), ec 9 32 (.int .u8 ((loB x).toNat : Int)), ec 10 33 (.int .i64 ((loB x).toNat : Int))] rfl ?_
 refine St.call 11 ⟨jm, jm, jI rfl rfl rfl rfl rfl rfl fun w => index_0 _ _ _ _ (by omega) w, jl fun _ h => load1_u _ _ _ _ ((cellB h.bel hgb).trans hcell), jb fun _ => shr4_u x _ _ _, jc fun _ => conv_58 _ (by omega) _, jm, jI rfl rfl rfl rfl rfl rfl fun w => index_0 _ _ _ _ (by omega) w, jl fun _ h => load1_u _ _ _ _ ((cellB h.bel hgb).trans hcell), jb fun _ => and15_u x _ _ _, jc fun _ => conv_58 _ (loB x).toNat_lt _, trivial⟩ (fun wy h => packetC w.heap.size g6 _ _ _ hys r hrd.symm wy h.rd) ?_
 rintro wy _ wz h ⟨⟨vc, vw, vf, rfl, hrows⟩, hrd', hgr⟩
 refine nx (fun w' => ParMid w g6 r.2 w' ∧ Rows3 w' (w.heap.size + 1) r.1 vc vw vf) [] [] ⟨h.call hrd' hgr, hrows.base h.lt⟩ ?_
 refine St.sto 12 trivial ?_
 intro a wu H _ h
 obtain ⟨w', hr', hg', hs', hC'⟩ := h.1.box.sto (L := mqCells r.1 vc vw vf) size_mq rfl rfl (mq_one _ (own_one h.2.1) (own_one h.2.2.1) (own_one h.2.2.2))
 refine ⟨w', run_store rfl (H.ev rfl) (H.ev rfl) hr', nx0 (ParSix w g6 r vc vw vf) [] [] ((h.1.fin h.2 hg' hs' hC').six hln) ?_⟩
 refine St.fin trivial ?_
 intro a23 w3 H23 _ hF
 obtain ⟨b1, e1⟩ : ∃ b, r.2.2 = b := ⟨_, rfl⟩
 obtain ⟨b2, e2⟩ : ∃ b, mayBb r.1 = b := ⟨_, rfl⟩
 obtain ⟨b3, e3⟩ : ∃ b, decide (layB r.1 = xs.take t) = b := ⟨_, rfl⟩
 replace H23 := H23.kp [0, 2, 3, 6]
 refine then_normal (H23.dq (ParSix w g6 r vc vw vf) (fun _ _ h hb => h.call hb) hF [0, 2, 3, 6] rfl [ec 0 35 (.pointer (some ⟨g6, 0, none⟩)), ec 1 36 (.pointer (some ⟨g6, 0, none⟩)), ec 2 37 (.pointer (some ⟨g6, 1, none⟩)), ec 3 38 (.bool b1), ec 4 39 (.bool b1), ec 5 40 (gv (!b1) ((.agg (mqCells r.1 vc vw vf).toArray))), eh 6 41 (gv (!b1) (.bool b2)), ec 7 42 (gv (!b1) (.bool (!b2))), ec 8 43 (.bool (b1 || (!b2))), ec 9 44 (.bool (b1 || (!b2))), ec 10 45 (gv (!(b1 || (!b2))) ((.agg (mqCells r.1 vc vw vf).toArray))), er 11 46 [] (fun v w' => b1 = false → b2 = true → BytesAre (layB r.1) v w'), ec 12 47 (gv (!(b1 || (!b2))) ((.slice (some ⟨gb, go, none⟩) xs.length c))), ec 13 48 (gv (!(b1 || (!b2))) (.int .i64 (t : Int))), ec 14 49 (gv (!(b1 || (!b2))) ((.slice (some ⟨gb, go, none⟩) t c))), eh 15 50 (gv (!(b1 || (!b2))) (.bool b3)), ec 16 51 (gv (!(b1 || (!b2))) (.bool (!b3))), ec 17 52 (.bool ((b1 || (!b2)) || (!b3)))] rfl ⟨jm, ja fun _ => by kernel_rfl, jf fieldX87_1, jl fun _ h => load1_b _ _ _ _ (e1 ▸ h.bad), jm, (by cases b1; exact jl fun _ h => loadS_run h.box; exact jo), (by cases b1; exact ju (hq := run_not b2); exact jo), (by (cases b1 <;> exact jp)), jm, (by cases b1; rotate_left; exact jo; cases b2; exact jo; exact jl fun _ h => loadS_run h.box), (by cases b1; rotate_left; exact jo; cases b2; exact jo; exact jm), (by cases b1; rotate_left; exact jo; cases b2; exact jo; exact jm), (by cases b1; rotate_left; exact jo; cases b2; exact jo; exact jh fun w => slice_h _ _ _ _ hg.2.2.1 hc w), (by cases b1; rotate_left; exact jo; cases b2; exact jo; exact ju (hq := run_not b3)), (by cases b1; rotate_left; exact jp; (cases b2 <;> exact jp)), trivial⟩ ⟨(by cases b1; exact kb fun w' h => e2 ▸ packMay r.1 _ _ _ w' h.lists hsm.fit (hT.below h.bel); exact ko), (by cases b1; rotate_left; exact kor fun _ h h2 => (by first | (cases h; done) | (cases h2; done)); cases b2; exact kor fun _ h h2 => (by first | (cases h; done) | (cases h2; done)); exact kr fun w' h => (packLay r.1 _ _ _ w' (mayB_of' e2) h.lists).mono fun _ _ ⟨v, h1, h2, h3⟩ => ⟨v, h1, fun _ _ => h2.read, h3⟩), (by cases b1; rotate_left; exact ko; cases b2; exact ko; exact kC rfl rfl rfl rfl fun a w' H hk h => ⟨[a.eval (.tmp 46), .slice (some ⟨gb, go, none⟩) t c], congrArg (fun v => [a.eval (.tmp 46), v]) (H.ev (x := .tmp 49) rfl), (belowQ (bytesEq (layB r.1) (xs.take t) (a.eval (.tmp 46)) _ w' (hk.1 rfl rfl) ⟨_, _, (by rw [List.length_take, Nat.min_eq_left hg.2.2.1]), ((hr.below h.bel).take t).more h.bel.size⟩) e3)⟩), trivial⟩ ?_ (hst := ⟨fun _ _ _ hb h h1 h2 => (h h1 h2).below hb, trivial⟩))
 intro a24 w4 H24 _ hF
 refine then_normal (H24.cond (t := (b1 || !b2) || !b3) rfl ?_)
 cases hb : (b1 || !b2) || !b3 with
 | true =>
  refine rl ?_
  refine H24.any (w' := w4) gz rfl rfl (.agg (mqCells (mq0 0) nilV nilV nilV).toArray) (by intro cs b h; cases h) (by kernel_rfl) (by kernel_rfl) fun a25 H25 => ?_
  refine H25.storeS rfl rfl rfl rfl (L := mqCells (mq0 0) nilV nilV nilV) rfl hF.box size_mq rfl rfl rfl fun a26 w5 H26 hg' hs' hC => ?_
  refine H26.ms 2 fun a27 H27 => nt (wp_ret ?_)
  repeat (first | (with_reducible refine block_ret ?_) | (with_reducible refine then_ret ?_))
  refine bodyPost_ret (results_m2 Tryz.results95 _ (H27.at_ 2 _ rfl) (H27.at_ 3 _ rfl) (H27.at_ 4 _ rfl) hC Tryz.underlying49 rfl size_mq rfl) H27.df ?_
  exact ⟨mq0 0, 0, 1, nilV, nilV, nilV, hP.2 (fun h => by rw [← e1, ← e2, ← e3, h.1, (mayBb_iff _).2 h.2.1, decide_eq_true h.2.2] at hb; cases hb), rfl, none_rows _ _ 0, small0 0, hF.belK hg' hs'⟩
 | false =>
  simp only [Bool.or_eq_false_iff, Bool.not_eq_false'] at hb
  refine skip_wp (then_normal ?_)
  refine rl ?_
  refine H24.loadS rfl rfl rfl rfl rfl hF.box Tryz.underlying49 rfl size_mq rfl fun a25 H25 => ?_
  refine H25.ms 1 fun a26 H26 => ?_
  refine H26.storeS rfl rfl rfl rfl rfl hF.box size_mq rfl rfl hF.one fun a27 w5 H27 hg' hs' hC => ?_
  refine H27.ms 2 fun a29 H29 => nt (wp_ret ?_)
  repeat (first | (with_reducible refine block_ret ?_) | (with_reducible refine then_ret ?_))
  refine bodyPost_ret (results_m2 Tryz.results95 _ (H29.at_ 2 _ rfl) (H29.at_ 3 _ rfl) (H29.at_ 4 _ rfl) hC Tryz.underlying49 rfl size_mq rfl) H29.df ?_
  exact ⟨r.1, t, 0, vc, vw, vf, hP.1 ⟨e1.trans hb.1.1, (mayBb_iff _).1 (e2.trans hb.1.2), of_decide_eq_true (e3.trans hb.2)⟩, rfl, hF.keep hg' hs', hsm, hF.belK hg' hs'⟩
theorem packParse (xs : List UInt8) (A : Option Addr) (c : Nat) (hc : xs.length ≤ c) (w : World) (hr : RB w w.heap.size A xs) (hl : xs.length ≤ 140737488351232) (hT : Wd w) :
  Calls Tryz.prog 95 #[.slice A xs.length c] w (ParseSaid xs w) := by
 cases hs : sizeD xs with
 | error er => exact parse_err xs A c w hr hl er hs
 | ok p =>
  obtain ⟨t, i⟩ := p
  obtain ⟨r, hrd⟩ : ∃ r, r = readP (((xs.headD 0).toNat / 16 : Nat) : Int) (loB (xs.headD 0)) ((xs.take t).drop i, false) := ⟨_, rfl⟩
  exact parse_good xs A c hc w hr hl hT t i hs r hrd
theorem parseC (xs : List UInt8) (A : Option Addr) (c : Nat) (hc : xs.length ≤ c) (w : World) (hr : RB w w.heap.size A xs) (hl : xs.length ≤ 140737488351232) (hT : Wd w) :
  Calls Tryz.prog 95 #[.slice A xs.length c] w fun e w' => ∃ v, e = .returned v ∧ ∃ m n er vc vw vf, v = .tuple #[.agg (mqCells m vc vw vf).toArray, .int .i64 ((n : Nat) : Int), .int .i64 er] ∧ Parsed xs m n er ∧ (Rows3 w' w.heap.size m vc vw vf ∧ Lens m 1000001) ∧ Small m ∧ Below w.heap.size w w' :=
 (packParse xs A c hc w hr hl hT).mono fun _ _ ⟨m, n, er, vc, vw, vf, h1, h2, h3⟩ => ⟨_, h2, m, n, er, vc, vw, vf, rfl, h1, h3⟩
theorem MqL.ones {w : World} {B : Nat} {m : Mq} {vc vw vf : Value} (h : MqL w B m vc vw vf) : (mqCells m vc vw vf).all (·.oneCell') = true := by
 obtain ⟨A1, c1, A2, c2, A3, c3, rfl, rfl, rfl, _⟩ := h
 exact mq_one _ rfl rfl rfl
end
section
open Go.RowKit
section
variable {ops : Array Oper} {Q : Exit → Act → World → Prop} {n : Nat} {l fixed : List (Nat × Value)} {F : World → Prop} {es : List EntC} {i s : Nat} {o : Oper}
end
section
variable {w w' : World}
theorem Rows3.belowR {b : Nat} {m : Mq} {vc vw vf : Value} (h : Rows3 w b m vc vw vf) (hb : Below w.heap.size w w') : Rows3 w' b m vc vw vf := ⟨own_below h.1 hb, own_below h.2.1 hb, own_below h.2.2 hb⟩
end
def Far (g : Nat) (vc vw vf : Value) : Prop := some g ≠ vc.ownBlock ∧ some g ≠ vw.ownBlock ∧ some g ≠ vf.ownBlock
section
variable {w w' : World}
theorem Rows3.keptR {b g : Nat} {m : Mq} {vc vw vf : Value} (h : Rows3 w b m vc vw vf) (hg : w.grownBy w' (some g)) (hf : Far g vc vw vf) : Rows3 w' b m vc vw vf :=
 ⟨h.1.kept hg (.inr hf.1.symm), h.2.1.kept hg (.inr hf.2.1.symm), h.2.2.kept hg (.inr hf.2.2.symm)⟩
theorem Rows3.far {b g : Nat} {m : Mq} {vc vw vf : Value} (h : Rows3 w b m vc vw vf) (hg : g < b ∨ w.heap.size ≤ g) : Far g vc vw vf := ⟨own_ne h.1 hg, own_ne h.2.1 hg, own_ne h.2.2 hg⟩
end
end
section
open Go.RowKit
theorem zeroCells_u8 (k : Nat) : (Builtin.zeroCells #[Value.int .u8 0] k).size = k := by
 simp [Builtin.zeroCells]
theorem growW (n : Nat) (w : World) (hn : n ≤ 100000) :
  Calls Tryz.prog 120 #[.slice none 0 0, .int .i64 (n : Int)] w fun e w' => ∃ A c, e = .returned (.slice A 0 c) ∧ w'.ownsRow w.heap.size 5 1 (.slice A 0 c) 0 [] ∧ Below w.heap.size w w' := by
 rcases Nat.eq_zero_or_pos n with rfl | hp
 ·go_enter Tryz.func120, Tryz.ntmps120
  go_wp2
  go_ret
  exact ⟨none, 0, rfl, World.ownsRow_nil _ _ _ _, Below.refl _ _⟩
 ·have h1 : ¬ ((n : Int) < 0) := by omega
  have h4 : (n : Int) > 0 := by omega
  obtain ⟨i, hi0, hz0, hz1, hz2⟩ := info_parts (P := Tryz.prog) info_u8
  have hold : (Builtin.firstCells i.size 0 (.slice none 0 0)).run Tryz.prog w.drew = .ok ([] : List Value).toArray w.drew := run_firstCells_none w.drew i.size 0 0 0
  have hrz : ∀ ty, (Builtin.append_ #[31, 3] ty #[.slice none 0 0, .int .i64 (n : Int)]).run Tryz.prog w =
    .ok (.slice (some ⟨w.heap.size, 0, none⟩) (0 + n) (grownCap w (0 + n) 0 5)) (w.drew.alloc (.cells (([] : List Value).toArray ++ Builtin.zeroCells #[.int .u8 0] n ++ Builtin.zeroCells #[.int .u8 0] (grownCap w (0 + n) 0 5 - (0 + n))) 5)) := fun ty =>
   Lib.run_append_grow_zeros w 31 3 ty 5 i (.int .u8 0) .i64 .i64 Tryz.underlying31 Tryz.underlying3 hi0 hz0 none 0 0 [] hold n hp (by omega) (by omega) (by omega) (by rw [hz2]; omega) (growslice_fits (by omega) (by rw [hz2]; omega))
  obtain ⟨G, hG⟩ : ∃ G, G = grownCap w (0 + n) 0 5 := ⟨_, rfl⟩
  have hGn : 0 + n ≤ G := hG ▸ grownCap_ge w _ _ _
  have hGm : G ≤ maxLen := hG ▸ grownCap_le_maxLen w _ _ _ (by unfold maxLen; omega)
  rw [← hG] at hrz
  have hsz : (([] : List Value).toArray ++ Builtin.zeroCells #[.int .u8 0] n ++ Builtin.zeroCells #[.int .u8 0] (G - (0 + n))).size = G * 1 := by
   rw [Array.size_append, Array.size_append, zeroCells_u8, zeroCells_u8]
   simp
   omega
  obtain ⟨C, hC⟩ : ∃ C, C = ([] : List Value).toArray ++ Builtin.zeroCells #[.int .u8 0] n ++ Builtin.zeroCells #[.int .u8 0] (G - (0 + n)) := ⟨_, rfl⟩
  rw [← hC] at hrz hsz
  have hO : (w.drew.alloc (.cells C 5)).ownsRow w.heap.size 5 1 (.slice (some ⟨w.heap.size, 0, none⟩) 0 G) 0 [] := World.ownsRow_made w.drew C G (Nat.le_refl _) hGm hsz
  have hB : Below w.heap.size w (w.drew.alloc (.cells C 5)) := (Below.drew (Below.refl _ _)).alloc (Nat.le_refl _) _
  have hG63 : G ≤ 9223372036854775807 := by unfold maxLen at hGm; omega
  have HO := Lib.hid hO
  have HB := Lib.hid hB
  clear hold hG hsz hC hO hB
  go_enter Tryz.func120, Tryz.ntmps120
  go_wp2_with (at_builtin; refine Lib.wpList_append_run _ rfl _ _ _ _ rfl _ _ rfl rfl _ _ (hrz _) ?_)
  all_goals (go_ret; exact ⟨_, _, rfl, HO.out, HB.out⟩)
theorem concatW (r x : List UInt8) (Ar Ax : Option Addr) (cr cx g : Nat) (w : World) (hr : RB w w.heap.size Ar r) (hx : RB w w.heap.size Ax x) (hg : g < w.heap.size) (hc0 : w.cell? ⟨g, 0, none⟩ = some (.slice Ar r.length cr)) (hc1 : w.cell? ⟨g, 1, none⟩ = some (.slice Ax x.length cx)) (hlr : r.length ≤ 40000) (hlx : x.length ≤ 40000) :
  Calls Tryz.prog 94 #[.slice (some ⟨g, 0, none⟩) 2 2] w fun e w' => ∃ A c, e = .returned (.slice A (r.length + x.length) c) ∧ w'.ownsRow w.heap.size 5 1 (.slice A (r.length + x.length) c) (r.length + x.length) ((r ++ x).map bv) ∧ Below w.heap.size w w' := by
 obtain ⟨lr, elr⟩ : ∃ k, k = r.length := ⟨_, rfl⟩
 obtain ⟨lx, elx⟩ : ∃ k, k = x.length := ⟨_, rfl⟩
 obtain ⟨ls, els⟩ : ∃ k, k = lr + lx := ⟨_, rfl⟩
 rw [← elr] at hc0 hlr ⊢
 rw [← elx] at hc1 hlx ⊢
 rw [← els]
 have hs1 : IntKind.i64.wrap (0 + (lr : Int)) = (lr : Int) := by rw [IntKind.wrap_i64]; omega
 have hs2 : IntKind.i64.wrap ((lr : Int) + (lx : Int)) = (ls : Int) := by rw [IntKind.wrap_i64]; omega
 have hn1 : ¬ ((lr : Int) < 0) := by omega
 have hn2 : ¬ ((ls : Int) < 0) := by omega
 have hls : ls ≤ 100000 := by omega
 have el1 := Lib.hid (elr.symm : r.length = lr)
 have el2 := Lib.hid (elx.symm : x.length = lx)
 have el3 := Lib.hid els
 have HC := Lib.hid (And.intro hc0 hc1)
 have HR := Lib.hid (And.intro hr hx)
 clear elr elx els hr hx
 go_enter Tryz.func94, Tryz.ntmps94
 go_wp2
 go_loopw [3, 5, 11] (fun s _ i wr => wr = w ∧ ((i = .int .i64 0 ∧ s = .int .i64 0) ∨ (i = .int .i64 1 ∧ s = .int .i64 (lr : Int)) ∨ (i = .int .i64 2 ∧ s = .int .i64 (ls : Int))))
  (fun _ _ i _ => 2 - (intOf i).toNat)
 case atStart => exact ⟨rfl, .inl ⟨rfl, rfl⟩⟩
 case round =>
  obtain ⟨rfl, hrel⟩ := hrel
  rcases hrel with ⟨rfl, rfl⟩ | ⟨rfl, rfl⟩ | ⟨rfl, rfl⟩
  ·go_wp2
   go_roundw
   case rel => exact ⟨trivial, .inr (.inl ⟨by go_num, by go_num⟩)⟩
   case measure => simp [intOf]
  ·go_wp2
   go_roundw
   case rel => exact ⟨trivial, .inr (.inr ⟨by go_num, by go_num⟩)⟩
   case measure => simp [intOf]
  ·obtain ⟨wq, rfl⟩ : ∃ wq : World, wq = wr := ⟨_, rfl⟩
   clear hc0 hc1 hs1 hs2 hn1 hn2
   go_wp2_with fail
   refine (growW ls wq hls).mono ?_
   rintro e w1 ⟨A1, c1, rfl, hO1, hB1⟩
   have HO1 := Lib.hid hO1
   have HB1 := Lib.hid hB1
   clear hO1 hB1
   go_wp2
   go_loopw [6, 8, 27] (fun s _ i wr => ∃ (A : Option Addr) (n c : Nat) (ys : List UInt8), s = .slice A n c ∧ wr.ownsRow wq.heap.size 5 1 (.slice A n c) n (ys.map bv) ∧ Below wq.heap.size wq wr ∧ ((i = .int .i64 0 ∧ n = 0 ∧ ys = []) ∨ (i = .int .i64 1 ∧ n = lr ∧ ys = r) ∨ (i = .int .i64 2 ∧ n = ls ∧ ys = r ++ x)))
    (fun _ _ i _ => 2 - (intOf i).toNat)
   case atStart => exact ⟨A1, 0, c1, [], rfl, HO1.out, HB1.out, .inl ⟨rfl, rfl, rfl⟩⟩
   case round =>
    obtain ⟨A, n, c, ys, rfl, hO, hB, hrel⟩ := hrel
    have HO := Lib.hid hO
    have HB := Lib.hid hB
    have h0 : wr.cell? ⟨g, 0, none⟩ = some (.slice Ar lr cr) := (cellB hB hg).trans HC.out.1
    have h1 : wr.cell? ⟨g, 1, none⟩ = some (.slice Ax lx cx) := (cellB hB hg).trans HC.out.2
    have hbs := hB.size
    clear hO hB
    rcases hrel with ⟨rfl, rfl, rfl⟩ | ⟨rfl, rfl, rfl⟩ | ⟨rfl, rfl, rfl⟩
    ·go_wp2_with (at_builtin; refine wpList_append_bytes wq.heap.size HB.out rfl _ _ 31 rfl wq.heap.size 5 Tryz.underlying31 info_u8 _ _ [] (by exact rfl) HO.out Ar lr cr r el1.out (by exact rfl) (HR.out.1.next HB.out) (by omega) hbs (Nat.le_refl _) ?_; intro A' c' w' hown' hb')
     go_roundw
     case rel => exact ⟨A', lr, c', r, by simp only, by simpa using hown', hb', .inr (.inl ⟨by go_num, rfl, rfl⟩)⟩
     case measure => simp [intOf]
    ·go_wp2_with (at_builtin; refine wpList_append_bytes wq.heap.size HB.out rfl _ _ 31 rfl wq.heap.size 5 Tryz.underlying31 info_u8 _ _ ys (by exact rfl) HO.out Ax lx cx x el2.out (by exact rfl) (HR.out.2.next HB.out) (by omega) hbs (Nat.le_refl _) ?_; intro A' c' w' hown' hb')
     go_roundw
     case rel => exact ⟨A', ls, c', ys ++ x, by rw [el3.out], by rw [el3.out]; exact hown', hb', .inr (.inr ⟨by go_num, rfl, rfl⟩)⟩
     case measure => simp [intOf]
    ·go_wp2
     go_ret
     exact ⟨A, c, rfl, HO.out, HB.out⟩
end
section
open Go.RowKit
inductive Fed : List UInt8 → List Mq → List UInt8 → Int → Prop
 | done : Fed [] [] [] 0
 | part {x : List UInt8} {m : Mq} {n : Nat} (hx : x ≠ []) (h : Parsed x m n 7) : Fed x [] x 0
 | bad {x : List UInt8} {m : Mq} {n : Nat} {e : Int} (hx : x ≠ []) (h : Parsed x m n e) (h0 : e ≠ 0) (h7 : e ≠ 7) : Fed x [] [] e
 | one {x : List UInt8} {m : Mq} {n : Nat} {l : List Mq} {y : List UInt8} {e : Int} (hx : x ≠ []) (h : Parsed x m n 0) (hr : Fed (x.drop n) l y e) : Fed x (m :: l) y e
theorem fed_one {x : List UInt8} {l : List Mq} {y : List UInt8} {e : Int} (h : Fed x l y e) : ∀ {l' : List Mq} {y' : List UInt8} {e' : Int}, Fed x l' y' e' → l = l' ∧ y = y' ∧ e = e' := by
 induction h with
 | done =>
  intro l' y' e' h'
  cases h' with
  | done => exact ⟨rfl, rfl, rfl⟩
  | part hx => exact absurd rfl hx
  | bad hx => exact absurd rfl hx
  | one hx => exact absurd rfl hx
 | part hx h =>
  intro l' y' e' h'
  cases h' with
  | done => exact absurd rfl hx
  | part => exact ⟨rfl, rfl, rfl⟩
  | bad _ h2 h0 h7 => exact absurd (parsed_one h h2).2.2.symm h7
  | one _ h2 => exact absurd (parsed_one h h2).2.2 (by decide)
 | bad hx h h0 h7 =>
  intro l' y' e' h'
  cases h' with
  | done => exact absurd rfl hx
  | part _ h2 => exact absurd (parsed_one h h2).2.2 h7
  | bad _ h2 => exact ⟨rfl, rfl, (parsed_one h h2).2.2⟩
  | one _ h2 => exact absurd (parsed_one h h2).2.2 h0
 | one hx h _ ih =>
  intro l' y' e' h'
  cases h' with
  | done => exact absurd rfl hx
  | part _ h2 => exact absurd (parsed_one h h2).2.2 (by decide)
  | bad _ h2 h0 => exact absurd (parsed_one h h2).2.2.symm h0
  | one _ h2 hr2 =>
   obtain ⟨rfl, rfl, _⟩ := parsed_one h h2
   obtain ⟨rfl, rfl, rfl⟩ := ih hr2
   exact ⟨rfl, rfl, rfl⟩
theorem parsed_two {x : List UInt8} {m : Mq} {n : Nat} (h : Parsed x m n 0) : 2 ≤ n ∧ n ≤ x.length := by
 unfold Parsed at h
 split at h
 ·next er hs =>
  have h2 := sizeD_err hs
  rw [← h.1] at h2
  exact absurd h2 (by decide)
 ·next t i hs =>
  obtain ⟨h1, h2, h3, _⟩ := sizeD_ge hs
  rcases h with ⟨_, _, rfl, _⟩ | ⟨_, _, _, h⟩
  ·exact ⟨by omega, h3⟩
  ·exact absurd h (by decide)
def Prow (w : World) (b : Nat) (m : Mq) (cs : List Value) (hi : Nat) : Prop := ∃ vc vw vf, cs = mqCells m vc vw vf ∧ Rows3 w b m vc vw vf ∧ (∀ k, (vc.ownBlock = some k ∨ vw.ownBlock = some k ∨ vf.ownBlock = some k) → k < hi) ∧ Lens m 1000001 ∧ Small m
inductive Prows (w : World) (b : Nat) : List Mq → List Value → Nat → Prop
 | nil {hi : Nat} (h : b ≤ hi) : Prows w b [] [] hi
 | snoc {l : List Mq} {xs : List Value} {m : Mq} {cs : List Value} {hi lo hi' : Nat} (h : Prows w b l xs hi) (hlo : hi ≤ lo) (hle : lo ≤ hi') (hm : Prow w lo m cs hi') : Prows w b (l ++ [m]) (xs ++ cs) hi'
theorem Prow.of {w w' : World} {b hi : Nat} {m : Mq} {cs : List Value} (h : Prow w b m cs hi) (hk : ∀ vc vw vf, Rows3 w b m vc vw vf → Rows3 w' b m vc vw vf) : Prow w' b m cs hi := by
 obtain ⟨vc, vw, vf, h1, h2, h3⟩ := h
 exact ⟨vc, vw, vf, h1, hk _ _ _ h2, h3⟩
theorem Prows.le {w : World} {b hi : Nat} {l : List Mq} {cs : List Value} (h : Prows w b l cs hi) : b ≤ hi := by
 induction h with
 | nil h => exact h
 | snoc _ h1 h2 _ ih => omega
theorem Prows.of {w w' : World} {b hi : Nat} {l : List Mq} {cs : List Value} (h : Prows w b l cs hi) (hk : ∀ b' m vc vw vf, b ≤ b' → Rows3 w b' m vc vw vf → Rows3 w' b' m vc vw vf) : Prows w' b l cs hi := by
 induction h with
 | nil h => exact .nil h
 | snoc hp h1 h2 hm ih => exact .snoc ih h1 h2 (hm.of fun _ _ _ h => hk _ _ _ _ _ (Nat.le_trans hp.le h1) h)
theorem Prows.next {w w' : World} {b hi : Nat} {l : List Mq} {cs : List Value} (h : Prows w b l cs hi) (hb : Below w.heap.size w w') : Prows w' b l cs hi := h.of fun _ _ _ _ _ _ h => h.belowR hb
theorem Prows.base {w : World} {b b' hi : Nat} {l : List Mq} {cs : List Value} (h : Prows w b l cs hi) (hb : b' ≤ b) : Prows w b' l cs hi := by
 induction h with
 | nil h => exact .nil (Nat.le_trans hb h)
 | snoc _ h1 h2 hm ih => exact .snoc ih h1 h2 hm
theorem Prows.box {w w' : World} {b g hi : Nat} {l : List Mq} {cs : List Value} (h : Prows w b l cs hi) (hg : w.grownBy w' (some g)) (hlt : g < b) : Prows w' b l cs hi := h.of fun _ _ _ _ _ hb h => h.keptR hg (h.far (.inl (Nat.lt_of_lt_of_le hlt hb)))
theorem Rows3.row {w w' : World} {b b' e s n : Nat} {m : Mq} {vc vw vf v : Value} {xs : List Value} (h : Rows3 w b m vc vw vf) (hO : w.ownsRow b' e s v n xs) (hg : w.grownBy w' v.ownBlock) (he : (Nat.beq 3 e || Nat.beq 161 e || Nat.beq 9 e) = false) : Rows3 w' b m vc vw vf := by
 simp only [Bool.or_eq_false_iff] at he
 exact ⟨h.1.kept hg (own_apart h.1 hO he.1.1), h.2.1.kept hg (own_apart h.2.1 hO he.1.2), h.2.2.kept hg (own_apart h.2.2 hO he.2)⟩
theorem Prows.row {w w' : World} {b b' e s n hi : Nat} {l : List Mq} {cs : List Value} {v : Value} {xs : List Value} (h : Prows w b l cs hi) (hO : w.ownsRow b' e s v n xs) (hg : w.grownBy w' v.ownBlock) (he : (Nat.beq 3 e || Nat.beq 161 e || Nat.beq 9 e) = false) : Prows w' b l cs hi := h.of fun _ _ _ _ _ _ h => h.row hO hg he
theorem Prows.len {w : World} {b hi : Nat} {l : List Mq} {cs : List Value} (h : Prows w b l cs hi) : cs.length = l.length * 24 := by
 induction h with
 | nil => rfl
 | snoc _ _ _ hm ih =>
  obtain ⟨vc, vw, vf, rfl, _⟩ := hm
  rw [List.length_append, List.length_append, ih]
  show _ + 24 = _
  simp
  omega
theorem Rows3.lt {w : World} {b : Nat} {m : Mq} {vc vw vf : Value} (h : Rows3 w b m vc vw vf) (k : Nat) (hk : vc.ownBlock = some k ∨ vw.ownBlock = some k ∨ vf.ownBlock = some k) : k < w.heap.size := by
 rcases hk with hk | hk | hk
 ·exact (h.1.lt k hk).2
 ·exact (h.2.1.lt k hk).2
 ·exact (h.2.2.lt k hk).2
def PR (w : World) (b : Nat) (l : List Mq) (cs : List Value) : Prop := ∃ hi, hi ≤ w.heap.size ∧ Prows w b l cs hi
theorem PR.base {w : World} {b b' : Nat} {l : List Mq} {cs : List Value} (h : PR w b l cs) (hb : b' ≤ b) : PR w b' l cs := by
 obtain ⟨hi, h1, h2⟩ := h
 exact ⟨hi, h1, h2.base hb⟩
theorem info_mqx : ∃ B, B ≤ 1000 ∧ (Tryz.prog.info? 49).map (fun i => (i.zero, i.size, i.bytes)) = some (some (.agg (mqCells (mq0 0) nilV nilV nilV).toArray), 24, B) :=
 ⟨((Tryz.prog.info? 49).map (·.bytes)).getD 0, Nat.le_of_ble_eq_true (by kernel_rfl), by kernel_rfl⟩
end
section
theorem fed_lays : ∀ (ms : List Mq), (∀ m ∈ ms, mayB m) → ∀ {y : List UInt8} {l : List Mq} {left : List UInt8} {e : Int}, Fed y l left e → Fed ((ms.map layB).flatten ++ y) (ms ++ l) left e
 | [], _, _, _, _, _, h => h
 | m :: ms, hm, y, l, left, e, h => by
  have h1 := parsed_lay (hm m (List.mem_cons_self ..)) ((ms.map layB).flatten ++ y)
  rw [List.map_cons, List.flatten_cons, List.append_assoc, List.cons_append]
  refine .one ?_ h1 ?_
  ·intro h0
   have := (parsed_two h1).1
   have h2 := congrArg List.length h0
   rw [List.length_append, List.length_nil] at h2
   omega
  ·rw [List.drop_left]
   exact fed_lays ms (fun x hx => hm x (List.mem_cons_of_mem _ hx)) h
end
section
def fr28 (mac ip port sq ak fl : Nat) (xs : List UInt8) : List UInt8 := wire mac 2199023255553 167772161 ip ⟨1883, port, sq, ak, fl, 0, xs⟩
def sg28 (port sq ak fl : Nat) (xs : List UInt8) : Sg := ⟨1883, port, sq, ak, fl, 0, xs⟩
theorem sg28_ok {port sq ak fl : Nat} {xs : List UInt8} (hp : port ≤ 65535) (hs : sq ≤ 4294967295) (ha : ak ≤ 4294967295) (hf : fl ≤ 63) (hx : xs.length ≤ 1460) : (sg28 port sq ak fl xs).ok = true := by
 refine Sg.ok_iff.2 ⟨?_, ?_, ?_, ?_, ?_, ?_, hx⟩ <;> simp only [sg28] <;> omega
theorem wire_in28 {dm sm src dst : Nat} {q : Sg} (hdm : dm < 281474976710656) (hsm : sm < 281474976710656) (hs : src < 4294967296) (hd : dst < 4294967296) (h : q.ok = true) : segIn (wire dm sm src dst q) = some (⟨src, dst, 6, 64, 0, Sg.bytes src dst q⟩, q) := by
 have hq := (Sg.ok_iff.1 h).2.2.2.2.2.2
 have hp := parse_back ⟨src, dst, 6, 64, 0, Sg.bytes src dst q⟩ (wire_ip hs hd hq) []
 rw [List.append_nil] at hp
 unfold segIn
 rw [wire_fr hdm hsm h]
 simp only [hp, seg_same src dst hs hd q h]
 simp
section
variable {mac ip port : Nat} (hm : mac < 281474976710656) (hip : ip < 4294967296)
include hm hip
theorem told_cli {p2 sq ak fl : Nat} {xs : List UInt8} (h : (sg28 p2 sq ak fl xs).ok = true) : toldCli mac ip port (fr28 mac ip p2 sq ak fl xs) = if p2 = port then some (sg28 p2 sq ak fl xs) else none := by
 unfold toldCli fr28
 rw [show segIn (wire mac 2199023255553 167772161 ip ⟨1883, p2, sq, ak, fl, 0, xs⟩) = _ from wire_in28 hm (by decide) (by decide) hip h, show frOut (wire mac 2199023255553 167772161 ip ⟨1883, p2, sq, ak, fl, 0, xs⟩) = _ from wire_fr hm (by decide) h]
 simp only [beq_self_eq_true, Bool.true_and, Bool.and_eq_true, beq_iff_eq, Int.natCast_inj]
 by_cases e : p2 = port
 ·rw [if_pos e, if_pos]
  ·rfl
  ·first | exact e | simp [e]
 ·rw [if_neg e, if_neg]
  first | exact e | exact fun h => e h.2
end
section
variable {iss : Nat} {x : Cl} {port sq ak : Nat} {xs : List UInt8}
theorem clHear_syn : clHear iss x (sg28 port sq (spAdd iss 1) 18 []) = (⟨spAdd sq 1, true, []⟩, true) := by
 unfold clHear
 rw [if_neg (by show ¬ (bits .and .i64 18 4 != 0) = true; decide), if_pos]
 ·rfl
 ·rw [Bool.and_eq_true]
  exact ⟨(by show (bits .and .i64 18 18 == 18) = true; decide), beq_iff_eq.2 rfl⟩
theorem clHear_dat (hu : x.up = true) : clHear iss x (sg28 port sq ak 16 xs) = if sq = x.wants then (⟨spAdd x.wants xs.length, true, x.got ++ xs⟩, decide (0 < xs.length)) else (x, false) := by
 unfold clHear
 have e1 : (bits .and .i64 (sg28 port sq ak 16 xs).fl 18 == 18) = false := by show (bits .and .i64 16 18 == 18) = false; decide
 have e2 : (bits .and .i64 (sg28 port sq ak 16 xs).fl 2 != 0) = false := by show (bits .and .i64 16 2 != 0) = false; decide
 have e3 : (bits .and .i64 (sg28 port sq ak 16 xs).fl 1 != 0) = false := by show (bits .and .i64 16 1 != 0) = false; decide
 rw [if_neg (by show ¬ (bits .and .i64 16 4 != 0) = true; decide), e1, Bool.false_and, if_neg (by decide), hu, e2, e3]
 have e4 : (sg28 port sq ak 16 xs).sq.toNat = sq := rfl
 rw [e4]
 by_cases h : sq = x.wants
 ·rw [if_pos h, if_neg (by simp [h])]
  rfl
 ·rw [if_neg h, if_pos (by simp [h])]
end
theorem spAdd2 (s a b : Nat) : spAdd (spAdd s a) b = spAdd s (a + b) := by
 unfold spAdd
 omega
end
section
open Go.RowKit
theorem bigC (k v : Nat) (hk : k ≤ 7) (hv : v < 9223372036854775808) (w : World) :
  Calls Tryz.prog 90 #[iz v, iz k] w fun e w' => ∃ u, e = .returned u ∧ (BytesAre (big k v) u w' ∧ Below w.heap.size w w') :=
 (big_walk (v : Int) (k : Int) v k rfl rfl hk hv w).mono fun _ _ ⟨A', c', h1, h2, h3⟩ => ⟨_, h1, by
  have := (RowIs.of (big_length k v) h2).read
  exact this, h3⟩
theorem bigR (k v : Nat) (hk : k ≤ 7) (hv : v < 9223372036854775808) (w : World) :
  Calls Tryz.prog 90 #[iz v, iz k] w fun e w' => ∃ u, e = .returned u ∧ (RowIs w.heap.size (big k v) u w' ∧ Below w.heap.size w w') :=
 (big_walk (v : Int) (k : Int) v k rfl rfl hk hv w).mono fun _ _ ⟨_A', _c', h1, h2, h3⟩ => ⟨_, h1, RowIs.of (big_length k v) h2, h3⟩
theorem pageFrameBytes (d s t : Nat) (xs : List UInt8) (A : Option Addr) (c : Nat) (w : World) (hd : d < 281474976710656) (hs : s < 281474976710656) (ht : t < 65536) (hx : RB w w.heap.size A xs) (hl : xs.length ≤ 140737488351232) :
  Calls Tryz.prog 54 #[.agg ([iz d, iz s, iz t, .slice A xs.length c] : List Value).toArray] w fun e w' => ∃ v, e = .returned v ∧ (RowIs w.heap.size (frBytes d s t xs) v w' ∧ Below w.heap.size w w') := by
 go_enter Tryz.func54, Tryz.ntmps54
 refine Has.start 20 [(0, .agg ([iz d, iz s, iz t, .slice A xs.length c] : List Value).toArray)] rfl rfl ⟨rfl, trivial⟩ ?_
 intro a0 H0
 have O0 := Own.start w
 refine rl ?_
 refine H0.bx O0 1 (L := [iz d, iz s, iz t, .slice A xs.length c]) fun a w1 O1 H => nt ?_
 generalize hg : w.heap.size = g at O1 H
 obtain ⟨b0, hb0⟩ : ∃ b0, b0 = w1.heap.size := ⟨_, rfl⟩
 have hgb : g < b0 := by rw [hb0]; exact O1.lt 0 rfl
 have ou : ∀ {w' w'' : World}, Own w g [(g, [iz d, iz s, iz t, .slice A xs.length c])] w' → Below b0 w' w'' → Own w g [(g, [iz d, iz s, iz t, .slice A xs.length c])] w'' := fun h hb => own_under h hb (Nat.le_of_lt hgb) (fun p hp => by rw [List.mem_singleton.1 hp]; exact hgb)
 replace H := H.kp [1]
 refine H.sg (fun w' => Own w g [(g, [iz d, iz s, iz t, .slice A xs.length c])] w' ∧ b0 ≤ w'.heap.size) ⟨O1.drew, by rw [hb0]; exact Nat.le_refl _⟩ [1] [ec 0 4 (pz g), ec 1 5 (iz d), ec 3 7 (.pointer (some ⟨g, 1, none⟩)), ec 4 8 (iz s)] rfl ?_
 refine St.call 2 ⟨jm, jl fun _ h => h.1.li 0 0, jm, jl fun _ h => h.1.li 0 1, trivial⟩ (fun wy _ => bigR 6 d (by decide) (by omega) wy) ?_
 rintro wx v wz hh ⟨⟨A2, c2, rfl, hrow⟩, hb⟩
 rw [show (big 6 d).length = 6 from big_length 6 d] at hrow ⊢
 refine nx (fun w' => (Own w g [(g, [iz d, iz s, iz t, .slice A xs.length c])] w' ∧ b0 ≤ w'.heap.size) ∧ w'.ownsRow b0 5 1 (.slice A2 6 c2) 6 ((big 6 d).map bv)) [] [] ⟨⟨hh.1.call hb, Nat.le_trans hh.2 hb.size⟩, own_base hrow hh.2⟩ ?_
 refine St.call 5 ⟨jm, jl fun _ h => h.1.1.li 0 1, trivial⟩ (fun wy _ => bigC 6 s (by decide) (by omega) wy) ?_
 clear hrow hb hh
 rintro wx v wz hh ⟨⟨A3, c3, rfl, hr3⟩, hb⟩
 rw [show (big 6 s).length = 6 from big_length 6 s]
 refine nx (fun w' => ((Own w g [(g, [iz d, iz s, iz t, .slice A xs.length c])] w' ∧ b0 ≤ w'.heap.size) ∧ w'.ownsRow b0 5 1 (.slice A2 6 c2) 6 ((big 6 d).map bv)) ∧ RB w' w'.heap.size A3 (big 6 s)) [] [] ⟨⟨⟨hh.1.1.call hb, Nat.le_trans hh.1.2 hb.size⟩, own_below hh.2 hb⟩, hr3⟩ ?_
 refine St.app (k := 6) (m := 6) (ys := (big 6 s).map bv) 6 info_u8 trivial (fun _ h => ⟨h.1.2, by have := h.2; unfold RB at this; rw [show (big 6 s).length = 6 from big_length 6 s] at this; exact this, h.1.1.2⟩) (bv_one _) ⟨by decide, by decide⟩ ?_
 clear hh hb hr3
 intro wx A4 c4 w' h hO hgr
 have hbb : Below b0 wx w' := (Below.refl _ _).grown hgr h.1.1.2 fun k hk => (h.1.2.lt k hk).1
 refine nx (fun w' => Own w g [(g, [iz d, iz s, iz t, .slice A xs.length c])] w' ∧ b0 ≤ w'.heap.size ∧ RowIs b0 (big 6 d ++ big 6 s) (.slice A4 (6 + 6) c4) w') [ec 7 3 (.slice A4 (6 + 6) c4)] [] ⟨ou h.1.1.1 hbb, Nat.le_trans h.1.1.2 hbb.size, RowIs.of (by simp [big_length]) (by rw [List.map_append]; exact hO)⟩ ?_
 refine St.fin ⟨jm, trivial⟩ ?_
 clear h hO hgr hbb
 rintro a w2 H _ ⟨O2, hs2, hr2⟩
 refine then_normal ?_
 generalize Value.slice A4 (6 + 6) c4 = v2 at H hr2
 replace H := H.kp [1, 3]
 refine H.rg 2 fun a H => ?_
 refine H.ld 0 (O2.li 0 2) fun a H => ?_
 refine H.cl (bigC 2 t (by decide) (by omega) w2) ?_
 rintro a u3 x3 ⟨hu3, hbu3⟩ H
 have hsu3 := hbu3.size
 refine H.appendRow Tryz.underlying31 info_u8 (gz rfl) rfl rfl rfl rfl rfl (hr2.below hbu3) hu3 (by simp [big_length]) (Nat.le_trans hs2 hsu3) ?_
 intro a v3 w3 H hr3 hb3 _
 have O3 := ou (O2.call hbu3) hb3
 have hs3 : b0 ≤ w3.heap.size := Nat.le_trans (Nat.le_trans hs2 hsu3) hb3.size
 refine H.ms 1 fun a H => nt ?_
 replace H := H.kp [1, 3]
 refine H.rg 2 fun a H => ?_
 refine H.ld 0 (load1_31 _ _ _ _ _ _ ((O3.get 0 rfl).get 3 _ rfl)) fun a H => ?_
 refine H.appendRow (ys := xs) Tryz.underlying31 info_u8 (gz rfl) rfl rfl rfl rfl rfl hr3 ⟨A, c, rfl, hx.next (hg ▸ O3.bel)⟩ (by simp [big_length]; omega) hs3 ?_
 intro a v4 w4 H hr4 hb4 _
 have O4 := ou O3 hb4
 refine H.ms 1 fun a H => nt (wp_ret ?_)
 repeat (first | (with_reducible refine block_ret ?_) | (with_reducible refine then_ret ?_))
 refine bodyPost_ret (results_tmp rfl _ _ _) H.df ⟨v4, congrArg Ending.returned (H.at_ 2 _ rfl), ?_, hg ▸ O4.bel⟩
 have e : frBytes d s t xs = big 6 d ++ big 6 s ++ big 2 t ++ xs := by simp [frBytes]
 rw [e]
 exact hr4.base (Nat.le_of_lt hgb)
end
section
open Go.RowKit
theorem conv_32 (z : Int) (w : World) : (convert 3 33 (iz z)).run Tryz.prog w = .ok (.int .u32 (z % 4294967296)) w := by
 simp [go_sem]
 rfl
theorem conv_23 (z : Int) (h0 : 0 ≤ z) (h1 : z < 4294967296) (w : World) : (convert 33 3 (.int .u32 z)).run Tryz.prog w = .ok (iz z) w := by
 simp [go_sem]
 exact IntWalk.i64_in _ (by omega)
theorem add_32 (u v : Int) (x y : Operand) (w : World) : (do eqGuard .add 33 x y (.int .u32 u) (.int .u32 v); binOp .add 33 (.int .u32 u) (.int .u32 v) : Sem Value).run Tryz.prog w = .ok (.int .u32 ((u + v) % 4294967296)) w := by
 simp [go_sem]
 rfl
theorem pageAdd (s n : Nat) (w : World) : Calls Tryz.prog 11 #[iz s, iz n] w fun e w' => e = .returned (iz (spAdd s n)) ∧ w = w' := by
 go_enter Tryz.func11, Tryz.ntmps11
 refine Has.start 11 [(0, iz s), (1, iz n)] rfl rfl ⟨rfl, rfl, trivial⟩ ?_
 intro a0 H0
 refine H0.rg 1 fun a H => nt ?_
 refine H.rg 1 fun a H => ?_
 refine H.cv 1 (conv_32 (s : Int) w) fun a H => ?_
 refine H.cv 0 (conv_32 (n : Int) w) fun a H => ?_
 refine H.bn 0 (add_32 ((s : Int) % 4294967296) ((n : Int) % 4294967296) _ _ w) fun a H => ?_
 refine H.cv 1 (conv_23 (((s : Int) % 4294967296 + (n : Int) % 4294967296) % 4294967296) (by omega) (by omega) w) fun a H => nt (wp_ret ?_)
 repeat (first | (with_reducible refine block_ret ?_) | (with_reducible refine then_ret ?_))
 refine bodyPost_ret (results_tmp rfl _ _ _) H.df ⟨?_, rfl⟩
 refine (congrArg Ending.returned (H.at_ 4 _ rfl)).trans ?_
 have e : ((s : Int) % 4294967296 + (n : Int) % 4294967296) % 4294967296 = ((spAdd s n : Nat) : Int) := by unfold spAdd; omega
 rw [e]
theorem refSegBytesC (ti sp port sq ak fl wn : Nat) (xs : List UInt8) (A : Option Addr) (c : Nat) (h : Sg.ok ⟨sp, port, sq, ak, fl, wn, xs⟩ = true) (hd : ti < 4294967296) (w : World) (hx : RB w w.heap.size A xs) :
  Calls Tryz.prog 53 #[iz 167772161, iz ti, .agg #[iz sp, iz port, iz sq, iz ak, iz fl, iz wn, .slice A xs.length c]] w fun e w' => ∃ v, e = .returned v ∧ ∃ A' c', v = .slice A' (20 + xs.length) c' ∧ w'.ownsRow w.heap.size 5 1 (.slice A' (20 + xs.length) c') (20 + xs.length) ((sgBytes 167772161 ti sp port sq ak fl wn xs).map bv) ∧ Below w.heap.size w w' :=
 (refSegBytes 167772161 ti sp port sq ak fl wn xs xs.length rfl A c h (by decide) hd w hx).mono fun _ _ ⟨A', c', h1, h2, h3⟩ => ⟨_, h1, A', c', rfl, h2, h3⟩
theorem refPBytesC (d : Nat) (xs : List UInt8) (n : Nat) (hl : xs.length = n) (A : Option Addr) (c : Nat) (h : Pk.ok ⟨167772161, d, 6, 64, 0, xs⟩ = true) (w : World) (hx : RB w w.heap.size A xs) :
  Calls Tryz.prog 55 #[.agg #[iz 167772161, iz d, iz 6, iz 64, iz 0, .slice A n c]] w fun e w' => ∃ v, e = .returned v ∧ ∃ A' c', v = .slice A' (20 + n) c' ∧ w'.ownsRow w.heap.size 5 1 (.slice A' (20 + n) c') (20 + n) ((ipHead 167772161 d 6 64 0 n ++ xs).map bv) ∧ Below w.heap.size w w' :=
 (refPBytes 167772161 d 6 64 0 xs n hl A c h w hx).mono fun _ _ ⟨A', c', h1, h2, h3⟩ => ⟨_, h1, A', c', rfl, h2, h3⟩
end
section
open Go.RowKit
theorem eql_35 (u v : Int) (b : Bool) (h : (u == v) = b) (x y : Operand) (w : World) : (do eqGuard .eql 27 x y (iz u) (iz v); binOp .eql 27 (iz u) (iz v) : Sem Value).run Tryz.prog w = .ok (.bool b) w := by
 subst h
 simp [go_sem]
theorem concatC (r x : List UInt8) (Ar Ax : Option Addr) (cr cx g : Nat) (w : World) (hr : RB w w.heap.size Ar r) (hx : RB w w.heap.size Ax x) (hg : g < w.heap.size) (hC : Cells w g [.slice Ar r.length cr, .slice Ax x.length cx]) (hlr : r.length ≤ 40000) (hlx : x.length ≤ 40000) :
  Calls Tryz.prog 94 #[.slice (some ⟨g, 0, none⟩) 2 2] w fun e w' => ∃ v, e = .returned v ∧ ∃ A c, v = .slice A (r ++ x).length c ∧ w'.ownsRow w.heap.size 5 1 (.slice A (r ++ x).length c) (r ++ x).length ((r ++ x).map bv) ∧ Below w.heap.size w w' :=
 (concatW r x Ar Ax cr cx g w hr hx hg (hC 0 _ rfl).1 (hC 1 _ rfl).1 hlr hlx).mono fun _ _ ⟨A, c, h1, h2, h3⟩ => ⟨_, h1, A, c, by rw [List.length_append], by rw [List.length_append]; exact h2, h3⟩
theorem cloneC (y : List UInt8) (A : Option Addr) (c : Nat) (w : World) (hx : RB w w.heap.size A y) (hn : y.length ≤ 140737488351232) :
  Calls Tryz.prog 80 #[.slice A y.length c] w fun e w' => ∃ v, e = .returned v ∧ ∃ A' c', v = .slice A' y.length c' ∧ w'.ownsRow w.heap.size 5 1 (.slice A' y.length c') y.length (y.map bv) ∧ Below w.heap.size w w' :=
 (clone y y.length rfl A c w hx hn).mono fun _ _ ⟨A', c', h1, h2, h3⟩ => ⟨_, h1, A', c', rfl, h2, h3⟩
def FedSaid (z : List UInt8) (w : World) (e : Ending) (w' : World) : Prop :=
 ∃ l left er vP AL cL cs, Fed z l left er ∧ e = .returned (.tuple #[vP, .slice AL left.length cL, iz er]) ∧ w'.ownsRow w.heap.size 49 24 vP l.length cs ∧ PR w' w.heap.size l cs ∧ w'.ownsRow w.heap.size 5 1 (.slice AL left.length cL) left.length (left.map bv) ∧ Below w.heap.size w w'
structure FeedAt (z : List UInt8) (W : World) (a : Act) (w : World) (y : List UInt8) (l : List Mq) (A : Option Addr) (c n : Nat) (vP : Value) (cs L : List Value) (vb : Value) : Prop where
 at_ : Has a 40 [(4, vP), (5, nilV), (7, pz W.heap.size), (9, .slice A n c)]
 hn : y.length = n
 hc : n ≤ c
 le : l.length * 2 + y.length ≤ z.length
 fed : ∀ {l2 : List Mq} {left : List UInt8} {e : Int}, Fed y l2 left e → Fed z (l ++ l2) left e
 own : Own W W.heap.size [(W.heap.size, L)] w
 h24 : L.length = 24
 row : w.ownsRow (W.heap.size + 1) 49 24 vP l.length cs
 pks : PR w (W.heap.size + 1) l cs
 byt : w.ownsRow (W.heap.size + 1) 5 1 vb z.length (z.map bv)
 rd : ∀ w', w'.ownsRow (W.heap.size + 1) 5 1 vb z.length (z.map bv) → RB w' w'.heap.size A y
def muFeed (a : Act) : Nat := match a.tmps.getD 9 undef with
 | .slice _ n _ => n
 | _ => 0
theorem feedW (r x : List UInt8) (Ar Ax : Option Addr) (cr cx : Nat) (w : World) (hr : RB w w.heap.size Ar r) (hx : RB w w.heap.size Ax x) (hlr : r.length ≤ 40000) (hlx : x.length ≤ 40000) (hT : Wd w) :
  Calls Tryz.prog 56 #[.slice Ar r.length cr, .slice Ax x.length cx] w (FedSaid (r ++ x) w) := by
 go_enter Tryz.func56, Tryz.ntmps56
 refine Has.start 40 [(0, .slice Ar r.length cr), (1, .slice Ax x.length cx)] rfl rfl ⟨rfl, rfl, trivial⟩ ?_
 intro a0 H0
 have O0 := Own.start w
 refine H0.rg 3 fun a1 H1 => nt ?_
 refine wp_scope_one (k := 0) rfl (fun a w' => ∃ y l A c n vP cs L vb, FeedAt (r ++ x) w a w' y l A c n vP cs L vb) (fun a _ => muFeed a) ?_ ?_
 ·intro hpass
  refine rl ?_
  refine H1.al O0 0 zero_mq fun a2 w2 O2 H2 => nt ?_
  refine H2.rg 1 fun a3 H3 => nt ?_
  refine H3.rg 2 fun a4 H4 => ?_
  refine H4.any (w' := w2.alloc (.cells #[.slice Ar r.length cr, .slice Ax x.length cx] 31)) gz rfl rfl (.slice (some ⟨w2.heap.size, 0, none⟩) 2 2) (by intro cs b h; cases h) (by kernel_rfl) (by kernel_rfl) fun a5 H5 => ?_
  have C5 := Cells.of_heap (heap_alloc_new w2 (.cells #[.slice Ar r.length cr, .slice Ax x.length cx] 31))
  have hb5 : Below w2.heap.size w2 (w2.alloc (.cells #[.slice Ar r.length cr, .slice Ax x.length cx] 31)) := balloc _ _
  have hl5 := lt_alloc w2 (.cells #[.slice Ar r.length cr, .slice Ax x.length cx] 31)
  have hw2 : w.heap.size + 1 ≤ w2.heap.size := O2.lt 0 rfl
  generalize w2.alloc (.cells #[.slice Ar r.length cr, .slice Ax x.length cx] 31) = w5 at *
  have O5 := O2.call hb5
  refine H5.cl (concatC r x Ar Ax cr cx w2.heap.size w5 (hr.next O5.bel) (hx.next O5.bel) hl5 C5 hlr hlx) ?_
  rintro a6 _ w6 ⟨A, c, rfl, hrow, hb6⟩ H6
  have O6 := O5.call hb6
  refine H6.ms 1 fun a7 H7 => nt ?_
  refine wp_seq (label_wp (then_normal ?_))
  refine hpass _ _ ⟨r ++ x, [], A, c, (r ++ x).length, nilV, [], _, .slice A (r ++ x).length c, ⟨H7.keep ⟨rfl, rfl, rfl, rfl, trivial⟩, rfl, own_cap hrow, by simp, fun h => h, O6, rfl, World.ownsRow_nil _ _ _ _, ⟨w.heap.size + 1, O6.lt 0 rfl, .nil (Nat.le_refl _)⟩, own_base hrow (by have := hb5.size; omega), ?_⟩⟩
  intro w' h
  exact rb_of_own rfl (own_base h (Nat.zero_le _)) (Nat.zero_le _)
 ·clear H0 O0 H1
  rintro a1 w1 ⟨y, l, A, c, n, vP, cs, L, vb, hI⟩
  obtain ⟨H1, hn, hc, hle, hF, O1, h24, hrow, hpk, hby, hrd⟩ := hI
  subst hn
  have hzl : (r ++ x).length ≤ 80000 := by rw [List.length_append]; omega
  have hyl : y.length ≤ 80000 := by omega
  have hrd1 := hrd w1 hby
  have hmu : muFeed a1 = y.length := by unfold muFeed; rw [show a1.tmps.getD 9 undef = .slice A y.length c from H1.at_ 9 _ rfl]
  rw [hmu]
  refine H1.rg 1 fun a2 H2 => ?_
  refine H2.len gz rfl rfl rfl rfl Tryz.underlying31 fun a3 H3 => ?_
  by_cases hy : y = []
  ·refine H3.bb 0 rfl rfl rfl rfl rfl rfl (eql_iB _ _ true (by subst hy; rfl) _ _ _) rfl fun a4 H4 => nt (H4.condT rfl ?_)
   refine H4.rg 4 fun a5 H5 => nt (wp_ret ?_)
   repeat (first | (with_reducible refine jump_ret ?_) | (with_reducible refine then_ret ?_))
   refine bodyPost_ret (results_three rfl _ _ _ _ (H5.at_ 4 _ rfl) (H5.at_ 5 _ rfl) (H5.at_ 6 _ rfl)) H5.df ?_
   subst hy
   exact ⟨l, [], 0, vP, none, 0, cs, by simpa using hF .done, rfl, own_base hrow (Nat.le_succ _), hpk.base (Nat.le_succ _), World.ownsRow_nil _ _ _ _, O1.bel⟩
  have hpos : 0 < y.length := List.length_pos_iff.2 hy
  refine H3.bb 0 rfl rfl rfl rfl rfl rfl (eql_iB _ _ false (by rw [beq_eq_false_iff_ne]; omega) _ _ _) rfl fun a4 H4 => nt (H4.condF rfl ?_)
  refine skip_wp (then_normal ?_)
  refine H4.rg 1 fun a5 H5 => ?_
  refine H5.cl (parseC y A c hc w1 hrd1 (by omega) (hT.below O1.bel)) ?_
  rintro a6 _ w2 ⟨m, nn, er, vc, vw, vf, rfl, hP, ⟨hR, hln⟩, hsm, hb⟩ H6
  have O2 := O1.call hb
  have hM2 := MqL.of_rows hR hln (by decide)
  refine H6.ms 1 fun a7 H7 => ?_
  refine H7.ex (r := .agg (mqCells m vc vw vf).toArray) 0 fun a8 H8 => ?_
  refine H8.ex (r := iz nn) 0 fun a9 H9 => ?_
  refine H9.ex (r := iz er) 0 fun a10 H10 => ?_
  refine H10.storeS rfl rfl rfl rfl rfl (O2.get 0 rfl) size_mq h24 rfl hM2.ones fun a11 w3 H11 hgr hs3 hC3 => ?_
  have O3 := O2.store 0 rfl hgr hs3 hC3
  have hrow3 := (own_below hrow hb).kept hgr (.inr (own_ne (own_below hrow hb) (.inl (Nat.lt_succ_self _))).symm)
  have hby3 := (own_below hby hb).kept hgr (.inr (own_ne (own_below hby hb) (.inl (Nat.lt_succ_self _))).symm)
  obtain ⟨hi, hhi, hpk⟩ := hpk
  have hlt2 := hR.lt
  have hpk3 := (hpk.next hb).box hgr (Nat.lt_succ_self _)
  have hi3 : hi ≤ w3.heap.size := Nat.le_trans hhi (Nat.le_trans hb.size hgr.size)
  have hR3 := hR.keptR hgr (hR.far (.inl (O1.lt 0 rfl)))
  refine H11.ms 2 fun a12 H12 => nt ?_
  replace H12 := H12.kp [4, 5, 6, 7, 8, 9]
  clear H1 H2 H3 H4 H5 H6 H7 H8 H9 H10 H11 O1 O2 hrow hby hpk hR hrd1
  refine H12.rg 1 fun a13 H13 => ?_
  by_cases h0 : er = 0
  ·subst h0
   refine H13.bb 0 rfl rfl rfl rfl rfl rfl (eql_35 0 0 true rfl _ _ _) rfl fun a14 H14 => nt (H14.condT rfl ?_)
   obtain ⟨hn2, hny⟩ := parsed_two hP
   refine H14.rg 1 fun a15 H15 => ?_
   refine H15.lm O3 0 0 fun a16 H16 => ?_
   refine H16.any (w' := w3.alloc (.cells (mqCells m vc vw vf).toArray 49)) gz rfl rfl (.slice (some ⟨w3.heap.size, 0, none⟩) 1 1) (by intro cs b h; cases h) (by kernel_rfl) (by kernel_rfl) fun a17 H17 => ?_
   have hl4 := Reads.lit w3 49 (mqCells m vc vw vf) (0, 0) 24 1 rfl
   have hb4 : Below w3.heap.size w3 (w3.alloc (.cells (mqCells m vc vw vf).toArray 49)) := balloc _ _
   generalize w3.alloc (.cells (mqCells m vc vw vf).toArray 49) = w4 at *
   obtain ⟨BB, hBB, hinf⟩ := info_mqx
   have hrow4 := own_below hrow3 hb4
   have O4 := O3.call hb4
   refine H17.app hrow4 hinf hl4 (fun u hu => List.all_eq_true.1 hM2.ones u hu) (by unfold maxLen; omega) (Nat.le_trans (Nat.mul_le_mul (show l.length + 1 ≤ 80000 by omega) hBB) (by decide)) (Nat.le_trans (O3.lt 0 rfl) hb4.size) fun a18 A' c' w5 hO5 hgr5 H18 => ?_
   have O5 := O4.row hrow4 (Nat.le_succ _) hgr5 (fun p hp => by
    rw [List.mem_singleton.1 hp]
    exact own_ne hrow4 (.inl (Nat.lt_succ_self _)))
   have hby4 := own_below hby3 hb4
   have hby5 := hby4.kept hgr5 (own_apart hby4 hrow4 rfl)
   have hpk5 := Prows.snoc ((hpk3.next hb4).row hrow4 hgr5 rfl) hhi hb.size ⟨vc, vw, vf, rfl, (hR3.belowR hb4).row hrow4 hgr5 rfl, hlt2, hln, hsm⟩
   refine H18.ms 1 fun a19 H19 => nt ?_
   refine H19.rg 2 fun a20 H20 => ?_
   refine H20.go gz rfl rfl _ (run_slice_l rfl (H20.ev rfl) (H20.ev rfl) (slice_lo A y.length c nn hny hc _)) fun a21 H21 => ?_
   refine H21.ms 1 fun a22 H22 => nt ?_
   refine wp_goto ?_
   repeat (with_reducible refine then_goto ?_)
   refine jump_goto ⟨⟨y.drop nn, l ++ [m], _, c - nn, y.length - nn, _, cs ++ mqCells m vc vw vf, _, vb, ⟨H22.keep ⟨rfl, rfl, rfl, rfl, trivial⟩, List.length_drop, by omega, by rw [List.length_append, List.length_drop]; simp only [List.length_singleton]; omega, fun h => by rw [List.append_assoc]; exact hF (.one hy hP h), O5, rfl, by rw [List.length_append]; exact hO5, ⟨_, Nat.le_trans (Nat.le_of_eq hs3.symm) (Nat.le_trans hb4.size hgr5.size), hpk5⟩, hby5, fun w' h => (hrd w' h).cut (k := nn) (cap := c) hny hc⟩⟩, ?_⟩
   unfold muFeed
   rw [show a22.tmps.getD 9 undef = _ from H22.at_ 9 _ rfl]
   show y.length - nn < y.length
   omega
  refine H13.bb 0 rfl rfl rfl rfl rfl rfl (eql_35 er 0 false (by rw [beq_eq_false_iff_ne]; exact h0) _ _ _) rfl fun a14 H14 => nt (H14.condF rfl ?_)
  refine skip_wp (then_normal ?_)
  refine H14.rg 1 fun a15 H15 => ?_
  by_cases h7 : er = 7
  ·subst h7
   refine H15.bb 0 rfl rfl rfl rfl rfl rfl (eql_35 7 7 true rfl _ _ _) rfl fun a16 H16 => nt (H16.condT rfl ?_)
   refine H16.rg 2 fun a17 H17 => ?_
   refine H17.cl (cloneC y A c w3 (hrd w3 hby3) (by omega)) ?_
   rintro a18 _ w4 ⟨A', c', rfl, hO4, hb4⟩ H18
   refine H18.ms 3 fun a19 H19 => nt (wp_ret ?_)
   repeat (first | (with_reducible refine jump_ret ?_) | (with_reducible refine then_ret ?_))
   refine bodyPost_ret (results_three rfl _ _ _ _ (H19.at_ 4 _ rfl) (H19.at_ 5 _ rfl) (H19.at_ 6 _ rfl)) H19.df ?_
   exact ⟨l, y, 0, vP, A', c', cs, by simpa using hF (.part hy hP), rfl, own_base (own_below hrow3 hb4) (Nat.le_succ _), PR.base ⟨hi, Nat.le_trans hi3 hb4.size, hpk3.next hb4⟩ (Nat.le_succ _), own_base hO4 O3.le, (O3.call hb4).bel⟩
  ·refine H15.bb 0 rfl rfl rfl rfl rfl rfl (eql_35 er 7 false (by rw [beq_eq_false_iff_ne]; exact h7) _ _ _) rfl fun a16 H16 => nt (H16.condF rfl ?_)
   refine skip_wp (then_normal ?_)
   refine H16.rg 5 fun a17 H17 => nt (wp_ret ?_)
   repeat (first | (with_reducible refine jump_ret ?_) | (with_reducible refine then_ret ?_))
   refine bodyPost_ret (results_three rfl _ _ _ _ (H17.at_ 4 _ rfl) (H17.at_ 5 _ rfl) (H17.at_ 6 _ rfl)) H17.df ?_
   exact ⟨l, [], er, vP, none, 0, cs, by simpa using hF (.bad hy hP h0 h7), rfl, own_base hrow3 (Nat.le_succ _), PR.base ⟨hi, hi3, hpk3⟩ (Nat.le_succ _), World.ownsRow_nil _ _ _ _, O3.bel⟩
end
end Go.Proofs.YtlacidnnankjlaaGreatDoor
