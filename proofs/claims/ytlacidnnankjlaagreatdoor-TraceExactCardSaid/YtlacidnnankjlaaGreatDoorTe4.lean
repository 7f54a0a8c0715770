/-
  Texts of the claim: Same OkP Only OnlyW Back Size RowW LayC Body Body8 BodyA InvS Only2 May Lay SizeW Rst RdC RdL.
-/
import Derived.Maps.AppendAt
import Derived.Deep.LoopGhost
import Derived.Test.YtlacidnnankjlaaGreatDoorTe3
namespace Go.Proofs.YtlacidnnankjlaaGreatDoor
set_option maxRecDepth 100000
set_option maxHeartbeats 25600000
section
open Go.RowKit
def Mq.same (a b:Mq):Bool:=((a.kind==b.kind)&&((a.client.toList==b.client.toList)&&((a.clean==b.clean)&&((a.keep==b.keep)&&((a.won==b.won)&&((a.wt.toList==b.wt.toList)&&((a.wp.toList==b.wp.toList)&&((a.wq==b.wq)&&((a.wr==b.wr)&&((a.user.toList==b.user.toList)&&((a.hu==b.hu)&&((a.pass.toList==b.pass.toList)&&((a.hp==b.hp)&&((a.present==b.present)&&((a.code==b.code)&&(eqG a.codes b.codes&&((a.dup==b.dup)&&((a.qos==b.qos)&&((a.retain==b.retain)&&((a.topic.toList==b.topic.toList)&&((a.id==b.id)&&((a.payload.toList==b.payload.toList)&&(eqG a.wishes b.wishes&&eqG a.filters b.filters)))))))))))))))))))))))
theorem Y0q {u v:ByteArray}(h:(u.toList==v.toList)=true):u=v:=by
 rw[beq_iff_eq,Lib.toList_data,Lib.toList_data] at h;exact ByteArray.ext (Array.toList_inj.1 h)
theorem Y1u (a b:Mq):Mq.same a b=true↔a=b:=by
 constructor
 ·intro h
  unfold Mq.same at h;simp only[Bool.and_eq_true] at h;obtain⟨h0,h1,h2,h3,h4,h5,h6,h7,h8,h9,h10,h11,h12,h13,h14,h15,h16,h17,h18,h19,h20,h21,h22,h23⟩:=h;cases a;cases b;simp only[Mq.mk.injEq];exact⟨by simpa using h0,Y0q h1,by simpa using h2,by simpa using h3,by simpa using h4,Y0q h5,Y0q h6,by simpa using h7,by simpa using h8,Y0q h9,by simpa using h10,Y0q h11,by simpa using h12,by simpa using h13,by simpa using h14,of_decide_eq_true h15,by simpa using h16,by simpa using h17,by simpa using h18,Y0q h19,by simpa using h20,Y0q h21,of_decide_eq_true h22,of_decide_eq_true h23⟩
 ·rintro rfl
  simp[Mq.same,Z5y]
def MqL (w:World) (B:Nat) (m:Mq) (vc vw vf:Value):Prop:=
 ∃A1 c1 A2 c2 A3 c3,vc = .slice A1 m.codes.length c1∧vw = .slice A2 m.wishes.length c2∧vf = .slice A3 m.filters.length c3 ∧
  m.codes.length≤c1∧m.wishes.length≤c2∧m.filters.length≤c3∧m.codes.length≤140737488351232∧m.wishes.length≤140737488351232∧m.filters.length≤140737488351232 ∧
  X4 w B 1 A1 m.codes.length (m.codes.map iv)∧X4 w B 2 A2 m.wishes.length (wv m.wishes)∧X4 w B 1 A3 m.filters.length (m.filters.map sv)
theorem MqL.next {w w':World}{m:Mq}{vc vw vf:Value}(h:MqL w w.heap.size m vc vw vf) (hb:Below w.heap.size w w'):MqL w' w'.heap.size m vc vw vf:=by
 obtain⟨A1,c1,A2,c2,A3,c3,e1,e2,e3,l1,l2,l3,k1,k2,k3,r1,r2,r3⟩:=h;exact⟨A1,c1,A2,c2,A3,c3,e1,e2,e3,l1,l2,l3,k1,k2,k3,(r1.below hb).more hb.size,(r2.below hb).more hb.size,(r3.below hb).more hb.size⟩
theorem X4.next {w w':World}{size n:Nat}{A:Option Addr}{xs:List Value}(h:X4 w w.heap.size size A n xs) (hb:Below w.heap.size w w'):X4 w' w'.heap.size size A n xs:=(h.below hb).more hb.size
theorem J5t (a b:Mq) (va vwa vfa vb vwb vfb:Value) (w:World) (ha:MqL w w.heap.size a va vwa vfa) (hb:MqL w w.heap.size b vb vwb vfb):
  Calls Tryz.prog 132 #[.agg (Z1 a va vwa vfa).toArray, .agg (Z1 b vb vwb vfb).toArray] w fun e w'=>e = .returned (.bool (Mq.same a b))∧Below w.heap.size w w':=by
 obtain⟨A1,p1,A2,p2,A3,p3,rfl,rfl,rfl,_,_,_,k1,k2,k3,r1,r2,r3⟩:=ha;obtain⟨B1,q1,B2,q2,B3,q3,rfl,rfl,rfl,_,_,_,_,_,_,s1,s2,s3⟩:=hb;have K1:=Lib.hid (fun w1 h=>Q2n a.codes b.codes A1 B1 p1 q1 w1 (r1.next h) (s1.next h) (by omega));have K2:=Lib.hid (fun w1 h=>J5s a.wishes b.wishes A2 B2 p2 q2 w1 (r2.next h) (s2.next h) (by omega));have K3:=Lib.hid (fun w1 h=>Q2o a.filters b.filters A3 B3 p3 q3 w1 (r3.next h) (s3.next h) (by omega));clear r1 r2 r3 s1 s2 s3 k1 k2 k3;have tok1:True:=trivial;have tok2:True:=trivial;go_enter Tryz.func132,Tryz.ntmps132
 go_upto_region 1 with (first
  |(have _t:=tok1;(with_reducible refine Y8 ?_ 49 (.tmp 0) ?_ (Z1 a (.slice A1 a.codes.length p1) (.slice A2 a.wishes.length p2) (.slice A3 a.filters.length p3)) ?_ w.heap.size ?_ ?_);exact rfl;exact rfl;exact rfl;exact rfl;intro w1 hb1 hs1 hC1;have HS1:=Lib.hid hs1;have HC1:=Lib.hid hC1;have HB1:=Lib.hid hb1;clear tok1 _t hs1 hC1 hb1)
  |(have _t:=tok2;have _s:=HS1;(with_reducible refine Y8 ?_ 49 (.tmp 1) ?_ (Z1 b (.slice B1 b.codes.length q1) (.slice B2 b.wishes.length q2) (.slice B3 b.filters.length q3)) ?_ (w.heap.size+1) ?_ ?_);exact rfl;exact rfl;exact rfl;exact HS1.out;intro w2 hb2 hs2 hC2;have HA2:=Lib.hid (HC1.out.below hb2 (Nat.lt_succ_self _));have HB2:=Lib.hid hC2;have HW2:=Lib.hid (HB1.out.trans (hb2.mono (Nat.le_succ _)));have HLa2:=Lib.hid (show w.heap.size<w2.heap.size by omega);have HLb2:=Lib.hid (show w.heap.size+1<w2.heap.size by omega);clear tok2 _t _s hs2 hC2 hb2))
 rename_i K hK
 refine wp_region_list ?_;refine Y1s (n:=143) (ga:=w.heap.size) (gb:=w.heap.size+1) rfl rfl rfl rfl (by decide) rfl rfl rfl rfl (by decide) X9a (J9 _ _ _ _ (HA2.out.get 0 _ rfl)) (J9 _ _ _ _ (HB2.out.get 0 _ rfl)) (N8 _ _ _ _ _) ?_;intro a1 F1;refine Q0 F1 (by decide) rfl rfl rfl rfl rfl rfl rfl (by decide) (by kernel_rfl) X9b (G1 _ _ _ _ (HA2.out.get 1 _ rfl)) (G1 _ _ _ _ (HB2.out.get 1 _ rfl)) (Z8j _ _ _ _ _) ?_;intro a2 F2;refine Q0 F2 (by decide) rfl rfl rfl rfl rfl rfl rfl (by decide) (by kernel_rfl) X9c (V0 _ _ _ _ (HA2.out.get 2 _ rfl)) (V0 _ _ _ _ (HB2.out.get 2 _ rfl)) (Z8i _ _ _ _ _) ?_;intro a3 F3;refine Q0 F3 (by decide) rfl rfl rfl rfl rfl rfl rfl (by decide) (by kernel_rfl) X0t (J9 _ _ _ _ (HA2.out.get 3 _ rfl)) (J9 _ _ _ _ (HB2.out.get 3 _ rfl)) (N8 _ _ _ _ _) ?_;intro a4 F4;refine Q0 F4 (by decide) rfl rfl rfl rfl rfl rfl rfl (by decide) (by kernel_rfl) X0u (Z2x _ _ _ _ _ _ _ _ HA2.out rfl rfl rfl rfl rfl) (Z2x _ _ _ _ _ _ _ _ HB2.out rfl rfl rfl rfl rfl) (Q0v _ _ _ _ _ _ _ _ _ _ _ _ _) ?_;intro a5 F5;refine Q0 F5 (by decide) rfl rfl rfl rfl rfl rfl rfl (by decide) (by kernel_rfl) Y4j (G1 _ _ _ _ (HA2.out.get 9 _ rfl)) (G1 _ _ _ _ (HB2.out.get 9 _ rfl)) (Z8j _ _ _ _ _) ?_;intro a6 F6;refine Q0 F6 (by decide) rfl rfl rfl rfl rfl rfl rfl (by decide) (by kernel_rfl) X0v (V0 _ _ _ _ (HA2.out.get 10 _ rfl)) (V0 _ _ _ _ (HB2.out.get 10 _ rfl)) (Z8i _ _ _ _ _) ?_;intro a7 F7;refine Q0 F7 (by decide) rfl rfl rfl rfl rfl rfl rfl (by decide) (by kernel_rfl) Y4k (G1 _ _ _ _ (HA2.out.get 11 _ rfl)) (G1 _ _ _ _ (HB2.out.get 11 _ rfl)) (Z8j _ _ _ _ _) ?_;intro a8 F8;refine Q0 F8 (by decide) rfl rfl rfl rfl rfl rfl rfl (by decide) (by kernel_rfl) Y4l (V0 _ _ _ _ (HA2.out.get 12 _ rfl)) (V0 _ _ _ _ (HB2.out.get 12 _ rfl)) (Z8i _ _ _ _ _) ?_;intro a9 F9;refine Q0 F9 (by decide) rfl rfl rfl rfl rfl rfl rfl (by decide) (by kernel_rfl) X0w (V0 _ _ _ _ (HA2.out.get 13 _ rfl)) (V0 _ _ _ _ (HB2.out.get 13 _ rfl)) (Z8i _ _ _ _ _) ?_;intro a10 F10;refine Q0 F10 (by decide) rfl rfl rfl rfl rfl rfl rfl (by decide) (by kernel_rfl) Y6l (J9 _ _ _ _ (HA2.out.get 14 _ rfl)) (J9 _ _ _ _ (HB2.out.get 14 _ rfl)) (N8 _ _ _ _ _) ?_;intro a11 F11;refine Z1t F11 (by decide) rfl rfl rfl rfl rfl rfl rfl (by decide) (by kernel_rfl) Z7n (D7 _ _ _ _ _ _ (HA2.out.get 15 _ rfl)) (D7 _ _ _ _ _ _ (HB2.out.get 15 _ rfl)) X6h (K1.out w2 HW2.out) ?_;intro a12 w3 F12 hx3;have HW3:=Lib.hid (HW2.out.trans (hx3.mono HW2.out.size));have HA3:=Lib.hid (HA2.out.below hx3 HLa2.out);have HB3:=Lib.hid (HB2.out.below hx3 HLb2.out);have HLa3:=Lib.hid (Nat.lt_of_lt_of_le HLa2.out hx3.size);have HLb3:=Lib.hid (Nat.lt_of_lt_of_le HLb2.out hx3.size);clear hx3;refine Q0 F12 (by decide) rfl rfl rfl rfl rfl rfl rfl (by decide) (by kernel_rfl) Y6m (V0 _ _ _ _ (HA3.out.get 16 _ rfl)) (V0 _ _ _ _ (HB3.out.get 16 _ rfl)) (Z8i _ _ _ _ _) ?_;intro a13 F13;refine Q0 F13 (by decide) rfl rfl rfl rfl rfl rfl rfl (by decide) (by kernel_rfl) Y6n (J9 _ _ _ _ (HA3.out.get 17 _ rfl)) (J9 _ _ _ _ (HB3.out.get 17 _ rfl)) (N8 _ _ _ _ _) ?_;intro a14 F14;refine Q0 F14 (by decide) rfl rfl rfl rfl rfl rfl rfl (by decide) (by kernel_rfl) X3u (V0 _ _ _ _ (HA3.out.get 18 _ rfl)) (V0 _ _ _ _ (HB3.out.get 18 _ rfl)) (Z8i _ _ _ _ _) ?_;intro a15 F15;refine Q0 F15 (by decide) rfl rfl rfl rfl rfl rfl rfl (by decide) (by kernel_rfl) Y6o (G1 _ _ _ _ (HA3.out.get 19 _ rfl)) (G1 _ _ _ _ (HB3.out.get 19 _ rfl)) (Z8j _ _ _ _ _) ?_;intro a16 F16;refine Q0 F16 (by decide) rfl rfl rfl rfl rfl rfl rfl (by decide) (by kernel_rfl) Y1t (J9 _ _ _ _ (HA3.out.get 20 _ rfl)) (J9 _ _ _ _ (HB3.out.get 20 _ rfl)) (N8 _ _ _ _ _) ?_;intro a17 F17;refine Q0 F17 (by decide) rfl rfl rfl rfl rfl rfl rfl (by decide) (by kernel_rfl) Y6p (G1 _ _ _ _ (HA3.out.get 21 _ rfl)) (G1 _ _ _ _ (HB3.out.get 21 _ rfl)) (Z8j _ _ _ _ _) ?_;intro a18 F18;refine Z1t F18 (by decide) rfl rfl rfl rfl rfl rfl rfl (by decide) (by kernel_rfl) Y6q (Z0o _ _ _ _ _ _ (HA3.out.get 22 _ rfl)) (Z0o _ _ _ _ _ _ (HB3.out.get 22 _ rfl)) X0x (K2.out w3 HW3.out) ?_
 intro a19 w4 F19 hx4;have HW4:=Lib.hid (HW3.out.trans (hx4.mono HW3.out.size));have HA4:=Lib.hid (HA3.out.below hx4 HLa3.out);have HB4:=Lib.hid (HB3.out.below hx4 HLb3.out);have HLa4:=Lib.hid (Nat.lt_of_lt_of_le HLa3.out hx4.size);have HLb4:=Lib.hid (Nat.lt_of_lt_of_le HLb3.out hx4.size);clear hx4;refine Z1t F19 (by decide) rfl rfl rfl rfl rfl rfl rfl (by decide) (by kernel_rfl) Z9j (S6 _ _ _ _ _ _ (HA4.out.get 23 _ rfl)) (S6 _ _ _ _ _ _ (HB4.out.get 23 _ rfl)) X6j (K3.out w4 HW4.out) ?_;intro a20 w5 F20 hx5;have HW5:=Lib.hid (HW4.out.trans (hx5.mono HW4.out.size));have HA5:=Lib.hid (HA4.out.below hx5 HLa4.out);have HB5:=Lib.hid (HB4.out.below hx5 HLb4.out);have HLa5:=Lib.hid (Nat.lt_of_lt_of_le HLa4.out hx5.size);have HLb5:=Lib.hid (Nat.lt_of_lt_of_le HLb4.out hx5.size);clear hx5;refine N5 (T0 rfl _) 4 rfl (a20.eval (.tmp 142)) w5 rfl ?_;have hr:(a20.put (some 4) (a20.eval (.tmp 142))).eval (.tmp 4) = .bool (Mq.same a b):=by
  rw[Act.eval_put_same _ _ _ (by rw[F20.sz];decide),F20.tk];simp only[Mq.same,Bool.and_assoc]
 have hdf:(a20.put (some 4) (a20.eval (.tmp 142))).defers=[]:=by rw[Act.defers_put',F20.df]
 generalize a20.put (some 4) (a20.eval (.tmp 142))=az at hr hdf;refine wpList_nil ?_;refine hK _ _ (wp_ret ?_);refine bodyPost_ret (results_tmp rfl _ _ _) hdf ⟨?_,HW5.out⟩;exact congrArg Ending.returned hr
theorem X9d (a b:Mq) (va vwa vfa vb vwb vfb:Value) (w:World) (ha:MqL w w.heap.size a va vwa vfa) (hb:MqL w w.heap.size b vb vwb vfb):
  Calls Tryz.prog 65 #[.agg (Z1 a va vwa vfa).toArray, .agg (Z1 b vb vwb vfb).toArray] w fun e w'=>e = .returned (.bool (Mq.same a b))∧Below w.heap.size w w':=by
 obtain⟨A1,p1,A2,p2,A3,p3,rfl,rfl,rfl,_,_,_,k1,k2,k3,r1,r2,r3⟩:=ha;obtain⟨B1,q1,B2,q2,B3,q3,rfl,rfl,rfl,_,_,_,_,_,_,s1,s2,s3⟩:=hb;have K1:=Lib.hid (fun w1 h=>Q2l a.codes b.codes A1 B1 p1 q1 w1 (r1.next h) (s1.next h) (by omega));have K2:=Lib.hid (fun w1 h=>J5r a.wishes b.wishes A2 B2 p2 q2 w1 (r2.next h) (s2.next h) (by omega));have K3:=Lib.hid (fun w1 h=>Q2m a.filters b.filters A3 B3 p3 q3 w1 (r3.next h) (s3.next h) (by omega));clear r1 r2 r3 s1 s2 s3 k1 k2 k3;have tok1:True:=trivial;have tok2:True:=trivial;go_enter Tryz.func65,Tryz.ntmps65
 go_upto_region 1 with (first
  |(have _t:=tok1;(with_reducible refine Y8 ?_ 49 (.tmp 0) ?_ (Z1 a (.slice A1 a.codes.length p1) (.slice A2 a.wishes.length p2) (.slice A3 a.filters.length p3)) ?_ w.heap.size ?_ ?_);exact rfl;exact rfl;exact rfl;exact rfl;intro w1 hb1 hs1 hC1;have HS1:=Lib.hid hs1;have HC1:=Lib.hid hC1;have HB1:=Lib.hid hb1;clear tok1 _t hs1 hC1 hb1)
  |(have _t:=tok2;have _s:=HS1;(with_reducible refine Y8 ?_ 49 (.tmp 1) ?_ (Z1 b (.slice B1 b.codes.length q1) (.slice B2 b.wishes.length q2) (.slice B3 b.filters.length q3)) ?_ (w.heap.size+1) ?_ ?_);exact rfl;exact rfl;exact rfl;exact HS1.out;intro w2 hb2 hs2 hC2;have HA2:=Lib.hid (HC1.out.below hb2 (Nat.lt_succ_self _));have HB2:=Lib.hid hC2;have HW2:=Lib.hid (HB1.out.trans (hb2.mono (Nat.le_succ _)));have HLa2:=Lib.hid (show w.heap.size<w2.heap.size by omega);have HLb2:=Lib.hid (show w.heap.size+1<w2.heap.size by omega);clear tok2 _t _s hs2 hC2 hb2))
 rename_i K hK
 refine wp_region_list ?_;refine Y1s (n:=143) (ga:=w.heap.size) (gb:=w.heap.size+1) rfl rfl rfl rfl (by decide) rfl rfl rfl rfl (by decide) X9a (J9 _ _ _ _ (HA2.out.get 0 _ rfl)) (J9 _ _ _ _ (HB2.out.get 0 _ rfl)) (N8 _ _ _ _ _) ?_;intro a1 F1;refine Q0 F1 (by decide) rfl rfl rfl rfl rfl rfl rfl (by decide) (by kernel_rfl) X9b (G1 _ _ _ _ (HA2.out.get 1 _ rfl)) (G1 _ _ _ _ (HB2.out.get 1 _ rfl)) (Z8j _ _ _ _ _) ?_;intro a2 F2;refine Q0 F2 (by decide) rfl rfl rfl rfl rfl rfl rfl (by decide) (by kernel_rfl) X9c (V0 _ _ _ _ (HA2.out.get 2 _ rfl)) (V0 _ _ _ _ (HB2.out.get 2 _ rfl)) (Z8i _ _ _ _ _) ?_;intro a3 F3;refine Q0 F3 (by decide) rfl rfl rfl rfl rfl rfl rfl (by decide) (by kernel_rfl) X0t (J9 _ _ _ _ (HA2.out.get 3 _ rfl)) (J9 _ _ _ _ (HB2.out.get 3 _ rfl)) (N8 _ _ _ _ _) ?_;intro a4 F4;refine Q0 F4 (by decide) rfl rfl rfl rfl rfl rfl rfl (by decide) (by kernel_rfl) X0u (Z2x _ _ _ _ _ _ _ _ HA2.out rfl rfl rfl rfl rfl) (Z2x _ _ _ _ _ _ _ _ HB2.out rfl rfl rfl rfl rfl) (Q0v _ _ _ _ _ _ _ _ _ _ _ _ _) ?_;intro a5 F5;refine Q0 F5 (by decide) rfl rfl rfl rfl rfl rfl rfl (by decide) (by kernel_rfl) Y4j (G1 _ _ _ _ (HA2.out.get 9 _ rfl)) (G1 _ _ _ _ (HB2.out.get 9 _ rfl)) (Z8j _ _ _ _ _) ?_;intro a6 F6;refine Q0 F6 (by decide) rfl rfl rfl rfl rfl rfl rfl (by decide) (by kernel_rfl) X0v (V0 _ _ _ _ (HA2.out.get 10 _ rfl)) (V0 _ _ _ _ (HB2.out.get 10 _ rfl)) (Z8i _ _ _ _ _) ?_;intro a7 F7;refine Q0 F7 (by decide) rfl rfl rfl rfl rfl rfl rfl (by decide) (by kernel_rfl) Y4k (G1 _ _ _ _ (HA2.out.get 11 _ rfl)) (G1 _ _ _ _ (HB2.out.get 11 _ rfl)) (Z8j _ _ _ _ _) ?_;intro a8 F8;refine Q0 F8 (by decide) rfl rfl rfl rfl rfl rfl rfl (by decide) (by kernel_rfl) Y4l (V0 _ _ _ _ (HA2.out.get 12 _ rfl)) (V0 _ _ _ _ (HB2.out.get 12 _ rfl)) (Z8i _ _ _ _ _) ?_;intro a9 F9;refine Q0 F9 (by decide) rfl rfl rfl rfl rfl rfl rfl (by decide) (by kernel_rfl) X0w (V0 _ _ _ _ (HA2.out.get 13 _ rfl)) (V0 _ _ _ _ (HB2.out.get 13 _ rfl)) (Z8i _ _ _ _ _) ?_;intro a10 F10;refine Q0 F10 (by decide) rfl rfl rfl rfl rfl rfl rfl (by decide) (by kernel_rfl) Y6l (J9 _ _ _ _ (HA2.out.get 14 _ rfl)) (J9 _ _ _ _ (HB2.out.get 14 _ rfl)) (N8 _ _ _ _ _) ?_;intro a11 F11;refine Z1t F11 (by decide) rfl rfl rfl rfl rfl rfl rfl (by decide) (by kernel_rfl) Z7n (D7 _ _ _ _ _ _ (HA2.out.get 15 _ rfl)) (D7 _ _ _ _ _ _ (HB2.out.get 15 _ rfl)) X6i (K1.out w2 HW2.out) ?_;intro a12 w3 F12 hx3;have HW3:=Lib.hid (HW2.out.trans (hx3.mono HW2.out.size));have HA3:=Lib.hid (HA2.out.below hx3 HLa2.out);have HB3:=Lib.hid (HB2.out.below hx3 HLb2.out);have HLa3:=Lib.hid (Nat.lt_of_lt_of_le HLa2.out hx3.size);have HLb3:=Lib.hid (Nat.lt_of_lt_of_le HLb2.out hx3.size);clear hx3;refine Q0 F12 (by decide) rfl rfl rfl rfl rfl rfl rfl (by decide) (by kernel_rfl) Y6m (V0 _ _ _ _ (HA3.out.get 16 _ rfl)) (V0 _ _ _ _ (HB3.out.get 16 _ rfl)) (Z8i _ _ _ _ _) ?_;intro a13 F13;refine Q0 F13 (by decide) rfl rfl rfl rfl rfl rfl rfl (by decide) (by kernel_rfl) Y6n (J9 _ _ _ _ (HA3.out.get 17 _ rfl)) (J9 _ _ _ _ (HB3.out.get 17 _ rfl)) (N8 _ _ _ _ _) ?_;intro a14 F14;refine Q0 F14 (by decide) rfl rfl rfl rfl rfl rfl rfl (by decide) (by kernel_rfl) X3u (V0 _ _ _ _ (HA3.out.get 18 _ rfl)) (V0 _ _ _ _ (HB3.out.get 18 _ rfl)) (Z8i _ _ _ _ _) ?_;intro a15 F15;refine Q0 F15 (by decide) rfl rfl rfl rfl rfl rfl rfl (by decide) (by kernel_rfl) Y6o (G1 _ _ _ _ (HA3.out.get 19 _ rfl)) (G1 _ _ _ _ (HB3.out.get 19 _ rfl)) (Z8j _ _ _ _ _) ?_;intro a16 F16;refine Q0 F16 (by decide) rfl rfl rfl rfl rfl rfl rfl (by decide) (by kernel_rfl) Y1t (J9 _ _ _ _ (HA3.out.get 20 _ rfl)) (J9 _ _ _ _ (HB3.out.get 20 _ rfl)) (N8 _ _ _ _ _) ?_;intro a17 F17;refine Q0 F17 (by decide) rfl rfl rfl rfl rfl rfl rfl (by decide) (by kernel_rfl) Y6p (G1 _ _ _ _ (HA3.out.get 21 _ rfl)) (G1 _ _ _ _ (HB3.out.get 21 _ rfl)) (Z8j _ _ _ _ _) ?_;intro a18 F18;refine Z1t F18 (by decide) rfl rfl rfl rfl rfl rfl rfl (by decide) (by kernel_rfl) Y6q (Z0o _ _ _ _ _ _ (HA3.out.get 22 _ rfl)) (Z0o _ _ _ _ _ _ (HB3.out.get 22 _ rfl)) X0y (K2.out w3 HW3.out) ?_
 intro a19 w4 F19 hx4;have HW4:=Lib.hid (HW3.out.trans (hx4.mono HW3.out.size));have HA4:=Lib.hid (HA3.out.below hx4 HLa3.out);have HB4:=Lib.hid (HB3.out.below hx4 HLb3.out);have HLa4:=Lib.hid (Nat.lt_of_lt_of_le HLa3.out hx4.size);have HLb4:=Lib.hid (Nat.lt_of_lt_of_le HLb3.out hx4.size);clear hx4;refine Z1t F19 (by decide) rfl rfl rfl rfl rfl rfl rfl (by decide) (by kernel_rfl) Z9j (S6 _ _ _ _ _ _ (HA4.out.get 23 _ rfl)) (S6 _ _ _ _ _ _ (HB4.out.get 23 _ rfl)) X6k (K3.out w4 HW4.out) ?_;intro a20 w5 F20 hx5;have HW5:=Lib.hid (HW4.out.trans (hx5.mono HW4.out.size));have HA5:=Lib.hid (HA4.out.below hx5 HLa4.out);have HB5:=Lib.hid (HB4.out.below hx5 HLb4.out);have HLa5:=Lib.hid (Nat.lt_of_lt_of_le HLa4.out hx5.size);have HLb5:=Lib.hid (Nat.lt_of_lt_of_le HLb4.out hx5.size);clear hx5;refine N5 (T0 rfl _) 4 rfl (a20.eval (.tmp 142)) w5 rfl ?_;have hr:(a20.put (some 4) (a20.eval (.tmp 142))).eval (.tmp 4) = .bool (Mq.same a b):=by
  rw[Act.eval_put_same _ _ _ (by rw[F20.sz];decide),F20.tk];simp only[Mq.same,Bool.and_assoc]
 have hdf:(a20.put (some 4) (a20.eval (.tmp 142))).defers=[]:=by rw[Act.defers_put',F20.df]
 generalize a20.put (some 4) (a20.eval (.tmp 142))=az at hr hdf;refine wpList_nil ?_;refine hK _ _ (wp_ret ?_);refine bodyPost_ret (results_tmp rfl _ _ _) hdf ⟨?_,HW5.out⟩;exact congrArg Ending.returned hr
end
section
open Go.RowKit
theorem X0z (m:Mq) (vc vw vf:Value) (h1:Y0c m.client) (h2:Y0c m.wt) (h3:Y0c m.user) (w:World) (hT:Wd w):
  Calls Tryz.prog 152 #[.agg (Z1 m vc vw vf).toArray] w fun e w'=>e = .returned (.bool (E4 m))∧Below w.heap.size w w':=by
 have HP:=Lib.hid (show E4 m=(G3 m.client 0 23&&(V6 m.keep 0 65535&&(Z9c m&&(G3 m.user 0 64&&(decide ((m.pass.size:Int)≤64)&&((m.hu||(emp m.user && !m.hp))&&(m.hp||emp m.pass))))))) from rfl);have K1:=Lib.hid (fun w1 hb=>Z5c m.client h1 0 23 w1 (hT.below hb));have K2:=Lib.hid (fun w1=>P7 m.keep 0 65535 w1);have K3:=Lib.hid (fun w1 hb=>J0s m.won m.wt m.wp m.wq m.wr h2 w1 (hT.below hb));have K4:=Lib.hid (fun w1 hb=>Z5c m.user h3 0 64 w1 (hT.below hb));rw[←J0r] at K3;clear hT h1 h2 h3;generalize G3 m.client 0 23=B1 at K1 HP;generalize V6 m.keep 0 65535=B2 at K2 HP;generalize Z9c m=B3 at K3 HP;generalize G3 m.user 0 64=B4 at K4 HP;generalize E4 m=Z at *;cases B1 with
 |false=>
  go_enter Tryz.func152,Tryz.ntmps152
  go_upto_region 1 with (refine Y8 rfl 49 _ rfl (Z1 m vc vw vf) (by exact rfl) w.heap.size rfl ?_;intro w1 hb1 hs1 hC1;have HC1:=Lib.hid hC1;have HB1:=Lib.hid hb1;have HL1:=Lib.hid (show w.heap.size<w1.heap.size by omega);clear hs1 hC1 hb1;have c1_1:=HC1.out.get 1 _ rfl)
  go_wp2_with (first
   |(go_at_call 165;(with_reducible refine(K1.out w1 HB1.out).mono ?_);rintro _ w2 ⟨rfl,hb2⟩;have HC2:=Lib.hid (HC1.out.below hb2 HL1.out);have HB2:=Lib.hid (HB1.out.trans (hb2.mono HB1.out.size));have HL2:=Lib.hid (Nat.lt_of_lt_of_le HL1.out hb2.size);clear hb2;have c2_3:=HC2.out.get 3 _ rfl;have c2_4:=HC2.out.get 4 _ rfl;have c2_5:=HC2.out.get 5 _ rfl;have c2_6:=HC2.out.get 6 _ rfl;have c2_7:=HC2.out.get 7 _ rfl;have c2_8:=HC2.out.get 8 _ rfl)
   |(go_at_call 151;(with_reducible refine(K2.out _).mono ?_);rintro _ w9 ⟨rfl,rfl⟩)
   |(go_at_call 166;(with_reducible refine(K3.out w2 HB2.out).mono ?_);rintro _ w3 ⟨rfl,hb3⟩;have HC3:=Lib.hid (HC2.out.below hb3 HL2.out);have HB3:=Lib.hid (HB2.out.trans (hb3.mono HB2.out.size));have HL3:=Lib.hid (Nat.lt_of_lt_of_le HL2.out hb3.size);clear hb3;have c3_9:=HC3.out.get 9 _ rfl)
   |(go_at_call 165;(with_reducible refine(K4.out w3 HB3.out).mono ?_);rintro _ w4 ⟨rfl,hb4⟩;have HC4:=Lib.hid (HC3.out.below hb4 HL3.out);have HB4:=Lib.hid (HB3.out.trans (hb4.mono HB3.out.size));have HL4:=Lib.hid (Nat.lt_of_lt_of_le HL3.out hb4.size);clear hb4;have c4_9:=HC4.out.get 9 _ rfl;have c4_10:=HC4.out.get 10 _ rfl;have c4_11:=HC4.out.get 11 _ rfl;have c4_12:=HC4.out.get 12 _ rfl))
  go_ret
  exact⟨by rw[HP.out];rfl,HB2.out⟩
 |true=>
  cases B2 with
  |false=>
   go_enter Tryz.func152,Tryz.ntmps152
   go_upto_region 1 with (refine Y8 rfl 49 _ rfl (Z1 m vc vw vf) (by exact rfl) w.heap.size rfl ?_;intro w1 hb1 hs1 hC1;have HC1:=Lib.hid hC1;have HB1:=Lib.hid hb1;have HL1:=Lib.hid (show w.heap.size<w1.heap.size by omega);clear hs1 hC1 hb1;have c1_1:=HC1.out.get 1 _ rfl)
   go_wp2_with (first
    |(go_at_call 165;(with_reducible refine(K1.out w1 HB1.out).mono ?_);rintro _ w2 ⟨rfl,hb2⟩;have HC2:=Lib.hid (HC1.out.below hb2 HL1.out);have HB2:=Lib.hid (HB1.out.trans (hb2.mono HB1.out.size));have HL2:=Lib.hid (Nat.lt_of_lt_of_le HL1.out hb2.size);clear hb2;have c2_3:=HC2.out.get 3 _ rfl;have c2_4:=HC2.out.get 4 _ rfl;have c2_5:=HC2.out.get 5 _ rfl;have c2_6:=HC2.out.get 6 _ rfl;have c2_7:=HC2.out.get 7 _ rfl;have c2_8:=HC2.out.get 8 _ rfl)
    |(go_at_call 151;(with_reducible refine(K2.out _).mono ?_);rintro _ w9 ⟨rfl,rfl⟩)
    |(go_at_call 166;(with_reducible refine(K3.out w2 HB2.out).mono ?_);rintro _ w3 ⟨rfl,hb3⟩;have HC3:=Lib.hid (HC2.out.below hb3 HL2.out);have HB3:=Lib.hid (HB2.out.trans (hb3.mono HB2.out.size));have HL3:=Lib.hid (Nat.lt_of_lt_of_le HL2.out hb3.size);clear hb3;have c3_9:=HC3.out.get 9 _ rfl)
    |(go_at_call 165;(with_reducible refine(K4.out w3 HB3.out).mono ?_);rintro _ w4 ⟨rfl,hb4⟩;have HC4:=Lib.hid (HC3.out.below hb4 HL3.out);have HB4:=Lib.hid (HB3.out.trans (hb4.mono HB3.out.size));have HL4:=Lib.hid (Nat.lt_of_lt_of_le HL3.out hb4.size);clear hb4;have c4_9:=HC4.out.get 9 _ rfl;have c4_10:=HC4.out.get 10 _ rfl;have c4_11:=HC4.out.get 11 _ rfl;have c4_12:=HC4.out.get 12 _ rfl))
   go_ret
   exact⟨by rw[HP.out];rfl,HB2.out⟩
  |true=>
   cases B3 with
   |false=>
    go_enter Tryz.func152,Tryz.ntmps152
    go_upto_region 1 with (refine Y8 rfl 49 _ rfl (Z1 m vc vw vf) (by exact rfl) w.heap.size rfl ?_;intro w1 hb1 hs1 hC1;have HC1:=Lib.hid hC1;have HB1:=Lib.hid hb1;have HL1:=Lib.hid (show w.heap.size<w1.heap.size by omega);clear hs1 hC1 hb1;have c1_1:=HC1.out.get 1 _ rfl)
    go_wp2_with (first
     |(go_at_call 165;(with_reducible refine(K1.out w1 HB1.out).mono ?_);rintro _ w2 ⟨rfl,hb2⟩;have HC2:=Lib.hid (HC1.out.below hb2 HL1.out);have HB2:=Lib.hid (HB1.out.trans (hb2.mono HB1.out.size));have HL2:=Lib.hid (Nat.lt_of_lt_of_le HL1.out hb2.size);clear hb2;have c2_3:=HC2.out.get 3 _ rfl;have c2_4:=HC2.out.get 4 _ rfl;have c2_5:=HC2.out.get 5 _ rfl;have c2_6:=HC2.out.get 6 _ rfl;have c2_7:=HC2.out.get 7 _ rfl;have c2_8:=HC2.out.get 8 _ rfl)
     |(go_at_call 151;(with_reducible refine(K2.out _).mono ?_);rintro _ w9 ⟨rfl,rfl⟩)
     |(go_at_call 166;(with_reducible refine(K3.out w2 HB2.out).mono ?_);rintro _ w3 ⟨rfl,hb3⟩;have HC3:=Lib.hid (HC2.out.below hb3 HL2.out);have HB3:=Lib.hid (HB2.out.trans (hb3.mono HB2.out.size));have HL3:=Lib.hid (Nat.lt_of_lt_of_le HL2.out hb3.size);clear hb3;have c3_9:=HC3.out.get 9 _ rfl)
     |(go_at_call 165;(with_reducible refine(K4.out w3 HB3.out).mono ?_);rintro _ w4 ⟨rfl,hb4⟩;have HC4:=Lib.hid (HC3.out.below hb4 HL3.out);have HB4:=Lib.hid (HB3.out.trans (hb4.mono HB3.out.size));have HL4:=Lib.hid (Nat.lt_of_lt_of_le HL3.out hb4.size);clear hb4;have c4_9:=HC4.out.get 9 _ rfl;have c4_10:=HC4.out.get 10 _ rfl;have c4_11:=HC4.out.get 11 _ rfl;have c4_12:=HC4.out.get 12 _ rfl))
    go_ret
    exact⟨by rw[HP.out];rfl,HB3.out⟩
   |true=>
    cases B4 with
    |false=>
     go_enter Tryz.func152,Tryz.ntmps152
     go_upto_region 1 with (refine Y8 rfl 49 _ rfl (Z1 m vc vw vf) (by exact rfl) w.heap.size rfl ?_;intro w1 hb1 hs1 hC1;have HC1:=Lib.hid hC1;have HB1:=Lib.hid hb1;have HL1:=Lib.hid (show w.heap.size<w1.heap.size by omega);clear hs1 hC1 hb1;have c1_1:=HC1.out.get 1 _ rfl)
     go_wp2_with (first
      |(go_at_call 165;(with_reducible refine(K1.out w1 HB1.out).mono ?_);rintro _ w2 ⟨rfl,hb2⟩;have HC2:=Lib.hid (HC1.out.below hb2 HL1.out);have HB2:=Lib.hid (HB1.out.trans (hb2.mono HB1.out.size));have HL2:=Lib.hid (Nat.lt_of_lt_of_le HL1.out hb2.size);clear hb2;have c2_3:=HC2.out.get 3 _ rfl;have c2_4:=HC2.out.get 4 _ rfl;have c2_5:=HC2.out.get 5 _ rfl;have c2_6:=HC2.out.get 6 _ rfl;have c2_7:=HC2.out.get 7 _ rfl;have c2_8:=HC2.out.get 8 _ rfl)
      |(go_at_call 151;(with_reducible refine(K2.out _).mono ?_);rintro _ w9 ⟨rfl,rfl⟩)
      |(go_at_call 166;(with_reducible refine(K3.out w2 HB2.out).mono ?_);rintro _ w3 ⟨rfl,hb3⟩;have HC3:=Lib.hid (HC2.out.below hb3 HL2.out);have HB3:=Lib.hid (HB2.out.trans (hb3.mono HB2.out.size));have HL3:=Lib.hid (Nat.lt_of_lt_of_le HL2.out hb3.size);clear hb3;have c3_9:=HC3.out.get 9 _ rfl)
      |(go_at_call 165;(with_reducible refine(K4.out w3 HB3.out).mono ?_);rintro _ w4 ⟨rfl,hb4⟩;have HC4:=Lib.hid (HC3.out.below hb4 HL3.out);have HB4:=Lib.hid (HB3.out.trans (hb4.mono HB3.out.size));have HL4:=Lib.hid (Nat.lt_of_lt_of_le HL3.out hb4.size);clear hb4;have c4_9:=HC4.out.get 9 _ rfl;have c4_10:=HC4.out.get 10 _ rfl;have c4_11:=HC4.out.get 11 _ rfl;have c4_12:=HC4.out.get 12 _ rfl))
     go_ret
     exact⟨by rw[HP.out];rfl,HB4.out⟩
    |true=>
     by_cases h5:(m.pass.size:Int)≤64
     ·rw[decide_eq_true h5] at HP
      cases h6:m.hu with
      |true=>
       rw[h6] at HP;cases h7:m.hp with
       |true=>
        rw[h7] at HP;have HP:Hid (Z=true):=by unfold Hid;have:=HP.out;simpa using this
        go_enter Tryz.func152,Tryz.ntmps152
        go_upto_region 1 with (refine Y8 rfl 49 _ rfl (Z1 m vc vw vf) (by exact rfl) w.heap.size rfl ?_;intro w1 hb1 hs1 hC1;have HC1:=Lib.hid hC1;have HB1:=Lib.hid hb1;have HL1:=Lib.hid (show w.heap.size<w1.heap.size by omega);clear hs1 hC1 hb1;have c1_1:=HC1.out.get 1 _ rfl)
        go_wp2_with (first
         |(go_at_call 165;(with_reducible refine(K1.out w1 HB1.out).mono ?_);rintro _ w2 ⟨rfl,hb2⟩;have HC2:=Lib.hid (HC1.out.below hb2 HL1.out);have HB2:=Lib.hid (HB1.out.trans (hb2.mono HB1.out.size));have HL2:=Lib.hid (Nat.lt_of_lt_of_le HL1.out hb2.size);clear hb2;have c2_3:=HC2.out.get 3 _ rfl;have c2_4:=HC2.out.get 4 _ rfl;have c2_5:=HC2.out.get 5 _ rfl;have c2_6:=HC2.out.get 6 _ rfl;have c2_7:=HC2.out.get 7 _ rfl;have c2_8:=HC2.out.get 8 _ rfl)
         |(go_at_call 151;(with_reducible refine(K2.out _).mono ?_);rintro _ w9 ⟨rfl,rfl⟩)
         |(go_at_call 166;(with_reducible refine(K3.out w2 HB2.out).mono ?_);rintro _ w3 ⟨rfl,hb3⟩;have HC3:=Lib.hid (HC2.out.below hb3 HL2.out);have HB3:=Lib.hid (HB2.out.trans (hb3.mono HB2.out.size));have HL3:=Lib.hid (Nat.lt_of_lt_of_le HL2.out hb3.size);clear hb3;have c3_9:=HC3.out.get 9 _ rfl)
         |(go_at_call 165;(with_reducible refine(K4.out w3 HB3.out).mono ?_);rintro _ w4 ⟨rfl,hb4⟩;have HC4:=Lib.hid (HC3.out.below hb4 HL3.out);have HB4:=Lib.hid (HB3.out.trans (hb4.mono HB3.out.size));have HL4:=Lib.hid (Nat.lt_of_lt_of_le HL3.out hb4.size);clear hb4;have c4_9:=HC4.out.get 9 _ rfl;have c4_10:=HC4.out.get 10 _ rfl;have c4_11:=HC4.out.get 11 _ rfl;have c4_12:=HC4.out.get 12 _ rfl))
        go_ret
        exact⟨by rw[HP.out];rfl,HB4.out⟩
       |false=>
        rw[h7] at HP;have HP:Hid (Z=emp m.pass):=by unfold Hid;have:=HP.out;simpa using this
        by_cases h8:m.pass.toList=[]
        ·rw[Z4c h8] at HP
         go_enter Tryz.func152,Tryz.ntmps152
         go_upto_region 1 with (refine Y8 rfl 49 _ rfl (Z1 m vc vw vf) (by exact rfl) w.heap.size rfl ?_;intro w1 hb1 hs1 hC1;have HC1:=Lib.hid hC1;have HB1:=Lib.hid hb1;have HL1:=Lib.hid (show w.heap.size<w1.heap.size by omega);clear hs1 hC1 hb1;have c1_1:=HC1.out.get 1 _ rfl)
         go_wp2_with (first
          |(go_at_call 165;(with_reducible refine(K1.out w1 HB1.out).mono ?_);rintro _ w2 ⟨rfl,hb2⟩;have HC2:=Lib.hid (HC1.out.below hb2 HL1.out);have HB2:=Lib.hid (HB1.out.trans (hb2.mono HB1.out.size));have HL2:=Lib.hid (Nat.lt_of_lt_of_le HL1.out hb2.size);clear hb2;have c2_3:=HC2.out.get 3 _ rfl;have c2_4:=HC2.out.get 4 _ rfl;have c2_5:=HC2.out.get 5 _ rfl;have c2_6:=HC2.out.get 6 _ rfl;have c2_7:=HC2.out.get 7 _ rfl;have c2_8:=HC2.out.get 8 _ rfl)
          |(go_at_call 151;(with_reducible refine(K2.out _).mono ?_);rintro _ w9 ⟨rfl,rfl⟩)
          |(go_at_call 166;(with_reducible refine(K3.out w2 HB2.out).mono ?_);rintro _ w3 ⟨rfl,hb3⟩;have HC3:=Lib.hid (HC2.out.below hb3 HL2.out);have HB3:=Lib.hid (HB2.out.trans (hb3.mono HB2.out.size));have HL3:=Lib.hid (Nat.lt_of_lt_of_le HL2.out hb3.size);clear hb3;have c3_9:=HC3.out.get 9 _ rfl)
          |(go_at_call 165;(with_reducible refine(K4.out w3 HB3.out).mono ?_);rintro _ w4 ⟨rfl,hb4⟩;have HC4:=Lib.hid (HC3.out.below hb4 HL3.out);have HB4:=Lib.hid (HB3.out.trans (hb4.mono HB3.out.size));have HL4:=Lib.hid (Nat.lt_of_lt_of_le HL3.out hb4.size);clear hb4;have c4_9:=HC4.out.get 9 _ rfl;have c4_10:=HC4.out.get 10 _ rfl;have c4_11:=HC4.out.get 11 _ rfl;have c4_12:=HC4.out.get 12 _ rfl))
         go_ret
         exact⟨by rw[HP.out];rfl,HB4.out⟩
        ·have h8':m.pass.toList.isEmpty=false:=by simpa using h8
         rw[Z2v h8] at HP;go_enter Tryz.func152,Tryz.ntmps152
         go_upto_region 1 with (refine Y8 rfl 49 _ rfl (Z1 m vc vw vf) (by exact rfl) w.heap.size rfl ?_;intro w1 hb1 hs1 hC1;have HC1:=Lib.hid hC1;have HB1:=Lib.hid hb1;have HL1:=Lib.hid (show w.heap.size<w1.heap.size by omega);clear hs1 hC1 hb1;have c1_1:=HC1.out.get 1 _ rfl)
         go_wp2_with (first
          |(go_at_call 165;(with_reducible refine(K1.out w1 HB1.out).mono ?_);rintro _ w2 ⟨rfl,hb2⟩;have HC2:=Lib.hid (HC1.out.below hb2 HL1.out);have HB2:=Lib.hid (HB1.out.trans (hb2.mono HB1.out.size));have HL2:=Lib.hid (Nat.lt_of_lt_of_le HL1.out hb2.size);clear hb2;have c2_3:=HC2.out.get 3 _ rfl;have c2_4:=HC2.out.get 4 _ rfl;have c2_5:=HC2.out.get 5 _ rfl;have c2_6:=HC2.out.get 6 _ rfl;have c2_7:=HC2.out.get 7 _ rfl;have c2_8:=HC2.out.get 8 _ rfl)
          |(go_at_call 151;(with_reducible refine(K2.out _).mono ?_);rintro _ w9 ⟨rfl,rfl⟩)
          |(go_at_call 166;(with_reducible refine(K3.out w2 HB2.out).mono ?_);rintro _ w3 ⟨rfl,hb3⟩;have HC3:=Lib.hid (HC2.out.below hb3 HL2.out);have HB3:=Lib.hid (HB2.out.trans (hb3.mono HB2.out.size));have HL3:=Lib.hid (Nat.lt_of_lt_of_le HL2.out hb3.size);clear hb3;have c3_9:=HC3.out.get 9 _ rfl)
          |(go_at_call 165;(with_reducible refine(K4.out w3 HB3.out).mono ?_);rintro _ w4 ⟨rfl,hb4⟩;have HC4:=Lib.hid (HC3.out.below hb4 HL3.out);have HB4:=Lib.hid (HB3.out.trans (hb4.mono HB3.out.size));have HL4:=Lib.hid (Nat.lt_of_lt_of_le HL3.out hb4.size);clear hb4;have c4_9:=HC4.out.get 9 _ rfl;have c4_10:=HC4.out.get 10 _ rfl;have c4_11:=HC4.out.get 11 _ rfl;have c4_12:=HC4.out.get 12 _ rfl))
         go_ret
         exact⟨by rw[HP.out];rfl,HB4.out⟩
      |false=>
       rw[h6] at HP;by_cases h9:m.user.toList=[]
       ·rw[Z4c h9] at HP
        cases h7:m.hp with
        |true=>
         rw[h7] at HP;go_enter Tryz.func152,Tryz.ntmps152
         go_upto_region 1 with (refine Y8 rfl 49 _ rfl (Z1 m vc vw vf) (by exact rfl) w.heap.size rfl ?_;intro w1 hb1 hs1 hC1;have HC1:=Lib.hid hC1;have HB1:=Lib.hid hb1;have HL1:=Lib.hid (show w.heap.size<w1.heap.size by omega);clear hs1 hC1 hb1;have c1_1:=HC1.out.get 1 _ rfl)
         go_wp2_with (first
          |(go_at_call 165;(with_reducible refine(K1.out w1 HB1.out).mono ?_);rintro _ w2 ⟨rfl,hb2⟩;have HC2:=Lib.hid (HC1.out.below hb2 HL1.out);have HB2:=Lib.hid (HB1.out.trans (hb2.mono HB1.out.size));have HL2:=Lib.hid (Nat.lt_of_lt_of_le HL1.out hb2.size);clear hb2;have c2_3:=HC2.out.get 3 _ rfl;have c2_4:=HC2.out.get 4 _ rfl;have c2_5:=HC2.out.get 5 _ rfl;have c2_6:=HC2.out.get 6 _ rfl;have c2_7:=HC2.out.get 7 _ rfl;have c2_8:=HC2.out.get 8 _ rfl)
          |(go_at_call 151;(with_reducible refine(K2.out _).mono ?_);rintro _ w9 ⟨rfl,rfl⟩)
          |(go_at_call 166;(with_reducible refine(K3.out w2 HB2.out).mono ?_);rintro _ w3 ⟨rfl,hb3⟩;have HC3:=Lib.hid (HC2.out.below hb3 HL2.out);have HB3:=Lib.hid (HB2.out.trans (hb3.mono HB2.out.size));have HL3:=Lib.hid (Nat.lt_of_lt_of_le HL2.out hb3.size);clear hb3;have c3_9:=HC3.out.get 9 _ rfl)
          |(go_at_call 165;(with_reducible refine(K4.out w3 HB3.out).mono ?_);rintro _ w4 ⟨rfl,hb4⟩;have HC4:=Lib.hid (HC3.out.below hb4 HL3.out);have HB4:=Lib.hid (HB3.out.trans (hb4.mono HB3.out.size));have HL4:=Lib.hid (Nat.lt_of_lt_of_le HL3.out hb4.size);clear hb4;have c4_9:=HC4.out.get 9 _ rfl;have c4_10:=HC4.out.get 10 _ rfl;have c4_11:=HC4.out.get 11 _ rfl;have c4_12:=HC4.out.get 12 _ rfl))
         go_ret
         exact⟨by rw[HP.out];rfl,HB4.out⟩
        |false=>
         rw[h7] at HP;have HP:Hid (Z=emp m.pass):=by unfold Hid;have:=HP.out;simpa using this
         by_cases h8:m.pass.toList=[]
         ·rw[Z4c h8] at HP
          go_enter Tryz.func152,Tryz.ntmps152
          go_upto_region 1 with (refine Y8 rfl 49 _ rfl (Z1 m vc vw vf) (by exact rfl) w.heap.size rfl ?_;intro w1 hb1 hs1 hC1;have HC1:=Lib.hid hC1;have HB1:=Lib.hid hb1;have HL1:=Lib.hid (show w.heap.size<w1.heap.size by omega);clear hs1 hC1 hb1;have c1_1:=HC1.out.get 1 _ rfl)
          go_wp2_with (first
           |(go_at_call 165;(with_reducible refine(K1.out w1 HB1.out).mono ?_);rintro _ w2 ⟨rfl,hb2⟩;have HC2:=Lib.hid (HC1.out.below hb2 HL1.out);have HB2:=Lib.hid (HB1.out.trans (hb2.mono HB1.out.size));have HL2:=Lib.hid (Nat.lt_of_lt_of_le HL1.out hb2.size);clear hb2;have c2_3:=HC2.out.get 3 _ rfl;have c2_4:=HC2.out.get 4 _ rfl;have c2_5:=HC2.out.get 5 _ rfl;have c2_6:=HC2.out.get 6 _ rfl;have c2_7:=HC2.out.get 7 _ rfl;have c2_8:=HC2.out.get 8 _ rfl)
           |(go_at_call 151;(with_reducible refine(K2.out _).mono ?_);rintro _ w9 ⟨rfl,rfl⟩)
           |(go_at_call 166;(with_reducible refine(K3.out w2 HB2.out).mono ?_);rintro _ w3 ⟨rfl,hb3⟩;have HC3:=Lib.hid (HC2.out.below hb3 HL2.out);have HB3:=Lib.hid (HB2.out.trans (hb3.mono HB2.out.size));have HL3:=Lib.hid (Nat.lt_of_lt_of_le HL2.out hb3.size);clear hb3;have c3_9:=HC3.out.get 9 _ rfl)
           |(go_at_call 165;(with_reducible refine(K4.out w3 HB3.out).mono ?_);rintro _ w4 ⟨rfl,hb4⟩;have HC4:=Lib.hid (HC3.out.below hb4 HL3.out);have HB4:=Lib.hid (HB3.out.trans (hb4.mono HB3.out.size));have HL4:=Lib.hid (Nat.lt_of_lt_of_le HL3.out hb4.size);clear hb4;have c4_9:=HC4.out.get 9 _ rfl;have c4_10:=HC4.out.get 10 _ rfl;have c4_11:=HC4.out.get 11 _ rfl;have c4_12:=HC4.out.get 12 _ rfl))
          go_ret
          exact⟨by rw[HP.out];rfl,HB4.out⟩
         ·have h8':m.pass.toList.isEmpty=false:=by simpa using h8
          rw[Z2v h8] at HP;go_enter Tryz.func152,Tryz.ntmps152
          go_upto_region 1 with (refine Y8 rfl 49 _ rfl (Z1 m vc vw vf) (by exact rfl) w.heap.size rfl ?_;intro w1 hb1 hs1 hC1;have HC1:=Lib.hid hC1;have HB1:=Lib.hid hb1;have HL1:=Lib.hid (show w.heap.size<w1.heap.size by omega);clear hs1 hC1 hb1;have c1_1:=HC1.out.get 1 _ rfl)
          go_wp2_with (first
           |(go_at_call 165;(with_reducible refine(K1.out w1 HB1.out).mono ?_);rintro _ w2 ⟨rfl,hb2⟩;have HC2:=Lib.hid (HC1.out.below hb2 HL1.out);have HB2:=Lib.hid (HB1.out.trans (hb2.mono HB1.out.size));have HL2:=Lib.hid (Nat.lt_of_lt_of_le HL1.out hb2.size);clear hb2;have c2_3:=HC2.out.get 3 _ rfl;have c2_4:=HC2.out.get 4 _ rfl;have c2_5:=HC2.out.get 5 _ rfl;have c2_6:=HC2.out.get 6 _ rfl;have c2_7:=HC2.out.get 7 _ rfl;have c2_8:=HC2.out.get 8 _ rfl)
           |(go_at_call 151;(with_reducible refine(K2.out _).mono ?_);rintro _ w9 ⟨rfl,rfl⟩)
           |(go_at_call 166;(with_reducible refine(K3.out w2 HB2.out).mono ?_);rintro _ w3 ⟨rfl,hb3⟩;have HC3:=Lib.hid (HC2.out.below hb3 HL2.out);have HB3:=Lib.hid (HB2.out.trans (hb3.mono HB2.out.size));have HL3:=Lib.hid (Nat.lt_of_lt_of_le HL2.out hb3.size);clear hb3;have c3_9:=HC3.out.get 9 _ rfl)
           |(go_at_call 165;(with_reducible refine(K4.out w3 HB3.out).mono ?_);rintro _ w4 ⟨rfl,hb4⟩;have HC4:=Lib.hid (HC3.out.below hb4 HL3.out);have HB4:=Lib.hid (HB3.out.trans (hb4.mono HB3.out.size));have HL4:=Lib.hid (Nat.lt_of_lt_of_le HL3.out hb4.size);clear hb4;have c4_9:=HC4.out.get 9 _ rfl;have c4_10:=HC4.out.get 10 _ rfl;have c4_11:=HC4.out.get 11 _ rfl;have c4_12:=HC4.out.get 12 _ rfl))
          go_ret
          exact⟨by rw[HP.out];rfl,HB4.out⟩
       ·have h9':m.user.toList.isEmpty=false:=by simpa using h9
        rw[Z2v h9] at HP;have HP:Hid (Z=false):=by unfold Hid;have:=HP.out;simpa using this
        go_enter Tryz.func152,Tryz.ntmps152
        go_upto_region 1 with (refine Y8 rfl 49 _ rfl (Z1 m vc vw vf) (by exact rfl) w.heap.size rfl ?_;intro w1 hb1 hs1 hC1;have HC1:=Lib.hid hC1;have HB1:=Lib.hid hb1;have HL1:=Lib.hid (show w.heap.size<w1.heap.size by omega);clear hs1 hC1 hb1;have c1_1:=HC1.out.get 1 _ rfl)
        go_wp2_with (first
         |(go_at_call 165;(with_reducible refine(K1.out w1 HB1.out).mono ?_);rintro _ w2 ⟨rfl,hb2⟩;have HC2:=Lib.hid (HC1.out.below hb2 HL1.out);have HB2:=Lib.hid (HB1.out.trans (hb2.mono HB1.out.size));have HL2:=Lib.hid (Nat.lt_of_lt_of_le HL1.out hb2.size);clear hb2;have c2_3:=HC2.out.get 3 _ rfl;have c2_4:=HC2.out.get 4 _ rfl;have c2_5:=HC2.out.get 5 _ rfl;have c2_6:=HC2.out.get 6 _ rfl;have c2_7:=HC2.out.get 7 _ rfl;have c2_8:=HC2.out.get 8 _ rfl)
         |(go_at_call 151;(with_reducible refine(K2.out _).mono ?_);rintro _ w9 ⟨rfl,rfl⟩)
         |(go_at_call 166;(with_reducible refine(K3.out w2 HB2.out).mono ?_);rintro _ w3 ⟨rfl,hb3⟩;have HC3:=Lib.hid (HC2.out.below hb3 HL2.out);have HB3:=Lib.hid (HB2.out.trans (hb3.mono HB2.out.size));have HL3:=Lib.hid (Nat.lt_of_lt_of_le HL2.out hb3.size);clear hb3;have c3_9:=HC3.out.get 9 _ rfl)
         |(go_at_call 165;(with_reducible refine(K4.out w3 HB3.out).mono ?_);rintro _ w4 ⟨rfl,hb4⟩;have HC4:=Lib.hid (HC3.out.below hb4 HL3.out);have HB4:=Lib.hid (HB3.out.trans (hb4.mono HB3.out.size));have HL4:=Lib.hid (Nat.lt_of_lt_of_le HL3.out hb4.size);clear hb4;have c4_9:=HC4.out.get 9 _ rfl;have c4_10:=HC4.out.get 10 _ rfl;have c4_11:=HC4.out.get 11 _ rfl;have c4_12:=HC4.out.get 12 _ rfl))
        go_ret
        exact⟨by rw[HP.out];rfl,HB4.out⟩
     ·rw[decide_eq_false h5] at HP
      go_enter Tryz.func152,Tryz.ntmps152
      go_upto_region 1 with (refine Y8 rfl 49 _ rfl (Z1 m vc vw vf) (by exact rfl) w.heap.size rfl ?_;intro w1 hb1 hs1 hC1;have HC1:=Lib.hid hC1;have HB1:=Lib.hid hb1;have HL1:=Lib.hid (show w.heap.size<w1.heap.size by omega);clear hs1 hC1 hb1;have c1_1:=HC1.out.get 1 _ rfl)
      go_wp2_with (first
       |(go_at_call 165;(with_reducible refine(K1.out w1 HB1.out).mono ?_);rintro _ w2 ⟨rfl,hb2⟩;have HC2:=Lib.hid (HC1.out.below hb2 HL1.out);have HB2:=Lib.hid (HB1.out.trans (hb2.mono HB1.out.size));have HL2:=Lib.hid (Nat.lt_of_lt_of_le HL1.out hb2.size);clear hb2;have c2_3:=HC2.out.get 3 _ rfl;have c2_4:=HC2.out.get 4 _ rfl;have c2_5:=HC2.out.get 5 _ rfl;have c2_6:=HC2.out.get 6 _ rfl;have c2_7:=HC2.out.get 7 _ rfl;have c2_8:=HC2.out.get 8 _ rfl)
       |(go_at_call 151;(with_reducible refine(K2.out _).mono ?_);rintro _ w9 ⟨rfl,rfl⟩)
       |(go_at_call 166;(with_reducible refine(K3.out w2 HB2.out).mono ?_);rintro _ w3 ⟨rfl,hb3⟩;have HC3:=Lib.hid (HC2.out.below hb3 HL2.out);have HB3:=Lib.hid (HB2.out.trans (hb3.mono HB2.out.size));have HL3:=Lib.hid (Nat.lt_of_lt_of_le HL2.out hb3.size);clear hb3;have c3_9:=HC3.out.get 9 _ rfl)
       |(go_at_call 165;(with_reducible refine(K4.out w3 HB3.out).mono ?_);rintro _ w4 ⟨rfl,hb4⟩;have HC4:=Lib.hid (HC3.out.below hb4 HL3.out);have HB4:=Lib.hid (HB3.out.trans (hb4.mono HB3.out.size));have HL4:=Lib.hid (Nat.lt_of_lt_of_le HL3.out hb4.size);clear hb4;have c4_9:=HC4.out.get 9 _ rfl;have c4_10:=HC4.out.get 10 _ rfl;have c4_11:=HC4.out.get 11 _ rfl;have c4_12:=HC4.out.get 12 _ rfl))
      go_ret
      exact⟨by rw[HP.out];rfl,HB4.out⟩
theorem X1a (m:Mq) (vc vw vf:Value) (h1:Y0c m.topic) (w:World) (hT:Wd w):
  Calls Tryz.prog 153 #[.agg (Z1 m vc vw vf).toArray] w fun e w'=>e = .returned (.bool (K9 m))∧Below w.heap.size w w':=by
 have HP:=Lib.hid (show K9 m=(Z6n m.topic&&(V6 m.qos 0 2&&(((decide (0<m.qos)&&V6 m.id 1 65535)||(m.qos==0&&(m.id==0 && !m.dup)))&&decide ((m.payload.size:Int)≤128)))) from rfl);have K1:=Lib.hid (fun w1 hb=>X5w m.topic h1 w1 (hT.below hb));have K2:=Lib.hid (fun w1=>P7 m.qos 0 2 w1);have K3:=Lib.hid (fun w1=>P7 m.id 1 65535 w1);clear hT h1;generalize Z6n m.topic=B1 at K1 HP;generalize V6 m.qos 0 2=B2 at K2 HP;generalize hB3:V6 m.id 1 65535=B3 at K3 HP;have HB3:=Lib.hid hB3;clear hB3;generalize K9 m=Z at *;cases B1 with
 |false=>
  go_enter Tryz.func153,Tryz.ntmps153
  go_upto_region 1 with (refine Y8 rfl 49 _ rfl (Z1 m vc vw vf) (by exact rfl) w.heap.size rfl ?_;intro w1 hb1 hs1 hC1;have HC1:=Lib.hid hC1;have HB1:=Lib.hid hb1;have HL1:=Lib.hid (show w.heap.size<w1.heap.size by omega);clear hs1 hC1 hb1;have c1_19:=HC1.out.get 19 _ rfl)
  go_wp2_with (first
   |(go_at_call 167;(with_reducible refine(K1.out w1 HB1.out).mono ?_);rintro _ w2 ⟨rfl,hb2⟩;have HC2:=Lib.hid (HC1.out.below hb2 HL1.out);have HB2:=Lib.hid (HB1.out.trans (hb2.mono HB1.out.size));have HL2:=Lib.hid (Nat.lt_of_lt_of_le HL1.out hb2.size);clear hb2;have c2_16:=HC2.out.get 16 _ rfl;have c2_17:=HC2.out.get 17 _ rfl;have c2_20:=HC2.out.get 20 _ rfl;have c2_21:=HC2.out.get 21 _ rfl)
   |(go_at_call 151;(with_reducible refine(K2.out _).mono ?_);rintro _ w9 ⟨rfl,rfl⟩;clear K2)
   |(go_at_call 151;(with_reducible refine(K3.out _).mono ?_);rintro _ w8 ⟨rfl,rfl⟩))
  go_ret
  exact⟨by rw[HP.out];rfl,HB2.out⟩
 |true=>
  cases B2 with
  |false=>
   go_enter Tryz.func153,Tryz.ntmps153
   go_upto_region 1 with (refine Y8 rfl 49 _ rfl (Z1 m vc vw vf) (by exact rfl) w.heap.size rfl ?_;intro w1 hb1 hs1 hC1;have HC1:=Lib.hid hC1;have HB1:=Lib.hid hb1;have HL1:=Lib.hid (show w.heap.size<w1.heap.size by omega);clear hs1 hC1 hb1;have c1_19:=HC1.out.get 19 _ rfl)
   go_wp2_with (first
    |(go_at_call 167;(with_reducible refine(K1.out w1 HB1.out).mono ?_);rintro _ w2 ⟨rfl,hb2⟩;have HC2:=Lib.hid (HC1.out.below hb2 HL1.out);have HB2:=Lib.hid (HB1.out.trans (hb2.mono HB1.out.size));have HL2:=Lib.hid (Nat.lt_of_lt_of_le HL1.out hb2.size);clear hb2;have c2_16:=HC2.out.get 16 _ rfl;have c2_17:=HC2.out.get 17 _ rfl;have c2_20:=HC2.out.get 20 _ rfl;have c2_21:=HC2.out.get 21 _ rfl)
    |(go_at_call 151;(with_reducible refine(K2.out _).mono ?_);rintro _ w9 ⟨rfl,rfl⟩;clear K2)
    |(go_at_call 151;(with_reducible refine(K3.out _).mono ?_);rintro _ w8 ⟨rfl,rfl⟩))
   go_ret
   exact⟨by rw[HP.out];rfl,HB2.out⟩
  |true=>
   cases h4:decide (0<m.qos) with
   |true=>
    have h4':(m.qos==0)=false:=by rw[beq_eq_false_iff_ne];have:=of_decide_eq_true h4;omega
    rw[h4,h4'] at HP;cases B3 with
    |false=>
     go_enter Tryz.func153,Tryz.ntmps153
     go_upto_region 1 with (refine Y8 rfl 49 _ rfl (Z1 m vc vw vf) (by exact rfl) w.heap.size rfl ?_;intro w1 hb1 hs1 hC1;have HC1:=Lib.hid hC1;have HB1:=Lib.hid hb1;have HL1:=Lib.hid (show w.heap.size<w1.heap.size by omega);clear hs1 hC1 hb1;have c1_19:=HC1.out.get 19 _ rfl)
     go_wp2_with (first
      |(go_at_call 167;(with_reducible refine(K1.out w1 HB1.out).mono ?_);rintro _ w2 ⟨rfl,hb2⟩;have HC2:=Lib.hid (HC1.out.below hb2 HL1.out);have HB2:=Lib.hid (HB1.out.trans (hb2.mono HB1.out.size));have HL2:=Lib.hid (Nat.lt_of_lt_of_le HL1.out hb2.size);clear hb2;have c2_16:=HC2.out.get 16 _ rfl;have c2_17:=HC2.out.get 17 _ rfl;have c2_20:=HC2.out.get 20 _ rfl;have c2_21:=HC2.out.get 21 _ rfl)
      |(go_at_call 151;(with_reducible refine(K2.out _).mono ?_);rintro _ w9 ⟨rfl,rfl⟩;clear K2)
      |(go_at_call 151;(with_reducible refine(K3.out _).mono ?_);rintro _ w8 ⟨rfl,rfl⟩))
     go_ret
     exact⟨by rw[HP.out];rfl,HB2.out⟩
    |true=>
     cases h9:decide ((m.payload.size:Int)≤128) with
     |true=>
      rw[h9] at HP;go_enter Tryz.func153,Tryz.ntmps153
      go_upto_region 1 with (refine Y8 rfl 49 _ rfl (Z1 m vc vw vf) (by exact rfl) w.heap.size rfl ?_;intro w1 hb1 hs1 hC1;have HC1:=Lib.hid hC1;have HB1:=Lib.hid hb1;have HL1:=Lib.hid (show w.heap.size<w1.heap.size by omega);clear hs1 hC1 hb1;have c1_19:=HC1.out.get 19 _ rfl)
      go_wp2_with (first
       |(go_at_call 167;(with_reducible refine(K1.out w1 HB1.out).mono ?_);rintro _ w2 ⟨rfl,hb2⟩;have HC2:=Lib.hid (HC1.out.below hb2 HL1.out);have HB2:=Lib.hid (HB1.out.trans (hb2.mono HB1.out.size));have HL2:=Lib.hid (Nat.lt_of_lt_of_le HL1.out hb2.size);clear hb2;have c2_16:=HC2.out.get 16 _ rfl;have c2_17:=HC2.out.get 17 _ rfl;have c2_20:=HC2.out.get 20 _ rfl;have c2_21:=HC2.out.get 21 _ rfl)
       |(go_at_call 151;(with_reducible refine(K2.out _).mono ?_);rintro _ w9 ⟨rfl,rfl⟩;clear K2)
       |(go_at_call 151;(with_reducible refine(K3.out _).mono ?_);rintro _ w8 ⟨rfl,rfl⟩))
      go_ret
      exact⟨by rw[HP.out];rfl,HB2.out⟩
     |false=>
      rw[h9] at HP;go_enter Tryz.func153,Tryz.ntmps153
      go_upto_region 1 with (refine Y8 rfl 49 _ rfl (Z1 m vc vw vf) (by exact rfl) w.heap.size rfl ?_;intro w1 hb1 hs1 hC1;have HC1:=Lib.hid hC1;have HB1:=Lib.hid hb1;have HL1:=Lib.hid (show w.heap.size<w1.heap.size by omega);clear hs1 hC1 hb1;have c1_19:=HC1.out.get 19 _ rfl)
      go_wp2_with (first
       |(go_at_call 167;(with_reducible refine(K1.out w1 HB1.out).mono ?_);rintro _ w2 ⟨rfl,hb2⟩;have HC2:=Lib.hid (HC1.out.below hb2 HL1.out);have HB2:=Lib.hid (HB1.out.trans (hb2.mono HB1.out.size));have HL2:=Lib.hid (Nat.lt_of_lt_of_le HL1.out hb2.size);clear hb2;have c2_16:=HC2.out.get 16 _ rfl;have c2_17:=HC2.out.get 17 _ rfl;have c2_20:=HC2.out.get 20 _ rfl;have c2_21:=HC2.out.get 21 _ rfl)
       |(go_at_call 151;(with_reducible refine(K2.out _).mono ?_);rintro _ w9 ⟨rfl,rfl⟩;clear K2)
       |(go_at_call 151;(with_reducible refine(K3.out _).mono ?_);rintro _ w8 ⟨rfl,rfl⟩))
      go_ret
      exact⟨by rw[HP.out];rfl,HB2.out⟩
   |false=>
    rw[h4] at HP;cases h5:(m.qos==0) with
    |true=>
     rw[h5] at HP;cases h6:(m.id==0) with
     |true=>
      rw[h6] at HP;cases h7:m.dup with
      |true=>
       rw[h7] at HP;go_enter Tryz.func153,Tryz.ntmps153
       go_upto_region 1 with (refine Y8 rfl 49 _ rfl (Z1 m vc vw vf) (by exact rfl) w.heap.size rfl ?_;intro w1 hb1 hs1 hC1;have HC1:=Lib.hid hC1;have HB1:=Lib.hid hb1;have HL1:=Lib.hid (show w.heap.size<w1.heap.size by omega);clear hs1 hC1 hb1;have c1_19:=HC1.out.get 19 _ rfl)
       go_wp2_with (first
        |(go_at_call 167;(with_reducible refine(K1.out w1 HB1.out).mono ?_);rintro _ w2 ⟨rfl,hb2⟩;have HC2:=Lib.hid (HC1.out.below hb2 HL1.out);have HB2:=Lib.hid (HB1.out.trans (hb2.mono HB1.out.size));have HL2:=Lib.hid (Nat.lt_of_lt_of_le HL1.out hb2.size);clear hb2;have c2_16:=HC2.out.get 16 _ rfl;have c2_17:=HC2.out.get 17 _ rfl;have c2_20:=HC2.out.get 20 _ rfl;have c2_21:=HC2.out.get 21 _ rfl)
        |(go_at_call 151;(with_reducible refine(K2.out _).mono ?_);rintro _ w9 ⟨rfl,rfl⟩;clear K2)
        |(go_at_call 151;(with_reducible refine(K3.out _).mono ?_);rintro _ w8 ⟨rfl,rfl⟩))
       go_ret
       exact⟨by rw[HP.out];rfl,HB2.out⟩
      |false=>
       rw[h7] at HP;cases h9:decide ((m.payload.size:Int)≤128) with
       |true=>
        rw[h9] at HP;go_enter Tryz.func153,Tryz.ntmps153
        go_upto_region 1 with (refine Y8 rfl 49 _ rfl (Z1 m vc vw vf) (by exact rfl) w.heap.size rfl ?_;intro w1 hb1 hs1 hC1;have HC1:=Lib.hid hC1;have HB1:=Lib.hid hb1;have HL1:=Lib.hid (show w.heap.size<w1.heap.size by omega);clear hs1 hC1 hb1;have c1_19:=HC1.out.get 19 _ rfl)
        go_wp2_with (first
         |(go_at_call 167;(with_reducible refine(K1.out w1 HB1.out).mono ?_);rintro _ w2 ⟨rfl,hb2⟩;have HC2:=Lib.hid (HC1.out.below hb2 HL1.out);have HB2:=Lib.hid (HB1.out.trans (hb2.mono HB1.out.size));have HL2:=Lib.hid (Nat.lt_of_lt_of_le HL1.out hb2.size);clear hb2;have c2_16:=HC2.out.get 16 _ rfl;have c2_17:=HC2.out.get 17 _ rfl;have c2_20:=HC2.out.get 20 _ rfl;have c2_21:=HC2.out.get 21 _ rfl)
         |(go_at_call 151;(with_reducible refine(K2.out _).mono ?_);rintro _ w9 ⟨rfl,rfl⟩;clear K2)
         |(go_at_call 151;(with_reducible refine(K3.out _).mono ?_);rintro _ w8 ⟨rfl,rfl⟩))
        go_ret
        exact⟨by rw[HP.out];rfl,HB2.out⟩
       |false=>
        rw[h9] at HP;go_enter Tryz.func153,Tryz.ntmps153
        go_upto_region 1 with (refine Y8 rfl 49 _ rfl (Z1 m vc vw vf) (by exact rfl) w.heap.size rfl ?_;intro w1 hb1 hs1 hC1;have HC1:=Lib.hid hC1;have HB1:=Lib.hid hb1;have HL1:=Lib.hid (show w.heap.size<w1.heap.size by omega);clear hs1 hC1 hb1;have c1_19:=HC1.out.get 19 _ rfl)
        go_wp2_with (first
         |(go_at_call 167;(with_reducible refine(K1.out w1 HB1.out).mono ?_);rintro _ w2 ⟨rfl,hb2⟩;have HC2:=Lib.hid (HC1.out.below hb2 HL1.out);have HB2:=Lib.hid (HB1.out.trans (hb2.mono HB1.out.size));have HL2:=Lib.hid (Nat.lt_of_lt_of_le HL1.out hb2.size);clear hb2;have c2_16:=HC2.out.get 16 _ rfl;have c2_17:=HC2.out.get 17 _ rfl;have c2_20:=HC2.out.get 20 _ rfl;have c2_21:=HC2.out.get 21 _ rfl)
         |(go_at_call 151;(with_reducible refine(K2.out _).mono ?_);rintro _ w9 ⟨rfl,rfl⟩;clear K2)
         |(go_at_call 151;(with_reducible refine(K3.out _).mono ?_);rintro _ w8 ⟨rfl,rfl⟩))
        go_ret
        exact⟨by rw[HP.out];rfl,HB2.out⟩
     |false=>
      rw[h6] at HP;go_enter Tryz.func153,Tryz.ntmps153
      go_upto_region 1 with (refine Y8 rfl 49 _ rfl (Z1 m vc vw vf) (by exact rfl) w.heap.size rfl ?_;intro w1 hb1 hs1 hC1;have HC1:=Lib.hid hC1;have HB1:=Lib.hid hb1;have HL1:=Lib.hid (show w.heap.size<w1.heap.size by omega);clear hs1 hC1 hb1;have c1_19:=HC1.out.get 19 _ rfl)
      go_wp2_with (first
       |(go_at_call 167;(with_reducible refine(K1.out w1 HB1.out).mono ?_);rintro _ w2 ⟨rfl,hb2⟩;have HC2:=Lib.hid (HC1.out.below hb2 HL1.out);have HB2:=Lib.hid (HB1.out.trans (hb2.mono HB1.out.size));have HL2:=Lib.hid (Nat.lt_of_lt_of_le HL1.out hb2.size);clear hb2;have c2_16:=HC2.out.get 16 _ rfl;have c2_17:=HC2.out.get 17 _ rfl;have c2_20:=HC2.out.get 20 _ rfl;have c2_21:=HC2.out.get 21 _ rfl)
       |(go_at_call 151;(with_reducible refine(K2.out _).mono ?_);rintro _ w9 ⟨rfl,rfl⟩;clear K2)
       |(go_at_call 151;(with_reducible refine(K3.out _).mono ?_);rintro _ w8 ⟨rfl,rfl⟩))
      go_ret
      exact⟨by rw[HP.out];rfl,HB2.out⟩
    |false=>
     rw[h5] at HP;go_enter Tryz.func153,Tryz.ntmps153
     go_upto_region 1 with (refine Y8 rfl 49 _ rfl (Z1 m vc vw vf) (by exact rfl) w.heap.size rfl ?_;intro w1 hb1 hs1 hC1;have HC1:=Lib.hid hC1;have HB1:=Lib.hid hb1;have HL1:=Lib.hid (show w.heap.size<w1.heap.size by omega);clear hs1 hC1 hb1;have c1_19:=HC1.out.get 19 _ rfl)
     go_wp2_with (first
      |(go_at_call 167;(with_reducible refine(K1.out w1 HB1.out).mono ?_);rintro _ w2 ⟨rfl,hb2⟩;have HC2:=Lib.hid (HC1.out.below hb2 HL1.out);have HB2:=Lib.hid (HB1.out.trans (hb2.mono HB1.out.size));have HL2:=Lib.hid (Nat.lt_of_lt_of_le HL1.out hb2.size);clear hb2;have c2_16:=HC2.out.get 16 _ rfl;have c2_17:=HC2.out.get 17 _ rfl;have c2_20:=HC2.out.get 20 _ rfl;have c2_21:=HC2.out.get 21 _ rfl)
      |(go_at_call 151;(with_reducible refine(K2.out _).mono ?_);rintro _ w9 ⟨rfl,rfl⟩;clear K2)
      |(go_at_call 151;(with_reducible refine(K3.out _).mono ?_);rintro _ w8 ⟨rfl,rfl⟩))
     go_ret
     exact⟨by rw[HP.out];rfl,HB2.out⟩
end
section
open Go.RowKit
section
variable {P:Program}{ops:Array Oper}{rest:List Oper}{o:Oper}{a:Act}{w:World}{Q:Exit→Act→World→Prop}
end
theorem Y2x (g o n c:Nat) (A:Option Addr) (u:Value) (w:World) (h:w.cell? ⟨g,o,none⟩=some u) (hf:w.frozen? ⟨g,o,none⟩=false):(Instr.storeAt 45 (.pointer (some ⟨g,o,none⟩)) (.slice A n c)).run Tryz.prog w = .ok () (w.setCell ⟨g,o,none⟩ (.slice A n c)):=by
 simp[go_sem,h,hf]
theorem Y2y (g o n c:Nat) (A:Option Addr) (u:Value) (w:World) (h:w.cell? ⟨g,o,none⟩=some u) (hf:w.frozen? ⟨g,o,none⟩=false):(Instr.storeAt 46 (.pointer (some ⟨g,o,none⟩)) (.slice A n c)).run Tryz.prog w = .ok () (w.setCell ⟨g,o,none⟩ (.slice A n c)):=by
 simp[go_sem,h,hf]
theorem Y2z (g o n c:Nat) (A:Option Addr) (u:Value) (w:World) (h:w.cell? ⟨g,o,none⟩=some u) (hf:w.frozen? ⟨g,o,none⟩=false):(Instr.storeAt 47 (.pointer (some ⟨g,o,none⟩)) (.slice A n c)).run Tryz.prog w = .ok () (w.setCell ⟨g,o,none⟩ (.slice A n c)):=by
 simp[go_sem,h,hf]
end
section
open Go.RowKit
def X6l (m:Mq) (w:World) (e:Ending) (w':World):Prop:=
 ∃vc vw vf,e = .returned (.tuple #[.agg (Z1 (Y3 m) vc vw vf).toArray, .bool (N3 m)])∧MqL w' w'.heap.size (Y3 m) vc vw vf∧Below w.heap.size w w'
theorem J1i {m:Mq}{w w':World}{L:List Value}{b:Bool}{vc vw vf:Value}(hL:L=Z1 (Y3 m) vc vw vf) (hb:b=N3 m) (hM:MqL w' w'.heap.size (Y3 m) vc vw vf) (hB:Below w.heap.size w w'):
  X6l m w (.returned (.tuple #[.agg L.toArray, .bool b])) w':=by
 subst hL hb;exact⟨vc,vw,vf,rfl,hM,hB⟩
theorem MqL.nil {w:World}{B:Nat}{m:Mq}(h1:m.codes=[]) (h2:m.wishes=[]) (h3:m.filters=[]):MqL w B m Z2 Z2 Z2:=by
 refine⟨none,0,none,0,none,0, ?_, ?_, ?_, ?_, ?_, ?_, ?_, ?_, ?_, ?_, ?_, ?_⟩<;>simp[h1,h2,h3,wv,X4]
theorem MqL.onlyC {w:World}{B:Nat}{m m':Mq}{vc vw vf:Value}(h:MqL w B m vc vw vf) (h1:m'.codes=m.codes) (h2:m'.wishes=[]) (h3:m'.filters=[]):MqL w B m' vc Z2 Z2:=by
 obtain⟨A1,c1,A2,c2,A3,c3,e1,e2,e3,l1,l2,l3,k1,k2,k3,r1,r2,r3⟩:=h;refine⟨A1,c1,none,0,none,0, ?_, ?_, ?_, ?_, ?_, ?_, ?_, ?_, ?_, ?_, ?_, ?_⟩<;>simp[h1,h2,h3,wv,X4.none_,e1,l1,r1,k1]
theorem MqL.onlyW {w:World}{B:Nat}{m m':Mq}{vc vw vf:Value}(h:MqL w B m vc vw vf) (h1:m'.codes=[]) (h2:m'.wishes=m.wishes) (h3:m'.filters=[]):MqL w B m' Z2 vw Z2:=by
 obtain⟨A1,c1,A2,c2,A3,c3,e1,e2,e3,l1,l2,l3,k1,k2,k3,r1,r2,r3⟩:=h;refine⟨none,0,A2,c2,none,0, ?_, ?_, ?_, ?_, ?_, ?_, ?_, ?_, ?_, ?_, ?_, ?_⟩<;>simp[h1,h2,h3,X4.none_,e2,l2,r2,k2]
theorem MqL.onlyF {w:World}{B:Nat}{m m':Mq}{vc vw vf:Value}(h:MqL w B m vc vw vf) (h1:m'.codes=[]) (h2:m'.wishes=[]) (h3:m'.filters=m.filters):MqL w B m' Z2 Z2 vf:=by
 obtain⟨A1,c1,A2,c2,A3,c3,e1,e2,e3,l1,l2,l3,k1,k2,k3,r1,r2,r3⟩:=h;refine⟨none,0,none,0,A3,c3, ?_, ?_, ?_, ?_, ?_, ?_, ?_, ?_, ?_, ?_, ?_, ?_⟩<;>simp[h1,h2,h3,wv,X4.none_,e3,l3,r3,k3]
structure Y6r (m:Mq):Prop where
 client:Y0c m.client
 wt:Y0c m.wt
 wp:Y0c m.wp
 user:Y0c m.user
 pass:Y0c m.pass
 topic:Y0c m.topic
 payload:Y0c m.payload
 wishes:∀s∈m.wishes,Y0c s.1
 filters:∀s∈m.filters,Y0c s
theorem G6 {k c d:Int}(h:k=c) (hd:(c==d)=false):(k==d)=false:=by rw[h];exact hd
theorem Z4w {k c:Int}(h:k=c):(k==c)=true:=by rw[h];exact beq_self_eq_true c
end
section
open Go.RowKit
theorem Z2k {m:Mq}(h:N3 m=true):1≤m.kind∧m.kind≤14:=by
 unfold N3 at h
 split at h
 ·omega
 ·split at h
  ·omega
  ·split at h
   ·omega
   ·split at h
    ·next hk=>
     simp only[Q8,Bool.or_eq_true,beq_iff_eq] at hk;omega
    ·split at h
     ·omega
     ·split at h
      ·omega
      ·split at h
       ·omega
       ·simp only[J3,Bool.or_eq_true,beq_iff_eq] at h
        omega
theorem Z3x {s:ByteArray}(h:emp s=true):s=nos:=by
 have h0:s.size=0:=by simpa [emp] using h
 cases s with
 |mk d=>
  have:d = #[]:=Array.eq_empty_of_size_eq_zero h0;rw[this]
theorem X6m (a b c d e:Bool) (q:Nat) (hq:q≤2):
  let F:=UInt8.ofNat (cb a 2+cb b 4+8*q+cb c 32+cb d 64+cb e 128)
  U4 F 2=a∧U4 F 4=b∧U4 F 32=c∧U4 F 64=d∧U4 F 128=e∧(F >>> 3&&&3).toNat=q:=by
 obtain⟨q',rfl⟩:∃q':Fin 3,q=q'.val:=⟨⟨q,by omega⟩,rfl⟩;revert a b c d e q'
 decide
theorem X3v (d r:Bool) (q:Nat) (hq:q≤2) (x:Nat) (hx:x=0∨x=48):
  let F:=UInt8.ofNat (x+(cb d 8+2*q+cb r 1))
  U4 F 8=d∧U4 F 1=r∧(F >>> 1&&&3).toNat=q:=by
 obtain⟨q',rfl⟩:∃q':Fin 3,q=q'.val:=⟨⟨q,by omega⟩,rfl⟩;rcases hx with rfl |rfl<;>revert d r q'<;>decide
structure Q2p (one:Rd→UInt8×Rd) (two:Rd→Nat×Rd) (text:Rd→ByteArray×Rd):Prop where
 o:∀x b,one (x::b,false)=(x,(b,false))
 t:∀n b,n<65536→two (U1 2 n++b,false)=(n,(b,false))
 s:∀s b,s.size<65536→text (J2 s++b,false)=(s,(b,false))
theorem Q5e:Q2p T3 M4 W3:=⟨Z7k,fun n b h=>Z5s n h b,fun s b h=>Z9u s h b⟩
theorem Q5f:Q2p Y2n Z2g S7:=⟨Y2o,fun n b h=>Z5t n h b,fun s b h=>Z9v s h b⟩
theorem E9 {n:Int}(h0:0≤n):((n.toNat:Nat):Int)=n:=by omega
theorem Y1v {one:Rd→UInt8×Rd}{two:Rd→Nat×Rd}{text:Rd→ByteArray×Rd}(G:Q2p one two text) (m:Mq) (hk:m.kind=1) (h:E4 m=true) (s:Rd)
  (hs:s=(UInt8.ofNat (U9 m)::(U1 2 m.keep.toNat++(J2 m.client++((if m.won then J2 m.wt++J2 m.wp else [])++((if m.hu then J2 m.user else [])++(if m.hp then J2 m.pass else []))))),false)):
  (Z9d one two text s).mq=Y3 m∧(Z9d one two text s).s=([],false):=by
 subst hs;simp only[E4,Bool.and_eq_true,decide_eq_true_eq] at h;obtain⟨hc,hkp,hw,hu,hps,h1,h2⟩:=h;have hkp:=Q5.1 hkp;have hc':=N7 hc;have hu':=N7 hu;have hwq:m.wq.toNat≤2∧m.wt.size<65536∧m.wp.size<65536∧0≤m.wq∧(m.won=false→m.wt=nos∧m.wp=nos∧m.wq=0∧m.wr=false):=by
  unfold Z9c at hw;cases hwon:m.won with
  |true=>
   rw[hwon,if_pos rfl] at hw;simp only[Bool.and_eq_true,decide_eq_true_eq] at hw;obtain⟨a,b,c⟩:=hw;have:=Q5.1 c;have:=N7 a;exact⟨by omega,by omega,by omega,by omega,fun h=>by cases h⟩
  |false=>
   rw[hwon,if_neg (by simp)] at hw;simp only[Bool.and_eq_true,beq_iff_eq,Bool.not_eq_true'] at hw;obtain⟨a,b,c,d⟩:=hw;rw[Z3x a,Z3x b,c,d];exact⟨by decide,by decide,by decide,by decide,fun _=>⟨rfl,rfl,rfl,rfl⟩⟩
 obtain⟨hq2,hwt,hwp,hq0,hno⟩:=hwq;have hF:=X6m m.clean m.won m.wr m.hp m.hu m.wq.toNat hq2;have hFe:cb m.clean 2+cb m.won 4+8*m.wq.toNat+cb m.wr 32+cb m.hp 64+cb m.hu 128=U9 m:=rfl;rw[hFe] at hF;generalize UInt8.ofNat (U9 m)=F at hF;obtain⟨b2,b4,b32,b64,b128,bq⟩:=hF;have hus:m.hu=false→m.user=nos∧m.hp=false:=by
  intro h;rw[h] at h1;simp only[Bool.false_or,Bool.and_eq_true,Bool.not_eq_true'] at h1;exact⟨Z3x h1.1,h1.2⟩
 have hpsz:m.hp=false→m.pass=nos:=by
  intro h;rw[h] at h2;exact Z3x (by simpa using h2)
 have hk':Y3 m={ N6 1 with client:=m.client,clean:=m.clean,keep:=m.keep,won:=m.won,wt:=m.wt,wp:=m.wp,wq:=m.wq,wr:=m.wr,user:=m.user,hu:=m.hu,pass:=m.pass,hp:=m.hp }:=by
  unfold Y3;rw[if_pos hk,hk]
 rw[hk'];unfold Z9d;simp only[Y0n.mq,G.o,G.t _ _ (show m.keep.toNat<65536 by omega),G.s _ _ (show m.client.size<65536 by omega),b2,b4,b32,b64,b128,bq];cases hwon:m.won with
 |true=>
  simp only[if_true,List.append_assoc,G.s _ _ hwt,G.s _ _ hwp];cases hhu:m.hu with
  |true=>
   simp only[if_true,G.s _ _ (show m.user.size<65536 by omega)];cases hhp:m.hp with
   |true=>
    have:=G.s m.pass [] (by omega);rw[List.append_nil] at this;simp only[if_true,this];exact⟨by rw[E9 hkp.1,E9 hq0,Bool.true_and],by first |rfl |trivial⟩
   |false=>
    simp only[Bool.false_eq_true,if_false];rw[hpsz hhp];exact⟨by rw[E9 hkp.1,E9 hq0,Bool.true_and],by first |rfl |trivial⟩
  |false=>
   obtain⟨e1,e2⟩:=hus hhu;simp only[Bool.false_eq_true,if_false,e2,e1,hpsz e2];exact⟨by rw[E9 hkp.1,E9 hq0,Bool.true_and],by first |rfl |trivial⟩
 |false=>
  obtain⟨w1,w2,w3,w4⟩:=hno hwon;simp only[Bool.false_eq_true,if_false,List.nil_append,w1,w2,w3,w4];cases hhu:m.hu with
  |true=>
   simp only[if_true,G.s _ _ (show m.user.size<65536 by omega)];cases hhp:m.hp with
   |true=>
    have:=G.s m.pass [] (by omega);rw[List.append_nil] at this;simp only[if_true,this];exact⟨by rw[E9 hkp.1,Bool.false_and],by first |rfl |trivial⟩
   |false=>
    simp only[Bool.false_eq_true,if_false];rw[hpsz hhp];exact⟨by rw[E9 hkp.1,Bool.false_and],by first |rfl |trivial⟩
  |false=>
   obtain⟨e1,e2⟩:=hus hhu;simp only[Bool.false_eq_true,if_false,e2,e1,hpsz e2];exact⟨by rw[E9 hkp.1,Bool.false_and],by first |rfl |trivial⟩
theorem J5u (m:Mq) (hk:m.kind=1) (h:E4 m=true):(Y1p (P4 m,false)).mq=Y3 m∧(Y1p (P4 m,false)).s=([],false):=by
 unfold Y1p P4;simp only[List.append_assoc];rw[show U1 2 4++([77,81,84,84]++([4,UInt8.ofNat (U9 m)]++(U1 2 m.keep.toNat++(J2 m.client++((if m.won=true then J2 m.wt++J2 m.wp else [])++((if m.hu=true then J2 m.user else [])++(if m.hp=true then J2 m.pass else []))))))) =
  [0,4,77,81,84,84,4]++(UInt8.ofNat (U9 m)::(U1 2 m.keep.toNat++(J2 m.client++((if m.won=true then J2 m.wt++J2 m.wp else [])++((if m.hu=true then J2 m.user else [])++(if m.hp=true then J2 m.pass else [])))))) from rfl]
 rw[Z7i _ _ 7 rfl];exact Y1v Q5e m hk h _ rfl
theorem J5v (m:Mq) (hk:m.kind=1) (h:E4 m=true):(Y3o (P4 m,false)).mq=Y3 m∧(Y3o (P4 m,false)).s=([],false):=by
 unfold Y3o P4;simp only[List.append_assoc];rw[show U1 2 4++([77,81,84,84]++([4,UInt8.ofNat (U9 m)]++(U1 2 m.keep.toNat++(J2 m.client++((if m.won=true then J2 m.wt++J2 m.wp else [])++((if m.hu=true then J2 m.user else [])++(if m.hp=true then J2 m.pass else []))))))) =
  [0,4,77,81,84,84,4]++(UInt8.ofNat (U9 m)::(U1 2 m.keep.toNat++(J2 m.client++((if m.won=true then J2 m.wt++J2 m.wp else [])++((if m.hu=true then J2 m.user else [])++(if m.hp=true then J2 m.pass else [])))))) from rfl]
 rw[Z7j _ _ 7 rfl];exact Y1v Q5f m hk h _ rfl
theorem Y8s (F:UInt8) (q:Nat) (h:(F >>> 1&&&3).toNat=q):(F >>> 1&&&3 != 0)=decide (0<q):=by
 subst h;rw[Bool.eq_iff_iff,bne_iff_ne,decide_eq_true_eq];constructor
 ·intro h
  rcases Nat.eq_zero_or_pos (F >>> 1&&&3).toNat with h0 |h0
  ·exact absurd (UInt8.toNat_inj.1 (by rw[h0];rfl)) h
  ·exact h0
 ·intro h e
  rw[e] at h;exact absurd h (by decide)
theorem W5 {m:Mq}(h:K9 m=true):m.topic.size≤64∧0≤m.qos∧m.qos≤2∧(0<m.qos→1≤m.id∧m.id≤65535)∧(m.qos=0→m.id=0)∧m.payload.size≤128:=by
 simp only[K9,Z6n,Bool.and_eq_true,decide_eq_true_eq,Bool.or_eq_true,beq_iff_eq] at h;obtain⟨⟨ht,_⟩,hq,hi,hp⟩:=h;have ht:=N7 ht;have hq:=Q5.1 hq;refine⟨by omega,hq.1,hq.2,fun h=>?_,fun h=>?_,by omega⟩
 ·rcases hi with⟨_,hi⟩ |⟨hi,_⟩
  ·have:=Q5.1 hi
   omega
  ·omega
 ·rcases hi with⟨hi,_⟩ |⟨_,hi,_⟩
  ·omega
  ·exact hi
theorem Y7l (m:Mq) (hk:m.kind=3) (h:K9 m=true) (F:UInt8) (b8:U4 F 8=m.dup) (b1:U4 F 1=m.retain) (bq:(F >>> 1&&&3).toNat=m.qos.toNat):J8l F (Z0q m,false)=(Y3 m,([],false)):=by
 obtain⟨ht,hq0,hq2,hi,hz,hp⟩:=W5 h;have hk':Y3 m={ N6 3 with topic:=m.topic,qos:=m.qos,dup:=m.dup,retain:=m.retain,id:=m.id,payload:=m.payload }:=by
  unfold Y3;rw[if_neg (by omega),if_neg (by omega),if_pos hk,hk]
 rw[hk'];unfold J8l Z0q;simp only[List.append_assoc,Z9u _ (show m.topic.size<65536 by omega),Y8s F _ bq,X2q,b8,b1,bq];by_cases hq:0<m.qos
 ·obtain⟨i1,i2⟩:=hi hq
  have hd:decide (0<m.qos.toNat)=true:=by simp;omega
  simp only[hd,if_pos hq,if_true,Z5s _ (show m.id.toNat<65536 by omega)];have hta:=Z7i (sb m.payload) [] _ rfl;rw[List.append_nil] at hta;simp only[hta,X0c];rw[E9 hq0,E9 (show 0≤m.id by omega)]
 ·have hq':m.qos=0:=by omega
  have hd:decide (0<m.qos.toNat)=false:=by simp;omega
  simp only[hd,if_neg (show ¬0<m.qos by omega),Bool.false_eq_true,if_false,List.nil_append];have hta:=Z7i (sb m.payload) [] _ rfl;rw[List.append_nil] at hta;simp only[hta,X0c];rw[E9 hq0,hz hq']
theorem Y7m (m:Mq) (hk:m.kind=3) (h:K9 m=true) (F:UInt8) (b8:U4 F 8=m.dup) (b1:U4 F 1=m.retain) (bq:(F >>> 1&&&3).toNat=m.qos.toNat):∃s,Q1x F (Z0q m,false)=(Y3 m,(s,false)):=by
 obtain⟨ht,hq0,hq2,hi,hz,hp⟩:=W5 h;have hk':Y3 m={ N6 3 with topic:=m.topic,qos:=m.qos,dup:=m.dup,retain:=m.retain,id:=m.id,payload:=m.payload }:=by
  unfold Y3;rw[if_neg (by omega),if_neg (by omega),if_pos hk,hk]
 rw[hk'];unfold Q1x Z0q;simp only[List.append_assoc,Z9v _ (show m.topic.size<65536 by omega),Y8s F _ bq,X2q,b8,b1,bq];by_cases hq:0<m.qos
 ·obtain⟨i1,i2⟩:=hi hq
  have hd:decide (0<m.qos.toNat)=true:=by simp;omega
  simp only[hd,if_pos hq,if_true,Z5t _ (show m.id.toNat<65536 by omega),X0c];rw[E9 hq0,E9 (show 0≤m.id by omega)];exact⟨_,rfl⟩
 ·have hq':m.qos=0:=by omega
  have hd:decide (0<m.qos.toNat)=false:=by simp;omega
  simp only[hd,if_neg (show ¬0<m.qos by omega),Bool.false_eq_true,if_false,List.nil_append,X0c];rw[E9 hq0,hz hq'];exact⟨_,rfl⟩
theorem Z2l {l:List (ByteArray×Int)}{x:ByteArray×Int}{xs:List (ByteArray×Int)}(e:l=x::xs) (h:Q4 l=true):x.1.size≤64∧0≤x.2∧x.2≤2∧Q4 xs=true:=by
 subst e;simp only[Q4,Bool.and_eq_true] at h;obtain⟨⟨a,b⟩,c⟩:=h;have:=N7 a;have:=Q5.1 b;exact⟨by omega,by omega,by omega,c⟩
theorem Z1k {l:List ByteArray}{x:ByteArray}{xs:List ByteArray}(e:l=x::xs) (h:Q2 l=true):x.size≤64∧Q2 xs=true:=by
 subst e;simp only[Q2,Bool.and_eq_true] at h;have:=N7 h.1;exact⟨by omega,h.2⟩
theorem Z4x {l:List Int}{x:Int}{xs:List Int}(e:l=x::xs) (h:G4 l=true):0≤x∧x≤128∧G4 xs=true:=by
 subst e;simp only[G4,Bool.and_eq_true,Bool.or_eq_true,beq_iff_eq] at h;obtain⟨a,b⟩:=h;rcases a with a |a
 ·have:=Q5.1 a
  exact⟨by omega,by omega,b⟩
 ·exact⟨by omega,by omega,b⟩
theorem Z5e {x:Int}(h0:0≤x) (h1:x≤255):((UInt8.ofNat x.toNat).toNat:Int)=x:=by
 rw[UInt8.toNat_ofNat'];omega
theorem Q2q (l:List (ByteArray×Int)) (h:Q4 l=true):∀(f:Nat) (m:Mq),l.length<f→D8 8 f m (Y9 l,false)=({ m with wishes:=m.wishes++l },([],false)):=by
 induction l with
 |nil=>
  intro f m hf;cases f with
  |zero=>omega
  |succ f=>simp[D8,Y9]
 |cons x xs ih=>
  intro f m hf;obtain⟨a,b,c,d⟩:=Z2l rfl h;cases f with
  |zero=>omega
  |succ f=>
   have hb:Y9 (x::xs)=J2 x.1++(UInt8.ofNat x.2.toNat::Y9 xs):=by simp[Y9]
   have hl:0<(J2 x.1++(UInt8.ofNat x.2.toNat::Y9 xs)).length:=by simp;omega
   rw[hb,D8];simp only[hl,and_self,if_true,Z9u _ (show x.1.size<65536 by omega),Z7k,Z5e b (by omega)];rw[ih d f _ (by simp at hf;omega)];simp
theorem Q2r (l:List (ByteArray×Int)) (h:Q4 l=true):∀(f:Nat) (m:Mq),l.length≤f→C0 8 f m (Y9 l,false)=({ m with wishes:=m.wishes++l },([],false)):=by
 induction l with
 |nil=>
  intro f m hf;cases f with
  |zero=>simp[C0,Y9]
  |succ f=>simp[C0,Y9]
 |cons x xs ih=>
  intro f m hf;obtain⟨a,b,c,d⟩:=Z2l rfl h;cases f with
  |zero=>simp at hf
  |succ f=>
   have hb:Y9 (x::xs)=J2 x.1++(UInt8.ofNat x.2.toNat::Y9 xs):=by simp[Y9]
   have hl:0<(J2 x.1++(UInt8.ofNat x.2.toNat::Y9 xs)).length:=by simp;omega
   rw[hb,C0];simp only[hl,if_true,Z9v _ (show x.1.size<65536 by omega),Y2o,Z5e b (by omega)];rw[ih d f _ (by simp at hf;omega)];simp
theorem Q2s (l:List Int) (h:G4 l=true):∀(f:Nat) (m:Mq),l.length<f→D8 9 f m (G2 l,false)=({ m with codes:=m.codes++l },([],false)):=by
 induction l with
 |nil=>
  intro f m hf;cases f with
  |zero=>omega
  |succ f=>simp[D8,G2]
 |cons x xs ih=>
  intro f m hf;obtain⟨a,b,d⟩:=Z4x rfl h;cases f with
  |zero=>omega
  |succ f=>
   rw[show G2 (x::xs)=UInt8.ofNat x.toNat::G2 xs from rfl,D8];simp only[List.length_cons,Nat.zero_lt_succ,and_self,if_true,show ¬((9:Int)=8) by decide,if_false,Z7k,Z5e a (by omega)];rw[ih d f _ (by simp at hf;omega)];simp
theorem Q2t (l:List Int) (h:G4 l=true):∀(f:Nat) (m:Mq),l.length≤f→C0 9 f m (G2 l,false)=({ m with codes:=m.codes++l },([],false)):=by
 induction l with
 |nil=>
  intro f m hf;cases f with
  |zero=>simp[C0,G2]
  |succ f=>simp[C0,G2]
 |cons x xs ih=>
  intro f m hf;obtain⟨a,b,d⟩:=Z4x rfl h;cases f with
  |zero=>simp at hf
  |succ f=>
   rw[show G2 (x::xs)=UInt8.ofNat x.toNat::G2 xs from rfl,C0];simp only[List.length_cons,Nat.zero_lt_succ,if_true,show ¬((9:Int)=8) by decide,if_false,Y2o,Z5e a (by omega)];rw[ih d f _ (by simp at hf;omega)];simp
theorem J9f (l:List ByteArray) (h:Q2 l=true):∀(f:Nat) (m:Mq),l.length<f→D8 10 f m (J8 l,false)=({ m with filters:=m.filters++l },([],false)):=by
 induction l with
 |nil=>
  intro f m hf;cases f with
  |zero=>omega
  |succ f=>simp[D8,J8]
 |cons x xs ih=>
  intro f m hf;obtain⟨a,d⟩:=Z1k rfl h;cases f with
  |zero=>omega
  |succ f=>
   have hl:0<(J2 x++J8 xs).length:=by simp[J2,Y0];omega
   rw[show J8 (x::xs)=J2 x++J8 xs from rfl,D8];simp only[hl,and_self,if_true,show ¬((10:Int)=8) by decide,show ¬((10:Int)=9) by decide,if_false,Z9u _ (show x.size<65536 by omega)];rw[ih d f _ (by simp at hf;omega)];simp
theorem J9g (l:List ByteArray) (h:Q2 l=true):∀(f:Nat) (m:Mq),l.length≤f→C0 10 f m (J8 l,false)=({ m with filters:=m.filters++l },([],false)):=by
 induction l with
 |nil=>
  intro f m hf;cases f with
  |zero=>simp[C0,J8]
  |succ f=>simp[C0,J8]
 |cons x xs ih=>
  intro f m hf;obtain⟨a,d⟩:=Z1k rfl h;cases f with
  |zero=>simp at hf
  |succ f=>
   have hl:0<(J2 x++J8 xs).length:=by simp[J2,Y0];omega
   rw[show J8 (x::xs)=J2 x++J8 xs from rfl,C0];simp only[hl,if_true,show ¬((10:Int)=8) by decide,show ¬((10:Int)=9) by decide,if_false,Z9v _ (show x.size<65536 by omega)];rw[ih d f _ (by simp at hf;omega)];simp
end
section
open Go.RowKit
def loB (x:UInt8):UInt8:=x&&&15
theorem Z6p (k f:Nat) (hk:k≤14) (hf:f≤15):(UInt8.ofNat (16*k+f)).toNat/16=k∧loB (UInt8.ofNat (16*k+f))=UInt8.ofNat f:=by
 obtain⟨k',rfl⟩:∃k':Fin 15,k=k'.val:=⟨⟨k,by omega⟩,rfl⟩;obtain⟨f',rfl⟩:∃f':Fin 16,f=f'.val:=⟨⟨f,by omega⟩,rfl⟩;revert k' f'
 decide
theorem Z3r {m:Mq}(h:N3 m=true):X9 m≤15:=by
 unfold X9
 split
 ·next hk=>
  have h':K9 m=true:=by
   unfold N3 at h;rw[if_neg (by omega),if_neg (by omega),if_pos hk] at h;exact h
  obtain⟨_,h0,h2,_⟩:=W5 h';have:cb m.dup 8≤8:=by unfold cb;split<;>omega
  have:cb m.retain 1≤1:=by unfold cb;split<;>omega
  omega
 ·split
  ·omega
  ·split
   ·omega
   ·split<;>omega
theorem Y0r {m:Mq}(h:Z4b m):Z4n m.kind (UInt8.ofNat (X9 m)) (X8 m,false)=(m,([],false)):=by
 obtain⟨h,ho⟩:=h;have hkk:=Z2k h;have ids:∀{n:Int},V6 n 1 65535=true→0≤n∧n.toNat<65536:=fun h=>by have:=Q5.1 h;omega
 unfold Z4n;by_cases k1:m.kind=1
 ·have hc:E4 m=true:=by unfold N3 at h;rw[if_pos k1] at h;exact h
  obtain⟨a,b⟩:=J5u m k1 hc;rw[if_pos k1,show X8 m=P4 m by unfold X8;rw[if_pos k1],a,b,←ho]
 rw[if_neg k1];by_cases k2:m.kind=2
 ·have hc:(V6 m.code 0 5&&(!m.present||m.code==0))=true:=by unfold N3 at h;rw[if_neg k1,if_pos k2] at h;exact h
  simp only[Bool.and_eq_true] at hc;have hc:=Q5.1 hc.1;rw[if_pos k2,show X8 m=[UInt8.ofNat (cb m.present 1),UInt8.ofNat m.code.toNat] by unfold X8;rw[if_neg k1,if_pos k2]];simp only[Z7k,Z5e hc.1 (by omega)];have hp:(UInt8.ofNat (cb m.present 1)==1)=m.present:=by cases m.present<;>rfl
  rw[hp];have e:Y3 m={ N6 m.kind with present:=m.present,code:=m.code }:=by unfold Y3;rw[if_neg k1,if_pos k2]
  rw[←e,←ho]
 rw[if_neg k2];by_cases k3:m.kind=3
 ·have hc:K9 m=true:=by unfold N3 at h;rw[if_neg k1,if_neg k2,if_pos k3] at h;exact h
  obtain⟨_,h0,hq2,_⟩:=W5 hc;have hb:=X3v m.dup m.retain m.qos.toNat (by omega) 0 (.inl rfl);rw[Nat.zero_add,show cb m.dup 8+2*m.qos.toNat+cb m.retain 1=X9 m by unfold X9;rw[if_pos k3]] at hb;rw[if_pos k3,show X8 m=Z0q m by unfold X8;rw[if_neg k1,if_neg k2,if_pos k3],Y7l m k3 hc _ hb.1 hb.2.1 hb.2.2,←ho]
 rw[if_neg k3];by_cases k8:m.kind=8
 ·have hc:(V6 m.id 1 65535&&E8 m.wishes)=true:=by
   unfold N3 at h;rw[if_neg k1,if_neg k2,if_neg k3,if_neg (by simp[Q8,k8]),if_pos k8] at h;exact h
  simp only[Bool.and_eq_true,E8] at hc;obtain⟨i0,i1⟩:=ids hc.1;rw[if_pos (by simp[Z0r,k8]),show X8 m=U1 2 m.id.toNat++Y9 m.wishes by unfold X8;rw[if_neg k1,if_neg k2,if_neg k3,if_pos k8]];simp only[Z5s _ i1,E9 i0,k8];have hl:∀l:List (ByteArray×Int),l.length≤(Y9 l).length:=by
   intro l
   induction l with
   |nil=>simp[Y9]
   |cons x xs ih=>simp[Y9];omega
  rw[Q2q _ hc.2.1 _ _ (by have:=hl m.wishes;omega)];have e:Y3 m={ N6 m.kind with id:=m.id,wishes:=m.wishes }:=by
   unfold Y3;rw[if_neg k1,if_neg k2,if_neg k3,if_neg (by simp[Q8,k8]),if_pos k8]
  rw[k8] at e;rw[ho,e];rfl
 by_cases k9:m.kind=9
 ·have hc:(V6 m.id 1 65535&&C3 m.codes)=true:=by
   unfold N3 at h;rw[if_neg k1,if_neg k2,if_neg k3,if_neg (by simp[Q8,k9]),if_neg k8,if_pos k9] at h;exact h
  simp only[Bool.and_eq_true,C3] at hc;obtain⟨i0,i1⟩:=ids hc.1;rw[if_pos (by simp[Z0r,k9]),show X8 m=U1 2 m.id.toNat++G2 m.codes by unfold X8;rw[if_neg k1,if_neg k2,if_neg k3,if_neg k8,if_pos k9]];simp only[Z5s _ i1,E9 i0,k9];have hl:∀l:List Int,l.length≤(G2 l).length:=by
   intro l
   induction l with
   |nil=>simp[G2]
   |cons x xs ih=>simp[G2];omega
  rw[Q2s _ hc.2.1 _ _ (by have:=hl m.codes;omega)];have e:Y3 m={ N6 m.kind with id:=m.id,codes:=m.codes }:=by
   unfold Y3;rw[if_neg k1,if_neg k2,if_neg k3,if_neg (by simp[Q8,k9]),if_neg k8,if_pos k9]
  rw[k9] at e;rw[ho,e];rfl
 by_cases k10:m.kind=10
 ·have hc:(V6 m.id 1 65535&&M0 m.filters)=true:=by
   unfold N3 at h;rw[if_neg k1,if_neg k2,if_neg k3,if_neg (by simp[Q8,k10]),if_neg k8,if_neg k9,if_pos k10] at h;exact h
  simp only[Bool.and_eq_true,M0] at hc;obtain⟨i0,i1⟩:=ids hc.1;rw[if_pos (by simp[Z0r,k10]),show X8 m=U1 2 m.id.toNat++J8 m.filters by unfold X8;rw[if_neg k1,if_neg k2,if_neg k3,if_neg k8,if_neg k9,if_pos k10]];simp only[Z5s _ i1,E9 i0,k10];have hl:∀l:List ByteArray,l.length≤(J8 l).length:=by
   intro l
   induction l with
   |nil=>simp[J8]
   |cons x xs ih=>simp[J8,J2,Y0];omega
  rw[J9f _ hc.2.1 _ _ (by have:=hl m.filters;omega)];have e:Y3 m={ N6 m.kind with id:=m.id,filters:=m.filters }:=by
   unfold Y3;rw[if_neg k1,if_neg k2,if_neg k3,if_neg (by simp[Q8,k10]),if_neg k8,if_neg k9,if_pos k10]
  rw[k10] at e;rw[ho,e];rfl
 rw[if_neg (by simp[Z0r,k8,k9,k10])];by_cases ki:Q8 m.kind=true
 ·have hc:V6 m.id 1 65535=true:=by
   unfold N3 at h;rw[if_neg k1,if_neg k2,if_neg k3,if_pos ki] at h;exact h
  obtain⟨i0,i1⟩:=ids hc;have kb:¬J3 m.kind=true:=by
   simp only[Q8,Bool.or_eq_true,beq_iff_eq] at ki;simp only[J3,Bool.or_eq_true,beq_iff_eq];omega
  rw[if_pos ki,show X8 m=U1 2 m.id.toNat by unfold X8;rw[if_neg k1,if_neg k2,if_neg k3,if_neg k8,if_neg k9,if_neg k10,if_neg kb]];have:=Z5s _ i1 [];rw[List.append_nil] at this;simp only[this,E9 i0];have e:Y3 m={ N6 m.kind with id:=m.id }:=by unfold Y3;rw[if_neg k1,if_neg k2,if_neg k3,if_pos ki]
  rw[←e,←ho]
 rw[if_neg ki];have kb:J3 m.kind=true:=by
  unfold N3 at h;rw[if_neg k1,if_neg k2,if_neg k3,if_neg ki,if_neg k8,if_neg k9,if_neg k10] at h;exact h
 rw[show X8 m=[] by unfold X8;rw[if_neg k1,if_neg k2,if_neg k3,if_neg k8,if_neg k9,if_neg k10,if_pos kb]];have e:Y3 m=N6 m.kind:=by unfold Y3;rw[if_neg k1,if_neg k2,if_neg k3,if_neg ki,if_neg k8,if_neg k9,if_neg k10]
 rw[←e,←ho]
theorem X6n (k:Int) (h8:k≠8) (h9:k≠9) (h10:k≠10):∀(f:Nat) (m:Mq) (s:Rd),C0 k f m s=(m,s):=by
 intro f
 induction f with
 |zero=>intro m s;rfl
 |succ f ih=>
  intro m s;rw[C0]
  split
  ·exact ih m s
  ·rfl
theorem X6o {m:Mq}(h:Z4b m):∃s,Z2u m.kind (UInt8.ofNat (16*m.kind.toNat+X9 m)) (X8 m,false)=(m,(s,false)):=by
 obtain⟨h,ho⟩:=h;have hkk:=Z2k h;have ids:∀{n:Int},V6 n 1 65535=true→0≤n∧n.toNat<65536:=fun h=>by have:=Q5.1 h;omega
 unfold Z2u;by_cases k1:m.kind=1
 ·have hc:E4 m=true:=by unfold N3 at h;rw[if_pos k1] at h;exact h
  obtain⟨a,b⟩:=J5v m k1 hc;rw[if_pos k1,show X8 m=P4 m by unfold X8;rw[if_pos k1],a,b,←ho];exact⟨_,rfl⟩
 rw[if_neg k1];by_cases k2:m.kind=2
 ·have hc:(V6 m.code 0 5&&(!m.present||m.code==0))=true:=by unfold N3 at h;rw[if_neg k1,if_pos k2] at h;exact h
  simp only[Bool.and_eq_true] at hc;have hc:=Q5.1 hc.1;rw[if_pos k2,show X8 m=[UInt8.ofNat (cb m.present 1),UInt8.ofNat m.code.toNat] by unfold X8;rw[if_neg k1,if_pos k2]];have ht:=Z7j [UInt8.ofNat (cb m.present 1),UInt8.ofNat m.code.toNat] [] 2 rfl;rw[List.append_nil] at ht;simp only[ht,List.getD_cons_zero,List.getD_cons_succ,Z5e hc.1 (by omega)];have hp:(UInt8.ofNat (cb m.present 1)==1)=m.present:=by cases m.present<;>rfl
  rw[hp];have e:Y3 m={ N6 m.kind with present:=m.present,code:=m.code }:=by unfold Y3;rw[if_neg k1,if_pos k2]
  rw[←e,←ho];exact⟨_,rfl⟩
 rw[if_neg k2];by_cases k3:m.kind=3
 ·have hc:K9 m=true:=by unfold N3 at h;rw[if_neg k1,if_neg k2,if_pos k3] at h;exact h
  obtain⟨_,h0,hq2,_⟩:=W5 hc;have hb:=X3v m.dup m.retain m.qos.toNat (by omega) 48 (.inr rfl);rw[show cb m.dup 8+2*m.qos.toNat+cb m.retain 1=X9 m by unfold X9;rw[if_pos k3],show 48=16*m.kind.toNat by rw[k3];rfl] at hb;obtain⟨s,hs⟩:=Y7m m k3 hc _ hb.1 hb.2.1 hb.2.2;rw[if_pos k3,show X8 m=Z0q m by unfold X8;rw[if_neg k1,if_neg k2,if_pos k3],hs,←ho];exact⟨_,rfl⟩
 rw[if_neg k3];by_cases kb:J3 m.kind=true
 ·have kb':=kb
  simp only[J3,Bool.or_eq_true,beq_iff_eq] at kb';have ki:¬Q8 m.kind=true:=by
   simp only[Q8,Bool.or_eq_true,beq_iff_eq];omega
  rw[if_pos kb,show X8 m=[] by unfold X8;rw[if_neg k1,if_neg k2,if_neg k3,if_neg (by omega),if_neg (by omega),if_neg (by omega),if_pos kb]];have e:Y3 m=N6 m.kind:=by unfold Y3;rw[if_neg k1,if_neg k2,if_neg k3,if_neg ki,if_neg (by omega),if_neg (by omega),if_neg (by omega)]
  rw[←e,←ho];exact⟨_,rfl⟩
 rw[if_neg kb];by_cases k8:m.kind=8
 ·have hc:(V6 m.id 1 65535&&E8 m.wishes)=true:=by
   unfold N3 at h;rw[if_neg k1,if_neg k2,if_neg k3,if_neg (by simp[Q8,k8]),if_pos k8] at h;exact h
  simp only[Bool.and_eq_true,E8] at hc;obtain⟨i0,i1⟩:=ids hc.1;have hl:=Q5.1 hc.2.2;rw[show X8 m=U1 2 m.id.toNat++Y9 m.wishes by unfold X8;rw[if_neg k1,if_neg k2,if_neg k3,if_pos k8]];simp only[Z5t _ i1,E9 i0,k8];rw[Q2r _ hc.2.1 _ _ (by omega)];have e:Y3 m={ N6 m.kind with id:=m.id,wishes:=m.wishes }:=by
   unfold Y3;rw[if_neg k1,if_neg k2,if_neg k3,if_neg (by simp[Q8,k8]),if_pos k8]
  rw[k8] at e;refine⟨[], ?_⟩;rw[ho,e];rfl
 by_cases k9:m.kind=9
 ·have hc:(V6 m.id 1 65535&&C3 m.codes)=true:=by
   unfold N3 at h;rw[if_neg k1,if_neg k2,if_neg k3,if_neg (by simp[Q8,k9]),if_neg k8,if_pos k9] at h;exact h
  simp only[Bool.and_eq_true,C3] at hc;obtain⟨i0,i1⟩:=ids hc.1;have hl:=Q5.1 hc.2.2;rw[show X8 m=U1 2 m.id.toNat++G2 m.codes by unfold X8;rw[if_neg k1,if_neg k2,if_neg k3,if_neg k8,if_pos k9]];simp only[Z5t _ i1,E9 i0,k9];rw[Q2t _ hc.2.1 _ _ (by omega)];have e:Y3 m={ N6 m.kind with id:=m.id,codes:=m.codes }:=by
   unfold Y3;rw[if_neg k1,if_neg k2,if_neg k3,if_neg (by simp[Q8,k9]),if_neg k8,if_pos k9]
  rw[k9] at e;refine⟨[], ?_⟩;rw[ho,e];rfl
 by_cases k10:m.kind=10
 ·have hc:(V6 m.id 1 65535&&M0 m.filters)=true:=by
   unfold N3 at h;rw[if_neg k1,if_neg k2,if_neg k3,if_neg (by simp[Q8,k10]),if_neg k8,if_neg k9,if_pos k10] at h;exact h
  simp only[Bool.and_eq_true,M0] at hc;obtain⟨i0,i1⟩:=ids hc.1;have hl:=Q5.1 hc.2.2;rw[show X8 m=U1 2 m.id.toNat++J8 m.filters by unfold X8;rw[if_neg k1,if_neg k2,if_neg k3,if_neg k8,if_neg k9,if_pos k10]];simp only[Z5t _ i1,E9 i0,k10];rw[J9g _ hc.2.1 _ _ (by omega)];have e:Y3 m={ N6 m.kind with id:=m.id,filters:=m.filters }:=by
   unfold Y3;rw[if_neg k1,if_neg k2,if_neg k3,if_neg (by simp[Q8,k10]),if_neg k8,if_neg k9,if_pos k10]
  rw[k10] at e;refine⟨[], ?_⟩;rw[ho,e];rfl
 have ki:Q8 m.kind=true:=by
  simp only[J3,Bool.or_eq_true,beq_iff_eq] at kb;simp only[Q8,Bool.or_eq_true,beq_iff_eq];omega
 have hc:V6 m.id 1 65535=true:=by
  unfold N3 at h;rw[if_neg k1,if_neg k2,if_neg k3,if_pos ki] at h;exact h
 obtain⟨i0,i1⟩:=ids hc;rw[show X8 m=U1 2 m.id.toNat by unfold X8;rw[if_neg k1,if_neg k2,if_neg k3,if_neg k8,if_neg k9,if_neg k10,if_neg kb]];have:=Z5t _ i1 [];rw[List.append_nil] at this;rw[X6n _ k8 k9 k10,this,E9 i0];have e:Y3 m={ N6 m.kind with id:=m.id }:=by unfold Y3;rw[if_neg k1,if_neg k2,if_neg k3,if_pos ki]
 rw[←e,←ho];exact⟨_,rfl⟩
theorem V5 (s:ByteArray):(J2 s).length=2+s.size:=by simp[J2,Y0]
theorem Z4e:∀(l:List (ByteArray×Int)),Q4 l=true→(Y9 l).length≤67*l.length
 |[],_=>by simp[Y9]
 |x::xs,h=>by
  obtain⟨a,_,_,d⟩:=Z2l rfl h;have:=Z4e xs d;simp[Y9,V5];omega
theorem Z5z:∀(l:List Int),(G2 l).length=l.length
 |[]=>rfl
 |x::xs=>by simp[G2,Z5z xs]
theorem Z3i:∀(l:List ByteArray),Q2 l=true→(J8 l).length≤66*l.length
 |[],_=>by simp[J8]
 |x::xs,h=>by
  obtain⟨a,d⟩:=Z1k rfl h;have:=Z3i xs d;simp[J8,V5];omega
theorem Z9y {m:Mq}(h:N3 m=true):(X8 m).length≤540:=by
 have hkk:=Z2k h;unfold X8;by_cases k1:m.kind=1
 ·have hc:E4 m=true:=by unfold N3 at h;rw[if_pos k1] at h;exact h
  rw[if_pos k1];simp only[E4,Bool.and_eq_true,decide_eq_true_eq] at hc;obtain⟨hc,hkp,hw,hu,hps,h1,h2⟩:=hc;have hc':=N7 hc;have hu':=N7 hu;have hwq:m.wt.size≤64∧m.wp.size≤128:=by
   unfold Z9c at hw;cases hwon:m.won with
   |true=>
    rw[hwon,if_pos rfl] at hw;simp only[Bool.and_eq_true,decide_eq_true_eq] at hw;obtain⟨a,b,c⟩:=hw;have:=N7 a;exact⟨by omega,by omega⟩
   |false=>
    rw[hwon,if_neg (by simp)] at hw;simp only[Bool.and_eq_true,beq_iff_eq,Bool.not_eq_true'] at hw;obtain⟨a,b,c,d⟩:=hw;rw[Z3x a,Z3x b];exact⟨by decide,by decide⟩
  have a1:(if m.won=true then J2 m.wt++J2 m.wp else []).length≤200:=by split<;>simp[V5]<;>omega
  have a2:(if m.hu=true then J2 m.user else []).length≤70:=by split<;>simp[V5]<;>omega
  have a3:(if m.hp=true then J2 m.pass else []).length≤70:=by split<;>simp[V5]<;>omega
  unfold P4;simp only[List.length_append,Y0,V5,List.length_cons,List.length_nil];omega
 rw[if_neg k1];by_cases k2:m.kind=2
 ·rw[if_pos k2];simp
 rw[if_neg k2];by_cases k3:m.kind=3
 ·have hc:K9 m=true:=by unfold N3 at h;rw[if_neg k1,if_neg k2,if_pos k3] at h;exact h
  obtain⟨ht,_,_,_,_,hp⟩:=W5 hc;rw[if_pos k3];have a1:(if 0<m.qos then U1 2 m.id.toNat else []).length≤2:=by split<;>simp[Y0]
  unfold Z0q;simp only[List.length_append,V5,Z0p];omega
 rw[if_neg k3];by_cases k8:m.kind=8
 ·have hc:(V6 m.id 1 65535&&E8 m.wishes)=true:=by
   unfold N3 at h;rw[if_neg k1,if_neg k2,if_neg k3,if_neg (by simp[Q8,k8]),if_pos k8] at h;exact h
  simp only[Bool.and_eq_true,E8] at hc;have hl:=Q5.1 hc.2.2;have:=Z4e _ hc.2.1;rw[if_pos k8,List.length_append,Y0];omega
 rw[if_neg k8];by_cases k9:m.kind=9
 ·have hc:(V6 m.id 1 65535&&C3 m.codes)=true:=by
   unfold N3 at h;rw[if_neg k1,if_neg k2,if_neg k3,if_neg (by simp[Q8,k9]),if_neg k8,if_pos k9] at h;exact h
  simp only[Bool.and_eq_true,C3] at hc;have hl:=Q5.1 hc.2.2;rw[if_pos k9,List.length_append,Y0,Z5z];omega
 rw[if_neg k9];by_cases k10:m.kind=10
 ·have hc:(V6 m.id 1 65535&&M0 m.filters)=true:=by
   unfold N3 at h;rw[if_neg k1,if_neg k2,if_neg k3,if_neg (by simp[Q8,k10]),if_neg k8,if_neg k9,if_pos k10] at h;exact h
  simp only[Bool.and_eq_true,M0] at hc;have hl:=Q5.1 hc.2.2;have:=Z3i _ hc.2.1;rw[if_pos k10,List.length_append,Y0];omega
 rw[if_neg k10]
 split
 ·simp
 ·rw[Y0];omega
def Z2a:Nat→Nat→Nat→List UInt8→Except Int (Nat×Nat)
 |_,_,_,[]=>.error 7
 |0,_,_,_::_=>.error 1
 |f+1,i,n,x::r=>
  if 128≤x.toNat then (if i=4 then .error 1 else Z2a f (i+1) (n+x.toNat%128*128^(i-1)) r)
  else if x.toNat=0∧1<i then .error 1
  else if 1024<n+x.toNat%128*128^(i-1)+(i+1) then .error 2
  else if r.length<n+x.toNat%128*128^(i-1) then .error 7
  else .ok (n+x.toNat%128*128^(i-1)+(i+1),i+1)
def Z0y:List UInt8→Except Int (Nat×Nat)
 |[]=>.error 7
 |_::r=>Z2a 4 1 0 r
theorem Z6a (n:Nat) (h:n<128):Z3g n=[UInt8.ofNat n]:=by unfold Z3g;rw[if_pos h]
theorem Y8t (n:Nat) (h:¬n<128) (h2:n<16384):Z3g n=[UInt8.ofNat (n%128+128),UInt8.ofNat (n/128)]:=by
 unfold Z3g;rw[if_neg h,Z6a _ (by omega)]
theorem Y3a (n:Nat) (h:n<256):(UInt8.ofNat n).toNat=n:=by rw[UInt8.toNat_ofNat'];omega
theorem Y8u (x:UInt8) (B rest:List UInt8) (h:B.length≤540):Z0y (x::(Z3g B.length++B++rest)) = .ok (1+(Z3g B.length).length+B.length,1+(Z3g B.length).length):=by
 unfold Z0y;by_cases hs:B.length<128
 ·rw[Z6a _ hs]
  simp only[List.cons_append,List.nil_append,Z2a,Y3a _ (show B.length<256 by omega),List.length_append,List.length_cons,List.length_nil];rw[if_neg (by omega),if_neg (by omega),if_neg (by omega),if_neg (by omega)];have:B.length%128*128^(1-1)=B.length:=by omega
  rw[this]
  congr 2
  omega
 ·rw[Y8t _ hs (by omega)]
  simp only[List.cons_append,List.nil_append,Z2a,Y3a _ (show B.length%128+128<256 by omega),Y3a _ (show B.length/128<256 by omega),List.length_append,List.length_cons,List.length_nil];rw[if_pos (by omega),if_neg (by omega),if_neg (by omega),if_neg (by omega)];have:0+(B.length%128+128)%128*128^(1-1)+B.length/128%128*128^(1+1-1)=B.length:=by omega
  rw[this,if_neg (by omega),if_neg (by omega)]
  congr 2
  omega
def Z0a (b:List UInt8) (m:Mq) (n:Nat) (e:Int):Prop:=
 match Z0y b with
 | .error er=>e=er∧m=N6 0∧n=0
 | .ok (t,_)=>(Z4b m∧Z1j m=b.take t∧n=t∧e=0)∨((∀m',Z4b m'→Z1j m'≠b.take t)∧m=N6 0∧n=0∧e=1)
theorem Y3b {m:Mq}(h:Z4b m):Z0y (Z1j m) = .ok ((Z1j m).length,1+(Z3g (X8 m).length).length)∧(Z1j m).drop (1+(Z3g (X8 m).length).length)=X8 m:=by
 have hb:=Z9y h.1;have e:Z1j m=UInt8.ofNat (16*m.kind.toNat+X9 m)::(Z3g (X8 m).length++X8 m++[]):=by rw[List.append_nil];rfl
 constructor
 ·rw[e,Y8u _ _ _ hb]
  congr 2
  simp;omega
 ·rw[e,List.append_nil,Nat.add_comm 1,List.drop_succ_cons,List.drop_left]
theorem J9h {m m':Mq}(h:Z4b m) (h':Z4b m') (e:Z1j m=Z1j m'):m=m':=by
 have p:=Y3b h;have p':=Y3b h';rw[←e] at p';have hh:1+(Z3g (X8 m).length).length=1+(Z3g (X8 m').length).length:=by
  have:=p.1.symm.trans p'.1;injection this with this
  injection this
 have hbody:X8 m=X8 m':=by rw[←p.2,←p'.2,hh]
 have hx:UInt8.ofNat (16*m.kind.toNat+X9 m)=UInt8.ofNat (16*m'.kind.toNat+X9 m'):=by
  have:=congrArg (fun l=>l.headD 0) e
  simpa [Z1j] using this
 have k1:=Z2k h.1;have k2:=Z2k h'.1;have f1:=Z6p m.kind.toNat (X9 m) (by omega) (Z3r h.1);have f2:=Z6p m'.kind.toNat (X9 m') (by omega) (Z3r h'.1);rw[hx] at f1;have hk:m.kind=m'.kind:=by
  have:=f1.1.symm.trans f2.1;omega
 have r1:=Y0r h;have r2:=Y0r h';have hf:UInt8.ofNat (X9 m)=UInt8.ofNat (X9 m'):=f1.2.symm.trans f2.2;rw[hk,hf,hbody,r2] at r1;exact(congrArg (·.1) r1).symm
theorem Z1l {b:List UInt8}{m m':Mq}{n n':Nat}{e e':Int}(h:Z0a b m n e) (h':Z0a b m' n' e'):m=m'∧n=n'∧e=e':=by
 unfold Z0a at h h';cases hs:Z0y b with
 |error er=>
  rw[hs] at h h';obtain⟨rfl,rfl,rfl⟩:=h;obtain⟨rfl,rfl,rfl⟩:=h';exact⟨rfl,rfl,rfl⟩
 |ok p=>
  rw[hs] at h h';rcases h with⟨a,b1,c,d⟩ |⟨a,b1,c,d⟩
  ·rcases h' with⟨a',b',c',d'⟩ |⟨a',b',c',d'⟩
   ·exact⟨J9h a a' (b1.trans b'.symm),c.trans c'.symm,d.trans d'.symm⟩
   ·exact absurd b1 (a' _ a)
  ·rcases h' with⟨a',b',c',d'⟩ |⟨a',b',c',d'⟩
   ·exact absurd b' (a _ a')
   ·exact⟨b1.trans b'.symm,c.trans c'.symm,d.trans d'.symm⟩
theorem X6p {m:Mq}:(Z1j m).length=1+(Z3g (X8 m).length).length+(X8 m).length:=by
 unfold Z1j;simp;omega
theorem X1b (n:Nat) (h:n<16384):(Z3g n).length≤2:=by
 by_cases hs:n<128
 ·rw[Z6a _ hs];simp
 ·rw[Y8t _ hs h];simp
theorem Q2u {m:Mq}(h:Z4b m):(Z1j m).length≤543:=by
 have hb:=Z9y h.1;have:=X1b (X8 m).length (by omega);rw[X6p];omega
theorem Y8v {b:List UInt8}{t i:Nat}(hs:Z0y b = .ok (t,i)) {m:Mq}(hm:Z4b m) (hl:Z1j m=b.take t):Z0a b m t 0:=by
 unfold Z0a;rw[hs];exact .inl ⟨hm,hl,rfl,rfl⟩
theorem J1j:∀(f i n:Nat) (l:List UInt8) (t j:Nat),Z2a f i n l = .ok (t,j)→i+1≤j∧j≤t∧t≤i+l.length∧t≤1024:=by
 intro f
 induction f with
 |zero=>intro i n l t j h;cases l<;>simp[Z2a] at h
 |succ f ih=>
  intro i n l t j h;cases l with
  |nil=>simp[Z2a] at h
  |cons x r=>
   rw[Z2a] at h
   split at h
   ·split at h
    ·cases h
    ·have:=ih _ _ _ _ _ h
     simp only[List.length_cons];omega
   ·split at h
    ·cases h
    ·split at h
     ·cases h
     ·split at h
      ·cases h
      ·injection h with h
       injection h with h1 h2
       simp only[List.length_cons];omega
theorem Y1w {b:List UInt8}{t i:Nat}(hs:Z0y b = .ok (t,i)):2≤i∧i≤t∧t≤b.length∧t≤1024:=by
 cases b with
 |nil=>cases hs
 |cons x r=>
  have:=J1j _ _ _ _ _ _ hs;simp only[List.length_cons];omega
theorem X3w {b:List UInt8}{t i:Nat}(hs:Z0y b = .ok (t,i)) {m:Mq}(hm:Z4b m) (hl:Z1j m=b.take t):b.headD 0=UInt8.ofNat (16*m.kind.toNat+X9 m)∧(b.take t).drop i=X8 m:=by
 have hg:=Y1w hs;have hp:=Y3b hm;have hx:b.headD 0=UInt8.ofNat (16*m.kind.toNat+X9 m):=by
  have:(b.take t).headD 0=b.headD 0:=by
   cases b with
   |nil=>simp
   |cons x r=>
    obtain⟨t',rfl⟩:∃t',t=t'+1:=⟨t-1,by omega⟩;rfl
  rw[←this,←hl];rfl
 refine⟨hx, ?_⟩;have hb:=Z9y hm.1;have e:b=Z1j m++b.drop t:=by rw[hl,List.take_append_drop]
 have hs2:Z0y (Z1j m++b.drop t) = .ok (1+(Z3g (X8 m).length).length+(X8 m).length,1+(Z3g (X8 m).length).length):=by
  have:Z1j m++b.drop t=UInt8.ofNat (16*m.kind.toNat+X9 m)::(Z3g (X8 m).length++X8 m++b.drop t):=by simp[Z1j]
  rw[this,Y8u _ _ _ hb]
 rw[←e] at hs2;have hi:i=1+(Z3g (X8 m).length).length:=by
  have:=hs.symm.trans hs2;injection this with this
  injection this
 rw[←hl,hi];exact hp.2
theorem X1c {b:List UInt8}{t i:Nat}(hs:Z0y b = .ok (t,i)) (r:Mq×Rd) (hr:r=Z4n (((b.headD 0).toNat/16:Nat):Int) (loB (b.headD 0)) ((b.take t).drop i,false)):
  (r.2.2=false∧Z4b r.1∧Z1j r.1=b.take t→Z0a b r.1 t 0)∧(¬(r.2.2=false∧Z4b r.1∧Z1j r.1=b.take t)→Z0a b (N6 0) 0 1):=by
 refine⟨fun h=>Y8v hs h.2.1 h.2.2,fun h=>?_⟩;unfold Z0a;rw[hs];refine .inr ⟨fun m' hm hl=>h ?_,rfl,rfl,rfl⟩;obtain⟨hx,hb⟩:=X3w hs hm hl;have kk:=Z2k hm.1;have fp:=Z6p m'.kind.toNat (X9 m') (by omega) (Z3r hm.1);have:r=(m',([],false)):=by
  rw[hr,hx,hb,fp.1,fp.2,show ((m'.kind.toNat:Nat):Int)=m'.kind by omega];exact Y0r hm
 rw[this];exact⟨rfl,hm,hl⟩
theorem X1d {b:List UInt8}{t i:Nat}(hs:Z0y b = .ok (t,i)) (r:Mq×Rd) (hr:r=Z2u (((b.headD 0).toNat/16:Nat):Int) (b.headD 0) ((b.take t).drop i,false)):
  (r.2.2=false∧Z4b r.1∧Z1j r.1=b.take t→Z0a b r.1 t 0)∧(¬(r.2.2=false∧Z4b r.1∧Z1j r.1=b.take t)→Z0a b (N6 0) 0 1):=by
 refine⟨fun h=>Y8v hs h.2.1 h.2.2,fun h=>?_⟩;unfold Z0a;rw[hs];refine .inr ⟨fun m' hm hl=>h ?_,rfl,rfl,rfl⟩;obtain⟨hx,hb⟩:=X3w hs hm hl;have kk:=Z2k hm.1;have fp:=Z6p m'.kind.toNat (X9 m') (by omega) (Z3r hm.1);obtain⟨s,hsr⟩:=X6o hm;have:r=(m',(s,false)):=by
  rw[hr,hx,hb,fp.1,show ((m'.kind.toNat:Nat):Int)=m'.kind by omega];exact hsr
 rw[this];exact⟨rfl,hm,hl⟩
end
section
open Go.RowKit
section
variable {P:Program}{o:Oper}{a:Act}{w:World}
theorem Z2o (hgb:P.underlying 31=some (.slice 5)) (hst:P.underlying 9=some .string) (hi:(P.info? 5).map (fun i=>(i.zero,i.size,i.bytes))=some (some (.int .u8 0),1,1)) {s x:Operand}
  (ho:o.op = .call { callee:=.builtin .append,args:=#[s,x],argTypes:=#[31,9] }) {b:Nat}{xs:List UInt8}{v:Value}{str:ByteArray}(hs:a.eval s=v) (hx:a.eval x = .string str) (hv:Y2 b xs v w)
  (hn:xs.length+str.size≤140737488355328) (hb:b≤w.heap.size):∃v' w',(execOp a.eval o).run P w = .ok (.value v') w'∧Y2 b (xs++sb str) v' w'∧Below b w w'∧w.grownBy w' v.ownBlock:=by
 obtain⟨A,c,rfl,hown⟩:=hv;obtain⟨i0,hi0,hz0,hz1,hz2⟩:=info_parts hi;obtain⟨v',w',hrun,h2,h3,_⟩:=Lib.run_append_own_string (P:=P) (w:=w) b 31 9 o.type 5 i0 hgb hst hi0 hz0 hz1 hz2 _ xs.length (xs.map bv) hown str (by unfold maxLen;omega) hn hb;obtain⟨A',c',rfl,_,_⟩:=V3 h2;refine⟨_,w', ?_,⟨A',c',by rw[List.length_append,Z0p],by rw[List.length_append,Z0p,List.map_append,←Y3n];exact h2⟩,(Below.refl _ _).grown h3 hb fun k hk=>(hown.lt k hk).1,h3⟩;unfold execOp;simp only[ho,resolve,invoke,builtin,Sem.run_bind,Sem.run_pure,Result.andThen_ok,List.map_toArray,List.map_cons,List.map_nil,hs,hx,hrun]
end
section
variable {P:Program}{ops:Array Oper}{rest:List Oper}{o:Oper}{a:Act}{w:World}{Q:Exit→Act→World→Prop}{n:Nat}{l:List (Nat×Value)}
theorem Z9.appendStr (H:Z9 a n l) (hgb:P.underlying 31=some (.slice 5)) (hst:P.underlying 9=some .string) (hi:(P.info? 5).map (fun i=>(i.zero,i.size,i.bytes))=some (some (.int .u8 0),1,1)) (hw:Region.wanted o (yielded ops a.tmps)=true) {d:Nat}{s x:Operand}
  (ho:o.op = .call { callee:=.builtin .append,args:=#[s,x],argTypes:=#[31,9] }) (hd:o.dst=some d) (hn:Nat.blt d n=true) {b:Nat}{xs:List UInt8}{v:Value}{str:ByteArray}(hs:W1 l s=some v) (hx:W1 l x=some (.string str)) (hv:Y2 b xs v w)
  (hl:xs.length+str.size≤140737488355328) (hb:b≤w.heap.size) (h:∀a' v' w',Z9 a' n ((d,v')::l)→Y2 b (xs++sb str) v' w'→Below b w w'→w.grownBy w' v.ownBlock→wpList P ops Q rest a' w'):wpList P ops Q (o::rest) a w:=by
 obtain⟨v',w',hrun,h1,h2,h3⟩:=Z2o (P:=P) (a:=a) (w:=w) hgb hst hi (o:=o) ho (H.ev hs) (H.ev hx) hv hl hb;exact H.go hw hd hn v' hrun (fun a' H'=>h a' v' w' H' h1 h2 h3)
end
theorem Y3c (b:Nat) (xs:List UInt8) (v:Value) (k:Int) (h0:0≤k) (h1:k≤65535) (w:World) (hv:Y2 b xs v w) (hb:b≤w.heap.size) (hn:xs.length≤140737488251232):
  Calls Tryz.prog 163 #[v,iz k] w fun e w'=>∃v',e = .returned v'∧(Y2 b (xs++U1 2 k.toNat) v' w'∧Below b w w'):=by
 obtain⟨A,c,rfl,hown⟩:=hv;refine(X8m b xs xs.length A c k k.toNat (by omega) (by omega) w hown hb (by omega)).mono ?_;rintro e w' ⟨A',c',rfl,ho,hbl⟩;exact⟨_,rfl,⟨A',c',by rw[List.length_append,Y0],by rw[List.length_append,Y0];exact ho⟩,hbl⟩
theorem Z6q (b:Nat) (xs:List UInt8) (v:Value) (s:ByteArray) (hs:s.size≤65535) (w:World) (hv:Y2 b xs v w) (hb:b≤w.heap.size) (hn:xs.length≤140737488251232):
  Calls Tryz.prog 162 #[v, .string s] w fun e w'=>∃v',e = .returned v'∧(Y2 b (xs++J2 s) v' w'∧Below b w w'):=by
 obtain⟨A,c,rfl,hown⟩:=hv;refine(J4g b xs xs.length A c s hs w hown hb hn).mono ?_;rintro e w' ⟨A',c',rfl,ho,hbl⟩;refine⟨_,rfl,⟨A',c',by rw[List.length_append,V5,Nat.add_assoc], ?_⟩,hbl⟩;rw[List.length_append,V5,←Nat.add_assoc,J2,←List.append_assoc];exact ho
theorem J9i (k:Int) (h0:0≤k) (h1:k≤65535):[Value.int .u8 (k/256%256), .int .u8 (k%256)]=(U1 2 k.toNat).map bv:=by
 rw[Q1y];simp only[List.map_cons,List.map_nil,bv,UInt8.toNat_ofNat']
 congr 2
 ·congr 1;omega
 ·congr 2;omega
end
section
open Go.RowKit
theorem Z3j (b:Bool) (nI:Int) (n:Nat) (h:nI=(n:Int)) (w:World):Calls Tryz.prog 161 #[.bool b,iz nI] w fun e w'=>e = .returned (iz (cb b n))∧w=w':=by
 refine(J8j b nI w).mono ?_;rintro e w' ⟨rfl,rfl⟩;refine⟨?_,rfl⟩;subst h;cases b<;>rfl
theorem Z6b (b:Bool) (n:Nat) (h:n<256):cb b n<256:=by unfold cb;split<;>omega
theorem Z4k {a b:Nat}(ha:a<256) (hb:b<256):(a|||b)<256:=Nat.or_lt_two_pow (n:=8) ha hb
theorem lt8 {a:Nat}(h:a<256):a<9223372036854775808:=by omega
theorem Q7h (k:Int) (h0:0≤k) (h2:k≤2) (x y:Operand) (w:World):(do eqGuard .shl 3 x y (iz k) (.int .u64 3);binOp .shl 3 (iz k) (.int .u64 3):Sem Value).run Tryz.prog w = .ok (iz ((k.toNat*8:Nat):Int)) w:=by
 have:k=0∨k=1∨k=2:=by omega
 rcases this with rfl |rfl |rfl<;>simp[go_sem]<;>rfl
theorem X3x (a b c d e:Bool) (q:Nat) (hq:q≤2):(((((cb a 2|||cb b 4)|||q*8)|||cb c 32)|||cb d 64)|||cb e 128)=cb a 2+cb b 4+8*q+cb c 32+cb d 64+cb e 128:=by
 obtain⟨q',rfl⟩:∃q':Fin 3,q=q'.val:=⟨⟨q,by omega⟩,rfl⟩;revert a b c d e q'
 decide
def X3y (xs:List UInt8) (w:World) (e:Ending) (w':World):Prop:=∃v,e = .returned v∧Y2 w.heap.size xs v w'∧Below w.heap.size w w'
theorem Z6w (m:Mq):P4 m=((((((([0,4,77,81,84,84]:List UInt8)++[4,UInt8.ofNat (U9 m)])++U1 2 m.keep.toNat)++J2 m.client)++(if m.won then J2 m.wt++J2 m.wp else []))++(if m.hu then J2 m.user else []))++(if m.hp then J2 m.pass else [])):=rfl
theorem X3z (m:Mq) (vc vw vf:Value) (w:World) (hc:m.client.size≤65535) (ht:m.wt.size≤65535) (hp:m.wp.size≤65535) (hu':m.user.size≤65535) (hp':m.pass.size≤65535) (hk0:0≤m.keep) (hk1:m.keep≤65535) (hq0:0≤m.wq) (hq2:m.wq≤2):
  Calls Tryz.prog 160 #[.agg (Z1 m vc vw vf).toArray] w (X3y (P4 m) w):=by
 go_enter Tryz.func160,Tryz.ntmps160
 refine Z9.start 68 [(0, .agg (Z1 m vc vw vf).toArray)] rfl rfl ⟨rfl,trivial⟩ ?_;intro a0 H0;have O0:=X0.start w;refine rl ?_;refine H0.bx O0 1 fun a2 w1 O1 H2=>nt ?_;have H3:=H2.kp [1];have HB1:=D5.of O1;obtain⟨b0,hb0⟩:∃b0,b0=w1.heap.size:=⟨_,rfl⟩;rw[←hb0] at HB1;have hb0':=hb0;clear hb0;repeat (refine wp_seq ?_)
 have h12a:cb m.clean 2<256:=Z6b _ _ (by decide);have h12b:cb m.won 4<256:=Z6b _ _ (by decide);have h17a:(cb m.clean 2|||cb m.won 4)<256:=Z4k h12a h12b;have h17b:m.wq.toNat*8<256:=by omega
 have h22a:((cb m.clean 2|||cb m.won 4)|||m.wq.toNat*8)<256:=Z4k h17a h17b;have h22b:cb m.wr 32<256:=Z6b _ _ (by decide);have h26a:(((cb m.clean 2|||cb m.won 4)|||m.wq.toNat*8)|||cb m.wr 32)<256:=Z4k h22a h22b;have h26b:cb m.hp 64<256:=Z6b _ _ (by decide);have h30a:((((cb m.clean 2|||cb m.won 4)|||m.wq.toNat*8)|||cb m.wr 32)|||cb m.hp 64)<256:=Z4k h26a h26b;have h30b:cb m.hu 128<256:=Z6b _ _ (by decide);have hflags:(((((cb m.clean 2|||cb m.won 4)|||m.wq.toNat*8)|||cb m.wr 32)|||cb m.hp 64)|||cb m.hu 128)=U9 m:=X3x _ _ _ _ _ _ (by omega);refine H3.dr HB1 [1] rfl [ec 0 5 (.pointer (some ⟨w.heap.size,2,none⟩)),ec 1 6 (.bool m.clean),ec 2 7 (iz (cb m.clean 2)),ec 3 8 (.pointer (some ⟨w.heap.size,4,none⟩)),ec 4 9 (.pointer (some ⟨w.heap.size,4,none⟩)),ec 5 10 (.bool m.won),ec 6 11 (iz (cb m.won 4)),ec 7 12 (iz (((cb m.clean 2|||cb m.won 4):Nat):Int)),ec 8 13 (.pointer (some ⟨w.heap.size,4,none⟩)),ec 9 14 (.pointer (some ⟨w.heap.size,7,none⟩)),ec 10 15 (iz m.wq),ec 11 16 (iz ((m.wq.toNat*8:Nat):Int)),ec 12 17 (iz ((((cb m.clean 2|||cb m.won 4)|||m.wq.toNat*8):Nat):Int)),ec 13 18 (.pointer (some ⟨w.heap.size,4,none⟩)),ec 14 19 (.pointer (some ⟨w.heap.size,8,none⟩)),ec 15 20 (.bool m.wr),ec 16 21 (iz (cb m.wr 32)),ec 17 22 (iz (((((cb m.clean 2|||cb m.won 4)|||m.wq.toNat*8)|||cb m.wr 32):Nat):Int)),ec 18 23 (.pointer (some ⟨w.heap.size,12,none⟩)),ec 19 24 (.bool m.hp),ec 20 25 (iz (cb m.hp 64)),ec 21 26 (iz ((((((cb m.clean 2|||cb m.won 4)|||m.wq.toNat*8)|||cb m.wr 32)|||cb m.hp 64):Nat):Int)),ec 22 27 (.pointer (some ⟨w.heap.size,10,none⟩)),ec 23 28 (.bool m.hu),ec 24 29 (iz (cb m.hu 128)),ec 25 30 (iz (((((((cb m.clean 2|||cb m.won 4)|||m.wq.toNat*8)|||cb m.wr 32)|||cb m.hp 64)|||cb m.hu 128):Nat):Int)),ec 26 3 (iz (((((((cb m.clean 2|||cb m.won 4)|||m.wq.toNat*8)|||cb m.wr 32)|||cb m.hp 64)|||cb m.hu 128):Nat):Int))] rfl ⟨jm,(jl fun _ h=>h.own.lb 0 2),(jq fun ww _=>(Z3j m.clean 2 2 rfl ww)),jm,jm,(jl fun _ h=>h.own.lb 0 4),(jq fun ww _=>(Z3j m.won 4 4 rfl ww)),(jB rfl rfl rfl rfl rfl rfl fun _=>(Y7i _ _ (by first |exact lt8 h12a |omega) (by first |exact lt8 h12b |omega) _ _ _)),jm,jm,(jl fun _ h=>h.own.li 0 7),(jb fun _=>(Q7h _ hq0 hq2 _ _ _)),(jB rfl rfl rfl rfl rfl rfl fun _=>(Y7i _ _ (by first |exact lt8 h17a |omega) (by first |exact lt8 h17b |omega) _ _ _)),jm,jm,(jl fun _ h=>h.own.lb 0 8),(jq fun ww _=>(Z3j m.wr 32 32 rfl ww)),(jB rfl rfl rfl rfl rfl rfl fun _=>(Y7i _ _ (by first |exact lt8 h22a |omega) (by first |exact lt8 h22b |omega) _ _ _)),jm,(jl fun _ h=>h.own.lb 0 12),(jq fun ww _=>(Z3j m.hp 64 64 rfl ww)),(jB rfl rfl rfl rfl rfl rfl fun _=>(Y7i _ _ (by first |exact lt8 h26a |omega) (by first |exact lt8 h26b |omega) _ _ _)),jm,(jl fun _ h=>h.own.lb 0 10),(jq fun ww _=>(Z3j m.hu 128 128 rfl ww)),(jB rfl rfl rfl rfl rfl rfl fun _=>(Y7i _ _ (by first |exact lt8 h30a |omega) (by first |exact lt8 h30b |omega) _ _ _)),jm,trivial⟩ trivial ?_ ?_
 ·exact fun _ _ _ _ _ _ _ _ _ _ _ hh=>False.elim hh
 ·intro listed a4 w2 hall hI
  have r_3:=hI.vs _ (ma 26 rfl) (.inr (hall 26 (by decide))) trivial;have H4:Z9 a4 68 [(1,pz w.heap.size),(3,iz (((((((cb m.clean 2|||cb m.won 4)|||m.wq.toNat*8)|||cb m.wr 32)|||cb m.hp 64)|||cb m.hu 128):Nat):Int))]:=Z9.of hI.sz hI.df ⟨hI.fx.1,r_3,trivial⟩;have HB2:=hI.wp;refine Z0 ?_;refine H4.dr HB2 [1,3] rfl [er 0 31 [4] (fun v w=>Y2 b0 [0,4,77,81,84,84] v w),ec 1 32 (iz (((((((cb m.clean 2|||cb m.won 4)|||m.wq.toNat*8)|||cb m.wr 32)|||cb m.hp 64)|||cb m.hu 128):Nat):Int)),ec 2 33 (.int .u8 ((((((((cb m.clean 2|||cb m.won 4)|||m.wq.toNat*8)|||cb m.wr 32)|||cb m.hp 64)|||cb m.hu 128):Nat):Int)%256)),er 3 34 [4] (fun v w=>K0 [4,UInt8.ofNat (U9 m)] v w),er 4 35 [7] (fun v w=>Y2 b0 ([0,4,77,81,84,84]++[4,UInt8.ofNat (U9 m)]) v w),ec 5 36 (.pointer (some ⟨w.heap.size,3,none⟩)),ec 6 37 (iz m.keep),er 7 38 [] (fun v w=>Y2 b0 (([0,4,77,81,84,84]++[4,UInt8.ofNat (U9 m)])++U1 2 m.keep.toNat) v w),er 8 4 [] (fun v w=>Y2 b0 (([0,4,77,81,84,84]++[4,UInt8.ofNat (U9 m)])++U1 2 m.keep.toNat) v w)] rfl ⟨jm,(jc fun _=>(L6 _ _)),jm,(jl fun _ h=>h.own.li 0 3),trivial⟩ trivial ?_ ?_
  ·intro listed aa ww i o hs hni hcl ho hd hI hh
   have hls:listed.size=9:=hs;rcases hh with rfl |rfl |rfl |rfl |rfl |hh
   ·obtain rfl:=U2 ho rfl
    have HH:Z9 aa 68 []:=Z9.of hI.sz hI.df trivial;refine D0 ho gz 31 rfl 162 _ (P3 HH rfl rfl (fun _ _=>by kernel_rfl)) _ (Z6q ww.heap.size [] (.slice none 0 0) ({ data:=#[77,81,84,84] }:ByteArray) (by decide) ww (Y2.nil _ _) (Nat.le_refl _) (by simp)) ?_;rintro v' w' ⟨hrow,hb⟩;exact hI.ph hls 0 rfl (v') (by rw[show ([0,4,77,81,84,84]:List UInt8)=[]++J2 ({ data:=#[77,81,84,84] }:ByteArray) by decide];exact hrow.base hI.wp.bw) (hI.wp.call hb) ⟨fun h=>absurd rfl h,fun _ _ _ _ _ h=>h.below hb,fun _ _ _ _ _ h=>h.below hb,fun _ _ _ _ _ h=>h.below hb,fun _ _ _ _ _ h=>h.below hb,trivial⟩
   ·obtain rfl:=U2 ho rfl
    have r_33:=hI.vs _ (ma 2 rfl) (.inr (Y5 hd 2 (by kernel_rfl))) trivial;have u_33:aa.eval (.tmp 33) = .int .u8 ((((((((cb m.clean 2|||cb m.won 4)|||m.wq.toNat*8)|||cb m.wr 32)|||cb m.hp 64)|||cb m.hu 128):Nat):Int)%256):=r_33;have HH:Z9 aa 68 [(33, .int .u8 ((((((((cb m.clean 2|||cb m.won 4)|||m.wq.toNat*8)|||cb m.wr 32)|||cb m.hp 64)|||cb m.hu 128):Nat):Int)%256))]:=Z9.of hI.sz hI.df ⟨u_33,trivial⟩;obtain⟨hby,hb⟩:=Z3o ww [4,UInt8.ofNat (U9 m)] [.int .u8 4, .int .u8 ((((((((cb m.clean 2|||cb m.won 4)|||m.wq.toNat*8)|||cb m.wr 32)|||cb m.hp 64)|||cb m.hu 128):Nat):Int)%256)] (by rw[hflags,P0 _ (by omega)];rfl) 5 2 rfl;refine V7 ho gz 34 rfl (.slice (some ⟨ww.heap.size,0,none⟩) 2 2) (ww.alloc (.cells ([.int .u8 4, .int .u8 ((((((((cb m.clean 2|||cb m.won 4)|||m.wq.toNat*8)|||cb m.wr 32)|||cb m.hp 64)|||cb m.hu 128):Nat):Int)%256)]:List Value).toArray 5)) (Z0f HH (by intro cs b h;cases h) (by kernel_rfl) (by kernel_rfl)) ?_;exact hI.ph hls 3 rfl (.slice (some ⟨ww.heap.size,0,none⟩) 2 2) hby (hI.wp.call hb) ⟨fun _ _ _ _ _ h=>h.below hb,fun h=>absurd rfl h,fun _ _ _ _ _ h=>h.below hb,fun _ _ _ _ _ h=>h.below hb,fun _ _ _ _ _ h=>h.below hb,trivial⟩
   ·obtain rfl:=U2 ho rfl
    have r_31:=hI.vs _ (ma 0 rfl) (.inr (Y5 hd 0 (by kernel_rfl))) ⟨hni,trivial⟩;have r_34:=hI.vs _ (ma 3 rfl) (.inr (Y5 hd 3 (by kernel_rfl))) ⟨hni,trivial⟩;have HH:Z9 aa 68 [(31,aa.eval (.tmp 31)),(34,aa.eval (.tmp 34))]:=Z9.of hI.sz hI.df ⟨rfl,rfl,trivial⟩;obtain⟨v',w',hrun,hrow,hb0,hg⟩:=Z1g (P:=Tryz.prog) (a:=aa) (w:=ww) Tryz.underlying31 J4 (o:=⟨some 35,_,_,_,_,none⟩) rfl rfl rfl r_31 r_34 (by simp only[List.length_cons,List.length_nil];omega) hI.wp.bw;refine V7 ho gz 35 rfl v' w' hrun ?_;exact hI.ph hls 4 rfl (v') hrow (hI.wp.step hb0) ⟨fun _ h=>absurd (by show 4∈([4]:List Nat);decide) h,fun _ h=>absurd (by show 4∈([4]:List Nat);decide) h,fun h=>absurd rfl h,fun _ _ h=>absurd (hni.symm.trans (Y5 (hcl 7 _ rfl (h.resolve_left (by rw[hls];show ¬9≤7;decide))) 4 (by kernel_rfl))) (by decide),fun _ _ h=>absurd (hni.symm.trans (Y5 (hcl 7 _ rfl (Y5 (hcl 8 _ rfl (h.resolve_left (by rw[hls];show ¬9≤8;decide))) 7 (by kernel_rfl))) 4 (by kernel_rfl))) (by decide),trivial⟩
   ·obtain rfl:=U2 ho rfl
    have r_35:=hI.vs _ (ma 4 rfl) (.inr (Y5 hd 4 (by kernel_rfl))) ⟨hni,trivial⟩;have r_37:=hI.vs _ (ma 6 rfl) (.inr (Y5 hd 6 (by kernel_rfl))) trivial;have u_37:aa.eval (.tmp 37)=iz m.keep:=r_37;have HH:Z9 aa 68 [(35,aa.eval (.tmp 35)),(37,iz m.keep)]:=Z9.of hI.sz hI.df ⟨rfl,u_37,trivial⟩;refine D0 ho gz 38 rfl 163 _ (P3 HH rfl rfl (fun _ _=>by kernel_rfl)) _ (Y3c b0 ([0,4,77,81,84,84]++[4,UInt8.ofNat (U9 m)]) (aa.eval (.tmp 35)) m.keep hk0 hk1 ww r_35 hI.wp.bw (by simp only[List.length_append,List.length_cons,List.length_nil];omega)) ?_;rintro v' w' ⟨hrow,hb0⟩;exact hI.ph hls 7 rfl (v') hrow (hI.wp.step hb0) ⟨fun _ _ _ hk=>absurd (hk.1.symm.trans (Y5 hd 4 (by kernel_rfl))) (by decide),fun _ _ _ hk=>absurd (hk.1.symm.trans (Y5 hd 4 (by kernel_rfl))) (by decide),fun _ h=>absurd (by show 7∈([7]:List Nat);decide) h,fun h=>absurd rfl h,fun _ _ h=>absurd (hni.symm.trans (Y5 (hcl 8 _ rfl (h.resolve_left (by rw[hls];show ¬9≤8;decide))) 7 (by kernel_rfl))) (by decide),trivial⟩
   ·obtain rfl:=U2 ho rfl
    have r_38:=hI.vs _ (ma 7 rfl) (.inr (Y5 hd 7 (by kernel_rfl))) trivial;have HH:Z9 aa 68 [(38,aa.eval (.tmp 38))]:=Z9.of hI.sz hI.df ⟨rfl,trivial⟩;refine V7 ho gz 4 rfl (aa.eval (.tmp 38)) ww (N2 (.inr rfl) (HH.ev rfl)) ?_;exact hI.ph hls 8 rfl (aa.eval (.tmp 38)) r_38 hI.wp Z1i.same
   ·exact False.elim hh
  ·intro listed a5 w3 hall hI
   have r_4:=hI.vs _ (ma 8 rfl) (.inr (hall 8 (by decide))) trivial;have H5:Z9 a5 68 [(1,pz w.heap.size),(3,iz (((((((cb m.clean 2|||cb m.won 4)|||m.wq.toNat*8)|||cb m.wr 32)|||cb m.hp 64)|||cb m.hu 128):Nat):Int)),(4,a5.eval (.tmp 4))]:=Z9.of hI.sz hI.df ⟨hI.fx.1,hI.fx.2.1,rfl,trivial⟩;have HB3:=hI.wp;have R4_3:Y2 b0 (([0,4,77,81,84,84]++[4,UInt8.ofNat (U9 m)])++U1 2 m.keep.toNat) (a5.eval (.tmp 4)) w3:=r_4;refine Z0 ?_;have H6:=H5.kp [1,4];refine H6.rg 2 fun a8 H8=>?_;refine H8.ld 0 (HB3.own.ls 0 1) fun a9 H9=>?_;refine H9.cl (Z6q b0 (([0,4,77,81,84,84]++[4,UInt8.ofNat (U9 m)])++U1 2 m.keep.toNat) _ m.client hc _ R4_3 HB3.bw (by simp only[List.length_append,Y0,List.length_cons,List.length_nil];omega)) ?_;rintro a10 v42 w4 ⟨R42,hb⟩ H10;have HB4:=HB3.step hb;clear hb;refine H10.ms 1 fun a11 H11=>nt ?_;refine Z8 (fun a w'=>∃v,Z9 a 68 [(1,pz w.heap.size),(4,v)]∧Y2 b0 (((([0,4,77,81,84,84]++[4,UInt8.ofNat (U9 m)])++U1 2 m.keep.toNat)++J2 m.client)++(if m.won then J2 m.wt++J2 m.wp else [])) v w'∧D5 w b0 [(w.heap.size,(Z1 m vc vw vf))] w') ?_ ?_
   ·cases hb45:m.won with
    |true=>
     refine H11.rg 2 fun a13 H13=>?_;refine H13.ld 0 (HB4.own.lb 0 4) fun a14 H14=>nt ?_;have H14b:=H14.keep (l':=[(1,pz w.heap.size),(4,v42),(45, .bool true)]) ⟨rfl,rfl,by first |exact congrArg (fun x=>some (Value.bool x)) hb45,trivial⟩;refine H14b.condT rfl ?_;have H15:=H14b;refine H15.dr HB4 [1] rfl [er 0 46 [4] (fun v w=>Y2 b0 ((([0,4,77,81,84,84]++[4,UInt8.ofNat (U9 m)])++U1 2 m.keep.toNat)++J2 m.client) v w),ec 1 47 (.pointer (some ⟨w.heap.size,4,none⟩)),ec 2 48 (.pointer (some ⟨w.heap.size,5,none⟩)),ec 3 49 (.string m.wt),er 4 50 [8] (fun v w=>Y2 b0 (((([0,4,77,81,84,84]++[4,UInt8.ofNat (U9 m)])++U1 2 m.keep.toNat)++J2 m.client)++J2 m.wt) v w),ec 5 51 (.pointer (some ⟨w.heap.size,4,none⟩)),ec 6 52 (.pointer (some ⟨w.heap.size,6,none⟩)),ec 7 53 (.string m.wp),er 8 54 [] (fun v w=>Y2 b0 (((([0,4,77,81,84,84]++[4,UInt8.ofNat (U9 m)])++U1 2 m.keep.toNat)++J2 m.client)++J2 m.wt++J2 m.wp) v w),er 9 4 [] (fun v w=>Y2 b0 (((([0,4,77,81,84,84]++[4,UInt8.ofNat (U9 m)])++U1 2 m.keep.toNat)++J2 m.client)++J2 m.wt++J2 m.wp) v w),er 1000 4 [4,9] (fun v w=>Y2 b0 ((([0,4,77,81,84,84]++[4,UInt8.ofNat (U9 m)])++U1 2 m.keep.toNat)++J2 m.client) v w)] rfl ⟨jm,jm,(jl fun _ h=>h.own.ls 0 5),jm,jm,(jl fun _ h=>h.own.ls 0 6),trivial⟩ ⟨(by rw[H15.at_ 4 _ rfl];exact R42.drew),trivial⟩ ?_ ?_
     ·intro listed aa ww i o hs hni hcl ho hd hI hh
      have hls:listed.size=10:=hs;rcases hh with rfl |rfl |rfl |rfl |hh
      ·obtain rfl:=U2 ho rfl
       have r_4:=hI.vs _ (ma 10 rfl) (.inl (by rw[hls];show 10≤1000;decide)) ⟨(Bool.eq_false_iff.2 fun h=>absurd (hni.symm.trans (Y5 (hcl 4 _ rfl h) 0 (by kernel_rfl))) (by decide)),(Bool.eq_false_iff.2 fun h=>absurd (hni.symm.trans (Y5 (hcl 4 _ rfl (Y5 (hcl 8 _ rfl (Y5 (hcl 9 _ rfl h) 8 (by kernel_rfl))) 4 (by kernel_rfl))) 0 (by kernel_rfl))) (by decide)),trivial⟩;have HH:Z9 aa 68 [(4,aa.eval (.tmp 4))]:=Z9.of hI.sz hI.df ⟨rfl,trivial⟩;refine V7 ho gz 46 rfl (aa.eval (.tmp 4)) ww (N2 (.inl rfl) (HH.ev rfl)) ?_;exact hI.ph hls 0 rfl (aa.eval (.tmp 4)) r_4 hI.wp Z1i.same
      ·obtain rfl:=U2 ho rfl
       have r_46:=hI.vs _ (ma 0 rfl) (.inr (Y5 hd 0 (by kernel_rfl))) ⟨hni,trivial⟩;have r_49:=hI.vs _ (ma 3 rfl) (.inr (Y5 hd 3 (by kernel_rfl))) trivial;have u_49:aa.eval (.tmp 49) = .string m.wt:=r_49;have HH:Z9 aa 68 [(46,aa.eval (.tmp 46)),(49, .string m.wt)]:=Z9.of hI.sz hI.df ⟨rfl,u_49,trivial⟩;refine D0 ho gz 50 rfl 162 _ (P3 HH rfl rfl (fun _ _=>by kernel_rfl)) _ (Z6q b0 ((([0,4,77,81,84,84]++[4,UInt8.ofNat (U9 m)])++U1 2 m.keep.toNat)++J2 m.client) (aa.eval (.tmp 46)) m.wt ht ww r_46 hI.wp.bw (by simp only[List.length_append,V5,Y0,List.length_cons,List.length_nil];omega)) ?_;rintro v' w' ⟨hrow,hb0⟩;exact hI.ph hls 4 rfl (v') hrow (hI.wp.step hb0) ⟨fun _ h=>absurd (by show 4∈([4]:List Nat);decide) h,fun h=>absurd rfl h,fun _ _ h=>absurd (hni.symm.trans (Y5 (hcl 8 _ rfl (h.resolve_left (by rw[hls];show ¬10≤8;decide))) 4 (by kernel_rfl))) (by decide),fun _ _ h=>absurd (hni.symm.trans (Y5 (hcl 8 _ rfl (Y5 (hcl 9 _ rfl (h.resolve_left (by rw[hls];show ¬10≤9;decide))) 8 (by kernel_rfl))) 4 (by kernel_rfl))) (by decide),fun _ h=>absurd (by show 4∈([4,9]:List Nat);decide) h,trivial⟩
      ·obtain rfl:=U2 ho rfl
       have r_50:=hI.vs _ (ma 4 rfl) (.inr (Y5 hd 4 (by kernel_rfl))) ⟨hni,trivial⟩;have r_53:=hI.vs _ (ma 7 rfl) (.inr (Y5 hd 7 (by kernel_rfl))) trivial;have u_53:aa.eval (.tmp 53) = .string m.wp:=r_53;have HH:Z9 aa 68 [(50,aa.eval (.tmp 50)),(53, .string m.wp)]:=Z9.of hI.sz hI.df ⟨rfl,u_53,trivial⟩;refine D0 ho gz 54 rfl 162 _ (P3 HH rfl rfl (fun _ _=>by kernel_rfl)) _ (Z6q b0 (((([0,4,77,81,84,84]++[4,UInt8.ofNat (U9 m)])++U1 2 m.keep.toNat)++J2 m.client)++J2 m.wt) (aa.eval (.tmp 50)) m.wp hp ww r_50 hI.wp.bw (by simp only[List.length_append,V5,Y0,List.length_cons,List.length_nil];omega)) ?_;rintro v' w' ⟨hrow,hb0⟩;exact hI.ph hls 8 rfl (v') hrow (hI.wp.step hb0) ⟨fun _ _ _ hk=>absurd (hk.1.symm.trans (Y5 hd 4 (by kernel_rfl))) (by decide),fun _ h=>absurd (by show 8∈([8]:List Nat);decide) h,fun h=>absurd rfl h,fun _ _ h=>absurd (hni.symm.trans (Y5 (hcl 9 _ rfl (h.resolve_left (by rw[hls];show ¬10≤9;decide))) 8 (by kernel_rfl))) (by decide),fun _ _ _ hk=>absurd (hk.1.symm.trans (Y5 hd 4 (by kernel_rfl))) (by decide),trivial⟩
      ·obtain rfl:=U2 ho rfl
       have r_54:=hI.vs _ (ma 8 rfl) (.inr (Y5 hd 8 (by kernel_rfl))) trivial;have HH:Z9 aa 68 [(54,aa.eval (.tmp 54))]:=Z9.of hI.sz hI.df ⟨rfl,trivial⟩;refine V7 ho gz 4 rfl (aa.eval (.tmp 54)) ww (N2 (.inr rfl) (HH.ev rfl)) ?_;exact hI.ph hls 9 rfl (aa.eval (.tmp 54)) r_54 hI.wp Z1i.same
      ·exact False.elim hh
     ·intro listed a16 w5 hall hI
      have r_4:=hI.vs _ (ma 9 rfl) (.inr (hall 9 (by decide))) trivial;have H16:Z9 a16 68 [(1,pz w.heap.size),(4,a16.eval (.tmp 4))]:=Z9.of hI.sz hI.df ⟨hI.fx.1,rfl,trivial⟩;have HB5:=hI.wp;have R4_5:Y2 b0 (((([0,4,77,81,84,84]++[4,UInt8.ofNat (U9 m)])++U1 2 m.keep.toNat)++J2 m.client)++J2 m.wt++J2 m.wp) (a16.eval (.tmp 4)) w5:=r_4;refine Z0 ?_;exact⟨_,H16.keep ⟨rfl,rfl,trivial⟩,(by rw[if_pos rfl,←List.append_assoc];exact R4_5),HB5⟩
    |false=>
     refine H11.rg 2 fun a13 H13=>?_;refine H13.ld 0 (HB4.own.lb 0 4) fun a14 H14=>nt ?_;have H14b:=H14.keep (l':=[(1,pz w.heap.size),(4,v42),(45, .bool false)]) ⟨rfl,rfl,by first |exact congrArg (fun x=>some (Value.bool x)) hb45,trivial⟩;refine H14b.condF rfl ?_;refine Z3 ?_;refine Z0 ?_;exact⟨_,H14b.keep ⟨rfl,rfl,trivial⟩,(by rw[if_neg (show ¬(false=true) by decide),List.append_nil];exact R42),HB4⟩
   ·rintro a51 w24 ⟨v4_24,H51,R4_24,HB24⟩
    have hl1:(if m.won then J2 m.wt++J2 m.wp else []).length≤200000:=by split<;>simp[V5]<;>omega
    refine Z8 (fun a w'=>∃v,Z9 a 68 [(1,pz w.heap.size),(4,v)]∧Y2 b0 ((((([0,4,77,81,84,84]++[4,UInt8.ofNat (U9 m)])++U1 2 m.keep.toNat)++J2 m.client)++(if m.won then J2 m.wt++J2 m.wp else []))++(if m.hu then J2 m.user else [])) v w'∧D5 w b0 [(w.heap.size,(Z1 m vc vw vf))] w') ?_ ?_
    ·cases hb56:m.hu with
     |true=>
      refine H51.rg 1 fun a52 H52=>?_;refine H52.ld 0 (HB24.own.lb 0 10) fun a53 H53=>nt ?_;have H53b:=H53.keep (l':=[(1,pz w.heap.size),(4,v4_24),(56, .bool true)]) ⟨rfl,rfl,by first |exact congrArg (fun x=>some (Value.bool x)) hb56,trivial⟩;refine H53b.condT rfl ?_;have H54:=H53b;refine H54.rg 2 fun a56 H56=>?_;refine H56.ld 0 (HB24.own.ls 0 9) fun a57 H57=>?_;refine H57.cl (Z6q b0 (((([0,4,77,81,84,84]++[4,UInt8.ofNat (U9 m)])++U1 2 m.keep.toNat)++J2 m.client)++(if m.won then J2 m.wt++J2 m.wp else [])) _ m.user hu' _ R4_24 HB24.bw (by simp only[List.length_append,V5,Y0,List.length_cons,List.length_nil];omega)) ?_;rintro a58 v60 w25 ⟨R60,hb⟩ H58;have HB25:=HB24.step hb;clear hb;refine H58.ms 1 fun a59 H59=>nt ?_;exact⟨_,H59.keep ⟨rfl,rfl,trivial⟩,(by rw[if_pos rfl];exact R60),HB25⟩
     |false=>
      refine H51.rg 1 fun a52 H52=>?_;refine H52.ld 0 (HB24.own.lb 0 10) fun a53 H53=>nt ?_;have H53b:=H53.keep (l':=[(1,pz w.heap.size),(4,v4_24),(56, .bool false)]) ⟨rfl,rfl,by first |exact congrArg (fun x=>some (Value.bool x)) hb56,trivial⟩;refine H53b.condF rfl ?_;refine Z3 ?_;refine Z0 ?_;exact⟨_,H53b.keep ⟨rfl,rfl,trivial⟩,(by rw[if_neg (show ¬(false=true) by decide),List.append_nil];exact R4_24),HB24⟩
    ·rintro a91 w44 ⟨v4_44,H91,R4_44,HB44⟩
     have hl2:(if m.hu then J2 m.user else []).length≤200000:=by split<;>simp[V5]<;>omega
     refine Z8 (fun a w'=>∃v,Z9 a 68 [(1,pz w.heap.size),(4,v)]∧Y2 b0 (((((([0,4,77,81,84,84]++[4,UInt8.ofNat (U9 m)])++U1 2 m.keep.toNat)++J2 m.client)++(if m.won then J2 m.wt++J2 m.wp else []))++(if m.hu then J2 m.user else []))++(if m.hp then J2 m.pass else [])) v w'∧D5 w b0 [(w.heap.size,(Z1 m vc vw vf))] w') ?_ ?_
     ·cases hb62:m.hp with
      |true=>
       refine H91.rg 1 fun a92 H92=>?_;refine H92.ld 0 (HB44.own.lb 0 12) fun a93 H93=>nt ?_;have H93b:=H93.keep (l':=[(1,pz w.heap.size),(4,v4_44),(62, .bool true)]) ⟨rfl,rfl,by first |exact congrArg (fun x=>some (Value.bool x)) hb62,trivial⟩;refine H93b.condT rfl ?_;have H94:=H93b;refine H94.rg 2 fun a96 H96=>?_;refine H96.ld 0 (HB44.own.ls 0 11) fun a97 H97=>?_;refine H97.cl (Z6q b0 ((((([0,4,77,81,84,84]++[4,UInt8.ofNat (U9 m)])++U1 2 m.keep.toNat)++J2 m.client)++(if m.won then J2 m.wt++J2 m.wp else []))++(if m.hu then J2 m.user else [])) _ m.pass hp' _ R4_44 HB44.bw (by simp only[List.length_append,V5,Y0,List.length_cons,List.length_nil];omega)) ?_;rintro a98 v66 w45 ⟨R66,hb⟩ H98;have HB45:=HB44.step hb;clear hb;refine H98.ms 1 fun a99 H99=>nt ?_;exact⟨_,H99.keep ⟨rfl,rfl,trivial⟩,(by rw[if_pos rfl];exact R66),HB45⟩
      |false=>
       refine H91.rg 1 fun a92 H92=>?_;refine H92.ld 0 (HB44.own.lb 0 12) fun a93 H93=>nt ?_;have H93b:=H93.keep (l':=[(1,pz w.heap.size),(4,v4_44),(62, .bool false)]) ⟨rfl,rfl,by first |exact congrArg (fun x=>some (Value.bool x)) hb62,trivial⟩;refine H93b.condF rfl ?_;refine Z3 ?_;refine Z0 ?_;exact⟨_,H93b.keep ⟨rfl,rfl,trivial⟩,(by rw[if_neg (show ¬(false=true) by decide),List.append_nil];exact R4_44),HB44⟩
     ·rintro a131 w64 ⟨v4_64,H131,R4_64,HB64⟩
      refine H131.rg 2 fun a133 H133=>nt ?_;refine wp_ret ?_;repeat with_reducible first |apply Z4 |apply Z5
      refine bodyPost_ret (results_tmp rfl _ _ _) H133.df ?_;refine⟨_,congrArg Ending.returned (H133.at_ 2 _ rfl), ?_,HB64.own.bel⟩;rw[Z6w];exact R4_64.base HB64.hb
end
section
open Go.RowKit
def Z4l (m:Mq) (w:World) (e:Ending) (w':World):Prop:=∃v,e = .returned (.tuple #[iz (X9 m),v])∧K0 (X8 m) v w'∧Below w.heap.size w w'
theorem Z1b {m:Mq}{w w':World}{b:Nat}{bs:List (Nat×List Value)}{f:Int}{xs:List UInt8}{v:Value}(hf:f=((X9 m:Nat):Int)) (hx:X8 m=xs) (hv:K0 xs v w') (hb:D5 w b bs w'):
  Z4l m w (.returned (.tuple #[iz f,v])) w':=by
 subst hf hx;exact⟨v,rfl,hv,hb.own.bel⟩
theorem X3y.row {xs:List UInt8}{w w':World}{e:Ending}{b:Nat}(h:X3y xs w e w') (hb:b≤w.heap.size):∃v',e = .returned v'∧(Y2 b xs v' w'∧Below b w w'):=by
 obtain⟨v,rfl,hr,hbl⟩:=h;exact⟨v,rfl,hr.base hb,hbl.mono hb⟩
theorem Q7i (k:Int) (h0:0≤k) (h2:k≤2) (x y:Operand) (w:World):(do eqGuard .mul 3 x y (iz 2) (iz k);binOp .mul 3 (iz 2) (iz k):Sem Value).run Tryz.prog w = .ok (iz ((2*k.toNat:Nat):Int)) w:=by
 have:k=0∨k=1∨k=2:=by omega
 rcases this with rfl |rfl |rfl<;>simp[go_sem]<;>rfl
theorem J5w (a b:Bool) (q:Nat) (hq:q≤2):((cb a 8|||2*q)|||cb b 1)=cb a 8+2*q+cb b 1:=by
 obtain⟨q',rfl⟩:∃q':Fin 3,q=q'.val:=⟨⟨q,by omega⟩,rfl⟩;revert a b q'
 decide
theorem X4.int {w:World}{B n k:Nat}{A:Option Addr}{l:List Int}(h:X4 w B 1 A n (l.map iv)) (hl:l.length=n) (hk:k<n):∃b o x,A=some ⟨b,o,none⟩∧b<B∧l[k]? = some x∧w.cell? ⟨b,o+k,none⟩=some (iz x):=by
 obtain⟨b,o,v,hA,hb,hv,hc⟩:=h.get1 hk;have hx:l[k]? = some l[k]:=List.getElem?_eq_getElem (by omega);rw[List.getElem?_map,hx] at hv;injection hv with hv
 exact⟨b,o,_,hA,hb,hx,by rw[hc,←hv]⟩
theorem X4.str {w:World}{B n k:Nat}{A:Option Addr}{l:List ByteArray}(h:X4 w B 1 A n (l.map sv)) (hl:l.length=n) (hk:k<n):∃b o x,A=some ⟨b,o,none⟩∧b<B∧l[k]? = some x∧w.cell? ⟨b,o+k,none⟩=some (.string x):=by
 obtain⟨b,o,v,hA,hb,hv,hc⟩:=h.get1 hk;have hx:l[k]? = some l[k]:=List.getElem?_eq_getElem (by omega);rw[List.getElem?_map,hx] at hv;injection hv with hv
 exact⟨b,o,_,hA,hb,hx,by rw[hc,←hv]⟩
theorem Z8e:∀{l:List Int}{k:Nat}{x:Int},G4 l=true→l[k]? = some x→0≤x∧x≤128
 |y::l,0,x,h,hx=>by
  simp only[List.getElem?_cons_zero,Option.some.injEq] at hx;subst hx;obtain⟨a,b,_⟩:=Z4x rfl h;exact⟨a,b⟩
 |y::l,k+1,x,h,hx=>Z8e (Z4x rfl h).2.2 (by simpa using hx)
theorem Z6c:∀{l:List ByteArray}{k:Nat}{x:ByteArray},Q2 l=true→l[k]? = some x→x.size≤64
 |y::l,0,x,h,hx=>by
  simp only[List.getElem?_cons_zero,Option.some.injEq] at hx;subst hx;exact(Z1k rfl h).1
 |y::l,k+1,x,h,hx=>Z6c (Z1k rfl h).2 (by simpa using hx)
theorem Z4m:∀{l:List ByteArray}(k:Nat),Q2 l=true→Q2 (l.take k)=true
 |_,0,_=>by simp[Q2]
 |[],k+1,_=>by simp[Q2]
 |y::l,k+1,h=>by
  simp only[Q2,Bool.and_eq_true] at h;simp only[List.take_succ_cons,Q2,Bool.and_eq_true];exact⟨h.1,Z4m k h.2⟩
theorem Z6x:∀{l:List (ByteArray×Int)}{k:Nat}{x:ByteArray×Int},Q4 l=true→l[k]? = some x→x.1.size≤64∧0≤x.2∧x.2≤2
 |y::l,0,x,h,hx=>by
  simp only[List.getElem?_cons_zero,Option.some.injEq] at hx;subst hx;obtain⟨a,b,c,_⟩:=Z2l rfl h;exact⟨a,b,c⟩
 |y::l,k+1,x,h,hx=>Z6x (Z2l rfl h).2.2.2 (by simpa using hx)
theorem Z6d:∀{l:List (ByteArray×Int)}(k:Nat),Q4 l=true→Q4 (l.take k)=true
 |_,0,_=>by simp[Q4]
 |[],k+1,_=>by simp[Q4]
 |y::l,k+1,h=>by
  simp only[Q4,Bool.and_eq_true] at h;simp only[List.take_succ_cons,Q4,Bool.and_eq_true];exact⟨h.1,Z6d k h.2⟩
theorem Z9k:∀(a:List Int) (x:Int),G2 (a++[x])=G2 a++[UInt8.ofNat x.toNat]
 |[],_=>rfl
 |y::a,x=>by simp[G2,Z9k a x]
theorem Z6y:∀(a:List ByteArray) (x:ByteArray),J8 (a++[x])=J8 a++J2 x
 |[],x=>by simp[J8]
 |y::a,x=>by simp[J8,Z6y a x]
theorem Z8f:∀(a:List (ByteArray×Int)) (x:ByteArray×Int),Y9 (a++[x])=Y9 a++(J2 x.1++[UInt8.ofNat x.2.toNat])
 |[],x=>by simp[Y9]
 |y::a,x=>by simp[Y9,Z8f a x]
theorem Q2v (m:Mq) (vc vw vf:Value) (w:World) (hk:m.kind=1) (hc:m.client.size≤65535) (ht:m.wt.size≤65535) (hp:m.wp.size≤65535) (hu':m.user.size≤65535) (hp':m.pass.size≤65535) (hk0:0≤m.keep) (hk1:m.keep≤65535) (hq0:0≤m.wq) (hq2:m.wq≤2):
  Calls Tryz.prog 133 #[.agg (Z1 m vc vw vf).toArray] w (Z4l m w):=by
 have b1:(m.kind==1)=true:=Z4w hk;go_enter Tryz.func133,Tryz.ntmps133;refine Z9.start 123 [(0, .agg (Z1 m vc vw vf).toArray)] rfl rfl ⟨rfl,trivial⟩ ?_;intro a0 H0;have O0:=X0.start w;refine rl ?_;refine H0.bx O0 2 fun a3 w1 O1 H3=>nt ?_;have HB1:=D5.of O1;obtain⟨b0,hb0⟩:∃b0,b0=w1.heap.size:=⟨_,rfl⟩;rw[←hb0] at HB1;have hb0':=hb0;clear hb0;refine H3.rg 1 fun a4 H4=>?_;refine H4.ld 0 (HB1.own.li 0 0) fun a5 H5=>nt ?_;have H6:=H5.kp [1,2,3,11];repeat (refine wp_seq ?_)
 refine wp_block ?_;refine rl ?_;refine H6.bn 1 (Z7 _ _ _ b1 _ _ _) fun a8 H8=>nt ?_;refine H8.condT rfl ?_;refine rl ?_;refine H8.lm HB1.own 0 0 fun a9 H9=>?_;refine H9.cl (((X3z m _ _ _ _ hc ht hp hu' hp' hk0 hk1 hq0 hq2).mono fun _ _ h=>h.row HB1.bw)) ?_;rintro a10 v15 w2 ⟨R15,hb⟩ H10;have HB2:=HB1.step hb;clear hb;refine H10.ms 2 fun a12 H12=>nt ?_;refine wp_ret ?_;repeat with_reducible first |apply Z4 |apply Z5
 refine bodyPost_ret (V9 rfl _ _ _ (H12.at_ 2 _ rfl) (H12.at_ 3 _ rfl)) H12.df ?_;refine Z1b (by unfold X9;simp[hk]) ?_ R15.read HB2;unfold X8;rw[if_pos hk]
theorem Q2w (m:Mq) (vc vw vf:Value) (w:World) (hk:m.kind=2) (hc0:0≤m.code):
  Calls Tryz.prog 133 #[.agg (Z1 m vc vw vf).toArray] w (Z4l m w):=by
 have b1:(m.kind==1)=false:=G6 hk rfl;have b2:(m.kind==2)=true:=Z4w hk;go_enter Tryz.func133,Tryz.ntmps133;refine Z9.start 123 [(0, .agg (Z1 m vc vw vf).toArray)] rfl rfl ⟨rfl,trivial⟩ ?_;intro a0 H0;have O0:=X0.start w;refine rl ?_;refine H0.bx O0 2 fun a3 w1 O1 H3=>nt ?_;have HB1:=D5.of O1;obtain⟨b0,hb0⟩:∃b0,b0=w1.heap.size:=⟨_,rfl⟩;rw[←hb0] at HB1;have hb0':=hb0;clear hb0;refine H3.rg 1 fun a4 H4=>?_;refine H4.ld 0 (HB1.own.li 0 0) fun a5 H5=>nt ?_;have H6:=H5.kp [1,2,3,11];repeat (refine wp_seq ?_)
 refine wp_block ?_;refine rl ?_;refine H6.bn 1 (Z7 _ _ _ b1 _ _ _) fun a8 H8=>nt ?_;refine H8.condF rfl ?_;refine rl ?_;refine H8.bn 1 (Z7 _ _ _ b2 _ _ _) fun a10 H10=>nt ?_;refine H10.condT rfl ?_;refine H10.dr HB1 [1] rfl [ec 0 18 (.pointer (some ⟨w.heap.size,13,none⟩)),ec 1 19 (.bool m.present),ec 2 20 (iz (cb m.present 1)),ec 3 21 (.int .u8 (((cb m.present 1:Nat):Int)%256)),ec 4 22 (.pointer (some ⟨w.heap.size,14,none⟩)),ec 5 23 (iz m.code),ec 6 24 (.int .u8 (m.code%256)),er 7 25 [] (fun v w=>K0 [UInt8.ofNat (cb m.present 1),UInt8.ofNat m.code.toNat] v w),ec 8 2 (iz 0),er 9 3 [] (fun v w=>K0 [UInt8.ofNat (cb m.present 1),UInt8.ofNat m.code.toNat] v w)] rfl ⟨jm,(jl fun _ h=>h.own.lb 0 13),(jq fun ww _=>(Z3j m.present 1 1 rfl ww)),(jc fun _=>(L6 _ _)),jm,(jl fun _ h=>h.own.li 0 14),(jc fun _=>(L6 _ _)),jm,trivial⟩ trivial ?_ ?_
 ·intro listed aa ww i o hs hni hcl ho hd hI hh
  have hls:listed.size=10:=hs;rcases hh with rfl |rfl |hh
  ·obtain rfl:=U2 ho rfl
   have r_21:=hI.vs _ (ma 3 rfl) (.inr (Y5 hd 3 (by kernel_rfl))) trivial;have u_21:aa.eval (.tmp 21) = .int .u8 (((cb m.present 1:Nat):Int)%256):=r_21;have r_24:=hI.vs _ (ma 6 rfl) (.inr (Y5 hd 6 (by kernel_rfl))) trivial;have u_24:aa.eval (.tmp 24) = .int .u8 (m.code%256):=r_24;have HH:Z9 aa 123 [(21, .int .u8 (((cb m.present 1:Nat):Int)%256)),(24, .int .u8 (m.code%256))]:=Z9.of hI.sz hI.df ⟨u_21,u_24,trivial⟩;obtain⟨hby,hb⟩:=Z3o ww [UInt8.ofNat (cb m.present 1),UInt8.ofNat m.code.toNat] [.int .u8 (((cb m.present 1:Nat):Int)%256), .int .u8 (m.code%256)] (by rw[P0 _ (by omega),P0 _ hc0];rfl) 5 2 rfl;refine V7 ho gz 25 rfl (.slice (some ⟨ww.heap.size,0,none⟩) 2 2) (ww.alloc (.cells ([.int .u8 (((cb m.present 1:Nat):Int)%256), .int .u8 (m.code%256)]:List Value).toArray 5)) (Z0f HH (by intro cs b h;cases h) (by kernel_rfl) (by kernel_rfl)) ?_;exact hI.ph hls 7 rfl (.slice (some ⟨ww.heap.size,0,none⟩) 2 2) hby (hI.wp.call hb) ⟨fun h=>absurd rfl h,fun _ _ _ _ _ h=>h.below hb,trivial⟩
  ·obtain rfl:=U2 ho rfl
   have r_25:=hI.vs _ (ma 7 rfl) (.inr (Y5 hd 7 (by kernel_rfl))) trivial;have HH:Z9 aa 123 [(25,aa.eval (.tmp 25))]:=Z9.of hI.sz hI.df ⟨rfl,trivial⟩;refine V7 ho gz 3 rfl (aa.eval (.tmp 25)) ww (N2 (.inr rfl) (HH.ev rfl)) ?_;exact hI.ph hls 9 rfl (aa.eval (.tmp 25)) r_25 hI.wp Z1i.same
  ·exact False.elim hh
 ·intro listed a11 w2 hall hI
  have r_2:=hI.vs _ (ma 8 rfl) (.inr (hall 8 (by decide))) trivial;have r_3:=hI.vs _ (ma 9 rfl) (.inr (hall 9 (by decide))) trivial;have H11:Z9 a11 123 [(1,pz w.heap.size),(2,iz 0),(3,a11.eval (.tmp 3))]:=Z9.of hI.sz hI.df ⟨hI.fx.1,r_2,rfl,trivial⟩;have HB2:=hI.wp;have R3_2:K0 [UInt8.ofNat (cb m.present 1),UInt8.ofNat m.code.toNat] (a11.eval (.tmp 3)) w2:=r_3;refine Z0 ?_;refine wp_ret ?_;repeat with_reducible first |apply Z4 |apply Z5
  refine bodyPost_ret (V9 rfl _ _ _ (H11.at_ 2 _ rfl) (H11.at_ 3 _ rfl)) H11.df ?_;refine Z1b (by unfold X9;simp[hk]) ?_ R3_2 HB2;unfold X8;simp[hk]
theorem Q2x (m:Mq) (vc vw vf:Value) (w:World) (hk:m.kind=3) (ht:m.topic.size≤65535) (hp:m.payload.size≤65535) (hq0:0≤m.qos) (hq2:m.qos≤2) (hi0:0≤m.id) (hi1:m.id≤65535):
  Calls Tryz.prog 133 #[.agg (Z1 m vc vw vf).toArray] w (Z4l m w):=by
 have b1:(m.kind==1)=false:=G6 hk rfl;have b2:(m.kind==2)=false:=G6 hk rfl;have b3:(m.kind==3)=true:=Z4w hk;go_enter Tryz.func133,Tryz.ntmps133;refine Z9.start 123 [(0, .agg (Z1 m vc vw vf).toArray)] rfl rfl ⟨rfl,trivial⟩ ?_;intro a0 H0;have O0:=X0.start w;refine rl ?_;refine H0.bx O0 2 fun a3 w1 O1 H3=>nt ?_;have HB1:=D5.of O1;obtain⟨b0,hb0⟩:∃b0,b0=w1.heap.size:=⟨_,rfl⟩;rw[←hb0] at HB1;have hb0':=hb0;clear hb0;refine H3.rg 1 fun a4 H4=>?_;refine H4.ld 0 (HB1.own.li 0 0) fun a5 H5=>nt ?_;have H6:=H5.kp [1,2,3,11];repeat (refine wp_seq ?_)
 refine wp_block ?_;refine rl ?_;refine H6.bn 1 (Z7 _ _ _ b1 _ _ _) fun a8 H8=>nt ?_;refine H8.condF rfl ?_;refine rl ?_;refine H8.bn 1 (Z7 _ _ _ b2 _ _ _) fun a10 H10=>nt ?_;refine H10.condF rfl ?_;refine rl ?_;refine H10.bn 1 (Z7 _ _ _ b3 _ _ _) fun a12 H12=>nt ?_;refine H12.condT rfl ?_;refine Z8 (fun a w'=>∃v,Z9 a 123 [(1,pz w.heap.size),(3,v)]∧Y2 b0 (([]++J2 m.topic)++(if 0<m.qos then U1 2 m.id.toNat else [])) v w'∧D5 w b0 [(w.heap.size,(Z1 m vc vw vf))] w') ?_ ?_
 ·skip
  refine H12.rg 1 fun a13 H13=>?_;refine H13.ld 0 (HB1.own.ls 0 19) fun a14 H14=>?_;refine H14.cl (Z6q b0 [] _ m.topic ht _ (Y2.nil _ _) HB1.bw (by simp)) ?_;rintro a15 v30 w2 ⟨R30,hb⟩ H15;have HB2:=HB1.step hb;clear hb;refine H15.ms 1 fun a16 H16=>nt ?_;by_cases hq:0<m.qos
  ·skip
   refine H16.rg 1 fun a17 H17=>?_;refine H17.ld 0 (HB2.own.li 0 17) fun a18 H18=>?_;refine H18.bb 0 rfl rfl rfl rfl rfl rfl (S0 _ _ true (by simpa using hq) _ _ _) rfl fun a19 H19=>nt ?_;refine H19.condT rfl ?_;refine H19.rg 2 fun a21 H21=>?_;refine H21.ld 0 (HB2.own.li 0 20) fun a22 H22=>?_;refine H22.cl (Y3c b0 ([]++J2 m.topic) _ m.id hi0 hi1 _ R30 HB2.bw (by simp only[List.length_append,V5,List.length_nil];omega)) ?_;rintro a23 v37 w3 ⟨R37,hb⟩ H23;have HB3:=HB2.step hb;clear hb;refine H23.ms 1 fun a24 H24=>nt ?_;exact⟨_,H24.keep ⟨rfl,rfl,trivial⟩,(by rw[if_pos hq];exact R37),HB3⟩
  ·skip
   refine H16.rg 1 fun a17 H17=>?_;refine H17.ld 0 (HB2.own.li 0 17) fun a18 H18=>?_;refine H18.bb 0 rfl rfl rfl rfl rfl rfl (S0 _ _ false (by simpa using hq) _ _ _) rfl fun a19 H19=>nt ?_;refine H19.condF rfl ?_;refine Z3 ?_;refine Z0 ?_;exact⟨_,H19.keep ⟨rfl,rfl,trivial⟩,(by rw[if_neg hq,List.append_nil];exact R30),HB2⟩
 ·rintro a46 w12 ⟨v3,H46,R3,HB12⟩
  have hl1:(if 0<m.qos then U1 2 m.id.toNat else []).length≤2:=by split<;>simp[Y0]
  have g1:cb m.dup 8<256:=Z6b _ _ (by decide);have g2:2*m.qos.toNat<256:=by omega
  have g3:(cb m.dup 8|||2*m.qos.toNat)<256:=Z4k g1 g2;have g4:cb m.retain 1<256:=Z6b _ _ (by decide);have gf:((cb m.dup 8|||2*m.qos.toNat)|||cb m.retain 1)=cb m.dup 8+2*m.qos.toNat+cb m.retain 1:=J5w _ _ _ (by omega);refine H46.dr HB12 [1] rfl [ec 0 38 (.pointer (some ⟨w.heap.size,16,none⟩)),ec 1 39 (.bool m.dup),ec 2 40 (iz (cb m.dup 8)),ec 3 41 (.pointer (some ⟨w.heap.size,17,none⟩)),ec 4 42 (iz m.qos),ec 5 43 (iz ((2*m.qos.toNat:Nat):Int)),ec 6 44 (iz (((cb m.dup 8|||2*m.qos.toNat):Nat):Int)),ec 7 45 (.pointer (some ⟨w.heap.size,18,none⟩)),ec 8 46 (.bool m.retain),ec 9 47 (iz (cb m.retain 1)),ec 10 48 (iz ((((cb m.dup 8|||2*m.qos.toNat)|||cb m.retain 1):Nat):Int)),er 11 49 [14] (fun v w=>Y2 b0 (([]++J2 m.topic)++(if 0<m.qos then U1 2 m.id.toNat else [])) v w),ec 12 50 (.pointer (some ⟨w.heap.size,21,none⟩)),ec 13 51 (.string m.payload),er 14 52 [] (fun v w=>Y2 b0 ((([]++J2 m.topic)++(if 0<m.qos then U1 2 m.id.toNat else []))++sb m.payload) v w),ec 15 2 (iz ((((cb m.dup 8|||2*m.qos.toNat)|||cb m.retain 1):Nat):Int)),er 16 3 [] (fun v w=>Y2 b0 ((([]++J2 m.topic)++(if 0<m.qos then U1 2 m.id.toNat else []))++sb m.payload) v w),er 1000 3 [14,16] (fun v w=>Y2 b0 (([]++J2 m.topic)++(if 0<m.qos then U1 2 m.id.toNat else [])) v w)] rfl ⟨jm,(jl fun _ h=>h.own.lb 0 16),(jq fun ww _=>(Z3j m.dup 8 8 rfl ww)),jm,(jl fun _ h=>h.own.li 0 17),(jb fun _=>(Q7i _ hq0 hq2 _ _ _)),(jb fun _=>(Y7i _ _ (lt8 g1) (lt8 g2) _ _ _)),jm,(jl fun _ h=>h.own.lb 0 18),(jq fun ww _=>(Z3j m.retain 1 1 rfl ww)),(jb fun _=>(Y7i _ _ (lt8 g3) (lt8 g4) _ _ _)),jm,(jl fun _ h=>h.own.ls 0 21),jm,trivial⟩ ⟨(by rw[H46.at_ 3 _ rfl];exact R3.drew),trivial⟩ ?_ ?_
  ·intro listed aa ww i o hs hni hcl ho hd hI hh
   have hls:listed.size=17:=hs;rcases hh with rfl |rfl |rfl |hh
   ·obtain rfl:=U2 ho rfl
    have r_3:=hI.vs _ (ma 17 rfl) (.inl (by rw[hls];show 17≤1000;decide)) ⟨(Bool.eq_false_iff.2 fun h=>absurd (hni.symm.trans (Y5 (hcl 14 _ rfl h) 11 (by kernel_rfl))) (by decide)),(Bool.eq_false_iff.2 fun h=>absurd (hni.symm.trans (Y5 (hcl 14 _ rfl (Y5 (hcl 16 _ rfl h) 14 (by kernel_rfl))) 11 (by kernel_rfl))) (by decide)),trivial⟩;have HH:Z9 aa 123 [(3,aa.eval (.tmp 3))]:=Z9.of hI.sz hI.df ⟨rfl,trivial⟩;refine V7 ho gz 49 rfl (aa.eval (.tmp 3)) ww (N2 (.inl rfl) (HH.ev rfl)) ?_;exact hI.ph hls 11 rfl (aa.eval (.tmp 3)) r_3 hI.wp Z1i.same
   ·obtain rfl:=U2 ho rfl
    have r_49:=hI.vs _ (ma 11 rfl) (.inr (Y5 hd 11 (by kernel_rfl))) ⟨hni,trivial⟩;have r_51:=hI.vs _ (ma 13 rfl) (.inr (Y5 hd 13 (by kernel_rfl))) trivial;have u_51:aa.eval (.tmp 51) = .string m.payload:=r_51;have HH:Z9 aa 123 [(49,aa.eval (.tmp 49)),(51, .string m.payload)]:=Z9.of hI.sz hI.df ⟨rfl,u_51,trivial⟩;obtain⟨v',w',hrun,hrow,hb0,hg⟩:=Z2o (P:=Tryz.prog) (a:=aa) (w:=ww) Tryz.underlying31 Tryz.underlying9 J4 (o:=⟨some 52,_,_,_,_,none⟩) rfl rfl u_51 r_49 (by simp only[List.length_append,V5,List.length_nil];omega) hI.wp.bw;refine V7 ho gz 52 rfl v' w' hrun ?_;exact hI.ph hls 14 rfl (v') hrow (hI.wp.step hb0) ⟨fun _ h=>absurd (by show 14∈([14]:List Nat);decide) h,fun h=>absurd rfl h,fun _ _ h=>absurd (hni.symm.trans (Y5 (hcl 16 _ rfl (h.resolve_left (by rw[hls];show ¬17≤16;decide))) 14 (by kernel_rfl))) (by decide),fun _ h=>absurd (by show 14∈([14,16]:List Nat);decide) h,trivial⟩
   ·obtain rfl:=U2 ho rfl
    have r_52:=hI.vs _ (ma 14 rfl) (.inr (Y5 hd 14 (by kernel_rfl))) trivial;have HH:Z9 aa 123 [(52,aa.eval (.tmp 52))]:=Z9.of hI.sz hI.df ⟨rfl,trivial⟩;refine V7 ho gz 3 rfl (aa.eval (.tmp 52)) ww (N2 (.inr rfl) (HH.ev rfl)) ?_;exact hI.ph hls 16 rfl (aa.eval (.tmp 52)) r_52 hI.wp Z1i.same
   ·exact False.elim hh
  ·intro listed a47 w13 hall hI
   have r_2:=hI.vs _ (ma 15 rfl) (.inr (hall 15 (by decide))) trivial;have r_3:=hI.vs _ (ma 16 rfl) (.inr (hall 16 (by decide))) trivial;have H47:Z9 a47 123 [(1,pz w.heap.size),(2,iz ((((cb m.dup 8|||2*m.qos.toNat)|||cb m.retain 1):Nat):Int)),(3,a47.eval (.tmp 3))]:=Z9.of hI.sz hI.df ⟨hI.fx.1,r_2,rfl,trivial⟩;have HB13:=hI.wp;have R3_13:Y2 b0 ((([]++J2 m.topic)++(if 0<m.qos then U1 2 m.id.toNat else []))++sb m.payload) (a47.eval (.tmp 3)) w13:=r_3;refine Z0 ?_;refine wp_ret ?_;repeat with_reducible first |apply Z4 |apply Z5
   refine bodyPost_ret (V9 rfl _ _ _ (H47.at_ 2 _ rfl) (H47.at_ 3 _ rfl)) H47.df ?_;refine Z1b (by rw[gf];unfold X9;rw[if_pos hk]) ?_ R3_13.read HB13;unfold X8;rw[if_neg (by rw[hk];decide),if_neg (by rw[hk];decide),if_pos hk];rfl
theorem Q2y (m:Mq) (vc vw vf:Value) (w:World) (b1:(m.kind==1)=false) (b2:(m.kind==2)=false) (b3:(m.kind==3)=false) (b8:(m.kind==8)=false) (b9:(m.kind==9)=false) (b10:(m.kind==10)=false) (b12:(m.kind==12)=false) (b13:(m.kind==13)=false) (b14:(m.kind==14)=false) (kb:Bool) (bk:(m.kind==6)=kb) (hi0:0≤m.id) (hi1:m.id≤65535):
  Calls Tryz.prog 133 #[.agg (Z1 m vc vw vf).toArray] w (Z4l m w):=by
 go_enter Tryz.func133,Tryz.ntmps133
 refine Z9.start 123 [(0, .agg (Z1 m vc vw vf).toArray)] rfl rfl ⟨rfl,trivial⟩ ?_;intro a0 H0;have O0:=X0.start w;refine rl ?_;refine H0.bx O0 2 fun a3 w1 O1 H3=>nt ?_;have HB1:=D5.of O1;obtain⟨b0,hb0⟩:∃b0,b0=w1.heap.size:=⟨_,rfl⟩;rw[←hb0] at HB1;have hb0':=hb0;clear hb0;refine H3.rg 1 fun a4 H4=>?_;refine H4.ld 0 (HB1.own.li 0 0) fun a5 H5=>nt ?_;have H6:=H5.kp [1,2,3,11];repeat (refine wp_seq ?_)
 refine wp_block ?_;refine rl ?_;refine H6.bn 1 (Z7 _ _ _ b1 _ _ _) fun a8 H8=>nt ?_;refine H8.condF rfl ?_;refine rl ?_;refine H8.bn 1 (Z7 _ _ _ b2 _ _ _) fun a10 H10=>nt ?_;refine H10.condF rfl ?_;refine rl ?_;refine H10.bn 1 (Z7 _ _ _ b3 _ _ _) fun a12 H12=>nt ?_;refine H12.condF rfl ?_;refine rl ?_;refine H12.bn 1 (Z7 _ _ _ b8 _ _ _) fun a14 H14=>nt ?_;refine H14.condF rfl ?_;refine rl ?_;refine H14.bn 1 (Z7 _ _ _ b9 _ _ _) fun a16 H16=>nt ?_;refine H16.condF rfl ?_;refine rl ?_;refine H16.bn 1 (Z7 _ _ _ b10 _ _ _) fun a18 H18=>nt ?_;refine H18.condF rfl ?_;repeat (refine wp_seq ?_)
 refine rl ?_;refine H18.bn 1 (Z7 _ _ _ b12 _ _ _) fun a20 H20=>nt ?_;refine H20.condF rfl ?_;refine rl ?_;refine H20.bn 1 (Z7 _ _ _ b13 _ _ _) fun a22 H22=>nt ?_;refine H22.condF rfl ?_;refine rl ?_;refine H22.bn 1 (Z7 _ _ _ b14 _ _ _) fun a24 H24=>nt ?_;refine H24.condF rfl ?_;refine Z3 ?_;refine Z6 ?_;refine Z0 ?_;refine H24.dr HB1 [1] rfl [ec 0 116 (pz w.heap.size),ec 1 117 (iz m.kind),ec 2 118 (.bool kb),ec 3 119 (iz (cb kb 2)),ec 4 120 (.pointer (some ⟨w.heap.size,20,none⟩)),ec 5 121 (iz m.id),er 6 122 [] (fun v w=>Y2 b0 ([]++U1 2 m.id.toNat) v w),ec 7 2 (iz (cb kb 2)),er 8 3 [] (fun v w=>Y2 b0 ([]++U1 2 m.id.toNat) v w)] rfl ⟨jm,(jl fun _ h=>h.own.li 0 0),(jb fun _=>(Z7 _ _ _ bk _ _ _)),(jq fun ww _=>(Z3j kb 2 2 rfl ww)),jm,(jl fun _ h=>h.own.li 0 20),jm,trivial⟩ trivial ?_ ?_
 ·intro listed aa ww i o hs hni hcl ho hd hI hh
  have hls:listed.size=9:=hs;rcases hh with rfl |rfl |hh
  ·obtain rfl:=U2 ho rfl
   have r_121:=hI.vs _ (ma 5 rfl) (.inr (Y5 hd 5 (by kernel_rfl))) trivial;have u_121:aa.eval (.tmp 121)=iz m.id:=r_121;have HH:Z9 aa 123 [(121,iz m.id)]:=Z9.of hI.sz hI.df ⟨u_121,trivial⟩;refine D0 ho gz 122 rfl 163 _ (P3 HH rfl rfl (fun _ _=>by kernel_rfl)) _ (Y3c ww.heap.size [] (.slice none 0 0) m.id hi0 hi1 ww (Y2.nil _ _) (Nat.le_refl _) (by simp)) ?_;rintro v' w' ⟨hrow,hb⟩;exact hI.ph hls 6 rfl (v') (hrow.base hI.wp.bw) (hI.wp.call hb) ⟨fun h=>absurd rfl h,fun _ _ _ _ _ h=>h.below hb,trivial⟩
  ·obtain rfl:=U2 ho rfl
   have r_122:=hI.vs _ (ma 6 rfl) (.inr (Y5 hd 6 (by kernel_rfl))) trivial;have HH:Z9 aa 123 [(122,aa.eval (.tmp 122))]:=Z9.of hI.sz hI.df ⟨rfl,trivial⟩;refine V7 ho gz 3 rfl (aa.eval (.tmp 122)) ww (N2 (.inr rfl) (HH.ev rfl)) ?_;exact hI.ph hls 8 rfl (aa.eval (.tmp 122)) r_122 hI.wp Z1i.same
  ·exact False.elim hh
 ·intro listed a25 w2 hall hI
  have r_2:=hI.vs _ (ma 7 rfl) (.inr (hall 7 (by decide))) trivial;have r_3:=hI.vs _ (ma 8 rfl) (.inr (hall 8 (by decide))) trivial;have H25:Z9 a25 123 [(1,pz w.heap.size),(2,iz (cb kb 2)),(3,a25.eval (.tmp 3))]:=Z9.of hI.sz hI.df ⟨hI.fx.1,r_2,rfl,trivial⟩;have HB2:=hI.wp;have R3_2:Y2 b0 ([]++U1 2 m.id.toNat) (a25.eval (.tmp 3)) w2:=r_3;refine Z0 ?_;refine wp_ret ?_;repeat with_reducible first |apply Z4 |apply Z5
  refine bodyPost_ret (V9 rfl _ _ _ (H25.at_ 2 _ rfl) (H25.at_ 3 _ rfl)) H25.df ?_;refine Z1b (by simp only[beq_eq_false_iff_ne] at b3 b8 b10;unfold X9;subst bk;simp[b3,b8,b10,cb]) ?_ R3_2.read HB2;simp only[beq_eq_false_iff_ne] at b1 b2 b3 b8 b9 b10 b12 b13 b14;unfold X8;simp[b1,b2,b3,b8,b9,b10,b12,b13,b14,J3]
theorem Q2z (m:Mq) (vw vf:Value) (w:World) (hk:m.kind=9) (hi0:0≤m.id) (hi1:m.id≤65535) (A:Option Addr) (c:Nat) (hr:X4 w w.heap.size 1 A m.codes.length (m.codes.map iv)) (hw:G4 m.codes=true) (hl:m.codes.length≤8):
  Calls Tryz.prog 133 #[.agg (Z1 m (.slice A m.codes.length c) vw vf).toArray] w (Z4l m w):=by
 have b1:(m.kind==1)=false:=G6 hk rfl;have b2:(m.kind==2)=false:=G6 hk rfl;have b3:(m.kind==3)=false:=G6 hk rfl;have b8:(m.kind==8)=false:=G6 hk rfl;have b9:(m.kind==9)=true:=Z4w hk;go_enter Tryz.func133,Tryz.ntmps133;refine Z9.start 123 [(0, .agg (Z1 m (.slice A m.codes.length c) vw vf).toArray)] rfl rfl ⟨rfl,trivial⟩ ?_;intro a0 H0;have O0:=X0.start w;refine rl ?_;refine H0.bx O0 2 fun a3 w1 O1 H3=>nt ?_;have HB1:=D5.of O1;obtain⟨b0,hb0⟩:∃b0,b0=w1.heap.size:=⟨_,rfl⟩;rw[←hb0] at HB1;have hb0':=hb0;clear hb0;refine H3.rg 1 fun a4 H4=>?_;refine H4.ld 0 (HB1.own.li 0 0) fun a5 H5=>nt ?_;have H6:=H5.kp [1,2,3,11];repeat (refine wp_seq ?_)
 refine wp_block ?_;refine rl ?_;refine H6.bn 1 (Z7 _ _ _ b1 _ _ _) fun a8 H8=>nt ?_;refine H8.condF rfl ?_;refine rl ?_;refine H8.bn 1 (Z7 _ _ _ b2 _ _ _) fun a10 H10=>nt ?_;refine H10.condF rfl ?_;refine rl ?_;refine H10.bn 1 (Z7 _ _ _ b3 _ _ _) fun a12 H12=>nt ?_;refine H12.condF rfl ?_;refine rl ?_;refine H12.bn 1 (Z7 _ _ _ b8 _ _ _) fun a14 H14=>nt ?_;refine H14.condF rfl ?_;refine rl ?_;refine H14.bn 1 (Z7 _ _ _ b9 _ _ _) fun a16 H16=>nt ?_;refine H16.condT rfl ?_;refine H16.rg 1 fun a17 H17=>?_;refine H17.ld 0 (HB1.own.li 0 20) fun a18 H18=>?_;refine H18.cl (Y3c b0 [] _ m.id hi0 hi1 _ (Y2.nil _ _) HB1.bw (by simp)) ?_;rintro a19 v80 w2 ⟨R80,hb⟩ H19;have HB2:=HB1.step hb;clear hb;refine H19.ms 1 fun a20 H20=>nt ?_;refine H20.rg 1 fun a21 H21=>?_;refine H21.ld 0 (HB2.own.l6 0 15) fun a22 H22=>?_;refine H22.len gz rfl rfl rfl rfl Tryz.underlying45 ?_;intro a23 H23;refine H23.ms 1 fun a24 H24=>nt ?_;repeat (refine wp_seq ?_)
 refine wp_block ?_;refine Q7 m.codes.length (fun k a w'=>∃v,Z9 a 123 [(1,pz w.heap.size),(3,v),(82, .slice A m.codes.length c),(83,iz m.codes.length),(84,iz k)]∧Y2 b0 (([]++U1 2 m.id.toNat)++G2 (m.codes.take k)) v w'∧D5 w b0 [(w.heap.size,(Z1 m (.slice A m.codes.length c) vw vf))] w') ?_ ?_
 ·exact⟨_,H24.keep ⟨rfl,rfl,rfl,rfl,rfl,trivial⟩,(by rw[List.take_zero];simpa [G2] using R80),HB2⟩
 ·rintro k a25 w3 hkn ⟨v3,H25,R3,HB3⟩
  have hlb:(G2 (m.codes.take k)).length≤1000:=by
   rw[Z5z,List.length_take];omega
  by_cases hlt:k<m.codes.length
  ·skip
   obtain⟨gb,go,x,rfl,hgb,hx,hcell⟩:=X4.int (hr.below HB3.own.bel) rfl hlt;obtain⟨hx0,hx1⟩:=Z8e hw hx;refine rl ?_;refine H25.bb 0 rfl rfl rfl rfl rfl rfl (Q3 _ _ true (by simp;omega) _ _ _) rfl fun a26 H26=>nt ?_;repeat (refine wp_seq ?_)
   refine H26.condT rfl ?_;refine Z3 ?_;refine Z0 ?_;repeat (refine wp_seq ?_)
   refine wp_block ?_;refine rl ?_;refine H26.index gz rfl rfl rfl rfl rfl (U7 45 Tryz.underlying45 (fun _=>by kernel_rfl) _ _ _ _ _ hlt _) ?_;intro a27 H27;refine H27.ld 1 (J9 _ _ _ _ hcell) fun a29 H29=>nt ?_;refine H29.rg 2 fun a31 H31=>?_;refine H31.cv 0 (L6 _ _) fun a32 H32=>?_;refine H32.bytes gz rfl rfl [UInt8.ofNat x.toNat] [.int .u8 (x%256)] (by rw[P0 _ hx0];rfl) (k:=1) rfl 5 (by intro cs b h;cases h) (by kernel_rfl) (by kernel_rfl) ?_;intro a33 v91 w4 H33 B91 hb;have HB4:=HB3.call hb;have R3:=R3.below hb;clear hb;refine H33.appendRow Tryz.underlying31 J4 gz rfl rfl rfl rfl rfl R3 B91 (by simp only[List.length_append,Y0,List.length_cons,List.length_nil];omega) HB4.bw ?_;intro a34 v92 w5 H34 R92 hb _;have HB5:=HB4.step hb;clear hb;refine H34.ms 1 fun a35 H35=>?_;refine wpList_nil ?_;refine Z6 ?_;refine Z0 ?_;refine rl ?_;refine H35.bb 1 rfl rfl rfl rfl rfl rfl (E7 _ (by omega) _ _ _) rfl fun a37 H37=>nt ?_;exact⟨hlt,_,H37.keep ⟨rfl,rfl,rfl,rfl,rfl,trivial⟩,(by rw[E5 _ _ _ hx,Z9k,←List.append_assoc];exact R92),HB5⟩
  ·skip
   obtain rfl:k=m.codes.length:=by omega
   refine rl ?_;refine H25.bb 0 rfl rfl rfl rfl rfl rfl (Q3 _ _ false (by simp) _ _ _) rfl fun a26 H26=>nt ?_;repeat (refine wp_seq ?_)
   refine H26.condF rfl ?_;refine wp_exit ?_;repeat (with_reducible refine J7 ?_)
   refine X3 ?_;refine Z0 ?_;refine H26.rg 3 fun a29 H29=>nt ?_;rw[List.take_length] at R3;refine wp_ret ?_;repeat with_reducible first |apply Z4 |apply Z5
   refine bodyPost_ret (V9 rfl _ _ _ (H29.at_ 2 _ rfl) (H29.at_ 3 _ rfl)) H29.df ?_;refine Z1b (by unfold X9;simp[hk]) ?_ R3.read HB3;unfold X8;simp[hk]
theorem J9j (m:Mq) (vc vw:Value) (w:World) (hk:m.kind=10) (hi0:0≤m.id) (hi1:m.id≤65535) (A:Option Addr) (c:Nat) (hr:X4 w w.heap.size 1 A m.filters.length (m.filters.map sv)) (hw:Q2 m.filters=true) (hl:m.filters.length≤8):
  Calls Tryz.prog 133 #[.agg (Z1 m vc vw (.slice A m.filters.length c)).toArray] w (Z4l m w):=by
 have b1:(m.kind==1)=false:=G6 hk rfl;have b2:(m.kind==2)=false:=G6 hk rfl;have b3:(m.kind==3)=false:=G6 hk rfl;have b8:(m.kind==8)=false:=G6 hk rfl;have b9:(m.kind==9)=false:=G6 hk rfl;have b10:(m.kind==10)=true:=Z4w hk;go_enter Tryz.func133,Tryz.ntmps133;refine Z9.start 123 [(0, .agg (Z1 m vc vw (.slice A m.filters.length c)).toArray)] rfl rfl ⟨rfl,trivial⟩ ?_;intro a0 H0;have O0:=X0.start w;refine rl ?_;refine H0.bx O0 2 fun a3 w1 O1 H3=>nt ?_;have HB1:=D5.of O1;obtain⟨b0,hb0⟩:∃b0,b0=w1.heap.size:=⟨_,rfl⟩;rw[←hb0] at HB1;have hb0':=hb0;clear hb0;refine H3.rg 1 fun a4 H4=>?_;refine H4.ld 0 (HB1.own.li 0 0) fun a5 H5=>nt ?_;have H6:=H5.kp [1,2,3,11];repeat (refine wp_seq ?_)
 refine wp_block ?_;refine rl ?_;refine H6.bn 1 (Z7 _ _ _ b1 _ _ _) fun a8 H8=>nt ?_;refine H8.condF rfl ?_;refine rl ?_;refine H8.bn 1 (Z7 _ _ _ b2 _ _ _) fun a10 H10=>nt ?_;refine H10.condF rfl ?_;refine rl ?_;refine H10.bn 1 (Z7 _ _ _ b3 _ _ _) fun a12 H12=>nt ?_;refine H12.condF rfl ?_;refine rl ?_;refine H12.bn 1 (Z7 _ _ _ b8 _ _ _) fun a14 H14=>nt ?_;refine H14.condF rfl ?_;refine rl ?_;refine H14.bn 1 (Z7 _ _ _ b9 _ _ _) fun a16 H16=>nt ?_;refine H16.condF rfl ?_;refine rl ?_;refine H16.bn 1 (Z7 _ _ _ b10 _ _ _) fun a18 H18=>nt ?_;refine H18.condT rfl ?_;refine H18.rg 1 fun a19 H19=>?_;refine H19.ld 0 (HB1.own.li 0 20) fun a20 H20=>?_;refine H20.cl (Y3c b0 [] _ m.id hi0 hi1 _ (Y2.nil _ _) HB1.bw (by simp)) ?_;rintro a21 v99 w2 ⟨R99,hb⟩ H21;have HB2:=HB1.step hb;clear hb;refine H21.ms 1 fun a22 H22=>nt ?_;refine H22.rg 1 fun a23 H23=>?_;refine H23.ld 0 (HB2.own.l8 0 23) fun a24 H24=>?_;refine H24.len gz rfl rfl rfl rfl Tryz.underlying47 ?_;intro a25 H25;refine H25.ms 1 fun a26 H26=>nt ?_;repeat (refine wp_seq ?_)
 refine wp_block ?_;refine Q7 m.filters.length (fun k a w'=>∃v,Z9 a 123 [(1,pz w.heap.size),(3,v),(101, .slice A m.filters.length c),(102,iz m.filters.length),(103,iz k)]∧Y2 b0 (([]++U1 2 m.id.toNat)++J8 (m.filters.take k)) v w'∧D5 w b0 [(w.heap.size,(Z1 m vc vw (.slice A m.filters.length c)))] w') ?_ ?_
 ·exact⟨_,H26.keep ⟨rfl,rfl,rfl,rfl,rfl,trivial⟩,(by rw[List.take_zero];simpa [J8] using R99),HB2⟩
 ·rintro k a27 w3 hkn ⟨v3,H27,R3,HB3⟩
  have hlb:(J8 (m.filters.take k)).length≤1000:=by
   have:=Z3i _ (Z4m k hw);rw[List.length_take] at this;omega
  by_cases hlt:k<m.filters.length
  ·skip
   obtain⟨gb,go,x,rfl,hgb,hx,hcell⟩:=X4.str (hr.below HB3.own.bel) rfl hlt;have hxs:=Z6c hw hx;refine rl ?_;refine H27.bb 0 rfl rfl rfl rfl rfl rfl (Q3 _ _ true (by simp;omega) _ _ _) rfl fun a28 H28=>nt ?_;repeat (refine wp_seq ?_)
   refine H28.condT rfl ?_;refine Z3 ?_;refine Z0 ?_;repeat (refine wp_seq ?_)
   refine wp_block ?_;refine rl ?_;refine H28.index gz rfl rfl rfl rfl rfl (U7 47 Tryz.underlying47 (fun _=>by kernel_rfl) _ _ _ _ _ hlt _) ?_;intro a29 H29;refine H29.ld 1 (G1 _ _ _ _ hcell) fun a31 H31=>nt ?_;refine H31.rg 2 fun a33 H33=>?_;refine H33.cl (Z6q b0 (([]++U1 2 m.id.toNat)++J8 (m.filters.take k)) _ x (by omega) _ R3 HB3.bw (by simp only[List.length_append,Y0,List.length_nil];omega)) ?_;rintro a34 v109 w4 ⟨R109,hb⟩ H34;have HB4:=HB3.step hb;clear hb;refine H34.ms 1 fun a35 H35=>?_;refine wpList_nil ?_;refine Z6 ?_;refine Z0 ?_;refine rl ?_;refine H35.bb 1 rfl rfl rfl rfl rfl rfl (E7 _ (by omega) _ _ _) rfl fun a37 H37=>nt ?_;exact⟨hlt,_,H37.keep ⟨rfl,rfl,rfl,rfl,rfl,trivial⟩,(by rw[E5 _ _ _ hx,Z6y,←List.append_assoc];exact R109),HB4⟩
  ·skip
   obtain rfl:k=m.filters.length:=by omega
   refine rl ?_;refine H27.bb 0 rfl rfl rfl rfl rfl rfl (Q3 _ _ false (by simp) _ _ _) rfl fun a28 H28=>nt ?_;repeat (refine wp_seq ?_)
   refine H28.condF rfl ?_;refine wp_exit ?_;repeat (with_reducible refine J7 ?_)
   refine X3 ?_;refine Z0 ?_;refine H28.rg 3 fun a31 H31=>nt ?_;rw[List.take_length] at R3;refine wp_ret ?_;repeat with_reducible first |apply Z4 |apply Z5
   refine bodyPost_ret (V9 rfl _ _ _ (H31.at_ 2 _ rfl) (H31.at_ 3 _ rfl)) H31.df ?_;refine Z1b (by unfold X9;simp[hk]) ?_ R3.read HB3;unfold X8;simp[hk]
theorem J9k (m:Mq) (vc vw vf:Value) (w:World) (hk:m.kind=12)  :
  Calls Tryz.prog 133 #[.agg (Z1 m vc vw vf).toArray] w (Z4l m w):=by
 have b1:(m.kind==1)=false:=G6 hk rfl;have b2:(m.kind==2)=false:=G6 hk rfl;have b3:(m.kind==3)=false:=G6 hk rfl;have b8:(m.kind==8)=false:=G6 hk rfl;have b9:(m.kind==9)=false:=G6 hk rfl;have b10:(m.kind==10)=false:=G6 hk rfl;have b12:(m.kind==12)=true:=Z4w hk;go_enter Tryz.func133,Tryz.ntmps133;refine Z9.start 123 [(0, .agg (Z1 m vc vw vf).toArray)] rfl rfl ⟨rfl,trivial⟩ ?_;intro a0 H0;have O0:=X0.start w;refine rl ?_;refine H0.bx O0 2 fun a3 w1 O1 H3=>nt ?_;have HB1:=D5.of O1;obtain⟨b0,hb0⟩:∃b0,b0=w1.heap.size:=⟨_,rfl⟩;rw[←hb0] at HB1;have hb0':=hb0;clear hb0;refine H3.rg 1 fun a4 H4=>?_;refine H4.ld 0 (HB1.own.li 0 0) fun a5 H5=>nt ?_;have H6:=H5.kp [1,2,3,11];repeat (refine wp_seq ?_)
 refine wp_block ?_;refine rl ?_;refine H6.bn 1 (Z7 _ _ _ b1 _ _ _) fun a8 H8=>nt ?_;refine H8.condF rfl ?_;refine rl ?_;refine H8.bn 1 (Z7 _ _ _ b2 _ _ _) fun a10 H10=>nt ?_;refine H10.condF rfl ?_;refine rl ?_;refine H10.bn 1 (Z7 _ _ _ b3 _ _ _) fun a12 H12=>nt ?_;refine H12.condF rfl ?_;refine rl ?_;refine H12.bn 1 (Z7 _ _ _ b8 _ _ _) fun a14 H14=>nt ?_;refine H14.condF rfl ?_;refine rl ?_;refine H14.bn 1 (Z7 _ _ _ b9 _ _ _) fun a16 H16=>nt ?_;refine H16.condF rfl ?_;refine rl ?_;refine H16.bn 1 (Z7 _ _ _ b10 _ _ _) fun a18 H18=>nt ?_;refine H18.condF rfl ?_;repeat (refine wp_seq ?_)
 refine rl ?_;refine H18.bn 1 (Z7 _ _ _ b12 _ _ _) fun a20 H20=>nt ?_;refine H20.condT rfl ?_;refine Z3 ?_;refine Z0 ?_;refine H20.condT rfl ?_;refine H20.rg 2 fun a22 H22=>nt ?_;refine wp_ret ?_;repeat with_reducible first |apply Z4 |apply Z5
 refine bodyPost_ret (V9 rfl _ _ _ (H22.at_ 2 _ rfl) (H22.at_ 3 _ rfl)) H22.df ?_;refine Z1b (by unfold X9;simp[hk]) ?_ (Y2.nil b0 _).read HB1;unfold X8;simp[hk,J3]
theorem J9l (m:Mq) (vc vw vf:Value) (w:World) (hk:m.kind=13)  :
  Calls Tryz.prog 133 #[.agg (Z1 m vc vw vf).toArray] w (Z4l m w):=by
 have b1:(m.kind==1)=false:=G6 hk rfl;have b2:(m.kind==2)=false:=G6 hk rfl;have b3:(m.kind==3)=false:=G6 hk rfl;have b8:(m.kind==8)=false:=G6 hk rfl;have b9:(m.kind==9)=false:=G6 hk rfl;have b10:(m.kind==10)=false:=G6 hk rfl;have b12:(m.kind==12)=false:=G6 hk rfl;have b13:(m.kind==13)=true:=Z4w hk;go_enter Tryz.func133,Tryz.ntmps133;refine Z9.start 123 [(0, .agg (Z1 m vc vw vf).toArray)] rfl rfl ⟨rfl,trivial⟩ ?_;intro a0 H0;have O0:=X0.start w;refine rl ?_;refine H0.bx O0 2 fun a3 w1 O1 H3=>nt ?_;have HB1:=D5.of O1;obtain⟨b0,hb0⟩:∃b0,b0=w1.heap.size:=⟨_,rfl⟩;rw[←hb0] at HB1;have hb0':=hb0;clear hb0;refine H3.rg 1 fun a4 H4=>?_;refine H4.ld 0 (HB1.own.li 0 0) fun a5 H5=>nt ?_;have H6:=H5.kp [1,2,3,11];repeat (refine wp_seq ?_)
 refine wp_block ?_;refine rl ?_;refine H6.bn 1 (Z7 _ _ _ b1 _ _ _) fun a8 H8=>nt ?_;refine H8.condF rfl ?_;refine rl ?_;refine H8.bn 1 (Z7 _ _ _ b2 _ _ _) fun a10 H10=>nt ?_;refine H10.condF rfl ?_;refine rl ?_;refine H10.bn 1 (Z7 _ _ _ b3 _ _ _) fun a12 H12=>nt ?_;refine H12.condF rfl ?_;refine rl ?_;refine H12.bn 1 (Z7 _ _ _ b8 _ _ _) fun a14 H14=>nt ?_;refine H14.condF rfl ?_;refine rl ?_;refine H14.bn 1 (Z7 _ _ _ b9 _ _ _) fun a16 H16=>nt ?_;refine H16.condF rfl ?_;refine rl ?_;refine H16.bn 1 (Z7 _ _ _ b10 _ _ _) fun a18 H18=>nt ?_;refine H18.condF rfl ?_;repeat (refine wp_seq ?_)
 refine rl ?_;refine H18.bn 1 (Z7 _ _ _ b12 _ _ _) fun a20 H20=>nt ?_;refine H20.condF rfl ?_;refine rl ?_;refine H20.bn 1 (Z7 _ _ _ b13 _ _ _) fun a22 H22=>nt ?_;refine H22.condT rfl ?_;refine Z3 ?_;refine Z0 ?_;refine H22.condT rfl ?_;refine H22.rg 2 fun a24 H24=>nt ?_;refine wp_ret ?_;repeat with_reducible first |apply Z4 |apply Z5
 refine bodyPost_ret (V9 rfl _ _ _ (H24.at_ 2 _ rfl) (H24.at_ 3 _ rfl)) H24.df ?_;refine Z1b (by unfold X9;simp[hk]) ?_ (Y2.nil b0 _).read HB1;unfold X8;simp[hk,J3]
theorem J9m (m:Mq) (vc vw vf:Value) (w:World) (hk:m.kind=14)  :
  Calls Tryz.prog 133 #[.agg (Z1 m vc vw vf).toArray] w (Z4l m w):=by
 have b1:(m.kind==1)=false:=G6 hk rfl;have b2:(m.kind==2)=false:=G6 hk rfl;have b3:(m.kind==3)=false:=G6 hk rfl;have b8:(m.kind==8)=false:=G6 hk rfl;have b9:(m.kind==9)=false:=G6 hk rfl;have b10:(m.kind==10)=false:=G6 hk rfl;have b12:(m.kind==12)=false:=G6 hk rfl;have b13:(m.kind==13)=false:=G6 hk rfl;have b14:(m.kind==14)=true:=Z4w hk;go_enter Tryz.func133,Tryz.ntmps133;refine Z9.start 123 [(0, .agg (Z1 m vc vw vf).toArray)] rfl rfl ⟨rfl,trivial⟩ ?_;intro a0 H0;have O0:=X0.start w;refine rl ?_;refine H0.bx O0 2 fun a3 w1 O1 H3=>nt ?_;have HB1:=D5.of O1;obtain⟨b0,hb0⟩:∃b0,b0=w1.heap.size:=⟨_,rfl⟩;rw[←hb0] at HB1;have hb0':=hb0;clear hb0;refine H3.rg 1 fun a4 H4=>?_;refine H4.ld 0 (HB1.own.li 0 0) fun a5 H5=>nt ?_;have H6:=H5.kp [1,2,3,11];repeat (refine wp_seq ?_)
 refine wp_block ?_;refine rl ?_;refine H6.bn 1 (Z7 _ _ _ b1 _ _ _) fun a8 H8=>nt ?_;refine H8.condF rfl ?_;refine rl ?_;refine H8.bn 1 (Z7 _ _ _ b2 _ _ _) fun a10 H10=>nt ?_;refine H10.condF rfl ?_;refine rl ?_;refine H10.bn 1 (Z7 _ _ _ b3 _ _ _) fun a12 H12=>nt ?_;refine H12.condF rfl ?_;refine rl ?_;refine H12.bn 1 (Z7 _ _ _ b8 _ _ _) fun a14 H14=>nt ?_;refine H14.condF rfl ?_;refine rl ?_;refine H14.bn 1 (Z7 _ _ _ b9 _ _ _) fun a16 H16=>nt ?_;refine H16.condF rfl ?_;refine rl ?_;refine H16.bn 1 (Z7 _ _ _ b10 _ _ _) fun a18 H18=>nt ?_;refine H18.condF rfl ?_;repeat (refine wp_seq ?_)
 refine rl ?_;refine H18.bn 1 (Z7 _ _ _ b12 _ _ _) fun a20 H20=>nt ?_;refine H20.condF rfl ?_;refine rl ?_;refine H20.bn 1 (Z7 _ _ _ b13 _ _ _) fun a22 H22=>nt ?_;refine H22.condF rfl ?_;refine rl ?_;refine H22.bn 1 (Z7 _ _ _ b14 _ _ _) fun a24 H24=>nt ?_;refine H24.condT rfl ?_;refine H24.rg 2 fun a26 H26=>nt ?_;refine wp_ret ?_;repeat with_reducible first |apply Z4 |apply Z5
 refine bodyPost_ret (V9 rfl _ _ _ (H26.at_ 2 _ rfl) (H26.at_ 3 _ rfl)) H26.df ?_;refine Z1b (by unfold X9;simp[hk]) ?_ (Y2.nil b0 _).read HB1;unfold X8;simp[hk,J3]
end
section
open Go.RowKit
theorem J1k (g o:Nat) (f:ByteArray) (q:Int) (w:World) (h0:w.cell? ⟨g,o,none⟩=some (.string f)) (h1:w.cell? ⟨g,o+1,none⟩=some (iz q)):(Instr.loadAt 161 (.pointer (some ⟨g,o,none⟩))).run Tryz.prog w = .ok (.agg #[.string f,iz q]) w:=by
 simp[go_sem,h0,h1]
theorem J1l (w:World):(zeroValue 161).run Tryz.prog w = .ok (.agg ([.string nos,iz 0]:List Value).toArray) w:=by kernel_rfl
theorem J1m:(Tryz.prog.info? 161).map (·.size)=some 2:=by kernel_rfl
theorem X4.wish {w:World}{B n k:Nat}{A:Option Addr}{l:List (ByteArray×Int)}(h:X4 w B 2 A n (wv l)) (hl:l.length=n) (hk:k<n):∃b o x,A=some ⟨b,o,none⟩∧b<B∧l[k]? = some x∧w.cell? ⟨b,o+k*2,none⟩=some (.string x.1)∧w.cell? ⟨b,o+k*2+1,none⟩=some (iz x.2):=by
 obtain⟨b,o,hA,hb,hc⟩:=h.get2 hk;have hx:l[k]? = some l[k]:=List.getElem?_eq_getElem (by omega);obtain⟨h0,h1⟩:=Y0o l k _ hx;exact⟨b,o,_,hA,hb,hx,hc 0 _ (by omega) h0,hc 1 _ (by omega) h1⟩
theorem Y2.away {b:Nat}{xs:List UInt8}{v:Value}{w:World}(h:Y2 b xs v w) {g:Nat}(hg:g<b∨w.heap.size≤g):some g≠v.ownBlock:=by
 obtain⟨A,c,rfl,ho⟩:=h;exact Q1 ho hg
theorem X5.onBlock {w w':World}{g:Nat}{L:List Value}(h:X5 w g L) (hb:w'.heap[g]? = w.heap[g]?):X5 w' g L:=fun j v hv=>
 ⟨(World.cell?_of_block (a:=⟨g,j,none⟩) hb).trans (h j v hv).1,(World.frozen?_of_block (a:=⟨g,j,none⟩) hb).trans (h j v hv).2⟩
theorem X4a {w w':World}{g5:Nat}{v3:Value}{ys:List UInt8}{k:Nat}(hK:∀g,g<w.heap.size→some g≠v3.ownBlock→w'.heap[g]? = w.heap[g]?) (hfar:∀g,g5≤g→some g≠v3.ownBlock) (hs:w.heap.size≤w'.heap.size) {v:Value}
  (h:∃g,v = .slice (some ⟨g,0,none⟩) k k∧g5≤g∧g<w.heap.size∧K0 ys v w):∃g,v = .slice (some ⟨g,0,none⟩) k k∧g5≤g∧g<w'.heap.size∧K0 ys v w':=by
 obtain⟨g,rfl,hg,hlt,A,c,e,hr⟩:=h;refine⟨g,rfl,hg,Nat.lt_of_lt_of_le hlt hs,A,c,e, ?_⟩;injection e with e1 e2 e3
 subst e1;refine⟨hr.1,fun hn=>?_⟩;obtain⟨ad,hA,hbl,hc⟩:=hr.2 hn;injection hA with hA
 subst hA;refine⟨_,rfl,Nat.lt_of_lt_of_le hbl hs,fun j u hu=>?_⟩;rw[←hc j u hu];refine World.cell?_of_block ?_;rw[Z0e];exact hK g hlt (hfar g hg)
theorem Z8l {P:Program}{o:Oper}{a:Act}{w:World}(hgb:P.underlying 31=some (.slice 5)) (hi:(P.info? 5).map (fun i=>(i.zero,i.size,i.bytes))=some (some (.int .u8 0),1,1)) {s x:Operand}
  (ho:o.op = .call { callee:=.builtin .append,args:=#[s,x],argTypes:=#[31,31] }) {b:Nat}{xs ys:List UInt8}{v:Value}{ad:Addr}{c:Nat}(hs:a.eval s=v) (hx:a.eval x = .slice (some ad) ys.length c) (hv:Y2 b xs v w) (hu:RB w w.heap.size (some ad) ys) (hy:0<ys.length)
  (hn:xs.length+ys.length≤140737488355328) (hb:b≤w.heap.size):∃v' w',(execOp a.eval o).run P w = .ok (.value v') w'∧Y2 b (xs++ys) v' w'∧Below b w w'∧w.grownBy w' v.ownBlock∧(v'.ownBlock=v.ownBlock∨v'.ownBlock=some w.heap.size):=by
 obtain⟨A,cc,rfl,hown⟩:=hv;obtain⟨i,hi0,hz0,hz1,hz2⟩:=info_parts hi;have hcells:∀j u,(ys.map bv)[j]? = some u→w.cell? (ad.add j)=some u:=by
  intro j u hu';obtain⟨ad',h,_,hc⟩:=hu.2 hy;injection h with h
  subst h;exact hc j u hu'
 obtain⟨v',w',hrun,h2,h3,_,h5⟩:=run_append_own_at (P:=P) w b 31 o.type 5 i (.int .u8 0) 1 1 hgb hi0 hz0 hz1 hz2 rfl (by decide) _ xs.length (xs.map bv) hown ad ys.length c (ys.map bv) (by simp) hcells (Z7s ys) (by unfold maxLen;omega) (by omega) hb;obtain⟨A',c',rfl,_,_⟩:=V3 h2;refine⟨_,w', ?_,⟨A',c',by rw[List.length_append],by rw[List.length_append,List.map_append];exact h2⟩,(Below.refl _ _).grown h3 hb fun k hk=>(hown.lt k hk).1,h3,h5⟩;unfold execOp;simp only[ho,resolve,invoke,builtin,Sem.run_bind,Sem.run_pure,Result.andThen_ok,List.map_toArray,List.map_cons,List.map_nil,hs,hx,hrun]
theorem J9n (b:Nat) (xs:List UInt8) (v:Value) (k:Int) (h0:0≤k) (h1:k≤65535) (w:World) (hv:Y2 b xs v w) (hb:b≤w.heap.size) (hn:xs.length≤140737488251232):
  Calls Tryz.prog 163 #[v,iz k] w fun e w'=>∃v',e = .returned v'∧(Y2 b (xs++U1 2 k.toNat) v' w'∧Below b w w'∧(∀g,g<w.heap.size→some g≠v.ownBlock→w'.heap[g]? = w.heap[g]?)∧(v'.ownBlock=v.ownBlock∨∃q,v'.ownBlock=some q∧w.heap.size≤q)):=by
 go_enter Tryz.func163,Tryz.ntmps163
 refine Z9.start 13 [(0,v),(1,iz k)] rfl rfl ⟨rfl,rfl,trivial⟩ ?_;intro a0 H0;refine H0.rg 1 fun a1 H1=>nt ?_;refine H1.rg 2 fun a3 H3=>?_;refine H3.bn 0 (Q7b _ h0 h1 _ _ _) fun a4 H4=>?_;refine H4.cv 1 (L6 _ _) fun a6 H6=>?_;refine H6.cv 0 (L6 _ _) fun a7 H7=>?_;obtain⟨⟨A1,c1,e1,hrb⟩,hb1⟩:=Z3o w (U1 2 k.toNat) [.int .u8 (k/256%256), .int .u8 (k%256)] (J9i k h0 h1) 5 2 (Y0 2 _);rw[Y0] at e1;injection e1 with e1 _ _
 subst e1;refine H7.go gz rfl rfl _ (Z0f H7 (by intro cs b h;cases h) (by kernel_rfl) (x:=.value (.slice (some ⟨w.heap.size,0,none⟩) 2 2)) (w':=w.alloc (.cells ([.int .u8 (k/256%256), .int .u8 (k%256)]:List Value).toArray 5)) (by kernel_rfl)) ?_;intro a8 H8;obtain⟨v',w',hrun,hrow,hb2,hg,hob⟩:=Z8l (P:=Tryz.prog) (a:=a8) (w:=w.alloc (.cells ([.int .u8 (k/256%256), .int .u8 (k%256)]:List Value).toArray 5)) Tryz.underlying31 J4 (o:=⟨some 12,_,_,_,_,none⟩) (b:=b) (xs:=xs) (ys:=U1 2 k.toNat) (v:=v) rfl (H8.at_ 5 _ rfl) (by rw[Y0];exact H8.at_ 11 _ rfl) (hv.below hb1) hrb (by rw[Y0];omega) (by rw[Y0];omega) (Nat.le_trans hb hb1.size);refine H8.go gz rfl rfl _ hrun ?_;intro a9 H9;refine H9.ms 1 fun a10 H10=>nt ?_;refine wp_ret ?_;refine bodyPost_ret (results_tmp rfl _ _ _) H10.df ⟨_,congrArg Ending.returned (H10.at_ 4 _ rfl),hrow,(hb1.mono hb).trans hb2,fun g hlt hne=>(hg.block g (Nat.lt_of_lt_of_le hlt hb1.size) hne).trans (hb1.block g hlt), ?_⟩;rcases hob with h |h
 ·exact .inl h
 ·exact .inr ⟨_,h,hb1.size⟩
theorem J5x (b:Nat) (xs:List UInt8) (v:Value) (s:ByteArray) (hs:s.size≤65535) (w:World) (hv:Y2 b xs v w) (hb:b≤w.heap.size) (hn:xs.length≤140737488251232):
  Calls Tryz.prog 162 #[v, .string s] w fun e w'=>∃v',e = .returned v'∧(Y2 b (xs++J2 s) v' w'∧Below b w w'∧(∀g,g<w.heap.size→some g≠v.ownBlock→w'.heap[g]? = w.heap[g]?)):=by
 go_enter Tryz.func162,Tryz.ntmps162
 refine Z9.start 11 [(0,v),(1, .string s)] rfl rfl ⟨rfl,rfl,trivial⟩ ?_;intro a0 H0;refine H0.rg 1 fun a1 H1=>nt ?_;refine H1.rg 2 fun a3 H3=>?_;refine H3.go gz rfl rfl (iz s.size) (w':=w) (Z0f H3 (by intro cs b h;cases h) (by kernel_rfl) (by kernel_rfl)) ?_;intro a4 H4;refine H4.cl (J9n b xs v (s.size:Int) (by omega) (by omega) w hv hb hn) ?_;rintro a5 v8 w1 ⟨R8,hb1,hK1,hob⟩ H5;refine H5.ms 1 fun a6 H6=>?_;rw[show ((s.size:Int)).toNat=s.size from rfl] at R8;obtain⟨v',w',hrun,hrow,hb2,hg⟩:=Z2o (P:=Tryz.prog) (a:=a6) (w:=w1) Tryz.underlying31 Tryz.underlying9 J4 (o:=⟨some 10,_,_,_,_,none⟩) rfl rfl (H6.at_ 9 _ rfl) ((H6.at_ 8 _ rfl).symm▸R8) (by rw[List.length_append,Y0];omega) (Nat.le_trans hb hb1.size);refine H6.go gz rfl rfl _ hrun ?_;intro a7 H7;refine H7.ms 1 fun a8 H8=>nt ?_;refine wp_ret ?_;refine bodyPost_ret (results_tmp rfl _ _ _) H8.df ⟨_,congrArg Ending.returned (H8.at_ 4 _ rfl),(by unfold J2;rw[←List.append_assoc];exact hrow),hb1.trans hb2,fun g hlt hne=>(hg.block g (Nat.lt_of_lt_of_le hlt hb1.size) ?_).trans (hK1 g hlt hne)⟩;rw[H6.at_ 8 _ rfl];rcases hob with h |⟨q,h,hq⟩
 ·rw[h];exact hne
 ·rw[h];intro e;injection e with e;omega
theorem Q3a (m:Mq) (vc vf:Value) (w:World) (hk:m.kind=8) (hi0:0≤m.id) (hi1:m.id≤65535) (A:Option Addr) (c:Nat) (hr:X4 w w.heap.size 2 A m.wishes.length (wv m.wishes)) (hw:Q4 m.wishes=true) (hl:m.wishes.length≤8):
  Calls Tryz.prog 133 #[.agg (Z1 m vc (.slice A m.wishes.length c) vf).toArray] w (Z4l m w):=by
 have b1:(m.kind==1)=false:=G6 hk rfl;have b2:(m.kind==2)=false:=G6 hk rfl;have b3:(m.kind==3)=false:=G6 hk rfl;have b8:(m.kind==8)=true:=Z4w hk;go_enter Tryz.func133,Tryz.ntmps133;refine Z9.start 123 [(0, .agg (Z1 m vc (.slice A m.wishes.length c) vf).toArray)] rfl rfl ⟨rfl,trivial⟩ ?_;intro a0 H0;have O0:=X0.start w;refine rl ?_;refine H0.bx O0 2 fun a3 w1 O1 H3=>nt ?_;have HB1:=D5.of O1;obtain⟨b0,hb0⟩:∃b0,b0=w1.heap.size:=⟨_,rfl⟩;rw[←hb0] at HB1;have hb0':=hb0;clear hb0;refine H3.rg 1 fun a4 H4=>?_;refine H4.ld 0 (HB1.own.li 0 0) fun a5 H5=>nt ?_;have H6:=H5.kp [1,2,3,11];repeat (refine wp_seq ?_)
 refine wp_block ?_;refine rl ?_;refine H6.bn 1 (Z7 _ _ _ b1 _ _ _) fun a8 H8=>nt ?_;refine H8.condF rfl ?_;refine rl ?_;refine H8.bn 1 (Z7 _ _ _ b2 _ _ _) fun a10 H10=>nt ?_;refine H10.condF rfl ?_;refine rl ?_;refine H10.bn 1 (Z7 _ _ _ b3 _ _ _) fun a12 H12=>nt ?_;refine H12.condF rfl ?_;refine rl ?_;refine H12.bn 1 (Z7 _ _ _ b8 _ _ _) fun a14 H14=>nt ?_;refine H14.condT rfl ?_;refine H14.rg 1 fun a15 H15=>?_;refine H15.ld 0 (HB1.own.li 0 20) fun a16 H16=>?_;refine H16.cl (Y3c b0 [] _ m.id hi0 hi1 _ (Y2.nil _ _) HB1.bw (by simp)) ?_;rintro a17 v57 w2 ⟨R57,hb⟩ H17;have HB2:=HB1.step hb;clear hb;refine H17.ms 1 fun a18 H18=>nt ?_;refine H18.rg 1 fun a19 H19=>?_;refine H19.ld 0 (HB2.own.l7 0 22) fun a20 H20=>?_;refine H20.len gz rfl rfl rfl rfl Tryz.underlying46 ?_;intro a21 H21;refine H21.ms 1 fun a22 H22=>nt ?_;repeat (refine wp_seq ?_)
 refine wp_block ?_;refine Q7 m.wishes.length (fun k a w'=>∃v,Z9 a 123 [(1,pz w.heap.size),(3,v),(59, .slice A m.wishes.length c),(60,iz m.wishes.length),(61,iz k)]∧Y2 b0 (([]++U1 2 m.id.toNat)++Y9 (m.wishes.take k)) v w'∧D5 w b0 [(w.heap.size,(Z1 m vc (.slice A m.wishes.length c) vf))] w') ?_ ?_
 ·exact⟨_,H22.keep ⟨rfl,rfl,rfl,rfl,rfl,trivial⟩,(by rw[List.take_zero];simpa [Y9] using R57),HB2⟩
 ·rintro k a23 w3 hkn ⟨v3,H23,R3,HB3⟩
  have hlb:(Y9 (m.wishes.take k)).length≤1000:=by
   have:=Z4e _ (Z6d k hw);rw[List.length_take] at this;omega
  by_cases hlt:k<m.wishes.length
  ·skip
   obtain⟨gb,go,x,rfl,hgb,hx,hc0,hc1⟩:=X4.wish (hr.below HB3.own.bel) rfl hlt;obtain⟨hxs,hx0,hx1⟩:=Z6x hw hx;refine rl ?_;refine H23.bb 0 rfl rfl rfl rfl rfl rfl (Q3 _ _ true (by simp;omega) _ _ _) rfl fun a24 H24=>nt ?_;repeat (refine wp_seq ?_)
   refine H24.condT rfl ?_;refine Z3 ?_;refine Z0 ?_;repeat (refine wp_seq ?_)
   refine wp_block ?_;refine rl ?_;refine H24.index gz rfl rfl rfl rfl rfl (Y9x 46 Tryz.underlying46 (fun _=>by kernel_rfl) _ _ _ _ _ hlt _) ?_;intro a25 H25;refine H25.ld 0 (J1k _ _ _ _ _ hc0 hc1) fun a26 H26=>?_;refine H26.alloc rfl rfl rfl rfl _ J1l ?_;intro a27 w4 hbA hsA hCA H27;refine H27.storeS rfl rfl rfl rfl (L:=[.string x.1,iz x.2]) rfl hCA J1m rfl rfl rfl ?_;intro a28 w5 H28 hgS hsS hC5;have hb5:Below w3.heap.size w3 w5:=hbA.grown hgS hbA.size (fun k hk=>by injection hk with hk;rw[←hk];exact Nat.le_refl _);have hlt5:w3.heap.size<w5.heap.size:=by rw[hsS,hsA];exact Nat.lt_succ_self _
   have hfar:∀g,w3.heap.size≤g→some g≠v3.ownBlock:=fun g hg=>R3.away (.inr hg);generalize w3.heap.size=g5 at hC5 hlt5 hfar H28;have R3:=R3.below hb5;have HB5:=HB3.call hb5;clear hbA hsA hCA hgS hsS hb5;refine nt ?_;have H29:=H28.kp [1,3,5,59,60,61];refine H29.dr HB5 [1,5,59,60,61] rfl [er 0 65 [3] (fun v w=>v=v3∧Y2 b0 (([]++U1 2 m.id.toNat)++Y9 (m.wishes.take k)) v w),ec 1 66 (pz g5),eh 2 67 (.string x.1),er 3 68 [8] (fun v w=>Y2 b0 ((([]++U1 2 m.id.toNat)++Y9 (m.wishes.take k))++J2 x.1) v w),ec 4 69 (.pointer (some ⟨g5,1,none⟩)),eh 5 70 (iz x.2),ec 6 71 (.int .u8 (x.2%256)),er 7 72 [8] (fun v w=>∃g,v = .slice (some ⟨g,0,none⟩) 1 1∧g5≤g∧g<w.heap.size∧K0 [UInt8.ofNat x.2.toNat] v w),er 8 73 [] (fun v w=>Y2 b0 (((([]++U1 2 m.id.toNat)++Y9 (m.wishes.take k))++J2 x.1)++[UInt8.ofNat x.2.toNat]) v w),er 9 3 [] (fun v w=>Y2 b0 (((([]++U1 2 m.id.toNat)++Y9 (m.wishes.take k))++J2 x.1)++[UInt8.ofNat x.2.toNat]) v w),er 1000 3 [3,9] (fun v w=>v=v3∧Y2 b0 (([]++U1 2 m.id.toNat)++Y9 (m.wishes.take k)) v w),er 1001 121 [8] (fun _ w=>X5 w g5 [.string x.1,iz x.2]∧g5<w.heap.size)] rfl ⟨jm,jm,(jc fun _=>(L6 _ _)),trivial⟩ ⟨(by rw[H29.at_ 3 _ rfl];exact⟨rfl,R3.drew⟩),⟨hC5.below (Below.drew (Below.refl _ _)) hlt5,hlt5⟩,trivial⟩ ?_ ?_
   ·intro listed aa ww i o hs hni hcl ho hd hI hh
    have hls:listed.size=10:=hs;rcases hh with rfl |rfl |rfl |rfl |rfl |rfl |rfl |hh
    ·obtain rfl:=U2 ho rfl
     have r3:=hI.vs _ (ma 10 rfl) (.inl (by rw[hls];show 10≤1000;decide)) ⟨(Bool.eq_false_iff.2 fun h=>absurd (hni.symm.trans (Y5 (hcl 3 _ rfl h) 0 (by kernel_rfl))) (by decide)),(Bool.eq_false_iff.2 fun h=>absurd (hni.symm.trans (Y5 (hcl 3 _ rfl (Y5 (hcl 8 _ rfl (Y5 (hcl 9 _ rfl h) 8 (by kernel_rfl))) 3 (by kernel_rfl))) 0 (by kernel_rfl))) (by decide)),trivial⟩;obtain⟨e3,hR⟩:aa.eval (.tmp 3)=v3∧Y2 b0 (([]++U1 2 m.id.toNat)++Y9 (m.wishes.take k)) (aa.eval (.tmp 3)) ww:=r3;refine V7 ho gz 65 rfl (aa.eval (.tmp 3)) ww (N2 (.inl rfl) rfl) ?_;exact hI.ph hls 0 rfl (aa.eval (.tmp 3)) ⟨e3,hR⟩ hI.wp Z1i.same
    ·obtain rfl:=U2 ho rfl
     have rp:=hI.vs _ (ma 1 rfl) (.inr (Y5 hd 1 (by kernel_rfl))) trivial;have up:aa.eval (.tmp 66)=pz g5:=rp;have rbox:=hI.vs _ (ma 11 rfl) (.inl (by rw[hls];show 10≤1001;decide)) ⟨(Bool.eq_false_iff.2 fun h=>absurd (hni.symm.trans (Y5 (hcl 3 _ rfl (Y5 (hcl 8 _ rfl h) 3 (by kernel_rfl))) 2 (by kernel_rfl))) (by decide)),trivial⟩;refine V7 ho gz 67 rfl (.string x.1) ww (Z5n rfl up (G1 _ _ _ _ (rbox.1.get 0 _ rfl))) ?_;exact hI.ph hls 2 rfl (.string x.1) rfl hI.wp Z1i.same
    ·obtain rfl:=U2 ho rfl
     have r65:=hI.vs _ (ma 0 rfl) (.inr (Y5 hd 0 (by kernel_rfl))) ⟨hni,trivial⟩;obtain⟨e65,hR⟩:aa.eval (.tmp 65)=v3∧Y2 b0 (([]++U1 2 m.id.toNat)++Y9 (m.wishes.take k)) (aa.eval (.tmp 65)) ww:=r65;have r67:=hI.vs _ (ma 2 rfl) (.inr (Y5 hd 2 (by kernel_rfl))) trivial;have u67:aa.eval (.tmp 67) = .string x.1:=r67;have HH:Z9 aa 123 [(65,v3),(67, .string x.1)]:=Z9.of hI.sz hI.df ⟨e65,u67,trivial⟩;rw[e65] at hR;refine D0 ho gz 68 rfl 162 _ (P3 HH rfl rfl (fun _ _=>by kernel_rfl)) _ (J5x b0 (([]++U1 2 m.id.toNat)++Y9 (m.wishes.take k)) v3 x.1 (by omega) ww hR hI.wp.bw (by simp only[List.length_append,Y0,List.length_nil];omega)) ?_;rintro v' w' ⟨hrow,hb0,hK⟩;exact hI.ph hls 3 rfl (v') hrow (hI.wp.step hb0) ⟨fun _ h=>absurd (by show 3∈([3]:List Nat);decide) h,fun h=>absurd rfl h,fun _ _ _ _ _ h=>X4a hK hfar hb0.size h,fun _ _ h=>absurd (hni.symm.trans (Y5 (hcl 8 _ rfl (h.resolve_left (by rw[hls];show ¬10≤8;decide))) 3 (by kernel_rfl))) (by decide),fun _ _ h=>absurd (hni.symm.trans (Y5 (hcl 8 _ rfl (Y5 (hcl 9 _ rfl (h.resolve_left (by rw[hls];show ¬10≤9;decide))) 8 (by kernel_rfl))) 3 (by kernel_rfl))) (by decide),fun _ h=>absurd (by show 3∈([3,9]:List Nat);decide) h,fun _ _ _ _ _ h=>⟨h.1.onBlock (hK g5 h.2 (hfar g5 (Nat.le_refl _))),Nat.lt_of_lt_of_le h.2 hb0.size⟩,trivial⟩
    ·obtain rfl:=U2 ho rfl
     have rp:=hI.vs _ (ma 4 rfl) (.inr (Y5 hd 4 (by kernel_rfl))) trivial;have up:aa.eval (.tmp 69) = .pointer (some ⟨g5,1,none⟩):=rp;have rbox:=hI.vs _ (ma 11 rfl) (.inl (by rw[hls];show 10≤1001;decide)) ⟨(Bool.eq_false_iff.2 fun h=>absurd (hni.symm.trans (Y5 (hcl 6 _ rfl (Y5 (hcl 7 _ rfl (Y5 (hcl 8 _ rfl h) 7 (by kernel_rfl))) 6 (by kernel_rfl))) 5 (by kernel_rfl))) (by decide)),trivial⟩;refine V7 ho gz 70 rfl (iz x.2) ww (Z5n rfl up (J9 _ _ _ _ (rbox.1.get 1 _ rfl))) ?_;exact hI.ph hls 5 rfl (iz x.2) rfl hI.wp Z1i.same
    ·obtain rfl:=U2 ho rfl
     have r71:=hI.vs _ (ma 6 rfl) (.inr (Y5 hd 6 (by kernel_rfl))) trivial;have u71:aa.eval (.tmp 71) = .int .u8 (x.2%256):=r71;have rbox:=hI.vs _ (ma 11 rfl) (.inl (by rw[hls];show 10≤1001;decide)) ⟨(Bool.eq_false_iff.2 fun h=>absurd (hni.symm.trans (Y5 (hcl 8 _ rfl h) 7 (by kernel_rfl))) (by decide)),trivial⟩;have hg5:g5<ww.heap.size:=rbox.2;have HH:Z9 aa 123 [(71, .int .u8 (x.2%256))]:=Z9.of hI.sz hI.df ⟨u71,trivial⟩;obtain⟨hby,hb⟩:=Z3o ww [UInt8.ofNat x.2.toNat] [.int .u8 (x.2%256)] (by rw[P0 _ hx0];rfl) 5 1 rfl;refine V7 ho gz 72 rfl (.slice (some ⟨ww.heap.size,0,none⟩) 1 1) (ww.alloc (.cells ([.int .u8 (x.2%256)]:List Value).toArray 5)) (Z0f HH (by intro cs b h;cases h) (by kernel_rfl) (by kernel_rfl)) ?_;exact hI.ph hls 7 rfl (.slice (some ⟨ww.heap.size,0,none⟩) 1 1) ⟨_,rfl,Nat.le_of_lt hg5,T7 ww _,hby⟩ (hI.wp.call hb) ⟨fun _ _ _ _ _ h=>⟨h.1,h.2.below hb⟩,fun _ _ _ _ _ h=>h.below hb,fun h=>absurd rfl h,fun _ _ _ _ _ h=>h.below hb,fun _ _ _ _ _ h=>h.below hb,fun _ _ _ _ _ h=>⟨h.1,h.2.below hb⟩,fun _ _ _ _ _ h=>⟨h.1.below hb h.2,Nat.lt_of_lt_of_le h.2 hb.size⟩,trivial⟩
    ·obtain rfl:=U2 ho rfl
     have r68:=hI.vs _ (ma 3 rfl) (.inr (Y5 hd 3 (by kernel_rfl))) ⟨hni,trivial⟩;have r72:=hI.vs _ (ma 7 rfl) (.inr (Y5 hd 7 (by kernel_rfl))) ⟨hni,trivial⟩;obtain⟨_,_,_,_,hby⟩:=r72;obtain⟨v',w',hrun,hrow,hb0,hg⟩:=Z1g (P:=Tryz.prog) (a:=aa) (w:=ww) Tryz.underlying31 J4 (o:=⟨some 73,_,_,_,_,none⟩) rfl rfl rfl r68 hby (by simp only[List.length_append,V5,Y0,List.length_cons,List.length_nil];omega) hI.wp.bw;refine V7 ho gz 73 rfl v' w' hrun ?_;exact hI.ph hls 8 rfl (v') hrow (hI.wp.step hb0) ⟨fun _ _ _ hk=>absurd (hk.1.symm.trans (Y5 hd 3 (by kernel_rfl))) (by decide),fun _ h=>absurd (by show 8∈([8]:List Nat);decide) h,fun _ h=>absurd (by show 8∈([8]:List Nat);decide) h,fun h=>absurd rfl h,fun _ _ h=>absurd (hni.symm.trans (Y5 (hcl 9 _ rfl (h.resolve_left (by rw[hls];show ¬10≤9;decide))) 8 (by kernel_rfl))) (by decide),fun _ _ _ hk=>absurd (hk.1.symm.trans (Y5 hd 3 (by kernel_rfl))) (by decide),fun _ h=>absurd (by show 8∈([8]:List Nat);decide) h,trivial⟩
    ·obtain rfl:=U2 ho rfl
     have r_73:=hI.vs _ (ma 8 rfl) (.inr (Y5 hd 8 (by kernel_rfl))) trivial;have HH:Z9 aa 123 [(73,aa.eval (.tmp 73))]:=Z9.of hI.sz hI.df ⟨rfl,trivial⟩;refine V7 ho gz 3 rfl (aa.eval (.tmp 73)) ww (N2 (.inr rfl) (HH.ev rfl)) ?_;exact hI.ph hls 9 rfl (aa.eval (.tmp 73)) r_73 hI.wp Z1i.same
    ·exact False.elim hh
   ·intro listed a30 w6 hall hI
    have r_3:=hI.vs _ (ma 9 rfl) (.inr (hall 9 (by decide))) trivial;have H30:Z9 a30 123 [(1,pz w.heap.size),(5,pz g5),(59, .slice (some ⟨gb,go,none⟩) m.wishes.length c),(60,iz m.wishes.length),(61,iz k),(3,a30.eval (.tmp 3))]:=Z9.of hI.sz hI.df ⟨hI.fx.1,hI.fx.2.1,hI.fx.2.2.1,hI.fx.2.2.2.1,hI.fx.2.2.2.2.1,rfl,trivial⟩;have HB6:=hI.wp;have R3_6:Y2 b0 (((([]++U1 2 m.id.toNat)++Y9 (m.wishes.take k))++J2 x.1)++[UInt8.ofNat x.2.toNat]) (a30.eval (.tmp 3)) w6:=r_3;refine Z6 ?_;refine Z0 ?_;refine rl ?_;refine H30.bb 1 rfl rfl rfl rfl rfl rfl (E7 _ (by omega) _ _ _) rfl fun a32 H32=>nt ?_;exact⟨hlt,_,H32.keep ⟨rfl,rfl,rfl,rfl,rfl,trivial⟩,(by rw[E5 _ _ _ hx,Z8f,←List.append_assoc,←List.append_assoc];exact R3_6),HB6⟩
  ·skip
   obtain rfl:k=m.wishes.length:=by omega
   refine rl ?_;refine H23.bb 0 rfl rfl rfl rfl rfl rfl (Q3 _ _ false (by simp) _ _ _) rfl fun a24 H24=>nt ?_;repeat (refine wp_seq ?_)
   refine H24.condF rfl ?_;refine wp_exit ?_;repeat (with_reducible refine J7 ?_)
   refine X3 ?_;refine Z0 ?_;refine H24.rg 3 fun a27 H27=>nt ?_;rw[List.take_length] at R3;refine wp_ret ?_;repeat with_reducible first |apply Z4 |apply Z5
   refine bodyPost_ret (V9 rfl _ _ _ (H27.at_ 2 _ rfl) (H27.at_ 3 _ rfl)) H27.df ?_;refine Z1b (by unfold X9;simp[hk]) ?_ R3.read HB3;unfold X8;simp[hk]
end
section
open Go.RowKit
theorem J5y (m:Mq) (vc vw vf:Value) (w:World) (hm:Z4b m) (hL:MqL w w.heap.size m vc vw vf):
  Calls Tryz.prog 133 #[.agg (Z1 m vc vw vf).toArray] w (Z4l m w):=by
 obtain⟨h,ho⟩:=hm;have hkk:=Z2k h;have ids:∀{n:Int},V6 n 1 65535=true→0≤n∧n≤65535:=fun h=>by have:=Q5.1 h;omega
 by_cases k1:m.kind=1
 ·have hc:E4 m=true:=by unfold N3 at h;rw[if_pos k1] at h;exact h
  simp only[E4,Bool.and_eq_true,decide_eq_true_eq] at hc;obtain⟨hc,hkp,hw,hu,hps,h1,h2⟩:=hc;have hc':=N7 hc;have hu':=N7 hu;have hkp:=Q5.1 hkp;have hwq:m.wt.size≤64∧m.wp.size≤128∧0≤m.wq∧m.wq≤2:=by
   unfold Z9c at hw;cases hwon:m.won with
   |true=>
    rw[hwon,if_pos rfl] at hw;simp only[Bool.and_eq_true,decide_eq_true_eq] at hw;obtain⟨a,b,c⟩:=hw;have:=N7 a;have:=Q5.1 c;exact⟨by omega,by omega,by omega,by omega⟩
   |false=>
    rw[hwon,if_neg (by simp)] at hw;simp only[Bool.and_eq_true,beq_iff_eq,Bool.not_eq_true'] at hw;obtain⟨a,b,c,d⟩:=hw;rw[Z3x a,Z3x b,c];exact⟨by decide,by decide,by decide,by decide⟩
  exact Q2v m vc vw vf w k1 (by omega) (by omega) (by omega) (by omega) (by omega) (by omega) (by omega) (by omega) (by omega)
 by_cases k2:m.kind=2
 ·have hc:(V6 m.code 0 5&&(!m.present||m.code==0))=true:=by unfold N3 at h;rw[if_neg k1,if_pos k2] at h;exact h
  simp only[Bool.and_eq_true] at hc;exact Q2w m vc vw vf w k2 (Q5.1 hc.1).1
 by_cases k3:m.kind=3
 ·have hc:K9 m=true:=by unfold N3 at h;rw[if_neg k1,if_neg k2,if_pos k3] at h;exact h
  obtain⟨ht,hq0,hq2,hi,hz,hp⟩:=W5 hc;have:0≤m.id∧m.id≤65535:=by
   by_cases hq:0<m.qos
   ·have:=hi hq;omega
   ·have:=hz (by omega);omega
  exact Q2x m vc vw vf w k3 (by omega) (by omega) hq0 hq2 this.1 this.2
 by_cases k8:m.kind=8
 ·have hc:(V6 m.id 1 65535&&E8 m.wishes)=true:=by
   unfold N3 at h;rw[if_neg k1,if_neg k2,if_neg k3,if_neg (by simp[Q8,k8]),if_pos k8] at h;exact h
  simp only[Bool.and_eq_true,E8] at hc;obtain⟨i0,i1⟩:=ids hc.1;have hl:=Q5.1 hc.2.2;obtain⟨A1,c1,A2,c2,A3,c3,rfl,rfl,rfl,l1,l2,l3,k1',k2',k3',r1,r2,r3⟩:=hL;exact Q3a m _ _ w k8 i0 i1 A2 c2 r2 hc.2.1 (by omega)
 by_cases k9:m.kind=9
 ·have hc:(V6 m.id 1 65535&&C3 m.codes)=true:=by
   unfold N3 at h;rw[if_neg k1,if_neg k2,if_neg k3,if_neg (by simp[Q8,k9]),if_neg k8,if_pos k9] at h;exact h
  simp only[Bool.and_eq_true,C3] at hc;obtain⟨i0,i1⟩:=ids hc.1;have hl:=Q5.1 hc.2.2;obtain⟨A1,c1,A2,c2,A3,c3,rfl,rfl,rfl,l1,l2,l3,k1',k2',k3',r1,r2,r3⟩:=hL;exact Q2z m _ _ w k9 i0 i1 A1 c1 r1 hc.2.1 (by omega)
 by_cases k10:m.kind=10
 ·have hc:(V6 m.id 1 65535&&M0 m.filters)=true:=by
   unfold N3 at h;rw[if_neg k1,if_neg k2,if_neg k3,if_neg (by simp[Q8,k10]),if_neg k8,if_neg k9,if_pos k10] at h;exact h
  simp only[Bool.and_eq_true,M0] at hc;obtain⟨i0,i1⟩:=ids hc.1;have hl:=Q5.1 hc.2.2;obtain⟨A1,c1,A2,c2,A3,c3,rfl,rfl,rfl,l1,l2,l3,k1',k2',k3',r1,r2,r3⟩:=hL;exact J9j m _ _ w k10 i0 i1 A3 c3 r3 hc.2.1 (by omega)
 by_cases ki:Q8 m.kind=true
 ·have hc:V6 m.id 1 65535=true:=by
   unfold N3 at h;rw[if_neg k1,if_neg k2,if_neg k3,if_pos ki] at h;exact h
  obtain⟨i0,i1⟩:=ids hc;simp only[Q8,Bool.or_eq_true,beq_iff_eq] at ki;exact Q2y m vc vw vf w (by simpa using k1) (by simpa using k2) (by simpa using k3) (by simpa using k8) (by simpa using k9) (by simpa using k10) (by simp;omega) (by simp;omega) (by simp;omega) _ rfl i0 i1
 have kb:J3 m.kind=true:=by
  unfold N3 at h;rw[if_neg k1,if_neg k2,if_neg k3,if_neg ki,if_neg k8,if_neg k9,if_neg k10] at h;exact h
 simp only[J3,Bool.or_eq_true,beq_iff_eq] at kb;rcases kb with k |k |k
 ·exact J9k m vc vw vf w k
 ·exact J9l m vc vw vf w k
 ·exact J9m m vc vw vf w k
end
section
open Go.RowKit
def Z9l:Nat→List Value→List Value→List Value
 |_,[],L=>L
 |o,v::vs,L=>Z9l (o+1) vs (L.set o v)
structure StE where
 op:Nat
 off:Nat
 vs:List Value
def Z1m (listed:Array Bool):List StE→List Value→List Value
 |[],L=>L
 |j::js,L=>bif listed.getD j.op false then Z9l j.off j.vs (Z1m listed js L) else Z1m listed js L
def X9f:List StE→List Value→List Value
 |[],L=>L
 |j::js,L=>Z9l j.off j.vs (X9f js L)
theorem Y3r:∀(vs:List Value) (o:Nat) (L:List Value),(Z9l o vs L).length=L.length
 |[],_,_=>rfl
 |v::vs,o,L=>by rw[Z9l,Y3r vs,List.length_set]
theorem X4b:∀(vs:List Value) (o k:Nat) (u:Value) (L:List Value),(k<o∨o+vs.length≤k)→Z9l o vs (L.set k u)=(Z9l o vs L).set k u
 |[],_,_,_,_,_=>rfl
 |v::vs,o,k,u,L,h=>by
  simp only[List.length_cons] at h;rw[Z9l,Z9l,List.set_comm _ _ (show k≠o by omega),X4b vs (o+1) k u _ (by omega)]
theorem Y8w:∀(vs us:List Value) (o k:Nat) (L:List Value),(o+vs.length≤k∨k+us.length≤o)→Z9l o vs (Z9l k us L)=Z9l k us (Z9l o vs L)
 |[],_,_,_,_,_=>rfl
 |v::vs,us,o,k,L,h=>by
  simp only[List.length_cons] at h;rw[Z9l,Z9l,←X4b us k o v L (by omega),Y8w vs us (o+1) k _ (by omega)]
theorem Z4y (listed:Array Bool) (L:List Value):∀js:List StE,(Z1m listed js L).length=L.length
 |[]=>rfl
 |j::js=>by
  unfold Z1m;cases listed.getD j.op false with
  |true=>rw[cond_true,Y3r];exact Z4y listed L js
  |false=>rw[cond_false];exact Z4y listed L js
theorem Z9m {listed:Array Bool}{i:Nat}{L:List Value}:∀{js:List StE},(∀j∈js,j.op≠i)→Z1m (listed.setIfInBounds i true) js L=Z1m listed js L
 |[],_=>rfl
 |j::js,h=>by
  rw[Z1m,Z1m,Z8q listed (Ne.symm (h j List.mem_cons_self)),Z9m fun u hu=>h u (List.mem_cons_of_mem _ hu)]
def Q3b (js:List StE):Bool:=js.all fun j=>js.all fun k=>Nat.beq j.op k.op||(Nat.ble (j.off+j.vs.length) k.off||Nat.ble (k.off+k.vs.length) j.off)
theorem Y8x {listed:Array Bool}{L:List Value}{j0:StE}(hi:j0.op<listed.size) (h0:listed.getD j0.op false=false):∀{js:List StE},(js.map (·.op)).Nodup→j0∈js→(∀k∈js,k.op=j0.op∨j0.off+j0.vs.length≤k.off∨k.off+k.vs.length≤j0.off) →
  Z1m (listed.setIfInBounds j0.op true) js L=Z9l j0.off j0.vs (Z1m listed js L)
 |j::js,hn,hm,ha=>by
  rw[List.map_cons,List.nodup_cons] at hn;rcases List.mem_cons.1 hm with rfl |hm
  ·rw[Z1m,Z1m,Z8r listed hi,h0,cond_true,cond_false,Z9m fun u hu e=>hn.1 (by rw[←e];exact List.mem_map_of_mem hu)]
  ·have hne:j0.op≠j.op:=fun e=>hn.1 (by rw[←e];exact List.mem_map_of_mem hm)
   rw[Z1m,Z1m,Z8q listed hne,Y8x hi h0 hn.2 hm fun k hk=>ha k (List.mem_cons_of_mem _ hk)];cases listed.getD j.op false with
   |true=>
    rw[cond_true,cond_true];refine Y8w _ _ _ _ _ ?_;rcases ha j List.mem_cons_self with h |h |h
    ·exact absurd h.symm hne
    ·exact .inr h
    ·exact .inl h
   |false=>rfl
theorem Y6s {N:Nat}{L:List Value}:∀{js:List StE},Z1m (Array.replicate N false) js L=L
 |[]=>rfl
 |j::js=>by rw[Z1m,Z3d,cond_false,Y6s]
theorem Y8y {listed:Array Bool}{L:List Value}:∀{js:List StE},(∀j∈js,listed.getD j.op false=true)→Z1m listed js L=X9f js L
 |[],_=>rfl
 |j::js,h=>by rw[Z1m,X9f,h j List.mem_cons_self,cond_true,Y8y fun u hu=>h u (List.mem_cons_of_mem _ hu)]
def X1e (ops:Array Oper) (n:Nat) (l:List (Nat×Value)) (g m:Nat) (j:StE):Prop:=
 ∃o,ops[j.op]? = some o∧o.dst=none∧∀(a:Act) (w:World) (L:List Value),Z9 a n l→X5 w g L→L.length=m→Region.wanted o (yielded ops a.tmps)=true∧∃w',(execOp a.eval o).run Tryz.prog w = .ok .skip w'∧w.grownBy w' (some g)∧w'.heap.size=w.heap.size∧X5 w' g (Z9l j.off j.vs L)
def Y6t (ops:Array Oper) (n:Nat) (fixed:List (Nat×Value)) (es:List Y7) (g m:Nat):List StE→Prop
 |[]=>True
 |⟨op,off,vs⟩::js=>X1e ops n (fixed++K8 (D4 ops op) es) g m ⟨op,off,vs⟩∧Y6t ops n fixed es g m js
theorem X4c {ops:Array Oper}{n:Nat}{fixed:List (Nat×Value)}{es:List Y7}{g m:Nat}:∀{js:List StE},Y6t ops n fixed es g m js→∀j∈js,X1e ops n (fixed++K8 (D4 ops j.op) es) g m j
 |k::js,h,j,hj=>by
  rcases List.mem_cons.1 hj with rfl |hj
  ·exact h.1
  ·exact X4c h.2 j hj
section
variable {ops:Array Oper}{Q:Exit→Act→World→Prop}{n:Nat}{l fixed:List (Nat×Value)}{es:List Y7}
theorem Z9.ds {a:Act}{w W:World}{B:Nat}{bs:List (Nat×List Value)}{c:Code}{id:Nat}{Q':Exit→Act→World→Prop}(H:Z9 a n l) (O:X0 W B bs w) (i:Nat) {g:Nat}{L:List Value}(ss:List Nat) (hs:sel l ss=some fixed) (es:List Y7) (js:List StE) (hc:Y5b Tryz.prog c Q'=(.region id ops true,Q)) (hi:bs[i]? = some (g,L))
  (hp:Z6j ops Q n fixed (fun w=>∃L',L'.length=L.length∧X0 W B (bs.set i (g,L')) w) es es) (hst:Y6t ops n fixed es g L.length js) (hfin:∀(a:Act) (w:World),Z9 a n (fixed++X5h es)→X0 W B (bs.set i (g,X9f js L)) w→Q .normal a w)
  (hf:(Z5m n fixed (es.map Y7.e)&&(es.all Z1y&&(X5g ops.size es (js.map (·.op))&&Nat.ble ops.size 1000)))=true:=by kernel_rfl) (hj:(Q3b js&&(decide (js.map (·.op)).Nodup&&(js.all (fun j=>Nat.blt j.op ops.size&&es.all (fun t=>t.op != j.op))&&es.all (fun t=>Nat.blt t.op ops.size))))=true:=by kernel_rfl)
  (hback:(List.range ops.size).all (fun i=>match ops[i]? with |some o=>o.after.all (fun e=> !Region.binds .any e||decide (e.on<i)) |none=>true)=true:=by kernel_rfl) (hm:Tryz.prog.follows .mixedOrders=true:=by kernel_rfl):c.wp Tryz.prog Q' a w:=by
 simp only[Bool.and_eq_true,decide_eq_true_eq] at hf hj;obtain⟨hf,hpl,hcv,hN⟩:=hf;obtain⟨hap,hnd,hjl,hel⟩:=hj;have hN:ops.size≤1000:=by simpa using hN
 have hlt:∀j∈js,j.op<ops.size∧es.all (fun t=>t.op != j.op)=true:=fun j hj=>by
  have:=List.all_eq_true.1 hjl j hj
  simpa [Nat.blt_eq] using this
 have hel:∀t∈es,t.op<ops.size:=fun t ht=>by simpa [Nat.blt_eq] using List.all_eq_true.1 hel t ht
 have hpure:∀t∈es,∃v,t.c=some v∧t.arm=false:=fun t ht=>by
  have:=List.all_eq_true.1 hpl t ht;simp only[Z1y,Bool.and_eq_true,Bool.not_eq_true'] at this;obtain⟨v,hv⟩:=Option.isSome_iff_exists.1 this.1;exact⟨v,hv,this.2⟩
 have hst':∀{k:Nat}{listed:Array Bool}{w w':World}{ts:List Y7},(∀t∈ts,t∈es)→Z1i k listed w w' ts:=by
  intro k listed w w' ts hts
  induction ts with
  |nil=>trivial
  |cons t ts ih=>
   obtain⟨v,hv,_⟩:=hpure t (hts t List.mem_cons_self);unfold Z1i;rw[hv];exact ih fun u hu=>hts u (List.mem_cons_of_mem _ hu)
 have hli:i<bs.length:=(List.getElem?_eq_some_iff.1 hi).1;refine Z4q c Q' ?_;rw[hc];refine Z5j hm (fun listed=>Z1r n fixed (es.map Y7.e) (fun w=>X0 W B (bs.set i (g,Z1m listed js L)) w) listed) (Z6i hback) ?_ ?_ ⟨H.sz,H.df,Y2k H hs, ?_, ?_⟩
 ·intro listed a w k o hsz hni hcl ho hd hI
  have hk:k<ops.size:=(Array.getElem?_eq_some_iff.1 ho).1;have hkk:D4 ops k=o.after.toList:=by unfold D4;rw[ho]
  have HH:=Z9.of hI.sz hI.df (W7.app hI.fx (Z2c hI hd fun _ h=>h));by_cases hmem:k∈es.map (·.op)
  ·obtain⟨t,ht,he⟩:=List.mem_map.1 hmem
   subst he;obtain⟨v,hv,hm⟩:=hpure t ht;have hO:X0 W B (bs.set i (g,Z1m (listed.setIfInBounds t.op true) js L)) w:=by
    rw[Z9m]
    ·exact hI.wp
    ·intro j hj e
     have:=List.all_eq_true.1 (hlt j hj).2 t ht;simp[e] at this
   have hK:=hI.put (Wp':=fun w=>X0 W B (bs.set i (g,Z1m (listed.setIfInBounds t.op true) js L)) w) hf t.e (List.mem_map_of_mem ht) (by rw[Y7.e_op,hsz];exact hk) (by rw[hsz];exact hN) v (by simp only[Y7.e,hv]) hO Z5l.same;rw[Y7.e_op] at hK;have hsl:t.e.slot=t.slot:=by simp only[Y7.e,hv]
   rw[hsl] at hK;have hp':=Z9p hp t ht v hv hm;rw[hkk] at hp';exact hp' _ a w HH ⟨_,Z4y _ _ _,hI.wp⟩ hK
  ·have hkj:k∈js.map (·.op):=by
    have:=List.all_eq_true.1 hcv k (List.mem_range.2 hk);simp only[Bool.or_eq_true] at this;rcases this with h |h
    ·obtain⟨t,ht,he⟩:=List.any_eq_true.1 h
     exact absurd (List.mem_map.2 ⟨t,ht,by simpa using he⟩) hmem
    ·simpa using h
   obtain⟨j,hj,he⟩:=List.mem_map.1 hkj;subst he;obtain⟨o',ho',hdst,hrun⟩:=X4c hst j hj;rw[ho] at ho';injection ho' with ho'
   subst ho';rw[hkk] at hrun;have hgi:(bs.set i (g,Z1m listed js L))[i]? = some (g,Z1m listed js L):=by simp[hli]
   obtain⟨hwt,w',hr,hg,hs',hC⟩:=hrun a w _ HH (hI.wp.get i hgi) (Z4y _ _ _);refine Y3z ho hwt hdst w' hr ?_;refine hI.done j.op (by rw[hsz];exact hk) ?_ ?_ (hst' fun _ h=>h).all
   ·refine List.all_eq_true.2 fun t ht=>?_
    obtain⟨u,hu,rfl⟩:=List.mem_map.1 ht;rw[Y7.e_op];exact List.all_eq_true.1 (hlt j hj).2 u hu
   ·have:=hI.wp.store i hgi hg hs' hC
    rw[List.set_set] at this;rw[Y8x (by rw[hsz];exact hk) hni hnd hj]
    ·exact this
    ·intro k hk'
     have:=List.all_eq_true.1 (List.all_eq_true.1 hap j hj) k hk';simp only[Bool.or_eq_true,Nat.ble_eq] at this;rcases this with h |h |h
     ·exact .inl (Nat.eq_of_beq_eq_true h).symm
     ·exact .inr (.inl h)
     ·exact .inr (.inr h)
 ·intro listed a w hall hI
  have hO:=hI.wp;rw[Y8y fun j hj=>hall j.op (hlt j hj).1] at hO;exact hfin a w (Z9.of hI.sz hI.df (W7.app hI.fx (Y4a hI (fun t ht=>hall t.op (hel t ht)) fun _ h=>h))) hO
 ·intro u hu hl _
  obtain⟨t,ht,rfl⟩:=List.mem_map.1 hu;rw[Y7.e_op] at hl;have:=hel t ht;rcases hl with hl |hl
  ·rw[Array.size_replicate] at hl;omega
  ·rw[Z3d] at hl;cases hl
 ·rw[Y6s]
  have:bs.set i (g,L)=bs:=by
   refine List.ext_getElem? fun k=>?_;rw[List.getElem?_set];by_cases e:i=k
   ·subst e
    rw[if_pos rfl,if_pos hli,hi]
   ·rw[if_neg e]
  rw[this];exact O.drew
theorem q1 {T i off g m:Nat}{x y:Operand}{v:Value}{o:Oper}(hst:∀(w:World) (u:Value),w.cell? ⟨g,off,none⟩=some u→w.frozen? ⟨g,off,none⟩=false→(Instr.storeAt T (.pointer (some ⟨g,off,none⟩)) v).run Tryz.prog w = .ok () (w.setCell ⟨g,off,none⟩ v)) (ho:ops[i]? = some o:=by rfl) (hp:o.op = .store T x y:=by rfl)
  (hd:o.dst=none:=by rfl) (hg:okG ops l o=true:=by rfl) (hx:W1 l x=some (.pointer (some ⟨g,off,none⟩)):=by rfl) (hy:W1 l y=some v:=by rfl) (hj:Nat.blt off m=true:=by rfl):X1e ops n l g m ⟨i,off,[v]⟩:=by
 refine⟨o,ho,hd,fun a w L H hC hl=>⟨Z0g H hg, ?_⟩⟩;have hj':off<L.length:=by rw[hl];simpa [Nat.blt_eq] using hj
 obtain⟨c1,c2⟩:=hC off _ (List.getElem?_eq_getElem hj');exact⟨_,Q6 hp (H.ev hx) (H.ev hy) (hst w _ c1 c2),X7 w g off v,V1 _ _ _,hC.set off v hj'⟩
theorem q5 {i g m:Nat}{x y:Operand}{b c:Bool}{t u:ByteArray}{q:Int}{o:Oper}(ho:ops[i]? = some o:=by rfl) (hp:o.op = .store 44 x y:=by rfl) (hd:o.dst=none:=by rfl) (hg:okG ops l o=true:=by rfl) (hx:W1 l x=some (.pointer (some ⟨g,4,none⟩)):=by rfl)
  (hy:W1 l y=some (.agg #[.bool b, .string t, .string u,iz q, .bool c]):=by rfl) (hj:Nat.blt 8 m=true:=by rfl):X1e ops n l g m ⟨i,4,[.bool b, .string t, .string u,iz q, .bool c]⟩:=by
 refine⟨o,ho,hd,fun a w L H hC hl=>⟨Z0g H hg, ?_⟩⟩;have hj':8<L.length:=by rw[hl];simpa [Nat.blt_eq] using hj
 refine⟨_,Q6 hp (H.ev hx) (H.ev hy) (Y6c g L b t u q c w hC hj'), ?_, ?_, ?_⟩
 ·exact((((X7 w g 4 _).trans (X7 _ g 5 _)).trans (X7 _ g 6 _)).trans (X7 _ g 7 _)).trans (X7 _ g 8 _)
 ·simp only[V1]
 ·exact((((hC.set 4 _ (by omega)).set 5 _ (by simp only[List.length_set];omega)).set 6 _ (by simp only[List.length_set];omega)).set 7 _ (by simp only[List.length_set];omega)).set 8 _ (by simp only[List.length_set];omega)
end
end
section
open Go.RowKit
theorem X0.sto {W w:World}{B:Nat}{bs:List (Nat×List Value)}(O:X0 W B bs w) (i:Nat) {g:Nat}{L0 L:List Value}{T m:Nat}(hi:bs[i]? = some (g,L0)) (hm:(Tryz.prog.info? T).map (·.size)=some m) (h0:L0.length=m) (h1:L.length=m) (hc:L.all (·.oneCell')=true):
  ∃w',(Instr.storeAt T (pz g) (.agg L.toArray)).run Tryz.prog w = .ok () w'∧X0 W B (bs.set i (g,L)) w':=by
 have hC:=O.get i hi;have ht:w.there g 0 L.toArray.size:=by
  have:=hC.there;rw[h0,←h1] at this
  simpa using this
 refine⟨_,run_storeAt_mid w g 0 T L.toArray ht (by rw[hm,←h1];simp) (all_oneCell_toArray fun v hv=>List.all_eq_true.1 hc v hv),O.store i hi (D3 g _ 0 w).2 (D3 g _ 0 w).1.size ?_⟩;intro j v hv;have hj:=(List.getElem?_eq_some_iff.1 hv).1;have a:=World.rangeAt_setCells_same w g 0 L (by simpa using ht) j v hv;have b:=(World.there_setCells (by simpa using ht) g 0 L j hj).2;rw[Nat.zero_add] at a b;exact⟨a,b⟩
theorem J5z (m:Mq) (vc vw vf:Value) (w:World) (hL:MqL w w.heap.size m vc vw vf) (hF:Y6r m) (hW:Wd w):
  Calls Tryz.prog 131 #[.agg (Z1 m vc vw vf).toArray] w (X6l m w):=by
 go_enter Tryz.func131,Tryz.ntmps131
 refine Z9.start 144 [(0, .agg (Z1 m vc vw vf).toArray)] rfl rfl ⟨rfl,trivial⟩ ?_;intro a0 H0;have O0:=X0.start w;refine rl ?_;refine H0.bx O0 0 fun a1 w1 O1 H1=>?_;refine H1.al O1 1 Z0v fun a3 w2 O2 H3=>nt ?_;refine H3.rg 1 fun a4 H4=>?_;refine H4.ld 1 (O2.li 1 0) fun a6 H6=>?_;refine H6.sc O2 0 0 (fun u h f=>D6 _ _ _ u _ h f) fun a7 w3 O3 H7=>nt ?_;refine H7.rg 1 fun a8 H8=>?_;refine H8.ld 0 (O3.li 1 20) fun a9 H9=>?_;refine H9.cq 1 (P7 m.id 1 65535 _) fun a11 H11=>nt ?_;refine H11.rg 1 fun a12 H12=>?_;refine H12.ld 0 (O3.li 1 0) fun a13 H13=>nt ?_;obtain⟨g1,hg1⟩:∃g,w.heap.size=g:=⟨_,rfl⟩;obtain⟨g2,hg2⟩:∃g,w1.heap.size=g:=⟨_,rfl⟩;obtain⟨i,hi⟩:∃i,V6 m.id 1 65535=i:=⟨_,rfl⟩;have hE:∀(a:Act) (w':World) (m':Mq) (vc' vw' vf':Value) (b:Bool) (L1:List Value),Z9 a 144 [(2,pz g2),(3, .bool b)]→X0 w g1 [(g2,Z1 m' vc' vw' vf'),(g1,L1)] w'→Y3 m=m'→N3 m=b→MqL w' w'.heap.size m' vc' vw' vf' →
   (results Tryz.f131 a.tmps).run Tryz.prog w' = .ok (.tuple #[.agg (Z1 m' vc' vw' vf').toArray, .bool b]) w'∧a.defers=[]∧X6l m w (.returned (.tuple #[.agg (Z1 m' vc' vw' vf').toArray, .bool b])) w':=by
  intro a w' m' vc' vw' vf' b L1 H O ho hq hM;exact⟨U0 Tryz.results131 _ _ _ (H.at_ 2 _ rfl) (H.at_ 3 _ rfl) (O.get 0 rfl) Tryz.underlying49 rfl 24 size_mq rfl,H.df,J1i (by rw[ho]) hq.symm (by rw[ho];exact hM) (hg1▸O.bel)⟩
 have H14:=H13.kp [1,2,3,4,12];have O:=O3;rw[hg1,hg2] at H14 O;rw[hi] at H14;clear H0 H1 H3 H4 H6 H7 H8 H9 H11 H12 H13 O0 O1 O2 O3;refine wp_block ?_;refine H14.rg 0 fun a1 H1=>?_;refine H1.bn 1 (N8 _ _ _ _ _) fun a2 H2=>nt ?_;refine H2.cond (t:=m.kind==1) rfl ?_;cases b1:(m.kind==1) with
 |true=>
  have k1:m.kind=1:=by simpa using b1
  refine H2.rg 1 fun a17 H17=>?_;refine H17.ld 1 (O.li 1 0) fun a19 H19=>?_;refine H19.ld 1 (O.ls 1 1) fun a21 H21=>?_;refine H21.ld 1 (O.lb 1 2) fun a23 H23=>?_;refine H23.ld 1 (O.li 1 3) fun a25 H25=>?_;refine H25.ld 1 (Z2x _ _ _ _ _ _ _ _ (O.get 1 rfl) rfl rfl rfl rfl rfl) fun a27 H27=>?_;refine H27.ld 1 (O.ls 1 9) fun a29 H29=>?_;refine H29.ld 1 (O.lb 1 10) fun a31 H31=>?_;refine H31.ld 1 (O.ls 1 11) fun a33 H33=>?_;refine H33.ld 0 (O.lb 1 12) fun a34 H34=>?_;obtain⟨m',hm'⟩:∃m',m'={ N6 m.kind with client:=m.client,clean:=m.clean,keep:=m.keep,won:=m.won,wt:=m.wt,wp:=m.wp,wq:=m.wq,wr:=m.wr,user:=m.user,hu:=m.hu,pass:=m.pass,hp:=m.hp }:=⟨_,rfl⟩;refine H34.any (w':=w3) gz rfl rfl (.agg (Z1 m' Z2 Z2 Z2).toArray) (by intro cs b h;cases h) (by kernel_rfl) (by rw[hm'];kernel_rfl) ?_;intro a35 H35;refine H35.st O 0 0 (hi:=size_mq) fun a36 w4 O4 H36=>nt ?_;refine H36.sg (fun w'=>X0 w g1 [(g2,Z1 m' Z2 Z2 Z2),(g1,Z1 m vc vw vf)] w') O4.drew [1,2] [ec 0 34 (.agg (Z1 m' Z2 Z2 Z2).toArray),ec 1 35 (.agg (Z1 m vc vw vf).toArray),eh 2 36 (.bool (E4 m))] rfl ?_;refine St.sto 3 ⟨jl fun _ h=>R1 (h.get 0 rfl),jl fun _ h=>R1 (h.get 1 rfl),kb fun w' h=>X0z m _ _ _ hF.client hF.wt hF.user w' (hW.below (hg1▸h.bel)),trivial⟩ (hF:=.inr fun _ _ h hb=>h.call hb) ?_;intro a wx H _ h;obtain⟨w',hr,hO⟩:=h.sto 0 (L:=Z1 m' Z2 Z2 Z2) rfl size_mq rfl rfl rfl;refine⟨w',Q6 rfl (H.ev rfl) (H.ev rfl) hr,nx0 (fun w'=>X0 w g1 [(g2,Z1 m' Z2 Z2 Z2),(g1,Z1 m vc vw vf)] w') [ec 4 3 (.bool (E4 m))] [] hO ?_⟩;refine St.fin ⟨jm,trivial⟩ (hF:=.inr fun _ _ h hb=>h.call hb) ?_;intro a wx H _ h;obtain⟨q1,q2,q3⟩:=hE a wx m' _ _ _ _ _ (H.keep ⟨rfl,rfl,trivial⟩) h (by rw[hm'];unfold Y3;rw[if_pos k1]) (by unfold N3;rw[if_pos k1]) (by subst hm';exact MqL.nil rfl rfl rfl);refine Z0 (wp_ret ?_);repeat with_reducible first |apply Z4 |apply Z5
  exact bodyPost_ret q1 q2 q3
 |false=>
 have n1:=S8 b1;refine H2.rg 0 fun a1 H1=>?_;refine H1.bn 1 (N8 _ _ _ _ _) fun a2 H2=>nt ?_;refine H2.cond (t:=m.kind==2) rfl ?_;cases b2:(m.kind==2) with
 |true=>
  have k2:m.kind=2:=by simpa using b2
  refine H2.ds O 0 [1,2] rfl [ec 0 39 (.pointer (some ⟨g1,13,none⟩)),ec 1 40 (.bool m.present),ec 2 41 (.pointer (some ⟨g1,14,none⟩)),ec 3 42 (iz m.code),ec 4 43 (.pointer (some ⟨g2,13,none⟩)),ec 6 44 (.pointer (some ⟨g2,14,none⟩))] [⟨7,14,[(iz m.code)]⟩,⟨5,13,[(.bool m.present)]⟩] rfl rfl ⟨jm,jl fun _ ⟨_,_,h⟩=>V0 _ _ _ _ ((h.get 1 rfl).get 13 _ rfl),jm,jl fun _ ⟨_,_,h⟩=>J9 _ _ _ _ ((h.get 1 rfl).get 14 _ rfl),jm,jm,trivial⟩ ⟨q1 fun _ u h f=>D6 _ _ _ u _ h f,q1 fun _ u h f=>B7 _ _ _ u _ h f,trivial⟩ ?_;intro a3 w4 H3 O4;refine Z0 ?_;obtain⟨m',hm'⟩:∃m',m'={ N6 m.kind with present:=m.present,code:=m.code }:=⟨_,rfl⟩;have O5:X0 w g1 [(g2,Z1 m' Z2 Z2 Z2),(g1,Z1 m vc vw vf)] w4:=by subst hm';exact O4
  obtain⟨i5,hi5⟩:∃i,V6 m.code 0 5=i:=⟨_,rfl⟩;obtain⟨p,hp⟩:∃p,m.present=p:=⟨_,rfl⟩;obtain⟨z,hz⟩:∃z,(m.code==0)=z:=⟨_,rfl⟩;refine H3.sg (fun w'=>X0 w g1 [(g2,Z1 m' Z2 Z2 Z2),(g1,Z1 m vc vw vf)] w') O5.drew [1,2] [ec 0 45 (.agg (Z1 m' Z2 Z2 Z2).toArray),ec 1 46 (.pointer (some ⟨g1,14,none⟩)),ec 2 47 (iz m.code),ec 3 48 (.bool i5),ec 4 49 (.bool i5),ec 5 50 (gv i5 (.pointer (some ⟨g1,13,none⟩))),ec 6 51 (gv i5 (.bool p)),ec 7 52 (gv i5 (.bool !p)),ec 8 53 (gv i5 (.bool !p)),ec 9 54 (gv (i5&&p) (.pointer (some ⟨g1,14,none⟩))),ec 10 55 (gv (i5&&p) (iz m.code)),ec 11 56 (gv (i5&&p) (.bool z)),ec 12 57 (gv i5 (.bool (!p||z))),ec 13 58 (.bool (i5&&(!p||z)))] rfl ?_;refine St.sto 14 ⟨jl fun _ h=>R1 (h.get 0 rfl),jm,jl fun _ h=>J9 _ _ _ _ ((h.get 1 rfl).get 14 _ rfl),jq fun w' _=>hi5▸P7 m.code 0 5 w',jm,(by cases i5;exact jo;exact jm),(by cases i5;exact jo;exact jl fun _ h=>V0 _ _ _ _ (hp▸(h.get 1 rfl).get 13 _ rfl)),(by cases i5;exact jo;exact ju (hq:=G5 p)),(by cases i5;exact jo;exact jm),(by cases i5;exact jo;cases p;exact jo;exact jm),(by cases i5;exact jo;cases p;exact jo;exact jl fun _ h=>J9 _ _ _ _ ((h.get 1 rfl).get 14 _ rfl)),(by cases i5;exact jo;cases p;exact jo;exact jb fun _=>Z7 _ _ _ hz _ _ _),(by cases i5;exact jo;cases p<;>exact jp),(by cases i5<;>exact jp),trivial⟩ (hF:=.inr fun _ _ h hb=>h.call hb) ?_;intro a wx H _ h;obtain⟨w',hr,hO⟩:=h.sto 0 (L:=Z1 m' Z2 Z2 Z2) rfl size_mq rfl rfl rfl;refine⟨w',Q6 rfl (H.ev rfl) (H.ev rfl) hr,nx0 (fun w'=>X0 w g1 [(g2,Z1 m' Z2 Z2 Z2),(g1,Z1 m vc vw vf)] w') [ec 15 3 (.bool (i5&&(!p||z)))] [] hO ?_⟩;refine St.fin ⟨jm,(by cases i5;exact jo;cases p;exact jo;exact jm),(by cases i5;exact jo;cases p;exact jo;exact jl fun _ h=>J9 _ _ _ _ ((h.get 1 rfl).get 14 _ rfl)),(by cases i5;exact jo;cases p;exact jo;exact jb fun _=>Z7 _ _ _ hz _ _ _),(by cases i5;exact jo;cases p<;>exact jp),(by cases i5<;>exact jp),trivial⟩ (hF:=.inr fun _ _ h hb=>h.call hb) ?_;intro a wx H _ h;obtain⟨q1,q2,q3⟩:=hE a wx m' _ _ _ _ _ (H.keep ⟨rfl,rfl,trivial⟩) h (by rw[hm'];unfold Y3;rw[if_neg n1,if_pos k2]) (by unfold N3;rw[if_neg n1,if_pos k2,hi5,hp,hz]) (by subst hm';exact MqL.nil rfl rfl rfl);refine Z0 (wp_ret ?_);repeat with_reducible first |apply Z4 |apply Z5
  exact bodyPost_ret q1 q2 q3
 |false=>
 have n2:=S8 b2;refine H2.rg 0 fun a1 H1=>?_;refine H1.bn 1 (N8 _ _ _ _ _) fun a2 H2=>nt ?_;refine H2.cond (t:=m.kind==3) rfl ?_;cases b3:(m.kind==3) with
 |true=>
  have k3:m.kind=3:=by simpa using b3
  refine H2.ds O 0 [1,2] rfl [ec 0 61 (.pointer (some ⟨g1,19,none⟩)),ec 1 62 (.string m.topic),ec 2 63 (.pointer (some ⟨g1,17,none⟩)),ec 3 64 (iz m.qos),ec 4 65 (.pointer (some ⟨g1,16,none⟩)),ec 5 66 (.bool m.dup),ec 6 67 (.pointer (some ⟨g1,18,none⟩)),ec 7 68 (.bool m.retain),ec 8 69 (.pointer (some ⟨g1,20,none⟩)),ec 9 70 (iz m.id),ec 10 71 (.pointer (some ⟨g1,21,none⟩)),ec 11 72 (.string m.payload),ec 12 73 (.pointer (some ⟨g2,19,none⟩)),ec 14 74 (.pointer (some ⟨g2,17,none⟩)),ec 16 75 (.pointer (some ⟨g2,16,none⟩)),ec 18 76 (.pointer (some ⟨g2,18,none⟩)),ec 20 77 (.pointer (some ⟨g2,20,none⟩)),ec 22 78 (.pointer (some ⟨g2,21,none⟩))] [⟨23,21,[(.string m.payload)]⟩,⟨21,20,[(iz m.id)]⟩,⟨19,18,[(.bool m.retain)]⟩,⟨17,16,[(.bool m.dup)]⟩,⟨15,17,[(iz m.qos)]⟩,⟨13,19,[(.string m.topic)]⟩] rfl rfl ⟨jm,jl fun _ ⟨_,_,h⟩=>G1 _ _ _ _ ((h.get 1 rfl).get 19 _ rfl),jm,jl fun _ ⟨_,_,h⟩=>J9 _ _ _ _ ((h.get 1 rfl).get 17 _ rfl),jm,jl fun _ ⟨_,_,h⟩=>V0 _ _ _ _ ((h.get 1 rfl).get 16 _ rfl),jm,jl fun _ ⟨_,_,h⟩=>V0 _ _ _ _ ((h.get 1 rfl).get 18 _ rfl),jm,jl fun _ ⟨_,_,h⟩=>J9 _ _ _ _ ((h.get 1 rfl).get 20 _ rfl),jm,jl fun _ ⟨_,_,h⟩=>G1 _ _ _ _ ((h.get 1 rfl).get 21 _ rfl),jm,jm,jm,jm,jm,jm,trivial⟩ ⟨q1 fun _ u h f=>Z4a _ _ _ u _ h f,q1 fun _ u h f=>D6 _ _ _ u _ h f,q1 fun _ u h f=>B7 _ _ _ u _ h f,q1 fun _ u h f=>B7 _ _ _ u _ h f,q1 fun _ u h f=>D6 _ _ _ u _ h f,q1 fun _ u h f=>Z4a _ _ _ u _ h f,trivial⟩ ?_;intro a3 w4 H3 O4;refine Z0 ?_;obtain⟨m',hm'⟩:∃m',m'={ N6 m.kind with topic:=m.topic,qos:=m.qos,dup:=m.dup,retain:=m.retain,id:=m.id,payload:=m.payload }:=⟨_,rfl⟩;have O5:X0 w g1 [(g2,Z1 m' Z2 Z2 Z2),(g1,Z1 m vc vw vf)] w4:=by subst hm';exact O4
  refine H3.sg (fun w'=>X0 w g1 [(g2,Z1 m' Z2 Z2 Z2),(g1,Z1 m vc vw vf)] w') O5.drew [1,2] [ec 0 79 (.agg (Z1 m' Z2 Z2 Z2).toArray),ec 1 80 (.agg (Z1 m vc vw vf).toArray),eh 2 81 (.bool (K9 m))] rfl ?_;refine St.sto 3 ⟨jl fun _ h=>R1 (h.get 0 rfl),jl fun _ h=>R1 (h.get 1 rfl),kb fun w' h=>X1a m _ _ _ hF.topic w' (hW.below (hg1▸h.bel)),trivial⟩ (hF:=.inr fun _ _ h hb=>h.call hb) ?_;intro a wx H _ h;obtain⟨w',hr,hO⟩:=h.sto 0 (L:=Z1 m' Z2 Z2 Z2) rfl size_mq rfl rfl rfl;refine⟨w',Q6 rfl (H.ev rfl) (H.ev rfl) hr,nx0 (fun w'=>X0 w g1 [(g2,Z1 m' Z2 Z2 Z2),(g1,Z1 m vc vw vf)] w') [ec 4 3 (.bool (K9 m))] [] hO ?_⟩;refine St.fin ⟨jm,trivial⟩ (hF:=.inr fun _ _ h hb=>h.call hb) ?_;intro a wx H _ h;obtain⟨q1,q2,q3⟩:=hE a wx m' _ _ _ _ _ (H.keep ⟨rfl,rfl,trivial⟩) h (by rw[hm'];unfold Y3;rw[if_neg n1,if_neg n2,if_pos k3]) (by unfold N3;rw[if_neg n1,if_neg n2,if_pos k3]) (by subst hm';exact MqL.nil rfl rfl rfl);refine Z0 (wp_ret ?_);repeat with_reducible first |apply Z4 |apply Z5
  exact bodyPost_ret q1 q2 q3
 |false=>
 have n3:=S8 b3;refine Z8 (fun a w'=>Z9 a 144 [(1,pz g1),(2,pz g2),(4, .bool i),(12,iz m.kind),(82, .bool (Q8 m.kind))]∧w3=w') ?_ ?_
 ·refine H2.rg 0 fun a1 H1=>?_
  refine H1.bn 1 (N8 _ _ _ _ _) fun a2 H2=>nt ?_;refine H2.cond (t:=m.kind==4) rfl ?_;cases c4:(m.kind==4) with
  |true=>exact Z3 (Z0 ⟨H2.keep ⟨rfl,rfl,rfl,rfl,congrArg (fun b=>some (Value.bool b)) (show (m.kind==4)=Q8 m.kind by unfold Q8;rw[c4];rfl),trivial⟩,rfl⟩)
  |false=>
  refine H2.rg 0 fun a1 H1=>?_;refine H1.bn 1 (N8 _ _ _ _ _) fun a2 H2=>nt ?_;refine H2.cond (t:=m.kind==5) rfl ?_;cases c5:(m.kind==5) with
  |true=>exact Z3 (Z0 ⟨H2.keep ⟨rfl,rfl,rfl,rfl,congrArg (fun b=>some (Value.bool b)) (show (m.kind==5)=Q8 m.kind by unfold Q8;rw[c4,c5];rfl),trivial⟩,rfl⟩)
  |false=>
  refine H2.rg 0 fun a1 H1=>?_;refine H1.bn 1 (N8 _ _ _ _ _) fun a2 H2=>nt ?_;refine H2.cond (t:=m.kind==6) rfl ?_;cases c6:(m.kind==6) with
  |true=>exact Z3 (Z0 ⟨H2.keep ⟨rfl,rfl,rfl,rfl,congrArg (fun b=>some (Value.bool b)) (show (m.kind==6)=Q8 m.kind by unfold Q8;rw[c4,c5,c6];rfl),trivial⟩,rfl⟩)
  |false=>
  refine H2.rg 0 fun a1 H1=>?_;refine H1.bn 1 (N8 _ _ _ _ _) fun a2 H2=>nt ?_;refine H2.cond (t:=m.kind==7) rfl ?_;cases c7:(m.kind==7) with
  |true=>exact Z3 (Z0 ⟨H2.keep ⟨rfl,rfl,rfl,rfl,congrArg (fun b=>some (Value.bool b)) (show (m.kind==7)=Q8 m.kind by unfold Q8;rw[c4,c5,c6,c7];rfl),trivial⟩,rfl⟩)
  |false=>
  refine H2.rg 0 fun a1 H1=>?_;refine H1.bn 1 (N8 _ _ _ _ _) fun a2 H2=>nt ?_;exact⟨H2.keep ⟨rfl,rfl,rfl,rfl,congrArg (fun b=>some (Value.bool b)) (by unfold Q8;rw[c4,c5,c6,c7];rfl),trivial⟩,rfl⟩
 rintro a0 _ ⟨H0,rfl⟩;clear H1 H2;refine H0.cond (t:=Q8 m.kind) rfl ?_;cases bi:Q8 m.kind with
 |true=>
  refine H0.rg 1 fun a1 H1=>?_;refine H1.ld 1 (O.li 1 20) fun a2 H2=>?_;refine H2.sc O 0 0 (fun u h f=>D6 _ _ _ u _ h f) fun a3 w4 O4 H3=>nt ?_;obtain⟨m',hm'⟩:∃m',m'={ N6 m.kind with id:=m.id }:=⟨_,rfl⟩;have O5:X0 w g1 [(g2,Z1 m' Z2 Z2 Z2),(g1,Z1 m vc vw vf)] w4:=by subst hm';exact O4
  refine rl ?_;refine H3.lm O5 0 1 fun a4 H4=>?_;refine H4.st O5 0 1 (hi:=size_mq) fun a5 w5 O6 H5=>nt ?_;obtain⟨q1,q2,q3⟩:=hE a5 w5 m' _ _ _ _ _ (H5.keep ⟨rfl,rfl,trivial⟩) O6 (by rw[hm'];unfold Y3;rw[if_neg n1,if_neg n2,if_neg n3,if_pos bi]) (by unfold N3;rw[if_neg n1,if_neg n2,if_neg n3,if_pos bi,hi]) (by subst hm';exact MqL.nil rfl rfl rfl);refine wp_ret ?_;repeat with_reducible first |apply Z4 |apply Z5
  exact bodyPost_ret q1 q2 q3
 |false=>
 have ni:¬Q8 m.kind=true:=by rw[bi];decide
 refine H0.rg 0 fun a1 H1=>?_;refine H1.bn 1 (N8 _ _ _ _ _) fun a2 H2=>nt ?_;refine H2.cond (t:=m.kind==8) rfl ?_;cases b8:(m.kind==8) with
 |true=>
  have k8:m.kind=8:=by simpa using b8
  obtain⟨A1,c1,A2,c2,A3,c3,rfl,rfl,rfl,l1,l2,l3,k1',k2',k3',r1,r2,r3⟩:=id hL;refine H2.ds O 0 [1,2,4] rfl [ec 0 95 (.pointer (some ⟨g1,20,none⟩)),ec 1 96 (iz m.id),ec 2 97 (.pointer (some ⟨g1,22,none⟩)),ec 3 98 (.slice A2 m.wishes.length c2),ec 4 99 (.pointer (some ⟨g2,20,none⟩)),ec 6 100 (.pointer (some ⟨g2,22,none⟩))] [⟨7,22,[(.slice A2 m.wishes.length c2)]⟩,⟨5,20,[(iz m.id)]⟩] rfl rfl ⟨jm,jl fun _ ⟨_,_,h⟩=>J9 _ _ _ _ ((h.get 1 rfl).get 20 _ rfl),jm,jl fun _ ⟨_,_,h⟩=>Z0o _ _ _ _ _ _ ((h.get 1 rfl).get 22 _ rfl),jm,jm,trivial⟩ ⟨q1 fun _ u h f=>Y2y _ _ _ _ _ u _ h f,q1 fun _ u h f=>D6 _ _ _ u _ h f,trivial⟩ ?_;intro a3 w4 H3 O4;refine Z0 ?_;obtain⟨m',hm'⟩:∃m',m'={ N6 m.kind with id:=m.id,wishes:=m.wishes }:=⟨_,rfl⟩;have O5:X0 w g1 [(g2,Z1 m' Z2 (.slice A2 m.wishes.length c2) Z2),(g1,Z1 m (.slice A1 m.codes.length c1) (.slice A2 m.wishes.length c2) (.slice A3 m.filters.length c3))] w4:=by subst hm';exact O4
  refine H3.sg (fun w'=>X0 w g1 [(g2,Z1 m' Z2 (.slice A2 m.wishes.length c2) Z2),(g1,Z1 m (.slice A1 m.codes.length c1) (.slice A2 m.wishes.length c2) (.slice A3 m.filters.length c3))] w') O5.drew [1,2,4] [ec 0 101 (.agg (Z1 m' Z2 (.slice A2 m.wishes.length c2) Z2).toArray),ec 1 102 (.bool i),ec 2 103 (.bool i),ec 3 104 (gv i (.pointer (some ⟨g1,22,none⟩))),ec 4 105 (gv i (.slice A2 m.wishes.length c2)),eh 5 106 (gv i (.bool (E8 m.wishes))),ec 6 107 (.bool (i&&E8 m.wishes))] rfl ?_;refine St.sto 7 ⟨jl fun _ h=>R1 (h.get 0 rfl),jm,jm,(by cases i;exact jo;exact jm),(by cases i;exact jo;exact jl fun _ h=>Z0o _ _ _ _ _ _ ((h.get 1 rfl).get 22 _ rfl)),(by cases i;exact ko;exact kb fun w' h=>X6g m.wishes _ rfl hF.wishes A2 c2 k2' w' (hW.below (hg1▸h.bel)) (r2.next (hg1▸h.bel))),(by cases i<;>exact jp),trivial⟩ (hF:=.inr fun _ _ h hb=>h.call hb) ?_;intro a wx H _ h;obtain⟨w',hr,hO⟩:=h.sto 0 (L:=Z1 m' Z2 (.slice A2 m.wishes.length c2) Z2) rfl size_mq rfl rfl rfl;refine⟨w',Q6 rfl (H.ev rfl) (H.ev rfl) hr,nx0 (fun w'=>X0 w g1 [(g2,Z1 m' Z2 (.slice A2 m.wishes.length c2) Z2),(g1,Z1 m (.slice A1 m.codes.length c1) (.slice A2 m.wishes.length c2) (.slice A3 m.filters.length c3))] w') [ec 8 3 (.bool (i&&E8 m.wishes))] [] hO ?_⟩;refine St.fin ⟨jm,(by cases i<;>exact jp),trivial⟩ (hF:=.inr fun _ _ h hb=>h.call hb) ?_;intro a wx H _ h;obtain⟨q1,q2,q3⟩:=hE a wx m' _ _ _ _ _ (H.keep ⟨rfl,rfl,trivial⟩) h (by rw[hm'];unfold Y3;rw[if_neg n1,if_neg n2,if_neg n3,if_neg ni,if_pos k8]) (by unfold N3;rw[if_neg n1,if_neg n2,if_neg n3,if_neg ni,if_pos k8,hi]) (by subst hm';exact(hL.next (hg1▸h.bel)).onlyW rfl rfl rfl);refine Z0 (wp_ret ?_);repeat with_reducible first |apply Z4 |apply Z5
  exact bodyPost_ret q1 q2 q3
 |false=>
 have n8:=S8 b8;replace H0:=H2;clear H1 H2;refine H0.rg 0 fun a1 H1=>?_;refine H1.bn 1 (N8 _ _ _ _ _) fun a2 H2=>nt ?_;refine H2.cond (t:=m.kind==9) rfl ?_;cases b9:(m.kind==9) with
 |true=>
  have k9:m.kind=9:=by simpa using b9
  obtain⟨A1,c1,A2,c2,A3,c3,rfl,rfl,rfl,l1,l2,l3,k1',k2',k3',r1,r2,r3⟩:=id hL;refine H2.ds O 0 [1,2,4] rfl [ec 0 110 (.pointer (some ⟨g1,20,none⟩)),ec 1 111 (iz m.id),ec 2 112 (.pointer (some ⟨g1,15,none⟩)),ec 3 113 (.slice A1 m.codes.length c1),ec 4 114 (.pointer (some ⟨g2,20,none⟩)),ec 6 115 (.pointer (some ⟨g2,15,none⟩))] [⟨7,15,[(.slice A1 m.codes.length c1)]⟩,⟨5,20,[(iz m.id)]⟩] rfl rfl ⟨jm,jl fun _ ⟨_,_,h⟩=>J9 _ _ _ _ ((h.get 1 rfl).get 20 _ rfl),jm,jl fun _ ⟨_,_,h⟩=>D7 _ _ _ _ _ _ ((h.get 1 rfl).get 15 _ rfl),jm,jm,trivial⟩ ⟨q1 fun _ u h f=>Y2x _ _ _ _ _ u _ h f,q1 fun _ u h f=>D6 _ _ _ u _ h f,trivial⟩ ?_;intro a3 w4 H3 O4;refine Z0 ?_;obtain⟨m',hm'⟩:∃m',m'={ N6 m.kind with id:=m.id,codes:=m.codes }:=⟨_,rfl⟩;have O5:X0 w g1 [(g2,Z1 m' (.slice A1 m.codes.length c1) Z2 Z2),(g1,Z1 m (.slice A1 m.codes.length c1) (.slice A2 m.wishes.length c2) (.slice A3 m.filters.length c3))] w4:=by subst hm';exact O4
  refine H3.sg (fun w'=>X0 w g1 [(g2,Z1 m' (.slice A1 m.codes.length c1) Z2 Z2),(g1,Z1 m (.slice A1 m.codes.length c1) (.slice A2 m.wishes.length c2) (.slice A3 m.filters.length c3))] w') O5.drew [1,2,4] [ec 0 116 (.agg (Z1 m' (.slice A1 m.codes.length c1) Z2 Z2).toArray),ec 1 117 (.bool i),ec 2 118 (.bool i),ec 3 119 (gv i (.pointer (some ⟨g1,15,none⟩))),ec 4 120 (gv i (.slice A1 m.codes.length c1)),eh 5 121 (gv i (.bool (C3 m.codes))),ec 6 122 (.bool (i&&C3 m.codes))] rfl ?_;refine St.sto 7 ⟨jl fun _ h=>R1 (h.get 0 rfl),jm,jm,(by cases i;exact jo;exact jm),(by cases i;exact jo;exact jl fun _ h=>D7 _ _ _ _ _ _ ((h.get 1 rfl).get 15 _ rfl)),(by cases i;exact ko;exact kb fun w' h=>(J1h m.codes _ rfl A1 c1 k1' w' (r1.next (hg1▸h.bel))).mono fun _ _ h=>⟨h.1,h.2▸Below.refl _ _⟩),(by cases i<;>exact jp),trivial⟩ (hF:=.inr fun _ _ h hb=>h.call hb) ?_;intro a wx H _ h;obtain⟨w',hr,hO⟩:=h.sto 0 (L:=Z1 m' (.slice A1 m.codes.length c1) Z2 Z2) rfl size_mq rfl rfl rfl;refine⟨w',Q6 rfl (H.ev rfl) (H.ev rfl) hr,nx0 (fun w'=>X0 w g1 [(g2,Z1 m' (.slice A1 m.codes.length c1) Z2 Z2),(g1,Z1 m (.slice A1 m.codes.length c1) (.slice A2 m.wishes.length c2) (.slice A3 m.filters.length c3))] w') [ec 8 3 (.bool (i&&C3 m.codes))] [] hO ?_⟩;refine St.fin ⟨jm,(by cases i<;>exact jp),trivial⟩ (hF:=.inr fun _ _ h hb=>h.call hb) ?_;intro a wx H _ h;obtain⟨q1,q2,q3⟩:=hE a wx m' _ _ _ _ _ (H.keep ⟨rfl,rfl,trivial⟩) h (by rw[hm'];unfold Y3;rw[if_neg n1,if_neg n2,if_neg n3,if_neg ni,if_neg n8,if_pos k9]) (by unfold N3;rw[if_neg n1,if_neg n2,if_neg n3,if_neg ni,if_neg n8,if_pos k9,hi]) (by subst hm';exact(hL.next (hg1▸h.bel)).onlyC rfl rfl rfl);refine Z0 (wp_ret ?_);repeat with_reducible first |apply Z4 |apply Z5
  exact bodyPost_ret q1 q2 q3
 |false=>
 have n9:=S8 b9;replace H0:=H2;clear H1 H2;refine H0.rg 0 fun a1 H1=>?_;refine H1.bn 1 (N8 _ _ _ _ _) fun a2 H2=>nt ?_;refine H2.cond (t:=m.kind==10) rfl ?_;cases b10:(m.kind==10) with
 |true=>
  have k10:m.kind=10:=by simpa using b10
  obtain⟨A1,c1,A2,c2,A3,c3,rfl,rfl,rfl,l1,l2,l3,k1',k2',k3',r1,r2,r3⟩:=id hL;refine H2.ds O 0 [1,2,4] rfl [ec 0 125 (.pointer (some ⟨g1,20,none⟩)),ec 1 126 (iz m.id),ec 2 127 (.pointer (some ⟨g1,23,none⟩)),ec 3 128 (.slice A3 m.filters.length c3),ec 4 129 (.pointer (some ⟨g2,20,none⟩)),ec 6 130 (.pointer (some ⟨g2,23,none⟩))] [⟨7,23,[(.slice A3 m.filters.length c3)]⟩,⟨5,20,[(iz m.id)]⟩] rfl rfl ⟨jm,jl fun _ ⟨_,_,h⟩=>J9 _ _ _ _ ((h.get 1 rfl).get 20 _ rfl),jm,jl fun _ ⟨_,_,h⟩=>S6 _ _ _ _ _ _ ((h.get 1 rfl).get 23 _ rfl),jm,jm,trivial⟩ ⟨q1 fun _ u h f=>Y2z _ _ _ _ _ u _ h f,q1 fun _ u h f=>D6 _ _ _ u _ h f,trivial⟩ ?_;intro a3 w4 H3 O4;refine Z0 ?_;obtain⟨m',hm'⟩:∃m',m'={ N6 m.kind with id:=m.id,filters:=m.filters }:=⟨_,rfl⟩;have O5:X0 w g1 [(g2,Z1 m' Z2 Z2 (.slice A3 m.filters.length c3)),(g1,Z1 m (.slice A1 m.codes.length c1) (.slice A2 m.wishes.length c2) (.slice A3 m.filters.length c3))] w4:=by subst hm';exact O4
  refine H3.sg (fun w'=>X0 w g1 [(g2,Z1 m' Z2 Z2 (.slice A3 m.filters.length c3)),(g1,Z1 m (.slice A1 m.codes.length c1) (.slice A2 m.wishes.length c2) (.slice A3 m.filters.length c3))] w') O5.drew [1,2,4] [ec 0 131 (.agg (Z1 m' Z2 Z2 (.slice A3 m.filters.length c3)).toArray),ec 1 132 (.bool i),ec 2 133 (.bool i),ec 3 134 (gv i (.pointer (some ⟨g1,23,none⟩))),ec 4 135 (gv i (.slice A3 m.filters.length c3)),eh 5 136 (gv i (.bool (M0 m.filters))),ec 6 137 (.bool (i&&M0 m.filters))] rfl ?_;refine St.sto 7 ⟨jl fun _ h=>R1 (h.get 0 rfl),jm,jm,(by cases i;exact jo;exact jm),(by cases i;exact jo;exact jl fun _ h=>S6 _ _ _ _ _ _ ((h.get 1 rfl).get 23 _ rfl)),(by cases i;exact ko;exact kb fun w' h=>X3t m.filters _ rfl hF.filters A3 c3 k3' w' (hW.below (hg1▸h.bel)) (r3.next (hg1▸h.bel))),(by cases i<;>exact jp),trivial⟩ (hF:=.inr fun _ _ h hb=>h.call hb) ?_;intro a wx H _ h;obtain⟨w',hr,hO⟩:=h.sto 0 (L:=Z1 m' Z2 Z2 (.slice A3 m.filters.length c3)) rfl size_mq rfl rfl rfl;refine⟨w',Q6 rfl (H.ev rfl) (H.ev rfl) hr,nx0 (fun w'=>X0 w g1 [(g2,Z1 m' Z2 Z2 (.slice A3 m.filters.length c3)),(g1,Z1 m (.slice A1 m.codes.length c1) (.slice A2 m.wishes.length c2) (.slice A3 m.filters.length c3))] w') [ec 8 3 (.bool (i&&M0 m.filters))] [] hO ?_⟩;refine St.fin ⟨jm,(by cases i<;>exact jp),trivial⟩ (hF:=.inr fun _ _ h hb=>h.call hb) ?_;intro a wx H _ h;obtain⟨q1,q2,q3⟩:=hE a wx m' _ _ _ _ _ (H.keep ⟨rfl,rfl,trivial⟩) h (by rw[hm'];unfold Y3;rw[if_neg n1,if_neg n2,if_neg n3,if_neg ni,if_neg n8,if_neg n9,if_pos k10]) (by unfold N3;rw[if_neg n1,if_neg n2,if_neg n3,if_neg ni,if_neg n8,if_neg n9,if_pos k10,hi]) (by subst hm';exact(hL.next (hg1▸h.bel)).onlyF rfl rfl rfl);refine Z0 (wp_ret ?_);repeat with_reducible first |apply Z4 |apply Z5
  exact bodyPost_ret q1 q2 q3
 |false=>
 have n10:=S8 b10;replace H0:=H2;clear H1 H2;refine Z8 (fun a w'=>Z9 a 144 [(1,pz g1),(2,pz g2),(138, .bool (J3 m.kind))]∧w3=w') ?_ ?_
 ·refine H0.rg 0 fun a1 H1=>?_
  refine H1.bn 1 (N8 _ _ _ _ _) fun a2 H2=>nt ?_;refine H2.cond (t:=m.kind==12) rfl ?_;cases c12:(m.kind==12) with
  |true=>exact Z3 (Z0 ⟨H2.keep ⟨rfl,rfl,congrArg (fun b=>some (Value.bool b)) (show (m.kind==12)=J3 m.kind by unfold J3;rw[c12];rfl),trivial⟩,rfl⟩)
  |false=>
  refine H2.rg 0 fun a1 H1=>?_;refine H1.bn 1 (N8 _ _ _ _ _) fun a2 H2=>nt ?_;refine H2.cond (t:=m.kind==13) rfl ?_;cases c13:(m.kind==13) with
  |true=>exact Z3 (Z0 ⟨H2.keep ⟨rfl,rfl,congrArg (fun b=>some (Value.bool b)) (show (m.kind==13)=J3 m.kind by unfold J3;rw[c12,c13];rfl),trivial⟩,rfl⟩)
  |false=>
  refine H2.rg 0 fun a1 H1=>?_;refine H1.bn 1 (N8 _ _ _ _ _) fun a2 H2=>nt ?_;exact⟨H2.keep ⟨rfl,rfl,congrArg (fun b=>some (Value.bool b)) (by unfold J3;rw[c12,c13];rfl),trivial⟩,rfl⟩
 rintro a0 _ ⟨H0,rfl⟩;obtain⟨m',hm'⟩:∃m',m'=N6 m.kind:=⟨_,rfl⟩;have O5:X0 w g1 [(g2,Z1 m' Z2 Z2 Z2),(g1,Z1 m vc vw vf)] w3:=by subst hm';exact O
 refine H0.cond (t:=J3 m.kind) rfl ?_;cases bb:J3 m.kind with
 |true=>
  refine rl ?_;refine H0.lm O5 0 0 fun a4 H4=>?_;refine H4.st O5 0 1 (hi:=size_mq) fun a5 w5 O6 H5=>nt ?_;obtain⟨q1,q2,q3⟩:=hE a5 w5 m' _ _ _ _ _ (H5.keep ⟨rfl,rfl,trivial⟩) O6 (by rw[hm'];unfold Y3;rw[if_neg n1,if_neg n2,if_neg n3,if_neg ni,if_neg n8,if_neg n9,if_neg n10]) (by unfold N3;rw[if_neg n1,if_neg n2,if_neg n3,if_neg ni,if_neg n8,if_neg n9,if_neg n10,bb]) (by subst hm';exact MqL.nil rfl rfl rfl);refine wp_ret ?_;repeat with_reducible first |apply Z4 |apply Z5
  exact bodyPost_ret q1 q2 q3
 |false=>
  refine Z3 (Z6 (Z0 ?_));refine rl ?_;refine H0.lm O5 0 0 fun a4 H4=>?_;refine H4.st O5 0 1 (hi:=size_mq) fun a5 w5 O6 H5=>nt ?_;obtain⟨q1,q2,q3⟩:=hE a5 w5 m' _ _ _ _ _ (H5.keep ⟨rfl,rfl,trivial⟩) O6 (by rw[hm'];unfold Y3;rw[if_neg n1,if_neg n2,if_neg n3,if_neg ni,if_neg n8,if_neg n9,if_neg n10]) (by unfold N3;rw[if_neg n1,if_neg n2,if_neg n3,if_neg ni,if_neg n8,if_neg n9,if_neg n10,bb]) (by subst hm';exact MqL.nil rfl rfl rfl);refine wp_ret ?_;repeat with_reducible first |apply Z4 |apply Z5
  exact bodyPost_ret q1 q2 q3
end
section
open Go.RowKit
def Z4f (m:Mq):Bool:=N3 m&&Mq.same m (Y3 m)
theorem Z7o (m:Mq):Z4f m=true↔Z4b m:=by
 unfold Z4f Z4b;rw[Bool.and_eq_true,Y1u]
theorem onlyC (m:Mq) (vc vw vf:Value) (w:World) (b:Bool) (hb:N3 m=b) (hL:MqL w w.heap.size m vc vw vf) (hF:Y6r m) (hW:Wd w):
  Calls Tryz.prog 131 #[.agg (Z1 m vc vw vf).toArray] w fun e w'=>∃v,e = .returned v∧(∃vc' vw' vf',v = .tuple #[.agg (Z1 (Y3 m) vc' vw' vf').toArray, .bool b]∧MqL w' w'.heap.size (Y3 m) vc' vw' vf'∧Below w.heap.size w w'):=by
 subst hb;refine(J5z m vc vw vf w hL hF hW).mono ?_;rintro e w' ⟨vc',vw',vf',rfl,hM,hB⟩;exact⟨_,rfl,vc',vw',vf',rfl,hM,hB⟩
theorem J6a (m:Mq) (vc vw vf:Value) (w:World) (hL:MqL w w.heap.size m vc vw vf) (hF:Y6r m) (hW:Wd w) (hb0:N3 m=true):
  Calls Tryz.prog 108 #[.agg (Z1 m vc vw vf).toArray] w fun e w'=>e = .returned (.bool (Z4f m))∧Below w.heap.size w w':=by
 have hm:Z4f m=Mq.same m (Y3 m):=by unfold Z4f;rw[hb0];rfl
 go_enter Tryz.func108,Tryz.ntmps108
 refine Z9.start 16 [(0, .agg (Z1 m vc vw vf).toArray)] rfl rfl ⟨rfl,trivial⟩ ?_;intro a0 H0;have O0:=X0.start w;refine rl ?_;refine H0.bx O0 1 fun a2 w1 O1 H2=>nt ?_;refine rl ?_;refine H2.lm O1 0 0 fun a3 H3=>?_;refine H3.cl (onlyC m _ _ _ _ true hb0 (hL.next O1.bel) hF (hW.below O1.bel)) ?_;rintro a4 _ w2 ⟨vc',vw',vf',rfl,hM,hb⟩ H4;have O2:=O1.call hb;clear hb;refine H4.ms 1 fun a5 H5=>?_;refine H5.ex 0 fun a6 H6=>?_;refine H6.ex 0 fun a7 H7=>?_;have hM1:=hM;refine H7.alloc rfl rfl rfl rfl _ Z0v ?_;intro a8 w3 hb hs hC H8;have O3:=O2.alloc hb hs hC;have hbA:=hb;clear hb hs hC;obtain⟨_,_,_,_,_,_,e1,e2,e3,_⟩:=id hM;refine H8.storeS rfl rfl rfl rfl rfl (O3.get 0 rfl) size_mq rfl rfl (by subst e1 e2 e3;rfl) ?_;intro a9 w4 H9 hg hs hC;have O4:=O3.store 0 rfl hg hs hC;have hgA:=hg;clear hg hs hC;have hbm:=hbA.grown hgA hbA.size (fun k hk=>by injection hk with hk;rw[←hk];exact Nat.le_refl _);refine H9.ms 1 fun a10 H10=>nt ?_;refine H10.rg 2 fun a12 H12=>?_;refine H12.go (H12.wt rfl rfl rfl) rfl rfl _ (Z5n rfl (H12.ev rfl) (R1 ((O4.get 1 rfl)))) ?_;intro a13 H13;refine H13.go (H13.wt rfl rfl rfl) rfl rfl _ (Z5n rfl (H13.ev rfl) (R1 ((O4.get 0 rfl)))) ?_;intro a14 H14;refine H14.call (H14.wt rfl rfl rfl) rfl rfl rfl rfl (fun _ _=>by kernel_rfl) (Z1f (J5t m (Y3 m) _ _ _ _ _ _ _ (hL.next O4.bel) (hM.next hbm))) ?_;rintro a15 _ w5 ⟨rfl,hb⟩ H15;have O5:=O4.call hb;clear hb;refine H15.pick gz rfl rfl rfl rfl rfl ?_;intro a16 H16;refine H16.ms 1 fun a17 H17=>nt ?_;refine wp_ret ?_;repeat with_reducible first |apply Z4 |apply Z5
 refine bodyPost_ret (results_tmp rfl _ _ _) H17.df ⟨?_,O5.bel⟩;rw[hm];exact congrArg Ending.returned (H17.at_ 2 _ rfl)
theorem J1o (m:Mq) (vc vw vf:Value) (w:World) (hL:MqL w w.heap.size m vc vw vf) (hF:Y6r m) (hW:Wd w) (hb0:N3 m=false):
  Calls Tryz.prog 108 #[.agg (Z1 m vc vw vf).toArray] w fun e w'=>e = .returned (.bool (Z4f m))∧Below w.heap.size w w':=by
 have hm:Z4f m=false:=by unfold Z4f;rw[hb0];rfl
 go_enter Tryz.func108,Tryz.ntmps108
 refine Z9.start 16 [(0, .agg (Z1 m vc vw vf).toArray)] rfl rfl ⟨rfl,trivial⟩ ?_;intro a0 H0;have O0:=X0.start w;refine rl ?_;refine H0.bx O0 1 fun a2 w1 O1 H2=>nt ?_;refine rl ?_;refine H2.lm O1 0 0 fun a3 H3=>?_;refine H3.cl (onlyC m _ _ _ _ false hb0 (hL.next O1.bel) hF (hW.below O1.bel)) ?_;rintro a4 _ w2 ⟨vc',vw',vf',rfl,hM,hb⟩ H4;have O2:=O1.call hb;clear hb;refine H4.ms 1 fun a5 H5=>?_;refine H5.ex 0 fun a6 H6=>?_;refine H6.ex 0 fun a7 H7=>?_;have hM1:=hM;refine H7.alloc rfl rfl rfl rfl _ Z0v ?_;intro a8 w3 hb hs hC H8;have O3:=O2.alloc hb hs hC;have hbA:=hb;clear hb hs hC;obtain⟨_,_,_,_,_,_,e1,e2,e3,_⟩:=id hM;refine H8.storeS rfl rfl rfl rfl rfl (O3.get 0 rfl) size_mq rfl rfl (by subst e1 e2 e3;rfl) ?_;intro a9 w4 H9 hg hs hC;have O4:=O3.store 0 rfl hg hs hC;have hgA:=hg;clear hg hs hC;have hbm:=hbA.grown hgA hbA.size (fun k hk=>by injection hk with hk;rw[←hk];exact Nat.le_refl _);refine H9.ms 1 fun a10 H10=>nt ?_;refine H10.rg 2 fun a12 H12=>?_;refine H12.off rfl rfl rfl rfl rfl ?_;intro a13 H13;refine H13.off rfl rfl rfl rfl rfl ?_;intro a14 H14;refine H14.off rfl rfl rfl rfl rfl ?_;intro a15 H15;refine H15.pick gz rfl rfl rfl rfl rfl ?_;intro a16 H16;refine H16.ms 1 fun a17 H17=>nt ?_;refine wp_ret ?_;repeat with_reducible first |apply Z4 |apply Z5
 refine bodyPost_ret (results_tmp rfl _ _ _) H17.df ⟨?_,O4.bel⟩;rw[hm];exact congrArg Ending.returned (H17.at_ 2 _ rfl)
theorem J9o (m:Mq) (vc vw vf:Value) (w:World) (hL:MqL w w.heap.size m vc vw vf) (hF:Y6r m) (hW:Wd w):
  Calls Tryz.prog 108 #[.agg (Z1 m vc vw vf).toArray] w fun e w'=>e = .returned (.bool (Z4f m))∧Below w.heap.size w w':=by
 cases hb:N3 m
 ·exact J1o m vc vw vf w hL hF hW hb
 ·exact J6a m vc vw vf w hL hF hW hb
end
section
open Go.RowKit
theorem Q5g (k f:Nat) (hf:f<16):(16*k|||f)=16*k+f:=(Nat.two_pow_add_eq_or_of_lt (i:=4) (by omega) k).symm
theorem Q7j (k:Int) (h0:0≤k) (h1:k≤14) (x y:Operand) (w:World):(do eqGuard .shl 3 x y (iz k) (.int .u64 4);binOp .shl 3 (iz k) (.int .u64 4):Sem Value).run Tryz.prog w = .ok (iz ((16*k.toNat:Nat):Int)) w:=by
 have e:IntKind.i64.wrap (k*16)=((16*k.toNat:Nat):Int):=by rw[IntWalk.i64_in _ (by omega)];omega
 simp[go_sem];rw[e];omega
theorem Q7k (n:Nat) (_h:n<16384) (x y:Operand) (w:World):(do eqGuard .shr 3 x y (iz n) (.int .u64 7);binOp .shr 3 (iz n) (.int .u64 7):Sem Value).run Tryz.prog w = .ok (iz ((n/128:Nat):Int)) w:=by
 simp[go_sem]
theorem J6b (x:Fin 256):bits .or .u8 (x.val:Int) 128=((x.val%128+128:Nat):Int):=by
 revert x
 decide
theorem Q5h (n:Nat) (x y:Operand) (w:World):(do eqGuard .or 5 x y (.int .u8 ((n:Int)%256)) (.int .u8 128);binOp .or 5 (.int .u8 ((n:Int)%256)) (.int .u8 128):Sem Value).run Tryz.prog w = .ok (.int .u8 ((n%128+128:Nat):Int)) w:=by
 have e:=J6b ⟨n%256,by omega⟩;have e2:(((⟨n%256,by omega⟩:Fin 256).val:Nat):Int)=(n:Int)%256:=by simp
 have e3:n%256%128=n%128:=by omega
 simp only[e3] at e;rw[←e];simp[go_sem]
theorem Y6u (n:Nat) (h:n<256):Value.int .u8 (n:Int)=bv (UInt8.ofNat n):=by
 unfold bv;rw[UInt8.toNat_ofNat',Nat.mod_eq_of_lt (by simpa using h)]
theorem Z9z (n:Nat) (h:128≤n):Z3g n=UInt8.ofNat (n%128+128)::Z3g (n/128):=by
 conv=>lhs;unfold Z3g
 rw[if_neg (by omega)]
theorem X4d (n:Nat):0<(Z3g n).length:=by
 unfold Z3g
 split<;>simp
theorem X9g (w:World) (b:Nat) (hb:b≤w.heap.size) (xs:List UInt8) (vs:List Value) (h:vs=xs.map bv) (k:Nat) (hk:xs.length=k) (hm:k≤1000):Y2 b xs (.slice (some ⟨w.heap.size,0,none⟩) k k) (w.alloc (.cells vs.toArray 5)):=by
 subst hk h;refine⟨_,_,rfl,by simp, .inr ⟨w.heap.size,xs.length,_,rfl,hb,heap_alloc_new w _,Nat.le_refl _, ?_,by simp, ?_⟩⟩
 ·unfold maxLen;omega
 ·rw[Nat.mul_one,List.take_of_length_le (by simp)]
theorem Z9.lit {P:Program}{ops:Array Oper}{rest:List Oper}{o:Oper}{a:Act}{w:World}{Q:Exit→Act→World→Prop}{n:Nat}{l:List (Nat×Value)}(H:Z9 a n l) (hw:Region.wanted o (yielded ops a.tmps)=true) {d k:Nat}(hd:o.dst=some d) (hn:Nat.blt d n=true) (xs:List UInt8) (vs:List Value) (hxs:vs=xs.map bv) (hk:xs.length=k) (_e:TypeId) (hs:∀cs b,o.op ≠ .select cs b) (hops:o.op.operands.all (fun x=>(W1 l x).isSome)=true)
  (hrun:(execOp (fun x=>(W1 l x).getD undef) o).run P w = .ok (.value (.slice (some ⟨w.heap.size,0,none⟩) k k)) (w.alloc (.cells vs.toArray 5))) {b:Nat}(hb:b≤w.heap.size) (h:∀a' v w',Z9 a' n ((d,v)::l)→Y2 b xs v w'→Below w.heap.size w w'→wpList P ops Q rest a' w') (hm:k≤1000:=by decide):wpList P ops Q (o::rest) a w:=
 H.go hw hd hn _ (Z0f H hs hops hrun) (fun a' H'=>h a' _ _ H' (X9g w b hb xs vs hxs k hk hm) (G0 w _))
theorem Q5i (m:Mq) (vc vw vf:Value) (w:World) (hm:Z4b m) (hL:MqL w w.heap.size m vc vw vf):
  Calls Tryz.prog 133 #[.agg (Z1 m vc vw vf).toArray] w fun e w'=>∃v,e = .returned v∧(∃vb,v = .tuple #[iz (X9 m),vb]∧K0 (X8 m) vb w'∧Below w.heap.size w w'):=by
 refine(J5y m vc vw vf w hm hL).mono ?_;rintro e w' ⟨v,rfl,hB,hb⟩;exact⟨_,rfl,v,rfl,hB,hb⟩
theorem J9p (m:Mq) (vc vw vf:Value) (w:World) (hm:Z4b m) (hL:MqL w w.heap.size m vc vw vf):
  Calls Tryz.prog 109 #[.agg (Z1 m vc vw vf).toArray] w (X3y (Z1j m) w):=by
 have hbl:=Z9y hm.1;have hfl:=Z3r hm.1;have hkk:=Z2k hm.1;have hor:((16*m.kind.toNat:Nat)|||X9 m)=16*m.kind.toNat+X9 m:=Q5g _ _ (by omega);go_enter Tryz.func109,Tryz.ntmps109;refine Z9.start 38 [(0, .agg (Z1 m vc vw vf).toArray)] rfl rfl ⟨rfl,trivial⟩ ?_;intro a0 H0;have O0:=X0.start w;refine rl ?_;refine H0.bx O0 1 fun a2 w1 O1 H2=>nt ?_;refine rl ?_;refine H2.lm O1 0 0 fun a3 H3=>?_;refine H3.cl (Q5i m _ _ _ _ hm (hL.next O1.bel)) ?_;rintro a4 _ w2 ⟨vb,rfl,hB,hb⟩ H4;have O2:=O1.call hb;clear hb;obtain⟨Ab,cb',rfl,hrb⟩:=hB;have HB2:=D5.of O2;obtain⟨b0,hb0⟩:∃b0,b0=w2.heap.size:=⟨_,rfl⟩;rw[←hb0] at HB2;have hb0':=hb0;clear hb0;rw[←hb0'] at hrb;refine H4.ms 1 fun a5 H5=>?_;refine H5.ex (r:=iz (X9 m)) 0 fun a6 H6=>?_;refine H6.ex (r:=.slice Ab (X8 m).length cb') 2 fun a9 H9=>nt ?_;refine H9.rg 1 fun a10 H10=>?_;refine H10.ld 0 (HB2.own.li 0 0) fun a11 H11=>?_;refine H11.bb 1 rfl rfl rfl rfl rfl rfl (Q7j _ (by omega) (by omega) _ _ _) rfl fun a13 H13=>?_;refine H13.bb 0 rfl rfl rfl rfl rfl rfl (Y7i _ _ (by omega) (by omega) _ _ _) rfl fun a14 H14=>?_;refine H14.cv 0 (L6 _ _) fun a15 H15=>?_;refine H15.lit gz rfl rfl [UInt8.ofNat (16*m.kind.toNat+X9 m)] [.int .u8 ((((16*m.kind.toNat:Nat)|||X9 m:Nat):Int)%256)] (by rw[hor,P0 _ (by omega)];rfl) (k:=1) rfl 5 (by intro cs b h;cases h) (by kernel_rfl) (by kernel_rfl) HB2.bw ?_;intro a16 v18 w3 H16 R18 hb;have HB3:=HB2.call hb;have hrb:=hrb.below (hb.mono HB2.bw);clear hb;refine H16.ms 1 fun a17 H17=>nt ?_;refine H17.rg 1 fun a18 H18=>?_;refine H18.len gz rfl rfl rfl rfl Tryz.underlying31 ?_;intro a19 H19;refine H19.ms 1 fun a20 H20=>nt ?_;repeat (refine wp_seq ?_)
 refine wp_block ?_;refine Q7 2 (fun k a w'=>∃n pre v,k<2∧n<128^(2-k)∧Z3g (X8 m).length=pre++Z3g n∧pre.length≤2∧Z9 a 38 [(1,pz w.heap.size),(4, .slice Ab (X8 m).length cb'),(5,v),(6,iz n)]∧Y2 b0 ([UInt8.ofNat (16*m.kind.toNat+X9 m)]++pre) v w'∧RB w' b0 Ab (X8 m)∧D5 w b0 [(w.heap.size,(Z1 m vc vw vf))] w') ?_ ?_
 ·exact⟨_,[],_,by omega,by omega,rfl,by simp,H20.keep ⟨rfl,rfl,rfl,rfl,trivial⟩,by simpa using R18,hrb,HB3⟩
 ·rintro k a21 w4 hkn ⟨n,pre,v5,hk2,hn,hpre,hpl,H21,R5,hrb,HB4⟩
  have hn2:n<16384:=by
   rcases Nat.lt_or_ge k 1 with h |h
   ·obtain rfl:k=0:=by omega
    omega
   ·obtain rfl:k=1:=by omega
    omega
  by_cases hlt:128≤n
  ·skip
   have hk0:k=0:=by
    rcases Nat.lt_or_ge k 1 with h |h
    ·omega
    ·obtain rfl:k=1:=by omega
     omega
   subst hk0;refine H21.rg 1 fun a22 H22=>?_;refine H22.bb 0 rfl rfl rfl rfl rfl rfl (Z6k _ _ true (by simp;omega) _ _ _) rfl fun a23 H23=>nt ?_;repeat (refine wp_seq ?_)
   refine H23.condT rfl ?_;refine Z3 ?_;refine Z0 ?_;repeat (refine wp_seq ?_)
   refine wp_block ?_;refine H23.rg 2 fun a25 H25=>?_;refine H25.cv 0 (L6 _ _) fun a26 H26=>?_;refine H26.bn 0 (Q5h n _ _ _) fun a27 H27=>?_;refine H27.lit gz rfl rfl [UInt8.ofNat (n%128+128)] [.int .u8 ((n%128+128:Nat):Int)] (by rw[Y6u _ (by omega)];rfl) (k:=1) rfl 5 (by intro cs b h;cases h) (by kernel_rfl) (by kernel_rfl) HB4.bw ?_;intro a28 v29 w5 H28 R29 hb;have HB5:=HB4.call hb;have R5:=R5.below hb;have hrb:=hrb.below (hb.mono HB4.bw);clear hb;refine H28.appendRow Tryz.underlying31 J4 gz rfl rfl rfl rfl rfl R5 R29.read (by simp;omega) HB5.bw ?_;intro a29 v30 w6 H29 R30 hb _;have HB6:=HB5.step hb;have hrb:=hrb.below hb;clear hb;refine H29.ms 1 fun a30 H30=>?_;refine wpList_nil ?_;refine Z6 ?_;refine Z0 ?_;refine H30.rg 1 fun a31 H31=>?_;refine H31.bn 1 (Q7k n hn2 _ _ _) fun a33 H33=>nt ?_;refine⟨by omega,n/128,pre++[UInt8.ofNat (n%128+128)],_,by omega,by omega, ?_, ?_,H33.keep ⟨rfl,rfl,rfl,rfl,trivial⟩,(by rw[←List.append_assoc];exact R30),hrb,HB6⟩
   ·rw[hpre,Z9z _ hlt,List.append_assoc];rfl
   ·have:pre=[]:=by
     have h1:=congrArg List.length hpre;rw[Z9z _ hlt] at h1;have h2:=X1b (X8 m).length (by omega);have h3:=X4d (n/128);simp only[List.length_append,List.length_cons] at h1;exact List.eq_nil_of_length_eq_zero (by omega)
    rw[this];simp
  ·skip
   refine H21.rg 1 fun a22 H22=>?_;refine H22.bb 0 rfl rfl rfl rfl rfl rfl (Z6k _ _ false (by simp;omega) _ _ _) rfl fun a23 H23=>nt ?_;repeat (refine wp_seq ?_)
   refine H23.condF rfl ?_;refine wp_exit ?_;repeat (with_reducible refine J7 ?_)
   refine X3 ?_;refine Z0 ?_;refine H23.rg 2 fun a25 H25=>?_;refine H25.cv 0 (L6 _ _) fun a26 H26=>?_;refine H26.lit gz rfl rfl [UInt8.ofNat n] [.int .u8 ((n:Int)%256)] (by rw[P0 _ (by omega)];rfl) (k:=1) rfl 5 (by intro cs b h;cases h) (by kernel_rfl) (by kernel_rfl) HB4.bw ?_;intro a27 v34 w5 H27 R34 hb;have HB5:=HB4.call hb;have R5:=R5.below hb;have hrb:=hrb.below (hb.mono HB4.bw);clear hb;refine H27.appendRow Tryz.underlying31 J4 gz rfl rfl rfl rfl rfl R5 R34.read (by simp;omega) HB5.bw ?_;intro a28 v35 w6 H28 R35 hb _;have HB6:=HB5.step hb;have hrb:=hrb.below hb;clear hb;refine H28.ms 1 fun a29 H29=>?_;refine H29.appendRow Tryz.underlying31 J4 gz rfl rfl rfl rfl rfl R35 ⟨_,_,rfl,hrb.more HB6.bw⟩ (by simp;omega) HB6.bw ?_;intro a30 v37 w7 H30 R37 hb _;have HB7:=HB6.step hb;have hrb:=hrb.below hb;clear hb;refine H30.ms 1 fun a31 H31=>nt ?_;refine wp_ret ?_;repeat with_reducible first |apply Z4 |apply Z5
   refine bodyPost_ret (results_tmp rfl _ _ _) H31.df ⟨_,congrArg Ending.returned (H31.at_ 2 _ rfl), ?_,HB7.own.bel⟩;have e:Z1j m=(([UInt8.ofNat (16*m.kind.toNat+X9 m)]++pre)++[UInt8.ofNat n])++X8 m:=by
    unfold Z1j;rw[hpre,Z6a _ (by omega)];simp
   rw[e];exact R37.base HB7.hb
end
section
open Go.RowKit
theorem J1p (x:Fin 256):bits .and .u8 (x.val:Int) 127=((x.val%128:Nat):Int):=by
 revert x
 decide
theorem J6c (x:UInt8) (a b:Operand) (w:World):(do eqGuard .and 5 a b (.int .u8 (x.toNat:Int)) (.int .u8 127);binOp .and 5 (.int .u8 (x.toNat:Int)) (.int .u8 127):Sem Value).run Tryz.prog w = .ok (.int .u8 ((x.toNat%128:Nat):Int)) w:=by
 have e:=J1p ⟨x.toNat,x.toNat_lt⟩;simp only[] at e;rw[←e];simp[go_sem]
theorem Y4m (k:Nat) (h:k<256) (w:World):(convert 5 3 (.int .u8 (k:Int))).run Tryz.prog w = .ok (.int .i64 (k:Int)) w:=by
 simp[go_sem];exact IntWalk.i64_in _ (by omega)
theorem Y6v (k:Nat) (x y:Operand) (w:World):(do eqGuard .sub 3 x y (.int .i64 ((k+1:Nat):Int)) (.int .i64 1);binOp .sub 3 (.int .i64 ((k+1:Nat):Int)) (.int .i64 1):Sem Value).run Tryz.prog w = .ok (.int .i64 (IntKind.i64.wrap (k:Int))) w:=by
 have e:((k+1:Nat):Int)-1=(k:Int):=by omega
 simp[go_sem]
theorem Q5j (k:Nat) (hk:k≤3) (x y:Operand) (w:World):(do eqGuard .mul 3 x y (.int .i64 7) (.int .i64 (IntKind.i64.wrap (k:Int)));binOp .mul 3 (.int .i64 7) (.int .i64 (IntKind.i64.wrap (k:Int))):Sem Value).run Tryz.prog w = .ok (.int .i64 ((7*k:Nat):Int)) w:=by
 have:k=0∨k=1∨k=2∨k=3:=by omega
 rcases this with rfl |rfl |rfl |rfl<;>simp[go_sem]<;>rfl
theorem Q5k (v k:Nat) (hv:v<128) (hk:k≤3) (x y:Operand) (w:World):(do eqGuard .shl 3 x y (.int .i64 (v:Int)) (.int .i64 ((7*k:Nat):Int));binOp .shl 3 (.int .i64 (v:Int)) (.int .i64 ((7*k:Nat):Int)):Sem Value).run Tryz.prog w = .ok (.int .i64 ((v*128^k:Nat):Int)) w:=by
 have:k=0∨k=1∨k=2∨k=3:=by omega
 rcases this with rfl |rfl |rfl |rfl<;>simp[go_sem]<;>exact IntWalk.i64_in _ (by omega)
theorem J6d (n v k:Nat) (hn:n<128^k):(n|||v*128^k)=n+v*128^k:=by
 have e:(128:Nat)^k=2^(7*k):=by rw[Nat.pow_mul]
 rw[e] at hn ⊢;rw[Nat.or_comm,Nat.mul_comm v,←Nat.two_pow_add_eq_or_of_lt hn,Nat.add_comm]
theorem Q0w (u v:Int) (b:Bool) (h:decide (v≤u)=b) (x y:Operand) (w:World):(do eqGuard .geq 5 x y (.int .u8 u) (.int .u8 v);binOp .geq 5 (.int .u8 u) (.int .u8 v):Sem Value).run Tryz.prog w = .ok (.bool b) w:=by
 subst h;simp[go_sem]
theorem Y4n (k:Nat) (hk:k≤1024) (x y:Operand) (w:World):(do eqGuard .sub 3 x y (.int .i64 1024) (.int .i64 (k:Int));binOp .sub 3 (.int .i64 1024) (.int .i64 (k:Int)):Sem Value).run Tryz.prog w = .ok (.int .i64 (1024-(k:Int))) w:=by
 simp[go_sem];exact IntWalk.i64_in _ (by omega)
theorem Z7p (u v:Nat) (h:u+v≤1000000000) (x y:Operand) (w:World):(do eqGuard .add 3 x y (.int .i64 (u:Int)) (.int .i64 (v:Int));binOp .add 3 (.int .i64 (u:Int)) (.int .i64 (v:Int)):Sem Value).run Tryz.prog w = .ok (.int .i64 ((u+v:Nat):Int)) w:=by
 simp[go_sem];exact IntWalk.i64_in _ (by omega)
def Q0x:Except Int (Nat×Nat)→Value
 | .ok (t,i)=>.tuple #[.int .i64 (t:Int), .int .i64 (i:Int), .int .i64 0]
 | .error e=>.tuple #[.int .i64 0, .int .i64 0, .int .i64 e]
theorem J6e (xs:List UInt8) (A:Option Addr) (c:Nat) (w:World) (hr:RB w w.heap.size A xs) (hl:xs.length≤140737488351232):
  Calls Tryz.prog 121 #[.slice A xs.length c] w fun e w'=>e = .returned (Q0x (Z0y xs))∧w'=w:=by
 go_enter Tryz.func121,Tryz.ntmps121
 refine Z9.start 60 [(0, .slice A xs.length c)] rfl rfl ⟨rfl,trivial⟩ ?_;intro a0 H0;refine H0.rg 3 fun a3 H3=>nt ?_;refine Y9y rfl rfl 3 (fun k a w'=>∃n,w'=w∧Z9 a 60 [(0, .slice A xs.length c),(5, .int .i64 ((n:Nat):Int)),(6, .int .i64 ((k+1:Nat):Int))]∧n<128^k∧Z0y xs=Z2a (4-k) (k+1) n (xs.drop (k+1))∧k+1≤xs.length) (fun a w'=>w'=w∧Z9 a 60 [(0, .slice A xs.length c)]∧Z0y xs = .error 1) ?_ ?_ ?_
 ·intro hpass
  refine H3.rg 2 fun a5 H5=>nt ?_;rcases Nat.eq_zero_or_pos xs.length with hz |hz
  ·skip
   refine H5.rg 1 fun a6 H6=>?_;refine H6.len gz rfl rfl rfl rfl Tryz.underlying31 ?_;intro a7 H7;refine H7.bb 0 rfl rfl rfl rfl rfl rfl (Z7 _ _ true (by rw[beq_iff_eq];omega) _ _ _) rfl fun a8 H8=>nt ?_;refine H8.condT rfl ?_;refine H8.rg 3 fun a11 H11=>nt ?_;refine wp_ret ?_;repeat (first |(with_reducible refine Z4 ?_) |(with_reducible refine Z5 ?_) |(with_reducible refine Z4r ?_))
   refine bodyPost_ret (U5 rfl _ _ _ _ (H11.at_ 2 _ rfl) (H11.at_ 3 _ rfl) (H11.at_ 4 _ rfl)) H11.df ?_;exact⟨by rw[show Z0y xs = .error 7 by rw[List.eq_nil_of_length_eq_zero hz];rfl]<;>rfl,rfl⟩
  ·skip
   refine H5.rg 1 fun a6 H6=>?_;refine H6.len gz rfl rfl rfl rfl Tryz.underlying31 ?_;intro a7 H7;refine H7.bb 0 rfl rfl rfl rfl rfl rfl (Z7 _ _ false (by rw[beq_eq_false_iff_ne];omega) _ _ _) rfl fun a8 H8=>nt ?_;refine H8.condF rfl ?_;refine Z3 ?_;refine Z0 ?_;refine wp_seq (Y5h (Z0 ?_));refine hpass 0 _ _ (by omega) ⟨0,rfl,H8.keep ⟨rfl,rfl,rfl,trivial⟩,by decide, ?_,hz⟩;cases xs with
   |nil=>simp at hz
   |cons y r=>rfl
 ·rintro k a43 _ hk ⟨n,rfl,H43,hn,hs,hz⟩
  have hn28:n<2097152:=Nat.lt_of_lt_of_le hn (Nat.pow_le_pow_right (n:=128) (by decide) hk);have hxl:xs.length≤140737488351232:=hl;rcases Nat.lt_or_ge (k+1) xs.length with hlt |hge
  ·skip
   obtain⟨gb,go,x,rfl,hgb,hx,hcell⟩:=RB.get hr hlt;have hdr:xs.drop (k+1)=x::xs.drop (k+1+1):=Z2s _ _ _ hx;rw[hdr,show 4-k=(3-k)+1 by omega,Z2a,show k+1-1=k by omega] at hs;have hxb:=x.toNat_lt;obtain⟨n',hn'⟩:∃n':Nat,n'=n+x.toNat%128*128^k:=⟨_,rfl⟩;rw[←hn'] at hs;have hor:(n|||x.toNat%128*128^k)=n':=by rw[hn',J6d _ _ _ hn]
   have hp21:128^k≤2097152:=Nat.pow_le_pow_right (n:=128) (by decide) hk;have hn1:n'<128^(k+1):=by
    rw[hn',Nat.pow_succ];have:x.toNat%128*128^k≤127*128^k:=Nat.mul_le_mul_right _ (by omega);omega
   have hnb:n'<268435456:=by
    rw[Nat.pow_succ] at hn1;omega
   have hvb:x.toNat%128*128^k<268435456:=by omega
   refine H43.rg 2 fun a45 H45=>?_;refine H45.len gz rfl rfl rfl rfl Tryz.underlying31 ?_;intro a46 H46;refine H46.bb 0 rfl rfl rfl rfl rfl rfl (Z7 _ _ false (by rw[beq_eq_false_iff_ne];omega) _ _ _) rfl fun a47 H47=>nt ?_;refine H47.condF rfl ?_;refine Z3 ?_;refine Z0 ?_;refine H47.rg 3 fun a50 H50=>?_;refine H50.index gz rfl rfl rfl rfl rfl (U7 31 Tryz.underlying31 (fun _=>by kernel_rfl) _ _ _ _ _ hlt _) ?_;intro a51 H51;refine H51.ld 0 (U3 _ _ _ _ hcell) fun a52 H52=>?_;refine H52.bn 0 (J6c x _ _ _) fun a53 H53=>?_;refine H53.conv gz rfl rfl rfl rfl (Y4m _ (by omega) _) ?_;intro a54 H54;refine H54.ms 1 fun a55 H55=>?_;refine H55.bn 0 (Y6v _ _ _ _) fun a56 H56=>?_;refine H56.bn 0 (Q5j _ hk _ _ _) fun a57 H57=>?_;refine H57.bb 0 rfl rfl rfl rfl rfl rfl (Q5k _ _ (by omega) hk _ _ _) rfl fun a58 H58=>?_;refine H58.bb 1 rfl rfl rfl rfl rfl rfl (Y7i _ _ (by omega) (by omega) _ _ _) rfl fun a60 H60=>nt ?_;rw[hor] at H60;have H61:=H60.kp [0,5,6];by_cases h128:128≤x.toNat
   ·skip
    rw[if_pos h128] at hs;refine H61.rg 2 fun a63 H63=>?_;refine H63.index gz rfl rfl rfl rfl rfl (U7 31 Tryz.underlying31 (fun _=>by kernel_rfl) _ _ _ _ _ hlt _) ?_;intro a64 H64;refine H64.ld 0 (U3 _ _ _ _ hcell) fun a65 H65=>?_;refine H65.bb 0 rfl rfl rfl rfl rfl rfl (Q0w _ _ true (by simp;omega) _ _ _) rfl fun a66 H66=>nt ?_;refine H66.condT rfl ?_;by_cases h4:k=3
    ·skip
     rw[if_pos (by omega)] at hs;refine H66.rg 1 fun a67 H67=>?_;refine H67.bb 0 rfl rfl rfl rfl rfl rfl (Z7 _ _ true (by subst h4;rfl) _ _ _) rfl fun a68 H68=>nt ?_;refine H68.condT rfl ?_;refine wp_goto ?_;repeat (first |(with_reducible refine G9 ?_))
     exact Y7x ⟨rfl,H68.keep ⟨rfl,trivial⟩,hs⟩
    ·skip
     rw[if_neg (by omega)] at hs;refine H66.rg 1 fun a67 H67=>?_;refine H67.bb 0 rfl rfl rfl rfl rfl rfl (Z7 _ _ false (by rw[beq_eq_false_iff_ne];omega) _ _ _) rfl fun a68 H68=>nt ?_;refine H68.condF rfl ?_;refine Z3 ?_;refine Z0 ?_;refine H68.rg 1 fun a69 H69=>?_;refine H69.bb 1 rfl rfl rfl rfl rfl rfl (E7 _ (by omega) _ _ _) rfl fun a71 H71=>nt ?_;refine wp_goto ?_;repeat (first |(with_reducible refine G9 ?_))
     exact J0b ⟨by omega,n',rfl,H71.keep ⟨rfl,rfl,rfl,trivial⟩,hn1,by rw[hs,show 3-k=4-(k+1) by omega],by omega⟩
   ·skip
    rw[if_neg h128] at hs;refine H61.rg 2 fun a63 H63=>?_;refine H63.index gz rfl rfl rfl rfl rfl (U7 31 Tryz.underlying31 (fun _=>by kernel_rfl) _ _ _ _ _ hlt _) ?_;intro a64 H64;refine H64.ld 0 (U3 _ _ _ _ hcell) fun a65 H65=>?_;refine H65.bb 0 rfl rfl rfl rfl rfl rfl (Q0w _ _ false (by simp;omega) _ _ _) rfl fun a66 H66=>nt ?_;refine H66.condF rfl ?_;refine Z3 ?_;refine Z0 ?_;by_cases h0:x.toNat=0
    ·skip
     by_cases h1:1<k+1
     ·skip
      rw[if_pos ⟨h0,h1⟩] at hs;refine H66.rg 2 fun a68 H68=>?_;refine H68.index gz rfl rfl rfl rfl rfl (U7 31 Tryz.underlying31 (fun _=>by kernel_rfl) _ _ _ _ _ hlt _) ?_;intro a69 H69;refine H69.ld 0 (U3 _ _ _ _ hcell) fun a70 H70=>?_;refine H70.bb 1 rfl rfl rfl rfl rfl rfl (X8g _ _ true (by simpa using h0) _ _ _) rfl fun a72 H72=>?_;refine H72.move (H72.wt rfl rfl rfl) (.inl rfl) rfl rfl rfl ?_;intro a73 H73;refine H73.bin (H73.wt rfl rfl rfl) rfl rfl rfl rfl rfl (S0 _ _ true (by simp;omega) _ _ _) ?_;intro a74 H74;refine H74.pick gz rfl rfl rfl rfl rfl ?_;intro a75 H75;refine nt ?_;refine H75.condT rfl ?_;refine wp_goto ?_;repeat (first |(with_reducible refine G9 ?_))
      exact Y7x ⟨rfl,H75.keep ⟨rfl,trivial⟩,hs⟩
     ·skip
      rw[if_neg (fun h=>h1 h.2)] at hs;refine H66.rg 2 fun a68 H68=>?_;refine H68.index gz rfl rfl rfl rfl rfl (U7 31 Tryz.underlying31 (fun _=>by kernel_rfl) _ _ _ _ _ hlt _) ?_;intro a69 H69;refine H69.ld 0 (U3 _ _ _ _ hcell) fun a70 H70=>?_;refine H70.bb 1 rfl rfl rfl rfl rfl rfl (X8g _ _ true (by simpa using h0) _ _ _) rfl fun a72 H72=>?_;refine H72.move (H72.wt rfl rfl rfl) (.inl rfl) rfl rfl rfl ?_;intro a73 H73;refine H73.bin (H73.wt rfl rfl rfl) rfl rfl rfl rfl rfl (S0 _ _ false (by simp;omega) _ _ _) ?_;intro a74 H74;refine H74.pick gz rfl rfl rfl rfl rfl ?_;intro a75 H75;refine nt ?_;refine H75.condF rfl ?_;refine Z3 ?_;refine Z0 ?_;refine H75.rg 1 fun a76 H76=>?_;refine H76.bb 1 rfl rfl rfl rfl rfl rfl (E7 _ (by omega) _ _ _) rfl fun a78 H78=>nt ?_;by_cases hb:1024<n'+(k+2)
      ·skip
       rw[if_pos (by omega)] at hs;refine H78.rg 2 fun a80 H80=>?_;refine H80.bb 0 rfl rfl rfl rfl rfl rfl (Y4n _ (by omega) _ _ _) rfl fun a81 H81=>?_;refine H81.bb 0 rfl rfl rfl rfl rfl rfl (S0 _ _ true (by simp;omega) _ _ _) rfl fun a82 H82=>nt ?_;refine H82.condT rfl ?_;refine H82.rg 3 fun a85 H85=>nt ?_;refine wp_ret ?_;repeat (first |(with_reducible refine Z4 ?_) |(with_reducible refine Z5 ?_) |(with_reducible refine Z4r ?_))
       refine bodyPost_ret (U5 rfl _ _ _ _ (H85.at_ 2 _ rfl) (H85.at_ 3 _ rfl) (H85.at_ 4 _ rfl)) H85.df ?_;exact⟨by rw[hs]<;>rfl,rfl⟩
      ·skip
       rw[if_neg (by omega)] at hs;refine H78.rg 2 fun a80 H80=>?_;refine H80.bb 0 rfl rfl rfl rfl rfl rfl (Y4n _ (by omega) _ _ _) rfl fun a81 H81=>?_;refine H81.bb 0 rfl rfl rfl rfl rfl rfl (S0 _ _ false (by simp;omega) _ _ _) rfl fun a82 H82=>nt ?_;refine H82.condF rfl ?_;refine Z3 ?_;refine Z0 ?_;by_cases hc2:xs.length<n'+(k+2)
       ·skip
        rw[if_pos (by rw[List.length_drop];omega)] at hs;refine H82.rg 1 fun a83 H83=>?_;refine H83.len gz rfl rfl rfl rfl Tryz.underlying31 ?_;intro a84 H84;refine H84.ms 2 fun a86 H86=>?_;refine H86.bb 0 rfl rfl rfl rfl rfl rfl (Z7p _ _ (by omega) _ _ _) rfl fun a87 H87=>?_;refine H87.bb 0 rfl rfl rfl rfl rfl rfl (Q3 _ _ true (by simp;omega) _ _ _) rfl fun a88 H88=>nt ?_;refine H88.condT rfl ?_;refine H88.rg 3 fun a91 H91=>nt ?_;refine wp_ret ?_;repeat (first |(with_reducible refine Z4 ?_) |(with_reducible refine Z5 ?_) |(with_reducible refine Z4r ?_))
        refine bodyPost_ret (U5 rfl _ _ _ _ (H91.at_ 2 _ rfl) (H91.at_ 3 _ rfl) (H91.at_ 4 _ rfl)) H91.df ?_;exact⟨by rw[hs]<;>rfl,rfl⟩
       ·skip
        rw[if_neg (by rw[List.length_drop];omega)] at hs;refine H82.rg 1 fun a83 H83=>?_;refine H83.len gz rfl rfl rfl rfl Tryz.underlying31 ?_;intro a84 H84;refine H84.ms 2 fun a86 H86=>?_;refine H86.bb 0 rfl rfl rfl rfl rfl rfl (Z7p _ _ (by omega) _ _ _) rfl fun a87 H87=>?_;refine H87.bb 0 rfl rfl rfl rfl rfl rfl (Q3 _ _ false (by simp;omega) _ _ _) rfl fun a88 H88=>nt ?_;refine H88.condF rfl ?_;refine Z3 ?_;refine Z0 ?_;refine H88.rg 2 fun a90 H90=>?_;refine H90.bb 4 rfl rfl rfl rfl rfl rfl (Z7p _ _ (by omega) _ _ _) rfl fun a95 H95=>nt ?_;refine wp_ret ?_;repeat (first |(with_reducible refine Z4 ?_) |(with_reducible refine Z5 ?_) |(with_reducible refine Z4r ?_))
        refine bodyPost_ret (U5 rfl _ _ _ _ (H95.at_ 2 _ rfl) (H95.at_ 3 _ rfl) (H95.at_ 4 _ rfl)) H95.df ?_;exact⟨by rw[hs]<;>rfl,rfl⟩
    ·skip
     rw[if_neg (fun h=>h0 h.1)] at hs;refine H66.rg 2 fun a68 H68=>?_;refine H68.index gz rfl rfl rfl rfl rfl (U7 31 Tryz.underlying31 (fun _=>by kernel_rfl) _ _ _ _ _ hlt _) ?_;intro a69 H69;refine H69.ld 0 (U3 _ _ _ _ hcell) fun a70 H70=>?_;refine H70.bb 1 rfl rfl rfl rfl rfl rfl (X8g _ _ false (by simpa using h0) _ _ _) rfl fun a72 H72=>?_;refine H72.off rfl rfl rfl rfl rfl ?_;intro a73 H73;refine H73.off rfl rfl rfl rfl rfl ?_;intro a74 H74;refine H74.pick gz rfl rfl rfl rfl rfl ?_;intro a75 H75;refine nt ?_;refine H75.condF rfl ?_;refine Z3 ?_;refine Z0 ?_;refine H75.rg 1 fun a76 H76=>?_;refine H76.bb 1 rfl rfl rfl rfl rfl rfl (E7 _ (by omega) _ _ _) rfl fun a78 H78=>nt ?_;by_cases hb:1024<n'+(k+2)
     ·skip
      rw[if_pos (by omega)] at hs;refine H78.rg 2 fun a80 H80=>?_;refine H80.bb 0 rfl rfl rfl rfl rfl rfl (Y4n _ (by omega) _ _ _) rfl fun a81 H81=>?_;refine H81.bb 0 rfl rfl rfl rfl rfl rfl (S0 _ _ true (by simp;omega) _ _ _) rfl fun a82 H82=>nt ?_;refine H82.condT rfl ?_;refine H82.rg 3 fun a85 H85=>nt ?_;refine wp_ret ?_;repeat (first |(with_reducible refine Z4 ?_) |(with_reducible refine Z5 ?_) |(with_reducible refine Z4r ?_))
      refine bodyPost_ret (U5 rfl _ _ _ _ (H85.at_ 2 _ rfl) (H85.at_ 3 _ rfl) (H85.at_ 4 _ rfl)) H85.df ?_;exact⟨by rw[hs]<;>rfl,rfl⟩
     ·skip
      rw[if_neg (by omega)] at hs;refine H78.rg 2 fun a80 H80=>?_;refine H80.bb 0 rfl rfl rfl rfl rfl rfl (Y4n _ (by omega) _ _ _) rfl fun a81 H81=>?_;refine H81.bb 0 rfl rfl rfl rfl rfl rfl (S0 _ _ false (by simp;omega) _ _ _) rfl fun a82 H82=>nt ?_;refine H82.condF rfl ?_;refine Z3 ?_;refine Z0 ?_;by_cases hc2:xs.length<n'+(k+2)
      ·skip
       rw[if_pos (by rw[List.length_drop];omega)] at hs;refine H82.rg 1 fun a83 H83=>?_;refine H83.len gz rfl rfl rfl rfl Tryz.underlying31 ?_;intro a84 H84;refine H84.ms 2 fun a86 H86=>?_;refine H86.bb 0 rfl rfl rfl rfl rfl rfl (Z7p _ _ (by omega) _ _ _) rfl fun a87 H87=>?_;refine H87.bb 0 rfl rfl rfl rfl rfl rfl (Q3 _ _ true (by simp;omega) _ _ _) rfl fun a88 H88=>nt ?_;refine H88.condT rfl ?_;refine H88.rg 3 fun a91 H91=>nt ?_;refine wp_ret ?_;repeat (first |(with_reducible refine Z4 ?_) |(with_reducible refine Z5 ?_) |(with_reducible refine Z4r ?_))
       refine bodyPost_ret (U5 rfl _ _ _ _ (H91.at_ 2 _ rfl) (H91.at_ 3 _ rfl) (H91.at_ 4 _ rfl)) H91.df ?_;exact⟨by rw[hs]<;>rfl,rfl⟩
      ·skip
       rw[if_neg (by rw[List.length_drop];omega)] at hs;refine H82.rg 1 fun a83 H83=>?_;refine H83.len gz rfl rfl rfl rfl Tryz.underlying31 ?_;intro a84 H84;refine H84.ms 2 fun a86 H86=>?_;refine H86.bb 0 rfl rfl rfl rfl rfl rfl (Z7p _ _ (by omega) _ _ _) rfl fun a87 H87=>?_;refine H87.bb 0 rfl rfl rfl rfl rfl rfl (Q3 _ _ false (by simp;omega) _ _ _) rfl fun a88 H88=>nt ?_;refine H88.condF rfl ?_;refine Z3 ?_;refine Z0 ?_;refine H88.rg 2 fun a90 H90=>?_;refine H90.bb 4 rfl rfl rfl rfl rfl rfl (Z7p _ _ (by omega) _ _ _) rfl fun a95 H95=>nt ?_;refine wp_ret ?_;repeat (first |(with_reducible refine Z4 ?_) |(with_reducible refine Z5 ?_) |(with_reducible refine Z4r ?_))
       refine bodyPost_ret (U5 rfl _ _ _ _ (H95.at_ 2 _ rfl) (H95.at_ 3 _ rfl) (H95.at_ 4 _ rfl)) H95.df ?_;exact⟨by rw[hs]<;>rfl,rfl⟩
  ·skip
   rw[List.drop_eq_nil_of_le hge] at hs;have hs7:Z0y xs = .error 7:=by rw[hs];cases (4-k)<;>rfl
   have hkl:k+1=xs.length∨xs.length<k+1:=by omega
   refine H43.rg 2 fun a45 H45=>?_;refine H45.len gz rfl rfl rfl rfl Tryz.underlying31 ?_;intro a46 H46;refine H46.bb 0 rfl rfl rfl rfl rfl rfl (Z7 _ _ true (by rw[beq_iff_eq];omega) _ _ _) rfl fun a47 H47=>nt ?_;refine H47.condT rfl ?_;refine H47.rg 3 fun a50 H50=>nt ?_;refine wp_ret ?_;repeat (first |(with_reducible refine Z4 ?_) |(with_reducible refine Z5 ?_) |(with_reducible refine Z4r ?_))
   refine bodyPost_ret (U5 rfl _ _ _ _ (H50.at_ 2 _ rfl) (H50.at_ 3 _ rfl) (H50.at_ 4 _ rfl)) H50.df ?_;exact⟨by rw[hs7]<;>rfl,rfl⟩
 ·rintro a51 _ ⟨rfl,H51,hs⟩
  refine H51.rg 3 fun a54 H54=>nt ?_;refine wp_ret ?_;repeat (first |(with_reducible refine Z4 ?_) |(with_reducible refine Z5 ?_) |(with_reducible refine Z4r ?_))
  refine bodyPost_ret (U5 rfl _ _ _ _ (H54.at_ 2 _ rfl) (H54.at_ 3 _ rfl) (H54.at_ 4 _ rfl)) H54.df ?_;exact⟨by rw[hs]<;>rfl,rfl⟩
end
section
open Go.RowKit
structure Rst (w0:World) (B g gp:Nat) (s:Rd) (L:List Value) (w:World):Prop where
 rd:K7 w B g s
 ce:X5 w gp L
 gr:w0.grownBy w (some g)
 ge:w0.heap.size≤gp
 hB:B≤gp
 ne:gp≠g
 lt:gp<w.heap.size
section
variable {w0 w w':World}{B g gp:Nat}{s s':Rd}{L L':List Value}
theorem Rst.call (h:Rst w0 B g gp s L w) (hr:K7 w' B g s') (hg:w.grownBy w' (some g)):Rst w0 B g gp s' L w':=
 ⟨hr,h.ce.kept hg h.lt (by simpa using h.ne),h.gr.trans hg,h.ge,h.hB,h.ne,Nat.lt_of_lt_of_le h.lt hg.size⟩
theorem Rst.set (h:Rst w0 B g gp s L w) (j:Nat) (v:Value) (hj:j<L.length):Rst w0 B g gp s (L.set j v) (w.setCell ⟨gp,j,none⟩ v):=
 ⟨h.rd.store (a:=⟨gp,j,none⟩) h.hB h.ne v,h.ce.set j v hj,Z1e h.gr (a:=⟨gp,j,none⟩) h.ge v,h.ge,h.hB,h.ne,by rw[V1];exact h.lt⟩
theorem Rst.is (h:Rst w0 B g gp s L w) (e:L=L') (e':s=s'):Rst w0 B g gp s' L' w:=by rw[←e,←e'];exact h
end
section
variable {w0 w:World}{B g gp:Nat}{s:Rd}{L:List Value}{ops:Array Oper}{rest rest':List Oper}{o:Oper}{a:Act}{Q:Exit→Act→World→Prop}{n:Nat}{l l':List (Nat×Value)}
theorem Z9.rc (H:Z9 a n l) (R:Rst w0 B g gp s L w) (k:Nat) {d:Nat}{f:FuncId}{xs:Array Operand}{ats:Array TypeId}{vs:List Value}{v:Value}{s':Rd}(hc:Calls Tryz.prog f vs.toArray w (Rdd w B g v s')) (h:∀a' w',Rst w0 B g gp s' L w'→Z9 a' n l'→wpList Tryz.prog ops Q rest' a' w')
  (ho:o.op = .call { callee:=.value (.func f),args:=xs,argTypes:=ats }:=by rfl) (hd:o.dst=some d:=by rfl) (hn:Nat.blt d n=true:=by rfl) (hg:o.guard=none:=by rfl) (hx:Y1f l xs.toList=some vs:=by rfl)
  (hen:∀(args:Array Value) (w:World),(callFunc f args).run Tryz.prog w = .ok (.enter f args) w:=by exact fun _ _=>by kernel_rfl) (hr:Z3n n k rest ((d,v)::l)=some (rest',l'):=by rfl):wpList Tryz.prog ops Q (o::rest) a w:=
 H.call (gz hg) ho hd hn hx hen (R:=fun u w'=>u=v∧K7 w' B g s'∧w.grownBy w' (some g)) (hc.mono fun _ _ h=>⟨v,h.1,rfl,h.2⟩) (by rintro _ _ w' ⟨rfl,h1,h2⟩ H';exact W4 k H' hr fun a' H''=>h a' w' (R.call h1 h2) H'')
theorem Z9.rs (H:Z9 a n l) (R:Rst w0 B g gp s L w) (k:Nat) {T j:Nat}{x y:Operand}{v:Value}(hst:∀u,w.cell? ⟨gp,j,none⟩=some u→w.frozen? ⟨gp,j,none⟩=false→(Instr.storeAt T (.pointer (some ⟨gp,j,none⟩)) v).run Tryz.prog w = .ok () (w.setCell ⟨gp,j,none⟩ v))
  (h:∀a' w',Rst w0 B g gp s (L.set j v) w'→Z9 a' n l'→wpList Tryz.prog ops Q rest' a' w')
  (ho:o.op = .store T x y:=by rfl) (hd:o.dst=none:=by rfl) (hg:o.guard=none:=by rfl) (hx:W1 l x=some (.pointer (some ⟨gp,j,none⟩)):=by rfl) (hy:W1 l y=some v:=by rfl) (hj:Nat.blt j L.length=true:=by rfl) (hr:Z3n n k rest l=some (rest',l'):=by rfl):wpList Tryz.prog ops Q (o::rest) a w:=by
 have hj':j<L.length:=by simpa [Nat.blt_eq] using hj
 obtain⟨c1,c2⟩:=R.ce j _ (List.getElem?_eq_getElem hj');exact H.store (gz hg) ho hd hx hy (hst _ c1 c2) fun a' H'=>W4 k H' hr fun a' H''=>h a' _ (R.set j v hj') H''
theorem Z9.si (H:Z9 a n l) (R:Rst w0 B g gp s L w) (k:Nat) {j:Nat}{x y:Operand}{v:Int}(h:∀a' w',Rst w0 B g gp s (L.set j (iz v)) w'→Z9 a' n l'→wpList Tryz.prog ops Q rest' a' w')
  (ho:o.op = .store 3 x y:=by rfl) (hd:o.dst=none:=by rfl) (hg:o.guard=none:=by rfl) (hx:W1 l x=some (.pointer (some ⟨gp,j,none⟩)):=by rfl) (hy:W1 l y=some (iz v):=by rfl) (hj:Nat.blt j L.length=true:=by rfl) (hr:Z3n n k rest l=some (rest',l'):=by rfl):wpList Tryz.prog ops Q (o::rest) a w:=
 H.rs R k (fun u h f=>D6 _ _ _ u _ h f) h ho hd hg hx hy hj hr
theorem Z9.sb (H:Z9 a n l) (R:Rst w0 B g gp s L w) (k:Nat) {j:Nat}{x y:Operand}{v:Bool}(h:∀a' w',Rst w0 B g gp s (L.set j (.bool v)) w'→Z9 a' n l'→wpList Tryz.prog ops Q rest' a' w')
  (ho:o.op = .store 4 x y:=by rfl) (hd:o.dst=none:=by rfl) (hg:o.guard=none:=by rfl) (hx:W1 l x=some (.pointer (some ⟨gp,j,none⟩)):=by rfl) (hy:W1 l y=some (.bool v):=by rfl) (hj:Nat.blt j L.length=true:=by rfl) (hr:Z3n n k rest l=some (rest',l'):=by rfl):wpList Tryz.prog ops Q (o::rest) a w:=
 H.rs R k (fun u h f=>B7 _ _ _ u _ h f) h ho hd hg hx hy hj hr
theorem Z9.ss (H:Z9 a n l) (R:Rst w0 B g gp s L w) (k:Nat) {j:Nat}{x y:Operand}{v:ByteArray}(h:∀a' w',Rst w0 B g gp s (L.set j (.string v)) w'→Z9 a' n l'→wpList Tryz.prog ops Q rest' a' w')
  (ho:o.op = .store 9 x y:=by rfl) (hd:o.dst=none:=by rfl) (hg:o.guard=none:=by rfl) (hx:W1 l x=some (.pointer (some ⟨gp,j,none⟩)):=by rfl) (hy:W1 l y=some (.string v):=by rfl) (hj:Nat.blt j L.length=true:=by rfl) (hr:Z3n n k rest l=some (rest',l'):=by rfl):wpList Tryz.prog ops Q (o::rest) a w:=
 H.rs R k (fun u h f=>Z4a _ _ _ u _ h f) h ho hd hg hx hy hj hr
theorem Z9.sw (H:Z9 a n l) (R:Rst w0 B g gp s L w) (k:Nat) {x y:Operand}{b c:Bool}{t u:ByteArray}{q:Int}(h:∀a' w',Rst w0 B g gp s (((((L.set 4 (.bool b)).set 5 (.string t)).set 6 (.string u)).set 7 (iz q)).set 8 (.bool c)) w'→Z9 a' n l'→wpList Tryz.prog ops Q rest' a' w')
  (ho:o.op = .store 44 x y:=by rfl) (hd:o.dst=none:=by rfl) (hg:o.guard=none:=by rfl) (hx:W1 l x=some (.pointer (some ⟨gp,4,none⟩)):=by rfl) (hy:W1 l y=some (.agg #[.bool b, .string t, .string u,iz q, .bool c]):=by rfl) (hj:Nat.blt 8 L.length=true:=by rfl) (hr:Z3n n k rest l=some (rest',l'):=by rfl):wpList Tryz.prog ops Q (o::rest) a w:=by
 have hj':8<L.length:=by simpa [Nat.blt_eq] using hj
 refine H.store (gz hg) ho hd hx hy (Y6c gp L b t u q c w R.ce hj') fun a' H'=>W4 k H' hr fun a' H''=>h a' _ ?_ H'';exact((((R.set 4 _ (by omega)).set 5 _ (by simp only[List.length_set];omega)).set 6 _ (by simp only[List.length_set];omega)).set 7 _ (by simp only[List.length_set];omega)).set 8 _ (by simp only[List.length_set];omega)
theorem Rst.lb (R:Rst w0 B g gp s L w) (j:Nat) {v:Bool}(h:L[j]? = some (.bool v):=by rfl):(Instr.loadAt 4 (.pointer (some ⟨gp,j,none⟩))).run Tryz.prog w = .ok (.bool v) w:=V0 _ _ _ _ (R.ce.get j _ h)
theorem Rst.li (R:Rst w0 B g gp s L w) (j:Nat) {v:Int}(h:L[j]? = some (iz v):=by rfl):(Instr.loadAt 3 (.pointer (some ⟨gp,j,none⟩))).run Tryz.prog w = .ok (iz v) w:=J9 _ _ _ _ (R.ce.get j _ h)
end
theorem Y1x (u v:Int) (x y:Operand) (w:World):(do eqGuard .and 3 x y (iz u) (iz v);binOp .and 3 (iz u) (iz v):Sem Value).run Tryz.prog w = .ok (iz (bits .and .i64 u v)) w:=by kernel_rfl
theorem Q3c (u v:Int) (b:Bool) (h:(u != v)=b) (x y:Operand) (w:World):(do eqGuard .neq 3 x y (iz u) (iz v);binOp .neq 3 (iz u) (iz v):Sem Value).run Tryz.prog w = .ok (.bool b) w:=by
 rw[←h]
 kernel_rfl
end
section
open Go.RowKit
theorem X4e (B g:Nat) (s:Rd) {x:UInt8}{s':Rd}(e:T3 s=(x,s')) (w:World) (h:K7 w B g s):
  Calls Tryz.prog 140 #[pz g] w (Rdd w B g (iz x.toNat) s'):=by
 have:=Z9w B g s w h;rw[e] at this;exact this
theorem Y8z (B g:Nat) (s:Rd) {t:ByteArray}{s':Rd}(e:W3 s=(t,s')) (w:World) (h:K7 w B g s):
  Calls Tryz.prog 141 #[pz g] w (Rdd w B g (.string t) s'):=by
 have:=Z3p B g s w h;rw[e] at this;exact this
def Q3d (w0:World) (B g gp:Nat) (r:Y0n) (e:Ending) (w':World):Prop:=
 e = .returned (.tuple #[])∧K7 w' B g r.s∧X5 w' gp (Z1 r.mq Z2 Z2 Z2)∧w0.grownBy w' (some g)∧gp<w'.heap.size
theorem Y3d {w:World}{g:Nat}(h:g<w.heap.size) (a:Addr) (v:Value):g<(w.setCell a v).heap.size:=by rw[V1];exact h
theorem Q7l (f:UInt8):bits BinOp.and IntKind.i64 ((f.toNat:Int)/8) 3=((f >>> 3&&&3).toNat:Int):=by
 have h:=f.toNat_lt;have e:(f.toNat:Int)/8=((f.toNat/8:Nat):Int):=by omega
 rw[e];have:=Z1d (f.toNat/8) 3 (by omega) (by omega);rw[show ((3:Nat):Int)=3 from rfl] at this;rw[this]
 congr 1
 rw[UInt8.toNat_and,UInt8.toNat_shiftRight];rw[Nat.shiftRight_eq_div_pow];rfl
theorem Q5l (u:Int) (x y:Operand) (w:World):(do eqGuard .shr 3 x y (iz u) (.int .u64 3);binOp .shr 3 (iz u) (.int .u64 3):Sem Value).run Tryz.prog w = .ok (iz (u/8)) w:=by
 simp[go_sem]
theorem Y6w (f:UInt8) (n:Nat) (hn:n<256) (x y:Operand) (w:World):(do eqGuard .neq 3 x y (iz (bits .and .i64 (f.toNat:Int) (n:Int))) (iz 0);binOp .neq 3 (iz (bits .and .i64 (f.toNat:Int) (n:Int))) (iz 0):Sem Value).run Tryz.prog w = .ok (.bool (U4 f (UInt8.ofNat n))) w:=
 Q3c _ _ _ (X2v f n hn).symm _ _ _
theorem J6f (B g gp:Nat) (s:Rd) (w0 w:World) (hR:K7 w B g s) (hC:X5 w gp (Z1 (N6 1) Z2 Z2 Z2)) (hG:w0.grownBy w (some g)) (hp:w0.heap.size≤gp) (hB:B≤gp) (hne:gp≠g) (hlt:gp<w.heap.size):
  Calls Tryz.prog 139 #[pz g,pz gp] w (Q3d w0 B g gp (Y1p s)):=by
 obtain⟨r,hr⟩:∃r,Y1p s=r:=⟨_,rfl⟩;obtain⟨s1,e1⟩:∃x,(Z0i s 7).2=x:=⟨_,rfl⟩;obtain⟨f,hf⟩:∃f,(T3 s1).1=f:=⟨_,rfl⟩;obtain⟨s2,e2⟩:∃x,(T3 s1).2=x:=⟨_,rfl⟩;obtain⟨k,hk⟩:∃x,M4 s2=x:=⟨_,rfl⟩;obtain⟨c,hc⟩:∃x,W3 k.2=x:=⟨_,rfl⟩;obtain⟨t,ht⟩:∃x,W3 c.2=x:=⟨_,rfl⟩;obtain⟨y,hy⟩:∃x,W3 t.2=x:=⟨_,rfl⟩;obtain⟨s5,e5⟩:∃x,(if U4 f 4 then y.2 else c.2)=x:=⟨_,rfl⟩;obtain⟨u,hu⟩:∃x,W3 s5=x:=⟨_,rfl⟩;obtain⟨s6,e6⟩:∃x,(if U4 f 128 then u.2 else s5)=x:=⟨_,rfl⟩;obtain⟨q,hq⟩:∃x,W3 s6=x:=⟨_,rfl⟩;obtain⟨s7,e7⟩:∃x,(if U4 f 64 then q.2 else s6)=x:=⟨_,rfl⟩;have hr':r=⟨f,k,c,t,y,u,q,s7⟩:=by
  subst hr e1 hf e2 hk hc ht hy e5 hu e6 hq e7;rfl
 rw[hr];clear hr;go_enter Tryz.func139,Tryz.ntmps139;refine Z9.start 72 [(0,pz g),(1,pz gp)] rfl rfl ⟨rfl,rfl,trivial⟩ ?_;intro a0 H0;have R0:Rst w0 B g gp s (Z1 (N6 1) Z2 Z2 Z2) w:=⟨hR,hC,hG,hp,hB,hne,hlt⟩;refine H0.rg 1 fun a1 H1=>?_;refine H1.cl (R:=fun _ w'=>K7 w' B g s1∧w.grownBy w' (some g)) ((Y1q B g s 7 7 rfl (by omega) w R0.rd).mono ?_) ?_
 ·rintro _ _ ⟨_,_,rfl,_,_,_,h1,h2⟩
  exact⟨_,rfl,e1▸h1,h2⟩
 rintro a2 v2 w2 ⟨h1,h2⟩ H2;have R2:=R0.call h1 h2;refine nt ?_;refine H2.rg 1 fun a3 H3=>?_;refine H3.rc R2 1 (Z9w B g _ _ R2.rd) fun a4 w4 R4 H4=>nt ?_;rw[e2] at R4;rw[hf] at H4;refine H4.rg 2 fun a5 H5=>?_;refine H5.rc R4 2 (Z5u B g _ _ R4.rd) fun a6 w6 R6 H6=>?_;refine H6.si R6 0 fun a7 w7 R7 H7=>nt ?_;rw[hk] at R7;refine H7.rg 2 fun a8 H8=>?_;refine H8.rc R7 2 (Z3p B g _ _ R7.rd) fun a9 w9 R9 H9=>?_;refine H9.ss R9 0 fun b1 x1 R10 H10=>nt ?_;rw[hc] at R10;refine H10.rg 4 fun b2 H11=>?_;refine H11.bn 0 (Y1x _ _ _ _ _) fun b3 H12=>?_;refine H12.bn 1 (Y6w f 2 (by omega) _ _ _) fun b4 H13=>?_;refine H13.bn 0 (Y1x _ _ _ _ _) fun b5 H14=>?_;refine H14.bn 1 (Y6w f 64 (by omega) _ _ _) fun b6 H15=>?_;refine H15.bn 0 (Y1x _ _ _ _ _) fun b7 H16=>?_;refine H16.bn 2 (Y6w f 128 (by omega) _ _ _) fun b8 H17=>?_;refine H17.sb R10 2 fun b9 x9 R11 H18=>?_;refine H18.sb R11 2 fun c1 y1 R12 H19=>?_;refine H19.sb R12 0 fun c2 y2 R13 H20=>nt ?_;have R14:=R13.is (L':=Z1 { N6 1 with keep:=k.1,client:=c.1,clean:=U4 f 2,hp:=U4 f 64,hu:=U4 f 128 } Z2 Z2 Z2) rfl rfl;clear R0 R2 R4 R6 R7 R9 R10 R11 R12 R13;refine Z8 (fun a w'=>Z9 a 72 [(0,pz g),(1,pz gp)]∧Rst w0 B g gp s5 (Z1 { N6 1 with keep:=k.1,client:=c.1,clean:=U4 f 2,hp:=U4 f 64,hu:=U4 f 128,won:=U4 f 4,wt:=(if U4 f 4 then t.1 else nos),wp:=(if U4 f 4 then y.1 else nos),wq:=(if U4 f 4 then ((f >>> 3&&&3).toNat:Int) else 0),wr:=(U4 f 4&&U4 f 32) } Z2 Z2 Z2) w') ?_ ?_
 ·refine H20.rg 1 fun c3 H21=>?_
  refine H21.bn 0 (Y1x _ _ _ _ _) fun c4 H22=>?_;refine H22.bn 0 (Y6w f 4 (by omega) _ _ _) fun c5 H23=>nt ?_;refine H23.cond (t:=U4 f 4) rfl ?_;cases b4:U4 f 4 with
  |true=>
   rw[b4,if_pos rfl] at e5;refine(H23.kp [0,1,4]).rg 2 fun c6 H24=>?_;refine H24.rc R14 1 (Z3p B g _ _ R14.rd) fun c7 y7 R15 H25=>?_;rw[ht] at R15 H25;refine H25.rc R15 1 (Z3p B g _ _ R15.rd) fun c8 y8 R16 H26=>?_;rw[hy,e5] at R16;rw[hy] at H26;refine H26.bn 0 (Q5l _ _ _ _) fun c9 H27=>?_;refine H27.bn 1 (Y1x _ _ _ _ _) fun d1 H28=>?_;refine H28.bn 0 (Y1x _ _ _ _ _) fun d2 H29=>?_;refine H29.bn 0 (Y6w f 32 (by omega) _ _ _) fun d3 H30=>?_;refine H30.any (w':=y8) gz rfl rfl (.agg #[.bool true, .string t.1, .string y.1,iz (bits .and .i64 ((f.toNat:Int)/8) 3), .bool (U4 f 32)]) (by intro cs b h;cases h) (by kernel_rfl) (by kernel_rfl) fun d4 H31=>?_;refine H31.ms 2 fun d5 H32=>?_;refine H32.sw R16 0 fun d6 z6 R17 H33=>nt ?_;exact⟨H33.keep ⟨rfl,rfl,trivial⟩,R17.is (by rw[Q7l];rfl) rfl⟩
  |false=>
   rw[b4,if_neg (by decide)] at e5;refine Z3 (Z0 ⟨H23.keep ⟨rfl,rfl,trivial⟩, ?_⟩);rw[←e5];exact R14
 rintro a0 w1 ⟨H0,R0⟩;refine Z8 (fun a w'=>Z9 a 72 [(0,pz g),(1,pz gp)]∧Rst w0 B g gp s6 (Z1 { N6 1 with keep:=k.1,client:=c.1,clean:=U4 f 2,hp:=U4 f 64,hu:=U4 f 128,won:=U4 f 4,wt:=(if U4 f 4 then t.1 else nos),wp:=(if U4 f 4 then y.1 else nos),wq:=(if U4 f 4 then ((f >>> 3&&&3).toNat:Int) else 0),wr:=(U4 f 4&&U4 f 32),user:=(if U4 f 128 then u.1 else nos) } Z2 Z2 Z2) w') ?_ ?_
 ·refine H0.rg 3 fun a1 H1=>?_
  refine H1.ld 0 (R0.lb 10) fun a2 H2=>nt ?_;refine H2.cond (t:=U4 f 128) rfl ?_;cases b4:U4 f 128 with
  |true=>
   rw[b4,if_pos rfl] at e6;refine H2.rg 2 fun a3 H3=>?_;refine H3.rc R0 2 (Z3p B g _ _ R0.rd) fun a4 w4 R4 H4=>?_;refine H4.ss R4 0 fun a5 w5 R5 H5=>nt ?_;rw[hu,e6] at R5;exact⟨H5.keep ⟨rfl,rfl,trivial⟩,R5.is (by rw[b4];rfl) rfl⟩
  |false=>
   rw[b4,if_neg (by decide)] at e6;refine Z3 (Z0 ⟨H2.keep ⟨rfl,rfl,trivial⟩, ?_⟩);exact R0.is (by rw[b4];rfl) e6
 clear R0 H0;rintro a0 w1 ⟨H0,R0⟩;refine H0.rg 3 fun a1 H1=>?_;refine H1.ld 0 (R0.lb 12) fun a2 H2=>nt ?_;refine H2.cond (t:=U4 f 64) rfl ?_;cases b4:U4 f 64 with
 |true=>
  rw[b4,if_pos rfl] at e7;refine H2.rg 2 fun a3 H3=>?_;refine H3.rc R0 2 (Z3p B g _ _ R0.rd) fun a4 w4 R4 H4=>?_;refine H4.ss R4 0 fun a5 w5 R5 H5=>?_;rw[hq,e7] at R5;refine wpList_nil (bodyPost_end (results_none rfl _ _ _) H5.df ⟨rfl, ?_⟩);rw[hr'];have R6:=R5.is (L':=Z1 (Y0n.mk f k c t y u q s7).mq Z2 Z2 Z2) (by unfold Y0n.mq;simp only[b4];rfl) rfl;exact⟨R6.rd,R6.ce,R6.gr,R6.lt⟩
 |false=>
  rw[b4,if_neg (by decide)] at e7;refine Z3 (bodyPost_end (results_none rfl _ _ _) H2.df ⟨rfl, ?_⟩);rw[hr'];have R6:=R0.is (L':=Z1 (Y0n.mk f k c t y u q s7).mq Z2 Z2 Z2) (by unfold Y0n.mq;simp only[b4];rfl) e7;exact⟨R6.rd,R6.ce,R6.gr,R6.lt⟩
end
section
open Go.RowKit
def Y6x (w0:World) (B g gp base:Nat) (r:Mq×Rd) (e:Ending) (w':World):Prop:=
 e = .returned (.tuple #[])∧K7 w' B g r.2∧w0.grownBy w' (some g)∧gp<w'.heap.size ∧
  ∃vc vw vf,X5 w' gp (Z1 r.1 vc vw vf)∧w'.ownsRow base 3 1 vc r.1.codes.length (r.1.codes.map iv)∧w'.ownsRow base 161 2 vw r.1.wishes.length (wv r.1.wishes)∧w'.ownsRow base 9 1 vf r.1.filters.length (r.1.filters.map sv)
theorem X6q (B g gp:Nat) (s:Rd) (hs:s.1.length≤1000000) (w0 w:World) (hR:K7 w B g s) (hC:X5 w gp (Z1 (N6 9) Z2 Z2 Z2)) (hG:w0.grownBy w (some g)) (hp:w0.heap.size≤gp) (hB:B≤gp) (hne:gp≠g) (hlt:gp<w.heap.size):
  Calls Tryz.prog 144 #[.pointer (some ⟨g,0,none⟩), .pointer (some ⟨gp,0,none⟩)] w (Y6x w0 B g gp w.heap.size (D8 9 ((M4 s).2.1.length+1) { N6 9 with id:=((M4 s).1:Int) } (M4 s).2)):=by
 have HP:=Lib.hid hp;have HBp:=Lib.hid hB;have HNe:=Lib.hid hne;have HC0:=Lib.hid hC;have HG0:=Lib.hid hG;have HL0:=Lib.hid hlt;have K1:=Lib.hid (Z5u B g s w hR);have HgW:Hid (g<w.heap.size):=by
  obtain⟨_,_,_,_,_,_,_,_,_,h⟩:=hR;exact h
 have HLW:Hid (gp<w.heap.size):=hlt;clear hp hB hne hC hG hlt hR;generalize hl:(M4 s).2.1.length+1=L;have hs2:(M4 s).2.1.length≤1000000:=Nat.le_trans (Z8c s) hs;generalize M4 s=t at *;obtain⟨i,s1⟩:=t;dsimp only at *;generalize hfin:D8 9 L { N6 9 with id:=(i:Int) } s1=fin;have HF:=Lib.hid hfin;have HS2:=Lib.hid hs2;have HLL:=Lib.hid hl;clear hfin hl hs2 hs;go_enter Tryz.func144,Tryz.ntmps144
 go_wp2_with fail
 (with_reducible refine K1.out.mono ?_)
 rintro _ w1 ⟨rfl,hR1,hg1⟩;have HC1:=Lib.hid (HC0.out.kept hg1 HL0.out (by simpa using HNe.out));have c1:=HC1.out.get 20 _ rfl;have f1:=HC1.out.fr 20 rfl
 go_wp2_with fail
 go_loopg [] L (fun gk wx=>∃(l:List Int) (s':Rd) (vc:Value),K7 wx B g s'∧w0.grownBy wx (some g)∧gp<wx.heap.size∧w.heap.size≤wx.heap.size∧Hid (X5 wx gp (Z1 { N6 9 with id:=(i:Int),codes:=l } vc Z2 Z2)) ∧
  Hid (wx.ownsRow w.heap.size 3 1 vc l.length (l.map iv))∧Hid (D8 9 gk { N6 9 with id:=(i:Int),codes:=l } s'=fin)∧0<gk∧(s'.2=false→s'.1.length<gk)∧l.length+gk≤1000010)
 case atStart=>
  have hl:=HLL.out;have h2:=HS2.out;refine⟨[],s1,Z2,hR1.store (a:=⟨gp,20,none⟩) HBp.out HNe.out _,Z1e (HG0.out.trans hg1) (a:=⟨gp,20,none⟩) HP.out _,Y3d (Nat.lt_of_lt_of_le HL0.out hg1.size) _ _,by rw[V1];exact hg1.size,HC1.out.set 20 _ (by simp),World.ownsRow_nil _ _ _ _,HF.out,by omega,fun _=>by omega,by simp;omega⟩
 case round=>
  obtain⟨l,s',vc,hR,hG,hL,hW,hC,hO,hk,hgk,hl2,hll⟩:=hrel;have KM:=Lib.hid (Y5x B g s' _ hR);by_cases hm:s'.2=false∧0<s'.1.length
  ·have hMore:(!s'.2&&decide (0<s'.1.length))=true:=by rw[hm.1,decide_eq_true hm.2];rfl
   rw[hMore] at KM;obtain⟨gk,rfl⟩:∃n,gk=n+1:=⟨gk-1,by omega⟩;obtain⟨⟨x,s2⟩,e1⟩:∃r,T3 s'=r:=⟨_,rfl⟩;have hk2:D8 9 gk { N6 9 with id:=(i:Int),codes:=l++[(x.toNat:Int)] } s2=fin:=by
    have:=hk.out;unfold D8 at this;rw[if_pos hm,if_neg (by decide),if_pos rfl,e1] at this;exact this
   have hg2:s2.2=false→s2.1.length+1=s'.1.length:=by
    intro h;have:=Z9x s' (by rw[e1];exact h);rw[e1] at this;exact this.2
   have hgk2:0<gk∧(s2.2=false→s2.1.length<gk):=by
    have:=hl2 hm.1;exact⟨by omega,fun h=>by have:=hg2 h;omega⟩
   have HK:=Lib.hid hk2;have HGK:=Lib.hid hgk2;obtain⟨A,c,rfl,_,_⟩:=V3 hO.out;have hgW:=HgW.out;have hlm:l.length+1≤maxLen:=by unfold maxLen;omega
   have hlb:(l.length+1)*8≤140737488355328:=by omega
   have c0:=hC.out.get 0 _ rfl;have c15:=hC.out.get 15 _ rfl;have f15:=hC.out.fr 15 rfl;have HR:=Lib.hid hR;have HGr:=Lib.hid hG;clear hMore hk hk2 hg2 hgk2 hgk hl2 hm hR hG
   go_wp2_with (go_at_call 164;(with_reducible refine KM.out.mono ?_);rintro _ w' ⟨rfl,rfl⟩)
   clear KM
   go_region_law
    (first
     |(go_simp;go_at_call 140;(with_reducible refine(X4e B g _ e1 _ HR.out.drew).mono ?_);rintro _ w2 ⟨rfl,hR2,hg2⟩;replace hg2:=Z3t hg2;have HC2:=Lib.hid (hC.out.kept hg2 hL (by simpa using HNe.out));have c15':=HC2.out.get 15 _ rfl;have HO2:=Lib.hid (hO.out.kept hg2 (Or.inr (Ne.symm (Q1 hO.out (Or.inl hgW)))));have hW2:=Nat.le_trans hW hg2.size;have hL2:=Nat.lt_of_lt_of_le hL hg2.size)
     |(refine Z4h rfl _ _ 45 rfl w.heap.size 3 (.int .i64 0) 1 8 Tryz.underlying45 Y5y rfl (by decide) _ _ (l.map iv) (by exact rfl) (HO2.out.alloc _) _ 1 1 [iv (x.toNat:Int)] (by exact rfl) (X4.lit w2 3 [iv (x.toNat:Int)] (0,0) 1 1 rfl) (X5b _) hlm hlb (Nat.le_trans hW2 (G0 _ _).size) ?_;intro A3 c3 w3 hO3 hg3;have HC3:=Lib.hid ((HC2.out.alloc hL2 _).kept hg3 (Nat.lt_trans hL2 (T7 _ _)) (Q1 HO2.out (Or.inl HLW.out)));have c15'':=HC3.out.get 15 _ rfl;have f15'':=HC3.out.fr 15 rfl))
   all_goals
    have hL3:=Nat.lt_of_lt_of_le (Nat.lt_trans hL2 (T7 w2 (.cells #[iv (x.toNat:Int)] 3))) hg3.size;have hW3:=Nat.le_trans hW2 (Nat.le_trans (Nat.le_of_lt (T7 w2 (.cells #[iv (x.toNat:Int)] 3))) hg3.size);have hG3:w0.grownBy w3 (some g):=Z7u (HGr.out.trans hg2) HO2.out (Nat.le_trans HP.out (Nat.le_of_lt HLW.out)) _ hg3;have hR3:K7 w3 B g s2:=hR2.row_of HO2.out HgW.out _ hg3;have HO3:=Lib.hid hO3;clear hO3
    go_wp2_with fail
    go_roundg gk
    case measure=>omega
    case rel=>
     refine⟨l++[(x.toNat:Int)],s2, .slice A3 (l.length+1) c3,hR3.store (a:=⟨gp,15,none⟩) HBp.out HNe.out _,Z1e hG3 (a:=⟨gp,15,none⟩) HP.out _,Y3d hL3 _ _,by rw[V1];exact hW3, ?_, ?_,HK.out,HGK.out.1,HGK.out.2, ?_⟩
     ·exact HC3.out.set 15 _ (by simp)
     ·have:=ownsRow_setCell_below HO3.out (a:=⟨gp,15,none⟩) HLW.out (.slice A3 (l.length+1) c3)
      unfold Hid;rw[Y3k,List.length_append];exact this
     ·simp;omega
  ·have hMore:(!s'.2&&decide (0<s'.1.length))=false:=by
    rw[Bool.and_eq_false_iff];by_cases h:s'.2=false
    ·exact Or.inr (decide_eq_false fun h0=>hm ⟨h,h0⟩)
    ·exact Or.inl (by simpa using h)
   rw[hMore] at KM;obtain⟨gk,rfl⟩:∃n,gk=n+1:=⟨gk-1,by omega⟩;have hk2:=hk.out;unfold D8 at hk2;rw[if_neg hm] at hk2;have HK:=Lib.hid hk2;clear hk hk2 hm hMore
   go_wp2_with (go_at_call 164;(with_reducible refine KM.out.mono ?_);rintro _ w' ⟨rfl,rfl⟩)
   refine bodyPost_end (results_none rfl _ _ _) rfl ?_;rw[←HK.out];exact⟨rfl,hR,hG,hL,vc,Z2,Z2,hC.out,hO.out,World.ownsRow_nil _ _ _ _,World.ownsRow_nil _ _ _ _⟩
theorem X4f (B g gp:Nat) (s:Rd) (hs:s.1.length≤1000000) (w0 w:World) (hR:K7 w B g s) (hC:X5 w gp (Z1 (N6 10) Z2 Z2 Z2)) (hG:w0.grownBy w (some g)) (hp:w0.heap.size≤gp) (hB:B≤gp) (hne:gp≠g) (hlt:gp<w.heap.size):
  Calls Tryz.prog 144 #[.pointer (some ⟨g,0,none⟩), .pointer (some ⟨gp,0,none⟩)] w (Y6x w0 B g gp w.heap.size (D8 10 ((M4 s).2.1.length+1) { N6 10 with id:=((M4 s).1:Int) } (M4 s).2)):=by
 have HP:=Lib.hid hp;have HBp:=Lib.hid hB;have HNe:=Lib.hid hne;have HC0:=Lib.hid hC;have HG0:=Lib.hid hG;have HL0:=Lib.hid hlt;have K1:=Lib.hid (Z5u B g s w hR);have HgW:Hid (g<w.heap.size):=by
  obtain⟨_,_,_,_,_,_,_,_,_,h⟩:=hR;exact h
 have HLW:Hid (gp<w.heap.size):=hlt;clear hp hB hne hC hG hlt hR;generalize hl:(M4 s).2.1.length+1=L;have hs2:(M4 s).2.1.length≤1000000:=Nat.le_trans (Z8c s) hs;generalize M4 s=t at *;obtain⟨i,s1⟩:=t;dsimp only at *;generalize hfin:D8 10 L { N6 10 with id:=(i:Int) } s1=fin;have HF:=Lib.hid hfin;have HS2:=Lib.hid hs2;have HLL:=Lib.hid hl;clear hfin hl hs2 hs;go_enter Tryz.func144,Tryz.ntmps144
 go_wp2_with fail
 (with_reducible refine K1.out.mono ?_)
 rintro _ w1 ⟨rfl,hR1,hg1⟩;have HC1:=Lib.hid (HC0.out.kept hg1 HL0.out (by simpa using HNe.out));have c1:=HC1.out.get 20 _ rfl;have f1:=HC1.out.fr 20 rfl
 go_wp2_with fail
 go_loopg [] L (fun gk wx=>∃(l:List ByteArray) (s':Rd) (vc:Value),K7 wx B g s'∧w0.grownBy wx (some g)∧gp<wx.heap.size∧w.heap.size≤wx.heap.size∧Hid (X5 wx gp (Z1 { N6 10 with id:=(i:Int),filters:=l } Z2 Z2 vc)) ∧
  Hid (wx.ownsRow w.heap.size 9 1 vc l.length (l.map sv))∧Hid (D8 10 gk { N6 10 with id:=(i:Int),filters:=l } s'=fin)∧0<gk∧(s'.2=false→s'.1.length<gk)∧l.length+gk≤1000010)
 case atStart=>
  have hl:=HLL.out;have h2:=HS2.out;refine⟨[],s1,Z2,hR1.store (a:=⟨gp,20,none⟩) HBp.out HNe.out _,Z1e (HG0.out.trans hg1) (a:=⟨gp,20,none⟩) HP.out _,Y3d (Nat.lt_of_lt_of_le HL0.out hg1.size) _ _,by rw[V1];exact hg1.size,HC1.out.set 20 _ (by simp),World.ownsRow_nil _ _ _ _,HF.out,by omega,fun _=>by omega,by simp;omega⟩
 case round=>
  obtain⟨l,s',vc,hR,hG,hL,hW,hC,hO,hk,hgk,hl2,hll⟩:=hrel;have KM:=Lib.hid (Y5x B g s' _ hR);by_cases hm:s'.2=false∧0<s'.1.length
  ·have hMore:(!s'.2&&decide (0<s'.1.length))=true:=by rw[hm.1,decide_eq_true hm.2];rfl
   rw[hMore] at KM;obtain⟨gk,rfl⟩:∃n,gk=n+1:=⟨gk-1,by omega⟩;obtain⟨⟨x,s2⟩,e1⟩:∃r,W3 s'=r:=⟨_,rfl⟩;have hk2:D8 10 gk { N6 10 with id:=(i:Int),filters:=l++[x] } s2=fin:=by
    have:=hk.out;unfold D8 at this;rw[if_pos hm,if_neg (by decide),if_neg (by decide),e1] at this;exact this
   have hg2:s2.2=false→s2.1.length+2≤s'.1.length:=by
    intro h;have:=Y6a s' (by rw[e1];exact h);rw[e1] at this;exact this.2
   have hgk2:0<gk∧(s2.2=false→s2.1.length<gk):=by
    have:=hl2 hm.1;exact⟨by omega,fun h=>by have:=hg2 h;omega⟩
   have HK:=Lib.hid hk2;have HGK:=Lib.hid hgk2;obtain⟨A,c,rfl,_,_⟩:=V3 hO.out;have hgW:=HgW.out;have hlm:l.length+1≤maxLen:=by unfold maxLen;omega
   have hlb:(l.length+1)*16≤140737488355328:=by omega
   have c0:=hC.out.get 0 _ rfl;have c23:=hC.out.get 23 _ rfl;have f23:=hC.out.fr 23 rfl;have HR:=Lib.hid hR;have HGr:=Lib.hid hG;clear hMore hk hk2 hg2 hgk2 hgk hl2 hm hR hG
   go_wp2_with (go_at_call 164;(with_reducible refine KM.out.mono ?_);rintro _ w' ⟨rfl,rfl⟩)
   clear KM
   go_region_law
    (first
     |(go_simp;go_at_call 141;(with_reducible refine(Y8z B g _ e1 _ HR.out.drew).mono ?_);rintro _ w2 ⟨rfl,hR2,hg2⟩;replace hg2:=Z3t hg2;have HC2:=Lib.hid (hC.out.kept hg2 hL (by simpa using HNe.out));have c23':=HC2.out.get 23 _ rfl;have HO2:=Lib.hid (hO.out.kept hg2 (Or.inr (Ne.symm (Q1 hO.out (Or.inl hgW)))));have hW2:=Nat.le_trans hW hg2.size;have hL2:=Nat.lt_of_lt_of_le hL hg2.size)
     |(refine Z4h rfl _ _ 47 rfl w.heap.size 9 (.string ⟨#[]⟩) 1 16 Tryz.underlying47 Z9e rfl (by decide) _ _ (l.map sv) (by exact rfl) (HO2.out.alloc _) _ 1 1 [sv x] (by exact rfl) (X4.lit w2 9 [sv x] (0,0) 1 1 rfl) (X5c _) hlm hlb (Nat.le_trans hW2 (G0 _ _).size) ?_;intro A3 c3 w3 hO3 hg3;have HC3:=Lib.hid ((HC2.out.alloc hL2 _).kept hg3 (Nat.lt_trans hL2 (T7 _ _)) (Q1 HO2.out (Or.inl HLW.out)));have c23'':=HC3.out.get 23 _ rfl;have f23'':=HC3.out.fr 23 rfl))
   all_goals
    have hL3:=Nat.lt_of_lt_of_le (Nat.lt_trans hL2 (T7 w2 (.cells #[sv x] 9))) hg3.size;have hW3:=Nat.le_trans hW2 (Nat.le_trans (Nat.le_of_lt (T7 w2 (.cells #[sv x] 9))) hg3.size);have hG3:w0.grownBy w3 (some g):=Z7u (HGr.out.trans hg2) HO2.out (Nat.le_trans HP.out (Nat.le_of_lt HLW.out)) _ hg3;have hR3:K7 w3 B g s2:=hR2.row_of HO2.out HgW.out _ hg3;have HO3:=Lib.hid hO3;clear hO3
    go_wp2_with fail
    go_roundg gk
    case measure=>omega
    case rel=>
     refine⟨l++[x],s2, .slice A3 (l.length+1) c3,hR3.store (a:=⟨gp,23,none⟩) HBp.out HNe.out _,Z1e hG3 (a:=⟨gp,23,none⟩) HP.out _,Y3d hL3 _ _,by rw[V1];exact hW3, ?_, ?_,HK.out,HGK.out.1,HGK.out.2, ?_⟩
     ·exact HC3.out.set 23 _ (by simp)
     ·have:=ownsRow_setCell_below HO3.out (a:=⟨gp,23,none⟩) HLW.out (.slice A3 (l.length+1) c3)
      unfold Hid;rw[Y3l,List.length_append];exact this
     ·simp;omega
  ·have hMore:(!s'.2&&decide (0<s'.1.length))=false:=by
    rw[Bool.and_eq_false_iff];by_cases h:s'.2=false
    ·exact Or.inr (decide_eq_false fun h0=>hm ⟨h,h0⟩)
    ·exact Or.inl (by simpa using h)
   rw[hMore] at KM;obtain⟨gk,rfl⟩:∃n,gk=n+1:=⟨gk-1,by omega⟩;have hk2:=hk.out;unfold D8 at hk2;rw[if_neg hm] at hk2;have HK:=Lib.hid hk2;clear hk hk2 hm hMore
   go_wp2_with (go_at_call 164;(with_reducible refine KM.out.mono ?_);rintro _ w' ⟨rfl,rfl⟩)
   refine bodyPost_end (results_none rfl _ _ _) rfl ?_;rw[←HK.out];exact⟨rfl,hR,hG,hL,Z2,Z2,vc,hC.out,World.ownsRow_nil _ _ _ _,World.ownsRow_nil _ _ _ _,hO.out⟩
theorem X6r (B g gp:Nat) (s:Rd) (hs:s.1.length≤1000000) (w0 w:World) (hR:K7 w B g s) (hC:X5 w gp (Z1 (N6 8) Z2 Z2 Z2)) (hG:w0.grownBy w (some g)) (hp:w0.heap.size≤gp) (hB:B≤gp) (hne:gp≠g) (hlt:gp<w.heap.size):
  Calls Tryz.prog 144 #[.pointer (some ⟨g,0,none⟩), .pointer (some ⟨gp,0,none⟩)] w (Y6x w0 B g gp w.heap.size (D8 8 ((M4 s).2.1.length+1) { N6 8 with id:=((M4 s).1:Int) } (M4 s).2)):=by
 have HP:=Lib.hid hp;have HBp:=Lib.hid hB;have HNe:=Lib.hid hne;have HC0:=Lib.hid hC;have HG0:=Lib.hid hG;have HL0:=Lib.hid hlt;have K1:=Lib.hid (Z5u B g s w hR);have HgW:Hid (g<w.heap.size):=by
  obtain⟨_,_,_,_,_,_,_,_,_,h⟩:=hR;exact h
 have HLW:Hid (gp<w.heap.size):=hlt;clear hp hB hne hC hG hlt hR;generalize hl:(M4 s).2.1.length+1=L;have hs2:(M4 s).2.1.length≤1000000:=Nat.le_trans (Z8c s) hs;generalize M4 s=t at *;obtain⟨i,s1⟩:=t;dsimp only at *;generalize hfin:D8 8 L { N6 8 with id:=(i:Int) } s1=fin;have HF:=Lib.hid hfin;have HS2:=Lib.hid hs2;have HLL:=Lib.hid hl;clear hfin hl hs2 hs;go_enter Tryz.func144,Tryz.ntmps144
 go_wp2_with fail
 (with_reducible refine K1.out.mono ?_)
 rintro _ w1 ⟨rfl,hR1,hg1⟩;have HC1:=Lib.hid (HC0.out.kept hg1 HL0.out (by simpa using HNe.out));have c1:=HC1.out.get 20 _ rfl;have f1:=HC1.out.fr 20 rfl
 go_wp2_with fail
 go_loopg [] L (fun gk wx=>∃(l:List (ByteArray×Int)) (s':Rd) (vc:Value),K7 wx B g s'∧w0.grownBy wx (some g)∧gp<wx.heap.size∧w.heap.size≤wx.heap.size∧Hid (X5 wx gp (Z1 { N6 8 with id:=(i:Int),wishes:=l } Z2 vc Z2)) ∧
  Hid (wx.ownsRow w.heap.size 161 2 vc l.length (wv l))∧Hid (D8 8 gk { N6 8 with id:=(i:Int),wishes:=l } s'=fin)∧0<gk∧(s'.2=false→s'.1.length<gk)∧l.length+gk≤1000010)
 case atStart=>
  have hl:=HLL.out;have h2:=HS2.out;refine⟨[],s1,Z2,hR1.store (a:=⟨gp,20,none⟩) HBp.out HNe.out _,Z1e (HG0.out.trans hg1) (a:=⟨gp,20,none⟩) HP.out _,Y3d (Nat.lt_of_lt_of_le HL0.out hg1.size) _ _,by rw[V1];exact hg1.size,HC1.out.set 20 _ (by simp),World.ownsRow_nil _ _ _ _,HF.out,by omega,fun _=>by omega,by simp;omega⟩
 case round=>
  obtain⟨l,s',vc,hR,hG,hL,hW,hC,hO,hk,hgk,hl2,hll⟩:=hrel;have KM:=Lib.hid (Y5x B g s' _ hR);by_cases hm:s'.2=false∧0<s'.1.length
  ·have hMore:(!s'.2&&decide (0<s'.1.length))=true:=by rw[hm.1,decide_eq_true hm.2];rfl
   rw[hMore] at KM;obtain⟨gk,rfl⟩:∃n,gk=n+1:=⟨gk-1,by omega⟩;obtain⟨⟨y,s3⟩,e1⟩:∃r,W3 s'=r:=⟨_,rfl⟩;obtain⟨⟨x,s2⟩,e2⟩:∃r,T3 s3=r:=⟨_,rfl⟩;have hk2:D8 8 gk { N6 8 with id:=(i:Int),wishes:=l++[(y,(x.toNat:Int))] } s2=fin:=by
    have:=hk.out;unfold D8 at this;rw[if_pos hm,if_pos rfl,e1] at this;dsimp only at this;rw[e2] at this;exact this
   have hg2:s2.2=false→s2.1.length+3≤s'.1.length:=by
    intro h;have h3:=Z9x s3 (by rw[e2];exact h);rw[e2] at h3;have h4:=Y6a s' (by rw[e1];exact h3.1);rw[e1] at h4;have:=h3.2;have:=h4.2;dsimp only at *;omega
   have hgk2:0<gk∧(s2.2=false→s2.1.length<gk):=by
    have:=hl2 hm.1;exact⟨by omega,fun h=>by have:=hg2 h;omega⟩
   have HK:=Lib.hid hk2;have HGK:=Lib.hid hgk2;obtain⟨A,c,rfl,_,_⟩:=V3 hO.out;have hgW:=HgW.out;have hlm:l.length+1≤maxLen:=by unfold maxLen;omega
   have hlb:(l.length+1)*24≤140737488355328:=by omega
   have c0:=hC.out.get 0 _ rfl;have HR:=Lib.hid hR;have HGr:=Lib.hid hG;clear hMore hk hk2 hg2 hgk2 hgk hl2 hm hR hG
   go_wp2_with (go_at_call 164;(with_reducible refine KM.out.mono ?_);rintro _ w' ⟨rfl,rfl⟩)
   clear KM
   go_wp2_with (go_at_call 141;(with_reducible refine(Y8z B g _ e1 _ HR.out).mono ?_);rintro _ w5 ⟨rfl,hR5,hg5⟩)
   have HC5:=Lib.hid (hC.out.kept hg5 hL (by simpa using HNe.out));have c22:=HC5.out.get 22 _ rfl;have HO5:=Lib.hid (hO.out.kept hg5 (Or.inr (Ne.symm (Q1 hO.out (Or.inl hgW)))));have hW5:=Nat.le_trans hW hg5.size;have hL5:=Nat.lt_of_lt_of_le hL hg5.size;have HR5:=Lib.hid hR5;have HG5:=Lib.hid (HGr.out.trans hg5);clear hR5 hg5 hW hL HR HGr
   go_region_law
    (first
     |(go_simp;go_at_call 140;(with_reducible refine(X4e B g _ e2 _ HR5.out.drew).mono ?_);rintro _ w2 ⟨rfl,hR2,hg2⟩;replace hg2:=Z3t hg2;have HC2:=Lib.hid (HC5.out.kept hg2 hL5 (by simpa using HNe.out));have c22':=HC2.out.get 22 _ rfl;have HO2:=Lib.hid (HO5.out.kept hg2 (Or.inr (Ne.symm (Q1 HO5.out (Or.inl hgW)))));have hW2:=Nat.le_trans hW5 hg2.size;have hL2:=Nat.lt_of_lt_of_le hL5 hg2.size)
     |(refine Z4h rfl _ _ 46 rfl w.heap.size 161 (.agg #[.string ⟨#[]⟩, .int .i64 0]) 2 24 Tryz.underlying46 Y2p rfl (by decide) _ _ (wv l) (by exact rfl) (HO2.out.alloc _) _ 1 1 (wv [(y,(x.toNat:Int))]) (by exact rfl) (X4.lit w2 161 (wv [(y,(x.toNat:Int))]) (0,0) 2 1 rfl) (X5d _) hlm hlb (Nat.le_trans hW2 (G0 _ _).size) ?_;intro A3 c3 w3 hO3 hg3;have HC3:=Lib.hid ((HC2.out.alloc hL2 _).kept hg3 (Nat.lt_trans hL2 (T7 _ _)) (Q1 HO2.out (Or.inl HLW.out)));have c22'':=HC3.out.get 22 _ rfl;have f22'':=HC3.out.fr 22 rfl))
   all_goals
    have hL3:=Nat.lt_of_lt_of_le (Nat.lt_trans hL2 (T7 w2 (.cells (wv [(y,(x.toNat:Int))]).toArray 161))) hg3.size;have hW3:=Nat.le_trans hW2 (Nat.le_trans (Nat.le_of_lt (T7 w2 (.cells (wv [(y,(x.toNat:Int))]).toArray 161))) hg3.size);have hG3:w0.grownBy w3 (some g):=Z7u (HG5.out.trans hg2) HO2.out (Nat.le_trans HP.out (Nat.le_of_lt HLW.out)) _ hg3;have hR3:K7 w3 B g s2:=hR2.row_of HO2.out HgW.out _ hg3;have HO3:=Lib.hid hO3;clear hO3
    go_wp2_with fail
    go_roundg gk
    case measure=>omega
    case rel=>
     refine⟨l++[(y,(x.toNat:Int))],s2, .slice A3 (l.length+1) c3,hR3.store (a:=⟨gp,22,none⟩) HBp.out HNe.out _,Z1e hG3 (a:=⟨gp,22,none⟩) HP.out _,Y3d hL3 _ _,by rw[V1];exact hW3, ?_, ?_,HK.out,HGK.out.1,HGK.out.2, ?_⟩
     ·exact HC3.out.set 22 _ (by simp)
     ·have:=ownsRow_setCell_below HO3.out (a:=⟨gp,22,none⟩) HLW.out (.slice A3 (l.length+1) c3)
      unfold Hid;rw[Y7u,List.length_append];exact this
     ·simp;omega
  ·have hMore:(!s'.2&&decide (0<s'.1.length))=false:=by
    rw[Bool.and_eq_false_iff];by_cases h:s'.2=false
    ·exact Or.inr (decide_eq_false fun h0=>hm ⟨h,h0⟩)
    ·exact Or.inl (by simpa using h)
   rw[hMore] at KM;obtain⟨gk,rfl⟩:∃n,gk=n+1:=⟨gk-1,by omega⟩;have hk2:=hk.out;unfold D8 at hk2;rw[if_neg hm] at hk2;have HK:=Lib.hid hk2;clear hk hk2 hm hMore
   go_wp2_with (go_at_call 164;(with_reducible refine KM.out.mono ?_);rintro _ w' ⟨rfl,rfl⟩)
   refine bodyPost_end (results_none rfl _ _ _) rfl ?_;rw[←HK.out];exact⟨rfl,hR,hG,hL,Z2,vc,Z2,hC.out,World.ownsRow_nil _ _ _ _,hO.out,World.ownsRow_nil _ _ _ _⟩
end
end Go.Proofs.YtlacidnnankjlaaGreatDoor
