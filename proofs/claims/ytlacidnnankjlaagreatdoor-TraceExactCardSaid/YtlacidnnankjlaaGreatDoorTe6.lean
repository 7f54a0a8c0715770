/-
  Texts of the claim: RParse LawP FeedR Film EqMqs Gath FilmF Spoil18 SpoilN ExactW Flow RowT RowL.
-/
import Derived.Lib.LaidIn
import Derived.Lib.LaidU8T
import Derived.Test.YtlacidnnankjlaaGreatDoorTe5
namespace Go.Proofs.YtlacidnnankjlaaGreatDoor
set_option maxRecDepth 100000
set_option maxHeartbeats 25600000
section
open Go.RowKit
theorem Y9g (s:Rd):(Z2g s).2.1.length≤s.1.length:=Y7a s 2
theorem X7g (s:Rd):(S7 s).2.1.length≤s.1.length:=Nat.le_trans (Y7a _ _) (Y9g s)
theorem X4q (k:Int) (f:UInt8) (s:Rd) (h:s.1.length≤1000000):Z3l (Z2u k f s).1:=by
 unfold Z2u
 split
 ·exact Y6z Y4p _
 ·split
  ·exact⟨W2,W2,W2,W2,W2,W2,W2,(fun s hs=>by cases hs),(fun s hs=>by cases hs)⟩
  ·split
   ·have h1:=Y9g (S7 s).2
    have h2:=X7g s;refine⟨W2,W2,W2,W2,W2,Y4p s, ?_,(fun s hs=>by cases hs),(fun s hs=>by cases hs)⟩;show (mkS _).size≤_;rw[Y1y]
    split<;>omega
   ·split
    ·exact Z6e k
    ·exact X4h k 8 _ _ ⟨W2,W2,W2,W2,W2,W2,W2,(fun s hs=>by cases hs),(fun s hs=>by cases hs)⟩
theorem X7h (k:Int) (f:UInt8) (s:Rd):Z3s (Z2u k f s).1 8:=by
 have z:∀m:Mq,m.codes=[]→m.wishes=[]→m.filters=[]→Z3s m 8:=fun m a b c=>by unfold Z3s;rw[a,b,c];exact⟨Nat.zero_le _,Nat.zero_le _,Nat.zero_le _⟩
 unfold Z2u
 split
 ·exact z _ rfl rfl rfl
 ·split
  ·exact z _ rfl rfl rfl
  ·split
   ·exact z _ rfl rfl rfl
   ·split
    ·exact z _ rfl rfl rfl
    ·have:=X6w k 8 { N6 k with id:=((Z2g s).1:Int) } (Z2g s).2 0 ⟨Nat.zero_le _,Nat.zero_le _,Nat.zero_le _⟩
     rw[Nat.zero_add] at this;exact this
def X7i (xs:List UInt8) (w:World) (e:Ending) (w':World):Prop:=
 ∃m n er vc vw vf,Z0a xs m n er∧e = .returned (.tuple #[.agg (Z1 m vc vw vf).toArray,iz n,iz er])∧(N1 w' w.heap.size m vc vw vf∧Z3s m 8)∧Z3l m∧Below w.heap.size w w'
theorem Q6e (xs ys:List UInt8) (u v:Value) (b:Bool) (h:decide (xs=ys)=b) (w:World) (hu:K0 xs u w) (hv:K0 ys v w) (hn:xs.length≤maxLen):
  Calls Tryz.prog 29 #[u,v] w fun e w'=>e = .returned (.bool b)∧Below w.heap.size w w':=by
 obtain⟨A,c,rfl,ha⟩:=hu;obtain⟨B,d,rfl,hb⟩:=hv;subst h;refine(Y3h xs ys A B c d w ha hb hn).mono ?_;rintro e w' ⟨rfl,n,rfl⟩;exact⟨rfl,Z6g (Below.refl _ _) n⟩
theorem J7d (f:UInt8) (ys:List UInt8) (n c:Nat) (A:Option Addr) (hl:ys.length=n) (hc:n≤c) (r:Mq×Rd) (hr:r=Z2u ((f.toNat/16:Nat):Int) f (ys,false)) (w:World) (hx:RB w w.heap.size A ys):
  Calls Tryz.prog 129 #[.int .u8 (f.toNat:Int), .slice A n c] w fun e w'=>∃v,e = .returned v∧(∃vc vw vf,v = .tuple #[.agg (Z1 r.1 vc vw vf).toArray, .bool (!r.2.2)]∧Below w.heap.size w w'∧N1 w' w.heap.size r.1 vc vw vf):=by
 have e16:((f.toNat/16:Nat):Int)=(f.toNat:Int)/16:=by omega
 rw[e16] at hr;subst hr;refine(Q0a f ys n c A hl hc w hx).mono ?_;rintro e w' ⟨vc,vw,vf,rfl,hb,h3⟩;exact⟨_,rfl,vc,vw,vf,rfl,hb,h3⟩
theorem Q1d (u v:Int) (b:Bool) (h:decide (u<v)=b) (x y:Operand) (w:World):(do eqGuard .lss 5 x y (.int .u8 u) (.int .u8 v);binOp .lss 5 (.int .u8 u) (.int .u8 v):Sem Value).run Tryz.prog w = .ok (.bool b) w:=by
 subst h;simp[go_sem]
theorem Q6f (n:Nat):((n:Int)==0)=decide (n=0):=by
 rw[Bool.eq_iff_iff,beq_iff_eq,decide_eq_true_eq];omega
theorem J7e (xs:List UInt8) (A:Option Addr) (c:Nat) (hc:xs.length≤c) (w:World) (hr:RB w w.heap.size A xs) (hl:xs.length≤140737488351232) (hT:Wd w):
  Calls Tryz.prog 101 #[.slice A xs.length c] w (X7i xs w):=by
 go_enter Tryz.func101,Tryz.ntmps101
 refine Z9.start 100 [(0, .slice A xs.length c)] rfl rfl ⟨rfl,trivial⟩ ?_;intro a0 H0;have O0:=X0.start w;refine rl ?_;refine H0.al O0 2 Z0v fun a3 w1 O1 H3=>nt ?_;by_cases h0:xs.length=0
 ·skip
  refine H3.rg 1 fun a4 H4=>?_;refine H4.len gz rfl rfl rfl rfl Tryz.underlying31 ?_;intro a5 H5;refine H5.bb 0 rfl rfl rfl rfl rfl rfl (Z7 _ _ true (by rw[h0];rfl) _ _ _) rfl fun a6 H6=>nt ?_;refine H6.condT rfl ?_;refine rl ?_;refine H6.any (w':=w1) gz rfl rfl (.agg (Z1 (N6 0) Z2 Z2 Z2).toArray) (by intro cs b h;cases h) (by kernel_rfl) (by kernel_rfl) ?_;intro a7 H7;refine H7.st O1 0 2 (hi:=size_mq) fun a10 w2 O2 H10=>nt ?_;refine wp_ret ?_;repeat with_reducible first |apply Z4 |apply Z5
  refine bodyPost_ret (L5 Tryz.results101 _ (H10.at_ 2 _ rfl) (H10.at_ 3 _ rfl) (H10.at_ 4 _ rfl) (O2.get 0 rfl) Tryz.underlying49 rfl size_mq rfl) H10.df ?_;exact⟨N6 0,0,7,Z2,Z2,Z2,Z2r (by rw[List.eq_nil_of_length_eq_zero h0]<;>rfl),rfl,⟨D9 _ _ rfl rfl rfl,Nat.zero_le _,Nat.zero_le _,Nat.zero_le _⟩,Z6e 0,O2.bel⟩
 refine H3.rg 1 fun a4 H4=>?_;refine H4.len gz rfl rfl rfl rfl Tryz.underlying31 ?_;intro a5 H5;refine H5.bb 0 rfl rfl rfl rfl rfl rfl (Z7 _ _ false (by rw[beq_eq_false_iff_ne];omega) _ _ _) rfl fun a6 H6=>nt ?_;refine H6.condF rfl ?_;refine Z3 ?_;refine Z0 ?_;refine H6.rg 2 fun a8 H8=>nt ?_;refine Z8 (fun a w'=>∃(k n:Nat) (x:UInt8),k≤3∧k+1<xs.length∧xs[k+1]? = some x∧n<268435456∧Z0y xs=(if x.toNat=0∧1<k+1 then .error 1 else if 1024<n+(k+1+1) then .error 2 else if (xs.drop (k+2)).length<n then .error 7 else .ok (n+(k+1+1),k+1+1))∧Z9 a 100 [(0, .slice A xs.length c),(2,pz w.heap.size),(5,iz n),(6,iz ((k+2:Nat):Int))]∧X0 w w.heap.size [(w.heap.size,(Z1 (N6 0) Z2 Z2 Z2))] w') ?_ ?_
 ·skip
  refine wp_block ?_;refine Q7 3 (fun k a w'=>∃n:Nat,n<128^k∧Z0y xs=Z2a (4-k) (k+1) n (xs.drop (k+1))∧Z9 a 100 [(0, .slice A xs.length c),(2,pz w.heap.size),(5,iz n),(6,iz ((k+1:Nat):Int))]∧X0 w w.heap.size [(w.heap.size,(Z1 (N6 0) Z2 Z2 Z2))] w') ?_ ?_
  ·refine⟨0,by decide, ?_,H8.keep ⟨rfl,rfl,rfl,rfl,trivial⟩,O1⟩
   cases xs with
   |nil=>exact absurd rfl h0
   |cons y ys=>rfl
  ·rintro k a9 w2 hk ⟨n,hn,hs,H9,O2⟩
   have hp:(128:Nat)^k≤2097152:=Nat.le_trans (Nat.pow_le_pow_right (by decide) hk) (by decide);repeat (refine wp_seq ?_)
   refine wp_block ?_;by_cases hlt:k+1<xs.length
   ·skip
    obtain⟨gb,go,x,hA,hgb,hx,hcell⟩:=RB.get (hr.below O2.bel) (k:=k+1) hlt;have hd:=Z2s xs (k+1) x hx;rw[hd] at hs;obtain⟨f,hf⟩:∃f,4-k=f+1:=⟨3-k,by omega⟩;rw[hf,Z2a] at hs;have hxb:=x.toNat_lt;have hv:x.toNat%128*128^k<128^(k+1):=by rw[Nat.pow_succ,Nat.mul_comm];exact Nat.mul_lt_mul_of_pos_left (by omega) (Nat.pow_pos (by decide))
    have hn2:n+x.toNat%128*128^k<128^(k+1):=by
     have h1:n+x.toNat%128*128^k<(x.toNat%128+1)*128^k:=by rw[Nat.add_mul,Nat.one_mul];omega
     have h2:(x.toNat%128+1)*128^k≤128*128^k:=Nat.mul_le_mul_right _ (by omega);rw[Nat.pow_succ];omega
    have hp2:(128:Nat)^(k+1)≤268435456:=Nat.le_trans (Nat.pow_le_pow_right (by decide) (Nat.succ_le_succ hk)) (by decide);have hk1:k+1-1=k:=rfl;rw[hk1] at hs;refine H9.rg 2 fun a11 H11=>?_;refine H11.len gz rfl rfl rfl rfl Tryz.underlying31 ?_;intro a12 H12;refine H12.bb 0 rfl rfl rfl rfl rfl rfl (Z6k _ _ false (by simp;omega) _ _ _) rfl fun a13 H13=>nt ?_;refine H13.condF rfl ?_;refine Z3 ?_;refine Z0 ?_;refine H13.rg 3 fun a16 H16=>?_;refine H16.index gz rfl rfl rfl rfl rfl (show (Instr.indexAt 31 (.slice A xs.length c) (iz ((k+1:Nat):Int))).run Tryz.prog _ = .ok (.pointer (some ⟨gb,go+(k+1),none⟩)) _ by rw[hA];exact U7 31 Tryz.underlying31 (fun _=>by kernel_rfl) _ _ _ _ _ hlt _) ?_;intro a17 H17;refine H17.ld 0 (U3 _ _ _ _ hcell) fun a18 H18=>?_;refine H18.bn 0 (J6c x _ _ _) fun a19 H19=>?_;refine H19.conv gz rfl rfl rfl rfl (Y4m _ (by omega) _) ?_;intro a20 H20;refine H20.ms 1 fun a21 H21=>?_;refine H21.bn 0 (Y6v k _ _ _) fun a22 H22=>?_;refine H22.bn 0 (Q5j k hk _ _ _) fun a23 H23=>?_;refine H23.bb 0 rfl rfl rfl rfl rfl rfl (Q5k _ k (by omega) hk _ _ _) rfl fun a24 H24=>?_;refine H24.bb 1 rfl rfl rfl rfl rfl rfl (Y7i _ _ (by omega) (by omega) _ _ _) rfl fun a26 H26=>nt ?_;rw[J6d n _ k hn] at H26;refine H26.rg 1 fun a27 H27=>?_;refine H27.bb 1 rfl rfl rfl rfl rfl rfl (E7 _ (by omega) _ _ _) rfl fun a29 H29=>nt ?_;by_cases hge:128≤x.toNat
    ·skip
     rw[if_pos hge] at hs;refine H29.rg 2 fun a31 H31=>?_;refine H31.bn 0 (Y6v (k+1) _ _ _) fun a32 H32=>?_;refine H32.index gz rfl rfl rfl rfl rfl (show (Instr.indexAt 31 (.slice A xs.length c) (iz (IntKind.i64.wrap ((k+1:Nat):Int)))).run Tryz.prog _ = .ok (.pointer (some ⟨gb,go+(k+1),none⟩)) _ by rw[IntWalk.i64_in _ (by omega),hA];exact U7 31 Tryz.underlying31 (fun _=>by kernel_rfl) _ _ _ _ _ hlt _) ?_;intro a33 H33;refine H33.ld 0 (U3 _ _ _ _ hcell) fun a34 H34=>?_;refine H34.bb 0 rfl rfl rfl rfl rfl rfl (Q1d _ _ false (by simp;omega) _ _ _) rfl fun a35 H35=>nt ?_;refine H35.condF rfl ?_;refine Z3 ?_;refine Z0 ?_;by_cases h4:k=3
     ·skip
      rw[if_pos (by omega)] at hs;refine H35.rg 1 fun a36 H36=>?_;refine H36.bb 0 rfl rfl rfl rfl rfl rfl (Z7 _ _ true (by subst h4;rfl) _ _ _) rfl fun a37 H37=>nt ?_;refine H37.condT rfl ?_;refine rl ?_;refine H37.any (w':=w2) gz rfl rfl (.agg (Z1 (N6 0) Z2 Z2 Z2).toArray) (by intro cs b h;cases h) (by kernel_rfl) (by kernel_rfl) ?_;intro a38 H38;refine H38.st O2 0 2 (hi:=size_mq) fun a41 w3 O3 H41=>nt ?_;refine wp_ret ?_;repeat with_reducible first |apply Z4 |apply Z5
      refine bodyPost_ret (L5 Tryz.results101 _ (H41.at_ 2 _ rfl) (H41.at_ 3 _ rfl) (H41.at_ 4 _ rfl) (O3.get 0 rfl) Tryz.underlying49 rfl size_mq rfl) H41.df ?_;exact⟨N6 0,0,1,Z2,Z2,Z2,Z2r (hs),rfl,⟨D9 _ _ rfl rfl rfl,Nat.zero_le _,Nat.zero_le _,Nat.zero_le _⟩,Z6e 0,O3.bel⟩
     ·skip
      rw[if_neg (by omega)] at hs;refine H35.rg 1 fun a36 H36=>?_;refine H36.bb 0 rfl rfl rfl rfl rfl rfl (Z7 _ _ false (by rw[beq_eq_false_iff_ne];omega) _ _ _) rfl fun a37 H37=>nt ?_;refine H37.condF rfl ?_;refine Z3 ?_;refine Z6 ?_;exact⟨by omega,_,hn2,(by rw[hs,show 4-(k+1)=f by omega]),H37.keep ⟨rfl,rfl,rfl,rfl,trivial⟩,O2⟩
    ·skip
     rw[if_neg hge] at hs;refine H29.rg 2 fun a31 H31=>?_;refine H31.bn 0 (Y6v (k+1) _ _ _) fun a32 H32=>?_;refine H32.index gz rfl rfl rfl rfl rfl (show (Instr.indexAt 31 (.slice A xs.length c) (iz (IntKind.i64.wrap ((k+1:Nat):Int)))).run Tryz.prog _ = .ok (.pointer (some ⟨gb,go+(k+1),none⟩)) _ by rw[IntWalk.i64_in _ (by omega),hA];exact U7 31 Tryz.underlying31 (fun _=>by kernel_rfl) _ _ _ _ _ hlt _) ?_;intro a33 H33;refine H33.ld 0 (U3 _ _ _ _ hcell) fun a34 H34=>?_;refine H34.bb 0 rfl rfl rfl rfl rfl rfl (Q1d _ _ true (by simp;omega) _ _ _) rfl fun a35 H35=>nt ?_;refine H35.condT rfl ?_;refine wp_exit ?_;repeat (with_reducible refine J7 ?_)
     refine X5j rfl ?_;repeat (with_reducible refine J7 ?_)
     refine X3 ?_;refine Z0 ?_;exact⟨k,_,x,hk,hlt,hx,by omega,hs,H35.keep ⟨rfl,rfl,rfl,rfl,trivial⟩,O2⟩
   ·skip
    rw[List.drop_eq_nil_of_le (by omega)] at hs;have hs7:Z0y xs = .error 7:=by rw[hs];cases (4-k)<;>rfl
    refine H9.rg 2 fun a11 H11=>?_;refine H11.len gz rfl rfl rfl rfl Tryz.underlying31 ?_;intro a12 H12;refine H12.bb 0 rfl rfl rfl rfl rfl rfl (Z6k _ _ true (by simp;omega) _ _ _) rfl fun a13 H13=>nt ?_;refine H13.condT rfl ?_;refine rl ?_;refine H13.any (w':=w2) gz rfl rfl (.agg (Z1 (N6 0) Z2 Z2 Z2).toArray) (by intro cs b h;cases h) (by kernel_rfl) (by kernel_rfl) ?_;intro a14 H14;refine H14.st O2 0 2 (hi:=size_mq) fun a17 w3 O3 H17=>nt ?_;refine wp_ret ?_;repeat with_reducible first |apply Z4 |apply Z5
    refine bodyPost_ret (L5 Tryz.results101 _ (H17.at_ 2 _ rfl) (H17.at_ 3 _ rfl) (H17.at_ 4 _ rfl) (O3.get 0 rfl) Tryz.underlying49 rfl size_mq rfl) H17.df ?_;exact⟨N6 0,0,7,Z2,Z2,Z2,Z2r (hs7),rfl,⟨D9 _ _ rfl rfl rfl,Nat.zero_le _,Nat.zero_le _,Nat.zero_le _⟩,Z6e 0,O3.bel⟩
 rintro a9 w2 ⟨k,n,x,hk,hlt,hx,hnb,hs,H9,O2⟩;obtain⟨gb,go,x',hA,hgb,hx',hcell⟩:=RB.get (hr.below O2.bel) (k:=k+1) hlt;rw[hx] at hx';injection hx' with hx'
 subst hx';refine rl ?_;refine V8 3 (fun a' w'=>∃b,decide (2<k+2)=b∧Z9 a' 100 [(0, .slice A xs.length c),(2,pz w.heap.size),(5,iz n),(6,iz ((k+2:Nat):Int)),(43, .bool b)]∧X0 w w.heap.size [(w.heap.size,(Z1 (N6 0) Z2 Z2 Z2))] w') ?_ ?_
 ·skip
  refine H9.ms 1 fun a10 H10=>?_;refine H10.bb 1 rfl rfl rfl rfl rfl rfl (S0 _ _ (decide (2<k+2)) (by simp;omega) _ _ _) rfl fun a12 H12=>?_;exact nt ⟨_,by rfl,H12.keep ⟨rfl,rfl,rfl,rfl,rfl,trivial⟩,O2⟩
 rintro a10 w3 ⟨v43,q43,H10,O3⟩;refine V8 7 (fun a' w'=>∃b,(decide (2<k+2)&&decide (x.toNat=0))=b∧Z9 a' 100 [(0, .slice A xs.length c),(2,pz w.heap.size),(5,iz n),(6,iz ((k+2:Nat):Int)),(50, .bool b)]∧X0 w w.heap.size [(w.heap.size,(Z1 (N6 0) Z2 Z2 Z2))] w') ?_ ?_
 ·skip
  cases v43 with
  |false=>
   refine H10.offs 6 rfl ?_;intro a11 H11;refine H11.pick gz rfl rfl rfl rfl rfl ?_;intro a12 H12;exact nt ⟨_,by rw[q43]<;>rfl,H12.keep ⟨rfl,rfl,rfl,rfl,rfl,trivial⟩,O3⟩
  |true=>
   refine H10.move (H10.wt rfl rfl rfl) (.inl rfl) rfl rfl rfl ?_;intro a11 H11;refine H11.move (H11.wt rfl rfl rfl) (.inl rfl) rfl rfl rfl ?_;intro a12 H12;refine H12.bin (H12.wt rfl rfl rfl) rfl rfl rfl rfl rfl (Y6v (k+1) _ _ _) ?_;intro a13 H13;refine H13.index (H13.wt rfl rfl rfl) rfl rfl rfl rfl rfl (show (Instr.indexAt 31 (.slice A xs.length c) (iz (IntKind.i64.wrap ((k+1:Nat):Int)))).run Tryz.prog _ = .ok (.pointer (some ⟨gb,go+(k+1),none⟩)) _ by rw[IntWalk.i64_in _ (by omega),hA];exact U7 31 Tryz.underlying31 (fun _=>by kernel_rfl) _ _ _ _ _ hlt _) ?_;intro a14 H14;refine H14.load (H14.wt rfl rfl rfl) rfl rfl rfl rfl (U3 _ _ _ _ ((T6 O3.bel hgb).trans ((T6 O2.bel hgb).symm.trans hcell))) ?_;intro a15 H15;refine H15.bin (H15.wt rfl rfl rfl) rfl rfl rfl rfl rfl (X8g _ _ (decide (x.toNat=0)) (Q6f _) _ _ _) ?_;intro a16 H16;refine H16.pick gz rfl rfl rfl rfl rfl ?_;intro a17 H17;exact nt ⟨_,by rw[q43]<;>rfl,H17.keep ⟨rfl,rfl,rfl,rfl,rfl,trivial⟩,O3⟩
 rintro a11 w4 ⟨v50,q50,H11,O4⟩;refine nt ?_;cases v50 with
 |true=>
  simp only[Bool.and_eq_true,decide_eq_true_eq] at q50;rw[if_pos ⟨q50.2,by omega⟩] at hs;refine H11.condT rfl ?_;refine rl ?_;refine H11.any (w':=w4) gz rfl rfl (.agg (Z1 (N6 0) Z2 Z2 Z2).toArray) (by intro cs b h;cases h) (by kernel_rfl) (by kernel_rfl) ?_;intro a12 H12;refine H12.st O4 0 2 (hi:=size_mq) fun a15 w5 O5 H15=>nt ?_;refine wp_ret ?_;repeat with_reducible first |apply Z4 |apply Z5
  refine bodyPost_ret (L5 Tryz.results101 _ (H15.at_ 2 _ rfl) (H15.at_ 3 _ rfl) (H15.at_ 4 _ rfl) (O5.get 0 rfl) Tryz.underlying49 rfl size_mq rfl) H15.df ?_;exact⟨N6 0,0,1,Z2,Z2,Z2,Z2r (hs),rfl,⟨D9 _ _ rfl rfl rfl,Nat.zero_le _,Nat.zero_le _,Nat.zero_le _⟩,Z6e 0,O5.bel⟩
 |false=>
  simp only[Bool.and_eq_false_imp,decide_eq_true_eq,decide_eq_false_iff_not] at q50;rw[if_neg (fun h=>q50 (by omega) h.1)] at hs;refine H11.condF rfl ?_;refine Z3 ?_;refine Z0 ?_;by_cases hbig:1024<n+(k+1+1)
  ·skip
   rw[if_pos hbig] at hs;refine H11.rg 2 fun a13 H13=>?_;refine H13.bb 0 rfl rfl rfl rfl rfl rfl (Z7p _ _ (by omega) _ _ _) rfl fun a14 H14=>?_;refine H14.bb 0 rfl rfl rfl rfl rfl rfl (S0 _ _ true (by simp;omega) _ _ _) rfl fun a15 H15=>nt ?_;refine H15.condT rfl ?_;refine rl ?_;refine H15.any (w':=w4) gz rfl rfl (.agg (Z1 (N6 0) Z2 Z2 Z2).toArray) (by intro cs b h;cases h) (by kernel_rfl) (by kernel_rfl) ?_;intro a16 H16;refine H16.st O4 0 2 (hi:=size_mq) fun a19 w5 O5 H19=>nt ?_;refine wp_ret ?_;repeat with_reducible first |apply Z4 |apply Z5
   refine bodyPost_ret (L5 Tryz.results101 _ (H19.at_ 2 _ rfl) (H19.at_ 3 _ rfl) (H19.at_ 4 _ rfl) (O5.get 0 rfl) Tryz.underlying49 rfl size_mq rfl) H19.df ?_;exact⟨N6 0,0,2,Z2,Z2,Z2,Z2r (hs),rfl,⟨D9 _ _ rfl rfl rfl,Nat.zero_le _,Nat.zero_le _,Nat.zero_le _⟩,Z6e 0,O5.bel⟩
  rw[if_neg hbig] at hs;refine H11.rg 2 fun a13 H13=>?_;refine H13.bb 0 rfl rfl rfl rfl rfl rfl (Z7p _ _ (by omega) _ _ _) rfl fun a14 H14=>?_;refine H14.bb 0 rfl rfl rfl rfl rfl rfl (S0 _ _ false (by simp;omega) _ _ _) rfl fun a15 H15=>nt ?_;refine H15.condF rfl ?_;refine Z3 ?_;refine Z0 ?_;by_cases hcut:xs.length<n+(k+2)
  ·skip
   rw[if_pos (by rw[List.length_drop];omega)] at hs;refine H15.rg 1 fun a16 H16=>?_;refine H16.len gz rfl rfl rfl rfl Tryz.underlying31 ?_;intro a17 H17;refine H17.ms 2 fun a19 H19=>?_;refine H19.bb 0 rfl rfl rfl rfl rfl rfl (Z7p _ _ (by omega) _ _ _) rfl fun a20 H20=>?_;refine H20.bb 0 rfl rfl rfl rfl rfl rfl (Q3 _ _ true (by simp;omega) _ _ _) rfl fun a21 H21=>nt ?_;refine H21.condT rfl ?_;refine rl ?_;refine H21.any (w':=w4) gz rfl rfl (.agg (Z1 (N6 0) Z2 Z2 Z2).toArray) (by intro cs b h;cases h) (by kernel_rfl) (by kernel_rfl) ?_;intro a22 H22;refine H22.st O4 0 2 (hi:=size_mq) fun a25 w5 O5 H25=>nt ?_;refine wp_ret ?_;repeat with_reducible first |apply Z4 |apply Z5
   refine bodyPost_ret (L5 Tryz.results101 _ (H25.at_ 2 _ rfl) (H25.at_ 3 _ rfl) (H25.at_ 4 _ rfl) (O5.get 0 rfl) Tryz.underlying49 rfl size_mq rfl) H25.df ?_;exact⟨N6 0,0,7,Z2,Z2,Z2,Z2r (hs),rfl,⟨D9 _ _ rfl rfl rfl,Nat.zero_le _,Nat.zero_le _,Nat.zero_le _⟩,Z6e 0,O5.bel⟩
  rw[if_neg (by rw[List.length_drop];omega)] at hs;refine H15.rg 1 fun a16 H16=>?_;refine H16.len gz rfl rfl rfl rfl Tryz.underlying31 ?_;intro a17 H17;refine H17.ms 2 fun a19 H19=>?_;refine H19.bb 0 rfl rfl rfl rfl rfl rfl (Z7p _ _ (by omega) _ _ _) rfl fun a20 H20=>?_;refine H20.bb 0 rfl rfl rfl rfl rfl rfl (Q3 _ _ false (by simp;omega) _ _ _) rfl fun a21 H21=>nt ?_;refine H21.condF rfl ?_;refine Z3 ?_;refine Z0 ?_;obtain⟨t,ht⟩:∃t,k+2+n=t:=⟨_,rfl⟩;obtain⟨i,hi⟩:∃i,k+2=i:=⟨_,rfl⟩;rw[show n+(k+1+1)=t by omega,show k+1+1=i by omega] at hs;rw[hi] at H21;have hti:i+n=t:=by omega
  have hg:=Y1w hs;obtain⟨gb0,go0,y,hA0,hgb0,hy,hcell0⟩:=RB.get (hr.below O4.bel) (k:=0) (by omega);rw[Nat.add_zero] at hcell0;have hy0:xs.headD 0=y:=X9h hy;obtain⟨r,hrd⟩:∃r,r=Z2u ((y.toNat/16:Nat):Int) y ((xs.take t).drop i,false):=⟨_,rfl⟩;have hyl:((xs.take t).drop i).length=t-i:=by simp;omega
  have hsm:Z3l r.1:=by rw[hrd];exact X4q _ _ _ (by show ((xs.take t).drop i).length≤_;omega)
  have hln:Z3s r.1 8:=by rw[hrd];exact X7h _ _ _
  have hP:=X1d hs r (by rw[hy0];exact hrd);have hrS:RB w4 w4.heap.size A xs:=hr.next O4.bel;have hTS:=hT.below O4.bel;have hC2:=O4.get 0 rfl;have hl2:=O4.lt 0 rfl;have hgbS:gb0<w4.heap.size:=Nat.lt_of_lt_of_le hgb0 O4.bel.size;have H22:=H21.kp [0,2,5,6];refine H22.sg (fun w'=>(X0 w w.heap.size [(w.heap.size,zC)] w'∧Below w4.heap.size w4 w')) ⟨O4.drew,Below.drew (Below.refl _ _)⟩ [0,2,5,6] [ec 0 65 (.slice A xs.length c),ec 1 66 (.pointer (some ⟨gb0,go0,none⟩)),ec 2 67 (.int .u8 (y.toNat:Int)),ec 3 68 (.slice A xs.length c),ec 4 69 (iz i),ec 5 70 (iz i),ec 6 71 (iz n),ec 7 72 (iz t),ec 8 73 (.slice (if c=i then A else A.map (·.add i)) (t-i) (c-i)),er 13 7 [] (X5k w4.heap.size 49 zC)] rfl ?_;have KK:∀wy,(X0 w w.heap.size [(w.heap.size,zC)] wy∧Below w4.heap.size w4 wy)→_:=fun wy h=>J7d y ((xs.take t).drop i) (t-i) (c-i) (if c=i then A else A.map (·.add i)) hyl (by omega) r hrd wy (((hrS.next h.2).take t).cut (k:=i) (cap:=c) (by rw[List.length_take];omega) (by rw[List.length_take];omega));refine St.call 9 ⟨jm,jI rfl rfl rfl rfl rfl rfl fun w=>by rw[hA0];exact Y9z _ _ _ _ (by omega) w,jl fun _ h=>U3 _ _ _ _ ((T6 h.2 hgbS).trans hcell0),jm,jm,jm,jm,jB rfl rfl rfl rfl rfl rfl fun w=>by rw[←hti];exact Z7p _ _ (by omega) _ _ w,js2 fun w=>N0 A xs.length c i t hg.2.1 hg.2.2.1 hc w,ka Z0v fun _ h=>h.2.size,trivial⟩ KK ?_ (hF:=.inr fun _ _ h hb=>⟨h.1.call hb,h.2.trans (hb.mono h.2.size)⟩) (hst:=⟨fun _ _ _ hb h=>h.below hb,trivial⟩);rintro wx _ wz hh ⟨vc,vw,vf,rfl,hb,hrows⟩;have hxw:w4.heap.size≤wx.heap.size:=hh.2.size;refine nx (fun w'=>(X0 w w.heap.size [(w.heap.size,zC)] w'∧Below w4.heap.size w4 w')∧N1 w' wx.heap.size r.1 vc vw vf) [ec 10 64 (.tuple #[.agg (Z1 r.1 vc vw vf).toArray, .bool (!r.2.2)]),ec 11 75 (.agg (Z1 r.1 vc vw vf).toArray),ec 12 76 (.bool (!r.2.2))] [] ⟨⟨hh.1.call hb,hh.2.trans (hb.mono hh.2.size)⟩,hrows⟩ ?_ (hk:=D2.keeps hb ⟨fun _ _ _ hb h=>h.below hb,trivial⟩);refine St.sto 14 ⟨jm,jx,jx,ka Z0v fun _ h=>h.1.2.size,trivial⟩ ?_ (hF:=.inr fun _ _ h hb=>⟨⟨h.1.1.call hb,h.1.2.trans (hb.mono h.1.2.size)⟩,h.2.belowR hb⟩) (hst:=⟨fun _ _ _ hb h=>h.below hb,trivial⟩);rintro a wu H ⟨⟨g,e7,hg1,hg2,hC,hTy⟩,_⟩ h;have hM1:=MqL.of_rows h.2 hln (by decide);obtain⟨w',hr',hgr,hs',hC'⟩:=hC.sto (L:=Z1 r.1 vc vw vf) size_mq rfl rfl (Y0s _ (L7 h.2.1) (L7 h.2.2.1) (L7 h.2.2.2));have hg':∀{k:Nat},some g=some k→w4.heap.size≤k:=fun h=>by injection h with h;rw[←h];exact hg1
  have hwl:w.heap.size<g:=Nat.lt_of_lt_of_le hl2 hg1;have hO':X0 w w.heap.size [(g,Z1 r.1 vc vw vf),(w.heap.size,zC)] w':=⟨h.1.1.bel.grown hgr h.1.1.le fun k hk=>Nat.le_trans O4.le (hg' hk),Nat.le_trans h.1.1.le hgr.size,by simp only[List.map_cons,List.map_nil,List.nodup_cons,List.mem_singleton,List.not_mem_nil,not_false_iff,List.nodup_nil,and_true];omega,fun p hp=>by
   rcases List.mem_cons.1 hp with rfl |hp
   ·exact⟨Nat.le_of_lt hwl,by show g<_;omega,hC'⟩
   ·rw[List.mem_singleton.1 hp]
    exact⟨Nat.le_refl _,by show w.heap.size<_;omega,(h.1.1.get 0 rfl).kept hgr (h.1.1.lt 0 rfl) (by intro e;injection e with e;omega)⟩⟩
  have hM':=MqL.of_rows (h.2.typ hTy hgr) hln (by decide);refine⟨w',Q6 rfl e7 (H.ev rfl) hr',nxp (fun w'=>X0 w w.heap.size [(g,Z1 r.1 vc vw vf),(w.heap.size,zC)] w'∧MqL w' w'.heap.size r.1 vc vw vf∧Below w4.heap.size w4 w'∧N1 w' wx.heap.size r.1 vc vw vf) [ec 13 7 (pz g)] [ec 15 8 (.bool (!r.2.2))] [13] ⟨hO',hM',h.1.2.grown hgr h.1.2.size (fun k hk=>hg' hk),h.2.typ hTy hgr⟩ ⟨⟨rfl,rfl,_,rfl,e7⟩,trivial⟩ ?_⟩;refine St.fin ⟨jm,jx,trivial⟩ ?_ (hF:=.inl rfl);intro a23 w5 H23 _ hF;refine Z0 ?_;obtain⟨b1,e1⟩:∃b,r.2.2=b:=⟨_,rfl⟩;obtain⟨b2,e2⟩:∃b,Z4f r.1=b:=⟨_,rfl⟩;obtain⟨b3,e3⟩:∃b,decide (Z1j r.1=xs.take t)=b:=⟨_,rfl⟩;replace H23:=H23.keep (l':=[(0,(.slice A xs.length c)),(2,pz w.heap.size),(5,iz n),(6,iz i),(7,pz g),(8, .bool (!b1))]) ⟨rfl,rfl,rfl,rfl,rfl,congrArg (fun b=>some (Value.bool !b)) e1,trivial⟩;refine H23.dq (fun w'=>X0 w w.heap.size [(g,Z1 r.1 vc vw vf),(w.heap.size,zC)] w'∧MqL w' w'.heap.size r.1 vc vw vf∧Below w4.heap.size w4 w'∧N1 w' wx.heap.size r.1 vc vw vf) (fun _ _ h hb=>⟨h.1.call hb,h.2.1.next hb,h.2.2.1.trans (hb.mono h.2.2.1.size),h.2.2.2.belowR hb⟩) hF [0,2,5,6,7,8] rfl [ec 0 77 (.bool (!b1)),ec 1 78 (.bool b1),ec 2 79 (.bool b1),ec 3 80 (gv (!b1) ((.agg (Z1 r.1 vc vw vf).toArray))),eh 4 81 (gv (!b1) (.bool b2)),ec 5 82 (gv (!b1) (.bool (!b2))),ec 6 83 (.bool (b1||(!b2))),ec 7 84 (.bool (b1||(!b2))),ec 8 85 (gv (!(b1||(!b2))) ((.agg (Z1 r.1 vc vw vf).toArray))),er 9 86 [] (fun v w'=>b1=false→b2=true→K0 (Z1j r.1) v w'),ec 10 87 (gv (!(b1||(!b2))) ((.slice A xs.length c))),ec 11 88 (gv (!(b1||(!b2))) (iz i)),ec 12 89 (gv (!(b1||(!b2))) (iz n)),ec 13 90 (gv (!(b1||(!b2))) (iz t)),ec 14 91 (gv (!(b1||(!b2))) ((.slice A t c))),eh 15 92 (gv (!(b1||(!b2))) (.bool b3)),ec 16 93 (gv (!(b1||(!b2))) (.bool (!b3))),ec 17 94 (.bool ((b1||(!b2))||(!b3)))] rfl ⟨jm,ju (hq:=fun w=>by cases b1<;>rfl),jm,(by cases b1;exact jl fun _ h=>R1 (h.1.get 0 rfl);exact jo),(by cases b1;exact ju (hq:=G5 b2);exact jo),(by (cases b1<;>exact jp)),jm,(by cases b1;rotate_left;exact jo;cases b2;exact jo;exact jl fun _ h=>R1 (h.1.get 0 rfl)),(by cases b1;rotate_left;exact jo;cases b2;exact jo;exact jm),(by cases b1;rotate_left;exact jo;cases b2;exact jo;exact jm),(by cases b1;rotate_left;exact jo;cases b2;exact jo;exact jm),(by cases b1;rotate_left;exact jo;cases b2;exact jo;exact jB rfl rfl rfl rfl rfl rfl fun w=>by rw[←hti];exact Z7p _ _ (by omega) _ _ w),(by cases b1;rotate_left;exact jo;cases b2;exact jo;exact jh fun w=>Z4t _ _ _ _ hg.2.2.1 hc w),(by cases b1;rotate_left;exact jo;cases b2;exact jo;exact ju (hq:=G5 b3)),(by cases b1;rotate_left;exact jp;(cases b2<;>exact jp)),trivial⟩ ⟨(by cases b1;exact kb fun w' h=>e2▸Q3n r.1 _ _ _ w' h.2.1 hsm.fit (hTS.below h.2.2.1);exact ko),(by cases b1;rotate_left;exact kor fun _ h h2=>(by first |(cases h;done) |(cases h2;done));cases b2;exact kor fun _ h h2=>(by first |(cases h;done) |(cases h2;done));exact kr fun w' h=>(J7c r.1 _ _ _ w' (Y7b e2) h.2.1).mono fun _ _ ⟨v,h1,h2,h3⟩=>⟨v,h1,fun _ _=>h2.read,h3⟩),(by cases b1;rotate_left;exact ko;cases b2;exact ko;exact kC rfl rfl rfl rfl fun a w' H hk h=>⟨[a.eval (.tmp 86), .slice A t c],congrArg (fun v=>[a.eval (.tmp 86),v]) (H.ev (x:=.tmp 91) rfl),Z1f (Q6e (Z1j r.1) (xs.take t) (a.eval (.tmp 86)) _ b3 e3 w' (hk.1 rfl rfl) ⟨_,_,(by rw[List.length_take,Nat.min_eq_left hg.2.2.1]),(hrS.next h.2.2.1).take t⟩ (X7f (Y7b e2)))⟩),trivial⟩ ?_ (hst:=⟨fun _ _ _ hb h h1 h2=>(h h1 h2).below hb,trivial⟩);intro a24 w6 H24 _ ⟨O6,hM6,hb6,hR6⟩;refine Z0 (H24.cond (t:=(b1 || !b2) || !b3) rfl ?_);cases hb:(b1 || !b2) || !b3 with
  |true=>
   refine rl ?_;refine H24.any (w':=w6) gz rfl rfl (.agg (Z1 (N6 0) Z2 Z2 Z2).toArray) (by intro cs b h;cases h) (by kernel_rfl) (by kernel_rfl) fun a25 H25=>?_;refine H25.st O6 1 2 (hi:=size_mq) fun a26 w7 O7 H26=>nt (wp_ret ?_);repeat with_reducible first |apply Z4 |apply Z5
   refine bodyPost_ret (L5 Tryz.results101 _ (H26.at_ 2 _ rfl) (H26.at_ 3 _ rfl) (H26.at_ 4 _ rfl) (O7.get 1 rfl) Tryz.underlying49 rfl size_mq rfl) H26.df ?_;exact⟨N6 0,0,1,Z2,Z2,Z2,hP.2 (fun h=>by rw[←e1,←e2,←e3,h.1,(Z7o _).2 h.2.1,decide_eq_true h.2.2] at hb;cases hb),rfl,⟨D9 _ _ rfl rfl rfl,Nat.zero_le _,Nat.zero_le _,Nat.zero_le _⟩,Z6e 0,O7.bel⟩
  |false=>
   simp only[Bool.or_eq_false_iff,Bool.not_eq_false'] at hb;refine Z3 (Z0 ?_);refine rl ?_;refine H24.lm O6 0 2 fun a25 H25=>?_;refine H25.bb 0 rfl rfl rfl rfl rfl rfl (Z7p _ _ (by omega) _ _ _) rfl fun a26 H26=>?_;refine H26.storeS rfl rfl rfl rfl rfl (O6.get 1 rfl) size_mq rfl rfl (Y0s _ (L7 hR6.1) (L7 hR6.2.1) (L7 hR6.2.2)) fun a27 w7 H27 hgr hs7 hC7=>?_;refine H27.ms 2 fun a28 H28=>nt (wp_ret ?_);repeat with_reducible first |apply Z4 |apply Z5
   refine bodyPost_ret (L5 Tryz.results101 _ (H28.at_ 2 _ rfl) (H28.at_ 3 _ rfl) (H28.at_ 4 _ rfl) hC7 Tryz.underlying49 rfl size_mq rfl) H28.df ?_;exact⟨r.1,i+n,0,vc,vw,vf,(by rw[hti];exact hP.1 ⟨e1.trans hb.1.1,(Z7o _).1 (e2.trans hb.1.2),of_decide_eq_true (e3.trans hb.2)⟩),rfl,⟨N1.base (hR6.keptR hgr (hR6.far (.inl (Nat.lt_of_lt_of_le hl2 hxw)))) (Nat.le_trans O4.le hxw),hln⟩,hsm,O6.bel.grown hgr O6.le (fun k hk=>by injection hk with hk;rw[←hk];exact Nat.le_refl _)⟩
end
section
open Go.RowKit
theorem Z9.nw {ops:Array Oper}{rest rest':List Oper}{o1 o2:Oper}{a:Act}{w W:World}{B:Nat}{bs:List (Nat×List Value)}{Q:Exit→Act→World→Prop}{n:Nat}{l l':List (Nat×Value)}(H:Z9 a n l) (O:X0 W B bs w) (k:Nat) {d:Nat}{y:Operand}{L:List Value}(h1:L.all (·.oneCell')=true)
  (h:∀a' w',Below w.heap.size w w'→X0 W B ((w.heap.size,L)::bs) w'→Z9 a' n l'→wpList Tryz.prog ops Q rest' a' w') (ho:o1.op = .alloc 49:=by rfl) (hd:o1.dst=some d:=by rfl) (hn:Nat.blt d n=true:=by rfl) (hg:o1.guard=none:=by rfl)
  (ho2:o2.op = .store 49 (.tmp d) y:=by rfl) (hd2:o2.dst=none:=by rfl) (hg2:o2.guard=none:=by rfl) (hy:W1 ((d,pz w.heap.size)::l) y=some (.agg L.toArray):=by rfl) (hl:L.length=24:=by rfl)
  (hr:Z3n n k rest ((d,pz w.heap.size)::l)=some (rest',l'):=by rfl):wpList Tryz.prog ops Q (o1::o2::rest) a w:=by
 refine H.alloc hg ho hd hn _ Z0v ?_;intro a1 w1 hb hs hC H1;have O1:=O.alloc hb hs hC;refine H1.storeS hg2 ho2 hd2 (by show (bif Nat.beq d d then _ else _)=_;rw[Nat.beq_refl,cond_true]) hy hC size_mq rfl hl h1 ?_;intro a2 w2 H2 hgr hs2 hC2;exact W4 k H2 hr fun a3 H3=>h a3 w2 (hb.grown hgr hb.size (fun k hk=>by injection hk with hk;rw[←hk];exact Nat.le_refl _)) (O1.store 0 rfl hgr hs2 hC2) H3
theorem Q6g (xs:List UInt8) (A:Option Addr) (c:Nat) (w:World) (hx:RB w w.heap.size A xs) (hn:xs.length≤140737488351232):
  Calls Tryz.prog 59 #[.slice A xs.length c] w fun e w'=>∃v,e = .returned v∧Y2 w.heap.size xs v w'∧Below w.heap.size w w':=
 (Y7q xs A c w hx hn).mono fun _ _ ⟨A',c',h1,h2,h3⟩=>⟨_,h1,⟨A',c',rfl,h2⟩,h3⟩
theorem X0.bare {W w:World}{B:Nat}(hb:Below B W w) (hl:B≤w.heap.size):X0 W B [] w:=⟨hb,hl,by simp,fun p hp=>by cases hp⟩
end
section
open Go.RowKit
theorem Q1e (u v:Int) (b:Bool) (h:(u==v)=b) (x y:Operand) (w:World):(do eqGuard .eql 3 x y (.int .i64 u) (.int .i64 v);binOp .eql 3 (.int .i64 u) (.int .i64 v):Sem Value).run Tryz.prog w = .ok (.bool b) w:=by
 subst h;simp[go_sem]
theorem J1z (xs:List UInt8) (A:Option Addr) (c:Nat) (hc:xs.length≤c) (w:World) (hr:RB w w.heap.size A xs) (hl:xs.length≤140737488351232) (hT:Wd w):
  Calls Tryz.prog 101 #[.slice A xs.length c] w fun e w'=>∃v,e = .returned v∧∃m n er vc vw vf,v = .tuple #[.agg (Z1 m vc vw vf).toArray, .int .i64 ((n:Nat):Int), .int .i64 er]∧Z0a xs m n er∧(N1 w' w.heap.size m vc vw vf∧Z3s m 8)∧Z3l m∧Below w.heap.size w w':=
 (J7e xs A c hc w hr hl hT).mono fun _ _ ⟨m,n,er,vc,vw,vf,h1,h2,h3,h4⟩=>⟨_,h2,m,n,er,vc,vw,vf,rfl,h1,h3,h4⟩
def J7f (z:List UInt8) (w:World) (e:Ending) (w':World):Prop:=
 ∃l left er vP AL cL cs,Fed z l left er∧e = .returned (.tuple #[vP, .slice AL left.length cL, .int .i64 er])∧w'.ownsRow w.heap.size 49 24 vP l.length cs∧PR w' w.heap.size l cs∧RB w' w'.heap.size AL left∧Below w.heap.size w w'
structure Q3t (z:List UInt8) (W:World) (a:Act) (w:World) (y:List UInt8) (l:List Mq) (A:Option Addr) (c n:Nat) (vP:Value) (cs:List Value) (vb:Value):Prop where
 at_:Z9 a 41 [(7, .slice A n c),(8,vP)]
 hn:y.length=n
 hc:n≤c
 le:l.length*2+y.length≤z.length
 fed:∀{l2:List Mq}{left:List UInt8}{e:Int},Fed y l2 left e→Fed z (l++l2) left e
 own:X0 W W.heap.size [] w
 row:w.ownsRow W.heap.size 49 24 vP l.length cs
 pks:PR w W.heap.size l cs
 byt:w.ownsRow W.heap.size 5 1 vb z.length (z.map bv)
 rd:∀w',w'.ownsRow W.heap.size 5 1 vb z.length (z.map bv)→RB w' w'.heap.size A y
theorem Q0j (r x:List UInt8) (Ar Ax:Option Addr) (cr cx:Nat) (w:World) (hr:RB w w.heap.size Ar r) (hx:RB w w.heap.size Ax x) (hlr:r.length≤40000) (hlx:x.length≤65000) (hT:Wd w):
  Calls Tryz.prog 64 #[.slice Ar r.length cr, .slice Ax x.length cx] w (J7f (r++x) w):=by
 go_enter Tryz.func64,Tryz.ntmps64
 refine Z9.start 41 [(0, .slice Ar r.length cr),(1, .slice Ax x.length cx)] rfl rfl ⟨rfl,rfl,trivial⟩ ?_;intro a0 H0;have O0:=X0.start w;refine H0.rg 3 fun a1 H1=>nt ?_;refine H1.rg 1 fun a2 H2=>?_;refine H2.cl (Q6g r Ar cr w hr (by omega)) ?_;rintro a3 v1 w1 ⟨hv1,hb1⟩ H3;have O1:=O0.call hb1;refine H3.ms 1 fun a4 H4=>?_;refine H4.appendRow Tryz.underlying31 J4 (gz rfl) rfl rfl rfl rfl rfl hv1 ⟨Ax,cx,rfl,hx.next hb1⟩ (by omega) O1.le ?_;intro a5 v2 w2 H5 hv2 hb2 hg2;have O2:X0 w w.heap.size [] w2:=X0.bare (hb1.trans hb2) (Nat.le_trans O1.le hb2.size);obtain⟨A2,c2,rfl,hrow2⟩:=hv2;refine H5.ms 1 fun a6 H6=>nt ?_;refine H6.rg 1 fun a7 H7=>nt ?_;replace H7:=H7.kp [7,8];have hzl:(r++x).length≤105000:=by rw[List.length_append];omega
 refine wp_seq (wp_block ?_);refine Q7 (r++x).length (fun k a w'=>∃y l A c n vP cs vb,l.length=k∧Q3t (r++x) w a w' y l A c n vP cs vb) ⟨r++x,[],A2,c2,_,Z2,[],_,rfl,⟨H7,rfl,Z4s hrow2,by simp,fun h=>h,O2,World.ownsRow_nil _ _ _ _,⟨w.heap.size,O2.le, .nil (Nat.le_refl _)⟩,hrow2,fun w' h=>S4 rfl (V2 h (Nat.zero_le _)) (Nat.zero_le _)⟩⟩ ?_;clear H0 H1 H2 H3 H4 H5 H6 H7 O0 O1 O2 hv1 hb1 hb2 hg2 hrow2;rintro k a1 w1 hk ⟨y,l,A,c,n,vP,cs,vb,rfl,hI⟩;obtain⟨H1,hn,hc,hle,hF,O1,hrow,hpk,hby,hrd⟩:=hI;subst hn;have hyl:y.length≤105000:=by omega
 have hrd1:=hrd w1 hby;refine H1.rg 1 fun a2 H2=>?_;refine H2.len gz rfl rfl rfl rfl Tryz.underlying31 fun a3 H3=>?_;by_cases hy:y=[]
 ·refine H3.bb 0 rfl rfl rfl rfl rfl rfl (S0 _ _ false (by subst hy;rfl) _ _ _) rfl fun a4 H4=>nt (H4.condF rfl ?_)
  refine wp_exit ?_;repeat (with_reducible refine J7 ?_)
  refine X3 (Z0 ?_);refine H4.rg 4 fun a5 H5=>nt (wp_ret ?_);repeat with_reducible first |apply Z4 |apply Z5
  refine bodyPost_ret (U5 rfl _ _ _ _ (H5.at_ 4 _ rfl) (H5.at_ 5 _ rfl) (H5.at_ 6 _ rfl)) H5.df ?_;subst hy;exact⟨l,[],0,vP,none,0,cs,by simpa using hF .done,rfl,hrow,hpk,RB.nil,O1.bel⟩
 have hpos:0<y.length:=List.length_pos_iff.2 hy;refine H3.bb 0 rfl rfl rfl rfl rfl rfl (S0 _ _ true (by rw[decide_eq_true_iff];omega) _ _ _) rfl fun a4 H4=>nt (H4.condT rfl ?_);refine Z3 (Z0 ?_);refine wp_block ?_;refine H4.rg 1 fun a5 H5=>?_;refine H5.cl (J1z y A c hc w1 hrd1 (by omega) (hT.below O1.bel)) ?_;rintro a6 _ w2 ⟨m,nn,er,vc,vw,vf,rfl,hP,⟨hR,hln⟩,hsm,hb⟩ H6;have O2:=O1.call hb;have hM2:=MqL.of_rows hR hln (by decide);refine H6.ms 1 fun a7 H7=>?_;refine H7.ex (r:=.agg (Z1 m vc vw vf).toArray) 0 fun a8 H8=>?_;refine H8.ex (r:=.int .i64 ((nn:Nat):Int)) 0 fun a9 H9=>?_;refine H9.ex (r:=.int .i64 er) 0 fun a10 H10=>?_;refine H10.nw O2 2 hM2.ones fun a11 w3 hb3 O3 H11=>nt ?_;replace H11:=H11.kp [7,8,9,10,11];have hrow3:=Y1 (Y1 hrow hb) hb3;have hby3:=Y1 (Y1 hby hb) hb3;obtain⟨hi,hhi,hpk⟩:=hpk;have hlt2:=hR.lt;have hpk3:=(hpk.next hb).next hb3
 have hi3:hi≤w3.heap.size:=Nat.le_trans hhi (Nat.le_trans hb.size hb3.size);have hR3:=hR.belowR hb3;clear H1 H2 H3 H4 H5 H6 H7 H8 H9 H10 O1 O2 hrow hby hpk hR hrd1;refine H11.rg 1 fun a12 H12=>?_;by_cases h7:er=7
 ·subst h7
  refine H12.bb 0 rfl rfl rfl rfl rfl rfl (Q1e 7 7 true rfl _ _ _) rfl fun a13 H13=>nt (H13.condT rfl ?_);refine H13.rg 5 fun a14 H14=>nt (wp_ret ?_);repeat with_reducible first |apply Z4 |apply Z5
  refine bodyPost_ret (U5 rfl _ _ _ _ (H14.at_ 4 _ rfl) (H14.at_ 5 _ rfl) (H14.at_ 6 _ rfl)) H14.df ?_;exact⟨l,y,0,vP,A,c,cs,by simpa using hF (.part hy hP),rfl,hrow3,⟨hi,hi3,hpk3⟩,hrd w3 hby3,O3.bel⟩
 refine H12.bb 0 rfl rfl rfl rfl rfl rfl (Q1e er 7 false (by rw[beq_eq_false_iff_ne];exact h7) _ _ _) rfl fun a13 H13=>nt (H13.condF rfl ?_);refine Z3 (Z0 ?_);refine H13.rg 1 fun a14 H14=>?_;by_cases h0:er=0
 rotate_left
 ·refine H14.bb 0 rfl rfl rfl rfl rfl rfl (Z1c er 0 true (by rw[bne_iff_ne];exact h0) _ _ _) rfl fun a15 H15=>nt (H15.condT rfl ?_)
  refine H15.rg 5 fun a16 H16=>nt (wp_ret ?_);repeat with_reducible first |apply Z4 |apply Z5
  refine bodyPost_ret (U5 rfl _ _ _ _ (H16.at_ 4 _ rfl) (H16.at_ 5 _ rfl) (H16.at_ 6 _ rfl)) H16.df ?_;exact⟨l,[],er,vP,none,0,cs,by simpa using hF (.bad hy hP h0 h7),rfl,hrow3,⟨hi,hi3,hpk3⟩,RB.nil,O3.bel⟩
 subst h0;refine H14.bb 0 rfl rfl rfl rfl rfl rfl (Z1c 0 0 false rfl _ _ _) rfl fun a15 H15=>nt (H15.condF rfl ?_);refine Z3 (Z0 ?_);obtain⟨hn2,hny⟩:=Y0t hP;refine H15.rg 1 fun a16 H16=>?_;refine H16.lm O3 0 0 fun a17 H17=>?_;refine H17.any (w':=w3.alloc (.cells (Z1 m vc vw vf).toArray 49)) gz rfl rfl (.slice (some ⟨w3.heap.size,0,none⟩) 1 1) (by intro cs b h;cases h) (by kernel_rfl) (by kernel_rfl) fun a18 H18=>?_;have hl4:=X4.lit w3 49 (Z1 m vc vw vf) (0,0) 24 1 rfl;have hb4:Below w3.heap.size w3 (w3.alloc (.cells (Z1 m vc vw vf).toArray 49)):=G0 _ _;generalize w3.alloc (.cells (Z1 m vc vw vf).toArray 49)=w4 at *;obtain⟨BB,hBB,hinf⟩:=X4j;have hrow4:=Y1 hrow3 hb4;have O4:X0 w w.heap.size [] w4:=X0.bare (O3.call hb4).bel (O3.call hb4).le;refine H18.app hrow4 hinf hl4 (fun u hu=>List.all_eq_true.1 hM2.ones u hu) (by unfold maxLen;omega) (Nat.le_trans (Nat.mul_le_mul (show l.length+1≤105000 by omega) hBB) (by decide)) O4.le fun a19 A' c' w5 hO5 hgr5 H19=>?_;have O5:=O4.row hrow4 (Nat.le_refl _) hgr5 (fun p hp=>by cases hp);have hby4:=Y1 hby3 hb4;have hby5:=hby4.kept hgr5 (G8 hby4 hrow4 rfl);have hpk5:=S2.snoc ((hpk3.next hb4).row hrow4 hgr5 rfl) hhi hb.size ⟨vc,vw,vf,rfl,(hR3.belowR hb4).row hrow4 hgr5 rfl,hlt2,⟨Nat.le_trans hln.1 (by decide),Nat.le_trans hln.2.1 (by decide),Nat.le_trans hln.2.2 (by decide)⟩,hsm⟩;refine H19.ms 1 fun a20 H20=>nt ?_;refine H20.rg 2 fun a21 H21=>?_;refine H21.go gz rfl rfl _ (Z8v rfl (H21.ev rfl) (H21.ev rfl) (Z7d A y.length c nn hny hc _)) fun a22 H22=>?_;refine H22.ms 1 fun a23 H23=>wpList_nil (Z6 (Z0 ?_));exact⟨by omega,y.drop nn,l++[m],_,c-nn,y.length-nn,_,cs++Z1 m vc vw vf,vb,List.length_append,⟨H23.keep ⟨rfl,rfl,trivial⟩,List.length_drop,by omega,by rw[List.length_append,List.length_drop];simp only[List.length_singleton];omega,fun h=>by rw[List.append_assoc];exact hF (.one hy hP h),O5,by rw[List.length_append];exact hO5,⟨_,Nat.le_trans hb3.size (Nat.le_trans hb4.size hgr5.size),hpk5⟩,hby5,fun w' h=>(hrd w' h).cut (k:=nn) (cap:=c) hny hc⟩⟩
end
section
open Go.RowKit
theorem J7g (x:List UInt8) (Ax:Option Addr) (cx:Nat) (w:World) (hx:RB w w.heap.size Ax x) (hlx:x.length≤65000) (hT:Wd w):
  Calls Tryz.prog 64 #[Z2, .slice Ax x.length cx] w fun e w'=>∃v,e = .returned v∧∃l left er A c AL cL cs,v = .tuple #[.slice A l.length c, .slice AL left.length cL,iz er]∧Fed x l left er∧w'.ownsRow w.heap.size 49 24 (.slice A l.length c) l.length cs∧PR w' w.heap.size l cs∧Below w.heap.size w w':=by
 refine(Q0j [] x none Ax 0 cx w RB.nil hx (by decide) hlx hT).mono ?_;rintro e w' ⟨l,left,er,vP,AL,cL,cs,h1,h2,h3,h4,_,h6⟩;obtain⟨A,c,rfl,_,_⟩:=V3 h3;exact⟨_,h2,l,left,er,A,c,AL,cL,cs,rfl,h1,h3,h4,h6⟩
theorem X4r (l:List (List UInt8)) (AL:Option Addr) (cL:Nat) (ti port:Int) (w:World) (hL:Z2j w (fun _=>True) AL l) (hl:l.length≤100000) (hlb:∀b∈l,b.length≤140737488351232) (hT:Wd w) (hx:∀x,S1 ti port l .zero x→x.b.length≤65000) (n:Nat) (hn:l.length=n):
  Calls Tryz.prog 28 #[.slice AL n cL,iz ti,iz port] w fun e w'=>∃v,e = .returned v∧∃x k left er A c cs,v = .tuple #[.slice A k.length c,iz er]∧S1 ti port l .zero x∧Fed x.b k left er∧w'.ownsRow w.heap.size 49 24 (.slice A k.length c) k.length cs∧PR w' w.heap.size k cs∧Below w.heap.size w w':=by
 subst hn;go_enter Tryz.func28,Tryz.ntmps28;refine Z9.start 28 [(0, .slice AL l.length cL),(1,iz ti),(2,iz port)] rfl rfl ⟨rfl,rfl,rfl,trivial⟩ ?_;intro a0 H0;refine H0.rg 2 fun a H=>nt ?_;refine H.rg 3 fun a H=>?_;refine H.cl (Y6k l AL cL ti port w hL hl hlb l.length rfl) ?_;rintro a _ w1 ⟨x,A,c,rfl,hh,hok,hO,hb1⟩ H;generalize (x.rst||decide (x.nq∈x.fins))=z at H;refine H.ms 1 fun a H=>?_;refine H.ex (r:=.slice A x.b.length c) 0 fun a H=>?_;refine H.ex (r:=.bool z) 2 fun a H=>nt ?_;replace H:=H.kp [8];refine H.rg 1 fun a H=>?_;refine H.cl (J7g x.b A c w1 (S4 rfl hO hb1.size) (hx x hh) (hT.below hb1)) ?_;rintro a _ w2 ⟨k,left,er,A2,c2,AL2,cL2,cs,rfl,hF,hO2,hP2,hb2⟩ H;refine H.ms 1 fun a H=>?_;refine H.ex (r:=.slice A2 k.length c2) 0 fun a H=>?_;refine H.ex (r:=.slice AL2 left.length cL2) 0 fun a H=>?_;refine H.ex (r:=iz er) 3 fun a H=>nt ?_;replace H:=H.kp [10,12];refine H.rg 4 fun a H=>nt (wp_ret ?_);repeat with_reducible first |apply Z4 |apply Z5
 exact bodyPost_ret (V9 rfl _ _ _ (H.at_ 6 _ rfl) (H.at_ 7 _ rfl)) H.df ⟨_,rfl,x,k,left,er,A2,c2,cs,rfl,hh,hF,V2 hO2 hb1.size,hP2.base hb1.size,hb1.trans (hb2.mono hb1.size)⟩
theorem Y9h (vL:Value) (ti port:Int) (h:(inR ti 4294967295&&inR port 65535)=false) (w:World):
  Calls Tryz.prog 20 #[vL,iz ti,iz port] w fun e w'=>e = .returned (.tuple #[Z2, .bool false,iz 1])∧Below w.heap.size w w':=by
 go_enter Tryz.func20,Tryz.ntmps20
 refine Z9.start 84 [(0,vL),(1,iz ti),(2,iz port)] rfl rfl ⟨rfl,rfl,rfl,trivial⟩ ?_;intro a0 H0;obtain⟨b1,e1⟩:∃b,inR ti 4294967295=b:=⟨_,rfl⟩;obtain⟨b2,e2⟩:∃b,inR port 65535=b:=⟨_,rfl⟩;rw[e1,e2] at h;refine H0.rg 3 fun a H=>nt ?_;refine H.tb (fun w'=>Below w.heap.size w w') (fun _ _ h hb=>h.trans (hb.mono h.size)) (Below.refl _ _) [ec 0 15 (iz ti),ec 1 16 (.bool b1),ec 2 17 (.bool (!b1)),ec 3 18 (.bool (!b1)),ec 4 19 (gv b1 (iz port)),ec 5 20 (gv b1 (.bool b2)),ec 6 21 (gv b1 (.bool (!b2))),ec 7 22 (.bool (!b1 || !b2))] rfl
  ⟨jm,jq fun w' _=>e1▸J3d ti w',ju (hq:=G5 b1),jm,(by cases b1;exact jo;exact jm),(by cases b1;exact jo;exact jq fun w' _=>e2▸Y1c port w'),(by cases b1;exact jo;exact ju (hq:=G5 b2)),(by cases b1<;>exact jp),trivial⟩ ?_
 intro a w1 H hb;refine Z0 (H.cond (t:= !b1 || !b2) rfl ?_);have hz:(!b1 || !b2)=true:=by rw[←Bool.not_and,h];rfl
 rw[hz];refine H.rg 3 fun a H=>nt (wp_ret ?_);repeat with_reducible first |apply Z4 |apply Z5
 exact bodyPost_ret (U5 rfl _ _ _ _ (H.at_ 6 _ rfl) (H.at_ 7 _ rfl) (H.at_ 8 _ rfl)) H.df ⟨rfl,hb⟩
theorem X7j (vL:Value) (ti port:Int) (h:(inR ti 4294967295&&inR port 65535)=false) (w:World):
  Calls Tryz.prog 21 #[vL,iz ti,iz port] w fun e w'=>e = .returned (.tuple #[Z2,iz 1])∧Below w.heap.size w w':=by
 go_enter Tryz.func21,Tryz.ntmps21
 refine Z9.start 32 [(0,vL),(1,iz ti),(2,iz port)] rfl rfl ⟨rfl,rfl,rfl,trivial⟩ ?_;intro a0 H0;refine H0.rg 2 fun a H=>nt ?_;refine H.rg 3 fun a H=>?_;refine H.cl (Z1f (Y9h vL ti port h w)) ?_;rintro a _ w1 ⟨rfl,hb1⟩ H;refine H.ms 1 fun a H=>?_;refine H.ex (r:=Z2) 0 fun a H=>?_;refine H.ex (r:=.bool false) 0 fun a H=>?_;refine H.ex (r:=iz 1) 3 fun a H=>nt ?_;replace H:=H.kp [10];refine H.rg 1 fun a H=>?_;refine H.bb 0 rfl rfl rfl rfl rfl rfl (X8i 1 0 true rfl _ _ _) rfl fun a H=>nt (H.condT rfl ?_);refine H.rg 3 fun a H=>nt (wp_ret ?_);repeat with_reducible first |apply Z4 |apply Z5
 exact bodyPost_ret (V9 rfl _ _ _ (H.at_ 6 _ rfl) (H.at_ 7 _ rfl)) H.df ⟨rfl,hb1⟩
theorem X9k (xs:List UInt8) (n:Nat) (hn:xs.length=n) (A:Option Addr) (c:Nat) (w:World) (hx:RB w w.heap.size A xs) (hl:n≤140737488351232):
  Calls Tryz.prog 59 #[.slice A n c] w fun e w'=>∃v,e = .returned v∧∃A' c',v = .slice A' n c'∧Z5w w.heap.size xs (.slice A' n c') w'∧Below w.heap.size w w':=by
 refine(X7r xs n hn A c w hx hl).mono ?_;rintro e w' ⟨A',c',h1,h2,h3⟩;subst hn;exact⟨_,h1,A',c',rfl,Z5w.of ⟨A',c',rfl,h2⟩,h3⟩
theorem J2a (l:List (List UInt8)) (AL:Option Addr) (cL:Nat) (n:Nat) (hn:l.length=n) (w:World) (hL:Z2j w (fun _=>True) AL l) (hl:n≤100000) (hlb:∀b∈l,b.length≤140737488351232):
  Calls Tryz.prog 19 #[.slice AL n cL] w fun e w'=>∃v,e = .returned v∧∃fs A c,v = .slice A n c∧fs.map (·.2)=l∧L4 w.heap.size fs (.slice A n c) w'∧Below w.heap.size w w':=by
 subst hn;go_enter Tryz.func19,Tryz.ntmps19;refine Z9.start 20 [(0, .slice AL l.length cL)] rfl rfl ⟨rfl,trivial⟩ ?_;intro a0 H0;refine H0.rg 1 fun a H=>nt ?_;refine H.rg 1 fun a H=>nt ?_;replace H:=H.kp [0,3];refine Z8 (fun a w'=>∃fs A c,Z9 a 20 [(3, .slice A (fs:List (Value×List UInt8)).length c)]∧fs.map (·.2)=l∧L4 w.heap.size fs (.slice A fs.length c) w'∧Below w.heap.size w w') ?_ ?_
 ·refine H.rg 1 fun a H=>nt (wp_block ?_)
  refine Q7 l.length (fun k a w'=>∃fs A c,Z9 a 20 [(0, .slice AL l.length cL),(3, .slice A (fs:List (Value×List UInt8)).length c),(4,iz k)]∧fs.map (·.2)=l.take k∧L4 w.heap.size fs (.slice A fs.length c) w'∧Below w.heap.size w w') ⟨[],none,0,H.keep ⟨rfl,rfl,rfl,trivial⟩,rfl,⟨World.ownsRow_nil _ _ _ _,fun p hp=>by cases hp⟩,Below.refl _ _⟩ ?_;clear H;rintro k a w1 hk ⟨fs,A,c,H,hfs,hR,hb⟩;obtain⟨b1,e1⟩:∃b,decide ((k:Int)<((l.length:Nat):Int))=b:=⟨_,rfl⟩;refine H.rg 2 fun a H=>?_;refine H.len gz rfl rfl rfl rfl Tryz.underlying37 fun a H=>?_;refine H.bb 0 rfl rfl rfl rfl rfl rfl (Q3 _ _ b1 e1 _ _ _) rfl fun a H=>nt (H.cond (t:=b1) rfl ?_);cases b1 with
  |false=>
   have:k=l.length:=by have:=of_decide_eq_false e1;omega
   subst this;rw[List.take_length] at hfs;refine wp_exit ?_;repeat (with_reducible refine J7 ?_)
   refine X3 ?_;exact⟨fs,A,c,H.keep ⟨rfl,trivial⟩,hfs,hR,hb⟩
  |true=>
  have hlt:k<l.length:=by have:=of_decide_eq_true e1;omega
  clear e1;have hfl:fs.length=k:=by
   have:=congrArg List.length hfs;rw[List.length_map,List.length_take] at this;omega
  refine Z3 (Z0 (wp_seq (wp_block ?_)));obtain⟨b,hbk⟩:∃b,l[k]? = some b:=⟨_,List.getElem?_eq_getElem hlt⟩;have hb8:=hlb b (List.mem_of_getElem? hbk);obtain⟨gf,of,A',c',hAL,_,hgl,hck,hbc,hrb⟩:=hL k b hbk;have hix:∀w',(Instr.indexAt 37 (.slice AL l.length cL) (iz k)).run Tryz.prog w' = .ok (.pointer (some ⟨gf,of+k,none⟩)) w':=fun w'=>by rw[hAL];exact U7 37 Tryz.underlying37 (fun _=>by kernel_rfl) gf of l.length cL k hlt w'
  refine H.rg 3 fun a H=>?_;refine H.index gz rfl rfl rfl rfl rfl (hix _) fun a H=>?_;refine H.ld 0 (U8 _ _ _ _ _ _ ((hb.cell (p:=⟨gf,of+k,none⟩) hgl).trans hck)) fun a H=>?_;refine H.cl (X9k b b.length rfl A' c' w1 (hrb.rb.next hb) hb8) ?_;rintro a _ w2 ⟨A2,c2,rfl,hf,hb2⟩ H;have hne:∀q,w1.heap.size≤q→some q≠(Value.slice A fs.length c).ownBlock:=fun q hq=>Q1 hR.1 (.inr hq);replace hR:=hR.next hb2;replace hb:=hb.trans (hb2.mono hb.size);refine H.any (w':=w2.alloc (.cells ([.slice A2 b.length c2]:List Value).toArray 31)) gz rfl rfl (.slice (some ⟨w2.heap.size,0,none⟩) 1 1) (by intro cs b h;cases h) (by kernel_rfl) (by kernel_rfl) fun a H=>?_;have hb3:Below w2.heap.size w2 (w2.alloc (.cells ([.slice A2 b.length c2]:List Value).toArray 31)):=G0 _ _;have hrd:=X4.lit w2 31 [.slice A2 b.length c2] (0,0) 1 1 rfl;replace hR:=hR.next hb3;replace hf:=hf.next hb3;have hsz:w.heap.size≤(w2.alloc (.cells ([.slice A2 b.length c2]:List Value).toArray 31)).heap.size:=Nat.le_trans hb.size hb3.size;have hbb:=hb.trans (hb3.mono hb.size);generalize w2.alloc (.cells ([.slice A2 b.length c2]:List Value).toArray 31)=w3 at *;generalize w2.heap.size=g9 at H hrd;refine H.appF hR.1 X0o hrd (by intro u hu;rw[List.mem_singleton.1 hu];rfl) (by unfold maxLen;omega) (by omega) hsz fun a A4 c4 w4 hO hg hfr H=>?_;have hR4:=L4.app hR (Y1r hf X0n) hne hO hg hfr;have hb4:=hbb.grown hg hsz fun q hq=>(hR.1.lt q hq).1;have hln:(fs++[(Value.slice A2 b.length c2,b)]).length=fs.length+1:=List.length_append;refine H.ms 1 fun a H=>wpList_nil (Z6 (Z0 ?_));refine H.rg 1 fun a H=>?_;refine H.bb 1 rfl rfl rfl rfl rfl rfl (E7 k (by omega) _ _ _) rfl fun a H=>nt ?_;refine⟨hlt,fs++[(.slice A2 b.length c2,b)],A4,c4, ?_, ?_, ?_,hb4⟩
  ·rw[hln]
   exact H.keep ⟨rfl,rfl,rfl,trivial⟩
  ·rw[List.map_append,hfs,List.take_add_one,hbk]
   rfl
  ·rw[hln]
   exact hR4
 ·rintro a w1 ⟨fs,A,c,H,hfs,hR,hb⟩
  refine H.rg 2 fun a H=>nt (wp_ret ?_);repeat with_reducible first |apply Z4 |apply Z5
  have hfl:fs.length=l.length:=by rw[←hfs,List.length_map]
  rw[hfl] at H hR;exact bodyPost_ret (results_tmp rfl _ _ _) H.df ⟨_,congrArg Ending.returned (H.at_ 2 _ rfl),fs,A,c,rfl,hfs,hR,hb⟩
theorem X1l (l:List (List UInt8)) (AL BL:Option Addr) (cL dL:Nat) (n:Nat) (hn:l.length=n) (w:World) (hL:Z2j w (fun _=>True) AL l) (hM:Z2j w (fun _=>True) BL l) (hl:n≤100000) (hlb:∀b∈l,b.length≤140737488351232):
  Calls Tryz.prog 22 #[.slice AL n cL, .slice BL n dL] w fun e w'=>e = .returned (.bool true)∧Below w.heap.size w w':=by
 subst hn;go_enter Tryz.func22,Tryz.ntmps22;refine Z9.start 27 [(0, .slice AL l.length cL),(1, .slice BL l.length dL)] rfl rfl ⟨rfl,rfl,trivial⟩ ?_;intro a0 H0;refine H0.rg 1 fun a H=>nt ?_;refine H.rg 1 fun a H=>?_;refine H.len gz rfl rfl rfl rfl Tryz.underlying37 fun a H=>?_;refine H.ms 1 fun a H=>?_;refine H.len gz rfl rfl rfl rfl Tryz.underlying37 fun a H=>?_;refine H.bb 0 rfl rfl rfl rfl rfl rfl (Z1c _ _ false (by simp) _ _ _) rfl fun a H=>nt (H.condF rfl (Z3 (Z0 ?_)));replace H:=H.kp [0,1];refine Z8 (fun a w'=>Z9 a 27 []∧Below w.heap.size w w') ?_ ?_
 ·refine H.rg 1 fun a H=>nt (wp_block ?_)
  refine Q7 l.length (fun k a w'=>Z9 a 27 [(0, .slice AL l.length cL),(1, .slice BL l.length dL),(5,iz k)]∧Below w.heap.size w w') ⟨H.keep ⟨rfl,rfl,rfl,trivial⟩,Below.refl _ _⟩ ?_;clear H;rintro k a w1 hk ⟨H,hb⟩;obtain⟨b1,e1⟩:∃b,decide ((k:Int)<((l.length:Nat):Int))=b:=⟨_,rfl⟩;refine H.rg 2 fun a H=>?_;refine H.len gz rfl rfl rfl rfl Tryz.underlying37 fun a H=>?_;refine H.bb 0 rfl rfl rfl rfl rfl rfl (Q3 _ _ b1 e1 _ _ _) rfl fun a H=>nt (H.cond (t:=b1) rfl ?_);cases b1 with
  |false=>
   refine wp_exit ?_;repeat (with_reducible refine J7 ?_)
   refine X3 ?_;exact⟨H.keep trivial,hb⟩
  |true=>
  have hlt:k<l.length:=by have:=of_decide_eq_true e1;omega
  clear e1;refine Z3 (Z0 (wp_seq (wp_block ?_)));obtain⟨b,hbk⟩:∃b,l[k]? = some b:=⟨_,List.getElem?_eq_getElem hlt⟩;have hb8:=hlb b (List.mem_of_getElem? hbk);obtain⟨gf,of,A1,c1,hAL,_,hgl,hck,hbc,hrb⟩:=hL k b hbk;obtain⟨gm,om,A2,c2,hBL,_,hgm,hcm,_,hrm⟩:=hM k b hbk;have hix:∀w',(Instr.indexAt 37 (.slice AL l.length cL) (iz k)).run Tryz.prog w' = .ok (.pointer (some ⟨gf,of+k,none⟩)) w':=fun w'=>by rw[hAL];exact U7 37 Tryz.underlying37 (fun _=>by kernel_rfl) gf of l.length cL k hlt w'
  have hiy:∀w',(Instr.indexAt 37 (.slice BL l.length dL) (iz k)).run Tryz.prog w' = .ok (.pointer (some ⟨gm,om+k,none⟩)) w':=fun w'=>by rw[hBL];exact U7 37 Tryz.underlying37 (fun _=>by kernel_rfl) gm om l.length dL k hlt w'
  replace H:=H.kp [0,1,5];refine H.dq (fun w'=>Below w.heap.size w w') (fun _ _ h hb=>h.trans (hb.mono h.size)) hb [0,1,5] rfl [ec 0 17 (.slice AL l.length cL),ec 1 18 (iz k),ec 2 19 (.pointer (some ⟨gf,of+k,none⟩)),ec 3 20 (.slice A1 b.length c1),ec 4 21 (.slice BL l.length dL),ec 5 22 (iz k),ec 6 23 (.pointer (some ⟨gm,om+k,none⟩)),ec 7 24 (.slice A2 b.length c2),eh 8 25 (.bool true),ec 9 26 (.bool false)] rfl
   ⟨jm,jm,jI rfl rfl rfl rfl rfl rfl hix,jl fun _ h=>U8 _ _ _ _ _ _ ((h.cell (p:=⟨gf,of+k,none⟩) hgl).trans hck),jm,jm,jI rfl rfl rfl rfl rfl rfl hiy,jl fun _ h=>U8 _ _ _ _ _ _ ((h.cell (p:=⟨gm,om+k,none⟩) hgm).trans hcm),ju (hq:=G5 true),trivial⟩ ⟨kb fun w' h=>Y4t b b.length rfl A1 A2 c1 c2 w' (hrb.rb.next h) (hrm.rb.next h) hb8,trivial⟩ ?_
  intro a w2 H _ hb2;refine Z0 (H.condF rfl (Z3 (Z6 (Z0 ?_))));refine H.rg 1 fun a H=>?_;refine H.bb 1 rfl rfl rfl rfl rfl rfl (E7 k (by omega) _ _ _) rfl fun a H=>nt ?_;exact⟨hlt,H.keep ⟨rfl,rfl,rfl,trivial⟩,hb2⟩
 ·rintro a w1 ⟨H,hb⟩
  refine H.rg 1 fun a H=>nt (wp_ret ?_);repeat with_reducible first |apply Z4 |apply Z5
  exact bodyPost_ret (results_tmp rfl _ _ _) H.df ⟨congrArg Ending.returned (H.at_ 4 _ rfl),hb⟩
def Y0v (W:World) (A:Option Addr) (len:Nat):Prop:=
 ∀i,i<len→∃(b o:Nat) (who:Int) (q:Sg) (As:Option Addr) (cs:Nat) (raw:List UInt8) (Ar:Option Addr) (cr:Nat),A=some ⟨b,o,none⟩∧b<W.heap.size∧W.rangeAt b (o+i*9) [iz who,iz q.sp,iz q.dp,iz q.sq,iz q.ak,iz q.fl,iz q.wn, .slice As q.xs.length cs, .slice Ar raw.length cr]∧RB W W.heap.size As q.xs∧RB W W.heap.size Ar raw∧q.xs.length≤cs∧raw.length≤140737488351232
theorem X1m (u v:Int) (x y:Operand) (w:World):(do eqGuard .add 3 x y (iz u) (iz v);binOp .add 3 (iz u) (iz v):Sem Value).run Tryz.prog w = .ok (iz (IntKind.i64.wrap (u+v))) w:=by kernel_rfl
theorem Y2c (g o n c:Nat) (A:Option Addr) (w:World) (h:w.cell? ⟨g,o,none⟩=some (.slice A n c)):(Instr.loadAt 50 (.pointer (some ⟨g,o,none⟩))).run Tryz.prog w = .ok (.slice A n c) w:=by
 simp[go_sem,h]
theorem Y3f (o g:Nat) (w:World):(Instr.fieldAt 99 (.pointer (some ⟨g,o,none⟩)) 1).run Tryz.prog w = .ok (.pointer (some ⟨g,o+1,none⟩)) w:=by kernel_rfl
theorem Y9i (o g:Nat) (w:World):(Instr.fieldAt 99 (.pointer (some ⟨g,o,none⟩)) 0).run Tryz.prog w = .ok (.pointer (some ⟨g,o,none⟩)) w:=by kernel_rfl
theorem Y9j (o g:Nat) (w:World):(Instr.fieldAt 99 (.pointer (some ⟨g,o,none⟩)) 2).run Tryz.prog w = .ok (.pointer (some ⟨g,o+8,none⟩)) w:=by kernel_rfl
theorem J2b (o g:Nat) (w:World):(Instr.fieldAt 36 (.pointer (some ⟨g,o,none⟩)) 6).run Tryz.prog w = .ok (.pointer (some ⟨g,o+6,none⟩)) w:=by kernel_rfl
abbrev T9 (A:Option Addr) (len cap:Nat) (ip port:Int):List Value:=[.slice A len cap,iz ip,iz port]
theorem Y9k:(Tryz.prog.info? 52).map (·.size)=some 3:=by kernel_rfl
theorem Q0k (A:Option Addr) (len cap:Nat) (ip port:Int) (w:World) (ha:Y0v w A len) (hl:len≤maxLen):
  Calls Tryz.prog 17 #[.agg (T9 A len cap ip port).toArray] w fun e w'=>∃v,e = .returned v∧∃b,v = .bool b∧Below w.heap.size w w':=by
 go_enter Tryz.func17,Tryz.ntmps17
 refine Z9.start 37 [(0, .agg (T9 A len cap ip port).toArray)] rfl rfl ⟨rfl,trivial⟩ ?_;intro a0 H0;refine rl ?_;refine H0.bx (X0.start w) 1 (L:=T9 A len cap ip port) fun a w1 O1 H=>nt ?_;obtain⟨g,hg⟩:∃g,w.heap.size=g:=⟨_,rfl⟩;rw[hg] at O1 H;refine H.rg 1 fun a H=>nt ?_;refine Z8 (fun a w'=>∃n:Int,Z9 a 37 [(3,iz n)]∧X0 w g [(g,T9 A len cap ip port)] w') ?_ ?_
 ·refine H.rg 1 fun a H=>nt (wp_block ?_)
  refine Q7 len (fun k a w'=>∃n:Int,Z9 a 37 [(1,pz g),(3,iz n),(4,iz k)]∧X0 w g [(g,T9 A len cap ip port)] w') ⟨0,H.keep ⟨rfl,rfl,rfl,trivial⟩,O1⟩ ?_;clear H O1 H0;rintro k a w2 hk ⟨n,H,O⟩;obtain⟨b1,e1⟩:∃b,decide ((k:Int)<(len:Int))=b:=⟨_,rfl⟩;obtain⟨b2,e2⟩:∃b,decide (n<1048576)=b:=⟨_,rfl⟩;refine H.tb (X0 w g [(g,T9 A len cap ip port)]) (fun _ _ h hb=>h.call hb) O [ec 0 5 (iz k),ec 1 6 (pz g),ec 2 7 (.slice A len cap),ec 3 8 (iz len),ec 4 9 (.bool b1),ec 5 10 (.bool b1),ec 6 11 (gv b1 (iz n)),ec 7 12 (gv b1 (.bool b2)),ec 8 13 (.bool (b1&&b2))] rfl
   ⟨jm,jm,jl fun _ h=>Y2c _ _ _ _ _ _ ((X0.get h 0 rfl).get 0 _ rfl),jn Tryz.underlying50,jb fun _=>Q3 _ _ b1 e1 _ _ _,jm,(by cases b1;exact jo;exact jm),(by cases b1;exact jo;exact jb fun _=>Q3 _ _ b2 e2 _ _ _),(by cases b1<;>exact jp),trivial⟩ ?_
  clear H O;intro a w3 H O;refine Z0 (H.cond (t:=b1&&b2) rfl ?_);cases hb:b1&&b2 with
  |false=>
   refine wp_exit ?_;repeat (with_reducible refine J7 ?_)
   refine X3 ?_;exact⟨n,H.keep ⟨rfl,trivial⟩,O⟩
  |true=>
  simp only[Bool.and_eq_true] at hb;rw[hb.1] at e1;have hlt:k<len:=by simpa using e1
  clear e1 e2 hb;refine Z3 (Z0 ?_);obtain⟨b,o,who,q,As,cs,raw,Ar,cr,hA,hblt,hrg,_,_,_,_⟩:=ha k hlt;have hix:∀w',(Instr.indexAt 50 (.slice A len cap) (iz k)).run Tryz.prog w' = .ok (.pointer (some ⟨b,o+k*9,none⟩)) w':=fun w'=>by rw[hA];exact Z3u 50 Tryz.underlying50 9 (fun _=>by kernel_rfl) _ _ _ _ _ hlt _
  have c7:∀{w':World},X0 w g [(g,T9 A len cap ip port)] w'→w'.cell? ⟨b,o+k*9+1+6,none⟩=some (.slice As q.xs.length cs):=fun h=>(T6 (hg▸h.bel) hblt).trans (hrg 7 _ rfl);have c8:∀{w':World},X0 w g [(g,T9 A len cap ip port)] w'→w'.cell? ⟨b,o+k*9+8,none⟩=some (.slice Ar raw.length cr):=fun h=>(T6 (hg▸h.bel) hblt).trans (hrg 8 _ rfl);replace H:=H.kp [1,3,4];refine wp_seq (wp_block ?_);refine H.sg (X0 w g [(g,T9 A len cap ip port)]) O.drew [1,3,4] [ec 0 16 (iz n),ec 1 17 (iz (IntKind.i64.wrap (n+1))),ec 2 18 (pz g),ec 3 19 (.slice A len cap),ec 4 20 (iz k),ec 5 21 (.pointer (some ⟨b,o+k*9,none⟩)),ec 6 22 (.pointer (some ⟨b,o+k*9+1,none⟩)),ec 7 23 (.pointer (some ⟨b,o+k*9+1+6,none⟩)),ec 8 24 (.slice As q.xs.length cs),ec 9 25 (iz q.xs.length),ec 10 26 (iz (IntKind.i64.wrap (IntKind.i64.wrap (n+1)+((q.xs.length:Nat):Int)))),ec 11 27 (pz g),ec 12 28 (.slice A len cap),ec 13 29 (iz k),ec 14 30 (.pointer (some ⟨b,o+k*9,none⟩)),ec 15 31 (.pointer (some ⟨b,o+k*9+8,none⟩)),ec 16 32 (.slice Ar raw.length cr),ec 17 33 (iz raw.length),ec 18 34 (iz (IntKind.i64.wrap (IntKind.i64.wrap (IntKind.i64.wrap (n+1)+((q.xs.length:Nat):Int))+((raw.length:Nat):Int))))] rfl ?_;refine St.val 19 ⟨jm,jb fun _=>X1m n 1 _ _ _,jm,jl fun _ h=>Y2c _ _ _ _ _ _ ((X0.get h 0 rfl).get 0 _ rfl),jm,jI rfl rfl rfl rfl rfl rfl hix,jf fun g w=>Y3f (o+k*9) g w,jf fun g w=>J2b (o+k*9+1) g w,jl fun _ h=>U8 _ _ _ _ _ _ (c7 h),jn Tryz.underlying31,jb fun _=>X1m _ _ _ _ _,jm,jl fun _ h=>Y2c _ _ _ _ _ _ ((X0.get h 0 rfl).get 0 _ rfl),jm,jI rfl rfl rfl rfl rfl rfl hix,jf fun g w=>Y9j (o+k*9) g w,jl fun _ h=>U8 _ _ _ _ _ _ (c8 h),jn Tryz.underlying31,jb fun _=>X1m _ _ _ _ _,trivial⟩ fun a wu H _ hF=>⟨_,wu,N2 (.inr rfl) (H.ev rfl),nxl [(1,pz g),(4,iz k)] (fun _ h=>⟨h.1,h.2.2.1,trivial⟩) (X0 w g [(g,T9 A len cap ip port)]) [] [] hF (St.fin trivial ?_)⟩;generalize IntKind.i64.wrap (IntKind.i64.wrap (IntKind.i64.wrap (n+1)+((q.xs.length:Nat):Int))+((raw.length:Nat):Int))=n2;clear H hF;intro a w4 H _ O4;refine Z6 (Z0 ?_);refine H.rg 1 fun a H=>?_;refine H.bb 1 rfl rfl rfl rfl rfl rfl (E7 k (by unfold maxLen at hl;omega) _ _ _) rfl fun a H=>nt ?_;exact⟨hlt,n2,H.keep ⟨rfl,rfl,rfl,trivial⟩,O4⟩
 ·rintro a w2 ⟨n,H,O⟩
  obtain⟨b1,e1⟩:∃b,decide ((20000:Int)<n)=b:=⟨_,rfl⟩;refine H.rg 1 fun a H=>?_;refine H.bb 1 rfl rfl rfl rfl rfl rfl (S0 _ _ b1 e1 _ _ _) rfl fun a H=>nt (wp_ret ?_);repeat with_reducible first |apply Z4 |apply Z5
  exact bodyPost_ret (results_tmp rfl _ _ _) H.df ⟨_,rfl,b1,H.at_ 2 _ rfl,hg▸O.bel⟩
end
section
open Go.RowKit
def Y3s (w:World) (A:Option Addr) (l:List Mq):Prop:=
 ∀k m,l[k]? = some m→∃b o vc vw vf,A=some ⟨b,o,none⟩∧b<w.heap.size∧w.rangeAt b (o+k*24) (Z1 m vc vw vf)∧MqL w w.heap.size m vc vw vf
theorem Y3s.next {w w':World}{A:Option Addr}{l:List Mq}(h:Y3s w A l) (hb:Below w.heap.size w w'):Y3s w' A l:=by
 intro k m hk;obtain⟨b,o,vc,vw,vf,h1,h2,h3,h4⟩:=h k m hk;exact⟨b,o,vc,vw,vf,h1,Nat.lt_of_lt_of_le h2 hb.size,Y0j h3 hb h2,h4.next hb⟩
theorem S2.get {w:World}{b:Nat}{l:List Mq}{cs:List Value}{hi:Nat}(h:S2 w b l cs hi):∀k m,l[k]? = some m→∃vc vw vf b',N1 w b' m vc vw vf∧Z3s m 1000001∧Z3l m∧∀j v,(Z1 m vc vw vf)[j]? = some v→cs[k*24+j]? = some v:=by
 induction h with
 |nil=>intro k m hk;simp at hk
 | @snoc l xs m0 cs0 hi lo hi' hp _ _ hm ih=>
  intro k m hk;have hlen:=hp.len;by_cases hlt:k<l.length
  ·rw[List.getElem?_append_left hlt] at hk
   obtain⟨vc,vw,vf,b',h1,h2,h3,h4⟩:=ih k m hk;refine⟨vc,vw,vf,b',h1,h2,h3,fun j v hv=>?_⟩;have:=h4 j v hv;rw[List.getElem?_append_left (List.getElem?_eq_some_iff.1 this).1];exact this
  ·have hke:k=l.length:=by
    have:=(List.getElem?_eq_some_iff.1 hk).1;rw[List.length_append,List.length_singleton] at this;omega
   subst hke;rw[List.getElem?_append_right (Nat.le_refl _),Nat.sub_self] at hk;injection hk with hk
   subst hk;obtain⟨vc,vw,vf,rfl,h2,_,h3,h4⟩:=hm;refine⟨vc,vw,vf,lo,h2,h3,h4,fun j v hv=>?_⟩;rw[List.getElem?_append_right (by omega),hlen,Nat.add_sub_cancel_left];exact hv
theorem S2.at_ {w:World}{b b':Nat}{l:List Mq}{cs:List Value}{A:Option Addr}{n c hi:Nat}(h:S2 w b l cs hi) (hO:w.ownsRow b' 49 24 (.slice A n c) l.length cs):Y3s w A l:=by
 intro k m hk;obtain⟨vc,vw,vf,_,h1,h2,_,h4⟩:=h.get k m hk;have hlt:=(List.getElem?_eq_some_iff.1 hk).1;obtain⟨g,cap,hA,_,hg2⟩:=hO.form (by omega);injection hA with hA hn hc
 subst hA;subst hn;refine⟨g,0,vc,vw,vf,rfl,hg2,fun j v hv=>?_,MqL.of_rows h1 h2 (by decide)⟩;have hj:j<24:=(List.getElem?_eq_some_iff.1 hv).1;have:=hO.cellAt (0+k*24+j) (by omega);rw[this,Nat.zero_add];exact h4 j v hv
theorem Q3u (l:List Mq) (A B:Option Addr) (n c d:Nat) (hn:l.length=n) (hlim:n≤1000000) (w:World) (ha:Y3s w A l) (hb:Y3s w B l):
  Calls Tryz.prog 30 #[.slice A n c, .slice B n d] w fun e w'=>e = .returned (.bool true)∧Below w.heap.size w w':=by
 go_enter Tryz.func30,Tryz.ntmps30
 refine Z9.start 27 [(0, .slice A n c),(1, .slice B n d)] rfl rfl ⟨rfl,rfl,trivial⟩ ?_;intro a0 H0;refine H0.rg 1 fun a1 H1=>nt ?_;refine H1.rg 1 fun a2 H2=>?_;refine H2.len gz rfl rfl rfl rfl Tryz.underlying22 fun a3 H3=>?_;refine H3.ms 1 fun a4 H4=>?_;refine H4.len gz rfl rfl rfl rfl Tryz.underlying22 fun a5 H5=>?_;refine H5.bb 0 rfl rfl rfl rfl rfl rfl (Z1c _ _ false (by simp) _ _ _) rfl fun a6 H6=>nt (H6.condF rfl ?_);refine Z3 (Z0 ?_);refine H6.rg 1 fun a7 H7=>nt ?_;replace H7:=H7.kp [0,1,5];refine wp_block ?_;refine Q7 n (fun k a w'=>Z9 a 27 [(0, .slice A n c),(1, .slice B n d),(5,iz k)]∧Below w.heap.size w w') ⟨H7,Below.refl _ _⟩ ?_;clear H0 H1 H2 H3 H4 H5 H6 H7;rintro k a1 w1 hk ⟨H1,hb1⟩;refine H1.rg 2 fun a2 H2=>?_;refine H2.len gz rfl rfl rfl rfl Tryz.underlying22 fun a3 H3=>?_;by_cases hlt:k<n
 rotate_left
 ·refine H3.bb 0 rfl rfl rfl rfl rfl rfl (Q3 _ _ false (by rw[decide_eq_false_iff_not];omega) _ _ _) rfl fun a4 H4=>nt (H4.condF rfl ?_)
  refine wp_exit ?_;repeat (with_reducible refine J7 ?_)
  refine X3 (Z0 ?_);refine H4.rg 1 fun a5 H5=>nt (wp_ret ?_);repeat with_reducible first |apply Z4 |apply Z5
  exact bodyPost_ret (results_tmp rfl _ _ _) H5.df ⟨congrArg Ending.returned (H5.at_ 4 _ rfl),hb1⟩
 refine H3.bb 0 rfl rfl rfl rfl rfl rfl (Q3 _ _ true (by rw[decide_eq_true_iff];omega) _ _ _) rfl fun a4 H4=>nt (H4.condT rfl ?_);refine Z3 (Z0 ?_);obtain⟨m,hm⟩:∃m,l[k]? = some m:=⟨_,List.getElem?_eq_getElem (by omega)⟩;obtain⟨g1,o1,vc,vw,vf,rfl,hl1,hr1,hM1⟩:=ha k m hm;obtain⟨g2,o2,vc',vw',vf',rfl,hl2,hr2,hM2⟩:=hb k m hm;replace H4:=H4.kp [0,1,5];have hi:∀g o c w',(Instr.indexAt 22 (.slice (some ⟨g,o,none⟩) n c) (iz k)).run Tryz.prog w' = .ok (.pointer (some ⟨g,o+k*24,none⟩)) w':=fun g o c w'=>Z3u 22 Tryz.underlying22 24 (fun _=>by kernel_rfl) _ _ _ _ _ hlt _;refine Z8 (fun a w'=>Z9 a 27 [(0, .slice (some ⟨g1,o1,none⟩) n c),(1, .slice (some ⟨g2,o2,none⟩) n d),(5,iz k)]∧Below w.heap.size w w') ?_ ?_
 ·refine wp_block ?_
  refine H4.dq (fun w'=>Below w.heap.size w w') (fun _ _ h hb=>h.trans (hb.mono h.size)) hb1 [0,1,5] rfl [ec 0 17 (.slice (some ⟨g1,o1,none⟩) n c),ec 1 18 (iz k),ec 2 19 (.pointer (some ⟨g1,o1+k*24,none⟩)),ec 3 20 (.agg (Z1 m vc vw vf).toArray),ec 4 21 (.slice (some ⟨g2,o2,none⟩) n d),ec 5 22 (iz k),ec 6 23 (.pointer (some ⟨g2,o2+k*24,none⟩)),ec 7 24 (.agg (Z1 m vc' vw' vf').toArray),eh 8 25 (.bool true),ec 9 26 (.bool (!true))] rfl
   ⟨jm,jm,jI rfl rfl rfl rfl rfl rfl (hi g1 o1 c),jl fun _ h=>X9j (Y0j hr1 h hl1),jm,jm,jI rfl rfl rfl rfl rfl rfl (hi g2 o2 d),jl fun _ h=>X9j (Y0j hr2 h hl2),ju (hq:=G5 true),trivial⟩ ⟨kb fun w' h=>Q6d m vc vw vf vc' vw' vf' w' (hM1.next h) (hM2.next h),trivial⟩ ?_
  intro a5 w5 H5 _ hb5;refine Z0 (H5.condF rfl (Z3 (Z6 ?_)));exact⟨H5.keep ⟨rfl,rfl,rfl,trivial⟩,hb5⟩
 ·rintro a5 w5 ⟨H5,hb5⟩
  refine H5.rg 1 fun a6 H6=>?_;refine H6.bb 1 rfl rfl rfl rfl rfl rfl (E7 k (by omega) _ _ _) rfl fun a7 H7=>nt ?_;exact⟨hlt,H7.keep ⟨rfl,rfl,rfl,trivial⟩,hb5⟩
end
section
open Go.RowKit
theorem Q0l (i n:Int) (h1:1≤n) (h2:n≤9223372036854775807) (w:World):
  Calls Tryz.prog 36 #[.int .i64 i, .int .i64 n] w fun e w'=>e = .returned (.int .i64 ((wth i n:Nat):Int))∧w=w':=by
 have HK:=Lib.hid (X4w i n h1 h2);go_enter Tryz.func36,Tryz.ntmps36
 go_wp2
 go_ret
 obtain⟨k,hk,he,hw⟩:=HK.out;refine⟨?_,rfl⟩;have:((wth i n:Nat):Int)=(k:Int):=by unfold wth;rw[←he];simp
 rw[this,←hw];rfl
end
section
open Go.RowKit
theorem Y7e:(Tryz.prog.info? 99).map (·.size)=some 9:=by kernel_rfl
theorem X7k (w:World):(zeroValue 99).run Tryz.prog w = .ok (.agg ([iz 0,iz 0,iz 0,iz 0,iz 0,iz 0,iz 0,Z2,Z2]:List Value).toArray) w:=by kernel_rfl
theorem Q7p (u:Int) (x y:Operand) (w:World):(do eqGuard .rem 3 x y (iz u) (iz 8);binOp .rem 3 (iz u) (iz 8):Sem Value).run Tryz.prog w = .ok (iz (u.tmod 8)) w:=by
 simp[go_sem]
theorem Q0m (u:Int) (x y:Operand) (w:World):(do eqGuard .xor 3 x y (iz u) (iz 1);binOp .xor 3 (iz u) (iz 1):Sem Value).run Tryz.prog w = .ok (iz (bits .xor .i64 u 1)) w:=by kernel_rfl
theorem J7h {n m:Int}(h:inR n m=true):∃k:Nat,n=(k:Int)∧(k:Int)≤m:=by
 obtain⟨h1,h2⟩:=T5.1 h;obtain⟨k,rfl⟩:=Int.eq_ofNat_of_zero_le h1;exact⟨k,rfl,h2⟩
theorem J7i (d port:Nat) (q:Sg) (A:Option Addr) (c:Nat) (hq:q.ok=true) (hd:d<4294967296) (hp:port≤65535) (w:World) (hx:RB w w.heap.size A q.xs):
  Calls Tryz.prog 37 #[iz d,iz port, .agg ([iz q.sp,iz q.dp,iz q.sq,iz q.ak,iz q.fl,iz q.wn, .slice A q.xs.length c]:List Value).toArray] w fun e w'=>∃v,e = .returned v∧∃x A' n' c',v = .slice A' n' c'∧(x.length≤140737488351232∧Z5w w.heap.size x (.slice A' n' c') w')∧Below w.heap.size w w':=by
 obtain⟨h1,h2,h3,h4,h5,h6,h7⟩:=Sg.ok_iff.1 hq;obtain⟨sp,dp,sq,ak,fl,wn,xs⟩:=q;simp only at *;obtain⟨sq,rfl⟩:=Int.eq_ofNat_of_zero_le h3.1;obtain⟨ak,rfl⟩:=Int.eq_ofNat_of_zero_le h4.1;obtain⟨fl,rfl⟩:=Int.eq_ofNat_of_zero_le h5.1;obtain⟨wn,rfl⟩:=Int.eq_ofNat_of_zero_le h6.1;have hok:Sg.ok ⟨1883,port,sq,ak,fl,wn,xs⟩=true:=Sg.ok_iff.2 ⟨⟨by show (0:Int)≤1883;decide,by show (1883:Int)≤65535;decide⟩,⟨by show (0:Int)≤(port:Int);omega,by show (port:Int)≤65535;omega⟩,h3,h4,h5,h6,h7⟩;refine(X8x d port sq ak fl wn sp dp xs A c hok hd w hx).mono ?_;rintro e w' ⟨v,hv,h8,h9⟩;obtain⟨A',n',c',rfl,h10⟩:=(Z5w.of h8).shape;exact⟨_,hv,_,A',n',c',rfl,⟨by rw[Y3i];have:xs.length≤1460:=h7;show 54+xs.length≤_;omega,h10⟩,h9⟩
theorem J7j (A:Option Addr) (len cap:Nat) (ip port:Int) (w:World) (ha:Y0v w A len):
  Calls Tryz.prog 18 #[.agg (T9 A len cap ip port).toArray] w fun e w'=>∃v,e = .returned v∧∃(fs:List (Value×List UInt8)) (AL:Option Addr) (cL:Nat),v = .slice AL fs.length cL∧L4 w.heap.size fs (.slice AL fs.length cL) w'∧fs.length≤30∧(∀p∈fs,p.2.length≤140737488351232)∧Below w.heap.size w w':=by
 go_enter Tryz.func18,Tryz.ntmps18
 refine Z9.start 71 [(0, .agg (T9 A len cap ip port).toArray)] rfl rfl ⟨rfl,trivial⟩ ?_;intro a0 H0;refine rl ?_;refine H0.bx (X0.start w) 1 (L:=T9 A len cap ip port) fun a w1 O1 H=>nt ?_;obtain⟨g,hg⟩:∃g,w.heap.size=g:=⟨_,rfl⟩;rw[hg] at O1 H ⊢;refine H.rg 1 fun a H=>nt ?_;replace H:=H.kp [1,3];clear H0;refine Z8 (fun a w'=>∃(fs:List (Value×List UInt8)) (AL:Option Addr) (cL:Nat),Z9 a 71 [(3, .slice AL fs.length cL)]∧X0 w g [(g,T9 A len cap ip port)] w'∧L4 (g+1) fs (.slice AL fs.length cL) w'∧fs.length≤30∧∀p∈fs,p.2.length≤140737488351232) ?_ ?_
 ·refine H.rg 1 fun a H=>nt (wp_block ?_)
  refine Q7 30 (fun k a w'=>∃(fs:List (Value×List UInt8)) (AL:Option Addr) (cL:Nat),Z9 a 71 [(1,pz g),(3, .slice AL fs.length cL),(4,iz k)]∧X0 w g [(g,T9 A len cap ip port)] w'∧L4 (g+1) fs (.slice AL fs.length cL) w'∧fs.length≤k∧∀p∈fs,p.2.length≤140737488351232) ⟨[],none,0,H.keep ⟨rfl,rfl,rfl,trivial⟩,O1,⟨World.ownsRow_nil _ _ _ _,fun p hp=>by cases hp⟩,Nat.le_refl _,fun p hp=>by cases hp⟩ ?_;clear H O1;rintro k a w2 hk ⟨fs,AL,cL,H,O,hR,hfl,hlb⟩;obtain⟨b1,e1⟩:∃b,decide ((k:Int)<(len:Int))=b:=⟨_,rfl⟩;obtain⟨b2,e2⟩:∃b,decide ((k:Int)<30)=b:=⟨_,rfl⟩;refine H.tb (fun w'=>X0 w g [(g,T9 A len cap ip port)] w'∧L4 (g+1) fs (.slice AL fs.length cL) w') (fun _ _ h hb=>⟨h.1.call hb,h.2.next hb⟩) ⟨O,hR⟩ [ec 0 8 (iz k),ec 1 9 (pz g),ec 2 10 (.slice A len cap),ec 3 11 (iz len),ec 4 12 (.bool b1),ec 5 13 (.bool b1),ec 6 14 (gv b1 (iz k)),ec 7 15 (gv b1 (.bool b2)),ec 8 16 (.bool (b1&&b2))] rfl
   ⟨jm,jm,jl fun _ h=>Y2c _ _ _ _ _ _ ((X0.get h.1 0 rfl).get 0 _ rfl),jn Tryz.underlying50,jb fun _=>Q3 _ _ b1 e1 _ _ _,jm,(by cases b1;exact jo;exact jm),(by cases b1;exact jo;exact jb fun _=>Q3 _ _ b2 e2 _ _ _),(by cases b1<;>exact jp),trivial⟩ ?_
  clear H O hR;intro a w3 H ⟨O,hR⟩;refine Z0 (H.cond (t:=b1&&b2) rfl ?_);cases hb:b1&&b2 with
  |false=>
   refine wp_exit ?_;repeat (with_reducible refine J7 ?_)
   refine X3 ?_;exact⟨fs,AL,cL,H.keep ⟨rfl,trivial⟩,O,hR,Nat.le_trans hfl hk,hlb⟩
  |true=>
  simp only[Bool.and_eq_true] at hb;rw[hb.1] at e1;rw[hb.2] at e2;have hlt:k<len:=by simpa using e1
  have h30:k<30:=by have:(k:Int)<30:=of_decide_eq_true e2;omega
  clear e1 e2 hb;refine Z3 (Z0 ?_);replace H:=H.kp [1,3,4];refine Z8 (fun a w'=>∃(fs:List (Value×List UInt8)) (AL:Option Addr) (cL:Nat),Z9 a 71 [(1,pz g),(3, .slice AL fs.length cL),(4,iz k)]∧X0 w g [(g,T9 A len cap ip port)] w'∧L4 (g+1) fs (.slice AL fs.length cL) w'∧fs.length≤k+1∧∀p∈fs,p.2.length≤140737488351232) ?_ ?_
  rotate_left
  ·clear H O hR hfl hlb
   rintro a w4 ⟨fs,AL,cL,H,h⟩;refine H.rg 1 fun a H=>?_;refine H.bb 1 rfl rfl rfl rfl rfl rfl (E7 k (by omega) _ _ _) rfl fun a H=>nt ?_;exact⟨h30,fs,AL,cL,H.keep ⟨rfl,rfl,rfl,trivial⟩,h⟩
  refine wp_block ?_;obtain⟨b,o,who,q,As,cs,raw,Ar,cr,hA,hblt,hrg,hxs,hraw,hcs,hrl⟩:=ha k hlt;have hbel:∀{w':World},X0 w g [(g,T9 A len cap ip port)] w'→Below w.heap.size w w':=fun h=>hg▸h.bel;have hix:∀w',(Instr.indexAt 50 (.slice A len cap) (iz k)).run Tryz.prog w' = .ok (.pointer (some ⟨b,o+k*9,none⟩)) w':=fun w'=>by rw[hA];exact Z3u 50 Tryz.underlying50 9 (fun _=>by kernel_rfl) _ _ _ _ _ hlt _
  refine H.rg 1 fun a H=>?_;refine H.ld 1 (Y2c _ _ _ _ _ _ ((O.get 0 rfl).get 0 _ rfl)) fun a H=>?_;refine H.index gz rfl rfl rfl rfl rfl (hix _) fun a H=>?_;refine H.ld 0 (run_loadAt_mid w3 b (o+k*9) 99 _ _ (Y0j hrg (hbel O) hblt) Tryz.underlying99 rfl Y7e) fun a H=>?_;refine H.nk O 0 (L:=[iz who,iz q.sp,iz q.dp,iz q.sq,iz q.ak,iz q.fl,iz q.wn, .slice As q.xs.length cs, .slice Ar raw.length cr]) rfl X7k Y7e fun a w4 hb4 O4 _ H=>nt ?_;have hgq:some w3.heap.size≠(Value.slice AL fs.length cL).ownBlock:=Q1 hR.1 (.inr (Nat.le_refl _));replace hR:=hR.next hb4;generalize w3.heap.size=gq at O4 H hgq;replace H:=H.kp [1,3,4,5];have hseg:∀{w':World},X0 w g [(gq,[iz who,iz q.sp,iz q.dp,iz q.sq,iz q.ak,iz q.fl,iz q.wn, .slice As q.xs.length cs, .slice Ar raw.length cr]),(g,T9 A len cap ip port)] w'→(Instr.loadAt 36 (.pointer (some ⟨gq,1,none⟩))).run Tryz.prog w' = .ok (.agg ([iz q.sp,iz q.dp,iz q.sq,iz q.ak,iz q.fl,iz q.wn, .slice As q.xs.length cs]:List Value).toArray) w':=fun h=>
   run_loadAt_mid _ gq 1 36 _ _ (fun j v hv=>by
    have hj:=(List.getElem?_eq_some_iff.1 hv).1;refine(h.get 0 rfl).get (1+j) v ?_;rw[Nat.add_comm 1 j];show ([iz q.sp,iz q.dp,iz q.sq,iz q.ak,iz q.fl,iz q.wn, .slice As q.xs.length cs]++[.slice Ar raw.length cr]:List Value)[j]? = some v;rw[List.getElem?_append_left hj];exact hv) Tryz.underlying36 rfl Z3w
  have hbel2:∀{w':World},X0 w g [(gq,[iz who,iz q.sp,iz q.dp,iz q.sq,iz q.ak,iz q.fl,iz q.wn, .slice As q.xs.length cs, .slice Ar raw.length cr]),(g,T9 A len cap ip port)] w'→Below w.heap.size w w':=fun h=>hg▸h.bel;obtain⟨c1,f1⟩:∃b,(((wth who 8:Nat):Int)==7)=b:=⟨_,rfl⟩;obtain⟨c2,f2⟩:∃b,Sg.ok q=b:=⟨_,rfl⟩;have K58:∀w',Calls Tryz.prog 58 ([.agg ([iz q.sp,iz q.dp,iz q.sq,iz q.ak,iz q.fl,iz q.wn, .slice As q.xs.length cs]:List Value).toArray]:List Value).toArray w' fun e w''=>e = .returned (.bool c2)∧Below w'.heap.size w' w'':=fun w'=>J7y q.sp q.dp q.sq q.ak q.fl q.wn q.xs q.xs.length rfl As cs c2 f2 w';refine H.tb (fun w'=>X0 w g [(gq,[iz who,iz q.sp,iz q.dp,iz q.sq,iz q.ak,iz q.fl,iz q.wn, .slice As q.xs.length cs, .slice Ar raw.length cr]),(g,T9 A len cap ip port)] w'∧L4 (g+1) fs (.slice AL fs.length cL) w') (fun _ _ h hb=>⟨h.1.call hb,h.2.next hb⟩) ⟨O4,hR⟩ [ec 0 24 (pz gq),ec 1 25 (iz who),ec 2 26 (iz (wth who 8)),ec 3 27 (.bool c1),ec 4 28 (.bool c1),ec 5 29 (gv (!c1) (.pointer (some ⟨gq,1,none⟩))),ec 6 30 (gv (!c1) (.agg ([iz q.sp,iz q.dp,iz q.sq,iz q.ak,iz q.fl,iz q.wn, .slice As q.xs.length cs]:List Value).toArray)),eh 7 31 (gv (!c1) (.bool c2)),ec 8 32 (gv (!c1) (.bool (!c2))),ec 9 33 (.bool (c1 || !c2))] rfl
   ⟨jf fun g w=>Y9i 0 g w,jl fun _ h=>h.1.li 0 0,jq fun w' _=>Q0l who 8 (by decide) (by decide) w',jb fun _=>Z7 _ _ c1 f1 _ _ _,jm,(by cases c1;exact jf fun g w=>Y3f 0 g w;exact jo),(by cases c1;exact jl fun _ h=>hseg h.1;exact jo),(by cases c1;exact kb fun w' _=>K58 w';exact ko),(by cases c1;exact ju (hq:=G5 c2);exact jo),(by cases c1<;>exact jp),trivial⟩ ?_
  clear H O4 hR hb4 O;intro a w5 H ⟨O,hR⟩;refine Z0 (H.cond (t:=c1 || !c2) rfl ?_);replace H:=H.kp [1,3,4,5];have hsz5:g+1≤w5.heap.size:=Nat.succ_le_of_lt (O.lt 1 rfl);cases hc:c1 || !c2 with
  |true=>
   refine H.rg 1 fun a H=>?_;refine H.go gz rfl rfl _ (S3 rfl (H.ev rfl) fun g w=>Y9j 0 g w) fun a H=>?_;refine H.ld 0 (U8 _ _ _ _ _ _ ((O.get 0 rfl).get 8 _ rfl)) fun a H=>?_;refine H.cl (X9k raw raw.length rfl Ar cr w5 (hraw.next (hbel2 O)) hrl) ?_;rintro a _ w6 ⟨A2,c2',rfl,hf,hb6⟩ H;have hne:∀i,w5.heap.size≤i→some i≠(Value.slice AL fs.length cL).ownBlock:=fun i hi=>Q1 hR.1 (.inr hi);refine H.any (w':=w6.alloc (.cells ([.slice A2 raw.length c2']:List Value).toArray 31)) gz rfl rfl (.slice (some ⟨w6.heap.size,0,none⟩) 1 1) (by intro cs b h;cases h) (by kernel_rfl) (by kernel_rfl) fun a H=>?_;have hb7:Below w6.heap.size w6 (w6.alloc (.cells ([.slice A2 raw.length c2']:List Value).toArray 31)):=G0 _ _;have hrd:=X4.lit w6 31 [.slice A2 raw.length c2'] (0,0) 1 1 rfl;have O7:=(O.call hb6).call hb7;have hR7:=(hR.next hb6).next hb7
   replace hf:=hf.next hb7;have hsz7:=Nat.le_trans (Nat.le_trans hsz5 hb6.size) hb7.size;generalize w6.alloc (.cells ([.slice A2 raw.length c2']:List Value).toArray 31)=w7 at *;generalize w6.heap.size=g9 at H hrd;refine H.appF hR7.1 X0o hrd (by intro u hu;rw[List.mem_singleton.1 hu];rfl) (by unfold maxLen;omega) (by omega) hsz7 fun a A4 c4 w8 hO hg8 hfr H=>?_;have hR8:=L4.app hR7 (Y1r hf X0n) hne hO hg8 hfr;have O8:=O7.row hR7.1 (Nat.le_succ _) hg8 (fun p hp=>by
    simp only[List.mem_cons,List.not_mem_nil,or_false] at hp;rcases hp with rfl |rfl
    ·exact hgq
    ·exact Q1 hR7.1 (.inl (Nat.lt_succ_self _)))
   have hln:(fs++[(Value.slice A2 raw.length c2',raw)]).length=fs.length+1:=List.length_append;refine H.ms 1 fun a H=>nt (wp_exit ?_);repeat (with_reducible refine J7 ?_)
   refine X3 ?_;refine⟨fs++[(.slice A2 raw.length c2',raw)],A4,c4, ?_,O8.sub (List.sublist_cons_self _ _), ?_,by rw[hln];omega,fun p hp=>?_⟩
   ·rw[hln]
    exact H.keep ⟨rfl,rfl,rfl,trivial⟩
   ·rw[hln]
    exact hR8
   ·rcases List.mem_append.1 hp with hp |hp
    ·exact hlb p hp
    ·rw[List.mem_singleton.1 hp];exact hrl
  |false=>
  simp only[Bool.or_eq_false_iff,Bool.not_eq_false'] at hc;have hok:q.ok=true:=by rw[f2,hc.2]
  clear K58 f1 f2 hc;refine Z3 (Z0 ?_);refine H.dq (fun w'=>X0 w g [(gq,[iz who,iz q.sp,iz q.dp,iz q.sq,iz q.ak,iz q.fl,iz q.wn, .slice As q.xs.length cs, .slice Ar raw.length cr]),(g,T9 A len cap ip port)] w'∧L4 (g+1) fs (.slice AL fs.length cL) w') (fun _ _ h hb=>⟨h.1.call hb,h.2.next hb⟩) ⟨O,hR⟩ [1,3,4,5] rfl [ec 0 40 (.pointer (some ⟨g,1,none⟩)),ec 1 41 (iz ip),ec 2 42 (.pointer (some ⟨g,2,none⟩)),ec 3 43 (iz port),ec 4 6 (iz ip),ec 5 7 (iz port)] rfl
   ⟨jm,jl fun _ h=>h.1.li 1 1,jm,jl fun _ h=>h.1.li 1 2,jm,jm,trivial⟩ trivial ?_
  clear H O hR hsz5;intro a w6 H _ ⟨O,hR⟩;refine Z0 ?_;replace H:=H.kp [1,3,4,5,6,7];refine Z8 (fun a w'=>∃ip2:Int,Z9 a 71 [(1,pz g),(3, .slice AL fs.length cL),(4,iz k),(5,pz gq),(6,iz ip2),(7,iz port)]∧X0 w g [(gq,[iz who,iz q.sp,iz q.dp,iz q.sq,iz q.ak,iz q.fl,iz q.wn, .slice As q.xs.length cs, .slice Ar raw.length cr]),(g,T9 A len cap ip port)] w'∧L4 (g+1) fs (.slice AL fs.length cL) w') ?_ ?_
  ·obtain⟨c3,f3⟩:∃b,(who.tmod 8==6)=b:=⟨_,rfl⟩
   obtain⟨c4,f4⟩:∃b,inR ip 4294967295=b:=⟨_,rfl⟩;refine H.tb (fun w'=>X0 w g [(gq,[iz who,iz q.sp,iz q.dp,iz q.sq,iz q.ak,iz q.fl,iz q.wn, .slice As q.xs.length cs, .slice Ar raw.length cr]),(g,T9 A len cap ip port)] w'∧L4 (g+1) fs (.slice AL fs.length cL) w') (fun _ _ h hb=>⟨h.1.call hb,h.2.next hb⟩) ⟨O,hR⟩ [ec 0 44 (pz gq),ec 1 45 (iz who),ec 2 46 (iz (who.tmod 8)),ec 3 47 (.bool c3),ec 4 48 (.bool c3),ec 5 49 (gv c3 (iz ip)),ec 6 50 (gv c3 (.bool c4)),ec 7 51 (.bool (c3&&c4))] rfl
    ⟨jf fun g w=>Y9i 0 g w,jl fun _ h=>h.1.li 0 0,jb fun _=>Q7p who _ _ _,jb fun _=>Z7 _ _ c3 f3 _ _ _,jm,(by cases c3;exact jo;exact jm),(by cases c3;exact jo;exact jq fun w' _=>f4▸Z7t ip w'),(by cases c3<;>exact jp),trivial⟩ ?_
   clear H O hR;intro a w7 H hw;refine Z0 (H.cond (t:=c3&&c4) rfl ?_);replace H:=H.kp [1,3,4,5,6,7];cases c3&&c4 with
   |false=>exact Z3 ⟨ip,H,hw⟩
   |true=>
    refine H.rg 1 fun a H=>?_;refine H.bb 1 rfl rfl rfl rfl rfl rfl (Q0m ip _ _ _) rfl fun a H=>wpList_nil ?_;exact⟨_,H.keep ⟨rfl,rfl,rfl,rfl,rfl,rfl,trivial⟩,hw⟩
  clear H O hR;rintro a w7 ⟨ip2,H,O,hR⟩;refine Z8 (fun a w'=>∃ip3 port3:Nat,ip3<4294967296∧port3≤65535∧Z9 a 71 [(1,pz g),(3, .slice AL fs.length cL),(4,iz k),(5,pz gq),(6,iz ip3),(7,iz port3)]∧X0 w g [(gq,[iz who,iz q.sp,iz q.dp,iz q.sq,iz q.ak,iz q.fl,iz q.wn, .slice As q.xs.length cs, .slice Ar raw.length cr]),(g,T9 A len cap ip port)] w'∧L4 (g+1) fs (.slice AL fs.length cL) w') ?_ ?_
  ·obtain⟨c3,f3⟩:∃b,inR ip2 4294967295=b:=⟨_,rfl⟩
   obtain⟨c4,f4⟩:∃b,inR port 65535=b:=⟨_,rfl⟩;refine H.tb (fun w'=>X0 w g [(gq,[iz who,iz q.sp,iz q.dp,iz q.sq,iz q.ak,iz q.fl,iz q.wn, .slice As q.xs.length cs, .slice Ar raw.length cr]),(g,T9 A len cap ip port)] w'∧L4 (g+1) fs (.slice AL fs.length cL) w') (fun _ _ h hb=>⟨h.1.call hb,h.2.next hb⟩) ⟨O,hR⟩ [ec 0 54 (iz ip2),ec 1 55 (.bool c3),ec 2 56 (.bool (!c3)),ec 3 57 (.bool (!c3)),ec 4 58 (gv c3 (iz port)),ec 5 59 (gv c3 (.bool c4)),ec 6 60 (gv c3 (.bool (!c4))),ec 7 61 (.bool (!c3 || !c4))] rfl
    ⟨jm,jq fun w' _=>f3▸Z7t ip2 w',ju (hq:=G5 c3),jm,(by cases c3;exact jo;exact jm),(by cases c3;exact jo;exact jq fun w' _=>f4▸Z8p port 65535 w'),(by cases c3;exact jo;exact ju (hq:=G5 c4)),(by cases c3<;>exact jp),trivial⟩ ?_
   clear H O hR;intro a w8 H hw;refine Z0 (H.cond (t:= !c3 || !c4) rfl ?_);replace H:=H.kp [1,3,4,5,6,7];cases hc: !c3 || !c4 with
   |true=>
    refine H.rg 2 fun a H=>wpList_nil ?_;exact⟨5,6,by decide,by decide,H.keep ⟨rfl,rfl,rfl,rfl,rfl,rfl,trivial⟩,hw⟩
   |false=>
    simp only[Bool.or_eq_false_iff,Bool.not_eq_false'] at hc;obtain⟨i3,rfl,hi3⟩:=J7h (f3.trans hc.1);obtain⟨p3,rfl,hp3⟩:=J7h (f4.trans hc.2);exact Z3 ⟨i3,p3,by omega,by omega,H,hw⟩
  clear H O hR;rintro a w8 ⟨ip3,port3,hi3,hp3,H,O,hR⟩;have hsz8:g+1≤w8.heap.size:=Nat.succ_le_of_lt (O.lt 1 rfl);have hne:∀i,w8.heap.size≤i→some i≠(Value.slice AL fs.length cL).ownBlock:=fun i hi=>Q1 hR.1 (.inr hi);refine H.rg 3 fun a H=>?_;refine H.go gz rfl rfl _ (S3 rfl (H.ev rfl) fun g w=>Y3f 0 g w) fun a H=>?_;refine H.ld 0 (hseg O) fun a H=>?_;refine H.cl (J7i ip3 port3 q As cs hok hi3 hp3 w8 (hxs.next (hbel2 O))) ?_;rintro a _ w9 ⟨x,A2,n2,c2',rfl,⟨hx2,hf⟩,hb9⟩ H;refine H.any (w':=w9.alloc (.cells ([.slice A2 n2 c2']:List Value).toArray 31)) gz rfl rfl (.slice (some ⟨w9.heap.size,0,none⟩) 1 1) (by intro cs b h;cases h) (by kernel_rfl) (by kernel_rfl) fun a H=>?_;have hb10:Below w9.heap.size w9 (w9.alloc (.cells ([.slice A2 n2 c2']:List Value).toArray 31)):=G0 _ _;have hrd:=X4.lit w9 31 [.slice A2 n2 c2'] (0,0) 1 1 rfl;have O10:=(O.call hb9).call hb10;have hR10:=(hR.next hb9).next hb10
  replace hf:=hf.next hb10;have hsz10:=Nat.le_trans (Nat.le_trans hsz8 hb9.size) hb10.size;generalize w9.alloc (.cells ([.slice A2 n2 c2']:List Value).toArray 31)=w10 at *;generalize w9.heap.size=g9 at H hrd;refine H.appF hR10.1 X0o hrd (by intro u hu;rw[List.mem_singleton.1 hu];rfl) (by unfold maxLen;omega) (by omega) hsz10 fun a A4 c4 w11 hO hg11 hfr H=>?_;have hR11:=L4.app hR10 (Y1r hf X0n) hne hO hg11 hfr;have O11:=O10.row hR10.1 (Nat.le_succ _) hg11 (fun p hp=>by
   simp only[List.mem_cons,List.not_mem_nil,or_false] at hp;rcases hp with rfl |rfl
   ·exact hgq
   ·exact Q1 hR10.1 (.inl (Nat.lt_succ_self _)))
  have hln:(fs++[(Value.slice A2 n2 c2',x)]).length=fs.length+1:=List.length_append;refine H.ms 1 fun a H=>wpList_nil (Z6 ?_);refine⟨fs++[(.slice A2 n2 c2',x)],A4,c4, ?_,O11.sub (List.sublist_cons_self _ _), ?_,by rw[hln];omega,fun p hp=>?_⟩
  ·rw[hln]
   exact H.keep ⟨rfl,rfl,rfl,trivial⟩
  ·rw[hln]
   exact hR11
  ·rcases List.mem_append.1 hp with hp |hp
   ·exact hlb p hp
   ·rw[List.mem_singleton.1 hp];exact hx2
 clear H O1;rintro a w2 ⟨fs,AL,cL,H,O,hR,hfl,hlb⟩;refine H.rg 2 fun a H=>nt (wp_ret ?_);repeat with_reducible first |apply Z4 |apply Z5
 exact bodyPost_ret (results_tmp rfl _ _ _) H.df ⟨_,congrArg Ending.returned (H.at_ 2 _ rfl),fs,AL,cL,rfl,⟨V2 hR.1 (Nat.le_succ _),hR.2⟩,hfl,hlb,hg▸O.bel⟩
end
section
open Go.RowKit
theorem Z0m {P:Program}{w:World}{ops:Array Oper}{rest:List Oper}{o:Oper}{a:Act}{Q:Exit→Act→World→Prop}(hgd:o.guard=none) (s x:Operand) (t:TypeId)
  (ho:o.op = .call { callee:=.builtin .append,args:=#[s,x],argTypes:=#[t,t] })
  (base:Nat) (e:TypeId) (z:Value) (size bytes:Nat) (ht:P.underlying t=some (.slice e)) (hi:(P.info? e).map (fun i=>(i.zero,i.size,i.bytes))=some (some z,size,bytes)) (hzs:z.cells.size=size) (hsz:0<size)
  (v:Value) (n:Nat) (xs:List Value) (hs:a.eval s=v) (hown:w.ownsRow base e size v n xs) (A:Option Addr) (m c:Nat) (ys:List Value) (hx:a.eval x = .slice A m c) (hr:X4 w w.heap.size size A m ys) (h1:∀u∈ys,u.oneCell'=true)
  (hn:n+m≤maxLen) (hby:(n+m)*bytes≤140737488355328) (hbase:base≤w.heap.size)
  (h:∀A' c' w',w'.ownsRow base e size (.slice A' (n+m) c') (n+m) (xs++ys)→w.grownBy w' v.ownBlock→wpList P ops Q rest (a.put o.dst (.slice A' (n+m) c')) w'):
  wpList P ops Q (o::rest) a w:=by
 refine wpList_plain hgd fun K hK=>?_;obtain⟨A',c',w',hrun,h2,h3⟩:=Z0b (P:=P) w base t o.type e z size bytes ht hi hzs hsz v n xs hown w.heap.size A m c ys hr h1 hn hby hbase;unfold Oper.wp execOp;simp only[ho,resolve,invoke,builtin,Sem.run_bind,Sem.run_pure,Result.andThen_ok,List.map_toArray,List.map_cons,List.map_nil,hs,hx,hrun];exact hK _ _ (h A' c' w' h2 h3)
theorem Z8g {w w':World}{r:Option Nat}(h:w.grownBy w' r) {b:Nat}(hb:b≤w.heap.size):b≤w'.heap.size:=Nat.le_trans hb h.size
theorem J2c (base:Nat) (xs:List Value) (n:Nat) (A:Option Addr) (c:Nat) (w:World) (hown:w.ownsRow base 3 1 (.slice A n c) n xs) (hbase:base≤w.heap.size) (hn:n≤2000000):
  Calls Tryz.prog 66 #[.slice A n c] w fun e w'=>e = .returned (.tuple #[])∧w.grownBy w' (Value.slice A n c).ownBlock:=by
 have HO:=Lib.hid hown;clear hown;go_enter Tryz.func66,Tryz.ntmps66
 go_wp2
 go_loopw [2] (fun i wr=>∃(k:Nat) (ys:List Value),k≤n∧i = .int .i64 k∧wr.ownsRow base 3 1 (.slice A n c) n ys∧Hid (w.grownBy wr (Value.slice A n c).ownBlock)) (fun i _=>n-(intOf i).toNat)
 case atStart=>exact⟨0,xs,Nat.zero_le _,rfl,HO.out,World.grownBy.refl w _⟩
 case round=>
  obtain⟨k,ys,hk,rfl,hown,hg⟩:=hrel;have hg:=hg.out;by_cases hlt:k<n
  ·obtain⟨g,cap,hA,_,hg2⟩:=hown.form (by omega)
   injection hA with hA _ _
   subst hA;have hl2:ys.length=n*1:=hown.1;obtain⟨z0,hcell0⟩:∃u,wr.cell? ⟨g,k,none⟩=some u:=⟨_,(hown.cellAt (k) (by omega)).trans (List.getElem?_eq_getElem (by omega))⟩;have hfz0:=hown.frozenAt (k);have hkI:(k:Int)<(n:Int):=by omega
   have HO2:=Lib.hid (hown.stored (k) (.int .i64 (-99))).1;have HG2:=Lib.hid (hg.trans (hown.stored (k) (.int .i64 (-99))).2);clear hown hg hl2
   go_wp2
   go_roundw
   case rel=>exact⟨k+1,(ys.set (k) (.int .i64 (-99))),by omega,by go_num,HO2.out,HG2⟩
   case measure=>simp[intOf];omega
  ·have hbs:=Z8g hg hbase
   go_wp2_with (at_builtin;refine Z0m rfl _ _ 45 rfl base 3 (.int .i64 0) 1 8 Tryz.underlying45 Y5y rfl (by decide) _ _ _ (by exact rfl) (hown.alloc _) _ 1 1 [iv 5] (by exact rfl) (X4.lit wr 3 [iv 5] (0,0) 1 1 rfl) (X5b _) (by unfold maxLen;omega) (by omega) (Nat.le_trans hbs (G0 _ _).size) ?_;intro A' c' w' hown' hg')
   go_end0
   exact⟨rfl,(hg.trans (World.grownBy_alloc wr _ _)).trans hg'⟩
theorem J2d (base:Nat) (xs:List Value) (n:Nat) (A:Option Addr) (c:Nat) (w:World) (hown:w.ownsRow base 9 1 (.slice A n c) n xs) (hbase:base≤w.heap.size) (hn:n≤2000000):
  Calls Tryz.prog 68 #[.slice A n c] w fun e w'=>e = .returned (.tuple #[])∧w.grownBy w' (Value.slice A n c).ownBlock:=by
 have HO:=Lib.hid hown;clear hown;go_enter Tryz.func68,Tryz.ntmps68
 go_wp2
 go_loopw [2] (fun i wr=>∃(k:Nat) (ys:List Value),k≤n∧i = .int .i64 k∧wr.ownsRow base 9 1 (.slice A n c) n ys∧Hid (w.grownBy wr (Value.slice A n c).ownBlock)) (fun i _=>n-(intOf i).toNat)
 case atStart=>exact⟨0,xs,Nat.zero_le _,rfl,HO.out,World.grownBy.refl w _⟩
 case round=>
  obtain⟨k,ys,hk,rfl,hown,hg⟩:=hrel;have hg:=hg.out;by_cases hlt:k<n
  ·obtain⟨g,cap,hA,_,hg2⟩:=hown.form (by omega)
   injection hA with hA _ _
   subst hA;have hl2:ys.length=n*1:=hown.1;obtain⟨z0,hcell0⟩:∃u,wr.cell? ⟨g,k,none⟩=some u:=⟨_,(hown.cellAt (k) (by omega)).trans (List.getElem?_eq_getElem (by omega))⟩;have hfz0:=hown.frozenAt (k);have hkI:(k:Int)<(n:Int):=by omega
   have HO2:=Lib.hid (hown.stored (k) (.string { data:=#[63] })).1;have HG2:=Lib.hid (hg.trans (hown.stored (k) (.string { data:=#[63] })).2);clear hown hg hl2
   go_wp2
   go_roundw
   case rel=>exact⟨k+1,(ys.set (k) (.string { data:=#[63] })),by omega,by go_num,HO2.out,HG2⟩
   case measure=>simp[intOf];omega
  ·have hbs:=Z8g hg hbase
   go_wp2_with (at_builtin;refine Z0m rfl _ _ 47 rfl base 9 (.string ⟨#[]⟩) 1 16 Tryz.underlying47 Z9e rfl (by decide) _ _ _ (by exact rfl) (hown.alloc _) _ 1 1 [sv { data:=#[63] }] (by exact rfl) (X4.lit wr 9 [sv { data:=#[63] }] (0,0) 1 1 rfl) (X5c _) (by unfold maxLen;omega) (by omega) (Nat.le_trans hbs (G0 _ _).size) ?_;intro A' c' w' hown' hg')
   go_end0
   exact⟨rfl,(hg.trans (World.grownBy_alloc wr _ _)).trans hg'⟩
theorem X4s (base:Nat) (xs:List Value) (n:Nat) (A:Option Addr) (c:Nat) (w:World) (hown:w.ownsRow base 161 2 (.slice A n c) n xs) (hbase:base≤w.heap.size) (hn:n≤2000000):
  Calls Tryz.prog 67 #[.slice A n c] w fun e w'=>e = .returned (.tuple #[])∧w.grownBy w' (Value.slice A n c).ownBlock:=by
 have HO:=Lib.hid hown;clear hown;go_enter Tryz.func67,Tryz.ntmps67
 go_wp2
 go_loopw [2] (fun i wr=>∃(k:Nat) (ys:List Value),k≤n∧i = .int .i64 k∧wr.ownsRow base 161 2 (.slice A n c) n ys∧Hid (w.grownBy wr (Value.slice A n c).ownBlock)) (fun i _=>n-(intOf i).toNat)
 case atStart=>exact⟨0,xs,Nat.zero_le _,rfl,HO.out,World.grownBy.refl w _⟩
 case round=>
  obtain⟨k,ys,hk,rfl,hown,hg⟩:=hrel;have hg:=hg.out;by_cases hlt:k<n
  ·obtain⟨g,cap,hA,_,hg2⟩:=hown.form (by omega)
   injection hA with hA _ _
   subst hA;have hl2:ys.length=n*2:=hown.1;obtain⟨z0,hcell0⟩:∃u,wr.cell? ⟨g,k*2,none⟩=some u:=⟨_,(hown.cellAt (k*2) (by omega)).trans (List.getElem?_eq_getElem (by omega))⟩;have hfz0:=hown.frozenAt (k*2);obtain⟨z1,hcell1⟩:∃u,wr.cell? ⟨g,k*2+1,none⟩=some u:=⟨_,(hown.cellAt (k*2+1) (by omega)).trans (List.getElem?_eq_getElem (by omega))⟩;have hfz1:=hown.frozenAt (k*2+1);have hkI:(k:Int)<(n:Int):=by omega
   have HO2:=Lib.hid ((hown.stored (k*2) (.string { data:=#[63] })).1.stored (k*2+1) (.int .i64 0)).1;have HG2:=Lib.hid ((hg.trans (hown.stored (k*2) (.string { data:=#[63] })).2).trans ((hown.stored (k*2) (.string { data:=#[63] })).1.stored (k*2+1) (.int .i64 0)).2);clear hown hg hl2
   go_wp2
   go_roundw
   case rel=>exact⟨k+1,((ys.set (k*2) (.string { data:=#[63] })).set (k*2+1) (.int .i64 0)),by omega,by go_num,HO2.out,HG2⟩
   case measure=>simp[intOf];omega
  ·have hbs:=Z8g hg hbase
   go_wp2_with (at_builtin;refine Z0m rfl _ _ 46 rfl base 161 (.agg #[.string ⟨#[]⟩, .int .i64 0]) 2 24 Tryz.underlying46 Y2p rfl (by decide) _ _ _ (by exact rfl) (hown.alloc _) _ 1 1 (wv [(nos,0)]) (by exact rfl) (X4.lit wr 161 (wv [(nos,0)]) (0,0) 2 1 rfl) (X5d _) (by unfold maxLen;omega) (by omega) (Nat.le_trans hbs (G0 _ _).size) ?_;intro A' c' w' hown' hg')
   go_end0
   exact⟨rfl,(hg.trans (World.grownBy_alloc wr _ _)).trans hg'⟩
end
section
open Go.RowKit
structure Bnd (w:World) (lo hi:Nat) (m:Mq) (vc vw vf:Value):Prop where
 rows:N1 w lo m vc vw vf
 lt:∀q,(vc.ownBlock=some q∨vw.ownBlock=some q∨vf.ownBlock=some q)→q<hi
 len:Z3s m 1000001
theorem S2.lay {w:World}{b hi:Nat}{l:List Mq}{cs:List Value}(h:S2 w b l cs hi):∃L:Nat→Nat,(∀i j,i≤j→L i≤L j)∧b≤L 0∧(∀i,L i≤hi)∧∀k m,l[k]? = some m→∃vc vw vf,Bnd w (L k) (L (k+1)) m vc vw vf∧∀j v,(Z1 m vc vw vf)[j]? = some v→cs[k*24+j]? = some v:=by
 induction h with
 | @nil hi h=>exact⟨fun _=>hi,fun _ _ _=>Nat.le_refl _,h,fun _=>Nat.le_refl _,fun k m hk=>by simp at hk⟩
 | @snoc l xs m0 cs0 hi lo hi' hp h1 h2 hm ih=>
  have hlen:=hp.len;obtain⟨L,hmon,h0,hL,hk⟩:=ih;obtain⟨vc,vw,vf,rfl,hR,hlt,hln,_⟩:=hm;refine⟨fun i=>if i<l.length then L i else if i=l.length then lo else hi',fun i j hij=>?_, ?_,fun i=>?_,fun k m hkm=>?_⟩
  ·have a:=hL i
   have c:=hmon i j hij;simp only
   split<;>split<;>(try split)<;>(try split)<;>omega
  ·have a:=hp.le
   simp only
   split
   ·exact h0
   ·split<;>omega
  ·have a:=hL i
   simp only
   split
   ·omega
   ·split<;>omega
  ·by_cases hlt2:k<l.length
   ·rw[List.getElem?_append_left hlt2] at hkm
    obtain⟨vc1,vw1,vf1,hB,hc⟩:=hk k m hkm;refine⟨vc1,vw1,vf1,⟨?_,fun q hq=>?_,hB.len⟩,fun j v hv=>?_⟩
    ·simp only[hlt2,if_true]
     exact hB.rows
    ·have a:=hB.lt q hq
     have c:=hL (k+1);simp only
     split
     ·exact a
     ·split<;>omega
    ·have:=hc j v hv
     rw[List.getElem?_append_left (List.getElem?_eq_some_iff.1 this).1];exact this
   ·have hke:k=l.length:=by
     have:=(List.getElem?_eq_some_iff.1 hkm).1;rw[List.length_append,List.length_singleton] at this;omega
    subst hke;rw[List.getElem?_append_right (Nat.le_refl _),Nat.sub_self] at hkm;injection hkm with hkm
    subst hkm;refine⟨vc,vw,vf,⟨?_,fun q hq=>?_,hln⟩,fun j v hv=>?_⟩
    ·simp only[Nat.lt_irrefl,if_false,if_true]
     exact hR
    ·have a:=hlt q hq
     simp only;rw[if_neg (by omega),if_neg (by omega)];exact a
    ·rw[List.getElem?_append_right (by omega),hlen,Nat.add_sub_cancel_left]
     exact hv
theorem Bnd.over {w w':World}{lo hi:Nat}{m:Mq}{vc vw vf:Value}{r:Option Nat}(h:Bnd w lo hi m vc vw vf) (hg:w.grownBy w' r) (hr:∀q,r=some q→q<lo):Bnd w' lo hi m vc vw vf:=
 ⟨⟨Y5i h.rows.1 hg hr,Y5i h.rows.2.1 hg hr,Y5i h.rows.2.2 hg hr⟩,h.lt,h.len⟩
theorem Bnd.row {w w':World}{lo hi b' s n:Nat}{m:Mq}{vc vw vf v:Value}{xs:List Value}(h:Bnd w lo hi m vc vw vf) (hO:w.ownsRow b' 49 s v n xs) (hg:w.grownBy w' v.ownBlock):Bnd w' lo hi m vc vw vf:=⟨h.rows.row hO hg rfl,h.lt,h.len⟩
theorem X4t {b e s n cap g:Nat}:∀(vs:List Value) (o:Nat) {w:World}{cs:List Value},w.ownsRow b e s (.slice (some ⟨g,0,none⟩) n cap) n cs→∃cs',(w.setCells g o vs).ownsRow b e s (.slice (some ⟨g,0,none⟩) n cap) n cs'∧w.grownBy (w.setCells g o vs) (some g)∧∀i,(i<o∨o+vs.length≤i)→cs'[i]? = cs[i]?
 |[],_,w,cs,h=>⟨cs,h,World.grownBy.refl w _,fun _ _=>rfl⟩
 |v::vs,o,w,cs,h=>by
  obtain⟨h1,h2⟩:=h.stored o v;obtain⟨cs',h3,h4,h5⟩:=X4t vs (o+1) h1;refine⟨cs',h3,h2.trans h4,fun i hi=>?_⟩;rw[List.length_cons] at hi;rw[h5 i (by omega),List.getElem?_set_ne (by omega)]
theorem X7l (o g:Nat) (w:World):(Instr.fieldAt 49 (.pointer (some ⟨g,o,none⟩)) 11).run Tryz.prog w = .ok (.pointer (some ⟨g,o+15,none⟩)) w:=by
 kernel_rfl
theorem X7m (o g:Nat) (w:World):(Instr.fieldAt 49 (.pointer (some ⟨g,o,none⟩)) 18).run Tryz.prog w = .ok (.pointer (some ⟨g,o+22,none⟩)) w:=by
 kernel_rfl
theorem X7n (o g:Nat) (w:World):(Instr.fieldAt 49 (.pointer (some ⟨g,o,none⟩)) 19).run Tryz.prog w = .ok (.pointer (some ⟨g,o+23,none⟩)) w:=by
 kernel_rfl
def Z9n (l:List Mq) (L:Nat→Nat) (k:Nat) (w:World) (cs:List Value):Prop:=
 ∀j m,k≤j→l[j]? = some m→∃vc vw vf,Bnd w (L j) (L (j+1)) m vc vw vf∧∀i v,(Z1 m vc vw vf)[i]? = some v→cs[j*24+i]? = some v
theorem Z9n.over {l:List Mq}{L:Nat→Nat}{k:Nat}{w w':World}{cs:List Value}{r:Option Nat}(h:Z9n l L k w cs) (hmon:∀i j,i≤j→L i≤L j) (hg:w.grownBy w' r) (hr:∀q,r=some q→q<L k):Z9n l L k w' cs:=by
 intro j m hj hm;obtain⟨vc,vw,vf,h1,h2⟩:=h j m hj hm;exact⟨vc,vw,vf,h1.over hg fun q hq=>Nat.lt_of_lt_of_le (hr q hq) (hmon k j hj),h2⟩
theorem Z9n.row {l:List Mq}{L:Nat→Nat}{k b s n:Nat}{w w':World}{cs cs' xs:List Value}{v:Value}(h:Z9n l L k w cs) (hO:w.ownsRow b 49 s v n xs) (hg:w.grownBy w' v.ownBlock) (hc:∀i,k*24≤i→cs'[i]? = cs[i]?):Z9n l L k w' cs':=by
 intro j m hj hm;obtain⟨vc,vw,vf,h1,h2⟩:=h j m hj hm;refine⟨vc,vw,vf,h1.row hO hg,fun i v hv=>?_⟩;rw[hc _ (by have:=Nat.mul_le_mul_right 24 hj;omega)];exact h2 i v hv
theorem J7k (l:List Mq) (B:Nat) (cs:List Value) (A:Option Addr) (n c:Nat) (hn:l.length=n) (hlim:n≤1000000) (w:World) (hown:w.ownsRow B 49 24 (.slice A n c) n cs) (hle:B≤w.heap.size) {hi:Nat}(hp:S2 w B l cs hi):
  Calls Tryz.prog 32 #[.slice A n c] w fun e w'=>e = .returned (.tuple #[])∧Below B w w':=by
 obtain⟨L,hmon,h0,_,hk0⟩:=hp.lay;go_enter Tryz.func32,Tryz.ntmps32;refine Z9.start 31 [(0, .slice A n c)] rfl rfl ⟨rfl,trivial⟩ ?_;intro a0 H0;refine H0.rg 1 fun a1 H1=>nt ?_;refine wp_block ?_;refine Q7 n (fun k a w'=>Z9 a 31 [(0, .slice A n c),(2, .int .i64 ((k:Nat):Int))]∧Below B w w'∧B≤w'.heap.size∧∃cs',w'.ownsRow B 49 24 (.slice A n c) n cs'∧Z9n l L k w' cs') ⟨H1.keep ⟨rfl,rfl,trivial⟩,Below.refl _ _,hle,cs,hown,fun j m _ hm=>hk0 j m hm⟩ ?_;clear H0 H1 hown hle hk0 hp;rintro k a1 w1 hk ⟨H1,hb1,hs1,cs1,hO1,hR1⟩;refine H1.rg 2 fun a2 H2=>?_;refine H2.len gz rfl rfl rfl rfl Tryz.underlying22 fun a3 H3=>?_;by_cases hlt:k<n
 rotate_left
 ·refine H3.bb 0 rfl rfl rfl rfl rfl rfl (Q3 _ _ false (by rw[decide_eq_false_iff_not];omega) _ _ _) rfl fun a4 H4=>nt (H4.condF rfl ?_)
  refine wp_exit ?_;repeat (with_reducible refine J7 ?_)
  refine X3 ?_;exact bodyPost_end (results_none rfl _ _ _) H4.df ⟨rfl,hb1⟩
 refine H3.bb 0 rfl rfl rfl rfl rfl rfl (Q3 _ _ true (by rw[decide_eq_true_iff];omega) _ _ _) rfl fun a4 H4=>nt (H4.condT rfl ?_);refine Z3 (Z0 ?_);obtain⟨m,hm⟩:∃m,l[k]? = some m:=⟨_,List.getElem?_eq_getElem (by omega)⟩;obtain⟨vc,vw,vf,⟨⟨oc,ow,of⟩,hbl,l1,l2,l3⟩,hcs⟩:=hR1 k m (Nat.le_refl _) hm;obtain⟨g,cap,hA,hg1,_⟩:=hO1.form (by omega);injection hA with hA _ hcc
 subst hA;obtain⟨Ac,cc,rfl,_,_⟩:=V3 oc;obtain⟨Aw,cw,rfl,_,_⟩:=V3 ow;obtain⟨Af,cf,rfl,_,_⟩:=V3 of;have hBk:B≤L k:=Nat.le_trans h0 (hmon 0 k (Nat.zero_le _));have hR1:Z9n l L (k+1) w1 cs1:=fun j m hj hm=>hR1 j m (Nat.le_of_succ_le hj) hm;replace H4:=H4.kp [0,2];have hix:∀w',(Instr.indexAt 22 (.slice (some ⟨g,0,none⟩) n c) (.int .i64 ((k:Nat):Int))).run Tryz.prog w' = .ok (.pointer (some ⟨g,0+k*24,none⟩)) w':=fun w'=>Z3u 22 Tryz.underlying22 24 (fun _=>by kernel_rfl) _ _ _ _ _ hlt _;have cell:∀{w':World}{cs':List Value}(i:Nat) (v:Value),w'.ownsRow B 49 24 (.slice (some ⟨g,0,none⟩) n c) n cs'→cs'[k*24+i]? = some v→w'.cell? ⟨g,0+k*24+i,none⟩=some v:=by
  intro w' cs' i v hO hv;have hj:k*24+i<n*24:=by have:=(List.getElem?_eq_some_iff.1 hv).1;have:=hO.1;omega
  rw[Nat.zero_add,hO.cellAt _ hj];exact hv
 repeat (refine wp_seq ?_)
 refine wp_block ?_;refine H4.rg 2 fun a8 H8=>?_;refine H8.index gz rfl rfl rfl rfl rfl (hix _) fun a9 H9=>?_;refine H9.go gz rfl rfl _ (S3 rfl (H9.ev rfl) (fun g w=>X7l (0+k*24) g w)) fun a10 H10=>?_;refine H10.ld 0 (D7 _ _ _ _ _ _ (cell 15 _ hO1 (hcs 15 _ rfl))) fun a11 H11=>?_;refine H11.cl (gC (J2c B _ _ _ _ _ (V2 oc hBk) hs1 (by omega))) ?_;rintro a12 _ w2 ⟨rfl,hg⟩ H12;have q1:∀q,(Value.slice Ac m.codes.length cc).ownBlock=some q→q<L (k+1):=fun q hq=>hbl q (.inl hq);have hb2:=hb1.grown hg hs1 (fun q hq=>Nat.le_trans hBk (oc.lt q hq).1);have hR2:=hR1.over hmon hg q1;have ow2:=ow.kept hg (G8 ow oc rfl);have of2:=of.kept hg (G8 of oc rfl);have hO2:=hO1.kept hg (G8 hO1 oc rfl);have hs2:=Nat.le_trans hs1 hg.size;clear hg hR1 ow of hO1;refine nt ?_;replace H12:=H12.kp [0,2];refine H12.rg 2 fun a14 H14=>?_;refine H14.index gz rfl rfl rfl rfl rfl (hix _) fun a15 H15=>?_;refine H15.go gz rfl rfl _ (S3 rfl (H15.ev rfl) (fun g w=>X7m (0+k*24) g w)) fun a16 H16=>?_;refine H16.ld 0 (Z0o _ _ _ _ _ _ (cell 22 _ hO2 (hcs 22 _ rfl))) fun a17 H17=>?_;refine H17.cl (gC (X4s B _ _ _ _ _ (V2 ow2 hBk) hs2 (by omega))) ?_;rintro a18 _ w3 ⟨rfl,hg⟩ H18;have q2:∀q,(Value.slice Aw m.wishes.length cw).ownBlock=some q→q<L (k+1):=fun q hq=>hbl q (.inr (.inl hq));have hb3:=hb2.grown hg hs2 (fun q hq=>Nat.le_trans hBk (ow2.lt q hq).1);have hR3:=hR2.over hmon hg q2;have of3:=of2.kept hg (G8 of2 ow2 rfl);have hO3:=hO2.kept hg (G8 hO2 ow2 rfl);have hs3:=Nat.le_trans hs2 hg.size;clear hg hR2 ow2 of2 hO2;refine nt ?_;replace H18:=H18.kp [0,2];refine H18.rg 2 fun a20 H20=>?_;refine H20.index gz rfl rfl rfl rfl rfl (hix _) fun a21 H21=>?_;refine H21.go gz rfl rfl _ (S3 rfl (H21.ev rfl) (fun g w=>X7n (0+k*24) g w)) fun a22 H22=>?_;refine H22.ld 0 (S6 _ _ _ _ _ _ (cell 23 _ hO3 (hcs 23 _ rfl))) fun a23 H23=>?_;refine H23.cl (gC (J2d B _ _ _ _ _ (V2 of3 hBk) hs3 (by omega))) ?_;rintro a24 _ w4 ⟨rfl,hg⟩ H24;have q3:∀q,(Value.slice Af m.filters.length cf).ownBlock=some q→q<L (k+1):=fun q hq=>hbl q (.inr (.inr hq));have hb4:=hb3.grown hg hs3 (fun q hq=>Nat.le_trans hBk (of3.lt q hq).1);have hR4:=hR3.over hmon hg q3;have hO4:=hO3.kept hg (G8 hO3 of3 rfl);have hs4:=Nat.le_trans hs3 hg.size;clear hg hR3 of3 hO3;refine nt ?_;replace H24:=H24.kp [0,2];refine H24.rg 2 fun a26 H26=>?_;refine H26.any (w':=w4) gz rfl rfl (.agg (Z1 (N6 (-9)) Z2 Z2 Z2).toArray) (by intro cs b h;cases h) (by kernel_rfl) (by kernel_rfl) fun a27 H27=>?_;refine H27.index gz rfl rfl rfl rfl rfl (hix _) fun a28 H28=>?_;have hth:w4.there g (0+k*24) (Z1 (N6 (-9)) Z2 Z2 Z2).toArray.size:=by
  intro j hj;have hj:j<24:=hj;have hlc:0+k*24+j<n*24:=by omega
  refine⟨?_,hO4.frozenAt _⟩;rw[hO4.cellAt _ hlc,List.getElem?_eq_getElem (by rw[hO4.1];exact hlc)];rfl
 have hst:=run_storeAt_mid (P:=Tryz.prog) w4 g (0+k*24) 49 (Z1 (N6 (-9)) Z2 Z2 Z2).toArray hth (by kernel_rfl) (by kernel_rfl);obtain⟨cs5,hO5,hg5,hc5⟩:=X4t (Z1 (N6 (-9)) Z2 Z2 Z2) (0+k*24) hO4;refine H28.run0 (gz rfl) rfl (Q6 rfl (H28.ev rfl) (H28.ev rfl) hst) fun a29 H29=>?_;have hb5:=hb4.grown hg5 hs4 (fun q hq=>by injection hq with hq;rw[←hq];exact hg1);refine wpList_nil (Z6 (Z0 ?_));refine H29.rg 1 fun a30 H30=>?_;refine H30.bb 1 rfl rfl rfl rfl rfl rfl (E7 k (by omega) _ _ _) rfl fun a32 H32=>nt ?_;exact⟨hlt,H32.keep ⟨rfl,rfl,trivial⟩,hb5,Nat.le_trans hs4 hg5.size,cs5,hO5,hR4.row hO4 hg5 fun i hi=>hc5 i (.inr (by show _+24≤_;omega))⟩
theorem X4u (base:Nat) (xs:List UInt8) (n:Nat) (A:Option Addr) (c:Nat) (w:World) (hown:w.ownsRow base 5 1 (.slice A n c) n (xs.map bv)) (hbase:base≤w.heap.size) (hn:n≤2000000):
  Calls Tryz.prog 31 #[.slice A n c] w fun e w'=>e = .returned (.tuple #[])∧w.grownBy w' (Value.slice A n c).ownBlock:=by
 have HO:=Lib.hid hown;clear hown;go_enter Tryz.func31,Tryz.ntmps31
 go_wp2
 go_loopw [2] (fun i wr=>∃(k:Nat) (ys:List UInt8),k≤n∧i = .int .i64 k∧wr.ownsRow base 5 1 (.slice A n c) n (ys.map bv)∧Hid (w.grownBy wr (Value.slice A n c).ownBlock)) (fun i _=>n-(intOf i).toNat)
 case atStart=>exact⟨0,xs,Nat.zero_le _,rfl,HO.out,World.grownBy.refl w _⟩
 case round=>
  obtain⟨k,ys,hk,rfl,hown,hg⟩:=hrel;have hg:=hg.out;by_cases hlt:k<n
  ·obtain⟨g,cap,hA,_,hg2⟩:=hown.form (by omega)
   injection hA with hA _ _
   subst hA;obtain⟨y,hy,hcell,hfz⟩:=J2q hown k hlt;have hkI:(k:Int)<(n:Int):=by omega
   have hy8:y.toNat<256:=y.toNat_lt;have hx8:y.toNat ^^^ 85<2^8:=Nat.xor_lt_two_pow (by omega) (by decide);have EV:Hid (bits .xor .u8 (y.toNat:Int) 85=(((UInt8.ofNat (y.toNat ^^^ 85)).toNat:Nat):Int)):=by
    show bits .xor .u8 (y.toNat:Int) ((85:Nat):Int)=_;rw[u8_xor_nat _ _ hy8 (by decide),UInt8.toNat_ofNat_of_lt' hx8]
   have HO2:=Lib.hid (fun v hv=>J2p hown k (UInt8.ofNat (y.toNat ^^^ 85)) (v:=v) hv);have HG2:=Lib.hid (fun v=>hg.trans (hown.stored k v).2);clear hown hg hy
   go_wp2
   go_roundw
   case rel=>exact⟨k+1,ys.set k (UInt8.ofNat (y.toNat ^^^ 85)),by omega,by go_num,HO2.out _ (by have:=EV.out;exact congrArg _ this),HG2.out _⟩
   case measure=>simp[intOf];omega
  ·have hbs:=Z8g hg hbase
   go_wp2_with (at_builtin;refine Z0m rfl _ _ 31 rfl base 5 (.int .u8 0) 1 1 Tryz.underlying31 J4 rfl (by decide) _ _ _ (by exact rfl) (hown.alloc _) _ 1 1 [bv 5] (by exact rfl) (X4.lit wr 5 [bv 5] (0,0) 1 1 rfl) (Z7s [5]) (by unfold maxLen;omega) (by omega) (Nat.le_trans hbs (G0 _ _).size) ?_;intro A' c' w' hown' hg')
   go_end0
   exact⟨rfl,(hg.trans (World.grownBy_alloc wr _ _)).trans hg'⟩
end
section
open Go.RowKit
theorem RBS.cut {w w':World}{B:Nat}{A:Option Addr}{xs:List UInt8}(h:RBS w (fun k=>k<B) A xs) (hb:Below B w w'):RBS w' (fun k=>k<B) A xs:=by
 intro hn;obtain⟨ad,h1,h2,h3,h4⟩:=h hn;exact⟨ad,h1,h2,Nat.lt_of_lt_of_le h3 hb.size,fun j u hu=>(hb.cell (by rw[Z0e];exact h2)).trans (h4 j u hu)⟩
theorem Z2j.cut {w w':World}{B:Nat}{A:Option Addr}{l:List (List UInt8)}(h:Z2j w (fun k=>k<B) A l) (hb:Below B w w'):Z2j w' (fun k=>k<B) A l:=by
 intro k b hk;obtain⟨g,o,A',c',h1,h2,h3,h4,h5,h6⟩:=h k b hk;exact⟨g,o,A',c',h1,h2,Nat.lt_of_lt_of_le h3 hb.size,(hb.cell (p:=⟨g,o+k,none⟩) h2).trans h4,h5,h6.cut hb⟩
theorem Z2j.all {w:World}{S:Nat→Prop}{A:Option Addr}{l:List (List UInt8)}(h:Z2j w S A l):Z2j w (fun _=>True) A l:=h.mono fun _ _ _=>trivial
theorem X1n (l:List (List UInt8)) (n:Nat) (hn:l.length=n) (AL:Option Addr) (cL:Nat) (ti port:Int) (hti:inR ti 4294967295=true) (hpo:inR port 65535=true) (w:World) (hL:Z2j w (fun _=>True) AL l) (hl:n≤100000) (hlb:∀b∈l,b.length≤140737488351232):
  Calls Tryz.prog 20 #[.slice AL n cL,iz ti,iz port] w fun e w'=>∃v,e = .returned v∧∃x A c,v = .tuple #[.slice A x.b.length c, .bool (x.rst||decide (x.nq∈x.fins)),iz 0]∧S1 ti port l .zero x∧Z4d n x∧w'.ownsRow w.heap.size 5 1 (.slice A x.b.length c) x.b.length (x.b.map bv)∧Below w.heap.size w w':=by
 subst hn;exact Z9i l AL cL ti port hti hpo w hL hl hlb
theorem J2e {x:List UInt8}{l:List Mq}{y:List UInt8}{e:Int}(h:Fed x l y e):l.length≤x.length:=by
 induction h with
 |done=>exact Nat.le_refl _
 |part=>exact Nat.zero_le _
 |bad=>exact Nat.zero_le _
 |one _ h _ ih=>
  have:=Y0t h;rw[List.length_drop] at ih;rw[List.length_cons];omega
structure XW (W:World) (g:Nat) (L:List Value) (B B5:Nat) (AL A2:Option Addr) (l:List (List UInt8)) (Ab:Option Addr) (cb:Nat) (xb:List UInt8) (Am:Option Addr) (cm:Nat) (k:List Mq) (csm:List Value) (w:World):Prop where
 own:X0 W g [(g,L)] w
 fl:Z2j w (fun k=>k<B) AL l
 fi:Z2j w (fun k=>k<B) A2 l
 hb:w.ownsRow B 5 1 (.slice Ab xb.length cb) xb.length (xb.map bv)
 hm:w.ownsRow B5 49 24 (.slice Am k.length cm) k.length csm
 pm:PR w B5 k csm
 le:B5≤w.heap.size
 leB:B≤B5
section
variable {W w w':World}{g B B5 cb cm:Nat}{L csm:List Value}{AL A2 Ab Am:Option Addr}{l:List (List UInt8)}{xb:List UInt8}{k:List Mq}
theorem XW.next (h:XW W g L B B5 AL A2 l Ab cb xb Am cm k csm w) (hb:Below w.heap.size w w'):XW W g L B B5 AL A2 l Ab cb xb Am cm k csm w':=
 ⟨h.own.call hb,h.fl.grown (X2 hb none) (fun k e=>by cases e),h.fi.grown (X2 hb none) (fun k e=>by cases e),Y1 h.hb hb,Y1 h.hm hb,h.pm.next hb,Nat.le_trans h.le hb.size,h.leB⟩
theorem XW.mqs (h:XW W g L B B5 AL A2 l Ab cb xb Am cm k csm w):Y3s w Am k:=by
 obtain⟨hi,_,hp⟩:=h.pm;exact hp.at_ h.hm
end
theorem Q6h (u:Bool) (x y:Operand) (w:World):(do eqGuard .eql 4 x y (.bool u) (.bool u);binOp .eql 4 (.bool u) (.bool u):Sem Value).run Tryz.prog w = .ok (.bool true) w:=by
 cases u<;>kernel_rfl
theorem Y0v.next {W W':World}{A:Option Addr}{len:Nat}(h:Y0v W A len) (hb:Below W.heap.size W W'):Y0v W' A len:=fun i hi=>by
 obtain⟨b,o,who,q,As,cs,raw,Ar,cr,q1,q2,q3,q4,q5,q6,q7⟩:=h i hi;exact⟨b,o,who,q,As,cs,raw,Ar,cr,q1,Nat.lt_of_lt_of_le q2 hb.size,Y0j q3 hb q2,q4.next hb,q5.next hb,q6,q7⟩
theorem Y3g {ti port:Int}{l:List (List UInt8)}{x:Lst}(h:S1 ti port l .zero x) (hl:l.length≤30):x.b.length≤65000:=by
 have key:∀{l:List (List UInt8)}{x y:Lst}{n:Nat},S1 ti port l x y→Z4d n x→Z4d (n+l.length) y:=by
  intro l x y n h
  induction h generalizing n with
  |nil=>exact fun h=>h
  |skip _ _ ih=>exact fun h=>(ih (h.more (Nat.le_succ _))).more (by rw[List.length_cons];omega)
  |take _ h2 _ ih=>exact fun h=>(ih (X0h h2 h)).more (by rw[List.length_cons];omega)
 have:=(key h Z4d.zero).2.2.2.1;omega
theorem Q3v (A:Option Addr) (len cap:Nat) (ip port:Int) (w:World) (ha:Y0v w A len) (hlen:len≤maxLen) (hT:Wd w):
  Calls Tryz.prog 4 #[.agg (T9 A len cap ip port).toArray] w fun e w'=>e = .returned (.bool true)∧Below w.heap.size w w':=by
 go_enter Tryz.func4,Tryz.ntmps4
 refine Z9.start 130 [(0, .agg (T9 A len cap ip port).toArray)] rfl rfl ⟨rfl,trivial⟩ ?_;intro a0 H0;refine rl ?_;refine H0.bx (X0.start w) 1 (L:=T9 A len cap ip port) fun a w1 O1 H=>nt ?_;obtain⟨g,hg⟩:∃g,w.heap.size=g:=⟨_,rfl⟩;rw[hg] at O1 H;replace H:=H.kp [1];clear H0;have hbel:∀{w':World},X0 w g [(g,T9 A len cap ip port)] w'→Below w.heap.size w w':=fun h=>hg▸h.bel;have hTn:∀{w':World},X0 w g [(g,T9 A len cap ip port)] w'→Wd w':=fun h=>hT.below (hbel h);refine H.rg 0 fun a H=>?_;refine H.loadS rfl rfl rfl rfl rfl (O1.get 0 rfl) Tryz.underlying52 rfl Y9k rfl fun a H=>?_;refine H.cl (Q0k A len cap ip port w1 (ha.next (hbel O1)) hlen) ?_;rintro a _ w2 ⟨bh,rfl,hb2⟩ H;have O2:=O1.call hb2;refine nt (H.cond (t:=bh) rfl ?_);cases bh with
 |true=>
  refine H.rg 1 fun a H=>nt (wp_ret ?_);repeat with_reducible first |apply Z4 |apply Z5
  exact bodyPost_ret (results_tmp rfl _ _ _) H.df ⟨congrArg Ending.returned (H.at_ 2 _ rfl),hbel O2⟩
 |false=>
 refine Z3 (Z0 ?_);replace H:=H.kp [1];refine H.rg 0 fun a H=>?_;refine H.loadS rfl rfl rfl rfl rfl (O2.get 0 rfl) Tryz.underlying52 rfl Y9k rfl fun a H=>?_;refine H.cl (J7j A len cap ip port w2 (ha.next (hbel O2))) ?_;rintro a _ w3 ⟨fs,AL,cL,rfl,hR,hfl,hlb,hb3⟩ H;have O3:=O2.call hb3;refine H.ms 1 fun a H=>nt ?_;clear O1 O2 hb2 hb3;obtain⟨l,hl⟩:∃l,fs.map (·.2)=l:=⟨_,rfl⟩;have hll:l.length=fs.length:=by rw[←hl,List.length_map]
 have hlb':∀b∈l,b.length≤140737488351232:=fun b hb=>by
  rw[←hl] at hb;obtain⟨q,hq,rfl⟩:=List.mem_map.1 hb;exact hlb q hq
 have hF3:Z2j w3 (fun _=>True) AL l:=hl▸hR.at_;clear hR hlb;replace H:=H.kp [1,3];refine H.rg 1 fun a H=>?_;refine H.cl (J2a l AL cL fs.length hll w3 hF3 (by omega) hlb') ?_;rintro a _ w4 ⟨fs2,A2,c2,rfl,hl2,hR2,hb4⟩ H;have O4:=O3.call hb4;refine H.ms 1 fun a H=>nt ?_;have hF4:Z2j w4 (fun k=>k<w4.heap.size) AL l:=(hF3.next hb4).mono fun k h _=>h;have hG4:Z2j w4 (fun k=>k<w4.heap.size) A2 l:=(hl2▸hR2.at_).mono fun k h _=>h;obtain⟨B,hB⟩:∃B,w4.heap.size=B:=⟨_,rfl⟩;have hBg:g≤B:=by rw[←hB];exact O4.le
 have hgB:g<B:=by rw[←hB];exact O4.lt 0 rfl
 rw[hB] at hF4 hG4;clear O3 hF3 hR2 hl2 hb4 hl;replace H:=H.kp [1,3,4];cases hv:(inR ip 4294967295&&inR port 65535) with
 |false=>
  refine H.rg 2 fun a H=>?_;refine H.ld 1 (O4.li 0 1) fun a H=>?_;refine H.ld 0 (O4.li 0 2) fun a H=>?_;refine H.cl (Z1f (Y9h (.slice A2 fs.length c2) ip port hv w4)) ?_;rintro a _ w5 ⟨rfl,hb5⟩ H;have O5:=O4.call hb5;replace hF4:=hF4.grown (X2 hb5 none) (fun k e=>by cases e);replace hG4:=hG4.grown (X2 hb5 none) (fun k e=>by cases e);refine H.ms 1 fun a H=>?_;refine H.ex (r:=Z2) 0 fun a H=>?_;refine H.ex (r:=.bool false) 0 fun a H=>?_;refine H.ex (r:=iz 1) 3 fun a H=>nt ?_;replace H:=H.kp [1,3,4,5,7];refine H.rg 2 fun a H=>?_;refine H.ld 1 (O5.li 0 1) fun a H=>?_;refine H.ld 0 (O5.li 0 2) fun a H=>?_;refine H.cl (Z1f (X7j (.slice A2 fs.length c2) ip port hv w5)) ?_;rintro a _ w6 ⟨rfl,hb6⟩ H;have O6:=O5.call hb6;replace hF4:=hF4.grown (X2 hb6 none) (fun k e=>by cases e);replace hG4:=hG4.grown (X2 hb6 none) (fun k e=>by cases e);refine H.ms 1 fun a H=>?_;refine H.ex (r:=Z2) 0 fun a H=>?_;refine H.ex (r:=iz 1) 2 fun a H=>nt ?_;replace H:=H.kp [1,3,4,5,7,8,9];refine H.rg 2 fun a H=>?_;refine H.cl (Z1f (X1l l A2 AL c2 cL fs.length hll w6 hG4.all hF4.all (by omega) hlb')) ?_;rintro a _ w7 ⟨rfl,hb7⟩ H;have O7:=O6.call hb7;replace hF4:=hF4.grown (X2 hb7 none) (fun k e=>by cases e);replace hG4:=hG4.grown (X2 hb7 none) (fun k e=>by cases e);refine H.un gz rfl rfl rfl rfl (G5 true _) fun a H=>nt (H.condF rfl (Z3 (Z0 ?_)));replace H:=H.kp [1,3,4,5,7,8,9];obtain⟨c3,f3⟩:∃b,inR ip 4294967295=b:=⟨_,rfl⟩;obtain⟨c4,f4⟩:∃b,inR port 65535=b:=⟨_,rfl⟩;rw[f3,f4] at hv;refine H.tb (fun w'=>X0 w g [(g,T9 A len cap ip port)] w') (fun _ _ h hb=>h.call hb) O7 [ec 0 44 (.pointer (some ⟨g,1,none⟩)),ec 1 45 (iz ip),ec 2 46 (.bool c3),ec 3 47 (.bool (!c3)),ec 4 48 (.bool (!c3)),ec 5 49 (gv c3 (.pointer (some ⟨g,2,none⟩))),ec 6 50 (gv c3 (iz port)),ec 7 51 (gv c3 (.bool c4)),ec 8 52 (gv c3 (.bool (!c4))),ec 9 53 (.bool (!c3 || !c4))] rfl
   ⟨jm,jl fun _ h=>h.li 0 1,jq fun w' _=>f3▸Z7t ip w',ju (hq:=G5 c3),jm,(by cases c3;exact jo;exact jm),(by cases c3;exact jo;exact jl fun _ h=>h.li 0 2),(by cases c3;exact jo;exact jq fun w' _=>f4▸Z8p port 65535 w'),(by cases c3;exact jo;exact ju (hq:=G5 c4)),(by cases c3<;>exact jp),trivial⟩ ?_
  clear H O7;intro a w8 H O8;have hz:(!c3 || !c4)=true:=by rw[←Bool.not_and,hv];rfl
  refine Z0 (H.cond (t:= !c3 || !c4) rfl ?_);rw[hz];replace H:=H.kp [3,4,5,7,8,9];refine H.tb (fun w'=>X0 w g [(g,T9 A len cap ip port)] w') (fun _ _ h hb=>h.call hb) O8 [ec 0 54 (iz 1),ec 1 55 (iz 1),ec 2 56 (.bool true),ec 3 57 (.bool true),ec 4 58 (iz 1),ec 5 59 (iz 1),ec 6 60 (.bool true),ec 7 61 (.bool true),ec 8 62 (.bool true),ec 9 63 (Z2),ec 10 64 (iz 0),ec 11 65 (.bool true),ec 12 66 (.bool true),ec 13 67 (.bool true),ec 14 68 (Z2),ec 15 69 (iz 0),ec 16 70 (.bool true),ec 17 71 (.bool true),ec 18 72 (.bool true),eh 19 73 (.bool true),ec 20 74 (.bool true),ec 21 2 (.bool true)] rfl
   ⟨jm,jq fun w' _=>X4k 1 w',jb fun _=>Z7 1 1 true rfl _ _ _,jm,jm,jq fun w' _=>X4k 1 w',jb fun _=>Z7 1 1 true rfl _ _ _,jp,jm,jm,jn Tryz.underlying31,jb fun _=>Z7 0 0 true rfl _ _ _,jp,jm,jm,jn Tryz.underlying22,jb fun _=>Z7 0 0 true rfl _ _ _,jp,jm,kb fun w' _=>X9i w',jp,jm,trivial⟩ ?_
  intro a wz H h;refine Z0 (wp_ret ?_);repeat with_reducible first |apply Z4 |apply Z5
  exact bodyPost_ret (results_tmp rfl _ _ _) H.df ⟨congrArg Ending.returned (H.at_ 2 _ rfl),hbel h⟩
 |true=>
 have hv2:=hv;simp only[Bool.and_eq_true] at hv2;refine H.rg 2 fun a H=>?_;refine H.ld 1 (O4.li 0 1) fun a H=>?_;refine H.ld 0 (O4.li 0 2) fun a H=>?_;refine H.cl (X1n l fs.length hll A2 c2 ip port hv2.1 hv2.2 w4 hG4.all (by omega) hlb') ?_;rintro a _ w5 ⟨x,Ab,cb,rfl,hh,_,hOb,hb5⟩ H;have hxl:=Y3g hh (by omega);obtain⟨ov,hov⟩:∃z,(x.rst||decide (x.nq∈x.fins))=z:=⟨_,rfl⟩;rw[hov] at H;rw[hB] at hOb;have O5:=O4.call hb5;replace hF4:=hF4.grown (X2 hb5 none) (fun k e=>by cases e);replace hG4:=hG4.grown (X2 hb5 none) (fun k e=>by cases e);have hB5:B≤w5.heap.size:=hB▸hb5.size;refine H.ms 1 fun a H=>?_;refine H.ex (r:=.slice Ab x.b.length cb) 0 fun a H=>?_;refine H.ex (r:=.bool ov) 0 fun a H=>?_;refine H.ex (r:=iz 0) 3 fun a H=>nt ?_;clear hb5 O4;replace H:=H.kp [1,3,4,5,6,7];refine H.rg 2 fun a H=>?_;refine H.ld 1 (O5.li 0 1) fun a H=>?_;refine H.ld 0 (O5.li 0 2) fun a H=>?_;refine H.cl (X1i l A2 c2 ip port hv2.1 hv2.2 w5 hG4.all (by omega) hlb' (hTn O5) (fun y hy=>Y3g hy (by omega)) fs.length hll) ?_;rintro a _ w6 ⟨y,k,left,er,Am,cm,csm,rfl,hhy,hFd,hOm,⟨him,him2,hPm⟩,hb6⟩ H;have hyx:=Y2v hhy hh;subst hyx;have O6:=O5.call hb6;replace hF4:=hF4.grown (X2 hb6 none) (fun k e=>by cases e);replace hG4:=hG4.grown (X2 hb6 none) (fun k e=>by cases e);replace hOb:=Y1 hOb hb6;have hB6:=Nat.le_trans hB5 hb6.size;have hw56:w5.heap.size≤w6.heap.size:=hb6.size;refine H.ms 1 fun a H=>?_;refine H.ex (r:=.slice Am k.length cm) 0 fun a H=>?_;refine H.ex (r:=iz er) 2 fun a H=>nt ?_;have hPl:k.length≤65000:=Nat.le_trans (J2e hFd) hxl;clear hb6 O5 hhy;replace H:=H.kp [1,3,4,5,6,7,8,9];refine H.rg 2 fun a H=>?_;refine H.cl (Z1f (X1l l A2 AL c2 cL fs.length hll w6 hG4.all hF4.all (by omega) hlb')) ?_;rintro a _ w7 ⟨rfl,hb7⟩ H;have O7:=O6.call hb7;replace hF4:=hF4.grown (X2 hb7 none) (fun k e=>by cases e);replace hG4:=hG4.grown (X2 hb7 none) (fun k e=>by cases e);refine H.un gz rfl rfl rfl rfl (G5 true _) fun a H=>nt (H.condF rfl (Z3 (Z0 ?_)));replace H:=H.kp [1,3,4,5,6,7,8,9];replace hOb:=Y1 hOb hb7;replace hOm:=Y1 hOm hb7;have W0:XW w g (T9 A len cap ip port) B w5.heap.size AL A2 l Ab cb y.b Am cm k csm w7:=⟨O7,hF4,hG4,hOb,hOm,PR.next ⟨him,him2,hPm⟩ hb7,Nat.le_trans hw56 hb7.size,hB5⟩;clear O6 hb7 O7 hF4 hG4 hOb hOm hPm him2 hB6 hw56 hB5;generalize w5.heap.size=B5 at W0;obtain⟨c3,f3⟩:∃b,inR ip 4294967295=b:=⟨_,rfl⟩;obtain⟨c4,f4⟩:∃b,inR port 65535=b:=⟨_,rfl⟩;rw[f3,f4] at hv;refine H.tb (XW w g (T9 A len cap ip port) B B5 AL A2 l Ab cb y.b Am cm k csm) (fun _ _ h hb=>h.next hb) W0 [ec 0 44 (.pointer (some ⟨g,1,none⟩)),ec 1 45 (iz ip),ec 2 46 (.bool c3),ec 3 47 (.bool (!c3)),ec 4 48 (.bool (!c3)),ec 5 49 (gv c3 (.pointer (some ⟨g,2,none⟩))),ec 6 50 (gv c3 (iz port)),ec 7 51 (gv c3 (.bool c4)),ec 8 52 (gv c3 (.bool (!c4))),ec 9 53 (.bool (!c3 || !c4))] rfl
  ⟨jm,jl fun _ h=>h.own.li 0 1,jq fun w' _=>f3▸Z7t ip w',ju (hq:=G5 c3),jm,(by cases c3;exact jo;exact jm),(by cases c3;exact jo;exact jl fun _ h=>h.own.li 0 2),(by cases c3;exact jo;exact jq fun w' _=>f4▸Z8p port 65535 w'),(by cases c3;exact jo;exact ju (hq:=G5 c4)),(by cases c3<;>exact jp),trivial⟩ ?_
 clear H W0;intro a w8 H W8;have hz:(!c3 || !c4)=false:=by rw[←Bool.not_and,hv];rfl
 refine Z0 (H.cond (t:= !c3 || !c4) rfl ?_);rw[hz];refine Z3 (Z0 ?_);replace H:=H.kp [1,3,4,5,6,7,8,9];refine H.rg 2 fun a H=>?_;refine H.ld 1 (W8.own.li 0 1) fun a H=>?_;refine H.ld 0 (W8.own.li 0 2) fun a H=>?_;refine H.cl (Y6k l AL cL ip port w8 W8.fl.all (by omega) hlb' fs.length hll) ?_;rintro a _ w9 ⟨y2,Aw,cw,rfl,hh2,_,hOw,hb9⟩ H;have hy2:=Y2v hh2 hh;subst hy2;rw[hov] at H;have W9:=W8.next hb9;have hrw:Y2 w8.heap.size y2.b (.slice Aw y2.b.length cw) w9:=Y2.of rfl hOw;refine H.ms 1 fun a H=>?_;refine H.ex (r:=.slice Aw y2.b.length cw) 0 fun a H=>?_;refine H.ex (r:=.bool ov) 2 fun a H=>nt ?_;clear hb9 W8 hOw hh2;replace H:=H.kp [1,3,4,5,6,7,8,9,10,11];refine H.rg 2 fun a H=>?_;refine H.ld 1 (W9.own.li 0 1) fun a H=>?_;refine H.ld 0 (W9.own.li 0 2) fun a H=>?_;refine H.cl (X4r l AL cL ip port w9 W9.fl.all (by omega) hlb' (hTn W9.own) (fun y hy=>Y3g hy (by omega)) fs.length hll) ?_;rintro a _ w10 ⟨y3,k3,left3,er3,Aq,cq,csq,rfl,hh3,hF3,hOq,⟨hiq,hiq2,hPq⟩,hb10⟩ H;have hy3:=Y2v hh3 hh;subst hy3;obtain⟨rfl,rfl,rfl⟩:=J9w hF3 hFd;have W10:=W9.next hb10;replace hrw:=hrw.next hb10;have hmq:=hPq.at_ hOq;refine H.ms 1 fun a H=>?_;refine H.ex (r:=.slice Aq k3.length cq) 0 fun a H=>?_;refine H.ex (r:=iz er3) 2 fun a H=>nt ?_;clear hb10 W9 hOq hPq hiq2 hh3;replace H:=H.kp [1,3,4,5,6,7,8,9,10,11,12,13];refine H.tb (fun w'=>XW w g (T9 A len cap ip port) B B5 AL A2 l Ab cb y3.b Am cm k3 csm w'∧Y2 w8.heap.size y3.b (.slice Aw y3.b.length cw) w'∧Y3s w' Aq k3) (fun _ _ h hb=>⟨h.1.next hb,h.2.1.next hb,h.2.2.next hb⟩) ⟨W10,hrw,hmq⟩ [ec 0 93 (iz 0),ec 1 94 (iz 0),ec 2 95 (.bool true),ec 3 96 (.bool true),ec 4 97 (.slice Ab y3.b.length cb),ec 5 98 (.slice Aw y3.b.length cw),eh 6 99 (.bool true),ec 7 100 (.bool true),ec 8 101 (.bool true),ec 9 102 (.bool ov),ec 10 103 (.bool ov),ec 11 104 (.bool true),ec 12 105 (.bool true),ec 13 106 (.bool true),ec 14 107 (iz er3),ec 15 108 (iz er3),ec 16 109 (iz er3),ec 17 110 (.bool true),ec 18 111 (.bool true),ec 19 112 (.bool true),ec 20 113 (.slice Am k3.length cm),ec 21 114 (.slice Aq k3.length cq),eh 22 115 (.bool true),ec 23 116 (.bool true),ec 24 14 (.bool true)] rfl
  ⟨jm,jq fun w' _=>X4k 0 w',jb fun _=>Z7 0 0 true rfl _ _ _,jm,jm,jm,kb fun w' h=>Y4t y3.b y3.b.length rfl Ab Aw cb cw w' (S4 rfl h.1.hb (Nat.le_trans h.1.leB h.1.le)) h.2.1.rb (by omega),jp,jm,jm,jm,jb fun _=>Q6h ov _ _ _,jp,jm,jm,jq fun w' _=>X4k er3 w',jm,jb fun _=>Z7 er3 er3 true (beq_self_eq_true _) _ _ _,jp,jm,jm,jm,kb fun w' h=>Q3u k3 Am Aq k3.length cm cq rfl (by omega) w' h.1.mqs h.2.2,jp,jm,trivial⟩ ?_
 clear H W10 hrw hmq;rintro a w11 H ⟨W11,_,_⟩;refine Z0 ?_;replace H:=H.kp [1,3,4,5,8,14];refine H.rg 1 fun a H=>?_;have KS:Calls Tryz.prog 31 ([.slice Ab y3.b.length cb]:List Value).toArray w11 fun e w'=>∃v,e = .returned v∧w11.grownBy w' (.slice Ab y3.b.length cb:Value).ownBlock:=
  (X4u B y3.b y3.b.length Ab cb w11 W11.hb (Nat.le_trans W11.leB W11.le) (by omega)).mono fun _ _ h=>⟨_,h.1,h.2⟩
 refine H.cl KS ?_;clear KS;intro a v12 w12 hg12 H;refine nt ?_;have hBq:∀q,(.slice Ab y3.b.length cb:Value).ownBlock=some q→B≤q:=fun q hq=>(W11.hb.lt q hq).1;have O12:=W11.own.row W11.hb hBg hg12 (fun p hp=>by
  rw[List.mem_singleton.1 hp];exact Q1 W11.hb (.inl hgB))
 have F12:=W11.fl.grown hg12 (fun q hq hS=>by have:=hBq q hq;omega);have G12:=W11.fi.grown hg12 (fun q hq hS=>by have:=hBq q hq;omega);have M12:=W11.hm.kept hg12 (G8 W11.hm W11.hb rfl);obtain⟨him,him2,hPm⟩:=W11.pm;have P12:=hPm.row W11.hb hg12 rfl;have hs12:=Nat.le_trans W11.le hg12.size;have hBB:=W11.leB;clear W11 hPm;replace H:=H.kp [1,3,4,8,14];refine H.rg 1 fun a H=>?_;have KS:Calls Tryz.prog 32 ([.slice Am k3.length cm]:List Value).toArray w12 fun e w'=>∃v,e = .returned v∧Below B5 w12 w':=
  (J7k k3 B5 csm Am k3.length cm rfl (by omega) w12 M12 hs12 P12).mono fun _ _ h=>⟨_,h.1,h.2⟩
 refine H.cl KS ?_;clear KS;intro a v13 w13 hb13 H;refine nt ?_;have hbB:Below B w12 w13:=hb13.mono hBB;have F13:=F12.cut hbB;have G13:=G12.cut hbB;have hb0:Below w.heap.size w w13:=(hbel O12).trans (hb13.mono (by omega));clear F12 G12 O12 M12 P12;replace H:=H.kp [3,4,14];refine H.tb (fun w'=>Below w.heap.size w w'∧Z2j w' (fun k=>k<B) AL l∧Z2j w' (fun k=>k<B) A2 l) (fun _ _ h hb=>⟨h.1.trans (hb.mono h.1.size),h.2.1.grown (X2 hb none) (fun k e=>by cases e),h.2.2.grown (X2 hb none) (fun k e=>by cases e)⟩) ⟨hb0,F13,G13⟩ [ec 0 121 (.bool true),ec 1 122 (.bool true),ec 2 123 (.slice A2 fs.length c2),ec 3 124 (.slice AL fs.length cL),eh 4 125 (.bool true),ec 5 126 (.bool true),ec 6 127 (.bool true),eh 7 128 (.bool true),ec 8 129 (.bool true),ec 9 2 (.bool true)] rfl
  ⟨jm,jm,jm,jm,kb fun w' h=>X1l l A2 AL c2 cL fs.length hll w' h.2.2.all h.2.1.all (by omega) hlb',jp,jm,kb fun w' _=>X9i w',jp,jm,trivial⟩ ?_
 intro a wz H h;refine Z0 (wp_ret ?_);repeat with_reducible first |apply Z4 |apply Z5
 exact bodyPost_ret (results_tmp rfl _ _ _) H.df ⟨congrArg Ending.returned (H.at_ 2 _ rfl),h.1⟩
end
section
open Go.ChangeShapes Go.WideShapes Go.ChangeAt Go.RowKit Go.Deep
section
variable {H:Type}{enc:TypeId×Value→H}{W:World}
theorem X7o {T e:TypeId}{m fuel:Nat}{cs0:List Value}{x0:DataW H×List MemPlace}(ht:Tryz.prog.underlying T=some (.slice e)) (hm:Tryz.prog.cellsOf e=m) (hm0:0<m) (hfit:Fit T x0.1) (hf:DataW.trod enc Tryz.prog W 0 (fun _=>true) true fuel T cs0=some x0):
  ∃(A:Option Addr) (len cap fuel:Nat),cs0=[.slice A len cap]∧len≤cap∧cap≤maxLen∧∀i,i<len→∃(b o:Nat) (cs:List Value) (x:DataW H×List MemPlace),A=some ⟨b,o,none⟩∧b<W.heap.size∧cs.length=m∧(∀j,j<m→W.cell? ⟨b,o+i*m+j,none⟩=cs[j]?) ∧
   DataW.trod enc Tryz.prog W 0 (fun _=>true) true fuel e cs=some x∧Fit e x.1:=by
 rcases open_slice ht hf with⟨hcs,_⟩ |⟨a,len,cap,m',n,D,Pl,hcs,_,hl,hc,hmm,hxe,hi⟩
 ·exact⟨none,0,0,0,hcs,by omega,by simp,fun i hi=>absurd hi (by omega)⟩
 ·simp only[if_true] at hmm
  refine⟨some a,len,cap,n,hcs,hl,hc,fun i hlt=>?_⟩;obtain⟨cs',hcell,htr⟩:=hi i (by omega);obtain⟨_,hlen,hat⟩:=World.cells?_some hcell;rw[hm] at hlen;have h0:=hat 0 (by omega);rw[List.getElem?_eq_getElem (by omega)] at h0;obtain⟨b,o,spot⟩:=a;have hspot:spot=none:=by
   obtain⟨cs0,hcell0,_⟩:=hi 0 (by omega);obtain⟨_,hlen0,hat0⟩:=World.cells?_some hcell0;rw[hm] at hlen0;have h00:=hat0 0 (by omega);rw[List.getElem?_eq_getElem (by omega)] at h00;have:=World.cell?_spot h00
   simpa [Addr.add] using this
  subst hspot;have hb:=World.block_lt_of_cell? W _ h0;rw[Z0e,Z0e] at hb;refine⟨b,o,cs',_,rfl,hb,hlen,fun j hj=>?_,htr, ?_⟩
  rotate_left
  ·rw[hxe] at hfit
   exact(hfit.slice ht).2 _ (List.mem_map.2 ⟨i,List.mem_range.2 hlt,rfl⟩)
  have:=hat j (by omega);rw[add_add,hm] at this;rw[←this];refine congrArg W.cell? ?_;unfold Addr.add;by_cases h1:i*m+j=0
  ·rw[if_pos h1,Nat.add_assoc,h1];simp
  ·rw[if_neg h1,Nat.add_assoc]
end
end
section
open Go.ChangeShapes Go.WideShapes Go.ChangeAt Go.RowKit Go.Deep
abbrev J2f:List (String×DataW Unit):=[("unicode/utf8.acceptRanges",Rows.laid_unicode_utf8_acceptRanges),("unicode/utf8.first",Rows.laid_unicode_utf8_first)]
theorem J2g:(Rows.laid_unicode_utf8_first:DataW Unit)=Lib.firstData:=by rfl
theorem X7p:(Rows.laid_unicode_utf8_acceptRanges:DataW Unit)=Lib.acceptData:=by rfl
theorem Y9l:(J2f.all fun x=>x.2.handleName?.isNone)=true:=by kernel_rfl
noncomputable def Y9m (os:Os):World:=
 let w0:=World.holding Tryz.prog os ⟨#[],#[],[]⟩
 let put (h:Array Obj) (g:Nat) (cs:Array Value):Array Obj:=h.modify g fun
  | .cells _ t frozen=>.cells cs t frozen
  |o=>o
 let h1:=put w0.heap 0 (Lib.firstTab.map fun z=>Value.int .u8 z).toArray
 let h2:=put h1 1 ((List.range 16).flatMap fun i=>[Value.int .u8 (Lib.accLo i),Value.int .u8 (Lib.accHi i)]).toArray
 { w0 with heap:=h2 }
theorem J2h (os:Os) (args:Array Value):laidMetH Tryz.prog J2f ((Y9m os).forCall (fun _ _=>0) ⟨#[],args,[]⟩).memory:=by
 rw[MakeChecks.laidMetH_plain _ _ _ Y9l];exact(LaidIn.of_run (l:=J2f) [0,1] 8 (by kernel_rfl) (by kernel_rfl) (by kernel_rfl) (by kernel_rfl)).met
end
section
open Go.ChangeShapes Go.WideShapes Go.ChangeAt Go.RowKit Go.Deep
theorem Q0n {W:World}(h:laidMetH Tryz.prog J2f W):Wd W:=by
 rw[MakeChecks.laidMetH_plain _ _ _ Y9l] at h;have h1:=Lib.laidMet.reads h (n:= "unicode/utf8.acceptRanges") (d:=Rows.laid_unicode_utf8_acceptRanges) (.head _);have h2:=Lib.laidMet.reads h (n:= "unicode/utf8.first") (d:=Rows.laid_unicode_utf8_first) (.tail _ (.head _));rw[X7p] at h1;rw[J2g] at h2;exact utf8Tabs_of_readsT (U8Types.of196 Sh.lays196) ⟨by kernel_rfl,by kernel_rfl,by kernel_rfl,by kernel_rfl,by kernel_rfl,by kernel_rfl,by kernel_rfl⟩ h2 h1
end
end Go.Proofs.YtlacidnnankjlaaGreatDoor
