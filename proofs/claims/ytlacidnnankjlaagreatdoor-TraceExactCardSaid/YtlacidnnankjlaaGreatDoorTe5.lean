/-
  Texts of the claim: RdK ParW ParP BoxQ Concat Fed FeedW TrPacks Tr27 RdRC RdRX Row Read CopyM Weigh AskMq RWish RMay RBody RBytes LawK.
-/
import Derived.Lib.AppendZerosOnto
import Derived.Lib.SliceRun
import Derived.WalkKit
import Derived.Test.YtlacidnnankjlaaGreatDoorRows
import Derived.ProofKit
import Derived.SizedLaws
import Derived.Carry
import Derived.ChangeSame
import Derived.Deep.Slices
import Derived.Deep.Fields
import Derived.LaidMore
import Derived.LaidLaws
import Derived.Handed
import Derived.Stop.Joined
import Derived.Deep.Strs
import Derived.Deep.SlicePairs
import Derived.Test.YtlacidnnankjlaaGreatDoorTe4
namespace Go.Proofs.YtlacidnnankjlaaGreatDoor
set_option maxRecDepth 100000
set_option maxHeartbeats 25600000
section
open Go.RowKit
def N1 (w:World) (base:Nat) (m:Mq) (vc vw vf:Value):Prop:=
 w.ownsRow base 3 1 vc m.codes.length (m.codes.map iv)∧w.ownsRow base 161 2 vw m.wishes.length (wv m.wishes)∧w.ownsRow base 9 1 vf m.filters.length (m.filters.map sv)
def Q0y (w wx:World) (B g:Nat) (r:Mq×Rd):Prop:=
 K7 wx B g r.2∧w.grownBy wx (some g)∧w.heap.size+1<wx.heap.size∧X5 wx w.heap.size (Z1 (N6 0) Z2 Z2 Z2) ∧
  ∃vc vw vf,X5 wx (w.heap.size+1) (Z1 r.1 vc vw vf)∧N1 wx (w.heap.size+2) r.1 vc vw vf
def J6g (w:World) (B g:Nat) (r:Mq×Rd) (e:Ending) (w':World):Prop:=
 ∃vc vw vf,e = .returned (.agg (Z1 r.1 vc vw vf).toArray)∧K7 w' B g r.2∧w.grownBy w' (some g)∧N1 w' w.heap.size r.1 vc vw vf
theorem Q7m (f:UInt8):bits BinOp.and IntKind.i64 ((f.toNat:Int)/2) 3=((f >>> 1&&&3).toNat:Int):=by
 have h:=f.toNat_lt;have e:(f.toNat:Int)/2=((f.toNat/2:Nat):Int):=by omega
 rw[e];have:=Z1d (f.toNat/2) 3 (by omega) (by omega);rw[show ((3:Nat):Int)=3 from rfl] at this;rw[this]
 congr 1
theorem L7 {w:World}{base:Nat}{e:TypeId}{size n:Nat}{v:Value}{xs:List Value}(h:w.ownsRow base e size v n xs):v.oneCell'=true:=by
 obtain⟨A,c,rfl,_,_⟩:=V3 h;rfl
theorem Y0s (m:Mq) {vc vw vf:Value}(h1:vc.oneCell'=true) (h2:vw.oneCell'=true) (h3:vf.oneCell'=true):(Z1 m vc vw vf).all (·.oneCell')=true:=by
 simp[List.all,h1,h2,h3];exact⟨rfl,rfl,rfl,rfl,rfl,rfl,rfl,rfl,rfl,rfl,rfl,rfl,rfl,rfl,rfl,rfl,rfl,rfl,rfl,rfl,rfl⟩
theorem K7.below {w w':World}{B g:Nat}{s:Rd}(h:K7 w B g s) (hb:Below w.heap.size w w'):K7 w' B g s:=h.kept (X2 hb none) (by simp) (by simp)
theorem K7.lts {w:World}{B g:Nat}{s:Rd}(h:K7 w B g s):B≤g∧g<w.heap.size:=by obtain⟨_,_,_,_,_,_,_,_,h,h'⟩:=h;exact⟨h,h'⟩
theorem J6h {w w1 w2 w3:World}{B g:Nat}{s:Rd}{l:List Value}(hR:K7 w B g s) (hb1:Below w.heap.size w w1) (hs1:w1.heap.size=w.heap.size+1) (hb2:Below (w.heap.size+1) w1 w2) (hs2:w2.heap.size=w.heap.size+1+1)
  (hg3:w2.grownBy w3 (some (w.heap.size+1))) (hs3:w3.heap.size=w2.heap.size) (hC3:X5 w3 (w.heap.size+1) l):
  K7 w3 B g s∧w1.grownBy w3 (some g)∧w1.heap.size≤w.heap.size+1∧B≤w.heap.size+1∧w.heap.size+1≠g∧w.heap.size+1<w3.heap.size∧X5 w3 (w.heap.size+1) l∧w3.heap.size=w.heap.size+2:=by
 have hb2':Below w1.heap.size w1 w2:=by rw[hs1];exact hb2
 have hB:=hR.lts;have hR2:=(hR.below hb1).below hb2';refine⟨hR2.kept hg3 (fun k hk=>by injection hk with hk;omega) (by intro e;injection e with e;omega), ?_,by omega,by omega,by omega,by omega,hC3,by omega⟩;exact Z7b (X2 hb2' (some g)) hg3 (fun k hk=>by injection hk with hk;omega)
theorem Q3e {w w1 wx:World}{B g:Nat}{r:Mq×Rd}{s':Rd}{l:List Value}{vc vw vf:Value}(hb1:Below w.heap.size w w1) (hs1:w1.heap.size=w.heap.size+1) (hC1:X5 w1 w.heap.size (Z1 (N6 0) Z2 Z2 Z2)) (hg:g<w.heap.size)
  (hR:K7 wx B g s') (hC:X5 wx (w.heap.size+1) l) (hG:w1.grownBy wx (some g)) (hL:w.heap.size+1<wx.heap.size) (he:s'=r.2) (hl:l=Z1 r.1 vc vw vf) (hrows:N1 wx (w.heap.size+2) r.1 vc vw vf):Q0y w wx B g r:=by
 subst he hl;exact⟨hR,(X2 hb1 (some g)).trans hG,hL,hC1.kept hG (by omega) (by intro e;injection e with e;omega),vc,vw,vf,hC,hrows⟩
theorem D9 (w:World) (base:Nat) {m:Mq}(h1:m.codes=[]) (h2:m.wishes=[]) (h3:m.filters=[]):N1 w base m Z2 Z2 Z2:=by
 unfold N1;rw[h1,h2,h3];exact⟨World.ownsRow_nil _ _ _ _,World.ownsRow_nil _ _ _ _,World.ownsRow_nil _ _ _ _⟩
theorem Q3f {w wx w4:World}{B g:Nat}{r:Mq×Rd}{vc vw vf:Value}(hR:K7 wx B g r.2) (hG:w.grownBy wx (some g)) (hg:g≠w.heap.size) (hB:B≤w.heap.size) (hrows:N1 wx (w.heap.size+2) r.1 vc vw vf)
  (h4:wx.grownBy w4 (some w.heap.size)):J6g w B g r (.returned (.agg (Z1 r.1 vc vw vf).toArray)) w4:=by
 obtain⟨r1,r2,r3⟩:=hrows;have k:∀{e:TypeId}{size n:Nat}{v:Value}{xs:List Value},wx.ownsRow (w.heap.size+2) e size v n xs→w4.ownsRow w.heap.size e size v n xs:=fun h=>
  V2 (h.kept h4 (Or.inr (Ne.symm (Q1 h (Or.inl (by omega)))))) (by omega)
 exact⟨vc,vw,vf,rfl,hR.kept h4 (fun k hk=>by injection hk with hk;omega) (by intro e;injection e with e;exact hg e),Z7b hG h4 (fun k hk=>by injection hk with hk;omega),k r1,k r2,k r3⟩
theorem Y9a (x:UInt8):((x.toNat:Int)==1)=(x==1):=by
 by_cases h:x=1
 ·subst h;rfl
 ·have a:(x==1)=false:=by simpa using h
  rw[a,beq_eq_false_iff_ne];intro e;exact h ((Y4d x 1).1 e)
theorem Y6y (s:Rd):(W3 s).2.1.length≤s.1.length:=Nat.le_trans (Y6b (M4 s).2 _) (Z8c s)
theorem Q5m (u:Int) (x y:Operand) (w:World):(do eqGuard .shr 3 x y (iz u) (.int .u64 1);binOp .shr 3 (iz u) (.int .u64 1):Sem Value).run Tryz.prog w = .ok (iz (u/2)) w:=by
 simp[go_sem]
theorem J1q (k:Int) (hk:Z0r k=true) (B g gp:Nat) (s:Rd) (hs:s.1.length≤1000000) (w0 w:World) (hR:K7 w B g s) (hC:X5 w gp (Z1 (N6 k) Z2 Z2 Z2)) (hG:w0.grownBy w (some g)) (hp:w0.heap.size≤gp) (hB:B≤gp) (hne:gp≠g) (hlt:gp<w.heap.size):
  Calls Tryz.prog 144 #[pz g,pz gp] w (Y6x w0 B g gp w.heap.size (D8 k ((M4 s).2.1.length+1) { N6 k with id:=((M4 s).1:Int) } (M4 s).2)):=by
 unfold Z0r at hk;simp only[Bool.or_eq_true,beq_iff_eq] at hk;rcases hk with rfl |rfl |rfl
 ·exact X6r B g gp s hs w0 w hR hC hG hp hB hne hlt
 ·exact X6q B g gp s hs w0 w hR hC hG hp hB hne hlt
 ·exact X4f B g gp s hs w0 w hR hC hG hp hB hne hlt
theorem X6s (B g:Nat) (s:Rd) (k:Int) (f:UInt8) (hs:s.1.length≤1000000) (w:World) (hR:K7 w B g s):
  Calls Tryz.prog 122 #[pz g,iz k,iz f.toNat] w (J6g w B g (Z4n k f s)):=by
 have hlts:=hR.lts;go_enter Tryz.func122,Tryz.ntmps122;refine Z9.start 72 [(0,pz g),(1,iz k),(2,iz f.toNat)] rfl rfl ⟨rfl,rfl,rfl,trivial⟩ ?_;intro a0 H0;refine rl ?_;refine H0.alloc rfl rfl rfl rfl _ Z0v ?_;intro a1 w1 hb1 hs1 hC1 H1;refine nt ?_;refine H1.rg 1 fun a2 H2=>?_;refine H2.any (w':=w1) gz rfl rfl (.agg (Z1 (N6 k) Z2 Z2 Z2).toArray) (by intro cs b h;cases h) (by kernel_rfl) (by kernel_rfl) fun a3 H3=>?_;refine H3.alloc rfl rfl rfl rfl _ Z0v ?_;intro a4 w2 hb2 hs2 hC2 H4;refine H4.storeS rfl rfl rfl rfl rfl hC2 size_mq rfl rfl rfl ?_;intro a5 w3 H5 hg3 hs3 hC3;refine nt ?_;rw[hs1] at hb2 hs2 hg3 hC3 H5;obtain⟨p1,p2,p3,p4,p5,p6,p7,p8⟩:=J6h hR hb1 hs1 hb2 hs2 hg3 hs3 hC3;have R3:Rst w1 B g (w.heap.size+1) s (Z1 (N6 k) Z2 Z2 Z2) w3:=⟨p1,p7,p2,p3,p4,p5,p6⟩;have hM:=fun(r:Mq×Rd) wx (s':Rd) l vc vw vf=>fun(R:Rst w1 B g (w.heap.size+1) s' l wx)=>Q3e (w:=w) (w1:=w1) (wx:=wx) (r:=r) (vc:=vc) (vw:=vw) (vf:=vf) hb1 hs1 hC1 hlts.2 R.rd R.ce R.gr R.lt;refine Z8 (fun a w'=>Z9 a 72 [(6,pz w.heap.size),(7,pz (w.heap.size+1))]∧Q0y w w' B g (Z4n k f s)) ?_ ?_
 ·refine H5.rg 1 fun a6 H6=>nt ?_
  have H7:=H6.kp [0,2,6,7,10];clear hb2 hs2 hg3 hC3 hC2 H6 H5 H4 H3 H2 H1 H0 p1 p2 p3 p4 p5 p6 p7;refine wp_block ?_;refine H7.rg 0 fun a1 H1=>?_;refine H1.bn 1 (N8 _ _ _ _ _) fun a2 H2=>nt ?_;refine H2.cond (t:=k==1) rfl ?_;cases b1:(k==1) with
  |true=>
   have k1:k=1:=by simpa using b1
   subst k1;refine H2.rg 1 fun a3 H3=>?_;refine H3.cl (R:=fun _ w'=>K7 w' B g (Y1p s).s∧X5 w' (w.heap.size+1) (Z1 (Y1p s).mq Z2 Z2 Z2)∧w1.grownBy w' (some g)∧w.heap.size+1<w'.heap.size) ((J6f B g _ s w1 w3 R3.rd R3.ce R3.gr R3.ge R3.hB R3.ne R3.lt).mono fun _ _ h=>⟨_,h.1,h.2⟩) ?_;rintro a4 v4 w4 ⟨h1,h2,h3,h4⟩ H4;refine wpList_nil (Z6 (Z0 ⟨H4.keep ⟨rfl,rfl,trivial⟩, ?_⟩));exact hM _ _ _ _ Z2 Z2 Z2 ⟨h1,h2,h3,R3.ge,R3.hB,R3.ne,h4⟩ rfl rfl (D9 _ _ rfl rfl rfl)
  |false=>
  refine H2.rg 0 fun a1 H1=>?_;refine H1.bn 1 (N8 _ _ _ _ _) fun a2 H2=>nt ?_;refine H2.cond (t:=k==2) rfl ?_;cases b2:(k==2) with
  |true=>
   have k1:k=2:=by simpa using b2
   subst k1;refine H2.rg 1 fun a3 H3=>?_;refine H3.rc R3 0 (Z9w B g _ _ R3.rd) fun a4 w4 R4 H4=>?_;refine H4.bn 1 (N8 _ _ _ _ _) fun a5 H5=>?_;refine H5.sb R4 0 fun a6 w6 R6 H6=>nt ?_;refine H6.rg 1 fun a7 H7=>?_;refine H7.rc R6 1 (Z9w B g _ _ R6.rd) fun a8 w8 R8 H8=>?_;refine H8.si R8 0 fun a9 w9 R9 H9=>?_;refine wpList_nil <| Z6 <| Z0 ⟨H9.keep ⟨rfl,rfl,trivial⟩, ?_⟩;exact hM _ _ _ _ Z2 Z2 Z2 R9 rfl (by rw[Y9a];rfl) (D9 _ _ rfl rfl rfl)
  |false=>
  refine H2.rg 0 fun a1 H1=>?_;refine H1.bn 1 (N8 _ _ _ _ _) fun a2 H2=>nt ?_;refine H2.cond (t:=k==3) rfl ?_;cases b3:(k==3) with
  |true=>
   have k1:k=3:=by simpa using b3
   subst k1;refine H2.rg 1 fun a3 H3=>?_;refine H3.bn 0 (Y1x _ _ _ _ _) fun a4 H4=>?_;refine H4.bn 1 (Y6w f 8 (by omega) _ _ _) fun a5 H5=>?_;refine H5.bn 0 (Q5m _ _ _ _) fun a6 H6=>?_;refine H6.bn 1 (Y1x _ _ _ _ _) fun a7 H7=>?_;refine H7.bn 0 (Y1x _ _ _ _ _) fun a8 H8=>?_;refine H8.bn 1 (Y6w f 1 (by omega) _ _ _) fun a9 H9=>?_;refine H9.sb R3 1 fun b1 x1 R4 H10=>?_;refine H10.si R4 1 fun b2 x2 R5 H11=>?_;refine H11.sb R5 0 fun b3 x3 R6 H12=>nt ?_;refine H12.rg 1 fun b4 H13=>?_;refine H13.rc R6 1 (Z3p B g _ _ R6.rd) fun b5 x5 R7 H14=>?_;refine H14.ss R7 0 fun b6 x6 R8 H15=>nt ?_;obtain⟨q,hq⟩:∃q,(f >>> 1&&&3 != 0)=q:=⟨_,rfl⟩;obtain⟨s2,e2⟩:∃s2,(if (f >>> 1&&&3 != 0) then (M4 (W3 s).2).2 else (W3 s).2)=s2:=⟨_,rfl⟩;have R9:=R8.is (L':=Z1 { N6 3 with dup:=U4 f 8,qos:=((f >>> 1&&&3).toNat:Int),retain:=U4 f 1,topic:=(W3 s).1 } Z2 Z2 Z2) (by rw[Q7m];rfl) rfl;have hq3:(decide ((0:Int)<((f >>> 1&&&3).toNat:Int)))=q:=by
    rw[←hq,Bool.eq_iff_iff,decide_eq_true_iff,bne_iff_ne];constructor
    ·intro h e;rw[e] at h;exact absurd h (by decide)
    ·intro h
     have:(f >>> 1&&&3).toNat≠0:=fun e=>h (UInt8.toNat_inj.1 e);omega
   refine Z8 (fun a w'=>Z9 a 72 [(0,pz g),(6,pz w.heap.size),(7,pz (w.heap.size+1))]∧Rst w1 B g (w.heap.size+1) s2 (Z1 { N6 3 with dup:=U4 f 8,qos:=((f >>> 1&&&3).toNat:Int),retain:=U4 f 1,topic:=(W3 s).1,id:=(if (f >>> 1&&&3 != 0) then ((M4 (W3 s).2).1:Int) else 0) } Z2 Z2 Z2) w') ?_ ?_
   ·refine H15.rg 1 fun c1 H16=>?_
    refine H16.ld 0 (R9.li 17) fun c2 H17=>?_;refine H17.bn 0 (S0 _ _ q hq3 _ _ _) fun c3 H18=>nt ?_;refine H18.cond rfl ?_;rw[hq] at e2 ⊢;cases q with
    |true=>
     rw[if_pos rfl] at e2;refine H18.rg 1 fun c4 H19=>?_;refine H19.rc R9 1 (Z5u B g _ _ R9.rd) fun c5 y5 R10 H20=>?_;refine H20.si R10 0 fun c6 y6 R11 H21=>nt ?_;exact⟨H21.keep ⟨rfl,rfl,rfl,trivial⟩,R11.is rfl e2⟩
    |false=>
     rw[if_neg (by decide)] at e2;exact Z3 (Z0 ⟨H18.keep ⟨rfl,rfl,rfl,trivial⟩,R9.is rfl e2⟩)
   clear R3 R4 R5 R6 R7 R8 R9 H1 H2 H3 H4 H5 H6 H7 H8 H9 H10 H11 H12 H13 H14 H15;rintro a0 w0 ⟨H0,R0⟩;obtain⟨A,c,hcl,c0,c1,_,_,hrb,_,_⟩:=R0.rd;refine H0.rg 3 fun a1 H1=>?_;refine H1.go gz rfl rfl _ (S3 rfl (H1.ev rfl) (off0:=0) (off:=0) (fun g w=>by kernel_rfl)) fun a2 H2=>?_;refine H2.ld 0 (U8 _ _ _ _ _ _ c0) fun a3 H3=>?_;refine H3.len gz rfl rfl rfl rfl Tryz.underlying31 fun a4 H4=>?_;have hle:s2.1.length≤1000000:=by
    rw[←e2];have h1:=Y6y s;have h2:=Z8c (W3 s).2
    split<;>omega
   refine H4.cl (R:=fun v w'=>∃A' c',v = .slice A' s2.1.length c'∧(Z0i s2 s2.1.length).1.length=s2.1.length∧RB w' w'.heap.size A' (Z0i s2 s2.1.length).1∧K7 w' B g (Z0i s2 s2.1.length).2∧w0.grownBy w' (some g)) ((Y1q B g s2 s2.1.length _ rfl hle w0 R0.rd).mono ?_) ?_
   ·rintro _ _ ⟨A',c',rfl,_,h1,h2,h3,h4⟩
    exact⟨_,rfl,A',c',rfl,h1,h2,h3,h4⟩
   rintro a5 _ w5 ⟨A',c',rfl,h1,h2,h3,h4⟩ H5;have R5:=R0.call h3 h4;refine H5.cv 1 (Z1a Tryz.underlying31 Tryz.underlying5 Tryz.underlying9 h2 h1 c') fun a6 H6=>?_;refine H6.ss R5 0 fun a7 w7 R7 H7=>?_;refine wpList_nil <| Z6 <| Z0 ⟨H7.keep ⟨rfl,rfl,trivial⟩, ?_⟩;refine hM _ _ _ _ Z2 Z2 Z2 R7 ?_ ?_ (D9 _ _ rfl rfl rfl)
   ·subst e2;rfl
   ·subst e2;rfl
  |false=>
  have n1:=S8 b1;have n2:=S8 b2;have n3:=S8 b3;refine Z8 (fun a w'=>Z9 a 72 [(0,pz g),(6,pz w.heap.size),(7,pz (w.heap.size+1)),(10,iz k),(56, .bool (Z0r k))]∧w3=w') ?_ ?_
  ·refine H2.rg 0 fun a1 H1=>?_
   refine H1.bn 1 (N8 _ _ _ _ _) fun a2 H2=>nt ?_;refine H2.cond (t:=k==8) rfl ?_;cases c1:(k==8) with
   |true=>exact Z3 (Z0 ⟨H2.keep ⟨rfl,rfl,rfl,rfl,congrArg (fun b=>some (Value.bool b)) (by unfold Z0r;rw[c1];rfl),trivial⟩,rfl⟩)
   |false=>
   refine H2.rg 0 fun a1 H1=>?_;refine H1.bn 1 (N8 _ _ _ _ _) fun a2 H2=>nt ?_;refine H2.cond (t:=k==9) rfl ?_;cases c2:(k==9) with
   |true=>exact Z3 (Z0 ⟨H2.keep ⟨rfl,rfl,rfl,rfl,congrArg (fun b=>some (Value.bool b)) (by unfold Z0r;rw[c1,c2];rfl),trivial⟩,rfl⟩)
   |false=>
   refine H2.rg 0 fun a1 H1=>?_;refine H1.bn 1 (N8 _ _ _ _ _) fun a2 H2=>nt ?_;exact⟨H2.keep ⟨rfl,rfl,rfl,rfl,congrArg (fun b=>some (Value.bool b)) (by unfold Z0r;rw[c1,c2];rfl),trivial⟩,rfl⟩
  clear H1 H2;rintro a0 _ ⟨H0,rfl⟩;refine H0.cond (t:=Z0r k) rfl ?_;cases b4:Z0r k with
  |true=>
   refine H0.rg 1 fun a1 H1=>?_;refine H1.cl (R:=fun _ w'=>Y6x w1 B g (w.heap.size+1) w3.heap.size (D8 k ((M4 s).2.1.length+1) { N6 k with id:=((M4 s).1:Int) } (M4 s).2) (.returned (.tuple #[])) w') ((J1q k b4 B g _ s hs w1 w3 R3.rd R3.ce R3.gr R3.ge R3.hB R3.ne R3.lt).mono fun _ _ h=>⟨_,h.1,rfl,h.2⟩) ?_;rintro a4 v4 w4 ⟨_,h1,h2,h3,vc,vw,vf,h4,h5⟩ H4;refine wpList_nil (Z6 (Z0 ⟨H4.keep ⟨rfl,rfl,trivial⟩, ?_⟩));rw[p8] at h5;have hr:Z4n k f s=D8 k ((M4 s).2.1.length+1) { N6 k with id:=((M4 s).1:Int) } (M4 s).2:=by unfold Z4n;rw[if_neg n1,if_neg n2,if_neg n3,if_pos b4]
   rw[hr];exact hM _ _ _ _ vc vw vf ⟨h1,h4,h2,R3.ge,R3.hB,R3.ne,h3⟩ rfl rfl h5
  |false=>
  refine Z8 (fun a w'=>Z9 a 72 [(0,pz g),(6,pz w.heap.size),(7,pz (w.heap.size+1)),(62, .bool (Q8 k))]∧w3=w') ?_ ?_
  ·refine H0.rg 0 fun a1 H1=>?_
   refine H1.bn 1 (N8 _ _ _ _ _) fun a2 H2=>nt ?_;refine H2.cond (t:=k==4) rfl ?_;cases c1:(k==4) with
   |true=>exact Z3 (Z0 ⟨H2.keep ⟨rfl,rfl,rfl,congrArg (fun b=>some (Value.bool b)) (by unfold Q8;rw[c1];rfl),trivial⟩,rfl⟩)
   |false=>
   refine H2.rg 0 fun a1 H1=>?_;refine H1.bn 1 (N8 _ _ _ _ _) fun a2 H2=>nt ?_;refine H2.cond (t:=k==5) rfl ?_;cases c2:(k==5) with
   |true=>exact Z3 (Z0 ⟨H2.keep ⟨rfl,rfl,rfl,congrArg (fun b=>some (Value.bool b)) (by unfold Q8;rw[c1,c2];rfl),trivial⟩,rfl⟩)
   |false=>
   refine H2.rg 0 fun a1 H1=>?_;refine H1.bn 1 (N8 _ _ _ _ _) fun a2 H2=>nt ?_;refine H2.cond (t:=k==6) rfl ?_;cases c3:(k==6) with
   |true=>exact Z3 (Z0 ⟨H2.keep ⟨rfl,rfl,rfl,congrArg (fun b=>some (Value.bool b)) (by unfold Q8;rw[c1,c2,c3];rfl),trivial⟩,rfl⟩)
   |false=>
   refine H2.rg 0 fun a1 H1=>?_;refine H1.bn 1 (N8 _ _ _ _ _) fun a2 H2=>nt ?_;refine H2.cond (t:=k==7) rfl ?_;cases c4:(k==7) with
   |true=>exact Z3 (Z0 ⟨H2.keep ⟨rfl,rfl,rfl,congrArg (fun b=>some (Value.bool b)) (by unfold Q8;rw[c1,c2,c3,c4];rfl),trivial⟩,rfl⟩)
   |false=>
   refine H2.rg 0 fun a1 H1=>?_;refine H1.bn 1 (N8 _ _ _ _ _) fun a2 H2=>nt ?_;exact⟨H2.keep ⟨rfl,rfl,rfl,congrArg (fun b=>some (Value.bool b)) (by unfold Q8;rw[c1,c2,c3,c4];rfl),trivial⟩,rfl⟩
  clear H0;rintro a0 _ ⟨H0,rfl⟩;refine H0.cond (t:=Q8 k) rfl ?_;have hr:Z4n k f s=if Q8 k then ({ N6 k with id:=((M4 s).1:Int) },(M4 s).2) else (N6 k,s):=by unfold Z4n;rw[if_neg n1,if_neg n2,if_neg n3,if_neg (by rw[b4];decide)]
  rw[hr];cases b5:Q8 k with
  |true=>
   refine H0.rg 1 fun a1 H1=>?_;refine H1.rc R3 1 (Z5u B g _ _ R3.rd) fun a2 w4 R4 H2=>?_;refine H2.si R4 0 fun a3 w5 R5 H3=>?_;refine wpList_nil (Z6 (Z0 ⟨H3.keep ⟨rfl,rfl,trivial⟩, ?_⟩));exact hM _ _ _ _ Z2 Z2 Z2 R5 rfl rfl (D9 _ _ rfl rfl rfl)
  |false=>
   refine Z3 (Z6 (Z0 ⟨H0.keep ⟨rfl,rfl,trivial⟩, ?_⟩));exact hM _ _ _ _ Z2 Z2 Z2 R3 rfl rfl (D9 _ _ rfl rfl rfl)
 clear hM R3 H5;rintro a0 w4 ⟨H0,hR4,hG,hL,hC0,vc,vw,vf,hC,hrows⟩;refine H0.rg 0 fun a1 H1=>?_;refine H1.loadS rfl rfl rfl rfl rfl hC Tryz.underlying49 rfl size_mq rfl fun a2 H2=>?_;refine H2.storeS rfl rfl rfl rfl rfl hC0 size_mq rfl rfl (Y0s _ (L7 hrows.1) (L7 hrows.2.1) (L7 hrows.2.2)) fun a3 w5 H3 hg5 hs5 hC5=>?_;refine nt (wp_ret (bodyPost_ret (Y7h rfl _ _ (H3.at_ 6 _ rfl) hC5 Tryz.underlying49 rfl 24 size_mq rfl) H3.df ?_));exact Q3f hR4 hG (by omega) (by omega) hrows hg5
end
section
open Go.RowKit
section
variable {P:Program}{o:Oper}{a:Act}{w:World}
end
theorem J6i (u v:Int) (b:Bool) (h:(u != v)=b) (x y:Operand) (w:World):(do eqGuard .neq 27 x y (iz u) (iz v);binOp .neq 27 (iz u) (iz v):Sem Value).run Tryz.prog w = .ok (.bool b) w:=by
 rw[←h];simp[go_sem]
theorem J9q (xs ys:List UInt8) (u v:Value) (w:World) (hu:K0 xs u w) (hv:K0 ys v w):
  Calls Tryz.prog 123 #[u,v] w fun e w'=>e = .returned (.bool (decide (xs=ys)))∧w=w':=by
 obtain⟨A,c,rfl,hx⟩:=hu;obtain⟨B,d,rfl,hy⟩:=hv;go_enter Tryz.func123,Tryz.ntmps123;refine Z9.start 10 [(0, .slice A xs.length c),(1, .slice B ys.length d)] rfl rfl ⟨rfl,rfl,trivial⟩ ?_;intro a0 H0;refine H0.rg 1 fun a1 H1=>nt ?_;refine H1.rg 1 fun a2 H2=>?_;refine H2.conv gz rfl rfl rfl rfl (Z1a Tryz.underlying31 Tryz.underlying5 Tryz.underlying9 hx rfl c) ?_;intro a3 H3;refine H3.ms 1 fun a4 H4=>?_;refine H4.conv gz rfl rfl rfl rfl (Z1a Tryz.underlying31 Tryz.underlying5 Tryz.underlying9 hy rfl d) ?_;intro a5 H5;refine H5.bn 1 (Z8j _ _ _ _ _) fun a7 H7=>nt ?_;refine wp_ret ?_;refine bodyPost_ret (results_tmp rfl _ _ _) H7.df ⟨?_,rfl⟩;have e:((mkS xs).toList==(mkS ys).toList)=decide (xs=ys):=by
  rw[Lib.toList_data,Lib.toList_data,Bool.eq_iff_iff,beq_iff_eq,decide_eq_true_eq]
 rw[←e];exact congrArg Ending.returned (H7.at_ 4 _ rfl)
structure Z3l (m:Mq):Prop where
 client:m.client.size≤1000000
 wt:m.wt.size≤1000000
 wp:m.wp.size≤1000000
 user:m.user.size≤1000000
 pass:m.pass.size≤1000000
 topic:m.topic.size≤1000000
 payload:m.payload.size≤1000000
 wishes:∀s∈m.wishes,s.1.size≤1000000
 filters:∀s∈m.filters,s.size≤1000000
theorem Z3l.fit {m:Mq}(h:Z3l m):Y6r m:=
 ⟨Nat.le_trans h.client (by decide),Nat.le_trans h.wt (by decide),Nat.le_trans h.wp (by decide),Nat.le_trans h.user (by decide),Nat.le_trans h.pass (by decide),Nat.le_trans h.topic (by decide),Nat.le_trans h.payload (by decide),
  fun s hs=>Nat.le_trans (h.wishes s hs) (by decide),fun s hs=>Nat.le_trans (h.filters s hs) (by decide)⟩
theorem W2:nos.size≤1000000:=by decide
theorem Z6e (k:Int):Z3l (N6 k):=⟨W2,W2,W2,W2,W2,W2,W2,(fun s hs=>by cases hs),(fun s hs=>by cases hs)⟩
def X6t (text:Rd→ByteArray×Rd):Prop:=∀s,(text s).1.size≤1000000
theorem Y1y (xs:List UInt8):(mkS xs).size=xs.length:=by simp[ByteArray.size]
theorem Y1z (s:Rd) (n:Nat):(Z0i s n).1.length=n:=by unfold Z0i;split<;>simp<;>omega
theorem X1f (s:Rd) (n:Nat):(L9 s n).1.length=n:=by unfold L9;split<;>simp<;>omega
theorem Y4o:X6t W3:=by
 intro s;unfold W3;rw[Y1y,Y1z];have:=X8o s;omega
theorem Y4p:X6t S7:=by
 intro s;unfold S7;rw[Y1y,X1f];have:=X8p s;omega
theorem Y6z {one:Rd→UInt8×Rd}{two:Rd→Nat×Rd}{text:Rd→ByteArray×Rd}(h:X6t text) (s:Rd):Z3l (Z9d one two text s).mq:=by
 unfold Z9d;simp only[Y0n.mq];refine⟨h _, ?_, ?_, ?_, ?_,W2,W2,(fun s hs=>by cases hs),(fun s hs=>by cases hs)⟩;all_goals (simp only[];split<;>first |exact h _ |exact W2)
theorem X4g (k:Int):∀(f:Nat) (m:Mq) (s:Rd),Z3l m→Z3l (D8 k f m s).1:=by
 intro f
 induction f with
 |zero=>intro m s h;exact h
 |succ f ih=>
  intro m s h;rw[D8]
  split
  ·split
   ·refine ih _ _ ⟨h.client,h.wt,h.wp,h.user,h.pass,h.topic,h.payload,fun x hx=>?_,h.filters⟩
    rcases List.mem_append.1 hx with hx |hx
    ·exact h.wishes x hx
    ·simp only[List.mem_singleton] at hx
     subst hx;exact Y4o _
   ·split
    ·exact ih _ _ ⟨h.client,h.wt,h.wp,h.user,h.pass,h.topic,h.payload,h.wishes,h.filters⟩
    ·refine ih _ _ ⟨h.client,h.wt,h.wp,h.user,h.pass,h.topic,h.payload,h.wishes,fun x hx=>?_⟩
     rcases List.mem_append.1 hx with hx |hx
     ·exact h.filters x hx
     ·simp only[List.mem_singleton] at hx
      subst hx;exact Y4o _
  ·exact h
theorem X4h (k:Int):∀(f:Nat) (m:Mq) (s:Rd),Z3l m→Z3l (C0 k f m s).1:=by
 intro f
 induction f with
 |zero=>intro m s h;exact h
 |succ f ih=>
  intro m s h;rw[C0]
  split
  ·split
   ·refine ih _ _ ⟨h.client,h.wt,h.wp,h.user,h.pass,h.topic,h.payload,fun x hx=>?_,h.filters⟩
    rcases List.mem_append.1 hx with hx |hx
    ·exact h.wishes x hx
    ·simp only[List.mem_singleton] at hx
     subst hx;exact Y4p _
   ·split
    ·exact ih _ _ ⟨h.client,h.wt,h.wp,h.user,h.pass,h.topic,h.payload,h.wishes,h.filters⟩
    ·split
     ·refine ih _ _ ⟨h.client,h.wt,h.wp,h.user,h.pass,h.topic,h.payload,h.wishes,fun x hx=>?_⟩
      rcases List.mem_append.1 hx with hx |hx
      ·exact h.filters x hx
      ·simp only[List.mem_singleton] at hx
       subst hx;exact Y4p _
     ·exact ih _ _ h
  ·exact h
theorem X6u (s:Rd) (n:Nat):(Z0i s n).2.1.length≤s.1.length:=by unfold Z0i;split<;>simp
theorem Y7a (s:Rd) (n:Nat):(L9 s n).2.1.length≤s.1.length:=by unfold L9;split<;>simp
theorem X4i (k:Int) (f:UInt8) (s:Rd) (h:s.1.length≤1000000):Z3l (Z4n k f s).1:=by
 unfold Z4n
 split
 ·exact Y6z Y4o _
 ·split
  ·exact⟨W2,W2,W2,W2,W2,W2,W2,(fun s hs=>by cases hs),(fun s hs=>by cases hs)⟩
  ·split
   ·refine⟨W2,W2,W2,W2,W2, ?_, ?_,(fun s hs=>by cases hs),(fun s hs=>by cases hs)⟩
    ·exact Y4o _
    ·simp only[J8l,X2q]
     rw[Y1y,Y1z]
     split
     ·have h1:=X6u (T3 (T3 (W3 s).2).2).2 0
      have h2:(M4 (W3 s).2).2.1.length≤(W3 s).2.1.length:=Z8c _;have h3:=Y6y s;omega
     ·have h3:=Y6y s
      omega
   ·split
    ·exact X4g _ _ _ _ ⟨W2,W2,W2,W2,W2,W2,W2,(fun s hs=>by cases hs),(fun s hs=>by cases hs)⟩
    ·split
     ·exact⟨W2,W2,W2,W2,W2,W2,W2,(fun s hs=>by cases hs),(fun s hs=>by cases hs)⟩
     ·exact Z6e k
def Z3s (m:Mq) (n:Nat):Prop:=m.codes.length≤n∧m.wishes.length≤n∧m.filters.length≤n
theorem X6v (k:Int):∀(f:Nat) (m:Mq) (s:Rd) (n:Nat),Z3s m n→Z3s (D8 k f m s).1 (n+f):=by
 intro f
 induction f with
 |zero=>intro m s n h;exact h
 |succ f ih=>
  intro m s n h;rw[D8];have up:∀m',Z3s m' (n+1)→∀s,Z3s (D8 k f m' s).1 (n+(f+1)):=fun m' h' s=>by
   have:=ih m' s (n+1) h'
   rwa [show n+1+f=n+(f+1) by omega] at this
  obtain⟨a,b,c⟩:=h
  split
  ·split
   ·exact up _ ⟨by simp only[];omega,by simp only[List.length_append,List.length_singleton];omega,by simp only[];omega⟩ _
   ·split
    ·exact up _ ⟨by simp only[List.length_append,List.length_singleton];omega,by simp only[];omega,by simp only[];omega⟩ _
    ·exact up _ ⟨by simp only[];omega,by simp only[];omega,by simp only[List.length_append,List.length_singleton];omega⟩ _
  ·exact⟨Nat.le_trans a (by omega),Nat.le_trans b (by omega),Nat.le_trans c (by omega)⟩
theorem X6w (k:Int):∀(f:Nat) (m:Mq) (s:Rd) (n:Nat),Z3s m n→Z3s (C0 k f m s).1 (n+f):=by
 intro f
 induction f with
 |zero=>intro m s n h;exact h
 |succ f ih=>
  intro m s n h;rw[C0];have up:∀m',Z3s m' (n+1)→∀s,Z3s (C0 k f m' s).1 (n+(f+1)):=fun m' h' s=>by
   have:=ih m' s (n+1) h'
   rwa [show n+1+f=n+(f+1) by omega] at this
  obtain⟨a,b,c⟩:=h
  split
  ·split
   ·exact up _ ⟨by simp only[];omega,by simp only[List.length_append,List.length_singleton];omega,by simp only[];omega⟩ _
   ·split
    ·exact up _ ⟨by simp only[List.length_append,List.length_singleton];omega,by simp only[];omega,by simp only[];omega⟩ _
    ·split
     ·exact up _ ⟨by simp only[];omega,by simp only[];omega,by simp only[List.length_append,List.length_singleton];omega⟩ _
     ·exact up _ ⟨by omega,by omega,by omega⟩ _
  ·exact⟨Nat.le_trans a (by omega),Nat.le_trans b (by omega),Nat.le_trans c (by omega)⟩
theorem X6x (k:Int) (f:UInt8) (s:Rd) (h:s.1.length≤1000000):Z3s (Z4n k f s).1 1000001:=by
 have z:∀m:Mq,m.codes=[]→m.wishes=[]→m.filters=[]→Z3s m 1000001:=fun m a b c=>⟨by simp[a],by simp[b],by simp[c]⟩;unfold Z4n
 split
 ·exact z _ rfl rfl rfl
 ·split
  ·exact z _ rfl rfl rfl
  ·split
   ·exact z _ rfl rfl rfl
   ·split
    ·have h2:(M4 s).2.1.length≤s.1.length:=Z8c _
     obtain⟨a,b,c⟩:=X6v k ((M4 s).2.1.length+1) { N6 k with id:=((M4 s).1:Int) } (M4 s).2 0 ⟨Nat.zero_le _,Nat.zero_le _,Nat.zero_le _⟩;exact⟨by omega,by omega,by omega⟩
    ·split
     ·exact z _ rfl rfl rfl
     ·exact z _ rfl rfl rfl
theorem MqL.of_rows {w:World}{b:Nat}{m:Mq}{vc vw vf:Value}(h:N1 w b m vc vw vf) {n:Nat}(hl:Z3s m n) (hn:n≤140737488351232):MqL w w.heap.size m vc vw vf:=by
 obtain⟨h1,h2,h3⟩:=h;obtain⟨l1,l2,l3⟩:=hl;obtain⟨A1,c1,rfl,a1,_⟩:=V3 h1;obtain⟨A2,c2,rfl,a2,_⟩:=V3 h2;obtain⟨A3,c3,rfl,a3,_⟩:=V3 h3;exact⟨A1,c1,A2,c2,A3,c3,rfl,rfl,rfl,a1,a2,a3,by omega,by omega,by omega,X4.of_own h1,X4.of_own h2,X4.of_own h3⟩
end
section
open Go.RowKit
def Y3e (xs:List UInt8) (w:World) (e:Ending) (w':World):Prop:=
 ∃m n er vc vw vf,Z0a xs m n er∧e = .returned (.tuple #[.agg (Z1 m vc vw vf).toArray, .int .i64 ((n:Nat):Int), .int .i64 er])∧(N1 w' w.heap.size m vc vw vf∧Z3s m 1000001)∧Z3l m∧Below w.heap.size w w'
theorem Y9b (w:World) (b:Nat) (k:Int):N1 w b (N6 k) Z2 Z2 Z2∧Z3s (N6 k) 1000001:=⟨D9 w b rfl rfl rfl,Nat.zero_le _,Nat.zero_le _,Nat.zero_le _⟩
theorem L5 {P:Program}{fn:Func}{p q r:Tmp}{T:TypeId}(h:fn.results = #[.cell p T, .tmp q, .tmp r]) (tmps:Array Value) {w:World}{g:Nat}{l:List Value}{d:TypeDesc}{u v:Value}(hp:tmps.getD p undef = .pointer (some ⟨g,0,none⟩)) (hq:tmps.getD q undef=u) (hr:tmps.getD r undef=v) (hC:X5 w g l)
  (hu:P.underlying T=some d) (hd:d.isRow=true) {n:Nat}(hi:(P.info? T).map (·.size)=some n) (hl:l.length=n):(results fn tmps).run P w = .ok (.tuple #[.agg l.toArray,u,v]) w:=by
 rw[←hl] at hi;have hp':tmps[p]?.getD undef = .pointer (some ⟨g,0,none⟩):=by simpa using hp
 have hq':tmps[q]?.getD undef=u:=by simpa using hq
 have hr':tmps[r]?.getD undef=v:=by simpa using hr
 simp[results,h,hp',hq',hr',asAddr,run_loadVar_mid w g 0 T l d hC.range hu hd hi]
theorem X6y:∀(f i n:Nat) (l:List UInt8) (er:Int),Z2a f i n l = .error er→er=7∨er=1∨er=2:=by
 intro f
 induction f with
 |zero=>intro i n l er h;cases l<;>simp[Z2a] at h<;>omega
 |succ f ih=>
  intro i n l er h;cases l with
  |nil=>simp[Z2a] at h;omega
  |cons x r=>
   rw[Z2a] at h
   split at h
   ·split at h
    ·injection h with h;omega
    ·exact ih _ _ _ _ h
   ·split at h
    ·injection h with h;omega
    ·split at h
     ·injection h with h;omega
     ·split at h
      ·injection h with h;omega
      ·cases h
theorem Y9c {xs:List UInt8}{er:Int}(h:Z0y xs = .error er):(er != 0)=true:=by
 have:er=7∨er=1∨er=2:=by
  cases xs with
  |nil=>injection h with h;omega
  |cons x r=>exact X6y _ _ _ _ _ h
 rw[bne_iff_ne];omega
theorem Z2r {xs:List UInt8}{er:Int}(h:Z0y xs = .error er):Z0a xs (N6 0) 0 er:=by
 unfold Z0a;rw[h];exact⟨rfl,rfl,rfl⟩
theorem Q0z (xs:List UInt8) (A:Option Addr) (c:Nat) (r:Except Int (Nat×Nat)) (h:Z0y xs=r) (w:World) (hr:RB w w.heap.size A xs) (hl:xs.length≤140737488351232):
  Calls Tryz.prog 121 #[.slice A xs.length c] w fun e w'=>e = .returned (Q0x r)∧w=w':=by
 subst h;exact(J6e xs A c w hr hl).mono fun _ _ h=>⟨h.1,h.2.symm⟩
theorem X9h {xs:List UInt8}{x:UInt8}(h:xs[0]? = some x):xs.headD 0=x:=by
 cases xs with
 |nil=>simp at h
 |cons y r=>simpa using h
theorem X6z (g:Nat) (w:World):(Instr.fieldAt 175 (.pointer (some ⟨g,0,none⟩)) 1).run Tryz.prog w = .ok (.pointer (some ⟨g,1,none⟩)) w:=by kernel_rfl
theorem J9r (x:Fin 256):bits .and .u8 (x.val:Int) 15=((x.val%16:Nat):Int):=by
 revert x
 decide
theorem J9s (x:UInt8):(loB x).toNat=x.toNat%16:=by
 unfold loB;rw[UInt8.toNat_and];exact Nat.and_two_pow_sub_one_eq_mod x.toNat 4
theorem J9t (x:UInt8) (a b:Operand) (w:World):(do eqGuard .and 5 a b (.int .u8 (x.toNat:Int)) (.int .u8 15);binOp .and 5 (.int .u8 (x.toNat:Int)) (.int .u8 15):Sem Value).run Tryz.prog w = .ok (.int .u8 ((loB x).toNat:Int)) w:=by
 have e:=J9r ⟨x.toNat,x.toNat_lt⟩;simp only[] at e;rw[J9s,←e];simp[go_sem]
theorem Q3g (x:UInt8) (a b:Operand) (w:World):(do eqGuard .shr 5 a b (.int .u8 (x.toNat:Int)) (.int .u64 4);binOp .shr 5 (.int .u8 (x.toNat:Int)) (.int .u64 4):Sem Value).run Tryz.prog w = .ok (.int .u8 ((x.toNat/16:Nat):Int)) w:=by
 have:=x.toNat_lt;simp[go_sem]
structure Z6f (W:World) (g6:Nat) (s:Rd) (w:World):Prop where
 bel:Below W.heap.size W w
 rd:K7 w W.heap.size g6 s
 box:X5 w W.heap.size (Z1 (N6 0) Z2 Z2 Z2)
 lt:W.heap.size<w.heap.size
 ne:W.heap.size≠g6
theorem Z6f.drew {W w:World}{g6:Nat}{s:Rd}(h:Z6f W g6 s w):Z6f W g6 s w.drew:=
 ⟨h.bel.drew,h.rd.below (Below.drew (Below.refl _ _)),h.box.below (Below.drew (Below.refl _ _)) h.lt,h.lt,h.ne⟩
theorem Z6f.call {W w w':World}{g6:Nat}{s s':Rd}(h:Z6f W g6 s w) (hr:K7 w' W.heap.size g6 s') (hg:w.grownBy w' (some g6)):Z6f W g6 s' w':=
 ⟨h.bel.grown hg (Nat.le_of_lt h.lt) (fun k hk=>by injection hk with hk;rw[←hk];exact h.rd.lts.1),hr,h.box.kept hg h.lt (fun e=>h.ne (by injection e)),Nat.lt_of_lt_of_le h.lt hg.size,h.ne⟩
structure X7a (W:World) (g6:Nat) (r:Mq×Rd) (vc vw vf:Value) (w:World):Prop where
 bel:Below W.heap.size W w
 rd:K7 w W.heap.size g6 r.2
 box:X5 w W.heap.size (Z1 r.1 vc vw vf)
 lt:W.heap.size<w.heap.size
 rows:N1 w (W.heap.size+1) r.1 vc vw vf
theorem Z6f.fin {W w w':World}{g6:Nat}{r:Mq×Rd}{vc vw vf:Value}(h:Z6f W g6 r.2 w) (hr:N1 w (W.heap.size+1) r.1 vc vw vf) (hg:w.grownBy w' (some W.heap.size)) (hs:w'.heap.size=w.heap.size) (hC:X5 w' W.heap.size (Z1 r.1 vc vw vf)):X7a W g6 r vc vw vf w':=by
 have k:∀{e:TypeId}{size n:Nat}{v:Value}{xs:List Value},w.ownsRow (W.heap.size+1) e size v n xs→w'.ownsRow (W.heap.size+1) e size v n xs:=fun h=>
  h.kept hg (Or.inr (Ne.symm (Q1 h (Or.inl (by omega)))))
 exact⟨h.bel.grown hg (Nat.le_of_lt h.lt) (fun k hk=>by injection hk with hk;rw[←hk];exact Nat.le_refl _),h.rd.kept hg (fun k hk=>by injection hk with hk;rw[←hk];exact Nat.le_refl _) (fun e=>h.ne (by injection e with e;exact e.symm)),hC,by rw[hs];exact h.lt,k hr.1,k hr.2.1,k hr.2.2⟩
structure Z3k (W:World) (g6:Nat) (r:Mq×Rd) (vc vw vf:Value) (w:World):Prop where
 bel:Below W.heap.size W w
 bad:w.cell? ⟨g6,1,none⟩=some (.bool r.2.2)
 lt6:g6<w.heap.size
 box:X5 w W.heap.size (Z1 r.1 vc vw vf)
 lt:W.heap.size<w.heap.size
 rows:N1 w (W.heap.size+1) r.1 vc vw vf
 len:Z3s r.1 1000001
theorem Z3k.lists {W w:World}{g6:Nat}{r:Mq×Rd}{vc vw vf:Value}(h:Z3k W g6 r vc vw vf w):MqL w w.heap.size r.1 vc vw vf:=MqL.of_rows h.rows h.len (by decide)
theorem Z3k.one {W w:World}{g6:Nat}{r:Mq×Rd}{vc vw vf:Value}(h:Z3k W g6 r vc vw vf w):(Z1 r.1 vc vw vf).all (·.oneCell')=true:=Y0s _ (L7 h.rows.1) (L7 h.rows.2.1) (L7 h.rows.2.2)
theorem X7a.six {W w:World}{g6:Nat}{r:Mq×Rd}{vc vw vf:Value}(h:X7a W g6 r vc vw vf w) (hl:Z3s r.1 1000001):Z3k W g6 r vc vw vf w:=by
 obtain⟨_,_,_,_,c1,_,_,_,_,hlt⟩:=h.rd;exact⟨h.bel,c1,hlt,h.box,h.lt,h.rows,hl⟩
theorem Z3k.call {W w w':World}{g6:Nat}{r:Mq×Rd}{vc vw vf:Value}(h:Z3k W g6 r vc vw vf w) (hb:Below w.heap.size w w'):Z3k W g6 r vc vw vf w':=
 ⟨h.bel.trans (hb.mono (Nat.le_of_lt h.lt)),(T6 hb h.lt6).trans h.bad,Nat.lt_of_lt_of_le h.lt6 hb.size,h.box.below hb h.lt,Nat.lt_of_lt_of_le h.lt hb.size,⟨Y1 h.rows.1 hb,Y1 h.rows.2.1 hb,Y1 h.rows.2.2 hb⟩,h.len⟩
theorem Z3k.keep {W w w':World}{g6:Nat}{r:Mq×Rd}{vc vw vf:Value}(h:Z3k W g6 r vc vw vf w) (hg:w.grownBy w' (some W.heap.size)) (_hs:w'.heap.size=w.heap.size):N1 w' W.heap.size r.1 vc vw vf∧Z3s r.1 1000001:=by
 have k:∀{e:TypeId}{size n:Nat}{v:Value}{xs:List Value},w.ownsRow (W.heap.size+1) e size v n xs→w'.ownsRow (W.heap.size+1) e size v n xs:=fun h=>
  h.kept hg (Or.inr (Ne.symm (Q1 h (Or.inl (by omega)))))
 exact⟨⟨V2 (k h.rows.1) (Nat.le_succ _),V2 (k h.rows.2.1) (Nat.le_succ _),V2 (k h.rows.2.2) (Nat.le_succ _)⟩,h.len⟩
theorem Z3k.belK {W w w':World}{g6:Nat}{r:Mq×Rd}{vc vw vf:Value}(h:Z3k W g6 r vc vw vf w) (hg:w.grownBy w' (some W.heap.size)) (_hs:w'.heap.size=w.heap.size):Below W.heap.size W w':=
 h.bel.grown hg (Nat.le_of_lt h.lt) (fun k hk=>by injection hk with hk;rw[←hk];exact Nat.le_refl _)
section
variable {ops:Array Oper}{Q:Exit→Act→World→Prop}{n:Nat}{l fixed:List (Nat×Value)}{F:World→Prop}{es:List Y7}{i s:Nat}{o:Oper}
theorem kC {f:FuncId}{xs:Array Operand}{ats:Array TypeId}{t:Y7}(ho:ops[t.op]? = some o) (hp:o.op = .call { callee:=.value (.func f),args:=xs,argTypes:=ats }) (hd:o.dst=some t.slot) (hg:okG ops (fixed++K8 (D4 ops t.op) es) o=true)
  (hc:∀a w,Z9 a n (fixed++K8 (D4 ops t.op) es)→Z4i (D4 ops t.op) a w es→F w→∃vs:List Value,xs.toList.map a.eval=vs∧Calls Tryz.prog f vs.toArray w fun e w'=>∃v,e = .returned v∧(t.e.p v w'∧Below w.heap.size w w'))
  (hen:∀(args:Array Value) (w:World),(callFunc f args).run Tryz.prog w = .ok (.enter f args) w:=by exact fun _ _=>by kernel_rfl):Z1z ops Q n fixed F es t:=kc hc ho hp hd hg hen
end
theorem Y7b {m:Mq}{b:Bool}(h:Z4f m=b) (hb:b=true:=by rfl):Z4b m:=(Z7o m).1 (h.trans hb)
theorem Q3h {P:Program}{f:FuncId}{args:Array Value}{w:World}{b b':Bool}(h:Calls P f args w fun e w'=>e = .returned (.bool b)∧w=w') (hb:b=b'):Calls P f args w fun e w'=>∃v,e = .returned v∧(v = .bool b'∧Below w.heap.size w w'):=
 h.mono fun _ _ ⟨h1,h2⟩=>⟨_,h1,by rw[hb],h2▸Below.refl _ _⟩
theorem J9u (B g:Nat) (s:Rd) (k:Nat) (f:UInt8) (hs:s.1.length≤1000000) (r:Mq×Rd) (hr:Z4n (k:Int) f s=r) (w:World) (hR:K7 w B g s):
  Calls Tryz.prog 122 #[.pointer (some ⟨g,0,none⟩), .int .i64 (k:Int), .int .i64 (f.toNat:Int)] w fun e w'=>∃v,e = .returned v∧((∃vc vw vf,v = .agg (Z1 r.1 vc vw vf).toArray∧N1 w' w.heap.size r.1 vc vw vf)∧K7 w' B g r.2∧w.grownBy w' (some g)):=by
 subst hr;refine(X6s B g s k f hs w hR).mono ?_;rintro e w' ⟨vc,vw,vf,rfl,h1,h2,h3⟩;exact⟨_,rfl,⟨vc,vw,vf,rfl,h3⟩,h1,h2⟩
theorem N1.base {w:World}{b b':Nat}{m:Mq}{vc vw vf:Value}(h:N1 w b m vc vw vf) (hb:b'≤b):N1 w b' m vc vw vf:=⟨V2 h.1 hb,V2 h.2.1 hb,V2 h.2.2 hb⟩
theorem J1r (xs:List UInt8) (A:Option Addr) (c:Nat) (w:World) (hr:RB w w.heap.size A xs) (hl:xs.length≤140737488351232) (er:Int) (hs:Z0y xs = .error er):
  Calls Tryz.prog 95 #[.slice A xs.length c] w (Y3e xs w):=by
 have her:(er != 0)=true:=Y9c hs;go_enter Tryz.func95,Tryz.ntmps95;refine Z9.start 56 [(0, .slice A xs.length c)] rfl rfl ⟨rfl,trivial⟩ ?_;intro a0 H0;have O0:=X0.start w;refine rl ?_;refine H0.al O0 2 Z0v fun a3 w1 O1 H3=>nt ?_;refine H3.rg 1 fun a4 H4=>?_;refine H4.cq 1 (Q0z xs A c (.error er) hs _ (hr.next O1.bel) hl) fun a6 H6=>?_;refine H6.ex (r:=.int .i64 0) 0 fun a7 H7=>?_;refine H7.ex (r:=.int .i64 0) 0 fun a8 H8=>?_;refine H8.ex (r:=.int .i64 er) 3 fun a12 H12=>nt ?_;refine H12.rg 1 fun a13 H13=>?_;refine H13.bn 0 (J6i _ _ true her _ _ _) fun a14 H14=>nt ?_;refine H14.condT rfl ?_;refine rl ?_;refine H14.any (w':=w1) gz rfl rfl (.agg (Z1 (N6 0) Z2 Z2 Z2).toArray) (by intro cs b h;cases h) (by kernel_rfl) (by kernel_rfl) ?_;intro a15 H15;refine H15.ms 1 fun a16 H16=>?_;refine H16.st O1 0 2 (hi:=size_mq) fun a19 w2 O2 H19=>nt ?_;refine wp_ret ?_;repeat with_reducible first |apply Z4 |apply Z5
 refine bodyPost_ret (L5 Tryz.results95 _ (H19.at_ 2 _ rfl) (H19.at_ 3 _ rfl) (H19.at_ 4 _ rfl) (O2.get 0 rfl) Tryz.underlying49 rfl size_mq rfl) H19.df ?_;exact⟨N6 0,0,er,Z2,Z2,Z2,Z2r hs,rfl,Y9b _ _ 0,Z6e 0,O2.bel⟩
theorem X7b (xs:List UInt8) (A:Option Addr) (c:Nat) (hc:xs.length≤c) (w:World) (hr:RB w w.heap.size A xs) (hl:xs.length≤140737488351232) (hT:Wd w) (t i:Nat) (hs:Z0y xs = .ok (t,i)) (r:Mq×Rd) (hrd:r=Z4n (((xs.headD 0).toNat/16:Nat):Int) (loB (xs.headD 0)) ((xs.take t).drop i,false)):
  Calls Tryz.prog 95 #[.slice A xs.length c] w (Y3e xs w):=by
 have hg:=Y1w hs;obtain⟨gb,go,x,hA,hgb,hx,hcell⟩:=RB.get hr (k:=0) (by omega);subst hA;rw[Nat.add_zero] at hcell;have hx0:xs.headD 0=x:=X9h hx;rw[hx0] at hrd;have hxb:=x.toNat_lt;have hyl:((xs.take t).drop i).length=t-i:=by simp;omega
 have hys:((xs.take t).drop i,false).1.length≤1000000:=by show ((xs.take t).drop i).length≤_;omega
 have hsm:Z3l r.1:=by rw[hrd];exact X4i _ _ _ hys
 have hln:Z3s r.1 1000001:=by rw[hrd];exact X6x _ _ _ hys
 have hP:=X1c hs r (by rw[hx0];exact hrd);go_enter Tryz.func95,Tryz.ntmps95;refine Z9.start 56 [(0, .slice (some ⟨gb,go,none⟩) xs.length c)] rfl rfl ⟨rfl,trivial⟩ ?_;intro a0 H0;have O0:=X0.start w;refine rl ?_;refine H0.al O0 2 Z0v fun a3 w1 O1 H3=>nt ?_;refine H3.rg 1 fun a4 H4=>?_;refine H4.cq 1 (Q0z xs _ c (.ok (t,i)) hs _ (hr.next O1.bel) hl) fun a6 H6=>?_;refine H6.ex (r:=.int .i64 (t:Int)) 0 fun a7 H7=>?_;refine H7.ex (r:=.int .i64 (i:Int)) 0 fun a8 H8=>?_;refine H8.ex (r:=.int .i64 0) 3 fun a12 H12=>nt ?_;refine H12.rg 1 fun a13 H13=>?_;refine H13.bn 0 (J6i _ _ false rfl _ _ _) fun a14 H14=>nt ?_;refine H14.condF rfl ?_;refine Z3 ?_;refine Z0 ?_;refine H14.rg 3 fun a17 H17=>?_;refine H17.go gz rfl rfl _ (Z5b rfl (H17.ev rfl) (H17.ev rfl) (H17.ev rfl) (N0 _ _ _ _ _ hg.2.1 hg.2.2.1 hc _)) ?_;intro a18 H18;refine H18.any (w':=w1) gz rfl rfl (.agg ([.slice (if c=i then (some ⟨gb,go,none⟩:Option Addr) else (some ⟨gb,go,none⟩:Option Addr).map (·.add i)) (t-i) (c-i), .bool false]:List Value).toArray) (by intro cs b h;cases h) (by kernel_rfl) (by kernel_rfl) ?_;intro a19 H19;refine H19.bx O1 1 fun a21 w2 O2 H21=>nt ?_;obtain⟨g6,hg6⟩:∃g6,g6=w1.heap.size:=⟨_,rfl⟩;have hR:K7 w2 w.heap.size g6 ((xs.take t).drop i,false):=K7.of hyl (by omega) (hg6▸(O2.get 0 rfl).get 0 _ rfl) (hg6▸(O2.get 0 rfl).get 1 _ rfl) (hg6▸(O2.get 0 rfl).fr 0 rfl) (hg6▸(O2.get 0 rfl).fr 1 rfl) ((((hr.below O2.bel).take t).cut (by simp;omega) (by simp;omega))) (hg6▸O2.ge 0 rfl) (hg6▸O2.lt 0 rfl);have H22:=H21.kp [0,2,3,6];have hM:Z6f w g6 ((xs.take t).drop i,false) w2:=⟨O2.bel,hR,O2.get 1 rfl,O2.lt 1 rfl,(by rw[hg6];exact Nat.ne_of_lt (O1.lt 0 rfl))⟩;rw[←hg6] at H22;refine H22.sg (Z6f w g6 ((xs.take t).drop i,false)) hM.drew [0,2,3,6] [ec 0 23 (.pointer (some ⟨g6,0,none⟩)),ec 1 24 (.slice (some ⟨gb,go,none⟩) xs.length c),ec 2 25 (.pointer (some ⟨gb,go,none⟩)),ec 3 26 (.int .u8 (x.toNat:Int)),ec 4 27 (.int .u8 ((x.toNat/16:Nat):Int)),ec 5 28 (.int .i64 ((x.toNat/16:Nat):Int)),ec 6 29 (.slice (some ⟨gb,go,none⟩) xs.length c),ec 7 30 (.pointer (some ⟨gb,go,none⟩)),ec 8 31 (.int .u8 (x.toNat:Int)),ec 9 32 (.int .u8 ((loB x).toNat:Int)),ec 10 33 (.int .i64 ((loB x).toNat:Int))] rfl ?_;refine St.call 11 ⟨jm,jm,jI rfl rfl rfl rfl rfl rfl fun w=>Y9z _ _ _ _ (by omega) w,jl fun _ h=>U3 _ _ _ _ ((T6 h.bel hgb).trans hcell),jb fun _=>Q3g x _ _ _,jc fun _=>Y4m _ (by omega) _,jm,jI rfl rfl rfl rfl rfl rfl fun w=>Y9z _ _ _ _ (by omega) w,jl fun _ h=>U3 _ _ _ _ ((T6 h.bel hgb).trans hcell),jb fun _=>J9t x _ _ _,jc fun _=>Y4m _ (loB x).toNat_lt _,trivial⟩ (fun wy h=>J9u w.heap.size g6 _ _ _ hys r hrd.symm wy h.rd) ?_;rintro wy _ wz h ⟨⟨vc,vw,vf,rfl,hrows⟩,hrd',hgr⟩;refine nx (fun w'=>Z6f w g6 r.2 w'∧N1 w' (w.heap.size+1) r.1 vc vw vf) [] [] ⟨h.call hrd' hgr,hrows.base h.lt⟩ ?_;refine St.sto 12 trivial ?_;intro a wu H _ h;obtain⟨w',hr',hg',hs',hC'⟩:=h.1.box.sto (L:=Z1 r.1 vc vw vf) size_mq rfl rfl (Y0s _ (L7 h.2.1) (L7 h.2.2.1) (L7 h.2.2.2));refine⟨w',Q6 rfl (H.ev rfl) (H.ev rfl) hr',nx0 (Z3k w g6 r vc vw vf) [] [] ((h.1.fin h.2 hg' hs' hC').six hln) ?_⟩;refine St.fin trivial ?_;intro a23 w3 H23 _ hF;obtain⟨b1,e1⟩:∃b,r.2.2=b:=⟨_,rfl⟩;obtain⟨b2,e2⟩:∃b,Z4f r.1=b:=⟨_,rfl⟩;obtain⟨b3,e3⟩:∃b,decide (Z1j r.1=xs.take t)=b:=⟨_,rfl⟩;replace H23:=H23.kp [0,2,3,6];refine Z0 (H23.dq (Z3k w g6 r vc vw vf) (fun _ _ h hb=>h.call hb) hF [0,2,3,6] rfl [ec 0 35 (.pointer (some ⟨g6,0,none⟩)),ec 1 36 (.pointer (some ⟨g6,0,none⟩)),ec 2 37 (.pointer (some ⟨g6,1,none⟩)),ec 3 38 (.bool b1),ec 4 39 (.bool b1),ec 5 40 (gv (!b1) ((.agg (Z1 r.1 vc vw vf).toArray))),eh 6 41 (gv (!b1) (.bool b2)),ec 7 42 (gv (!b1) (.bool (!b2))),ec 8 43 (.bool (b1||(!b2))),ec 9 44 (.bool (b1||(!b2))),ec 10 45 (gv (!(b1||(!b2))) ((.agg (Z1 r.1 vc vw vf).toArray))),er 11 46 [] (fun v w'=>b1=false→b2=true→K0 (Z1j r.1) v w'),ec 12 47 (gv (!(b1||(!b2))) ((.slice (some ⟨gb,go,none⟩) xs.length c))),ec 13 48 (gv (!(b1||(!b2))) (.int .i64 (t:Int))),ec 14 49 (gv (!(b1||(!b2))) ((.slice (some ⟨gb,go,none⟩) t c))),eh 15 50 (gv (!(b1||(!b2))) (.bool b3)),ec 16 51 (gv (!(b1||(!b2))) (.bool (!b3))),ec 17 52 (.bool ((b1||(!b2))||(!b3)))] rfl ⟨jm,ja fun _=>by kernel_rfl,jf X6z,jl fun _ h=>V0 _ _ _ _ (e1▸h.bad),jm,(by cases b1;exact jl fun _ h=>R1 h.box;exact jo),(by cases b1;exact ju (hq:=G5 b2);exact jo),(by (cases b1<;>exact jp)),jm,(by cases b1;rotate_left;exact jo;cases b2;exact jo;exact jl fun _ h=>R1 h.box),(by cases b1;rotate_left;exact jo;cases b2;exact jo;exact jm),(by cases b1;rotate_left;exact jo;cases b2;exact jo;exact jm),(by cases b1;rotate_left;exact jo;cases b2;exact jo;exact jh fun w=>Z4t _ _ _ _ hg.2.2.1 hc w),(by cases b1;rotate_left;exact jo;cases b2;exact jo;exact ju (hq:=G5 b3)),(by cases b1;rotate_left;exact jp;(cases b2<;>exact jp)),trivial⟩ ⟨(by cases b1;exact kb fun w' h=>e2▸J9o r.1 _ _ _ w' h.lists hsm.fit (hT.below h.bel);exact ko),(by cases b1;rotate_left;exact kor fun _ h h2=>(by first |(cases h;done) |(cases h2;done));cases b2;exact kor fun _ h h2=>(by first |(cases h;done) |(cases h2;done));exact kr fun w' h=>(J9p r.1 _ _ _ w' (Y7b e2) h.lists).mono fun _ _ ⟨v,h1,h2,h3⟩=>⟨v,h1,fun _ _=>h2.read,h3⟩),(by cases b1;rotate_left;exact ko;cases b2;exact ko;exact kC rfl rfl rfl rfl fun a w' H hk h=>⟨[a.eval (.tmp 46), .slice (some ⟨gb,go,none⟩) t c],congrArg (fun v=>[a.eval (.tmp 46),v]) (H.ev (x:=.tmp 49) rfl),(Q3h (J9q (Z1j r.1) (xs.take t) (a.eval (.tmp 46)) _ w' (hk.1 rfl rfl) ⟨_,_,(by rw[List.length_take,Nat.min_eq_left hg.2.2.1]),((hr.below h.bel).take t).more h.bel.size⟩) e3)⟩),trivial⟩ ?_ (hst:=⟨fun _ _ _ hb h h1 h2=>(h h1 h2).below hb,trivial⟩))
 intro a24 w4 H24 _ hF;refine Z0 (H24.cond (t:=(b1 || !b2) || !b3) rfl ?_);cases hb:(b1 || !b2) || !b3 with
 |true=>
  refine rl ?_;refine H24.any (w':=w4) gz rfl rfl (.agg (Z1 (N6 0) Z2 Z2 Z2).toArray) (by intro cs b h;cases h) (by kernel_rfl) (by kernel_rfl) fun a25 H25=>?_;refine H25.storeS rfl rfl rfl rfl (L:=Z1 (N6 0) Z2 Z2 Z2) rfl hF.box size_mq rfl rfl rfl fun a26 w5 H26 hg' hs' hC=>?_;refine H26.ms 2 fun a27 H27=>nt (wp_ret ?_);repeat with_reducible first |apply Z4 |apply Z5
  refine bodyPost_ret (L5 Tryz.results95 _ (H27.at_ 2 _ rfl) (H27.at_ 3 _ rfl) (H27.at_ 4 _ rfl) hC Tryz.underlying49 rfl size_mq rfl) H27.df ?_;exact⟨N6 0,0,1,Z2,Z2,Z2,hP.2 (fun h=>by rw[←e1,←e2,←e3,h.1,(Z7o _).2 h.2.1,decide_eq_true h.2.2] at hb;cases hb),rfl,Y9b _ _ 0,Z6e 0,hF.belK hg' hs'⟩
 |false=>
  simp only[Bool.or_eq_false_iff,Bool.not_eq_false'] at hb;refine Z3 (Z0 ?_);refine rl ?_;refine H24.loadS rfl rfl rfl rfl rfl hF.box Tryz.underlying49 rfl size_mq rfl fun a25 H25=>?_;refine H25.ms 1 fun a26 H26=>?_;refine H26.storeS rfl rfl rfl rfl rfl hF.box size_mq rfl rfl hF.one fun a27 w5 H27 hg' hs' hC=>?_;refine H27.ms 2 fun a29 H29=>nt (wp_ret ?_);repeat with_reducible first |apply Z4 |apply Z5
  refine bodyPost_ret (L5 Tryz.results95 _ (H29.at_ 2 _ rfl) (H29.at_ 3 _ rfl) (H29.at_ 4 _ rfl) hC Tryz.underlying49 rfl size_mq rfl) H29.df ?_;exact⟨r.1,t,0,vc,vw,vf,hP.1 ⟨e1.trans hb.1.1,(Z7o _).1 (e2.trans hb.1.2),of_decide_eq_true (e3.trans hb.2)⟩,rfl,hF.keep hg' hs',hsm,hF.belK hg' hs'⟩
theorem J1s (xs:List UInt8) (A:Option Addr) (c:Nat) (hc:xs.length≤c) (w:World) (hr:RB w w.heap.size A xs) (hl:xs.length≤140737488351232) (hT:Wd w):
  Calls Tryz.prog 95 #[.slice A xs.length c] w (Y3e xs w):=by
 cases hs:Z0y xs with
 |error er=>exact J1r xs A c w hr hl er hs
 |ok p=>
  obtain⟨t,i⟩:=p;obtain⟨r,hrd⟩:∃r,r=Z4n (((xs.headD 0).toNat/16:Nat):Int) (loB (xs.headD 0)) ((xs.take t).drop i,false):=⟨_,rfl⟩;exact X7b xs A c hc w hr hl hT t i hs r hrd
theorem Q3i (xs:List UInt8) (A:Option Addr) (c:Nat) (hc:xs.length≤c) (w:World) (hr:RB w w.heap.size A xs) (hl:xs.length≤140737488351232) (hT:Wd w):
  Calls Tryz.prog 95 #[.slice A xs.length c] w fun e w'=>∃v,e = .returned v∧∃m n er vc vw vf,v = .tuple #[.agg (Z1 m vc vw vf).toArray, .int .i64 ((n:Nat):Int), .int .i64 er]∧Z0a xs m n er∧(N1 w' w.heap.size m vc vw vf∧Z3s m 1000001)∧Z3l m∧Below w.heap.size w w':=
 (J1s xs A c hc w hr hl hT).mono fun _ _ ⟨m,n,er,vc,vw,vf,h1,h2,h3⟩=>⟨_,h2,m,n,er,vc,vw,vf,rfl,h1,h3⟩
theorem MqL.ones {w:World}{B:Nat}{m:Mq}{vc vw vf:Value}(h:MqL w B m vc vw vf):(Z1 m vc vw vf).all (·.oneCell')=true:=by
 obtain⟨A1,c1,A2,c2,A3,c3,rfl,rfl,rfl,_⟩:=h;exact Y0s _ rfl rfl rfl
end
section
open Go.RowKit
section
variable {ops:Array Oper}{Q:Exit→Act→World→Prop}{n:Nat}{l fixed:List (Nat×Value)}{F:World→Prop}{es:List Y7}{i s:Nat}{o:Oper}
end
theorem N1.typ {w w':World}{b g:Nat}{m:Mq}{vc vw vf:Value}(h:N1 w b m vc vw vf) (hT:Z3z w g 49) (hg:w.grownBy w' (some g)):N1 w' b m vc vw vf:=
 ⟨h.1.kept hg (.inr (Ne.symm (hT.far h.1 rfl))),h.2.1.kept hg (.inr (Ne.symm (hT.far h.2.1 rfl))),h.2.2.kept hg (.inr (Ne.symm (hT.far h.2.2 rfl)))⟩
section
variable {w w':World}
theorem N1.belowR {b:Nat}{m:Mq}{vc vw vf:Value}(h:N1 w b m vc vw vf) (hb:Below w.heap.size w w'):N1 w' b m vc vw vf:=⟨Y1 h.1 hb,Y1 h.2.1 hb,Y1 h.2.2 hb⟩
end
abbrev zC:List Value:=Z1 (N6 0) Z2 Z2 Z2
def Far (g:Nat) (vc vw vf:Value):Prop:=some g≠vc.ownBlock∧some g≠vw.ownBlock∧some g≠vf.ownBlock
section
variable {w w':World}
theorem N1.keptR {b g:Nat}{m:Mq}{vc vw vf:Value}(h:N1 w b m vc vw vf) (hg:w.grownBy w' (some g)) (hf:Far g vc vw vf):N1 w' b m vc vw vf:=
 ⟨h.1.kept hg (.inr hf.1.symm),h.2.1.kept hg (.inr hf.2.1.symm),h.2.2.kept hg (.inr hf.2.2.symm)⟩
theorem N1.far {b g:Nat}{m:Mq}{vc vw vf:Value}(h:N1 w b m vc vw vf) (hg:g<b∨w.heap.size≤g):Far g vc vw vf:=⟨Q1 h.1 hg,Q1 h.2.1 hg,Q1 h.2.2 hg⟩
end
end
section
open Go.RowKit
theorem Y2a (k:Nat):(Builtin.zeroCells #[Value.int .u8 0] k).size=k:=by
 simp[Builtin.zeroCells]
theorem Q5n (n:Nat) (w:World) (hn:n≤110000):
  Calls Tryz.prog 120 #[.slice none 0 0, .int .i64 (n:Int)] w fun e w'=>∃A c,e = .returned (.slice A 0 c)∧w'.ownsRow w.heap.size 5 1 (.slice A 0 c) 0 []∧Below w.heap.size w w':=by
 rcases Nat.eq_zero_or_pos n with rfl |hp
 ·go_enter Tryz.func120,Tryz.ntmps120
  go_wp2
  go_ret
  exact⟨none,0,rfl,World.ownsRow_nil _ _ _ _,Below.refl _ _⟩
 ·have h1:¬((n:Int)<0):=by omega
  have h4:(n:Int) > 0:=by omega
  obtain⟨i,hi0,hz0,hz1,hz2⟩:=info_parts (P:=Tryz.prog) J4;have hold:(Builtin.firstCells i.size 0 (.slice none 0 0)).run Tryz.prog w.drew = .ok ([]:List Value).toArray w.drew:=run_firstCells_none w.drew i.size 0 0 0;have hrz:∀ty,(Builtin.append_ #[31,3] ty #[.slice none 0 0, .int .i64 (n:Int)]).run Tryz.prog w =
    .ok (.slice (some ⟨w.heap.size,0,none⟩) (0+n) (grownCap w (0+n) 0 5)) (w.drew.alloc (.cells (([]:List Value).toArray++Builtin.zeroCells #[.int .u8 0] n++Builtin.zeroCells #[.int .u8 0] (grownCap w (0+n) 0 5-(0+n))) 5)):=fun ty=>
   Lib.run_append_grow_zeros w 31 3 ty 5 i (.int .u8 0) .i64 .i64 Tryz.underlying31 Tryz.underlying3 hi0 hz0 none 0 0 [] hold n hp (by omega) (by omega) (by omega) (by rw[hz2];omega) (growslice_fits (by omega) (by rw[hz2];omega))
  obtain⟨G,hG⟩:∃G,G=grownCap w (0+n) 0 5:=⟨_,rfl⟩;have hGn:0+n≤G:=hG▸grownCap_ge w _ _ _;have hGm:G≤maxLen:=hG▸grownCap_le_maxLen w _ _ _ (by unfold maxLen;omega);rw[←hG] at hrz;have hsz:(([]:List Value).toArray++Builtin.zeroCells #[.int .u8 0] n++Builtin.zeroCells #[.int .u8 0] (G-(0+n))).size=G*1:=by
   rw[Array.size_append,Array.size_append,Y2a,Y2a];simp;omega
  obtain⟨C,hC⟩:∃C,C=([]:List Value).toArray++Builtin.zeroCells #[.int .u8 0] n++Builtin.zeroCells #[.int .u8 0] (G-(0+n)):=⟨_,rfl⟩;rw[←hC] at hrz hsz;have hO:(w.drew.alloc (.cells C 5)).ownsRow w.heap.size 5 1 (.slice (some ⟨w.heap.size,0,none⟩) 0 G) 0 []:=World.ownsRow_made w.drew C G (Nat.le_refl _) hGm hsz;have hB:Below w.heap.size w (w.drew.alloc (.cells C 5)):=(Below.drew (Below.refl _ _)).alloc (Nat.le_refl _) _;have hG63:G≤9223372036854775807:=by unfold maxLen at hGm;omega
  have HO:=Lib.hid hO;have HB:=Lib.hid hB;clear hold hG hsz hC hO hB;go_enter Tryz.func120,Tryz.ntmps120
  go_wp2_with (at_builtin;refine Lib.wpList_append_run _ rfl _ _ _ _ rfl _ _ rfl rfl _ _ (hrz _) ?_)
  all_goals (go_ret;exact⟨_,_,rfl,HO.out,HB.out⟩)
theorem J9v (r x:List UInt8) (Ar Ax:Option Addr) (cr cx g:Nat) (w:World) (hr:RB w w.heap.size Ar r) (hx:RB w w.heap.size Ax x) (hg:g<w.heap.size) (hc0:w.cell? ⟨g,0,none⟩=some (.slice Ar r.length cr)) (hc1:w.cell? ⟨g,1,none⟩=some (.slice Ax x.length cx)) (hlr:r.length≤40000) (hlx:x.length≤65000):
  Calls Tryz.prog 94 #[.slice (some ⟨g,0,none⟩) 2 2] w fun e w'=>∃A c,e = .returned (.slice A (r.length+x.length) c)∧w'.ownsRow w.heap.size 5 1 (.slice A (r.length+x.length) c) (r.length+x.length) ((r++x).map bv)∧Below w.heap.size w w':=by
 obtain⟨lr,elr⟩:∃k,k=r.length:=⟨_,rfl⟩;obtain⟨lx,elx⟩:∃k,k=x.length:=⟨_,rfl⟩;obtain⟨ls,els⟩:∃k,k=lr+lx:=⟨_,rfl⟩;rw[←elr] at hc0 hlr ⊢;rw[←elx] at hc1 hlx ⊢;rw[←els];have hs1:IntKind.i64.wrap (0+(lr:Int))=(lr:Int):=by rw[IntKind.wrap_i64];omega
 have hs2:IntKind.i64.wrap ((lr:Int)+(lx:Int))=(ls:Int):=by rw[IntKind.wrap_i64];omega
 have hn1:¬((lr:Int)<0):=by omega
 have hn2:¬((ls:Int)<0):=by omega
 have hls:ls≤110000:=by omega
 have el1:=Lib.hid (elr.symm:r.length=lr);have el2:=Lib.hid (elx.symm:x.length=lx);have el3:=Lib.hid els;have HC:=Lib.hid (And.intro hc0 hc1);have HR:=Lib.hid (And.intro hr hx);clear elr elx els hr hx;go_enter Tryz.func94,Tryz.ntmps94
 go_wp2
 go_loopw [3,5,11] (fun s _ i wr=>wr=w∧((i = .int .i64 0∧s = .int .i64 0)∨(i = .int .i64 1∧s = .int .i64 (lr:Int))∨(i = .int .i64 2∧s = .int .i64 (ls:Int))))
  (fun _ _ i _=>2-(intOf i).toNat)
 case atStart=>exact⟨rfl, .inl ⟨rfl,rfl⟩⟩
 case round=>
  obtain⟨rfl,hrel⟩:=hrel;rcases hrel with⟨rfl,rfl⟩ |⟨rfl,rfl⟩ |⟨rfl,rfl⟩
  ·go_wp2
   go_roundw
   case rel=>exact⟨trivial, .inr (.inl ⟨by go_num,by go_num⟩)⟩
   case measure=>simp[intOf]
  ·go_wp2
   go_roundw
   case rel=>exact⟨trivial, .inr (.inr ⟨by go_num,by go_num⟩)⟩
   case measure=>simp[intOf]
  ·obtain⟨wq,rfl⟩:∃wq:World,wq=wr:=⟨_,rfl⟩
   clear hc0 hc1 hs1 hs2 hn1 hn2
   go_wp2_with fail
   refine(Q5n ls wq hls).mono ?_;rintro e w1 ⟨A1,c1,rfl,hO1,hB1⟩;have HO1:=Lib.hid hO1;have HB1:=Lib.hid hB1;clear hO1 hB1
   go_wp2
   go_loopw [6,8,27] (fun s _ i wr=>∃(A:Option Addr) (n c:Nat) (ys:List UInt8),s = .slice A n c∧wr.ownsRow wq.heap.size 5 1 (.slice A n c) n (ys.map bv)∧Below wq.heap.size wq wr∧((i = .int .i64 0∧n=0∧ys=[])∨(i = .int .i64 1∧n=lr∧ys=r)∨(i = .int .i64 2∧n=ls∧ys=r++x)))
    (fun _ _ i _=>2-(intOf i).toNat)
   case atStart=>exact⟨A1,0,c1,[],rfl,HO1.out,HB1.out, .inl ⟨rfl,rfl,rfl⟩⟩
   case round=>
    obtain⟨A,n,c,ys,rfl,hO,hB,hrel⟩:=hrel;have HO:=Lib.hid hO;have HB:=Lib.hid hB;have h0:wr.cell? ⟨g,0,none⟩=some (.slice Ar lr cr):=(T6 hB hg).trans HC.out.1;have h1:wr.cell? ⟨g,1,none⟩=some (.slice Ax lx cx):=(T6 hB hg).trans HC.out.2;have hbs:=hB.size;clear hO hB;rcases hrel with⟨rfl,rfl,rfl⟩ |⟨rfl,rfl,rfl⟩ |⟨rfl,rfl,rfl⟩
    ·go_wp2_with (at_builtin;refine X6 wq.heap.size HB.out rfl _ _ 31 rfl wq.heap.size 5 Tryz.underlying31 J4 _ _ [] (by exact rfl) HO.out Ar lr cr r el1.out (by exact rfl) (HR.out.1.next HB.out) (by omega) hbs (Nat.le_refl _) ?_;intro A' c' w' hown' hb')
     go_roundw
     case rel=>exact⟨A',lr,c',r,by simp only,by simpa using hown',hb', .inr (.inl ⟨by go_num,rfl,rfl⟩)⟩
     case measure=>simp[intOf]
    ·go_wp2_with (at_builtin;refine X6 wq.heap.size HB.out rfl _ _ 31 rfl wq.heap.size 5 Tryz.underlying31 J4 _ _ ys (by exact rfl) HO.out Ax lx cx x el2.out (by exact rfl) (HR.out.2.next HB.out) (by omega) hbs (Nat.le_refl _) ?_;intro A' c' w' hown' hb')
     go_roundw
     case rel=>exact⟨A',ls,c',ys++x,by rw[el3.out],by rw[el3.out];exact hown',hb', .inr (.inr ⟨by go_num,rfl,rfl⟩)⟩
     case measure=>simp[intOf]
    ·go_wp2
     go_ret
     exact⟨A,c,rfl,HO.out,HB.out⟩
end
section
open Go.RowKit
inductive Fed:List UInt8→List Mq→List UInt8→Int→Prop
 |done:Fed [] [] [] 0
 |part {x:List UInt8}{m:Mq}{n:Nat}(hx:x≠[]) (h:Z0a x m n 7):Fed x [] x 0
 |bad {x:List UInt8}{m:Mq}{n:Nat}{e:Int}(hx:x≠[]) (h:Z0a x m n e) (h0:e≠0) (h7:e≠7):Fed x [] [] e
 |one {x:List UInt8}{m:Mq}{n:Nat}{l:List Mq}{y:List UInt8}{e:Int}(hx:x≠[]) (h:Z0a x m n 0) (hr:Fed (x.drop n) l y e):Fed x (m::l) y e
theorem J9w {x:List UInt8}{l:List Mq}{y:List UInt8}{e:Int}(h:Fed x l y e):∀{l':List Mq}{y':List UInt8}{e':Int},Fed x l' y' e'→l=l'∧y=y'∧e=e':=by
 induction h with
 |done=>
  intro l' y' e' h';cases h' with
  |done=>exact⟨rfl,rfl,rfl⟩
  |part hx=>exact absurd rfl hx
  |bad hx=>exact absurd rfl hx
  |one hx=>exact absurd rfl hx
 |part hx h=>
  intro l' y' e' h';cases h' with
  |done=>exact absurd rfl hx
  |part=>exact⟨rfl,rfl,rfl⟩
  |bad _ h2 h0 h7=>exact absurd (Z1l h h2).2.2.symm h7
  |one _ h2=>exact absurd (Z1l h h2).2.2 (by decide)
 |bad hx h h0 h7=>
  intro l' y' e' h';cases h' with
  |done=>exact absurd rfl hx
  |part _ h2=>exact absurd (Z1l h h2).2.2 h7
  |bad _ h2=>exact⟨rfl,rfl,(Z1l h h2).2.2⟩
  |one _ h2=>exact absurd (Z1l h h2).2.2 h0
 |one hx h _ ih=>
  intro l' y' e' h';cases h' with
  |done=>exact absurd rfl hx
  |part _ h2=>exact absurd (Z1l h h2).2.2 (by decide)
  |bad _ h2 h0=>exact absurd (Z1l h h2).2.2.symm h0
  |one _ h2 hr2=>
   obtain⟨rfl,rfl,_⟩:=Z1l h h2;obtain⟨rfl,rfl,rfl⟩:=ih hr2;exact⟨rfl,rfl,rfl⟩
theorem Y0t {x:List UInt8}{m:Mq}{n:Nat}(h:Z0a x m n 0):2≤n∧n≤x.length:=by
 unfold Z0a at h
 split at h
 ·next er hs=>
  have h2:=Y9c hs;rw[←h.1] at h2;exact absurd h2 (by decide)
 ·next t i hs=>
  obtain⟨h1,h2,h3,_⟩:=Y1w hs;rcases h with⟨_,_,rfl,_⟩ |⟨_,_,_,h⟩
  ·exact⟨by omega,h3⟩
  ·exact absurd h (by decide)
def J9x (w:World) (b:Nat) (m:Mq) (cs:List Value) (hi:Nat):Prop:=∃vc vw vf,cs=Z1 m vc vw vf∧N1 w b m vc vw vf∧(∀k,(vc.ownBlock=some k∨vw.ownBlock=some k∨vf.ownBlock=some k)→k<hi)∧Z3s m 1000001∧Z3l m
inductive S2 (w:World) (b:Nat):List Mq→List Value→Nat→Prop
 |nil {hi:Nat}(h:b≤hi):S2 w b [] [] hi
 |snoc {l:List Mq}{xs:List Value}{m:Mq}{cs:List Value}{hi lo hi':Nat}(h:S2 w b l xs hi) (hlo:hi≤lo) (hle:lo≤hi') (hm:J9x w lo m cs hi'):S2 w b (l++[m]) (xs++cs) hi'
theorem J9x.of {w w':World}{b hi:Nat}{m:Mq}{cs:List Value}(h:J9x w b m cs hi) (hk:∀vc vw vf,N1 w b m vc vw vf→N1 w' b m vc vw vf):J9x w' b m cs hi:=by
 obtain⟨vc,vw,vf,h1,h2,h3⟩:=h;exact⟨vc,vw,vf,h1,hk _ _ _ h2,h3⟩
theorem S2.le {w:World}{b hi:Nat}{l:List Mq}{cs:List Value}(h:S2 w b l cs hi):b≤hi:=by
 induction h with
 |nil h=>exact h
 |snoc _ h1 h2 _ ih=>omega
theorem S2.of {w w':World}{b hi:Nat}{l:List Mq}{cs:List Value}(h:S2 w b l cs hi) (hk:∀b' m vc vw vf,b≤b'→N1 w b' m vc vw vf→N1 w' b' m vc vw vf):S2 w' b l cs hi:=by
 induction h with
 |nil h=>exact .nil h
 |snoc hp h1 h2 hm ih=>exact .snoc ih h1 h2 (hm.of fun _ _ _ h=>hk _ _ _ _ _ (Nat.le_trans hp.le h1) h)
theorem S2.next {w w':World}{b hi:Nat}{l:List Mq}{cs:List Value}(h:S2 w b l cs hi) (hb:Below w.heap.size w w'):S2 w' b l cs hi:=h.of fun _ _ _ _ _ _ h=>h.belowR hb
theorem S2.base {w:World}{b b' hi:Nat}{l:List Mq}{cs:List Value}(h:S2 w b l cs hi) (hb:b'≤b):S2 w b' l cs hi:=by
 induction h with
 |nil h=>exact .nil (Nat.le_trans hb h)
 |snoc _ h1 h2 hm ih=>exact .snoc ih h1 h2 hm
theorem S2.box {w w':World}{b g hi:Nat}{l:List Mq}{cs:List Value}(h:S2 w b l cs hi) (hg:w.grownBy w' (some g)) (hlt:g<b):S2 w' b l cs hi:=h.of fun _ _ _ _ _ hb h=>h.keptR hg (h.far (.inl (Nat.lt_of_lt_of_le hlt hb)))
theorem N1.row {w w':World}{b b' e s n:Nat}{m:Mq}{vc vw vf v:Value}{xs:List Value}(h:N1 w b m vc vw vf) (hO:w.ownsRow b' e s v n xs) (hg:w.grownBy w' v.ownBlock) (he:(Nat.beq 3 e||Nat.beq 161 e||Nat.beq 9 e)=false):N1 w' b m vc vw vf:=by
 simp only[Bool.or_eq_false_iff] at he;exact⟨h.1.kept hg (G8 h.1 hO he.1.1),h.2.1.kept hg (G8 h.2.1 hO he.1.2),h.2.2.kept hg (G8 h.2.2 hO he.2)⟩
theorem S2.row {w w':World}{b b' e s n hi:Nat}{l:List Mq}{cs:List Value}{v:Value}{xs:List Value}(h:S2 w b l cs hi) (hO:w.ownsRow b' e s v n xs) (hg:w.grownBy w' v.ownBlock) (he:(Nat.beq 3 e||Nat.beq 161 e||Nat.beq 9 e)=false):S2 w' b l cs hi:=h.of fun _ _ _ _ _ _ h=>h.row hO hg he
theorem S2.len {w:World}{b hi:Nat}{l:List Mq}{cs:List Value}(h:S2 w b l cs hi):cs.length=l.length*24:=by
 induction h with
 |nil=>rfl
 |snoc _ _ _ hm ih=>
  obtain⟨vc,vw,vf,rfl,_⟩:=hm;rw[List.length_append,List.length_append,ih];show _+24=_;simp;omega
theorem N1.lt {w:World}{b:Nat}{m:Mq}{vc vw vf:Value}(h:N1 w b m vc vw vf) (k:Nat) (hk:vc.ownBlock=some k∨vw.ownBlock=some k∨vf.ownBlock=some k):k<w.heap.size:=by
 rcases hk with hk |hk |hk
 ·exact(h.1.lt k hk).2
 ·exact(h.2.1.lt k hk).2
 ·exact(h.2.2.lt k hk).2
def PR (w:World) (b:Nat) (l:List Mq) (cs:List Value):Prop:=∃hi,hi≤w.heap.size∧S2 w b l cs hi
theorem PR.base {w:World}{b b':Nat}{l:List Mq}{cs:List Value}(h:PR w b l cs) (hb:b'≤b):PR w b' l cs:=by
 obtain⟨hi,h1,h2⟩:=h;exact⟨hi,h1,h2.base hb⟩
theorem PR.next {w w':World}{b:Nat}{l:List Mq}{cs:List Value}(h:PR w b l cs) (hb:Below w.heap.size w w'):PR w' b l cs:=by
 obtain⟨hi,h1,h2⟩:=h;exact⟨hi,Nat.le_trans h1 hb.size,h2.next hb⟩
theorem X4j:∃B,B≤1000∧(Tryz.prog.info? 49).map (fun i=>(i.zero,i.size,i.bytes))=some (some (.agg (Z1 (N6 0) Z2 Z2 Z2).toArray),24,B):=
 ⟨((Tryz.prog.info? 49).map (·.bytes)).getD 0,Nat.le_of_ble_eq_true (by kernel_rfl),by kernel_rfl⟩
end
section
open Go.RowKit
theorem X1g (u v:Int) (b:Bool) (h:(u==v)=b) (x y:Operand) (w:World):(do eqGuard .eql 27 x y (iz u) (iz v);binOp .eql 27 (iz u) (iz v):Sem Value).run Tryz.prog w = .ok (.bool b) w:=by
 subst h;simp[go_sem]
theorem J9y (r x:List UInt8) (Ar Ax:Option Addr) (cr cx g:Nat) (w:World) (hr:RB w w.heap.size Ar r) (hx:RB w w.heap.size Ax x) (hg:g<w.heap.size) (hC:X5 w g [.slice Ar r.length cr, .slice Ax x.length cx]) (hlr:r.length≤40000) (hlx:x.length≤65000):
  Calls Tryz.prog 94 #[.slice (some ⟨g,0,none⟩) 2 2] w fun e w'=>∃v,e = .returned v∧∃A c,v = .slice A (r++x).length c∧w'.ownsRow w.heap.size 5 1 (.slice A (r++x).length c) (r++x).length ((r++x).map bv)∧Below w.heap.size w w':=
 (J9v r x Ar Ax cr cx g w hr hx hg (hC 0 _ rfl).1 (hC 1 _ rfl).1 hlr hlx).mono fun _ _ ⟨A,c,h1,h2,h3⟩=>⟨_,h1,A,c,by rw[List.length_append],by rw[List.length_append];exact h2,h3⟩
theorem Q3j (y:List UInt8) (A:Option Addr) (c:Nat) (w:World) (hx:RB w w.heap.size A y) (hn:y.length≤140737488351232):
  Calls Tryz.prog 80 #[.slice A y.length c] w fun e w'=>∃v,e = .returned v∧∃A' c',v = .slice A' y.length c'∧w'.ownsRow w.heap.size 5 1 (.slice A' y.length c') y.length (y.map bv)∧Below w.heap.size w w':=
 (J2s y y.length rfl A c w hx hn).mono fun _ _ ⟨A',c',h1,h2,h3⟩=>⟨_,h1,A',c',rfl,h2,h3⟩
def J9z (z:List UInt8) (w:World) (e:Ending) (w':World):Prop:=
 ∃l left er vP AL cL cs,Fed z l left er∧e = .returned (.tuple #[vP, .slice AL left.length cL,iz er])∧w'.ownsRow w.heap.size 49 24 vP l.length cs∧PR w' w.heap.size l cs∧w'.ownsRow w.heap.size 5 1 (.slice AL left.length cL) left.length (left.map bv)∧Below w.heap.size w w'
structure Q3k (z:List UInt8) (W:World) (a:Act) (w:World) (y:List UInt8) (l:List Mq) (A:Option Addr) (c n:Nat) (vP:Value) (cs L:List Value) (vb:Value):Prop where
 at_:Z9 a 40 [(4,vP),(5,Z2),(7,pz W.heap.size),(9, .slice A n c)]
 hn:y.length=n
 hc:n≤c
 le:l.length*2+y.length≤z.length
 fed:∀{l2:List Mq}{left:List UInt8}{e:Int},Fed y l2 left e→Fed z (l++l2) left e
 own:X0 W W.heap.size [(W.heap.size,L)] w
 h24:L.length=24
 row:w.ownsRow (W.heap.size+1) 49 24 vP l.length cs
 pks:PR w (W.heap.size+1) l cs
 byt:w.ownsRow (W.heap.size+1) 5 1 vb z.length (z.map bv)
 rd:∀w',w'.ownsRow (W.heap.size+1) 5 1 vb z.length (z.map bv)→RB w' w'.heap.size A y
def X1h (a:Act):Nat:=match a.tmps.getD 9 undef with
 | .slice _ n _=>n
 |_=>0
theorem Q5o (r x:List UInt8) (Ar Ax:Option Addr) (cr cx:Nat) (w:World) (hr:RB w w.heap.size Ar r) (hx:RB w w.heap.size Ax x) (hlr:r.length≤40000) (hlx:x.length≤65000) (hT:Wd w):
  Calls Tryz.prog 56 #[.slice Ar r.length cr, .slice Ax x.length cx] w (J9z (r++x) w):=by
 go_enter Tryz.func56,Tryz.ntmps56
 refine Z9.start 40 [(0, .slice Ar r.length cr),(1, .slice Ax x.length cx)] rfl rfl ⟨rfl,rfl,trivial⟩ ?_;intro a0 H0;have O0:=X0.start w;refine H0.rg 3 fun a1 H1=>nt ?_;refine Z3e (k:=0) rfl (fun a w'=>∃y l A c n vP cs L vb,Q3k (r++x) w a w' y l A c n vP cs L vb) (fun a _=>X1h a) ?_ ?_
 ·intro hpass
  refine rl ?_;refine H1.al O0 0 Z0v fun a2 w2 O2 H2=>nt ?_;refine H2.rg 1 fun a3 H3=>nt ?_;refine H3.rg 2 fun a4 H4=>?_;refine H4.any (w':=w2.alloc (.cells #[.slice Ar r.length cr, .slice Ax x.length cx] 31)) gz rfl rfl (.slice (some ⟨w2.heap.size,0,none⟩) 2 2) (by intro cs b h;cases h) (by kernel_rfl) (by kernel_rfl) fun a5 H5=>?_;have C5:=X5.of_heap (heap_alloc_new w2 (.cells #[.slice Ar r.length cr, .slice Ax x.length cx] 31));have hb5:Below w2.heap.size w2 (w2.alloc (.cells #[.slice Ar r.length cr, .slice Ax x.length cx] 31)):=G0 _ _;have hl5:=T7 w2 (.cells #[.slice Ar r.length cr, .slice Ax x.length cx] 31);have hw2:w.heap.size+1≤w2.heap.size:=O2.lt 0 rfl;generalize w2.alloc (.cells #[.slice Ar r.length cr, .slice Ax x.length cx] 31)=w5 at *;have O5:=O2.call hb5;refine H5.cl (J9y r x Ar Ax cr cx w2.heap.size w5 (hr.next O5.bel) (hx.next O5.bel) hl5 C5 hlr hlx) ?_;rintro a6 _ w6 ⟨A,c,rfl,hrow,hb6⟩ H6;have O6:=O5.call hb6;refine H6.ms 1 fun a7 H7=>nt ?_;refine wp_seq (Y5h (Z0 ?_));refine hpass _ _ ⟨r++x,[],A,c,(r++x).length,Z2,[],_, .slice A (r++x).length c,⟨H7.keep ⟨rfl,rfl,rfl,rfl,trivial⟩,rfl,Z4s hrow,by simp,fun h=>h,O6,rfl,World.ownsRow_nil _ _ _ _,⟨w.heap.size+1,O6.lt 0 rfl, .nil (Nat.le_refl _)⟩,V2 hrow (by have:=hb5.size;omega), ?_⟩⟩;intro w' h;exact S4 rfl (V2 h (Nat.zero_le _)) (Nat.zero_le _)
 ·clear H0 O0 H1
  rintro a1 w1 ⟨y,l,A,c,n,vP,cs,L,vb,hI⟩;obtain⟨H1,hn,hc,hle,hF,O1,h24,hrow,hpk,hby,hrd⟩:=hI;subst hn;have hzl:(r++x).length≤105000:=by rw[List.length_append];omega
  have hyl:y.length≤105000:=by omega
  have hrd1:=hrd w1 hby;have hmu:X1h a1=y.length:=by unfold X1h;rw[show a1.tmps.getD 9 undef = .slice A y.length c from H1.at_ 9 _ rfl]
  rw[hmu];refine H1.rg 1 fun a2 H2=>?_;refine H2.len gz rfl rfl rfl rfl Tryz.underlying31 fun a3 H3=>?_;by_cases hy:y=[]
  ·refine H3.bb 0 rfl rfl rfl rfl rfl rfl (Z7 _ _ true (by subst hy;rfl) _ _ _) rfl fun a4 H4=>nt (H4.condT rfl ?_)
   refine H4.rg 4 fun a5 H5=>nt (wp_ret ?_);repeat (first |(with_reducible refine Z2d ?_) |(with_reducible refine Z5 ?_))
   refine bodyPost_ret (U5 rfl _ _ _ _ (H5.at_ 4 _ rfl) (H5.at_ 5 _ rfl) (H5.at_ 6 _ rfl)) H5.df ?_;subst hy;exact⟨l,[],0,vP,none,0,cs,by simpa using hF .done,rfl,V2 hrow (Nat.le_succ _),hpk.base (Nat.le_succ _),World.ownsRow_nil _ _ _ _,O1.bel⟩
  have hpos:0<y.length:=List.length_pos_iff.2 hy;refine H3.bb 0 rfl rfl rfl rfl rfl rfl (Z7 _ _ false (by rw[beq_eq_false_iff_ne];omega) _ _ _) rfl fun a4 H4=>nt (H4.condF rfl ?_);refine Z3 (Z0 ?_);refine H4.rg 1 fun a5 H5=>?_;refine H5.cl (Q3i y A c hc w1 hrd1 (by omega) (hT.below O1.bel)) ?_;rintro a6 _ w2 ⟨m,nn,er,vc,vw,vf,rfl,hP,⟨hR,hln⟩,hsm,hb⟩ H6;have O2:=O1.call hb;have hM2:=MqL.of_rows hR hln (by decide);refine H6.ms 1 fun a7 H7=>?_;refine H7.ex (r:=.agg (Z1 m vc vw vf).toArray) 0 fun a8 H8=>?_;refine H8.ex (r:=iz nn) 0 fun a9 H9=>?_;refine H9.ex (r:=iz er) 0 fun a10 H10=>?_;refine H10.storeS rfl rfl rfl rfl rfl (O2.get 0 rfl) size_mq h24 rfl hM2.ones fun a11 w3 H11 hgr hs3 hC3=>?_;have O3:=O2.store 0 rfl hgr hs3 hC3;have hrow3:=(Y1 hrow hb).kept hgr (.inr (Q1 (Y1 hrow hb) (.inl (Nat.lt_succ_self _))).symm);have hby3:=(Y1 hby hb).kept hgr (.inr (Q1 (Y1 hby hb) (.inl (Nat.lt_succ_self _))).symm);obtain⟨hi,hhi,hpk⟩:=hpk;have hlt2:=hR.lt;have hpk3:=(hpk.next hb).box hgr (Nat.lt_succ_self _);have hi3:hi≤w3.heap.size:=Nat.le_trans hhi (Nat.le_trans hb.size hgr.size);have hR3:=hR.keptR hgr (hR.far (.inl (O1.lt 0 rfl)));refine H11.ms 2 fun a12 H12=>nt ?_;replace H12:=H12.kp [4,5,6,7,8,9];clear H1 H2 H3 H4 H5 H6 H7 H8 H9 H10 H11 O1 O2 hrow hby hpk hR hrd1;refine H12.rg 1 fun a13 H13=>?_;by_cases h0:er=0
  ·subst h0
   refine H13.bb 0 rfl rfl rfl rfl rfl rfl (X1g 0 0 true rfl _ _ _) rfl fun a14 H14=>nt (H14.condT rfl ?_);obtain⟨hn2,hny⟩:=Y0t hP;refine H14.rg 1 fun a15 H15=>?_;refine H15.lm O3 0 0 fun a16 H16=>?_;refine H16.any (w':=w3.alloc (.cells (Z1 m vc vw vf).toArray 49)) gz rfl rfl (.slice (some ⟨w3.heap.size,0,none⟩) 1 1) (by intro cs b h;cases h) (by kernel_rfl) (by kernel_rfl) fun a17 H17=>?_;have hl4:=X4.lit w3 49 (Z1 m vc vw vf) (0,0) 24 1 rfl;have hb4:Below w3.heap.size w3 (w3.alloc (.cells (Z1 m vc vw vf).toArray 49)):=G0 _ _;generalize w3.alloc (.cells (Z1 m vc vw vf).toArray 49)=w4 at *;obtain⟨BB,hBB,hinf⟩:=X4j;have hrow4:=Y1 hrow3 hb4;have O4:=O3.call hb4;refine H17.app hrow4 hinf hl4 (fun u hu=>List.all_eq_true.1 hM2.ones u hu) (by unfold maxLen;omega) (Nat.le_trans (Nat.mul_le_mul (show l.length+1≤105000 by omega) hBB) (by decide)) (Nat.le_trans (O3.lt 0 rfl) hb4.size) fun a18 A' c' w5 hO5 hgr5 H18=>?_;have O5:=O4.row hrow4 (Nat.le_succ _) hgr5 (fun p hp=>by
    rw[List.mem_singleton.1 hp];exact Q1 hrow4 (.inl (Nat.lt_succ_self _)))
   have hby4:=Y1 hby3 hb4;have hby5:=hby4.kept hgr5 (G8 hby4 hrow4 rfl);have hpk5:=S2.snoc ((hpk3.next hb4).row hrow4 hgr5 rfl) hhi hb.size ⟨vc,vw,vf,rfl,(hR3.belowR hb4).row hrow4 hgr5 rfl,hlt2,hln,hsm⟩;refine H18.ms 1 fun a19 H19=>nt ?_;refine H19.rg 2 fun a20 H20=>?_;refine H20.go gz rfl rfl _ (Z8v rfl (H20.ev rfl) (H20.ev rfl) (Z7d A y.length c nn hny hc _)) fun a21 H21=>?_;refine H21.ms 1 fun a22 H22=>nt ?_;refine wp_goto ?_;repeat (with_reducible refine G9 ?_)
   refine N4 ⟨⟨y.drop nn,l++[m],_,c-nn,y.length-nn,_,cs++Z1 m vc vw vf,_,vb,⟨H22.keep ⟨rfl,rfl,rfl,rfl,trivial⟩,List.length_drop,by omega,by rw[List.length_append,List.length_drop];simp only[List.length_singleton];omega,fun h=>by rw[List.append_assoc];exact hF (.one hy hP h),O5,rfl,by rw[List.length_append];exact hO5,⟨_,Nat.le_trans (Nat.le_of_eq hs3.symm) (Nat.le_trans hb4.size hgr5.size),hpk5⟩,hby5,fun w' h=>(hrd w' h).cut (k:=nn) (cap:=c) hny hc⟩⟩, ?_⟩;unfold X1h;rw[show a22.tmps.getD 9 undef=_ from H22.at_ 9 _ rfl];show y.length-nn<y.length;omega
  refine H13.bb 0 rfl rfl rfl rfl rfl rfl (X1g er 0 false (by rw[beq_eq_false_iff_ne];exact h0) _ _ _) rfl fun a14 H14=>nt (H14.condF rfl ?_);refine Z3 (Z0 ?_);refine H14.rg 1 fun a15 H15=>?_;by_cases h7:er=7
  ·subst h7
   refine H15.bb 0 rfl rfl rfl rfl rfl rfl (X1g 7 7 true rfl _ _ _) rfl fun a16 H16=>nt (H16.condT rfl ?_);refine H16.rg 2 fun a17 H17=>?_;refine H17.cl (Q3j y A c w3 (hrd w3 hby3) (by omega)) ?_;rintro a18 _ w4 ⟨A',c',rfl,hO4,hb4⟩ H18;refine H18.ms 3 fun a19 H19=>nt (wp_ret ?_);repeat (first |(with_reducible refine Z2d ?_) |(with_reducible refine Z5 ?_))
   refine bodyPost_ret (U5 rfl _ _ _ _ (H19.at_ 4 _ rfl) (H19.at_ 5 _ rfl) (H19.at_ 6 _ rfl)) H19.df ?_;exact⟨l,y,0,vP,A',c',cs,by simpa using hF (.part hy hP),rfl,V2 (Y1 hrow3 hb4) (Nat.le_succ _),PR.base ⟨hi,Nat.le_trans hi3 hb4.size,hpk3.next hb4⟩ (Nat.le_succ _),V2 hO4 O3.le,(O3.call hb4).bel⟩
  ·refine H15.bb 0 rfl rfl rfl rfl rfl rfl (X1g er 7 false (by rw[beq_eq_false_iff_ne];exact h7) _ _ _) rfl fun a16 H16=>nt (H16.condF rfl ?_)
   refine Z3 (Z0 ?_);refine H16.rg 5 fun a17 H17=>nt (wp_ret ?_);repeat (first |(with_reducible refine Z2d ?_) |(with_reducible refine Z5 ?_))
   refine bodyPost_ret (U5 rfl _ _ _ _ (H17.at_ 4 _ rfl) (H17.at_ 5 _ rfl) (H17.at_ 6 _ rfl)) H17.df ?_;exact⟨l,[],er,vP,none,0,cs,by simpa using hF (.bad hy hP h0 h7),rfl,V2 hrow3 (Nat.le_succ _),PR.base ⟨hi,hi3,hpk3⟩ (Nat.le_succ _),World.ownsRow_nil _ _ _ _,O3.bel⟩
end
section
open Go.RowKit
theorem Q5p (x:List UInt8) (Ax:Option Addr) (cx:Nat) (w:World) (hx:RB w w.heap.size Ax x) (hlx:x.length≤65000) (hT:Wd w):
  Calls Tryz.prog 56 #[Z2, .slice Ax x.length cx] w fun e w'=>∃v,e = .returned v∧∃l left er A c AL cL cs,v = .tuple #[.slice A l.length c, .slice AL left.length cL,iz er]∧Fed x l left er∧w'.ownsRow w.heap.size 49 24 (.slice A l.length c) l.length cs∧PR w' w.heap.size l cs∧Below w.heap.size w w':=by
 refine(Q5o [] x none Ax 0 cx w RB.nil hx (by decide) hlx hT).mono ?_;rintro e w' ⟨l,left,er,vP,AL,cL,cs,h1,h2,h3,h4,_,h6⟩;obtain⟨A,c,rfl,_,_⟩:=V3 h3;exact⟨_,h2,l,left,er,A,c,AL,cL,cs,rfl,h1,h3,h4,h6⟩
theorem X1i (l:List (List UInt8)) (AL:Option Addr) (cL:Nat) (ti port:Int) (hti:inR ti 4294967295=true) (hpo:inR port 65535=true) (w:World) (hL:Z2j w (fun _=>True) AL l) (hl:l.length≤100000) (hlb:∀b∈l,b.length≤140737488351232) (hT:Wd w) (hx:∀x,S1 ti port l .zero x→x.b.length≤65000) (n:Nat) (hn:l.length=n):
  Calls Tryz.prog 21 #[.slice AL n cL,iz ti,iz port] w fun e w'=>∃v,e = .returned v∧∃x k left er A c cs,v = .tuple #[.slice A k.length c,iz er]∧S1 ti port l .zero x∧Fed x.b k left er∧w'.ownsRow w.heap.size 49 24 (.slice A k.length c) k.length cs∧PR w' w.heap.size k cs∧Below w.heap.size w w':=by
 subst hn;go_enter Tryz.func21,Tryz.ntmps21;refine Z9.start 32 [(0, .slice AL l.length cL),(1,iz ti),(2,iz port)] rfl rfl ⟨rfl,rfl,rfl,trivial⟩ ?_;intro a0 H0;refine H0.rg 2 fun a H=>nt ?_;refine H.rg 3 fun a H=>?_;refine H.cl (Z9i l AL cL ti port hti hpo w hL hl hlb) ?_;rintro a _ w1 ⟨x,A,c,rfl,hh,hok,hO,hb1⟩ H;generalize (x.rst||decide (x.nq∈x.fins))=z at H;refine H.ms 1 fun a H=>?_;refine H.ex (r:=.slice A x.b.length c) 0 fun a H=>?_;refine H.ex (r:=.bool z) 0 fun a H=>?_;refine H.ex (r:=iz 0) 3 fun a H=>nt ?_;replace H:=H.kp [8,10];refine H.rg 1 fun a H=>?_;refine H.bb 0 rfl rfl rfl rfl rfl rfl (X8i 0 0 false rfl _ _ _) rfl fun a H=>nt (H.condF rfl (Z3 (Z0 ?_)));replace H:=H.kp [8];refine H.rg 1 fun a H=>?_;refine H.cl (Q5p x.b A c w1 (S4 rfl hO hb1.size) (hx x hh) (hT.below hb1)) ?_;rintro a _ w2 ⟨k,left,er,A2,c2,AL2,cL2,cs,rfl,hF,hO2,hP2,hb2⟩ H;refine H.ms 1 fun a H=>?_;refine H.ex (r:=.slice A2 k.length c2) 0 fun a H=>?_;refine H.ex (r:=.slice AL2 left.length cL2) 0 fun a H=>?_;refine H.ex (r:=iz er) 3 fun a H=>nt ?_;replace H:=H.kp [11,10];refine H.rg 4 fun a H=>nt (wp_ret ?_);repeat with_reducible first |apply Z4 |apply Z5
 exact bodyPost_ret (V9 rfl _ _ _ (H.at_ 6 _ rfl) (H.at_ 7 _ rfl)) H.df ⟨_,rfl,x,k,left,er,A2,c2,cs,rfl,hh,hF,V2 hO2 hb1.size,hP2.base hb1.size,hb1.trans (hb2.mono hb1.size)⟩
end
section
open Go.RowKit
theorem X4k (u:Int) (w:World):Calls Tryz.prog 25 #[iz u] w fun e w'=>e = .returned (iz u)∧w=w':=by
 go_enter Tryz.func25,Tryz.ntmps25
 refine Z9.start 4 [(0,iz u)] rfl rfl ⟨rfl,trivial⟩ ?_;intro a0 H0;refine H0.rg 1 fun a H=>nt ?_;refine H.rg 2 fun a H=>nt (wp_ret ?_);repeat with_reducible first |apply Z4 |apply Z5
 exact bodyPost_ret (results_tmp rfl _ _ _) H.df ⟨congrArg Ending.returned (H.at_ 2 _ rfl),rfl⟩
theorem X4l (d port sq fl:Nat) (xs:List UInt8) (A:Option Addr) (c:Nat) (hq:Sg.ok (X3e port sq fl xs)=true) (hd:d<4294967296) (w:World) (hx:RB w w.heap.size A xs):
  Calls Tryz.prog 37 #[iz d,iz port, .agg ([iz 0,iz 0,iz sq,iz 0,iz fl,iz 0, .slice A xs.length c]:List Value).toArray] w fun e w'=>∃v,e = .returned v∧∃A' n' c',v = .slice A' n' c'∧Z5w w.heap.size (X3d d port sq fl xs) (.slice A' n' c') w'∧Below w.heap.size w w':=
 (X8x d port sq 0 fl 0 0 0 xs A c hq hd w hx).mono fun _ _ ⟨v,h1,h2,h3⟩=>by
  obtain⟨A',n',c',rfl,h4⟩:=(Z5w.of h2).shape;exact⟨_,h1,A',n',c',rfl,h4,h3⟩
theorem X9i (w:World):Calls Tryz.prog 26 #[] w fun e w'=>e = .returned (.bool true)∧Below w.heap.size w w':=by
 go_enter Tryz.func26,Tryz.ntmps26
 refine Z9.start 27 [] rfl rfl trivial ?_;intro a0 H0;refine H0.rg 1 fun a H=>nt ?_;refine H.rg 0 fun a H=>?_;refine H.any (w':=w) gz rfl rfl (.agg ([iz 0,iz 0,iz ((9:Nat):Int),iz ((0:Nat):Int),iz ((18:Nat):Int),iz ((0:Nat):Int), .slice none ([]:List UInt8).length 0]:List Value).toArray) (by intro cs b h;cases h) (by kernel_rfl) (by kernel_rfl) fun a H=>?_;refine H.cl (X4l 5 6 (9) 18 [] none 0 (X0i (port:=6) (sq:=9) (fl:=18) (xs:=[]) (by decide) (by decide) (by decide) (by decide)) (by decide) w (X4.none_)) ?_;rintro a _ x1 ⟨Ax1,nx1,cx1,rfl,hfx1,hbx1⟩ H;have hbbx1:Below w.heap.size w x1:=(Below.refl w.heap.size w).trans (hbx1.mono (Below.refl w.heap.size w).size);replace hfx1:=hfx1.base (b':=0) (Nat.zero_le _);refine H.bytes gz rfl rfl [192] [.int .u8 192] rfl rfl 5 (by intro cs b h;cases h) (by kernel_rfl) (by kernel_rfl) ?_;rintro a _ x2 H ⟨Ax2,cx2,rfl,hrx2⟩ hbx2;replace hfx1:=hfx1.next hbx2;have hbbx2:Below w.heap.size w x2:=hbbx1.trans (hbx2.mono hbbx1.size);refine H.any (w':=x2) gz rfl rfl (.agg ([iz 0,iz 0,iz ((10:Nat):Int),iz ((0:Nat):Int),iz ((16:Nat):Int),iz ((0:Nat):Int), .slice Ax2 ([192]:List UInt8).length cx2]:List Value).toArray) (by intro cs b h;cases h) (by kernel_rfl) (by kernel_rfl) fun a H=>?_;refine H.cl (X4l 5 6 (10) 16 [192] Ax2 cx2 (X0i (port:=6) (sq:=10) (fl:=16) (xs:=[192]) (by decide) (by decide) (by decide) (by decide)) (by decide) x2 hrx2) ?_;rintro a _ x3 ⟨Ax3,nx3,cx3,rfl,hfx3,hbx3⟩ H;replace hfx1:=hfx1.next hbx3;have hbbx3:Below w.heap.size w x3:=hbbx2.trans (hbx3.mono hbbx2.size);replace hfx3:=hfx3.base (b':=0) (Nat.zero_le _);have hrwx4:L4 x3.heap.size [(.slice Ax1 nx1 cx1,X3d 5 6 (9) 18 []),(.slice Ax3 nx3 cx3,X3d 5 6 (10) 16 [192])] (.slice (some ⟨x3.heap.size,0,none⟩) 2 2) (x3.alloc (.cells ([.slice Ax1 nx1 cx1, .slice Ax3 nx3 cx3]:List Value).toArray 31)):=L4.lit (b:=0) (Y1r hfx1 (Y1r hfx3 X0n)) (by show 2≤9223372036854775807;decide);refine H.any (w':=x3.alloc (.cells ([.slice Ax1 nx1 cx1, .slice Ax3 nx3 cx3]:List Value).toArray 31)) gz rfl rfl (.slice (some ⟨x3.heap.size,0,none⟩) 2 2) (by intro cs b h;cases h) (by kernel_rfl) (by kernel_rfl) fun a H=>?_;have hbx4:Below x3.heap.size x3 (x3.alloc (.cells ([.slice Ax1 nx1 cx1, .slice Ax3 nx3 cx3]:List Value).toArray 31)):=G0 _ _;have hrdx4:=X4.lit x3 31 [.slice Ax1 nx1 cx1, .slice Ax3 nx3 cx3] (0,0) 1 2 rfl;generalize x3.alloc (.cells ([.slice Ax1 nx1 cx1, .slice Ax3 nx3 cx3]:List Value).toArray 31)=x4 at *;replace hfx1:=hfx1.next hbx4;replace hfx3:=hfx3.next hbx4;have hbbx4:Below w.heap.size w x4:=hbbx3.trans (hbx4.mono hbbx3.size);refine H.cl (Z9i X8t _ 2 5 6 (by decide) (by decide) x4 hrwx4.at_ (by decide) J1b) ?_;rintro a _ w9 ⟨x,A9,c9,rfl,hh,_,hO9,hb9⟩ H;obtain⟨hxb,hov⟩:=Q4w hh;rw[hxb] at hO9 H;rw[hov] at H;have hbw:=hbbx4.trans (hb9.mono hbbx4.size);refine H.ms 1 fun a H=>?_;refine H.ex (r:=.slice A9 1 c9) 0 fun a H=>?_;refine H.ex (r:=.bool false) 0 fun a H=>?_;refine H.ex (r:=iz 0) 3 fun a H=>nt ?_;have hr9:RB w9 w9.heap.size A9 [192]:=S4 rfl hO9 hb9.size;replace H:=H.kp [1,2,3];refine H.rg 1 fun a H=>?_;refine H.cq 0 (X4k 0 w9) fun a H=>?_;refine H.bn 1 (Z7 0 0 true rfl _ _ _) fun a H=>?_;refine H.go (H.wt rfl rfl rfl) rfl rfl _ (N2 (.inl rfl) (H.ev rfl)) fun a H=>?_;refine H.un (H.wt rfl rfl rfl) rfl rfl rfl rfl (G5 false _) fun a H=>?_;refine H.pick gz rfl rfl rfl rfl rfl fun a H=>?_;refine H.ms 1 fun a H=>?_;refine H.go (H.wt rfl rfl rfl) rfl rfl _ (N2 (.inl rfl) (H.ev rfl)) fun a H=>?_;refine H.bytes (H.wt rfl rfl rfl) rfl rfl [192] [.int .u8 192] rfl rfl 5 (by intro cs b h;cases h) (by kernel_rfl) (by kernel_rfl) ?_;rintro a _ w10 H ⟨A10,c10,rfl,hr10⟩ hb10;refine H.call (H.wt rfl rfl rfl) rfl rfl rfl rfl (fun _ _=>by kernel_rfl) (Z1f (Y4t [192] 1 rfl A9 A10 c9 c10 w10 (hr9.next hb10) hr10 (by decide))) ?_;rintro a _ w11 ⟨rfl,hb11⟩ H
 refine H.pick gz rfl rfl rfl rfl rfl fun a H=>?_;refine H.ms 1 fun a H=>nt (wp_ret ?_);repeat with_reducible first |apply Z4 |apply Z5
 exact bodyPost_ret (results_tmp rfl _ _ _) H.df ⟨congrArg Ending.returned (H.at_ 0 _ rfl),hbw.trans ((hb10.trans (hb11.mono hb10.size)).mono hbw.size)⟩
end
section
open Go.RowKit
theorem Y9d (a:Nat) (ha:a<256):(BitVec.ofInt 8 (a:Int)).toNat=a:=by
 rw[BitVec.ofInt_natCast,BitVec.toNat_ofNat];exact Nat.mod_eq_of_lt (by omega)
theorem u8_and_nat (a b:Nat) (ha:a<256) (hb:b<256):bits .and .u8 (a:Int) (b:Int)=((a&&&b:Nat):Int):=by
 have hx:a&&&b<2^8:=Nat.and_lt_two_pow _ (by omega);show IntKind.u8.wrap ((BitVec.ofInt 8 (a:Int)&&&BitVec.ofInt 8 (b:Int)).toNat:Int)=_;rw[BitVec.toNat_and,Y9d a ha,Y9d b hb];have h0:a&&&b<256:=hx;show ((a&&&b:Nat):Int)%256=_;omega
theorem J6j (f:UInt8) (n:Nat) (hn:n<256):U4 f (UInt8.ofNat n)=(bits .and .u8 (f.toNat:Int) (n:Int) != 0):=by
 rw[X2v f n hn,Y3p f n hn,u8_and_nat f.toNat n f.toNat_lt hn]
theorem Q5q (f:UInt8) (d:Nat) (_hd:0<d):bits BinOp.and IntKind.u8 ((f.toNat:Int)/(d:Int)) 3=((f.toNat/d&&&3:Nat):Int):=by
 have h:=f.toNat_lt;have h2:f.toNat/d≤f.toNat:=Nat.div_le_self _ _;have e:(f.toNat:Int)/(d:Int)=((f.toNat/d:Nat):Int):=by simp
 rw[e];exact u8_and_nat (f.toNat/d) 3 (by omega) (by omega)
theorem Q5r (f:UInt8):bits BinOp.and IntKind.u8 ((f.toNat:Int)/8) 3=((f >>> 3&&&3).toNat:Int):=by
 have:=Q5q f 8 (by omega);rw[show ((8:Nat):Int)=8 from rfl] at this;rw[this]
 congr 1
 rw[UInt8.toNat_and,UInt8.toNat_shiftRight,Nat.shiftRight_eq_div_pow];rfl
theorem Q5s (f:UInt8):bits BinOp.and IntKind.u8 ((f.toNat:Int)/2) 3=((f >>> 1&&&3).toNat:Int):=by
 have:=Q5q f 2 (by omega);rw[show ((2:Nat):Int)=2 from rfl] at this;rw[this]
 congr 1
theorem J6k (B g:Nat) (s:Rd) {t:ByteArray}{s':Rd}(e:S7 s=(t,s')) (w:World) (h:K7 w B g s):
  Calls Tryz.prog 150 #[pz g] w (Rdd w B g (.string t) s'):=by
 have:=Z5v B g s w h;rw[e] at this;exact this
def Q5t (w:World) (B g:Nat) (x:UInt8) (s':Rd) (e:Ending) (w':World):Prop:=
 ∃b o c,e = .returned (.slice (some ⟨b,o,none⟩) 1 c)∧w'.cell? ⟨b,o,none⟩=some (.int .u8 (x.toNat:Int))∧K7 w' B g s'∧w.grownBy w' (some g)
theorem Y9e (B g:Nat) (s:Rd) {x:UInt8}{s':Rd}(e:Y2n s=(x,s')) (w:World) (h:K7 w B g s):
  Calls Tryz.prog 148 #[pz g,iz 1] w (Q5t w B g x s'):=by
 refine(Y4e B g s 1 1 rfl (by omega) w h).mono ?_;rintro _ w1 ⟨A,c,rfl,hc,hl,hr,hR,hg⟩;obtain⟨b,o,y,rfl,_,hy,cy⟩:=hr.get (k:=0) (by omega);have h1:y=x:=by
  have:=congrArg Prod.fst e;exact(X2s hy).symm.trans this
 have h2:(L9 s 1).2=s':=congrArg Prod.snd e;subst h1;exact⟨b,o,c,rfl,by rw[Nat.add_zero] at cy;exact cy,h2▸hR,hg⟩
end
section
open Go.RowKit
def Q5u (w:World) (B g n:Nat) (r:List UInt8×Rd) (e:Ending) (w':World):Prop:=
 X2r w B g n r e w'∧∀ad m c,e = .returned (.slice (some ad) m c)→ad.block<B∨w.heap.size≤ad.block
theorem J6l (B g:Nat) (s:Rd) (n:Nat) (nI:Int) (hn:nI=(n:Int)) (h0:0<n) (hn':n≤1000000) (w:World) (h:K7 w B g s):
  Calls Tryz.prog 148 #[.pointer (some ⟨g,0,none⟩), .int .i64 nI] w (Q5u w B g n (L9 s n)):=by
 subst hn;obtain⟨xs,bad⟩:=s;obtain⟨A,c,hc,c0,c1,f0,f1,hr,hB,hg⟩:=h;dsimp only at hc c0 c1 hr;by_cases hle:n≤xs.length
 ·rw[X2t _ _ hle]
  have hnI:(n:Int)≤(xs.length:Int):=by omega
  have hnc:(n:Int)≤(c:Int):=by omega
  have hnI':n≤c:=by omega
  have hn0:(0:Int)≤(n:Int):=by omega
  have HT:=Lib.hid (X2u hc hle c0 c1 f0 f1 hr hB hg);have HA:Hid (∀ad m c',Ending.returned (.slice A n c)=Ending.returned (.slice (some ad) m c')→ad.block<B∨w.heap.size≤ad.block):=by
   intro ad m c' e;injection e with e
   injection e with e _ _
   obtain⟨ad',e',hb,_⟩:=hr.2 (by omega);rw[e'] at e;injection e with e
   subst e;exact Or.inl hb
  clear hr h0;by_cases hcn:c=n
  ·subst hcn
   rw[if_pos rfl,show xs.length-c=0 by omega,Nat.sub_self] at HT;go_enter Tryz.func148,Tryz.ntmps148
   go_wp2
   go_ret
   exact⟨HT.out,HA.out⟩
  ·rw[if_neg hcn] at HT
   go_enter Tryz.func148,Tryz.ntmps148
   go_wp2
   go_ret
   exact⟨HT.out,HA.out⟩
 ·rw[Y8i _ _ hle]
  have HT:=Lib.hid (fun w' h1 h2=>Y8j (w':=w') (n:=n) c0 c1 f0 f1 hB hg h1 h2);have hlt:(xs.length:Int)<(n:Int):=by omega
  clear hr hle h0;go_enter Tryz.func148,Tryz.ntmps148
  go_wp2_with (apply Z3h rfl _ _ 31 5 rfl Tryz.underlying31 J4 n ?_ ?_ hn' ?_;exact rfl;exact rfl;intro w2 hr2 hg2)
  go_ret
  simp only[V1] at hr2;refine⟨HT.out w2 hr2 hg2, ?_⟩;intro ad m c' e;injection e with e
  injection e with e _ _
  injection e with e
  subst e;exact Or.inr (Nat.le_refl _)
def Q1a (w w1 wx:World) (r:Mq×Rd):Prop:=
 K7 wx w.heap.size (w.heap.size+1) r.2∧w1.grownBy wx (some (w.heap.size+1))∧∃vc vw vf,X5 wx (w.heap.size+1+1) (Z1 r.1 vc vw vf)∧N1 wx (w.heap.size+1+1+1) r.1 vc vw vf
def J6m (w:World) (r:Mq×Rd) (e:Ending) (w':World):Prop:=
 ∃vc vw vf,e = .returned (.tuple #[.agg (Z1 r.1 vc vw vf).toArray, .bool (!r.2.2)])∧Below w.heap.size w w'∧N1 w' w.heap.size r.1 vc vw vf
theorem J6n {w w1 w2 w3 w4:World}{xs:List UInt8}{n c:Nat}{A:Option Addr}{l:List Value}(hl:xs.length=n) (hc:n≤c) (hx:RB w w.heap.size A xs) (hb1:Below w.heap.size w w1) (hs1:w1.heap.size=w.heap.size+1)
  (hb2:Below (w.heap.size+1) w1 w2) (hs2:w2.heap.size=w.heap.size+1+1) (hC2:X5 w2 (w.heap.size+1) [.slice A n c, .bool false]) (hb3:Below (w.heap.size+1+1) w2 w3) (hs3:w3.heap.size=w.heap.size+1+1+1)
  (hg4:w3.grownBy w4 (some (w.heap.size+1+1))) (hs4:w4.heap.size=w3.heap.size) (hC4:X5 w4 (w.heap.size+1+1) l):
  K7 w4 w.heap.size (w.heap.size+1) (xs,false)∧w1.grownBy w4 (some (w.heap.size+1))∧w1.heap.size≤w.heap.size+1+1∧w.heap.size≤w.heap.size+1+1∧w.heap.size+1+1≠w.heap.size+1∧w.heap.size+1+1<w4.heap.size∧X5 w4 (w.heap.size+1+1) l∧w4.heap.size=w.heap.size+1+1+1:=by
 have hR2:K7 w2 w.heap.size (w.heap.size+1) (xs,false):=
  K7.of hl hc (hC2.get 0 _ rfl) (hC2.get 1 _ rfl) (hC2.fr 0 rfl) (hC2.fr 1 rfl) ((hx.below hb1).below (hb2.mono (by omega))) (by omega) (by omega)
 have hb3':Below w2.heap.size w2 w3:=by rw[hs2];exact hb3
 have hb2':Below w1.heap.size w1 w2:=by rw[hs1];exact hb2
 refine⟨(hR2.below hb3').kept hg4 (fun k hk=>by injection hk with hk;omega) (by intro e;injection e with e;omega), ?_,by omega,by omega,by omega,by omega,hC4,by omega⟩;exact Z7b ((X2 hb2' _).trans (X2 hb3' _)) hg4 (fun k hk=>by injection hk with hk;omega)
theorem Q3l {w w1 wx:World}{r:Mq×Rd}{s':Rd}{l:List Value}{vc vw vf:Value}(hR:K7 wx w.heap.size (w.heap.size+1) s') (hC:X5 wx (w.heap.size+1+1) l) (hG:w1.grownBy wx (some (w.heap.size+1)))
  (he:s'=r.2) (hl:l=Z1 r.1 vc vw vf) (hrows:N1 wx (w.heap.size+1+1+1) r.1 vc vw vf):Q1a w w1 wx r:=by
 subst he hl;exact⟨hR,hG,vc,vw,vf,hC,hrows⟩
theorem Q7n {w w1 wx:World}{r:Mq×Rd}{vc vw vf:Value}{L:List Value}(hL:Z1 r.1 vc vw vf=L) (hb1:Below w.heap.size w w1) (hs1:w1.heap.size=w.heap.size+1) (hG:w1.grownBy wx (some (w.heap.size+1))) (ht:wx.there w.heap.size 0 L.length)
  (hrows:N1 wx (w.heap.size+1+1+1) r.1 vc vw vf):
  J6m w r (.returned (.tuple #[.agg L.toArray, .bool (!r.2.2)])) (wx.drew.setCells w.heap.size 0 L)∧X5 (wx.drew.setCells w.heap.size 0 L) w.heap.size L:=by
 subst hL;obtain⟨hO,h4⟩:=D3 w.heap.size (Z1 r.1 vc vw vf) 0 wx.drew;replace h4:=Z3t h4;have ht':wx.drew.there w.heap.size 0 (Z1 r.1 vc vw vf).length:=by simpa using ht
 have k:∀{e:TypeId}{size n:Nat}{v:Value}{xs:List Value},wx.ownsRow (w.heap.size+1+1+1) e size v n xs→(wx.drew.setCells w.heap.size 0 (Z1 r.1 vc vw vf)).ownsRow w.heap.size e size v n xs:=fun h=>
  V2 (h.kept h4 (Or.inr (Ne.symm (Q1 h (Or.inl (by omega)))))) (by omega)
 refine⟨⟨vc,vw,vf,rfl, ?_,k hrows.1,k hrows.2.1,k hrows.2.2⟩, ?_⟩
 ·have h1:Below w.heap.size w wx:=hb1.trans (Y3j hG (by omega) (by omega))
  exact h1.grown h4 (Nat.le_trans (by omega) hG.size) (fun q hq=>by injection hq with hq;omega)
 ·intro j v hv
  have hj:=(List.getElem?_eq_some_iff.1 hv).1;have a:=World.rangeAt_setCells_same wx.drew w.heap.size 0 _ ht' j v hv;have b:=(World.there_setCells ht' w.heap.size 0 (Z1 r.1 vc vw vf) j hj).2;rw[Nat.zero_add] at a b;exact⟨a,b⟩
theorem Q3m {w w1 wx w':World}{r:Mq×Rd}{vc vw vf:Value}(hb1:Below w.heap.size w w1) (hs1:w1.heap.size=w.heap.size+1) (hG:w1.grownBy wx (some (w.heap.size+1))) (hrows:N1 wx (w.heap.size+1+1+1) r.1 vc vw vf) (h4:wx.grownBy w' (some w.heap.size)):
  J6m w r (.returned (.tuple #[.agg (Z1 r.1 vc vw vf).toArray, .bool (!r.2.2)])) w':=by
 have k:∀{e:TypeId}{size n:Nat}{v:Value}{xs:List Value},wx.ownsRow (w.heap.size+1+1+1) e size v n xs→w'.ownsRow w.heap.size e size v n xs:=fun h=>
  V2 (h.kept h4 (Or.inr (Ne.symm (Q1 h (Or.inl (by omega)))))) (by omega)
 refine⟨vc,vw,vf,rfl, ?_,k hrows.1,k hrows.2.1,k hrows.2.2⟩;have h1:Below w.heap.size w wx:=hb1.trans (Y3j hG (by omega) (by omega));exact h1.grown h4 (Nat.le_trans (by omega) hG.size) (fun q hq=>by injection hq with hq;omega)
theorem Y0u {P:Program}{fn:Func}{p q:Tmp}{T:TypeId}(h:fn.results = #[.cell p T, .tmp q]) (tmps:Array Value) {w:World}{g:Nat}{l:List Value}(d:TypeDesc) (hp:tmps.getD p undef = .pointer (some ⟨g,0,none⟩)) (hC:X5 w g l)
  (hu:P.underlying T=some d) (hd:d.isRow=true) (n:Nat) (hi:(P.info? T).map (·.size)=some n) (hl:l.length=n) (b:Value) (hq:tmps.getD q undef=b):(results fn tmps).run P w = .ok (.tuple #[.agg l.toArray,b]) w:=by
 rw[←hl] at hi;have hp':tmps[p]?.getD undef = .pointer (some ⟨g,0,none⟩):=by simpa using hp
 have hq':tmps[q]?.getD undef=b:=by simpa using hq
 simp[results,h,hp',hq',asAddr,run_loadVar_mid w g 0 T l d hC.range hu hd hi]
theorem Y2b (u v:Int) (x y:Operand) (w:World):(do eqGuard .and 5 x y (.int .u8 u) (.int .u8 v);binOp .and 5 (.int .u8 u) (.int .u8 v):Sem Value).run Tryz.prog w = .ok (.int .u8 (bits .and .u8 u v)) w:=by kernel_rfl
theorem Q5v (u v:Int) (b:Bool) (h:(u != v)=b) (x y:Operand) (w:World):(do eqGuard .neq 5 x y (.int .u8 u) (.int .u8 v);binOp .neq 5 (.int .u8 u) (.int .u8 v):Sem Value).run Tryz.prog w = .ok (.bool b) w:=by
 rw[←h]
 kernel_rfl
theorem Y7c (f:UInt8) (n:Nat) (hn:n<256) (x y:Operand) (w:World):(do eqGuard .neq 5 x y (.int .u8 (bits .and .u8 (f.toNat:Int) (n:Int))) (.int .u8 0);binOp .neq 5 (.int .u8 (bits .and .u8 (f.toNat:Int) (n:Int))) (.int .u8 0):Sem Value).run Tryz.prog w = .ok (.bool (U4 f (UInt8.ofNat n))) w:=
 Q5v _ _ _ (J6j f n hn).symm _ _ _
theorem J6o (u:Int) (n:Nat) (x y:Operand) (w:World) (hn:n=1∨n=3∨n=4):(do eqGuard .shr 5 x y (.int .u8 u) (.int .u64 (n:Int));binOp .shr 5 (.int .u8 u) (.int .u64 (n:Int)):Sem Value).run Tryz.prog w = .ok (.int .u8 (u/(2^n:Nat))) w:=by
 rcases hn with rfl |rfl |rfl<;>simp[go_sem]
theorem Y0a (k:Int) (h0:0≤k) (h1:k<256) (w:World):(convert 5 3 (.int .u8 k)).run Tryz.prog w = .ok (.int .i64 k) w:=by
 have:IntKind.i64.wrap k=k:=IntWalk.i64_in _ (by omega);simp[go_sem,this]
theorem Q5w (u v:Int) (x y:Operand) (w:World):(do eqGuard .eql 5 x y (.int .u8 u) (.int .u8 v);binOp .eql 5 (.int .u8 u) (.int .u8 v):Sem Value).run Tryz.prog w = .ok (.bool (u==v)) w:=by kernel_rfl
structure RJ (w w1:World) (s:Rd) (m:Mq) (vc vw vf:Value) (wx:World):Prop where
 r:Rst w1 w.heap.size (w.heap.size+1) (w.heap.size+1+1) s (Z1 m vc vw vf) wx
 rows:N1 wx (w.heap.size+1+1+1) m vc vw vf
section
variable {w w1 wx w':World}{s s':Rd}{m:Mq}{vc vw vf:Value}
theorem RJ.le (h:RJ w w1 s m vc vw vf wx):w.heap.size+1+1+1≤wx.heap.size:=h.r.lt
theorem RJ.call (h:RJ w w1 s m vc vw vf wx) (hr:K7 w' w.heap.size (w.heap.size+1) s') (hg:wx.grownBy w' (some (w.heap.size+1))):RJ w w1 s' m vc vw vf w':=
 have k:∀{e:TypeId}{size n:Nat}{v:Value}{xs:List Value},wx.ownsRow (w.heap.size+1+1+1) e size v n xs→w'.ownsRow (w.heap.size+1+1+1) e size v n xs:=fun h=>h.kept hg (Or.inr (Ne.symm (Q1 h (Or.inl (by omega)))))
 ⟨h.r.call hr hg,k h.rows.1,k h.rows.2.1,k h.rows.2.2⟩
theorem RJ.below (h:RJ w w1 s m vc vw vf wx) (hb:Below wx.heap.size wx w'):RJ w w1 s m vc vw vf w':=h.call (h.r.rd.below hb) (X2 hb _)
theorem RJ.cells (h:RJ w w1 s m vc vw vf wx) {e:TypeId}{size n:Nat}{v:Value}{xs:List Value}(hO:wx.ownsRow (w.heap.size+1+1+1) e size v n xs) (hg:wx.grownBy w' v.ownBlock):Rst w1 w.heap.size (w.heap.size+1) (w.heap.size+1+1) s (Z1 m vc vw vf) w':=by
 have hge:=h.r.ge;exact⟨h.r.rd.kept hg (fun k hk=>Nat.le_trans (by omega) (hO.lt k hk).1) (Q1 hO (.inl (by omega))),h.r.ce.kept hg h.r.lt (Q1 hO (.inl (by omega))),Z7b h.r.gr hg fun k hk=>Nat.le_trans h.r.ge (Nat.le_trans (by omega) (hO.lt k hk).1),h.r.ge,h.r.hB,h.r.ne,Nat.lt_of_lt_of_le h.r.lt hg.size⟩
theorem RJ.code (h:RJ w w1 s m vc vw vf wx) (hg:wx.grownBy w' vc.ownBlock) {x:Int}{v:Value}(hO:w'.ownsRow (w.heap.size+1+1+1) 3 1 v (m.codes.length+1) (m.codes.map iv++[iv x])):RJ w w1 s { m with codes:=m.codes++[x] } v vw vf (w'.setCell ⟨w.heap.size+1+1,15,none⟩ v):=by
 have hr:=h.cells h.rows.1 hg;refine⟨hr.set 15 v (by show 15<24;decide), ?_, ?_, ?_⟩
 ·show (w'.setCell _ v).ownsRow _ _ _ v (m.codes++[x]).length ((m.codes++[x]).map iv)
  rw[Y3k,List.length_append];exact ownsRow_setCell_below hO (a:=⟨_,15,none⟩) (Nat.lt_succ_self _) v
 ·exact ownsRow_setCell_below (h.rows.2.1.kept hg (G8 h.rows.2.1 h.rows.1 rfl)) (a:=⟨_,15,none⟩) (Nat.lt_succ_self _) v
 ·exact ownsRow_setCell_below (h.rows.2.2.kept hg (G8 h.rows.2.2 h.rows.1 rfl)) (a:=⟨_,15,none⟩) (Nat.lt_succ_self _) v
theorem RJ.wish (h:RJ w w1 s m vc vw vf wx) (hg:wx.grownBy w' vw.ownBlock) {x:ByteArray×Int}{v:Value}(hO:w'.ownsRow (w.heap.size+1+1+1) 161 2 v (m.wishes.length+1) (wv m.wishes++wv [x])):RJ w w1 s { m with wishes:=m.wishes++[x] } vc v vf (w'.setCell ⟨w.heap.size+1+1,22,none⟩ v):=by
 have hr:=h.cells h.rows.2.1 hg;refine⟨hr.set 22 v (by show 22<24;decide), ?_, ?_, ?_⟩
 ·exact ownsRow_setCell_below (h.rows.1.kept hg (G8 h.rows.1 h.rows.2.1 rfl)) (a:=⟨_,22,none⟩) (Nat.lt_succ_self _) v
 ·show (w'.setCell _ v).ownsRow _ _ _ v (m.wishes++[x]).length (wv (m.wishes++[x]))
  rw[Y7u,List.length_append];exact ownsRow_setCell_below hO (a:=⟨_,22,none⟩) (Nat.lt_succ_self _) v
 ·exact ownsRow_setCell_below (h.rows.2.2.kept hg (G8 h.rows.2.2 h.rows.2.1 rfl)) (a:=⟨_,22,none⟩) (Nat.lt_succ_self _) v
theorem RJ.filt (h:RJ w w1 s m vc vw vf wx) (hg:wx.grownBy w' vf.ownBlock) {x:ByteArray}{v:Value}(hO:w'.ownsRow (w.heap.size+1+1+1) 9 1 v (m.filters.length+1) (m.filters.map sv++[sv x])):RJ w w1 s { m with filters:=m.filters++[x] } vc vw v (w'.setCell ⟨w.heap.size+1+1,23,none⟩ v):=by
 have hr:=h.cells h.rows.2.2 hg;refine⟨hr.set 23 v (by show 23<24;decide), ?_, ?_, ?_⟩
 ·exact ownsRow_setCell_below (h.rows.1.kept hg (G8 h.rows.1 h.rows.2.2 rfl)) (a:=⟨_,23,none⟩) (Nat.lt_succ_self _) v
 ·exact ownsRow_setCell_below (h.rows.2.1.kept hg (G8 h.rows.2.1 h.rows.2.2 rfl)) (a:=⟨_,23,none⟩) (Nat.lt_succ_self _) v
 ·show (w'.setCell _ v).ownsRow _ _ _ v (m.filters++[x]).length ((m.filters++[x]).map sv)
  rw[Y3l,List.length_append];exact ownsRow_setCell_below hO (a:=⟨_,23,none⟩) (Nat.lt_succ_self _) v
end
theorem J6p {B g:Nat}{s:Rd}{x:UInt8}{s':Rd}(e:Y2n s=(x,s')) (w:World) (h:K7 w B g s):Calls Tryz.prog 148 #[.pointer (some ⟨g,0,none⟩), .int .i64 1] w fun e w'=>∃v,e = .returned v∧∃b o c,v = .slice (some ⟨b,o,none⟩) 1 c∧w'.cell? ⟨b,o+0,none⟩=some (.int .u8 (x.toNat:Int))∧K7 w' B g s'∧w.grownBy w' (some g):=
 (Y9e B g s e w h).mono fun _ _ ⟨b,o,c,h1,h2,h3,h4⟩=>⟨_,h1,b,o,c,rfl,h2,h3,h4⟩
theorem Q1b {B g:Nat}{s:Rd}{t:ByteArray}{s':Rd}(e:S7 s=(t,s')) (w:World) (h:K7 w B g s):Calls Tryz.prog 150 #[.pointer (some ⟨g,0,none⟩)] w fun e w'=>∃v,e = .returned v∧v = .string t∧K7 w' B g s'∧w.grownBy w' (some g):=
 (J6k B g s e w h).mono fun _ _ ⟨h1,h2,h3⟩=>⟨_,h1,rfl,h2,h3⟩
theorem X1j {n:Nat}(h:n≤8):n+1≤maxLen∧(n+1)*24≤140737488355328:=by unfold maxLen;omega
theorem Q0a (f:UInt8) (xs:List UInt8) (n c:Nat) (A:Option Addr) (hl:xs.length=n) (hc:n≤c) (w:World) (hx:RB w w.heap.size A xs):
  Calls Tryz.prog 129 #[.int .u8 (f.toNat:Int), .slice A n c] w (J6m w (Z2u ((f.toNat:Int)/16) f (xs,false))):=by
 have hf:=f.toNat_lt;obtain⟨k,hk⟩:∃k,(f.toNat:Int)/16=k:=⟨_,rfl⟩;rw[hk];go_enter Tryz.func129,Tryz.ntmps129;refine Z9.start 185 [(0, .int .u8 (f.toNat:Int)),(1, .slice A n c)] rfl rfl ⟨rfl,rfl,trivial⟩ ?_;intro a0 H0;refine rl ?_;refine H0.alloc rfl rfl rfl rfl _ Z0v ?_;intro a1 w1 hb1 hs1 hC1 H1;refine H1.ms 1 fun a2 H2=>nt ?_;refine H2.rg 1 fun a3 H3=>?_;refine H3.any (w':=w1) gz rfl rfl (.agg #[.slice A n c, .bool false]) (by intro cs b h;cases h) (by kernel_rfl) (by kernel_rfl) fun a4 H4=>?_;refine H4.box rfl rfl rfl rfl (L:=[.slice A n c, .bool false]) rfl ?_;intro a5 w2 hb2 hs2 hC2 H5;refine H5.ms 1 fun a6 H6=>nt ?_;refine H6.rg 1 fun a7 H7=>?_;refine H7.bn 0 (J6o _ 4 _ _ _ (.inr (.inr rfl))) fun a8 H8=>?_;have e16:(f.toNat:Int)/((2^4:Nat):Int)=k:=hk;rw[e16] at H8;refine H8.cv 0 (Y0a k (by omega) (by omega) _) fun a9 H9=>?_;refine H9.any (w':=w2) gz rfl rfl (.agg (Z1 (N6 k) Z2 Z2 Z2).toArray) (by intro cs b h;cases h) (by kernel_rfl) (by kernel_rfl) fun b1 H10=>?_;refine H10.alloc rfl rfl rfl rfl _ Z0v ?_;intro b2 w3 hb3 hs3 hC3 H11;refine H11.storeS rfl rfl rfl rfl rfl hC3 size_mq rfl rfl rfl ?_;intro b3 w4 H12 hg4 hs4 hC4;refine nt ?_;rw[hs1] at hb2 hs2 hC2 H12;rw[hs2] at hb3 hs3 hg4 hC4 H12;obtain⟨p1,p2,p3,p4,p5,p6,p7,p8⟩:=J6n hl hc hx hb1 hs1 hb2 hs2 hC2 hb3 hs3 hg4 hs4 hC4;have R4:Rst w1 w.heap.size (w.heap.size+1) (w.heap.size+1+1) (xs,false) (Z1 (N6 k) Z2 Z2 Z2) w4:=⟨p1,p7,p2,p3,p4,p5,p6⟩;have hM:=fun(r:Mq×Rd) wx (s':Rd) l vc vw vf=>fun(R:Rst w1 w.heap.size (w.heap.size+1) (w.heap.size+1+1) s' l wx)=>Q3l (w:=w) (w1:=w1) (wx:=wx) (r:=r) (vc:=vc) (vw:=vw) (vf:=vf) R.rd R.ce R.gr;have H13:=H12.kp [0,4,5,6,7];clear hb2 hs2 hC2 hb3 hs3 hC3 hg4 hC4 H12 H11 H10 H9 H8 H7 H6 H5 H4 H3 H2 H1 H0 p1 p2 p3 p4 p5 p6 p7;refine Z8 (fun a w'=>Z9 a 185 [(4, .pointer (some ⟨w.heap.size,0,none⟩)),(6, .pointer (some ⟨w.heap.size+1,0,none⟩)),(7, .pointer (some ⟨w.heap.size+1+1,0,none⟩))]∧Q1a w w1 w' (Z2u k f (xs,false))) ?_ ?_
 ·refine H13.rg 1 fun a1 H1=>?_
  refine H1.ld 0 (R4.li 0) fun a2 H2=>nt ?_;refine wp_block ?_;refine H2.rg 0 fun a1 H1=>?_;refine H1.bn 1 (N8 _ _ _ _ _) fun a2 H2=>nt ?_;refine H2.cond (t:=k==1) rfl ?_;cases b1:(k==1) with
  |true=>
   have k1:k=1:=by simpa using b1
   subst k1;obtain⟨r,hr⟩:∃r,Y3o (xs,false)=r:=⟨_,rfl⟩;obtain⟨s1,e1⟩:∃x,(L9 (xs,false) 7).2=x:=⟨_,rfl⟩;obtain⟨x,s2,e2⟩:∃x s2,Y2n s1=(x,s2):=⟨_,_,rfl⟩;obtain⟨kk,e3⟩:∃x,Z2g s2=x:=⟨_,rfl⟩;obtain⟨c1,e4⟩:∃x,S7 kk.2=x:=⟨_,rfl⟩;obtain⟨t,ht⟩:∃x,S7 c1.2=x:=⟨_,rfl⟩;obtain⟨y,hy⟩:∃x,S7 t.2=x:=⟨_,rfl⟩;obtain⟨s5,e5⟩:∃z,(if U4 x 4 then y.2 else c1.2)=z:=⟨_,rfl⟩;obtain⟨u,hu⟩:∃x,S7 s5=x:=⟨_,rfl⟩;obtain⟨s6,e6⟩:∃z,(if U4 x 128 then u.2 else s5)=z:=⟨_,rfl⟩;obtain⟨q,hq⟩:∃x,S7 s6=x:=⟨_,rfl⟩;obtain⟨s7,e7⟩:∃z,(if U4 x 64 then q.2 else s6)=z:=⟨_,rfl⟩;have hr':Z2u 1 f (xs,false)=((Y0n.mk x kk c1 t y u q s7).mq,s7):=by
    have:Y3o (xs,false)=⟨x,kk,c1,t,y,u,q,s7⟩:=by
     subst e7 hq e6 hu e5 hy ht e4 e3;unfold Y3o Z9d;rw[e1,e2]
    unfold Z2u;rw[if_pos rfl,this]
   rw[hr'];refine H2.rg 1 fun a3 H3=>?_;refine H3.cl (R:=fun _ w'=>K7 w' w.heap.size (w.heap.size+1) s1∧w4.grownBy w' (some (w.heap.size+1))) ((Y4e w.heap.size (w.heap.size+1) (xs,false) 7 7 rfl (by omega) w4 R4.rd).mono ?_) ?_
   ·rintro _ _ ⟨_,_,rfl,_,_,_,h1,h2⟩
    exact⟨_,rfl,e1▸h1,h2⟩
   rintro a4 v4 w5 ⟨h1,h2⟩ H4;have R5:=R4.call h1 h2;refine nt ?_;refine H4.rg 1 fun a5 H5=>?_;refine H5.cl (R:=fun v w'=>∃b o c,v = .slice (some ⟨b,o,none⟩) 1 c∧w'.cell? ⟨b,o,none⟩=some (.int .u8 (x.toNat:Int))∧K7 w' w.heap.size (w.heap.size+1) s2∧w5.grownBy w' (some (w.heap.size+1))) ((Y9e w.heap.size (w.heap.size+1) s1 e2 w5 R5.rd).mono ?_) ?_
   ·rintro _ _ ⟨b,o,c,rfl,h1,h2,h3⟩
    exact⟨_,rfl,b,o,c,rfl,h1,h2,h3⟩
   rintro a6 _ w6 ⟨b,o,c6,rfl,hcx,h3,h4⟩ H6;have R6:=R5.call h3 h4;refine H6.index gz rfl rfl rfl rfl rfl (U7 31 Tryz.underlying31 (fun _=>by kernel_rfl) b o 1 c6 0 (by decide) _) fun a7 H7=>?_;refine H7.ld 1 (U3 b (o+0) _ _ hcx) fun a8 H8=>nt ?_;refine H8.rg 1 fun a9 H9=>?_;refine H9.rc R6 1 (Y4f _ _ _ _ R6.rd) fun b1 w7 R7 H10=>?_;refine H10.si R7 0 fun b2 w8 R8 H11=>nt ?_;rw[e3] at R8;refine H11.rg 1 fun b3 H12=>?_;refine H12.bn 0 (Y2b _ _ _ _ _) fun b4 H13=>?_;refine H13.bn 1 (Y7c x 2 (by omega) _ _ _) fun b5 H14=>?_;refine H14.bn 0 (Y2b _ _ _ _ _) fun b6 H15=>?_;refine H15.bn 1 (Y7c x 64 (by omega) _ _ _) fun b7 H16=>?_;refine H16.bn 0 (Y2b _ _ _ _ _) fun b8 H17=>?_;refine H17.bn 1 (Y7c x 128 (by omega) _ _ _) fun b9 H18=>?_;refine H18.sb R8 1 fun c3 y3 R9 H19=>?_;refine H19.sb R9 1 fun c4 y4 R10 H20=>?_;refine H20.sb R10 0 fun c5 y5 R11 H21=>nt ?_;refine H21.rg 1 fun c6 H22=>?_;refine H22.rc R11 1 (Z5v _ _ _ _ R11.rd) fun c7 y7 R12 H23=>?_;refine H23.ss R12 0 fun c8 y8 R13 H24=>nt ?_;rw[e4] at R13;have R14:=R13.is (L':=Z1 { N6 1 with keep:=kk.1,client:=c1.1,clean:=U4 x 2,hp:=U4 x 64,hu:=U4 x 128 } Z2 Z2 Z2) rfl rfl;have H25:=H24.kp [8,4,6,7];clear R5 R6 R7 R8 R9 R10 R11 R12 R13 R4 H1 H2 H3 H4 H5 H6 H7 H8 H9 H10 H11 H12 H13 H14 H15 H16 H17 H18 H19 H20 H21 H22 H23 H24;refine Z8 (fun a w'=>Z9 a 185 [(4, .pointer (some ⟨w.heap.size,0,none⟩)),(6, .pointer (some ⟨w.heap.size+1,0,none⟩)),(7, .pointer (some ⟨w.heap.size+1+1,0,none⟩))]∧Rst w1 w.heap.size (w.heap.size+1) (w.heap.size+1+1) s5 (Z1 { N6 1 with keep:=kk.1,client:=c1.1,clean:=U4 x 2,hp:=U4 x 64,hu:=U4 x 128,won:=U4 x 4,wt:=(if U4 x 4 then t.1 else nos),wp:=(if U4 x 4 then y.1 else nos),wq:=(if U4 x 4 then ((x >>> 3&&&3).toNat:Int) else 0),wr:=(U4 x 4&&U4 x 32) } Z2 Z2 Z2) w') ?_ ?_
   ·refine H25.rg 1 fun a3 H3=>?_
    refine H3.bn 0 (Y2b _ _ _ _ _) fun a4 H4=>?_;refine H4.bn 0 (Y7c x 4 (by omega) _ _ _) fun a5 H5=>nt ?_;refine H5.cond (t:=U4 x 4) rfl ?_;cases b4:U4 x 4 with
    |true=>
     rw[b4,if_pos rfl] at e5;have hx3:bits BinOp.and IntKind.u8 ((x.toNat:Int)/((2^3:Nat):Int)) 3=((x >>> 3&&&3).toNat:Int):=Q5r x;have hx4:((x >>> 3&&&3).toNat:Int)<256:=by have:=(x >>> 3&&&3).toNat_lt;omega
     refine H5.rg 1 fun a6 H6=>?_;refine H6.bn 0 (J6o _ 3 _ _ _ (.inr (.inl rfl))) fun a7 H7=>?_;refine H7.bn 0 (Y2b _ _ _ _ _) fun a8 H8=>?_;rw[hx3] at H8;refine H8.cv 1 (Y0a ((x >>> 3&&&3).toNat:Int) (by omega) hx4 _) fun a9 H9=>?_;refine H9.bn 0 (Y2b _ _ _ _ _) fun d1 H10=>?_;refine H10.bn 0 (Y7c x 32 (by omega) _ _ _) fun d2 H11=>?_;refine H11.any (w':=y8) gz rfl rfl (.agg #[.bool true, .string nos, .string nos, .int .i64 ((x >>> 3&&&3).toNat:Int), .bool (U4 x 32)]) (by intro cs b h;cases h) (by kernel_rfl) (by kernel_rfl) fun d3 H12=>?_;refine H12.ms 1 fun d4 H13=>?_;refine H13.sw R14 0 fun d5 z5 R15 H14=>nt ?_;refine H14.rg 1 fun d6 H15=>?_;refine H15.rc R15 2 (Z5v _ _ _ _ R15.rd) fun d7 z7 R16 H16=>?_;refine H16.ss R16 0 fun d8 z8 R17 H17=>nt ?_;rw[ht] at R17;refine H17.rg 1 fun d9 H18=>?_;refine H18.rc R17 2 (Z5v _ _ _ _ R17.rd) fun e1 z9 R18 H19=>?_;refine H19.ss R18 0 fun e2 x1 R19 H20=>nt ?_;rw[hy,e5] at R19;exact⟨H20.keep ⟨rfl,rfl,rfl,trivial⟩,R19.is rfl rfl⟩
    |false=>
     rw[b4,if_neg (by decide)] at e5;exact Z3 (Z0 ⟨H5.keep ⟨rfl,rfl,rfl,trivial⟩,R14.is rfl e5⟩)
   clear R14 H25;rintro a0 w5 ⟨H0,R0⟩;refine Z8 (fun a w'=>Z9 a 185 [(4, .pointer (some ⟨w.heap.size,0,none⟩)),(6, .pointer (some ⟨w.heap.size+1,0,none⟩)),(7, .pointer (some ⟨w.heap.size+1+1,0,none⟩))]∧Rst w1 w.heap.size (w.heap.size+1) (w.heap.size+1+1) s6 (Z1 { N6 1 with keep:=kk.1,client:=c1.1,clean:=U4 x 2,hp:=U4 x 64,hu:=U4 x 128,won:=U4 x 4,wt:=(if U4 x 4 then t.1 else nos),wp:=(if U4 x 4 then y.1 else nos),wq:=(if U4 x 4 then ((x >>> 3&&&3).toNat:Int) else 0),wr:=(U4 x 4&&U4 x 32),user:=(if U4 x 128 then u.1 else nos) } Z2 Z2 Z2) w') ?_ ?_
   ·refine H0.rg 1 fun a1 H1=>?_
    refine H1.ld 0 (R0.lb 10) fun a2 H2=>nt ?_;refine H2.cond (t:=U4 x 128) rfl ?_;cases b4:U4 x 128 with
    |true=>
     rw[b4,if_pos rfl] at e6;refine H2.rg 1 fun a3 H3=>?_;refine H3.rc R0 1 (Z5v _ _ _ _ R0.rd) fun a4 w4 R4 H4=>?_;refine H4.ss R4 0 fun a5 w5 R5 H5=>nt ?_;rw[hu,e6] at R5;exact⟨H5.keep ⟨rfl,rfl,rfl,trivial⟩,R5.is (by rw[b4];rfl) rfl⟩
    |false=>
     rw[b4,if_neg (by decide)] at e6;exact Z3 (Z0 ⟨H2.keep ⟨rfl,rfl,rfl,trivial⟩,R0.is (by rw[b4];rfl) e6⟩)
   clear R0 H0;rintro a0 w5 ⟨H0,R0⟩;refine H0.rg 1 fun a1 H1=>?_;refine H1.ld 0 (R0.lb 12) fun a2 H2=>nt ?_;refine H2.cond (t:=U4 x 64) rfl ?_;cases b4:U4 x 64 with
   |true=>
    rw[b4,if_pos rfl] at e7;refine H2.rg 1 fun a3 H3=>?_;refine H3.rc R0 1 (Z5v _ _ _ _ R0.rd) fun a4 w4 R4 H4=>?_;refine H4.ss R4 0 fun a5 w5 R5 H5=>?_;rw[hq,e7] at R5;refine wpList_nil (Z6 (Z0 ⟨H5.keep ⟨rfl,rfl,rfl,trivial⟩, ?_⟩));exact hM _ _ _ _ Z2 Z2 Z2 R5 rfl (by unfold Y0n.mq;simp only[b4];rfl) (D9 _ _ rfl rfl rfl)
   |false=>
    rw[b4,if_neg (by decide)] at e7;refine Z3 (Z6 (Z0 ⟨H2.keep ⟨rfl,rfl,rfl,trivial⟩, ?_⟩));exact hM _ _ _ _ Z2 Z2 Z2 R0 e7 (by unfold Y0n.mq;simp only[b4];rfl) (D9 _ _ rfl rfl rfl)
  |false=>
  refine H2.rg 0 fun a1 H1=>?_;refine H1.bn 1 (N8 _ _ _ _ _) fun a2 H2=>nt ?_;refine H2.cond (t:=k==2) rfl ?_;cases b2:(k==2) with
  |true=>
   have k1:k=2:=by simpa using b2
   subst k1;obtain⟨⟨ys,s2⟩,e1⟩:∃r,L9 (xs,false) 2=r:=⟨_,rfl⟩;refine H2.rg 1 fun a3 H3=>?_;refine H3.cl (R:=fun v w'=>∃b o c,v = .slice (some ⟨b,o,none⟩) 2 c∧b≠w.heap.size+1+1∧(∃x y:UInt8,ys.getD 0 0=x∧ys.getD 1 0=y∧w'.cell? ⟨b,o+0,none⟩=some (.int .u8 (x.toNat:Int))∧w'.cell? ⟨b,o+1,none⟩=some (.int .u8 (y.toNat:Int)))∧K7 w' w.heap.size (w.heap.size+1) s2∧w4.grownBy w' (some (w.heap.size+1))) ((J6l w.heap.size (w.heap.size+1) (xs,false) 2 2 rfl (by omega) (by omega) w4 R4.rd).mono ?_) ?_
   ·rw[e1]
    rintro _ w5 ⟨⟨A5,p5,rfl,_,hl5,hr5,hR5,hg5⟩,hs5⟩;obtain⟨b5,o5,x,rfl,_,hx5,d5⟩:=hr5.get (k:=0) (by omega);obtain⟨b5',o5',y,hA,_,hy5,d5'⟩:=hr5.get (k:=1) (by omega);obtain⟨rfl,rfl⟩:=RB.same_at rfl hA;have hb:=hs5 _ _ _ rfl;have hlt:=R4.lt;refine⟨_,rfl,b5',o5',p5,rfl, ?_,⟨x,y, ?_, ?_,d5,d5'⟩,hR5,hg5⟩
    ·intro e
     subst e;rcases hb with hb |hb
     ·exact absurd (show w.heap.size+1+1<w.heap.size from hb) (by omega)
     ·exact absurd (show w4.heap.size≤w.heap.size+1+1 from hb) (by omega)
    ·rw[List.getD_eq_getElem?_getD,hx5];rfl
    ·rw[List.getD_eq_getElem?_getD,hy5];rfl
   rintro a4 _ w5 ⟨b,o,c,rfl,hne,⟨x,y,hx0,hy0,hcx,hcy⟩,h3,h4⟩ H4;have R5:=R4.call h3 h4;refine H4.ms 1 fun a5 H5=>nt ?_;have hy8:(y.toNat:Int)<256:=by have:=y.toNat_lt;omega
   have hlx:∀w',w5.grownBy w' (some (w.heap.size+1+1))→(Instr.loadAt 5 (.pointer (some ⟨b,o+0,none⟩))).run Tryz.prog w' = .ok (.int .u8 (x.toNat:Int)) w':=fun w' h=>U3 _ _ _ _ (h.cell hcx (by intro e;injection e with e;exact hne e));have hly:∀w',w5.grownBy w' (some (w.heap.size+1+1))→(Instr.loadAt 5 (.pointer (some ⟨b,o+1,none⟩))).run Tryz.prog w' = .ok (.int .u8 (y.toNat:Int)) w':=fun w' h=>U3 _ _ _ _ (h.cell hcy (by intro e;injection e with e;exact hne e));refine H5.dg [9,11] (fun w'=>w5.grownBy w' (some (w.heap.size+1+1))) (fun fl w'=>Rst w1 w.heap.size (w.heap.size+1) (w.heap.size+1+1) s2 (Y5a (fl.getD 0 false) 13 (.bool ((x.toNat:Int)==1)) (Y5a (fl.getD 1 false) 14 (.int .i64 (y.toNat:Int)) (Z1 (N6 2) Z2 Z2 Z2))) w') [4,6,7,9] rfl [ec 0 135 (.slice (some ⟨b,o,none⟩) 2 c),ec 1 136 (.pointer (some ⟨b,o+0,none⟩)),ec 2 137 (.int .u8 (x.toNat:Int)),ec 3 138 (.bool ((x.toNat:Int)==1)),ec 4 139 (.slice (some ⟨b,o,none⟩) 2 c),ec 5 140 (.pointer (some ⟨b,o+1,none⟩)),ec 6 141 (.int .u8 (y.toNat:Int)),ec 7 142 (.int .i64 (y.toNat:Int)),ec 8 143 (.pointer (some ⟨w.heap.size+1+1,13,none⟩)),ec 10 144 (.pointer (some ⟨w.heap.size+1+1,14,none⟩))] [9,11] rfl (X2 (Below.drew (Below.refl _ _)) _) (R5.call (K7.drew R5.rd) (X2 (Below.drew (Below.refl _ _)) _)) ⟨jm,jI rfl rfl rfl rfl rfl rfl fun _=>U7 31 Tryz.underlying31 (fun _=>by kernel_rfl) b o 2 c 0 (by decide) _,jl hlx,jb fun _=>Q5w _ _ _ _ _,jm,jI rfl rfl rfl rfl rfl rfl fun _=>U7 31 Tryz.underlying31 (fun _=>by kernel_rfl) b o 2 c 1 (by decide) _,jl hly,jc fun _=>Y0a _ (Int.natCast_nonneg _) hy8 _,jm,jm,trivial⟩ trivial ?_ ?_
   ·intro listed aa ww i o' hs hni hcl ho hd hI hh
    have hW:=hI.wp.2;simp only[List.map_cons,List.map_nil,List.getD_cons_zero,List.getD_cons_succ] at hW;rcases hh with hh |rfl |rfl |hh
    ·exact False.elim hh
    ·obtain rfl:=U2 ho rfl
     have HH:Z9 aa 185 _:=Z9.of hI.sz hI.df (W7.app hI.fx (Z2c hI hd fun _ h=>h));rw[hni] at hW;obtain⟨q1,q2⟩:=hW.ce 13 _ (List.getElem?_eq_getElem (by simp only[Z4p];decide));refine Y3z ho gz rfl _ (Q6 rfl (HH.ev rfl) (HH.ev rfl) (B7 _ _ _ _ _ q1 q2)) ?_;exact hI.pd hs 9 (hI.wp.1.trans (X7 _ _ _ _)) ((hW.set 13 _ (by simp only[Z4p];decide)).is rfl rfl) trivial
    ·obtain rfl:=U2 ho rfl
     have HH:Z9 aa 185 _:=Z9.of hI.sz hI.df (W7.app hI.fx (Z2c hI hd fun _ h=>h));rw[hni] at hW;obtain⟨q1,q2⟩:=hW.ce 14 _ (List.getElem?_eq_getElem (by simp only[Z4p];decide));refine Y3z ho gz rfl _ (Q6 rfl (HH.ev rfl) (HH.ev rfl) (D6 _ _ _ _ _ q1 q2)) ?_;exact hI.pd hs 11 (hI.wp.1.trans (X7 _ _ _ _)) ((hW.set 14 _ (by simp only[Z4p];decide)).is (by rw[J3i (by decide)];rfl) rfl) trivial
    ·exact False.elim hh
   ·intro listed a w' hall hI
    refine Z6 (Z0 ⟨(hI.hs []).keep ⟨rfl,rfl,rfl,trivial⟩, ?_⟩);have hr:Z2u 2 f (xs,false)=({ N6 2 with present:=x==1,code:=(y.toNat:Int) },s2):=by
     unfold Z2u;rw[if_neg (by decide),if_pos rfl];simp only[e1,hx0,hy0]
    rw[hr];exact hM _ _ _ _ Z2 Z2 Z2 hI.wp.2 rfl (by rw[Y9a];rfl) (D9 _ _ rfl rfl rfl)
  |false=>
  refine H2.rg 0 fun a1 H1=>?_;refine H1.bn 1 (N8 _ _ _ _ _) fun a2 H2=>nt ?_;refine H2.cond (t:=k==3) rfl ?_;cases b3:(k==3) with
  |true=>
   have k1:k=3:=by simpa using b3
   subst k1;have hq8:bits BinOp.and IntKind.u8 ((f.toNat:Int)/((2^1:Nat):Int)) 3=((f >>> 1&&&3).toNat:Int):=Q5s f;have hq9:((f >>> 1&&&3).toNat:Int)<256:=by have:=(f >>> 1&&&3).toNat_lt;omega
   refine H2.rg 1 fun a3 H3=>?_;refine H3.bn 0 (Y2b _ _ _ _ _) fun a4 H4=>?_;refine H4.bn 1 (Y7c f 8 (by omega) _ _ _) fun a5 H5=>?_;refine H5.bn 0 (J6o _ 1 _ _ _ (.inl rfl)) fun a6 H6=>?_;refine H6.bn 0 (Y2b _ _ _ _ _) fun a7 H7=>?_;rw[hq8] at H7;refine H7.cv 1 (Y0a ((f >>> 1&&&3).toNat:Int) (by omega) hq9 _) fun a8 H8=>?_;refine H8.bn 0 (Y2b _ _ _ _ _) fun a9 H9=>?_;refine H9.bn 1 (Y7c f 1 (by omega) _ _ _) fun b1 H10=>?_;refine H10.sb R4 1 fun b2 x2 R5 H11=>?_;refine H11.si R5 1 fun b3 x3 R6 H12=>?_;refine H12.sb R6 0 fun b4 x4 R7 H13=>nt ?_;refine H13.rg 1 fun b5 H14=>?_;refine H14.rc R7 1 (Z5v _ _ _ _ R7.rd) fun b6 x6 R8 H15=>?_;refine H15.ss R8 0 fun b7 x7 R9 H16=>nt ?_;obtain⟨q,hq⟩:∃q,(f >>> 1&&&3 != 0)=q:=⟨_,rfl⟩;obtain⟨s2,e2⟩:∃s2,(if (f >>> 1&&&3 != 0) then (Z2g (S7 (xs,false)).2).2 else (S7 (xs,false)).2)=s2:=⟨_,rfl⟩;have R10:=R9.is (L':=Z1 { N6 3 with dup:=U4 f 8,qos:=((f >>> 1&&&3).toNat:Int),retain:=U4 f 1,topic:=(S7 (xs,false)).1 } Z2 Z2 Z2) rfl rfl;have hq3:(decide ((0:Int)<((f >>> 1&&&3).toNat:Int)))=q:=by
    rw[←hq,Bool.eq_iff_iff,decide_eq_true_iff,bne_iff_ne];constructor
    ·intro h e;rw[e] at h;exact absurd h (by decide)
    ·intro h
     have:(f >>> 1&&&3).toNat≠0:=fun e=>h (UInt8.toNat_inj.1 e);omega
   refine Z8 (fun a w'=>Z9 a 185 [(4, .pointer (some ⟨w.heap.size,0,none⟩)),(6, .pointer (some ⟨w.heap.size+1,0,none⟩)),(7, .pointer (some ⟨w.heap.size+1+1,0,none⟩))]∧Rst w1 w.heap.size (w.heap.size+1) (w.heap.size+1+1) s2 (Z1 { N6 3 with dup:=U4 f 8,qos:=((f >>> 1&&&3).toNat:Int),retain:=U4 f 1,topic:=(S7 (xs,false)).1,id:=(if (f >>> 1&&&3 != 0) then ((Z2g (S7 (xs,false)).2).1:Int) else 0) } Z2 Z2 Z2) w') ?_ ?_
   ·refine H16.rg 1 fun c1 H17=>?_
    refine H17.ld 0 (R10.li 17) fun c2 H18=>?_;refine H18.bn 0 (S0 _ _ q hq3 _ _ _) fun c3 H19=>nt ?_;refine H19.cond rfl ?_;rw[hq] at e2 ⊢;cases q with
    |true=>
     rw[if_pos rfl] at e2;refine H19.rg 1 fun c4 H20=>?_;refine H20.rc R10 1 (Y4f _ _ _ _ R10.rd) fun c5 y5 R11 H21=>?_;refine H21.si R11 0 fun c6 y6 R12 H22=>nt ?_;exact⟨H22.keep ⟨rfl,rfl,rfl,trivial⟩,R12.is rfl e2⟩
    |false=>
     rw[if_neg (by decide)] at e2;exact Z3 (Z0 ⟨H19.keep ⟨rfl,rfl,rfl,trivial⟩,R10.is rfl e2⟩)
   clear R4 R5 R6 R7 R8 R9 R10 H1 H2 H3 H4 H5 H6 H7 H8 H9 H10 H11 H12 H13 H14 H15 H16;rintro a0 w0 ⟨H0,R0⟩;obtain⟨A',c',hcl,c0,c1,_,_,hrb,_,_⟩:=R0.rd;refine H0.rg 2 fun a1 H1=>?_;refine H1.go gz rfl rfl _ (S3 rfl (H1.ev rfl) (off0:=0) (off:=0) (fun g w=>by kernel_rfl)) fun a2 H2=>?_;refine H2.ld 0 (U8 _ _ _ _ _ _ c0) fun a3 H3=>?_;refine H3.cv 1 (Z1a Tryz.underlying31 Tryz.underlying5 Tryz.underlying9 hrb rfl c') fun a4 H4=>?_;refine H4.ss R0 0 fun a5 w5 R5 H5=>?_;refine wpList_nil (Z6 (Z0 ⟨H5.keep ⟨rfl,rfl,rfl,trivial⟩, ?_⟩));refine hM _ _ _ _ Z2 Z2 Z2 R5 ?_ ?_ (D9 _ _ rfl rfl rfl)
   ·subst e2;rfl
   ·subst e2;rfl
  |false=>
  have n1:=S8 b1;have n2:=S8 b2;have n3:=S8 b3;refine Z8 (fun a w'=>Z9 a 185 [(4, .pointer (some ⟨w.heap.size,0,none⟩)),(6, .pointer (some ⟨w.heap.size+1,0,none⟩)),(7, .pointer (some ⟨w.heap.size+1+1,0,none⟩)),(175, .bool (J3 k))]∧w4=w') ?_ ?_
  ·refine H2.rg 0 fun a1 H1=>?_
   refine H1.bn 1 (N8 _ _ _ _ _) fun a2 H2=>nt ?_;refine H2.cond (t:=k==12) rfl ?_;cases c1:(k==12) with
   |true=>exact Z3 (Z0 ⟨H2.keep ⟨rfl,rfl,rfl,congrArg (fun b=>some (Value.bool b)) (show (k==12)=J3 k by unfold J3;rw[c1];rfl),trivial⟩,rfl⟩)
   |false=>
   refine H2.rg 0 fun a1 H1=>?_;refine H1.bn 1 (N8 _ _ _ _ _) fun a2 H2=>nt ?_;refine H2.cond (t:=k==13) rfl ?_;cases c2:(k==13) with
   |true=>exact Z3 (Z0 ⟨H2.keep ⟨rfl,rfl,rfl,congrArg (fun b=>some (Value.bool b)) (show (k==13)=J3 k by unfold J3;rw[c1,c2];rfl),trivial⟩,rfl⟩)
   |false=>
   refine H2.rg 0 fun a1 H1=>?_;refine H1.bn 1 (N8 _ _ _ _ _) fun a2 H2=>nt ?_;exact⟨H2.keep ⟨rfl,rfl,rfl,congrArg (fun b=>some (Value.bool b)) (by unfold J3;rw[c1,c2];rfl),trivial⟩,rfl⟩
  clear H1 H2;rintro a0 _ ⟨H0,rfl⟩;refine H0.cond (t:=J3 k) rfl ?_;cases b4:J3 k with
  |true=>
   have hr:Z2u k f (xs,false)=(N6 k,(xs,false)):=by unfold Z2u;rw[if_neg n1,if_neg n2,if_neg n3,if_pos b4]
   rw[hr];refine Z3 (Z6 (Z0 ⟨H0.keep ⟨rfl,rfl,rfl,trivial⟩, ?_⟩));exact hM _ _ _ _ Z2 Z2 Z2 R4 rfl rfl (D9 _ _ rfl rfl rfl)
  |false=>
  have hr:Z2u k f (xs,false)=C0 k 8 { N6 k with id:=((Z2g (xs,false)).1:Int) } (Z2g (xs,false)).2:=by unfold Z2u;rw[if_neg n1,if_neg n2,if_neg n3,if_neg (by rw[b4];decide)]
  rw[hr];refine H0.rg 1 fun a1 H1=>?_;refine H1.rc R4 1 (Y4f _ _ _ _ R4.rd) fun a2 w5 R5 H2=>?_;refine H2.si R5 0 fun a3 w6 R6 H3=>nt ?_;refine H3.rg 1 fun a4 H4=>nt ?_;refine wp_block ?_;refine Q7 8 (fun i a w'=>Z9 a 185 [(4, .pointer (some ⟨w.heap.size,0,none⟩)),(6, .pointer (some ⟨w.heap.size+1,0,none⟩)),(7, .pointer (some ⟨w.heap.size+1+1,0,none⟩)),(10, .int .i64 (i:Int))]∧∃m s' vc vw vf,C0 k (8-i) m s'=C0 k 8 { N6 k with id:=((Z2g (xs,false)).1:Int) } (Z2g (xs,false)).2∧m.kind=k∧m.codes.length≤i∧m.wishes.length≤i∧m.filters.length≤i∧Rst w1 w.heap.size (w.heap.size+1) (w.heap.size+1+1) s' (Z1 m vc vw vf) w'∧N1 w' (w.heap.size+1+1+1) m vc vw vf) ?_ ?_
  ·exact⟨H4.keep ⟨rfl,rfl,rfl,rfl,trivial⟩,_,_,Z2,Z2,Z2,rfl,rfl,Nat.le_refl _,Nat.le_refl _,Nat.le_refl _,R6.is (L':=Z1 { N6 k with id:=((Z2g (xs,false)).1:Int) } Z2 Z2 Z2) rfl rfl,D9 _ _ rfl rfl rfl⟩
  clear H0 H1 H2 H3 H4 R5 R6 R4;rintro i a0 w5 hi ⟨H0,m,s',vc,vw,vf,hL,hkm,hl1,hl2,hl3,R5,hrows⟩;obtain⟨A',c',hcl,c0,_,_,_,_,_,_⟩:=id R5.rd;refine Z8 (fun a w'=>(i<8∧0<s'.1.length)∧Z9 a 185 [(4, .pointer (some ⟨w.heap.size,0,none⟩)),(6, .pointer (some ⟨w.heap.size+1,0,none⟩)),(7, .pointer (some ⟨w.heap.size+1+1,0,none⟩)),(10, .int .i64 (i:Int))]∧w5=w') ?_ ?_
  ·by_cases hlt:i<8
   ·refine H0.rg 1 fun a1 H1=>?_
    refine H1.bb 1 rfl rfl rfl rfl rfl rfl (Q3 _ _ true (by simp;omega) _ _ _) rfl fun a2 H2=>?_;refine H2.move (H2.wt rfl rfl rfl) (.inl rfl) rfl rfl rfl fun a3 H3=>?_;refine H3.go (H3.wt rfl rfl rfl) rfl rfl (.pointer (some ⟨w.heap.size+1,0,none⟩)) (by unfold execOp;simp only[H3.ev (x:=.tmp 27) rfl];rfl) fun a4 H4=>?_;refine H4.go (H4.wt rfl rfl rfl) rfl rfl _ (S3 rfl (H4.ev rfl) (off0:=0) (off:=0) (fun g w=>by kernel_rfl)) fun a5 H5=>?_;refine H5.load (H5.wt rfl rfl rfl) rfl rfl rfl rfl (U8 _ _ _ _ _ _ c0) fun a6 H6=>?_;refine H6.len (H6.wt rfl rfl rfl) rfl rfl rfl rfl Tryz.underlying31 fun a7 H7=>?_;refine H7.bin (H7.wt rfl rfl rfl) rfl rfl rfl rfl rfl (S0 _ _ (decide (0<s'.1.length)) (by simp) _ _ _) fun a8 H8=>?_;refine H8.pick gz rfl rfl rfl rfl rfl fun a9 H9=>nt ?_;refine H9.cond (t:=decide (0<s'.1.length)) rfl ?_;by_cases hp:0<s'.1.length
    ·rw[decide_eq_true hp]
     exact Z3 (Z0 ⟨⟨hlt,hp⟩,H9.keep ⟨rfl,rfl,rfl,rfl,trivial⟩,rfl⟩)
    ·rw[decide_eq_false hp]
     have e:C0 k (8-i) m s'=(m,s'):=by
      cases 8-i with
      |zero=>rfl
      |succ n=>unfold C0;rw[if_neg hp]
     refine wp_exit ?_;repeat (with_reducible refine J7 ?_)
     refine X3 (Z6 (Z0 ⟨H9.keep ⟨rfl,rfl,rfl,trivial⟩, ?_⟩));rw[←hL,e];exact hM _ _ _ _ vc vw vf R5 rfl rfl hrows
   ·have e8:8-i=0:=by omega
    have e:C0 k (8-i) m s'=(m,s'):=by rw[e8];rfl
    refine H0.rg 1 fun a1 H1=>?_;refine H1.bb 1 rfl rfl rfl rfl rfl rfl (Q3 _ _ false (by simp;omega) _ _ _) rfl fun a2 H2=>?_;refine H2.offs 6 rfl fun a8 H8=>?_;refine H8.pick gz rfl rfl rfl rfl rfl fun a9 H9=>nt ?_;refine H9.condF rfl ?_;refine wp_exit ?_;repeat (with_reducible refine J7 ?_)
    refine X3 (Z6 (Z0 ⟨H9.keep ⟨rfl,rfl,rfl,trivial⟩, ?_⟩));rw[←hL,e];exact hM _ _ _ _ vc vw vf R5 rfl rfl hrows
  rintro a1 _ ⟨⟨hlt,hp⟩,H1,rfl⟩;obtain⟨vc',vw',vf',hvc,hvw,hvf⟩:∃a b c,a=vc∧b=vw∧c=vf:=⟨_,_,_,rfl,rfl,rfl⟩;have J5:RJ w w1 s' m vc vw vf w5:=⟨R5,hrows⟩;obtain⟨Ac,cc,rfl,_,_⟩:=V3 hrows.1;obtain⟨Aw,cw,rfl,_,_⟩:=V3 hrows.2.1;obtain⟨Af,cf,rfl,_,_⟩:=V3 hrows.2.2;have hL':=hL;rw[show 8-i=(8-(i+1))+1 by omega,C0,if_pos hp] at hL';refine Z8 (fun a w'=>Z9 a 185 [(4, .pointer (some ⟨w.heap.size,0,none⟩)),(6, .pointer (some ⟨w.heap.size+1,0,none⟩)),(7, .pointer (some ⟨w.heap.size+1+1,0,none⟩)),(10, .int .i64 (i:Int))]∧∃m s' vc vw vf,C0 k (8-(i+1)) m s'=C0 k 8 { N6 k with id:=((Z2g (xs,false)).1:Int) } (Z2g (xs,false)).2∧m.kind=k∧m.codes.length≤i+1∧m.wishes.length≤i+1∧m.filters.length≤i+1∧RJ w w1 s' m vc vw vf w') ?_ ?_
  ·refine wp_block ?_
   refine H1.rg 1 fun a2 H2=>?_;refine H2.ld 0 (R5.li 0) fun a3 H3=>nt ?_;rw[hkm] at H3;refine wp_block ?_;refine H3.rg 0 fun a1 H1=>?_;refine H1.bn 1 (N8 _ _ _ _ _) fun a2 H2=>nt ?_;refine H2.cond (t:=k==8) rfl ?_;cases b8:(k==8) with
   |true=>
    have k8:k=8:=by simpa using b8
    rw[if_pos k8] at hL';obtain⟨⟨y,s5⟩,e5⟩:∃r,S7 s'=r:=⟨_,rfl⟩;obtain⟨⟨x,s6⟩,e6⟩:∃r,Y2n s5=r:=⟨_,rfl⟩;rw[e5] at hL';simp only[e6] at hL';refine H2.rg 1 fun a3 H3=>?_;refine H3.cl (Q1b e5 _ R5.rd) ?_;rintro a4 _ w6 ⟨rfl,h1,h2⟩ H4;have J6:=J5.call h1 h2;refine H4.ms 1 fun a5 H5=>nt ?_;refine H5.sg (RJ w w1 s5 m _ _ _) (J6.below (Below.drew (Below.refl _ _))) [4,6,7,10,11] [ec 0 42 (.pointer (some ⟨w.heap.size+1+1,22,none⟩)),ec 1 43 (.slice Aw m.wishes.length cw),ec 2 44 (.string y),ec 3 45 (.pointer (some ⟨w.heap.size+1,0,none⟩))] rfl ?_;refine St.call 4 ⟨jm,jl fun _ h=>Z0o _ _ _ _ _ _ (h.r.ce.get 22 _ rfl),jm,jm,trivial⟩ (fun wx h=>J6p e6 wx h.r.rd) ?_;rintro wx _ w2 h ⟨b,o,c,rfl,hcx,h3,h4⟩;have hx8:=x.toNat_lt;refine nx (fun w'=>RJ w w1 s6 m _ _ _ w'∧w'.cell? ⟨b,o+0,none⟩=some (.int .u8 (x.toNat:Int))) [ec 5 47 (.pointer (some ⟨b,o+0,none⟩)),ec 6 48 (.int .u8 (x.toNat:Int)),ec 7 49 (.int .i64 (x.toNat:Int)),ec 8 50 (.agg #[.string y, .int .i64 (x.toNat:Int)])] [] ⟨h.call h3 h4,hcx⟩ ?_;refine St.val 9 ⟨jI rfl rfl rfl rfl rfl rfl fun _=>U7 31 Tryz.underlying31 (fun _=>by kernel_rfl) b o 1 c 0 (by decide) _,jl fun _ h=>U3 _ _ _ _ h.2,jc fun _=>Y0a _ (by omega) (by omega) _,ja fun _=>by kernel_rfl,jm,jl fun _ h=>Z0o _ _ _ _ _ _ (h.1.r.ce.get 22 _ rfl),jm,trivial⟩ ?_;intro a wx H _ h;refine⟨.slice (some ⟨wx.heap.size,0,none⟩) 1 1,wx.alloc (.cells (wv [(y,(x.toNat:Int))]).toArray 161),Z0f H (by intro cs b h;cases h) (by kernel_rfl) (by kernel_rfl), ?_⟩;generalize hgl:wx.heap.size=gl;refine nx (fun w'=>RJ w w1 s6 m _ _ _ w'∧X4 w' w'.heap.size 2 (some ⟨gl,0,none⟩) 1 (wv [(y,(x.toNat:Int))])) [] [] ⟨h.1.below (G0 _ _),by subst hgl;exact X4.lit wx 161 _ (0,0) 2 1 rfl⟩ ?_;refine St.app 10 Y2p ⟨jm,jl fun _ h=>Z0o _ _ _ _ _ _ (h.1.r.ce.get 22 _ rfl),trivial⟩ (fun _ h=>⟨h.1.rows.2.1,h.2,h.1.le⟩) (X5d _) (X1j (by omega)) ?_;intro wx A' c' w' h hO hg;refine nx (fun w'=>∃wx,RJ w w1 s6 m _ _ _ wx∧wx.grownBy w' (Value.slice Aw m.wishes.length cw).ownBlock∧w'.ownsRow _ _ _ (.slice A' (m.wishes.length+1) c') _ _) [ec 11 53 (.pointer (some ⟨w.heap.size+1+1,22,none⟩))] [] ⟨wx,h.1,hg,hO⟩ ?_;refine St.sto 12 ⟨jm,trivial⟩ ?_;rintro a wx H _ ⟨wy,h,hg,hO⟩;have hR:=h.cells h.rows.2.1 hg;refine⟨_,Q6 rfl (H.ev rfl) (H.ev rfl) (Y2y _ _ _ _ _ _ _ (hR.ce.get 22 _ rfl) (hR.ce.fr 22 rfl)), ?_⟩;refine nx0 (RJ w w1 s6 { m with wishes:=m.wishes++[(y,(x.toNat:Int))] } _ _ _) [] [] (h.wish hg hO) ?_;refine St.fin trivial ?_;intro a w' H _ h;repeat (first |(with_reducible refine Z6 ?_) |(with_reducible refine Z0 ?_))
    refine⟨H.keep ⟨rfl,rfl,rfl,rfl,trivial⟩,_,_,_,_,_,hL',hkm, ?_, ?_, ?_,h⟩
    ·show m.codes.length≤_;omega
    ·show (m.wishes++_).length≤_;simp;omega
    ·show m.filters.length≤_;omega
   |false=>
   have k8:=S8 b8;rw[if_neg k8] at hL';refine H2.rg 0 fun a1 H1=>?_;refine H1.bn 1 (N8 _ _ _ _ _) fun a2 H2=>nt ?_;refine H2.cond (t:=k==9) rfl ?_;cases b9:(k==9) with
   |true=>
    have k9:k=9:=by simpa using b9
    rw[if_pos k9] at hL';obtain⟨⟨x,s6⟩,e6⟩:∃r,Y2n s'=r:=⟨_,rfl⟩;simp only[e6] at hL';refine H2.sg (RJ w w1 s' m _ _ _) (J5.below (Below.drew (Below.refl _ _))) [4,6,7,10] [ec 0 56 (.pointer (some ⟨w.heap.size+1+1,15,none⟩)),ec 1 57 (.slice Ac m.codes.length cc),ec 2 58 (.pointer (some ⟨w.heap.size+1,0,none⟩))] rfl ?_;refine St.call 3 ⟨jm,jl fun _ h=>D7 _ _ _ _ _ _ (h.r.ce.get 15 _ rfl),jm,trivial⟩ (fun wx h=>J6p e6 wx h.r.rd) ?_;rintro wx _ w2 h ⟨b,o,c,rfl,hcx,h3,h4⟩;have hx8:=x.toNat_lt;refine nx (fun w'=>RJ w w1 s6 m _ _ _ w'∧w'.cell? ⟨b,o+0,none⟩=some (.int .u8 (x.toNat:Int))) [ec 4 60 (.pointer (some ⟨b,o+0,none⟩)),ec 5 61 (.int .u8 (x.toNat:Int)),ec 6 62 (.int .i64 (x.toNat:Int))] [] ⟨h.call h3 h4,hcx⟩ ?_;refine St.val 7 ⟨jI rfl rfl rfl rfl rfl rfl fun _=>U7 31 Tryz.underlying31 (fun _=>by kernel_rfl) b o 1 c 0 (by decide) _,jl fun _ h=>U3 _ _ _ _ h.2,jc fun _=>Y0a _ (by omega) (by omega) _,jm,jl fun _ h=>D7 _ _ _ _ _ _ (h.1.r.ce.get 15 _ rfl),trivial⟩ ?_;intro a wx H _ h;refine⟨.slice (some ⟨wx.heap.size,0,none⟩) 1 1,wx.alloc (.cells [iv (x.toNat:Int)].toArray 3),Z0f H (by intro cs b h;cases h) (by kernel_rfl) (by kernel_rfl), ?_⟩;generalize hgl:wx.heap.size=gl;refine nx (fun w'=>RJ w w1 s6 m _ _ _ w'∧X4 w' w'.heap.size 1 (some ⟨gl,0,none⟩) 1 [iv (x.toNat:Int)]) [] [] ⟨h.1.below (G0 _ _),by subst hgl;exact X4.lit wx 3 _ (0,0) 1 1 rfl⟩ ?_;refine St.app 8 Y5y ⟨jm,jl fun _ h=>D7 _ _ _ _ _ _ (h.1.r.ce.get 15 _ rfl),trivial⟩ (fun _ h=>⟨h.1.rows.1,h.2,h.1.le⟩) (X5b _) ⟨(X1j (by omega)).1,by omega⟩ ?_;intro wx A' c' w' h hO hg;refine nx (fun w'=>∃wx,RJ w w1 s6 m _ _ _ wx∧wx.grownBy w' (Value.slice Ac m.codes.length cc).ownBlock∧w'.ownsRow _ _ _ (.slice A' (m.codes.length+1) c') _ _) [ec 9 65 (.pointer (some ⟨w.heap.size+1+1,15,none⟩))] [] ⟨wx,h.1,hg,hO⟩ ?_;refine St.sto 10 ⟨jm,trivial⟩ ?_;rintro a wx H _ ⟨wy,h,hg,hO⟩;have hR:=h.cells h.rows.1 hg;refine⟨_,Q6 rfl (H.ev rfl) (H.ev rfl) (Y2x _ _ _ _ _ _ _ (hR.ce.get 15 _ rfl) (hR.ce.fr 15 rfl)), ?_⟩;refine nx0 (RJ w w1 s6 { m with codes:=m.codes++[(x.toNat:Int)] } _ _ _) [] [] (h.code hg hO) ?_;refine St.fin trivial ?_;intro a w' H _ h;repeat (first |(with_reducible refine Z6 ?_) |(with_reducible refine Z0 ?_))
    refine⟨H.keep ⟨rfl,rfl,rfl,rfl,trivial⟩,_,_,_,_,_,hL',hkm, ?_, ?_, ?_,h⟩
    ·show (m.codes++_).length≤_;simp;omega
    ·show m.wishes.length≤_;omega
    ·show m.filters.length≤_;omega
   |false=>
   have k9:=S8 b9;rw[if_neg k9] at hL';refine H2.rg 0 fun a1 H1=>?_;refine H1.bn 1 (N8 _ _ _ _ _) fun a2 H2=>nt ?_;refine H2.cond (t:=k==10) rfl ?_;cases b10:(k==10) with
   |true=>
    have k10:k=10:=by simpa using b10
    rw[if_pos k10] at hL';obtain⟨⟨y,s6⟩,e6⟩:∃r,S7 s'=r:=⟨_,rfl⟩;simp only[e6] at hL';refine H2.sg (RJ w w1 s' m _ _ _) (J5.below (Below.drew (Below.refl _ _))) [4,6,7,10] [ec 0 68 (.pointer (some ⟨w.heap.size+1+1,23,none⟩)),ec 1 69 (.slice Af m.filters.length cf),ec 2 70 (.pointer (some ⟨w.heap.size+1,0,none⟩))] rfl ?_;refine St.call 3 ⟨jm,jl fun _ h=>S6 _ _ _ _ _ _ (h.r.ce.get 23 _ rfl),jm,trivial⟩ (fun wx h=>Q1b e6 wx h.r.rd) ?_;rintro wx _ w2 h ⟨rfl,h3,h4⟩;refine nx (RJ w w1 s6 m _ _ _) [] [] (h.call h3 h4) ?_;refine St.val 4 ⟨jm,jl fun _ h=>S6 _ _ _ _ _ _ (h.r.ce.get 23 _ rfl),trivial⟩ ?_;intro a wx H _ h;refine⟨.slice (some ⟨wx.heap.size,0,none⟩) 1 1,wx.alloc (.cells [sv y].toArray 9),Z0f H (by intro cs b h;cases h) (by kernel_rfl) (by kernel_rfl), ?_⟩;generalize hgl:wx.heap.size=gl;refine nx (fun w'=>RJ w w1 s6 m _ _ _ w'∧X4 w' w'.heap.size 1 (some ⟨gl,0,none⟩) 1 [sv y]) [] [] ⟨h.below (G0 _ _),by subst hgl;exact X4.lit wx 9 _ (0,0) 1 1 rfl⟩ ?_;refine St.app 5 Z9e ⟨jm,jl fun _ h=>S6 _ _ _ _ _ _ (h.1.r.ce.get 23 _ rfl),trivial⟩ (fun _ h=>⟨h.1.rows.2.2,h.2,h.1.le⟩) (X5c _) ⟨(X1j (by omega)).1,by omega⟩ ?_;intro wx A' c' w' h hO hg;refine nx (fun w'=>∃wx,RJ w w1 s6 m _ _ _ wx∧wx.grownBy w' (Value.slice Af m.filters.length cf).ownBlock∧w'.ownsRow _ _ _ (.slice A' (m.filters.length+1) c') _ _) [ec 6 74 (.pointer (some ⟨w.heap.size+1+1,23,none⟩))] [] ⟨wx,h.1,hg,hO⟩ ?_;refine St.sto 7 ⟨jm,trivial⟩ ?_;rintro a wx H _ ⟨wy,h,hg,hO⟩;have hR:=h.cells h.rows.2.2 hg;refine⟨_,Q6 rfl (H.ev rfl) (H.ev rfl) (Y2z _ _ _ _ _ _ _ (hR.ce.get 23 _ rfl) (hR.ce.fr 23 rfl)), ?_⟩;refine nx0 (RJ w w1 s6 { m with filters:=m.filters++[y] } _ _ _) [] [] (h.filt hg hO) ?_;refine St.fin trivial ?_;intro a w' H _ h;repeat (first |(with_reducible refine Z6 ?_) |(with_reducible refine Z0 ?_))
    refine⟨H.keep ⟨rfl,rfl,rfl,rfl,trivial⟩,_,_,_,_,_,hL',hkm, ?_, ?_, ?_,h⟩
    ·show m.codes.length≤_;omega
    ·show m.wishes.length≤_;omega
    ·show (m.filters++_).length≤_;simp;omega
   |false=>
    rw[if_neg (S8 b10)] at hL';refine Z3 ?_;repeat (first |(with_reducible refine Z6 ?_) |(with_reducible refine Z0 ?_))
    exact⟨H2.keep ⟨rfl,rfl,rfl,rfl,trivial⟩,_,_,_,_,_,hL',hkm,by omega,by omega,by omega,J5⟩
  clear J5 R5 hrows hL hL' H1 H0;rintro a0 wx ⟨H0,m,s',vc,vw,vf,hL,hkm,hl1,hl2,hl3,J⟩;refine H0.rg 1 fun a1 H1=>?_;refine H1.bb 1 rfl rfl rfl rfl rfl rfl (E7 i (by omega) _ _ _) rfl fun a2 H2=>nt ?_;exact⟨hlt,H2.keep ⟨rfl,rfl,rfl,rfl,trivial⟩,m,s',vc,vw,vf,hL,hkm,hl1,hl2,hl3,J.r,J.rows⟩
 clear hM R4 H13;generalize Z2u k f (xs,false)=r;rintro a0 wx ⟨H0,hR,hG,vc,vw,vf,hC,hrows⟩;have hL0:X5 wx w.heap.size (Z1 (N6 0) Z2 Z2 Z2):=hC1.kept hG (by omega) (by intro e;injection e with e;omega);obtain⟨A',c',hcl,c0,c1,_,_,hrb,_,hgl⟩:=id hR;have hload:∀w',wx.grownBy w' (some w.heap.size)→(Instr.loadAt 49 (.pointer (some ⟨w.heap.size+1+1,0,none⟩))).run Tryz.prog w' = .ok (.agg (Z1 r.1 vc vw vf).toArray) w':=fun w' h=>
  run_loadAt_mid w' _ 0 49 _ _ (fun j v hv=>by rw[Nat.zero_add];exact h.cell (hC j v hv).1 (by intro e;injection e with e;exact absurd (show w.heap.size+1+1=w.heap.size from e) (by omega))) Tryz.underlying49 rfl size_mq
 have hbad:∀w',wx.grownBy w' (some w.heap.size)→(Instr.loadAt 4 (.pointer (some ⟨w.heap.size+1,1,none⟩))).run Tryz.prog w' = .ok (.bool r.2.2) w':=fun w' h=>
  V0 _ _ _ _ (h.cell c1 (by intro e;injection e with e;exact absurd (show w.heap.size+1=w.heap.size from e) (by omega)))
 refine H0.dg [6] (fun w'=>wx.grownBy w' (some w.heap.size)) (fun fl w'=>X5 w' w.heap.size (bif fl.headD false then Z1 r.1 vc vw vf else Z1 (N6 0) Z2 Z2 Z2)) [4,6,7] rfl [ec 0 179 (.agg (Z1 r.1 vc vw vf).toArray),ec 1 180 (.pointer (some ⟨w.heap.size+1,0,none⟩)),ec 2 181 (.pointer (some ⟨w.heap.size+1,0,none⟩)),ec 3 182 (.pointer (some ⟨w.heap.size+1,1,none⟩)),ec 4 183 (.bool r.2.2),ec 5 184 (.bool (!r.2.2)),ec 7 5 (.bool (!r.2.2))] [6] rfl (X2 (Below.drew (Below.refl _ _)) _) hL0 ⟨jl hload,jm,jm,jf (off0:=0) (off:=1) (fun _ _=>by kernel_rfl),jl hbad,ju,jm,trivial⟩ trivial ?_ ?_
 ·intro listed aa ww i o hs hni hcl ho hd hI hh
  rcases hh with hh |rfl |hh
  ·exact False.elim hh
  ·obtain rfl:=U2 ho rfl
   have HH:Z9 aa 185 _:=Z9.of hI.sz hI.df (W7.app hI.fx (Z2c hI hd fun _ h=>h));have hW:X5 ww w.heap.size (Z1 (N6 0) Z2 Z2 Z2):=by
    have:=hI.wp.2;simp only[List.map_cons,List.map_nil,hni,List.headD_cons,cond_false] at this;exact this
   refine Y2h ho gz rfl _ _ _ rfl w.heap.size (HH.ev rfl) (Z1 r.1 vc vw vf) (HH.ev rfl) hW 24 size_mq rfl rfl (Y0s _ (L7 hrows.1) (L7 hrows.2.1) (L7 hrows.2.2)) ?_;intro w' hg hs' hC';exact hI.pd hs 6 (hI.wp.1.trans hg) hC' trivial
  ·exact False.elim hh
 ·intro listed a w' hall hI
  have H1:Z9 a 185 [(4, .pointer (some ⟨w.heap.size,0,none⟩)),(5, .bool (!r.2.2))]:=Z9.of hI.sz hI.df ⟨hI.fx.1,hI.vs _ (ma 6 rfl) (.inr (hall 7 (by decide))) trivial,trivial⟩;refine Z0 (wp_ret (bodyPost_ret (Y0u rfl _ _ (H1.at_ 4 _ rfl) hI.wp.2 Tryz.underlying49 rfl 24 size_mq rfl _ (H1.at_ 5 _ rfl)) H1.df ?_));exact Q3m hb1 hs1 hG hrows hI.wp.1
end
section
open Go.ChangeShapes Go.WideShapes Go.ChangeAt Go.RowKit Go.Deep
theorem J6q:ownKnob Tryz.prog.godebug=none:=by kernel_rfl
theorem J6r:laidOutB Tryz.prog=true:=by kernel_rfl
section
variable {H:Type}{enc:TypeId×Value→H}{P:Program}
theorem Y7n {f:Func}{s:ChangeSpec}{apart fresh handsOn again:Bool}{W W':World}{args:Array Value}{v:Value}{ds gs:List (DataW H)}{before pa pv:List MemPlace}
  (hW:DataW.Whole enc P f.params.toList s.vars apart W args.toList ds gs before)
  (hres:∀(b:Nat) (sp:Nat→Bool) (hd:Bool),DataW.TrodAll enc P W' b sp hd f.resultTypes.toList (v.resultList f.resultTypes.size) (s.fn H (ds++gs)).results [])
  (hargs:∀sp:Nat→Bool,(∀p∈before,sp p.block=true)→DataW.TrodAll enc P W' 0 sp true f.params.toList args.toList (s.fn H (ds++gs)).args pa)
  (hvars:∀sp:Nat→Bool,(∀p∈before,sp p.block=true)→DataW.TrodVars enc P W' sp s.vars (s.fn H (ds++gs)).vars pv)
  (hps:before=pa++pv) (hb:Below W.heap.size W W')
  (hok:∀(j:Nat) (t:TypeId) (r:Value),f.resultTypes[j]? = some t→(v.resultList f.resultTypes.size)[j]? = some r→Value.okWide P W' .any 0 t r):
  s.post enc P f apart fresh handsOn again W args v W':=by
 have hlt:∀p∈before,p.block<W.heap.size:=fun p hp=>hW.lt p hp;have hold:∀p∈before,(fun b=>decide (b<W.heap.size)) p.block=true:=fun p hp=>by simpa using hlt p hp
 refine⟨ds,gs,before,[],pa,pv,hW,hres _ _ _,hargs _ hold,hvars _ hold,World.keptBut_mono (fun p hp=>⟨hp, ?_⟩) (hb.frame (· ∈ before)),fun _=>?_⟩
 ·rw[hps,List.mem_append] at hp
  exact Or.inr hp
 ·obtain⟨_,_,_,_,_,hz,hn⟩:=hW
  refine⟨hok,_,_,([]++pa)++pv,⟨[]++pa,pv,trodAll_append (hargs _ (fun _ _=>rfl)) (hres _ _ _),hvars _ (fun _ _=>rfl),rfl, ?_, ?_⟩, ?_⟩
  ·intro b off hp
   have hin:MemPlace.cell b off∈before:=by rw[hps];simpa using hp
   rw[hb.frozen (hlt _ hin)];exact hz b off hin
  ·intro ha
   have:=hn ha;rw[hps] at this
   simpa using this
  ·intro p hp _
   rw[hps]
   simpa using hp
end
def Q5x {H:Type}(enc:TypeId×Value→H) (W:World) (T:TypeId) (v:Value) (d:DataW H) (p:List MemPlace):Prop:=
 DataW.Trod enc Tryz.prog W 0 (fun _=>true) true T v d p∧(∃base,Value.okWide Tryz.prog W .any base T v)∧(DataW.weightsEach Tryz.prog [T] [d]).all (· ≤ reachBytes)=true
section
theorem J6s {P:Program}{fn:Func}{W:World}{base:Nat}{T:TypeId}{args:Array Value}{v:Value}(hp:fn.params = #[T]) (ha:args[0]? = some v)
  (h:∀(j:Nat) t v,fn.params[j]? = some t→args[j]? = some v→Value.okWide P W .any base t v):∃base,Value.okWide P W .any base T v:=⟨base,h 0 T v (by rw[hp];rfl) ha⟩
theorem Q0b {P:Program}{W:World}{Tb:TypeId}(hb:P.underlying Tb=some .bool):∀(j:Nat) (t:TypeId) (r:Value),#[Tb][j]? = some t→((Value.bool true).resultList 1)[j]? = some r→Value.okWide P W .any 0 t r:=by
 intro j t r hj hr'
 match j,hj,hr' with
 |0,hj,hr'=>
  simp[Value.resultList] at hj hr';subst hj;subst hr';exact okWide_bool_mk hb true
 |j+1,hj,_=>simp at hj
theorem J1t {C:Checked}{K:FuncId}{fn:Func}{T Tb:TypeId}{s:ChangeSpec}{lay:List (String×DataW Unit)}(own:ownKnob C.prog.godebug=none) (hlo:laidOutB C.prog=true) (hK:C.prog.funcs[K]? = some fn) (hp:fn.params = #[T]) (hr:fn.resultTypes = #[Tb]) (hb:C.prog.underlying Tb=some .bool)
  (hvars:s.vars=[]) (hfn:∀(H:Type) (d:DataW H),s.fn H [d]={ results:=[.lit (.bool true)],args:=[d] })
  (hT:C.prog.readableRec T=true) (hTs:T<C.prog.types.size) (noInit:C.prog.inits.idxOf? K=none)
  (walk:∀(H:Type) (enc:TypeId×Value→H) (W:World) (v:Value) (d:DataW H) (p:List MemPlace),DataW.Trod enc C.prog W 0 (fun _=>true) true T v d p→(∃base,Value.okWide C.prog W .any base T v)→(DataW.weightsEach C.prog [T] [d]).all (· ≤ reachBytes)=true→laidMetH C.prog lay W→Calls C.prog K #[v] W fun e W'=>e = .returned (.bool true)∧Below W.heap.size W W')
  (os:Os) (started:os.Started) (H:Type) (enc:TypeId×Value→H)
  (witness:∃(w:World) (tape:Tape) (i:Input),w.os=os∧(w.forCall tape i).Shaped C.prog∧i.vars=[]∧Input.okWide C.prog (w.forCall tape i) .any w.heap.size K i ∧
   ((s.pre enc C.prog fn [] false (w.forCall tape i).memory i.args∧laidMetH C.prog lay (w.forCall tape i).memory)∧sizedMet enc C.prog fn (OpenSpec.ofChange s) false (w.forCall tape i).memory i.args)∧({}:Assume).holds C.prog (lone (Frame.enter C.prog K i.args .normal) [] (w.forCall tape i))):
  ReturnsInHanded {} C os K .any (fun w args=>(s.pre enc C.prog fn [] false w args∧laidMetH C.prog lay w)∧sizedMet enc C.prog fn (OpenSpec.ofChange s) false w args) (s.post enc C.prog fn false true false false):=by
 refine returnsInHanded_of_change_and (X:=fun w _=>laidMetH C.prog lay w) (fun _ _ _ hh h=>h.of_heap hh) own started noInit hK witness ?_;intro W base args ds gs before hval0 hW _ hsz0 hL _;have hW':=hW;obtain⟨p,q,hA,hV,rfl,_,_⟩:=hW;rw[hvars] at hV;obtain⟨rfl,rfl⟩:=trodVars_none hV;rw[hp] at hA;obtain⟨v,d,ha,rfl,h0⟩:=trodAll_one hA;subst ha;have hsz:(DataW.weightsEach C.prog [T] [d]).all (· ≤ reachBytes)=true:=by
  have h:(DataW.weightsEach C.prog (fn.params.toList++s.plain.varTypes C.prog) ([d]++[])).all (· ≤ reachBytes)=true:=hsz0;rw[hp] at h
  simpa [DataSpec.varTypes,ChangeSpec.plain,hvars] using h
 have hlt:∀x∈p,x.block<W.heap.size:=fun x hx=>hW'.lt x (by simpa using hx);refine(walk H enc W v d p h0 (J6s hp rfl hval0) hsz hL).mono fun e W' ⟨he,hbl⟩=>?_;refine⟨_,he,Y7n (pa:=p) (pv:=[]) hW' ?_ ?_ ?_ (by simp) hbl ?_⟩
 ·intro b sp hd
  rw[hr,List.append_nil,hfn];exact trodAll_mk1 (shut_bool hb true)
 ·intro sp hsp
  rw[hp,List.append_nil,hfn];exact trodAll_mk1 (WideElems.Trod_stays hlo hT hTs h0 (fun x hx=>hbl.same (hlt x hx)) (fun x hx=>hsp x (by simpa using hx)))
 ·intro sp _
  rw[hvars,List.append_nil,hfn];rfl
 ·rw[hr]
  exact Q0b hb
end
end
section
open Go.ChangeShapes Go.WideShapes Go.ChangeAt Go.RowKit Go.Deep
theorem J6t:Tryz.prog.cellsOf 5=1:=by kernel_rfl
theorem Q0c {n:Int}(h:(Lit.int .u8 n).wf=true):∃x:UInt8,n=(x.toNat:Int):=by
 have h1:IntKind.u8.min=0:=rfl;have h2:IntKind.u8.max=255:=rfl;simp only[Lit.wf,Bool.and_eq_true,decide_eq_true_eq] at h;refine⟨UInt8.ofNat n.toNat, ?_⟩;rw[UInt8.toNat_ofNat'];omega
def Fit {H:Type}(t:TypeId) (d:DataW H):Prop:=∀n∈DataW.weights Tryz.prog t d,n≤140737488351232
theorem Fit.of {H:Type}{T:TypeId}{d:DataW H}(h:(DataW.weightsEach Tryz.prog [T] [d]).all (· ≤ reachBytes)=true):Fit T d:=by
 intro n hn;have:=List.all_eq_true.1 h n (DataW.weights_mem_each (j:=0) rfl rfl n hn);have h2:n≤reachBytes:=by simpa using this
 exact h2
theorem Fit.slice {H:Type}{t e:TypeId}{elems spare:List (DataW H)}(h:Fit t (.slice elems spare)) (ht:Tryz.prog.underlying t=some (.slice e)):
  (elems.length+spare.length)*Tryz.prog.bytesOf e≤140737488351232∧∀x∈elems,Fit e x:=by
 have hw:DataW.weights Tryz.prog t (.slice elems spare)=(elems.length+spare.length)*Tryz.prog.bytesOf e::(DataW.weightsAll Tryz.prog e elems++DataW.weightsAll Tryz.prog e spare):=by
  simp[DataW.weights,ht]
 unfold Fit at h;rw[hw] at h;refine⟨h _ (by simp),fun x hx n hn=>h n ?_⟩;have:∀l:List (DataW H),x∈l→n∈DataW.weightsAll Tryz.prog e l:=by
  intro l
  induction l with
  |nil=>intro h;cases h
  |cons a r ih=>
   intro h;simp only[DataW.weightsAll,List.mem_append];rcases List.mem_cons.1 h with rfl |h
   ·exact Or.inl hn
   ·exact Or.inr (ih h)
 simp[this elems hx]
theorem Fit.struct {H:Type}{t:TypeId}{fs:Array Field}{ys:List (DataW H×List MemPlace)}(h:Fit t (.agg (ys.map (·.1)))) (ht:Tryz.prog.underlying t=some (.struct fs)) (j:Nat) (f:Field) (hf:fs[j]? = some f) (y:DataW H×List MemPlace) (hy:ys[j]? = some y):Fit f.type y.1:=by
 intro n hn;refine h n ?_;have hw:DataW.weights Tryz.prog t (.agg (ys.map (·.1)))=DataW.weightsEach Tryz.prog (fs.toList.map (·.type)) (ys.map (·.1)):=by simp[DataW.weights,ht]
 rw[hw];refine DataW.weights_mem_each (j:=j) (t:=f.type) (d:=y.1) ?_ ?_ n hn
 ·rw[List.getElem?_map]
  simp[hf]
 ·rw[List.getElem?_map,hy];rfl
theorem J6u:Tryz.prog.bytesOf 5=1:=by kernel_rfl
section
variable {H:Type}{enc:TypeId×Value→H}{W:World}
theorem X7c {zs:List Int}(h:∀n∈zs,(Lit.int .u8 n).wf=true):∃xs:List UInt8,zs=xs.map (fun x=>(x.toNat:Int)):=by
 induction zs with
 |nil=>exact⟨[],rfl⟩
 |cons z zs ih=>
  obtain⟨xs,rfl⟩:=ih (fun n hn=>h n (List.mem_cons_of_mem _ hn));obtain⟨x,hx⟩:=Q0c (h z (List.mem_cons_self ..));exact⟨x::xs,by rw[hx];rfl⟩
theorem Y7d {n:Nat}{cs:List Value}{x:DataW H×List MemPlace}(hfit:Fit 31 x.1) (h:DataW.trod enc Tryz.prog W 0 (fun _=>true) true n 31 cs=some x):
  ∃(xs:List UInt8) (A:Option Addr) (c:Nat),cs=[.slice A xs.length c]∧xs.length≤c∧c≤140737488351232∧RB W W.heap.size A xs:=by
 rcases open_ints Tryz.underlying31 Tryz.underlying5 J6t h with⟨hcs,_⟩ |⟨a,len,cap,zs,hcs,_,hl,_,hz,hxe,hc,hw⟩
 ·exact⟨[],none,0,hcs,by simp,by simp,RB.nil⟩
 ·obtain⟨xs,rfl⟩:=X7c hw
  simp only[if_true,List.length_map] at hz;have hm:cap≤140737488351232:=by
   rw[hxe] at hfit;have:=(hfit.slice Tryz.underlying31).1;rw[J6u] at this;simp[lits] at this;omega
  refine⟨xs.take len,some a,cap, ?_, ?_,hm, ?_, ?_⟩
  ·rw[hcs,List.length_take,Nat.min_eq_left (by omega)]
  ·rw[List.length_take];omega
  ·simp
  ·intro hn
   rw[List.length_take] at hn;have h0:=hc 0 (by simp;omega);have hlt:a.block<W.heap.size:=by
    have:=World.block_lt_of_cell? W _ h0
    rwa [Z0e] at this
   refine⟨a,rfl,hlt, ?_⟩;intro j u hu;have hj:j<(xs.take len).length:=by
    rcases Nat.lt_or_ge j (xs.take len).length with h1 |h1
    ·exact h1
    ·rw[List.getElem?_eq_none (by simpa using h1)] at hu;cases hu
   rw[List.length_take] at hj;have hjx:j<xs.length:=by omega
   rw[hc j (by simpa using hjx)];rw[List.getElem?_map,List.getElem?_take_of_lt (by omega),List.getElem?_eq_getElem hjx] at hu;simp only[Option.map_some,Option.some.injEq] at hu;rw[←hu];simp[List.getD,List.getElem?_eq_getElem hjx]
end
theorem X7d {P:Program}{W:World}{T:TypeId}{fs:Array Field}{v:Value}(ht:P.underlying T=some (.struct fs)) (h:∃base,Value.okWide P W .any base T v):∃cs,v = .agg cs∧cs.size=P.cellsOf T:=by
 obtain⟨b,hv⟩:=h;unfold Value.okWide at hv;rw[ht] at hv;obtain⟨cs,h1,h2,_⟩:=hv;exact⟨cs,h1,h2⟩
end
section
open Go.RowKit
theorem J1u (l:List (ByteArray×Int)) (n:Nat) (hl:l.length=n) (hfit:∀s∈l,Y0c s.1) (A:Option Addr) (c:Nat) (hn:n≤140737488351232) (w:World) (hT:Wd w) (hr:X4 w w.heap.size 2 A n (wv l)):
  Calls Tryz.prog 75 #[.slice A n c] w fun e w'=>e = .returned (.bool (E8 l))∧Below w.heap.size w w':=by
 have HF:=Lib.hid (show Q4 (l.drop 0)=Q4 l from rfl);have KW:=Lib.hid (fun x w1=>Z9s x 2 w1);have HO:=Lib.hid (show E8 l=(Q4 l&&V6 n 1 8) by unfold E8;rw[hl]);generalize E8 l=Z at *;have HL:=Lib.hid hl;have HFit:=Lib.hid hfit;have HR:=Lib.hid hr;have HT:=Lib.hid hT;clear hl hfit hr hT;by_cases h1:(n:Int)<1
 ·have HP:Hid (V6 n 1 8=false):=Lib.hid (by unfold V6;rw[decide_eq_false (by omega)];rfl)
  go_enter Tryz.func75,Tryz.ntmps75
  go_wp2
  go_ret
  exact⟨by rw[HO.out,HP.out,Bool.and_false];rfl,Below.refl _ _⟩
 by_cases h8:(8:Int)<n
 ·have HP:Hid (V6 n 1 8=false):=Lib.hid (by unfold V6;rw[decide_eq_false (show ¬(n:Int)≤8 by omega),Bool.and_false])
  go_enter Tryz.func75,Tryz.ntmps75
  go_wp2
  go_ret
  exact⟨by rw[HO.out,HP.out,Bool.and_false];rfl,Below.refl _ _⟩
 have HP:Hid (V6 n 1 8=true):=Q5.2 ⟨by omega,by omega⟩;go_enter Tryz.func75,Tryz.ntmps75
 go_wp2
 go_loopw [3] (fun i wr=>∃k:Nat,i = .int .i64 k∧k≤n∧Below w.heap.size w wr∧Hid (Q4 (l.drop k)=Q4 l)) (fun i _=>n-(intOf i).toNat)
 case atStart=>exact⟨0,rfl,Nat.zero_le _,Below.refl _ _,HF⟩
 case round=>
  obtain⟨k,rfl,hk,hb,hf⟩:=hrel;by_cases hlt:k<n
  ·obtain⟨b,o,rfl,hblt,hcv⟩:=(HR.out.below hb).get2 hlt
   obtain⟨x,hx⟩:∃x,l[k]? = some x:=⟨l[k]'(by rw[HL.out];omega),List.getElem?_eq_getElem _⟩;obtain⟨g0,g1⟩:=Y0o l k x hx;have cv0:=hcv 0 _ (by omega) g0;have cv1:=hcv 1 _ (by omega) g1;rw[Nat.add_zero] at cv0;have hd:=Y4i hx;have hf2:=hf.out;rw[hd,Q4] at hf2;have HB:=Lib.hid hb;have K:=Lib.hid (Z7h x.1 (HFit.out x (List.mem_of_getElem? hx)) 1 64 wr (HT.out.below HB.out));have hlt2:b<wr.heap.size:=Nat.lt_of_lt_of_le hblt hb.size;have HLT2:=Lib.hid hlt2;have CV1:=Lib.hid cv1;have K2:=Lib.hid (fun w1=>KW.out x.2 w1);clear cv1 hlt2 hblt;cases h1:G3 x.1 1 64 with
   |true=>
    rw[h1] at K hf2;cases h2:V6 x.2 0 2 with
    |true=>
     rw[h2] at K2 hf2;have HQ:Hid (Q4 (l.drop (k+1))=Q4 l):=hf2;clear hx hd hf2 hf hb h1 h2 g0 g1 hcv
     go_wp2_with (first
      |(go_at_call 71;(with_reducible refine K.out.mono ?_);rintro _ w2 ⟨rfl,hb2⟩;have HB2:=Lib.hid (HB.out.trans (hb2.mono HB.out.size));have c1:=(T6 hb2 HLT2.out).trans CV1.out;clear hb2)
      |(go_at_call 24;(with_reducible refine(K2.out _).mono ?_);rintro _ w3 ⟨rfl,rfl⟩))
     go_roundw
     case rel=>exact⟨k+1,by go_num,by omega,HB2.out,HQ⟩
     case measure=>simp[intOf];omega
    |false=>
     rw[h2] at K2 hf2;have HQ:Hid (Q4 l=false):=hf2.symm;clear hx hd hf2 hf hb h1 h2 g0 g1 hcv
     go_wp2_with (first
      |(go_at_call 71;(with_reducible refine K.out.mono ?_);rintro _ w2 ⟨rfl,hb2⟩;have HB2:=Lib.hid (HB.out.trans (hb2.mono HB.out.size));have c1:=(T6 hb2 HLT2.out).trans CV1.out;clear hb2)
      |(go_at_call 24;(with_reducible refine(K2.out _).mono ?_);rintro _ w3 ⟨rfl,rfl⟩))
     go_ret
     exact⟨by rw[HO.out,HQ.out];rfl,HB2.out⟩
   |false=>
    rw[h1] at K hf2;have HQ:Hid (Q4 l=false):=hf2.symm;clear hx hd hf2 hf hb h1 g0 g1 hcv
    go_wp2_with (go_at_call 71;(with_reducible refine K.out.mono ?_);rintro _ w2 ⟨rfl,hb2⟩;have HB2:=Lib.hid (HB.out.trans (hb2.mono HB.out.size));clear hb2)
    go_ret
    exact⟨by rw[HO.out,HQ.out];rfl,HB2.out⟩
  ·have HQ:Hid (Q4 l=true):=by
    have:=hf.out;rw[List.drop_eq_nil_of_le (by rw[HL.out];omega)] at this;exact this.symm
   clear hf
   go_wp2
   go_ret
   exact⟨by rw[HO.out,HP.out,HQ.out];rfl,hb⟩
end
section
open Go.RowKit
theorem Q5y (a b c d e f g:Bool):((((((a&&b)&&c)&&d)&&e)&&f)&&g)=(a&&(b&&(c&&(d&&(f&&(e&&g)))))):=by
 cases a<;>cases b<;>cases c<;>cases d<;>cases e<;>cases f<;>cases g<;>rfl
theorem J1v (a b:Mq):Mq.same a b=Mq.same b a:=by
 rw[Bool.eq_iff_iff,Y1u,Y1u];exact eq_comm
theorem J6v (m:Mq) (h:(m.qos==0)=true):K9 m=((((((G3 m.topic 1 64&&Q9 (sb m.topic))&&V6 m.qos 0 2)&&decide ((m.payload.size:Int)≤128)) && !m.dup))&&(m.id==0)):=by
 have h0:m.qos=0:=by simpa using h
 unfold K9 Z6n;rw[h0];cases G3 m.topic 1 64<;>cases Q9 (sb m.topic)<;>cases decide ((m.payload.size:Int)≤128)<;>cases m.dup<;>cases (m.id==0)<;>rfl
theorem J6w (m:Mq) (h:(m.qos==0)=false):K9 m=((((G3 m.topic 1 64&&Q9 (sb m.topic))&&V6 m.qos 0 2)&&decide ((m.payload.size:Int)≤128))&&V6 m.id 1 65535):=by
 have h0:¬m.qos=0:=by simpa using h
 unfold K9 Z6n;cases hq:V6 m.qos 0 2 with
 |false=>cases G3 m.topic 1 64<;>cases Q9 (sb m.topic)<;>rfl
 |true=>
  have:=Q5.1 hq;have h1:decide (0<m.qos)=true:=by simp;omega
  rw[h,h1];cases G3 m.topic 1 64<;>cases Q9 (sb m.topic)<;>cases decide ((m.payload.size:Int)≤128)<;>cases V6 m.id 1 65535<;>rfl
theorem X4n (a:Bool) (n:Nat) (c:Bool):(((a&&decide ((1:Int)≤n))&&decide ((n:Int)≤8))&&c)=(a&&(c&&V6 n 1 8)):=by
 unfold V6;cases a<;>cases decide ((1:Int)≤n)<;>cases decide ((n:Int)≤8)<;>cases c<;>rfl
theorem Y7o (l:List Int) (x:Int):G4 (l++[x])=(G4 l&&(V6 x 0 2||(x==128))):=by
 induction l with
 |nil=>simp[G4]
 |cons y l ih=>rw[List.cons_append,G4,G4,ih,Bool.and_assoc]
theorem Y3x (l:List ByteArray) (x:ByteArray):Q2 (l++[x])=(Q2 l&&G3 x 1 64):=by
 induction l with
 |nil=>simp[Q2]
 |cons y l ih=>rw[List.cons_append,Q2,Q2,ih,Bool.and_assoc]
theorem Q3n (m:Mq) (vc vw vf:Value) (w:World) (hL:MqL w w.heap.size m vc vw vf) (hF:Y6r m) (hW:Wd w):
  Calls Tryz.prog 34 #[.agg (Z1 m vc vw vf).toArray] w fun e w'=>e = .returned (.bool (Z4f m))∧Below w.heap.size w w':=by
 obtain⟨A1,c1,A2,c2,A3,c3,rfl,rfl,rfl,l1,l2,l3,k1',k2',k3',r1,r2,r3⟩:=id hL;go_enter Tryz.func34,Tryz.ntmps34;refine Z9.start 289 [(0, .agg (Z1 m (.slice A1 m.codes.length c1) (.slice A2 m.wishes.length c2) (.slice A3 m.filters.length c3)).toArray)] rfl rfl ⟨rfl,trivial⟩ ?_;intro a0 H0;have O0:=X0.start w;refine rl ?_;refine H0.bx O0 1 fun a2 w1 O1 H2=>nt ?_;refine H2.rg 1 fun a3 H3=>?_;refine H3.ld 0 (O1.li 0 0) fun a4 H4=>?_;refine H4.any (w':=w1) gz rfl rfl (.agg (Z1 (N6 m.kind) Z2 Z2 Z2).toArray) (by intro cs b h;cases h) (by kernel_rfl) (by kernel_rfl) ?_;intro a5 H5;refine H5.al O1 0 Z0v fun a6 w2 O2 H6=>?_;refine H6.st O2 0 0 (hi:=size_mq) fun a7 w3 O3 H7=>nt ?_;refine H7.rg 1 fun a8 H8=>nt ?_;refine Z8 (fun a w'=>∃vc' vw' vf',Z9 a 289 [(1,pz w.heap.size),(3,pz w1.heap.size),(4, .bool (N3 m))]∧MqL w' w'.heap.size (Y3 m) vc' vw' vf'∧X0 w w.heap.size [(w1.heap.size,Z1 (Y3 m) vc' vw' vf'),(w.heap.size,(Z1 m (.slice A1 m.codes.length c1) (.slice A2 m.wishes.length c2) (.slice A3 m.filters.length c3)))] w') ?_ ?_
 ·skip
  refine H8.rg 1 fun a9 H9=>?_;refine H9.ld 0 (O3.li 1 0) fun a10 H10=>nt ?_;refine wp_block ?_;have hk0:True:=trivial;obtain⟨b1,h1⟩:∃b,(m.kind==1)=b:=⟨_,rfl⟩;cases b1 with
  |true=>
   have k1:m.kind=1:=by simpa using h1
   refine rl ?_;refine H10.bn 1 (Z7 _ _ _ h1 _ _ _) fun a12 H12=>nt ?_;refine H12.condT rfl ?_;have ho:Y3 m={ N6 m.kind with client:=m.client,clean:=m.clean,keep:=m.keep,won:=m.won,wt:=m.wt,wp:=m.wp,wq:=m.wq,wr:=m.wr,user:=m.user,hu:=m.hu,pass:=m.pass,hp:=m.hp }:=by unfold Y3;rw[if_pos k1]
   have hq:N3 m=E4 m:=by unfold N3;rw[if_pos k1]
   repeat (refine wp_seq ?_)
   refine H12.ds O3 0 [1,3,4] rfl [ec 0 14 (.pointer (some ⟨w.heap.size,1,none⟩)),ec 1 15 (.string m.client),ec 2 16 (.pointer (some ⟨w.heap.size,2,none⟩)),ec 3 17 (.bool m.clean),ec 4 18 (.pointer (some ⟨w.heap.size,3,none⟩)),ec 5 19 (iz m.keep),ec 6 20 (.pointer (some ⟨w.heap.size,4,none⟩)),ec 7 21 (.agg #[.bool m.won, .string m.wt, .string m.wp,iz m.wq, .bool m.wr]),ec 8 22 (.pointer (some ⟨w.heap.size,9,none⟩)),ec 9 23 (.string m.user),ec 10 24 (.pointer (some ⟨w.heap.size,10,none⟩)),ec 11 25 (.bool m.hu),ec 12 26 (.pointer (some ⟨w.heap.size,11,none⟩)),ec 13 27 (.string m.pass),ec 14 28 (.pointer (some ⟨w.heap.size,12,none⟩)),ec 15 29 (.bool m.hp),ec 16 30 (.pointer (some ⟨w1.heap.size,1,none⟩)),ec 18 31 (.pointer (some ⟨w1.heap.size,2,none⟩)),ec 20 32 (.pointer (some ⟨w1.heap.size,3,none⟩)),ec 22 33 (.pointer (some ⟨w1.heap.size,4,none⟩)),ec 24 34 (.pointer (some ⟨w1.heap.size,9,none⟩)),ec 26 35 (.pointer (some ⟨w1.heap.size,10,none⟩)),ec 28 36 (.pointer (some ⟨w1.heap.size,11,none⟩)),ec 30 37 (.pointer (some ⟨w1.heap.size,12,none⟩))] [⟨31,12,[(.bool m.hp)]⟩,⟨29,11,[(.string m.pass)]⟩,⟨27,10,[(.bool m.hu)]⟩,⟨25,9,[(.string m.user)]⟩,⟨23,4,[.bool m.won, .string m.wt, .string m.wp,iz m.wq, .bool m.wr]⟩,⟨21,3,[(iz m.keep)]⟩,⟨19,2,[(.bool m.clean)]⟩,⟨17,1,[(.string m.client)]⟩] rfl rfl ⟨jm,jl fun _ ⟨_,_,h⟩=>G1 _ _ _ _ ((h.get 1 rfl).get 1 _ rfl),jm,jl fun _ ⟨_,_,h⟩=>V0 _ _ _ _ ((h.get 1 rfl).get 2 _ rfl),jm,jl fun _ ⟨_,_,h⟩=>J9 _ _ _ _ ((h.get 1 rfl).get 3 _ rfl),jm,jl fun _ ⟨_,_,h⟩=>Z2x _ _ _ _ _ _ _ _ (h.get 1 rfl) rfl rfl rfl rfl rfl,jm,jl fun _ ⟨_,_,h⟩=>G1 _ _ _ _ ((h.get 1 rfl).get 9 _ rfl),jm,jl fun _ ⟨_,_,h⟩=>V0 _ _ _ _ ((h.get 1 rfl).get 10 _ rfl),jm,jl fun _ ⟨_,_,h⟩=>G1 _ _ _ _ ((h.get 1 rfl).get 11 _ rfl),jm,jl fun _ ⟨_,_,h⟩=>V0 _ _ _ _ ((h.get 1 rfl).get 12 _ rfl),jm,jm,jm,jm,jm,jm,jm,jm,trivial⟩ ⟨q1 fun _ u h f=>B7 _ _ _ u _ h f,q1 fun _ u h f=>Z4a _ _ _ u _ h f,q1 fun _ u h f=>B7 _ _ _ u _ h f,q1 fun _ u h f=>Z4a _ _ _ u _ h f,q5,q1 fun _ u h f=>D6 _ _ _ u _ h f,q1 fun _ u h f=>B7 _ _ _ u _ h f,q1 fun _ u h f=>Z4a _ _ _ u _ h f,trivial⟩ ?_;intro a13 w4 H13 O4;have O4:X0 w w.heap.size [(w1.heap.size,(Z1 (Y3 m) Z2 Z2 Z2)),(w.heap.size,(Z1 m (.slice A1 m.codes.length c1) (.slice A2 m.wishes.length c2) (.slice A3 m.filters.length c3)))] w4:=by rw[ho];exact O4
   refine Z0 ?_;refine rl ?_;refine V8 4 (fun a' w'=>∃b,G3 m.client 0 23=b∧Z9 a' 289 [(1,pz w.heap.size),(3,pz w1.heap.size),(41, .bool b)]∧X0 w w.heap.size [(w1.heap.size,(Z1 (Y3 m) Z2 Z2 Z2)),(w.heap.size,(Z1 m (.slice A1 m.codes.length c1) (.slice A2 m.wishes.length c2) (.slice A3 m.filters.length c3)))] w') ?_ ?_
   ·skip
    refine H13.ms 1 fun a14 H14=>?_;refine H14.ld 0 (O4.ls 1 1) fun a15 H15=>?_;refine H15.cl (Z1f (Z7h m.client hF.client 0 23 _ (hW.below O4.bel))) ?_;rintro a16 _ w5 ⟨rfl,hb⟩ H16;have O5:=O4.call hb;clear hb;refine H16.ms 1 fun a17 H17=>?_;exact nt ⟨_,by rfl,H17.keep ⟨rfl,rfl,rfl,trivial⟩,O5⟩
   rintro a14 w5 ⟨v41,q41,H14,O5⟩;refine V8 5 (fun a' w'=>∃b,(G3 m.client 0 23&&V6 m.keep 0 65535)=b∧Z9 a' 289 [(1,pz w.heap.size),(3,pz w1.heap.size),(46, .bool b)]∧X0 w w.heap.size [(w1.heap.size,(Z1 (Y3 m) Z2 Z2 Z2)),(w.heap.size,(Z1 m (.slice A1 m.codes.length c1) (.slice A2 m.wishes.length c2) (.slice A3 m.filters.length c3)))] w') ?_ ?_
   ·skip
    cases v41 with
    |false=>
     refine H14.offs 3 rfl ?_;intro a15 H15;refine H15.pick gz rfl rfl rfl rfl rfl ?_;intro a16 H16;refine H16.ms 1 fun a17 H17=>?_;exact nt ⟨_,by rw[q41]<;>rfl,H17.keep ⟨rfl,rfl,rfl,trivial⟩,O5⟩
    |true=>
     refine H14.field (H14.wt rfl rfl rfl) rfl rfl rfl rfl X0t ?_;intro a15 H15;refine H15.load (H15.wt rfl rfl rfl) rfl rfl rfl rfl (J9 _ _ _ _ ((O5.get 1 rfl).get 3 _ rfl)) ?_;intro a16 H16;refine H16.call (H16.wt rfl rfl rfl) rfl rfl rfl rfl (fun _ _=>by kernel_rfl) (Z6t (Z9s m.keep 65535 _)) ?_;rintro a17 _ _ ⟨rfl,rfl⟩ H17;refine H17.pick gz rfl rfl rfl rfl rfl ?_;intro a18 H18;refine H18.ms 1 fun a19 H19=>?_;exact nt ⟨_,by rw[q41]<;>rfl,H19.keep ⟨rfl,rfl,rfl,trivial⟩,O5⟩
   rintro a15 w6 ⟨v46,q46,H15,O6⟩;refine V8 5 (fun a' w'=>∃b,((G3 m.client 0 23&&V6 m.keep 0 65535)&&T4 m.won m.wt m.wp m.wq m.wr)=b∧Z9 a' 289 [(1,pz w.heap.size),(3,pz w1.heap.size),(51, .bool b)]∧X0 w w.heap.size [(w1.heap.size,(Z1 (Y3 m) Z2 Z2 Z2)),(w.heap.size,(Z1 m (.slice A1 m.codes.length c1) (.slice A2 m.wishes.length c2) (.slice A3 m.filters.length c3)))] w') ?_ ?_
   ·skip
    cases v46 with
    |false=>
     refine H15.offs 3 rfl ?_;intro a16 H16;refine H16.pick gz rfl rfl rfl rfl rfl ?_;intro a17 H17;refine H17.ms 1 fun a18 H18=>?_;exact nt ⟨_,by rw[q46]<;>rfl,H18.keep ⟨rfl,rfl,rfl,trivial⟩,O6⟩
    |true=>
     refine H15.field (H15.wt rfl rfl rfl) rfl rfl rfl rfl X0u ?_;intro a16 H16;refine H16.load (H16.wt rfl rfl rfl) rfl rfl rfl rfl (Z2x _ _ _ _ _ _ _ _ (O6.get 1 rfl) rfl rfl rfl rfl rfl) ?_;intro a17 H17;refine H17.call (H17.wt rfl rfl rfl) rfl rfl rfl rfl (fun _ _=>by kernel_rfl) (Z1f (J4s m.won m.wt m.wp m.wq m.wr hF.wt _ (hW.below O6.bel))) ?_;rintro a18 _ w7 ⟨rfl,hb⟩ H18;have O7:=O6.call hb;clear hb;refine H18.pick gz rfl rfl rfl rfl rfl ?_;intro a19 H19;refine H19.ms 1 fun a20 H20=>?_;exact nt ⟨_,by rw[q46]<;>rfl,H20.keep ⟨rfl,rfl,rfl,trivial⟩,O7⟩
   rintro a16 w7 ⟨v51,q51,H16,O7⟩;refine V8 5 (fun a' w'=>∃b,(((G3 m.client 0 23&&V6 m.keep 0 65535)&&T4 m.won m.wt m.wp m.wq m.wr)&&G3 m.user 0 64)=b∧Z9 a' 289 [(1,pz w.heap.size),(3,pz w1.heap.size),(56, .bool b)]∧X0 w w.heap.size [(w1.heap.size,(Z1 (Y3 m) Z2 Z2 Z2)),(w.heap.size,(Z1 m (.slice A1 m.codes.length c1) (.slice A2 m.wishes.length c2) (.slice A3 m.filters.length c3)))] w') ?_ ?_
   ·skip
    cases v51 with
    |false=>
     refine H16.offs 3 rfl ?_;intro a17 H17;refine H17.pick gz rfl rfl rfl rfl rfl ?_;intro a18 H18;refine H18.ms 1 fun a19 H19=>?_;exact nt ⟨_,by rw[q51]<;>rfl,H19.keep ⟨rfl,rfl,rfl,trivial⟩,O7⟩
    |true=>
     refine H16.field (H16.wt rfl rfl rfl) rfl rfl rfl rfl Y4j ?_;intro a17 H17;refine H17.load (H17.wt rfl rfl rfl) rfl rfl rfl rfl (G1 _ _ _ _ ((O7.get 1 rfl).get 9 _ rfl)) ?_;intro a18 H18;refine H18.call (H18.wt rfl rfl rfl) rfl rfl rfl rfl (fun _ _=>by kernel_rfl) (Z1f (Z7h m.user hF.user 0 64 _ (hW.below O7.bel))) ?_;rintro a19 _ w8 ⟨rfl,hb⟩ H19;have O8:=O7.call hb;clear hb;refine H19.pick gz rfl rfl rfl rfl rfl ?_;intro a20 H20;refine H20.ms 1 fun a21 H21=>?_;exact nt ⟨_,by rw[q51]<;>rfl,H21.keep ⟨rfl,rfl,rfl,trivial⟩,O8⟩
   rintro a17 w8 ⟨v56,q56,H17,O8⟩;refine V8 14 (fun a' w'=>∃b,((((G3 m.client 0 23&&V6 m.keep 0 65535)&&T4 m.won m.wt m.wp m.wq m.wr)&&G3 m.user 0 64)&&(m.hu||(emp m.user && !m.hp)))=b∧Z9 a' 289 [(1,pz w.heap.size),(3,pz w1.heap.size),(70, .bool b)]∧X0 w w.heap.size [(w1.heap.size,(Z1 (Y3 m) Z2 Z2 Z2)),(w.heap.size,(Z1 m (.slice A1 m.codes.length c1) (.slice A2 m.wishes.length c2) (.slice A3 m.filters.length c3)))] w') ?_ ?_
   ·skip
    cases v56 with
    |false=>
     refine H17.offs 12 rfl ?_;intro a18 H18;refine H18.pick gz rfl rfl rfl rfl rfl ?_;intro a19 H19;refine H19.ms 1 fun a20 H20=>?_;exact nt ⟨_,by rw[q56]<;>rfl,H20.keep ⟨rfl,rfl,rfl,trivial⟩,O8⟩
    |true=>
     refine H17.field (H17.wt rfl rfl rfl) rfl rfl rfl rfl X0v ?_;intro a18 H18;refine H18.load (H18.wt rfl rfl rfl) rfl rfl rfl rfl (V0 _ _ _ _ ((O8.get 1 rfl).get 10 _ rfl)) ?_;intro a19 H19;refine H19.move (H19.wt rfl rfl rfl) (.inl rfl) rfl rfl rfl ?_;intro a20 H20;obtain⟨v59,q59⟩:∃b,m.hu=b:=⟨_,rfl⟩;rw[q59] at H20;cases v59 with
     |false=>
      refine H20.field (H20.wt rfl rfl rfl) rfl rfl rfl rfl Y4j ?_;intro a21 H21;refine H21.load (H21.wt rfl rfl rfl) rfl rfl rfl rfl (G1 _ _ _ _ ((O8.get 1 rfl).get 9 _ rfl)) ?_;intro a22 H22;refine H22.bin (H22.wt rfl rfl rfl) rfl rfl rfl rfl rfl (Q0s _ _ _ _) ?_;intro a23 H23;refine H23.move (H23.wt rfl rfl rfl) (.inl rfl) rfl rfl rfl ?_;intro a24 H24;obtain⟨v63,q63⟩:∃b,emp m.user=b:=⟨_,rfl⟩;rw[q63] at H24;cases v63 with
      |false=>
       refine H24.offs 3 rfl ?_;intro a25 H25;refine H25.pick (H25.wt rfl rfl rfl) rfl rfl rfl rfl rfl ?_;intro a26 H26;refine H26.pick (H26.wt rfl rfl rfl) rfl rfl rfl rfl rfl ?_;intro a27 H27;refine H27.pick gz rfl rfl rfl rfl rfl ?_;intro a28 H28;refine H28.ms 1 fun a29 H29=>?_;exact nt ⟨_,by rw[q56,q59,q63]<;>rfl,H29.keep ⟨rfl,rfl,rfl,trivial⟩,O8⟩
      |true=>
       refine H24.field (H24.wt rfl rfl rfl) rfl rfl rfl rfl Y4l ?_;intro a25 H25;refine H25.load (H25.wt rfl rfl rfl) rfl rfl rfl rfl (V0 _ _ _ _ ((O8.get 1 rfl).get 12 _ rfl)) ?_;intro a26 H26;refine H26.un (H26.wt rfl rfl rfl) rfl rfl rfl rfl rfl ?_;intro a27 H27;refine H27.pick (H27.wt rfl rfl rfl) rfl rfl rfl rfl rfl ?_;intro a28 H28;refine H28.pick (H28.wt rfl rfl rfl) rfl rfl rfl rfl rfl ?_;intro a29 H29;refine H29.pick gz rfl rfl rfl rfl rfl ?_;intro a30 H30;refine H30.ms 1 fun a31 H31=>?_;exact nt ⟨_,by rw[q56,q59,q63]<;>rfl,H31.keep ⟨rfl,rfl,rfl,trivial⟩,O8⟩
     |true=>
      refine H20.offs 8 rfl ?_;intro a21 H21;refine H21.pick (H21.wt rfl rfl rfl) rfl rfl rfl rfl rfl ?_;intro a22 H22;refine H22.pick gz rfl rfl rfl rfl rfl ?_;intro a23 H23;refine H23.ms 1 fun a24 H24=>?_;exact nt ⟨_,by rw[q56,q59]<;>rfl,H24.keep ⟨rfl,rfl,rfl,trivial⟩,O8⟩
   rintro a18 w9 ⟨v70,q70,H18,O9⟩;refine V8 6 (fun a' w'=>∃b,(((((G3 m.client 0 23&&V6 m.keep 0 65535)&&T4 m.won m.wt m.wp m.wq m.wr)&&G3 m.user 0 64)&&(m.hu||(emp m.user && !m.hp)))&&decide ((m.pass.size:Int)≤64))=b∧Z9 a' 289 [(1,pz w.heap.size),(3,pz w1.heap.size),(76, .bool b)]∧X0 w w.heap.size [(w1.heap.size,(Z1 (Y3 m) Z2 Z2 Z2)),(w.heap.size,(Z1 m (.slice A1 m.codes.length c1) (.slice A2 m.wishes.length c2) (.slice A3 m.filters.length c3)))] w') ?_ ?_
   ·skip
    cases v70 with
    |false=>
     refine H18.offs 4 rfl ?_;intro a19 H19;refine H19.pick gz rfl rfl rfl rfl rfl ?_;intro a20 H20;refine H20.ms 1 fun a21 H21=>?_;exact nt ⟨_,by rw[q70]<;>rfl,H21.keep ⟨rfl,rfl,rfl,trivial⟩,O9⟩
    |true=>
     refine H18.field (H18.wt rfl rfl rfl) rfl rfl rfl rfl Y4k ?_;intro a19 H19;refine H19.load (H19.wt rfl rfl rfl) rfl rfl rfl rfl (G1 _ _ _ _ ((O9.get 1 rfl).get 11 _ rfl)) ?_;intro a20 H20;refine H20.lenS (H20.wt rfl rfl rfl) rfl rfl rfl rfl Tryz.underlying9 ?_;intro a21 H21;refine H21.bin (H21.wt rfl rfl rfl) rfl rfl rfl rfl rfl (X8f _ _ _ rfl _ _ _) ?_;intro a22 H22;refine H22.pick gz rfl rfl rfl rfl rfl ?_;intro a23 H23;refine H23.ms 1 fun a24 H24=>?_;exact nt ⟨_,by rw[q70]<;>rfl,H24.keep ⟨rfl,rfl,rfl,trivial⟩,O9⟩
   rintro a19 w10 ⟨v76,q76,H19,O10⟩;refine V8 8 (fun a' w'=>∃b,((((((G3 m.client 0 23&&V6 m.keep 0 65535)&&T4 m.won m.wt m.wp m.wq m.wr)&&G3 m.user 0 64)&&(m.hu||(emp m.user && !m.hp)))&&decide ((m.pass.size:Int)≤64))&&(m.hp||emp m.pass))=b∧Z9 a' 289 [(1,pz w.heap.size),(3,pz w1.heap.size),(84, .bool b)]∧X0 w w.heap.size [(w1.heap.size,(Z1 (Y3 m) Z2 Z2 Z2)),(w.heap.size,(Z1 m (.slice A1 m.codes.length c1) (.slice A2 m.wishes.length c2) (.slice A3 m.filters.length c3)))] w') ?_ ?_
   ·skip
    cases v76 with
    |false=>
     refine H19.offs 7 rfl ?_;intro a20 H20;refine H20.pick gz rfl rfl rfl rfl rfl ?_;intro a21 H21;exact nt ⟨_,by rw[q76]<;>rfl,H21.keep ⟨rfl,rfl,rfl,trivial⟩,O10⟩
    |true=>
     refine H19.field (H19.wt rfl rfl rfl) rfl rfl rfl rfl Y4l ?_;intro a20 H20;refine H20.load (H20.wt rfl rfl rfl) rfl rfl rfl rfl (V0 _ _ _ _ ((O10.get 1 rfl).get 12 _ rfl)) ?_;intro a21 H21;refine H21.move (H21.wt rfl rfl rfl) (.inl rfl) rfl rfl rfl ?_;intro a22 H22;obtain⟨v79,q79⟩:∃b,m.hp=b:=⟨_,rfl⟩;rw[q79] at H22;cases v79 with
     |false=>
      refine H22.field (H22.wt rfl rfl rfl) rfl rfl rfl rfl Y4k ?_;intro a23 H23;refine H23.load (H23.wt rfl rfl rfl) rfl rfl rfl rfl (G1 _ _ _ _ ((O10.get 1 rfl).get 11 _ rfl)) ?_;intro a24 H24;refine H24.bin (H24.wt rfl rfl rfl) rfl rfl rfl rfl rfl (Q0s _ _ _ _) ?_;intro a25 H25;refine H25.pick (H25.wt rfl rfl rfl) rfl rfl rfl rfl rfl ?_;intro a26 H26;refine H26.pick gz rfl rfl rfl rfl rfl ?_;intro a27 H27;exact nt ⟨_,by rw[q76,q79]<;>rfl,H27.keep ⟨rfl,rfl,rfl,trivial⟩,O10⟩
     |true=>
      refine H22.offs 3 rfl ?_;intro a23 H23;refine H23.pick (H23.wt rfl rfl rfl) rfl rfl rfl rfl rfl ?_;intro a24 H24;refine H24.pick gz rfl rfl rfl rfl rfl ?_;intro a25 H25;exact nt ⟨_,by rw[q76,q79]<;>rfl,H25.keep ⟨rfl,rfl,rfl,trivial⟩,O10⟩
   rintro a20 w11 ⟨v84,q84,H20,O11⟩;refine H20.ms 1 fun a21 H21=>?_;refine wpList_nil ?_;refine Z6 ?_;refine Z0 ?_;exact⟨Z2,Z2,Z2,(by rw[hq,show E4 m=v84 from (Q5y _ _ _ _ _ _ _).symm.trans q84];exact H21.keep ⟨rfl,rfl,rfl,trivial⟩),MqL.nil (by rw[ho]<;>rfl) (by rw[ho]<;>rfl) (by rw[ho]<;>rfl),O11⟩
  |false=>
   have k1:¬m.kind=1:=by simpa using h1
   refine rl ?_;refine H10.bn 1 (Z7 _ _ _ h1 _ _ _) fun a12 H12=>nt ?_;refine H12.condF rfl ?_;obtain⟨b2,h2⟩:∃b,(m.kind==2)=b:=⟨_,rfl⟩;cases b2 with
   |true=>
    have k2:m.kind=2:=by simpa using h2
    refine rl ?_;refine H12.bn 1 (Z7 _ _ _ h2 _ _ _) fun a14 H14=>nt ?_;refine H14.condT rfl ?_;have ho:Y3 m={ N6 m.kind with present:=m.present,code:=m.code }:=by unfold Y3;rw[if_neg k1,if_pos k2]
    have hq:N3 m=(V6 m.code 0 5&&(!m.present||m.code==0)):=by unfold N3;rw[if_neg k1,if_pos k2]
    repeat (refine wp_seq ?_)
    refine H14.ds O3 0 [1,3,4] rfl [ec 0 87 (.pointer (some ⟨w.heap.size,13,none⟩)),ec 1 88 (.bool m.present),ec 2 89 (.pointer (some ⟨w.heap.size,14,none⟩)),ec 3 90 (iz m.code),ec 4 91 (.pointer (some ⟨w1.heap.size,13,none⟩)),ec 6 92 (.pointer (some ⟨w1.heap.size,14,none⟩))] [⟨7,14,[(iz m.code)]⟩,⟨5,13,[(.bool m.present)]⟩] rfl rfl ⟨jm,jl fun _ ⟨_,_,h⟩=>V0 _ _ _ _ ((h.get 1 rfl).get 13 _ rfl),jm,jl fun _ ⟨_,_,h⟩=>J9 _ _ _ _ ((h.get 1 rfl).get 14 _ rfl),jm,jm,trivial⟩ ⟨q1 fun _ u h f=>D6 _ _ _ u _ h f,q1 fun _ u h f=>B7 _ _ _ u _ h f,trivial⟩ ?_;intro a15 w4 H15 O4;have O4:X0 w w.heap.size [(w1.heap.size,(Z1 (Y3 m) Z2 Z2 Z2)),(w.heap.size,(Z1 m (.slice A1 m.codes.length c1) (.slice A2 m.wishes.length c2) (.slice A3 m.filters.length c3)))] w4:=by rw[ho];exact O4
    refine Z0 ?_;refine rl ?_;refine V8 4 (fun a' w'=>∃b,V6 m.code 0 5=b∧Z9 a' 289 [(1,pz w.heap.size),(3,pz w1.heap.size),(96, .bool b)]∧X0 w w.heap.size [(w1.heap.size,(Z1 (Y3 m) Z2 Z2 Z2)),(w.heap.size,(Z1 m (.slice A1 m.codes.length c1) (.slice A2 m.wishes.length c2) (.slice A3 m.filters.length c3)))] w') ?_ ?_
    ·skip
     refine H15.ms 1 fun a16 H16=>?_;refine H16.ld 0 (O4.li 1 14) fun a17 H17=>?_;refine H17.cq 1 (Z9s m.code 5 _) fun a19 H19=>?_;exact nt ⟨_,by rfl,H19.keep ⟨rfl,rfl,rfl,trivial⟩,O4⟩
    rintro a16 w5 ⟨v96,q96,H16,O5⟩;refine V8 9 (fun a' w'=>∃b,(V6 m.code 0 5&&((m.code==0) || !m.present))=b∧Z9 a' 289 [(1,pz w.heap.size),(3,pz w1.heap.size),(105, .bool b)]∧X0 w w.heap.size [(w1.heap.size,(Z1 (Y3 m) Z2 Z2 Z2)),(w.heap.size,(Z1 m (.slice A1 m.codes.length c1) (.slice A2 m.wishes.length c2) (.slice A3 m.filters.length c3)))] w') ?_ ?_
    ·skip
     cases v96 with
     |false=>
      refine H16.offs 8 rfl ?_;intro a17 H17;refine H17.pick gz rfl rfl rfl rfl rfl ?_;intro a18 H18;exact nt ⟨_,by rw[q96]<;>rfl,H18.keep ⟨rfl,rfl,rfl,trivial⟩,O5⟩
     |true=>
      refine H16.field (H16.wt rfl rfl rfl) rfl rfl rfl rfl Y6l ?_;intro a17 H17;refine H17.load (H17.wt rfl rfl rfl) rfl rfl rfl rfl (J9 _ _ _ _ ((O5.get 1 rfl).get 14 _ rfl)) ?_;intro a18 H18;refine H18.bin (H18.wt rfl rfl rfl) rfl rfl rfl rfl rfl (N8 _ _ _ _ _) ?_;intro a19 H19;refine H19.move (H19.wt rfl rfl rfl) (.inl rfl) rfl rfl rfl ?_;intro a20 H20;obtain⟨v100,q100⟩:∃b,(m.code==0)=b:=⟨_,rfl⟩;rw[q100] at H20;cases v100 with
      |false=>
       refine H20.field (H20.wt rfl rfl rfl) rfl rfl rfl rfl X0w ?_;intro a21 H21;refine H21.load (H21.wt rfl rfl rfl) rfl rfl rfl rfl (V0 _ _ _ _ ((O5.get 1 rfl).get 13 _ rfl)) ?_;intro a22 H22;refine H22.un (H22.wt rfl rfl rfl) rfl rfl rfl rfl rfl ?_;intro a23 H23;refine H23.pick (H23.wt rfl rfl rfl) rfl rfl rfl rfl rfl ?_;intro a24 H24;refine H24.pick gz rfl rfl rfl rfl rfl ?_;intro a25 H25;exact nt ⟨_,by rw[q96,q100]<;>rfl,H25.keep ⟨rfl,rfl,rfl,trivial⟩,O5⟩
      |true=>
       refine H20.offs 3 rfl ?_;intro a21 H21;refine H21.pick (H21.wt rfl rfl rfl) rfl rfl rfl rfl rfl ?_;intro a22 H22;refine H22.pick gz rfl rfl rfl rfl rfl ?_;intro a23 H23;exact nt ⟨_,by rw[q96,q100]<;>rfl,H23.keep ⟨rfl,rfl,rfl,trivial⟩,O5⟩
    rintro a17 w6 ⟨v105,q105,H17,O6⟩;refine H17.ms 1 fun a18 H18=>?_;refine wpList_nil ?_;refine Z6 ?_;refine Z0 ?_;exact⟨Z2,Z2,Z2,(by rw[hq,show (V6 m.code 0 5&&(!m.present||m.code==0))=v105 from (by rw[Bool.or_comm (!m.present)];exact q105)];exact H18.keep ⟨rfl,rfl,rfl,trivial⟩),MqL.nil (by rw[ho]<;>rfl) (by rw[ho]<;>rfl) (by rw[ho]<;>rfl),O6⟩
   |false=>
    have k2:¬m.kind=2:=by simpa using h2
    refine rl ?_;refine H12.bn 1 (Z7 _ _ _ h2 _ _ _) fun a14 H14=>nt ?_;refine H14.condF rfl ?_;obtain⟨b3,h3⟩:∃b,(m.kind==3)=b:=⟨_,rfl⟩;cases b3 with
    |true=>
     have k3:m.kind=3:=by simpa using h3
     refine rl ?_;refine H14.bn 1 (Z7 _ _ _ h3 _ _ _) fun a16 H16=>nt ?_;refine H16.condT rfl ?_;have ho:Y3 m={ N6 m.kind with topic:=m.topic,qos:=m.qos,dup:=m.dup,retain:=m.retain,id:=m.id,payload:=m.payload }:=by unfold Y3;rw[if_neg k1,if_neg k2,if_pos k3]
     have hq:N3 m=K9 m:=by unfold N3;rw[if_neg k1,if_neg k2,if_pos k3]
     repeat (refine wp_seq ?_)
     refine H16.ds O3 0 [1,3,4] rfl [ec 0 108 (.pointer (some ⟨w.heap.size,19,none⟩)),ec 1 109 (.string m.topic),ec 2 110 (.pointer (some ⟨w.heap.size,17,none⟩)),ec 3 111 (iz m.qos),ec 4 112 (.pointer (some ⟨w.heap.size,16,none⟩)),ec 5 113 (.bool m.dup),ec 6 114 (.pointer (some ⟨w.heap.size,18,none⟩)),ec 7 115 (.bool m.retain),ec 8 116 (.pointer (some ⟨w.heap.size,20,none⟩)),ec 9 117 (iz m.id),ec 10 118 (.pointer (some ⟨w.heap.size,21,none⟩)),ec 11 119 (.string m.payload),ec 12 120 (.pointer (some ⟨w1.heap.size,19,none⟩)),ec 14 121 (.pointer (some ⟨w1.heap.size,17,none⟩)),ec 16 122 (.pointer (some ⟨w1.heap.size,16,none⟩)),ec 18 123 (.pointer (some ⟨w1.heap.size,18,none⟩)),ec 20 124 (.pointer (some ⟨w1.heap.size,20,none⟩)),ec 22 125 (.pointer (some ⟨w1.heap.size,21,none⟩))] [⟨23,21,[(.string m.payload)]⟩,⟨21,20,[(iz m.id)]⟩,⟨19,18,[(.bool m.retain)]⟩,⟨17,16,[(.bool m.dup)]⟩,⟨15,17,[(iz m.qos)]⟩,⟨13,19,[(.string m.topic)]⟩] rfl rfl ⟨jm,jl fun _ ⟨_,_,h⟩=>G1 _ _ _ _ ((h.get 1 rfl).get 19 _ rfl),jm,jl fun _ ⟨_,_,h⟩=>J9 _ _ _ _ ((h.get 1 rfl).get 17 _ rfl),jm,jl fun _ ⟨_,_,h⟩=>V0 _ _ _ _ ((h.get 1 rfl).get 16 _ rfl),jm,jl fun _ ⟨_,_,h⟩=>V0 _ _ _ _ ((h.get 1 rfl).get 18 _ rfl),jm,jl fun _ ⟨_,_,h⟩=>J9 _ _ _ _ ((h.get 1 rfl).get 20 _ rfl),jm,jl fun _ ⟨_,_,h⟩=>G1 _ _ _ _ ((h.get 1 rfl).get 21 _ rfl),jm,jm,jm,jm,jm,jm,trivial⟩ ⟨q1 fun _ u h f=>Z4a _ _ _ u _ h f,q1 fun _ u h f=>D6 _ _ _ u _ h f,q1 fun _ u h f=>B7 _ _ _ u _ h f,q1 fun _ u h f=>B7 _ _ _ u _ h f,q1 fun _ u h f=>D6 _ _ _ u _ h f,q1 fun _ u h f=>Z4a _ _ _ u _ h f,trivial⟩ ?_;intro a17 w4 H17 O4;have O4:X0 w w.heap.size [(w1.heap.size,(Z1 (Y3 m) Z2 Z2 Z2)),(w.heap.size,(Z1 m (.slice A1 m.codes.length c1) (.slice A2 m.wishes.length c2) (.slice A3 m.filters.length c3)))] w4:=by rw[ho];exact O4
     refine Z0 ?_;refine rl ?_;refine V8 4 (fun a' w'=>∃b,G3 m.topic 1 64=b∧Z9 a' 289 [(1,pz w.heap.size),(3,pz w1.heap.size),(129, .bool b)]∧X0 w w.heap.size [(w1.heap.size,(Z1 (Y3 m) Z2 Z2 Z2)),(w.heap.size,(Z1 m (.slice A1 m.codes.length c1) (.slice A2 m.wishes.length c2) (.slice A3 m.filters.length c3)))] w') ?_ ?_
     ·skip
      refine H17.ms 1 fun a18 H18=>?_;refine H18.ld 0 (O4.ls 1 19) fun a19 H19=>?_;refine H19.cl (Z1f (Z7h m.topic hF.topic 1 64 _ (hW.below O4.bel))) ?_;rintro a20 _ w5 ⟨rfl,hb⟩ H20;have O5:=O4.call hb;clear hb;refine H20.ms 1 fun a21 H21=>?_;exact nt ⟨_,by rfl,H21.keep ⟨rfl,rfl,rfl,trivial⟩,O5⟩
     rintro a18 w5 ⟨v129,q129,H18,O5⟩;refine V8 5 (fun a' w'=>∃b,(G3 m.topic 1 64&&Q9 (sb m.topic))=b∧Z9 a' 289 [(1,pz w.heap.size),(3,pz w1.heap.size),(134, .bool b)]∧X0 w w.heap.size [(w1.heap.size,(Z1 (Y3 m) Z2 Z2 Z2)),(w.heap.size,(Z1 m (.slice A1 m.codes.length c1) (.slice A2 m.wishes.length c2) (.slice A3 m.filters.length c3)))] w') ?_ ?_
     ·skip
      cases v129 with
      |false=>
       refine H18.offs 3 rfl ?_;intro a19 H19;refine H19.pick gz rfl rfl rfl rfl rfl ?_;intro a20 H20;refine H20.ms 1 fun a21 H21=>?_;exact nt ⟨_,by rw[q129]<;>rfl,H21.keep ⟨rfl,rfl,rfl,trivial⟩,O5⟩
      |true=>
       refine H18.field (H18.wt rfl rfl rfl) rfl rfl rfl rfl Y6o ?_;intro a19 H19;refine H19.load (H19.wt rfl rfl rfl) rfl rfl rfl rfl (G1 _ _ _ _ ((O5.get 1 rfl).get 19 _ rfl)) ?_;intro a20 H20;refine H20.call (H20.wt rfl rfl rfl) rfl rfl rfl rfl (fun _ _=>by kernel_rfl) (Z6t (J4h m.topic hF.topic _)) ?_;rintro a21 _ _ ⟨rfl,rfl⟩ H21;refine H21.pick gz rfl rfl rfl rfl rfl ?_;intro a22 H22;refine H22.ms 1 fun a23 H23=>?_;exact nt ⟨_,by rw[q129]<;>rfl,H23.keep ⟨rfl,rfl,rfl,trivial⟩,O5⟩
     rintro a19 w6 ⟨v134,q134,H19,O6⟩;refine V8 5 (fun a' w'=>∃b,((G3 m.topic 1 64&&Q9 (sb m.topic))&&V6 m.qos 0 2)=b∧Z9 a' 289 [(1,pz w.heap.size),(3,pz w1.heap.size),(139, .bool b)]∧X0 w w.heap.size [(w1.heap.size,(Z1 (Y3 m) Z2 Z2 Z2)),(w.heap.size,(Z1 m (.slice A1 m.codes.length c1) (.slice A2 m.wishes.length c2) (.slice A3 m.filters.length c3)))] w') ?_ ?_
     ·skip
      cases v134 with
      |false=>
       refine H19.offs 3 rfl ?_;intro a20 H20;refine H20.pick gz rfl rfl rfl rfl rfl ?_;intro a21 H21;refine H21.ms 1 fun a22 H22=>?_;exact nt ⟨_,by rw[q134]<;>rfl,H22.keep ⟨rfl,rfl,rfl,trivial⟩,O6⟩
      |true=>
       refine H19.field (H19.wt rfl rfl rfl) rfl rfl rfl rfl Y6n ?_;intro a20 H20;refine H20.load (H20.wt rfl rfl rfl) rfl rfl rfl rfl (J9 _ _ _ _ ((O6.get 1 rfl).get 17 _ rfl)) ?_;intro a21 H21;refine H21.call (H21.wt rfl rfl rfl) rfl rfl rfl rfl (fun _ _=>by kernel_rfl) (Z6t (Z9s m.qos 2 _)) ?_;rintro a22 _ _ ⟨rfl,rfl⟩ H22;refine H22.pick gz rfl rfl rfl rfl rfl ?_;intro a23 H23;refine H23.ms 1 fun a24 H24=>?_;exact nt ⟨_,by rw[q134]<;>rfl,H24.keep ⟨rfl,rfl,rfl,trivial⟩,O6⟩
     rintro a20 w7 ⟨v139,q139,H20,O7⟩;refine V8 5 (fun a' w'=>∃b,(((G3 m.topic 1 64&&Q9 (sb m.topic))&&V6 m.qos 0 2)&&decide ((m.payload.size:Int)≤128))=b∧Z9 a' 289 [(1,pz w.heap.size),(3,pz w1.heap.size),(144, .bool b)]∧X0 w w.heap.size [(w1.heap.size,(Z1 (Y3 m) Z2 Z2 Z2)),(w.heap.size,(Z1 m (.slice A1 m.codes.length c1) (.slice A2 m.wishes.length c2) (.slice A3 m.filters.length c3)))] w') ?_ ?_
     ·skip
      cases v139 with
      |false=>
       refine H20.offs 4 rfl ?_;intro a21 H21;refine H21.pick gz rfl rfl rfl rfl rfl ?_;intro a22 H22;exact nt ⟨_,by rw[q139]<;>rfl,H22.keep ⟨rfl,rfl,rfl,trivial⟩,O7⟩
      |true=>
       refine H20.field (H20.wt rfl rfl rfl) rfl rfl rfl rfl Y6p ?_;intro a21 H21;refine H21.load (H21.wt rfl rfl rfl) rfl rfl rfl rfl (G1 _ _ _ _ ((O7.get 1 rfl).get 21 _ rfl)) ?_;intro a22 H22;refine H22.lenS (H22.wt rfl rfl rfl) rfl rfl rfl rfl Tryz.underlying9 ?_;intro a23 H23;refine H23.bin (H23.wt rfl rfl rfl) rfl rfl rfl rfl rfl (X8f _ _ _ rfl _ _ _) ?_;intro a24 H24;refine H24.pick gz rfl rfl rfl rfl rfl ?_;intro a25 H25;exact nt ⟨_,by rw[q139]<;>rfl,H25.keep ⟨rfl,rfl,rfl,trivial⟩,O7⟩
     rintro a21 w8 ⟨v144,q144,H21,O8⟩;refine H21.ms 1 fun a22 H22=>nt ?_;obtain⟨bq0,hq0⟩:∃b,(m.qos==0)=b:=⟨_,rfl⟩;cases bq0 with
     |true=>
      refine H22.rg 1 fun a23 H23=>?_;refine H23.ld 0 (O8.li 1 17) fun a24 H24=>?_;refine H24.bn 0 (Z7 _ _ _ hq0 _ _ _) fun a25 H25=>nt ?_;refine H25.condT rfl ?_;refine rl ?_;refine V8 7 (fun a' w'=>∃b,((((G3 m.topic 1 64&&Q9 (sb m.topic))&&V6 m.qos 0 2)&&decide ((m.payload.size:Int)≤128)) && !m.dup)=b∧Z9 a' 289 [(1,pz w.heap.size),(3,pz w1.heap.size),(154, .bool b)]∧X0 w w.heap.size [(w1.heap.size,(Z1 (Y3 m) Z2 Z2 Z2)),(w.heap.size,(Z1 m (.slice A1 m.codes.length c1) (.slice A2 m.wishes.length c2) (.slice A3 m.filters.length c3)))] w') ?_ ?_
      ·skip
       refine H25.ms 2 fun a27 H27=>?_;cases v144 with
       |false=>
        refine H27.offs 3 rfl ?_;intro a28 H28;refine H28.pick gz rfl rfl rfl rfl rfl ?_;intro a29 H29;refine H29.ms 1 fun a30 H30=>?_;exact nt ⟨_,by rw[q144]<;>rfl,H30.keep ⟨rfl,rfl,rfl,trivial⟩,O8⟩
       |true=>
        refine H27.field (H27.wt rfl rfl rfl) rfl rfl rfl rfl Y6m ?_;intro a28 H28;refine H28.load (H28.wt rfl rfl rfl) rfl rfl rfl rfl (V0 _ _ _ _ ((O8.get 1 rfl).get 16 _ rfl)) ?_;intro a29 H29;refine H29.un (H29.wt rfl rfl rfl) rfl rfl rfl rfl rfl ?_;intro a30 H30;refine H30.pick gz rfl rfl rfl rfl rfl ?_;intro a31 H31;refine H31.ms 1 fun a32 H32=>?_;exact nt ⟨_,by rw[q144]<;>rfl,H32.keep ⟨rfl,rfl,rfl,trivial⟩,O8⟩
      rintro a26 w9 ⟨v154,q154,H26,O9⟩;refine V8 4 (fun a' w'=>∃b,(((((G3 m.topic 1 64&&Q9 (sb m.topic))&&V6 m.qos 0 2)&&decide ((m.payload.size:Int)≤128)) && !m.dup)&&(m.id==0))=b∧Z9 a' 289 [(1,pz w.heap.size),(3,pz w1.heap.size),(158, .bool b)]∧X0 w w.heap.size [(w1.heap.size,(Z1 (Y3 m) Z2 Z2 Z2)),(w.heap.size,(Z1 m (.slice A1 m.codes.length c1) (.slice A2 m.wishes.length c2) (.slice A3 m.filters.length c3)))] w') ?_ ?_
      ·skip
       cases v154 with
       |false=>
        refine H26.offs 3 rfl ?_;intro a27 H27;refine H27.pick gz rfl rfl rfl rfl rfl ?_;intro a28 H28;exact nt ⟨_,by rw[q154]<;>rfl,H28.keep ⟨rfl,rfl,rfl,trivial⟩,O9⟩
       |true=>
        refine H26.field (H26.wt rfl rfl rfl) rfl rfl rfl rfl Y1t ?_;intro a27 H27;refine H27.load (H27.wt rfl rfl rfl) rfl rfl rfl rfl (J9 _ _ _ _ ((O9.get 1 rfl).get 20 _ rfl)) ?_;intro a28 H28;refine H28.bin (H28.wt rfl rfl rfl) rfl rfl rfl rfl rfl (N8 _ _ _ _ _) ?_;intro a29 H29;refine H29.pick gz rfl rfl rfl rfl rfl ?_;intro a30 H30;exact nt ⟨_,by rw[q154]<;>rfl,H30.keep ⟨rfl,rfl,rfl,trivial⟩,O9⟩
      rintro a27 w10 ⟨v158,q158,H27,O10⟩;refine H27.ms 1 fun a28 H28=>?_;refine wpList_nil ?_;refine Z6 ?_;refine Z0 ?_;exact⟨Z2,Z2,Z2,(by rw[hq,show K9 m=v158 from (J6v m hq0).trans q158];exact H28.keep ⟨rfl,rfl,rfl,trivial⟩),MqL.nil (by rw[ho]<;>rfl) (by rw[ho]<;>rfl) (by rw[ho]<;>rfl),O10⟩
     |false=>
      refine H22.rg 1 fun a23 H23=>?_;refine H23.ld 0 (O8.li 1 17) fun a24 H24=>?_;refine H24.bn 0 (Z7 _ _ _ hq0 _ _ _) fun a25 H25=>nt ?_;refine H25.condF rfl ?_;refine rl ?_;refine V8 6 (fun a' w'=>∃b,((((G3 m.topic 1 64&&Q9 (sb m.topic))&&V6 m.qos 0 2)&&decide ((m.payload.size:Int)≤128))&&V6 m.id 1 65535)=b∧Z9 a' 289 [(1,pz w.heap.size),(3,pz w1.heap.size),(164, .bool b)]∧X0 w w.heap.size [(w1.heap.size,(Z1 (Y3 m) Z2 Z2 Z2)),(w.heap.size,(Z1 m (.slice A1 m.codes.length c1) (.slice A2 m.wishes.length c2) (.slice A3 m.filters.length c3)))] w') ?_ ?_
      ·skip
       refine H25.ms 2 fun a27 H27=>?_;cases v144 with
       |false=>
        refine H27.offs 3 rfl ?_;intro a28 H28;refine H28.pick gz rfl rfl rfl rfl rfl ?_;intro a29 H29;exact nt ⟨_,by rw[q144]<;>rfl,H29.keep ⟨rfl,rfl,rfl,trivial⟩,O8⟩
       |true=>
        refine H27.field (H27.wt rfl rfl rfl) rfl rfl rfl rfl Y1t ?_;intro a28 H28;refine H28.load (H28.wt rfl rfl rfl) rfl rfl rfl rfl (J9 _ _ _ _ ((O8.get 1 rfl).get 20 _ rfl)) ?_;intro a29 H29;refine H29.call (H29.wt rfl rfl rfl) rfl rfl rfl rfl (fun _ _=>by kernel_rfl) (Z6t (X2o m.id _)) ?_;rintro a30 _ _ ⟨rfl,rfl⟩ H30;refine H30.pick gz rfl rfl rfl rfl rfl ?_;intro a31 H31;exact nt ⟨_,by rw[q144]<;>rfl,H31.keep ⟨rfl,rfl,rfl,trivial⟩,O8⟩
      rintro a26 w9 ⟨v164,q164,H26,O9⟩;refine H26.ms 1 fun a27 H27=>?_;refine wpList_nil ?_;refine Z6 ?_;refine Z0 ?_;exact⟨Z2,Z2,Z2,(by rw[hq,show K9 m=v164 from (J6w m hq0).trans q164];exact H27.keep ⟨rfl,rfl,rfl,trivial⟩),MqL.nil (by rw[ho]<;>rfl) (by rw[ho]<;>rfl) (by rw[ho]<;>rfl),O9⟩
    |false=>
     have k3:¬m.kind=3:=by simpa using h3
     refine rl ?_;refine H14.bn 1 (Z7 _ _ _ h3 _ _ _) fun a16 H16=>nt ?_;refine H16.condF rfl ?_;refine Z8 (fun a w'=>∃b,Q8 m.kind=b∧Z9 a 289 [(1,pz w.heap.size),(3,pz w1.heap.size),(4, .bool true),(11,iz m.kind),(165, .bool b)]∧X0 w w.heap.size [(w1.heap.size,(Z1 (N6 m.kind) Z2 Z2 Z2)),(w.heap.size,(Z1 m (.slice A1 m.codes.length c1) (.slice A2 m.wishes.length c2) (.slice A3 m.filters.length c3)))] w') ?_ ?_
     ·skip
      obtain⟨b4,h4⟩:∃b,(m.kind==4)=b:=⟨_,rfl⟩;cases b4 with
      |true=>
       refine rl ?_;refine H16.bn 1 (Z7 _ _ _ h4 _ _ _) fun a18 H18=>nt ?_;refine H18.condT rfl ?_;refine Z3 ?_;refine Z0 ?_;exact⟨_,(by unfold Q8;rw[h4]<;>rfl),H18.keep ⟨rfl,rfl,rfl,rfl,rfl,trivial⟩,O3⟩
      |false=>
       refine rl ?_;refine H16.bn 1 (Z7 _ _ _ h4 _ _ _) fun a18 H18=>nt ?_;refine H18.condF rfl ?_;obtain⟨b5,h5⟩:∃b,(m.kind==5)=b:=⟨_,rfl⟩;cases b5 with
       |true=>
        refine rl ?_;refine H18.bn 1 (Z7 _ _ _ h5 _ _ _) fun a20 H20=>nt ?_;refine H20.condT rfl ?_;refine Z3 ?_;refine Z0 ?_;exact⟨_,(by unfold Q8;rw[h4,h5]<;>rfl),H20.keep ⟨rfl,rfl,rfl,rfl,rfl,trivial⟩,O3⟩
       |false=>
        refine rl ?_;refine H18.bn 1 (Z7 _ _ _ h5 _ _ _) fun a20 H20=>nt ?_;refine H20.condF rfl ?_;obtain⟨b6,h6⟩:∃b,(m.kind==6)=b:=⟨_,rfl⟩;cases b6 with
        |true=>
         refine rl ?_;refine H20.bn 1 (Z7 _ _ _ h6 _ _ _) fun a22 H22=>nt ?_;refine H22.condT rfl ?_;refine Z3 ?_;refine Z0 ?_;exact⟨_,(by unfold Q8;rw[h4,h5,h6]<;>rfl),H22.keep ⟨rfl,rfl,rfl,rfl,rfl,trivial⟩,O3⟩
        |false=>
         refine rl ?_;refine H20.bn 1 (Z7 _ _ _ h6 _ _ _) fun a22 H22=>nt ?_;refine H22.condF rfl ?_;obtain⟨b7,h7⟩:∃b,(m.kind==7)=b:=⟨_,rfl⟩;cases b7 with
         |true=>
          refine rl ?_;refine H22.bn 1 (Z7 _ _ _ h7 _ _ _) fun a24 H24=>nt ?_;refine H24.condT rfl ?_;refine Z3 ?_;refine Z0 ?_;exact⟨_,(by unfold Q8;rw[h4,h5,h6,h7]<;>rfl),H24.keep ⟨rfl,rfl,rfl,rfl,rfl,trivial⟩,O3⟩
         |false=>
          refine rl ?_;refine H22.bn 1 (Z7 _ _ _ h7 _ _ _) fun a24 H24=>nt ?_;refine H24.condF rfl ?_;obtain⟨b11,h11⟩:∃b,(m.kind==11)=b:=⟨_,rfl⟩;cases b11 with
          |true=>
           refine rl ?_;refine H24.bn 1 (Z7 _ _ _ h11 _ _ _) fun a26 H26=>nt ?_;exact⟨_,(by unfold Q8;rw[h4,h5,h6,h7,h11]<;>rfl),H26.keep ⟨rfl,rfl,rfl,rfl,rfl,trivial⟩,O3⟩
          |false=>
           refine rl ?_;refine H24.bn 1 (Z7 _ _ _ h11 _ _ _) fun a26 H26=>nt ?_;exact⟨_,(by unfold Q8;rw[h4,h5,h6,h7,h11]<;>rfl),H26.keep ⟨rfl,rfl,rfl,rfl,rfl,trivial⟩,O3⟩
     rintro a17 w4 ⟨v165,q165,H17,O4⟩;cases v165 with
     |true=>
      have ki:Q8 m.kind=true:=q165;refine H17.condT rfl ?_;have ho:Y3 m={ N6 m.kind with id:=m.id }:=by unfold Y3;rw[if_neg k1,if_neg k2,if_neg k3,if_pos ki]
      have hq:N3 m=V6 m.id 1 65535:=by unfold N3;rw[if_neg k1,if_neg k2,if_neg k3,if_pos ki]
      refine H17.rg 1 fun a18 H18=>?_;refine H18.ld 1 (O4.li 1 20) fun a20 H20=>?_;refine H20.sc O4 0 0 (fun u h f=>D6 _ _ _ u _ h f) fun a21 w5 O5 H21=>nt ?_;have O5':X0 w w.heap.size [(w1.heap.size,(Z1 (Y3 m) Z2 Z2 Z2)),(w.heap.size,(Z1 m (.slice A1 m.codes.length c1) (.slice A2 m.wishes.length c2) (.slice A3 m.filters.length c3)))] w5:=by rw[ho];exact O5
      have O5:=O5';refine H21.rg 1 fun a22 H22=>?_;refine H22.ld 0 (O5.li 1 20) fun a23 H23=>?_;refine H23.cq 1 (X2o m.id _) fun a25 H25=>?_;refine wpList_nil ?_;refine Z6 ?_;refine Z0 ?_;exact⟨Z2,Z2,Z2,(by rw[hq,show V6 m.id 1 65535=V6 m.id 1 65535 from rfl];exact H25.keep ⟨rfl,rfl,rfl,trivial⟩),MqL.nil (by rw[ho]<;>rfl) (by rw[ho]<;>rfl) (by rw[ho]<;>rfl),O5⟩
     |false=>
      have ki:¬Q8 m.kind=true:=by simp[q165]
      refine H17.condF rfl ?_;obtain⟨b8,h8⟩:∃b,(m.kind==8)=b:=⟨_,rfl⟩;cases b8 with
      |true=>
       have k8:m.kind=8:=by simpa using h8
       refine rl ?_;refine H17.bn 1 (Z7 _ _ _ h8 _ _ _) fun a19 H19=>nt ?_;refine H19.condT rfl ?_;have ho:Y3 m={ N6 m.kind with id:=m.id,wishes:=m.wishes }:=by unfold Y3;rw[if_neg k1,if_neg k2,if_neg k3,if_neg ki,if_pos k8]
       have hq:N3 m=(V6 m.id 1 65535&&E8 m.wishes):=by unfold N3;rw[if_neg k1,if_neg k2,if_neg k3,if_neg ki,if_pos k8]
       repeat (refine wp_seq ?_)
       refine H19.ds O4 0 [1,3,4] rfl [ec 0 179 (.pointer (some ⟨w.heap.size,20,none⟩)),ec 1 180 (iz m.id),ec 2 181 (.pointer (some ⟨w.heap.size,22,none⟩)),ec 3 182 (.slice A2 m.wishes.length c2),ec 4 183 (.pointer (some ⟨w1.heap.size,20,none⟩)),ec 6 184 (.pointer (some ⟨w1.heap.size,22,none⟩))] [⟨7,22,[(.slice A2 m.wishes.length c2)]⟩,⟨5,20,[(iz m.id)]⟩] rfl rfl ⟨jm,jl fun _ ⟨_,_,h⟩=>J9 _ _ _ _ ((h.get 1 rfl).get 20 _ rfl),jm,jl fun _ ⟨_,_,h⟩=>Z0o _ _ _ _ _ _ ((h.get 1 rfl).get 22 _ rfl),jm,jm,trivial⟩ ⟨q1 fun _ u h f=>Y2y _ _ _ _ _ u _ h f,q1 fun _ u h f=>D6 _ _ _ u _ h f,trivial⟩ ?_;intro a20 w5 H20 O5;have O5:X0 w w.heap.size [(w1.heap.size,(Z1 (Y3 m) Z2 (.slice A2 m.wishes.length c2) Z2)),(w.heap.size,(Z1 m (.slice A1 m.codes.length c1) (.slice A2 m.wishes.length c2) (.slice A3 m.filters.length c3)))] w5:=by rw[ho];exact O5
       refine Z0 ?_;refine rl ?_;refine V8 4 (fun a' w'=>∃b,V6 m.id 1 65535=b∧Z9 a' 289 [(1,pz w.heap.size),(3,pz w1.heap.size),(188, .bool b)]∧X0 w w.heap.size [(w1.heap.size,(Z1 (Y3 m) Z2 (.slice A2 m.wishes.length c2) Z2)),(w.heap.size,(Z1 m (.slice A1 m.codes.length c1) (.slice A2 m.wishes.length c2) (.slice A3 m.filters.length c3)))] w') ?_ ?_
       ·skip
        refine H20.ms 1 fun a21 H21=>?_;refine H21.ld 0 (O5.li 1 20) fun a22 H22=>?_;refine H22.cq 1 (X2o m.id _) fun a24 H24=>?_;exact nt ⟨_,by rfl,H24.keep ⟨rfl,rfl,rfl,trivial⟩,O5⟩
       rintro a21 w6 ⟨v188,q188,H21,O6⟩;refine V8 4 (fun a' w'=>∃b,(V6 m.id 1 65535&&E8 m.wishes)=b∧Z9 a' 289 [(1,pz w.heap.size),(3,pz w1.heap.size),(192, .bool b)]∧X0 w w.heap.size [(w1.heap.size,(Z1 (Y3 m) Z2 (.slice A2 m.wishes.length c2) Z2)),(w.heap.size,(Z1 m (.slice A1 m.codes.length c1) (.slice A2 m.wishes.length c2) (.slice A3 m.filters.length c3)))] w') ?_ ?_
       ·skip
        cases v188 with
        |false=>
         refine H21.offs 3 rfl ?_;intro a22 H22;refine H22.pick gz rfl rfl rfl rfl rfl ?_;intro a23 H23;exact nt ⟨_,by rw[q188]<;>rfl,H23.keep ⟨rfl,rfl,rfl,trivial⟩,O6⟩
        |true=>
         refine H21.field (H21.wt rfl rfl rfl) rfl rfl rfl rfl Y6q ?_;intro a22 H22;refine H22.load (H22.wt rfl rfl rfl) rfl rfl rfl rfl (Z0o _ _ _ _ _ _ ((O6.get 1 rfl).get 22 _ rfl)) ?_;intro a23 H23;refine H23.call (H23.wt rfl rfl rfl) rfl rfl rfl rfl (fun _ _=>by kernel_rfl) (Z1f (J1u m.wishes _ rfl hF.wishes A2 c2 k2' _ (hW.below O6.bel) (r2.next O6.bel))) ?_;rintro a24 _ w7 ⟨rfl,hb⟩ H24;have O7:=O6.call hb;clear hb;refine H24.pick gz rfl rfl rfl rfl rfl ?_;intro a25 H25;exact nt ⟨_,by rw[q188]<;>rfl,H25.keep ⟨rfl,rfl,rfl,trivial⟩,O7⟩
       rintro a22 w7 ⟨v192,q192,H22,O7⟩;refine H22.ms 1 fun a23 H23=>?_;refine wpList_nil ?_;refine Z6 ?_;refine Z0 ?_;exact⟨Z2,(.slice A2 m.wishes.length c2),Z2,(by rw[hq,q192];exact H23.keep ⟨rfl,rfl,rfl,trivial⟩),(hL.next O7.bel).onlyW (by rw[ho]<;>rfl) (by rw[ho]<;>rfl) (by rw[ho]<;>rfl),O7⟩
      |false=>
       have k8:¬m.kind=8:=by simpa using h8
       refine rl ?_;refine H17.bn 1 (Z7 _ _ _ h8 _ _ _) fun a19 H19=>nt ?_;refine H19.condF rfl ?_;obtain⟨b9,h9⟩:∃b,(m.kind==9)=b:=⟨_,rfl⟩;cases b9 with
       |true=>
        have k9:m.kind=9:=by simpa using h9
        refine rl ?_;refine H19.bn 1 (Z7 _ _ _ h9 _ _ _) fun a21 H21=>nt ?_;refine H21.condT rfl ?_;have ho:Y3 m={ N6 m.kind with id:=m.id,codes:=m.codes }:=by unfold Y3;rw[if_neg k1,if_neg k2,if_neg k3,if_neg ki,if_neg k8,if_pos k9]
        have hq:N3 m=(V6 m.id 1 65535&&C3 m.codes):=by unfold N3;rw[if_neg k1,if_neg k2,if_neg k3,if_neg ki,if_neg k8,if_pos k9]
        repeat (refine wp_seq ?_)
        refine H21.ds O4 0 [1,3,4] rfl [ec 0 195 (.pointer (some ⟨w.heap.size,20,none⟩)),ec 1 196 (iz m.id),ec 2 197 (.pointer (some ⟨w.heap.size,15,none⟩)),ec 3 198 (.slice A1 m.codes.length c1),ec 4 199 (.pointer (some ⟨w1.heap.size,20,none⟩)),ec 6 200 (.pointer (some ⟨w1.heap.size,15,none⟩))] [⟨7,15,[(.slice A1 m.codes.length c1)]⟩,⟨5,20,[(iz m.id)]⟩] rfl rfl ⟨jm,jl fun _ ⟨_,_,h⟩=>J9 _ _ _ _ ((h.get 1 rfl).get 20 _ rfl),jm,jl fun _ ⟨_,_,h⟩=>D7 _ _ _ _ _ _ ((h.get 1 rfl).get 15 _ rfl),jm,jm,trivial⟩ ⟨q1 fun _ u h f=>Y2x _ _ _ _ _ u _ h f,q1 fun _ u h f=>D6 _ _ _ u _ h f,trivial⟩ ?_;intro a22 w5 H22 O5;have O5:X0 w w.heap.size [(w1.heap.size,(Z1 (Y3 m) (.slice A1 m.codes.length c1) Z2 Z2)),(w.heap.size,(Z1 m (.slice A1 m.codes.length c1) (.slice A2 m.wishes.length c2) (.slice A3 m.filters.length c3)))] w5:=by rw[ho];exact O5
        refine Z0 ?_;refine rl ?_;refine V8 4 (fun a' w'=>∃b,V6 m.id 1 65535=b∧Z9 a' 289 [(1,pz w.heap.size),(3,pz w1.heap.size),(204, .bool b)]∧X0 w w.heap.size [(w1.heap.size,(Z1 (Y3 m) (.slice A1 m.codes.length c1) Z2 Z2)),(w.heap.size,(Z1 m (.slice A1 m.codes.length c1) (.slice A2 m.wishes.length c2) (.slice A3 m.filters.length c3)))] w') ?_ ?_
        ·skip
         refine H22.ms 1 fun a23 H23=>?_;refine H23.ld 0 (O5.li 1 20) fun a24 H24=>?_;refine H24.cq 1 (X2o m.id _) fun a26 H26=>?_;exact nt ⟨_,by rfl,H26.keep ⟨rfl,rfl,rfl,trivial⟩,O5⟩
        rintro a23 w6 ⟨v204,q204,H23,O6⟩;refine V8 6 (fun a' w'=>∃b,(V6 m.id 1 65535&&decide ((1:Int)≤m.codes.length))=b∧Z9 a' 289 [(1,pz w.heap.size),(3,pz w1.heap.size),(210, .bool b)]∧X0 w w.heap.size [(w1.heap.size,(Z1 (Y3 m) (.slice A1 m.codes.length c1) Z2 Z2)),(w.heap.size,(Z1 m (.slice A1 m.codes.length c1) (.slice A2 m.wishes.length c2) (.slice A3 m.filters.length c3)))] w') ?_ ?_
        ·skip
         cases v204 with
         |false=>
          refine H23.offs 4 rfl ?_;intro a24 H24;refine H24.pick gz rfl rfl rfl rfl rfl ?_;intro a25 H25;refine H25.ms 1 fun a26 H26=>?_;exact nt ⟨_,by rw[q204]<;>rfl,H26.keep ⟨rfl,rfl,rfl,trivial⟩,O6⟩
         |true=>
          refine H23.field (H23.wt rfl rfl rfl) rfl rfl rfl rfl Z7n ?_;intro a24 H24;refine H24.load (H24.wt rfl rfl rfl) rfl rfl rfl rfl (D7 _ _ _ _ _ _ ((O6.get 1 rfl).get 15 _ rfl)) ?_;intro a25 H25;refine H25.len (H25.wt rfl rfl rfl) rfl rfl rfl rfl Tryz.underlying45 ?_;intro a26 H26;refine H26.bin (H26.wt rfl rfl rfl) rfl rfl rfl rfl rfl (Z6k _ _ _ rfl _ _ _) ?_;intro a27 H27;refine H27.pick gz rfl rfl rfl rfl rfl ?_;intro a28 H28;refine H28.ms 1 fun a29 H29=>?_;exact nt ⟨_,by rw[q204]<;>rfl,H29.keep ⟨rfl,rfl,rfl,trivial⟩,O6⟩
        rintro a24 w7 ⟨v210,q210,H24,O7⟩;refine V8 5 (fun a' w'=>∃b,((V6 m.id 1 65535&&decide ((1:Int)≤m.codes.length))&&decide ((m.codes.length:Int)≤8))=b∧Z9 a' 289 [(1,pz w.heap.size),(3,pz w1.heap.size),(215, .bool b)]∧X0 w w.heap.size [(w1.heap.size,(Z1 (Y3 m) (.slice A1 m.codes.length c1) Z2 Z2)),(w.heap.size,(Z1 m (.slice A1 m.codes.length c1) (.slice A2 m.wishes.length c2) (.slice A3 m.filters.length c3)))] w') ?_ ?_
        ·skip
         cases v210 with
         |false=>
          refine H24.offs 4 rfl ?_;intro a25 H25;refine H25.pick gz rfl rfl rfl rfl rfl ?_;intro a26 H26;exact nt ⟨_,by rw[q210]<;>rfl,H26.keep ⟨rfl,rfl,rfl,trivial⟩,O7⟩
         |true=>
          refine H24.field (H24.wt rfl rfl rfl) rfl rfl rfl rfl Z7n ?_;intro a25 H25;refine H25.load (H25.wt rfl rfl rfl) rfl rfl rfl rfl (D7 _ _ _ _ _ _ ((O7.get 1 rfl).get 15 _ rfl)) ?_;intro a26 H26;refine H26.len (H26.wt rfl rfl rfl) rfl rfl rfl rfl Tryz.underlying45 ?_;intro a27 H27;refine H27.bin (H27.wt rfl rfl rfl) rfl rfl rfl rfl rfl (X8f _ _ _ rfl _ _ _) ?_;intro a28 H28;refine H28.pick gz rfl rfl rfl rfl rfl ?_;intro a29 H29;exact nt ⟨_,by rw[q210]<;>rfl,H29.keep ⟨rfl,rfl,rfl,trivial⟩,O7⟩
        rintro a25 w8 ⟨v215,q215,H25,O8⟩;refine H25.ms 1 fun a26 H26=>nt ?_;refine H26.rg 1 fun a27 H27=>nt ?_;refine wp_block ?_;refine Q7 m.codes.length (fun k a w'=>∃b,(((V6 m.id 1 65535&&decide ((1:Int)≤m.codes.length))&&decide ((m.codes.length:Int)≤8))&&G4 (m.codes.take k))=b∧Z9 a 289 [(1,pz w.heap.size),(3,pz w1.heap.size),(4, .bool b),(5,iz k)]∧X0 w w.heap.size [(w1.heap.size,(Z1 (Y3 m) (.slice A1 m.codes.length c1) Z2 Z2)),(w.heap.size,(Z1 m (.slice A1 m.codes.length c1) (.slice A2 m.wishes.length c2) (.slice A3 m.filters.length c3)))] w') ?_ ?_
        ·exact⟨_,(by rw[List.take_zero,q215];simp[G4]),H27.keep ⟨rfl,rfl,rfl,rfl,trivial⟩,O8⟩
        ·rintro k a28 w9 hkn ⟨v4,q4,H28,O9⟩
         by_cases hlt:k<m.codes.length
         ·skip
          refine H28.rg 2 fun a30 H30=>?_;refine H30.ld 0 (O9.l6 1 15) fun a31 H31=>?_;refine H31.len gz rfl rfl rfl rfl Tryz.underlying45 ?_;intro a32 H32;refine H32.bb 0 rfl rfl rfl rfl rfl rfl (Q3 _ _ true (by simpa using hlt) _ _ _) rfl fun a33 H33=>nt ?_;refine H33.condT rfl ?_;refine Z3 ?_;refine Z0 ?_;repeat (refine wp_seq ?_)
          refine wp_block ?_;refine rl ?_;obtain⟨b,o,v,hA,_,hv,hc⟩:=(r1.next O9.bel).get1 hlt;obtain⟨x,hx⟩:∃x,m.codes[k]? = some x:=⟨_,List.getElem?_eq_getElem hlt⟩;rw[List.getElem?_map,hx] at hv;injection hv with hv
          subst hv;refine V8 17 (fun a' w'=>∃b,((((V6 m.id 1 65535&&decide ((1:Int)≤m.codes.length))&&decide ((m.codes.length:Int)≤8))&&G4 (m.codes.take k))&&(V6 x 0 2||(x==128)))=b∧Z9 a' 289 [(1,pz w.heap.size),(3,pz w1.heap.size),(5,iz k),(239, .bool b)]∧X0 w w.heap.size [(w1.heap.size,(Z1 (Y3 m) (.slice A1 m.codes.length c1) Z2 Z2)),(w.heap.size,(Z1 m (.slice A1 m.codes.length c1) (.slice A2 m.wishes.length c2) (.slice A3 m.filters.length c3)))] w') ?_ ?_
          ·skip
           refine H33.ms 2 fun a35 H35=>?_;cases v4 with
           |false=>
            refine H35.offs 14 rfl ?_;intro a36 H36;refine H36.pick gz rfl rfl rfl rfl rfl ?_;intro a37 H37;exact nt ⟨_,by rw[q4]<;>rfl,H37.keep ⟨rfl,rfl,rfl,rfl,trivial⟩,O9⟩
           |true=>
            refine H35.field (H35.wt rfl rfl rfl) rfl rfl rfl rfl Z7n ?_;intro a36 H36;refine H36.load (H36.wt rfl rfl rfl) rfl rfl rfl rfl (D7 _ _ _ _ _ _ ((O9.get 1 rfl).get 15 _ rfl)) ?_;intro a37 H37;refine H37.move (H37.wt rfl rfl rfl) (.inl rfl) rfl rfl rfl ?_;intro a38 H38;refine H38.index (H38.wt rfl rfl rfl) rfl rfl rfl rfl rfl (show (Instr.indexAt 45 (.slice A1 m.codes.length c1) (iz k)).run Tryz.prog _ = .ok (.pointer (some ⟨b,o+k,none⟩)) _ by rw[hA];exact U7 45 Tryz.underlying45 (fun _=>by kernel_rfl) _ _ _ _ _ hlt _) ?_;intro a39 H39;refine H39.load (H39.wt rfl rfl rfl) rfl rfl rfl rfl (J9 _ _ _ _ hc) ?_;intro a40 H40;refine H40.call (H40.wt rfl rfl rfl) rfl rfl rfl rfl (fun _ _=>by kernel_rfl) (Z6t (Z9s x 2 _)) ?_;rintro a41 _ _ ⟨rfl,rfl⟩ H41;refine H41.move (H41.wt rfl rfl rfl) (.inl rfl) rfl rfl rfl ?_;intro a42 H42;obtain⟨v231,q231⟩:∃b,V6 x 0 2=b:=⟨_,rfl⟩;rw[q231] at H42;cases v231 with
            |false=>
             refine H42.field (H42.wt rfl rfl rfl) rfl rfl rfl rfl Z7n ?_;intro a43 H43;refine H43.load (H43.wt rfl rfl rfl) rfl rfl rfl rfl (D7 _ _ _ _ _ _ ((O9.get 1 rfl).get 15 _ rfl)) ?_;intro a44 H44;refine H44.move (H44.wt rfl rfl rfl) (.inl rfl) rfl rfl rfl ?_;intro a45 H45;refine H45.index (H45.wt rfl rfl rfl) rfl rfl rfl rfl rfl (show (Instr.indexAt 45 (.slice A1 m.codes.length c1) (iz k)).run Tryz.prog _ = .ok (.pointer (some ⟨b,o+k,none⟩)) _ by rw[hA];exact U7 45 Tryz.underlying45 (fun _=>by kernel_rfl) _ _ _ _ _ hlt _) ?_;intro a46 H46;refine H46.load (H46.wt rfl rfl rfl) rfl rfl rfl rfl (J9 _ _ _ _ hc) ?_;intro a47 H47;refine H47.bin (H47.wt rfl rfl rfl) rfl rfl rfl rfl rfl (N8 _ _ _ _ _) ?_;intro a48 H48;refine H48.pick (H48.wt rfl rfl rfl) rfl rfl rfl rfl rfl ?_;intro a49 H49;refine H49.pick gz rfl rfl rfl rfl rfl ?_;intro a50 H50;exact nt ⟨_,by rw[q4,q231]<;>rfl,H50.keep ⟨rfl,rfl,rfl,rfl,trivial⟩,O9⟩
            |true=>
             refine H42.offs 6 rfl ?_;intro a43 H43;refine H43.pick (H43.wt rfl rfl rfl) rfl rfl rfl rfl rfl ?_;intro a44 H44;refine H44.pick gz rfl rfl rfl rfl rfl ?_;intro a45 H45;exact nt ⟨_,by rw[q4,q231]<;>rfl,H45.keep ⟨rfl,rfl,rfl,rfl,trivial⟩,O9⟩
          rintro a34 w10 ⟨v239,q239,H34,O10⟩;refine H34.ms 1 fun a35 H35=>?_;refine wpList_nil ?_;refine Z6 ?_;refine Z0 ?_;refine H35.rg 1 fun a36 H36=>?_;refine H36.bb 1 rfl rfl rfl rfl rfl rfl (E7 _ (by omega) _ _ _) rfl fun a38 H38=>nt ?_;exact⟨hlt,_,(by rw[E5 _ _ _ hx,Y7o,←Bool.and_assoc];exact q239),H38.keep ⟨rfl,rfl,rfl,rfl,trivial⟩,O10⟩
         ·skip
          refine H28.rg 2 fun a30 H30=>?_;refine H30.ld 0 (O9.l6 1 15) fun a31 H31=>?_;refine H31.len gz rfl rfl rfl rfl Tryz.underlying45 ?_;intro a32 H32;refine H32.bb 0 rfl rfl rfl rfl rfl rfl (Q3 _ _ false (by simpa using hlt) _ _ _) rfl fun a33 H33=>nt ?_;refine H33.condF rfl ?_;refine wp_exit ?_;repeat (with_reducible refine J7 ?_)
          refine X3 ?_;rw[List.take_of_length_le (by omega)] at q4;refine Z6 ?_;refine Z0 ?_;exact⟨(.slice A1 m.codes.length c1),Z2,Z2,(by rw[hq,show (V6 m.id 1 65535&&C3 m.codes)=v4 from (X4n _ _ _).symm.trans q4];exact H33.keep ⟨rfl,rfl,rfl,trivial⟩),(hL.next O9.bel).onlyC (by rw[ho]<;>rfl) (by rw[ho]<;>rfl) (by rw[ho]<;>rfl),O9⟩
       |false=>
        have k9:¬m.kind=9:=by simpa using h9
        refine rl ?_;refine H19.bn 1 (Z7 _ _ _ h9 _ _ _) fun a21 H21=>nt ?_;refine H21.condF rfl ?_;obtain⟨b10,h10⟩:∃b,(m.kind==10)=b:=⟨_,rfl⟩;cases b10 with
        |true=>
         have k10:m.kind=10:=by simpa using h10
         refine rl ?_;refine H21.bn 1 (Z7 _ _ _ h10 _ _ _) fun a23 H23=>nt ?_;refine H23.condT rfl ?_;have ho:Y3 m={ N6 m.kind with id:=m.id,filters:=m.filters }:=by unfold Y3;rw[if_neg k1,if_neg k2,if_neg k3,if_neg ki,if_neg k8,if_neg k9,if_pos k10]
         have hq:N3 m=(V6 m.id 1 65535&&M0 m.filters):=by unfold N3;rw[if_neg k1,if_neg k2,if_neg k3,if_neg ki,if_neg k8,if_neg k9,if_pos k10]
         repeat (refine wp_seq ?_)
         refine H23.ds O4 0 [1,3,4] rfl [ec 0 242 (.pointer (some ⟨w.heap.size,20,none⟩)),ec 1 243 (iz m.id),ec 2 244 (.pointer (some ⟨w.heap.size,23,none⟩)),ec 3 245 (.slice A3 m.filters.length c3),ec 4 246 (.pointer (some ⟨w1.heap.size,20,none⟩)),ec 6 247 (.pointer (some ⟨w1.heap.size,23,none⟩))] [⟨7,23,[(.slice A3 m.filters.length c3)]⟩,⟨5,20,[(iz m.id)]⟩] rfl rfl ⟨jm,jl fun _ ⟨_,_,h⟩=>J9 _ _ _ _ ((h.get 1 rfl).get 20 _ rfl),jm,jl fun _ ⟨_,_,h⟩=>S6 _ _ _ _ _ _ ((h.get 1 rfl).get 23 _ rfl),jm,jm,trivial⟩ ⟨q1 fun _ u h f=>Y2z _ _ _ _ _ u _ h f,q1 fun _ u h f=>D6 _ _ _ u _ h f,trivial⟩ ?_;intro a24 w5 H24 O5;have O5:X0 w w.heap.size [(w1.heap.size,(Z1 (Y3 m) Z2 Z2 (.slice A3 m.filters.length c3))),(w.heap.size,(Z1 m (.slice A1 m.codes.length c1) (.slice A2 m.wishes.length c2) (.slice A3 m.filters.length c3)))] w5:=by rw[ho];exact O5
         refine Z0 ?_;refine rl ?_;refine V8 4 (fun a' w'=>∃b,V6 m.id 1 65535=b∧Z9 a' 289 [(1,pz w.heap.size),(3,pz w1.heap.size),(251, .bool b)]∧X0 w w.heap.size [(w1.heap.size,(Z1 (Y3 m) Z2 Z2 (.slice A3 m.filters.length c3))),(w.heap.size,(Z1 m (.slice A1 m.codes.length c1) (.slice A2 m.wishes.length c2) (.slice A3 m.filters.length c3)))] w') ?_ ?_
         ·skip
          refine H24.ms 1 fun a25 H25=>?_;refine H25.ld 0 (O5.li 1 20) fun a26 H26=>?_;refine H26.cq 1 (X2o m.id _) fun a28 H28=>?_;exact nt ⟨_,by rfl,H28.keep ⟨rfl,rfl,rfl,trivial⟩,O5⟩
         rintro a25 w6 ⟨v251,q251,H25,O6⟩;refine V8 6 (fun a' w'=>∃b,(V6 m.id 1 65535&&decide ((1:Int)≤m.filters.length))=b∧Z9 a' 289 [(1,pz w.heap.size),(3,pz w1.heap.size),(257, .bool b)]∧X0 w w.heap.size [(w1.heap.size,(Z1 (Y3 m) Z2 Z2 (.slice A3 m.filters.length c3))),(w.heap.size,(Z1 m (.slice A1 m.codes.length c1) (.slice A2 m.wishes.length c2) (.slice A3 m.filters.length c3)))] w') ?_ ?_
         ·skip
          cases v251 with
          |false=>
           refine H25.offs 4 rfl ?_;intro a26 H26;refine H26.pick gz rfl rfl rfl rfl rfl ?_;intro a27 H27;refine H27.ms 1 fun a28 H28=>?_;exact nt ⟨_,by rw[q251]<;>rfl,H28.keep ⟨rfl,rfl,rfl,trivial⟩,O6⟩
          |true=>
           refine H25.field (H25.wt rfl rfl rfl) rfl rfl rfl rfl Z9j ?_;intro a26 H26;refine H26.load (H26.wt rfl rfl rfl) rfl rfl rfl rfl (S6 _ _ _ _ _ _ ((O6.get 1 rfl).get 23 _ rfl)) ?_;intro a27 H27;refine H27.len (H27.wt rfl rfl rfl) rfl rfl rfl rfl Tryz.underlying47 ?_;intro a28 H28;refine H28.bin (H28.wt rfl rfl rfl) rfl rfl rfl rfl rfl (Z6k _ _ _ rfl _ _ _) ?_;intro a29 H29;refine H29.pick gz rfl rfl rfl rfl rfl ?_;intro a30 H30;refine H30.ms 1 fun a31 H31=>?_;exact nt ⟨_,by rw[q251]<;>rfl,H31.keep ⟨rfl,rfl,rfl,trivial⟩,O6⟩
         rintro a26 w7 ⟨v257,q257,H26,O7⟩;refine V8 5 (fun a' w'=>∃b,((V6 m.id 1 65535&&decide ((1:Int)≤m.filters.length))&&decide ((m.filters.length:Int)≤8))=b∧Z9 a' 289 [(1,pz w.heap.size),(3,pz w1.heap.size),(262, .bool b)]∧X0 w w.heap.size [(w1.heap.size,(Z1 (Y3 m) Z2 Z2 (.slice A3 m.filters.length c3))),(w.heap.size,(Z1 m (.slice A1 m.codes.length c1) (.slice A2 m.wishes.length c2) (.slice A3 m.filters.length c3)))] w') ?_ ?_
         ·skip
          cases v257 with
          |false=>
           refine H26.offs 4 rfl ?_;intro a27 H27;refine H27.pick gz rfl rfl rfl rfl rfl ?_;intro a28 H28;exact nt ⟨_,by rw[q257]<;>rfl,H28.keep ⟨rfl,rfl,rfl,trivial⟩,O7⟩
          |true=>
           refine H26.field (H26.wt rfl rfl rfl) rfl rfl rfl rfl Z9j ?_;intro a27 H27;refine H27.load (H27.wt rfl rfl rfl) rfl rfl rfl rfl (S6 _ _ _ _ _ _ ((O7.get 1 rfl).get 23 _ rfl)) ?_;intro a28 H28;refine H28.len (H28.wt rfl rfl rfl) rfl rfl rfl rfl Tryz.underlying47 ?_;intro a29 H29;refine H29.bin (H29.wt rfl rfl rfl) rfl rfl rfl rfl rfl (X8f _ _ _ rfl _ _ _) ?_;intro a30 H30;refine H30.pick gz rfl rfl rfl rfl rfl ?_;intro a31 H31;exact nt ⟨_,by rw[q257]<;>rfl,H31.keep ⟨rfl,rfl,rfl,trivial⟩,O7⟩
         rintro a27 w8 ⟨v262,q262,H27,O8⟩;refine H27.ms 1 fun a28 H28=>nt ?_;refine H28.rg 1 fun a29 H29=>nt ?_;refine wp_block ?_;refine Q7 m.filters.length (fun k a w'=>∃b,(((V6 m.id 1 65535&&decide ((1:Int)≤m.filters.length))&&decide ((m.filters.length:Int)≤8))&&Q2 (m.filters.take k))=b∧Z9 a 289 [(1,pz w.heap.size),(3,pz w1.heap.size),(4, .bool b),(6,iz k)]∧X0 w w.heap.size [(w1.heap.size,(Z1 (Y3 m) Z2 Z2 (.slice A3 m.filters.length c3))),(w.heap.size,(Z1 m (.slice A1 m.codes.length c1) (.slice A2 m.wishes.length c2) (.slice A3 m.filters.length c3)))] w') ?_ ?_
         ·exact⟨_,(by rw[List.take_zero,q262];simp[Q2]),H29.keep ⟨rfl,rfl,rfl,rfl,trivial⟩,O8⟩
         ·rintro k a30 w9 hkn ⟨v4,q4,H30,O9⟩
          by_cases hlt:k<m.filters.length
          ·skip
           refine H30.rg 2 fun a32 H32=>?_;refine H32.ld 0 (O9.l8 1 23) fun a33 H33=>?_;refine H33.len gz rfl rfl rfl rfl Tryz.underlying47 ?_;intro a34 H34;refine H34.bb 0 rfl rfl rfl rfl rfl rfl (Q3 _ _ true (by simpa using hlt) _ _ _) rfl fun a35 H35=>nt ?_;refine H35.condT rfl ?_;refine Z3 ?_;refine Z0 ?_;repeat (refine wp_seq ?_)
           refine wp_block ?_;refine rl ?_;obtain⟨b,o,v,hA,_,hv,hc⟩:=(r3.next O9.bel).get1 hlt;obtain⟨x,hx⟩:∃x,m.filters[k]? = some x:=⟨_,List.getElem?_eq_getElem hlt⟩;rw[List.getElem?_map,hx] at hv;injection hv with hv
           subst hv;refine V8 9 (fun a' w'=>∃b,((((V6 m.id 1 65535&&decide ((1:Int)≤m.filters.length))&&decide ((m.filters.length:Int)≤8))&&Q2 (m.filters.take k))&&G3 x 1 64)=b∧Z9 a' 289 [(1,pz w.heap.size),(3,pz w1.heap.size),(6,iz k),(278, .bool b)]∧X0 w w.heap.size [(w1.heap.size,(Z1 (Y3 m) Z2 Z2 (.slice A3 m.filters.length c3))),(w.heap.size,(Z1 m (.slice A1 m.codes.length c1) (.slice A2 m.wishes.length c2) (.slice A3 m.filters.length c3)))] w') ?_ ?_
           ·skip
            refine H35.ms 2 fun a37 H37=>?_;cases v4 with
            |false=>
             refine H37.offs 6 rfl ?_;intro a38 H38;refine H38.pick gz rfl rfl rfl rfl rfl ?_;intro a39 H39;exact nt ⟨_,by rw[q4]<;>rfl,H39.keep ⟨rfl,rfl,rfl,rfl,trivial⟩,O9⟩
            |true=>
             refine H37.field (H37.wt rfl rfl rfl) rfl rfl rfl rfl Z9j ?_;intro a38 H38;refine H38.load (H38.wt rfl rfl rfl) rfl rfl rfl rfl (S6 _ _ _ _ _ _ ((O9.get 1 rfl).get 23 _ rfl)) ?_;intro a39 H39;refine H39.move (H39.wt rfl rfl rfl) (.inl rfl) rfl rfl rfl ?_;intro a40 H40;refine H40.index (H40.wt rfl rfl rfl) rfl rfl rfl rfl rfl (show (Instr.indexAt 47 (.slice A3 m.filters.length c3) (iz k)).run Tryz.prog _ = .ok (.pointer (some ⟨b,o+k,none⟩)) _ by rw[hA];exact U7 47 Tryz.underlying47 (fun _=>by kernel_rfl) _ _ _ _ _ hlt _) ?_;intro a41 H41;refine H41.load (H41.wt rfl rfl rfl) rfl rfl rfl rfl (G1 _ _ _ _ hc) ?_;intro a42 H42;refine H42.call (H42.wt rfl rfl rfl) rfl rfl rfl rfl (fun _ _=>by kernel_rfl) (Z1f (Z7h x (hF.filters x (List.mem_of_getElem? hx)) 1 64 _ (hW.below O9.bel))) ?_;rintro a43 _ w10 ⟨rfl,hb⟩ H43;have O10:=O9.call hb;clear hb;refine H43.pick gz rfl rfl rfl rfl rfl ?_;intro a44 H44;exact nt ⟨_,by rw[q4]<;>rfl,H44.keep ⟨rfl,rfl,rfl,rfl,trivial⟩,O10⟩
           rintro a36 w10 ⟨v278,q278,H36,O10⟩;refine H36.ms 1 fun a37 H37=>?_;refine wpList_nil ?_;refine Z6 ?_;refine Z0 ?_;refine H37.rg 1 fun a38 H38=>?_;refine H38.bb 1 rfl rfl rfl rfl rfl rfl (E7 _ (by omega) _ _ _) rfl fun a40 H40=>nt ?_;exact⟨hlt,_,(by rw[E5 _ _ _ hx,Y3x,←Bool.and_assoc];exact q278),H40.keep ⟨rfl,rfl,rfl,rfl,trivial⟩,O10⟩
          ·skip
           refine H30.rg 2 fun a32 H32=>?_;refine H32.ld 0 (O9.l8 1 23) fun a33 H33=>?_;refine H33.len gz rfl rfl rfl rfl Tryz.underlying47 ?_;intro a34 H34;refine H34.bb 0 rfl rfl rfl rfl rfl rfl (Q3 _ _ false (by simpa using hlt) _ _ _) rfl fun a35 H35=>nt ?_;refine H35.condF rfl ?_;refine wp_exit ?_;repeat (with_reducible refine J7 ?_)
           refine X3 ?_;rw[List.take_of_length_le (by omega)] at q4;refine Z6 ?_;refine Z0 ?_;exact⟨Z2,Z2,(.slice A3 m.filters.length c3),(by rw[hq,show (V6 m.id 1 65535&&M0 m.filters)=v4 from (X4n _ _ _).symm.trans q4];exact H35.keep ⟨rfl,rfl,rfl,trivial⟩),(hL.next O9.bel).onlyF (by rw[ho]<;>rfl) (by rw[ho]<;>rfl) (by rw[ho]<;>rfl),O9⟩
        |false=>
         have k10:¬m.kind=10:=by simpa using h10
         refine rl ?_;refine H21.bn 1 (Z7 _ _ _ h10 _ _ _) fun a23 H23=>nt ?_;refine H23.condF rfl ?_;refine Z8 (fun a w'=>∃b,J3 m.kind=b∧Z9 a 289 [(1,pz w.heap.size),(3,pz w1.heap.size),(4, .bool true),(11,iz m.kind),(279, .bool b)]∧X0 w w.heap.size [(w1.heap.size,(Z1 (N6 m.kind) Z2 Z2 Z2)),(w.heap.size,(Z1 m (.slice A1 m.codes.length c1) (.slice A2 m.wishes.length c2) (.slice A3 m.filters.length c3)))] w') ?_ ?_
         ·skip
          obtain⟨b12,h12⟩:∃b,(m.kind==12)=b:=⟨_,rfl⟩;cases b12 with
          |true=>
           refine rl ?_;refine H23.bn 1 (Z7 _ _ _ h12 _ _ _) fun a25 H25=>nt ?_;refine H25.condT rfl ?_;refine Z3 ?_;refine Z0 ?_;exact⟨_,(by unfold J3;rw[h12]<;>rfl),H25.keep ⟨rfl,rfl,rfl,rfl,rfl,trivial⟩,O4⟩
          |false=>
           refine rl ?_;refine H23.bn 1 (Z7 _ _ _ h12 _ _ _) fun a25 H25=>nt ?_;refine H25.condF rfl ?_;obtain⟨b13,h13⟩:∃b,(m.kind==13)=b:=⟨_,rfl⟩;cases b13 with
           |true=>
            refine rl ?_;refine H25.bn 1 (Z7 _ _ _ h13 _ _ _) fun a27 H27=>nt ?_;refine H27.condT rfl ?_;refine Z3 ?_;refine Z0 ?_;exact⟨_,(by unfold J3;rw[h12,h13]<;>rfl),H27.keep ⟨rfl,rfl,rfl,rfl,rfl,trivial⟩,O4⟩
           |false=>
            refine rl ?_;refine H25.bn 1 (Z7 _ _ _ h13 _ _ _) fun a27 H27=>nt ?_;refine H27.condF rfl ?_;obtain⟨b14,h14⟩:∃b,(m.kind==14)=b:=⟨_,rfl⟩;cases b14 with
            |true=>
             refine rl ?_;refine H27.bn 1 (Z7 _ _ _ h14 _ _ _) fun a29 H29=>nt ?_;exact⟨_,(by unfold J3;rw[h12,h13,h14]<;>rfl),H29.keep ⟨rfl,rfl,rfl,rfl,rfl,trivial⟩,O4⟩
            |false=>
             refine rl ?_;refine H27.bn 1 (Z7 _ _ _ h14 _ _ _) fun a29 H29=>nt ?_;exact⟨_,(by unfold J3;rw[h12,h13,h14]<;>rfl),H29.keep ⟨rfl,rfl,rfl,rfl,rfl,trivial⟩,O4⟩
         rintro a24 w5 ⟨v279,q279,H24,O5⟩;cases v279 with
         |true=>
          refine H24.condT rfl ?_;refine Z3 ?_;have ho:Y3 m=N6 m.kind:=by unfold Y3;rw[if_neg k1,if_neg k2,if_neg k3,if_neg ki,if_neg k8,if_neg k9,if_neg k10]
          have hq:N3 m=J3 m.kind:=by unfold N3;rw[if_neg k1,if_neg k2,if_neg k3,if_neg ki,if_neg k8,if_neg k9,if_neg k10]
          have O5:X0 w w.heap.size [(w1.heap.size,(Z1 (Y3 m) Z2 Z2 Z2)),(w.heap.size,(Z1 m (.slice A1 m.codes.length c1) (.slice A2 m.wishes.length c2) (.slice A3 m.filters.length c3)))] w5:=by rw[ho];exact O5
          refine Z6 ?_;refine Z0 ?_;exact⟨Z2,Z2,Z2,(by rw[hq,q279];exact H24.keep ⟨rfl,rfl,rfl,trivial⟩),MqL.nil (by rw[ho]<;>rfl) (by rw[ho]<;>rfl) (by rw[ho]<;>rfl),O5⟩
         |false=>
          refine H24.condF rfl ?_;have ho:Y3 m=N6 m.kind:=by unfold Y3;rw[if_neg k1,if_neg k2,if_neg k3,if_neg ki,if_neg k8,if_neg k9,if_neg k10]
          have hq:N3 m=J3 m.kind:=by unfold N3;rw[if_neg k1,if_neg k2,if_neg k3,if_neg ki,if_neg k8,if_neg k9,if_neg k10]
          refine H24.rg 1 fun a25 H25=>nt ?_;refine wp_ret ?_;repeat with_reducible first |apply Z4 |apply Z5
          refine bodyPost_ret (results_tmp rfl _ _ _) H25.df ⟨?_,O5.bel⟩;have hm:Z4f m=false:=by unfold Z4f;rw[hq,q279];rfl
          rw[hm];exact congrArg Ending.returned (H25.at_ 2 _ rfl)
 rintro a9 w4 ⟨vc',vw',vf',H9,hM,O4⟩;obtain⟨vo,qo⟩:∃b,N3 m=b:=⟨_,rfl⟩;rw[qo] at H9;have hm:Z4f m=(vo&&Mq.same m (Y3 m)):=by unfold Z4f;rw[qo]
 refine rl ?_;cases vo with
 |false=>
  refine H9.ms 2 fun a11 H11=>?_;refine H11.offs 3 rfl ?_;intro a12 H12;refine H12.pick gz rfl rfl rfl rfl rfl ?_;intro a13 H13;refine H13.ms 1 fun a14 H14=>nt ?_;refine wp_ret ?_;repeat with_reducible first |apply Z4 |apply Z5
  refine bodyPost_ret (results_tmp rfl _ _ _) H14.df ⟨?_,O4.bel⟩;rw[hm];exact congrArg Ending.returned (H14.at_ 2 _ rfl)
 |true=>
  refine H9.ms 2 fun a11 H11=>?_;refine H11.go (H11.wt rfl rfl rfl) rfl rfl _ (Z5n rfl (H11.ev rfl) (R1 (O4.get 0 rfl))) ?_;intro a12 H12;refine H12.go (H12.wt rfl rfl rfl) rfl rfl _ (Z5n rfl (H12.ev rfl) (R1 (O4.get 1 rfl))) ?_;intro a13 H13;refine H13.call (H13.wt rfl rfl rfl) rfl rfl rfl rfl (fun _ _=>by kernel_rfl) (Z1f (X9d (Y3 m) m _ _ _ _ _ _ _ hM (hL.next O4.bel))) ?_;rintro a14 _ w5 ⟨rfl,hb⟩ H14;have O5:=O4.call hb;clear hb;refine H14.pick gz rfl rfl rfl rfl rfl ?_;intro a15 H15;refine H15.ms 1 fun a16 H16=>nt ?_;refine wp_ret ?_;repeat with_reducible first |apply Z4 |apply Z5
  refine bodyPost_ret (results_tmp rfl _ _ _) H16.df ⟨?_,O5.bel⟩;rw[hm];rw[J1v m (Y3 m)];exact congrArg Ending.returned (H16.at_ 2 _ rfl)
end
section
open Go.RowKit
abbrev J6x (m:Mq):List Value:=[.bool m.won, .string m.wt, .string m.wp,iz m.wq, .bool m.wr]
theorem J1w (w:World):(zeroValue 44).run Tryz.prog w = .ok (.agg ([.bool false, .string nos, .string nos,iz 0, .bool false]:List Value).toArray) w:=by kernel_rfl
theorem J1x:(Tryz.prog.info? 44).map (·.size)=some 5:=by kernel_rfl
theorem J6y (o g:Nat) (w:World):(Instr.fieldAt 161 (.pointer (some ⟨g,o,none⟩)) 0).run Tryz.prog w = .ok (.pointer (some ⟨g,o,none⟩)) w:=by
 simp[go_sem]
theorem J6z (o g:Nat) (w:World):(Instr.fieldAt 161 (.pointer (some ⟨g,o,none⟩)) 1).run Tryz.prog w = .ok (.pointer (some ⟨g,o+1,none⟩)) w:=by
 simp[go_sem]
theorem Z6r (b:Bool) (nI:Int) (n:Nat) (h:nI=(n:Int)) (w:World):Calls Tryz.prog 76 #[.bool b, .int .u8 nI] w fun e w'=>e = .returned (.int .u8 ((cb b n:Nat):Int))∧w=w':=by
 refine(Q1v b nI w).mono ?_;rintro e w' ⟨rfl,rfl⟩;refine⟨?_,rfl⟩;subst h;cases b<;>rfl
theorem X4o (a:Nat) (ha:a<256):(BitVec.ofInt 8 (a:Int)).toNat=a:=by
 rw[BitVec.toNat_ofInt];omega
theorem X1k (a b:Nat) (ha:a<256) (hb:b<256) (x y:Operand) (w:World):(do eqGuard .or 5 x y (.int .u8 (a:Int)) (.int .u8 (b:Int));binOp .or 5 (.int .u8 (a:Int)) (.int .u8 (b:Int)):Sem Value).run Tryz.prog w = .ok (.int .u8 ((a|||b:Nat):Int)) w:=by
 have hx:a|||b<256:=Z4k ha hb;have e:bits .or .u8 (a:Int) (b:Int)=((a|||b:Nat):Int):=by
  show IntKind.u8.wrap ((BitVec.ofInt 8 (a:Int)|||BitVec.ofInt 8 (b:Int)).toNat:Int)=_;rw[BitVec.toNat_or,X4o a ha,X4o b hb];show ((a|||b:Nat):Int)%256=_;omega
 simp[go_sem,e]
theorem Q0d (k:Int) (h0:0≤k) (h2:k≤2) (x y:Operand) (w:World):(do eqGuard .shl 5 x y (.int .u8 (k%256)) (.int .u64 3);binOp .shl 5 (.int .u8 (k%256)) (.int .u64 3):Sem Value).run Tryz.prog w = .ok (.int .u8 ((k.toNat*8:Nat):Int)) w:=by
 have:k=0∨k=1∨k=2:=by omega
 rcases this with rfl |rfl |rfl<;>simp[go_sem]<;>rfl
theorem D5.low {W w w1:World}{b b':Nat}{bs:List (Nat×List Value)}(h:D5 W b bs w) (hb:b'≤b) (O:X0 W W.heap.size bs w1) (hs:w1.heap.size=b':=by rfl):D5 W b' bs w:=
 ⟨h.own,Nat.le_trans hb h.bw,hs▸O.le,fun p hp=>hs▸(O.mem p hp).2.1⟩
theorem D5.low2 {W w w1:World}{b b':Nat}{x:Nat×List Value}{bs:List (Nat×List Value)}(h:D5 W b (x::bs) w) (hb:b'≤b) (O:X0 W W.heap.size bs w1) (hs:w1.heap.size=b':=by rfl):D5 W b' bs w:=by
 refine⟨⟨h.own.bel,h.own.le, ?_,fun p hp=>h.own.mem p (List.mem_cons_of_mem _ hp)⟩,Nat.le_trans hb h.bw,hs▸O.le,fun p hp=>hs▸(O.mem p hp).2.1⟩;have:=h.own.nd;rw[List.map_cons,List.nodup_cons] at this;exact this.2
theorem J7a {m:Mq}(h:N3 m=true) (k1:m.kind=1):m.client.size≤65535∧m.wt.size≤65535∧m.wp.size≤65535∧m.user.size≤65535∧m.pass.size≤65535∧0≤m.keep∧m.keep≤65535∧0≤m.wq∧m.wq≤2:=by
 have hc:E4 m=true:=by unfold N3 at h;rw[if_pos k1] at h;exact h
 simp only[E4,Bool.and_eq_true,decide_eq_true_eq] at hc;obtain⟨hc,hkp,hw,hu,hps,h1,h2⟩:=hc;have hc':=N7 hc;have hu':=N7 hu;have hkp:=Q5.1 hkp;have hwq:m.wt.size≤64∧m.wp.size≤128∧0≤m.wq∧m.wq≤2:=by
  unfold Z9c at hw;cases hwon:m.won with
  |true=>
   rw[hwon,if_pos rfl] at hw;simp only[Bool.and_eq_true,decide_eq_true_eq] at hw;obtain⟨a,b,c⟩:=hw;have:=N7 a;have:=Q5.1 c;exact⟨by omega,by omega,by omega,by omega⟩
  |false=>
   rw[hwon,if_neg (by simp)] at hw;simp only[Bool.and_eq_true,beq_iff_eq,Bool.not_eq_true'] at hw;obtain⟨a,b,c,d⟩:=hw;rw[Z3x a,Z3x b,c];exact⟨by decide,by decide,by decide,by decide⟩
 exact⟨by omega,by omega,by omega,by omega,by omega,by omega,by omega,by omega,by omega⟩
theorem Q0e {m:Mq}(h:N3 m=true) (k1:¬m.kind=1) (k2:m.kind=2):0≤m.code:=by
 have hc:(V6 m.code 0 5&&(!m.present||m.code==0))=true:=by unfold N3 at h;rw[if_neg k1,if_pos k2] at h;exact h
 simp only[Bool.and_eq_true] at hc;exact(Q5.1 hc.1).1
theorem Q0f {m:Mq}(h:N3 m=true) (k1:¬m.kind=1) (k2:¬m.kind=2) (k3:m.kind=3):m.topic.size≤65535∧m.payload.size≤65535∧0≤m.id∧m.id≤65535:=by
 have hc:K9 m=true:=by unfold N3 at h;rw[if_neg k1,if_neg k2,if_pos k3] at h;exact h
 obtain⟨ht,hq0,hq2,hi,hz,hp⟩:=W5 hc;have:0≤m.id∧m.id≤65535:=by
  by_cases hq:0<m.qos
  ·have:=hi hq;omega
  ·have:=hz (by omega);omega
 exact⟨by omega,by omega,this.1,this.2⟩
theorem Q3o {m:Mq}(h:N3 m=true) (k1:¬m.kind=1) (k2:¬m.kind=2) (k3:¬m.kind=3) (kb:J3 m.kind=false):0≤m.id∧m.id≤65535:=by
 unfold N3 at h;rw[if_neg k1,if_neg k2,if_neg k3,kb] at h;have ids:∀{n:Int},V6 n 1 65535=true→0≤n∧n≤65535:=fun h=>by have:=Q5.1 h;omega
 split at h
 ·exact ids h
 ·split at h
  ·exact ids (Bool.and_eq_true _ _▸h).1
  ·split at h
   ·exact ids (Bool.and_eq_true _ _▸h).1
   ·split at h
    ·exact ids (Bool.and_eq_true _ _▸h).1
    ·cases h
def Z0k (m:Mq):List UInt8:=
 if m.kind=1 then P4 m
 else if m.kind=2 then [UInt8.ofNat (cb m.present 1),UInt8.ofNat m.code.toNat]
 else if m.kind=3 then Z0q m
 else if J3 m.kind then [] else U1 2 m.id.toNat
theorem Q1c {m:Mq}(k1:m.kind=1):Z0k m=P4 m:=by unfold Z0k;rw[if_pos k1]
theorem Q5z {m:Mq}(k2:m.kind=2):Z0k m=[UInt8.ofNat (cb m.present 1),UInt8.ofNat m.code.toNat]:=by unfold Z0k;rw[if_neg (by omega),if_pos k2]
theorem Q6a {m:Mq}(k3:m.kind=3):Z0k m=Z0q m:=by unfold Z0k;rw[if_neg (by omega),if_neg (by omega),if_pos k3]
theorem Q6b {m:Mq}(k1:¬m.kind=1) (k2:¬m.kind=2) (k3:¬m.kind=3) (kb:J3 m.kind=true):Z0k m=[]:=by unfold Z0k;rw[if_neg k1,if_neg k2,if_neg k3,if_pos kb]
theorem Q6c {m:Mq}(k1:¬m.kind=1) (k2:¬m.kind=2) (k3:¬m.kind=3) (kb:J3 m.kind=false):Z0k m=U1 2 m.id.toNat:=by unfold Z0k;rw[if_neg k1,if_neg k2,if_neg k3,if_neg (by simp[kb])]
theorem J1y {m:Mq}(hm:Z4b m):Q4 m.wishes=true∧m.wishes.length≤8∧G4 m.codes=true∧m.codes.length≤8∧Q2 m.filters=true∧m.filters.length≤8:=by
 obtain⟨h,ho⟩:=hm;unfold N3 at h;unfold Y3 at ho;have hw:=congrArg Mq.wishes ho;have hc:=congrArg Mq.codes ho;have hf:=congrArg Mq.filters ho;by_cases k1:m.kind=1
 ·simp only[if_pos k1] at hw hc hf
  rw[hw,hc,hf];exact⟨rfl,Nat.zero_le 8,rfl,Nat.zero_le 8,rfl,Nat.zero_le 8⟩
 by_cases k2:m.kind=2
 ·simp only[if_neg k1,if_pos k2] at hw hc hf
  rw[hw,hc,hf];exact⟨rfl,Nat.zero_le 8,rfl,Nat.zero_le 8,rfl,Nat.zero_le 8⟩
 by_cases k3:m.kind=3
 ·simp only[if_neg k1,if_neg k2,if_pos k3] at hw hc hf
  rw[hw,hc,hf];exact⟨rfl,Nat.zero_le 8,rfl,Nat.zero_le 8,rfl,Nat.zero_le 8⟩
 by_cases ki:Q8 m.kind=true
 ·simp only[if_neg k1,if_neg k2,if_neg k3,if_pos ki] at hw hc hf
  rw[hw,hc,hf];exact⟨rfl,Nat.zero_le 8,rfl,Nat.zero_le 8,rfl,Nat.zero_le 8⟩
 by_cases k8:m.kind=8
 ·simp only[if_neg k1,if_neg k2,if_neg k3,if_neg ki,if_pos k8,Bool.and_eq_true,E8] at h hw hc hf
  have:=Q5.1 h.2.2;rw[hc,hf];exact⟨h.2.1,by omega,rfl,Nat.zero_le 8,rfl,Nat.zero_le 8⟩
 by_cases k9:m.kind=9
 ·simp only[if_neg k1,if_neg k2,if_neg k3,if_neg ki,if_neg k8,if_pos k9,Bool.and_eq_true,C3] at h hw hc hf
  have:=Q5.1 h.2.2;rw[hw,hf];exact⟨rfl,Nat.zero_le 8,h.2.1,by omega,rfl,Nat.zero_le 8⟩
 by_cases k10:m.kind=10
 ·simp only[if_neg k1,if_neg k2,if_neg k3,if_neg ki,if_neg k8,if_neg k9,if_pos k10,Bool.and_eq_true,M0] at h hw hc hf
  have:=Q5.1 h.2.2;rw[hw,hc];exact⟨rfl,Nat.zero_le 8,rfl,Nat.zero_le 8,h.2.1,by omega⟩
 simp only[if_neg k1,if_neg k2,if_neg k3,if_neg ki,if_neg k8,if_neg k9,if_neg k10] at hw hc hf;rw[hw,hc,hf];exact⟨rfl,Nat.zero_le 8,rfl,Nat.zero_le 8,rfl,Nat.zero_le 8⟩
theorem X4p {m:Mq}(hm:Z4b m):X8 m=(((Z0k m)++Y9 m.wishes)++G2 m.codes)++J8 m.filters:=by
 obtain⟨h,ho⟩:=hm;unfold N3 at h;unfold Y3 at ho;have hw:=congrArg Mq.wishes ho;have hc:=congrArg Mq.codes ho;have hf:=congrArg Mq.filters ho;unfold X8 Z0k;by_cases k1:m.kind=1
 ·simp only[if_pos k1] at hw hc hf
  rw[hw,hc,hf,if_pos k1,if_pos k1];simp[N6,Y9,G2,J8]
 by_cases k2:m.kind=2
 ·simp only[if_neg k1,if_pos k2] at hw hc hf
  rw[hw,hc,hf,if_neg k1,if_pos k2,if_neg k1,if_pos k2];simp[N6,Y9,G2,J8]
 by_cases k3:m.kind=3
 ·simp only[if_neg k1,if_neg k2,if_pos k3] at hw hc hf
  rw[hw,hc,hf,if_neg k1,if_neg k2,if_pos k3,if_neg k1,if_neg k2,if_pos k3];simp[N6,Y9,G2,J8]
 by_cases ki:Q8 m.kind=true
 ·simp only[if_neg k1,if_neg k2,if_neg k3,if_pos ki] at hw hc hf
  have hb:¬J3 m.kind=true:=by
   simp only[Q8,J3,Bool.or_eq_true,beq_iff_eq] at ki ⊢;omega
  have n8:¬m.kind=8:=by simp only[Q8,Bool.or_eq_true,beq_iff_eq] at ki;omega
  have n9:¬m.kind=9:=by simp only[Q8,Bool.or_eq_true,beq_iff_eq] at ki;omega
  have n10:¬m.kind=10:=by simp only[Q8,Bool.or_eq_true,beq_iff_eq] at ki;omega
  rw[hw,hc,hf,if_neg k1,if_neg k2,if_neg k3,if_neg n8,if_neg n9,if_neg n10,if_neg hb,if_neg k1,if_neg k2,if_neg k3];simp[N6,Y9,G2,J8]
 by_cases k8:m.kind=8
 ·simp only[if_neg k1,if_neg k2,if_neg k3,if_neg ki,if_pos k8] at hw hc hf
  rw[hc,hf,if_neg k1,if_neg k2,if_neg k3,if_pos k8,if_neg k1,if_neg k2,if_neg k3,if_neg (by rw[k8];decide)];simp[N6,G2,J8]
 by_cases k9:m.kind=9
 ·simp only[if_neg k1,if_neg k2,if_neg k3,if_neg ki,if_neg k8,if_pos k9] at hw hc hf
  rw[hw,hf,if_neg k1,if_neg k2,if_neg k3,if_neg k8,if_pos k9,if_neg k1,if_neg k2,if_neg k3,if_neg (by rw[k9];decide)];simp[N6,Y9,J8]
 by_cases k10:m.kind=10
 ·simp only[if_neg k1,if_neg k2,if_neg k3,if_neg ki,if_neg k8,if_neg k9,if_pos k10] at hw hc hf
  rw[hw,hc,if_neg k1,if_neg k2,if_neg k3,if_neg k8,if_neg k9,if_pos k10,if_neg k1,if_neg k2,if_neg k3,if_neg (by rw[k10];decide)];simp[N6,Y9,G2]
 simp only[if_neg k1,if_neg k2,if_neg k3,if_neg ki,if_neg k8,if_neg k9,if_neg k10] at hw hc hf h;rw[hw,hc,hf,if_neg k1,if_neg k2,if_neg k3,if_neg k8,if_neg k9,if_neg k10,if_pos h,if_neg k1,if_neg k2,if_neg k3];simp[N6,Y9,G2,J8]
theorem Q3p {m:Mq}(hm:Z4b m):(Z0k m).length≤540:=by
 have h:=Z9y hm.1;rw[X4p hm] at h;simp only[List.length_append] at h;omega
theorem Q7o (k:Nat) (hk:k≤65535) (w:World):
  Calls Tryz.prog 90 #[iz k,iz 2] w fun e w'=>∃v',e = .returned v'∧(∃q c,v' = .slice (some ⟨q,0,none⟩) 2 c∧w.heap.size≤q∧RB w' w'.heap.size (some ⟨q,0,none⟩) (U1 2 k)∧Below w.heap.size w w'):=by
 refine(T8 k 2 k 2 rfl rfl (by decide) (by omega) w).mono ?_;rintro e w' ⟨A',c',rfl,ho,hb⟩;obtain⟨g,rfl,hg,_⟩:=Y4s ho (by decide);exact⟨_,rfl,g,c',rfl,hg,RB.of_ownN ho,hb⟩
theorem X7e (b:Nat) (k:Int) (h0:0≤k) (h1:k≤65535) (w:World) (hb:b≤w.heap.size):
  Calls Tryz.prog 90 #[iz k,iz 2] w fun e w'=>∃v',e = .returned v'∧(Y2 b (U1 2 k.toNat) v' w'∧Below w.heap.size w w'):=by
 refine(T8 k 2 k.toNat 2 (by omega) rfl (by decide) (by omega) w).mono ?_;rintro e w' ⟨A',c',rfl,ho,hb'⟩;exact⟨_,rfl,⟨A',c',by rw[Y0],by rw[Y0];exact V2 ho hb⟩,hb'⟩
theorem Y9f (b:Nat) (xs:List UInt8) (v:Value) (s:ByteArray) (hs:s.size≤65535) (w:World) (hv:Y2 b xs v w) (hb:b≤w.heap.size) (hn:xs.length≤140737488251232):
  Calls Tryz.prog 106 #[v, .string s] w fun e w'=>∃v',e = .returned v'∧(Y2 b (xs++J2 s) v' w'∧Below b w w'∧(∀g,g<w.heap.size→some g≠v.ownBlock→w'.heap[g]? = w.heap[g]?)):=by
 go_enter Tryz.func106,Tryz.ntmps106
 refine Z9.start 13 [(0,v),(1, .string s)] rfl rfl ⟨rfl,rfl,trivial⟩ ?_;intro a0 H0;refine H0.rg 1 fun a1 H1=>nt ?_;refine H1.rg 2 fun a3 H3=>?_;refine H3.lenS gz rfl rfl rfl rfl Tryz.underlying9 ?_;intro a4 H4;refine H4.cl (Q7o s.size (by omega) w) ?_;rintro a5 _ w1 ⟨q,c,rfl,hq,hrb,hb1⟩ H5;obtain⟨v',w',hrun,hrow,hb2,hg,hob⟩:=Z8l (P:=Tryz.prog) (a:=a5) (w:=w1) Tryz.underlying31 J4 (o:=⟨some 9,_,_,_,_,none⟩) (b:=b) (xs:=xs) (ys:=U1 2 s.size) (v:=v) (c:=c) rfl (H5.at_ 5 _ rfl) ((H5.at_ 8 _ rfl).trans (by rw[Y0])) (hv.below hb1) hrb (by rw[Y0];decide) (by rw[Y0];omega) (Nat.le_trans hb hb1.size);refine H5.go gz rfl rfl _ hrun ?_;intro a6 H6;refine H6.ms 1 fun a7 H7=>nt ?_;refine H7.rg 2 fun a9 H9=>?_;obtain⟨v2,w2,hrun2,hrow2,hb3,hg2⟩:=Z2o (P:=Tryz.prog) (a:=a9) (w:=w') Tryz.underlying31 Tryz.underlying9 J4 (o:=⟨some 12,_,_,_,_,none⟩) rfl rfl (H9.at_ 11 _ rfl) ((H9.at_ 10 _ rfl).symm▸hrow) (by rw[List.length_append,Y0];omega) (Nat.le_trans (Nat.le_trans hb hb1.size) hb2.size);refine H9.go gz rfl rfl _ hrun2 ?_;intro a10 H10;refine H10.ms 1 fun a11 H11=>nt ?_;refine wp_ret ?_;refine bodyPost_ret (results_tmp rfl _ _ _) H11.df ⟨_,congrArg Ending.returned (H11.at_ 4 _ rfl),(by unfold J2;rw[←List.append_assoc];exact hrow2),((hb1.mono hb).trans hb2).trans hb3,fun g hlt hne=>((hg2.block g (Nat.lt_of_lt_of_le (Nat.lt_of_lt_of_le hlt hb1.size) hb2.size) ?_).trans (hg.block g (Nat.lt_of_lt_of_le hlt hb1.size) hne)).trans (hb1.block g hlt)⟩;rw[H9.at_ 10 _ rfl];rcases hob with h |h
 ·rw[h];exact hne
 ·rw[h];intro e;injection e with e;have:=hb1.size;omega
theorem Z4g (b:Nat) (xs:List UInt8) (v:Value) (s:ByteArray) (hs:s.size≤65535) (w:World) (hv:Y2 b xs v w) (hb:b≤w.heap.size) (hn:xs.length≤140737488251232):
  Calls Tryz.prog 106 #[v, .string s] w fun e w'=>∃v',e = .returned v'∧(Y2 b (xs++J2 s) v' w'∧Below b w w'):=
 (Y9f b xs v s hs w hv hb hn).mono fun _ _ ⟨v',e,h1,h2,_⟩=>⟨v',e,h1,h2⟩
theorem Q0g (m:Mq) (vc vw vf:Value) (w:World) (hm:Z4b m) (hL:MqL w w.heap.size m vc vw vf):
  Calls Tryz.prog 77 #[.agg (Z1 m vc vw vf).toArray] w (X3y (X8 m) w):=by
 obtain⟨A1,c1,A2,c2,A3,c3,rfl,rfl,rfl,l1,l2,l3,k1',k2',k3',r1,r2,r3⟩:=id hL;obtain⟨hwa,hwl,hca,hcl,hfa,hfl⟩:=J1y hm;have hpl:=Q3p hm;have hwb:=Z4e _ hwa;have hfb:=Z3i _ hfa;have hcb:=Z5z m.codes;go_enter Tryz.func77,Tryz.ntmps77;refine Z9.start 159 [(0, .agg (Z1 m (.slice A1 m.codes.length c1) (.slice A2 m.wishes.length c2) (.slice A3 m.filters.length c3)).toArray)] rfl rfl ⟨rfl,trivial⟩ ?_;intro a0 H0;have O0:=X0.start w;refine rl ?_;refine H0.bx O0 1 fun a2 w1 O1 H2=>nt ?_;have hw1:w.heap.size<w1.heap.size:=O1.lt 0 rfl;refine H2.rg 1 fun a3 H3=>nt ?_;refine Z8 (fun a w'=>∃v,Z9 a 159 [(1,pz w.heap.size),(3,v)]∧Y2 w1.heap.size (Z0k m) v w'∧D5 w w1.heap.size [(w.heap.size,(Z1 m (.slice A1 m.codes.length c1) (.slice A2 m.wishes.length c2) (.slice A3 m.filters.length c3)))] w') ?_ ?_
 ·skip
  refine H3.rg 1 fun a4 H4=>?_;refine H4.ld 0 (O1.li 0 0) fun a5 H5=>nt ?_;refine wp_block ?_;obtain⟨b1,h1⟩:∃b,(m.kind==1)=b:=⟨_,rfl⟩;cases b1 with
  |true=>
   have k1:m.kind=1:=by simpa using h1
   refine rl ?_;refine H5.bn 1 (Z7 _ _ _ h1 _ _ _) fun a7 H7=>nt ?_;refine H7.condT rfl ?_;obtain⟨hc,ht,hp,hu',hp',hk0,hk1,hq0,hq2⟩:=J7a hm.1 k1;refine H7.rg 1 fun a8 H8=>?_;refine H8.ld 0 (Z2x _ _ _ _ _ _ _ _ (O1.get 0 rfl) rfl rfl rfl rfl rfl) fun a9 H9=>?_;refine H9.al O1 0 J1w fun a10 w2 O2 H10=>?_;refine H10.st (L:=(J6x m)) O2 0 0 (hi:=J1x) fun a11 w3 O3 H11=>nt ?_;have HB3:=D5.of O3;obtain⟨b0,hb0⟩:∃b0,b0=w3.heap.size:=⟨_,rfl⟩;rw[←hb0] at HB3;have hb0':=hb0;clear hb0;have hw3:w1.heap.size≤b0:=by rw[hb0'];exact Nat.le_of_lt (O3.lt 0 rfl)
   have H12:=H11.kp [1,4];repeat (refine wp_seq ?_)
   have h24a:cb m.clean 2<256:=Z6b _ _ (by decide);have h24b:cb m.won 4<256:=Z6b _ _ (by decide);have h29a:(cb m.clean 2|||cb m.won 4)<256:=Z4k h24a h24b;have h29b:m.wq.toNat*8<256:=by omega
   have h33a:((cb m.clean 2|||cb m.won 4)|||m.wq.toNat*8)<256:=Z4k h29a h29b;have h33b:cb m.wr 32<256:=Z6b _ _ (by decide);have h37a:(((cb m.clean 2|||cb m.won 4)|||m.wq.toNat*8)|||cb m.wr 32)<256:=Z4k h33a h33b;have h37b:cb m.hp 64<256:=Z6b _ _ (by decide);have h41a:((((cb m.clean 2|||cb m.won 4)|||m.wq.toNat*8)|||cb m.wr 32)|||cb m.hp 64)<256:=Z4k h37a h37b;have h41b:cb m.hu 128<256:=Z6b _ _ (by decide);have h41:(((((cb m.clean 2|||cb m.won 4)|||m.wq.toNat*8)|||cb m.wr 32)|||cb m.hp 64)|||cb m.hu 128)<256:=Z4k h41a h41b;have hflags:(((((cb m.clean 2|||cb m.won 4)|||m.wq.toNat*8)|||cb m.wr 32)|||cb m.hp 64)|||cb m.hu 128)=U9 m:=X3x _ _ _ _ _ _ (by omega);refine H12.dr HB3 [1,4] rfl [er 0 17 [26] (fun v w=>Y2 b0 [0,4,77,81,84,84] v w),ec 1 18 (.pointer (some ⟨w.heap.size,2,none⟩)),ec 2 19 (.bool m.clean),ec 3 20 (.int .u8 ((cb m.clean 2:Nat):Int)),ec 4 21 (pz w1.heap.size),ec 5 22 (.bool m.won),ec 6 23 (.int .u8 ((cb m.won 4:Nat):Int)),ec 7 24 (.int .u8 (((cb m.clean 2|||cb m.won 4):Nat):Int)),ec 8 25 (.pointer (some ⟨w1.heap.size,3,none⟩)),ec 9 26 (iz m.wq),ec 10 27 (.int .u8 (m.wq%256)),ec 11 28 (.int .u8 ((m.wq.toNat*8:Nat):Int)),ec 12 29 (.int .u8 ((((cb m.clean 2|||cb m.won 4)|||m.wq.toNat*8):Nat):Int)),ec 13 30 (.pointer (some ⟨w1.heap.size,4,none⟩)),ec 14 31 (.bool m.wr),ec 15 32 (.int .u8 ((cb m.wr 32:Nat):Int)),ec 16 33 (.int .u8 (((((cb m.clean 2|||cb m.won 4)|||m.wq.toNat*8)|||cb m.wr 32):Nat):Int)),ec 17 34 (.pointer (some ⟨w.heap.size,12,none⟩)),ec 18 35 (.bool m.hp),ec 19 36 (.int .u8 ((cb m.hp 64:Nat):Int)),ec 20 37 (.int .u8 ((((((cb m.clean 2|||cb m.won 4)|||m.wq.toNat*8)|||cb m.wr 32)|||cb m.hp 64):Nat):Int)),ec 21 38 (.pointer (some ⟨w.heap.size,10,none⟩)),ec 22 39 (.bool m.hu),ec 23 40 (.int .u8 ((cb m.hu 128:Nat):Int)),ec 24 41 (.int .u8 (((((((cb m.clean 2|||cb m.won 4)|||m.wq.toNat*8)|||cb m.wr 32)|||cb m.hp 64)|||cb m.hu 128):Nat):Int)),er 25 42 [26] (fun v w=>K0 [4,UInt8.ofNat (U9 m)] v w),er 26 43 [] (fun v w=>Y2 b0 ([0,4,77,81,84,84]++[4,UInt8.ofNat (U9 m)]) v w),er 27 3 [] (fun v w=>Y2 b0 ([0,4,77,81,84,84]++[4,UInt8.ofNat (U9 m)]) v w)] rfl ⟨jm,(jl fun _ h=>h.own.lb 1 2),(jq fun ww _=>(Z6r m.clean 2 2 rfl ww)),jm,(jl fun _ h=>h.own.lb 0 0),(jq fun ww _=>(Z6r m.won 4 4 rfl ww)),(jb fun _=>(X1k _ _ h24a h24b _ _ _)),jm,(jl fun _ h=>h.own.li 0 3),(jc fun _=>(L6 _ _)),(jb fun _=>(Q0d _ hq0 hq2 _ _ _)),(jb fun _=>(X1k _ _ h29a h29b _ _ _)),jm,(jl fun _ h=>h.own.lb 0 4),(jq fun ww _=>(Z6r m.wr 32 32 rfl ww)),(jb fun _=>(X1k _ _ h33a h33b _ _ _)),jm,(jl fun _ h=>h.own.lb 1 12),(jq fun ww _=>(Z6r m.hp 64 64 rfl ww)),(jb fun _=>(X1k _ _ h37a h37b _ _ _)),jm,(jl fun _ h=>h.own.lb 1 10),(jq fun ww _=>(Z6r m.hu 128 128 rfl ww)),(jb fun _=>(X1k _ _ h41a h41b _ _ _)),trivial⟩ trivial ?_ ?_
   ·intro listed aa ww i o hs hni hcl ho hd hI hh
    have hls:listed.size=28:=hs;rcases hh with rfl |rfl |rfl |rfl |hh
    ·obtain rfl:=U2 ho rfl
     have HH:Z9 aa 159 []:=Z9.of hI.sz hI.df trivial;refine D0 ho gz 17 rfl 106 _ (P3 HH rfl rfl (fun _ _=>by kernel_rfl)) _ (Z4g ww.heap.size [] (.slice none 0 0) ({ data:=#[77,81,84,84] }:ByteArray) (by decide) ww (Y2.nil _ _) (Nat.le_refl _) (by simp)) ?_;rintro v' w' ⟨hrow,hb⟩;exact hI.ph hls 0 rfl (v') (by rw[show ([0,4,77,81,84,84]:List UInt8)=[]++J2 ({ data:=#[77,81,84,84] }:ByteArray) by decide];exact hrow.base hI.wp.bw) (hI.wp.call hb) ⟨fun h=>absurd rfl h,fun _ _ _ _ _ h=>h.below hb,fun _ _ _ _ _ h=>h.below hb,fun _ _ _ _ _ h=>h.below hb,trivial⟩
    ·obtain rfl:=U2 ho rfl
     have r_41:=hI.vs _ (ma 24 rfl) (.inr (Y5 hd 24 (by kernel_rfl))) trivial;have u_41:aa.eval (.tmp 41) = .int .u8 (((((((cb m.clean 2|||cb m.won 4)|||m.wq.toNat*8)|||cb m.wr 32)|||cb m.hp 64)|||cb m.hu 128):Nat):Int):=r_41;have HH:Z9 aa 159 [(41, .int .u8 (((((((cb m.clean 2|||cb m.won 4)|||m.wq.toNat*8)|||cb m.wr 32)|||cb m.hp 64)|||cb m.hu 128):Nat):Int))]:=Z9.of hI.sz hI.df ⟨u_41,trivial⟩;obtain⟨hby,hb⟩:=Z3o ww [4,UInt8.ofNat (U9 m)] [.int .u8 4, .int .u8 (((((((cb m.clean 2|||cb m.won 4)|||m.wq.toNat*8)|||cb m.wr 32)|||cb m.hp 64)|||cb m.hu 128):Nat):Int)] (by rw[hflags] at h41 ⊢;rw[Y6u _ h41];rfl) 5 2 rfl;refine V7 ho gz 42 rfl (.slice (some ⟨ww.heap.size,0,none⟩) 2 2) (ww.alloc (.cells ([.int .u8 4, .int .u8 (((((((cb m.clean 2|||cb m.won 4)|||m.wq.toNat*8)|||cb m.wr 32)|||cb m.hp 64)|||cb m.hu 128):Nat):Int)]:List Value).toArray 5)) (Z0f HH (by intro cs b h;cases h) (by kernel_rfl) (by kernel_rfl)) ?_;exact hI.ph hls 25 rfl (.slice (some ⟨ww.heap.size,0,none⟩) 2 2) hby (hI.wp.call hb) ⟨fun _ _ _ _ _ h=>h.below hb,fun h=>absurd rfl h,fun _ _ _ _ _ h=>h.below hb,fun _ _ _ _ _ h=>h.below hb,trivial⟩
    ·obtain rfl:=U2 ho rfl
     have r_17:=hI.vs _ (ma 0 rfl) (.inr (Y5 hd 0 (by kernel_rfl))) ⟨hni,trivial⟩;have r_42:=hI.vs _ (ma 25 rfl) (.inr (Y5 hd 25 (by kernel_rfl))) ⟨hni,trivial⟩;have HH:Z9 aa 159 [(17,aa.eval (.tmp 17)),(42,aa.eval (.tmp 42))]:=Z9.of hI.sz hI.df ⟨rfl,rfl,trivial⟩;obtain⟨v',w',hrun,hrow,hb0,hg⟩:=Z1g (P:=Tryz.prog) (a:=aa) (w:=ww) Tryz.underlying31 J4 (o:=⟨some 43,_,_,_,_,none⟩) rfl rfl rfl r_17 r_42 (by simp only[List.length_cons,List.length_nil];omega) hI.wp.bw;refine V7 ho gz 43 rfl v' w' hrun ?_;exact hI.ph hls 26 rfl (v') hrow (hI.wp.step hb0) ⟨fun _ h=>absurd (by show 26∈([26]:List Nat);decide) h,fun _ h=>absurd (by show 26∈([26]:List Nat);decide) h,fun h=>absurd rfl h,fun _ _ h=>absurd (hni.symm.trans (Y5 (hcl 27 _ rfl (h.resolve_left (by rw[hls];show ¬28≤27;decide))) 26 (by kernel_rfl))) (by decide),trivial⟩
    ·obtain rfl:=U2 ho rfl
     have r_43:=hI.vs _ (ma 26 rfl) (.inr (Y5 hd 26 (by kernel_rfl))) trivial;have HH:Z9 aa 159 [(43,aa.eval (.tmp 43))]:=Z9.of hI.sz hI.df ⟨rfl,trivial⟩;refine V7 ho gz 3 rfl (aa.eval (.tmp 43)) ww (N2 (.inr rfl) (HH.ev rfl)) ?_;exact hI.ph hls 27 rfl (aa.eval (.tmp 43)) r_43 hI.wp Z1i.same
    ·exact False.elim hh
   ·intro listed a13 w4 hall hI
    have r_3:=hI.vs _ (ma 27 rfl) (.inr (hall 27 (by decide))) trivial;have H13:Z9 a13 159 [(1,pz w.heap.size),(4,pz w1.heap.size),(3,a13.eval (.tmp 3))]:=Z9.of hI.sz hI.df ⟨hI.fx.1,hI.fx.2.1,rfl,trivial⟩;have HB4:=hI.wp;have R3_4:Y2 b0 ([0,4,77,81,84,84]++[4,UInt8.ofNat (U9 m)]) (a13.eval (.tmp 3)) w4:=r_3;refine Z0 ?_;repeat (refine wp_seq ?_)
    have R3:=R3_4;refine H13.rg 2 fun a15 H15=>?_;refine H15.ld 0 (HB4.own.li 1 3) fun a16 H16=>?_;refine H16.cl (X7e b0 m.keep hk0 hk1 _ HB4.bw) ?_;rintro a17 v47 w5 ⟨R47,hb⟩ H17;have HB5:=HB4.call hb;have R3:=R3.below hb;clear hb;refine H17.appendRow Tryz.underlying31 J4 gz rfl rfl rfl rfl rfl R3 R47.read (by simp only[List.length_append,Y0,List.length_cons,List.length_nil];omega) HB5.bw ?_;intro a18 v48 w6 H18 R48 hb _;have HB6:=HB5.step hb;clear hb;refine H18.ms 1 fun a19 H19=>nt ?_;refine H19.rg 2 fun a21 H21=>?_;refine H21.ld 0 (HB6.own.ls 1 1) fun a22 H22=>?_;refine H22.cl (Z4g b0 (([0,4,77,81,84,84]++[4,UInt8.ofNat (U9 m)])++U1 2 m.keep.toNat) _ m.client hc _ R48 HB6.bw (by simp only[List.length_append,Y0,List.length_cons,List.length_nil];omega)) ?_;rintro a23 v52 w7 ⟨R52,hb⟩ H23;have HB7:=HB6.step hb;clear hb;refine H23.ms 1 fun a24 H24=>nt ?_;refine Z8 (fun a w'=>∃v,Z9 a 159 [(1,pz w.heap.size),(4,pz w1.heap.size),(3,v)]∧Y2 b0 (((([0,4,77,81,84,84]++[4,UInt8.ofNat (U9 m)])++U1 2 m.keep.toNat)++J2 m.client)++(if m.won then J2 m.wt++J2 m.wp else [])) v w'∧D5 w b0 [(w1.heap.size,(J6x m)),(w.heap.size,(Z1 m (.slice A1 m.codes.length c1) (.slice A2 m.wishes.length c2) (.slice A3 m.filters.length c3)))] w') ?_ ?_
    ·cases hb54:m.won with
     |true=>
      refine H24.rg 1 fun a25 H25=>?_;refine H25.ld 0 (HB7.own.lb 0 0) fun a26 H26=>nt ?_;have H26b:=H26.keep (l':=[(1,pz w.heap.size),(4,pz w1.heap.size),(3,v52),(54, .bool true)]) ⟨rfl,rfl,rfl,by first |exact congrArg (fun x=>some (Value.bool x)) hb54,trivial⟩;refine H26b.condT rfl ?_;have H27:=H26b;refine H27.dr HB7 [1,4] rfl [er 0 55 [3] (fun v w=>Y2 b0 ((([0,4,77,81,84,84]++[4,UInt8.ofNat (U9 m)])++U1 2 m.keep.toNat)++J2 m.client) v w),ec 1 56 (.pointer (some ⟨w1.heap.size,1,none⟩)),ec 2 57 (.string m.wt),er 3 58 [6] (fun v w=>Y2 b0 (((([0,4,77,81,84,84]++[4,UInt8.ofNat (U9 m)])++U1 2 m.keep.toNat)++J2 m.client)++J2 m.wt) v w),ec 4 59 (.pointer (some ⟨w1.heap.size,2,none⟩)),ec 5 60 (.string m.wp),er 6 61 [] (fun v w=>Y2 b0 (((([0,4,77,81,84,84]++[4,UInt8.ofNat (U9 m)])++U1 2 m.keep.toNat)++J2 m.client)++J2 m.wt++J2 m.wp) v w),er 7 3 [] (fun v w=>Y2 b0 (((([0,4,77,81,84,84]++[4,UInt8.ofNat (U9 m)])++U1 2 m.keep.toNat)++J2 m.client)++J2 m.wt++J2 m.wp) v w),er 1000 3 [3,7] (fun v w=>Y2 b0 ((([0,4,77,81,84,84]++[4,UInt8.ofNat (U9 m)])++U1 2 m.keep.toNat)++J2 m.client) v w)] rfl ⟨jm,(jl fun _ h=>h.own.ls 0 1),jm,(jl fun _ h=>h.own.ls 0 2),trivial⟩ ⟨(by rw[H27.at_ 3 _ rfl];exact R52.drew),trivial⟩ ?_ ?_
      ·intro listed aa ww i o hs hni hcl ho hd hI hh
       have hls:listed.size=8:=hs;rcases hh with rfl |rfl |rfl |rfl |hh
       ·obtain rfl:=U2 ho rfl
        have r_3:=hI.vs _ (ma 8 rfl) (.inl (by rw[hls];show 8≤1000;decide)) ⟨(Bool.eq_false_iff.2 fun h=>absurd (hni.symm.trans (Y5 (hcl 3 _ rfl h) 0 (by kernel_rfl))) (by decide)),(Bool.eq_false_iff.2 fun h=>absurd (hni.symm.trans (Y5 (hcl 3 _ rfl (Y5 (hcl 6 _ rfl (Y5 (hcl 7 _ rfl h) 6 (by kernel_rfl))) 3 (by kernel_rfl))) 0 (by kernel_rfl))) (by decide)),trivial⟩;have HH:Z9 aa 159 [(3,aa.eval (.tmp 3))]:=Z9.of hI.sz hI.df ⟨rfl,trivial⟩;refine V7 ho gz 55 rfl (aa.eval (.tmp 3)) ww (N2 (.inl rfl) (HH.ev rfl)) ?_;exact hI.ph hls 0 rfl (aa.eval (.tmp 3)) r_3 hI.wp Z1i.same
       ·obtain rfl:=U2 ho rfl
        have r_55:=hI.vs _ (ma 0 rfl) (.inr (Y5 hd 0 (by kernel_rfl))) ⟨hni,trivial⟩;have r_57:=hI.vs _ (ma 2 rfl) (.inr (Y5 hd 2 (by kernel_rfl))) trivial;have u_57:aa.eval (.tmp 57) = .string m.wt:=r_57;have HH:Z9 aa 159 [(55,aa.eval (.tmp 55)),(57, .string m.wt)]:=Z9.of hI.sz hI.df ⟨rfl,u_57,trivial⟩;refine D0 ho gz 58 rfl 106 _ (P3 HH rfl rfl (fun _ _=>by kernel_rfl)) _ (Z4g b0 ((([0,4,77,81,84,84]++[4,UInt8.ofNat (U9 m)])++U1 2 m.keep.toNat)++J2 m.client) (aa.eval (.tmp 55)) m.wt ht ww r_55 hI.wp.bw (by simp only[List.length_append,V5,Y0,List.length_cons,List.length_nil];omega)) ?_;rintro v' w' ⟨hrow,hb0⟩;exact hI.ph hls 3 rfl (v') hrow (hI.wp.step hb0) ⟨fun _ h=>absurd (by show 3∈([3]:List Nat);decide) h,fun h=>absurd rfl h,fun _ _ h=>absurd (hni.symm.trans (Y5 (hcl 6 _ rfl (h.resolve_left (by rw[hls];show ¬8≤6;decide))) 3 (by kernel_rfl))) (by decide),fun _ _ h=>absurd (hni.symm.trans (Y5 (hcl 6 _ rfl (Y5 (hcl 7 _ rfl (h.resolve_left (by rw[hls];show ¬8≤7;decide))) 6 (by kernel_rfl))) 3 (by kernel_rfl))) (by decide),fun _ h=>absurd (by show 3∈([3,7]:List Nat);decide) h,trivial⟩
       ·obtain rfl:=U2 ho rfl
        have r_58:=hI.vs _ (ma 3 rfl) (.inr (Y5 hd 3 (by kernel_rfl))) ⟨hni,trivial⟩;have r_60:=hI.vs _ (ma 5 rfl) (.inr (Y5 hd 5 (by kernel_rfl))) trivial;have u_60:aa.eval (.tmp 60) = .string m.wp:=r_60;have HH:Z9 aa 159 [(58,aa.eval (.tmp 58)),(60, .string m.wp)]:=Z9.of hI.sz hI.df ⟨rfl,u_60,trivial⟩;refine D0 ho gz 61 rfl 106 _ (P3 HH rfl rfl (fun _ _=>by kernel_rfl)) _ (Z4g b0 (((([0,4,77,81,84,84]++[4,UInt8.ofNat (U9 m)])++U1 2 m.keep.toNat)++J2 m.client)++J2 m.wt) (aa.eval (.tmp 58)) m.wp hp ww r_58 hI.wp.bw (by simp only[List.length_append,V5,Y0,List.length_cons,List.length_nil];omega)) ?_;rintro v' w' ⟨hrow,hb0⟩;exact hI.ph hls 6 rfl (v') hrow (hI.wp.step hb0) ⟨fun _ _ _ hk=>absurd (hk.1.symm.trans (Y5 hd 3 (by kernel_rfl))) (by decide),fun _ h=>absurd (by show 6∈([6]:List Nat);decide) h,fun h=>absurd rfl h,fun _ _ h=>absurd (hni.symm.trans (Y5 (hcl 7 _ rfl (h.resolve_left (by rw[hls];show ¬8≤7;decide))) 6 (by kernel_rfl))) (by decide),fun _ _ _ hk=>absurd (hk.1.symm.trans (Y5 hd 3 (by kernel_rfl))) (by decide),trivial⟩
       ·obtain rfl:=U2 ho rfl
        have r_61:=hI.vs _ (ma 6 rfl) (.inr (Y5 hd 6 (by kernel_rfl))) trivial;have HH:Z9 aa 159 [(61,aa.eval (.tmp 61))]:=Z9.of hI.sz hI.df ⟨rfl,trivial⟩;refine V7 ho gz 3 rfl (aa.eval (.tmp 61)) ww (N2 (.inr rfl) (HH.ev rfl)) ?_;exact hI.ph hls 7 rfl (aa.eval (.tmp 61)) r_61 hI.wp Z1i.same
       ·exact False.elim hh
      ·intro listed a28 w8 hall hI
       have r_3:=hI.vs _ (ma 7 rfl) (.inr (hall 7 (by decide))) trivial;have H28:Z9 a28 159 [(1,pz w.heap.size),(4,pz w1.heap.size),(3,a28.eval (.tmp 3))]:=Z9.of hI.sz hI.df ⟨hI.fx.1,hI.fx.2.1,rfl,trivial⟩;have HB8:=hI.wp;have R3_8:Y2 b0 (((([0,4,77,81,84,84]++[4,UInt8.ofNat (U9 m)])++U1 2 m.keep.toNat)++J2 m.client)++J2 m.wt++J2 m.wp) (a28.eval (.tmp 3)) w8:=r_3;refine Z0 ?_;exact⟨_,H28.keep ⟨rfl,rfl,rfl,trivial⟩,(by rw[if_pos rfl,←List.append_assoc];exact R3_8),HB8⟩
     |false=>
      refine H24.rg 1 fun a25 H25=>?_;refine H25.ld 0 (HB7.own.lb 0 0) fun a26 H26=>nt ?_;have H26b:=H26.keep (l':=[(1,pz w.heap.size),(4,pz w1.heap.size),(3,v52),(54, .bool false)]) ⟨rfl,rfl,rfl,by first |exact congrArg (fun x=>some (Value.bool x)) hb54,trivial⟩;refine H26b.condF rfl ?_;refine Z3 ?_;refine Z0 ?_;exact⟨_,H26b.keep ⟨rfl,rfl,rfl,trivial⟩,(by rw[if_neg (show ¬(false=true) by decide),List.append_nil];exact R52),HB7⟩
    ·rintro a64 w27 ⟨v3_27,H64,R3_27,HB27⟩
     have hl1:(if m.won then J2 m.wt++J2 m.wp else []).length≤200000:=by split<;>simp[V5]<;>omega
     refine Z8 (fun a w'=>∃v,Z9 a 159 [(1,pz w.heap.size),(4,pz w1.heap.size),(3,v)]∧Y2 b0 ((((([0,4,77,81,84,84]++[4,UInt8.ofNat (U9 m)])++U1 2 m.keep.toNat)++J2 m.client)++(if m.won then J2 m.wt++J2 m.wp else []))++(if m.hu then J2 m.user else [])) v w'∧D5 w b0 [(w1.heap.size,(J6x m)),(w.heap.size,(Z1 m (.slice A1 m.codes.length c1) (.slice A2 m.wishes.length c2) (.slice A3 m.filters.length c3)))] w') ?_ ?_
     ·cases hb63:m.hu with
      |true=>
       refine H64.rg 1 fun a65 H65=>?_;refine H65.ld 0 (HB27.own.lb 1 10) fun a66 H66=>nt ?_;have H66b:=H66.keep (l':=[(1,pz w.heap.size),(4,pz w1.heap.size),(3,v3_27),(63, .bool true)]) ⟨rfl,rfl,rfl,by first |exact congrArg (fun x=>some (Value.bool x)) hb63,trivial⟩;refine H66b.condT rfl ?_;have H67:=H66b;refine H67.rg 2 fun a69 H69=>?_;refine H69.ld 0 (HB27.own.ls 1 9) fun a70 H70=>?_;refine H70.cl (Z4g b0 (((([0,4,77,81,84,84]++[4,UInt8.ofNat (U9 m)])++U1 2 m.keep.toNat)++J2 m.client)++(if m.won then J2 m.wt++J2 m.wp else [])) _ m.user hu' _ R3_27 HB27.bw (by simp only[List.length_append,V5,Y0,List.length_cons,List.length_nil];omega)) ?_;rintro a71 v67 w28 ⟨R67,hb⟩ H71;have HB28:=HB27.step hb;clear hb;refine H71.ms 1 fun a72 H72=>nt ?_;exact⟨_,H72.keep ⟨rfl,rfl,rfl,trivial⟩,(by rw[if_pos rfl];exact R67),HB28⟩
      |false=>
       refine H64.rg 1 fun a65 H65=>?_;refine H65.ld 0 (HB27.own.lb 1 10) fun a66 H66=>nt ?_;have H66b:=H66.keep (l':=[(1,pz w.heap.size),(4,pz w1.heap.size),(3,v3_27),(63, .bool false)]) ⟨rfl,rfl,rfl,by first |exact congrArg (fun x=>some (Value.bool x)) hb63,trivial⟩;refine H66b.condF rfl ?_;refine Z3 ?_;refine Z0 ?_;exact⟨_,H66b.keep ⟨rfl,rfl,rfl,trivial⟩,(by rw[if_neg (show ¬(false=true) by decide),List.append_nil];exact R3_27),HB27⟩
     ·rintro a104 w47 ⟨v3_47,H104,R3_47,HB47⟩
      have hl2:(if m.hu then J2 m.user else []).length≤200000:=by split<;>simp[V5]<;>omega
      cases hb69:m.hp with
      |true=>
       refine H104.rg 1 fun a105 H105=>?_;refine H105.ld 0 (HB47.own.lb 1 12) fun a106 H106=>nt ?_;have H106b:=H106.keep (l':=[(1,pz w.heap.size),(4,pz w1.heap.size),(3,v3_47),(69, .bool true)]) ⟨rfl,rfl,rfl,by first |exact congrArg (fun x=>some (Value.bool x)) hb69,trivial⟩;refine H106b.condT rfl ?_;have H107:=H106b;refine H107.rg 2 fun a109 H109=>?_;refine H109.ld 0 (HB47.own.ls 1 11) fun a110 H110=>?_;refine H110.cl (Z4g b0 ((((([0,4,77,81,84,84]++[4,UInt8.ofNat (U9 m)])++U1 2 m.keep.toNat)++J2 m.client)++(if m.won then J2 m.wt++J2 m.wp else []))++(if m.hu then J2 m.user else [])) _ m.pass hp' _ R3_47 HB47.bw (by simp only[List.length_append,V5,Y0,List.length_cons,List.length_nil];omega)) ?_;rintro a111 v73 w48 ⟨R73,hb⟩ H111;have HB48:=HB47.step hb;clear hb;refine H111.ms 1 fun a112 H112=>?_;refine wpList_nil ?_;refine Z6 ?_;refine Z0 ?_;exact⟨_,H112.keep ⟨rfl,rfl,trivial⟩,(by rw[Q1c k1,Z6w,hb69];exact Y2.base (by rw[if_pos rfl];exact R73) hw3),HB48.low2 hw3 O1⟩
      |false=>
       refine H104.rg 1 fun a105 H105=>?_;refine H105.ld 0 (HB47.own.lb 1 12) fun a106 H106=>nt ?_;have H106b:=H106.keep (l':=[(1,pz w.heap.size),(4,pz w1.heap.size),(3,v3_47),(69, .bool false)]) ⟨rfl,rfl,rfl,by first |exact congrArg (fun x=>some (Value.bool x)) hb69,trivial⟩;refine H106b.condF rfl ?_;have H107:=H106b;refine Z3 ?_;refine Z6 ?_;refine Z0 ?_;exact⟨_,H107.keep ⟨rfl,rfl,trivial⟩,(by rw[Q1c k1,Z6w,hb69];exact Y2.base (by rw[if_neg (show ¬(false=true) by decide),List.append_nil];exact R3_47) hw3),HB47.low2 hw3 O1⟩
  |false=>
   have k1:¬m.kind=1:=by simpa using h1
   refine rl ?_;refine H5.bn 1 (Z7 _ _ _ h1 _ _ _) fun a7 H7=>nt ?_;refine H7.condF rfl ?_;obtain⟨b2,h2⟩:∃b,(m.kind==2)=b:=⟨_,rfl⟩;cases b2 with
   |true=>
    have k2:m.kind=2:=by simpa using h2
    refine rl ?_;refine H7.bn 1 (Z7 _ _ _ h2 _ _ _) fun a9 H9=>nt ?_;refine H9.condT rfl ?_;have HB1:=D5.of O1;obtain⟨b0,hb0⟩:∃b0,b0=w1.heap.size:=⟨_,rfl⟩;rw[←hb0] at HB1;have hb0':=hb0;clear hb0;have H10:=H9.kp [1];have hc0:=Q0e hm.1 k1 k2;repeat (refine wp_seq ?_)
    have hb1:cb m.present 1<256:=Z6b _ _ (by decide);refine H10.dr HB1 [1] rfl [ec 0 76 (.pointer (some ⟨w.heap.size,13,none⟩)),ec 1 77 (.bool m.present),ec 2 78 (.int .u8 ((cb m.present 1:Nat):Int)),ec 3 79 (.pointer (some ⟨w.heap.size,14,none⟩)),ec 4 80 (iz m.code),ec 5 81 (.int .u8 (m.code%256)),er 6 82 [] (fun v w=>Y2 b0 [UInt8.ofNat (cb m.present 1),UInt8.ofNat m.code.toNat] v w),er 7 3 [] (fun v w=>Y2 b0 [UInt8.ofNat (cb m.present 1),UInt8.ofNat m.code.toNat] v w)] rfl ⟨jm,(jl fun _ h=>h.own.lb 0 13),(jq fun ww _=>(Z6r m.present 1 1 rfl ww)),jm,(jl fun _ h=>h.own.li 0 14),(jc fun _=>(L6 _ _)),trivial⟩ trivial ?_ ?_
    ·intro listed aa ww i o hs hni hcl ho hd hI hh
     have hls:listed.size=8:=hs;rcases hh with rfl |rfl |hh
     ·obtain rfl:=U2 ho rfl
      have u_78:=hI.vs _ (ma 2 rfl) (.inr (Y5 hd 2 (by kernel_rfl))) trivial;have u_81:=hI.vs _ (ma 5 rfl) (.inr (Y5 hd 5 (by kernel_rfl))) trivial;have HH:Z9 aa 159 [(78, .int .u8 ((cb m.present 1:Nat):Int)),(81, .int .u8 (m.code%256))]:=Z9.of hI.sz hI.df ⟨u_78,u_81,trivial⟩;have hrw:=X9g ww b0 hI.wp.bw [UInt8.ofNat (cb m.present 1),UInt8.ofNat m.code.toNat] [.int .u8 ((cb m.present 1:Nat):Int), .int .u8 (m.code%256)] (by rw[Y6u _ hb1,P0 _ hc0];rfl) 2 rfl (by decide);have hb:=G0 ww (.cells ([.int .u8 ((cb m.present 1:Nat):Int), .int .u8 (m.code%256)]:List Value).toArray 5);refine V7 ho gz 82 rfl (.slice (some ⟨ww.heap.size,0,none⟩) 2 2) (ww.alloc (.cells ([.int .u8 ((cb m.present 1:Nat):Int), .int .u8 (m.code%256)]:List Value).toArray 5)) (Z0f HH (by intro cs b h;cases h) (by kernel_rfl) (by kernel_rfl)) ?_;exact hI.ph hls 6 rfl (.slice (some ⟨ww.heap.size,0,none⟩) 2 2) hrw (hI.wp.call hb) ⟨fun h=>absurd rfl h,fun _ _ _ _ _ h=>h.below hb,trivial⟩
     ·obtain rfl:=U2 ho rfl
      have r_82:=hI.vs _ (ma 6 rfl) (.inr (Y5 hd 6 (by kernel_rfl))) trivial;have HH:Z9 aa 159 [(82,aa.eval (.tmp 82))]:=Z9.of hI.sz hI.df ⟨rfl,trivial⟩;refine V7 ho gz 3 rfl (aa.eval (.tmp 82)) ww (N2 (.inr rfl) (HH.ev rfl)) ?_;exact hI.ph hls 7 rfl (aa.eval (.tmp 82)) r_82 hI.wp Z1i.same
     ·exact False.elim hh
    ·intro listed a11 w2 hall hI
     have r_3:=hI.vs _ (ma 7 rfl) (.inr (hall 7 (by decide))) trivial;have H11:Z9 a11 159 [(1,pz w.heap.size),(3,a11.eval (.tmp 3))]:=Z9.of hI.sz hI.df ⟨hI.fx.1,rfl,trivial⟩;have HB2:=hI.wp;have R3_2:Y2 b0 [UInt8.ofNat (cb m.present 1),UInt8.ofNat m.code.toNat] (a11.eval (.tmp 3)) w2:=r_3;refine Z6 ?_;refine Z0 ?_;exact⟨_,H11.keep ⟨rfl,rfl,trivial⟩,(by rw[Q5z k2];exact R3_2.base (Nat.le_of_eq hb0'.symm)),HB2.low (Nat.le_of_eq hb0'.symm) O1⟩
   |false=>
    have k2:¬m.kind=2:=by simpa using h2
    refine rl ?_;refine H7.bn 1 (Z7 _ _ _ h2 _ _ _) fun a9 H9=>nt ?_;refine H9.condF rfl ?_;obtain⟨b3,h3⟩:∃b,(m.kind==3)=b:=⟨_,rfl⟩;cases b3 with
    |true=>
     have k3:m.kind=3:=by simpa using h3
     refine rl ?_;refine H9.bn 1 (Z7 _ _ _ h3 _ _ _) fun a11 H11=>nt ?_;refine H11.condT rfl ?_;have HB1:=D5.of O1;obtain⟨b0,hb0⟩:∃b0,b0=w1.heap.size:=⟨_,rfl⟩;rw[←hb0] at HB1;have hb0':=hb0;clear hb0;have H12:=H11.kp [1];obtain⟨ht,hp,hi0,hi1⟩:=Q0f hm.1 k1 k2 k3;refine H12.rg 1 fun a13 H13=>?_;refine H13.ld 0 (HB1.own.ls 0 19) fun a14 H14=>?_;refine H14.cl (Z4g b0 [] _ m.topic ht _ (Y2.nil _ _) HB1.bw (by simp)) ?_;rintro a15 v87 w2 ⟨R87,hb⟩ H15;have HB2:=HB1.step hb;clear hb;refine H15.ms 1 fun a16 H16=>nt ?_;refine Z8 (fun a w'=>∃v,Z9 a 159 [(1,pz w.heap.size),(3,v)]∧Y2 b0 (([]++J2 m.topic)++(if 0<m.qos then U1 2 m.id.toNat else [])) v w'∧D5 w b0 [(w.heap.size,(Z1 m (.slice A1 m.codes.length c1) (.slice A2 m.wishes.length c2) (.slice A3 m.filters.length c3)))] w') ?_ ?_
     ·skip
      by_cases hq:0<m.qos
      ·skip
       refine H16.rg 1 fun a17 H17=>?_;refine H17.ld 0 (HB2.own.li 0 17) fun a18 H18=>?_;refine H18.bb 0 rfl rfl rfl rfl rfl rfl (S0 _ _ true (by simpa using hq) _ _ _) rfl fun a19 H19=>nt ?_;refine H19.condT rfl ?_;have R3:=R87;refine H19.rg 2 fun a21 H21=>?_;refine H21.ld 0 (HB2.own.li 0 20) fun a22 H22=>?_;refine H22.cl (X7e b0 m.id hi0 hi1 _ HB2.bw) ?_;rintro a23 v94 w3 ⟨R94,hb⟩ H23;have HB3:=HB2.call hb;have R3:=R3.below hb;clear hb;refine H23.appendRow Tryz.underlying31 J4 gz rfl rfl rfl rfl rfl R3 R94.read (by simp only[List.length_append,V5,Y0,List.length_nil];omega) HB3.bw ?_;intro a24 v95 w4 H24 R95 hb _;have HB4:=HB3.step hb;clear hb;refine H24.ms 1 fun a25 H25=>nt ?_;exact⟨_,H25.keep ⟨rfl,rfl,trivial⟩,(by rw[if_pos hq];exact R95),HB4⟩
      ·skip
       refine H16.rg 1 fun a17 H17=>?_;refine H17.ld 0 (HB2.own.li 0 17) fun a18 H18=>?_;refine H18.bb 0 rfl rfl rfl rfl rfl rfl (S0 _ _ false (by simpa using hq) _ _ _) rfl fun a19 H19=>nt ?_;refine H19.condF rfl ?_;refine Z3 ?_;refine Z0 ?_;exact⟨_,H19.keep ⟨rfl,rfl,trivial⟩,(by rw[if_neg hq,List.append_nil];exact R87),HB2⟩
     ·rintro a46 w12 ⟨v3,H46,R3,HB12⟩
      have hl1:(if 0<m.qos then U1 2 m.id.toNat else []).length≤2:=by split<;>simp[Y0]
      refine H46.rg 2 fun a48 H48=>?_;refine H48.ld 0 (HB12.own.ls 0 21) fun a49 H49=>?_;refine H49.appendStr Tryz.underlying31 Tryz.underlying9 J4 gz rfl rfl rfl rfl rfl R3 (by simp only[List.length_append,V5,List.length_nil];omega) HB12.bw ?_;intro a50 v99 w13 H50 R99 hb _;have HB13:=HB12.step hb;clear hb;refine H50.ms 1 fun a51 H51=>?_;refine wpList_nil ?_;refine Z6 ?_;refine Z0 ?_;exact⟨_,H51.keep ⟨rfl,rfl,trivial⟩,(by rw[Q6a k3,Z0q];exact R99.base (Nat.le_of_eq hb0'.symm)),HB13.low (Nat.le_of_eq hb0'.symm) O1⟩
    |false=>
     have k3:¬m.kind=3:=by simpa using h3
     refine rl ?_;refine H9.bn 1 (Z7 _ _ _ h3 _ _ _) fun a11 H11=>nt ?_;refine H11.condF rfl ?_;refine Z8 (fun a w'=>∃b,J3 m.kind=b∧Z9 a 159 [(1,pz w.heap.size),(3, .slice none 0 0),(100, .bool b)]∧w1=w') ?_ ?_
     ·skip
      obtain⟨b12,h12⟩:∃b,(m.kind==12)=b:=⟨_,rfl⟩;cases b12 with
      |true=>
       refine rl ?_;refine H11.bn 1 (Z7 _ _ _ h12 _ _ _) fun a13 H13=>nt ?_;refine H13.condT rfl ?_;refine Z3 ?_;refine Z0 ?_;exact⟨_,(by unfold J3;rw[h12]<;>rfl),H13.keep ⟨rfl,rfl,rfl,trivial⟩,rfl⟩
      |false=>
       refine rl ?_;refine H11.bn 1 (Z7 _ _ _ h12 _ _ _) fun a13 H13=>nt ?_;refine H13.condF rfl ?_;obtain⟨b13,h13⟩:∃b,(m.kind==13)=b:=⟨_,rfl⟩;cases b13 with
       |true=>
        refine rl ?_;refine H13.bn 1 (Z7 _ _ _ h13 _ _ _) fun a15 H15=>nt ?_;refine H15.condT rfl ?_;refine Z3 ?_;refine Z0 ?_;exact⟨_,(by unfold J3;rw[h12,h13]<;>rfl),H15.keep ⟨rfl,rfl,rfl,trivial⟩,rfl⟩
       |false=>
        refine rl ?_;refine H13.bn 1 (Z7 _ _ _ h13 _ _ _) fun a15 H15=>nt ?_;refine H15.condF rfl ?_;obtain⟨b14,h14⟩:∃b,(m.kind==14)=b:=⟨_,rfl⟩;cases b14 with
        |true=>
         refine rl ?_;refine H15.bn 1 (Z7 _ _ _ h14 _ _ _) fun a17 H17=>nt ?_;exact⟨_,(by unfold J3;rw[h12,h13,h14]<;>rfl),H17.keep ⟨rfl,rfl,rfl,trivial⟩,rfl⟩
        |false=>
         refine rl ?_;refine H15.bn 1 (Z7 _ _ _ h14 _ _ _) fun a17 H17=>nt ?_;exact⟨_,(by unfold J3;rw[h12,h13,h14]<;>rfl),H17.keep ⟨rfl,rfl,rfl,trivial⟩,rfl⟩
     rintro a12 _ ⟨v100,q100,H12,rfl⟩;cases v100 with
     |true=>
      have HB1:=D5.of O1;obtain⟨b0,hb0⟩:∃b0,b0=w1.heap.size:=⟨_,rfl⟩;rw[←hb0] at HB1;have hb0':=hb0;clear hb0;refine H12.condT rfl ?_;refine Z3 ?_;refine Z6 ?_;refine Z0 ?_;exact⟨_,H12.keep ⟨rfl,rfl,trivial⟩,(by rw[Q6b k1 k2 k3 q100];exact(Y2.nil b0 _).base (Nat.le_of_eq hb0'.symm)),HB1.low (Nat.le_of_eq hb0'.symm) O1⟩
     |false=>
      have hi:=Q3o hm.1 k1 k2 k3 q100;have HB1:=D5.of O1;obtain⟨b0,hb0⟩:∃b0,b0=w1.heap.size:=⟨_,rfl⟩;rw[←hb0] at HB1;have hb0':=hb0;clear hb0;refine H12.condF rfl ?_;refine H12.rg 1 fun a13 H13=>?_;refine H13.ld 0 (HB1.own.li 0 20) fun a14 H14=>?_;refine H14.cl (X7e b0 m.id hi.1 hi.2 _ HB1.bw) ?_;rintro a15 v12 w2 ⟨R12,hb⟩ H15;have HB2:=HB1.call hb;clear hb;refine H15.ms 1 fun a16 H16=>?_;refine wpList_nil ?_;refine Z6 ?_;refine Z0 ?_;exact⟨_,H16.keep ⟨rfl,rfl,trivial⟩,(by rw[Q6c k1 k2 k3 q100];exact R12.base (Nat.le_of_eq hb0'.symm)),HB2.low (Nat.le_of_eq hb0'.symm) O1⟩
 rintro a4 w2 ⟨v3,H4,R3,HB2⟩;obtain⟨b0,hb0'⟩:∃b0,b0=w1.heap.size:=⟨_,rfl⟩;rw[←hb0'] at R3 HB2;refine Z8 (fun a w'=>∃v,Z9 a 159 [(1,pz w.heap.size),(3,v)]∧Y2 b0 ((Z0k m)++Y9 m.wishes) v w'∧D5 w b0 [(w.heap.size,(Z1 m (.slice A1 m.codes.length c1) (.slice A2 m.wishes.length c2) (.slice A3 m.filters.length c3)))] w') ?_ ?_
 ·skip
  refine H4.rg 1 fun a5 H5=>nt ?_;refine wp_block ?_;refine Q7 m.wishes.length (fun k a w'=>∃v,Z9 a 159 [(1,pz w.heap.size),(3,v),(5,iz k)]∧Y2 b0 ((Z0k m)++Y9 (m.wishes.take k)) v w'∧D5 w b0 [(w.heap.size,(Z1 m (.slice A1 m.codes.length c1) (.slice A2 m.wishes.length c2) (.slice A3 m.filters.length c3)))] w') ?_ ?_
  ·exact⟨_,H5.keep ⟨rfl,rfl,rfl,trivial⟩,(by rw[List.take_zero];simpa [Y9] using R3),HB2⟩
  ·rintro k a6 w3 hkn ⟨v3,H6,R3,HB3⟩
   have hlb:(Y9 (m.wishes.take k)).length≤1000:=by
    have:=Z4e _ (Z6d k hwa);rw[List.length_take] at this;omega
   by_cases hlt:k<m.wishes.length
   ·skip
    refine H6.rg 2 fun a8 H8=>?_;refine H8.ld 0 (HB3.own.l7 0 22) fun a9 H9=>?_;refine H9.len gz rfl rfl rfl rfl Tryz.underlying46 ?_;intro a10 H10;refine H10.bb 0 rfl rfl rfl rfl rfl rfl (Q3 _ _ true (by simpa using hlt) _ _ _) rfl fun a11 H11=>nt ?_;refine H11.condT rfl ?_;refine Z3 ?_;refine Z0 ?_;repeat (refine wp_seq ?_)
    refine wp_block ?_;obtain⟨gb,go,x,hA,hgb,hx,hc0,hc1⟩:=X4.wish r2 rfl hlt;obtain⟨hxs,hx0,hx1⟩:=Z6x hwa hx;obtain⟨g5,hg5⟩:∃g5,g5=w3.heap.size:=⟨_,rfl⟩;have hfar:∀g,g5≤g→some g≠v3.ownBlock:=fun g hg=>R3.away (.inr (hg5▸hg));refine H11.dr HB3 [1,5] rfl [er 0 111 [7] (fun v w=>v=v3∧Y2 b0 ((Z0k m)++Y9 (m.wishes.take k)) v w),ec 1 112 (.pointer (some ⟨w.heap.size,22,none⟩)),ec 2 113 (.slice A2 m.wishes.length c2),ec 3 114 (iz k),ec 4 115 (.pointer (some ⟨gb,go+k*2,none⟩)),ec 5 116 (.pointer (some ⟨gb,go+k*2,none⟩)),ec 6 117 (.string x.1),er 7 118 [16] (fun v w=>Y2 b0 (((Z0k m)++Y9 (m.wishes.take k))++J2 x.1) v w),ec 8 119 (.pointer (some ⟨w.heap.size,22,none⟩)),ec 9 120 (.slice A2 m.wishes.length c2),ec 10 121 (iz k),ec 11 122 (.pointer (some ⟨gb,go+k*2,none⟩)),ec 12 123 (.pointer (some ⟨gb,go+k*2+1,none⟩)),ec 13 124 (iz x.2),ec 14 125 (.int .u8 (x.2%256)),er 15 126 [16] (fun v w=>∃g,v = .slice (some ⟨g,0,none⟩) 1 1∧g5≤g∧g<w.heap.size∧K0 [UInt8.ofNat x.2.toNat] v w),er 16 127 [] (fun v w=>Y2 b0 ((((Z0k m)++Y9 (m.wishes.take k))++J2 x.1)++[UInt8.ofNat x.2.toNat]) v w),er 17 3 [] (fun v w=>Y2 b0 ((((Z0k m)++Y9 (m.wishes.take k))++J2 x.1)++[UInt8.ofNat x.2.toNat]) v w),er 1000 3 [7,17] (fun v w=>v=v3∧Y2 b0 ((Z0k m)++Y9 (m.wishes.take k)) v w),er 1001 158 [] (fun _ w=>g5≤w.heap.size)] rfl ⟨jm,(jl fun _ h=>h.own.l7 0 22),jm,(jI rfl rfl rfl rfl rfl rfl fun ww=>(show (Instr.indexAt 46 (.slice A2 m.wishes.length c2) (iz k)).run Tryz.prog ww = .ok (.pointer (some ⟨gb,go+k*2,none⟩)) ww by rw[hA];exact Y9x 46 Tryz.underlying46 (fun _=>by kernel_rfl) _ _ _ _ _ hlt _)),(jf (fun g w=>J6y (go+k*2) g w)),(jl fun _ h=>(G1 _ _ _ _ ((T6 h.own.bel hgb).trans hc0))),jm,(jl fun _ h=>h.own.l7 0 22),jm,(jI rfl rfl rfl rfl rfl rfl fun ww=>(show (Instr.indexAt 46 (.slice A2 m.wishes.length c2) (iz k)).run Tryz.prog ww = .ok (.pointer (some ⟨gb,go+k*2,none⟩)) ww by rw[hA];exact Y9x 46 Tryz.underlying46 (fun _=>by kernel_rfl) _ _ _ _ _ hlt _)),(jf (fun g w=>J6z (go+k*2) g w)),(jl fun _ h=>(J9 _ _ _ _ ((T6 h.own.bel hgb).trans hc1))),(jc fun _=>(L6 _ _)),trivial⟩ ⟨(by rw[H11.at_ 3 _ rfl];exact⟨rfl,R3.drew⟩),(Nat.le_of_eq hg5),trivial⟩ ?_ ?_
    ·intro listed aa ww i o hs hni hcl ho hd hI hh
     have hls:listed.size=18:=hs;rcases hh with rfl |rfl |rfl |rfl |rfl |hh
     ·obtain rfl:=U2 ho rfl
      have r3:=hI.vs _ (ma 18 rfl) (.inl (by rw[hls];show 18≤1000;decide)) ⟨(Bool.eq_false_iff.2 fun h=>absurd (hni.symm.trans (Y5 (hcl 7 _ rfl h) 0 (by kernel_rfl))) (by decide)),(Bool.eq_false_iff.2 fun h=>absurd (hni.symm.trans (Y5 (hcl 7 _ rfl (Y5 (hcl 16 _ rfl (Y5 (hcl 17 _ rfl h) 16 (by kernel_rfl))) 7 (by kernel_rfl))) 0 (by kernel_rfl))) (by decide)),trivial⟩;refine V7 ho gz 111 rfl (aa.eval (.tmp 3)) ww (N2 (.inl rfl) rfl) ?_;exact hI.ph hls 0 rfl (aa.eval (.tmp 3)) r3 hI.wp Z1i.same
     ·obtain rfl:=U2 ho rfl
      have r111:=hI.vs _ (ma 0 rfl) (.inr (Y5 hd 0 (by kernel_rfl))) ⟨hni,trivial⟩;obtain⟨e111,hR⟩:=r111;have r117:=hI.vs _ (ma 6 rfl) (.inr (Y5 hd 6 (by kernel_rfl))) trivial;have HH:Z9 aa 159 [(111,v3),(117, .string x.1)]:=Z9.of hI.sz hI.df ⟨e111,r117,trivial⟩;rw[e111] at hR;refine D0 ho gz 118 rfl 106 _ (P3 HH rfl rfl (fun _ _=>by kernel_rfl)) _ (Y9f b0 ((Z0k m)++Y9 (m.wishes.take k)) v3 x.1 (by omega) ww hR hI.wp.bw (by simp only[List.length_append];omega)) ?_;rintro v' w' ⟨hrow,hb0,hK⟩;exact hI.ph hls 7 rfl (v') hrow (hI.wp.step hb0) ⟨fun _ h=>absurd (by show 7∈([7]:List Nat);decide) h,fun h=>absurd rfl h,fun _ _ _ _ _ h=>X4a hK hfar hb0.size h,fun _ _ h=>absurd (hni.symm.trans (Y5 (hcl 16 _ rfl (h.resolve_left (by rw[hls];show ¬18≤16;decide))) 7 (by kernel_rfl))) (by decide),fun _ _ h=>absurd (hni.symm.trans (Y5 (hcl 16 _ rfl (Y5 (hcl 17 _ rfl (h.resolve_left (by rw[hls];show ¬18≤17;decide))) 16 (by kernel_rfl))) 7 (by kernel_rfl))) (by decide),fun _ h=>absurd (by show 7∈([7,17]:List Nat);decide) h,fun _ _ _ _ _ h=>Nat.le_trans h hb0.size,trivial⟩
     ·obtain rfl:=U2 ho rfl
      have r125:=hI.vs _ (ma 14 rfl) (.inr (Y5 hd 14 (by kernel_rfl))) trivial;have rbox:=hI.vs _ (ma 19 rfl) (.inl (by rw[hls];show 18≤1001;decide)) trivial;have hg5:g5≤ww.heap.size:=rbox;have HH:Z9 aa 159 [(125, .int .u8 (x.2%256))]:=Z9.of hI.sz hI.df ⟨r125,trivial⟩;obtain⟨hby,hb⟩:=Z3o ww [UInt8.ofNat x.2.toNat] [.int .u8 (x.2%256)] (by rw[P0 _ hx0];rfl) 5 1 rfl;refine V7 ho gz 126 rfl (.slice (some ⟨ww.heap.size,0,none⟩) 1 1) (ww.alloc (.cells ([.int .u8 (x.2%256)]:List Value).toArray 5)) (Z0f HH (by intro cs b h;cases h) (by kernel_rfl) (by kernel_rfl)) ?_;exact hI.ph hls 15 rfl (.slice (some ⟨ww.heap.size,0,none⟩) 1 1) ⟨_,rfl,hg5,T7 ww _,hby⟩ (hI.wp.call hb) ⟨fun _ _ _ _ _ h=>⟨h.1,h.2.below hb⟩,fun _ _ _ _ _ h=>h.below hb,fun h=>absurd rfl h,fun _ _ _ _ _ h=>h.below hb,fun _ _ _ _ _ h=>h.below hb,fun _ _ _ _ _ h=>⟨h.1,h.2.below hb⟩,fun _ _ _ _ _ h=>Nat.le_trans h hb.size,trivial⟩
     ·obtain rfl:=U2 ho rfl
      have r118:=hI.vs _ (ma 7 rfl) (.inr (Y5 hd 7 (by kernel_rfl))) ⟨hni,trivial⟩;have r126:=hI.vs _ (ma 15 rfl) (.inr (Y5 hd 15 (by kernel_rfl))) ⟨hni,trivial⟩;obtain⟨_,_,_,_,hby⟩:=r126;obtain⟨v',w',hrun,hrow,hb0,hg⟩:=Z1g (P:=Tryz.prog) (a:=aa) (w:=ww) Tryz.underlying31 J4 (o:=⟨some 127,_,_,_,_,none⟩) rfl rfl rfl r118 hby (by simp only[List.length_append,V5,List.length_cons,List.length_nil];omega) hI.wp.bw;refine V7 ho gz 127 rfl v' w' hrun ?_;exact hI.ph hls 16 rfl (v') hrow (hI.wp.step hb0) ⟨fun _ _ _ hk=>absurd (hk.1.symm.trans (Y5 hd 7 (by kernel_rfl))) (by decide),fun _ h=>absurd (by show 16∈([16]:List Nat);decide) h,fun _ h=>absurd (by show 16∈([16]:List Nat);decide) h,fun h=>absurd rfl h,fun _ _ h=>absurd (hni.symm.trans (Y5 (hcl 17 _ rfl (h.resolve_left (by rw[hls];show ¬18≤17;decide))) 16 (by kernel_rfl))) (by decide),fun _ _ _ hk=>absurd (hk.1.symm.trans (Y5 hd 7 (by kernel_rfl))) (by decide),fun _ _ _ _ _ h=>Nat.le_trans h hb0.size,trivial⟩
     ·obtain rfl:=U2 ho rfl
      have r_127:=hI.vs _ (ma 16 rfl) (.inr (Y5 hd 16 (by kernel_rfl))) trivial;have HH:Z9 aa 159 [(127,aa.eval (.tmp 127))]:=Z9.of hI.sz hI.df ⟨rfl,trivial⟩;refine V7 ho gz 3 rfl (aa.eval (.tmp 127)) ww (N2 (.inr rfl) (HH.ev rfl)) ?_;exact hI.ph hls 17 rfl (aa.eval (.tmp 127)) r_127 hI.wp Z1i.same
     ·exact False.elim hh
    ·intro listed a12 w4 hall hI
     have r_3:=hI.vs _ (ma 17 rfl) (.inr (hall 17 (by decide))) trivial;have H12:Z9 a12 159 [(1,pz w.heap.size),(5,iz k),(3,a12.eval (.tmp 3))]:=Z9.of hI.sz hI.df ⟨hI.fx.1,hI.fx.2.1,rfl,trivial⟩;have HB4:=hI.wp;have R3_4:Y2 b0 ((((Z0k m)++Y9 (m.wishes.take k))++J2 x.1)++[UInt8.ofNat x.2.toNat]) (a12.eval (.tmp 3)) w4:=r_3;refine Z6 ?_;refine Z0 ?_;refine H12.rg 1 fun a13 H13=>?_;refine H13.bb 1 rfl rfl rfl rfl rfl rfl (E7 _ (by omega) _ _ _) rfl fun a15 H15=>nt ?_;exact⟨hlt,_,H15.keep ⟨rfl,rfl,rfl,trivial⟩,(by rw[E5 _ _ _ hx,Z8f,←List.append_assoc,←List.append_assoc];exact R3_4),HB4⟩
   ·skip
    refine H6.rg 2 fun a8 H8=>?_;refine H8.ld 0 (HB3.own.l7 0 22) fun a9 H9=>?_;refine H9.len gz rfl rfl rfl rfl Tryz.underlying46 ?_;intro a10 H10;refine H10.bb 0 rfl rfl rfl rfl rfl rfl (Q3 _ _ false (by simpa using hlt) _ _ _) rfl fun a11 H11=>nt ?_;refine H11.condF rfl ?_;refine wp_exit ?_;repeat (with_reducible refine J7 ?_)
    refine X3 ?_;refine Z0 ?_;rw[List.take_of_length_le (by omega)] at R3;exact⟨_,H11.keep ⟨rfl,rfl,trivial⟩,R3,HB3⟩
 rintro a5 w3 ⟨v3,H5,R3,HB3⟩;refine Z8 (fun a w'=>∃v,Z9 a 159 [(1,pz w.heap.size),(3,v)]∧Y2 b0 (((Z0k m)++Y9 m.wishes)++G2 m.codes) v w'∧D5 w b0 [(w.heap.size,(Z1 m (.slice A1 m.codes.length c1) (.slice A2 m.wishes.length c2) (.slice A3 m.filters.length c3)))] w') ?_ ?_
 ·skip
  refine H5.rg 1 fun a6 H6=>nt ?_;refine wp_block ?_;refine Q7 m.codes.length (fun k a w'=>∃v,Z9 a 159 [(1,pz w.heap.size),(3,v),(6,iz k)]∧Y2 b0 (((Z0k m)++Y9 m.wishes)++G2 (m.codes.take k)) v w'∧D5 w b0 [(w.heap.size,(Z1 m (.slice A1 m.codes.length c1) (.slice A2 m.wishes.length c2) (.slice A3 m.filters.length c3)))] w') ?_ ?_
  ·exact⟨_,H6.keep ⟨rfl,rfl,rfl,trivial⟩,(by rw[List.take_zero];simpa [G2] using R3),HB3⟩
  ·rintro k a7 w4 hkn ⟨v3,H7,R3,HB4⟩
   have hlb:(G2 (m.codes.take k)).length≤1000:=by
    rw[Z5z,List.length_take];omega
   by_cases hlt:k<m.codes.length
   ·skip
    refine H7.rg 2 fun a9 H9=>?_;refine H9.ld 0 (HB4.own.l6 0 15) fun a10 H10=>?_;refine H10.len gz rfl rfl rfl rfl Tryz.underlying45 ?_;intro a11 H11;refine H11.bb 0 rfl rfl rfl rfl rfl rfl (Q3 _ _ true (by simpa using hlt) _ _ _) rfl fun a12 H12=>nt ?_;refine H12.condT rfl ?_;refine Z3 ?_;refine Z0 ?_;repeat (refine wp_seq ?_)
    refine wp_block ?_;obtain⟨gb,go,x,hA,hgb,hx,hcell⟩:=X4.int (r1.below HB4.own.bel) rfl hlt;obtain⟨hx0,hx1⟩:=Z8e hca hx;refine H12.rg 2 fun a14 H14=>?_;refine H14.ld 1 (HB4.own.l6 0 15) fun a16 H16=>?_;refine H16.index gz rfl rfl rfl rfl rfl (show (Instr.indexAt 45 (.slice A1 m.codes.length c1) (iz k)).run Tryz.prog _ = .ok (.pointer (some ⟨gb,go+k,none⟩)) _ by rw[hA];exact U7 45 Tryz.underlying45 (fun _=>by kernel_rfl) _ _ _ _ _ hlt _) ?_;intro a17 H17;refine H17.ld 0 (J9 _ _ _ _ hcell) fun a18 H18=>?_;refine H18.cv 0 (L6 _ _) fun a19 H19=>?_;refine H19.bytes gz rfl rfl [UInt8.ofNat x.toNat] [.int .u8 (x%256)] (by rw[P0 _ hx0];rfl) (k:=1) rfl 5 (by intro cs b h;cases h) (by kernel_rfl) (by kernel_rfl) ?_;intro a20 v142 w5 H20 B142 hb;have HB5:=HB4.call hb;have R3:=R3.below hb;clear hb;refine H20.appendRow Tryz.underlying31 J4 gz rfl rfl rfl rfl rfl R3 B142 (by simp only[List.length_append,List.length_cons,List.length_nil];omega) HB5.bw ?_;intro a21 v143 w6 H21 R143 hb _;have HB6:=HB5.step hb;clear hb;refine H21.ms 1 fun a22 H22=>?_;refine wpList_nil ?_;refine Z6 ?_;refine Z0 ?_;refine H22.rg 1 fun a23 H23=>?_;refine H23.bb 1 rfl rfl rfl rfl rfl rfl (E7 _ (by omega) _ _ _) rfl fun a25 H25=>nt ?_;exact⟨hlt,_,H25.keep ⟨rfl,rfl,rfl,trivial⟩,(by rw[E5 _ _ _ hx,Z9k,←List.append_assoc];exact R143),HB6⟩
   ·skip
    refine H7.rg 2 fun a9 H9=>?_;refine H9.ld 0 (HB4.own.l6 0 15) fun a10 H10=>?_;refine H10.len gz rfl rfl rfl rfl Tryz.underlying45 ?_;intro a11 H11;refine H11.bb 0 rfl rfl rfl rfl rfl rfl (Q3 _ _ false (by simpa using hlt) _ _ _) rfl fun a12 H12=>nt ?_;refine H12.condF rfl ?_;refine wp_exit ?_;repeat (with_reducible refine J7 ?_)
    refine X3 ?_;refine Z0 ?_;rw[List.take_of_length_le (by omega)] at R3;exact⟨_,H12.keep ⟨rfl,rfl,trivial⟩,R3,HB4⟩
 rintro a6 w4 ⟨v3,H6,R3,HB4⟩;refine Z8 (fun a w'=>∃v,Z9 a 159 [(1,pz w.heap.size),(3,v)]∧Y2 b0 ((((Z0k m)++Y9 m.wishes)++G2 m.codes)++J8 m.filters) v w'∧D5 w b0 [(w.heap.size,(Z1 m (.slice A1 m.codes.length c1) (.slice A2 m.wishes.length c2) (.slice A3 m.filters.length c3)))] w') ?_ ?_
 ·skip
  refine H6.rg 1 fun a7 H7=>nt ?_;refine wp_block ?_;refine Q7 m.filters.length (fun k a w'=>∃v,Z9 a 159 [(1,pz w.heap.size),(3,v),(7,iz k)]∧Y2 b0 ((((Z0k m)++Y9 m.wishes)++G2 m.codes)++J8 (m.filters.take k)) v w'∧D5 w b0 [(w.heap.size,(Z1 m (.slice A1 m.codes.length c1) (.slice A2 m.wishes.length c2) (.slice A3 m.filters.length c3)))] w') ?_ ?_
  ·exact⟨_,H7.keep ⟨rfl,rfl,rfl,trivial⟩,(by rw[List.take_zero];simpa [J8] using R3),HB4⟩
  ·rintro k a8 w5 hkn ⟨v3,H8,R3,HB5⟩
   have hlb:(J8 (m.filters.take k)).length≤1000:=by
    have:=Z3i _ (Z4m k hfa);rw[List.length_take] at this;omega
   by_cases hlt:k<m.filters.length
   ·skip
    refine H8.rg 2 fun a10 H10=>?_;refine H10.ld 0 (HB5.own.l8 0 23) fun a11 H11=>?_;refine H11.len gz rfl rfl rfl rfl Tryz.underlying47 ?_;intro a12 H12;refine H12.bb 0 rfl rfl rfl rfl rfl rfl (Q3 _ _ true (by simpa using hlt) _ _ _) rfl fun a13 H13=>nt ?_;refine H13.condT rfl ?_;refine Z3 ?_;refine Z0 ?_;repeat (refine wp_seq ?_)
    refine wp_block ?_;obtain⟨gb,go,x,hA,hgb,hx,hcell⟩:=X4.str (r3.below HB5.own.bel) rfl hlt;have hxs:=Z6c hfa hx;refine H13.rg 2 fun a15 H15=>?_;refine H15.ld 1 (HB5.own.l8 0 23) fun a17 H17=>?_;refine H17.index gz rfl rfl rfl rfl rfl (show (Instr.indexAt 47 (.slice A3 m.filters.length c3) (iz k)).run Tryz.prog _ = .ok (.pointer (some ⟨gb,go+k,none⟩)) _ by rw[hA];exact U7 47 Tryz.underlying47 (fun _=>by kernel_rfl) _ _ _ _ _ hlt _) ?_;intro a18 H18;refine H18.ld 0 (G1 _ _ _ _ hcell) fun a19 H19=>?_;refine H19.cl (Z4g b0 ((((Z0k m)++Y9 m.wishes)++G2 m.codes)++J8 (m.filters.take k)) _ x (by omega) _ R3 HB5.bw (by simp only[List.length_append];omega)) ?_;rintro a20 v157 w6 ⟨R157,hb⟩ H20;have HB6:=HB5.step hb;clear hb;refine H20.ms 1 fun a21 H21=>?_;refine wpList_nil ?_;refine Z6 ?_;refine Z0 ?_;refine H21.rg 1 fun a22 H22=>?_;refine H22.bb 1 rfl rfl rfl rfl rfl rfl (E7 _ (by omega) _ _ _) rfl fun a24 H24=>nt ?_;exact⟨hlt,_,H24.keep ⟨rfl,rfl,rfl,trivial⟩,(by rw[E5 _ _ _ hx,Z6y,←List.append_assoc];exact R157),HB6⟩
   ·skip
    refine H8.rg 2 fun a10 H10=>?_;refine H10.ld 0 (HB5.own.l8 0 23) fun a11 H11=>?_;refine H11.len gz rfl rfl rfl rfl Tryz.underlying47 ?_;intro a12 H12;refine H12.bb 0 rfl rfl rfl rfl rfl rfl (Q3 _ _ false (by simpa using hlt) _ _ _) rfl fun a13 H13=>nt ?_;refine H13.condF rfl ?_;refine wp_exit ?_;repeat (with_reducible refine J7 ?_)
    refine X3 ?_;refine Z0 ?_;rw[List.take_of_length_le (by omega)] at R3;exact⟨_,H13.keep ⟨rfl,rfl,trivial⟩,R3,HB5⟩
 rintro a7 w5 ⟨v3,H7,R3,HB5⟩;refine H7.rg 2 fun a9 H9=>nt ?_;refine wp_ret ?_;repeat with_reducible first |apply Z4 |apply Z5
 refine bodyPost_ret (results_tmp rfl _ _ _) H9.df ⟨_,congrArg Ending.returned (H9.at_ 2 _ rfl), ?_,HB5.own.bel⟩;rw[X4p hm];exact R3.base (by rw[hb0'];omega)
end
section
open Go.RowKit
theorem X3y.bytes {xs:List UInt8}{w w':World}{e:Ending}(h:X3y xs w e w'):∃v',e = .returned v'∧(K0 xs v' w'∧Below w.heap.size w w'):=by
 obtain⟨v,rfl,hr,hbl⟩:=h;exact⟨v,rfl,hr.read,hbl⟩
theorem Q0h (k:Int) (h0:0≤k) (h2:k≤2) (x y:Operand) (w:World):(do eqGuard .shl 5 x y (.int .u8 (k%256)) (.int .u64 1);binOp .shl 5 (.int .u8 (k%256)) (.int .u64 1):Sem Value).run Tryz.prog w = .ok (.int .u8 ((2*k.toNat:Nat):Int)) w:=by
 have:k=0∨k=1∨k=2:=by omega
 rcases this with rfl |rfl |rfl<;>simp[go_sem]<;>rfl
theorem Q0i (k:Int) (h0:0≤k) (h2:k≤14) (x y:Operand) (w:World):(do eqGuard .shl 5 x y (.int .u8 (k%256)) (.int .u64 4);binOp .shl 5 (.int .u8 (k%256)) (.int .u64 4):Sem Value).run Tryz.prog w = .ok (.int .u8 ((16*k.toNat:Nat):Int)) w:=by
 obtain⟨n,rfl⟩:∃n:Nat,k=n:=⟨k.toNat,by omega⟩;have e:IntKind.u8.wrap ((n:Int)%256*16)=((16*n:Nat):Int):=by
  show ((n:Int)%256*16)%256=_;omega
 simp[go_sem];rw[e];omega
theorem Q3q (n:Nat) (x y:Operand) (w:World):(do eqGuard .rem 3 x y (iz n) (iz 128);binOp .rem 3 (iz n) (iz 128):Sem Value).run Tryz.prog w = .ok (iz ((n%128:Nat):Int)) w:=by
 simp[go_sem];rw[Int.tmod_eq_emod_of_nonneg (by omega)]
theorem Q3r (n:Nat) (h:n<16384) (x y:Operand) (w:World):(do eqGuard .quo 3 x y (iz n) (iz 128);binOp .quo 3 (iz n) (iz 128):Sem Value).run Tryz.prog w = .ok (iz ((n/128:Nat):Int)) w:=by
 simp[go_sem];exact IntWalk.i64_in _ (by omega)
theorem J7b (n:Nat) (h:n<256) (w:World):(convert 3 5 (iz n)).run Tryz.prog w = .ok (.int .u8 (n:Int)) w:=by
 rw[L6]
 congr 2
 omega
theorem Q3s (n:Nat):(n%128|||128)=n%128+128:=by
 have h:(128|||n%128)=128+n%128:=(Nat.two_pow_add_eq_or_of_lt (i:=7) (show n%128<2^7 by omega) 1).symm;rw[Nat.or_comm,h,Nat.add_comm]
theorem J7c (m:Mq) (vc vw vf:Value) (w:World) (hm:Z4b m) (hL:MqL w w.heap.size m vc vw vf):
  Calls Tryz.prog 35 #[.agg (Z1 m vc vw vf).toArray] w (X3y (Z1j m) w):=by
 have hbl:=Z9y hm.1;have hfl:=Z3r hm.1;have hkk:=Z2k hm.1;have hor:((16*m.kind.toNat:Nat)|||X9 m)=16*m.kind.toNat+X9 m:=Q5g _ _ (by omega);go_enter Tryz.func35,Tryz.ntmps35;refine Z9.start 57 [(0, .agg (Z1 m vc vw vf).toArray)] rfl rfl ⟨rfl,trivial⟩ ?_;intro a0 H0;have O0:=X0.start w;refine rl ?_;refine H0.bx O0 1 fun a2 w1 O1 H2=>nt ?_;have HB1:=D5.of O1;obtain⟨b0,hb0⟩:∃b0,b0=w1.heap.size:=⟨_,rfl⟩;rw[←hb0] at HB1;have hb0':=hb0;clear hb0;refine H2.rg 1 fun a3 H3=>nt ?_;refine Z8 (fun a w'=>Z9 a 57 [(1,pz w.heap.size),(3, .int .u8 ((X9 m:Nat):Int))]∧D5 w b0 [(w.heap.size,(Z1 m vc vw vf))] w') ?_ ?_
 ·skip
  refine H3.rg 1 fun a4 H4=>?_;refine H4.ld 0 (HB1.own.li 0 0) fun a5 H5=>nt ?_;refine wp_block ?_;obtain⟨b3,h3⟩:∃b,(m.kind==3)=b:=⟨_,rfl⟩;cases b3 with
  |true=>
   have k3:m.kind=3:=by simpa using h3
   refine rl ?_;refine H5.bn 1 (Z7 _ _ _ h3 _ _ _) fun a7 H7=>nt ?_;refine H7.condT rfl ?_;have hp3:K9 m=true:=by have h:=hm.1;unfold N3 at h;rw[if_neg (by omega),if_neg (by omega),if_pos k3] at h;exact h
   obtain⟨_,hq0,hq2,_,_,_⟩:=W5 hp3;have H8:=H7.kp [1];have g1:cb m.dup 8<256:=Z6b _ _ (by decide);have g2:2*m.qos.toNat<256:=by omega
   have g3:(cb m.dup 8|||2*m.qos.toNat)<256:=Z4k g1 g2;have g4:cb m.retain 1<256:=Z6b _ _ (by decide);have gf:((cb m.dup 8|||2*m.qos.toNat)|||cb m.retain 1)=cb m.dup 8+2*m.qos.toNat+cb m.retain 1:=J5w _ _ _ (by omega);refine H8.dr HB1 [1] rfl [ec 0 11 (.pointer (some ⟨w.heap.size,16,none⟩)),ec 1 12 (.bool m.dup),ec 2 13 (.int .u8 ((cb m.dup 8:Nat):Int)),ec 3 14 (.pointer (some ⟨w.heap.size,17,none⟩)),ec 4 15 (iz m.qos),ec 5 16 (.int .u8 (m.qos%256)),ec 6 17 (.int .u8 ((2*m.qos.toNat:Nat):Int)),ec 7 18 (.int .u8 (((cb m.dup 8|||2*m.qos.toNat):Nat):Int)),ec 8 19 (.pointer (some ⟨w.heap.size,18,none⟩)),ec 9 20 (.bool m.retain),ec 10 21 (.int .u8 ((cb m.retain 1:Nat):Int)),ec 11 22 (.int .u8 ((((cb m.dup 8|||2*m.qos.toNat)|||cb m.retain 1):Nat):Int)),ec 12 3 (.int .u8 ((((cb m.dup 8|||2*m.qos.toNat)|||cb m.retain 1):Nat):Int))] rfl ⟨jm,(jl fun _ h=>h.own.lb 0 16),(jq fun ww _=>(Z6r m.dup 8 8 rfl ww)),jm,(jl fun _ h=>h.own.li 0 17),(jc fun _=>(L6 _ _)),(jb fun _=>(Q0h _ hq0 hq2 _ _ _)),(jb fun _=>(X1k _ _ g1 g2 _ _ _)),jm,(jl fun _ h=>h.own.lb 0 18),(jq fun ww _=>(Z6r m.retain 1 1 rfl ww)),(jb fun _=>(X1k _ _ g3 g4 _ _ _)),jm,trivial⟩ trivial ?_ ?_
   ·exact fun _ _ _ _ _ _ _ _ _ _ _ hh=>False.elim hh
   ·intro listed a9 w2 hall hI
    have r_3:=hI.vs _ (ma 12 rfl) (.inr (hall 12 (by decide))) trivial;have H9:Z9 a9 57 [(1,pz w.heap.size),(3, .int .u8 ((((cb m.dup 8|||2*m.qos.toNat)|||cb m.retain 1):Nat):Int))]:=Z9.of hI.sz hI.df ⟨hI.fx.1,r_3,trivial⟩;have HB2:=hI.wp;refine Z6 ?_;refine Z0 ?_;exact⟨(by rw[show X9 m=_ from (by unfold X9;rw[if_pos k3];exact gf.symm:X9 m=((cb m.dup 8|||2*m.qos.toNat)|||cb m.retain 1))];exact H9.keep ⟨rfl,rfl,trivial⟩),HB2⟩
  |false=>
   have k3:¬m.kind=3:=by simpa using h3
   refine rl ?_;refine H5.bn 1 (Z7 _ _ _ h3 _ _ _) fun a7 H7=>nt ?_;refine H7.condF rfl ?_;repeat (refine wp_seq ?_)
   obtain⟨b6,h6⟩:∃b,(m.kind==6)=b:=⟨_,rfl⟩;cases b6 with
   |true=>
    have k6:m.kind=6:=by simpa using h6
    refine rl ?_;refine H7.bn 1 (Z7 _ _ _ h6 _ _ _) fun a9 H9=>nt ?_;refine H9.condT rfl ?_;refine Z3 ?_;refine Z0 ?_;refine H9.condT rfl ?_;refine H9.rg 1 fun a10 H10=>?_;refine wpList_nil ?_;refine Z6 ?_;refine Z0 ?_;exact⟨(by rw[show X9 m=_ from (by unfold X9;rw[if_neg k3];simp[k6]:X9 m=2)];exact H10.keep ⟨rfl,rfl,trivial⟩),HB1⟩
   |false=>
    have k6:¬m.kind=6:=by simpa using h6
    refine rl ?_;refine H7.bn 1 (Z7 _ _ _ h6 _ _ _) fun a9 H9=>nt ?_;refine H9.condF rfl ?_;obtain⟨b8,h8⟩:∃b,(m.kind==8)=b:=⟨_,rfl⟩;cases b8 with
    |true=>
     have k8:m.kind=8:=by simpa using h8
     refine rl ?_;refine H9.bn 1 (Z7 _ _ _ h8 _ _ _) fun a11 H11=>nt ?_;refine H11.condT rfl ?_;refine Z3 ?_;refine Z0 ?_;refine H11.condT rfl ?_;refine H11.rg 1 fun a12 H12=>?_;refine wpList_nil ?_;refine Z6 ?_;refine Z0 ?_;exact⟨(by rw[show X9 m=_ from (by unfold X9;rw[if_neg k3];simp[k8]:X9 m=2)];exact H12.keep ⟨rfl,rfl,trivial⟩),HB1⟩
    |false=>
     have k8:¬m.kind=8:=by simpa using h8
     refine rl ?_;refine H9.bn 1 (Z7 _ _ _ h8 _ _ _) fun a11 H11=>nt ?_;refine H11.condF rfl ?_;obtain⟨b10,h10⟩:∃b,(m.kind==10)=b:=⟨_,rfl⟩;cases b10 with
     |true=>
      have k10:m.kind=10:=by simpa using h10
      refine rl ?_;refine H11.bn 1 (Z7 _ _ _ h10 _ _ _) fun a13 H13=>nt ?_;refine H13.condT rfl ?_;refine H13.rg 1 fun a14 H14=>?_;refine wpList_nil ?_;refine Z6 ?_;refine Z0 ?_;exact⟨(by rw[show X9 m=_ from (by unfold X9;rw[if_neg k3];simp[k10]:X9 m=2)];exact H14.keep ⟨rfl,rfl,trivial⟩),HB1⟩
     |false=>
      have k10:¬m.kind=10:=by simpa using h10
      refine rl ?_;refine H11.bn 1 (Z7 _ _ _ h10 _ _ _) fun a13 H13=>nt ?_;refine H13.condF rfl ?_;refine Z3 ?_;refine Z6 ?_;refine Z0 ?_;exact⟨(by rw[show X9 m=_ from (by unfold X9;simp[k3,k6,k8,k10]:X9 m=0)];exact H13.keep ⟨rfl,rfl,trivial⟩),HB1⟩
 rintro a4 w2 ⟨H4,HB2⟩;have O2:=HB2.own;refine rl ?_;refine H4.lm O2 0 0 fun a5 H5=>?_;refine H5.cl ((Q0g m _ _ _ _ hm (hL.next O2.bel)).mono fun _ _ h=>h.bytes) ?_;rintro a6 vb w3 ⟨hB,hb⟩ H6;have O3:=O2.call hb;clear hb;obtain⟨Ab,cb',rfl,hrb⟩:=hB;have HB3:=D5.of O3;obtain⟨b0,hb0⟩:∃b0,b0=w3.heap.size:=⟨_,rfl⟩;rw[←hb0] at HB3;have hb0':=hb0;clear hb0;rw[←hb0'] at hrb;refine H6.ms 1 fun a7 H7=>nt ?_;refine H7.rg 1 fun a8 H8=>?_;refine H8.ld 0 (HB3.own.li 0 0) fun a9 H9=>?_;refine H9.cv 0 (L6 _ _) fun a10 H10=>?_;refine H10.bb 1 rfl rfl rfl rfl rfl rfl (Q0i _ (by omega) (by omega) _ _ _) rfl fun a12 H12=>?_;refine H12.bb 0 rfl rfl rfl rfl rfl rfl (X1k _ _ (by omega) (by omega) _ _ _) rfl fun a13 H13=>?_;refine H13.lit gz rfl rfl [UInt8.ofNat (16*m.kind.toNat+X9 m)] [.int .u8 ((16*m.kind.toNat|||X9 m:Nat):Int)] (by rw[hor,Y6u _ (by omega)];rfl) (k:=1) rfl 5 (by intro cs b h;cases h) (by kernel_rfl) (by kernel_rfl) HB3.bw ?_;intro a14 v35 w4 H14 R35 hb;have HB4:=HB3.call hb;have hrb:=hrb.below (hb.mono HB3.bw);clear hb;refine H14.ms 1 fun a15 H15=>nt ?_;refine H15.rg 1 fun a16 H16=>?_;refine H16.len gz rfl rfl rfl rfl Tryz.underlying31 ?_;intro a17 H17;refine H17.ms 1 fun a18 H18=>nt ?_;repeat (refine wp_seq ?_)
 refine wp_block ?_;refine Q7 2 (fun k a w'=>∃n pre v,k<2∧n<128^(2-k)∧Z3g (X8 m).length=pre++Z3g n∧pre.length≤2∧Z9 a 57 [(1,pz w.heap.size),(4, .slice Ab (X8 m).length cb'),(5,v),(6,iz n)]∧Y2 b0 ([UInt8.ofNat (16*m.kind.toNat+X9 m)]++pre) v w'∧RB w' b0 Ab (X8 m)∧D5 w b0 [(w.heap.size,(Z1 m vc vw vf))] w') ?_ ?_
 ·exact⟨_,[],_,by omega,by omega,rfl,by simp,H18.keep ⟨rfl,rfl,rfl,rfl,trivial⟩,by simpa using R35,hrb,HB4⟩
 ·rintro k a19 w5 hkn ⟨n,pre,v5,hk2,hn,hpre,hpl,H19,R5,hrb,HB5⟩
  have hn2:n<16384:=by
   rcases Nat.lt_or_ge k 1 with h |h
   ·obtain rfl:k=0:=by omega
    omega
   ·obtain rfl:k=1:=by omega
    omega
  by_cases hlt:128≤n
  ·skip
   have hk0:k=0:=by
    rcases Nat.lt_or_ge k 1 with h |h
    ·omega
    ·obtain rfl:k=1:=by omega
     omega
   subst hk0;refine H19.rg 1 fun a20 H20=>?_;refine H20.bb 0 rfl rfl rfl rfl rfl rfl (Z6k _ _ true (by simp;omega) _ _ _) rfl fun a21 H21=>nt ?_;repeat (refine wp_seq ?_)
   refine H21.condT rfl ?_;refine Z3 ?_;refine Z0 ?_;repeat (refine wp_seq ?_)
   refine wp_block ?_;refine H21.rg 2 fun a23 H23=>?_;refine H23.bn 0 (Q3q n _ _ _) fun a24 H24=>?_;refine H24.conv gz rfl rfl rfl rfl (J7b _ (by omega) _) ?_;intro a25 H25;refine H25.bb 0 rfl rfl rfl rfl rfl rfl (X1k _ _ (by omega) (by decide) _ _ _) rfl fun a26 H26=>?_;refine H26.lit gz rfl rfl [UInt8.ofNat (n%128+128)] [.int .u8 ((n%128|||128:Nat):Int)] (by rw[Q3s,Y6u _ (by omega)];rfl) (k:=1) rfl 5 (by intro cs b h;cases h) (by kernel_rfl) (by kernel_rfl) HB5.bw ?_;intro a27 v45 w6 H27 R45 hb;have R5:=R5.below hb;have HB6:=HB5.call hb;have hrb:=hrb.below (hb.mono HB5.bw);clear hb;refine H27.appendRow Tryz.underlying31 J4 gz rfl rfl rfl rfl rfl R5 R45.read (by simp;omega) HB6.bw ?_;intro a28 v46 w7 H28 R46 hb _;have HB7:=HB6.step hb;have hrb:=hrb.below hb;clear hb;refine H28.ms 1 fun a29 H29=>nt ?_;refine H29.rg 1 fun a30 H30=>?_;refine H30.bn 1 (Q3r n hn2 _ _ _) fun a32 H32=>?_;refine wpList_nil ?_;refine Z6 ?_;refine Z0 ?_;refine⟨by omega,n/128,pre++[UInt8.ofNat (n%128+128)],_,by omega,by omega, ?_, ?_,H32.keep ⟨rfl,rfl,rfl,rfl,trivial⟩,(by rw[←List.append_assoc];exact R46),hrb,HB7⟩
   ·rw[hpre,Z9z _ hlt,List.append_assoc];rfl
   ·have:pre=[]:=by
     have h1:=congrArg List.length hpre;rw[Z9z _ hlt] at h1;have h2:=X1b (X8 m).length (by omega);have h3:=X4d (n/128);simp only[List.length_append,List.length_cons] at h1;exact List.eq_nil_of_length_eq_zero (by omega)
    rw[this];simp
  ·skip
   refine H19.rg 1 fun a20 H20=>?_;refine H20.bb 0 rfl rfl rfl rfl rfl rfl (Z6k _ _ false (by simp;omega) _ _ _) rfl fun a21 H21=>nt ?_;repeat (refine wp_seq ?_)
   refine H21.condF rfl ?_;refine wp_exit ?_;repeat (with_reducible refine J7 ?_)
   refine X3 ?_;refine Z0 ?_;refine H21.rg 2 fun a23 H23=>?_;refine H23.cv 0 (L6 _ _) fun a24 H24=>?_;refine H24.lit gz rfl rfl [UInt8.ofNat n] [.int .u8 ((n:Int)%256)] (by rw[P0 _ (by omega)];rfl) (k:=1) rfl 5 (by intro cs b h;cases h) (by kernel_rfl) (by kernel_rfl) HB5.bw ?_;intro a25 v52 w6 H25 R52 hb;have R5:=R5.below hb;have HB6:=HB5.call hb;have hrb:=hrb.below (hb.mono HB5.bw);clear hb;refine H25.appendRow Tryz.underlying31 J4 gz rfl rfl rfl rfl rfl R5 R52.read (by simp;omega) HB6.bw ?_;intro a26 v53 w7 H26 R53 hb _;have HB7:=HB6.step hb;have hrb:=hrb.below hb;clear hb;refine H26.ms 1 fun a27 H27=>nt ?_;refine H27.rg 2 fun a29 H29=>?_;refine H29.appendRow Tryz.underlying31 J4 gz rfl rfl rfl rfl rfl R53 ⟨_,_,rfl,hrb.more HB7.bw⟩ (by simp;omega) HB7.bw ?_;intro a30 v56 w8 H30 R56 hb _;have HB8:=HB7.step hb;have hrb:=hrb.below hb;clear hb;refine H30.ms 1 fun a31 H31=>nt ?_;refine wp_ret ?_;repeat with_reducible first |apply Z4 |apply Z5
   refine bodyPost_ret (results_tmp rfl _ _ _) H31.df ⟨_,congrArg Ending.returned (H31.at_ 2 _ rfl), ?_,HB8.own.bel⟩;have e:Z1j m=(([UInt8.ofNat (16*m.kind.toNat+X9 m)]++pre)++[UInt8.ofNat n])++X8 m:=by
    unfold Z1j;rw[hpre,Z6a _ (by omega)];simp
   rw[e];exact R56.base HB8.hb
end
section
open Go.RowKit
theorem X9j {w:World}{b o:Nat}{m:Mq}{vc vw vf:Value}(h:w.rangeAt b o (Z1 m vc vw vf)):(Instr.loadAt 49 (.pointer (some ⟨b,o,none⟩))).run Tryz.prog w = .ok (.agg (Z1 m vc vw vf).toArray) w:=
 run_loadAt_mid w b o 49 _ _ h Tryz.underlying49 rfl size_mq
theorem Q6d (m:Mq) (vc vw vf vc' vw' vf':Value) (w:World) (ha:MqL w w.heap.size m vc vw vf) (hb:MqL w w.heap.size m vc' vw' vf'):
  Calls Tryz.prog 65 #[.agg (Z1 m vc vw vf).toArray, .agg (Z1 m vc' vw' vf').toArray] w fun e w'=>e = .returned (.bool true)∧Below w.heap.size w w':=by
 have h:=X9d m m vc vw vf vc' vw' vf' w ha hb;rw[(Y1u m m).2 rfl] at h;exact h
theorem X7f {m:Mq}(h:Z4b m):(Z1j m).length≤maxLen:=by
 have:=Q2u h;unfold maxLen;omega
end
end Go.Proofs.YtlacidnnankjlaaGreatDoor
