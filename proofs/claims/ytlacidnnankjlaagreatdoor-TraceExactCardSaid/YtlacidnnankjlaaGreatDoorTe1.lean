/-
  Texts of the claim: Float Mem NumPlain SumPlain EqB Copy Mem2 Base CrcPlain CrcTurn SumMore IpPlain SumW BytesW Scope IcmpW IcmpPlain IpFacts SegPlain Wire IcmpR IpW IpW2 IpB IpP IpRP IpRB SpoilW SegW SegA SegB SegRB SegP SegRP GMem GOp Inv Keep CopyF Has GLoad Fast InvB GRow InvP InvG InvQ InvT Tab.
-/
import Derived.Laws.FloatArith
import Derived.WalkKit
import Derived.WalkSpells
import Derived.WalkLawsBesides
import Derived.Deep.AppendLies
import Derived.Deep.Draws
import Derived.Lib.Hide
import Derived.DataReads
import Derived.Test.YtlacidnnankjlaaGreatDoorProg
import Derived.Deep.QuietTactic
import Derived.BigQuiet
import Derived.Outline
import Derived.Maps.AppendAt
import Derived.Laws.CopyOwn
import Derived.Laws.Tables
import Derived.Deep.RegionLaw
import Derived.Laws.BitsAllLaws
import Derived.Deep.RegionHeld3
import Derived.Deep.CutRange
import Derived.Deep.CutBlock
import Derived.StillTailTactics
import Derived.WalkMore
import Derived.ScopeJumps
import Derived.OwnWalk
import Derived.RegionTactic
import Derived.Deep.MidRow
import Derived.Great.Walk
import Derived.Great.Frames
import Derived.LoopN
namespace Go.Proofs.YtlacidnnankjlaaGreatDoor
set_option maxRecDepth 100000
set_option maxHeartbeats 25600000
section
open Ieee
def fl (n:Nat):Nat:=floatOfInt .f64 (n:Int)
theorem Q0o (n:Nat):fl n=double.nearest false n 0:=by
 unfold fl floatOfInt;show double.write (.number (decide ((n:Int)<0)) (n:Int).natAbs 0)=_;have h:decide ((n:Int)<0)=false:=decide_eq_false (by omega);rw[h];rfl
theorem Y4q:double.binade=4503599627370496:=by decide
theorem X7q:double.infRung=9218868437227405312:=by decide
theorem J2j:double.signWeight=9223372036854775808:=by decide
theorem Y2d:double.leastPlace = -1074:=by decide
theorem X9l:double.read 0 = .number false 0 (-1074):=by decide
theorem Y9n:fl 0=0:=by
 rw[Q0o];unfold Format.nearest;rw[if_pos rfl];rfl
theorem X9m (L N:Nat) (hL:L≤52) (hN1:4503599627370496≤N) (hN2:N<9007199254740992):double.read ((L+1022)*4503599627370496+N) = .number false N (-((52-L:Nat):Int)):=by
 obtain⟨R,hR⟩:∃R,R=(L+1022)*4503599627370496+N:=⟨_,rfl⟩;have r1:R/9223372036854775808=0:=by omega
 have r2:R%9223372036854775808=R:=by omega
 have r3:R/4503599627370496=L+1023:=by omega
 have r4:R%4503599627370496=N-4503599627370496:=by omega
 have r5:¬R<4503599627370496:=by omega
 have r6:R<9218868437227405312:=by omega
 rw[←hR];unfold Format.read;simp only[Y4q,X7q,J2j,Y2d,r1,r2,r3,r4,if_neg r5,if_pos r6];have a1:4503599627370496+(N-4503599627370496)=N:=by omega
 have a2:(-1074:Int)+((L+1023-1:Nat):Int) = -((52-L:Nat):Int):=by omega
 rw[a1,a2];rfl
theorem J2k (n:Nat):Toward.even.cut false n 0=n:=by
 unfold Toward.cut;simp[Nat.mod_one]
theorem J7n (n L:Nat) (h0:n≠0) (hL:n.log2=L) (hL52:L≤52) (hN2:n*2^(52-L)<9007199254740992):fl n=(L+1022)*4503599627370496+n*2^(52-L):=by
 rw[Q0o];unfold Format.nearest;rw[if_neg h0];have hlast:max ((0:Int)+(n.log2:Nat)-(double.fractionBits:Nat)) double.leastPlace=(L:Int)-52:=by
  rw[hL,Y2d];show max ((0:Int)+(L:Nat)-((52:Nat):Int)) (-1074)=_;omega
 simp only[hlast];have h1:((0:Int)-((L:Int)-52)).toNat=52-L:=by omega
 have h2:(((L:Int)-52)-0).toNat=0:=by omega
 have h3:(((L:Int)-52)-double.leastPlace).toNat=L+1022:=by
  rw[Y2d];omega
 rw[h1,h2,h3,Nat.shiftLeft_eq,J2k,Y4q,X7q];generalize n*2^(52-L)=N at hN2;unfold Format.word;rw[if_neg (by decide)];exact Nat.min_eq_left (by omega)
theorem Q1g (n:Nat) (h:n<9007199254740992) (h0:n≠0):n.log2≤52:=by
 have:=(Nat.log2_lt h0 (k:=53)).2 (by simpa using h);omega
theorem Y9o (n:Nat) (h:n<9007199254740992):∃k:Nat,double.read (fl n) = .number false (n*2^k) (-(k:Int)):=by
 by_cases h0:n=0
 ·subst h0
  rw[Y9n,X9l];obtain⟨K,hK⟩:∃K:Nat,K=1074:=⟨_,rfl⟩;exact⟨K,by rw[Nat.zero_mul,hK];rfl⟩
 have hlo:=Nat.log2_self_le h0;have hhi:=Nat.lt_log2_self (n:=n);have hL52:=Q1g n h h0;obtain⟨L,hL⟩:∃L,n.log2=L:=⟨_,rfl⟩;rw[hL] at hlo hhi hL52;have hN1:4503599627370496≤n*2^(52-L):=by
  have h1:2^L*2^(52-L)≤n*2^(52-L):=Nat.mul_le_mul_right _ hlo;rw[←Nat.pow_add,show L+(52-L)=52 from Nat.add_sub_cancel' hL52] at h1;exact h1
 have hN2:n*2^(52-L)<9007199254740992:=by
  have h1:n*2^(52-L)<2^(L+1)*2^(52-L):=Nat.mul_lt_mul_of_pos_right hhi (Nat.two_pow_pos _);rw[←Nat.pow_add,show L+1+(52-L)=53 by omega] at h1;exact h1
 exact⟨52-L,by rw[J7n n L h0 hL hL52 hN2];exact X9m L _ hL52 hN1 hN2⟩
theorem J2l (a b:Nat) (ha:a<9007199254740992) (hb:b<9007199254740992):double.order (fl a) (fl b)=some (compare (a:Int) (b:Int)):=by
 obtain⟨i,hi⟩:=Y9o a ha;obtain⟨j,hj⟩:=Y9o b hb;unfold Format.order;rw[hi,hj];unfold Datum.order;have h1:((-(i:Int))-min (-(i:Int)) (-(j:Int))).toNat=max i j-i:=by omega
 have h2:((-(j:Int))-min (-(i:Int)) (-(j:Int))).toNat=max i j-j:=by omega
 simp only[h1,h2,signed,Bool.false_eq_true,if_false,Nat.shiftLeft_eq,Nat.mul_assoc,←Nat.pow_add];rw[show i+(max i j-i)=max i j by omega,show j+(max i j-j)=max i j by omega];have hp:=Nat.two_pow_pos (max i j);generalize 2^max i j=m at hp
 congr 1
 have hlt:((a*m:Nat):Int)<((b*m:Nat):Int)↔(a:Int)<(b:Int):=by
  rw[Int.ofNat_lt,Int.ofNat_lt];exact Nat.mul_lt_mul_right hp
 have heq:((a*m:Nat):Int)=((b*m:Nat):Int)↔(a:Int)=(b:Int):=by
  rw[Int.ofNat_inj,Int.ofNat_inj];exact Nat.mul_left_inj (by omega)
 show compareOfLessAndEq _ _=compareOfLessAndEq _ _;unfold compareOfLessAndEq;simp only[hlt,heq]
theorem J2m (n k:Nat):Toward.zero.cut false (n*2^k) k=n:=by
 unfold Toward.cut;simp only[Nat.shiftLeft_eq,Nat.one_mul,Bool.toNat_false,Nat.add_zero];by_cases hm:k≤(n*2^k).log2+2
 ·rw[Nat.min_eq_left hm]
  exact Nat.mul_div_cancel _ (Nat.two_pow_pos k)
 ·rw[Nat.min_eq_right (by omega)]
  have h1:=Nat.lt_log2_self (n:=n*2^k);have h2:2^((n*2^k).log2+1)≤2^k:=Nat.pow_le_pow_right (by decide) (by omega);have h3:n=0:=by
   rcases Nat.eq_zero_or_pos n with h |h
   ·exact h
   ·have:=Nat.le_mul_of_pos_left (2^k) h
    omega
  subst h3;simp
theorem Q1h (n:Nat) (h:n<9007199254740992):floatToIntVal .f64 (fl n) .i64=some (n:Int):=by
 obtain⟨k,hk⟩:=Y9o n h;unfold floatToIntVal;show (match (double.read (fl n)).toInt .zero with
  |some n=>if IntKind.i64.min≤n∧n≤IntKind.i64.max then some n else none
  |none=>none)=_
 rw[hk];have hc:=J2m n k;unfold Datum.toInt Datum.integral;have h1:(-(k:Int)).toNat=0:=by omega
 have h2:(-(-(k:Int))).toNat=k:=by omega
 simp only[h1,h2,Nat.shiftLeft_zero,hc,signed,Bool.false_eq_true,if_false];have h3:IntKind.i64.min≤(n:Int)∧(n:Int)≤IntKind.i64.max:=by
  show (-9223372036854775808:Int)≤_∧_≤(9223372036854775807:Int);omega
 rw[if_pos h3]
end
section
open Go.RowKit
abbrev iz (k:Int):Value:=.int .i64 k
abbrev pz (g:Nat):Value:=.pointer (some ⟨g,0,none⟩)
theorem Z0e (a:Addr) (n:Nat):(a.add n).block=a.block:=by unfold Addr.add;split<;>rfl
theorem X4v (a:Addr) (i j:Nat):(a.add i).add j=a.add (i+j):=by
 unfold Addr.add;by_cases hi:i=0<;>by_cases hj:j=0<;>simp[hi,hj,Nat.add_assoc]
def X4 (w:World) (B size:Nat) (A:Option Addr) (n:Nat) (xs:List Value):Prop:=
 xs.length=n*size∧(0<n→∃ad,A=some ad∧ad.block<B∧∀j u,xs[j]? = some u→w.cell? (ad.add j)=some u)
section
variable {w w':World}{B B' size n:Nat}{A:Option Addr}{xs:List Value}
theorem X4.none_:X4 w B size A 0 []:=⟨by simp,fun h=>absurd h (by omega)⟩
theorem X4.at_ {k:Nat}(h:X4 w B 1 A n xs) (hk:k<n):∃ad u,A=some ad∧ad.block<B∧xs[k]? = some u∧w.cell? (ad.add k)=some u:=by
 obtain⟨ad,e,hb,hc⟩:=h.2 (by omega);have hl:k<xs.length:=by have:=h.1;omega
 exact⟨ad,xs[k],e,hb,List.getElem?_eq_getElem hl,hc k _ (List.getElem?_eq_getElem hl)⟩
theorem X4.keep (h:X4 w B size A n xs) (hk:∀p:Addr,p.block<B→w'.cell? p=w.cell? p):X4 w' B size A n xs:=
 ⟨h.1,fun hn=>by
  obtain⟨ad,e,hb,hc⟩:=h.2 hn;exact⟨ad,e,hb,fun j u hu=>(hk _ (by rw[Z0e];exact hb)).trans (hc j u hu)⟩⟩
theorem X4.more (h:X4 w B size A n xs) (hB:B≤B'):X4 w B' size A n xs:=
 ⟨h.1,fun hn=>by
  obtain⟨ad,e,hb,hc⟩:=h.2 hn;exact⟨ad,e,by omega,hc⟩⟩
theorem X4.below (h:X4 w B size A n xs) (hb:Below B w w'):X4 w' B size A n xs:=h.keep fun _ hp=>hb.cell hp
theorem X4.cut (h:X4 w B size A n xs) {k cap:Nat}(hk:k≤n) (hc:n≤cap):
  X4 w B size (if cap=k then A else A.map (·.add (k*size))) (n-k) (xs.drop (k*size)):=by
 refine⟨by rw[List.length_drop,h.1,Nat.sub_mul],fun hn=>?_⟩;obtain⟨ad,rfl,hb,hcell⟩:=h.2 (by omega);rw[if_neg (by omega)];refine⟨ad.add (k*size),rfl,by rw[Z0e];exact hb,fun j u hu=>?_⟩;rw[X4v];exact hcell _ u (by rw[←hu,List.getElem?_drop])
theorem X4.of_own {base:Nat}{e:TypeId}{c:Nat}(h:w.ownsRow base e size (.slice A n c) n xs):X4 w w.heap.size size A n xs:=by
 refine⟨h.1,fun hn=>?_⟩;obtain⟨g,cap,hv,_,hlt⟩:=h.form hn;have hA:A=some ⟨g,0,none⟩:=by injection hv
 subst hA;exact⟨_,rfl,hlt,h.cells (g:=g) rfl⟩
end
abbrev bv (x:UInt8):Value:=.int .u8 (x.toNat:Int)
def RB (w:World) (B:Nat) (A:Option Addr) (xs:List UInt8):Prop:=X4 w B 1 A xs.length (xs.map bv)
section
variable {w w':World}{B B':Nat}{A:Option Addr}{xs:List UInt8}
theorem RB.at_ {k:Nat}(h:RB w B A xs) (hk:k<xs.length):∃ad x,A=some ad∧ad.block<B∧xs[k]? = some x∧w.cell? (ad.add k)=some (.int .u8 (x.toNat:Int)):=by
 obtain⟨ad,u,hA,hb,hu,hc⟩:=X4.at_ h hk;refine⟨ad,xs[k],hA,hb,List.getElem?_eq_getElem hk, ?_⟩;rw[List.getElem?_map,List.getElem?_eq_getElem hk] at hu;simp only[Option.map_some,Option.some.injEq] at hu;rw[hc,←hu]
theorem RB.get {k:Nat}(h:RB w B A xs) (hk:k<xs.length):∃b o x,A=some ⟨b,o,none⟩∧b<B∧xs[k]? = some x∧w.cell? ⟨b,o+k,none⟩=some (.int .u8 (x.toNat:Int)):=by
 obtain⟨ad,x,hA,hb,hx,hc⟩:=h.at_ hk;obtain⟨ad0,x0,hA0,_,_,hc0⟩:=h.at_ (k:=0) (by omega);rw[hA] at hA0;injection hA0 with hA0
 subst hA0;obtain⟨b,o,spot⟩:=ad;have hspot:spot=none:=by
  have:=World.cell?_spot hc0
  simpa [Addr.add] using this
 subst hspot;refine⟨b,o,x,hA,hb,hx, ?_⟩;rw[←hc]
 congr 1
 unfold Addr.add;by_cases h1:k=0
 ·rw[if_pos h1,h1];simp
 ·rw[if_neg h1]
theorem RB.same_at {b o b' o':Nat}(h:A=some ⟨b,o,none⟩) (h':A=some ⟨b',o',none⟩):b'=b∧o'=o:=by
 rw[h] at h';injection h' with h'
 injection h' with h1 h2
 exact⟨h1.symm,h2.symm⟩
theorem RB.keep (h:RB w B A xs) (hk:∀p:Addr,p.block<B→w'.cell? p=w.cell? p):RB w' B A xs:=X4.keep h hk
theorem RB.more (h:RB w B A xs) (hB:B≤B'):RB w B' A xs:=X4.more h hB
theorem RB.below (h:RB w B A xs) (hb:Below B w w'):RB w' B A xs:=X4.below h hb
theorem RB.nil:RB w B A []:=⟨by simp,fun h=>by simp at h⟩
theorem RB.next (h:RB w w.heap.size A xs) (hb:Below w.heap.size w w'):RB w' w'.heap.size A xs:=(h.below hb).more hb.size
theorem RB.of_own {base:Nat}{e:TypeId}{c:Nat}(h:w.ownsRow base e 1 (.slice A xs.length c) xs.length (xs.map bv)):RB w w.heap.size A xs:=X4.of_own h
end
theorem RB.lit (w:World) (e:TypeId) (C:Array Value) (fr:Nat×Nat) (xs:List UInt8) (h:C.toList=xs.map bv):RB (w.alloc (.cells C e fr)) (w.alloc (.cells C e fr)).heap.size (some ⟨w.heap.size,0,none⟩) xs:=by
 refine⟨by simp,fun _=>⟨_,rfl,by simp,fun j u hu=>?_⟩⟩;rw[←h] at hu;have h1:(w.alloc (.cells C e fr)).heap[w.heap.size]? = some (.cells C e fr):=by
  show (w.heap.push (.cells C e fr))[w.heap.size]? = _;simp
 have h2:((⟨w.heap.size,0,none⟩:Addr).add j)=⟨w.heap.size,j,none⟩:=by
  unfold Addr.add;by_cases hj:j=0<;>simp[hj]
 rw[h2];unfold World.cell?;simp only[h1]
 simpa using hu
theorem RB.take {w:World}{B:Nat}{A:Option Addr}{xs:List UInt8}(h:RB w B A xs) (j:Nat):RB w B A (xs.take j):=by
 refine⟨by simp,fun hn=>?_⟩;rw[List.length_take] at hn;obtain⟨ad,hA,hb,hc⟩:=h.2 (by omega);refine⟨ad,hA,hb,fun i u hu=>hc i u ?_⟩;rw[List.map_take] at hu;rw[List.getElem?_take] at hu
 split at hu
 ·exact hu
 ·cases hu
theorem RB.cut {w:World}{B:Nat}{A:Option Addr}{xs:List UInt8}(h:RB w B A xs) {k cap:Nat}(hk:k≤xs.length) (hc:xs.length≤cap):RB w B (if cap=k then A else A.map (·.add k)) (xs.drop k):=by
 have:=X4.cut (cap:=cap) h hk hc;simp only[Nat.mul_one] at this;unfold RB;rw[List.length_drop,List.map_drop];exact this
theorem Z6g {B:Nat}{a w:World}(h:Below B a w) (n:Nat):Below B a (w.drewN n):=⟨h.os,h.tape,h.output,h.size,h.block⟩
theorem Y4r {w w':World}(h:∃n,w'=w.drewN n):Below w.heap.size w w':=by
 obtain⟨n,rfl⟩:=h;exact Z6g (Below.refl _ _) n
section
variable {w w':World}{base:Nat}{e:TypeId}{size:Nat}{v:Value}{n:Nat}{xs:List Value}
theorem V2 {base':Nat}(h:w.ownsRow base e size v n xs) (hb:base'≤base):w.ownsRow base' e size v n xs:=by
 obtain⟨h1,h2⟩:=h;refine⟨h1, ?_⟩;rcases h2 with h2 |⟨g,cap,cur,hv,hg,r⟩
 ·exact Or.inl h2
 ·exact Or.inr ⟨g,cap,cur,hv,by omega,r⟩
theorem Y1 (h:w.ownsRow base e size v n xs) (hb:Below w.heap.size w w'):w'.ownsRow base e size v n xs:=by
 obtain⟨h1,h2⟩:=h;refine⟨h1, ?_⟩;rcases h2 with h2 |⟨g,cap,cur,hv,hg,hh,r⟩
 ·exact Or.inl h2
 ·refine Or.inr ⟨g,cap,cur,hv,hg, ?_,r⟩
  have hlt:g<w.heap.size:=by
   rcases Nat.lt_or_ge g w.heap.size with hlt |hge
   ·exact hlt
   ·rw[Array.getElem?_eq_none hge] at hh;cases hh
  rw[hb.block g hlt];exact hh
theorem V3 (h:w.ownsRow base e size v n xs):∃A c,v = .slice A n c∧n≤c∧c≤maxLen:=by
 rcases h.2 with⟨hv,hn⟩ |⟨g,cap,cur,hv,hg,hh,hc,hm,_⟩
 ·exact⟨none,0,by rw[hv,hn],by omega,by decide⟩
 ·exact⟨_,cap,hv,hc,hm⟩
end
theorem Z5f {P:Program}{w0 w:World}{ops:Array Oper}{rest:List Oper}{o:Oper}{a:Act}{Q:Exit→Act→World→Prop}(B:Nat) (hb:Below B w0 w) (hgd:o.guard=none) (s x:Operand) (t:TypeId)
  (ho:o.op = .call { callee:=.builtin .append,args:=#[s,x],argTypes:=#[t,t] })
  (base:Nat) (e:TypeId) (z:Value) (bytes:Nat) (ht:P.underlying t=some (.slice e)) (hi:(P.info? e).map (fun i=>(i.zero,i.size,i.bytes))=some (some z,1,bytes)) (hzs:z.cells.size=1)
  (v:Value) (n:Nat) (xs:List Value) (hs:a.eval s=v) (hown:w.ownsRow base e 1 v n xs) (u:Value) (hx:a.eval x = .slice (some ⟨w.heap.size,0,none⟩) 1 1) (hu:u.oneCell'=true)
  (hn:(n+1)*bytes≤140737488355328) (hn2:n+1≤maxLen) (hbase:base≤w.heap.size) (hB:B≤base)
  (h:∀A c w',w'.ownsRow base e 1 (.slice A (n+1) c) (n+1) (xs++[u])→Below B w0 w'→wpList P ops Q rest (a.put o.dst (.slice A (n+1) c)) w'):
  wpList P ops Q (o::rest) a (w.alloc (.cells #[u] e)):=by
 obtain⟨i0,hi0,hz0,hz1,hz2⟩:=info_parts hi;refine wpList_append_own _ hgd s x t ho base e i0 z 1 bytes ht hi0 hz0 hz1 hz2 hzs (by decide) v n xs hs (hown.alloc _) ⟨w.heap.size,0,none⟩ 1 1 [u] hx rfl ?_ ?_ hn2 hn (by simp;omega) ?_
 ·intro j u' hj
  match j,hj with
  |0,hj=>simp at hj;subst hj;simp[Addr.add]
 ·intro u' hu';simp at hu';subst hu';exact hu
 ·intro v' w' hown' hg _
  obtain⟨A,c,rfl,_,_⟩:=V3 hown';refine h A c w' hown' ?_;refine(hb.alloc (by omega) _).grown hg (by simp;omega) ?_;intro k hk;exact Nat.le_trans hB (hown.lt k hk).1
theorem Z2s {α:Type}(xs:List α) (k:Nat) (x:α) (h:xs[k]? = some x):xs.drop k=x::xs.drop (k+1):=by
 have hk:k<xs.length:=by
  rcases Nat.lt_or_ge k xs.length with h1 |h1
  ·exact h1
  ·rw[List.getElem?_eq_none h1] at h;cases h
 rw[List.drop_eq_getElem_cons hk];rw[List.getElem?_eq_getElem hk] at h;simp at h;rw[h]
theorem E5 {α:Type}(xs:List α) (k:Nat) (x:α) (h:xs[k]? = some x):xs.take (k+1)=xs.take k++[x]:=by
 have hk:k<xs.length:=by
  rcases Nat.lt_or_ge k xs.length with h1 |h1
  ·exact h1
  ·rw[List.getElem?_eq_none h1] at h;cases h
 rw[List.take_succ_eq_append_getElem hk];rw[List.getElem?_eq_getElem hk] at h;simp at h;rw[h]
structure Z6s (g:Nat) (w w':World):Prop where
 cell:∀a:Addr,a.block≠g→w'.cell? a=w.cell? a
 size:w'.heap.size=w.heap.size
 below:∀B W0,Below B W0 w→B≤g→Below B W0 w'
theorem Z6s.refl (g:Nat) (w:World):Z6s g w w:=⟨fun _ _=>rfl,rfl,fun _ _ h _=>h⟩
theorem Z6s.set {g:Nat}{w w':World}(h:Z6s g w w') (p:Nat) (v:Value):Z6s g w (w'.setCell ⟨g,p,none⟩ v):=
 ⟨fun a hb=>(World.cell?_setCell_other w' _ _ _ (by intro h;exact hb (by rw[←h]))).trans (h.cell a hb),by rw[←h.size];simp[World.setCell],
  fun B W0 hb hB=>(h.below B W0 hb hB).setCell (p:=⟨g,p,none⟩) hB _⟩
theorem Z6s.trans {g:Nat}{w w' w'':World}(h:Z6s g w w') (k:Z6s g w' w''):Z6s g w w'':=
 ⟨fun a hb=>(k.cell a hb).trans (h.cell a hb),k.size.trans h.size,fun B W0 hb hB=>k.below B W0 (h.below B W0 hb hB) hB⟩
theorem Z6s.drew {g:Nat}{w w':World}(h:Z6s g w w'):Z6s g w w'.drew:=⟨h.cell,h.size,fun B W0 hb hB=>(h.below B W0 hb hB).drew⟩
theorem RB.only {w w':World}{B g:Nat}{A:Option Addr}{xs:List UInt8}(h:RB w B A xs) (hO:Z6s g w w') (hg:B≤g):RB w' B A xs:=
 h.keep fun p hp=>hO.cell p (by omega)
end
section
def U1:Nat→Nat→List UInt8
 |0,_=>[]
 |k+1,n=>UInt8.ofNat (n/256^k)::U1 k n
def ofB (xs:List UInt8):Nat:=xs.foldl (fun v x=>v*256+x.toNat) 0
theorem Y0 (k n:Nat):(U1 k n).length=k:=by
 induction k with
 |zero=>rfl
 |succ k ih=>simp[U1,ih]
theorem Y0x (xs:List UInt8) (x:UInt8):ofB (xs++[x])=ofB xs*256+x.toNat:=by simp[ofB]
theorem Y0e (xs:List UInt8):ofB xs<256^xs.length:=by
 have:∀(n:Nat) (xs:List UInt8),xs.length=n→ofB xs<256^n:=by
  intro n
  induction n with
  |zero=>intro xs h;rw[List.eq_nil_of_length_eq_zero h];simp[ofB]
  |succ n ih=>
   intro xs h;have hne:xs≠[]:=by intro h0;rw[h0] at h;simp at h
   have e:=List.dropLast_concat_getLast hne;have h1:=ih xs.dropLast (by simp;omega);have h2:=(xs.getLast hne).toNat_lt;rw[←e,Y0x,Nat.pow_succ];omega
 exact this _ xs rfl
theorem J2n (k n j:Nat) (hj:j<k):(U1 k n)[j]? = some (UInt8.ofNat (n/256^(k-1-j))):=by
 induction k generalizing j with
 |zero=>omega
 |succ k ih=>
  cases j with
  |zero=>simp[U1]
  |succ j=>
   simp only[U1,List.getElem?_cons_succ];rw[ih j (by omega)]
   congr 4;omega
theorem Y0d (k n j:Nat) (hj:j<k):(U1 k n).take (j+1)=(U1 k n).take j++[UInt8.ofNat (n/256^(k-1-j))]:=E5 _ _ _ (J2n k n j hj)
theorem J2o (a:Nat) (x:Nat) (hx:x<256):(a*256)|||x=a*256+x:=by
 have:=Nat.two_pow_add_eq_or_of_lt (i:=8) (by simpa using hx) a;rw[show a*256=2^8*a by omega];exact this.symm
theorem X1p (n:Nat) (k:Nat):((n/256^k:Nat):Int)%256=(((UInt8.ofNat (n/256^k)).toNat:Nat):Int):=by
 rw[UInt8.toNat_ofNat'];omega
end
section
namespace Sm
def fold (n:Nat):Nat:=if n=0 then 0 else (n-1)%65535+1
def tot:List UInt8→Nat
 |[]=>0
 |[a]=>a.toNat*256
 |a::b::r=>a.toNat*256+b.toNat+tot r
def add (s:Nat) (xs:List UInt8):Nat:=fold (s+tot xs)
def check (xs:List UInt8):Nat:=65535-add 0 xs
theorem fold_le (n:Nat):fold n≤65535:=by unfold fold;split<;>omega
theorem fold_small {n:Nat}(h:n≤65535):fold n=n:=by unfold fold;split<;>omega
theorem fold_step (n:Nat):fold (n%65536+n/65536)=fold n:=by
 unfold fold
 split<;>split<;>omega
theorem fold_add (a b:Nat):fold (fold a+b)=fold (a+b):=by
 unfold fold
 split<;>split<;>split<;>omega
theorem tot_append_even:∀(xs ys:List UInt8),xs.length%2=0→tot (xs++ys)=tot xs+tot ys
 |[],ys,_=>by simp[tot]
 |[_],_,h=>by simp at h
 |a::b::r,ys,h=>by
  have:=tot_append_even r ys (by simp at h;omega);show a.toNat*256+b.toNat+tot (r++ys)=a.toNat*256+b.toNat+tot r+tot ys;omega
theorem tot_le:∀(xs:List UInt8),tot xs≤65535*xs.length
 |[]=>by simp[tot]
 |[a]=>by have:=a.toNat_lt;simp[tot];omega
 |a::b::r=>by
  have:=tot_le r;have h1:=a.toNat_lt;have h2:=b.toNat_lt;simp only[tot,List.length_cons];omega
theorem add_append (s:Nat) (xs ys:List UInt8) (h:xs.length%2=0):add (add s xs) ys=add s (xs++ys):=by
 unfold add;rw[fold_add,tot_append_even xs ys h]
 congr 1;omega
theorem add_le (s:Nat) (xs:List UInt8):add s xs≤65535:=fold_le _
theorem check_le (xs:List UInt8):check xs≤65535:=by unfold check;omega
def next:List UInt8→Nat
 |[]=>0
 |[a]=>a.toNat*256
 |a::b::_=>a.toNat*256+b.toNat
end Sm
end
section
open Go.RowKit
def eqL (xs ys:List UInt8):Bool:=decide (xs=ys)
theorem X1q (xs:List UInt8):eqL xs xs=true:=by simp[eqL]
theorem Y7p {xs ys:List UInt8}(h:xs≠ys):eqL xs ys=false:=by simpa [eqL] using h
theorem X1r {xs ys:List UInt8}{k:Nat}(hk:k=xs.length) (hl:xs.length=ys.length) (h:xs.take k=ys.take k):xs=ys:=by
 subst hk;rw[List.take_length] at h;rw[hl,List.take_length] at h;exact h
theorem Y9p {xs ys:List UInt8}{k:Nat}{x y:UInt8}(hx:xs[k]? = some x) (hy:ys[k]? = some y) (h:xs.take k=ys.take k) (e:x=y):xs.take (k+1)=ys.take (k+1):=by
 rw[E5 xs k x hx,E5 ys k y hy,h,e]
theorem X9n {xs ys:List UInt8}{k:Nat}{x y:UInt8}(hx:xs[k]? = some x) (hy:ys[k]? = some y) (e:x≠y):xs≠ys:=by
 rintro rfl;rw[hx] at hy;exact e (by simpa using hy)
theorem Y3h (xs ys:List UInt8) (A B:Option Addr) (c d:Nat) (w:World) (hx:RB w w.heap.size A xs) (hy:RB w w.heap.size B ys) (hn:xs.length≤maxLen):
  Calls Tryz.prog 29 #[.slice A xs.length c, .slice B ys.length d] w fun e w'=>e = .returned (.bool (eqL xs ys))∧∃n,w'=w.drewN n:=by
 unfold maxLen at hn;by_cases hl:xs.length=ys.length
 ·have hne:(((xs.length:Int)) != ((ys.length:Nat):Int))=false:=by simp[hl]
  have hl':=Lib.hid hl;have hlt2:∀k,k<xs.length→k<ys.length:=by rw[hl];exact fun _ h=>h
  clear hl;go_enter Tryz.func29,Tryz.ntmps29
  go_wp2
  go_loopw [5] (fun i wr=>∃k n:Nat,k≤xs.length∧i = .int .i64 k∧wr=w.drewN n∧Hid (xs.take k=ys.take k)) (fun i _=>xs.length-(intOf i).toNat)
  case atStart=>exact⟨0,0,Nat.zero_le _,rfl,rfl,rfl⟩
  case round=>
   obtain⟨k,n,hk,rfl,rfl,ht⟩:=hrel;by_cases hlt:k<xs.length
   ·have hlty:=hlt2 k hlt
    obtain⟨ad,u,rfl,hb,hu,hcell⟩:=hx.at_ hlt;obtain⟨bd,v,rfl,hb2,hv,hcell2⟩:=hy.at_ hlty;clear hlt2;have hu':=Lib.hid hu;have hv':=Lib.hid hv;have hi:(k:Int)<(xs.length:Int):=by omega
    have hi2:(k:Int)<(ys.length:Int):=by omega
    clear hu hv;by_cases he:u=v
    ·have hne2:(((u.toNat:Int)) != ((v.toNat:Nat):Int))=false:=by simp[he]
     have HT:Hid (xs.take (k+1)=ys.take (k+1)):=Y9p hu'.out hv'.out ht.out he;clear he
     go_wp2_with fail
     go_quiet (fail)
     go_wp2
     go_roundw
     case rel=>exact⟨k+1,_,by omega,by go_num,rfl,HT⟩
     case measure=>simp[intOf];omega
    ·have hne2:(((u.toNat:Int)) != ((v.toNat:Nat):Int))=true:=by
      simp only[bne_iff_ne,ne_eq,Int.natCast_inj];exact fun h=>he (UInt8.toNat_inj.1 h)
     have HT:Hid (eqL xs ys=false):=Y7p (X9n hu'.out hv'.out he);clear he
     go_wp2_with fail
     go_quiet (fail)
     go_wp2
     go_ret
     exact⟨by rw[HT.out];rfl,_,by rw[World.drewN_drewN]⟩
   ·have HT:Hid (eqL xs ys=true):=by rw[X1r (by omega) hl'.out ht.out];exact X1q _
    go_wp2
    go_ret
    exact⟨by rw[HT.out];rfl,_,rfl⟩
 ·have hne:(((xs.length:Int)) != ((ys.length:Nat):Int))=true:=by
   simp only[bne_iff_ne,ne_eq,Int.natCast_inj];exact hl
  have HT:Hid (eqL xs ys=false):=Y7p (fun h=>hl (by rw[h]));clear hl;go_enter Tryz.func29,Tryz.ntmps29
  go_wp2
  go_ret
  exact⟨by rw[HT.out];rfl,0,rfl⟩
theorem J7o (xs:List UInt8) (A B:Option Addr) (c d:Nat) (w:World) (hx:RB w w.heap.size A xs) (hy:RB w w.heap.size B xs) (hn:xs.length≤maxLen):
  Calls Tryz.prog 29 #[.slice A xs.length c, .slice B xs.length d] w fun e w'=>e = .returned (.bool true)∧∃n,w'=w.drewN n:=by
 have:=Y3h xs xs A B c d w hx hy hn;rw[X1q] at this;exact this
theorem X4w (i n:Int) (h1:1≤n) (h2:n≤9223372036854775807):∃k:Nat,(k:Int)<n∧((k:Int)=(i%18446744073709551616)%n)∧wrap64 ((IntKind.u64.wrap i).tmod n)=(k:Int):=by
 have h3:0≤i%18446744073709551616:=Int.emod_nonneg _ (by omega);have h4:0≤(i%18446744073709551616)%n:=Int.emod_nonneg _ (by omega);have h5:(i%18446744073709551616)%n<n:=Int.emod_lt_of_pos _ (by omega);refine⟨((i%18446744073709551616)%n).toNat,by omega,by omega, ?_⟩;rw[IntKind.wrap_u64,Int.tmod_eq_emod_of_nonneg h3,IntWalk.wrap64_in _ ⟨by omega,by omega⟩];omega
def wth (i n:Int):Nat:=((i%18446744073709551616)%n).toNat
end
section
open Go.RowKit
theorem J4:(Tryz.prog.info? 5).map (fun i=>(i.zero,i.size,i.bytes))=some (some (.int .u8 0),1,1):=by kernel_rfl
theorem Y7q (xs:List UInt8) (A:Option Addr) (c:Nat) (w:World) (hx:RB w w.heap.size A xs) (hn:xs.length≤140737488351232):
  Calls Tryz.prog 59 #[.slice A xs.length c] w fun e w'=>∃A' c',e = .returned (.slice A' xs.length c')∧w'.ownsRow w.heap.size 5 1 (.slice A' xs.length c') xs.length (xs.map bv)∧Below w.heap.size w w':=by
 go_enter Tryz.func59,Tryz.ntmps59
 go_wp2
 go_loopw [3,4] (fun v i wr=>∃k:Nat,k≤xs.length∧i = .int .i64 k∧wr.ownsRow w.heap.size 5 1 v k ((xs.take k).map bv)∧Below w.heap.size w wr)
  (fun _ i _=>xs.length-(intOf i).toNat)
 case atStart=>exact⟨0,Nat.zero_le _,rfl,World.ownsRow_nil _ _ _ _,Below.refl _ _⟩
 case round=>
  obtain⟨k,hk,rfl,hown,hnx⟩:=hrel;by_cases hlt:k<xs.length
  ·obtain⟨ad,u,rfl,hb,hu,hcell⟩:=(hx.below hnx).at_ hlt
   have hts:=E5 xs k u hu;have HS:Hid ((xs.take (k+1)).map bv=(xs.take k).map bv++[.int .u8 (u.toNat:Int)]):=by rw[hts];simp[Hid]
   clear hts hu
   go_wp2_with (at_builtin;refine Z5f w.heap.size hnx rfl _ _ 31 rfl w.heap.size 5 (.int .u8 0) 1 Tryz.underlying31 J4 rfl _ _ _ (by exact rfl) hown (.int .u8 (u.toNat:Int)) (by exact rfl) rfl (by omega) (by unfold maxLen;omega) hnx.size (Nat.le_refl _) ?_;intro A' c' w' hown' hb')
   go_roundw
   case rel=>exact⟨k+1,by omega,by go_num,by rw[HS.out];exact hown',hb'⟩
   case measure=>simp[intOf];omega
  ·obtain rfl:k=xs.length:=by omega
   obtain⟨A',c',rfl,_,_⟩:=V3 hown
   go_wp2
   go_ret
   exact⟨A',c',rfl,by simpa using hown,hnx⟩
end
section
open Go.RowKit
section
variable {P:Program}(w:World)
theorem Z6h (base:Nat) (t ty e:TypeId) (i:TypeInfo) (size:Nat) (ht:P.underlying t=some (.slice e)) (hi:P.info? e=some i)
  (v:Value) (n:Nat) (xs:List Value) (hown:w.ownsRow base e size v n xs) (c:Nat):(Builtin.append_ #[t,t] ty #[v, .slice none 0 c]).run P w = .ok v w:=by
 rcases hown.2 with⟨rfl,rfl⟩ |⟨g,cap,cur,rfl,_,_,hnc,_⟩
 ·simp[Builtin.append_,run_underlying ht,sizeOf,typeInfo,hi,Builtin.lenOf,Builtin.firstCells]
 ·simp[Builtin.append_,run_underlying ht,sizeOf,typeInfo,hi,Builtin.lenOf,Builtin.firstCells,hnc,storeCells]
theorem Z0b (base:Nat) (t ty e:TypeId) (z:Value) (size bytes:Nat) (ht:P.underlying t=some (.slice e)) (hi:(P.info? e).map (fun i=>(i.zero,i.size,i.bytes))=some (some z,size,bytes)) (hzs:z.cells.size=size) (hsz:0<size)
  (v:Value) (n:Nat) (xs:List Value) (hown:w.ownsRow base e size v n xs)
  (B:Nat) (A:Option Addr) (m c:Nat) (news:List Value) (hr:X4 w B size A m news) (h1:∀u∈news,u.oneCell'=true)
  (h63:n+m≤maxLen) (hbytes:(n+m)*bytes≤140737488355328) (hbase:base≤w.heap.size):
  ∃A' c' w',(Builtin.append_ #[t,t] ty #[v, .slice A m c]).run P w = .ok (.slice A' (n+m) c') w'∧w'.ownsRow base e size (.slice A' (n+m) c') (n+m) (xs++news)∧w.grownBy w' v.ownBlock:=by
 obtain⟨i,hi0,hz0,hz1,hz2⟩:=info_parts hi;rcases A with _ |ad
 ·have hm:m=0:=by
   rcases Nat.eq_zero_or_pos m with h0 |h0
   ·exact h0
   ·obtain⟨ad,h,_⟩:=hr.2 h0
    cases h
  subst hm;have hn:news=[]:=List.eq_nil_of_length_eq_zero (by simpa using hr.1);subst hn;obtain⟨A,c1,rfl,_,_⟩:=V3 hown;exact⟨A,c1,w,Z6h w base t ty e i size ht hi0 _ n xs hown c,by simpa using hown,World.grownBy.refl w _⟩
 ·have hcells:∀j u,news[j]? = some u→w.cell? (ad.add j)=some u:=by
   intro j u hu;rcases Nat.eq_zero_or_pos m with h0 |h0
   ·subst h0
    have hn:news=[]:=List.eq_nil_of_length_eq_zero (by simpa using hr.1);subst hn;simp at hu
   ·obtain⟨ad',h,_,hc⟩:=hr.2 h0
    injection h with h
    subst h;exact hc j u hu
  obtain⟨v',w',hrun,h2,h3,_,_⟩:=run_append_own_at (P:=P) w base t ty e i z size bytes ht hi0 hz0 hz1 hz2 hzs hsz v n xs hown ad m c news hr.1 hcells h1 h63 hbytes hbase;obtain⟨A',c',rfl,_,_⟩:=V3 h2;exact⟨A',c',w',hrun,h2,h3⟩
end
theorem Y4s {w:World}{base:Nat}{e:TypeId}{size n c:Nat}{A:Option Addr}{xs:List Value}(h:w.ownsRow base e size (.slice A n c) n xs) (hn:0<n):∃g,A=some ⟨g,0,none⟩∧base≤g∧g<w.heap.size:=by
 obtain⟨g,cap,hA,hg,hg2⟩:=h.form hn;injection hA with hA _ _
 exact⟨g,hA,hg,hg2⟩
theorem Z7s (xs:List UInt8):∀u∈xs.map bv,u.oneCell'=true:=by
 intro u hu;obtain⟨x,_,rfl⟩:=List.mem_map.1 hu;rfl
theorem X6 {P:Program}{w0 w:World}{ops:Array Oper}{rest:List Oper}{o:Oper}{a:Act}{Q:Exit→Act→World→Prop}(B:Nat) (hb:Below B w0 w) (hgd:o.guard=none) (s x:Operand) (t:TypeId)
  (ho:o.op = .call { callee:=.builtin .append,args:=#[s,x],argTypes:=#[t,t] })
  (base:Nat) (e:TypeId) (ht:P.underlying t=some (.slice e)) (hi:(P.info? e).map (fun i=>(i.zero,i.size,i.bytes))=some (some (.int .u8 0),1,1))
  (v:Value) (n:Nat) (xs:List UInt8) (hs:a.eval s=v) (hown:w.ownsRow base e 1 v n (xs.map bv)) (A:Option Addr) (m c:Nat) (ys:List UInt8) (hm:ys.length=m) (hx:a.eval x = .slice A m c) (hr:RB w w.heap.size A ys)
  (hn:n+m≤140737488355328) (hbase:base≤w.heap.size) (hB:B≤base)
  (h:∀A' c' w',w'.ownsRow base e 1 (.slice A' (n+m) c') (n+m) ((xs++ys).map bv)→Below B w0 w'→wpList P ops Q rest (a.put o.dst (.slice A' (n+m) c')) w'):
  wpList P ops Q (o::rest) a w:=by
 subst hm;refine wpList_plain hgd fun K hK=>?_;obtain⟨A',c',w',hrun,h2,h3⟩:=Z0b (P:=P) w base t o.type e (.int .u8 0) 1 1 ht hi rfl (by decide) v n (xs.map bv) hown w.heap.size A ys.length c (ys.map bv) hr (Z7s ys) (by unfold maxLen;omega) (by omega) hbase;unfold Oper.wp execOp;simp only[ho,resolve,invoke,builtin,Sem.run_bind,Sem.run_pure,Result.andThen_ok,List.map_toArray,List.map_cons,List.map_nil,hs,hx,hrun];refine hK _ _ (h A' c' w' (by rw[List.map_append];exact h2) (hb.grown h3 (by omega) ?_));intro k hk;exact Nat.le_trans hB (hown.lt k hk).1
theorem X4x {w:World}{base g n cap:Nat}{e:TypeId}{xs:List UInt8}(hown:w.ownsRow base e 1 (.slice (some ⟨g,0,none⟩) n cap) n (xs.map bv)) (off:Nat) (ys:List UInt8) (hfit:off+ys.length≤n):
  ∃cur,w.heap[g]? = some (.cells cur e (0,0))∧off+(ys.map bv).length≤cur.size ∧
   (w.setRow g (cur.toList.take off++(ys.map bv)++cur.toList.drop (off+(ys.map bv).length)).toArray).ownsRow base e 1 (.slice (some ⟨g,0,none⟩) n cap) n ((xs.take off++ys++xs.drop (off+ys.length)).map bv):=by
 obtain⟨hl,h2⟩:=hown;have hl':xs.length=n:=by simpa using hl
 rcases h2 with⟨h,_⟩ |⟨g',cap',cur,hv,hg,hh,hc,hm,hsz,htk⟩
 ·cases h
 ·injection hv with h1 _ h3
  injection h1 with h1
  injection h1 with h1
  subst h1;subst h3;have hcur:cur.toList.length=cap:=by simpa using hsz
  refine⟨cur,hh,by simp;omega,by simp;omega,Or.inr ⟨g,cap,_,rfl,hg,setRow_heap w g cur _ e (0,0) hh,hc,hm, ?_, ?_⟩⟩
  ·simp only[List.size_toArray,List.length_append,List.length_take,List.length_drop,List.length_map,hcur,Nat.mul_one]
   omega
  ·rw[Nat.mul_one] at htk ⊢
   have e1:cur.toList=xs.map bv++cur.toList.drop n:=by rw[←htk,List.take_append_drop]
   have e2:cur.toList.take off=(xs.take off).map bv:=by
    rw[e1,List.take_append_of_le_length (by simp;omega),List.map_take]
   have e3:cur.toList.drop (off+ys.length)=(xs.drop (off+ys.length)).map bv++cur.toList.drop n:=by
    conv=>lhs;rw[e1]
    rw[List.drop_append_of_le_length (by simp;omega),List.map_drop]
   simp only[List.length_map];rw[e2,e3,←List.append_assoc,←List.map_append,←List.map_append];rw[List.take_append_of_le_length (by simp;omega)];rw[List.take_of_length_le (by simp;omega)]
theorem X1s (g:Nat) (w:World) (cs:Array Value):Z6s g w (w.setRow g cs):=
 ⟨fun a ha=>cell_setRow_other w g cs a ha,size_setRow w g cs,fun _ _ hb hB=>below_setRow hb hB cs⟩
theorem Z8h {P:Program}{ops:Array Oper}{o:Oper}{a:Act}{w:World}{K:Act→World→Prop}{Q:Exit→Act→World→Prop}{E:Prop}(hgd:o.guard=none) (d s:Operand) (dT sT:TypeId)
  (ho:o.op = .call { callee:=.builtin .copy,args:=#[d,s],argTypes:=#[dT,sT] }) (elem:TypeId) (hu:P.underlying dT=some (.slice elem)) (hsz:(P.info? elem).map (·.size)=some 1)
  (g off dLen dCap:Nat) (A:Option Addr) (sLen sCap:Nat) (hd:a.eval d = .slice (some ⟨g,off,none⟩) dLen dCap) (hs:a.eval s = .slice A sLen sCap)
  (base n cap:Nat) (xs ys:List UInt8) (hown:w.ownsRow base elem 1 (.slice (some ⟨g,0,none⟩) n cap) n (xs.map bv)) (hr:RB w w.heap.size A ys) (hl:ys.length=sLen) (hle:ys.length≤dLen) (hfit:off+ys.length≤n) (h0:0<ys.length)
  (h:∀w',w'.ownsRow base elem 1 (.slice (some ⟨g,0,none⟩) n cap) n ((xs.take off++ys++xs.drop (off+ys.length)).map bv)→Z6s g w w'→K (a.put o.dst (goInt ys.length)) w'):
  if Region.wanted o (yielded ops a.tmps)=true then Oper.wp P o a w K Q else E:=by
 have hw:Region.wanted o (yielded ops a.tmps)=true:=by simp[Region.wanted,hgd]
 rw[if_pos hw];subst hl;obtain⟨ad,rfl,_,hc⟩:=hr.2 h0;obtain⟨cur,hg,hf,ho2⟩:=X4x hown off ys hfit;have hrun:=run_copy_row (P:=P) w dT sT o.type elem g off dLen dCap ad ys.length sCap cur elem (ys.map bv) hu hsz hg (by simp[Nat.min_eq_left hle]) hc hf (Z7s ys);unfold Oper.wp;simp[execOp,ho,resolve,invoke,builtin,hd,hs,hrun,Result.andThen];simp only[List.length_map] at ho2;have:=h _ ho2 (X1s g w _);rw[Oper.upon_value]
 simpa using this
end
section
open Go.RowKit
theorem J7p {w:World}{base g n cap:Nat}{xs:List UInt8}(hown:w.ownsRow base 5 1 (.slice (some ⟨g,0,none⟩) n cap) n (xs.map bv)) (p:Nat) (y:UInt8):
  (w.setCell ⟨g,p,none⟩ (.int .u8 (y.toNat:Int))).ownsRow base 5 1 (.slice (some ⟨g,0,none⟩) n cap) n ((xs.set p y).map bv):=by
 have:=hown.stored p (.int .u8 (y.toNat:Int));rw[←List.map_set] at this;exact this.1
theorem J2p {w:World}{base g n cap:Nat}{xs:List UInt8}(hown:w.ownsRow base 5 1 (.slice (some ⟨g,0,none⟩) n cap) n (xs.map bv)) (p:Nat) (y:UInt8) {v:Value}(hv:v = .int .u8 (y.toNat:Int)):
  (w.setCell ⟨g,p,none⟩ v).ownsRow base 5 1 (.slice (some ⟨g,0,none⟩) n cap) n ((xs.set p y).map bv):=by
 subst hv;exact J7p hown p y
theorem J2q {w:World}{base g n cap:Nat}{xs:List UInt8}(hown:w.ownsRow base 5 1 (.slice (some ⟨g,0,none⟩) n cap) n (xs.map bv)) (p:Nat) (hp:p<n):
  ∃x:UInt8,xs[p]? = some x∧w.cell? ⟨g,p,none⟩=some (.int .u8 (x.toNat:Int))∧w.frozen? ⟨g,p,none⟩=false:=by
 have hl:xs.length=n:=by have:=hown.1;simpa using this
 refine⟨xs[p],List.getElem?_eq_getElem (by omega), ?_,hown.frozenAt p⟩;rw[hown.cellAt p (by omega),List.getElem?_map,List.getElem?_eq_getElem (by omega)];rfl
theorem J2r {w:World}{base g n cap:Nat}{xs:List UInt8}(hown:w.ownsRow base 5 1 (.slice (some ⟨g,0,none⟩) n cap) n (xs.map bv)):xs.length=n∧RB w w.heap.size (some ⟨g,0,none⟩) xs:=by
 have hl:xs.length=n:=by have:=hown.1;simpa using this
 subst hl;exact⟨rfl,RB.of_own hown⟩
theorem J7q (n:Nat) (hn:n≤65535):((n:Int)/256)=(((UInt8.ofNat (n/256)).toNat:Nat):Int):=by
 rw[UInt8.toNat_ofNat'];omega
theorem J7r (n:Nat):(n:Int)%256=(((UInt8.ofNat n).toNat:Nat):Int):=by
 rw[UInt8.toNat_ofNat'];omega
theorem T6 {B:Nat}{w w':World}(hb:Below B w w') {b o:Nat}(h:b<B):w'.cell? ⟨b,o,none⟩=w.cell? ⟨b,o,none⟩:=hb.cell (p:=⟨b,o,none⟩) h
theorem Q4b {B:Nat}{w w':World}(hb:Below B w w') {b o:Nat}(h:b<B):w'.frozen? ⟨b,o,none⟩=w.frozen? ⟨b,o,none⟩:=hb.frozen (p:=⟨b,o,none⟩) h
theorem X7 (w:World) (g o:Nat) (u:Value):w.grownBy (w.setCell ⟨g,o,none⟩ u) (some g):=
 ⟨rfl,rfl,rfl,by simp[World.setCell],fun k _ hne=>by
  have hk:g≠k:=fun e=>hne (by rw[e]);simp only[World.setCell];rw[Array.getElem?_modify];simp[hk]⟩
theorem RB.of_ownN {w:World}{base n c:Nat}{e:TypeId}{A:Option Addr}{xs:List UInt8}(h:w.ownsRow base e 1 (.slice A n c) n (xs.map bv)):RB w w.heap.size A xs:=by
 have hl:xs.length=n:=by simpa using h.1
 subst hl;exact RB.of_own h
theorem Y0y {P:Program}{ops:Array Oper}{o:Oper}{a:Act}{w:World}{K:Act→World→Prop}{Q:Exit→Act→World→Prop}{E:Prop}(hgd:o.guard=none) (s x:Operand) (t:TypeId)
  (ho:o.op = .call { callee:=.builtin .append,args:=#[s,x],argTypes:=#[t,t] })
  (base:Nat) (e:TypeId) (ht:P.underlying t=some (.slice e)) (hi:(P.info? e).map (fun i=>(i.zero,i.size,i.bytes))=some (some (.int .u8 0),1,1))
  (v:Value) (n:Nat) (xs:List UInt8) (hs:a.eval s=v) (hown:w.ownsRow base e 1 v n (xs.map bv)) (A:Option Addr) (m c:Nat) (ys:List UInt8) (hm:ys.length=m) (hx:a.eval x = .slice A m c) (hr:RB w w.heap.size A ys)
  (hn:n+m≤140737488355328) (hbase:base≤w.heap.size)
  (h:∀A' c' w',w'.ownsRow base e 1 (.slice A' (n+m) c') (n+m) ((xs++ys).map bv)→Below base w w'→w.grownBy w' v.ownBlock→K (a.put o.dst (.slice A' (n+m) c')) w'):
  if Region.wanted o (yielded ops a.tmps)=true then Oper.wp P o a w K Q else E:=by
 have hw:Region.wanted o (yielded ops a.tmps)=true:=by simp[Region.wanted,hgd]
 rw[if_pos hw];subst hm;obtain⟨A',c',w',hrun,h2,h3⟩:=Z0b (P:=P) w base t o.type e (.int .u8 0) 1 1 ht hi rfl (by decide) v n (xs.map bv) hown w.heap.size A ys.length c (ys.map bv) hr (Z7s ys) (by unfold maxLen;omega) (by omega) hbase;unfold Oper.wp execOp;simp only[ho,resolve,invoke,builtin,Sem.run_bind,Sem.run_pure,Result.andThen_ok,List.map_toArray,List.map_cons,List.map_nil,hs,hx,hrun];exact h _ _ _ (by rw[List.map_append];exact h2) ((Below.refl _ _).grown h3 hbase fun k hk=>(hown.lt k hk).1) h3
theorem T7 (w:World) (o:Obj):w.heap.size<(w.alloc o).heap.size:=by rw[World.size_alloc];omega
theorem G0 (w:World) (o:Obj):Below w.heap.size w (w.alloc o):=(Below.refl _ _).alloc (Nat.le_refl _) _
theorem Q1 {w:World}{base:Nat}{e:TypeId}{size:Nat}{v:Value}{n:Nat}{xs:List Value}(h:w.ownsRow base e size v n xs) {g:Nat}(hg:g<base∨w.heap.size≤g):some g≠v.ownBlock:=by
 intro e;have:=h.lt g e.symm;omega
theorem Y4t (xs:List UInt8) (n:Nat) (hl:xs.length=n) (A B:Option Addr) (c d:Nat) (w:World) (hx:RB w w.heap.size A xs) (hy:RB w w.heap.size B xs) (hn:n≤140737488351232):
  Calls Tryz.prog 29 #[.slice A n c, .slice B n d] w fun e w'=>e = .returned (.bool true)∧Below w.heap.size w w':=by
 subst hl;exact(J7o xs A B c d w hx hy (by unfold maxLen;omega)).mono fun e w' h=>⟨h.1,Y4r h.2⟩
theorem X7r (xs:List UInt8) (n:Nat) (hl:xs.length=n) (A:Option Addr) (c:Nat) (w:World) (hx:RB w w.heap.size A xs) (hn:n≤140737488351232):
  Calls Tryz.prog 59 #[.slice A n c] w fun e w'=>∃A' c',e = .returned (.slice A' n c')∧w'.ownsRow w.heap.size 5 1 (.slice A' n c') n (xs.map bv)∧Below w.heap.size w w':=by
 subst hl;exact Y7q xs A c w hx hn
theorem Z6z (a:Nat) (ha:a<9223372036854775808):(BitVec.ofInt 64 (a:Int)).toNat=a:=by
 rw[BitVec.ofInt_natCast,BitVec.toNat_ofNat];exact Nat.mod_eq_of_lt (by omega)
theorem Z1d (a b:Nat) (ha:a<9223372036854775808) (hb:b<9223372036854775808):bits .and .i64 (a:Int) (b:Int)=((a&&&b:Nat):Int):=by
 have hx:a&&&b<2^63:=Nat.and_lt_two_pow _ (by omega);show IntKind.i64.wrap ((BitVec.ofInt 64 (a:Int)&&&BitVec.ofInt 64 (b:Int)).toNat:Int)=_;rw[BitVec.toNat_and,Z6z a ha,Z6z b hb,IntKind.wrap_i64];omega
theorem Y4u (a b:Nat) (ha:a<9223372036854775808) (hb:b<9223372036854775808):bits .or .i64 (a:Int) (b:Int)=((a|||b:Nat):Int):=by
 have hx:a|||b<2^63:=Nat.or_lt_two_pow (by omega) (by omega);show IntKind.i64.wrap ((BitVec.ofInt 64 (a:Int)|||BitVec.ofInt 64 (b:Int)).toNat:Int)=_;rw[BitVec.toNat_or,Z6z a ha,Z6z b hb,IntKind.wrap_i64];omega
theorem J2s (xs:List UInt8) (n:Nat) (hl:xs.length=n) (A:Option Addr) (c:Nat) (w:World) (hx:RB w w.heap.size A xs) (hn:n≤140737488351232):
  Calls Tryz.prog 80 #[.slice A n c] w fun e w'=>∃A' c',e = .returned (.slice A' n c')∧w'.ownsRow w.heap.size 5 1 (.slice A' n c') n (xs.map bv)∧Below w.heap.size w w':=by
 have heq:=fun w:World=>Lib.run_eql_slice_nil (P:=Tryz.prog) w 31 5 A n c 0 0 Tryz.underlying31;rcases A with _ |ad
 ·have h0:n=0:=by
   subst hl;rcases Nat.eq_zero_or_pos xs.length with h |h
   ·exact h
   ·obtain⟨_,h1,_⟩:=hx.2 h
    cases h1
  subst h0;have hxs:xs=[]:=List.eq_nil_of_length_eq_zero hl;subst hxs;go_enter Tryz.func80,Tryz.ntmps80
  go_wp2
  go_ret
  exact⟨none,0,rfl,World.ownsRow_nil _ _ _ _,Below.refl _ _⟩
 ·simp only[Option.isNone_some] at heq
  have hmade:(w.alloc (.cells #[] 5)).ownsRow w.heap.size 5 1 (.slice (some ⟨w.heap.size,0,none⟩) 0 0) 0 (([]:List UInt8).map bv):=
   World.ownsRow_made w #[] 0 (Nat.le_refl _) (by decide) (by simp)
  have hrd:RB (w.alloc (.cells #[] 5)) (w.alloc (.cells #[] 5)).heap.size (some ad) xs:=hx.next ((Below.refl _ _).alloc (Nat.le_refl _) _);have hbel:Below w.heap.size w (w.alloc (.cells #[] 5)):=(Below.refl _ _).alloc (Nat.le_refl _) _;have HM:=Lib.hid hmade;have HR:=Lib.hid hrd;have HB:=Lib.hid hbel;have hl':=Lib.hid hl;clear hmade hrd hbel hx hl;go_enter Tryz.func80,Tryz.ntmps80
  go_wp2_with (at_builtin;refine X6 w.heap.size HB.out rfl _ _ 31 rfl w.heap.size 5 Tryz.underlying31 J4 _ _ [] (by exact rfl) HM.out (some ad) n c xs hl'.out (by exact rfl) HR.out (by omega) (by simp) (Nat.le_refl _) ?_;intro A' c' w' hown' hb')
  go_ret
  exact⟨A',c',by simp only;rfl,by simpa using hown',hb'⟩
theorem Q4c (k:Nat) (n:Nat):((n:Int)/2^(8*k))=((n/256^k:Nat):Int):=by
 rw[show (256:Nat)^k=2^(8*k) by rw[Nat.pow_mul]];simp
theorem T8 (vI kI:Int) (v k:Nat) (hve:vI=(v:Int)) (hke:kI=(k:Int)) (hk:k≤7) (_hv:v<9223372036854775808) (w:World):
  Calls Tryz.prog 90 #[.int .i64 vI, .int .i64 kI] w fun e w'=>∃A' c',e = .returned (.slice A' k c')∧w'.ownsRow w.heap.size 5 1 (.slice A' k c') k ((U1 k v).map bv)∧Below w.heap.size w w':=by
 subst hve hke;go_enter Tryz.func90,Tryz.ntmps90
 go_wp2
 go_loopw [5,6] (fun sv i wr=>∃j:Nat,j≤k∧i = .int .i64 ((k:Int)-1-(j:Int))∧wr.ownsRow w.heap.size 5 1 sv j (((U1 k v).take j).map bv)∧Below w.heap.size w wr)
  (fun _ i _=>(intOf i+1).toNat)
 case atStart=>exact⟨0,Nat.zero_le _,by go_num,World.ownsRow_nil _ _ _ _,Below.refl _ _⟩
 case round=>
  obtain⟨j,hj,rfl,hown,hb⟩:=hrel;by_cases hlt:j<k
  ·have HS:Hid (((U1 k v).take (j+1)).map bv=((U1 k v).take j).map bv++[.int .u8 (((UInt8.ofNat (v/256^(k-1-j))).toNat:Nat):Int)]):=by
    rw[Y0d k v j hlt,List.map_append];rfl
   have hlt':(j:Int)≤(k:Int)-1:=by omega
   have EV:Hid ((v:Int)/2^(8*(k-1-j))%256=(((UInt8.ofNat (v/256^(k-1-j))).toNat:Nat):Int)):=by
    unfold Hid;rw[Q4c,X1p]
   go_wp2_with (at_builtin;refine Z5f w.heap.size hb rfl _ _ 31 rfl w.heap.size 5 (.int .u8 0) 1 Tryz.underlying31 J4 rfl _ _ _ (by exact rfl) hown (.int .u8 ((v:Int)/2^(8*(k-1-j))%256)) (by exact rfl) rfl (by omega) (by unfold maxLen;omega) hb.size (Nat.le_refl _) ?_;intro A' c' w' hown' hb')
   go_roundw
   case rel=>exact⟨j+1,by omega,by go_num,by rw[HS.out,←EV.out];exact hown',hb'⟩
   case measure=>simp[intOf];omega
  ·obtain rfl:j=k:=by omega
   obtain⟨A',c',rfl,_,_⟩:=V3 hown
   go_wp2
   go_ret
   exact⟨A',c',rfl,by rw[List.take_of_length_le (by rw[Y0];exact Nat.le_refl _)] at hown;exact hown,hb⟩
theorem Y9q (a:Nat) (x:UInt8) (ha:a<36028797018963968):bits .or .i64 ((a:Int)*256) (x.toNat:Int)=((a*256+x.toNat:Nat):Int):=by
 have hx:=x.toNat_lt;have:=Y4u (a*256) x.toNat (by omega) (by omega);rw[J2o a x.toNat hx] at this;rw[←this];simp
theorem ofW (xs:List UInt8) (n:Nat) (hl:xs.length=n) (A:Option Addr) (c:Nat) (w:World) (hx:RB w w.heap.size A xs) (hn:n≤7):
  Calls Tryz.prog 107 #[.slice A n c] w fun e w'=>e = .returned (.int .i64 ((ofB xs:Nat):Int))∧w=w':=by
 subst hl;have hb:∀k,k≤xs.length→ofB (xs.take k)<72057594037927936:=by
  intro k hk;have h1:=Y0e (xs.take k);have h2:(256:Nat)^(xs.take k).length≤256^7:=Nat.pow_le_pow_right (by omega) (by rw[List.length_take];omega);omega
 have HB:=Lib.hid hb;clear hb;go_enter Tryz.func107,Tryz.ntmps107
 go_wp2
 go_loop [3,4] (fun sv i=>∃k t:Nat,i = .int .i64 k∧sv = .int .i64 (t:Nat)∧k≤xs.length∧Hid (t=ofB (xs.take k))) (fun _ i=>xs.length-(intOf i).toNat)
 case atStart=>exact⟨0,0,rfl,rfl,Nat.zero_le _,rfl⟩
 case round=>
  obtain⟨k,t,rfl,rfl,hk,ht⟩:=hrel;by_cases hlt:k<xs.length
  ·obtain⟨b0,o0,u,rfl,hb,hu,hcell⟩:=hx.get hlt
   have hub:(u.toNat:Int)<256:=by have:=u.toNat_lt;omega
   have hs:ofB (xs.take (k+1))=t*256+u.toNat:=by rw[E5 xs k u hu,Y0x,ht.out]
   have ht1:t<36028797018963968:=by
    have h1:=Y0e (xs.take k);have h2:(256:Nat)^(xs.take k).length≤256^6:=Nat.pow_le_pow_right (by omega) (by rw[List.length_take];omega);have h3:=ht.out;omega
   have HO:=Lib.hid (Y9q t u ht1);have HS:=Lib.hid hs;clear hu hs
   go_wp2
   go_round
   case rel=>exact⟨k+1,t*256+u.toNat,by go_num,by rw[HO.out],by omega,HS.out.symm⟩
   case measure=>simp[intOf];omega
  ·obtain rfl:k=xs.length:=by omega
   have HE:Hid (ofB xs=t):=by rw[ht.out,List.take_length];exact rfl
   go_wp2
   go_ret
   exact⟨by rw[HE.out];rfl,rfl⟩
end
section
namespace Crc
def step (s:Nat):Nat:=(s >>> 1) ^^^ (3988292384*(s%2))
end Crc
end
section
open Go.RowKit
theorem J2t {α:Type}{xs:List α}{p:Nat}{x:α}(h:xs[p]? = some x):xs=xs.take p++x::xs.drop (p+1):=by
 rw[←Z2s xs p x h,List.take_append_drop]
theorem Q1i {α:Type}{xs:List α}{p:Nat}{x:α}(h:xs[p]? = some x) (y:α):xs.set p y=xs.take p++y::xs.drop (p+1):=by
 have hp:p<xs.length:=by
  rcases Nat.lt_or_ge p xs.length with h1 |h1
  ·exact h1
  ·rw[List.getElem?_eq_none h1] at h;cases h
 rw[List.set_eq_take_append_cons_drop,if_pos hp]
theorem J7s {α:Type}{xs:List α}{p:Nat}{x x2:α}(h:xs[p]? = some x) (h2:xs[p+1]? = some x2) (y y2:α):
  xs=xs.take p++x::x2::xs.drop (p+2)∧(xs.set p y).set (p+1) y2=xs.take p++y::y2::xs.drop (p+2):=by
 have e1:=Z2s xs (p+1) x2 h2;have hp:p<xs.length:=by
  rcases Nat.lt_or_ge p xs.length with h1 |h1
  ·exact h1
  ·rw[List.getElem?_eq_none h1] at h;cases h
 refine⟨by rw[←e1];exact J2t h, ?_⟩;rw[Q1i h y,e1];rw[List.set_append_right _ _ (by rw[List.length_take];omega)];have:p+1-(xs.take p).length=1:=by rw[List.length_take];omega
 rw[this];rfl
end
section
namespace Sm
open Go.Proofs.YtlacidnnankjlaaGreatDoor
def wt (p:Nat):Nat:=if p%2=0 then 256 else 1
theorem wt_add2 (p:Nat):wt (p+2)=wt p:=by unfold wt;rw[Nat.add_mod_right]
theorem tot_set:∀(xs:List UInt8) (p:Nat) (x y:UInt8),xs[p]? = some x→tot (xs.set p y)+x.toNat*wt p=tot xs+y.toNat*wt p
 |[],p,x,y,h=>by simp at h
 |[a],0,x,y,h=>by simp at h;subst h;simp[tot,wt];omega
 |[a],p+1,x,y,h=>by simp at h
 |a::b::r,0,x,y,h=>by simp at h;subst h;simp[tot,wt];omega
 |a::b::r,1,x,y,h=>by simp at h;subst h;simp[tot,wt];omega
 |a::b::r,p+2,x,y,h=>by
  have:=tot_set r p x y (by simpa using h);rw[wt_add2];simp only[List.set_cons_succ,tot];omega
theorem check_mend (xs:List UInt8) (p:Nat) (hp:p%2=0) (hl:p+1<xs.length) (u v:UInt8)
  (hu:u.toNat=check ((xs.set p 0).set (p+1) 0)/256) (hv:v.toNat=check ((xs.set p 0).set (p+1) 0)%256):
  check ((((xs.set p 0).set (p+1) 0).set p u).set (p+1) v)=0:=by
 have hlen:((xs.set p 0).set (p+1) 0).length=xs.length:=by simp
 have g0:((xs.set p 0).set (p+1) 0)[p]? = some 0:=by
  rw[List.getElem?_set_ne (by omega),List.getElem?_set_self (by omega)]
 have g1:(((xs.set p 0).set (p+1) 0).set p u)[p+1]? = some 0:=by
  rw[List.getElem?_set_ne (by omega),List.getElem?_set_self (by simp;omega)]
 have e1:=tot_set ((xs.set p 0).set (p+1) 0) p 0 u g0;have e2:=tot_set (((xs.set p 0).set (p+1) 0).set p u) (p+1) 0 v g1;have w0:wt p=256:=by unfold wt;rw[if_pos hp]
 have w1:wt (p+1)=1:=by unfold wt;rw[if_neg (by omega)]
 have z:(0:UInt8).toNat=0:=rfl;rw[w0,z] at e1;rw[w1,z] at e2;generalize (xs.set p 0).set (p+1) 0=ys at *;have hc:=check_le ys;have hn:tot (((ys.set p u).set (p+1) v))=tot ys+check ys:=by omega
 have hk:check ys=65535-fold (0+tot ys):=rfl;have hfl:=fold_le (0+tot ys);unfold check add;rw[hn,hk];have:fold (0+(tot ys+(65535-fold (0+tot ys))))=65535:=by
  rw[Nat.zero_add,Nat.zero_add] at *;revert hfl;unfold fold
  split
  ·intro _;split<;>omega
  ·intro _;split<;>omega
 rw[this]
end Sm
end
section
structure Pk where
 s:Int
 d:Int
 p:Int
 t:Int
 i:Int
 xs:List UInt8
def inR (n most:Int):Bool:=decide (0≤n)&&decide (n≤most)
theorem T5 {n most:Int}:inR n most=true↔0≤n∧n≤most:=by simp[inR]
def Pk.ok (q:Pk):Bool:=inR q.s 4294967295&&(inR q.d 4294967295&&(inR q.p 255&&(inR q.t 255&&(inR q.i 65535&&decide (q.xs.length≤1480)))))
theorem Pk.ok_iff {q:Pk}:q.ok=true↔(0≤q.s∧q.s≤4294967295)∧(0≤q.d∧q.d≤4294967295)∧(0≤q.p∧q.p≤255)∧(0≤q.t∧q.t≤255)∧(0≤q.i∧q.i≤65535)∧q.xs.length≤1480:=by
 simp only[Pk.ok,Bool.and_eq_true,T5,decide_eq_true_eq]
def Z1n (s d p t i n:Nat):List UInt8:=
 [0x45,0]++U1 2 (20+n)++U1 2 i++[0x40,0,UInt8.ofNat t,UInt8.ofNat p,0,0]++U1 4 s++U1 4 d
theorem Z8m (s d p t i n:Nat):(Z1n s d p t i n).length=20:=by simp[Z1n,Y0]
def W6 (s d p t i n:Nat):List UInt8:=
 ((Z1n s d p t i n).set 10 (UInt8.ofNat (Sm.check (Z1n s d p t i n)/256))).set (10+1) (UInt8.ofNat (Sm.check (Z1n s d p t i n)))
theorem Z2b (s d p t i n:Nat):(W6 s d p t i n).length=20:=by simp[W6,Z8m]
def Pk.bytes (q:Pk):List UInt8:=W6 q.s.toNat q.d.toNat q.p.toNat q.t.toNat q.i.toNat q.xs.length++q.xs
theorem Pk.bytes_length (q:Pk):q.bytes.length=20+q.xs.length:=by simp[Pk.bytes,Z2b]
def b8 (xs:List UInt8) (k:Nat):Nat:=(xs[k]?.getD 0).toNat
def V4 (xs:List UInt8) (k m:Nat):Nat:=ofB ((xs.drop k).take m)
def Pk.zero:Pk:=⟨0,0,0,0,0,[]⟩
def ipN (xs:List UInt8):Nat:=4*(b8 xs 0%16)
def Z8n (xs:List UInt8):Pk:=⟨V4 xs 12 4,V4 xs 16 4,b8 xs 9,b8 xs 8,V4 xs 4 2,(xs.take (V4 xs 2 2)).drop (ipN xs)⟩
def X1 (xs:List UInt8):Pk×Int:=
 if xs.length<20 then (.zero,7)
 else if b8 xs 0/16≠4∨ipN xs<20 then (.zero,1)
 else if xs.length<ipN xs then (.zero,7)
 else if V4 xs 2 2<ipN xs then (.zero,1)
 else if xs.length<V4 xs 2 2 then (.zero,7)
 else if Sm.check (xs.take (ipN xs))≠0 then (.zero,8)
 else if V4 xs 6 2%16384≠0 then (.zero,9)
 else (Z8n xs,0)
theorem Z2m (k n:Nat) (h:n<256^k):ofB (U1 k n)=n:=by
 have:∀(k n v:Nat),(U1 k n).foldl (fun v x=>v*256+x.toNat) v=v*256^k+n%256^k:=by
  intro k
  induction k with
  |zero=>intro n v;simp[U1,Nat.mod_one]
  |succ k ih=>
   intro n v;simp only[U1,List.foldl_cons];rw[ih,UInt8.toNat_ofNat'];have h1:n%256^(k+1)=256^k*(n/256^k%256)+n%256^k:=by
    rw[Nat.pow_succ,Nat.mod_mul];omega
   rw[h1,show (256:Nat)^(k+1)=256^k*256 from rfl];generalize 256^k=P;generalize n%P=r;generalize n/P=u;have h2:u%2^8=u%256:=rfl;rw[h2,Nat.add_mul,Nat.mul_comm (u%256) P,Nat.mul_assoc v,Nat.mul_comm 256 P,Nat.add_assoc]
 unfold ofB;rw[this k n 0,Nat.mod_eq_of_lt h];omega
end
section
open Go.RowKit
theorem Y0z (a:Nat) (ha:a<9223372036854775808):bits .and .i64 (a:Int) 65535=((a%65536:Nat):Int):=by
 have:=Z1d a 65535 ha (by omega);rw[nat_mask16] at this;exact this
theorem J7t (t u:Nat) (k _n:Nat) (xs:List UInt8) (h:xs.length≤k+1) (x:UInt8) (hx:xs[k]? = some x) (hu:x.toNat=u) (R:Nat) (hf:Sm.fold (t+Sm.tot (xs.drop k))=R) (z:Nat) (hz:Sm.fold z=Sm.fold (t+u*256)) (_hz2:z≤65535):
  Sm.fold (z+Sm.tot (xs.drop (k+2)))=R:=by
 have hl:k<xs.length:=by
  rcases Nat.lt_or_ge k xs.length with h1 |h1
  ·exact h1
  ·rw[List.getElem?_eq_none h1] at hx;cases hx
 have e:xs.drop k=[x]:=by
  rw[List.drop_eq_getElem_cons hl,List.drop_eq_nil_of_le (by omega)];rw[List.getElem?_eq_getElem hl] at hx;simp at hx;rw[hx]
 have e2:xs.drop (k+2)=[]:=List.drop_eq_nil_of_le (by omega);rw[←hf,e,e2];simp only[Sm.tot,Nat.add_zero];rw[hz,hu]
theorem J2u (t:Nat) (k:Nat) (xs:List UInt8) (x y:UInt8) (hx:xs[k]? = some x) (hy:xs[k+1]? = some y) (R:Nat) (hf:Sm.fold (t+Sm.tot (xs.drop k))=R) (z:Nat) (hz:Sm.fold z=Sm.fold (t+x.toNat*256+y.toNat)) (_hz2:z≤65535):
  Sm.fold (z+Sm.tot (xs.drop (k+2)))=R:=by
 have hl:k+1<xs.length:=by
  rcases Nat.lt_or_ge (k+1) xs.length with h1 |h1
  ·exact h1
  ·rw[List.getElem?_eq_none h1] at hy;cases hy
 have e:xs.drop k=x::y::xs.drop (k+2):=by
  rw[List.drop_eq_getElem_cons (by omega),List.drop_eq_getElem_cons hl];rw[List.getElem?_eq_getElem (by omega)] at hx hy;simp at hx hy;rw[hx,hy]
 rw[←hf,e];simp only[Sm.tot];have h1:=Sm.fold_add z (Sm.tot (xs.drop (k+2)));have h2:=Sm.fold_add (t+x.toNat*256+y.toNat) (Sm.tot (xs.drop (k+2)));rw[←h1,hz,h2]
 congr 1;omega
theorem J2v (s:Nat) (hs:s≤65535) (xs:List UInt8) (A:Option Addr) (c:Nat) (w:World) (hx:RB w w.heap.size A xs) (hn:xs.length≤1099511627776):
  Calls Tryz.prog 91 #[.int .i64 (s:Nat), .slice A xs.length c] w fun e w'=>e = .returned (.int .i64 ((Sm.add s xs:Nat):Int))∧w=w':=by
 have HF:=Lib.hid (show Sm.fold (s+Sm.tot (xs.drop 0))=Sm.add s xs from rfl);go_enter Tryz.func91,Tryz.ntmps91
 go_wp2
 go_loop [0,5] (fun v i=>∃(k t:Nat),i = .int .i64 k∧v = .int .i64 ((t:Nat):Int)∧k≤xs.length+1∧t≤65535∧Hid (Sm.fold (t+Sm.tot (xs.drop k))=Sm.add s xs)) (fun _ i=>xs.length+1-(intOf i).toNat)
 case atStart=>exact⟨0,_,rfl,rfl,Nat.zero_le _,hs,HF⟩
 case round=>
  obtain⟨k,t,rfl,rfl,hk,ht,hf⟩:=hrel;by_cases hlt:k<xs.length
  ·obtain⟨b0,o0,u,rfl,hb,hu,hcell⟩:=hx.get hlt
   have hu8:=u.toNat_lt;have hub:(u.toNat:Int)<256:=by omega
   have hu':=Lib.hid hu;clear hu hu8;by_cases hlt2:k+1<xs.length
   ·obtain⟨b1,o1,v,had,hb2,hv,hcell2⟩:=hx.get hlt2
    obtain⟨rfl,rfl⟩:=RB.same_at rfl had;have hv8:=v.toNat_lt;have hvb:(v.toNat:Int)<256:=by omega
    have hv':=Lib.hid hv;have hlt2':(k:Int)+1<(xs.length:Int):=by omega
    clear hv hv8
    go_wp2
    go_loop [0] (fun sv=>∃z:Nat,sv = .int .i64 ((z:Nat):Int)∧z≤200000∧Hid (Sm.fold z=Sm.fold (t+u.toNat*256+v.toNat))) (fun sv=>(intOf sv).toNat)
    case atStart=>exact⟨t+u.toNat*256+v.toNat,by go_num,by omega,rfl⟩
    case round=>
     obtain⟨z,rfl,hz,hzf⟩:=hrel;by_cases hz6:65535<z
     ·have HA:=Lib.hid (Y0z z (by omega))
      have HZ:Hid (Sm.fold (z%65536+z/65536)=Sm.fold (t+u.toNat*256+v.toNat)):=by rw[Sm.fold_step];exact hzf.out
      go_wp2
      go_round
      case rel=>exact⟨z%65536+z/65536,by rw[HA.out,IntWalk.wrap64_in _ ⟨by omega,by omega⟩];go_num,by omega,HZ⟩
      case measure=>rw[HA.out,IntWalk.wrap64_in _ ⟨by omega,by omega⟩];simp[intOf];omega
     ·go_wp2
      go_round
      case rel=>exact⟨k+2,z,by go_num,rfl,by omega,by omega,J2u t k xs u v hu'.out hv'.out _ hf.out z hzf.out (by omega)⟩
      case measure=>simp[intOf];omega
   ·have hlt2':¬(k:Int)+1<(xs.length:Int):=by omega
    go_wp2
    go_loop [0] (fun sv=>∃z:Nat,sv = .int .i64 ((z:Nat):Int)∧z≤200000∧Hid (Sm.fold z=Sm.fold (t+u.toNat*256))) (fun sv=>(intOf sv).toNat)
    case atStart=>exact⟨t+u.toNat*256,by go_num,by omega,rfl⟩
    case round=>
     obtain⟨z,rfl,hz,hzf⟩:=hrel;by_cases hz6:65535<z
     ·have HA:=Lib.hid (Y0z z (by omega))
      have HZ:Hid (Sm.fold (z%65536+z/65536)=Sm.fold (t+u.toNat*256)):=by rw[Sm.fold_step];exact hzf.out
      go_wp2
      go_round
      case rel=>exact⟨z%65536+z/65536,by rw[HA.out,IntWalk.wrap64_in _ ⟨by omega,by omega⟩];go_num,by omega,HZ⟩
      case measure=>rw[HA.out,IntWalk.wrap64_in _ ⟨by omega,by omega⟩];simp[intOf];omega
     ·go_wp2
      go_round
      case rel=>exact⟨k+2,z,by go_num,rfl,by omega,by omega,J7t t u.toNat k 0 xs (by omega) u hu'.out rfl _ hf.out z hzf.out (by omega)⟩
      case measure=>simp[intOf];omega
  ·have he:Hid (Sm.add s xs=t):=by
    rw[←hf.out,List.drop_eq_nil_of_le (by omega)];exact Sm.fold_small (by simp only[Sm.tot];omega)
   go_wp2
   go_ret
   exact⟨by rw[he.out];rfl,rfl⟩
def Q6m (s:Nat) (xs:List UInt8) (A:Option Addr) (c:Nat) (w:World) (a':Act) (w':World):Prop:=
 w'=w∧∃(k t:Nat) (v0 v5 u6 u7 u8 u9 u10 u11 u12 u13 u14 u15 u16 u17 u18 u19 u20 u21 u22 u23 u24 u25 u26 u27 u28 u29 u30 u31 u32 u33 u34 u35 u36 u37 u38 u39 u40:Value),a'={ tmps:=#[v0, .slice A xs.length c,undef,undef, .int .i64 0,v5,u6,u7,u8,u9,u10,u11,u12,u13,u14,u15,u16,u17,u18,u19,u20,u21,u22,u23,u24,u25,u26,u27,u28,u29,u30,u31,u32,u33,u34,u35,u36,u37,u38,u39,u40],defers:=[] }∧v0 = .int .i64 ((t:Nat):Int)∧v5 = .int .i64 (k:Nat)∧k≤xs.length+1∧t+Sm.tot (xs.drop k)=s+Sm.tot xs
def J2w (n:Nat) (a':Act):Nat:=n+1-(intOf (a'.tmps.getD 5 undef)).toNat
theorem X7s (k:Nat) (xs:List UInt8) (h:xs.length≤k+1) (x:UInt8) (hx:xs[k]? = some x):Sm.tot (xs.drop k)=x.toNat*256+Sm.tot (xs.drop (k+2)):=by
 have e:xs.drop k=[x]:=by
  rw[Z2s xs k x hx,List.drop_eq_nil_of_le (by omega)]
 rw[e,List.drop_eq_nil_of_le (by omega)];simp[Sm.tot]
theorem X7t (k:Nat) (xs:List UInt8) (x y:UInt8) (hx:xs[k]? = some x) (hy:xs[k+1]? = some y):Sm.tot (xs.drop k)=x.toNat*256+y.toNat+Sm.tot (xs.drop (k+2)):=by
 rw[Z2s xs k x hx,Z2s xs (k+1) y hy];simp[Sm.tot]
theorem J2x (s:Nat) (hs:s≤65535) (xs:List UInt8) (A:Option Addr) (c:Nat) (w:World) (hx:RB w w.heap.size A xs) (hn:xs.length≤1099511627776):
  Calls Tryz.prog 134 #[.int .i64 (s:Nat), .slice A xs.length c] w fun e w'=>e = .returned (.int .i64 ((Sm.add s xs:Nat):Int))∧w=w':=by
 have htot:=Sm.tot_le xs;have hbig:s+Sm.tot xs≤72057594038000000:=by omega
 have H0:=Lib.hid (show 0+Sm.tot (xs.drop 0)+s=s+Sm.tot xs from by simp[Nat.add_comm]);go_enter Tryz.func134,Tryz.ntmps134
 go_wp2
 refine wp_scope_jumps 0 (Q6m s xs A c w) (fun a' _=>J2w xs.length a') rfl ?_ ?_
 ·go_wp2
  go_step3
  by_cases hlt:0<xs.length
  ·obtain⟨b0,o0,u,rfl,hb,hu,hcell⟩:=hx.get hlt
   have hub:(u.toNat:Int)<256:=by have:=u.toNat_lt;omega
   have hu':=Lib.hid hu;clear hu;by_cases hlt2:0+1<xs.length
   ·obtain⟨b1,o1,v,had,hb2,hv,hcell2⟩:=hx.get hlt2
    obtain⟨rfl,rfl⟩:=RB.same_at rfl had;have hvb:(v.toNat:Int)<256:=by have:=v.toNat_lt;omega
    have hT:=Lib.hid (X7t 0 xs u v hu'.out hv);clear hv;have hlt2':(1:Int)<(xs.length:Int):=by omega
    simp only[Nat.zero_add,Nat.add_zero] at hcell hcell2
    go_wp2
    go_step3
    exact⟨rfl,rfl,2,s+u.toNat*256+v.toNat,_,_,_,_,_,_,_,_,_,_,_,_,_,_,_,_,_,_,_,_,_,_,_,_,_,_,_,_,_,_,_,_,_,_,_,_,_,rfl,by go_num,rfl,by omega,by have h:=hT.out;simp only[List.drop_zero,Nat.zero_add] at h ⊢;omega⟩
   ·have hT:=Lib.hid (X7s 0 xs (by omega) u hu'.out)
    have hlt2':¬(1:Int)<(xs.length:Int):=by omega
    simp only[Nat.add_zero] at hcell
    go_wp2
    go_step3
    exact⟨rfl,rfl,2,s+u.toNat*256,_,_,_,_,_,_,_,_,_,_,_,_,_,_,_,_,_,_,_,_,_,_,_,_,_,_,_,_,_,_,_,_,_,_,_,_,_,rfl,by go_num,rfl,by omega,by have h:=hT.out;simp only[List.drop_zero,Nat.zero_add] at h ⊢;omega⟩
  ·have HT:Hid (Sm.fold s=Sm.add s xs):=by
    rw[List.eq_nil_of_length_eq_zero (by omega:xs.length=0)];rfl
   ·go_wp2
    go_loop [0] (fun sv=>∃z:Nat,sv = .int .i64 ((z:Nat):Int)∧z≤72057594038000000∧Hid (Sm.fold z=Sm.add s xs)) (fun sv=>(intOf sv).toNat)
    case atStart=>exact⟨s,by go_num,by omega,HT⟩
    case round=>
     obtain⟨z,rfl,hz,hzf⟩:=hrel;by_cases hz6:65535<z
     ·have HA:=Lib.hid (Y0z z (by omega))
      have HZ:Hid (Sm.fold (z%65536+z/65536)=Sm.add s xs):=by rw[Sm.fold_step];exact hzf.out
      go_wp2
      go_round
      case rel=>exact⟨z%65536+z/65536,by rw[HA.out,IntWalk.wrap64_in _ ⟨by omega,by omega⟩];go_num,by omega,HZ⟩
      case measure=>rw[HA.out,IntWalk.wrap64_in _ ⟨by omega,by omega⟩];simp[intOf];omega
     ·have HE:Hid (Sm.add s xs=z):=by rw[←hzf.out,Sm.fold_small (by omega)];exact rfl
      go_wp2
      simp only[Exit.jump]
      go_ret
      exact⟨by rw[HE.out];rfl,rfl⟩
 ·rintro a' w' ⟨rfl,k,t,v0,v5,u6,u7,u8,u9,u10,u11,u12,u13,u14,u15,u16,u17,u18,u19,u20,u21,u22,u23,u24,u25,u26,u27,u28,u29,u30,u31,u32,u33,u34,u35,u36,u37,u38,u39,u40,rfl,rfl,rfl,hk,hf⟩
  have hf':=Lib.hid hf;have ht:t≤72057594038000000:=by omega
  clear hf htot hbig;by_cases hlt:k<xs.length
  ·obtain⟨b0,o0,u,rfl,hb,hu,hcell⟩:=hx.get hlt
   have hub:(u.toNat:Int)<256:=by have:=u.toNat_lt;omega
   have hu':=Lib.hid hu;clear hu;by_cases hlt2:k+1<xs.length
   ·obtain⟨b1,o1,v,had,hb2,hv,hcell2⟩:=hx.get hlt2
    obtain⟨rfl,rfl⟩:=RB.same_at rfl had;have hvb:(v.toNat:Int)<256:=by have:=v.toNat_lt;omega
    have hT:=Lib.hid (X7t k xs u v hu'.out hv);clear hv;have hlt2':(k:Int)+1<(xs.length:Int):=by omega
    go_wp2
    go_step3
    exact⟨rfl,⟨rfl,k+2,t+u.toNat*256+v.toNat,_,_,_,_,_,_,_,_,_,_,_,_,_,_,_,_,_,_,_,_,_,_,_,_,_,_,_,_,_,_,_,_,_,_,_,_,_,rfl,by go_num,by go_num,by omega,by have h:=hT.out;have h2:=hf'.out;omega⟩,by simp[J2w,intOf];omega⟩
   ·have hT:=Lib.hid (X7s k xs (by omega) u hu'.out)
    have hlt2':¬(k:Int)+1<(xs.length:Int):=by omega
    go_wp2
    go_step3
    exact⟨rfl,⟨rfl,k+2,t+u.toNat*256,_,_,_,_,_,_,_,_,_,_,_,_,_,_,_,_,_,_,_,_,_,_,_,_,_,_,_,_,_,_,_,_,_,_,_,_,_,rfl,by go_num,by go_num,by omega,by have h:=hT.out;have h2:=hf'.out;omega⟩,by simp[J2w,intOf];omega⟩
  ·have HT:Hid (Sm.fold t=Sm.add s xs):=by
    have h:=hf'.out;rw[List.drop_eq_nil_of_le (by omega)] at h;unfold Sm.add;rw[←h];rfl
   ·go_wp2
    go_loop [0] (fun sv=>∃z:Nat,sv = .int .i64 ((z:Nat):Int)∧z≤72057594038000000∧Hid (Sm.fold z=Sm.add s xs)) (fun sv=>(intOf sv).toNat)
    case atStart=>exact⟨t,by go_num,by omega,HT⟩
    case round=>
     obtain⟨z,rfl,hz,hzf⟩:=hrel;by_cases hz6:65535<z
     ·have HA:=Lib.hid (Y0z z (by omega))
      have HZ:Hid (Sm.fold (z%65536+z/65536)=Sm.add s xs):=by rw[Sm.fold_step];exact hzf.out
      go_wp2
      go_round
      case rel=>exact⟨z%65536+z/65536,by rw[HA.out,IntWalk.wrap64_in _ ⟨by omega,by omega⟩];go_num,by omega,HZ⟩
      case measure=>rw[HA.out,IntWalk.wrap64_in _ ⟨by omega,by omega⟩];simp[intOf];omega
     ·have HE:Hid (Sm.add s xs=z):=by rw[←hzf.out,Sm.fold_small (by omega)];exact rfl
      go_wp2
      simp only[Exit.jump]
      go_ret
      exact⟨by rw[HE.out];rfl,rfl⟩
theorem Y2f (xs:List UInt8):(65535:Int)-((Sm.add 0 xs:Nat):Int)=((Sm.check xs:Nat):Int):=by
 have:=Sm.add_le 0 xs;unfold Sm.check;omega
theorem J2y (xs:List UInt8) (n:Nat) (hl:xs.length=n) (A:Option Addr) (c:Nat) (w:World) (hx:RB w w.heap.size A xs) (hn:n≤1099511627776):
  Calls Tryz.prog 115 #[.slice A n c] w fun e w'=>e = .returned (.int .i64 ((Sm.check xs:Nat):Int))∧w=w':=by
 subst hl;have h1:=Sm.add_le 0 xs;have HC:=Lib.hid (Y2f xs);have K:=Lib.hid (J2x 0 (by omega) xs A c w hx hn);go_enter Tryz.func115,Tryz.ntmps115
 go_wp2_with fail
 (refine K.out.mono ?_)
 rintro e w' ⟨rfl,rfl⟩
 go_wp2
 go_ret
 exact⟨by rw[←HC.out];rfl,rfl⟩
theorem X1t (xs:List UInt8) (n:Nat) (hl:xs.length=n) (A:Option Addr) (c:Nat) (w:World) (hx:RB w w.heap.size A xs) (hn:n≤1099511627776):
  Calls Tryz.prog 93 #[.slice A n c] w fun e w'=>e = .returned (.int .i64 ((Sm.check xs:Nat):Int))∧w=w':=by
 subst hl;have h1:=Sm.add_le 0 xs;have HC:=Lib.hid (Y2f xs);have K:=Lib.hid (J2v 0 (by omega) xs A c w hx hn);go_enter Tryz.func93,Tryz.ntmps93
 go_wp2_with fail
 (refine K.out.mono ?_)
 rintro e w' ⟨rfl,rfl⟩
 go_wp2
 go_ret
 exact⟨by rw[←HC.out];rfl,rfl⟩
end
section
open Go.RowKit
theorem X4y (B base:Nat) (w0:World) (xs:List UInt8) (m:Nat) (hm:xs.length=m) (A:Option Addr) (c:Nat) (kI vI:Int) (k v:Nat) (hke:kI=(k:Int)) (hve:vI=(v:Int)) (hk:k≤7) (_hv:v<9223372036854775808) (w:World)
  (hown:w.ownsRow base 5 1 (.slice A m c) m (xs.map bv)) (hb0:Below B w0 w) (hB:B≤base) (hbase:base≤w.heap.size) (hn:m≤140737488351232):
  Calls Tryz.prog 111 #[.slice A m c, .int .i64 kI, .int .i64 vI] w fun e w'=>∃A' c',e = .returned (.slice A' (m+k) c')∧w'.ownsRow base 5 1 (.slice A' (m+k) c') (m+k) ((xs++U1 k v).map bv)∧Below B w0 w'∧base≤w'.heap.size:=by
 subst hke hve;have hs0:((xs++(U1 k v).take 0).map bv)=xs.map bv:=by simp
 have HS0:=Lib.hid hs0;have hm':=Lib.hid hm;have HO:=Lib.hid hown;clear hs0 hm hown;go_enter Tryz.func111,Tryz.ntmps111
 go_wp2
 go_loopw [0,7] (fun sv i wr=>∃j:Nat,j≤k∧i = .int .i64 ((k:Int)-1-(j:Int))∧wr.ownsRow base 5 1 sv (m+j) ((xs++(U1 k v).take j).map bv)∧Below B w0 wr∧base≤wr.heap.size)
  (fun _ i _=>(intOf i+1).toNat)
 case atStart=>exact⟨0,Nat.zero_le _,by go_num,by rw[HS0.out];exact HO.out,hb0,hbase⟩
 case round=>
  obtain⟨j,hj,rfl,hown,hb,hbs⟩:=hrel;by_cases hlt:j<k
  ·have HS:Hid ((xs++(U1 k v).take (j+1)).map bv=(xs++(U1 k v).take j).map bv++[.int .u8 (((UInt8.ofNat (v/256^(k-1-j))).toNat:Nat):Int)]):=by
    rw[Y0d k v j hlt,←List.append_assoc,List.map_append];rfl
   have hlt':(j:Int)≤(k:Int)-1:=by omega
   have EV:Hid ((v:Int)/2^(8*(k-1-j))%256=(((UInt8.ofNat (v/256^(k-1-j))).toNat:Nat):Int)):=by
    unfold Hid;rw[Q4c,X1p]
   obtain⟨A1,c1,rfl,_,_⟩:=V3 hown
   go_wp2_with (at_builtin;refine Z5f B hb rfl _ _ 31 rfl base 5 (.int .u8 0) 1 Tryz.underlying31 J4 rfl _ _ _ (by exact rfl) hown (.int .u8 ((v:Int)/2^(8*(k-1-j))%256)) (by exact rfl) rfl (by omega) (by unfold maxLen;omega) hbs hB ?_;intro A' c' w' hown' hb')
   go_roundw
   case rel=>exact⟨j+1,by omega,by go_num,by rw[HS.out,←EV.out];exact hown',hb',by obtain⟨g,_,_,h1,h2⟩:=hown'.form (by omega);omega⟩
   case measure=>simp[intOf];omega
  ·obtain rfl:j=k:=by omega
   obtain⟨A',c',rfl,_,_⟩:=V3 hown
   go_wp2
   go_ret
   exact⟨A',c',rfl,by rw[List.take_of_length_le (by rw[Y0];exact Nat.le_refl _)] at hown;exact hown,hb,hbs⟩
theorem J2z (xs:List UInt8) (n:Nat) (hl:xs.length=n) (A:Option Addr) (c:Nat) (w:World) (hx:RB w w.heap.size A xs) (hn:n≤7):
  Calls Tryz.prog 117 #[.slice A n c] w fun e w'=>e = .returned (.int .i64 ((ofB xs:Nat):Int))∧w=w':=by
 subst hl;go_enter Tryz.func117,Tryz.ntmps117
 go_wp2
 go_loop [2,7] (fun sv i=>∃k t:Nat,i = .int .i64 k∧sv = .int .i64 (t:Nat)∧k≤xs.length∧Hid (t=ofB (xs.take k))) (fun _ i=>xs.length-(intOf i).toNat)
 case atStart=>exact⟨0,0,rfl,rfl,Nat.zero_le _,rfl⟩
 case round=>
  obtain⟨k,t,rfl,rfl,hk,ht⟩:=hrel;by_cases hlt:k<xs.length
  ·obtain⟨b0,o0,u,rfl,hb,hu,hcell⟩:=hx.get hlt
   have hub:(u.toNat:Int)<256:=by have:=u.toNat_lt;omega
   have hs:ofB (xs.take (k+1))=t*256+u.toNat:=by rw[E5 xs k u hu,Y0x,ht.out]
   have ht1:t<36028797018963968:=by
    have h1:=Y0e (xs.take k);have h2:(256:Nat)^(xs.take k).length≤256^6:=Nat.pow_le_pow_right (by omega) (by rw[List.length_take];omega);have h3:=ht.out;omega
   have HO:=Lib.hid (Y9q t u ht1);have HS:=Lib.hid hs;clear hu hs
   go_wp2
   go_round
   case rel=>exact⟨k+1,t*256+u.toNat,by go_num,by rw[HO.out],by omega,HS.out.symm⟩
   case measure=>simp[intOf];omega
  ·obtain rfl:k=xs.length:=by omega
   have HE:Hid (ofB xs=t):=by rw[ht.out,List.take_length];exact rfl
   go_wp2
   go_ret
   exact⟨by rw[HE.out];rfl,rfl⟩
end
section
theorem Z1o {P:Program}{a:Act}{w:World}{Q:Exit→Act→World→Prop}{c rest:Code}(l:Nat) (hf:findLabel c l=some rest)
  (first:c.wp P (Exit.jump l (fun a' w'=>rest.wp P (Exit.jump l (fun _ _=>False) Q) a' w') Q) a w):(Code.scope c).wp P Q a w:=by
 refine wp_scope_jumps l (fun a' w'=>rest.wp P (Exit.jump l (fun _ _=>False) Q) a' w') (fun _ _=>0) hf first ?_
 intro a' w' h;refine Code.wp_mono ?_ h;intro e a2 w2 h2;cases e with
 |goto l'=>exact⟨h2.1,h2.2.elim⟩
 |normal=>exact h2
 |exit id=>exact h2
 |ret=>exact h2
 |panic ch=>exact h2
 |outgrown=>exact h2
end
section
theorem Y7r {xs:List UInt8}{p:Nat}{x:UInt8}(h:xs[p]? = some x):xs.set p x=xs:=by
 apply List.ext_getElem?;intro i;by_cases hi:i=p
 ·subst hi
  have hp:i<xs.length:=by
   rcases Nat.lt_or_ge i xs.length with h1 |h1
   ·exact h1
   ·rw[List.getElem?_eq_none h1] at h;cases h
  rw[List.getElem?_set_self hp,h]
 ·rw[List.getElem?_set_ne (fun e=>hi e.symm)]
end
section
theorem Y1a (qs:List UInt8) (p:Nat) (hp:p%2=0) (h:p+1<qs.length) (h2:qs[p]? = some 0) (h3:qs[p+1]? = some 0):
  Sm.check ((qs.set p (UInt8.ofNat (Sm.check qs/256))).set (p+1) (UInt8.ofNat (Sm.check qs)))=0:=by
 have e2:(qs.set p 0).set (p+1) 0=qs:=by rw[Y7r h2,Y7r h3]
 have hc:=Sm.check_le qs;have:=Sm.check_mend qs p hp h (UInt8.ofNat (Sm.check qs/256)) (UInt8.ofNat (Sm.check qs)) (by rw[e2,UInt8.toNat_ofNat'];omega) (by rw[e2,UInt8.toNat_ofNat']);rw[e2] at this;exact this
theorem Y9r (s d p t i n:Nat):Sm.check (W6 s d p t i n)=0:=
 Y1a (Z1n s d p t i n) 10 rfl (by rw[Z8m];omega) rfl rfl
theorem X9p (s d p t i n:Nat) (ys:List UInt8):(W6 s d p t i n++ys).take 20=W6 s d p t i n:=by
 have:=Z2b s d p t i n;rw[List.take_append_of_le_length (by omega),List.take_of_length_le (by omega)]
section
variable (s d p t i n:Nat) (ys:List UInt8)
theorem Q4d:b8 (W6 s d p t i n++ys) 0=69:=rfl
theorem Q6n:ipN (W6 s d p t i n++ys)=20:=by unfold ipN;rw[Q4d]
theorem Q1j (h:20+n<65536):V4 (W6 s d p t i n++ys) 2 2=20+n:=Z2m 2 (20+n) (by simpa using h)
theorem Q4e (h:i<65536):V4 (W6 s d p t i n++ys) 4 2=i:=Z2m 2 i (by simpa using h)
theorem J7u:V4 (W6 s d p t i n++ys) 6 2=16384:=rfl
theorem Q6o (h:t<256):b8 (W6 s d p t i n++ys) 8=t:=by
 show (UInt8.ofNat t).toNat=t;rw[UInt8.toNat_ofNat'];omega
theorem Q6p (h:p<256):b8 (W6 s d p t i n++ys) 9=p:=by
 show (UInt8.ofNat p).toNat=p;rw[UInt8.toNat_ofNat'];omega
theorem Q6q (h:s<4294967296):V4 (W6 s d p t i n++ys) 12 4=s:=Z2m 4 s (by simpa using h)
theorem Q6r (h:d<4294967296):V4 (W6 s d p t i n++ys) 16 4=d:=Z2m 4 d (by simpa using h)
end
theorem X4z (q:Pk) (h:q.ok=true) (ys:List UInt8):X1 (q.bytes++ys)=(q,0):=by
 obtain⟨⟨h1,h2⟩,⟨h3,h4⟩,⟨h5,h6⟩,⟨h7,h8⟩,⟨h9,h10⟩,h11⟩:=Pk.ok_iff.1 h;obtain⟨s,d,p,t,i,xs⟩:=q;simp only at h1 h2 h3 h4 h5 h6 h7 h8 h9 h10 h11;obtain⟨s,rfl⟩:=Int.eq_ofNat_of_zero_le h1;obtain⟨d,rfl⟩:=Int.eq_ofNat_of_zero_le h3;obtain⟨p,rfl⟩:=Int.eq_ofNat_of_zero_le h5;obtain⟨t,rfl⟩:=Int.eq_ofNat_of_zero_le h7;obtain⟨i,rfl⟩:=Int.eq_ofNat_of_zero_le h9;have hb:(Pk.mk s d p t i xs).bytes++ys=W6 s d p t i xs.length++(xs++ys):=by simp[Pk.bytes]
 rw[hb];have e1:=Q4d s d p t i xs.length (xs++ys);have e2:=Q6n s d p t i xs.length (xs++ys);have e3:=Q1j s d p t i xs.length (xs++ys) (by omega);have e4:=Q4e s d p t i xs.length (xs++ys) (by omega);have e5:=J7u s d p t i xs.length (xs++ys);have e6:=Q6o s d p t i xs.length (xs++ys) (by omega);have e7:=Q6p s d p t i xs.length (xs++ys) (by omega);have e8:=Q6q s d p t i xs.length (xs++ys) (by omega);have e9:=Q6r s d p t i xs.length (xs++ys) (by omega);have hl:(W6 s d p t i xs.length++(xs++ys)).length=20+xs.length+ys.length:=by simp[Z2b];omega
 have hx:((W6 s d p t i xs.length++(xs++ys)).take (20+xs.length)).drop 20=xs:=by
  have:=Z2b s d p t i xs.length;rw[List.drop_take,List.drop_append_of_le_length (by omega),List.drop_of_length_le (by omega)];simp
 unfold X1;rw[e1,e2,e3,e5,hl,X9p,Y9r,if_neg (by omega),if_neg (by omega),if_neg (by omega),if_neg (by omega),if_neg (by omega),if_neg (by omega),if_neg (by omega)];unfold Z8n;rw[e2,e3,e4,e6,e7,e8,e9,hx]
end
section
structure Sg where
 sp:Int
 dp:Int
 sq:Int
 ak:Int
 fl:Int
 wn:Int
 xs:List UInt8
def Sg.ok (q:Sg):Bool:=inR q.sp 65535&&(inR q.dp 65535&&(inR q.sq 4294967295&&(inR q.ak 4294967295&&(inR q.fl 63&&(inR q.wn 65535&&decide (q.xs.length≤1460))))))
theorem Sg.ok_iff {q:Sg}:q.ok=true↔(0≤q.sp∧q.sp≤65535)∧(0≤q.dp∧q.dp≤65535)∧(0≤q.sq∧q.sq≤4294967295)∧(0≤q.ak∧q.ak≤4294967295)∧(0≤q.fl∧q.fl≤63)∧(0≤q.wn∧q.wn≤65535)∧q.xs.length≤1460:=by
 simp only[Sg.ok,Bool.and_eq_true,T5,decide_eq_true_eq]
def L8 (src dst n:Nat):List UInt8:=U1 4 src++U1 4 dst++[0,6]++U1 2 n
theorem Z3b (src dst n:Nat):(L8 src dst n).length=12:=by simp[L8,Y0]
def Z1x (src dst:Nat) (xs:List UInt8):Nat:=Sm.check (L8 src dst xs.length++xs)
theorem X9q (src dst:Nat) (xs:List UInt8):Z1x src dst xs≤65535:=Sm.check_le _
def Z1p (sp dp sq ak fl wn:Nat):List UInt8:=U1 2 sp++U1 2 dp++U1 4 sq++U1 4 ak++[0x50,UInt8.ofNat fl]++U1 2 wn++[0,0,0,0]
theorem Z5g (sp dp sq ak fl wn:Nat):(Z1p sp dp sq ak fl wn).length=20:=by simp[Z1p,Y0]
def X7u (zs:List UInt8) (v:Nat):List UInt8:=(zs.set 16 (UInt8.ofNat (v/256))).set (16+1) (UInt8.ofNat v)
def D1 (src dst sp dp sq ak fl wn:Nat) (xs:List UInt8):List UInt8:=
 X7u (Z1p sp dp sq ak fl wn++xs) (Z1x src dst (Z1p sp dp sq ak fl wn++xs))
theorem Y1b (zs:List UInt8) (v:Nat):(X7u zs v).length=zs.length:=by simp[X7u]
theorem Z0n (src dst sp dp sq ak fl wn:Nat) (xs:List UInt8):(D1 src dst sp dp sq ak fl wn xs).length=20+xs.length:=by
 rw[D1,Y1b,List.length_append,Z5g]
def Sg.bytes (src dst:Nat) (q:Sg):List UInt8:=D1 src dst q.sp.toNat q.dp.toNat q.sq.toNat q.ak.toNat q.fl.toNat q.wn.toNat q.xs
def Sg.zero:Sg:=⟨0,0,0,0,0,0,[]⟩
def sgN (xs:List UInt8):Nat:=4*(b8 xs 12/16)
def Z5h (xs:List UInt8):Sg:=⟨V4 xs 0 2,V4 xs 2 2,V4 xs 4 4,V4 xs 8 4,((b8 xs 13%64:Nat):Int),V4 xs 14 2,xs.drop (sgN xs)⟩
def Z5i (n:Int):Bool:=inR n 4294967295
def G7 (src dst:Int) (xs:List UInt8):Sg×Int:=
 if Z5i src=false∨Z5i dst=false then (.zero,1)
 else if xs.length<20 then (.zero,7)
 else if sgN xs<20 then (.zero,1)
 else if xs.length<sgN xs then (.zero,7)
 else if 1480<xs.length then (.zero,2)
 else if Z1x src.toNat dst.toNat xs≠0 then (.zero,8)
 else (Z5h xs,0)
theorem X1u (n:Nat) (h:n<4294967296):Z5i (n:Int)=true:=T5.2 ⟨by omega,by omega⟩
theorem Y4v (hd zs:List UInt8) (p:Nat) (u:UInt8):(hd++zs).set (hd.length+p) u=hd++zs.set p u:=by
 rw[List.set_append_right _ _ (by omega)]
 congr 2;omega
theorem Y9s (src dst sp dp sq ak fl wn:Nat) (xs:List UInt8):Z1x src dst (D1 src dst sp dp sq ak fl wn xs)=0:=by
 have hl:(D1 src dst sp dp sq ak fl wn xs).length=(Z1p sp dp sq ak fl wn++xs).length:=by rw[D1,Y1b]
 unfold Z1x;rw[hl];unfold D1 Z1x;have h0:=Z5g sp dp sq ak fl wn;obtain⟨zs,hzs⟩:∃zs,zs=Z1p sp dp sq ak fl wn++xs:=⟨_,rfl⟩;have g0:zs[16]? = some 0:=by rw[hzs];rfl
 have g1:zs[17]? = some 0:=by rw[hzs];rfl
 have hzl:20≤zs.length:=by rw[hzs,List.length_append];omega
 rw[←hzs];have hh:=Z3b src dst zs.length;have:=Y1a (L8 src dst zs.length++zs) 28 rfl (by rw[List.length_append];omega)
  (by rw[List.getElem?_append_right (by omega),hh];exact g0) (by rw[List.getElem?_append_right (by omega),hh];exact g1)
 have e1:=Y4v (L8 src dst zs.length) zs 16;have e2:=fun ys=>Y4v (L8 src dst zs.length) ys 17;rw[hh] at e1 e2;rw[e1,e2] at this;exact this
section
variable (src dst sp dp sq ak fl wn:Nat) (xs:List UInt8)
theorem Q4f:b8 (D1 src dst sp dp sq ak fl wn xs) 12=80:=rfl
theorem Q6s:sgN (D1 src dst sp dp sq ak fl wn xs)=20:=by unfold sgN;rw[Q4f]
theorem Q4g (h:fl<256):b8 (D1 src dst sp dp sq ak fl wn xs) 13=fl:=by
 show (UInt8.ofNat fl).toNat=fl;rw[UInt8.toNat_ofNat'];omega
theorem Q6t (h:sp<65536):V4 (D1 src dst sp dp sq ak fl wn xs) 0 2=sp:=Z2m 2 sp (by simpa using h)
theorem Q6u (h:dp<65536):V4 (D1 src dst sp dp sq ak fl wn xs) 2 2=dp:=Z2m 2 dp (by simpa using h)
theorem Q6v (h:sq<4294967296):V4 (D1 src dst sp dp sq ak fl wn xs) 4 4=sq:=Z2m 4 sq (by simpa using h)
theorem Q6w (h:ak<4294967296):V4 (D1 src dst sp dp sq ak fl wn xs) 8 4=ak:=Z2m 4 ak (by simpa using h)
theorem Q4h (h:wn<65536):V4 (D1 src dst sp dp sq ak fl wn xs) 14 2=wn:=Z2m 2 wn (by simpa using h)
theorem J7v:(D1 src dst sp dp sq ak fl wn xs).drop 20=xs:=rfl
end
theorem J3a (src dst:Nat) (_hs:src<4294967296) (_hd:dst<4294967296) (q:Sg) (h:q.ok=true) (src' dst':Nat) (hs':src'<4294967296) (hd':dst'<4294967296) (hsum:Z1x src' dst' (q.bytes src dst)=0):G7 src' dst' (q.bytes src dst)=(q,0):=by
 obtain⟨⟨h1,h2⟩,⟨h3,h4⟩,⟨h5,h6⟩,⟨h7,h8⟩,⟨h9,h10⟩,⟨h11,h12⟩,h13⟩:=Sg.ok_iff.1 h;obtain⟨sp,dp,sq,ak,fl,wn,xs⟩:=q;simp only at h1 h2 h3 h4 h5 h6 h7 h8 h9 h10 h11 h12 h13;obtain⟨sp,rfl⟩:=Int.eq_ofNat_of_zero_le h1;obtain⟨dp,rfl⟩:=Int.eq_ofNat_of_zero_le h3;obtain⟨sq,rfl⟩:=Int.eq_ofNat_of_zero_le h5;obtain⟨ak,rfl⟩:=Int.eq_ofNat_of_zero_le h7;obtain⟨fl,rfl⟩:=Int.eq_ofNat_of_zero_le h9;obtain⟨wn,rfl⟩:=Int.eq_ofNat_of_zero_le h11;have hb:(Sg.mk sp dp sq ak fl wn xs).bytes src dst=D1 src dst sp dp sq ak fl wn xs:=rfl;rw[hb] at hsum ⊢;have hl:=Z0n src dst sp dp sq ak fl wn xs;have e0:=Q6s src dst sp dp sq ak fl wn xs;unfold G7;rw[X1u src' hs',X1u dst' hd',e0,hl,if_neg (by simp),if_neg (by omega),if_neg (by omega),if_neg (by omega),if_neg (by omega),Int.toNat_natCast,Int.toNat_natCast,hsum,if_neg (by omega)];unfold Z5h;rw[e0,Q6t _ _ _ _ _ _ _ _ _ (by omega),Q6u _ _ _ _ _ _ _ _ _ (by omega),Q6v _ _ _ _ _ _ _ _ _ (by omega),Q6w _ _ _ _ _ _ _ _ _ (by omega),Q4g _ _ _ _ _ _ _ _ _ (by omega),Q4h _ _ _ _ _ _ _ _ _ (by omega),J7v,Nat.mod_eq_of_lt (by omega)]
theorem J3b (src dst:Nat) (hs:src<4294967296) (hd:dst<4294967296) (q:Sg) (h:q.ok=true):G7 src dst (q.bytes src dst)=(q,0):=
 J3a src dst hs hd q h src dst hs hd (Y9s ..)
end
section
structure Frm where
 d:Nat
 s:Nat
 t:Nat
 xs:List UInt8
def Frm.zero:Frm:=⟨0,0,0,[]⟩
def Z1q (d s t:Nat) (xs:List UInt8):List UInt8:=U1 6 d++(U1 6 s++(U1 2 t++xs))
theorem Z8o (d s t:Nat) (xs:List UInt8):(Z1q d s t xs).length=14+xs.length:=by simp[Z1q,Y0];omega
def E6 (xs:List UInt8):Frm×Int:=
 if xs.length<14 then (.zero,7)
 else if 1514<xs.length then (.zero,2)
 else (⟨V4 xs 0 6,V4 xs 6 6,V4 xs 12 2,xs.drop 14⟩,0)
theorem J7w (d s t:Nat) (xs:List UInt8) (hd:d<281474976710656) (hs:s<281474976710656) (ht:t<65536) (hx:xs.length≤1500):E6 (Z1q d s t xs)=(⟨d,s,t,xs⟩,0):=by
 have hl:=Z8o d s t xs;have e0:V4 (Z1q d s t xs) 0 6=d:=Z2m 6 d (by simpa using hd);have e1:V4 (Z1q d s t xs) 6 6=s:=Z2m 6 s (by simpa using hs);have e2:V4 (Z1q d s t xs) 12 2=t:=Z2m 2 t (by simpa using ht);have e3:(Z1q d s t xs).drop 14=xs:=rfl;unfold E6;rw[hl,if_neg (by omega),if_neg (by omega),e0,e1,e2,e3]
theorem Y7s (xs:List UInt8):(E6 xs).1.xs.length≤xs.length:=by
 unfold E6;repeat' split
 all_goals simp[Frm.zero]
def Y4w (b:List UInt8) (src sport dst dport:Int):Sg×Bool:=
 if (E6 b).2≠0∨(E6 b).1.t≠2048 then (.zero,false)
 else if (X1 (E6 b).1.xs).2≠0∨(X1 (E6 b).1.xs).1.s≠src∨(X1 (E6 b).1.xs).1.d≠dst∨(X1 (E6 b).1.xs).1.p≠6 then (.zero,false)
 else ((G7 src dst (X1 (E6 b).1.xs).1.xs).1,(G7 src dst (X1 (E6 b).1.xs).1.xs).2==0&&((G7 src dst (X1 (E6 b).1.xs).1.xs).1.sp==sport&&(G7 src dst (X1 (E6 b).1.xs).1.xs).1.dp==dport))
def Y9t (dm sm:Nat) (src dst:Nat) (q:Sg):List UInt8:=Z1q dm sm 2048 (Pk.bytes ⟨src,dst,6,64,0,Sg.bytes src dst q⟩)
theorem Y0f (src dst:Nat) (q:Sg):(q.bytes src dst).length=20+q.xs.length:=Z0n ..
theorem Y3i (dm sm src dst:Nat) (q:Sg):(Y9t dm sm src dst q).length=54+q.xs.length:=by
 unfold Y9t;rw[Z8o,Pk.bytes_length,Y0f];omega
theorem X7v {src dst:Nat}{q:Sg}(hs:src<4294967296) (hd:dst<4294967296) (h:q.xs.length≤1460):Pk.ok ⟨src,dst,6,64,0,Sg.bytes src dst q⟩=true:=
 Pk.ok_iff.2 ⟨⟨by show (0:Int)≤(src:Int);omega,by show (src:Int)≤4294967295;omega⟩,⟨by show (0:Int)≤(dst:Int);omega,by show (dst:Int)≤4294967295;omega⟩,⟨by show (0:Int)≤6;decide,by show (6:Int)≤255;decide⟩,⟨by show (0:Int)≤64;decide,by show (64:Int)≤255;decide⟩,⟨by show (0:Int)≤0;decide,by show (0:Int)≤65535;decide⟩,by show (Sg.bytes src dst q).length≤1480;rw[Y0f];omega⟩
theorem J7x {dm sm src dst:Nat}{q:Sg}(hdm:dm<281474976710656) (hsm:sm<281474976710656) (h:q.ok=true):E6 (Y9t dm sm src dst q)=(⟨dm,sm,2048,Pk.bytes ⟨src,dst,6,64,0,Sg.bytes src dst q⟩⟩,0):=by
 have hq:=(Sg.ok_iff.1 h).2.2.2.2.2.2;exact J7w dm sm 2048 _ hdm hsm (by decide) (by rw[Pk.bytes_length,Y0f];omega)
section
variable (op sm si dm di:Nat)
end
end
section
open Go.RowKit
theorem X7w:(Tryz.prog.info? 5).map (·.size)=some 1:=by kernel_rfl
theorem X1v (n:Nat):U1 2 n=[UInt8.ofNat (n/256),UInt8.ofNat n]:=by simp[U1]
theorem X7x (xs:List UInt8) (p:Nat) (u v:UInt8) (h:p+1<xs.length):xs.take p++[u,v]++xs.drop (p+2)=(xs.set p u).set (p+1) v:=by
 obtain⟨x,hx⟩:∃x,xs[p]? = some x:=⟨_,List.getElem?_eq_getElem (by omega)⟩;obtain⟨y,hy⟩:∃x,xs[p+1]? = some x:=⟨_,List.getElem?_eq_getElem (by omega)⟩;have:=(J7s hx hy u v).2;rw[this];simp
end
section
open Go.RowKit
theorem Z8p (n m:Int) (w:World):Calls Tryz.prog 24 #[.int .i64 n, .int .i64 m] w fun e w'=>e = .returned (.bool (inR n m))∧w=w':=by
 by_cases h1:0≤n
 ·by_cases h2:n≤m
  ·have H:=Lib.hid (T5.2 ⟨h1,h2⟩)
   go_enter Tryz.func24,Tryz.ntmps24
   go_wp2
   go_ret
   exact⟨by rw[H.out];rfl,rfl⟩
  ·have H:=Lib.hid (Bool.eq_false_iff.2 fun h=>h2 (T5.1 h).2)
   go_enter Tryz.func24,Tryz.ntmps24
   go_wp2
   go_ret
   exact⟨by rw[H.out];rfl,rfl⟩
 ·have H:=Lib.hid (Bool.eq_false_iff.2 fun h=>h1 (T5.1 h).1:inR n m=false)
  go_enter Tryz.func24,Tryz.ntmps24
  go_wp2
  go_ret
  exact⟨by rw[H.out];rfl,rfl⟩
theorem Z7t (n:Int) (w:World):Calls Tryz.prog 23 #[.int .i64 n] w fun e w'=>e = .returned (.bool (inR n 4294967295))∧w=w':=by
 go_enter Tryz.func23,Tryz.ntmps23
 go_wp2_with fail
 (with_reducible refine(Z8p n 4294967295 w).mono ?_)
 rintro e w' ⟨rfl,rfl⟩
 go_wp2
 go_ret
 exact⟨rfl,rfl⟩
end
section
open Go.RowKit
def X9r (w:World) (g:Nat) (s d p t i:Int) (v:Value):Prop:=
 w.cell? ⟨g,0,none⟩=some (iz s)∧w.cell? ⟨g,1,none⟩=some (iz d)∧w.cell? ⟨g,2,none⟩=some (iz p)∧w.cell? ⟨g,3,none⟩=some (iz t)∧w.cell? ⟨g,4,none⟩=some (iz i)∧w.cell? ⟨g,5,none⟩=some v
theorem X9r.box (w:World) (s d p t i:Int) (v:Value) (T:TypeId):X9r (w.alloc (.cells #[iz s,iz d,iz p,iz t,iz i,v] T)) w.heap.size s d p t i v:=by
 refine⟨?_, ?_, ?_, ?_, ?_, ?_⟩<;>rw[World.cell?_alloc_at _ _ _ _ rfl]<;>rfl
theorem X9r.below {w w':World}{B g:Nat}{s d p t i:Int}{v:Value}(h:X9r w g s d p t i v) (hb:Below B w w') (hg:g<B):X9r w' g s d p t i v:=by
 obtain⟨c0,c1,c2,c3,c4,c5⟩:=h;exact⟨(hb.cell hg).trans c0,(hb.cell hg).trans c1,(hb.cell hg).trans c2,(hb.cell hg).trans c3,(hb.cell hg).trans c4,(hb.cell hg).trans c5⟩
theorem X5a (n:Nat) (h:n≤255):(((UInt8.ofNat n).toNat:Nat):Int)=(n:Int):=by
 rw[UInt8.toNat_ofNat'];omega
end
section
open Go.RowKit
theorem X9s (v:Nat) (hv:v<65536):v&&&(18446744073709551615-49152)=v%16384:=by
 apply Nat.eq_of_testBit_eq;intro i;rw[show (16384:Nat)=2^14 from rfl,Nat.testBit_mod_two_pow,Nat.testBit_and];by_cases hi:i<16
 ·have:i=0∨i=1∨i=2∨i=3∨i=4∨i=5∨i=6∨i=7∨i=8∨i=9∨i=10∨i=11∨i=12∨i=13∨i=14∨i=15:=by omega
  rcases this with rfl |rfl |rfl |rfl |rfl |rfl |rfl |rfl |rfl |rfl |rfl |rfl |rfl |rfl |rfl |rfl<;>simp (decide:=true) [Nat.testBit]
 ·have h:v.testBit i=false:=Nat.testBit_lt_two_pow (Nat.lt_of_lt_of_le hv (Nat.pow_le_pow_right (n:=2) (by omega) (by omega:16≤i)))
  rw[h];simp
theorem X1w (v:Nat) (hv:v<65536):bits .andNot .i64 (v:Int) 49152=((v%16384:Nat):Int):=by
 show IntKind.i64.wrap ((BitVec.ofInt 64 (v:Int) &&& ~~~ (BitVec.ofInt 64 49152)).toNat:Int)=_;rw[BitVec.toNat_and,Z6z v (by omega),IntKind.wrap_i64];have e:(~~~ (BitVec.ofInt 64 49152)).toNat=18446744073709551615-49152:=by decide
 rw[e,X9s v hv];omega
theorem J3c (v:Nat) (hv:v<65536):bits .and .i64 (v:Int) 16383=((v%16384:Nat):Int):=by
 have:=Z1d v 16383 (by omega) (by omega);rw[show (16383:Nat)=2^14-1 from rfl,Nat.and_two_pow_sub_one_eq_mod] at this;exact this
def Y4x (w:World) (r:Pk×Int) (e:Ending) (w':World):Prop:=
 ∃A c,e = .returned (.tuple #[.agg #[iz r.1.s,iz r.1.d,iz r.1.p,iz r.1.t,iz r.1.i, .slice A r.1.xs.length c],iz r.2])∧w'.ownsRow w.heap.size 5 1 (.slice A r.1.xs.length c) r.1.xs.length (r.1.xs.map bv)∧Below w.heap.size w w'
theorem Q4i {xs:List UInt8}{k:Nat}{x:UInt8}(h:xs[k]? = some x):b8 xs k=x.toNat:=by simp[b8,h]
end
section
open Go.RowKit
theorem Q6x (t p:Nat) (ht:t≤255) (hp:p≤255):(#[Value.int .u8 64, .int .u8 0, .int .u8 (t:Int), .int .u8 (p:Int), .int .u8 0, .int .u8 0]:Array Value).toList=([0x40,0,UInt8.ofNat t,UInt8.ofNat p,0,0]:List UInt8).map bv:=by
 simp only[List.map,bv,X5a t ht,X5a p hp];rfl
theorem X9t (xs:List UInt8) (p:Nat) (u v:UInt8) (h:p+1<xs.length):xs.take p++[u,v]++xs.drop (p+2)=(xs.set p u).set (p+1) v:=X7x xs p u v h
theorem X9u (s d p t i:Nat) (xs:List UInt8) (n:Nat) (hl:xs.length=n) (A:Option Addr) (c:Nat) (h:Pk.ok ⟨s,d,p,t,i,xs⟩=true) (w:World) (hx:RB w w.heap.size A xs):
  Calls Tryz.prog 55 #[.agg #[.int .i64 s, .int .i64 d, .int .i64 p, .int .i64 t, .int .i64 i, .slice A n c]] w fun e w'=>∃A' c',e = .returned (.slice A' (20+n) c')∧w'.ownsRow w.heap.size 5 1 (.slice A' (20+n) c') (20+n) ((W6 s d p t i n++xs).map bv)∧Below w.heap.size w w':=by
 obtain⟨⟨_,hs⟩,⟨_,hd⟩,⟨_,hp⟩,⟨_,ht⟩,⟨_,hi⟩,hn⟩:=Pk.ok_iff.1 h;simp only at hs hd hp ht hi hn;have hb01:=(Below.refl w.heap.size w).alloc (Nat.le_refl _) (.cells #[.int .i64 s, .int .i64 d, .int .i64 p, .int .i64 t, .int .i64 i, .slice A n c] 89);have hp1:=X9r.box w s d p t i (.slice A n c) 89;have hx1:=hx.next hb01;have hs1:(w.alloc (.cells #[.int .i64 s, .int .i64 d, .int .i64 p, .int .i64 t, .int .i64 i, .slice A n c] 89)).heap.size=w.heap.size+1:=World.size_alloc _ _;have hl':=Lib.hid hl;rw[hl] at hn;clear h hx hl;go_enter Tryz.func55,Tryz.ntmps55
 go_wp2_with fail
 generalize w.alloc (.cells #[.int .i64 s, .int .i64 d, .int .i64 p, .int .i64 t, .int .i64 i, .slice A n c] 89)=w2 at hb01 hp1 hx1 hs1 ⊢;obtain⟨B0,hB0⟩:∃B0,B0=w.heap.size+1:=⟨_,rfl⟩;rw[←hB0] at hs1;have hg:w.heap.size<B0:=by omega
 have hbL:=(Below.refl B0 w2).alloc (by omega) (.cells #[.int .u8 69, .int .u8 0] 5);have hoL:(w2.alloc (.cells #[.int .u8 69, .int .u8 0] 5)).ownsRow B0 5 1 (.slice (some ⟨w.heap.size+1,0,none⟩) 2 2) 2 (([0x45,0]:List UInt8).map bv):=by
  have:=World.ownsRow_lit (base:=B0) (e:=5) (size:=1) w2 #[.int .u8 69, .int .u8 0] 2 (by omega) (by decide) rfl;rw[hs1,hB0] at this;rw[hB0];exact this
 have hz:B0≤(w2.alloc (.cells #[.int .u8 69, .int .u8 0] 5)).heap.size:=by rw[World.size_alloc];omega
 have K:=Lib.hid (T8 (20+(n:Int)) 2 (20+n) 2 rfl rfl (by omega) (by omega) (w2.alloc (.cells #[.int .u8 69, .int .u8 0] 5)))
 (with_reducible refine K.out.mono ?_)
 rintro e w3 ⟨C1,q1,rfl,hownB,hbB⟩;have HO:=Lib.hid (Y1 hoL hbB);have HR:=Lib.hid (X4.of_own hownB);have HB:=Lib.hid (hbL.trans (hbB.mono hz));have hsz:=HB.out.size;have hsz':B0≤w3.heap.size:=by omega
 clear K hownB hbB hoL hbL hz
 go_wp2_with (at_builtin;refine X6 B0 HB.out rfl _ _ 31 rfl B0 5 Tryz.underlying31 J4 _ _ [0x45,0] (by exact rfl) HO.out C1 2 q1 (U1 2 (20+n)) (Y0 _ _) (by exact rfl) HR.out (by omega) hsz' (Nat.le_refl _) ?_;intro A4 p4 w4 hown4 hb4;obtain⟨c0,c1,c2,c3,c4,c5⟩:=hp1.below hb4 hg)
 have hq4:B0≤w4.heap.size:=by have:=hb4.size;omega
 have K:=Lib.hid (T8 (i:Int) 2 i 2 rfl rfl (by omega) (by omega) w4)
 (with_reducible refine K.out.mono ?_)
 rintro e v4 ⟨C4,q4,rfl,hownB,hbB⟩;have HO4:=Lib.hid (Y1 hown4 hbB);have HR4:=Lib.hid (X4.of_own hownB);have HB4:=Lib.hid (hb4.trans (hbB.mono hq4));have hsz4:B0≤v4.heap.size:=by have:=HB4.out.size;omega
 clear K hownB hbB hown4 hb4 c0 c1 c2 c3 c4 c5
 go_wp2_with (first
  |(at_builtin;refine X6 B0 HB4.out rfl _ _ 31 rfl B0 5 Tryz.underlying31 J4 _ _ ([0x45,0]++U1 2 (20+n)) (by exact rfl) HO4.out C4 2 q4 (U1 2 i) (Y0 _ _) (by exact rfl) HR4.out (by omega) hsz4 (Nat.le_refl _) ?_;intro A5 p5 w5 hown5 hb5;obtain⟨c0,c1,c2,c3,c4,c5⟩:=hp1.below hb5 hg;have hz5:B0≤w5.heap.size:=(by have:=hb5.size;omega);have HOL:=Lib.hid (Y1 hown5 ((Below.refl w5.heap.size w5).alloc (Nat.le_refl _) (.cells #[.int .u8 64, .int .u8 0, .int .u8 (t:Int), .int .u8 (p:Int), .int .u8 0, .int .u8 0] 5)));have HRL:=Lib.hid (RB.lit w5 5 #[.int .u8 64, .int .u8 0, .int .u8 (t:Int), .int .u8 (p:Int), .int .u8 0, .int .u8 0] (0,0) [0x40,0,UInt8.ofNat t,UInt8.ofNat p,0,0] (Q6x t p (by omega) (by omega)));have HBL:=Lib.hid (hb5.alloc hz5 (.cells #[.int .u8 64, .int .u8 0, .int .u8 (t:Int), .int .u8 (p:Int), .int .u8 0, .int .u8 0] 5));clear hown5 hb5)
  |(at_builtin;refine X6 B0 HBL.out rfl _ _ 31 rfl B0 5 Tryz.underlying31 J4 _ _ ([0x45,0]++U1 2 (20+n)++U1 2 i) (by exact rfl) HOL.out (some ⟨w5.heap.size,0,none⟩) 6 6 [0x40,0,UInt8.ofNat t,UInt8.ofNat p,0,0] rfl (by exact rfl) HRL.out (by omega) (by simp;omega) (Nat.le_refl _) ?_;intro A6 p6 w6 hown6 hb6;clear c0 c1 c2 c3 c4 c5 HOL HRL HBL;obtain⟨c0,c1,c2,c3,c4,c5⟩:=hp1.below hb6 hg))
 have hq6:B0≤w6.heap.size:=by have:=hb6.size;omega
 have K:=Lib.hid (T8 (s:Int) 4 s 4 rfl rfl (by omega) (by omega) w6)
 (with_reducible refine K.out.mono ?_)
 rintro e v6 ⟨C6,q6,rfl,hownB,hbB⟩;have HO6:=Lib.hid (Y1 hown6 hbB);have HR6:=Lib.hid (X4.of_own hownB);have HB6:=Lib.hid (hb6.trans (hbB.mono hq6));have hsz6:B0≤v6.heap.size:=by have:=HB6.out.size;omega
 clear K hownB hbB hown6 hb6 c0 c1 c2 c3 c4 c5
 go_wp2_with (at_builtin;refine X6 B0 HB6.out rfl _ _ 31 rfl B0 5 Tryz.underlying31 J4 _ _ ([0x45,0]++U1 2 (20+n)++U1 2 i++[0x40,0,UInt8.ofNat t,UInt8.ofNat p,0,0]) (by exact rfl) HO6.out C6 4 q6 (U1 4 s) (Y0 _ _) (by exact rfl) HR6.out (by omega) hsz6 (Nat.le_refl _) ?_;intro A7 p7 w7 hown7 hb7;obtain⟨c0,c1,c2,c3,c4,c5⟩:=hp1.below hb7 hg)
 have hq7:B0≤w7.heap.size:=by have:=hb7.size;omega
 have K:=Lib.hid (T8 (d:Int) 4 d 4 rfl rfl (by omega) (by omega) w7)
 (with_reducible refine K.out.mono ?_)
 rintro e v7 ⟨C7,q7,rfl,hownB,hbB⟩;have HO7:=Lib.hid (Y1 hown7 hbB);have HR7:=Lib.hid (X4.of_own hownB);have HB7:=Lib.hid (hb7.trans (hbB.mono hq7));have hsz7:B0≤v7.heap.size:=by have:=HB7.out.size;omega
 clear K hownB hbB hown7 hb7 c0 c1 c2 c3 c4 c5
 go_wp2_with (at_builtin;refine X6 B0 HB7.out rfl _ _ 31 rfl B0 5 Tryz.underlying31 J4 _ _ ([0x45,0]++U1 2 (20+n)++U1 2 i++[0x40,0,UInt8.ofNat t,UInt8.ofNat p,0,0]++U1 4 s) (by exact rfl) HO7.out C7 4 q7 (U1 4 d) (Y0 _ _) (by exact rfl) HR7.out (by omega) hsz7 (Nat.le_refl _) ?_;intro A8 p8 w8 hown8 hb8;obtain⟨c0,c1,c2,c3,c4,c5⟩:=hp1.below hb8 hg)
 have hown8':w8.ownsRow B0 5 1 (.slice A8 20 p8) 20 ((Z1n s d p t i n).map bv):=hown8;have hsz8:B0≤w8.heap.size:=by have:=hb8.size;omega
 clear hown8 c0 c1 c2 c3 c4 c5;obtain⟨g,rfl,hg8,hg2⟩:=Y4s hown8' (by omega);obtain⟨hl8,hr8⟩:=J2r hown8';have hpc:20≤p8:=by
  obtain⟨_,_,hA,h,_⟩:=V3 hown8';injection hA with _ _ h2
  omega
 have hcl:=Sm.check_le (Z1n s d p t i n);have HH:=Lib.hid (show ((Z1n s d p t i n).set 10 (UInt8.ofNat (Sm.check (Z1n s d p t i n)/256))).set (10+1) (UInt8.ofNat (Sm.check (Z1n s d p t i n)))=W6 s d p t i n from rfl);have HO8:=Lib.hid hown8';have HB8:=Lib.hid hb8;have K1:=Lib.hid (X1t (Z1n s d p t i n) 20 hl8 (some ⟨g,0,none⟩) p8 w8.drew hr8 (by omega));have hl8':=Lib.hid hl8;generalize Z1n s d p t i n=zs at HH HO8 K1 hcl hl8';have K2:=Lib.hid (fun w:World=>T8 ((Sm.check zs:Nat):Int) 2 (Sm.check zs) 2 rfl rfl (by omega) (by omega) w);have hc2:¬p8=10:=by omega
 clear hown8' hb8 hl8 hr8
 go_region_law (first
  |(go_simp;go_at_call 93;(with_reducible refine K1.out.mono ?_);rintro e w' ⟨rfl,rfl⟩)
  |(go_simp;go_at_call 90;(with_reducible refine(K2.out _).mono ?_);rintro e w9 ⟨C9,q9,rfl,hown9,hb9⟩)
  |(refine Z8h rfl _ _ _ _ rfl 5 Tryz.underlying31 X7w g 10 (20-10) (p8-10) C9 2 q9 (by exact rfl) (by exact rfl) B0 20 p8 zs (U1 2 (Sm.check zs)) (Y1 HO8.out.drew hb9) (X4.of_own hown9) rfl (by simp[U1]) (by simp[U1]) (by simp[U1]) ?_;intro w10 hown10 O10))
 all_goals
  have hb10:=Lib.hid (O10.below _ _ ((HB8.out.drew).trans (hb9.mono hsz8)) hg8);have HO10:Hid (w10.ownsRow B0 5 1 (.slice (some ⟨g,0,none⟩) 20 p8) 20 ((W6 s d p t i n).map bv)):=by
   unfold Hid;have e:=hown10;rw[Y0,X1v,X9t zs 10 _ _ (by rw[hl8'.out];omega),HH.out] at e;exact e
  obtain⟨c0,c1,c2,c3,c4,c5⟩:=hp1.below hb10.out hg;have hx10:=Lib.hid (hx1.next (hs1.symm▸hb10.out));have hs10:B0≤w10.heap.size:=by have:=hb10.out.size;omega
  clear hown10 O10 hown9 hb9 K1 K2
  go_wp2_with (at_builtin;refine X6 B0 hb10.out rfl _ _ 31 rfl B0 5 Tryz.underlying31 J4 _ _ _ (by exact rfl) HO10.out A n c xs hl'.out (by exact rfl) hx10.out (by omega) hs10 (Nat.le_refl _) ?_;intro A11 p11 w11 hown11 hb11)
  go_ret
  exact⟨A11,p11,rfl,V2 hown11 (by omega),hb01.trans (hb11.mono (by omega))⟩
end
section
open Go.RowKit
def Y7g (w:World) (g:Nat) (v0 v1 v2 v3 v4 v5 v6:Value):Prop:=
 w.cell? ⟨g,0,none⟩=some v0∧w.cell? ⟨g,1,none⟩=some v1∧w.cell? ⟨g,2,none⟩=some v2∧w.cell? ⟨g,3,none⟩=some v3∧w.cell? ⟨g,4,none⟩=some v4∧w.cell? ⟨g,5,none⟩=some v5∧w.cell? ⟨g,6,none⟩=some v6
section
variable {w w':World}{g:Nat}{v0 v1 v2 v3 v4 v5 v6:Value}{T:TypeId}
theorem Y7g.of (h0:w.cell? ⟨g,0,none⟩=some v0) (h1:w.cell? ⟨g,1,none⟩=some v1) (h2:w.cell? ⟨g,2,none⟩=some v2) (h3:w.cell? ⟨g,3,none⟩=some v3) (h4:w.cell? ⟨g,4,none⟩=some v4) (h5:w.cell? ⟨g,5,none⟩=some v5) (h6:w.cell? ⟨g,6,none⟩=some v6):Y7g w g v0 v1 v2 v3 v4 v5 v6:=⟨h0,h1,h2,h3,h4,h5,h6⟩
theorem Y7g.box (w:World) (v0 v1 v2 v3 v4 v5 v6:Value) (T:TypeId):Y7g (w.alloc (.cells #[v0,v1,v2,v3,v4,v5,v6] T)) w.heap.size v0 v1 v2 v3 v4 v5 v6:=by
 refine Y7g.of ?_ ?_ ?_ ?_ ?_ ?_ ?_<;>rw[World.cell?_alloc_at _ _ _ _ rfl]<;>rfl
theorem Y7g.below {B:Nat}(h:Y7g w g v0 v1 v2 v3 v4 v5 v6) (hb:Below B w w') (hg:g<B):Y7g w' g v0 v1 v2 v3 v4 v5 v6:=by
 obtain⟨h0,h1,h2,h3,h4,h5,h6⟩:=h;exact Y7g.of ((T6 hb hg).trans h0) ((T6 hb hg).trans h1) ((T6 hb hg).trans h2) ((T6 hb hg).trans h3) ((T6 hb hg).trans h4) ((T6 hb hg).trans h5) ((T6 hb hg).trans h6)
end
theorem Z7a (n m:Int) (w:World):Calls Tryz.prog 81 #[.int .i64 n, .int .i64 m] w fun e w'=>e = .returned (.bool (inR n m))∧w=w':=by
 by_cases h1:0≤n
 ·by_cases h2:n≤m
  ·have H:=Lib.hid (T5.2 ⟨h1,h2⟩)
   go_enter Tryz.func81,Tryz.ntmps81
   go_wp2
   go_ret
   exact⟨by rw[H.out];rfl,rfl⟩
  ·have H:=Lib.hid (Bool.eq_false_iff.2 fun h=>h2 (T5.1 h).2)
   go_enter Tryz.func81,Tryz.ntmps81
   go_wp2
   go_ret
   exact⟨by rw[H.out];rfl,rfl⟩
 ·have H:=Lib.hid (Bool.eq_false_iff.2 fun h=>h1 (T5.1 h).1:inR n m=false)
  go_enter Tryz.func81,Tryz.ntmps81
  go_wp2
  go_ret
  exact⟨by rw[H.out];rfl,rfl⟩
theorem J3d (n:Int) (w:World):Calls Tryz.prog 44 #[.int .i64 n] w fun e w'=>e = .returned (.bool (inR n 4294967295))∧w=w':=by
 go_enter Tryz.func44,Tryz.ntmps44
 go_wp2_with fail
 (with_reducible refine(Z7a n 4294967295 w).mono ?_)
 rintro e w' ⟨rfl,rfl⟩
 go_wp2
 go_ret
 exact⟨rfl,rfl⟩
theorem Y1c (n:Int) (w:World):Calls Tryz.prog 46 #[.int .i64 n] w fun e w'=>e = .returned (.bool (inR n 65535))∧w=w':=by
 go_enter Tryz.func46,Tryz.ntmps46
 go_wp2_with fail
 (with_reducible refine(Z7a n 65535 w).mono ?_)
 rintro e w' ⟨rfl,rfl⟩
 go_wp2
 go_ret
 exact⟨rfl,rfl⟩
theorem Q6y (sp dp sq ak fl wn:Int) (n c:Nat) (A:Option Addr) (b1 b2 b3 b4 b5 b6:Bool) (h1:inR sp 65535=b1) (h2:inR dp 65535=b2) (h3:inR sq 4294967295=b3) (h4:inR ak 4294967295=b4) (h5:inR fl 63=b5) (h6:inR wn 65535=b6) (w:World):
  Calls Tryz.prog 110 #[.agg #[.int .i64 sp, .int .i64 dp, .int .i64 sq, .int .i64 ak, .int .i64 fl, .int .i64 wn, .slice A n c]] w fun e w'=>e = .returned (.bool (b1&&(b2&&(b3&&(b4&&(b5&&(b6&&decide (n≤1460))))))))∧Below w.heap.size w w':=by
 have HB:=Lib.hid (fun r f=>(Below.refl w.heap.size w).alloc (Nat.le_refl _) (.cells r f));have K1:=Lib.hid (fun w=>h1▸Y1c sp w);have K2:=Lib.hid (fun w=>h2▸Y1c dp w);have K3:=Lib.hid (fun w=>h3▸Z7a sq 4294967295 w);have K4:=Lib.hid (fun w=>h4▸Z7a ak 4294967295 w);have K5:=Lib.hid (fun w=>h5▸Z7a fl 63 w);have K6:=Lib.hid (fun w=>h6▸Y1c wn w);have hc:b1=false∨(b1=true∧b2=false)∨(b1=true∧b2=true∧b3=false)∨(b1=true∧b2=true∧b3=true∧b4=false)∨(b1=true∧b2=true∧b3=true∧b4=true∧b5=false)∨(b1=true∧b2=true∧b3=true∧b4=true∧b5=true∧b6=false)∨(b1=true∧b2=true∧b3=true∧b4=true∧b5=true∧b6=true∧n≤1460)∨(b1=true∧b2=true∧b3=true∧b4=true∧b5=true∧b6=true∧¬n≤1460):=by
  cases b1<;>cases b2<;>cases b3<;>cases b4<;>cases b5<;>cases b6<;>simp<;>omega
 clear h1 h2 h3 h4 h5 h6;rcases hc with rfl |⟨rfl,rfl⟩ |⟨rfl,rfl,rfl⟩ |⟨rfl,rfl,rfl,rfl⟩ |⟨rfl,rfl,rfl,rfl,rfl⟩ |⟨rfl,rfl,rfl,rfl,rfl,rfl⟩ |⟨rfl,rfl,rfl,rfl,rfl,rfl,hn⟩ |⟨rfl,rfl,rfl,rfl,rfl,rfl,hn⟩
 all_goals
  go_enter Tryz.func110,Tryz.ntmps110
  go_wp2_with (first
   |(go_at_call 46;(with_reducible refine(K1.out _).mono ?_);rintro e w' ⟨rfl,rfl⟩;clear K1)
   |(go_at_call 46;(with_reducible refine(K2.out _).mono ?_);rintro e w' ⟨rfl,rfl⟩;clear K2)
   |(go_at_call 81;(with_reducible refine(K3.out _).mono ?_);rintro e w' ⟨rfl,rfl⟩;clear K3)
   |(go_at_call 81;(with_reducible refine(K4.out _).mono ?_);rintro e w' ⟨rfl,rfl⟩;clear K4)
   |(go_at_call 81;(with_reducible refine(K5.out _).mono ?_);rintro e w' ⟨rfl,rfl⟩;clear K5)
   |(go_at_call 46;(with_reducible refine(K6.out _).mono ?_);rintro e w' ⟨rfl,rfl⟩;clear K6))
  go_ret
  exact⟨by first |(simp[*];done) |(simp[*];omega),HB.out _ _⟩
theorem Q1k (sp dp sq ak fl wn:Int) (n c:Nat) (A:Option Addr) (b1 b2 b3 b4 b5 b6:Bool) (h1:inR sp 65535=b1) (h2:inR dp 65535=b2) (h3:inR sq 4294967295=b3) (h4:inR ak 4294967295=b4) (h5:inR fl 63=b5) (h6:inR wn 65535=b6) (w:World):
  Calls Tryz.prog 58 #[.agg #[.int .i64 sp, .int .i64 dp, .int .i64 sq, .int .i64 ak, .int .i64 fl, .int .i64 wn, .slice A n c]] w fun e w'=>e = .returned (.bool (b1&&(b2&&(b3&&(b4&&(b5&&(b6&&decide (n≤1460))))))))∧Below w.heap.size w w':=by
 have HB:=Lib.hid (fun r f=>(Below.refl w.heap.size w).alloc (Nat.le_refl _) (.cells r f));have K1:=Lib.hid (fun w=>h1▸Z8p sp 65535 w);have K2:=Lib.hid (fun w=>h2▸Z8p dp 65535 w);have K3:=Lib.hid (fun w=>h3▸Z7t sq w);have K4:=Lib.hid (fun w=>h4▸Z7t ak w);have K5:=Lib.hid (fun w=>h5▸Z8p fl 63 w);have K6:=Lib.hid (fun w=>h6▸Z8p wn 65535 w);have hc:b1=false∨(b1=true∧b2=false)∨(b1=true∧b2=true∧b3=false)∨(b1=true∧b2=true∧b3=true∧b4=false)∨(b1=true∧b2=true∧b3=true∧b4=true∧b5=false)∨(b1=true∧b2=true∧b3=true∧b4=true∧b5=true∧b6=false)∨(b1=true∧b2=true∧b3=true∧b4=true∧b5=true∧b6=true∧n≤1460)∨(b1=true∧b2=true∧b3=true∧b4=true∧b5=true∧b6=true∧¬n≤1460):=by
  cases b1<;>cases b2<;>cases b3<;>cases b4<;>cases b5<;>cases b6<;>simp<;>omega
 clear h1 h2 h3 h4 h5 h6;rcases hc with rfl |⟨rfl,rfl⟩ |⟨rfl,rfl,rfl⟩ |⟨rfl,rfl,rfl,rfl⟩ |⟨rfl,rfl,rfl,rfl,rfl⟩ |⟨rfl,rfl,rfl,rfl,rfl,rfl⟩ |⟨rfl,rfl,rfl,rfl,rfl,rfl,hn⟩ |⟨rfl,rfl,rfl,rfl,rfl,rfl,hn⟩
 all_goals
  go_enter Tryz.func58,Tryz.ntmps58
  go_wp2_with (first
   |(go_at_call 24;(with_reducible refine(K1.out _).mono ?_);rintro e w' ⟨rfl,rfl⟩;clear K1)
   |(go_at_call 24;(with_reducible refine(K2.out _).mono ?_);rintro e w' ⟨rfl,rfl⟩;clear K2)
   |(go_at_call 23;(with_reducible refine(K3.out _).mono ?_);rintro e w' ⟨rfl,rfl⟩;clear K3)
   |(go_at_call 23;(with_reducible refine(K4.out _).mono ?_);rintro e w' ⟨rfl,rfl⟩;clear K4)
   |(go_at_call 24;(with_reducible refine(K5.out _).mono ?_);rintro e w' ⟨rfl,rfl⟩;clear K5)
   |(go_at_call 24;(with_reducible refine(K6.out _).mono ?_);rintro e w' ⟨rfl,rfl⟩;clear K6))
  go_ret
  exact⟨by first |(simp[*];done) |(simp[*];omega),HB.out _ _⟩
end
section
open Go.RowKit
theorem X7y (s:Nat) (sI:Int) (hse:sI=(s:Int)) (hs:s≤65535) (xs:List UInt8) (n:Nat) (hl:xs.length=n) (A:Option Addr) (c:Nat) (w:World) (hx:RB w w.heap.size A xs) (hn:n≤1099511627776):
  Calls Tryz.prog 134 #[.int .i64 sI, .slice A n c] w fun e w'=>e = .returned (.int .i64 ((Sm.add s xs:Nat):Int))∧w=w':=by
 subst hse hl;exact J2x s hs xs A c w hx hn
theorem Y3y (s:Nat) (sI:Int) (hse:sI=(s:Int)) (hs:s≤65535) (xs:List UInt8) (n:Nat) (hl:xs.length=n) (A:Option Addr) (c:Nat) (w:World) (hx:RB w w.heap.size A xs) (hn:n≤1099511627776):
  Calls Tryz.prog 91 #[.int .i64 sI, .slice A n c] w fun e w'=>e = .returned (.int .i64 ((Sm.add s xs:Nat):Int))∧w=w':=by
 subst hse hl;exact J2v s hs xs A c w hx hn
theorem Y0g (src dst:Nat) (xs:List UInt8):(65535:Int)-((Sm.add (Sm.add 0 (L8 src dst xs.length)) xs:Nat):Int)=((Z1x src dst xs:Nat):Int):=by
 unfold Z1x;rw[Sm.add_append _ _ _ (by rw[Z3b])];exact Y2f _
theorem J3e (src dst n:Nat) (hs:src<4294967296) (hd:dst<4294967296) (hn:n<4294967296) (w:World):
  Calls Tryz.prog 135 #[.int .i64 src, .int .i64 dst, .int .i64 n] w fun e w'=>e = .returned (.int .i64 ((Sm.add 0 (L8 src dst n):Nat):Int))∧Below w.heap.size w w':=by
 have K1:=Lib.hid (X4y w.heap.size w.heap.size w [] 0 rfl none 0 4 (src:Int) 4 src rfl rfl (by omega) (by omega) w (World.ownsRow_nil _ _ _ _) (Below.refl _ _) (Nat.le_refl _) (Nat.le_refl _) (by omega));go_enter Tryz.func135,Tryz.ntmps135
 go_wp2_with fail
 (with_reducible refine K1.out.mono ?_)
 rintro e w1 ⟨A1,p1,rfl,hown1,hb1,hs1⟩;clear K1
 go_wp2_with fail
 ((with_reducible refine(X4y w.heap.size w.heap.size w ([]++U1 4 src) 4 rfl A1 p1 4 (dst:Int) 4 dst rfl rfl (by omega) (by omega) w1 hown1 hb1 (Nat.le_refl _) hs1 (by omega)).mono ?_))
 rintro e w2 ⟨A2,p2,rfl,hown2,hb2,hs2⟩;have hbL':=Lib.hid (hb2.alloc hs2 (.cells #[.int .u8 0, .int .u8 6] 5));have hoL:=Lib.hid (Y1 hown2 (G0 w2 (.cells #[.int .u8 0, .int .u8 6] 5)));have hrL:=Lib.hid (RB.lit w2 5 #[.int .u8 0, .int .u8 6] (0,0) [0,6] rfl);clear hown1 hb1 hs1 hown2 hb2
 go_wp2_with (at_builtin;refine X6 w.heap.size hbL'.out rfl _ _ 31 rfl w.heap.size 5 Tryz.underlying31 J4 _ _ ([]++U1 4 src++U1 4 dst) (by exact rfl) hoL.out (some ⟨w2.heap.size,0,none⟩) 2 2 [0,6] rfl (by exact rfl) hrL.out (by omega) (by simp;omega) (Nat.le_refl _) ?_;intro A6 p6 w6 hown6 hb6)
 have hs6:w.heap.size≤w6.heap.size:=hb6.size
 ((with_reducible refine(X4y w.heap.size w.heap.size w ([]++U1 4 src++U1 4 dst++[0,6]) 10 rfl A6 p6 2 (n:Int) 2 n rfl rfl (by omega) (by omega) w6 hown6 hb6 (Nat.le_refl _) hs6 (by omega)).mono ?_))
 rintro e w7 ⟨A7,p7,rfl,hown7,hb7,hs7⟩;have hr7:Hid (RB w7 w7.heap.size A7 (L8 src dst n)):=Lib.hid (RB.of_ownN hown7);have K2:=Lib.hid (X7y 0 0 rfl (by omega) (L8 src dst n) 12 (Z3b _ _ _) A7 p7 w7 hr7.out (by omega));clear hown6 hb6 hown7 hoL hrL hbL'
 go_wp2_with fail
 (with_reducible refine K2.out.mono ?_)
 rintro e w' ⟨rfl,rfl⟩
 go_wp2
 go_ret
 exact⟨rfl,hb7⟩
theorem J3f (src dst:Nat) (hs:src<4294967296) (hd:dst<4294967296) (xs:List UInt8) (n:Nat) (hl:xs.length=n) (A:Option Addr) (c:Nat) (w:World) (hx:RB w w.heap.size A xs) (hn:n≤1000000):
  Calls Tryz.prog 113 #[.int .i64 src, .int .i64 dst, .slice A n c] w fun e w'=>e = .returned (.int .i64 ((Z1x src dst xs:Nat):Int))∧Below w.heap.size w w':=by
 have h1:=Sm.add_le 0 (L8 src dst n);have h2:=Sm.add_le (Sm.add 0 (L8 src dst n)) xs;have HF:=Lib.hid (Y0g src dst xs);have K1:=Lib.hid (J3e src dst n hs hd (by omega) w);have hx':=Lib.hid hx;have hl':=Lib.hid hl;clear hl hx;go_enter Tryz.func113,Tryz.ntmps113
 go_wp2_with fail
 (with_reducible refine K1.out.mono ?_)
 rintro e w1 ⟨rfl,hb1⟩;have K2:=Lib.hid (X7y (Sm.add 0 (L8 src dst n)) _ rfl h1 xs n hl'.out A c w1 (hx'.out.next hb1) (by omega));have HF':Hid ((65535:Int)-((Sm.add (Sm.add 0 (L8 src dst n)) xs:Nat):Int)=((Z1x src dst xs:Nat):Int)):=by
  have:=HF.out;rw[hl'.out] at this;exact this
 generalize Sm.add 0 (L8 src dst n)=a at h1 h2 K2 HF' ⊢;generalize Sm.add a xs=z at h2 K2 HF'
 go_wp2_with fail
 (with_reducible refine K2.out.mono ?_)
 rintro e w' ⟨rfl,rfl⟩
 go_wp2
 go_ret
 exact⟨by rw[←HF'.out];rfl,hb1⟩
theorem X7z (src dst n:Nat) (hs:src<4294967296) (hd:dst<4294967296) (hn:n<4294967296) (w:World):
  Calls Tryz.prog 92 #[.int .i64 src, .int .i64 dst, .int .i64 n] w fun e w'=>∃A' c',e = .returned (.slice A' 12 c')∧w'.ownsRow w.heap.size 5 1 (.slice A' 12 c') 12 ((L8 src dst n).map bv)∧Below w.heap.size w w':=by
 go_enter Tryz.func92,Tryz.ntmps92
 go_wp2_with fail
 ((with_reducible refine(T8 (src:Int) 4 src 4 rfl rfl (by omega) (by omega) w).mono ?_))
 rintro e w1 ⟨A1,p1,rfl,hown1,hb1⟩
 go_wp2_with fail
 ((with_reducible refine(T8 (dst:Int) 4 dst 4 rfl rfl (by omega) (by omega) w1).mono ?_))
 rintro e w2 ⟨A2,p2,rfl,hown2,hb2⟩;have hb02:=Lib.hid (hb1.trans (hb2.mono hb1.size));have HO:=Lib.hid (Y1 hown1 hb2);have HR:=Lib.hid (RB.of_ownN hown2);have hs2:=hb02.out.size;clear hown1 hown2 hb1 hb2
 go_wp2_with (first
  |(at_builtin;refine X6 w.heap.size hb02.out rfl _ _ 31 rfl w.heap.size 5 Tryz.underlying31 J4 _ _ (U1 4 src) (by exact rfl) HO.out A2 4 p2 (U1 4 dst) rfl (by exact rfl) HR.out (by omega) hs2 (Nat.le_refl _) ?_;intro A3 p3 w3 hown3 hb3;have hz3:w.heap.size≤w3.heap.size:=hb3.size;have HOL:=Lib.hid (Y1 hown3 (G0 w3 (.cells #[.int .u8 0, .int .u8 6] 5)));have HRL:=Lib.hid (RB.lit w3 5 #[.int .u8 0, .int .u8 6] (0,0) [0,6] rfl);have HBL:=Lib.hid (hb3.alloc hz3 (.cells #[.int .u8 0, .int .u8 6] 5));clear hown3 hb3 HO HR hb02)
  |(at_builtin;refine X6 w.heap.size HBL.out rfl _ _ 31 rfl w.heap.size 5 Tryz.underlying31 J4 _ _ (U1 4 src++U1 4 dst) (by exact rfl) HOL.out (some ⟨w3.heap.size,0,none⟩) 2 2 [0,6] rfl (by exact rfl) HRL.out (by omega) (by simp;omega) (Nat.le_refl _) ?_;intro A6 p6 w6 hown6 hb6;clear HOL HRL HBL))
 have hs6:w.heap.size≤w6.heap.size:=hb6.size
 ((with_reducible refine(T8 (n:Int) 2 n 2 rfl rfl (by omega) (by omega) w6).mono ?_))
 rintro e w7 ⟨A7,p7,rfl,hown7,hb7⟩;have hb07:=Lib.hid (hb6.trans (hb7.mono hs6));have hs7:=hb07.out.size;have HO7:=Lib.hid (Y1 hown6 hb7);have HR7:=Lib.hid (RB.of_ownN hown7);clear hown6 hown7 hb6 hb7
 go_wp2_with (at_builtin;refine X6 w.heap.size hb07.out rfl _ _ 31 rfl w.heap.size 5 Tryz.underlying31 J4 _ _ (U1 4 src++U1 4 dst++[0,6]) (by exact rfl) HO7.out A7 2 p7 (U1 2 n) rfl (by exact rfl) HR7.out (by omega) hs7 (Nat.le_refl _) ?_;intro A8 p8 w8 hown8 hb8)
 go_ret
 exact⟨A8,p8,rfl,hown8,hb8⟩
end
section
open Go.RowKit
theorem Q6z (t:Nat) (ht:t≤255):(#[Value.int .u8 80, .int .u8 (t:Int)]:Array Value).toList=([0x50,UInt8.ofNat t]:List UInt8).map bv:=by
 simp only[List.map,bv,X5a t ht];rfl
theorem Q4j (n:Nat) (h:n≤255):IntKind.u8.wrap (n:Int)=(n:Int):=by
 rw[IntKind.wrap_u8];omega
theorem J7y (sp dp sq ak fl wn:Int) (xs:List UInt8) (n:Nat) (hl:xs.length=n) (A:Option Addr) (c:Nat) (b:Bool) (h:Sg.ok ⟨sp,dp,sq,ak,fl,wn,xs⟩=b) (w:World):
  Calls Tryz.prog 58 #[.agg #[iz sp,iz dp,iz sq,iz ak,iz fl,iz wn, .slice A n c]] w fun e w'=>e = .returned (.bool b)∧Below w.heap.size w w':=by
 subst h hl;exact Q1k sp dp sq ak fl wn xs.length c A _ _ _ _ _ _ rfl rfl rfl rfl rfl rfl w
theorem J3g (n:Int) (b:Bool) (h:Z5i n=b) (w:World):Calls Tryz.prog 44 #[iz n] w fun e w'=>e = .returned (.bool b)∧w=w':=by
 subst h;exact J3d n w
end
section
open Go.RowKit
theorem J3h (src dst n:Nat) (nI:Int) (hne:nI=(n:Int)) (hs:src<4294967296) (hd:dst<4294967296) (hn:n<4294967296) (w:World):
  Calls Tryz.prog 92 #[.int .i64 src, .int .i64 dst, .int .i64 nI] w fun e w'=>∃A' c',e = .returned (.slice A' 12 c')∧w'.ownsRow w.heap.size 5 1 (.slice A' 12 c') 12 ((L8 src dst n).map bv)∧Below w.heap.size w w':=by
 subst hne;exact X7z src dst n hs hd hn w
theorem X1x (src dst sp dp sq ak fl wn:Nat) (xs:List UInt8) (n:Nat) (hl:xs.length=n) (A:Option Addr) (c:Nat) (h:Sg.ok ⟨sp,dp,sq,ak,fl,wn,xs⟩=true) (hs:src<4294967296) (hd:dst<4294967296) (w:World) (hx:RB w w.heap.size A xs):
  Calls Tryz.prog 53 #[.int .i64 src, .int .i64 dst, .agg #[.int .i64 sp, .int .i64 dp, .int .i64 sq, .int .i64 ak, .int .i64 fl, .int .i64 wn, .slice A n c]] w fun e w'=>∃A' c',e = .returned (.slice A' (20+n) c')∧w'.ownsRow w.heap.size 5 1 (.slice A' (20+n) c') (20+n) ((D1 src dst sp dp sq ak fl wn xs).map bv)∧Below w.heap.size w w':=by
 obtain⟨⟨_,h1⟩,⟨_,h2⟩,⟨_,h3⟩,⟨_,h4⟩,⟨_,h5⟩,⟨_,h6⟩,hn⟩:=Sg.ok_iff.1 h;simp only at h1 h2 h3 h4 h5 h6 hn;have hb01:=Lib.hid (G0 w (.cells #[.int .i64 sp, .int .i64 dp, .int .i64 sq, .int .i64 ak, .int .i64 fl, .int .i64 wn, .slice A n c] 36));have hp1:=Lib.hid (Y7g.box w (.int .i64 sp) (.int .i64 dp) (.int .i64 sq) (.int .i64 ak) (.int .i64 fl) (.int .i64 wn) (.slice A n c) 36);have hx1:=Lib.hid (hx.next hb01.out);have hs1:w.heap.size<(w.alloc (.cells #[.int .i64 sp, .int .i64 dp, .int .i64 sq, .int .i64 ak, .int .i64 fl, .int .i64 wn, .slice A n c] 36)).heap.size:=T7 _ _;have hl':=Lib.hid hl;have hflb:(fl:Int)≤255:=by omega
 have wfl:IntKind.u8.wrap (fl:Int)=(fl:Int):=Q4j fl (by omega);rw[hl] at hn;clear h hx hl;go_enter Tryz.func53,Tryz.ntmps53
 go_wp2_with fail
 obtain⟨c0,c1,c2,c3,c4,c5,c6⟩:=hp1.out;generalize w.alloc (.cells #[.int .i64 sp, .int .i64 dp, .int .i64 sq, .int .i64 ak, .int .i64 fl, .int .i64 wn, .slice A n c] 36)=w1 at hb01 hp1 hx1 hs1 c0 c1 c2 c3 c4 c5 c6 ⊢;have K1:=Lib.hid (T8 (sp:Int) 2 sp 2 rfl rfl (by omega) (by omega) w1.drew)
 go_region_held3 (fun w'=>w'.cell? ⟨w.heap.size,0,none⟩=some (.int .i64 sp)∧w'.cell? ⟨w.heap.size,1,none⟩=some (.int .i64 dp)∧w'.cell? ⟨w.heap.size,2,none⟩=some (.int .i64 sq)∧w'.cell? ⟨w.heap.size,3,none⟩=some (.int .i64 ak)∧w'.cell? ⟨w.heap.size,4,none⟩=some (.int .i64 fl)∧w'.cell? ⟨w.heap.size,5,none⟩=some (.int .i64 wn)∧w'.cell? ⟨w.heap.size,6,none⟩=some (.slice A n c)) (go_keep)
  (first
   |(go_at_call 90;(with_reducible refine K1.out.mono ?_);rintro e w3 ⟨A3,p3,rfl,hown3,hb3⟩;have hb13:=Lib.hid ((Below.refl w1.heap.size w1).drew.trans (hb3.mono (Nat.le_refl _)));have hs3:w1.heap.size≤w3.heap.size:=hb13.out.size;obtain⟨d0,d1,d2,d3,d4,d5,d6⟩:=hp1.out.below hb13.out hs1)
   |(go_at_call 90;(with_reducible refine(T8 (dp:Int) 2 dp 2 rfl rfl (by omega) (by omega) w3).mono ?_);rintro e w4 ⟨A4,p4,rfl,hown4,hb4⟩;have hb14:=Lib.hid (hb13.out.trans (hb4.mono hs3));have hs4:w1.heap.size≤w4.heap.size:=hb14.out.size;have HO4:=Lib.hid (Y1 hown3 hb4);have HR4:=Lib.hid (RB.of_ownN hown4);obtain⟨e0,e1,e2,e3,e4,e5,e6⟩:=hp1.out.below hb14.out hs1)
   |(refine Y0y rfl _ _ 31 rfl w1.heap.size 5 Tryz.underlying31 J4 _ _ (U1 2 sp) (by exact rfl) HO4.out A4 2 p4 (U1 2 dp) rfl (by exact rfl) HR4.out (by omega) hs4 ?_;intro A5 p5 w5 hown5 hb5 hg5;have hb15:=Lib.hid (hb14.out.trans hb5);have hs5:w1.heap.size≤w5.heap.size:=hb15.out.size;obtain⟨f0,f1,f2,f3,f4,f5,f6⟩:=hp1.out.below hb15.out hs1))
 clear c0 c1 c2 c3 c4 c5 c6 d0 d1 d2 d3 d4 d5 d6 e0 e1 e2 e3 e4 e5 e6 K1 hown3 hb3 hb13 hs3 hown4 hb4 hb14 hs4 HO4 HR4 hb5 hg5
 go_wp2_with fail
 have K:=Lib.hid (T8 (sq:Int) 4 sq 4 rfl rfl (by omega) (by omega) w5)
 (with_reducible refine K.out.mono ?_)
 rintro e v6 ⟨C6,q6,rfl,hownB,hbB⟩;have HO6:=Lib.hid (Y1 hown5 hbB);have HR6:=Lib.hid (RB.of_ownN hownB);have HB6:=Lib.hid (hb15.out.trans (hbB.mono hs5));have hsz6:w1.heap.size≤v6.heap.size:=HB6.out.size;obtain⟨c0,c1,c2,c3,c4,c5,c6⟩:=hp1.out.below HB6.out hs1;clear K hownB hbB hown5 hb15 hs5 f0 f1 f2 f3 f4 f5 f6
 go_wp2_with (at_builtin;refine X6 w1.heap.size HB6.out rfl _ _ 31 rfl w1.heap.size 5 Tryz.underlying31 J4 _ _ (U1 2 sp++U1 2 dp) (by exact rfl) HO6.out C6 4 q6 (U1 4 sq) rfl (by exact rfl) HR6.out (by omega) hsz6 (Nat.le_refl _) ?_;intro A7 p7 w7 hown7 hb7;obtain⟨c0,c1,c2,c3,c4,c5,c6⟩:=hp1.out.below hb7 hs1)
 have hz7:w1.heap.size≤w7.heap.size:=hb7.size;have K:=Lib.hid (T8 (ak:Int) 4 ak 4 rfl rfl (by omega) (by omega) w7)
 (with_reducible refine K.out.mono ?_)
 rintro e v8 ⟨C8,q8,rfl,hownB,hbB⟩;have HO8:=Lib.hid (Y1 hown7 hbB);have HR8:=Lib.hid (RB.of_ownN hownB);have HB8:=Lib.hid (hb7.trans (hbB.mono hz7));have hsz8:w1.heap.size≤v8.heap.size:=HB8.out.size;obtain⟨c0,c1,c2,c3,c4,c5,c6⟩:=hp1.out.below HB8.out hs1;clear K hownB hbB hown7 hb7
 go_wp2_with (first
  |(at_builtin;refine X6 w1.heap.size HB8.out rfl _ _ 31 rfl w1.heap.size 5 Tryz.underlying31 J4 _ _ (U1 2 sp++U1 2 dp++U1 4 sq) (by exact rfl) HO8.out C8 4 q8 (U1 4 ak) rfl (by exact rfl) HR8.out (by omega) hsz8 (Nat.le_refl _) ?_;intro A9 p9 w9 hown9 hb9;obtain⟨c0,c1,c2,c3,c4,c5,c6⟩:=hp1.out.below hb9 hs1;have hz9:w1.heap.size≤w9.heap.size:=(hb9).size;have HOL:=Lib.hid (Y1 hown9 (G0 w9 (.cells #[.int .u8 80, .int .u8 (fl:Int)] 5)));have HRL:=Lib.hid (RB.lit w9 5 #[.int .u8 80, .int .u8 (fl:Int)] (0,0) [0x50,UInt8.ofNat fl] (Q6z fl (by omega)));have HBL:=Lib.hid (hb9.alloc hz9 (.cells #[.int .u8 80, .int .u8 (fl:Int)] 5));clear hown9 hb9)
  |(at_builtin;refine X6 w1.heap.size HBL.out rfl _ _ 31 rfl w1.heap.size 5 Tryz.underlying31 J4 _ _ (U1 2 sp++U1 2 dp++U1 4 sq++U1 4 ak) (by exact rfl) HOL.out (some ⟨w9.heap.size,0,none⟩) 2 2 [0x50,UInt8.ofNat fl] rfl (by exact rfl) HRL.out (by omega) (HBL.out.size) (Nat.le_refl _) ?_;intro A10 p10 w10 hown10 hb10;obtain⟨c0,c1,c2,c3,c4,c5,c6⟩:=hp1.out.below hb10 hs1))
 have hz10:w1.heap.size≤w10.heap.size:=hb10.size;clear HOL HRL HBL;have K:=Lib.hid (T8 (wn:Int) 2 wn 2 rfl rfl (by omega) (by omega) w10)
 (with_reducible refine K.out.mono ?_)
 rintro e v11 ⟨C11,q11,rfl,hownB,hbB⟩;have HO11:=Lib.hid (Y1 hown10 hbB);have HR11:=Lib.hid (RB.of_ownN hownB);have HB11:=Lib.hid (hb10.trans (hbB.mono hz10));have hsz11:w1.heap.size≤v11.heap.size:=HB11.out.size;obtain⟨c0,c1,c2,c3,c4,c5,c6⟩:=hp1.out.below HB11.out hs1;clear K hownB hbB hown10 hb10
 go_wp2_with (first
  |(at_builtin;refine X6 w1.heap.size HB11.out rfl _ _ 31 rfl w1.heap.size 5 Tryz.underlying31 J4 _ _ (U1 2 sp++U1 2 dp++U1 4 sq++U1 4 ak++[0x50,UInt8.ofNat fl]) (by exact rfl) HO11.out C11 2 q11 (U1 2 wn) rfl (by exact rfl) HR11.out (by omega) hsz11 (Nat.le_refl _) ?_;intro A12 p12 w12 hown12 hb12;obtain⟨c0,c1,c2,c3,c4,c5,c6⟩:=hp1.out.below hb12 hs1;have hz12:w1.heap.size≤w12.heap.size:=(hb12).size;have HOL:=Lib.hid (Y1 hown12 (G0 w12 (.cells #[.int .u8 0, .int .u8 0, .int .u8 0, .int .u8 0] 5)));have HRL:=Lib.hid (RB.lit w12 5 #[.int .u8 0, .int .u8 0, .int .u8 0, .int .u8 0] (0,0) [0,0,0,0] rfl);have HBL:=Lib.hid (hb12.alloc hz12 (.cells #[.int .u8 0, .int .u8 0, .int .u8 0, .int .u8 0] 5));clear hown12 hb12)
  |(at_builtin;refine X6 w1.heap.size HBL.out rfl _ _ 31 rfl w1.heap.size 5 Tryz.underlying31 J4 _ _ (U1 2 sp++U1 2 dp++U1 4 sq++U1 4 ak++[0x50,UInt8.ofNat fl]++U1 2 wn) (by exact rfl) HOL.out (some ⟨w12.heap.size,0,none⟩) 4 4 [0,0,0,0] rfl (by exact rfl) HRL.out (by omega) (HBL.out.size) (Nat.le_refl _) ?_;intro A13 p13 w13 hown13 hb13;obtain⟨c0,c1,c2,c3,c4,c5,c6⟩:=hp1.out.below hb13 hs1;have hz13:w1.heap.size≤w13.heap.size:=hb13.size;have HO13:=Lib.hid hown13;have HB13:=Lib.hid hb13;have HX13:=Lib.hid (hx1.out.next hb13);clear HOL HRL HBL hown13 hb13)
  |(at_builtin;refine X6 w1.heap.size HB13.out rfl _ _ 31 rfl w1.heap.size 5 Tryz.underlying31 J4 _ _ (U1 2 sp++U1 2 dp++U1 4 sq++U1 4 ak++[0x50,UInt8.ofNat fl]++U1 2 wn++[0,0,0,0]) (by exact rfl) HO13.out A n c xs hl'.out (by exact rfl) HX13.out (by omega) hz13 (Nat.le_refl _) ?_;intro A14 p14 w14 hown14 hb14;obtain⟨c0,c1,c2,c3,c4,c5,c6⟩:=hp1.out.below hb14 hs1))
 have hz14:w1.heap.size≤w14.heap.size:=hb14.size;have hown:w14.ownsRow w1.heap.size 5 1 (.slice A14 (20+n) p14) (20+n) ((Z1p sp dp sq ak fl wn++xs).map bv):=hown14;have hlz:(Z1p sp dp sq ak fl wn++xs).length=20+n:=by rw[List.length_append,Z5g,hl'.out]
 have HB14:=Lib.hid hb14;have hpc:20+n≤p14:=by obtain⟨_,_,hA,h,_⟩:=V3 hown;injection hA with _ _ h2;omega
 clear hown14 hb14 HO13 HB13 HX13 c0 c1 c2 c3 c4 c5 c6;obtain⟨g,rfl,hg,hg2⟩:=Y4s hown (by omega);have hcl:=X9q src dst (Z1p sp dp sq ak fl wn++xs);have HH:=Lib.hid (show X7u (Z1p sp dp sq ak fl wn++xs) (Z1x src dst (Z1p sp dp sq ak fl wn++xs))=D1 src dst sp dp sq ak fl wn xs from rfl);have HF:=Lib.hid (Y0g src dst (Z1p sp dp sq ak fl wn++xs));have HRZ:=Lib.hid (RB.of_ownN hown);have HO:=Lib.hid hown;have hlz':=Lib.hid hlz;clear hown;rw[hlz] at HF;clear hlz;generalize Z1p sp dp sq ak fl wn++xs=zs at hcl HH HF HRZ HO hlz';generalize Z1x src dst zs=z at hcl HH HF;have KH:=Lib.hid (J3h src dst (20+n) (20+(n:Int)) (by omega) hs hd (by omega) w14.drew);have ha:=Sm.add_le 0 (L8 src dst (20+n));have haz:=Sm.add_le (Sm.add 0 (L8 src dst (20+n))) zs;have HRZd:Hid (RB w14.drew w14.drew.heap.size (some ⟨g,0,none⟩) zs):=Lib.hid HRZ.out;have K1A:=Lib.hid (fun A p (w:World) hr=>Y3y 0 0 rfl (by omega) (L8 src dst (20+n)) 12 (Z3b _ _ _) A p w hr (by omega));have K2A:=Lib.hid (fun(w:World) hr=>Y3y (Sm.add 0 (L8 src dst (20+n))) _ rfl ha zs (20+n) hlz'.out (some ⟨g,0,none⟩) p14 w hr (by omega));generalize Sm.add 0 (L8 src dst (20+n))=a at HF ha haz K1A K2A;generalize Sm.add a zs=y at HF haz K2A;have hF:=HF.out;have hFw:IntKind.i64.wrap (z:Int)=(z:Int):=IntWalk.i64_in _ (by omega);have KB:=Lib.hid (fun w:World=>T8 (z:Int) 2 z 2 rfl rfl (by omega) (by omega) w);have hc2:¬p14=16:=by omega
 have h16:(16:Int)≤20+(n:Int):=by omega
 have h16':(16:Int)≤((20+n:Nat):Int):=by omega
 have hln:((20+n:Nat):Int)=20+(n:Int):=by omega
 go_wp2_with fail
 go_region_law (first
  |(go_simp;go_at_call 92;(with_reducible refine KH.out.mono ?_);rintro e w15 ⟨A15,p15,rfl,hown15,hb15⟩)
  |(go_simp;go_at_call 91;(with_reducible refine(K1A.out A15 p15 w15 (RB.of_ownN hown15)).mono ?_);rintro e w' ⟨rfl,rfl⟩)
  |(go_simp;go_at_call 91;(with_reducible refine(K2A.out w15 (RB.next HRZd.out hb15)).mono ?_);rintro e w' ⟨rfl,rfl⟩)
  |(go_simp;go_at_call 90;(with_reducible refine(KB.out _).mono ?_);rintro e w16 ⟨A16,p16,rfl,hown16,hb16⟩)
  |(refine Z8h rfl _ _ _ _ rfl 5 Tryz.underlying31 X7w g 16 (20+n-16) (p14-16) A16 2 p16 (by exact rfl) (by exact rfl) w1.heap.size (20+n) p14 zs (U1 2 z) (Y1 (Y1 HO.out.drew hb15) hb16) (RB.of_ownN hown16) rfl (by rw[Y0];omega) (by rw[Y0];omega) (by rw[Y0];omega) ?_;intro w17 hown17 O17))
 all_goals
  have hb16':=Lib.hid (O17.below _ _ ((HB14.out.drew.trans (hb15.mono hz14)).trans (hb16.mono (Nat.le_trans hz14 hb15.size))) hg);have HO17:Hid (w17.ownsRow w1.heap.size 5 1 (.slice (some ⟨g,0,none⟩) (20+n) p14) (20+n) ((D1 src dst sp dp sq ak fl wn xs).map bv)):=by
   unfold Hid;have e:=hown17;rw[Y0,X1v,X7x zs 16 _ _ (by rw[hlz'.out];omega)] at e;rw[←HH.out];exact e
  clear hown17 O17 hown15 hb15 hown16 hb16 K1A K2A KB KH
  go_wp2
  go_ret
  exact⟨some ⟨g,0,none⟩,p14,rfl,V2 HO17.out (Nat.le_of_lt hs1),hb01.out.trans (hb16'.out.mono (Nat.le_of_lt hs1))⟩
end
section
open Go.RowKit
def Y2g (w:World) (r:Sg×Int) (e:Ending) (w':World):Prop:=
 ∃A c,e = .returned (.tuple #[.agg #[iz r.1.sp,iz r.1.dp,iz r.1.sq,iz r.1.ak,iz r.1.fl,iz r.1.wn, .slice A r.1.xs.length c],iz r.2])∧w'.ownsRow w.heap.size 5 1 (.slice A r.1.xs.length c) r.1.xs.length (r.1.xs.map bv)∧Below w.heap.size w w'
theorem X1y (n:Int) (b:Bool) (h:Z5i n=b) (w:World):Calls Tryz.prog 23 #[iz n] w fun e w'=>e = .returned (.bool b)∧w=w':=by
 subst h;exact Z7t n w
end
section
open Go.RowKit
theorem V1 (w:World) (a:Addr) (v:Value):(w.setCell a v).heap.size=w.heap.size:=by simp[World.setCell]
theorem Y7t {w w':World}(h:w.grownBy w' none) (row:Option Nat):w.grownBy w' row:=⟨h.os,h.tape,h.output,h.size,fun k hk _=>h.block k hk (by simp)⟩
theorem Y3j {w w':World}{g:Nat}(h:w.grownBy w' (some g)) {B:Nat}(hB:B≤g) (hs:B≤w.heap.size):Below B w w':=(Below.refl B w).grown h hs (fun k e=>by injection e with e;omega)
theorem X2 {w w':World}(h:Below w.heap.size w w') (row:Option Nat):w.grownBy w' row:=⟨h.os,h.tape,h.output,h.size,fun k hk _=>h.block k hk⟩
abbrev Z2:Value:=.slice none 0 0
def X5 (w:World) (g:Nat) (l:List Value):Prop:=∀j v,l[j]? = some v→w.cell? ⟨g,j,none⟩=some v∧w.frozen? ⟨g,j,none⟩=false
section
variable {w w':World}{g:Nat}{l:List Value}
theorem X5.get (h:X5 w g l) (j:Nat) (v:Value) (hv:l[j]? = some v):w.cell? ⟨g,j,none⟩=some v:=(h j v hv).1
theorem X5.fr (h:X5 w g l) (j:Nat) (hv:(l[j]?).isSome=true):w.frozen? ⟨g,j,none⟩=false:=by
 obtain⟨v,hv⟩:=Option.isSome_iff_exists.1 hv;exact(h j v hv).2
theorem X5.kept {row:Option Nat}(h:X5 w g l) (hg:w.grownBy w' row) (hlt:g<w.heap.size) (hne:some g≠row):X5 w' g l:=fun j v hv=>
 ⟨(World.cell?_of_block (a:=⟨g,j,none⟩) (hg.block g hlt hne)).trans (h j v hv).1,(World.frozen?_of_block (a:=⟨g,j,none⟩) (hg.block g hlt hne)).trans (h j v hv).2⟩
theorem X5.below {B:Nat}(h:X5 w g l) (hb:Below B w w') (hg:g<B):X5 w' g l:=fun j v hv=>⟨(T6 hb hg).trans (h j v hv).1,(Q4b hb hg).trans (h j v hv).2⟩
theorem X5.set (h:X5 w g l) (j:Nat) (v:Value) (hj:j<l.length):X5 (w.setCell ⟨g,j,none⟩ v) g (l.set j v):=by
 intro i u hu;rw[List.getElem?_set] at hu;by_cases hi:j=i
 ·subst hi
  rw[if_pos rfl] at hu;have hjl:j<l.length:=hj;simp only[hj,if_true,Option.some.injEq] at hu;subst hu;exact⟨World.cell?_setCell_same _ _ _ (h j _ (List.getElem?_eq_getElem hjl)).1,by simpa using (h j _ (List.getElem?_eq_getElem hjl)).2⟩
 ·rw[if_neg hi] at hu
  exact⟨(World.cell?_setCell_other _ _ _ _ (by simp)).trans (h i u hu).1,by simpa using (h i u hu).2⟩
theorem X5.alloc (h:X5 w g l) (hlt:g<w.heap.size) (o:Obj):X5 (w.alloc o) g l:=h.kept (World.grownBy_alloc w o none) hlt (by simp)
end
theorem Z1e {w0 w:World}{row:Option Nat}(h:w0.grownBy w row) {a:Addr}(ha:w0.heap.size≤a.block) (v:Value):w0.grownBy (w.setCell a v) row:=
 ⟨h.os,h.tape,h.output,by rw[V1];exact h.size,fun k hk hne=>(Below.heap_setCell w a v k (by omega)).trans (h.block k hk hne)⟩
theorem X1z {w0 w:World}{row:Option Nat}(h:w0.grownBy w row) (o:Obj):w0.grownBy (w.alloc o) row:=h.trans (World.grownBy_alloc w o row)
theorem G8 {w:World}{b1 b2:Nat}{e1 e2:TypeId}{s1 s2 n1 n2:Nat}{v1 v2:Value}{x1 x2:List Value}(h1:w.ownsRow b1 e1 s1 v1 n1 x1) (h2:w.ownsRow b2 e2 s2 v2 n2 x2) (he:Nat.beq e1 e2=false):v1.ownBlock=none∨v1.ownBlock≠v2.ownBlock:=by
 rcases h1.2 with⟨rfl,_⟩ |⟨g1,c1,cur1,rfl,_,hg1,_⟩
 ·exact .inl rfl
 ·right
  rcases h2.2 with⟨rfl,_⟩ |⟨g2,c2,cur2,rfl,_,hg2,_⟩
  ·intro h;cases h
  ·intro h
   have h:g1=g2:=by injection h
   subst h;rw[hg1] at hg2;injection hg2 with hg2
   injection hg2 with _ h2 _
   subst h2;rw[Nat.beq_refl] at he;cases he
theorem Z4h {P:Program}{ops:Array Oper}{o:Oper}{a:Act}{w:World}{K:Act→World→Prop}{Q:Exit→Act→World→Prop}{E:Prop}(hgd:o.guard=none) (s x:Operand) (t:TypeId)
  (ho:o.op = .call { callee:=.builtin .append,args:=#[s,x],argTypes:=#[t,t] })
  (base:Nat) (e:TypeId) (z:Value) (size bytes:Nat) (ht:P.underlying t=some (.slice e)) (hi:(P.info? e).map (fun i=>(i.zero,i.size,i.bytes))=some (some z,size,bytes)) (hzs:z.cells.size=size) (hsz:0<size)
  (v:Value) (n:Nat) (xs:List Value) (hs:a.eval s=v) (hown:w.ownsRow base e size v n xs) (A:Option Addr) (m c:Nat) (ys:List Value) (hx:a.eval x = .slice A m c) (hr:X4 w w.heap.size size A m ys) (h1:∀u∈ys,u.oneCell'=true)
  (hn:n+m≤maxLen) (hb:(n+m)*bytes≤140737488355328) (hbase:base≤w.heap.size)
  (h:∀A' c' w',w'.ownsRow base e size (.slice A' (n+m) c') (n+m) (xs++ys)→w.grownBy w' v.ownBlock→K (a.put o.dst (.slice A' (n+m) c')) w'):
  if Region.wanted o (yielded ops a.tmps)=true then Oper.wp P o a w K Q else E:=by
 have hw:Region.wanted o (yielded ops a.tmps)=true:=by simp[Region.wanted,hgd]
 rw[if_pos hw];obtain⟨A',c',w',hrun,h2,h3⟩:=Z0b (P:=P) w base t o.type e z size bytes ht hi hzs hsz v n xs hown w.heap.size A m c ys hr h1 hn hb hbase;unfold Oper.wp execOp;simp only[ho,resolve,invoke,builtin,Sem.run_bind,Sem.run_pure,Result.andThen_ok,List.map_toArray,List.map_cons,List.map_nil,hs,hx,hrun];exact h _ _ _ h2 h3
theorem X4.lit (w:World) (e:TypeId) (l:List Value) (fr:Nat×Nat) (size n:Nat) (hl:l.length=n*size):X4 (w.alloc (.cells l.toArray e fr)) (w.alloc (.cells l.toArray e fr)).heap.size size (some ⟨w.heap.size,0,none⟩) n l:=by
 refine⟨hl,fun _=>⟨_,rfl,by simp,fun j u hu=>?_⟩⟩;have h1:(w.alloc (.cells l.toArray e fr)).heap[w.heap.size]? = some (.cells l.toArray e fr):=by
  show (w.heap.push (.cells l.toArray e fr))[w.heap.size]? = _;simp
 have h2:((⟨w.heap.size,0,none⟩:Addr).add j)=⟨w.heap.size,j,none⟩:=by
  unfold Addr.add;by_cases hj:j=0<;>simp[hj]
 rw[h2];unfold World.cell?;simp only[h1]
 simpa using hu
abbrev iv (n:Int):Value:=iz n
abbrev sv (s:ByteArray):Value:=.string s
def wv:List (ByteArray×Int)→List Value
 |[]=>[]
 |x::xs=>.string x.1::iz x.2::wv xs
theorem Y7u (l k:List (ByteArray×Int)):wv (l++k)=wv l++wv k:=by
 induction l with
 |nil=>rfl
 |cons x xs ih=>simp[wv,ih]
theorem Z3t {w w':World}{row:Option Nat}(h:w.drew.grownBy w' row):w.grownBy w' row:=⟨h.os,h.tape,h.output,h.size,h.block⟩
theorem Z7b {w0 w w':World}{row r2:Option Nat}(h:w0.grownBy w row) (h2:w.grownBy w' r2) (hr:∀k,r2=some k→w0.heap.size≤k):w0.grownBy w' row:=
 ⟨h2.os.trans h.os,h2.tape.trans h.tape,h2.output.trans h.output,Nat.le_trans h.size h2.size,fun k hk hne=>(h2.block k (Nat.lt_of_lt_of_le hk h.size) (fun e=>by have:=hr k e.symm;omega)).trans (h.block k hk hne)⟩
theorem Z7u {w0 w w':World}{row:Option Nat}{base:Nat}{e:TypeId}{size n:Nat}{v:Value}{xs:List Value}(h:w0.grownBy w row) (hO:w.ownsRow base e size v n xs) (hb:w0.heap.size≤base) (o:Obj) (h3:(w.alloc o).grownBy w' v.ownBlock):w0.grownBy w' row:=
 Z7b (X1z h o) h3 fun k hk=>Nat.le_trans hb (hO.lt k hk).1
theorem Y3k (l:List Int) (x:Int):(l++[x]).map iv=l.map iv++[iv x]:=by simp
theorem Y3l (l:List ByteArray) (x:ByteArray):(l++[x]).map sv=l.map sv++[sv x]:=by simp
theorem X5b (n:Int):∀u∈[iv n],u.oneCell'=true:=by intro u hu;simp at hu;subst hu;rfl
theorem X5c (s:ByteArray):∀u∈[sv s],u.oneCell'=true:=by intro u hu;simp at hu;subst hu;rfl
theorem X5d (x:ByteArray×Int):∀u∈wv [x],u.oneCell'=true:=by
 intro u hu;simp[wv] at hu;rcases hu with rfl |rfl<;>rfl
theorem X5.of_heap {w:World}{g:Nat}{l:List Value}{T:TypeId}(h:w.heap[g]? = some (.cells l.toArray T (0,0))):X5 w g l:=fun j v hv=>
 ⟨by rw[cell_of_row w g j _ _ _ h];simpa using hv,frozen_of_row w g j _ _ h⟩
theorem X5.range {w:World}{g:Nat}{l:List Value}(h:X5 w g l):w.rangeAt g 0 l:=fun j v hv=>by
 rw[Nat.zero_add];exact(h j v hv).1
theorem X5.there {w:World}{g:Nat}{l:List Value}(h:X5 w g l):w.there g 0 l.length:=fun j hj=>by
 rw[Nat.zero_add];obtain⟨a,b⟩:=h j _ (List.getElem?_eq_getElem hj);exact⟨by rw[a];rfl,b⟩
theorem D3 (g:Nat):∀(vs:List Value) (o:Nat) (w:World),Z6s g w (w.setCells g o vs)∧w.grownBy (w.setCells g o vs) (some g)
 |[],_,w=>⟨Z6s.refl g w,World.grownBy.refl w _⟩
 |v::vs,o,w=>by
  obtain⟨a,b⟩:=D3 g vs (o+1) (w.setCell ⟨g,o,none⟩ v);exact⟨((Z6s.refl g w).set o v).trans a,(X7 w g o v).trans b⟩
theorem Y1d {w:World}{g n:Nat}(vs:List Value) (h:w.there g 0 n):(w.setCells g 0 vs).there g 0 n:=World.there_setCells h g 0 vs
section
variable {P:Program}{ops:Array Oper}{rest:List Oper}{o:Oper}{a:Act}{w:World}{Q:Exit→Act→World→Prop}
theorem Y0h (hgd:o.guard=none) (T:TypeId) (ho:o.op = .alloc T) (l:List Value) (hz:∀w,(zeroValue T).run P w = .ok (.agg l.toArray) w)
  (H:Nat) (hH:w.heap.size=H) (h:∀w',Below H w w'→w'.heap.size=H+1→X5 w' H l→wpList P ops Q rest (a.put o.dst (pz H)) w'):
  wpList P ops Q (o::rest) a w:=by
 subst hH;refine Great.wpList_runTo hgd o.dst rfl _ (w.alloc (.cells l.toArray T)) ?_ (h _ (G0 w _) (by simp) (X5.of_heap (heap_alloc_new w _)));unfold execOp;simp only[ho];simp[Instr.alloc,hz,Sem.run_bind,Result.andThen,newVar,newRow,Value.cells,newObj];rfl
theorem Y8 (hgd:o.guard=none) (T:TypeId) (x:Operand) (ho:o.op = .box T x) (l:List Value) (hx:a.eval x = .agg l.toArray)
  (H:Nat) (hH:w.heap.size=H) (h:∀w',Below H w w'→w'.heap.size=H+1→X5 w' H l→wpList P ops Q rest (a.put o.dst (pz H)) w'):
  wpList P ops Q (o::rest) a w:=by
 subst hH;refine Great.wpList_runTo hgd o.dst rfl _ (w.alloc (.cells l.toArray T)) ?_ (h _ (G0 w _) (by simp) (X5.of_heap (heap_alloc_new w _)));unfold execOp;simp only[ho];simp[Instr.box,hx,Result.andThen,newVar,newRow,Value.cells,newObj];rfl
theorem Y0i (hgd:o.guard=none) (T:TypeId) (x y:Operand) (ho:o.op = .store T x y) (g:Nat) (hx:a.eval x=pz g) (l:List Value) (hy:a.eval y = .agg l.toArray)
  {l0:List Value}(hC:X5 w g l0) (n:Nat) (hi:(P.info? T).map (·.size)=some n) (hl0:l0.length=n) (hl1:l.length=n) (h1:l.all (·.oneCell')=true)
  (h:∀w',w.grownBy w' (some g)→w'.heap.size=w.heap.size→X5 w' g l→wpList P ops Q rest (a.put o.dst undef) w'):
  wpList P ops Q (o::rest) a w:=by
 have ht:=hC.there;rw[hl0,←hl1] at ht;rw[←hl1] at hi;refine wpList_store_mid hgd T x y ho g 0 l.toArray hx hy (by simpa using ht) (by simpa using hi) (all_oneCell_toArray fun v hv=>List.all_eq_true.1 h1 v hv) ?_;obtain⟨hO,hG⟩:=D3 g l 0 w;refine h _ hG hO.size ?_;intro j v hv;have hj:j<l.length:=(List.getElem?_eq_some_iff.1 hv).1;have hr:=World.rangeAt_setCells_same w g 0 l ht j v hv;rw[Nat.zero_add] at hr;have hf:=(Y1d l ht j hj).2;rw[Nat.zero_add] at hf;exact⟨hr,hf⟩
theorem Y1e (hgd:o.guard=none) (T:TypeId) (x:Operand) (ho:o.op = .load T x) (g:Nat) (hx:a.eval x=pz g) {l:List Value}(hC:X5 w g l) (d:TypeDesc)
  (hu:P.underlying T=some d) (hd:d.isRow=true) (n:Nat) (hi:(P.info? T).map (·.size)=some n) (hl:l.length=n) (h:wpList P ops Q rest (a.put o.dst (.agg l.toArray)) w):wpList P ops Q (o::rest) a w:=
 wpList_load_mid hgd T x ho g 0 hx l d hC.range hu hd (by rw[hl];exact hi) h
theorem Y7h {fn:Func}{p:Tmp}{T:TypeId}(h:fn.results = #[.cell p T]) (tmps:Array Value) {w:World}{g:Nat}{l:List Value}(d:TypeDesc) (hp:tmps.getD p undef=pz g) (hC:X5 w g l)
  (hu:P.underlying T=some d) (hd:d.isRow=true) (n:Nat) (hi:(P.info? T).map (·.size)=some n) (hl:l.length=n):(results fn tmps).run P w = .ok (.agg l.toArray) w:=by
 rw[←hl] at hi;have hp':tmps[p]?.getD undef=pz g:=by simpa using hp
 simp[results,h,hp',asAddr,run_loadVar_mid w g 0 T l d hC.range hu hd hi]
end
theorem X4.get1 {w:World}{B n k:Nat}{A:Option Addr}{xs:List Value}(h:X4 w B 1 A n xs) (hk:k<n):∃b o v,A=some ⟨b,o,none⟩∧b<B∧xs[k]? = some v∧w.cell? ⟨b,o+k,none⟩=some v:=by
 obtain⟨ad,hA,hb,hc⟩:=h.2 (by omega);have hl:k<xs.length:=by have:=h.1;omega
 have h0:=hc 0 _ (List.getElem?_eq_getElem (by omega));obtain⟨b,o,spot⟩:=ad;have hspot:spot=none:=by
  have:=World.cell?_spot h0
  simpa [Addr.add] using this
 subst hspot;refine⟨b,o,xs[k],hA,hb,List.getElem?_eq_getElem hl, ?_⟩;have:=hc k _ (List.getElem?_eq_getElem hl);rw[Addr.add_mid] at this;exact this
theorem X4.get2 {w:World}{B n k:Nat}{A:Option Addr}{xs:List Value}(h:X4 w B 2 A n xs) (hk:k<n):∃b o,A=some ⟨b,o,none⟩∧b<B∧∀j v,j<2→xs[k*2+j]? = some v→w.cell? ⟨b,o+k*2+j,none⟩=some v:=by
 obtain⟨ad,hA,hb,hc⟩:=h.2 (by omega);have hl:0<xs.length:=by have:=h.1;omega
 have h0:=hc 0 _ (List.getElem?_eq_getElem hl);obtain⟨b,o,spot⟩:=ad;have hspot:spot=none:=by
  have:=World.cell?_spot h0
  simpa [Addr.add] using this
 subst hspot;refine⟨b,o,hA,hb,fun j v hj hv=>?_⟩;have:=hc (k*2+j) _ hv;rw[Addr.add_mid,←Nat.add_assoc] at this;exact this
theorem Y0j {w w':World}{B b o:Nat}{l:List Value}(h:w.rangeAt b o l) (hb:Below B w w') (hlt:b<B):w'.rangeAt b o l:=fun j v hv=>(T6 hb hlt).trans (h j v hv)
end
section
open Go.RowKit
section
variable {P:Program}{ops:Array Oper}{rest:List Oper}{o:Oper}{a:Act}{w:World}{Q:Exit→Act→World→Prop}
theorem N5 (hw:Region.wanted o (yielded ops a.tmps)=true) (d:Nat) (hd:o.dst=some d) (v:Value) (w':World) (hrun:(execOp a.eval o).run P w = .ok (.value v) w')
  (h:wpList P ops Q rest (a.put (some d) v) w'):wpList P ops Q (o::rest) a w:=by
 unfold wpList;rw[if_pos hw]
 left
 unfold Oper.wp;rw[hrun,Oper.upon_value,hd];exact h
theorem P5 (hw:Region.wanted o (yielded ops a.tmps)=false) (d:Nat) (hd:o.dst=some d) (h:wpList P ops Q rest (a.put (some d) undef) w):wpList P ops Q (o::rest) a w:=by
 refine wpList_skip hw ?_;rw[hd];exact h
theorem Z7v (hw:Region.wanted o (yielded ops a.tmps)=true) (d:Nat) (hd:o.dst=some d) (f:FuncId) (args:Array Value) (hrun:(execOp a.eval o).run P w = .ok (.enter f args) w)
  (R:Value→World→Prop) (hc:Calls P f args w fun e w'=>∃v,e = .returned v∧R v w') (h:∀v w',R v w'→wpList P ops Q rest (a.put (some d) v) w'):wpList P ops Q (o::rest) a w:=by
 unfold wpList;rw[if_pos hw]
 left
 unfold Oper.wp;rw[hrun,Oper.upon_enter];refine hc.mono ?_;rintro e w' ⟨v,rfl,hR⟩;rw[hd];exact h v w' hR
end
theorem T0 {o:Oper}(h:o.guard=none) (y:Nat→Option Bool):Region.wanted o y=true:=by simp[Region.wanted,h]
theorem Z4z {o:Oper}{j:Nat}(h:o.guard=some (j,true)) {y:Nat→Option Bool}{b:Bool}(hy:y j=some b):Region.wanted o y=b:=by
 simp only[Region.wanted,h,hy];cases b<;>rfl
theorem J7z {a:Act}{t:Nat}{b:Bool}(h:a.eval (.tmp t) = .bool b):a.tmps[t]? = some (.bool b):=by
 simp only[Act.eval,Array.getD_eq_getD_getElem?] at h;cases e:a.tmps[t]? with
 |none=>rw[e] at h;cases h
 |some v=>rw[e] at h;simpa using h
theorem Z3m {ops:Array Oper}{a:Act}{j d:Nat}{b:Bool}(hj:(ops[j]?).bind (·.dst)=some d) (h:a.eval (.tmp d) = .bool b):yielded ops a.tmps j=some b:=by
 simp[yielded,hj,J7z h]
end
section
open Go.RowKit
section
variable {P:Program}{md:Region.Mode}{ops:Array Oper}{Q:Exit→Act→World→Prop}
theorem Z7w (hback:∀(i:Nat) (o:Oper),ops[i]? = some o→∀e∈o.after,Region.binds md e=true→e.on<i) {listed:Array Bool}(hs:listed.size=ops.size) (h:Region.ready md ops listed=[]):
  ∀i,i<ops.size→listed.getD i false=true:=by
 intro i
 induction i using Nat.strongRecOn with
 |ind i ih=>
  intro hi;rcases hb:listed.getD i false with _ |_
  ·exfalso
   have hm:i∈Region.ready md ops listed:=by
    refine mem_ready.2 ⟨?_,ops[i],Array.getElem?_eq_getElem hi,fun e he hbd=>?_⟩
    ·have hi':i<listed.size:=by omega
     simp only[Array.getD_eq_getD_getElem?,Array.getElem?_eq_getElem hi',Option.getD_some] at hb ⊢;exact hb
    ·have:=hback i ops[i] (Array.getElem?_eq_getElem hi) e he hbd
     exact ih e.on this (by omega)
   rw[h] at hm;cases hm
  ·rfl
theorem Z5a (l:List Bool):∀i,l[i]? = some false→(l.set i true).count false+1=l.count false:=by
 induction l with
 |nil=>intro i h;simp at h
 |cons x l ih=>
  intro i h;cases i with
  |zero=>
   have hx:x=false:=by simpa using h
   subst hx;simp
  |succ i=>
   have:=ih i (by simpa using h);cases x<;>simp<;>omega
theorem V7 {K:Act→World→Prop}{a:Act}{w:World}{i:Nat}{o:Oper}(hi:ops[i]? = some o) (hw:Region.wanted o (yielded ops a.tmps)=true) (d:Nat) (hd:o.dst=some d) (v:Value) (w':World) (hrun:(execOp a.eval o).run P w = .ok (.value v) w')
  (h:K (a.put (some d) v) w'):wpOp P ops Q i K a w:=by
 simp only[wpOp,hi];rw[if_pos hw]
 left
 unfold Oper.wp;rw[hrun,Oper.upon_value,hd];exact h
theorem Y3z {K:Act→World→Prop}{a:Act}{w:World}{i:Nat}{o:Oper}(hi:ops[i]? = some o) (hw:Region.wanted o (yielded ops a.tmps)=true) (hd:o.dst=none) (w':World) (hrun:(execOp a.eval o).run P w = .ok .skip w')
  (h:K a w'):wpOp P ops Q i K a w:=by
 simp only[wpOp,hi];rw[if_pos hw]
 left
 unfold Oper.wp;rw[hrun,Oper.upon_skip,hd];exact h
theorem Y4y {K:Act→World→Prop}{a:Act}{w:World}{i:Nat}{o:Oper}(hi:ops[i]? = some o) (hw:Region.wanted o (yielded ops a.tmps)=false) (h:K (a.put o.dst undef) w):wpOp P ops Q i K a w:=by
 simp only[wpOp,hi];rw[if_neg (by rw[hw];decide)];exact h
theorem D0 {K:Act→World→Prop}{a:Act}{w:World}{i:Nat}{o:Oper}(hi:ops[i]? = some o) (hw:Region.wanted o (yielded ops a.tmps)=true) (d:Nat) (hd:o.dst=some d) (f:FuncId) (args:Array Value)
  (hrun:(execOp a.eval o).run P w = .ok (.enter f args) w) (R:Value→World→Prop) (hc:Calls P f args w fun e w'=>∃v,e = .returned v∧R v w') (h:∀v w',R v w'→K (a.put (some d) v) w'):wpOp P ops Q i K a w:=by
 simp only[wpOp,hi];rw[if_pos hw]
 left
 unfold Oper.wp;rw[hrun,Oper.upon_enter];refine hc.mono ?_;rintro e w' ⟨v,rfl,hR⟩;rw[hd];exact h v w' hR
end
theorem Z3c {listed:Array Bool}{i j:Nat}(h:(listed.setIfInBounds i true).getD j false=true):j=i∨listed.getD j false=true:=by
 by_cases e:i=j
 ·exact .inl e.symm
 ·rw[getD_set_ne false e] at h
  exact .inr h
theorem X2a {α:Type}{f:α→Nat}:∀{l:List α},(l.map f).Nodup→∀x∈l,∀y∈l,f x=f y→x=y
 |[],_,_,h,_,_,_=>by cases h
 |z::l,hn,x,hx,y,hy,e=>by
  rw[List.map_cons,List.nodup_cons] at hn;rcases List.mem_cons.1 hx with hx1 |hx1
  ·rcases List.mem_cons.1 hy with hy1 |hy1
   ·rw[hx1,hy1]
   ·exact absurd (show f z∈l.map f by rw[←hx1,e];exact List.mem_map_of_mem hy1) hn.1
  ·rcases List.mem_cons.1 hy with hy1 |hy1
   ·exact absurd (show f z∈l.map f by rw[←hy1,←e];exact List.mem_map_of_mem hx1) hn.1
   ·exact X2a hn.2 x hx1 y hy1 e
theorem U2 {l:List Oper}{i:Nat}{o p:Oper}(h:l.toArray[i]? = some o) (hp:l[i]? = some p):p=o:=by
 rw[List.getElem?_toArray,hp] at h;exact Option.some.inj h
theorem ma {α:Type}{l:List α}(i:Nat) {t:α}(h:l[i]? = some t):t∈l:=List.mem_of_getElem? h
end
section
open Go.RowKit
section
variable {P:Program}{ops:Array Oper}{Q:Exit→Act→World→Prop}{K:Act→World→Prop}{a:Act}{w:World}{i:Nat}{o:Oper}
theorem Y2h (hi:ops[i]? = some o) (hw:Region.wanted o (yielded ops a.tmps)=true) (hd:o.dst=none) (T:TypeId) (x y:Operand) (ho:o.op = .store T x y) (g:Nat) (hx:a.eval x=pz g) (l:List Value) (hy:a.eval y = .agg l.toArray)
  {l0:List Value}(hC:X5 w g l0) (n:Nat) (hn:(P.info? T).map (·.size)=some n) (hl0:l0.length=n) (hl1:l.length=n) (h1:l.all (·.oneCell')=true)
  (h:∀w',w.grownBy w' (some g)→w'.heap.size=w.heap.size→X5 w' g l→K a w'):wpOp P ops Q i K a w:=by
 simp only[wpOp,hi];rw[if_pos hw];have ht:=hC.there;rw[hl0,←hl1] at ht;rw[←hl1] at hn;refine .inl (wp_store_mid T x y ho g 0 l.toArray hx hy (by simpa using ht) (by simpa using hn) (all_oneCell_toArray fun v hv=>List.all_eq_true.1 h1 v hv) ?_);obtain⟨hO,hG⟩:=D3 g l 0 w;rw[hd];refine h _ hG hO.size ?_;intro j v hv;have hj:j<l.length:=(List.getElem?_eq_some_iff.1 hv).1;have hrr:=World.rangeAt_setCells_same w g 0 l ht j v hv;rw[Nat.zero_add] at hrr;have hf:=(Y1d l ht j hj).2;rw[Nat.zero_add] at hf;exact⟨hrr,hf⟩
end
theorem Z3d (k i:Nat):(Array.replicate k false).getD i false=false:=by
 rw[Array.getD_eq_getD_getElem?,Array.getElem?_replicate]
 split<;>rfl
end
section
open Go.RowKit
theorem J8a {f:Array Edge}{j:Nat}(h:f.toList.any (fun e=>Region.binds .any e&&e.on==j)=true):∃e∈f,Region.binds .any e=true∧e.on=j:=by
 obtain⟨e,he,h⟩:=List.any_eq_true.1 h;simp only[Bool.and_eq_true,beq_iff_eq] at h;exact⟨e,by simpa using he,h.1,h.2⟩
theorem Z6i {ops:Array Oper}(h:(List.range ops.size).all (fun i=>match ops[i]? with |some o=>o.after.all (fun e=> !Region.binds .any e||decide (e.on<i)) |none=>true)=true):
  ∀(i:Nat) (o:Oper),ops[i]? = some o→∀e∈o.after,Region.binds .any e=true→e.on<i:=by
 intro i o ho e he hb;have hi:i<ops.size:=(Array.getElem?_eq_some_iff.1 ho).1;have:=List.all_eq_true.1 h i (List.mem_range.2 hi);rw[ho] at this
 simpa [hb] using Array.all_eq_true'.1 this e he
theorem Y4z {o:Oper}{j:Nat}(h:o.guard=some (j,false)) {y:Nat→Option Bool}{b:Bool}(hy:y j=some b):Region.wanted o y = !b:=by
 simp only[Region.wanted,h,hy];cases b<;>rfl
def Y5a (b:Bool) (j:Nat) (v:Value) (l:List Value):List Value:=if b then l.set j v else l
theorem J3i {b:Bool}{i j:Nat}(h:i≠j) (v u:Value) (l:List Value):(Y5a b j v l).set i u=Y5a b j v (l.set i u):=by
 unfold Y5a
 split
 ·rw[List.set_comm _ _ (Ne.symm h)]
 ·rfl
theorem Z4p {b:Bool}{j:Nat}{v:Value}{l:List Value}:(Y5a b j v l).length=l.length:=by
 unfold Y5a
 split<;>simp
theorem Z8q (listed:Array Bool) {i k:Nat}(h:i≠k):(listed.setIfInBounds i true).getD k false=listed.getD k false:=getD_set_ne false h
theorem Z8r (listed:Array Bool) {i:Nat}(h:i<listed.size):(listed.setIfInBounds i true).getD i false=true:=by
 simp[h]
end
section
open Go.RowKit
theorem gz {o:Oper}{y:Nat→Option Bool}(h:o.guard=none:=by rfl):Region.wanted o y=true:=T0 h y
theorem nt {P:Program}{ops:Array Oper}{next:Act→World→Prop}{Q:Exit→Act→World→Prop}{a:Act}{w:World}(h:next a w):wpList P ops (Exit.then next Q) [] a w:=wpList_nil h
def Y2i:List (Nat×Value)→Nat→Option Value
 |[],_=>none
 |(j,v)::l,k=>bif Nat.beq j k then some v else Y2i l k
def W1 (l:List (Nat×Value)):Operand→Option Value
 | .tmp t=>Y2i l t
 | .const v=>some v
 | .global g=>some (pz g)
 | .func f=>some (.func (.func f) #[] #[])
def Y1f (l:List (Nat×Value)):List Operand→Option (List Value)
 |[]=>some []
 |x::xs=>match W1 l x,Y1f l xs with
  |some v,some vs=>some (v::vs)
  |_,_=>none
structure Z9 (a:Act) (n:Nat) (l:List (Nat×Value)):Prop where
 sz:a.tmps.size=n
 df:a.defers=[]
 at_:∀k v,Y2i l k=some v→a.eval (.tmp k)=v
def W7 (a:Act):List (Nat×Value)→Prop
 |[]=>True
 |p::l=>a.eval (.tmp p.1)=p.2∧W7 a l
def J3j (l:List (Nat×Value)):List (Nat×Value)→Prop
 |[]=>True
 |p::l'=>Y2i l p.1=some p.2∧J3j l l'
section
variable {a:Act}{n:Nat}{l:List (Nat×Value)}
theorem Z9.of (hz:a.tmps.size=n) (hd:a.defers=[]) (h:W7 a l):Z9 a n l:=by
 refine⟨hz,hd, ?_⟩
 induction l with
 |nil=>intro k v e;cases e
 |cons p l ih=>
  obtain⟨j,u⟩:=p;intro k v e;simp only[Y2i] at e;cases hb:Nat.beq j k with
  |true=>
   rw[hb,cond_true] at e;injection e with e
   have:=Nat.eq_of_beq_eq_true hb;subst this;subst e;exact h.1
  |false=>
   rw[hb,cond_false] at e;exact ih h.2 k v e
theorem Z9.keep {l':List (Nat×Value)}(h:Z9 a n l) (hk:J3j l l'):Z9 a n l':=by
 refine Z9.of h.sz h.df ?_
 induction l' with
 |nil=>trivial
 |cons p l' ih=>exact⟨h.at_ _ _ hk.1,ih hk.2⟩
theorem Z9.ev (h:Z9 a n l) {x:Operand}{v:Value}(hx:W1 l x=some v):a.eval x=v:=by
 cases x with
 |tmp t=>exact h.at_ t v hx
 |const u=>injection hx
 |global g=>injection hx
 |func f=>injection hx
theorem Z9.evs (h:Z9 a n l):∀{xs:List Operand}{vs:List Value},Y1f l xs=some vs→xs.map a.eval=vs
 |[],vs,hx=>by
  cases hx;rfl
 |x::xs,vs,hx=>by
  unfold Y1f at hx
  split at hx
  ·next v vs' h1 h2=>
   injection hx with hx
   rw[List.map_cons,h.ev h1,h.evs h2,hx]
  ·cases hx
theorem Z9.put (h:Z9 a n l) {d:Nat}(hd:Nat.blt d n=true) (v:Value):Z9 (a.put (some d) v) n ((d,v)::l):=by
 refine⟨by rw[Act.size_put,h.sz],by rw[Act.defers_put',h.df],fun k u e=>?_⟩;simp only[Y2i] at e;cases hb:Nat.beq d k with
 |true=>
  rw[hb,cond_true] at e;injection e with e
  have:=Nat.eq_of_beq_eq_true hb;subst this;subst e;exact Act.eval_put_same _ _ _ (by rw[h.sz];simpa [Nat.blt_eq] using hd)
 |false=>
  rw[hb,cond_false] at e;rw[Act.eval_put_ne _ _ _ _ (by intro e2;subst e2;rw[Nat.beq_refl] at hb;cases hb)];exact h.at_ k u e
theorem Z9.start {P:Program}{c:Code}{Q:Exit→Act→World→Prop}{w:World}(n:Nat) (l:List (Nat×Value)) (hz:a.tmps.size=n) (hd:a.defers=[]) (h:W7 a l) (k:∀a,Z9 a n l→c.wp P Q a w):c.wp P Q a w:=
 k a (Z9.of hz hd h)
end
theorem Z0 {next:Act→World→Prop}{Q:Exit→Act→World→Prop}{a:Act}{w:World}(h:next a w):Exit.then next Q .normal a w:=h
section
variable {P:Program}{ops:Array Oper}{rest:List Oper}{o:Oper}{a:Act}{w:World}{Q:Exit→Act→World→Prop}{n:Nat}{l:List (Nat×Value)}
theorem Z9.go (H:Z9 a n l) (hw:Region.wanted o (yielded ops a.tmps)=true) {d:Nat}(hd:o.dst=some d) (hn:Nat.blt d n=true) (v:Value) {w':World}(hrun:(execOp a.eval o).run P w = .ok (.value v) w')
  (h:∀a',Z9 a' n ((d,v)::l)→wpList P ops Q rest a' w'):wpList P ops Q (o::rest) a w:=
 N5 hw d hd v w' hrun (h _ (H.put hn v))
theorem Z9.run0 (H:Z9 a n l) (hw:Region.wanted o (yielded ops a.tmps)=true) (hd:o.dst=none) {w':World}(hrun:(execOp a.eval o).run P w = .ok .skip w')
  (h:∀a',Z9 a' n l→wpList P ops Q rest a' w'):wpList P ops Q (o::rest) a w:=by
 unfold wpList;rw[if_pos hw]
 left
 unfold Oper.wp;rw[hrun,Oper.upon_skip,hd];exact h a H
theorem Z9.wt (H:Z9 a n l) {j d:Nat}{b:Bool}(hg:o.guard=some (j,b)) (hj:(ops[j]?).bind (·.dst)=some d) (hv:Y2i l d=some (.bool b)):Region.wanted o (yielded ops a.tmps)=true:=by
 have hy:=Z3m hj (H.at_ d _ hv);cases b with
 |true=>exact Z4z hg hy
 |false=>rw[Y4z hg hy];rfl
theorem Z9.wf (H:Z9 a n l) {j d:Nat}{b:Bool}(hg:o.guard=some (j,b)) (hj:(ops[j]?).bind (·.dst)=some d) (hv:Y2i l d=some (.bool !b)):Region.wanted o (yielded ops a.tmps)=false:=by
 have hy:=Z3m hj (H.at_ d _ hv);cases b with
 |true=>exact Z4z hg hy
 |false=>rw[Y4z hg hy];rfl
theorem Z9.off (H:Z9 a n l) {j d k:Nat}{b:Bool}(hg:o.guard=some (j,b)) (hj:(ops[j]?).bind (·.dst)=some d) (hv:Y2i l d=some (.bool !b)) (hd:o.dst=some k) (hn:Nat.blt k n=true)
  (h:∀a',Z9 a' n ((k,undef)::l)→wpList P ops Q rest a' w):wpList P ops Q (o::rest) a w:=
 P5 (Z9.wf H hg hj hv) k hd (h _ (H.put hn undef))
theorem Z9.field (H:Z9 a n l) (hw:Region.wanted o (yielded ops a.tmps)=true) {S f d g off:Nat}{x:Operand}(ho:o.op = .fieldAddr S x f) (hd:o.dst=some d) (hn:Nat.blt d n=true) (hx:W1 l x=some (pz g))
  (hf:∀g w,(Instr.fieldAt S (pz g) f).run P w = .ok (.pointer (some ⟨g,off,none⟩)) w) (h:∀a',Z9 a' n ((d, .pointer (some ⟨g,off,none⟩))::l)→wpList P ops Q rest a' w):wpList P ops Q (o::rest) a w:=by
 refine H.go hw hd hn _ ?_ h;unfold execOp;simp only[ho,H.ev hx,Sem.run_bind,hf,Result.andThen_ok,Sem.run_pure]
theorem Z9.load (H:Z9 a n l) (hw:Region.wanted o (yielded ops a.tmps)=true) {T d:Nat}{x:Operand}{p v:Value}(ho:o.op = .load T x) (hd:o.dst=some d) (hn:Nat.blt d n=true) (hx:W1 l x=some p) (hl:(Instr.loadAt T p).run P w = .ok v w)
  (h:∀a',Z9 a' n ((d,v)::l)→wpList P ops Q rest a' w):wpList P ops Q (o::rest) a w:=by
 refine H.go hw hd hn _ ?_ h;unfold execOp;simp only[ho,H.ev hx,Sem.run_bind,hl,Result.andThen_ok,Sem.run_pure]
theorem Z9.store (H:Z9 a n l) (hw:Region.wanted o (yielded ops a.tmps)=true) {T:Nat}{x y:Operand}{p v:Value}{w':World}(ho:o.op = .store T x y) (hd:o.dst=none) (hx:W1 l x=some p) (hy:W1 l y=some v) (hl:(Instr.storeAt T p v).run P w = .ok () w')
  (h:∀a',Z9 a' n l→wpList P ops Q rest a' w'):wpList P ops Q (o::rest) a w:=by
 refine H.run0 hw hd (w':=w') ?_ h;unfold execOp;simp only[ho,H.ev hx,H.ev hy,Sem.run_bind,hl,Result.andThen_ok,Sem.run_pure]
theorem Z9.loadS (H:Z9 a n l) (hgd:o.guard=none) {T d g:Nat}{x:Operand}{L:List Value}(ho:o.op = .load T x) (hd:o.dst=some d) (hn:Nat.blt d n=true) (hx:W1 l x=some (pz g)) (hC:X5 w g L) {du:TypeDesc}
  (hu:P.underlying T=some du) (hr:du.isRow=true) {m:Nat}(hi:(P.info? T).map (·.size)=some m) (hl:L.length=m) (h:∀a',Z9 a' n ((d, .agg L.toArray)::l)→wpList P ops Q rest a' w):wpList P ops Q (o::rest) a w:=
 Y1e hgd T x ho g (H.ev hx) hC du hu hr m hi hl (by rw[hd];exact h _ (H.put hn _))
theorem Z9.storeS (H:Z9 a n l) (hgd:o.guard=none) {T g:Nat}{x y:Operand}{L L0:List Value}(ho:o.op = .store T x y) (hd:o.dst=none) (hx:W1 l x=some (pz g)) (hy:W1 l y=some (.agg L.toArray)) (hC:X5 w g L0)
  {m:Nat}(hi:(P.info? T).map (·.size)=some m) (hl0:L0.length=m) (hl1:L.length=m) (h1:L.all (·.oneCell')=true)
  (h:∀a' w',Z9 a' n l→w.grownBy w' (some g)→w'.heap.size=w.heap.size→X5 w' g L→wpList P ops Q rest a' w'):wpList P ops Q (o::rest) a w:=
 Y0i hgd T x y ho g (H.ev hx) L (H.ev hy) hC m hi hl0 hl1 h1 (fun w' hg hs hC'=>by rw[hd];exact h a w' H hg hs hC')
theorem Z9.move (H:Z9 a n l) (hw:Region.wanted o (yielded ops a.tmps)=true) {d:Nat}{x:Operand}{v:Value}(ho:o.op = .move x∨o.op = .assign x) (hd:o.dst=some d) (hn:Nat.blt d n=true) (hx:W1 l x=some v)
  (h:∀a',Z9 a' n ((d,v)::l)→wpList P ops Q rest a' w):wpList P ops Q (o::rest) a w:=by
 refine H.go hw hd hn _ ?_ h;rw[←H.ev hx];unfold execOp;rcases ho with ho |ho<;>simp only[ho]<;>rfl
theorem Z9.pick (H:Z9 a n l) (hw:Region.wanted o (yielded ops a.tmps)=true) {d:Nat}{c x y:Operand}{b:Bool}{v:Value}(ho:o.op = .pick c x y) (hd:o.dst=some d) (hn:Nat.blt d n=true) (hc:W1 l c=some (.bool b)) (hx:(if b then W1 l x else W1 l y)=some v)
  (h:∀a',Z9 a' n ((d,v)::l)→wpList P ops Q rest a' w):wpList P ops Q (o::rest) a w:=by
 refine H.go hw hd hn _ ?_ h;unfold execOp;simp only[ho,H.ev hc];cases b with
 |true=>rw[if_pos rfl] at hx;rw[←H.ev hx];rfl
 |false=>rw[if_neg (by decide)] at hx;rw[←H.ev hx];rfl
theorem Z9.bin (H:Z9 a n l) (hw:Region.wanted o (yielded ops a.tmps)=true) {d:Nat}{b:BinOp}{T T':TypeId}{x y:Operand}{u v r:Value}(ho:o.op = .binOp b T x y T') (hd:o.dst=some d) (hn:Nat.blt d n=true) (hx:W1 l x=some u) (hy:W1 l y=some v)
  (hq:(do eqGuard b T x y u v;binOp b T u v:Sem Value).run P w = .ok r w) (h:∀a',Z9 a' n ((d,r)::l)→wpList P ops Q rest a' w):wpList P ops Q (o::rest) a w:=by
 refine H.go hw hd hn r ?_ h;unfold execOp;rw[Sem.run_bind] at hq;simp only[ho,H.ev hx,H.ev hy,Sem.run_bind,hq,Result.andThen_ok,Sem.run_pure]
theorem Z9.un (H:Z9 a n l) (hw:Region.wanted o (yielded ops a.tmps)=true) {d:Nat}{b:UnOp}{T:TypeId}{x:Operand}{u r:Value}(ho:o.op = .unOp b T x) (hd:o.dst=some d) (hn:Nat.blt d n=true) (hx:W1 l x=some u)
  (hq:(Op.unary b u).run P w = .ok r w) (h:∀a',Z9 a' n ((d,r)::l)→wpList P ops Q rest a' w):wpList P ops Q (o::rest) a w:=by
 refine H.go hw hd hn r ?_ h;unfold execOp;simp only[ho,H.ev hx,Sem.run_bind,hq,Result.andThen_ok,Sem.run_pure]
theorem Z9.conv (H:Z9 a n l) (hw:Region.wanted o (yielded ops a.tmps)=true) {d:Nat}{T T':TypeId}{x:Operand}{u r:Value}{w':World}(ho:o.op = .convert T T' x) (hd:o.dst=some d) (hn:Nat.blt d n=true) (hx:W1 l x=some u)
  (hq:(convert T T' u).run P w = .ok r w') (h:∀a',Z9 a' n ((d,r)::l)→wpList P ops Q rest a' w'):wpList P ops Q (o::rest) a w:=by
 refine H.go hw hd hn r (w':=w') ?_ h;unfold execOp;simp only[ho,H.ev hx,Sem.run_bind,hq,Result.andThen_ok,Sem.run_pure]
theorem Z9.extract (H:Z9 a n l) (hw:Region.wanted o (yielded ops a.tmps)=true) {d i:Nat}{x:Operand}{u r:Value}(ho:o.op = .extract x i) (hd:o.dst=some d) (hn:Nat.blt d n=true) (hx:W1 l x=some u)
  (hq:(Instr.extract u i).run P w = .ok r w) (h:∀a',Z9 a' n ((d,r)::l)→wpList P ops Q rest a' w):wpList P ops Q (o::rest) a w:=by
 refine H.go hw hd hn r ?_ h;unfold execOp;simp only[ho,H.ev hx,Sem.run_bind,hq,Result.andThen_ok,Sem.run_pure]
theorem Z9.call (H:Z9 a n l) (hw:Region.wanted o (yielded ops a.tmps)=true) {d:Nat}{f:FuncId}{xs:Array Operand}{ats:Array TypeId}{vs:List Value}(ho:o.op = .call { callee:=.value (.func f),args:=xs,argTypes:=ats }) (hd:o.dst=some d) (hn:Nat.blt d n=true) (hx:Y1f l xs.toList=some vs)
  (hen:∀(args:Array Value) (w:World),(callFunc f args).run P w = .ok (.enter f args) w) {R:Value→World→Prop}(hc:Calls P f vs.toArray w fun e w'=>∃v,e = .returned v∧R v w')
  (h:∀a' v w',R v w'→Z9 a' n ((d,v)::l)→wpList P ops Q rest a' w'):wpList P ops Q (o::rest) a w:=by
 refine Z7v hw d hd f vs.toArray ?_ R hc (fun v w' hR=>h _ v w' hR (H.put hn v));have e:xs.map a.eval=vs.toArray:=by
  rw[←H.evs hx,←Array.toList_map,Array.toArray_toList]
 have:execOp a.eval o=callFunc f (xs.map a.eval):=by
  obtain⟨dst,op,ty,pos,after,guard⟩:=o;have ho':op = .call { callee:=.value (.func f),args:=xs,argTypes:=ats }:=ho;subst ho';rw[execOp_call_go];simp
 rw[this,hen,e]
theorem Z9.alloc (H:Z9 a n l) (hgd:o.guard=none) {T d:Nat}(ho:o.op = .alloc T) (hd:o.dst=some d) (hn:Nat.blt d n=true) (L:List Value) (hz:∀w,(zeroValue T).run P w = .ok (.agg L.toArray) w)
  (h:∀a' w',Below w.heap.size w w'→w'.heap.size=w.heap.size+1→X5 w' w.heap.size L→Z9 a' n ((d,pz w.heap.size)::l)→wpList P ops Q rest a' w'):wpList P ops Q (o::rest) a w:=
 Y0h hgd T ho L hz w.heap.size rfl (fun w' hb hs hC=>by rw[hd];exact h _ w' hb hs hC (H.put hn _))
theorem Z9.box (H:Z9 a n l) (hgd:o.guard=none) {T d:Nat}{x:Operand}{L:List Value}(ho:o.op = .box T x) (hd:o.dst=some d) (hn:Nat.blt d n=true) (hx:W1 l x=some (.agg L.toArray))
  (h:∀a' w',Below w.heap.size w w'→w'.heap.size=w.heap.size+1→X5 w' w.heap.size L→Z9 a' n ((d,pz w.heap.size)::l)→wpList P ops Q rest a' w'):wpList P ops Q (o::rest) a w:=
 Y8 hgd T x ho L (H.ev hx) w.heap.size rfl (fun w' hb hs hC=>by rw[hd];exact h _ w' hb hs hC (H.put hn _))
theorem Z9.any (H:Z9 a n l) (hw:Region.wanted o (yielded ops a.tmps)=true) {d:Nat}(hd:o.dst=some d) (hn:Nat.blt d n=true) (v:Value) {w':World}(hs:∀cs b,o.op ≠ .select cs b) (hk:o.op.operands.all (fun x=>(W1 l x).isSome)=true)
  (hrun:(execOp (fun x=>(W1 l x).getD undef) o).run P w = .ok (.value v) w') (h:∀a',Z9 a' n ((d,v)::l)→wpList P ops Q rest a' w'):wpList P ops Q (o::rest) a w:=by
 refine H.go hw hd hn v ?_ h;rw[←hrun]
 congr 1
 refine execOp_congr o hs (fun x hx=>?_);obtain⟨u,hu⟩:=Option.isSome_iff_exists.1 (Array.all_eq_true'.1 hk x hx);rw[H.ev hu,hu];rfl
theorem Z9.cond (H:Z9 a n l) {c:Operand}{x y:Code}{t:Bool}(hc:W1 l c=some (.bool t)) (h:(if t then x else y).wp P Q a w):(Code.cond c x y).wp P Q a w:=wp_cond (H.ev hc) h
end
theorem Z9.condT {P:Program}{a:Act}{w:World}{Q:Exit→Act→World→Prop}{n:Nat}{l:List (Nat×Value)}(H:Z9 a n l) {c:Operand}{x y:Code}(hc:W1 l c=some (.bool true)) (h:x.wp P Q a w):(Code.cond c x y).wp P Q a w:=wp_cond_true (H.ev hc) h
theorem Z9.condF {P:Program}{a:Act}{w:World}{Q:Exit→Act→World→Prop}{n:Nat}{l:List (Nat×Value)}(H:Z9 a n l) {c:Operand}{x y:Code}(hc:W1 l c=some (.bool false)) (h:y.wp P Q a w):(Code.cond c x y).wp P Q a w:=wp_cond_false (H.ev hc) h
theorem Z6 {id:Nat}{Q:Exit→Act→World→Prop}{a:Act}{w:World}(h:Q .normal a w):Exit.inBlock id Q .normal a w:=h
theorem Z4 {id:Nat}{Q:Exit→Act→World→Prop}{a:Act}{w:World}(h:Q .ret a w):Exit.inBlock id Q .ret a w:=h
theorem Z5 {next:Act→World→Prop}{Q:Exit→Act→World→Prop}{a:Act}{w:World}(h:Q .ret a w):Exit.then next Q .ret a w:=h
theorem Z3 {P:Program}{a:Act}{w:World}{Q:Exit→Act→World→Prop}(h:Q .normal a w):Code.skip.wp P Q a w:=wp_skip h
structure X0 (W:World) (B:Nat) (bs:List (Nat×List Value)) (w:World):Prop where
 bel:Below B W w
 le:B≤w.heap.size
 nd:(bs.map (·.1)).Nodup
 mem:∀p∈bs,B≤p.1∧p.1<w.heap.size∧X5 w p.1 p.2
section
variable {W w w':World}{B:Nat}{bs:List (Nat×List Value)}
theorem X0.start (W:World):X0 W W.heap.size [] W:=⟨Below.refl _ _,Nat.le_refl _,by simp,fun p hp=>by cases hp⟩
theorem X0.call (h:X0 W B bs w) (hb:Below w.heap.size w w'):X0 W B bs w':=
 ⟨h.bel.trans (hb.mono h.le),Nat.le_trans h.le hb.size,h.nd,fun p hp=>⟨(h.mem p hp).1,Nat.lt_of_lt_of_le (h.mem p hp).2.1 hb.size,(h.mem p hp).2.2.below hb (h.mem p hp).2.1⟩⟩
theorem X0.drew (h:X0 W B bs w):X0 W B bs w.drew:=h.call (Below.drew (Below.refl _ _))
theorem X0.alloc (h:X0 W B bs w) (hb:Below w.heap.size w w') (hs:w'.heap.size=w.heap.size+1) {L:List Value}(hC:X5 w' w.heap.size L):X0 W B ((w.heap.size,L)::bs) w':=by
 refine⟨h.bel.trans (hb.mono h.le),Nat.le_trans h.le hb.size, ?_,fun p hp=>?_⟩
 ·rw[List.map_cons,List.nodup_cons]
  refine⟨fun hm=>?_,h.nd⟩;obtain⟨p,hp,e⟩:=List.mem_map.1 hm;have:=(h.mem p hp).2.1;omega
 ·rcases List.mem_cons.1 hp with rfl |hp
  ·exact⟨h.le,by rw[hs];exact Nat.lt_succ_self _,hC⟩
  ·exact⟨(h.mem p hp).1,Nat.lt_of_lt_of_le (h.mem p hp).2.1 hb.size,(h.mem p hp).2.2.below hb (h.mem p hp).2.1⟩
theorem X0.get (h:X0 W B bs w) (i:Nat) {g:Nat}{L:List Value}(hi:bs[i]? = some (g,L)):X5 w g L:=(h.mem _ (List.mem_of_getElem? hi)).2.2
theorem X0.lt (h:X0 W B bs w) (i:Nat) {g:Nat}{L:List Value}(hi:bs[i]? = some (g,L)):g<w.heap.size:=(h.mem _ (List.mem_of_getElem? hi)).2.1
theorem X0.ge (h:X0 W B bs w) (i:Nat) {g:Nat}{L:List Value}(hi:bs[i]? = some (g,L)):B≤g:=(h.mem _ (List.mem_of_getElem? hi)).1
theorem Y2j:∀{l:List Nat},l.Nodup→∀{i j x:Nat},l[i]? = some x→l[j]? = some x→i=j
 |[],_,i,j,x,hi,_=>by simp at hi
 |y::l,h,i,j,x,hi,hj=>by
  rw[List.nodup_cons] at h;cases i with
  |zero=>
   cases j with
   |zero=>rfl
   |succ j=>
    simp only[List.getElem?_cons_zero,Option.some.injEq] at hi;subst hi;exact absurd (List.mem_of_getElem? (by simpa using hj)) h.1
  |succ i=>
   cases j with
   |zero=>
    simp only[List.getElem?_cons_zero,Option.some.injEq] at hj;subst hj;exact absurd (List.mem_of_getElem? (by simpa using hi)) h.1
   |succ j=>exact congrArg (· + 1) (Y2j h.2 (by simpa using hi) (by simpa using hj))
theorem X0.store (h:X0 W B bs w) (i:Nat) {g:Nat}{L L':List Value}(hi:bs[i]? = some (g,L)) (hg:w.grownBy w' (some g)) (hs:w'.heap.size=w.heap.size) (hC:X5 w' g L'):X0 W B (bs.set i (g,L')) w':=by
 have hgB:=h.ge i hi;have hglt:=h.lt i hi;have hli:i<bs.length:=(List.getElem?_eq_some_iff.1 hi).1;have hmap:(bs.set i (g,L')).map (·.1)=bs.map (·.1):=by
  apply List.ext_getElem?;intro j;rw[List.getElem?_map,List.getElem?_map,List.getElem?_set];by_cases e:i=j
  ·subst e
   simp only[if_true,hli,hi,Option.map_some]
  ·rw[if_neg e]
 refine⟨h.bel.grown hg h.le (fun k hk=>by injection hk with hk;rw[←hk];exact hgB),by rw[hs];exact h.le,by rw[hmap];exact h.nd,fun p hp=>?_⟩;obtain⟨j,hj⟩:=List.getElem?_of_mem hp;rw[List.getElem?_set] at hj;by_cases e:i=j
 ·rw[if_pos e,if_pos hli] at hj
  injection hj with hj
  subst hj;exact⟨hgB,by rw[hs];exact hglt,hC⟩
 ·rw[if_neg e] at hj
  have hm:=h.mem p (List.mem_of_getElem? hj);refine⟨hm.1,by rw[hs];exact hm.2.1,hm.2.2.kept hg hm.2.1 (fun e2=>e ?_)⟩;injection e2 with e2
  have h1:(bs.map (·.1))[i]? = some g:=by rw[List.getElem?_map,hi];rfl
  have h2:(bs.map (·.1))[j]? = some g:=by rw[List.getElem?_map,hj,←e2];rfl
  exact Y2j h.nd h1 h2
end
theorem Z9.storeC {P:Program}{ops:Array Oper}{rest:List Oper}{o:Oper}{a:Act}{w W:World}{B:Nat}{bs:List (Nat×List Value)}{Q:Exit→Act→World→Prop}{n:Nat}{l:List (Nat×Value)}(H:Z9 a n l) (hO:X0 W B bs w) (i:Nat) {g j:Nat}{L:List Value}(hi:bs[i]? = some (g,L))
  (hw:Region.wanted o (yielded ops a.tmps)=true) {T:Nat}{x y:Operand}{v:Value}(ho:o.op = .store T x y) (hd:o.dst=none) (hx:W1 l x=some (.pointer (some ⟨g,j,none⟩))) (hy:W1 l y=some v) (hj:Nat.blt j L.length=true)
  (hst:∀u,w.cell? ⟨g,j,none⟩=some u→w.frozen? ⟨g,j,none⟩=false→(Instr.storeAt T (.pointer (some ⟨g,j,none⟩)) v).run P w = .ok () (w.setCell ⟨g,j,none⟩ v))
  (h:∀a' w',Z9 a' n l→X0 W B (bs.set i (g,L.set j v)) w'→wpList P ops Q rest a' w'):wpList P ops Q (o::rest) a w:=by
 have hj':j<L.length:=by simpa [Nat.blt_eq] using hj
 have hC:=hO.get i hi;obtain⟨c1,c2⟩:=hC j _ (List.getElem?_eq_getElem hj');refine H.store hw ho hd hx hy (hst _ c1 c2) (fun a' H'=>h a' _ H' ?_);exact hO.store i hi (X7 w g j v) (V1 _ _ _) (hC.set j v hj')
theorem Z6t {P:Program}{f:FuncId}{args:Array Value}{w:World}{v:Value}(h:Calls P f args w fun e w'=>e = .returned v∧w=w'):Calls P f args w fun e w'=>∃v',e = .returned v'∧(v'=v∧w=w'):=
 h.mono fun _ _ h=>⟨v,h.1,rfl,h.2⟩
theorem Z1f {P:Program}{f:FuncId}{args:Array Value}{w:World}{v:Value}(h:Calls P f args w fun e w'=>e = .returned v∧Below w.heap.size w w'):Calls P f args w fun e w'=>∃v',e = .returned v'∧(v'=v∧Below w.heap.size w w'):=
 h.mono fun _ _ h=>⟨v,h.1,rfl,h.2⟩
end
section
open Go.RowKit
theorem J9 (g o:Nat) (v:Int) (w:World) (h:w.cell? ⟨g,o,none⟩=some (iz v)):(Instr.loadAt 3 (.pointer (some ⟨g,o,none⟩))).run Tryz.prog w = .ok (iz v) w:=by
 simp[go_sem,h]
theorem V0 (g o:Nat) (v:Bool) (w:World) (h:w.cell? ⟨g,o,none⟩=some (.bool v)):(Instr.loadAt 4 (.pointer (some ⟨g,o,none⟩))).run Tryz.prog w = .ok (.bool v) w:=by
 simp[go_sem,h]
theorem G1 (g o:Nat) (v:ByteArray) (w:World) (h:w.cell? ⟨g,o,none⟩=some (.string v)):(Instr.loadAt 9 (.pointer (some ⟨g,o,none⟩))).run Tryz.prog w = .ok (.string v) w:=by
 simp[go_sem,h]
theorem N8 (u v:Int) (x y:Operand) (w:World):(do eqGuard .eql 3 x y (iz u) (iz v);binOp .eql 3 (iz u) (iz v):Sem Value).run Tryz.prog w = .ok (.bool (u==v)) w:=by
 simp[go_sem]
theorem Z8i (u v:Bool) (x y:Operand) (w:World):(do eqGuard .eql 4 x y (.bool u) (.bool v);binOp .eql 4 (.bool u) (.bool v):Sem Value).run Tryz.prog w = .ok (.bool (u==v)) w:=by
 simp[go_sem]
theorem Z8j (u v:ByteArray) (x y:Operand) (w:World):(do eqGuard .eql 9 x y (.string u) (.string v);binOp .eql 9 (.string u) (.string v):Sem Value).run Tryz.prog w = .ok (.bool (u.toList==v.toList)) w:=by
 simp[go_sem]
theorem D7 (g o n c:Nat) (A:Option Addr) (w:World) (h:w.cell? ⟨g,o,none⟩=some (.slice A n c)):(Instr.loadAt 45 (.pointer (some ⟨g,o,none⟩))).run Tryz.prog w = .ok (.slice A n c) w:=by
 simp[go_sem,h]
theorem Z0o (g o n c:Nat) (A:Option Addr) (w:World) (h:w.cell? ⟨g,o,none⟩=some (.slice A n c)):(Instr.loadAt 46 (.pointer (some ⟨g,o,none⟩))).run Tryz.prog w = .ok (.slice A n c) w:=by
 simp[go_sem,h]
theorem S6 (g o n c:Nat) (A:Option Addr) (w:World) (h:w.cell? ⟨g,o,none⟩=some (.slice A n c)):(Instr.loadAt 47 (.pointer (some ⟨g,o,none⟩))).run Tryz.prog w = .ok (.slice A n c) w:=by
 simp[go_sem,h]
end
section
open Go.RowKit
theorem U3 (g o:Nat) (v:Int) (w:World) (h:w.cell? ⟨g,o,none⟩=some (.int .u8 v)):(Instr.loadAt 5 (.pointer (some ⟨g,o,none⟩))).run Tryz.prog w = .ok (.int .u8 v) w:=by
 simp[go_sem,h]
theorem U8 (g o n c:Nat) (A:Option Addr) (w:World) (h:w.cell? ⟨g,o,none⟩=some (.slice A n c)):(Instr.loadAt 31 (.pointer (some ⟨g,o,none⟩))).run Tryz.prog w = .ok (.slice A n c) w:=by
 simp[go_sem,h]
def Y5b (P:Program):Code→(Exit→Act→World→Prop)→Code×(Exit→Act→World→Prop)
 | .seq x y,Q=>Y5b P x (Exit.then (fun a w=>y.wp P Q a w) Q)
 |c,Q=>(c,Q)
theorem Z4q {P:Program}:∀(c:Code) (Q:Exit→Act→World→Prop) {a:Act}{w:World},(Y5b P c Q).1.wp P (Y5b P c Q).2 a w→c.wp P Q a w
 | .seq x _,_,_,_,h=>wp_seq (Z4q x _ h)
 |c,_,_,_,h=>by cases c<;>first |exact h |exact wp_seq (Z4q _ _ h)
def FT:List (Nat×Nat×Nat×Nat):=
 (49,0,0,0)::(49,0,1,1)::(49,0,2,2)::(49,0,3,3)::(49,0,4,4)::(49,0,5,9)::(49,0,6,10)::(49,0,7,11)::(49,0,8,12)::(49,0,9,13)::(49,0,10,14)::(49,0,11,15)::(49,0,12,16)::(49,0,13,17)::(49,0,14,18)::(49,0,15,19)::(49,0,16,20)::(49,0,17,21)::(49,0,18,22)::(49,0,19,23) ::
 (44,4,0,4)::(44,4,1,5)::(44,4,2,6)::(44,4,3,7)::(44,4,4,8)::(44,0,0,0)::(44,0,1,1)::(44,0,2,2)::(44,0,3,3)::(44,0,4,4) ::
  (82,0,0,0)::(82,0,1,1)::(82,0,2,2)::(82,0,3,3)::(82,0,4,4)::(82,0,5,5)::(82,0,6,6)::(82,0,7,7)::(82,0,8,8) ::
 (24,0,0,0)::(24,0,1,1)::(24,0,2,2)::(24,0,3,3)::(24,0,4,4)::(24,0,5,5) ::
 (85,0,0,0)::(85,0,1,1)::(85,0,2,2)::(85,0,3,3) ::
 (36,0,0,0)::(36,0,1,1)::(36,0,2,2)::(36,0,3,3)::(36,0,4,4)::(36,0,5,5)::(36,0,6,6) ::
 (89,0,0,0)::(89,0,1,1)::(89,0,2,2)::(89,0,3,3)::(89,0,4,4)::(89,0,5,5) ::
 (52,0,0,0)::(52,0,1,1)::(52,0,2,2) ::
 (70,0,0,0)::(70,0,1,1)::(70,0,2,2)::(70,0,3,3) ::
 (106,0,0,0)::(106,0,1,2)::(106,0,2,3)::(106,0,3,4)::(106,0,4,5) ::
 (161,0,0,0)::(161,0,1,1) ::
 (104,0,0,0)::(104,0,1,1) ::
 (153,0,0,0)::(153,0,1,1) ::
 []
def Y5c:List (Nat×Nat×Nat×Nat)→Prop
 |[]=>True
 |(s,b,f,r)::l=>(∀(g:Nat) (w:World),(Instr.fieldAt s (.pointer (some ⟨g,b,none⟩)) f).run Tryz.prog w = .ok (.pointer (some ⟨g,r,none⟩)) w)∧Y5c l
theorem Q0q:Y5c FT:=by
 repeat (first |exact trivial |refine⟨fun _ _=>by kernel_rfl, ?_⟩)
def X8a:List (Nat×Nat×Nat×Nat)→Nat→Nat→Nat→Option Nat
 |[],_,_,_=>none
 |(s,b,f,r)::l,s',b',f'=>bif Nat.beq f f'&&(Nat.beq s s'&&Nat.beq b b') then some r else X8a l s' b' f'
theorem Y5d:∀{l:List (Nat×Nat×Nat×Nat)}{s b f r:Nat},Y5c l→X8a l s b f=some r→∀(g:Nat) (w:World),(Instr.fieldAt s (.pointer (some ⟨g,b,none⟩)) f).run Tryz.prog w = .ok (.pointer (some ⟨g,r,none⟩)) w
 |[],_,_,_,_,_,h=>by cases h
 |(s,b,f,r)::l,s',b',f',r',hl,h=>by
  unfold X8a at h;cases hb:Nat.beq f f'&&(Nat.beq s s'&&Nat.beq b b') with
  |true=>
   rw[hb,cond_true] at h;injection h with h
   simp only[Bool.and_eq_true] at hb;have h1:=Nat.eq_of_beq_eq_true hb.1;have h2:=Nat.eq_of_beq_eq_true hb.2.1;have h3:=Nat.eq_of_beq_eq_true hb.2.2;subst h h1 h2 h3;exact hl.1
  |false=>
   rw[hb,cond_false] at h;exact Y5d hl.2 h
def X2b (n:Nat) (o:Oper) (l:List (Nat×Value)):Option (Nat×Value):=
 match o.guard,o.dst,o.op with
 |none,some d, .move x=>match Nat.blt d n,W1 l x with
  |true,some v=>some (d,v)
  |_,_=>none
 |none,some d, .assign x=>match Nat.blt d n,W1 l x with
  |true,some v=>some (d,v)
  |_,_=>none
 |none,some d, .fieldAddr s x f=>match Nat.blt d n,W1 l x with
  |true,some (.pointer (some ⟨g,b,none⟩))=>match X8a FT s b f with
   |some r=>some (d, .pointer (some ⟨g,r,none⟩))
   |none=>none
  |_,_=>none
 |none,some d, .nilCheck x=>match Nat.blt d n,W1 l x with
  |true,some (.pointer (some p))=>some (d, .pointer (some p))
  |_,_=>none
 |_,_,_=>none
def Z3n (n:Nat):Nat→List Oper→List (Nat×Value)→Option (List Oper×List (Nat×Value))
 |0,L,l=>some (L,l)
 |_+1,[],_=>none
 |k+1,o::L,l=>match X2b n o l with
  |some p=>Z3n n k L (p::l)
  |none=>none
section
variable {ops:Array Oper}{rest rest':List Oper}{o:Oper}{a:Act}{w:World}{Q:Exit→Act→World→Prop}{n:Nat}{l l':List (Nat×Value)}
theorem J3k {p:Nat×Value}(H:Z9 a n l) (h:X2b n o l=some p) (hk:∀a',Z9 a' n (p::l)→wpList Tryz.prog ops Q rest a' w):wpList Tryz.prog ops Q (o::rest) a w:=by
 unfold X2b at h
 split at h
 ·next d x hg hd ho=>
  split at h
  ·next v hn hx=>
   injection h with h
   subst h;exact H.move (gz hg) (.inl ho) hd hn hx hk
  ·cases h
 ·next d x hg hd ho=>
  split at h
  ·next v hn hx=>
   injection h with h
   subst h;exact H.move (gz hg) (.inr ho) hd hn hx hk
  ·cases h
 ·next d s x f hg hd ho=>
  split at h
  ·next g b hn hx=>
   split at h
   ·next r hr=>
    injection h with h
    subst h;refine H.go (gz hg) hd hn _ ?_ hk;unfold execOp;simp only[ho,H.ev hx,Sem.run_bind,Y5d Q0q hr,Result.andThen_ok,Sem.run_pure]
   ·cases h
  ·cases h
 ·next d x hg hd ho=>
  split at h
  ·next p hn hx=>
   injection h with h
   subst h;refine H.go (gz hg) hd hn _ ?_ hk;unfold execOp;simp only[ho,H.ev hx];rfl
  ·cases h
 ·cases h
theorem W4:∀(k:Nat) {L:List Oper}{l:List (Nat×Value)}{a:Act},Z9 a n l→Z3n n k L l=some (rest,l')→(∀a',Z9 a' n l'→wpList Tryz.prog ops Q rest a' w)→wpList Tryz.prog ops Q L a w
 |0,L,l,a,H,h,hk=>by
  simp only[Z3n,Option.some.injEq,Prod.mk.injEq] at h;obtain⟨rfl,rfl⟩:=h;exact hk a H
 |k+1,[],l,a,H,h,hk=>by cases h
 |k+1,o::L,l,a,H,h,hk=>by
  simp only[Z3n] at h
  split at h
  ·next p hp=>exact J3k H hp fun a' H'=>W4 k H' h hk
  ·cases h
theorem Z9.ms (H:Z9 a n l) (k:Nat) {L:List Oper}(h:∀a',Z9 a' n l'→wpList Tryz.prog ops Q rest a' w) (hr:Z3n n k L l=some (rest,l'):=by rfl):wpList Tryz.prog ops Q L a w:=W4 k H hr h
theorem rl {c:Code}{Q Q':Exit→Act→World→Prop}{id:Nat}{ops:Array Oper}{a:Act}{w:World}(h:wpList Tryz.prog ops Q' ops.toList a w) (hc:Y5b Tryz.prog c Q=(.region id ops false,Q'):=by rfl):c.wp Tryz.prog Q a w:=by
 refine Z4q c Q ?_;rw[hc];exact wp_region_list h
theorem Z9.rg (H:Z9 a n l) (k:Nat) {c:Code}{Q':Exit→Act→World→Prop}{id:Nat}{ops:Array Oper}(h:∀a',Z9 a' n l'→wpList Tryz.prog ops Q' rest a' w) (hc:Y5b Tryz.prog c Q=(.region id ops false,Q'):=by rfl) (hr:Z3n n k ops.toList l=some (rest,l'):=by rfl):c.wp Tryz.prog Q a w:=by
 refine Z4q c Q ?_;rw[hc];exact wp_region_list (W4 k H hr h)
theorem Z9.ld (H:Z9 a n l) (k:Nat) {T d:Nat}{x:Operand}{p v:Value}(hl:(Instr.loadAt T p).run Tryz.prog w = .ok v w) (h:∀a',Z9 a' n l'→wpList Tryz.prog ops Q rest' a' w) (ho:o.op = .load T x:=by rfl) (hd:o.dst=some d:=by rfl) (hn:Nat.blt d n=true:=by rfl) (hg:o.guard=none:=by rfl)
  (hx:W1 l x=some p:=by rfl) (hr:Z3n n k rest ((d,v)::l)=some (rest',l'):=by rfl):wpList Tryz.prog ops Q (o::rest) a w:=
 H.load (gz hg) ho hd hn hx hl fun _ H'=>W4 k H' hr h
theorem Z9.bn (H:Z9 a n l) (k:Nat) {d:Nat}{b:BinOp}{T T':TypeId}{x y:Operand}{u v r:Value}(hq:(do eqGuard b T x y u v;binOp b T u v:Sem Value).run Tryz.prog w = .ok r w) (h:∀a',Z9 a' n l'→wpList Tryz.prog ops Q rest' a' w)
  (ho:o.op = .binOp b T x y T':=by rfl) (hd:o.dst=some d:=by rfl) (hn:Nat.blt d n=true:=by rfl) (hg:o.guard=none:=by rfl) (hx:W1 l x=some u:=by rfl) (hy:W1 l y=some v:=by rfl) (hr:Z3n n k rest ((d,r)::l)=some (rest',l'):=by rfl):wpList Tryz.prog ops Q (o::rest) a w:=
 H.bin (gz hg) ho hd hn hx hy hq fun _ H'=>W4 k H' hr h
theorem Z9.bb (H:Z9 a n l) (k:Nat) {d:Nat}{b:BinOp}{T T':TypeId}{x y:Operand}{u v r:Value}(ho:o.op = .binOp b T x y T') (hd:o.dst=some d) (hn:Nat.blt d n=true) (hg:o.guard=none) (hx:W1 l x=some u) (hy:W1 l y=some v)
  (hq:(do eqGuard b T x y u v;binOp b T u v:Sem Value).run Tryz.prog w = .ok r w) (hr:Z3n n k rest ((d,r)::l)=some (rest',l')) (h:∀a',Z9 a' n l'→wpList Tryz.prog ops Q rest' a' w):wpList Tryz.prog ops Q (o::rest) a w:=
 H.bin (gz hg) ho hd hn hx hy hq fun _ H'=>W4 k H' hr h
theorem Z9.uo (H:Z9 a n l) (k:Nat) {d:Nat}{b:UnOp}{T:TypeId}{x:Operand}{u r:Value}(h:∀a',Z9 a' n l'→wpList Tryz.prog ops Q rest' a' w)
  (ho:o.op = .unOp b T x:=by rfl) (hd:o.dst=some d:=by rfl) (hn:Nat.blt d n=true:=by rfl) (hg:o.guard=none:=by rfl) (hx:W1 l x=some u:=by rfl) (hq:(Op.unary b u).run Tryz.prog w = .ok r w:=by rfl) (hr:Z3n n k rest ((d,r)::l)=some (rest',l'):=by rfl):wpList Tryz.prog ops Q (o::rest) a w:=
 H.un (gz hg) ho hd hn hx hq fun _ H'=>W4 k H' hr h
theorem Z9.cv (H:Z9 a n l) (k:Nat) {d:Nat}{T T':TypeId}{x:Operand}{u r:Value}(hq:(convert T T' u).run Tryz.prog w = .ok r w) (h:∀a',Z9 a' n l'→wpList Tryz.prog ops Q rest' a' w)
  (ho:o.op = .convert T T' x:=by rfl) (hd:o.dst=some d:=by rfl) (hn:Nat.blt d n=true:=by rfl) (hg:o.guard=none:=by rfl) (hx:W1 l x=some u:=by rfl) (hr:Z3n n k rest ((d,r)::l)=some (rest',l'):=by rfl):wpList Tryz.prog ops Q (o::rest) a w:=
 H.conv (gz hg) ho hd hn hx hq fun _ H'=>W4 k H' hr h
theorem Z9.ex (H:Z9 a n l) (k:Nat) {d i:Nat}{x:Operand}{u r:Value}(h:∀a',Z9 a' n l'→wpList Tryz.prog ops Q rest' a' w)
  (ho:o.op = .extract x i:=by rfl) (hd:o.dst=some d:=by rfl) (hn:Nat.blt d n=true:=by rfl) (hg:o.guard=none:=by rfl) (hx:W1 l x=some u:=by rfl) (hq:(Instr.extract u i).run Tryz.prog w = .ok r w:=by rfl) (hr:Z3n n k rest ((d,r)::l)=some (rest',l'):=by rfl):wpList Tryz.prog ops Q (o::rest) a w:=
 H.extract (gz hg) ho hd hn hx hq fun _ H'=>W4 k H' hr h
theorem Z9.cq (H:Z9 a n l) (k:Nat) {d:Nat}{f:FuncId}{xs:Array Operand}{ats:Array TypeId}{vs:List Value}{v:Value}(hc:Calls Tryz.prog f vs.toArray w fun e w'=>e = .returned v∧w=w') (h:∀a',Z9 a' n l'→wpList Tryz.prog ops Q rest' a' w)
  (ho:o.op = .call { callee:=.value (.func f),args:=xs,argTypes:=ats }:=by rfl) (hd:o.dst=some d:=by rfl) (hn:Nat.blt d n=true:=by rfl) (hg:o.guard=none:=by rfl) (hx:Y1f l xs.toList=some vs:=by rfl)
  (hen:∀(args:Array Value) (w:World),(callFunc f args).run Tryz.prog w = .ok (.enter f args) w:=by exact fun _ _=>by kernel_rfl) (hr:Z3n n k rest ((d,v)::l)=some (rest',l'):=by rfl):wpList Tryz.prog ops Q (o::rest) a w:=
 H.call (gz hg) ho hd hn hx hen (Z6t hc) (by rintro _ _ _ ⟨rfl,rfl⟩ H';exact W4 k H' hr h)
theorem Z9.cl (H:Z9 a n l) {d:Nat}{f:FuncId}{xs:Array Operand}{ats:Array TypeId}{vs:List Value}{R:Value→World→Prop}(hc:Calls Tryz.prog f vs.toArray w fun e w'=>∃v,e = .returned v∧R v w') (h:∀a' v w',R v w'→Z9 a' n ((d,v)::l)→wpList Tryz.prog ops Q rest a' w')
  (ho:o.op = .call { callee:=.value (.func f),args:=xs,argTypes:=ats }:=by rfl) (hd:o.dst=some d:=by rfl) (hn:Nat.blt d n=true:=by rfl) (hg:o.guard=none:=by rfl) (hx:Y1f l xs.toList=some vs:=by rfl)
  (hen:∀(args:Array Value) (w:World),(callFunc f args).run Tryz.prog w = .ok (.enter f args) w:=by exact fun _ _=>by kernel_rfl):wpList Tryz.prog ops Q (o::rest) a w:=
 H.call (gz hg) ho hd hn hx hen hc h
section
variable {W:World}{B:Nat}{bs:List (Nat×List Value)}
theorem Z9.bx (H:Z9 a n l) (O:X0 W B bs w) (k:Nat) {T d:Nat}{x:Operand}{L:List Value}(h:∀a' w',X0 W B ((w.heap.size,L)::bs) w'→Z9 a' n l'→wpList Tryz.prog ops Q rest' a' w')
  (ho:o.op = .box T x:=by rfl) (hd:o.dst=some d:=by rfl) (hn:Nat.blt d n=true:=by rfl) (hg:o.guard=none:=by rfl) (hx:W1 l x=some (.agg L.toArray):=by rfl) (hr:Z3n n k rest ((d,pz w.heap.size)::l)=some (rest',l'):=by rfl):wpList Tryz.prog ops Q (o::rest) a w:=
 H.box hg ho hd hn hx fun _ _ hb hs hC H'=>W4 k H' hr fun _ H''=>h _ _ (O.alloc hb hs hC) H''
theorem Z9.al (H:Z9 a n l) (O:X0 W B bs w) (k:Nat) {T d:Nat}{L:List Value}(hz:∀w,(zeroValue T).run Tryz.prog w = .ok (.agg L.toArray) w) (h:∀a' w',X0 W B ((w.heap.size,L)::bs) w'→Z9 a' n l'→wpList Tryz.prog ops Q rest' a' w')
  (ho:o.op = .alloc T:=by rfl) (hd:o.dst=some d:=by rfl) (hn:Nat.blt d n=true:=by rfl) (hg:o.guard=none:=by rfl) (hr:Z3n n k rest ((d,pz w.heap.size)::l)=some (rest',l'):=by rfl):wpList Tryz.prog ops Q (o::rest) a w:=
 H.alloc hg ho hd hn L hz fun _ _ hb hs hC H'=>W4 k H' hr fun _ H''=>h _ _ (O.alloc hb hs hC) H''
theorem Z9.st (H:Z9 a n l) (O:X0 W B bs w) (i k:Nat) {T g m:Nat}{x y:Operand}{L L0:List Value}(h:∀a' w',X0 W B (bs.set i (g,L)) w'→Z9 a' n l'→wpList Tryz.prog ops Q rest' a' w') (hi:(Tryz.prog.info? T).map (·.size)=some m)
  (ho:o.op = .store T x y:=by rfl) (hd:o.dst=none:=by rfl) (hg:o.guard=none:=by rfl) (hx:W1 l x=some (pz g):=by rfl) (hb:bs[i]? = some (g,L0):=by rfl) (hy:W1 l y=some (.agg L.toArray):=by rfl) (h0:L0.length=m:=by rfl) (h1:L.length=m:=by rfl) (h2:L.all (·.oneCell')=true:=by rfl)
  (hr:Z3n n k rest l=some (rest',l'):=by rfl):wpList Tryz.prog ops Q (o::rest) a w:=
 H.storeS hg ho hd hx hy (O.get i hb) hi h0 h1 h2 fun _ _ H' hg hs hC=>W4 k H' hr fun _ H''=>h _ _ (O.store i hb hg hs hC) H''
theorem Z9.lm (H:Z9 a n l) (O:X0 W B bs w) (i k:Nat) {d g:Nat}{x:Operand}{L:List Value}(h:∀a',Z9 a' n l'→wpList Tryz.prog ops Q rest' a' w)
  (ho:o.op = .load 49 x:=by rfl) (hd:o.dst=some d:=by rfl) (hn:Nat.blt d n=true:=by rfl) (hg:o.guard=none:=by rfl) (hx:W1 l x=some (pz g):=by rfl) (hb:bs[i]? = some (g,L):=by rfl) (hl:L.length=24:=by rfl)
  (hr:Z3n n k rest ((d, .agg L.toArray)::l)=some (rest',l'):=by rfl):wpList Tryz.prog ops Q (o::rest) a w:=
 H.loadS hg ho hd hn hx (O.get i hb) Tryz.underlying49 rfl (by kernel_rfl) hl fun _ H'=>W4 k H' hr h
theorem Z9.sc (H:Z9 a n l) (O:X0 W B bs w) (i k:Nat) {T g j:Nat}{x y:Operand}{v:Value}{L:List Value}(hst:∀u,w.cell? ⟨g,j,none⟩=some u→w.frozen? ⟨g,j,none⟩=false→(Instr.storeAt T (.pointer (some ⟨g,j,none⟩)) v).run Tryz.prog w = .ok () (w.setCell ⟨g,j,none⟩ v))
  (h:∀a' w',X0 W B (bs.set i (g,L.set j v)) w'→Z9 a' n l'→wpList Tryz.prog ops Q rest' a' w')
  (ho:o.op = .store T x y:=by rfl) (hd:o.dst=none:=by rfl) (hg:o.guard=none:=by rfl) (hx:W1 l x=some (.pointer (some ⟨g,j,none⟩)):=by rfl) (hy:W1 l y=some v:=by rfl) (hb:bs[i]? = some (g,L):=by rfl) (hj:Nat.blt j L.length=true:=by rfl)
  (hr:Z3n n k rest l=some (rest',l'):=by rfl):wpList Tryz.prog ops Q (o::rest) a w:=
 H.storeC O i hb (gz hg) ho hd hx hy hj hst fun _ _ H' O'=>W4 k H' hr fun _ H''=>h _ _ O' H''
theorem X0.li (O:X0 W B bs w) (i j:Nat) {g:Nat}{L:List Value}{v:Int}(h1:bs[i]? = some (g,L):=by rfl) (h2:L[j]? = some (iz v):=by rfl):(Instr.loadAt 3 (.pointer (some ⟨g,j,none⟩))).run Tryz.prog w = .ok (iz v) w:=J9 _ _ _ _ ((O.get i h1).get j _ h2)
theorem X0.lb (O:X0 W B bs w) (i j:Nat) {g:Nat}{L:List Value}{v:Bool}(h1:bs[i]? = some (g,L):=by rfl) (h2:L[j]? = some (.bool v):=by rfl):(Instr.loadAt 4 (.pointer (some ⟨g,j,none⟩))).run Tryz.prog w = .ok (.bool v) w:=V0 _ _ _ _ ((O.get i h1).get j _ h2)
theorem X0.ls (O:X0 W B bs w) (i j:Nat) {g:Nat}{L:List Value}{v:ByteArray}(h1:bs[i]? = some (g,L):=by rfl) (h2:L[j]? = some (.string v):=by rfl):(Instr.loadAt 9 (.pointer (some ⟨g,j,none⟩))).run Tryz.prog w = .ok (.string v) w:=G1 _ _ _ _ ((O.get i h1).get j _ h2)
theorem X0.l6 (O:X0 W B bs w) (i j:Nat) {g n c:Nat}{A:Option Addr}{L:List Value}(h1:bs[i]? = some (g,L):=by rfl) (h2:L[j]? = some (.slice A n c):=by rfl):(Instr.loadAt 45 (.pointer (some ⟨g,j,none⟩))).run Tryz.prog w = .ok (.slice A n c) w:=D7 _ _ _ _ _ _ ((O.get i h1).get j _ h2)
theorem X0.l7 (O:X0 W B bs w) (i j:Nat) {g n c:Nat}{A:Option Addr}{L:List Value}(h1:bs[i]? = some (g,L):=by rfl) (h2:L[j]? = some (.slice A n c):=by rfl):(Instr.loadAt 46 (.pointer (some ⟨g,j,none⟩))).run Tryz.prog w = .ok (.slice A n c) w:=Z0o _ _ _ _ _ _ ((O.get i h1).get j _ h2)
theorem X0.l8 (O:X0 W B bs w) (i j:Nat) {g n c:Nat}{A:Option Addr}{L:List Value}(h1:bs[i]? = some (g,L):=by rfl) (h2:L[j]? = some (.slice A n c):=by rfl):(Instr.loadAt 47 (.pointer (some ⟨g,j,none⟩))).run Tryz.prog w = .ok (.slice A n c) w:=S6 _ _ _ _ _ _ ((O.get i h1).get j _ h2)
end
end
end
section
open Go.RowKit
section
variable {P:Program}{md:Region.Mode}{ops:Array Oper}{Q:Exit→Act→World→Prop}
def Z6u (md:Region.Mode) (ops:Array Oper) (listed:Array Bool):Prop:=∀(i:Nat) (o:Oper),ops[i]? = some o→listed.getD i false=true→∀e∈o.after,Region.binds md e=true→listed.getD e.on false=true
theorem Z3y {listed:Array Bool}{i j:Nat}(h:listed.getD j false=true):(listed.setIfInBounds i true).getD j false=true:=by
 by_cases e:i=j
 ·subst e
  have hi:i<listed.size:=by
   rcases Nat.lt_or_ge i listed.size with h1 |h1
   ·exact h1
   ·rw[Array.getD_eq_getD_getElem?,Array.getElem?_eq_none h1] at h;cases h
  exact Z8r listed hi
 ·rw[Z8q listed e];exact h
theorem X5e (I:Array Bool→Act→World→Prop) (hback:∀(i:Nat) (o:Oper),ops[i]? = some o→∀e∈o.after,Region.binds md e=true→e.on<i)
  (hstep:∀(listed:Array Bool) (a:Act) (w:World) (i:Nat) (o:Oper),listed.size=ops.size→listed.getD i false=false→Z6u md ops listed→ops[i]? = some o→(∀e∈o.after,Region.binds md e=true→listed.getD e.on false=true)→I listed a w →
   wpOp P ops Q i (fun a' w'=>I (listed.setIfInBounds i true) a' w') a w)
  (hfin:∀(listed:Array Bool) (a:Act) (w:World),(∀i,i<ops.size→listed.getD i false=true)→I listed a w→Q .normal a w):
  ∀(fuel:Nat) (listed:Array Bool) (a:Act) (w:World),listed.size=ops.size→listed.toList.count false≤fuel→Z6u md ops listed→I listed a w→wpAny P md ops Q fuel listed a w:=by
 intro fuel
 induction fuel with
 |zero=>
  intro listed a w hs hc hcl hI;have hnil:Region.ready md ops listed=[]:=by
   rcases hr:Region.ready md ops listed with _ |⟨i,rs⟩
   ·rfl
   ·exfalso
    have hm:i∈Region.ready md ops listed:=by rw[hr];exact List.mem_cons_self
    obtain⟨h0,o,ho,_⟩:=mem_ready.1 hm;have hi:i<listed.size:=by
     have:=(Array.getElem?_eq_some_iff.1 ho).1;omega
    have h1:listed.toList[i]? = some false:=by
     simp only[Array.getD_eq_getD_getElem?,Array.getElem?_eq_getElem hi,Option.getD_some] at h0;simp[hi,h0]
    have:=Z5a _ _ h1;omega
  exact⟨hnil,hfin listed a w (Z7w hback hs hnil) hI⟩
 |succ fuel ih=>
  intro listed a w hs hc hcl hI;refine⟨fun hnil=>hfin listed a w (Z7w hback hs hnil) hI,fun i hm=>?_⟩;obtain⟨h0,o,ho,hd⟩:=mem_ready.1 hm;have hi:i<listed.size:=by
   have:=(Array.getElem?_eq_some_iff.1 ho).1;omega
  have h0':listed.getD i false=false:=by
   simp only[Array.getD_eq_getD_getElem?,Array.getElem?_eq_getElem hi,Option.getD_some] at h0 ⊢;exact h0
  have h1:listed.toList[i]? = some false:=by
   simp only[Array.getD_eq_getD_getElem?,Array.getElem?_eq_getElem hi,Option.getD_some] at h0;simp[hi,h0]
  have hcs:=Z5a _ _ h1;refine wpOp_mono (fun a' w' hI'=>ih _ a' w' (by simpa using hs) ?_ ?_ hI') (hstep listed a w i o hs h0' hcl ho hd hI)
  ·rw[Array.toList_setIfInBounds]
   omega
  ·intro j oj hoj hj e he hb
   rcases Z3c hj with e2 |hj
   ·subst e2
    have e3:oj=o:=by rw[ho] at hoj;injection hoj with hoj;exact hoj.symm
    subst e3;exact Z3y (hd e he hb)
   ·exact Z3y (hcl j oj hoj hj e he hb)
theorem Z5j {id:Nat}{a:Act}{w:World}(hm:P.follows .mixedOrders=true) (I:Array Bool→Act→World→Prop) (hback:∀(i:Nat) (o:Oper),ops[i]? = some o→∀e∈o.after,Region.binds .any e=true→e.on<i)
  (hstep:∀(listed:Array Bool) (a:Act) (w:World) (i:Nat) (o:Oper),listed.size=ops.size→listed.getD i false=false→Z6u .any ops listed→ops[i]? = some o→(∀e∈o.after,Region.binds .any e=true→listed.getD e.on false=true)→I listed a w →
   wpOp P ops Q i (fun a' w'=>I (listed.setIfInBounds i true) a' w') a w)
  (hfin:∀(listed:Array Bool) (a:Act) (w:World),(∀i,i<ops.size→listed.getD i false=true)→I listed a w→Q .normal a w)
  (h0:I (Array.replicate ops.size false) a w.drew):(Code.region id ops true).wp P Q a w:=by
 refine wp_region_any hm (X5e I hback hstep hfin ops.size _ a _ (by simp) ?_ ?_ h0)
 ·simp
 ·intro i o _ h
  rw[Z3d] at h;cases h
end
structure Ent where
 op:Nat
 slot:Nat
 kill:List Nat
 p:Value→World→Prop
def Z5k (listed:Array Bool):List Nat→Prop
 |[]=>True
 |k::ks=>listed.getD k false=false∧Z5k listed ks
def Z5l (i:Nat) (listed:Array Bool) (w w':World):List Ent→Prop
 |[]=>True
 |t::es=>(t.op≠i→i∉t.kill→(listed.size≤t.op∨listed.getD t.op false=true)→Z5k listed t.kill→∀u,t.p u w→t.p u w')∧Z5l i listed w w' es
theorem Z5l.get {i:Nat}{listed:Array Bool}{w w':World}:∀{es:List Ent},Z5l i listed w w' es→∀t∈es,t.op≠i→i∉t.kill→(listed.size≤t.op∨listed.getD t.op false=true)→Z5k listed t.kill→∀u,t.p u w→t.p u w'
 |_::_,h,t,ht=>by
  rcases List.mem_cons.1 ht with rfl |ht
  ·exact h.1
  ·exact Z5l.get h.2 t ht
theorem Z5l.same {i:Nat}{listed:Array Bool}{w:World}:∀{es:List Ent},Z5l i listed w w es
 |[]=>trivial
 |_::_=>⟨fun _ _ _ _ _ h=>h,Z5l.same⟩
structure Z1r (n:Nat) (fixed:List (Nat×Value)) (es:List Ent) (Wp:World→Prop) (listed:Array Bool) (a:Act) (w:World):Prop where
 sz:a.tmps.size=n
 df:a.defers=[]
 fx:W7 a fixed
 vs:∀t∈es,(listed.size≤t.op∨listed.getD t.op false=true)→Z5k listed t.kill→t.p (a.eval (.tmp t.slot)) w
 wp:Wp w
def Z5m (n:Nat) (fixed:List (Nat×Value)) (es:List Ent):Bool:=
 es.all (fun t=>decide (t.slot<n)&&fixed.all (fun f=>f.1 != t.slot))&&es.all (fun u=>es.all fun t=>u.op==t.op||(u.slot != t.slot||(u.kill.contains t.op||decide (1000≤t.op))))&&(es.map (·.op)).Nodup
theorem Z5k.back {listed:Array Bool}{i:Nat}:∀{ks:List Nat},Z5k (listed.setIfInBounds i true) ks→i<listed.size→Z5k listed ks∧i∉ks
 |[],_,_=>⟨trivial,by simp⟩
 |k::ks,h,hi=>by
  obtain⟨h1,h2⟩:=Z5k.back h.2 hi;have hk:i≠k:=by
   intro e;subst e;have:=h.1;rw[Z8r listed hi] at this;cases this
  refine⟨⟨?_,h1⟩, ?_⟩
  ·have:=h.1
   rw[Z8q listed hk] at this;exact this
  ·simp only[List.mem_cons,not_or]
   exact⟨hk,h2⟩
theorem W7.put {a:Act}{d:Nat}{v:Value}:∀{l:List (Nat×Value)},W7 a l→l.all (fun f=>f.1 != d)=true→W7 (a.put (some d) v) l
 |[],_,_=>trivial
 |f::l,h,hd=>by
  simp only[List.all_cons,Bool.and_eq_true,bne_iff_ne] at hd;exact⟨(Act.eval_put_ne _ _ _ _ (Ne.symm hd.1)).trans h.1,W7.put h.2 hd.2⟩
theorem Z1r.put {n:Nat}{fixed:List (Nat×Value)}{es:List Ent}{Wp Wp':World→Prop}{listed:Array Bool}{a:Act}{w w':World}(h:Z1r n fixed es Wp listed a w) (hf:Z5m n fixed es=true) (t:Ent) (ht:t∈es) (hi:t.op<listed.size) (hN:listed.size≤1000)
  (v:Value) (hp:t.p v w') (hw:Wp' w') (hst:Z5l t.op listed w w' es):Z1r n fixed es Wp' (listed.setIfInBounds t.op true) (a.put (some t.slot) v) w':=by
 simp only[Z5m,Bool.and_eq_true,decide_eq_true_eq] at hf;obtain⟨⟨hf,hn⟩,hm⟩:=hf;have hf:∀t∈es,t.slot<n∧fixed.all (fun f=>f.1 != t.slot)=true:=fun t ht=>by
  have:=List.all_eq_true.1 hf t ht;simp only[Bool.and_eq_true,decide_eq_true_eq] at this;exact this
 have hn:∀u∈es,∀t∈es,(u.op==t.op||(u.slot != t.slot||(u.kill.contains t.op||decide (1000≤t.op))))=true:=fun u hu t ht=>List.all_eq_true.1 (List.all_eq_true.1 hn u hu) t ht;refine⟨by rw[Act.size_put,h.sz],by rw[Act.defers_put',h.df],h.fx.put (hf t ht).2,fun u hu hl hk=>?_,hw⟩;obtain⟨hk1,hk2⟩:=Z5k.back hk hi;by_cases e:u.op=t.op
 ·have e2:u=t:=X2a hm u hu t ht e
  subst e2;rw[Act.eval_put_same _ _ _ (by rw[h.sz];exact(hf u hu).1)];exact hp
 ·rw[Z8q listed (Ne.symm e),Array.size_setIfInBounds] at hl
  have hs:t.slot≠u.slot:=by
   intro e2;have:=hn u hu t ht;simp only[Bool.or_eq_true,beq_iff_eq,bne_iff_ne,List.contains_iff_mem,decide_eq_true_eq] at this;rcases this with h1 |h1 |h1 |h1
   ·exact e h1
   ·exact h1 e2.symm
   ·exact hk2 h1
   ·omega
  rw[Act.eval_put_ne _ _ _ _ hs];exact hst.get u hu e hk2 hl hk1 _ (h.vs u hu hl hk1)
theorem Z1r.done {n:Nat}{fixed:List (Nat×Value)}{es:List Ent}{Wp Wp':World→Prop}{listed:Array Bool}{a:Act}{w w':World}(h:Z1r n fixed es Wp listed a w) (i:Nat) (hi:i<listed.size) (hne:es.all (fun t=>t.op != i)=true) (hw:Wp' w') (hst:Z5l i listed w w' es):Z1r n fixed es Wp' (listed.setIfInBounds i true) a w':=by
 refine⟨h.sz,h.df,h.fx,fun u hu hl hk=>?_,hw⟩;obtain⟨hk1,hk2⟩:=Z5k.back hk hi;have e:u.op≠i:=by simpa using List.all_eq_true.1 hne u hu
 rw[Z8q listed (Ne.symm e),Array.size_setIfInBounds] at hl;exact hst.get u hu e hk2 hl hk1 _ (h.vs u hu hl hk1)
theorem Y5 {f:Array Edge}{listed:Array Bool}(hd:∀e∈f,Region.binds .any e=true→listed.getD e.on false=true) (j:Nat) (h:f.toList.any (fun e=>Region.binds .any e&&e.on==j)=true):listed.getD j false=true:=by
 obtain⟨e,he,hb,hon⟩:=J8a h;rw[←hon];exact hd e he hb
structure D5 (W:World) (b:Nat) (bs:List (Nat×List Value)) (w:World):Prop where
 own:X0 W W.heap.size bs w
 bw:b≤w.heap.size
 hb:W.heap.size≤b
 all:∀p∈bs,p.1<b
theorem D5.of {W w:World}{bs:List (Nat×List Value)}(O:X0 W W.heap.size bs w):D5 W w.heap.size bs w:=⟨O,Nat.le_refl _,O.le,fun p hp=>(O.mem p hp).2.1⟩
theorem D5.step {W w w':World}{b:Nat}{bs:List (Nat×List Value)}(h:D5 W b bs w) (hb:Below b w w'):D5 W b bs w':=
 ⟨⟨h.own.bel.trans (hb.mono h.hb),Nat.le_trans h.own.le hb.size,h.own.nd,fun p hp=>⟨(h.own.mem p hp).1,Nat.lt_of_lt_of_le (h.own.mem p hp).2.1 hb.size,(h.own.mem p hp).2.2.below hb (h.all p hp)⟩⟩,Nat.le_trans h.bw hb.size,h.hb,h.all⟩
theorem D5.call {W w w':World}{b:Nat}{bs:List (Nat×List Value)}(h:D5 W b bs w) (hb:Below w.heap.size w w'):D5 W b bs w':=h.step (hb.mono h.bw)
theorem D5.drew {W w:World}{b:Nat}{bs:List (Nat×List Value)}(h:D5 W b bs w):D5 W b bs w.drew:=h.call (Below.drew (Below.refl _ _))
section
variable {P:Program}{o:Oper}{a:Act}{w:World}
theorem S3 {S f g off:Nat}{x:Operand}(ho:o.op = .fieldAddr S x f) {off0:Nat}(hx:a.eval x = .pointer (some ⟨g,off0,none⟩)) (hf:∀g w,(Instr.fieldAt S (.pointer (some ⟨g,off0,none⟩)) f).run P w = .ok (.pointer (some ⟨g,off,none⟩)) w):
  (execOp a.eval o).run P w = .ok (.value (.pointer (some ⟨g,off,none⟩))) w:=by
 unfold execOp;simp only[ho,hx,Sem.run_bind,hf,Result.andThen_ok,Sem.run_pure]
theorem Z5n {T:Nat}{x:Operand}{p v:Value}(ho:o.op = .load T x) (hx:a.eval x=p) (hl:(Instr.loadAt T p).run P w = .ok v w):(execOp a.eval o).run P w = .ok (.value v) w:=by
 unfold execOp;simp only[ho,hx,Sem.run_bind,hl,Result.andThen_ok,Sem.run_pure]
theorem N2 {x:Operand}{v:Value}(ho:o.op = .move x∨o.op = .assign x) (hx:a.eval x=v):(execOp a.eval o).run P w = .ok (.value v) w:=by
 rw[←hx];unfold execOp;rcases ho with ho |ho<;>simp only[ho]<;>rfl
theorem J8b {b:BinOp}{T T':TypeId}{x y:Operand}{u v r:Value}(ho:o.op = .binOp b T x y T') (hx:a.eval x=u) (hy:a.eval y=v) (hq:(do eqGuard b T x y u v;binOp b T u v:Sem Value).run P w = .ok r w):(execOp a.eval o).run P w = .ok (.value r) w:=by
 unfold execOp;rw[Sem.run_bind] at hq;simp only[ho,hx,hy,Sem.run_bind,hq,Result.andThen_ok,Sem.run_pure]
theorem Q1l {b:UnOp}{T:TypeId}{x:Operand}{u r:Value}(ho:o.op = .unOp b T x) (hx:a.eval x=u) (hq:(Op.unary b u).run P w = .ok r w):(execOp a.eval o).run P w = .ok (.value r) w:=by
 unfold execOp;simp only[ho,hx,Sem.run_bind,hq,Result.andThen_ok,Sem.run_pure]
theorem J3m {T T':TypeId}{x:Operand}{u r:Value}{w':World}(ho:o.op = .convert T T' x) (hx:a.eval x=u) (hq:(convert T T' u).run P w = .ok r w'):(execOp a.eval o).run P w = .ok (.value r) w':=by
 unfold execOp;simp only[ho,hx,Sem.run_bind,hq,Result.andThen_ok,Sem.run_pure]
theorem X2c {i:Nat}{x:Operand}{u r:Value}(ho:o.op = .extract x i) (hx:a.eval x=u) (hq:(Instr.extract u i).run P w = .ok r w):(execOp a.eval o).run P w = .ok (.value r) w:=by
 unfold execOp;simp only[ho,hx,Sem.run_bind,hq,Result.andThen_ok,Sem.run_pure]
theorem X2d {f:FuncId}{xs:Array Operand}{ats:Array TypeId}{vs:Array Value}(ho:o.op = .call { callee:=.value (.func f),args:=xs,argTypes:=ats }) (hx:xs.map a.eval=vs)
  (hen:∀(args:Array Value) (w:World),(callFunc f args).run P w = .ok (.enter f args) w):(execOp a.eval o).run P w = .ok (.enter f vs) w:=by
 have:execOp a.eval o=callFunc f (xs.map a.eval):=by
  obtain⟨dst,op,ty,pos,after,guard⟩:=o;have ho':op = .call { callee:=.value (.func f),args:=xs,argTypes:=ats }:=ho;subst ho';rw[execOp_call_go];simp
 rw[this,hen,hx]
end
def Y2 (b:Nat) (xs:List UInt8) (v:Value) (w:World):Prop:=∃A c,v = .slice A xs.length c∧w.ownsRow b 5 1 v xs.length (xs.map bv)
def K0 (xs:List UInt8) (v:Value) (w:World):Prop:=∃A c,v = .slice A xs.length c∧RB w w.heap.size A xs
theorem Y2.below {b:Nat}{xs:List UInt8}{v:Value}{w w':World}(h:Y2 b xs v w) (hb:Below w.heap.size w w'):Y2 b xs v w':=by
 obtain⟨A,c,rfl,ho⟩:=h;exact⟨A,c,rfl,Y1 ho hb⟩
theorem K0.below {xs:List UInt8}{v:Value}{w w':World}(h:K0 xs v w) (hb:Below w.heap.size w w'):K0 xs v w':=by
 obtain⟨A,c,rfl,ho⟩:=h;exact⟨A,c,rfl,ho.next hb⟩
theorem Y2.base {b b':Nat}{xs:List UInt8}{v:Value}{w:World}(h:Y2 b xs v w) (hb:b'≤b):Y2 b' xs v w:=by
 obtain⟨A,c,rfl,ho⟩:=h;exact⟨A,c,rfl,V2 ho hb⟩
theorem Y2.drew {b:Nat}{xs:List UInt8}{v:Value}{w:World}(h:Y2 b xs v w):Y2 b xs v w.drew:=h.below (Below.drew (Below.refl _ _))
theorem Y2.nil (b:Nat) (w:World):Y2 b [] (.slice none 0 0) w:=⟨none,0,rfl,World.ownsRow_nil _ _ _ _⟩
theorem Z0f {P:Program}{o:Oper}{a:Act}{w w':World}{n:Nat}{l:List (Nat×Value)}{x:Next}(H:Z9 a n l) (hs:∀cs b,o.op ≠ .select cs b) (hk:o.op.operands.all (fun x=>(W1 l x).isSome)=true)
  (hrun:(execOp (fun x=>(W1 l x).getD undef) o).run P w = .ok x w'):(execOp a.eval o).run P w = .ok x w':=by
 rw[←hrun]
 congr 1
 refine execOp_congr o hs (fun x hx=>?_);obtain⟨u,hu⟩:=Option.isSome_iff_exists.1 (Array.all_eq_true'.1 hk x hx);rw[H.ev hu,hu];rfl
end
section
open Go.RowKit
theorem Z8 {P:Program}{x y:Code}{Q:Exit→Act→World→Prop}{a:Act}{w:World}(St:Act→World→Prop) (hx:x.wp P (Exit.then St Q) a w) (hy:∀a w,St a w→y.wp P Q a w):(Code.seq x y).wp P Q a w:=by
 refine wp_seq (wp_mono hx ?_);intro e a w h;cases e with
 |normal=>exact hy a w h
 |_=>exact h
section
variable {P:Program}{ops:Array Oper}{rest:List Oper}{o:Oper}{a:Act}{w:World}{Q:Exit→Act→World→Prop}{n:Nat}{l:List (Nat×Value)}
theorem P3 (H:Z9 a n l) {f:FuncId}{xs:Array Operand}{ats:Array TypeId}{vs:List Value}(ho:o.op = .call { callee:=.value (.func f),args:=xs,argTypes:=ats }) (hx:Y1f l xs.toList=some vs)
  (hen:∀(args:Array Value) (w:World),(callFunc f args).run P w = .ok (.enter f args) w):(execOp a.eval o).run P w = .ok (.enter f vs.toArray) w:=
 X2d ho (by rw[←H.evs hx,←Array.toList_map,Array.toArray_toList]) hen
theorem Z1g (hgb:P.underlying 31=some (.slice 5)) (hi:(P.info? 5).map (fun i=>(i.zero,i.size,i.bytes))=some (some (.int .u8 0),1,1)) {s x:Operand}
  (ho:o.op = .call { callee:=.builtin .append,args:=#[s,x],argTypes:=#[31,31] }) {b:Nat}{xs ys:List UInt8}{v u:Value}(hs:a.eval s=v) (hx:a.eval x=u) (hv:Y2 b xs v w) (hu:K0 ys u w)
  (hn:xs.length+ys.length≤140737488355328) (hb:b≤w.heap.size):∃v' w',(execOp a.eval o).run P w = .ok (.value v') w'∧Y2 b (xs++ys) v' w'∧Below b w w'∧w.grownBy w' v.ownBlock:=by
 obtain⟨A,c,rfl,hown⟩:=hv;obtain⟨A2,c2,rfl,hr⟩:=hu;obtain⟨A',c',w',hrun,h2,h3⟩:=Z0b (P:=P) w b 31 o.type 5 (.int .u8 0) 1 1 hgb hi rfl (by decide) _ xs.length (xs.map bv) hown w.heap.size A2 ys.length c2 (ys.map bv) hr (Z7s ys) (by unfold maxLen;omega) (by omega) hb;refine⟨_,w', ?_,⟨A',c',by rw[List.length_append],by rw[List.length_append,List.map_append];exact h2⟩,(Below.refl _ _).grown h3 hb fun k hk=>(hown.lt k hk).1,h3⟩;unfold execOp;simp only[ho,resolve,invoke,builtin,Sem.run_bind,Sem.run_pure,Result.andThen_ok,List.map_toArray,List.map_cons,List.map_nil,hs,hx,hrun]
theorem X8b {s:Operand}{t:TypeId}{A:Option Addr}{m c:Nat}(ho:o.op = .call { callee:=.builtin .len,args:=#[s],argTypes:=#[t] }) (hs:a.eval s = .slice A m c) {e:TypeId}(ht:P.underlying t=some (.slice e)):
  (execOp a.eval o).run P w = .ok (.value (iz m)) w:=by
 unfold execOp;simp only[ho,resolve,invoke,builtin,Sem.run_bind,Sem.run_pure,Result.andThen_ok,List.map_toArray,List.map_cons,List.map_nil,hs];simp[Builtin.len_,run_underlying ht,goInt]
end
theorem X9v {W w w':World}{B b:Nat}{bs:List (Nat×List Value)}(h:X0 W B bs w) (hb:Below b w w') (hB:B≤b) (hall:∀p∈bs,p.1<b):X0 W B bs w':=
 ⟨h.bel.trans (hb.mono hB),Nat.le_trans h.le hb.size,h.nd,fun p hp=>⟨(h.mem p hp).1,Nat.lt_of_lt_of_le (h.mem p hp).2.1 hb.size,(h.mem p hp).2.2.below hb (hall p hp)⟩⟩
theorem L6 (k:Int) (w:World):(convert 3 5 (iz k)).run Tryz.prog w = .ok (.int .u8 (k%256)) w:=by
 simp[go_sem];rfl
theorem Z3o (w:World) (xs:List UInt8) (vs:List Value) (h:vs=xs.map bv) (e:TypeId) (k:Nat) (hk:xs.length=k):K0 xs (.slice (some ⟨w.heap.size,0,none⟩) k k) (w.alloc (.cells vs.toArray e))∧Below w.heap.size w (w.alloc (.cells vs.toArray e)):=by
 subst hk;exact⟨⟨_,_,rfl,RB.lit w e vs.toArray (0,0) xs (by simpa using h)⟩,G0 w _⟩
theorem P0 (k:Int) (h0:0≤k):Value.int .u8 (k%256)=bv (UInt8.ofNat k.toNat):=by
 unfold bv;rw[UInt8.toNat_ofNat']
 congr 1
 omega
theorem Y7i (a b:Nat) (ha:a<9223372036854775808) (hb:b<9223372036854775808) (x y:Operand) (w:World):(do eqGuard .or 3 x y (iz a) (iz b);binOp .or 3 (iz a) (iz b):Sem Value).run Tryz.prog w = .ok (iz ((a|||b:Nat):Int)) w:=by
 have:=Y4u a b ha hb;simp[go_sem,this]
theorem G5 (b:Bool) (w:World):(Op.unary .not (.bool b)).run Tryz.prog w = .ok (.bool !b) w:=by
 cases b<;>rfl
end
section
open Go.RowKit
theorem X9w {P:Program}{w:World}{a:Act}{o:Oper}{T:Nat}{x i:Operand}{u v r:Value}(ho:o.op = .indexAddr T x i) (hx:a.eval x=u) (hi:a.eval i=v) (hq:(Instr.indexAt T u v).run P w = .ok r w):(execOp a.eval o).run P w = .ok (.value r) w:=by
 unfold execOp;simp only[ho,hx,hi,Sem.run_bind,hq,Result.andThen_ok,Sem.run_pure]
theorem J3n {P:Program}{w:World}{a:Act}{o:Oper}{s:Operand}{t:TypeId}{u:ByteArray}(ho:o.op = .call { callee:=.builtin .len,args:=#[s],argTypes:=#[t] }) (hs:a.eval s = .string u) (ht:P.underlying t=some .string):
  (execOp a.eval o).run P w = .ok (.value (iz u.size)) w:=by
 unfold execOp;simp only[ho,resolve,invoke,builtin,Sem.run_bind,Sem.run_pure,Result.andThen_ok,List.map_toArray,List.map_cons,List.map_nil,hs];simp[Builtin.len_,run_underlying ht,goInt]
structure Y7 where
 op:Nat
 slot:Nat
 kill:List Nat
 c:Option Value
 q:Value→World→Prop
 arm:Bool
def ec (i s:Nat) (v:Value):Y7:=⟨i,s,[],some v,fun _ _=>True,false⟩
def er (i s:Nat) (k:List Nat) (q:Value→World→Prop):Y7:=⟨i,s,k,none,q,true⟩
def eh (i s:Nat) (v:Value):Y7:=⟨i,s,[],some v,fun _ _=>True,true⟩
def Y7.e (t:Y7):Ent:=match t.c with
 |some v=>⟨t.op,t.slot,[],fun u _=>u=v⟩
 |none=>⟨t.op,t.slot,t.kill,t.q⟩
def aft (L:List Edge) (j:Nat):Bool:=L.any (fun e=>Region.binds .any e&&Nat.beq e.on j)
def D4 (ops:Array Oper) (i:Nat):List Edge:=match ops[i]? with
 |some o=>o.after.toList
 |none=>[]
def K8 (L:List Edge):List Y7→List (Nat×Value)
 |[]=>[]
 |⟨k,s,_,c,_,_⟩::ts=>match c with
  |some v=>bif aft L k then (s,v)::K8 L ts else K8 L ts
  |none=>K8 L ts
def Z1h (ops:Array Oper) (Q:Exit→Act→World→Prop) (n:Nat) (l:List (Nat×Value)) (Wp:World→Prop) (i s:Nat) (v:Value):Prop:=
 ∀(K:Act→World→Prop) (a:Act) (w:World),Z9 a n l→Wp w→K (a.put (some s) v) w→wpOp Tryz.prog ops Q i K a w
def Z6j (ops:Array Oper) (Q:Exit→Act→World→Prop) (n:Nat) (fixed:List (Nat×Value)) (Wp:World→Prop) (es:List Y7):List Y7→Prop
 |[]=>True
 |⟨k,s,_,c,_,m⟩::ts=>match c,m with
  |some v,false=>Z1h ops Q n (fixed++K8 (D4 ops k) es) Wp k s v∧Z6j ops Q n fixed Wp es ts
  |_,_=>Z6j ops Q n fixed Wp es ts
def Z5o (N:Nat):List Y7→Nat→Prop
 |[],_=>False
 |⟨k,_,_,c,_,m⟩::ts,i=>match c,m with
  |some _,false=>Z5o N ts i
  |_,_=>bif Nat.blt k N then (i=k∨Z5o N ts i) else Z5o N ts i
def Q1m (N:Nat) (es:List Y7):Bool:=(List.range N).all (fun i=>es.any (fun t=>t.op==i))
def Y0k (N:Nat) (a:Act) (w:World):List Y7→Prop
 |[]=>True
 |⟨k,s,_,c,q,_⟩::ts=>bif Nat.blt k N then Y0k N a w ts else ((match c with |some v=>a.eval (.tmp s)=v |none=>q (a.eval (.tmp s)) w)∧Y0k N a w ts)
def Z1i (i:Nat) (listed:Array Bool) (w w':World):List Y7→Prop
 |[]=>True
 |⟨k,_,ks,c,q,_⟩::ts=>match c with
  |some _=>Z1i i listed w w' ts
  |none=>(k≠i→i∉ks→(listed.size≤k∨listed.getD k false=true)→Z5k listed ks→∀u,q u w→q u w')∧Z1i i listed w w' ts
def sel (l:List (Nat×Value)):List Nat→Option (List (Nat×Value))
 |[]=>some []
 |k::ks=>match Y2i l k,sel l ks with
  |some v,some r=>some ((k,v)::r)
  |_,_=>none
theorem Y2k {a:Act}{n:Nat}{l:List (Nat×Value)}(H:Z9 a n l):∀{ss:List Nat}{r:List (Nat×Value)},sel l ss=some r→W7 a r
 |[],r,h=>by
  cases h;trivial
 |k::ks,r,h=>by
  unfold sel at h
  split at h
  ·next v r' h1 h2=>
   injection h with h
   subst h;exact⟨H.at_ k v h1,Y2k H h2⟩
  ·cases h
theorem Z9.kp {a:Act}{n:Nat}{l l':List (Nat×Value)}(H:Z9 a n l) (ks:List Nat) (h:sel l ks=some l':=by rfl):Z9 a n l':=Z9.of H.sz H.df (Y2k H h)
def okG (ops:Array Oper) (l:List (Nat×Value)) (o:Oper):Bool:=match o.guard with
 |none=>true
 |some (j,b)=>match (ops[j]?).bind (·.dst) with
  |some d=>match Y2i l d with
   |some (.bool c)=>bif b then c else !c
   |_=>false
  |none=>false
def noB:Value→Bool→Bool
 | .bool c,b=>bif b then !c else c
 |_,_=>true
theorem Y3m {ops:Array Oper}{a:Act}{j d:Nat}{v:Value}{b:Bool}(hj:(ops[j]?).bind (·.dst)=some d) (h:a.eval (.tmp d)=v) (hn:noB v b=true):yielded ops a.tmps j≠some b:=by
 intro hy;unfold yielded at hy;rw[hj,Option.bind_some] at hy
 split at hy
 ·next c hc=>
  injection hy with hy
  subst hy;have:a.eval (.tmp d) = .bool c:=by
   simp only[Act.eval,Array.getD_eq_getD_getElem?,hc,Option.getD_some]
  rw[←h,this] at hn;cases c<;>cases hn
 ·cases hy
def J3o (ops:Array Oper) (l:List (Nat×Value)) (o:Oper):Bool:=match o.guard with
 |none=>false
 |some (j,b)=>match (ops[j]?).bind (·.dst) with
  |some d=>match Y2i l d with
   |some v=>noB v b
   |none=>false
  |none=>false
theorem Z0g {ops:Array Oper}{o:Oper}{a:Act}{n:Nat}{l:List (Nat×Value)}(H:Z9 a n l) (h:okG ops l o=true):Region.wanted o (yielded ops a.tmps)=true:=by
 unfold okG at h
 split at h
 ·next hg=>exact gz hg
 ·next j b hg=>
  split at h
  ·next d hj=>
   split at h
   ·next c hc=>
    have e:c=b:=by cases b<;>cases c<;>first |rfl |cases h
    exact H.wt hg hj (by rw[hc,e])
   ·cases h
  ·cases h
theorem X5f {ops:Array Oper}{o:Oper}{a:Act}{n:Nat}{l:List (Nat×Value)}(H:Z9 a n l) (h:J3o ops l o=true):Region.wanted o (yielded ops a.tmps)=false:=by
 unfold J3o at h
 split at h
 ·cases h
 ·next j b hg=>
  split at h
  ·next d hj=>
   split at h
   ·next v hv=>
    unfold Region.wanted;rw[hg];have:=Y3m hj (H.at_ d v hv) h
    simpa using this
   ·cases h
  ·cases h
abbrev gv (g:Bool) (v:Value):Value:=bif g then v else undef
section
variable {ops:Array Oper}{Q:Exit→Act→World→Prop}{n:Nat}{l fixed:List (Nat×Value)}{Wp Wp':World→Prop}{i s:Nat}{v:Value}{o:Oper}
theorem jm (ho:ops[i]? = some o:=by rfl) (hg:okG ops l o=true:=by rfl) (h:X2b n { o with guard:=none } l=some (s,v):=by rfl):Z1h ops Q n l Wp i s v:=by
 intro K a w H _ hK;unfold X2b at h
 split at h
 ·next d x _ hd ho'=>
  split at h
  ·next u hn hx=>
   simp only[Option.some.injEq,Prod.mk.injEq] at h;obtain⟨rfl,rfl⟩:=h;exact V7 ho (Z0g H hg) _ hd _ w (N2 (.inl ho') (H.ev hx)) hK
  ·cases h
 ·next d x _ hd ho'=>
  split at h
  ·next u hn hx=>
   simp only[Option.some.injEq,Prod.mk.injEq] at h;obtain⟨rfl,rfl⟩:=h;exact V7 ho (Z0g H hg) _ hd _ w (N2 (.inr ho') (H.ev hx)) hK
  ·cases h
 ·next d t x f _ hd ho'=>
  split at h
  ·next g b hn hx=>
   split at h
   ·next r hr=>
    simp only[Option.some.injEq,Prod.mk.injEq] at h;obtain⟨rfl,rfl⟩:=h;exact V7 ho (Z0g H hg) _ hd _ w (S3 ho' (H.ev hx) (Y5d Q0q hr)) hK
   ·cases h
  ·cases h
 ·next d x _ hd ho'=>
  split at h
  ·next p hn hx=>
   simp only[Option.some.injEq,Prod.mk.injEq] at h;obtain⟨rfl,rfl⟩:=h;exact V7 ho (Z0g H hg) _ hd _ w (by unfold execOp;simp only[show o.op=_ from ho',H.ev hx];rfl) hK
  ·cases h
 ·cases h
theorem jl {T:Nat}{x:Operand}{p:Value}(hl:∀w,Wp w→(Instr.loadAt T p).run Tryz.prog w = .ok v w) (ho:ops[i]? = some o:=by rfl) (hp:o.op = .load T x:=by rfl) (hd:o.dst=some s:=by rfl) (hg:okG ops l o=true:=by rfl) (hx:W1 l x=some p:=by rfl):Z1h ops Q n l Wp i s v:=
 fun _ _ w H hw hK=>V7 ho (Z0g H hg) s hd v w (Z5n hp (H.ev hx) (hl w hw)) hK
theorem jb {b:BinOp}{T T':TypeId}{x y:Operand}{u u':Value}(hq:∀w,(do eqGuard b T x y u u';binOp b T u u':Sem Value).run Tryz.prog w = .ok v w) (ho:ops[i]? = some o:=by rfl) (hp:o.op = .binOp b T x y T':=by rfl) (hd:o.dst=some s:=by rfl) (hg:okG ops l o=true:=by rfl) (hx:W1 l x=some u:=by rfl) (hy:W1 l y=some u':=by rfl):Z1h ops Q n l Wp i s v:=
 fun _ _ w H _ hK=>V7 ho (Z0g H hg) s hd v w (J8b hp (H.ev hx) (H.ev hy) (hq w)) hK
theorem jB {b:BinOp}{T T':TypeId}{x y:Operand}{u u':Value}(ho:ops[i]? = some o) (hp:o.op = .binOp b T x y T') (hd:o.dst=some s) (hg:okG ops l o=true) (hx:W1 l x=some u) (hy:W1 l y=some u') (hq:∀w,(do eqGuard b T x y u u';binOp b T u u':Sem Value).run Tryz.prog w = .ok v w):Z1h ops Q n l Wp i s v:=
 jb hq ho hp hd hg hx hy
theorem jn {x:Operand}{t:TypeId}{A:Option Addr}{m c:Nat}{e:TypeId}(ht:Tryz.prog.underlying t=some (.slice e)) (ho:ops[i]? = some o:=by rfl) (hp:o.op = .call { callee:=.builtin .len,args:=#[x],argTypes:=#[t] }:=by rfl) (hd:o.dst=some s:=by rfl) (hg:okG ops l o=true:=by rfl) (hx:W1 l x=some (.slice A m c):=by rfl) (hv:v=iz m:=by rfl):Z1h ops Q n l Wp i s v:=
 fun _ _ w H _ hK=>V7 ho (Z0g H hg) s hd v w (by rw[hv];exact X8b hp (H.ev hx) ht) hK
theorem jI {T:Nat}{x y:Operand}{u u':Value}(ho:ops[i]? = some o) (hp:o.op = .indexAddr T x y) (hd:o.dst=some s) (hg:okG ops l o=true) (hx:W1 l x=some u) (hy:W1 l y=some u') (hq:∀w,(Instr.indexAt T u u').run Tryz.prog w = .ok v w):Z1h ops Q n l Wp i s v:=
 fun _ _ w H _ hK=>V7 ho (Z0g H hg) s hd v w (X9w hp (H.ev hx) (H.ev hy) (hq w)) hK
theorem jf {T f g off off0:Nat}{x:Operand}(hf:∀g w,(Instr.fieldAt T (.pointer (some ⟨g,off0,none⟩)) f).run Tryz.prog w = .ok (.pointer (some ⟨g,off,none⟩)) w) (ho:ops[i]? = some o:=by rfl) (hp:o.op = .fieldAddr T x f:=by rfl) (hd:o.dst=some s:=by rfl) (hg:okG ops l o=true:=by rfl) (hx:W1 l x=some (.pointer (some ⟨g,off0,none⟩)):=by rfl) (hv:v = .pointer (some ⟨g,off,none⟩):=by rfl):Z1h ops Q n l Wp i s v:=
 fun _ _ w H _ hK=>V7 ho (Z0g H hg) s hd v w (by rw[hv];exact S3 hp (H.ev hx) hf) hK
theorem jc {T T':TypeId}{x:Operand}{u:Value}(hq:∀w,(convert T T' u).run Tryz.prog w = .ok v w) (ho:ops[i]? = some o:=by rfl) (hp:o.op = .convert T T' x:=by rfl) (hd:o.dst=some s:=by rfl) (hg:okG ops l o=true:=by rfl) (hx:W1 l x=some u:=by rfl):Z1h ops Q n l Wp i s v:=
 fun _ _ w H _ hK=>V7 ho (Z0g H hg) s hd v w (J3m hp (H.ev hx) (hq w)) hK
theorem jx {k:Nat}{x:Operand}{u:Value}(ho:ops[i]? = some o:=by rfl) (hp:o.op = .extract x k:=by rfl) (hd:o.dst=some s:=by rfl) (hg:okG ops l o=true:=by rfl) (hx:W1 l x=some u:=by rfl) (hq:∀w,(Instr.extract u k).run Tryz.prog w = .ok v w:=by exact fun _=>rfl):Z1h ops Q n l Wp i s v:=
 fun _ _ w H _ hK=>V7 ho (Z0g H hg) s hd v w (X2c hp (H.ev hx) (hq w)) hK
theorem jq {f:FuncId}{xs:Array Operand}{ats:Array TypeId}{vs:List Value}(hc:∀w,Wp w→Calls Tryz.prog f vs.toArray w fun e w'=>e = .returned v∧w=w') (ho:ops[i]? = some o:=by rfl) (hp:o.op = .call { callee:=.value (.func f),args:=xs,argTypes:=ats }:=by rfl) (hd:o.dst=some s:=by rfl) (hg:okG ops l o=true:=by rfl)
  (hx:Y1f l xs.toList=some vs:=by rfl) (hen:∀(args:Array Value) (w:World),(callFunc f args).run Tryz.prog w = .ok (.enter f args) w:=by exact fun _ _=>by kernel_rfl):Z1h ops Q n l Wp i s v:=
 fun _ _ w H hw hK=>D0 ho (Z0g H hg) s hd f _ (P3 H hp hx hen) _ (Z6t (hc w hw)) (by rintro _ _ ⟨rfl,rfl⟩;exact hK)
theorem jo (ho:ops[i]? = some o:=by rfl) (hd:o.dst=some s:=by rfl) (hg:J3o ops l o=true:=by rfl):Z1h ops Q n l Wp i s undef:=
 fun _ _ w H _ hK=>Y4y ho (X5f H hg) (by rw[hd];exact hK)
theorem jp {c x y:Operand}{b:Bool}(ho:ops[i]? = some o:=by rfl) (hp:o.op = .pick c x y:=by rfl) (hd:o.dst=some s:=by rfl) (hg:okG ops l o=true:=by rfl) (hc:W1 l c=some (.bool b):=by rfl) (hx:(bif b then W1 l x else W1 l y)=some v:=by rfl):Z1h ops Q n l Wp i s v:=by
 intro K a w H _ hK;refine V7 ho (Z0g H hg) s hd v w ?_ hK;unfold execOp;simp only[hp,H.ev hc];cases b with
 |true=>rw[cond_true] at hx;rw[←H.ev hx];rfl
 |false=>rw[cond_false] at hx;rw[←H.ev hx];rfl
theorem ja (hrun:∀w,(execOp (fun x=>(W1 l x).getD undef) o).run Tryz.prog w = .ok (.value v) w) (ho:ops[i]? = some o:=by rfl) (hs:∀cs b,o.op ≠ .select cs b:=by intro cs b h;cases h) (hk:o.op.operands.all (fun x=>(W1 l x).isSome)=true:=by kernel_rfl) (hd:o.dst=some s:=by rfl) (hg:okG ops l o=true:=by rfl):Z1h ops Q n l Wp i s v:=
 fun _ _ w H _ hK=>V7 ho (Z0g H hg) s hd v w (Z0f H hs hk (hrun w)) hK
theorem W7.app {a:Act}:∀{l l':List (Nat×Value)},W7 a l→W7 a l'→W7 a (l++l')
 |[],_,_,h=>h
 |_::_,_,h,h'=>⟨h.1,W7.app h.2 h'⟩
theorem Y7.e_op (t:Y7):t.e.op=t.op:=by unfold Y7.e;split<;>rfl
theorem Z2c {listed:Array Bool}{a:Act}{w:World}{es:List Y7}(hI:Z1r n fixed (es.map Y7.e) Wp listed a w) {f:Array Edge}(hd:∀e∈f,Region.binds .any e=true→listed.getD e.on false=true):∀{ts:List Y7},(∀t∈ts,t∈es)→W7 a (K8 f.toList ts)
 |[],_=>trivial
 |t::ts,h=>by
  have ih:=Z2c hI hd (ts:=ts) fun u hu=>h u (List.mem_cons_of_mem _ hu);unfold K8;cases hc:t.c with
  |none=>exact ih
  |some v=>
   cases hb:aft f.toList t.op with
   |false=>exact ih
   |true=>
    have hr:listed.getD t.op false=true:=Y5 hd t.op (by unfold aft at hb;simpa using hb);have:=hI.vs t.e (List.mem_map_of_mem (h t List.mem_cons_self)) (.inr (by rw[Y7.e_op];exact hr));simp only[Y7.e,hc] at this;exact⟨this trivial,ih⟩
theorem Z9p {es:List Y7}:∀{ts:List Y7},Z6j ops Q n fixed Wp es ts→∀t∈ts,∀v,t.c=some v→t.arm=false→Z1h ops Q n (fixed++K8 (D4 ops t.op) es) Wp t.op t.slot v
 |u::us,h,t,ht,v,hv,hm=>by
  unfold Z6j at h;rcases List.mem_cons.1 ht with rfl |ht
  ·rw[hv,hm] at h
   exact h.1
  ·cases hc:u.c with
   |none=>rw[hc] at h;exact Z9p h t ht v hv hm
   |some x=>
    cases ha:u.arm with
    |true=>rw[hc,ha] at h;exact Z9p h t ht v hv hm
    |false=>rw[hc,ha] at h;exact Z9p h.2 t ht v hv hm
theorem Z8s {N:Nat}:∀{es:List Y7}{t:Y7},t∈es→(t.c=none∨t.arm=true)→t.op<N→Z5o N es t.op
 |u::us,t,ht,hc,hN=>by
  unfold Z5o;rcases List.mem_cons.1 ht with rfl |ht
  ·have:Nat.blt t.op N=true:=by simpa [Nat.blt_eq] using hN
   split
   ·next h1 h2=>
    rcases hc with hc |hc
    ·rw[hc] at h1;cases h1
    ·rw[hc] at h2;cases h2
   ·simp only[this,cond_true,true_or]
  ·have ih:=Z8s ht hc hN
   split
   ·exact ih
   ·cases Nat.blt u.op N with
    |true=>exact .inr ih
    |false=>exact ih
theorem Y1g {N:Nat}{a:Act}{w:World}:∀{es:List Y7},Y0k N a w es→∀t∈es,N≤t.op→t.e.p (a.eval (.tmp t.slot)) w
 |u::us,h,t,ht,hN=>by
  unfold Y0k at h;cases hb:Nat.blt u.op N with
  |true=>
   rw[hb,cond_true] at h;have:u.op<N:=by simpa [Nat.blt_eq] using hb
   rcases List.mem_cons.1 ht with rfl |ht
   ·omega
   ·exact Y1g h t ht hN
  |false=>
   rw[hb,cond_false] at h;rcases List.mem_cons.1 ht with rfl |ht
   ·have:=h.1
    unfold Y7.e;cases hc:t.c<;>(rw[hc] at this;exact this)
   ·exact Y1g h.2 t ht hN
theorem Z1i.same {i:Nat}{listed:Array Bool}{w:World}:∀{es:List Y7},Z1i i listed w w es
 |[]=>trivial
 |t::ts=>by
  unfold Z1i;cases t.c with
  |some v=>exact Z1i.same
  |none=>exact⟨fun _ _ _ _ _ h=>h,Z1i.same⟩
theorem Z1i.all {i:Nat}{listed:Array Bool}{w w':World}:∀{es:List Y7},Z1i i listed w w' es→Z5l i listed w w' (es.map Y7.e)
 |[],_=>trivial
 |t::ts,h=>by
  unfold Z1i at h;rw[List.map_cons];cases hc:t.c with
  |some v=>
   rw[hc] at h;refine⟨?_,Z1i.all h⟩;unfold Y7.e;rw[hc];exact fun _ _ _ _ _ h=>h
  |none=>
   rw[hc] at h;refine⟨?_,Z1i.all h.2⟩;unfold Y7.e;rw[hc];exact h.1
theorem Z1r.ph {es:List Y7}{listed:Array Bool}{a:Act}{w w':World}{N:Nat}(h:Z1r n fixed (es.map Y7.e) Wp listed a w) (hs:listed.size=N) (k:Nat) {t:Y7}(ht:es[k]? = some t) (v:Value) (hp:t.e.p v w') (hw:Wp' w') (hst:Z1i t.op listed w w' es) (h1:Nat.blt t.op N=true:=by rfl)
  (h2:Nat.ble N 1000=true:=by rfl) (hf:Z5m n fixed (es.map Y7.e)=true:=by kernel_rfl):Z1r n fixed (es.map Y7.e) Wp' (listed.setIfInBounds t.e.op true) (a.put (some t.e.slot) v) w':=
 h.put hf t.e (List.mem_map_of_mem (List.mem_of_getElem? ht)) (by rw[hs,Y7.e_op];simpa [Nat.blt_eq] using h1) (by rw[hs];simpa using h2) v hp hw (by rw[Y7.e_op];exact hst.all)
theorem Z1r.hs {es:List Ent}{listed:Array Bool}{a:Act}{w:World}(h:Z1r n fixed es Wp listed a w) (ts:List Nat):Z9 a n (fixed++ts.map fun t=>(t,a.eval (.tmp t))):=by
 refine Z9.of h.sz h.df (W7.app h.fx ?_)
 induction ts with
 |nil=>trivial
 |cons t ts ih=>exact⟨rfl,ih⟩
theorem Z9.dr {a:Act}{w W:World}{b:Nat}{bs:List (Nat×List Value)}{c:Code}{id:Nat}{Q':Exit→Act→World→Prop}(H:Z9 a n l) (HB:D5 W b bs w) (ss:List Nat) (hs:sel l ss=some fixed) (es:List Y7) (hc:Y5b Tryz.prog c Q'=(.region id ops true,Q)) (hp:Z6j ops Q n fixed (D5 W b bs) es es) (h0:Y0k ops.size a w.drew es)
  (hstep:∀(listed:Array Bool) (a:Act) (w:World) (i:Nat) (o:Oper),listed.size=ops.size→listed.getD i false=false→Z6u .any ops listed→ops[i]? = some o→(∀e∈o.after,Region.binds .any e=true→listed.getD e.on false=true)→Z1r n fixed (es.map Y7.e) (D5 W b bs) listed a w→Z5o ops.size es i →
   wpOp Tryz.prog ops Q i (fun a' w'=>Z1r n fixed (es.map Y7.e) (D5 W b bs) (listed.setIfInBounds i true) a' w') a w)
  (hfin:∀(listed:Array Bool) (a:Act) (w:World),(∀i,i<ops.size→listed.getD i false=true)→Z1r n fixed (es.map Y7.e) (D5 W b bs) listed a w→Q .normal a w)
  (hf:(Z5m n fixed (es.map Y7.e)&&(Q1m ops.size es&&Nat.ble ops.size 1000))=true:=by kernel_rfl)
  (hback:(List.range ops.size).all (fun i=>match ops[i]? with |some o=>o.after.all (fun e=> !Region.binds .any e||decide (e.on<i)) |none=>true)=true:=by kernel_rfl) (hm:Tryz.prog.follows .mixedOrders=true:=by kernel_rfl):c.wp Tryz.prog Q' a w:=by
 simp only[Bool.and_eq_true] at hf;obtain⟨hf,hcv,hN⟩:=hf;have hN:ops.size≤1000:=by simpa using hN
 refine Z4q c Q' ?_;rw[hc];refine Z5j hm (Z1r n fixed (es.map Y7.e) (D5 W b bs)) (Z6i hback) ?_ hfin ⟨H.sz,H.df,Y2k H hs, ?_,HB.drew⟩
 ·intro listed a w i o hsz hni hcl ho hd hI
  have hi:i<ops.size:=(Array.getElem?_eq_some_iff.1 ho).1;have:=List.all_eq_true.1 hcv i (List.mem_range.2 hi);obtain⟨t,ht,he⟩:=List.any_eq_true.1 this;have he:t.op=i:=by simpa using he
  subst he;cases hv:t.c with
  |none=>exact hstep listed a w t.op o hsz hni hcl ho hd hI (Z8s ht (.inl hv) hi)
  |some v=>
   cases hm:t.arm with
   |true=>exact hstep listed a w t.op o hsz hni hcl ho hd hI (Z8s ht (.inr hm) hi)
   |false=>
   have hk:D4 ops t.op=o.after.toList:=by unfold D4;rw[ho]
   have hK:=hI.put hf t.e (List.mem_map_of_mem ht) (by rw[Y7.e_op,hsz];exact hi) (by rw[hsz];exact hN) v (by simp only[Y7.e,hv]) hI.wp Z5l.same;rw[Y7.e_op] at hK;have hsl:t.e.slot=t.slot:=by simp only[Y7.e,hv]
   rw[hsl] at hK;have hp':=Z9p hp t ht v hv hm;rw[hk] at hp';exact hp' _ a w (Z9.of hI.sz hI.df (W7.app hI.fx (Z2c hI hd fun _ h=>h))) hI.wp hK
 ·intro u hu hl _
  obtain⟨t,ht,rfl⟩:=List.mem_map.1 hu;rw[Y7.e_op] at hl;have hsl:t.e.slot=t.slot:=by unfold Y7.e;split<;>rfl
  rw[hsl];refine Y1g h0 t ht ?_;rcases hl with hl |hl
  ·simpa using hl
  ·rw[Z3d] at hl;cases hl
end
end
section
open Go.RowKit
section
variable {ops:Array Oper}{Q:Exit→Act→World→Prop}{n:Nat}{l fixed:List (Nat×Value)}{Wp Wp':World→Prop}{i s:Nat}{v:Value}{o:Oper}
theorem ju {b:UnOp}{T:TypeId}{x:Operand}{u:Value}(ho:ops[i]? = some o:=by rfl) (hp:o.op = .unOp b T x:=by rfl) (hd:o.dst=some s:=by rfl) (hg:okG ops l o=true:=by rfl) (hx:W1 l x=some u:=by rfl) (hq:∀w,(Op.unary b u).run Tryz.prog w = .ok v w:=by exact fun _=>rfl):Z1h ops Q n l Wp i s v:=
 fun _ _ w H _ hK=>V7 ho (Z0g H hg) s hd v w (Q1l hp (H.ev hx) (hq w)) hK
theorem Q6 {P:Program}{a:Act}{w w':World}{T:TypeId}{x y:Operand}{p v:Value}(ho:o.op = .store T x y) (hx:a.eval x=p) (hy:a.eval y=v) (hl:(Instr.storeAt T p v).run P w = .ok () w'):(execOp a.eval o).run P w = .ok .skip w':=by
 unfold execOp;simp only[ho,hx,hy,Sem.run_bind,hl,Result.andThen_ok,Sem.run_pure]
def Wfl (js:List Nat) (Wc:World→Prop) (Wf:List Bool→World→Prop) (listed:Array Bool) (w:World):Prop:=Wc w∧Wf (js.map fun j=>listed.getD j false) w
def Y1h (listed:Array Bool) (i:Nat):List Nat→List Bool
 |[]=>[]
 |j::js=>(bif Nat.beq j i then true else listed.getD j false)::Y1h listed i js
theorem Y7v {listed:Array Bool}{i:Nat}(hi:i<listed.size):∀js:List Nat,js.map (fun j=>(listed.setIfInBounds i true).getD j false)=Y1h listed i js
 |[]=>rfl
 |j::js=>by
  rw[List.map_cons,Y7v hi js,Y1h]
  congr 1
  cases hb:Nat.beq j i with
  |true=>
   have:=Nat.eq_of_beq_eq_true hb;subst this;rw[Z8r listed hi,cond_true]
  |false=>
   have:i≠j:=fun e=>by subst e;rw[Nat.beq_refl] at hb;cases hb
   rw[Z8q listed this,cond_false]
def Q1n:List Nat→Nat→Prop
 |[],_=>False
 |d::ds,i=>i=d∨Q1n ds i
theorem J3p {i:Nat}:∀{ds:List Nat},i∈ds→Q1n ds i
 |d::ds,h=>by
  rcases List.mem_cons.1 h with rfl |h
  ·exact .inl rfl
  ·exact .inr (J3p h)
def X5g (N:Nat) (es:List Y7) (ds:List Nat):Bool:=(List.range N).all (fun i=>es.any (fun t=>t.op==i)||ds.contains i)
def Z1y (t:Y7):Bool:=t.c.isSome && !t.arm
theorem Z1r.mono {es:List Ent}{listed:Array Bool}{a:Act}{w:World}(h:Z1r n fixed es Wp listed a w) (hw:Wp w→Wp' w):Z1r n fixed es Wp' listed a w:=⟨h.sz,h.df,h.fx,h.vs,hw h.wp⟩
theorem Wfl.plain {js:List Nat}{Wc:World→Prop}{Wf:List Bool→World→Prop}{listed:Array Bool}{i:Nat}{w:World}(h:Wfl js Wc Wf listed w) (_hi:i<listed.size) (hj:i∉js):Wfl js Wc Wf (listed.setIfInBounds i true) w:=by
 refine⟨h.1, ?_⟩;have:(js.map fun j=>(listed.setIfInBounds i true).getD j false)=js.map fun j=>listed.getD j false:=List.map_congr_left fun j hjm=>Z8q listed fun e=>hj (by rw[e];exact hjm);rw[this];exact h.2
theorem Z1r.pd {es:List Y7}{js:List Nat}{Wc:World→Prop}{Wf:List Bool→World→Prop}{listed:Array Bool}{a:Act}{w w':World}{N:Nat}(h:Z1r n fixed (es.map Y7.e) (Wfl js Wc Wf listed) listed a w) (hs:listed.size=N) (i:Nat) (hc:Wc w') (hw:Wf (Y1h listed i js) w') (hst:Z1i i listed w w' es)
  (h1:Nat.blt i N=true:=by rfl) (h2:(es.map Y7.e).all (fun t=>t.op != i)=true:=by kernel_rfl):Z1r n fixed (es.map Y7.e) (Wfl js Wc Wf (listed.setIfInBounds i true)) (listed.setIfInBounds i true) a w':=by
 have hi:i<listed.size:=by rw[hs];simpa [Nat.blt_eq] using h1
 exact h.done i hi h2 ⟨hc,by rw[Y7v hi];exact hw⟩ hst.all
theorem Z9.dg {a:Act}{w:World}{c:Code}{id:Nat}{Q':Exit→Act→World→Prop}(H:Z9 a n l) (js:List Nat) (Wc:World→Prop) (Wf:List Bool→World→Prop) (ss:List Nat) (hs:sel l ss=some fixed) (es:List Y7) (ds:List Nat) (hc:Y5b Tryz.prog c Q'=(.region id ops true,Q)) (hw:Wc w.drew) (hw':Wf (js.map fun _=>false) w.drew) (hp:Z6j ops Q n fixed Wc es es) (h0:Y0k ops.size a w.drew es)
  (hstep:∀(listed:Array Bool) (a:Act) (w:World) (i:Nat) (o:Oper),listed.size=ops.size→listed.getD i false=false→Z6u .any ops listed→ops[i]? = some o→(∀e∈o.after,Region.binds .any e=true→listed.getD e.on false=true)→Z1r n fixed (es.map Y7.e) (Wfl js Wc Wf listed) listed a w→(Z5o ops.size es i∨Q1n ds i) →
   wpOp Tryz.prog ops Q i (fun a' w'=>Z1r n fixed (es.map Y7.e) (Wfl js Wc Wf (listed.setIfInBounds i true)) (listed.setIfInBounds i true) a' w') a w)
  (hfin:∀(listed:Array Bool) (a:Act) (w:World),(∀i,i<ops.size→listed.getD i false=true)→Z1r n fixed (es.map Y7.e) (fun w=>Wc w∧Wf (js.map fun _=>true) w) listed a w→Q .normal a w)
  (hf:(Z5m n fixed (es.map Y7.e)&&(es.all (fun t=> !Z1y t || !js.contains t.op)&&(js.all (fun j=>Nat.blt j ops.size)&&(X5g ops.size es ds&&Nat.ble ops.size 1000))))=true:=by kernel_rfl)
  (hback:(List.range ops.size).all (fun i=>match ops[i]? with |some o=>o.after.all (fun e=> !Region.binds .any e||decide (e.on<i)) |none=>true)=true:=by kernel_rfl) (hm:Tryz.prog.follows .mixedOrders=true:=by kernel_rfl):c.wp Tryz.prog Q' a w:=by
 simp only[Bool.and_eq_true] at hf;obtain⟨hf,hpl,hjs,hcv,hN⟩:=hf;have hN:ops.size≤1000:=by simpa using hN
 refine Z4q c Q' ?_;rw[hc];refine Z5j hm (fun listed=>Z1r n fixed (es.map Y7.e) (Wfl js Wc Wf listed) listed) (Z6i hback) ?_ ?_ ⟨H.sz,H.df,Y2k H hs, ?_,hw, ?_⟩
 ·intro listed a w i o hsz hni hcl ho hd hI
  have hi:i<ops.size:=(Array.getElem?_eq_some_iff.1 ho).1;by_cases hmem:i∈es.map (·.op)
  ·obtain⟨t,ht,he⟩:=List.mem_map.1 hmem
   subst he;cases hv:t.c with
   |none=>exact hstep listed a w t.op o hsz hni hcl ho hd hI (.inl (Z8s ht (.inl hv) hi))
   |some v=>
    cases hm:t.arm with
    |true=>exact hstep listed a w t.op o hsz hni hcl ho hd hI (.inl (Z8s ht (.inr hm) hi))
    |false=>
     have hk:D4 ops t.op=o.after.toList:=by unfold D4;rw[ho]
     have hnj:t.op∉js:=by
      have:=List.all_eq_true.1 hpl t ht
      simpa [Z1y,hv,hm] using this
     have hK:=(hI.put hf t.e (List.mem_map_of_mem ht) (by rw[Y7.e_op,hsz];exact hi) (by rw[hsz];exact hN) v (by simp only[Y7.e,hv]) hI.wp Z5l.same).mono (Wp':=Wfl js Wc Wf (listed.setIfInBounds t.op true)) fun h=>h.plain (by rw[hsz];exact hi) hnj;rw[Y7.e_op] at hK;have hsl:t.e.slot=t.slot:=by simp only[Y7.e,hv]
     rw[hsl] at hK;have hp':=Z9p hp t ht v hv hm;rw[hk] at hp';exact hp' _ a w (Z9.of hI.sz hI.df (W7.app hI.fx (Z2c hI hd fun _ h=>h))) hI.wp.1 hK
  ·have:=List.all_eq_true.1 hcv i (List.mem_range.2 hi)
   simp only[Bool.or_eq_true] at this;rcases this with h |h
   ·obtain⟨t,ht,he⟩:=List.any_eq_true.1 h
    exact absurd (List.mem_map.2 ⟨t,ht,by simpa using he⟩) hmem
   ·exact hstep listed a w i o hsz hni hcl ho hd hI (.inr (J3p (by simpa using h)))
 ·intro listed a w hall hI
  refine hfin listed a w hall (hI.mono fun h=>⟨h.1, ?_⟩);have:(js.map fun j=>listed.getD j false)=js.map fun _=>true:=List.map_congr_left fun j hj=>hall j (by simpa [Nat.blt_eq] using List.all_eq_true.1 hjs j hj);rw[←this];exact h.2
 ·intro u hu hl _
  obtain⟨t,ht,rfl⟩:=List.mem_map.1 hu;rw[Y7.e_op] at hl;have hsl:t.e.slot=t.slot:=by unfold Y7.e;split<;>rfl
  rw[hsl];refine Y1g h0 t ht ?_;rcases hl with hl |hl
  ·simpa using hl
  ·rw[Z3d] at hl;cases hl
 ·have:(js.map fun j=>(Array.replicate ops.size false).getD j false)=js.map fun _=>false:=List.map_congr_left fun j _=>Z3d _ _
  rw[this];exact hw'
end
end
section
open Go.RowKit
theorem R1 {w:World}{g:Nat}{L:List Value}{m:Nat}(hC:X5 w g L) (hi:(Tryz.prog.info? 49).map (·.size)=some m:=by exact size_mq) (hl:L.length=m:=by rfl):(Instr.loadAt 49 (pz g)).run Tryz.prog w = .ok (.agg L.toArray) w:=by
 rw[←hl] at hi;have:=run_loadVar_mid w g 0 49 L _ hC.range Tryz.underlying49 rfl hi;simp only[Instr.loadAt,Instr.sureAddr,Sem.run_bind,Sem.run_pure,Result.andThen_ok,this]
theorem X5.sto {w:World}{g T m:Nat}{L0 L:List Value}(hC:X5 w g L0) (hm:(Tryz.prog.info? T).map (·.size)=some m) (h0:L0.length=m) (h1:L.length=m) (hc:L.all (·.oneCell')=true):
  ∃w',(Instr.storeAt T (pz g) (.agg L.toArray)).run Tryz.prog w = .ok () w'∧w.grownBy w' (some g)∧w'.heap.size=w.heap.size∧X5 w' g L:=by
 have ht:w.there g 0 L.toArray.size:=by
  have:=hC.there;rw[h0,←h1] at this
  simpa using this
 refine⟨_,run_storeAt_mid w g 0 T L.toArray ht (by rw[hm,←h1];simp) (all_oneCell_toArray fun v hv=>List.all_eq_true.1 hc v hv),(D3 g _ 0 w).2,(D3 g _ 0 w).1.size, ?_⟩;intro j v hv;have hj:=(List.getElem?_eq_some_iff.1 hv).1;have a:=World.rangeAt_setCells_same w g 0 L (by simpa using ht) j v hv;have b:=(World.there_setCells (by simpa using ht) g 0 L j hj).2;rw[Nat.zero_add] at a b;exact⟨a,b⟩
def Z4i (L:List Edge) (a:Act) (w:World):List Y7→Prop
 |[]=>True
 |⟨k,s,_,c,q,_⟩::ts=>match c with
  |some _=>Z4i L a w ts
  |none=>bif aft L k then (q (a.eval (.tmp s)) w∧Z4i L a w ts) else Z4i L a w ts
def Z1z (ops:Array Oper) (Q:Exit→Act→World→Prop) (n:Nat) (fixed:List (Nat×Value)) (Wp:World→Prop) (es:List Y7) (t:Y7):Prop:=
 ∀(K:Act→World→Prop) (a:Act) (w:World),Z9 a n (fixed++K8 (D4 ops t.op) es)→Z4i (D4 ops t.op) a w es→Wp w→(∀v w',t.e.p v w'→Below w.heap.size w w'→K (a.put (some t.slot) v) w')→wpOp Tryz.prog ops Q t.op K a w
def Z8t (ops:Array Oper) (Q:Exit→Act→World→Prop) (n:Nat) (fixed:List (Nat×Value)) (Wp:World→Prop) (es:List Y7):List Y7→Prop
 |[]=>True
 |⟨k,s,ks,c,q,m⟩::ts=>match c,m with
  |some _,false=>Z8t ops Q n fixed Wp es ts
  |_,_=>Z1z ops Q n fixed Wp es ⟨k,s,ks,c,q,m⟩∧Z8t ops Q n fixed Wp es ts
def D2:List Y7→Prop
 |[]=>True
 |⟨_,_,_,c,q,_⟩::ts=>match c with
  |some _=>D2 ts
  |none=>(∀u w w',Below w.heap.size w w'→q u w→q u w')∧D2 ts
def X5h:List Y7→List (Nat×Value)
 |[]=>[]
 |⟨_,s,_,c,_,_⟩::ts=>match c with
  |some v=>(s,v)::X5h ts
  |none=>X5h ts
def X9x (a:Act) (w:World):List Y7→Prop
 |[]=>True
 |⟨_,s,_,c,q,_⟩::ts=>match c with
  |some _=>X9x a w ts
  |none=>q (a.eval (.tmp s)) w∧X9x a w ts
theorem D2.all {i:Nat}{listed:Array Bool}{w w':World}(hb:Below w.heap.size w w'):∀{es:List Y7},D2 es→Z1i i listed w w' es
 |[],_=>trivial
 |t::ts,h=>by
  unfold D2 at h;unfold Z1i;cases hc:t.c with
  |some v=>rw[hc] at h;exact D2.all hb h
  |none=>
   rw[hc] at h;exact⟨fun _ _ _ _ u hu=>h.1 u w w' hb hu,D2.all hb h.2⟩
section
variable {ops:Array Oper}{Q:Exit→Act→World→Prop}{n:Nat}{l fixed:List (Nat×Value)}{Wp:World→Prop}{es:List Y7}{i s:Nat}{v:Value}{o:Oper}
theorem Y5e:∀{ts:List Y7},Z8t ops Q n fixed Wp es ts→∀t∈ts,(t.c=none∨t.arm=true)→Z1z ops Q n fixed Wp es t
 |u::us,h,t,ht,hc=>by
  unfold Z8t at h;rcases List.mem_cons.1 ht with rfl |ht
  ·split at h
   ·next h1 h2=>
    rcases hc with hc |hc
    ·rw[hc] at h1;cases h1
    ·rw[hc] at h2;cases h2
   ·exact h.1
  ·split at h
   ·exact Y5e h t ht hc
   ·exact Y5e h.2 t ht hc
theorem X2e {N i:Nat}:∀{ts:List Y7},Z5o N ts i→∃t∈ts,t.op=i∧(t.c=none∨t.arm=true)
 |u::us,h=>by
  unfold Z5o at h;have go:Z5o N us i→∃t∈u::us,t.op=i∧(t.c=none∨t.arm=true):=fun h=>by
   obtain⟨t,ht,hx⟩:=X2e h;exact⟨t,List.mem_cons_of_mem _ ht,hx⟩
  split at h
  ·exact go h
  ·next h1=>
   cases hb:Nat.blt u.op N with
   |false=>rw[hb,cond_false] at h;exact go h
   |true=>
    rw[hb,cond_true] at h;rcases h with h |h
    ·refine⟨u,List.mem_cons_self,h.symm, ?_⟩
     cases hc:u.c with
     |none=>exact .inl rfl
     |some v=>
      cases hm:u.arm with
      |true=>exact .inr rfl
      |false=>exact(h1 v hc hm).elim
    ·exact go h
theorem Z9q {listed:Array Bool}{a:Act}{w:World}(hI:Z1r n fixed (es.map Y7.e) Wp listed a w) (hkill:es.all (fun t=>t.kill.isEmpty)=true) {f:Array Edge}(hd:∀e∈f,Region.binds .any e=true→listed.getD e.on false=true):∀{ts:List Y7},(∀t∈ts,t∈es)→Z4i f.toList a w ts
 |[],_=>trivial
 |t::ts,h=>by
  have ih:=Z9q hI hkill hd (ts:=ts) fun u hu=>h u (List.mem_cons_of_mem _ hu);have ht:=h t List.mem_cons_self;unfold Z4i;cases hc:t.c with
  |some v=>exact ih
  |none=>
   cases hb:aft f.toList t.op with
   |false=>exact ih
   |true=>
    have hr:listed.getD t.op false=true:=Y5 hd t.op (by unfold aft at hb;simpa using hb);have hk:t.kill=[]:=by simpa using List.all_eq_true.1 hkill t ht
    have:=hI.vs t.e (List.mem_map_of_mem ht) (.inr (by rw[Y7.e_op];exact hr)) (by simp only[Y7.e,hc,hk];trivial);simp only[Y7.e,hc] at this;exact⟨this,ih⟩
theorem Y4a {listed:Array Bool}{a:Act}{w:World}(hI:Z1r n fixed (es.map Y7.e) Wp listed a w) (hall:∀t∈es,listed.getD t.op false=true):∀{ts:List Y7},(∀t∈ts,t∈es)→W7 a (X5h ts)
 |[],_=>trivial
 |t::ts,h=>by
  have ih:=Y4a hI hall (ts:=ts) fun u hu=>h u (List.mem_cons_of_mem _ hu);have ht:=h t List.mem_cons_self;unfold X5h;cases hc:t.c with
  |none=>exact ih
  |some v=>
   have:=hI.vs t.e (List.mem_map_of_mem ht) (.inr (by rw[Y7.e_op];exact hall t ht)) (by simp only[Y7.e,hc];trivial);simp only[Y7.e,hc] at this;exact⟨this,ih⟩
theorem Y9u {listed:Array Bool}{a:Act}{w:World}(hI:Z1r n fixed (es.map Y7.e) Wp listed a w) (hkill:es.all (fun t=>t.kill.isEmpty)=true) (hall:∀t∈es,listed.getD t.op false=true):∀{ts:List Y7},(∀t∈ts,t∈es)→X9x a w ts
 |[],_=>trivial
 |t::ts,h=>by
  have ih:=Y9u hI hkill hall (ts:=ts) fun u hu=>h u (List.mem_cons_of_mem _ hu);have ht:=h t List.mem_cons_self;unfold X9x;cases hc:t.c with
  |some v=>exact ih
  |none=>
   have hk:t.kill=[]:=by simpa using List.all_eq_true.1 hkill t ht
   have:=hI.vs t.e (List.mem_map_of_mem ht) (.inr (by rw[Y7.e_op];exact hall t ht)) (by simp only[Y7.e,hc,hk];trivial);simp only[Y7.e,hc] at this;exact⟨this,ih⟩
theorem Z9.dq {a:Act}{w:World}{c:Code}{id:Nat}{Q':Exit→Act→World→Prop}(H:Z9 a n l) (Wp:World→Prop) (hk:∀w w',Wp w→Below w.heap.size w w'→Wp w') (hw:Wp w) (ss:List Nat) (hs:sel l ss=some fixed) (es:List Y7) (hc:Y5b Tryz.prog c Q'=(.region id ops true,Q)) (hp:Z6j ops Q n fixed Wp es es) (hh:Z8t ops Q n fixed Wp es es)
  (hfin:∀(a:Act) (w:World),Z9 a n (fixed++X5h es)→X9x a w es→Wp w→Q .normal a w) (hst:D2 es:=by exact trivial) (h0:Y0k ops.size a w.drew es:=by exact trivial)
  (hf:(Z5m n fixed (es.map Y7.e)&&(es.all (fun t=> !Z1y t || !([]:List Nat).contains t.op)&&(([]:List Nat).all (fun j=>Nat.blt j ops.size)&&(X5g ops.size es []&&Nat.ble ops.size 1000))))=true:=by kernel_rfl)
  (hl:(es.all (fun t=>t.kill.isEmpty)&&es.all (fun t=>Nat.blt t.op ops.size))=true:=by kernel_rfl)
  (hback:(List.range ops.size).all (fun i=>match ops[i]? with |some o=>o.after.all (fun e=> !Region.binds .any e||decide (e.on<i)) |none=>true)=true:=by kernel_rfl) (hm:Tryz.prog.follows .mixedOrders=true:=by kernel_rfl):c.wp Tryz.prog Q' a w:=by
 have hf':=hf;simp only[Bool.and_eq_true] at hf' hl;obtain⟨hf1,_,_,_,hN⟩:=hf';have hN:ops.size≤1000:=by simpa using hN
 refine H.dg [] Wp (fun _ _=>True) ss hs es [] hc (hk _ _ hw (Below.drew (Below.refl _ _))) trivial hp h0 ?_ ?_ hf hback hm
 ·intro listed a w i o hsz hni hcl ho hd hI hh'
  have hh':Z5o ops.size es i:=by
   rcases hh' with h |h
   ·exact h
   ·exact False.elim h
  obtain⟨t,ht,rfl,hx⟩:=X2e hh';have hi:t.op<listed.size:=by rw[hsz];exact(Array.getElem?_eq_some_iff.1 ho).1
  have hkk:D4 ops t.op=o.after.toList:=by unfold D4;rw[ho]
  have hE:=Y5e hh t ht hx;unfold Z1z at hE;rw[hkk] at hE;refine hE _ a w (Z9.of hI.sz hI.df (W7.app hI.fx (Z2c hI hd fun _ h=>h))) (Z9q hI hl.1 hd fun _ h=>h) hI.wp.1 ?_;intro v w' hpv hb;have:=hI.put (Wp':=Wfl [] Wp (fun _ _=>True) (listed.setIfInBounds t.op true)) hf1 t.e (List.mem_map_of_mem ht) (by rw[Y7.e_op];exact hi) (by rw[hsz];exact hN) v hpv ⟨hk _ _ hI.wp.1 hb,trivial⟩ (D2.all hb hst).all;rw[Y7.e_op] at this;have hsl:t.e.slot=t.slot:=by unfold Y7.e;split<;>rfl
  rw[hsl] at this;exact this
 ·intro listed a w hall hI
  have hall':∀t∈es,listed.getD t.op false=true:=fun t ht=>hall t.op (by simpa [Nat.blt_eq] using List.all_eq_true.1 hl.2 t ht);exact hfin a w (Z9.of hI.sz hI.df (W7.app hI.fx (Y4a hI hall' fun _ h=>h))) (Y9u hI hl.1 hall' fun _ h=>h) hI.wp.1
theorem kb {f:FuncId}{xs:Array Operand}{ats:Array TypeId}{vs:List Value}(hc:∀w,Wp w→Calls Tryz.prog f vs.toArray w fun e w'=>e = .returned v∧Below w.heap.size w w') (ho:ops[i]? = some o:=by rfl) (hp:o.op = .call { callee:=.value (.func f),args:=xs,argTypes:=ats }:=by rfl) (hd:o.dst=some s:=by rfl)
  (hg:okG ops (fixed++K8 (D4 ops i) es) o=true:=by rfl) (hx:Y1f (fixed++K8 (D4 ops i) es) xs.toList=some vs:=by rfl) (hen:∀(args:Array Value) (w:World),(callFunc f args).run Tryz.prog w = .ok (.enter f args) w:=by exact fun _ _=>by kernel_rfl):Z1z ops Q n fixed Wp es (eh i s v):=
 fun _ _ w H _ hw hK=>D0 ho (Z0g H hg) s hd f _ (P3 H hp hx hen) _ (Z1f (hc w hw)) (by rintro _ w' ⟨rfl,hb⟩;exact hK _ w' rfl hb)
theorem kr {f:FuncId}{xs:Array Operand}{ats:Array TypeId}{vs:List Value}{q:Value→World→Prop}(hc:∀w,Wp w→Calls Tryz.prog f vs.toArray w fun e w'=>∃v,e = .returned v∧(q v w'∧Below w.heap.size w w')) (ho:ops[i]? = some o:=by rfl) (hp:o.op = .call { callee:=.value (.func f),args:=xs,argTypes:=ats }:=by rfl) (hd:o.dst=some s:=by rfl)
  (hg:okG ops (fixed++K8 (D4 ops i) es) o=true:=by rfl) (hx:Y1f (fixed++K8 (D4 ops i) es) xs.toList=some vs:=by rfl) (hen:∀(args:Array Value) (w:World),(callFunc f args).run Tryz.prog w = .ok (.enter f args) w:=by exact fun _ _=>by kernel_rfl):Z1z ops Q n fixed Wp es (er i s [] q):=
 fun _ _ w H _ hw hK=>D0 ho (Z0g H hg) s hd f _ (P3 H hp hx hen) _ (hc w hw) (by rintro _ w' ⟨hq,hb⟩;exact hK _ w' hq hb)
theorem ko (ho:ops[i]? = some o:=by rfl) (hd:o.dst=some s:=by rfl) (hg:J3o ops (fixed++K8 (D4 ops i) es) o=true:=by rfl):Z1z ops Q n fixed Wp es (eh i s undef):=
 fun _ _ w H _ _ hK=>Y4y ho (X5f H hg) (by rw[hd];exact hK undef w rfl (Below.refl _ _))
theorem kor {q:Value→World→Prop}(hq:∀w,q undef w) (ho:ops[i]? = some o:=by rfl) (hd:o.dst=some s:=by rfl) (hg:J3o ops (fixed++K8 (D4 ops i) es) o=true:=by rfl):Z1z ops Q n fixed Wp es (er i s [] q):=
 fun _ _ w H _ _ hK=>Y4y ho (X5f H hg) (by rw[hd];exact hK undef w (hq w) (Below.refl _ _))
theorem kc {f:FuncId}{xs:Array Operand}{ats:Array TypeId}{t:Y7}(hc:∀a w,Z9 a n (fixed++K8 (D4 ops t.op) es)→Z4i (D4 ops t.op) a w es→Wp w→∃vs:List Value,xs.toList.map a.eval=vs∧Calls Tryz.prog f vs.toArray w fun e w'=>∃v,e = .returned v∧(t.e.p v w'∧Below w.heap.size w w')) (ho:ops[t.op]? = some o:=by rfl)
  (hp:o.op = .call { callee:=.value (.func f),args:=xs,argTypes:=ats }:=by rfl) (hd:o.dst=some t.slot:=by rfl) (hg:okG ops (fixed++K8 (D4 ops t.op) es) o=true:=by rfl) (hen:∀(args:Array Value) (w:World),(callFunc f args).run Tryz.prog w = .ok (.enter f args) w:=by exact fun _ _=>by kernel_rfl):Z1z ops Q n fixed Wp es t:=by
 intro K a w H hr hw hK;obtain⟨vs,e,hc⟩:=hc a w H hr hw;exact D0 ho (Z0g H hg) t.slot hd f _ (X2d hp (by rw[←e,←Array.toList_map,Array.toArray_toList]) hen) _ hc (by rintro _ w' ⟨hq,hb⟩;exact hK _ w' hq hb)
theorem kx {t:Y7}(hrun:∀a w,Z9 a n (fixed++K8 (D4 ops t.op) es)→Z4i (D4 ops t.op) a w es→Wp w→∃v w',(execOp a.eval o).run Tryz.prog w = .ok (.value v) w'∧t.e.p v w'∧Below w.heap.size w w') (ho:ops[t.op]? = some o:=by rfl) (hd:o.dst=some t.slot:=by rfl)
  (hg:okG ops (fixed++K8 (D4 ops t.op) es) o=true:=by rfl):Z1z ops Q n fixed Wp es t:=by
 intro K a w H hr hw hK;obtain⟨v,w',h,hq,hb⟩:=hrun a w H hr hw;exact V7 ho (Z0g H hg) t.slot hd v w' h (hK v w' hq hb)
end
end
section
open Go.RowKit
def Z2p:List Nat→Nat→Bool
 |[],_=>false
 |x::l,k=>bif Nat.beq x k then true else Z2p l k
theorem Z7x {k:Nat}:∀{l:List Nat},Z2p l k=true→k∈l
 |x::l,h=>by
  unfold Z2p at h;cases hb:Nat.beq x k with
  |true=>rw[Nat.eq_of_beq_eq_true hb];exact List.mem_cons_self
  |false=>rw[hb,cond_false] at h;exact List.mem_cons_of_mem _ (Z7x h)
theorem Y1i {k:Nat}:∀{l:List Nat},k∈l→Z2p l k=true
 |x::l,h=>by
  unfold Z2p;rcases List.mem_cons.1 h with rfl |h
  ·rw[Nat.beq_refl,cond_true]
  ·cases Nat.beq x k with
   |true=>rfl
   |false=>exact Y1i h
def ons:List Edge→List Nat→List Nat
 |[],S=>S
 |e::L,S=>bif Region.binds .any e then e.on::ons L S else ons L S
def Y7w (ops:Array Oper):Nat→List Nat→List Nat
 |0,S=>S
 |i+1,S=>Y7w ops i (bif Z2p S i then ons (D4 ops i) S else S)
def Z8k (ops:Array Oper) (h:Nat) (done:List Nat):List Nat:=Y7w ops (h+1) (h::done)
theorem J3q {listed:Array Bool}:∀{L:List Edge}{S:List Nat},(∀e∈L,Region.binds .any e=true→listed.getD e.on false=true)→(∀j∈S,listed.getD j false=true)→∀j∈ons L S,listed.getD j false=true
 |[],S,_,hS,j,hj=>hS j hj
 |e::L,S,hL,hS,j,hj=>by
  have ih:=J3q (L:=L) (S:=S) (fun e' he=>hL e' (List.mem_cons_of_mem _ he)) hS;unfold ons at hj;cases hb:Region.binds .any e with
  |true=>
   rw[hb,cond_true] at hj;rcases List.mem_cons.1 hj with rfl |hj
   ·exact hL e List.mem_cons_self hb
   ·exact ih j hj
  |false=>rw[hb,cond_false] at hj;exact ih j hj
theorem J3r {ops:Array Oper}{listed:Array Bool}(hc:Z6u .any ops listed):∀(i:Nat) {S:List Nat},(∀j∈S,listed.getD j false=true)→∀j∈Y7w ops i S,listed.getD j false=true
 |0,_,hS,j,hj=>hS j hj
 |i+1,S,hS,j,hj=>by
  unfold Y7w at hj;refine J3r hc i ?_ j hj;cases hb:Z2p S i with
  |false=>rw[cond_false];exact hS
  |true=>
   rw[cond_true];have hi:=hS i (Z7x hb);refine J3q ?_ hS;intro e he hbd;unfold D4 at he
   split at he
   ·next o ho=>exact hc i o ho hi e (by simpa using he) hbd
   ·cases he
theorem Y9v {ops:Array Oper}:∀(i:Nat) {S:List Nat},∀j∈S,j∈Y7w ops i S
 |0,_,j,hj=>hj
 |i+1,S,j,hj=>by
  unfold Y7w;refine Y9v i j ?_;cases Z2p S i with
  |false=>exact hj
  |true=>
   rw[cond_true];generalize D4 ops i=L
   induction L with
   |nil=>exact hj
   |cons e L ih=>
    unfold ons;cases Region.binds .any e with
    |true=>exact List.mem_cons_of_mem _ ih
    |false=>exact ih
def Z1u (drop:List Nat):List Y7→List Y7
 |[]=>[]
 |⟨k,s,ks,c,q,m⟩::ts=>bif Z2p drop k then Z1u drop ts else⟨k,s,ks,c,q,m⟩::Z1u drop ts
theorem Z7c {drop:List Nat}:∀{es:List Y7}{t:Y7},t∈Z1u drop es→t∈es∧Z2p drop t.op=false
 |u::us,t,h=>by
  unfold Z1u at h;cases hb:Z2p drop u.op with
  |true=>rw[hb,cond_true] at h;exact⟨List.mem_cons_of_mem _ (Z7c h).1,(Z7c h).2⟩
  |false=>
   rw[hb,cond_false] at h;rcases List.mem_cons.1 h with rfl |h
   ·exact⟨List.mem_cons_self,hb⟩
   ·exact⟨List.mem_cons_of_mem _ (Z7c h).1,(Z7c h).2⟩
theorem X2f {drop:List Nat}:∀{es:List Y7}{t:Y7},t∈es→Z2p drop t.op=true∨t∈Z1u drop es
 |u::us,t,h=>by
  unfold Z1u;rcases List.mem_cons.1 h with rfl |h
  ·cases hb:Z2p drop t.op with
   |true=>exact .inl rfl
   |false=>rw[cond_false];exact .inr List.mem_cons_self
  ·rcases X2f (drop:=drop) h with h |h
   ·exact .inl h
   ·cases hb:Z2p drop u.op with
    |true=>rw[cond_true];exact .inr h
    |false=>rw[cond_false];exact .inr (List.mem_cons_of_mem _ h)
def Z5p (w w':World):List Y7→Prop
 |[]=>True
 |⟨_,_,_,c,q,_⟩::ts=>match c with
  |some _=>Z5p w w' ts
  |none=>(∀u,q u w→q u w')∧Z5p w w' ts
theorem Z5p.get {w w':World}:∀{es:List Y7},Z5p w w' es→∀t∈es,∀u,t.e.p u w→t.e.p u w'
 |t::ts,h,u,hu,v,hv=>by
  unfold Z5p at h;rcases List.mem_cons.1 hu with rfl |hu
  ·cases hc:u.c with
   |some x=>simp only[Y7.e,hc] at hv ⊢;exact hv
   |none=>
    rw[hc] at h;simp only[Y7.e,hc] at hv ⊢;exact h.1 v hv
  ·split at h
   ·exact Z5p.get h u hu v hv
   ·exact Z5p.get h.2 u hu v hv
theorem D2.keeps {w w':World}(hb:Below w.heap.size w w'):∀{es:List Y7},D2 es→Z5p w w' es
 |[],_=>trivial
 |t::ts,h=>by
  unfold D2 at h;unfold Z5p;cases hc:t.c with
  |some v=>rw[hc] at h;exact D2.keeps hb h
  |none=>
   rw[hc] at h;exact⟨fun u hu=>h.1 u w w' hb hu,D2.keeps hb h.2⟩
theorem X8c {P:Program}{o:Oper}{a:Act}{w:World}{s x:Operand}{t:TypeId}(ho:o.op = .call { callee:=.builtin .append,args:=#[s,x],argTypes:=#[t,t] }) {base:Nat}{e:TypeId}{z:Value}{size bytes:Nat}(ht:P.underlying t=some (.slice e)) (hi:(P.info? e).map (fun i=>(i.zero,i.size,i.bytes))=some (some z,size,bytes)) (hzs:z.cells.size=size) (hsz:0<size)
  {v:Value}{n:Nat}{xs:List Value}(hs:a.eval s=v) (hown:w.ownsRow base e size v n xs) {A:Option Addr}{m c:Nat}{ys:List Value}(hx:a.eval x = .slice A m c) (hr:X4 w w.heap.size size A m ys) (h1:∀u∈ys,u.oneCell'=true) (hn:n+m≤maxLen) (hb:(n+m)*bytes≤140737488355328) (hbase:base≤w.heap.size):
  ∃A' c' w',(execOp a.eval o).run P w = .ok (.value (.slice A' (n+m) c')) w'∧w'.ownsRow base e size (.slice A' (n+m) c') (n+m) (xs++ys)∧w.grownBy w' v.ownBlock:=by
 obtain⟨A',c',w',hrun,h2,h3⟩:=Z0b (P:=P) w base t o.type e z size bytes ht hi hzs hsz v n xs hown w.heap.size A m c ys hr h1 hn hb hbase;refine⟨A',c',w', ?_,h2,h3⟩;unfold execOp;simp only[ho,resolve,invoke,builtin,Sem.run_bind,Sem.run_pure,Result.andThen_ok,List.map_toArray,List.map_cons,List.map_nil,hs,hx,hrun]
section
variable {ops:Array Oper}{Q:Exit→Act→World→Prop}{n:Nat}{l fixed:List (Nat×Value)}{F:World→Prop}{es:List Y7}{done:List Nat}
def Z0h (ops:Array Oper) (Q:Exit→Act→World→Prop) (n:Nat) (fixed:List (Nat×Value)) (F:World→Prop) (es:List Y7) (done:List Nat):List Y7→Prop
 |[]=>True
 |⟨k,s,ks,c,q,m⟩::ts=>bif Z2p done k then Z0h ops Q n fixed F es done ts else match c,m with
  |some v,false=>Z1h ops Q n (fixed++K8 (D4 ops k) es) F k s v∧Z0h ops Q n fixed F es done ts
  |_,_=>Z1z ops Q n fixed F es ⟨k,s,ks,c,q,m⟩∧Z0h ops Q n fixed F es done ts
def St (ops:Array Oper) (Q:Exit→Act→World→Prop) (n:Nat) (fixed:List (Nat×Value)) (es:List Y7) (F:World→Prop) (done:List Nat):Prop:=
 ∀(fuel:Nat) (listed:Array Bool) (a:Act) (w:World),listed.size=ops.size→listed.toList.count false≤fuel→Z6u .any ops listed→(∀j,listed.getD j false=true→j∈done∨∃t∈es,t.op=j)→(∀j∈done,listed.getD j false=true)→Z1r n fixed (es.map Y7.e) F listed a w →
  wpAny Tryz.prog .any ops Q fuel listed a w
def stB (ops:Array Oper) (n:Nat) (fixed:List (Nat×Value)) (es:List Y7) (done:List Nat) (h:Nat):Bool:=
 Z5m n fixed (es.map Y7.e)&&(es.all (fun t=>t.kill.isEmpty&&Nat.blt t.op ops.size)&&(!Z2p done h&&(es.all (fun t=>t.op != h)&&(List.range ops.size).all (fun k=>Z2p done k||(es.any (fun t=>t.op==k)||(Nat.beq k h||(D4 ops k).any (fun e=>Region.binds .any e&&(!Z2p done e.on&&es.all (fun t=>t.op != e.on)))))))))
theorem Y1j:∀{ts:List Y7},Z0h ops Q n fixed F es done ts→∀t∈ts,t.op∉done→(∃v,t.c=some v∧t.arm=false∧Z1h ops Q n (fixed++K8 (D4 ops t.op) es) F t.op t.slot v)∨(Z1y t=false∧Z1z ops Q n fixed F es t)
 |u::us,h,t,ht,hd=>by
  unfold Z0h at h;rcases List.mem_cons.1 ht with rfl |ht
  ·have hm:Z2p done t.op=false:=by
    cases hb:Z2p done t.op with
    |false=>rfl
    |true=>exact absurd (Z7x hb) hd
   rw[hm,cond_false] at h
   split at h
   ·next h1 h2=>exact .inl ⟨_,h1,h2,h.1⟩
   ·next h1=>
    refine .inr ⟨?_,h.1⟩;unfold Z1y;cases hc:t.c with
    |none=>rfl
    |some v=>
     cases hm:t.arm with
     |true=>rfl
     |false=>exact(h1 v hc hm).elim
  ·cases hb:Z2p done u.op with
   |true=>rw[hb,cond_true] at h;exact Y1j h t ht hd
   |false=>
    rw[hb,cond_false] at h
    split at h
    ·exact Y1j h.2 t ht hd
    ·exact Y1j h.2 t ht hd
theorem X8d {listed:Array Bool}{j:Nat}(h:¬listed.getD j false=true):listed.getD j false=false:=by
 cases hb:listed.getD j false with
 |false=>rfl
 |true=>exact absurd hb h
theorem X2g (hfit:Z5m n fixed (es.map Y7.e)=true) (hkill:es.all (fun t=>t.kill.isEmpty)=true) (hN:ops.size≤1000) (hF:es.all Z1y=true∨∀w w',F w→Below w.heap.size w w'→F w') (hstab:D2 es) (hl:Z0h ops Q n fixed F es done es) {fuel:Nat}{listed:Array Bool}{a:Act}{w:World}{i:Nat}{o:Oper}
  (ih:∀(listed:Array Bool) (a:Act) (w:World),listed.size=ops.size→listed.toList.count false≤fuel→Z6u .any ops listed→(∀j,listed.getD j false=true→j∈done∨∃t∈es,t.op=j)→(∀j∈done,listed.getD j false=true)→Z1r n fixed (es.map Y7.e) F listed a w→wpAny Tryz.prog .any ops Q fuel listed a w)
  (hs:listed.size=ops.size) (hc:listed.toList.count false≤fuel+1) (hcl:Z6u .any ops listed) (hsub:∀j,listed.getD j false=true→j∈done∨∃t∈es,t.op=j) (hdn:∀j∈done,listed.getD j false=true) (hI:Z1r n fixed (es.map Y7.e) F listed a w)
  (h0:listed.getD i false=false) (ho:ops[i]? = some o) (hd:∀e∈o.after,Region.binds .any e=true→listed.getD e.on false=true) (hm:∃t∈es,t.op=i):wpOp Tryz.prog ops Q i (fun a' w'=>wpAny Tryz.prog .any ops Q fuel (listed.setIfInBounds i true) a' w') a w:=by
 obtain⟨t,ht,rfl⟩:=hm;have hi:t.op<listed.size:=by rw[hs];exact(Array.getElem?_eq_some_iff.1 ho).1
 have h1:listed.toList[t.op]? = some false:=by
  simp only[Array.getD_eq_getD_getElem?,Array.getElem?_eq_getElem hi,Option.getD_some] at h0;simp[hi,h0]
 have hcs:=Z5a _ _ h1;have hnd:t.op∉done:=fun h=>by rw[hdn _ h] at h0;cases h0
 have hkk:D4 ops t.op=o.after.toList:=by unfold D4;rw[ho]
 have HH:=Z9.of hI.sz hI.df (W7.app hI.fx (Z2c hI hd fun _ h=>h));have hsl:t.e.slot=t.slot:=by unfold Y7.e;split<;>rfl
 have next:∀v w',t.e.p v w'→F w'→Z5l t.op listed w w' (es.map Y7.e)→wpAny Tryz.prog .any ops Q fuel (listed.setIfInBounds t.op true) (a.put (some t.slot) v) w':=by
  intro v w' hp hFw hst;have hK:=hI.put (Wp':=F) hfit t.e (List.mem_map_of_mem ht) (by rw[Y7.e_op];exact hi) (by rw[hs];exact hN) v hp hFw (by rw[Y7.e_op];exact hst);rw[Y7.e_op,hsl] at hK;refine ih _ _ w' (by simpa using hs) ?_ ?_ ?_ (fun j hj=>Z3y (hdn j hj)) hK
  ·rw[Array.toList_setIfInBounds];omega
  ·intro j oj hoj hj e he hb
   rcases Z3c hj with e2 |hj
   ·subst e2
    rw[ho] at hoj;injection hoj with hoj
    subst hoj;exact Z3y (hd e he hb)
   ·exact Z3y (hcl j oj hoj hj e he hb)
  ·intro j hj
   rcases Z3c hj with e2 |hj
   ·exact .inr ⟨t,ht,e2.symm⟩
   ·exact hsub j hj
 rcases Y1j hl t ht hnd with⟨v,hv,_,hp⟩ |⟨hpl,hp⟩
 ·rw[hkk] at hp
  exact hp _ a w HH hI.wp (next v w (by simp only[Y7.e,hv]) hI.wp Z5l.same)
 ·unfold Z1z at hp
  rw[hkk] at hp;have hF:∀w w',F w→Below w.heap.size w w'→F w':=by
   rcases hF with h |h
   ·rw[List.all_eq_true.1 h t ht] at hpl;cases hpl
   ·exact h
  exact hp _ a w HH (Z9q hI hkill hd fun _ h=>h) hI.wp fun v w' hpv hb=>next v w' hpv (hF _ _ hI.wp hb) (D2.all hb hstab).all
def Nx (ops:Array Oper) (Q:Exit→Act→World→Prop) (n:Nat) (fixed:List (Nat×Value)) (es:List Y7) (done:List Nat) (h s:Nat) (v:Value) (w w':World):Prop:=
 ∃(hE:Y7) (new:List Y7) (drop:List Nat) (F':World→Prop) (fixed':List (Nat×Value)),(∀a,W7 a fixed→W7 a fixed')∧(hE.op=h∧hE.slot=s∧hE.e.p v w'∧hE.kill=[])∧F' w'∧Z5p w w' (Z1u drop es)∧(Z5m n fixed' ((hE::(new++Z1u drop es)).map Y7.e)&&(drop.all (fun k=>Z2p (Z8k ops h done) k)&&new.all (fun t=>Nat.blt t.op ops.size&&(!Z2p done t.op&&(es.all (fun u=>u.op != t.op)&&t.op != h)))))=true ∧
  St ops Q n fixed' (hE::(new++Z1u drop es)) F' (Z8k ops h done)
def X9y (a:Act) (drop:List Nat):List Y7→Prop
 |[]=>True
 |⟨k,s,ks,c,_,_⟩::ts=>(ks=[]∧Z2p drop k=true∧∃v,c=some v∧a.eval (.tmp s)=v)∧X9y a drop ts
theorem X9y.get {a:Act}{drop:List Nat}:∀{ts:List Y7},X9y a drop ts→∀t∈ts,t.kill=[]∧Z2p drop t.op=true∧∃v,t.c=some v∧a.eval (.tmp t.slot)=v
 |u::us,h,t,ht=>by
  rcases List.mem_cons.1 ht with rfl |ht
  ·exact h.1
  ·exact X9y.get h.2 t ht
def Nx0 (ops:Array Oper) (Q:Exit→Act→World→Prop) (n:Nat) (fixed:List (Nat×Value)) (es:List Y7) (done:List Nat) (h:Nat) (a:Act) (w w':World):Prop:=
 ∃(pins new:List Y7) (drop:List Nat) (F':World→Prop),F' w'∧Z5p w w' (Z1u drop es)∧X9y a drop pins∧(Z5m n fixed ((pins++(new++Z1u drop es)).map Y7.e)&&(drop.all (fun k=>Z2p (Z8k ops h done) k)&&new.all (fun t=>Nat.blt t.op ops.size&&(!Z2p done t.op&&(es.all (fun u=>u.op != t.op)&&t.op != h)))))=true ∧
  St ops Q n fixed (pins++(new++Z1u drop es)) F' (Z8k ops h done)
theorem J8d {es:List Y7}(hf:Z5m n fixed (es.map Y7.e)=true):(∀t∈es,t.slot<n∧fixed.all (fun f=>f.1 != t.slot)=true)∧∀u∈es,∀t∈es,u.kill=[]→t.op<1000→u.op=t.op∨u.slot≠t.slot:=by
 simp only[Z5m,Bool.and_eq_true] at hf;obtain⟨⟨hf,hn⟩,_⟩:=hf;have hs:∀t:Y7,t.e.slot=t.slot:=fun t=>by unfold Y7.e;split<;>rfl
 have hk:∀t:Y7,t.kill=[]→t.e.kill=[]:=fun t h=>by unfold Y7.e;split<;>simp[h]
 refine⟨fun t ht=>?_,fun u hu t ht hku hN=>?_⟩
 ·have:=List.all_eq_true.1 hf t.e (List.mem_map_of_mem ht)
  rw[hs] at this
  simpa using this
 ·have:=List.all_eq_true.1 (List.all_eq_true.1 hn u.e (List.mem_map_of_mem hu)) t.e (List.mem_map_of_mem ht)
  rw[Y7.e_op,Y7.e_op,hs,hs,hk u hku] at this;simp only[Bool.or_eq_true,beq_iff_eq,bne_iff_ne,List.contains_nil,Bool.false_eq_true,decide_eq_true_eq,false_or] at this;rcases this with h |h |h
  ·exact .inl h
  ·exact .inr h
  ·omega
theorem X8e (h:Nat) (hlt:h<ops.size) (hback:∀(i:Nat) (o:Oper),ops[i]? = some o→∀e∈o.after,Region.binds .any e=true→e.on<i) (hB:stB ops n fixed es done h=true) (hN:Nat.ble ops.size 1000=true) (hF:es.all Z1y=true∨∀w w',F w→Below w.heap.size w w'→F w') (hstab:D2 es) (hl:Z0h ops Q n fixed F es done es)
  (hh:∀(o:Oper) (K:Act→World→Prop) (a:Act) (w:World),ops[h]? = some o→Z9 a n (fixed++K8 (D4 ops h) es)→Z4i (D4 ops h) a w es→F w→(∀s v w',o.dst=some s→Nx ops Q n fixed es done h s v w w'→K (a.put (some s) v) w')→(∀w',o.dst=none→Nx0 ops Q n fixed es done h a w w'→K a w')→wpOp Tryz.prog ops Q h K a w):
  St ops Q n fixed es F done:=by
 simp only[stB,Bool.and_eq_true] at hB;obtain⟨hfit,hall,hhd,hhe,hblk⟩:=hB;have hN:ops.size≤1000:=by simpa using hN
 have hkill:es.all (fun t=>t.kill.isEmpty)=true:=List.all_eq_true.2 fun t ht=>by
  have:=List.all_eq_true.1 hall t ht;simp only[Bool.and_eq_true] at this;exact this.1
 have hopl:∀t∈es,t.op<ops.size:=fun t ht=>by
  have:=List.all_eq_true.1 hall t ht;simp only[Bool.and_eq_true] at this
  simpa [Nat.blt_eq] using this.2
 have hhd:h∉done:=fun hm=>by rw[Y1i hm] at hhd;cases hhd
 have hhe:∀t∈es,t.op≠h:=fun t ht=>by simpa using List.all_eq_true.1 hhe t ht
 intro fuel
 induction fuel with
 |zero=>
  intro listed a w hs hc hcl hsub hdn hI;exfalso;have hnl:listed.getD h false=false:=X8d fun hl'=>by
   rcases hsub h hl' with h1 |⟨t,ht,h1⟩
   ·exact hhd h1
   ·exact hhe t ht h1
  have hi:h<listed.size:=by omega
  have h1:listed.toList[h]? = some false:=by
   simp only[Array.getD_eq_getD_getElem?,Array.getElem?_eq_getElem hi,Option.getD_some] at hnl;simp[hi,hnl]
  have:=Z5a _ _ h1;omega
 |succ fuel ih=>
  intro listed a w hs hc hcl hsub hdn hI;have hnl:listed.getD h false=false:=X8d fun hl'=>by
   rcases hsub h hl' with h1 |⟨t,ht,h1⟩
   ·exact hhd h1
   ·exact hhe t ht h1
  
  have hrdy:∀(i:Nat) (o:Oper),ops[i]? = some o→listed.getD i false=false→(∀e∈o.after,Region.binds .any e=true→listed.getD e.on false=true)→i=h∨∃t∈es,t.op=i:=by
   intro i o ho h0 hd;have hi:i<ops.size:=(Array.getElem?_eq_some_iff.1 ho).1;have:=List.all_eq_true.1 hblk i (List.mem_range.2 hi);simp only[Bool.or_eq_true] at this;rcases this with h1 |h1 |h1 |h1
   ·rw[hdn i (Z7x h1)] at h0;cases h0
   ·obtain⟨t,ht,he⟩:=List.any_eq_true.1 h1
    exact .inr ⟨t,ht,by simpa using he⟩
   ·exact .inl (Nat.eq_of_beq_eq_true h1)
   ·exfalso
    obtain⟨e,he,h2⟩:=List.any_eq_true.1 h1;simp only[Bool.and_eq_true,Bool.not_eq_true'] at h2;unfold D4 at he;rw[ho] at he;rcases hsub e.on (hd e (by simpa using he) h2.1) with h3 |⟨t,ht,h3⟩
    ·rw[Y1i h3] at h2;exact absurd h2.2.1 (by decide)
    ·have:=List.all_eq_true.1 h2.2.2 t ht
     simp[h3] at this
  have step:∀(i:Nat) (o:Oper),ops[i]? = some o→listed.getD i false=false→(∀e∈o.after,Region.binds .any e=true→listed.getD e.on false=true)→wpOp Tryz.prog ops Q i (fun a' w'=>wpAny Tryz.prog .any ops Q fuel (listed.setIfInBounds i true) a' w') a w:=by
   intro i o ho h0 hd;rcases hrdy i o ho h0 hd with rfl |hm
   ·have hi:i<listed.size:=by omega
    have h1:listed.toList[i]? = some false:=by
     simp only[Array.getD_eq_getD_getElem?,Array.getElem?_eq_getElem hi,Option.getD_some] at h0;simp[hi,h0]
    have hcs:=Z5a _ _ h1;have hcount:(listed.setIfInBounds i true).toList.count false≤fuel:=by rw[Array.toList_setIfInBounds];omega
    have hcl':Z6u .any ops (listed.setIfInBounds i true):=by
     intro j oj hoj hj e he hb;rcases Z3c hj with e2 |hj
     ·subst e2
      rw[ho] at hoj;injection hoj with hoj
      subst hoj;exact Z3y (hd e he hb)
     ·exact Z3y (hcl j oj hoj hj e he hb)
    have hdn':∀j∈Z8k ops i done,(listed.setIfInBounds i true).getD j false=true:=by
     refine J3r hcl' _ ?_;intro j hj;rcases List.mem_cons.1 hj with rfl |hj
     ·exact Z8r listed hi
     ·exact Z3y (hdn j hj)
    have hsize:(listed.setIfInBounds i true).size=ops.size:=by simpa using hs
    have hsub':∀{drop:List Nat}{es':List Y7},(∀t∈es',∀u,u=t→True)→(∀t∈Z1u drop es,t∈es')→drop.all (fun k=>Z2p (Z8k ops i done) k)=true→∀j,(listed.setIfInBounds i true).getD j false=true→j∈Z8k ops i done∨∃t∈es',t.op=j:=by
     intro drop es' _ hin hdr j hj;rcases Z3c hj with e2 |hj
     ·subst e2;exact .inl (Y9v _ _ List.mem_cons_self)
     ·rcases hsub j hj with h3 |⟨t,ht,h3⟩
      ·exact .inl (Y9v _ _ (List.mem_cons_of_mem _ h3))
      ·rcases X2f (drop:=drop) ht with h4 |h4
       ·rw[←h3]
        exact .inl (Z7x (List.all_eq_true.1 hdr _ (Z7x h4)))
       ·exact .inr ⟨t,hin t h4,h3⟩
    refine hh o _ a w ho ?_ ?_ hI.wp ?_ ?_
    ·have:=Z2c hI hd (ts:=es) fun _ h=>h
     have hkk:D4 ops i=o.after.toList:=by unfold D4;rw[ho]
     rw[hkk];exact Z9.of hI.sz hI.df (W7.app hI.fx this)
    ·have hkk:D4 ops i=o.after.toList:=by unfold D4;rw[ho]
     rw[hkk];exact Z9q hI hkill hd fun _ h=>h
    ·rintro s v w' hdst ⟨hE,new,drop,F',fixed',hfx,⟨rfl,rfl,hp,hke⟩,hFw,hkp,hchk,hSt⟩
     simp only[Bool.and_eq_true] at hchk;obtain⟨hfit',hdr,hnew⟩:=hchk;obtain⟨hf1,hf2⟩:=J8d hfit';refine hSt fuel _ _ w' hsize hcount hcl' (hsub' (fun _ _ _ _=>trivial) (fun t ht=>List.mem_cons_of_mem _ (List.mem_append_right _ ht)) hdr) hdn' ?_;have hm0:=hf1 hE List.mem_cons_self;refine⟨by rw[Act.size_put,hI.sz],by rw[Act.defers_put',hI.df],(hfx _ hI.fx).put hm0.2,fun u hu hlu hku=>?_,hFw⟩;obtain⟨t,ht,rfl⟩:=List.mem_map.1 hu;rw[Y7.e_op,hsize] at hlu;have hsl:t.e.slot=t.slot:=by unfold Y7.e;split<;>rfl
     rw[hsl];rcases List.mem_cons.1 ht with rfl |ht
     ·rw[Act.eval_put_same _ _ _ (by rw[hI.sz];exact hm0.1)]
      exact hp
     ·rcases List.mem_append.1 ht with ht' |ht'
      ·exfalso
       have:=List.all_eq_true.1 hnew t ht';simp only[Bool.and_eq_true,Bool.not_eq_true',bne_iff_ne] at this;obtain⟨n0,n1,n2,n3⟩:=this;have n0:t.op<ops.size:=by simpa [Nat.blt_eq] using n0
       rcases hlu with hlu |hlu
       ·omega
       ·rcases Z3c hlu with e2 |hlu
        ·exact n3 e2
        ·rcases hsub _ hlu with h3 |⟨u,hu,h3⟩
         ·rw[Y1i h3] at n1;cases n1
         ·have:=List.all_eq_true.1 n2 u hu
          simp[h3] at this
      ·obtain⟨hte,_⟩:=Z7c ht'
       have hto:=hopl t hte;have hlt':listed.getD t.op false=true:=by
        rcases hlu with hlu |hlu
        ·omega
        ·rcases Z3c hlu with e2 |hlu
         ·exact absurd e2 (hhe t hte)
         ·exact hlu
       have hne:hE.slot≠t.slot:=by
        have hkt:t.kill=[]:=by simpa using List.all_eq_true.1 hkill t hte
        rcases hf2 t (List.mem_cons_of_mem _ ht) hE List.mem_cons_self hkt (by omega) with h3 |h3
        ·exact absurd h3 (hhe t hte)
        ·exact fun e=>h3 e.symm
       rw[Act.eval_put_ne _ _ _ _ hne];have hold:=hI.vs t.e (List.mem_map_of_mem hte) (.inr (by rw[Y7.e_op];exact hlt')) (by
        have hkt:t.kill=[]:=by simpa using List.all_eq_true.1 hkill t hte
        have:t.e.kill=[]:=by unfold Y7.e;split<;>simp[hkt]
        rw[this];trivial)
       rw[hsl] at hold;exact hkp.get t ht' _ hold
    ·rintro w' hdst ⟨pins,new,drop,F',hFw,hkp,hpin,hchk,hSt⟩
     simp only[Bool.and_eq_true] at hchk;obtain⟨hfit',hdr,hnew⟩:=hchk;refine hSt fuel _ _ w' hsize hcount hcl' (hsub' (fun _ _ _ _=>trivial) (fun t ht=>List.mem_append_right _ (List.mem_append_right _ ht)) hdr) hdn' ?_;refine⟨hI.sz,hI.df,hI.fx,fun u hu hlu hku=>?_,hFw⟩;obtain⟨t,ht,rfl⟩:=List.mem_map.1 hu;rw[Y7.e_op,hsize] at hlu;have hsl:t.e.slot=t.slot:=by unfold Y7.e;split<;>rfl
     rw[hsl];rcases List.mem_append.1 ht with ht' |ht
     ·obtain⟨_,_,v,hv,he⟩:=hpin.get t ht'
      simp only[Y7.e,hv];exact he
     rcases List.mem_append.1 ht with ht' |ht'
     ·exfalso
      have:=List.all_eq_true.1 hnew t ht';simp only[Bool.and_eq_true,Bool.not_eq_true',bne_iff_ne] at this;obtain⟨n0,n1,n2,n3⟩:=this;have n0:t.op<ops.size:=by simpa [Nat.blt_eq] using n0
      rcases hlu with hlu |hlu
      ·omega
      ·rcases Z3c hlu with e2 |hlu
       ·exact n3 e2
       ·rcases hsub _ hlu with h3 |⟨u,hu,h3⟩
        ·rw[Y1i h3] at n1;cases n1
        ·have:=List.all_eq_true.1 n2 u hu
         simp[h3] at this
     ·obtain⟨hte,_⟩:=Z7c ht'
      have hto:=hopl t hte;have hlt':listed.getD t.op false=true:=by
       rcases hlu with hlu |hlu
       ·omega
       ·rcases Z3c hlu with e2 |hlu
        ·exact absurd e2 (hhe t hte)
        ·exact hlu
      have hold:=hI.vs t.e (List.mem_map_of_mem hte) (.inr (by rw[Y7.e_op];exact hlt')) (by
       have hkt:t.kill=[]:=by simpa using List.all_eq_true.1 hkill t hte
       have:t.e.kill=[]:=by unfold Y7.e;split<;>simp[hkt]
       rw[this];trivial)
      rw[hsl] at hold;exact hkp.get t ht' _ hold
   ·exact X2g hfit hkill hN hF hstab hl (fun listed a w=>ih listed a w) hs hc hcl hsub hdn hI h0 ho hd hm
  refine⟨fun hnil=>?_,fun i hm=>?_⟩
  ·rw[Z7w hback hs hnil h hlt] at hnl;cases hnl
  ·obtain⟨h0,o,ho,hd⟩:=mem_ready.1 hm
   have hi:i<listed.size:=by
    have:=(Array.getElem?_eq_some_iff.1 ho).1;omega
   refine step i o ho ?_ hd;simp only[Array.getD_eq_getD_getElem?,Array.getElem?_eq_getElem hi,Option.getD_some] at h0 ⊢;exact h0
abbrev Y5f (ops:Array Oper):Bool:=(List.range ops.size).all (fun i=>match ops[i]? with |some o=>o.after.all (fun e=> !Region.binds .any e||decide (e.on<i)) |none=>true)
theorem Z9.sg {a:Act}{w:World}{c:Code}{id:Nat}{Q':Exit→Act→World→Prop}(H:Z9 a n l) (F:World→Prop) (hw:F w.drew) (ss:List Nat) (es:List Y7) (hc:Y5b Tryz.prog c Q'=(.region id ops true,Q)) (hSt:St ops Q n fixed es F []) (hs:sel l ss=some fixed:=by rfl)
  (hel:es.all (fun t=>Nat.blt t.op ops.size)=true:=by kernel_rfl) (hm:Tryz.prog.follows .mixedOrders=true:=by kernel_rfl):c.wp Tryz.prog Q' a w:=by
 refine Z4q c Q' ?_;rw[hc];refine wp_region_any hm (hSt ops.size _ a _ (by simp) (by simp) ?_ ?_ (fun j hj=>by cases hj) ⟨H.sz,H.df,Y2k H hs, ?_,hw⟩)
 ·intro i o _ h
  rw[Z3d] at h;cases h
 ·intro j hj
  rw[Z3d] at hj;cases hj
 ·intro u hu hl _
  obtain⟨t,ht,rfl⟩:=List.mem_map.1 hu;rw[Y7.e_op] at hl;have:t.op<ops.size:=by simpa [Nat.blt_eq] using List.all_eq_true.1 hel t ht
  rcases hl with hl |hl
  ·rw[Array.size_replicate] at hl;omega
  ·rw[Z3d] at hl;cases hl
abbrev nxB (ops:Array Oper) (n:Nat) (fixed:List (Nat×Value)) (es:List Y7) (done:List Nat) (h:Nat) (new:List Y7) (drop:List Nat) (hE:List Y7):Bool:=
 Z5m n fixed ((hE++(new++Z1u drop es)).map Y7.e)&&(drop.all (fun k=>Z2p (Z8k ops h done) k)&&new.all (fun t=>Nat.blt t.op ops.size&&(!Z2p done t.op&&(es.all (fun u=>u.op != t.op)&&t.op != h))))
section
variable {h d:Nat}{v:Value}{w w':World}{o:Oper}
theorem nx (F':World→Prop) (new:List Y7) (drop:List Nat) (hF:F' w') (hSt:St ops Q n fixed (ec h d v::(new++Z1u drop es)) F' (Z8k ops h done)) (hk:Z5p w w' (Z1u drop es):=by exact trivial) (hc:nxB ops n fixed es done h new drop [ec h d v]=true:=by kernel_rfl):Nx ops Q n fixed es done h d v w w':=
 ⟨ec h d v,new,drop,F',fixed,fun _ h=>h,⟨rfl,rfl,rfl,rfl⟩,hF,hk,hc,hSt⟩
theorem nxl (fixed':List (Nat×Value)) (hs:∀a,W7 a fixed→W7 a fixed') (F':World→Prop) (new:List Y7) (drop:List Nat) (hF:F' w') (hSt:St ops Q n fixed' (ec h d v::(new++Z1u drop es)) F' (Z8k ops h done)) (hk:Z5p w w' (Z1u drop es):=by exact trivial) (hc:nxB ops n fixed' es done h new drop [ec h d v]=true:=by kernel_rfl):Nx ops Q n fixed es done h d v w w':=
 ⟨ec h d v,new,drop,F',fixed',hs,⟨rfl,rfl,rfl,rfl⟩,hF,hk,hc,hSt⟩
theorem nxp {a:Act}(F':World→Prop) (pins new:List Y7) (drop:List Nat) (hF:F' w') (hp:X9y a drop pins) (hSt:St ops Q n fixed (pins++(new++Z1u drop es)) F' (Z8k ops h done)) (hk:Z5p w w' (Z1u drop es):=by exact trivial) (hc:nxB ops n fixed es done h new drop pins=true:=by kernel_rfl):Nx0 ops Q n fixed es done h a w w':=
 ⟨pins,new,drop,F',hF,hk,hp,hc,hSt⟩
theorem nx0 {a:Act}(F':World→Prop) (new:List Y7) (drop:List Nat) (hF:F' w') (hSt:St ops Q n fixed (new++Z1u drop es) F' (Z8k ops h done)) (hk:Z5p w w' (Z1u drop es):=by exact trivial) (hc:nxB ops n fixed es done h new drop []=true:=by kernel_rfl):Nx0 ops Q n fixed es done h a w w':=
 nxp F' [] new drop hF trivial hSt hk hc
theorem St.call (h:Nat) {f:FuncId}{xs:Array Operand}{ats:Array TypeId}{vs:List Value}{R:World→Value→World→Prop}(hl:Z0h ops Q n fixed F es done es) (hc:∀w,F w→Calls Tryz.prog f vs.toArray w fun e w'=>∃v,e = .returned v∧R w v w') (hn:∀w v w',F w→R w v w'→Nx ops Q n fixed es done h d v w w')
  (ho:ops[h]? = some o:=by rfl) (hp:o.op = .call { callee:=.value (.func f),args:=xs,argTypes:=ats }:=by rfl) (hd:o.dst=some d:=by rfl) (hg:okG ops (fixed++K8 (D4 ops h) es) o=true:=by rfl) (hx:Y1f (fixed++K8 (D4 ops h) es) xs.toList=some vs:=by rfl)
  (hen:∀(args:Array Value) (w:World),(callFunc f args).run Tryz.prog w = .ok (.enter f args) w:=by exact fun _ _=>by kernel_rfl) (hB:stB ops n fixed es done h=true:=by kernel_rfl) (hN:Nat.ble ops.size 1000=true:=by kernel_rfl) (hback:Y5f ops=true:=by kernel_rfl)
  (hF:es.all Z1y=true∨∀w w',F w→Below w.heap.size w w'→F w':=by exact .inl rfl) (hst:D2 es:=by exact trivial):St ops Q n fixed es F done:=by
 refine X8e h (Array.getElem?_eq_some_iff.1 ho).1 (Z6i hback) hB hN hF hst hl ?_;intro o' K a w ho' H _ hFw hK _;rw[ho] at ho';injection ho' with ho'
 subst ho';exact D0 ho (Z0g H hg) d hd f _ (P3 H hp hx hen) _ (hc w hFw) fun v w' hR=>hK d v w' hd (hn w v w' hFw hR)
theorem St.val (h:Nat) (hl:Z0h ops Q n fixed F es done es) (hrun:∀a w,Z9 a n (fixed++K8 (D4 ops h) es)→Z4i (D4 ops h) a w es→F w→∃v w',(execOp a.eval o).run Tryz.prog w = .ok (.value v) w'∧Nx ops Q n fixed es done h d v w w')
  (ho:ops[h]? = some o:=by rfl) (hd:o.dst=some d:=by rfl) (hg:okG ops (fixed++K8 (D4 ops h) es) o=true:=by rfl) (hB:stB ops n fixed es done h=true:=by kernel_rfl) (hN:Nat.ble ops.size 1000=true:=by kernel_rfl) (hback:Y5f ops=true:=by kernel_rfl)
  (hF:es.all Z1y=true∨∀w w',F w→Below w.heap.size w w'→F w':=by exact .inl rfl) (hst:D2 es:=by exact trivial):St ops Q n fixed es F done:=by
 refine X8e h (Array.getElem?_eq_some_iff.1 ho).1 (Z6i hback) hB hN hF hst hl ?_;intro o' K a w ho' H hr hFw hK _;rw[ho] at ho';injection ho' with ho'
 subst ho';obtain⟨v,w',hx,hn⟩:=hrun a w H hr hFw;exact V7 ho (Z0g H hg) d hd v w' hx (hK d v w' hd hn)
theorem St.app (h:Nat) {s x:Operand}{t e:TypeId}{base size bytes m:Nat}{z:Value}{u:Value}{k c:Nat}{A:Option Addr}{xs ys:List Value}(hi:(Tryz.prog.info? e).map (fun i=>(i.zero,i.size,i.bytes))=some (some z,size,bytes)) (hl:Z0h ops Q n fixed F es done es)
  (hrun:∀w,F w→w.ownsRow base e size u k xs∧X4 w w.heap.size size A m ys∧base≤w.heap.size) (h1:∀u∈ys,u.oneCell'=true) (hn:k+m≤maxLen∧(k+m)*bytes≤140737488355328) (hk:∀w A' c' w',F w→w'.ownsRow base e size (.slice A' (k+m) c') (k+m) (xs++ys)→w.grownBy w' u.ownBlock→Nx ops Q n fixed es done h d (.slice A' (k+m) c') w w')
  (ho:ops[h]? = some o:=by rfl) (hp:o.op = .call { callee:=.builtin .append,args:=#[s,x],argTypes:=#[t,t] }:=by rfl) (hd:o.dst=some d:=by rfl) (ht:Tryz.prog.underlying t=some (.slice e):=by kernel_rfl) (hzs:z.cells.size=size:=by rfl) (hsz:0<size:=by decide) (hg:okG ops (fixed++K8 (D4 ops h) es) o=true:=by rfl)
  (hs:W1 (fixed++K8 (D4 ops h) es) s=some u:=by rfl) (hx:W1 (fixed++K8 (D4 ops h) es) x=some (.slice A m c):=by rfl) (hB:stB ops n fixed es done h=true:=by kernel_rfl) (hN:Nat.ble ops.size 1000=true:=by kernel_rfl) (hback:Y5f ops=true:=by kernel_rfl)
  (hF:es.all Z1y=true∨∀w w',F w→Below w.heap.size w w'→F w':=by exact .inl rfl) (hst:D2 es:=by exact trivial):St ops Q n fixed es F done:=by
 refine St.val h hl ?_ ho hd hg hB hN hback hF hst;intro a w H _ hFw;obtain⟨r1,r2,r3⟩:=hrun w hFw;obtain⟨A',c',w',hr,hO,hgr⟩:=X8c (a:=a) hp ht hi hzs hsz (H.ev hs) r1 (H.ev hx) r2 h1 hn.1 hn.2 r3;exact⟨_,w',hr,hk w A' c' w' hFw hO hgr⟩
theorem St.sto (h:Nat) (hl:Z0h ops Q n fixed F es done es) (hrun:∀a w,Z9 a n (fixed++K8 (D4 ops h) es)→Z4i (D4 ops h) a w es→F w→∃w',(execOp a.eval o).run Tryz.prog w = .ok .skip w'∧Nx0 ops Q n fixed es done h a w w')
  (ho:ops[h]? = some o:=by rfl) (hd:o.dst=none:=by rfl) (hg:okG ops (fixed++K8 (D4 ops h) es) o=true:=by rfl) (hB:stB ops n fixed es done h=true:=by kernel_rfl) (hN:Nat.ble ops.size 1000=true:=by kernel_rfl) (hback:Y5f ops=true:=by kernel_rfl)
  (hF:es.all Z1y=true∨∀w w',F w→Below w.heap.size w w'→F w':=by exact .inl rfl) (hst:D2 es:=by exact trivial):St ops Q n fixed es F done:=by
 refine X8e h (Array.getElem?_eq_some_iff.1 ho).1 (Z6i hback) hB hN hF hst hl ?_;intro o' K a w ho' H hr hFw _ hK;rw[ho] at ho';injection ho' with ho'
 subst ho';obtain⟨w',hx,hn⟩:=hrun a w H hr hFw;exact Y3z ho (Z0g H hg) hd w' hx (hK w' hd hn)
end
theorem St.fin (hl:Z0h ops Q n fixed F es done es) (hfin:∀(a:Act) (w:World),Z9 a n (fixed++X5h es)→X9x a w es→F w→Q .normal a w) (hB:(Z5m n fixed (es.map Y7.e)&&(es.all (fun t=>t.kill.isEmpty&&Nat.blt t.op ops.size)&&((List.range ops.size).all (fun k=>Z2p done k||es.any (fun t=>t.op==k))&&Nat.ble ops.size 1000)))=true:=by kernel_rfl) (hback:Y5f ops=true:=by kernel_rfl)
  (hF:es.all Z1y=true∨∀w w',F w→Below w.heap.size w w'→F w':=by exact .inl rfl) (hst:D2 es:=by exact trivial):St ops Q n fixed es F done:=by
 simp only[Bool.and_eq_true] at hB;obtain⟨hfit,hall,hcov,hN⟩:=hB;have hN:ops.size≤1000:=by simpa using hN
 have hkill:es.all (fun t=>t.kill.isEmpty)=true:=List.all_eq_true.2 fun t ht=>by
  have:=List.all_eq_true.1 hall t ht;simp only[Bool.and_eq_true] at this;exact this.1
 have hopl:∀t∈es,t.op<ops.size:=fun t ht=>by
  have:=List.all_eq_true.1 hall t ht;simp only[Bool.and_eq_true] at this
  simpa [Nat.blt_eq] using this.2
 have fin:∀(listed:Array Bool) (a:Act) (w:World),listed.size=ops.size→Region.ready .any ops listed=[]→Z1r n fixed (es.map Y7.e) F listed a w→Q .normal a w:=by
  intro listed a w hs hnil hI;have hall':∀t∈es,listed.getD t.op false=true:=fun t ht=>Z7w (Z6i hback) hs hnil t.op (hopl t ht);exact hfin a w (Z9.of hI.sz hI.df (W7.app hI.fx (Y4a hI hall' fun _ h=>h))) (Y9u hI hkill hall' fun _ h=>h) hI.wp
 intro fuel
 induction fuel with
 |zero=>
  intro listed a w hs hc hcl hsub hdn hI;have hnil:Region.ready .any ops listed=[]:=by
   rcases hr:Region.ready .any ops listed with _ |⟨i,rs⟩
   ·rfl
   ·exfalso
    have hm:i∈Region.ready .any ops listed:=by rw[hr];exact List.mem_cons_self
    obtain⟨h0,o,ho,_⟩:=mem_ready.1 hm;have hi:i<listed.size:=by
     have:=(Array.getElem?_eq_some_iff.1 ho).1;omega
    have h1:listed.toList[i]? = some false:=by
     simp only[Array.getD_eq_getD_getElem?,Array.getElem?_eq_getElem hi,Option.getD_some] at h0;simp[hi,h0]
    have:=Z5a _ _ h1;omega
  exact⟨hnil,fin listed a w hs hnil hI⟩
 |succ fuel ih=>
  intro listed a w hs hc hcl hsub hdn hI;refine⟨fun hnil=>fin listed a w hs hnil hI,fun i hm=>?_⟩;obtain⟨h0,o,ho,hd⟩:=mem_ready.1 hm;have hi:i<listed.size:=by
   have:=(Array.getElem?_eq_some_iff.1 ho).1;omega
  have h0':listed.getD i false=false:=by
   simp only[Array.getD_eq_getD_getElem?,Array.getElem?_eq_getElem hi,Option.getD_some] at h0 ⊢;exact h0
  refine X2g hfit hkill hN hF hst hl (fun listed a w=>ih listed a w) hs hc hcl hsub hdn hI h0' ho hd ?_;have:=List.all_eq_true.1 hcov i (List.mem_range.2 (by omega));simp only[Bool.or_eq_true] at this;rcases this with h1 |h1
  ·rw[hdn i (Z7x h1)] at h0';cases h0'
  ·obtain⟨t,ht,he⟩:=List.any_eq_true.1 h1
   exact⟨t,ht,by simpa using he⟩
end
end
section
open Go.RowKit
section
variable {ops:Array Oper}{Q:Exit→Act→World→Prop}{n:Nat}{l:List (Nat×Value)}{F:World→Prop}
def Y5g (ops:Array Oper) (Q:Exit→Act→World→Prop) (n:Nat) (F:World→Prop):List (Nat×Value)→List Y7→Prop
 |_,[]=>True
 |l,⟨k,s,_ks,c,_q,m⟩::ts=>match c,m with
  |some v,false=>Z1h ops Q n l F k s v∧Y5g ops Q n F ((s,v)::l) ts
  |some v,true=>Z1z ops Q n l F [] (eh k s v)∧Y5g ops Q n F ((s,v)::l) ts
  |none,_=>False
def J8e:List (Nat×Value)→List Y7→List (Nat×Value)
 |l,[]=>l
 |l,⟨_,s,_,c,_,_⟩::ts=>match c with
  |some v=>J8e ((s,v)::l) ts
  |none=>l
def X9z (ops:Array Oper) (n:Nat):Nat→List Y7→Bool
 |i,[]=>Nat.beq i ops.size
 |i,t::ts=>Nat.beq t.op i&&(Nat.blt t.slot n&&X9z ops n (i+1) ts)
theorem X2h:∀{ts:List Y7}{i:Nat},X9z ops n i ts=true→i+ts.length=ops.size
 |[],i,h=>Nat.eq_of_beq_eq_true h
 |t::ts,i,h=>by
  simp only[X9z,Bool.and_eq_true] at h;have:=X2h h.2.2;simp only[List.length_cons];omega
theorem Y9w {P:Program}{o:Oper}{rest:List Oper}{a:Act}{w:World}{i:Nat}(ho:ops[i]? = some o) (h:wpOp P ops Q i (fun a' w'=>wpList P ops Q rest a' w') a w):wpList P ops Q (o::rest) a w:=by
 simp only[wpOp,ho] at h;exact h
theorem X5i (hk:∀w w',F w→Below w.heap.size w w'→F w'):∀(ts:List Y7) (i:Nat) {l:List (Nat×Value)}{a:Act}{w:World},X9z ops n i ts=true→Z9 a n l→F w→Y5g ops Q n F l ts→(∀a w,Z9 a n (J8e l ts)→F w→Q .normal a w)→wpList Tryz.prog ops Q (ops.toList.drop i) a w
 |[],i,l,a,w,hb,H,hF,_,hfin=>by
  have:i=ops.size:=Nat.eq_of_beq_eq_true hb;subst this;rw[←Array.length_toList,List.drop_length];exact wpList_nil (hfin a w H hF)
 |t::ts,i,l,a,w,hb,H,hF,hT,hfin=>by
  simp only[X9z,Bool.and_eq_true] at hb;have hop:t.op=i:=Nat.eq_of_beq_eq_true hb.1;unfold Y5g at hT;unfold J8e at hfin;have hlt:i<ops.size:=by have:=X2h hb.2.2;omega
  have go:wpOp Tryz.prog ops Q i (fun a' w'=>wpList Tryz.prog ops Q (ops.toList.drop (i+1)) a' w') a w→wpList Tryz.prog ops Q (ops.toList.drop i) a w:=by
   intro h;obtain⟨o,ho⟩:∃o,ops[i]? = some o:=⟨_,Array.getElem?_eq_getElem hlt⟩;obtain⟨hi,he⟩:=Array.getElem?_eq_some_iff.1 ho;have:ops.toList.drop i=o::ops.toList.drop (i+1):=by
    rw[List.drop_eq_getElem_cons (by simpa using hi)];simp[he]
   rw[this];exact Y9w ho h
  split at hT
  ·next v hc hm=>
   rw[hc] at hfin;rw[hop] at hT;refine go (hT.1 _ a w H hF ?_);exact X5i hk ts (i+1) hb.2.2 (H.put hb.2.1 v) hF hT.2 hfin
  ·next v hc hm=>
   rw[hc] at hfin;rw[hop] at hT;refine go (hT.1 _ a w ?_ trivial hF ?_)
   ·have:l++K8 (D4 ops (eh i t.slot v).op) []=l:=List.append_nil l
    rw[this];exact H
   ·rintro v' w' hv hbl
    have hv:v'=v:=hv;subst hv;exact X5i hk ts (i+1) hb.2.2 (H.put hb.2.1 v') (hk _ _ hF hbl) hT.2 hfin
  ·exact False.elim hT
theorem Z9.tb {a:Act}{w:World}{c:Code}{id:Nat}{Q':Exit→Act→World→Prop}(H:Z9 a n l) (F:World→Prop) (hk:∀w w',F w→Below w.heap.size w w'→F w') (hF:F w) (es:List Y7) (hc:Y5b Tryz.prog c Q'=(.region id ops false,Q)) (hT:Y5g ops Q n F l es) (hfin:∀a w,Z9 a n (J8e l es)→F w→Q .normal a w)
  (hb:X9z ops n 0 es=true:=by kernel_rfl):c.wp Tryz.prog Q' a w:=by
 refine Z4q c Q' ?_;rw[hc];exact wp_region_list (X5i hk es 0 hb H hF hT hfin)
end
end
end Go.Proofs.YtlacidnnankjlaaGreatDoor
