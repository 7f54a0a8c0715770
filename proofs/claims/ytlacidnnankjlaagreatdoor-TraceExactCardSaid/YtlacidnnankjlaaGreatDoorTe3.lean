/-
  Texts of the claim: Hear Heard TrPlain TellP ReP TrStream FrB TrFrame FrRow ReM ReW PgF IpRPN SegRPN PgS PgT Lists EqL Chunk SameF.
-/
import Derived.Lib.SlBytesConst
import Derived.Lib.BufferRead
import Derived.Great.Frames
import Derived.Test.YtlacidnnankjlaaGreatDoorTe2
namespace Go.Proofs.YtlacidnnankjlaaGreatDoor
set_option maxRecDepth 100000
set_option maxHeartbeats 25600000
section
open Go.RowKit
structure Lst where
 up:Bool
 nq:Nat
 ps:List (Nat×List UInt8)
 b:List UInt8
 rst:Bool
 fins:List Nat
def Lst.zero:Lst:=⟨false,0,[],[],false,[]⟩
abbrev Z6v (x:Lst) (AP:Option Addr) (cP:Nat) (vB vF:Value):List Value:=[iz x.nq, .slice AP x.ps.length cP, .bool x.up,vB, .bool x.rst,vF]
abbrev Z7l (n:Nat):Value:=iz n
def Z0w (g:Nat) (vB vF:Value) (k:Nat):Prop:=g<k∧some k≠vB.ownBlock∧some k≠vF.ownBlock
def Z2h (g:Nat) (x:Lst) (AP:Option Addr) (vB vF:Value) (w:World):Prop:=
 w.ownsRow (g+1) 5 1 vB x.b.length (x.b.map bv)∧w.ownsRow (g+1) 3 1 vF x.fins.length (x.fins.map Z7l)∧E0 w (Z0w g vB vF) AP x.ps
theorem Z2h.next {g:Nat}{x:Lst}{AP:Option Addr}{vB vF:Value}{w w':World}(h:Z2h g x AP vB vF w) (hb:Below w.heap.size w w'):Z2h g x AP vB vF w':=
 ⟨Y1 h.1 hb,Y1 h.2.1 hb,h.2.2.grown (X2 hb none) (fun k e=>by cases e)⟩
theorem Z2h.box {g k0:Nat}{x:Lst}{AP:Option Addr}{vB vF:Value}{w w':World}(h:Z2h g x AP vB vF w) (hg:w.grownBy w' (some k0)) (hk:k0≤g):Z2h g x AP vB vF w':=
 ⟨h.1.kept hg (.inr (Q1 h.1 (.inl (Nat.lt_succ_of_le hk))).symm),h.2.1.kept hg (.inr (Q1 h.2.1 (.inl (Nat.lt_succ_of_le hk))).symm),h.2.2.grown hg (fun k e hS=>by injection e with e;have:=hS.1;omega)⟩
theorem Z0w.turn {g k:Nat}{vB vF vF':Value}{w:World}(hfr:vF'.ownBlock=vF.ownBlock∨vF'.ownBlock=some w.heap.size) (h:Z0w g vB vF k∧k<w.heap.size):Z0w g vB vF' k:=by
 refine⟨h.1.1,h.1.2.1,fun e=>?_⟩;rcases hfr with hf |hf
 ·rw[hf] at e;exact h.1.2.2 e
 ·rw[hf] at e;injection e with e;omega
theorem Z0w.turnB {g k:Nat}{vB vF vB':Value}{w:World}(hfr:vB'.ownBlock=vB.ownBlock∨vB'.ownBlock=some w.heap.size) (h:Z0w g vB vF k∧k<w.heap.size):Z0w g vB' vF k:=by
 refine⟨h.1.1,fun e=>?_,h.1.2.2⟩;rcases hfr with hf |hf
 ·rw[hf] at e;exact h.1.2.1 e
 ·rw[hf] at e;injection e with e;omega
theorem RBS.fin {g:Nat}{vB vF vF':Value}{A:Option Addr}{xs:List UInt8}{w w':World}(h:RBS w (Z0w g vB vF) A xs) (hg:w.grownBy w' vF.ownBlock) (hfr:vF'.ownBlock=vF.ownBlock∨vF'.ownBlock=some w.heap.size):RBS w' (Z0w g vB vF') A xs:=
 ((h.mono (S':=fun k=>Z0w g vB vF k∧k<w.heap.size) (fun _ hk hS=>⟨hS,hk⟩)).grown hg (fun _k e hS=>hS.1.2.2 e.symm)).mono fun _ _ hS=>Z0w.turn hfr hS
theorem Z2h.fin {g n:Nat}{x:Lst}{AP:Option Addr}{vB vF vF':Value}{w w':World}(h:Z2h g x AP vB vF w) (hO:w'.ownsRow (g+1) 3 1 vF' (x.fins.length+1) (x.fins.map Z7l++[Z7l n])) (hg:w.grownBy w' vF.ownBlock) (hfr:vF'.ownBlock=vF.ownBlock∨vF'.ownBlock=some w.heap.size):Z2h g { x with fins:=x.fins++[n] } AP vB vF' w':=
 ⟨h.1.kept hg (G8 h.1 h.2.1 rfl),by
  show w'.ownsRow (g+1) 3 1 vF' (x.fins++[n]).length ((x.fins++[n]).map Z7l);rw[List.length_append,List.map_append];exact hO,
  ((h.2.2.mono (S':=fun k=>Z0w g vB vF k∧k<w.heap.size) (fun _ hk hS=>⟨hS,hk⟩)).grown hg (fun k e hS=>hS.1.2.2 e.symm)).mono fun _ _ hS=>Z0w.turn hfr hS⟩
def Z9g (W:World) (B g g3:Nat) (L3:List Value) (x:Lst) (AP:Option Addr) (cP:Nat) (vB vF:Value) (A:Option Addr) (xs:List UInt8) (w:World):Prop:=
 X0 W B [(g3,L3),(g,Z6v x AP cP vB vF)] w∧Z2h g x AP vB vF w∧RBS w (Z0w g vB vF) A xs
theorem Z9g.next {W:World}{B g g3:Nat}{L3:List Value}{x:Lst}{AP:Option Addr}{cP:Nat}{vB vF:Value}{A:Option Addr}{xs:List UInt8}{w w':World}(h:Z9g W B g g3 L3 x AP cP vB vF A xs w) (hb:Below w.heap.size w w'):Z9g W B g g3 L3 x AP cP vB vF A xs w':=
 ⟨h.1.call hb,h.2.1.next hb,h.2.2.grown (X2 hb none) (fun k e=>by cases e)⟩
def Z0x (q:Sg) (sq:Nat) (x x':Lst):Prop:=
 if (bits .and .i64 q.fl 2 != 0)=true then x'=⟨true,Y6 sq 1,[],[],false,[]⟩
 else if x.up=false then x'=x
 else ∃nq' ps' told,Y3t x.nq x.ps sq q.xs nq' ps' told∧x'=⟨true,nq',ps',x.b++told,x.rst||(bits .and .i64 q.fl 4 != 0),if (bits .and .i64 q.fl 1 != 0)=true then x.fins++[Y6 sq q.xs.length] else x.fins⟩
theorem J4z:(Tryz.prog.info? 106).map (·.size)=some 6:=by kernel_rfl
theorem X5.pre {w:World}{g:Nat}{l1 l2:List Value}(h:X5 w g (l1++l2)):X5 w g l1:=fun j v hv=>h j v (by rw[List.getElem?_append_left (List.getElem?_eq_some_iff.1 hv).1];exact hv)
theorem Y8m {w:World}{g:Nat}{c0 c1 a b:Value}{R:List Value}(hC:X5 w g (c0::c1::R)) (h1:([a,b]:List Value).all (·.oneCell')=true):
  ∃w',(Instr.storeAt 104 (pz g) (.agg ([a,b]:List Value).toArray)).run Tryz.prog w = .ok () w'∧w.grownBy w' (some g)∧X5 w' g (a::b::R):=by
 have hp:X5 w g [c0,c1]:=X5.pre (l2:=R) hC;refine⟨_,run_storeAt_mid w g 0 _ ([a,b]:List Value).toArray (by simpa using hp.there) N9 (all_oneCell_toArray fun v hv=>List.all_eq_true.1 h1 v hv),(D3 g _ 0 w).2, ?_⟩;exact(hC.set 0 a (Nat.succ_pos _)).set 1 b (Nat.succ_lt_succ (Nat.succ_pos _))
def J0w (g h3:Nat) (wz:World) (vB vF:Value) (k:Nat):Prop:=Z0w g vB vF k∧(k<h3∨(k<wz.heap.size∧¬Z3z wz k 104))
def J0x (W:World) (B g:Nat) (bs:List (Nat×List Value)) (xs:List UInt8) (fs:List Nat) (vB vF:Value) (S:Nat→Prop) (ps:List (Nat×List UInt8)) (A':Option Addr) (told:List UInt8) (A2:Option Addr) (w:World):Prop:=
 X0 W B bs w∧(w.ownsRow (g+1) 5 1 vB xs.length (xs.map bv)∧w.ownsRow (g+1) 3 1 vF fs.length (fs.map Z7l))∧E0 w S A' ps∧RBS w S A2 told
theorem J0x.next {W:World}{B g:Nat}{bs:List (Nat×List Value)}{xs:List UInt8}{fs:List Nat}{vB vF:Value}{S:Nat→Prop}{ps:List (Nat×List UInt8)}{A':Option Addr}{told:List UInt8}{A2:Option Addr}{w w':World}(h:J0x W B g bs xs fs vB vF S ps A' told A2 w) (hb:Below w.heap.size w w'):J0x W B g bs xs fs vB vF S ps A' told A2 w':=
 ⟨h.1.call hb,⟨Y1 h.2.1.1 hb,Y1 h.2.1.2 hb⟩,h.2.2.1.grown (X2 hb none) (fun k e=>by cases e),h.2.2.2.grown (X2 hb none) (fun k e=>by cases e)⟩
theorem Z7m (u v:Int) (x y:Operand) (w:World):(do eqGuard .and 3 x y (iz u) (iz v);binOp .and 3 (iz u) (iz v):Sem Value).run Tryz.prog w = .ok (iz (bits .and .i64 u v)) w:=by kernel_rfl
theorem J0y (g o n c:Nat) (A:Option Addr) (u:Value) (w:World) (h:w.cell? ⟨g,o,none⟩=some u) (hf:w.frozen? ⟨g,o,none⟩=false):(Instr.storeAt 45 (.pointer (some ⟨g,o,none⟩)) (.slice A n c)).run Tryz.prog w = .ok () (w.setCell ⟨g,o,none⟩ (.slice A n c)):=by
 simp[go_sem,h,hf]
theorem X8s:(Tryz.prog.info? 3).map (fun i=>(i.zero,i.size,i.bytes))=some (some (iz 0),1,8):=by kernel_rfl
theorem J0z (g:Nat) (w:World):(Instr.fieldAt 36 (pz g) 4).run Tryz.prog w = .ok (.pointer (some ⟨g,4,none⟩)) w:=by kernel_rfl
theorem J8p {nq:Nat}{ps:List (Nat×List UInt8)}{sq:Nat}{xs:List UInt8}{nq':Nat}{ps':List (Nat×List UInt8)}{told:List UInt8}(h:Y3t nq ps sq xs nq' ps' told):told.length≤2048:=by
 rcases h with⟨_,_,_,rfl⟩ |⟨_,l,hR,⟨_,_,_,rfl⟩ |⟨_,_,_,rfl⟩⟩
 ·simp
 ·simp
 ·rcases l with _ |⟨⟨a,x⟩,r⟩
  ·simp[Z4v]
  ·rw[Z0z]
   cases hR with
   | @run _ _ b _ _ h1 h2 h3 h4 h5 h6 h7 h=>
    have:(P1 (Z4u nq B8 ps) (Y0m (Y4 sq nq)) (T1 (Y4 sq nq) xs)).length=2048:=by rw[Z2e,Z3f];exact List.length_replicate
    cases Y6 nq a==nq with
    |true=>rw[cond_true];omega
    |false=>rw[cond_false];simp
theorem Q4u (W:World) (B g:Nat) (x:Lst) (AP:Option Addr) (cP:Nat) (vB vF:Value) (q:Sg) (sq:Nat) (hsq:q.sq=(sq:Int)) (hsl:sq≤4294967295) (A:Option Addr) (c:Nat) (w:World) (O:X0 W B [(g,Z6v x AP cP vB vF)] w) (M:Z2h g x AP vB vF w) (hr:RBS w (Z0w g vB vF) A q.xs) (hc:q.xs.length≤c)
  (hn:q.xs.length≤65536) (hq:x.nq≤4294967295) (hl:x.ps.length≤100000) (hps:∀p∈x.ps,p.1≤4294967295∧0≤Y4 p.1 x.nq∧Y4 p.1 x.nq+(p.2.length:Int)≤2048) (hbl:x.b.length≤1000000000) (hfl:x.fins.length≤1000000000):
  Calls Tryz.prog 60 #[pz g, .agg (sgL q (.slice A q.xs.length c)).toArray] w fun e w'=>e = .returned (.tuple #[])∧∃x' AP' cP' vB' vF',Z0x q sq x x'∧X0 W B [(g,Z6v x' AP' cP' vB' vF')] w'∧Z2h g x' AP' vB' vF' w':=by
 go_enter Tryz.func60,Tryz.ntmps60
 refine Z9.start 79 [(0,pz g),(1, .agg (sgL q (.slice A q.xs.length c)).toArray)] rfl rfl ⟨rfl,rfl,trivial⟩ ?_;intro a0 H0;have hgw:=O.lt 0 rfl;refine rl ?_;refine H0.bx (X0.start w) 0 (L:=sgL q (.slice A q.xs.length c)) fun a w1 Oq H=>nt ?_;have M1:=M.next Oq.bel;have hF3:some w.heap.size≠vF.ownBlock:=Q1 M.2.1 (.inr (Nat.le_refl _));have hB3:some w.heap.size≠vB.ownBlock:=Q1 M.1 (.inr (Nat.le_refl _));have O1:=J4a (O.call Oq.bel) (Nat.le_of_lt (Nat.lt_of_le_of_lt (O.ge 0 rfl) hgw)) (Oq.lt 0 rfl) (by intro p hp;rw[List.mem_singleton.1 hp];exact Nat.ne_of_lt hgw) (Oq.get 0 rfl);replace hr:=hr.grown (X2 Oq.bel none) (fun k e=>by cases e);clear M Oq O;generalize w.heap.size=g3 at O1 H hgw hF3 hB3;have hg3:g3≠g:=Ne.symm (Nat.ne_of_lt hgw);replace H:=H.kp [0,3];have drop1:∀{x:Nat×List Value}{bs:List (Nat×List Value)}{w'},X0 W B (x::bs) w'→X0 W B bs w':=fun h=>h.sub (List.sublist_cons_self _ _);obtain⟨z2,hz2⟩:∃z,(bits .and .i64 q.fl 2 != 0)=z:=⟨_,rfl⟩;refine H.rg 1 fun a H=>?_;refine H.ld 0 (O1.li 0 4) fun a H=>?_;refine H.bn 0 (Z7m q.fl 2 _ _ _) fun a H=>?_;refine H.bb 0 rfl rfl rfl rfl rfl rfl (Z1c (bits .and .i64 q.fl 2) 0 z2 hz2 _ _ _) rfl fun a H=>nt ?_;replace H:=H.kp [0,3,9];cases z2 with
 |true=>
  refine H.condT rfl ?_;refine H.rg 2 fun a H=>?_;refine H.ld 0 (O1.li 0 2) fun a H=>?_;rw[hsq] at H;refine H.cq 0 (Y1l sq 1 (by omega) (by decide) w1) fun a H=>?_;refine H.any (w':=w1) gz rfl rfl (.agg ([iz (Y6 sq 1:Nat),Z2]:List Value).toArray) (by intro cs b h;cases h) (by kernel_rfl) (by kernel_rfl) fun a H=>?_;refine H.any (w':=w1) gz rfl rfl (.agg (Z6v ⟨true,Y6 sq 1,[],[],false,[]⟩ none 0 Z2 Z2).toArray) (by intro cs b h;cases h) (by kernel_rfl) (by kernel_rfl) fun a H=>?_;refine H.ms 1 fun a H=>?_;refine H.st O1 1 0 (L:=Z6v ⟨true,Y6 sq 1,[],[],false,[]⟩ none 0 Z2 Z2) (fun a w2 O2 H=>nt (wp_ret ?_)) J4z;repeat with_reducible first |apply Z4 |apply Z5
  refine bodyPost_ret (results_none rfl _ _ _) H.df ⟨rfl,⟨true,Y6 sq 1,[],[],false,[]⟩,none,0,Z2,Z2, ?_,drop1 O2,World.ownsRow_nil _ _ _ _,World.ownsRow_nil _ _ _ _,E0.nil⟩;unfold Z0x;rw[if_pos hz2]
 |false=>
 refine H.condF rfl (Z3 (Z0 ?_));replace H:=H.kp [0,3];refine H.rg 3 fun a H=>?_;refine H.ld 0 (O1.lb 1 2) fun a H=>?_;refine H.un gz rfl rfl rfl rfl (G5 x.up _) fun a H=>nt ?_;replace H:=H.kp [0,3,21];cases hup:x.up with
 |false=>
  rw[hup] at H;refine H.condT rfl (wp_ret ?_);repeat with_reducible first |apply Z4 |apply Z5
  refine bodyPost_ret (results_none rfl _ _ _) H.df ⟨rfl,x,AP,cP,vB,vF, ?_,drop1 O1,M1⟩;unfold Z0x;rw[if_neg (by rw[hz2];decide),if_pos hup]
 |true=>
 rw[hup] at H;have O1:X0 W B [(g3,sgL q (.slice A q.xs.length c)),(g,[iz x.nq, .slice AP x.ps.length cP, .bool true,vB, .bool x.rst,vF])] w1:=by rw[←hup];exact O1
 refine H.condF rfl (Z3 (Z0 ?_));replace H:=H.kp [0,3];obtain⟨z4,hz4⟩:∃z,(bits .and .i64 q.fl 4 != 0)=z:=⟨_,rfl⟩;refine Z8 (fun a w'=>Z9 a 79 [(0,pz g),(3,pz g3)]∧X0 W B [(g3,sgL q (.slice A q.xs.length c)),(g,Z6v ⟨true,x.nq,x.ps,x.b,x.rst||z4,x.fins⟩ AP cP vB vF)] w'∧Z2h g ⟨true,x.nq,x.ps,x.b,x.rst||z4,x.fins⟩ AP vB vF w'∧RBS w' (Z0w g vB vF) A q.xs) ?_ ?_
 ·refine H.rg 4 fun a H=>?_
  refine H.ld 1 (O1.lb 1 4) fun a H=>?_;cases hrs:x.rst with
  |true=>
   rw[hrs] at H;refine H.off rfl rfl rfl rfl rfl fun a H=>?_;refine H.off rfl rfl rfl rfl rfl fun a H=>?_;refine H.off rfl rfl rfl rfl rfl fun a H=>?_;refine H.off rfl rfl rfl rfl rfl fun a H=>?_;refine H.pick gz rfl rfl rfl rfl rfl fun a H=>?_;refine H.ms 2 fun a H=>?_;refine H.put1 (O1.get 1 rfl) 0 (fun u=>B7 _ _ _ u _) fun a w2 C2 g2' H=>nt ?_;refine⟨H.keep ⟨rfl,rfl,trivial⟩, ?_,M1.box g2' (Nat.le_refl g),hr.grown g2' (fun k e h=>by injection e with e;exact absurd h.1 (by omega))⟩;exact O1.turn 1 rfl g2' C2
  |false=>
   rw[hrs] at H;refine H.go (H.wt rfl rfl rfl) rfl rfl _ (S3 rfl (H.ev rfl) J0z) fun a H=>?_;refine H.load (H.wt rfl rfl rfl) rfl rfl rfl rfl (O1.li 0 4) fun a H=>?_;refine H.bin (H.wt rfl rfl rfl) rfl rfl rfl rfl rfl (Z7m q.fl 4 _ _ _) fun a H=>?_;refine H.bin (H.wt rfl rfl rfl) rfl rfl rfl rfl rfl (Z1c (bits .and .i64 q.fl 4) 0 z4 hz4 _ _ _) fun a H=>?_;refine H.pick gz rfl rfl rfl rfl rfl fun a H=>?_;refine H.ms 2 fun a H=>?_;refine H.put1 (O1.get 1 rfl) 0 (fun u=>B7 _ _ _ u _) fun a w2 C2 g2' H=>nt ?_;refine⟨H.keep ⟨rfl,rfl,trivial⟩, ?_,M1.box g2' (Nat.le_refl g),hr.grown g2' (fun k e h=>by injection e with e;exact absurd h.1 (by omega))⟩;exact O1.turn 1 rfl g2' C2
 clear O1 M1 hr H;obtain⟨rs',hrs'⟩:∃r,(x.rst||z4)=r:=⟨_,rfl⟩;simp only[hrs'];rintro a w2 ⟨H,O2,M2,hr2⟩;obtain⟨z1,hz1⟩:∃z,(bits .and .i64 q.fl 1 != 0)=z:=⟨_,rfl⟩;obtain⟨fs,hfs⟩:∃fs,(if (bits .and .i64 q.fl 1 != 0)=true then x.fins++[Y6 sq q.xs.length] else x.fins)=fs:=⟨_,rfl⟩;refine Z8 (fun a w'=>∃vF',Z9 a 79 [(0,pz g),(3,pz g3)]∧X0 W B [(g3,sgL q (.slice A q.xs.length c)),(g,Z6v ⟨true,x.nq,x.ps,x.b,rs',fs⟩ AP cP vB vF')] w'∧Z2h g ⟨true,x.nq,x.ps,x.b,rs',fs⟩ AP vB vF' w'∧RBS w' (Z0w g vB vF') A q.xs) ?_ ?_
 ·refine H.rg 1 fun a H=>?_
  refine H.ld 0 (O2.li 0 4) fun a H=>?_;refine H.bn 0 (Z7m q.fl 1 _ _ _) fun a H=>?_;refine H.bb 0 rfl rfl rfl rfl rfl rfl (Z1c (bits .and .i64 q.fl 1) 0 z1 hz1 _ _ _) rfl fun a H=>nt ?_;replace H:=H.kp [0,3,38];cases z1 with
  |false=>
   rw[hz1,if_neg (by decide)] at hfs;subst hfs;refine H.condF rfl (Z3 (Z0 ?_));exact⟨vF,H.keep ⟨rfl,rfl,trivial⟩,O2,M2,hr2⟩
  |true=>
   rw[hz1,if_pos rfl] at hfs;subst hfs;refine H.condT rfl ?_;have hsv:=Y1l sq q.xs.length (by omega) (by omega);rw[←hsq] at hsv;obtain⟨AF,cF,rfl,_,_⟩:=V3 M2.2.1;refine H.sg (Z9g W B g g3 (sgL q (.slice A q.xs.length c)) ⟨true,x.nq,x.ps,x.b,rs',x.fins⟩ AP cP vB (.slice AF x.fins.length cF) A q.xs) (Z9g.next ⟨O2,M2,hr2⟩ (Below.drew (Below.refl _ _))) [0,3] [ec 0 39 (pz g),ec 1 40 (pz g),ec 2 41 (pz g),ec 3 42 (.pointer (some ⟨g,5,none⟩)),ec 4 43 (.slice AF x.fins.length cF),ec 5 44 (.pointer (some ⟨g3,2,none⟩)),ec 6 45 (iz q.sq),ec 7 46 (.pointer (some ⟨g3,6,none⟩)),ec 8 47 (.slice A q.xs.length c),ec 9 48 (iz q.xs.length),ec 10 49 (Z7l (Y6 sq q.xs.length))] rfl ?_;refine St.val 11 ⟨jm,jm,jm,jm,jl fun _ h=>D7 _ _ _ _ _ _ ((h.1.get 1 rfl).get 5 _ rfl),jm,jl fun _ h=>h.1.li 0 2,jm,jl fun _ h=>U8 _ _ _ _ _ _ ((h.1.get 0 rfl).get 6 _ rfl),jn Tryz.underlying31,jq fun w' _=>hsv w',trivial⟩ ?_;intro a wx H _ h;refine⟨.slice (some ⟨wx.heap.size,0,none⟩) 1 1,wx.alloc (.cells #[Z7l (Y6 sq q.xs.length)] 3),Z0f H (by intro cs b h;cases h) (by kernel_rfl) (by kernel_rfl), ?_⟩;have hbx:Below wx.heap.size wx (wx.alloc (.cells #[Z7l (Y6 sq q.xs.length)] 3)):=G0 _ _;have hl:=X4.lit wx 3 [Z7l (Y6 sq q.xs.length)] (0,0) 1 1 rfl;generalize wx.heap.size=gl at hl ⊢;generalize wx.alloc (.cells #[Z7l (Y6 sq q.xs.length)] 3)=wy at hl hbx ⊢;refine nx (fun w'=>Z9g W B g g3 (sgL q (.slice A q.xs.length c)) ⟨true,x.nq,x.ps,x.b,rs',x.fins⟩ AP cP vB (.slice AF x.fins.length cF) A q.xs w'∧X4 w' w'.heap.size 1 (some ⟨gl,0,none⟩) 1 [Z7l (Y6 sq q.xs.length)]) [] [] ⟨Z9g.next h hbx,hl⟩ ?_;refine St.appF (k:=x.fins.length) (m:=1) 12 X8s ⟨jm,jm,jm,jm,jl fun _ h=>D7 _ _ _ _ _ _ ((h.1.1.get 1 rfl).get 5 _ rfl),trivial⟩ (fun _ h=>⟨h.1.2.1.2.1,h.2,Nat.succ_le_of_lt (h.1.1.lt 1 rfl)⟩) (fun u hu=>by rw[List.mem_singleton.1 hu];rfl) ⟨by unfold maxLen;omega,by omega⟩ ?_;intro wx A' c' w' h hO hg hfr;have hfin:=h.1.2.1.fin hO hg hfr;have Or:=h.1.1.row h.1.2.1.2.1 (Nat.le_succ_of_le (h.1.1.ge 1 rfl)) hg (by
    intro p hp;simp only[List.mem_cons,List.not_mem_nil,or_false] at hp;rcases hp with rfl |rfl
    ·exact hF3
    ·exact Q1 h.1.2.1.2.1 (.inl (Nat.lt_succ_self _)))
   refine nx (fun w'=>X0 W B [(g3,sgL q (.slice A q.xs.length c)),(g,Z6v ⟨true,x.nq,x.ps,x.b,rs',x.fins⟩ AP cP vB (.slice AF x.fins.length cF))] w'∧Z2h g ⟨true,x.nq,x.ps,x.b,rs',x.fins++[Y6 sq q.xs.length]⟩ AP vB (.slice A' (x.fins.length+1) c') w'∧RBS w' (Z0w g vB (.slice A' (x.fins.length+1) c')) A q.xs) [ec 13 52 (pz g),ec 14 53 (.pointer (some ⟨g,5,none⟩))] [] ⟨Or,hfin,h.1.2.2.fin hg hfr⟩ ?_;refine St.sto 15 ⟨jm,jm,jm,trivial⟩ ?_;clear h hO hg hfr hfin Or H;intro a wu H _ h;obtain⟨c1,c2⟩:=(h.1.get 1 rfl) 5 _ rfl;refine⟨_,Q6 rfl (H.ev rfl) (H.ev rfl) (J0y _ _ _ _ _ _ _ c1 c2),nx0 (Z9g W B g g3 (sgL q (.slice A q.xs.length c)) ⟨true,x.nq,x.ps,x.b,rs',x.fins++[Y6 sq q.xs.length]⟩ AP cP vB (.slice A' (x.fins.length+1) c') A q.xs) [] [] ⟨h.1.turn 1 rfl (X7 _ _ _ _) ((h.1.get 1 rfl).set 5 _ (Nat.lt_succ_self 5)),h.2.1.box (X7 _ _ _ _) (Nat.le_refl _),h.2.2.grown (X7 _ _ _ _) (fun k e hS=>by injection e with e;exact absurd hS.1 (by omega))⟩ (St.fin trivial ?_)⟩;intro a w3 H _ h;refine Z0 ⟨_,H.keep ⟨rfl,rfl,trivial⟩,h⟩
 clear H O2 M2 hr2;rintro a w3 ⟨vF',H,O3,M3,hr3⟩;have KK:∀wy,(Z9g W B g g3 (sgL q (.slice A q.xs.length c)) ⟨true,x.nq,x.ps,x.b,rs',fs⟩ AP cP vB vF' A q.xs wy∧Below w3.heap.size w3 wy)→_:=fun wy h=>J4d x.nq AP cP x.ps sq q.xs A c wy hq hsl hl hn hc h.1.2.1.2.2.at_ hps h.1.2.2.rb;obtain⟨AB,cB,rfl,_,_⟩:=V3 M3.1;refine H.sg (fun w'=>Z9g W B g g3 (sgL q (.slice A q.xs.length c)) ⟨true,x.nq,x.ps,x.b,rs',fs⟩ AP cP (.slice AB x.b.length cB) vF' A q.xs w'∧Below w3.heap.size w3 w') ⟨Z9g.next ⟨O3,M3,hr3⟩ (Below.drew (Below.refl _ _)),Below.drew (Below.refl _ _)⟩ [0,3] [ec 0 55 (pz g),ec 1 56 (pz g),ec 2 57 (pz g),ec 3 58 (.agg ([iz x.nq, .slice AP x.ps.length cP]:List Value).toArray),ec 4 59 (.pointer (some ⟨g3,2,none⟩)),ec 5 60 (iz sq),ec 6 61 (.pointer (some ⟨g3,6,none⟩)),ec 7 62 (.slice A q.xs.length c),er 12 4 [] (X5k w3.heap.size 104 [iz 0,Z2])] rfl ?_;refine St.call 8 ⟨jm,jm,jm,jl fun _ h=>Y5k (X5.pre (l1:=[iz x.nq, .slice AP x.ps.length cP]) (h.1.1.get 1 rfl)) Tryz.underlying104 rfl N9 rfl,jm,jl fun _ h=>by rw[←hsq];exact h.1.1.li 0 2,jm,jl fun _ h=>U8 _ _ _ _ _ _ ((h.1.1.get 0 rfl).get 6 _ rfl),ka Z7e fun _ h=>h.2.size,trivial⟩ KK ?_ (hF:=.inr fun _ _ h hb=>⟨h.1.next hb,h.2.trans (hb.mono h.2.size)⟩) (hst:=⟨fun _ _ _ hb h=>h.below hb,trivial⟩);rintro wx v wz hh ⟨nq',ps',told,AP',c',A2,c2,rfl,hG,hP,ht,hb⟩;have htl:=(J8p hG);have hx3:=hh.2.size;have hxz:=hb.size;have hBb:∀k,w3.heap.size≤k→some k≠(Value.slice AB x.b.length cB).ownBlock:=fun k hk=>Q1 M3.1 (.inr hk);have hLS:∀k,wx.heap.size≤k→Z0w g (.slice AB x.b.length cB) vF' k:=fun k hk=>⟨Nat.lt_of_lt_of_le (O3.lt 1 rfl) (Nat.le_trans hx3 hk),hBb k (Nat.le_trans hx3 hk),Q1 M3.2.1 (.inr (Nat.le_trans hx3 hk))⟩;have hSP:∀k,k<wz.heap.size→SP wx.heap.size wz k→J0w g w3.heap.size wz (.slice AB x.b.length cB) vF' k:=fun k hk h=>⟨hLS k h.1, .inr ⟨hk,h.2⟩⟩;have hP':E0 wz (J0w g w3.heap.size wz (.slice AB x.b.length cB) vF') AP' ps':=by
  rcases hP with⟨rfl,rfl⟩ |hP
  ·exact((M3.2.2.mono (S':=J0w g w3.heap.size wz (.slice AB x.b.length cB) vF') fun k hk h=>⟨h, .inl hk⟩).grown (X2 hh.2 none) (fun k e=>by cases e)).grown (X2 hb none) (fun k e=>by cases e)
  ·exact hP.mono hSP
 have ht':=ht.mono hSP;have hfin:Z0x q sq x ⟨true,nq',ps',x.b++told,rs',fs⟩:=by
  unfold Z0x;rw[if_neg (by rw[hz2];decide),if_neg (by rw[hup];decide)];exact⟨nq',ps',told,hG,by rw[hz4,hrs',hfs]⟩
 have hg34:g<w3.heap.size∧g3<w3.heap.size:=⟨O3.lt 1 rfl,O3.lt 0 rfl⟩;have hgB:=O3.ge 1 rfl;have hF3':some g3≠(Value.slice AB x.b.length cB).ownBlock:=hB3;refine nx (fun w'=>J0x W B g [(g3,sgL q (.slice A q.xs.length c)),(g,Z6v ⟨true,x.nq,x.ps,x.b,rs',fs⟩ AP cP (.slice AB x.b.length cB) vF')] x.b fs (.slice AB x.b.length cB) vF' (J0w g w3.heap.size wz (.slice AB x.b.length cB) vF') ps' AP' told A2 w'∧Below wz.heap.size wz w') [ec 9 54 (.tuple #[.agg ([iz (nq':Nat), .slice AP' ps'.length c']:List Value).toArray, .slice A2 told.length c2]),ec 10 64 (.agg ([iz (nq':Nat), .slice AP' ps'.length c']:List Value).toArray),ec 11 65 (.slice A2 told.length c2)] [] ⟨⟨hh.1.1.call hb,⟨Y1 hh.1.2.1.1 hb,Y1 hh.1.2.1.2.1 hb⟩,hP',ht'⟩,Below.refl _ _⟩ ?_ (hk:=D2.keeps hb ⟨fun _ _ _ hb h=>h.below hb,trivial⟩);refine St.sto 13 ⟨jm,jx,jx,ka Z7e fun _ h=>Nat.le_trans (Nat.le_trans hx3 hxz) h.2.size,trivial⟩ ?_ (hF:=.inr fun _ _ h hb=>⟨h.1.next hb,h.2.trans (hb.mono h.2.size)⟩) (hst:=⟨fun _ _ _ hb h=>h.below hb,trivial⟩);rintro a wu H ⟨⟨g4,e4,hg1,hg2,hC,hTy⟩,_⟩ h;obtain⟨w',hr',hgr,hs',hC'⟩:=hC.sto (L:=[iz (nq':Nat), .slice AP' ps'.length c']) N9 rfl rfl rfl;have hno:¬J0w g w3.heap.size wz (.slice AB x.b.length cB) vF' g4:=by
  rintro⟨_,h5 |⟨h5,h6⟩⟩
  ·omega
  ·obtain⟨l,fr,hh4⟩:=hTy
   exact h6 ⟨l,fr,((X2 h.2 none).block g4 h5 (by simp)).symm.trans hh4⟩
 have O4:=h.1.1.addq hgr (by omega) hg2 (by
  intro p hp;simp only[List.mem_cons,List.not_mem_nil,or_false] at hp;rcases hp with rfl |rfl
  ·show g3≠g4;omega
  ·show g≠g4;omega) hC'
 have hS4:∀k,J0w g w3.heap.size wz (.slice AB x.b.length cB) vF' k→Z0w g (.slice AB x.b.length cB) vF' k∧k≠g4:=fun k hk=>⟨hk.1,fun e=>hno (e▸hk)⟩;refine⟨w',Q6 rfl e4 (H.ev rfl) hr',nxp (J0x W B g [(g4,[iz (nq':Nat), .slice AP' ps'.length c']),(g3,sgL q (.slice A q.xs.length c)),(g,Z6v ⟨true,x.nq,x.ps,x.b,rs',fs⟩ AP cP (.slice AB x.b.length cB) vF')] x.b fs (.slice AB x.b.length cB) vF' (fun k=>Z0w g (.slice AB x.b.length cB) vF' k∧k≠g4) ps' AP' told A2) [ec 12 4 (pz g4)] [ec 14 5 (.slice A2 told.length c2)] [12] ⟨O4,⟨h.1.2.1.1.kept hgr (.inr (hBb g4 hg1).symm),h.1.2.1.2.kept hgr (.inr (Q1 M3.2.1 (.inr hg1)).symm)⟩,(h.1.2.2.1.grown hgr (fun k e hS=>by injection e with e;subst e;exact hno hS)).mono fun k _ hk=>hS4 k hk,(h.1.2.2.2.grown hgr (fun k e hS=>by injection e with e;subst e;exact hno hS)).mono fun k _ hk=>hS4 k hk⟩ ⟨⟨rfl,rfl,_,rfl,e4⟩,trivial⟩ ?_⟩;refine St.fin ⟨jm,jx,trivial⟩ ?_ (hF:=.inl rfl);clear h O4 hr' hgr hs' hC' hC hTy e4 H hS4 hno hP' ht' hSP hLS hh ht hb hP;intro a w4 H _ F4;refine Z0 ?_;replace H:=H.kp [0,4,5];refine H.sg (J0x W B g [(g4,[iz (nq':Nat), .slice AP' ps'.length c']),(g3,sgL q (.slice A q.xs.length c)),(g,Z6v ⟨true,x.nq,x.ps,x.b,rs',fs⟩ AP cP (.slice AB x.b.length cB) vF')] x.b fs (.slice AB x.b.length cB) vF' (fun k=>Z0w g (.slice AB x.b.length cB) vF' k∧k≠g4) ps' AP' told A2) (F4.next (Below.drew (Below.refl _ _))) [0,4,5] [ec 0 66 (pz g),ec 1 67 (pz g),ec 2 68 (.agg ([iz (nq':Nat), .slice AP' ps'.length c']:List Value).toArray),ec 3 69 (pz g),ec 4 70 (pz g),ec 5 71 (.pointer (some ⟨g,3,none⟩)),ec 6 72 (.slice AB x.b.length cB),ec 7 73 (.slice A2 told.length c2)] rfl ?_;refine St.appF (k:=x.b.length) (m:=told.length) 8 J4 ⟨jm,jm,jl fun _ h=>Y5k (h.1.get 0 rfl) Tryz.underlying104 rfl N9 rfl,jm,jm,jm,jl fun _ h=>U8 _ _ _ _ _ _ ((h.1.get 2 rfl).get 3 _ rfl),jm,trivial⟩ (fun _ h=>⟨h.2.1.1,h.2.2.2.rb,Nat.succ_le_of_lt (h.1.lt 2 rfl)⟩) (Z7s told) ⟨by unfold maxLen;omega,by omega⟩ ?_;intro wv A' c3 w' h hO hg hfr;have hSq:∀k,k<wv.heap.size→Z0w g (.slice AB x.b.length cB) vF' k∧k≠g4→Z0w g (.slice A' (x.b.length+told.length) c3) vF' k:=fun k hk hS=>Z0w.turnB hfr ⟨hS.1,hk⟩;have hP5:E0 w' (Z0w g (.slice A' (x.b.length+told.length) c3) vF') AP' ps':=((h.2.2.1.mono (S':=fun k=>Z0w g (.slice AB x.b.length cB) vF' k∧k<wv.heap.size) (fun _ hk hS=>⟨hS.1,hk⟩)).grown hg (fun k e hS=>hS.1.2.1 e.symm)).mono fun _ _ hS=>Z0w.turnB hfr hS;have O5:=h.1.row h.2.1.1 (Nat.le_succ_of_le hgB) hg (by
  intro p hp;simp only[List.mem_cons,List.not_mem_nil,or_false] at hp;rcases hp with rfl |rfl |rfl
  ·exact hBb g4 hg1
  ·exact hF3'
  ·exact Q1 h.2.1.1 (.inl (Nat.lt_succ_self _)))
 have hF5:=h.2.1.2.kept hg (G8 h.2.1.2 h.2.1.1 rfl);rw[←List.map_append] at hO;refine nx (fun w'=>(X0 W B [(g4,[iz (nq':Nat), .slice AP' ps'.length c']),(g3,sgL q (.slice A q.xs.length c)),(g,Z6v ⟨true,x.nq,x.ps,x.b,rs',fs⟩ AP cP (.slice AB x.b.length cB) vF')] w'∧E0 w' (Z0w g (.slice A' (x.b.length+told.length) c3) vF') AP' ps')∧w'.ownsRow (g+1) 5 1 (.slice A' (x.b.length+told.length) c3) (x.b.length+told.length) ((x.b++told).map bv)∧w'.ownsRow (g+1) 3 1 vF' fs.length (fs.map Z7l)) [ec 9 75 (pz g),ec 10 76 (pz g)] [] ⟨⟨O5,hP5⟩,hO,hF5⟩ ?_;clear h hO hg hfr hP5 O5 hF5 hSq;refine St.sto 11 ⟨jm,jm,jm,jm,jl fun _ h=>Y5k (h.1.1.get 0 rfl) Tryz.underlying104 rfl N9 rfl,trivial⟩ ?_;rintro a wu H _ ⟨⟨O6,P6⟩,B6,F6⟩;obtain⟨w',hr',hgr,hC'⟩:=Y8m (a:=iz (nq':Nat)) (b:=.slice AP' ps'.length c') (O6.get 2 rfl) rfl;refine⟨w',Q6 rfl (H.ev rfl) (H.ev rfl) hr',nx0 (fun w'=>(X0 W B [(g4,[iz (nq':Nat), .slice AP' ps'.length c']),(g3,sgL q (.slice A q.xs.length c)),(g,Z6v ⟨true,nq',ps',x.b,rs',fs⟩ AP' c' (.slice AB x.b.length cB) vF')] w'∧E0 w' (Z0w g (.slice A' (x.b.length+told.length) c3) vF') AP' ps')∧w'.ownsRow (g+1) 5 1 (.slice A' (x.b.length+told.length) c3) (x.b.length+told.length) ((x.b++told).map bv)∧w'.ownsRow (g+1) 3 1 vF' fs.length (fs.map Z7l)) [ec 12 77 (pz g),ec 13 78 (.pointer (some ⟨g,3,none⟩))] [] ⟨⟨O6.turn 2 rfl hgr hC',P6.grown hgr (fun k e hS=>by injection e with e;exact absurd hS.1 (by omega))⟩,B6.kept hgr (.inr (Q1 B6 (.inl (Nat.lt_succ_self g))).symm),F6.kept hgr (.inr (Q1 F6 (.inl (Nat.lt_succ_self g))).symm)⟩ ?_⟩;clear O6 P6 B6 F6 hr' hgr hC';refine St.sto 14 ⟨jm,jm,jm,trivial⟩ ?_;rintro a wu H _ ⟨⟨O6,P6⟩,B6,F6⟩;obtain⟨c1,c2⟩:=(O6.get 2 rfl) 3 _ rfl;refine⟨_,Q6 rfl (H.ev rfl) (H.ev rfl) (Z9r g 3 _ _ _ _ _ c1 c2),nx0 (fun w'=>(X0 W B [(g4,[iz (nq':Nat), .slice AP' ps'.length c']),(g3,sgL q (.slice A q.xs.length c)),(g,Z6v ⟨true,nq',ps',x.b++told,rs',fs⟩ AP' c' (.slice A' (x.b.length+told.length) c3) vF')] w'∧E0 w' (Z0w g (.slice A' (x.b.length+told.length) c3) vF') AP' ps')∧w'.ownsRow (g+1) 5 1 (.slice A' (x.b.length+told.length) c3) (x.b.length+told.length) ((x.b++told).map bv)∧w'.ownsRow (g+1) 3 1 vF' fs.length (fs.map Z7l)) [] [] ⟨⟨O6.turn 2 rfl (X7 _ _ _ _) ((O6.get 2 rfl).set 3 _ (Nat.lt_of_sub_pos (Nat.succ_pos 2))),P6.grown (X7 _ _ _ _) (fun k e hS=>by injection e with e;exact absurd hS.1 (by omega))⟩,B6.kept (X7 _ _ _ _) (.inr (Q1 B6 (.inl (Nat.lt_succ_self g))).symm),F6.kept (X7 _ _ _ _) (.inr (Q1 F6 (.inl (Nat.lt_succ_self g))).symm)⟩ (St.fin trivial ?_)⟩;rintro a w9 H _ ⟨⟨O9,P9⟩,B9,F9⟩;refine bodyPost_end (results_none rfl _ _ _) H.df ⟨rfl,⟨true,nq',ps',x.b++told,rs',fs⟩,AP',c', .slice A' (x.b.length+told.length) c3,vF',hfin,drop1 (drop1 O9), ?_,F9,P9⟩;show w9.ownsRow (g+1) 5 1 _ (x.b++told).length _;rw[List.length_append];exact B9
theorem Q4v (W:World) (B g:Nat) (x:Lst) (AP:Option Addr) (cP:Nat) (vB vF:Value) (q:Sg) (sq:Nat) (hsq:q.sq=(sq:Int)) (hsl:sq≤4294967295) (A:Option Addr) (c:Nat) (w:World) (O:X0 W B [(g,Z6v x AP cP vB vF)] w) (M:Z2h g x AP vB vF w) (hr:RBS w (Z0w g vB vF) A q.xs) (hc:q.xs.length≤c)
  (hn:q.xs.length≤65536) (hq:x.nq≤4294967295) (hl:x.ps.length≤100000) (hps:∀p∈x.ps,p.1≤4294967295∧0≤Y4 p.1 x.nq∧Y4 p.1 x.nq+(p.2.length:Int)≤2048) (hbl:x.b.length≤1000000000) (hfl:x.fins.length≤1000000000):
  Calls Tryz.prog 60 #[pz g, .agg (sgL q (.slice A q.xs.length c)).toArray] w fun e w'=>∃v,e = .returned v∧∃x' AP' cP' vB' vF',Z0x q sq x x'∧X0 W B [(g,Z6v x' AP' cP' vB' vF')] w'∧Z2h g x' AP' vB' vF' w':=
 (Q4u W B g x AP cP vB vF q sq hsq hsl A c w O M hr hc hn hq hl hps hbl hfl).mono fun _ _ ⟨h1,h2⟩=>⟨_,h1,h2⟩
end
section
def Z0s (ti port:Int) (b:List UInt8):Option Sg:=
 match Z9f b with
 |some (p,q)=>if p.s=167772161∧p.d=ti∧q.sp=1883∧q.dp=port then some q else none
 |none=>none
inductive S1 (ti port:Int):List (List UInt8)→Lst→Lst→Prop
 |nil {x:Lst}:S1 ti port [] x x
 |skip {b:List UInt8}{l:List (List UInt8)}{x y:Lst}(h1:Z0s ti port b=none) (h:S1 ti port l x y):S1 ti port (b::l) x y
 |take {b:List UInt8}{l:List (List UInt8)}{q:Sg}{x x1 y:Lst}(h1:Z0s ti port b=some q) (h2:Z0x q q.sq.toNat x x1) (h:S1 ti port l x1 y):S1 ti port (b::l) x y
section
variable {ti port:Int}{b:List UInt8}{l:List (List UInt8)}{q:Sg}{x y z:Lst}
theorem S1.none (h:S1 ti port (b::l) x y) (hn:Z0s ti port b=none):S1 ti port l x y:=by
 cases h with
 |skip _ h=>exact h
 |take h1=>rw[hn] at h1;cases h1
theorem S1.some (h:S1 ti port (b::l) x y) (hs:Z0s ti port b=some q):∃x1,Z0x q q.sq.toNat x x1∧S1 ti port l x1 y:=by
 cases h with
 |skip h1=>rw[hs] at h1;cases h1
 |take h1 h2 h=>
  rw[hs] at h1;injection h1 with h1
  subst h1;exact⟨_,h2,h⟩
theorem S1.end_ (h:S1 ti port [] x y):x=y:=by cases h;rfl
theorem S1.append {l':List (List UInt8)}(h:S1 ti port l x y) (h':S1 ti port l' y z):S1 ti port (l++l') x z:=by
 induction h with
 |nil=>exact h'
 |skip h1 _ ih=>exact .skip h1 (ih h')
 |take h1 h2 _ ih=>exact .take h1 h2 (ih h')
end
def Z4d (n:Nat) (x:Lst):Prop:=x.nq≤4294967295∧x.ps.length≤8∧J4e x.nq x.ps∧x.b.length≤2048*n∧x.fins.length≤n
theorem Z4d.zero:Z4d 0 Lst.zero:=⟨by decide,by decide,fun p hp=>(by cases hp),by decide,by decide⟩
theorem Z4d.more {n m:Nat}{x:Lst}(h:Z4d n x) (hm:n≤m):Z4d m x:=⟨h.1,h.2.1,h.2.2.1,by have:=h.2.2.2.1;omega,by have:=h.2.2.2.2;omega⟩
theorem X0h {n sq:Nat}{q:Sg}{x x':Lst}(h:Z0x q sq x x') (hx:Z4d n x):Z4d (n+1) x':=by
 unfold Z0x at h
 split at h
 ·subst h
  exact⟨by have:=Y1k sq 1;show Y6 sq 1≤_;omega,by simp,fun p hp=>(by cases hp),by simp,by simp⟩
 split at h
 ·subst h
  exact hx.more (Nat.le_succ _)
 ·obtain⟨nq',ps',told,hp,rfl⟩:=h
  obtain⟨h1,h2,h3,h4⟩:=X8l hp hx.1 hx.2.1 hx.2.2.1;refine⟨h1,h2,h3, ?_, ?_⟩
  ·have:=hx.2.2.2.1
   simp only[List.length_append];omega
  ·have:=hx.2.2.2.2
   show (if _ then _ else _:List Nat).length≤_
   split
   ·simp only[List.length_append,List.length_singleton];omega
   ·omega
theorem J8q {m:List (Option UInt8)}{a:Nat}{xs:List UInt8}(hm:m.length=2048) (h0:0<xs.length) (hl:a+xs.length≤2048) (h:∀j,j<2048→m[j]? = some (if a≤j then xs[j-a]? else none)):Z0t m 0 [(a,xs)]:=by
 refine .run (b:=a+xs.length) (Nat.zero_le _) ?_ (by omega) (by omega) ?_ (by omega) ?_ (.done ?_)
 ·intro j _ hj
  rw[h j (by omega),if_neg (by omega)]
 ·intro j h1 h2
  refine⟨xs[j-a]'(by omega), ?_,List.getElem?_eq_getElem _⟩;rw[h j (by omega),if_pos h1,List.getElem?_eq_getElem (by omega)]
 ·rcases Nat.lt_or_ge (a+xs.length) 2048 with h1 |h1
  ·refine .inr ?_
   rw[h _ h1,if_pos (Nat.le_add_right _ _),List.getElem?_eq_none (by omega)]
  ·exact .inl (by omega)
 ·intro j h1 h2
  rw[h j (by omega),if_pos (by omega),List.getElem?_eq_none (by omega)]
theorem Z9h (j:Nat) (h:j<2048):B8[j]? = some none:=by
 unfold B8;rw[List.getElem?_replicate,if_pos h]
theorem J5a {d:Int}{xs:List UInt8}(h0:0≤d) (h1:d+(xs.length:Int)≤2048):T1 d xs=xs:=by
 unfold T1
 split
 ·have:xs.length=0:=by omega
  rw[List.length_eq_zero_iff.1 this]
 ·rw[show (max d 0-d).toNat=0 by omega,List.drop_zero,List.take_of_length_le (by omega)]
section
variable {nq:Nat}{sq:Nat}{xs:List UInt8}{nq':Nat}{ps':List (Nat×List UInt8)}{told:List UInt8}
theorem J8r {d:Nat}(h:Y3t nq [] sq xs nq' ps' told) (hq:nq≤4294967295) (hsq:Y4 sq nq=d) (h0:0<xs.length) (hl:d+xs.length≤2048):
  if d=0 then nq'=Y6 nq xs.length∧ps'=[]∧told=xs else nq'=nq∧ps'=[(Y6 nq d,xs)]∧told=[]:=by
 have hw:T1 (Y4 sq nq) xs=xs:=J5a (by omega) (by omega);have ha:Y0m (Y4 sq nq)=d:=by rw[hsq];unfold Y0m;omega
 have hR:Z0t (P1 (Z4u nq B8 []) d xs) 0 [(d,xs)]:=by
  refine J8q (by rw[Z2e,Z3f,Z5r]) h0 hl fun j hj=>?_;rw[Z7g];show (if d≤j∧j<d+xs.length∧B8[j]? = some none then some (xs[j-d]?) else B8[j]?)=_;rw[Z9h j hj];by_cases h1:d≤j
  ·rw[if_pos h1]
   by_cases h2:j<d+xs.length
   ·rw[if_pos ⟨h1,h2,rfl⟩]
   ·rw[if_neg (fun h=>h2 h.2.1),List.getElem?_eq_none (by omega)]
  ·rw[if_neg h1,if_neg (fun h=>h1 h.1)]
 rw[Y3t,hw,ha] at h;rcases h with⟨h,_⟩ |⟨_,l,hl',h⟩
 ·rw[h] at h0;cases h0
 have:=Y5q hl' hR;subst this;have hz:(Y6 nq d==nq)=decide (d=0):=by
  have:=Z5q (p:=d) hq (by omega);rw[Bool.eq_iff_iff,beq_iff_eq,decide_eq_true_iff,this]
 rw[Z2t,Z0c,Z0z,hz] at h;by_cases hd:d=0
 ·rw[if_pos hd]
  rw[decide_eq_true hd] at h;rcases h with⟨h8,_⟩ |⟨_,h1,h2,h3⟩
  ·cases h8
  ·exact⟨h1,h2,h3⟩
 ·rw[if_neg hd]
  rw[decide_eq_false hd] at h;rcases h with⟨h8,_⟩ |⟨_,h1,h2,h3⟩
  ·exact absurd h8 (by show ¬8<1;decide)
  ·exact⟨h1,h2,h3⟩
end
theorem J8s {dm sm src dst:Nat}{q:Sg}(hdm:dm<281474976710656) (hsm:sm<281474976710656) (hs:src<4294967296) (hd:dst<4294967296) (h:q.ok=true):Z9f (Y9t dm sm src dst q)=some (⟨src,dst,6,64,0,Sg.bytes src dst q⟩,q):=by
 have hq:=(Sg.ok_iff.1 h).2.2.2.2.2.2;have hp:=X4z ⟨src,dst,6,64,0,Sg.bytes src dst q⟩ (X7v hs hd hq) [];rw[List.append_nil] at hp;unfold Z9f;rw[J7x hdm hsm h];simp only[hp,J3b src dst hs hd q h];simp
theorem J1a {dm sm dst:Nat}{q:Sg}(ti port:Int) (hdm:dm<281474976710656) (hsm:sm<281474976710656) (hd:dst<4294967296) (h:q.ok=true) (hp:q.sp=1883):Z0s ti port (Y9t dm sm 167772161 dst q)=if (dst:Int)=ti∧q.dp=port then some q else none:=by
 unfold Z0s;rw[J8s hdm hsm (by decide) hd h];show (if ((167772161:Nat):Int)=167772161∧(dst:Int)=ti∧q.sp=1883∧q.dp=port then some q else none)=_;by_cases hc:(dst:Int)=ti∧q.dp=port
 ·rw[if_pos hc,if_pos ⟨rfl,hc.1,hp,hc.2⟩]
 ·rw[if_neg hc,if_neg (fun h=>hc ⟨h.2.1,h.2.2.2⟩)]
end
section
def X3d (d port sq fl:Nat) (xs:List UInt8):List UInt8:=Y9t 3 2199023255553 167772161 d ⟨1883,port,sq,0,fl,0,xs⟩
def X3e (port sq fl:Nat) (xs:List UInt8):Sg:=⟨1883,port,sq,0,fl,0,xs⟩
theorem X0i {port sq fl:Nat}{xs:List UInt8}(hp:port≤65535) (hs:sq≤4294967295) (hf:fl≤63) (hx:xs.length≤1460):(X3e port sq fl xs).ok=true:=by
 refine Sg.ok_iff.2 ⟨?_, ?_, ?_, ?_, ?_, ?_,hx⟩<;>simp only[X3e]<;>omega
theorem J8t {d port sq fl:Nat}{xs:List UInt8}(hd:d<4294967296) (hp:port≤65535) (hs:sq≤4294967295) (hf:fl≤63) (hx:xs.length≤1460):Z0s 5 6 (X3d d port sq fl xs)=if (d:Int)=5∧(port:Int)=6 then some (X3e port sq fl xs) else none:=
 J1a 5 6 (by decide) (by decide) hd (X0i hp hs hf hx) rfl
theorem X3f {sq fl:Nat}{xs:List UInt8}(hs:sq≤4294967295) (hf:fl≤63) (hx:xs.length≤1460):Z0s 5 6 (X3d 5 6 sq fl xs)=some (X3e 6 sq fl xs):=by
 rw[J8t (by decide) (by decide) hs hf hx,if_pos ⟨rfl,rfl⟩]
section
variable {sq:Nat}{xs:List UInt8}{x x':Lst}
theorem J5b (h:Z0x (X3e 6 sq 18 xs) sq x x'):x'=⟨true,Y6 sq 1,[],[],false,[]⟩:=by
 unfold Z0x at h;rw[if_pos (by show (bits .and .i64 18 2 != 0)=true;decide)] at h;exact h
theorem J5c (h:Z0x (X3e 6 sq 16 xs) sq x x') (hx:x.up=true):∃nq' ps' told,Y3t x.nq x.ps sq xs nq' ps' told∧x'=⟨true,nq',ps',x.b++told,x.rst,x.fins⟩:=by
 unfold Z0x at h;rw[if_neg (by show ¬(bits .and .i64 16 2 != 0)=true;decide),if_neg (by rw[hx];decide)] at h;obtain⟨nq',ps',told,hp,rfl⟩:=h;refine⟨nq',ps',told,hp, ?_⟩;have e:(bits .and .i64 (X3e 6 sq 16 xs).fl 4 != 0)=false:=by show (bits .and .i64 16 4 != 0)=false;decide
 rw[e,Bool.or_false,if_neg (by show ¬(bits .and .i64 16 1 != 0)=true;decide)]
end
theorem J8u {nq:Nat}{xs:List UInt8}{nq':Nat}{ps':List (Nat×List UInt8)}{told:List UInt8}(h:Y3t nq [] nq xs nq' ps' told) (hq:nq≤4294967295) (h0:0<xs.length) (hl:xs.length≤2048):nq'=Y6 nq xs.length∧ps'=[]∧told=xs:=by
 have hd:Y4 nq nq=0:=by
  have:=Z9b (a:=nq) (p:=0) hq (by decide);rw[Z9a hq] at this;exact this
 have:=J8r (d:=0) h hq hd h0 (by omega);rw[if_pos rfl] at this;exact this
def X8t:List (List UInt8):=[X3d 5 6 9 18 [],X3d 5 6 10 16 [192]]
theorem Q4w {x:Lst}(h:S1 5 6 X8t .zero x):x.b=[192]∧(x.rst||decide (x.nq∈x.fins))=false:=by
 obtain⟨x1,g1,h⟩:=h.some (X3f (by decide) (by decide) (by decide));have e1:=J5b (sq:=9) g1;subst e1;obtain⟨x2,g2,h⟩:=h.some (X3f (by decide) (by decide) (by decide));obtain⟨nq',ps',told,hp,e2⟩:=J5c (sq:=10) g2 rfl;subst e2;obtain⟨rfl,rfl,rfl⟩:=J8u (nq:=10) hp (by decide) (by decide) (by decide);have:=h.end_;subst this;exact⟨rfl,rfl⟩
theorem J5d (d port sq fl:Nat) (xs:List UInt8):(X3d d port sq fl xs).length=54+xs.length:=Y3i ..
theorem Q2a {l:List (List UInt8)}(h:l.all (fun b=>Nat.ble b.length 1000)=true):∀b∈l,b.length≤140737488351232:=fun b hb=>by
 have:=Nat.le_of_ble_eq_true (List.all_eq_true.1 h b hb);omega
theorem J1b:∀b∈X8t,b.length≤140737488351232:=Q2a (by simp only[X8t,List.all_cons,List.all_nil,J5d];rfl)
end
section
theorem J1c (s a b:Nat):Y6 (Y6 s a) b=Y6 s (a+b):=by
 unfold Y6;omega
theorem X3g (nq:Nat) (hq:nq≤4294967295):∀(r:List (Nat×List UInt8)) (M:List (Option UInt8)),(∀p∈r,p.1≤2048)→Z4u nq M (T2 nq r)=r.foldl (fun m p=>P1 m p.1 p.2) M
 |[],_,_=>rfl
 |(a,x)::r,M,h=>by
  have ha:a≤2048:=h _ List.mem_cons_self;have e:Y4 (Y6 nq a) nq=(a:Nat):=Z9b hq (by omega);show Z4u nq (P1 M (Y4 (Y6 nq a) nq).toNat x) (T2 nq r)=_;rw[e];exact X3g nq hq r _ fun p hp=>h p (List.mem_cons_of_mem _ hp)
theorem X3h {m:List (Option UInt8)}{i:Nat}{r:List (Nat×List UInt8)}(h:Z0t m i r):∀M:List (Option UInt8),M.length=m.length→(∀j,j<i→M[j]? = m[j]?)→(∀j,i≤j→j<m.length→M[j]? = some none)→r.foldl (fun m p=>P1 m p.1 p.2) M=m:=by
 induction h with
 | @done i h=>
  intro M hl h1 h2;rw[List.foldl_nil];apply List.ext_getElem?;intro j;rcases Nat.lt_or_ge j i with hj |hj
  ·exact h1 j hj
  ·rcases Nat.lt_or_ge j m.length with hk |hk
   ·rw[h2 j hj hk,h j hj hk]
   ·rw[List.getElem?_eq_none (by omega),List.getElem?_eq_none hk]
 | @run i a b xs l g1 g2 g3 g4 g5 g6 g7 g ih=>
  intro M hl h1 h2;rw[List.foldl_cons];refine ih (P1 M a xs) (by rw[Z2e,hl]) ?_ ?_
  ·intro j hj
   rw[Z7g];by_cases hja:a≤j
   ·obtain⟨x,e1,e2⟩:=g5 j hja hj
    rw[if_pos ⟨hja,by omega,h2 j (by omega) (by omega)⟩,e2,e1]
   ·rw[if_neg (fun h=>hja h.1)]
    rcases Nat.lt_or_ge j i with hji |hji
    ·exact h1 j hji
    ·rw[h2 j hji (by omega),g2 j hji (by omega)]
  ·intro j hj hk
   rw[Z7g,if_neg (by omega)];exact h2 j (by omega) hk
theorem X5z {m m':List (Option UInt8)}{i b:Nat}{r:List (Nat×List UInt8)}(h:Z0t m i r) (hm:m.length=m'.length) (hb:0<b) (hi:b≤i) (h1:∀j,j+b<m.length→m'[j]? = m[j+b]?) (h2:∀j,m.length≤j+b→j<m.length→m'[j]? = some none):Z0t m' (i-b) (r.map fun p=>(p.1-b,p.2)):=by
 induction h with
 | @done i h=>
  refine .done fun j hj hk=>?_;rcases Nat.lt_or_ge (j+b) m.length with hl |hl
  ·rw[h1 j hl,h _ (by omega) hl]
  ·exact h2 j hl (by omega)
 | @run i a c xs l g1 g2 g3 g4 g5 g6 g7 g ih=>
  show Z0t m' (i-b) ((a-b,xs)::l.map fun p=>(p.1-b,p.2));refine .run (b:=c-b) (by omega) ?_ (by omega) (by omega) ?_ (by omega) ?_ (ih (by omega))
  ·intro j hj hk
   rw[h1 j (by omega),g2 _ (by omega) (by omega)]
  ·intro j hj hk
   obtain⟨x,e1,e2⟩:=g5 (j+b) (by omega) (by omega);refine⟨x,by rw[h1 j (by omega),e1], ?_⟩;rw[show j-(a-b)=j+b-a by omega];exact e2
  ·refine .inr ?_
   rcases g7 with g7 |g7
   ·exact h2 _ (by omega) (by omega)
   ·have:=(List.getElem?_eq_some_iff.1 g7).1
    rw[h1 _ (by omega),show c-b+b=c by omega,g7]
theorem X0j (nq b:Nat) (r:List (Nat×List UInt8)) (h:∀p∈r,b≤p.1):T2 nq r=T2 (Y6 nq b) (r.map fun p=>(p.1-b,p.2)):=by
 unfold T2;rw[List.map_map];apply List.map_congr_left;intro p hp;have:=h p hp;show (Y6 nq p.1,p.2)=(Y6 (Y6 nq b) (p.1-b),p.2);rw[J1c,show b+(p.1-b)=p.1 by omega]
end
section
def Z0u (s f:Nat):Nat:=(((s:Int)-(f:Int))%4294967296).toNat
theorem J5e (s f:Nat):Z0u s f<4294967296:=by unfold Z0u;omega
theorem Y2s {s f:Nat}(h:0≤Y4 s f):(Z0u s f:Int)=Y4 s f:=by
 unfold Y4 at h ⊢;unfold Z0u
 split at h<;>omega
theorem J1d {s f:Nat}(h:Y4 s f<0):(Z0u s f:Int)=Y4 s f+4294967296:=by
 unfold Y4 at h ⊢;unfold Z0u
 split at h<;>omega
def Z2i (m:List (Option UInt8)) (i:Nat):List UInt8→List (Option UInt8)
 |[]=>m
 |x::r=>Z2i (m.set i (some x)) (i+1) r
def Z4o (nx:Nat) (m:List (Option UInt8)) (ps:List (Nat×List UInt8)):List (Option UInt8):=ps.foldl (fun m p=>Z2i m (Z0u p.1 nx) p.2) m
def Z4j (m:List (Option UInt8)) (o k:Nat):List UInt8→List (Option UInt8)
 |[]=>m
 |x::r=>Z4j (if (o+k)%4294967296<2048 then Z1v m ((o+k)%4294967296) x else m) o (k+1) r
theorem Y2t:∀(xs:List UInt8) (m:List (Option UInt8)) (i:Nat),(Z2i m i xs).length=m.length
 |[],_,_=>rfl
 |x::r,m,i=>by rw[Z2i,Y2t r,List.length_set]
theorem Y2u (nx:Nat):∀(ps:List (Nat×List UInt8)) (m:List (Option UInt8)),(Z4o nx m ps).length=m.length
 |[],_=>rfl
 |p::ps,m=>by
  show (Z4o nx (Z2i m (Z0u p.1 nx) p.2) ps).length=_;rw[Y2u nx ps,Y2t]
theorem Y6e:∀(xs:List UInt8) (m:List (Option UInt8)) (o k:Nat),(Z4j m o k xs).length=m.length
 |[],_,_,_=>rfl
 |x::r,m,o,k=>by
  rw[Z4j,Y6e r]
  split
  ·rw[Y7z]
  ·rfl
theorem Y6f:∀(xs:List UInt8) (m:List (Option UInt8)) (i k:Nat) (x:UInt8),xs[k]? = some x→Z2i m i (xs.take (k+1))=(Z2i m i (xs.take k)).set (i+k) (some x)
 |[],_,_,_,_,h=>by simp at h
 |y::r,m,i,0,x,h=>by
  have h:y=x:=by simpa using h
  subst h;rw[List.take_succ_cons,List.take_zero,List.take_zero];rfl
 |y::r,m,i,k+1,x,h=>by
  rw[List.take_succ_cons,List.take_succ_cons,Z2i,Z2i,Y6f r (m.set i (some y)) (i+1) k x (by simpa using h),Nat.add_assoc,Nat.add_comm 1 k]
theorem Y8n:∀(xs:List UInt8) (m:List (Option UInt8)) (o i k:Nat) (x:UInt8),xs[k]? = some x→Z4j m o i (xs.take (k+1))=(if (o+(i+k))%4294967296<2048 then Z1v (Z4j m o i (xs.take k)) ((o+(i+k))%4294967296) x else Z4j m o i (xs.take k))
 |[],_,_,_,_,_,h=>by simp at h
 |y::r,m,o,i,0,x,h=>by
  have h:y=x:=by simpa using h
  subst h;rw[List.take_succ_cons,List.take_zero,List.take_zero];rfl
 |y::r,m,o,i,k+1,x,h=>by
  rw[List.take_succ_cons,List.take_succ_cons,Z4j,Z4j,Y8n r _ o (i+1) k x (by simpa using h),show i+1+k=i+(k+1) by omega]
theorem X3i:∀(xs:List UInt8) (m:List (Option UInt8)) (i:Nat),(∀j,i≤j→j<i+xs.length→m[j]? = some none)→Z2i m i xs=P1 m i xs
 |[],_,_,_=>rfl
 |x::r,m,i,h=>by
  have h0:=h i (Nat.le_refl _) (by rw[List.length_cons];omega);have e:Z1v m i x=m.set i (some x):=by unfold Z1v;rw[if_pos h0]
  rw[Z2i,P1,e];refine X3i r _ (i+1) fun j h1 h2=>?_;rw[List.getElem?_set,if_neg (by omega)];exact h j (by omega) (by rw[List.length_cons];omega)
theorem J1e {m:List (Option UInt8)}{i:Nat}{r:List (Nat×List UInt8)}(h:Z0t m i r):∀M:List (Option UInt8),M.length=m.length→(∀j,j<i→M[j]? = m[j]?)→(∀j,i≤j→j<m.length→M[j]? = some none)→r.foldl (fun m p=>Z2i m p.1 p.2) M=m:=by
 induction h with
 | @done i h=>
  intro M hl h1 h2;exact X3h (.done h) M hl h1 h2
 | @run i a b xs l g1 g2 g3 g4 g5 g6 g7 g ih=>
  intro M hl h1 h2;rw[List.foldl_cons];show List.foldl _ (Z2i M a xs) l=m;rw[X3i xs M a fun j h3 h4=>h2 j (by omega) (by omega)];refine ih (P1 M a xs) (by rw[Z2e,hl]) ?_ ?_
  ·intro j hj
   rw[Z7g];by_cases hja:a≤j
   ·obtain⟨x,e1,e2⟩:=g5 j hja hj
    rw[if_pos ⟨hja,by omega,h2 j (by omega) (by omega)⟩,e2,e1]
   ·rw[if_neg (fun h=>hja h.1)]
    rcases Nat.lt_or_ge j i with hji |hji
    ·exact h1 j hji
    ·rw[h2 j hji (by omega),g2 j hji (by omega)]
  ·intro j hj hk
   rw[Z7g,if_neg (by omega)];exact h2 j (by omega) hk
theorem Y8o (nq:Nat) (hq:nq≤4294967295):∀(r:List (Nat×List UInt8)) (M:List (Option UInt8)),(∀p∈r,p.1≤2048)→Z4o nq M (T2 nq r)=r.foldl (fun m p=>Z2i m p.1 p.2) M
 |[],_,_=>rfl
 |(a,x)::r,M,h=>by
  have ha:a≤2048:=h _ List.mem_cons_self;have e:Y4 (Y6 nq a) nq=(a:Nat):=Z9b hq (by omega);have e2:=Y2s (s:=Y6 nq a) (f:=nq) (by omega);show Z4o nq (Z2i M (Z0u (Y6 nq a) nq) x) (T2 nq r)=_;rw[show Z0u (Y6 nq a) nq=a by omega];exact Y8o nq hq r _ fun p hp=>h p (List.mem_cons_of_mem _ hp)
theorem X3j (o:Nat):∀(xs:List UInt8) (m:List (Option UInt8)) (k:Nat),o+k+xs.length≤4294967296→Z4j m o k xs=P1 m (o+k) (xs.take (2048-(o+k)))
 |[],_,_,_=>by rw[List.take_nil];rfl
 |x::r,m,k,h=>by
  rw[List.length_cons] at h;have ih:=fun m=>X3j o r m (k+1) (by omega);rw[Z4j,ih,Nat.mod_eq_of_lt (by omega)];by_cases hk:o+k<2048
  ·rw[if_pos hk,show 2048-(o+k)=(2048-(o+(k+1)))+1 by omega,List.take_succ_cons,P1,Nat.add_assoc]
  ·rw[if_neg hk,show 2048-(o+(k+1))=0 by omega,show 2048-(o+k)=0 by omega,List.take_zero,List.take_zero,P1,P1]
theorem Y8p (o:Nat):∀(xs:List UInt8) (m:List (Option UInt8)) (k:Nat),4294967296≤o+k→o+k+xs.length≤8589934592→Z4j m o k xs=P1 m (o+k-4294967296) (xs.take (2048-(o+k-4294967296)))
 |[],_,_,_,_=>by rw[List.take_nil];rfl
 |x::r,m,k,h0,h=>by
  rw[List.length_cons] at h;have ih:=fun m=>Y8p o r m (k+1) (by omega) (by omega);rw[Z4j,ih,show (o+k)%4294967296=o+k-4294967296 by omega];by_cases hk:o+k-4294967296<2048
  ·rw[if_pos hk,show 2048-(o+k-4294967296)=(2048-(o+(k+1)-4294967296))+1 by omega,List.take_succ_cons,P1,show o+(k+1)-4294967296=o+k-4294967296+1 by omega]
  ·rw[if_neg hk,show 2048-(o+(k+1)-4294967296)=0 by omega,show 2048-(o+k-4294967296)=0 by omega,List.take_zero,List.take_zero,P1,P1]
theorem Y8q (o:Nat):∀(n:Nat) (xs:List UInt8) (m:List (Option UInt8)) (k:Nat),2048≤o+k→o+k+n≤4294967296→Z4j m o k xs=Z4j m o (k+n) (xs.drop n)
 |0,_,_,_,_,_=>rfl
 |n+1,[],m,k,_,_=>by rw[List.drop_nil];rfl
 |n+1,x::r,m,k,h0,h=>by
  rw[Z4j,Nat.mod_eq_of_lt (by omega),if_neg (by omega),List.drop_succ_cons,Y8q o n r m (k+1) (by omega) (by omega),show k+1+n=k+(n+1) by omega]
theorem J8v {m:List (Option UInt8)}{sq nq:Nat}{xs:List UInt8}(hn:xs.length≤65536):Z4j m (Z0u sq nq) 0 xs=P1 m (Y0m (Y4 sq nq)) (T1 (Y4 sq nq) xs):=by
 have hle:=Y2l sq nq;have hz:∀i,P1 m i ([]:List UInt8)=m:=fun _=>rfl;rcases Int.lt_or_le (Y4 sq nq) 0 with hd |hd
 ·have ho:=J1d hd
  obtain⟨n,hne⟩:∃n:Nat,n=(-(Y4 sq nq)).toNat:=⟨_,rfl⟩;rw[Y8q (Z0u sq nq) n xs m 0 (by omega) (by omega),Y8p (Z0u sq nq) (xs.drop n) m (0+n) (by omega) (by rw[List.length_drop];omega),show Z0u sq nq+(0+n)-4294967296=0 by omega];unfold T1 Y0m;rw[show (max (Y4 sq nq) 0).toNat=0 by omega]
  split
  ·next hc=>
   have:xs.drop n=[]:=List.drop_eq_nil_of_le (by omega);rw[this,List.take_nil]
  ·next hc=>
   rw[show (max (Y4 sq nq) 0-Y4 sq nq).toNat=n by omega];refine congrArg _ ?_;rcases Nat.le_total (xs.length-n) 2048 with h1 |h1
   ·rw[List.take_of_length_le (by rw[List.length_drop];omega),List.take_of_length_le (by rw[List.length_drop];omega)]
   ·rw[show (min (Y4 sq nq+(xs.length:Int)) 2048-max (Y4 sq nq) 0).toNat=2048 by omega]
 ·have ho:=Y2s hd
  rw[X3j (Z0u sq nq) xs m 0 (by omega)];unfold T1 Y0m;rw[show Z0u sq nq+0=(max (Y4 sq nq) 0).toNat by omega]
  split
  ·next hc=>
   rw[hz];rcases Nat.eq_zero_or_pos xs.length with h0 |h0
   ·rw[List.length_eq_zero_iff.1 h0,List.take_nil,P1]
   ·rw[show 2048-(max (Y4 sq nq) 0).toNat=0 by omega,List.take_zero,P1]
  ·next hc=>
   rw[show (max (Y4 sq nq) 0-Y4 sq nq).toNat=0 by omega,List.drop_zero];refine congrArg _ ?_;rcases Nat.le_total ((max (Y4 sq nq) 0).toNat+xs.length) 2048 with h1 |h1
   ·rw[List.take_of_length_le (by omega),List.take_of_length_le (by omega)]
   ·rw[show (min (Y4 sq nq+(xs.length:Int)) 2048-max (Y4 sq nq) 0).toNat=2048-(max (Y4 sq nq) 0).toNat by omega]
def PsR (nq:Nat) (ps:List (Nat×List UInt8)):Prop:=∃m r,m.length=2048∧m[0]? = some none∧Z0t m 0 r∧ps=T2 nq r
def X8u (nq:Nat) (ps:List (Nat×List UInt8)) (sq:Nat) (xs:List UInt8) (nq':Nat) (ps':List (Nat×List UInt8)) (told:List UInt8):Prop:=
 ∃l,Z0t (Z4j (Z4o nq B8 ps) (Z0u sq nq) 0 xs) 0 l∧((8<(Z2n nq l).length∧nq'=nq∧ps'=ps∧told=[])∨((Z2n nq l).length≤8∧nq'=Z8a nq l∧ps'=T2 nq (Z2n nq l)∧told=Z4v nq l))
section
variable {nq sq nq':Nat}{ps ps':List (Nat×List UInt8)}{xs told:List UInt8}
theorem PsR.win (h:PsR nq ps) (hq:nq≤4294967295):∃m,m.length=2048∧m[0]? = some none∧Z4u nq B8 ps=m∧Z4o nq B8 ps=m∧∃r,Z0t m 0 r∧ps=T2 nq r:=by
 obtain⟨m,r,h1,h2,h3,h4⟩:=h;have hge:=Z8b h3;have hb:∀p∈r,p.1≤2048:=fun p hp=>by have:=(hge p hp).2.2;omega
 refine⟨m,h1,h2, ?_, ?_,r,h3,h4⟩
 ·rw[h4,X3g nq hq r B8 hb]
  exact X3h h3 B8 (by rw[Z5r,h1]) (fun j hj=>absurd hj (Nat.not_lt_zero _)) fun j _ hj=>Z9h j (by omega)
 ·rw[h4,Y8o nq hq r B8 hb]
  exact J1e h3 B8 (by rw[Z5r,h1]) (fun j hj=>absurd hj (Nat.not_lt_zero _)) fun j _ hj=>Z9h j (by omega)
theorem Y6g {m:List (Option UInt8)}{l:List (Nat×List UInt8)}(h:Z0t m 0 l) (h0:m[0]? = some none) {a:Nat}{x:List UInt8}{r:List (Nat×List UInt8)}(hl:l=(a,x)::r):a≠0:=by
 subst hl;cases h with
 |run g1 g2 g3 g4 g5=>
  intro e;subst e;obtain⟨u,e,_⟩:=g5 0 (Nat.le_refl _) g3;rw[h0] at e;cases e
theorem J5f (h:X8u nq ps sq xs nq' ps' told) (hR:PsR nq ps) (hq:nq≤4294967295) (hl:ps.length≤8) (hn:xs.length≤65536):Y3t nq ps sq xs nq' ps' told:=by
 obtain⟨m,h1,h2,h3,h4,r,h5,h6⟩:=hR.win hq;obtain⟨l,hr,hc⟩:=h;rw[h4,J8v hn] at hr;by_cases hw:T1 (Y4 sq nq) xs=[]
 ·refine .inl ⟨hw, ?_⟩
  rw[hw] at hr;have hr:Z0t m 0 l:=hr;have:=Y5q hr h5;subst this;have hlen:l.length=ps.length:=by rw[h6];unfold T2;rw[List.length_map]
  have hz:∀{a x r},l=(a,x)::r→(Y6 nq a==nq)=false:=by
   intro a x r hl2;have ha:=Y6g h5 h2 hl2;have hge:=Z8b h5 (a,x) (by rw[hl2];exact List.mem_cons_self);have:=Z5q (p:=a) hq (by simp only at hge;omega);rw[beq_eq_false_iff_ne];intro e;rw[this] at e;exact ha e
  rcases l with _ |⟨⟨a,x⟩,r⟩
  ·rcases hc with⟨hc,_⟩ |⟨_,rfl,rfl,rfl⟩
   ·exact absurd hc (by show ¬8<0;decide)
   ·exact⟨rfl,h6.symm,rfl⟩
  ·have hz:=hz rfl
   rw[Z0c,Z2t,Z0z,hz] at hc;rcases hc with⟨hc,_⟩ |⟨_,rfl,rfl,rfl⟩
   ·exact absurd hc (by rw[cond_false];omega)
   ·exact⟨rfl,h6.symm,rfl⟩
 ·refine .inr ⟨hw,l, ?_,hc⟩
  rw[h3];exact hr
theorem Q2c (h:Y3t nq ps sq xs nq' ps' told) (hR:PsR nq ps) (hq:nq≤4294967295):PsR nq' ps':=by
 rcases h with⟨_,rfl,rfl,_⟩ |⟨_,l,hl,⟨_,rfl,rfl,_⟩ |⟨_,rfl,rfl,_⟩⟩
 ·exact hR
 ·exact hR
 have hml:(P1 (Z4u nq B8 ps) (Y0m (Y4 sq nq)) (T1 (Y4 sq nq) xs)).length=2048:=by rw[Z2e,Z3f,Z5r]
 generalize P1 (Z4u nq B8 ps) (Y0m (Y4 sq nq)) (T1 (Y4 sq nq) xs)=m at hl hml;rcases l with _ |⟨⟨a,y⟩,l⟩
 ·refine⟨m,[],hml, ?_,hl,rfl⟩
  cases hl with
  |done h=>exact h 0 (Nat.le_refl _) (by rw[hml];decide)
 have hge:=Z8b hl _ List.mem_cons_self;rw[hml] at hge;simp only at hge;have hz:(Y6 nq a==nq)=decide (a=0):=by
  have:=Z5q (p:=a) hq (by omega);rw[Bool.eq_iff_iff,beq_iff_eq,decide_eq_true_iff,this]
 rw[Z2t,Z0c,hz];by_cases ha0:a=0
 ·rw[decide_eq_true ha0]
  subst ha0;cases hl with
  | @run _ _ b _ _ g1 g2 g3 g4 g5 g6 g7 g=>
  have hby:b=y.length:=by omega
  subst hby;have hR:=X5z (m':=m.drop y.length++List.replicate y.length none) g (by rw[List.length_append,List.length_drop,List.length_replicate];omega) g3 (Nat.le_refl _) (fun j hj=>by
    rw[List.getElem?_append_left (by rw[List.length_drop];omega),List.getElem?_drop,Nat.add_comm]) (fun j hj hk=>by
    rw[List.getElem?_append_right (by rw[List.length_drop];omega),List.getElem?_replicate,if_pos (by rw[List.length_drop];omega)])
  rw[Nat.sub_self] at hR;refine⟨_,_, ?_, ?_,hR,X0j nq y.length l fun q hq=>(Z8b g q hq).1⟩
  ·rw[List.length_append,List.length_drop,List.length_replicate];omega
  ·rcases g7 with g7 |g7
   ·rw[List.getElem?_append_right (by rw[List.length_drop];omega),List.getElem?_replicate,if_pos (by rw[List.length_drop];omega)]
   ·have:=(List.getElem?_eq_some_iff.1 g7).1
    rw[List.getElem?_append_left (by rw[List.length_drop];omega),List.getElem?_drop,Nat.add_zero];exact g7
 ·rw[decide_eq_false ha0]
  refine⟨m,_,hml, ?_,hl,rfl⟩;cases hl with
  |run g1 g2=>exact g2 0 (Nat.le_refl _) (by omega)
theorem J5g {nq2:Nat}{ps2:List (Nat×List UInt8)}{told2:List UInt8}(h:Y3t nq ps sq xs nq' ps' told) (h2:Y3t nq ps sq xs nq2 ps2 told2):nq'=nq2∧ps'=ps2∧told=told2:=by
 rcases h with⟨a,rfl,rfl,rfl⟩ |⟨a,l,hl,h⟩
 ·rcases h2 with⟨_,rfl,rfl,rfl⟩ |⟨b,_⟩
  ·exact⟨rfl,rfl,rfl⟩
  ·exact absurd a b
 ·rcases h2 with⟨b,_⟩ |⟨_,l2,hl2,h2⟩
  ·exact absurd b a
  ·have:=Y5q hl hl2
   subst this;rcases h with⟨a,rfl,rfl,rfl⟩ |⟨a,rfl,rfl,rfl⟩
   ·rcases h2 with⟨_,rfl,rfl,rfl⟩ |⟨b,_⟩
    ·exact⟨rfl,rfl,rfl⟩
    ·omega
   ·rcases h2 with⟨b,_⟩ |⟨_,rfl,rfl,rfl⟩
    ·omega
    ·exact⟨rfl,rfl,rfl⟩
end
theorem J5h {q:Sg}{sq:Nat}{x y z:Lst}(h:Z0x q sq x y) (h2:Z0x q sq x z):y=z:=by
 unfold Z0x at h h2
 split at h
 ·rw[if_pos (by assumption)] at h2
  rw[h,h2]
 ·rw[if_neg (by assumption)] at h2
  split at h
  ·rw[if_pos (by assumption)] at h2
   rw[h,h2]
  ·rw[if_neg (by assumption)] at h2
   obtain⟨_,_,_,h3,rfl⟩:=h;obtain⟨_,_,_,h4,rfl⟩:=h2;obtain⟨rfl,rfl,rfl⟩:=J5g h3 h4;rfl
theorem Y2v {ti port:Int}{l:List (List UInt8)}{x y z:Lst}(h:S1 ti port l x y) (h2:S1 ti port l x z):y=z:=by
 induction h with
 |nil=>exact h2.end_
 |skip h1 _ ih=>exact ih (h2.none h1)
 |take h1 h3 _ ih=>
  obtain⟨x1,h4,h5⟩:=h2.some h1;have:=J5h h3 h4;subst this;exact ih h5
def Q2d (x:Lst):Prop:=PsR x.nq x.ps
theorem X8v (nq:Nat):PsR nq []:=⟨B8,[],Z5r,Z9h 0 (by decide), .done fun j _ hj=>Z9h j (by rw[Z5r] at hj;exact hj),rfl⟩
theorem Q2e {q:Sg}{sq:Nat}{x y:Lst}(h:Z0x q sq x y) (hR:Q2d x) (hq:x.nq≤4294967295):Q2d y:=by
 unfold Z0x at h
 split at h
 ·subst h;exact X8v _
 ·split at h
  ·subst h;exact hR
  ·obtain⟨_,_,_,h3,rfl⟩:=h
   exact Q2c h3 hR hq
theorem J5i (b:List UInt8) (ti port:Int):Z0s ti port b=if (Y4w b 167772161 1883 ti port).2=true then some (Y4w b 167772161 1883 ti port).1 else none:=by
 unfold Z0s Z9f Y4w;by_cases h1:(E6 b).2≠0∨(E6 b).1.t≠2048
 ·rw[if_pos h1,if_pos h1];rfl
 rw[if_neg h1,if_neg h1];generalize X1 (E6 b).1.xs=pp;by_cases h2:pp.2≠0∨pp.1.p≠6
 ·have h2':pp.2≠0∨pp.1.s≠167772161∨pp.1.d≠ti∨pp.1.p≠6:=by
   rcases h2 with h |h
   ·exact .inl h
   ·exact .inr (.inr (.inr h))
  rw[if_pos h2,if_pos h2'];rfl
 rw[if_neg h2];by_cases h3:pp.1.s=167772161∧pp.1.d=ti
 ·rw[if_neg (show ¬(pp.2≠0∨pp.1.s≠167772161∨pp.1.d≠ti∨pp.1.p≠6) by rintro(h |h |h |h);exact h2 (.inl h);exact h h3.1;exact h h3.2;exact h2 (.inr h)),h3.1,h3.2]
  generalize G7 167772161 ti pp.1.xs=s;by_cases h4:s.2≠0
  ·rw[if_pos h4]
   have:(s.2==0)=false:=beq_eq_false_iff_ne.2 h4;rw[this,Bool.false_and];rfl
  ·rw[if_neg h4]
   have:(s.2==0)=true:=beq_iff_eq.2 (Decidable.not_not.1 h4);rw[this,Bool.true_and];show (if pp.1.s=167772161∧pp.1.d=ti∧s.1.sp=1883∧s.1.dp=port then some s.1 else none)=_;by_cases h5:s.1.sp=1883∧s.1.dp=port
   ·rw[if_pos ⟨h3.1,h3.2,h5.1,h5.2⟩,if_pos (by rw[h5.1,h5.2];simp)]
   ·rw[if_neg (fun h=>h5 h.2.2),if_neg (fun h=>h5 (by simpa using h))]
 ·have h3':pp.2≠0∨pp.1.s≠167772161∨pp.1.d≠ti∨pp.1.p≠6:=by
   by_cases h:pp.1.s=167772161
   ·exact .inr (.inr (.inl fun h'=>h3 ⟨h,h'⟩))
   ·exact .inr (.inl h)
  rw[if_pos h3'];generalize G7 pp.1.s pp.1.d pp.1.xs=s;by_cases h4:s.2≠0
  ·rw[if_pos h4];rfl
  ·rw[if_neg h4]
   show (if pp.1.s=167772161∧pp.1.d=ti∧s.1.sp=1883∧s.1.dp=port then some s.1 else none)=none;rw[if_neg (fun h=>h3 ⟨h.1,h.2.1⟩)]
end
section
open Go.RowKit
def Z2j (w:World) (S:Nat→Prop) (A:Option Addr) (l:List (List UInt8)):Prop:=
 ∀k b,l[k]? = some b→∃g o A' c',A=some ⟨g,o,none⟩∧S g∧g<w.heap.size∧w.cell? ⟨g,o+k,none⟩=some (.slice A' b.length c')∧b.length≤c'∧RBS w S A' b
theorem Z2j.mono {w:World}{S S':Nat→Prop}{A:Option Addr}{l:List (List UInt8)}(h:Z2j w S A l) (hS:∀k,k<w.heap.size→S k→S' k):Z2j w S' A l:=by
 intro k b hk;obtain⟨g,o,A',c',h1,h2,h3,h4,h5,h6⟩:=h k b hk;exact⟨g,o,A',c',h1,hS _ h3 h2,h3,h4,h5,h6.mono hS⟩
theorem Z2j.grown {w w':World}{S:Nat→Prop}{A:Option Addr}{l:List (List UInt8)}{r:Option Nat}(h:Z2j w S A l) (hg:w.grownBy w' r) (hr:∀k,r=some k→¬S k):Z2j w' S A l:=by
 intro k b hk;obtain⟨g,o,A',c',h1,h2,h3,h4,h5,h6⟩:=h k b hk;exact⟨g,o,A',c',h1,h2,Nat.lt_of_lt_of_le h3 hg.size,hg.cell h4 (fun e=>hr _ e.symm h2),h5,h6.grown hg hr⟩
theorem Z2j.next {w w':World}{S:Nat→Prop}{A:Option Addr}{l:List (List UInt8)}(h:Z2j w S A l) (hb:Below w.heap.size w w'):Z2j w' S A l:=h.grown (X2 hb none) (fun k e=>by cases e)
theorem J5j (xs:List UInt8) (k:Nat):V4 xs k 4<4294967296:=by
 have h1:=Y0e ((xs.drop k).take 4);have h2:(256:Nat)^((xs.drop k).take 4).length≤256^4:=Nat.pow_le_pow_right (by omega) (by rw[List.length_take];omega);unfold V4;omega
theorem J1f {s d:Int}{xs:List UInt8}(h:(G7 s d xs).2=0):(G7 s d xs).1=Z5h xs∧xs.length≤1480:=by
 unfold G7 at h ⊢;by_cases h1:Z5i s=false∨Z5i d=false
 ·rw[if_pos h1] at h;cases h
 rw[if_neg h1] at h ⊢;by_cases h2:xs.length<20
 ·rw[if_pos h2] at h;cases h
 rw[if_neg h2] at h ⊢;by_cases h3:sgN xs<20
 ·rw[if_pos h3] at h;cases h
 rw[if_neg h3] at h ⊢;by_cases h4:xs.length<sgN xs
 ·rw[if_pos h4] at h;cases h
 rw[if_neg h4] at h ⊢;by_cases h5:1480<xs.length
 ·rw[if_pos h5] at h;cases h
 rw[if_neg h5] at h ⊢;by_cases h6:Z1x s.toNat d.toNat xs≠0
 ·rw[if_pos h6] at h;cases h
 rw[if_neg h6];exact⟨rfl,Nat.le_of_not_lt h5⟩
theorem X3k {b:List UInt8}{p:Pk}{q:Sg}(h:Z9f b=some (p,q)):q.sq=(q.sq.toNat:Int)∧q.sq.toNat≤4294967295∧q.xs.length≤1480:=by
 unfold Z9f at h;by_cases h1:(E6 b).2≠0∨(E6 b).1.t≠2048
 ·rw[if_pos h1] at h;cases h
 rw[if_neg h1] at h;by_cases h2:(X1 (E6 b).1.xs).2≠0∨(X1 (E6 b).1.xs).1.p≠6
 ·rw[if_pos h2] at h;cases h
 rw[if_neg h2] at h;by_cases h3:(G7 (X1 (E6 b).1.xs).1.s (X1 (E6 b).1.xs).1.d (X1 (E6 b).1.xs).1.xs).2≠0
 ·rw[if_pos h3] at h;cases h
 rw[if_neg h3] at h;injection h with h
 injection h with _ h
 obtain⟨h4,h5⟩:=J1f (Decidable.not_not.1 h3);rw[h4] at h;subst h;generalize (X1 (E6 b).1.xs).1.xs=xs at h5;have:=J5j xs 4;refine⟨rfl,Nat.le_of_lt_succ this, ?_⟩;show (xs.drop (sgN xs)).length≤_;rw[List.length_drop];omega
theorem X0k (fs:List Nat) (v:Nat) (A:Option Addr) (c:Nat) (w:World) (b:Nat) (hr:w.ownsRow b 3 1 (.slice A fs.length c) fs.length (fs.map Z7l)) (hn:fs.length≤1000000000):
  Calls Tryz.prog 99 #[.slice A fs.length c,iz v] w fun e w'=>∃u,e = .returned u∧∃r:Int,u=iz r∧(decide (0≤r)=decide (v∈fs))∧w=w':=by
 go_enter Tryz.func99,Tryz.ntmps99
 refine Z9.start 19 [(0, .slice A fs.length c),(1,iz v)] rfl rfl ⟨rfl,rfl,trivial⟩ ?_;intro a0 H0;refine H0.rg 1 fun a H=>nt ?_;refine H.rg 1 fun a H=>?_;refine H.len gz rfl rfl rfl rfl Tryz.underlying45 fun a H=>?_;refine H.ms 1 fun a H=>nt (wp_block ?_);refine Q7 fs.length (fun k a w'=>Z9 a 19 [(0, .slice A fs.length c),(1,iz v),(7,iz fs.length),(8,iz k)]∧v∉fs.take k∧w=w') ⟨H.keep ⟨rfl,rfl,rfl,rfl,trivial⟩,by simp,rfl⟩ ?_;rintro k a w1 hk ⟨H,hv,rfl⟩;refine H.rg 0 fun a H=>?_;by_cases hlt:k<fs.length
 rotate_left
 ·refine H.bb 0 rfl rfl rfl rfl rfl rfl (Q3 _ _ false (by rw[decide_eq_false_iff_not];omega) _ _ _) rfl fun a H=>nt (wp_seq (H.condF rfl ?_))
  refine wp_exit ?_;repeat (with_reducible refine J7 ?_)
  refine X3 (Z0 ?_);have:k=fs.length:=by omega
  subst this;rw[List.take_length] at hv;refine H.rg 1 fun a H=>nt (wp_ret ?_);repeat with_reducible first |apply Z4 |apply Z5
  exact bodyPost_ret (results_tmp rfl _ _ _) H.df ⟨_,congrArg Ending.returned (H.at_ 4 _ rfl), -1,rfl,by rw[decide_eq_false hv];rfl,rfl⟩
 refine H.bb 0 rfl rfl rfl rfl rfl rfl (Q3 _ _ true (by rw[decide_eq_true_iff];omega) _ _ _) rfl fun a H=>nt (wp_seq (H.condT rfl ?_));refine Z3 (Z0 (wp_seq (wp_block ?_)));obtain⟨g,cap,hA,_,_⟩:=hr.form (by omega);injection hA with e1 _ e2
 subst e1 e2;have hck:=hr.cells (g:=g) rfl k (Z7l fs[k]) (by rw[List.getElem?_map,List.getElem?_eq_getElem hlt];rfl);rw[Addr.add_mid] at hck;refine H.rg 2 fun a H=>nt ?_;refine H.rg 3 fun a H=>?_;refine H.index gz rfl rfl rfl rfl rfl (U7 45 Tryz.underlying45 (fun _=>by kernel_rfl) g 0 fs.length c k hlt w) fun a H=>?_;refine H.ld 0 (J9 _ _ _ _ hck) fun a H=>?_;by_cases he:v=fs[k]
 ·refine H.bb 0 rfl rfl rfl rfl rfl rfl (Z7 _ _ true (by rw[he];exact beq_self_eq_true _) _ _ _) rfl fun a H=>nt (H.condT rfl ?_)
  refine H.rg 2 fun a H=>nt (wp_ret ?_);repeat with_reducible first |apply Z4 |apply Z5
  refine bodyPost_ret (results_tmp rfl _ _ _) H.df ⟨_,congrArg Ending.returned (H.at_ 4 _ rfl),(k:Int),rfl, ?_,rfl⟩;rw[decide_eq_true (Int.natCast_nonneg k),decide_eq_true (he▸List.getElem_mem hlt)]
 ·refine H.bb 0 rfl rfl rfl rfl rfl rfl (Z7 _ _ false (by rw[beq_eq_false_iff_ne];exact fun h=>he (by omega)) _ _ _) rfl fun a H=>nt (H.condF rfl (Z3 ?_))
  refine Z6 (Z0 ?_);refine H.rg 0 fun a H=>?_;refine H.bn 1 (E7 k (by omega) _ _ _) fun a H=>nt ?_;refine⟨hlt,H.keep ⟨rfl,rfl,rfl,rfl,trivial⟩, ?_,rfl⟩;rw[List.take_add_one,List.getElem?_eq_getElem hlt];intro hm;rcases List.mem_append.1 hm with hm |hm
  ·exact hv hm
  ·exact he (by simpa using hm)
theorem X3l (fs:List Nat) (v:Nat) (A:Option Addr) (c:Nat) (w:World) (b:Nat) (hr:w.ownsRow b 3 1 (.slice A fs.length c) fs.length (fs.map Z7l)) (hn:fs.length≤1000000000):
  Calls Tryz.prog 61 #[.slice A fs.length c,iz v] w fun e w'=>e = .returned (.bool (decide (v∈fs)))∧w=w':=by
 go_enter Tryz.func61,Tryz.ntmps61
 refine Z9.start 9 [(0, .slice A fs.length c),(1,iz v)] rfl rfl ⟨rfl,rfl,trivial⟩ ?_;intro a0 H0;refine H0.rg 1 fun a H=>nt ?_;refine H.rg 2 fun a H=>?_;refine H.cl (X0k fs v A c w b hr hn) ?_;rintro a _ w' ⟨r,rfl,hd,rfl⟩ H;refine H.bb 1 rfl rfl rfl rfl rfl rfl (Z6k r 0 _ hd _ _ _) rfl fun a H=>nt (wp_ret ?_);repeat with_reducible first |apply Z4 |apply Z5
 exact bodyPost_ret (results_tmp rfl _ _ _) H.df ⟨congrArg Ending.returned (H.at_ 4 _ rfl),rfl⟩
def X6a (W:World) (gx:Nat) (ti port:Int) (l:List (List UInt8)) (k:Nat) (w:World):Prop:=
 ∃x AP cP vB vF,S1 ti port (l.take k) .zero x∧Z4d k x∧X0 W W.heap.size [(gx,Z6v x AP cP vB vF)] w∧Z2h gx x AP vB vF w
theorem X3m {ti port:Int}{b:List UInt8}{p:Pk}{q:Sg}(h:Z9f b=some (p,q)):Z0s ti port b=if ((p.s==167772161&&p.d==ti)&&q.sp==1883)&&q.dp==port then some q else none:=by
 unfold Z0s;rw[h];show (if p.s=167772161∧p.d=ti∧q.sp=1883∧q.dp=port then some q else none)=_;simp only[Bool.and_eq_true,beq_iff_eq,and_assoc]
theorem X6a.skip {W:World}{gx:Nat}{ti port:Int}{l:List (List UInt8)}{k:Nat}{w:World}{b:List UInt8}(h:X6a W gx ti port l k w) (hb:l[k]? = some b) (hn:Z0s ti port b=none):X6a W gx ti port l (k+1) w:=by
 obtain⟨x,AP,cP,vB,vF,h1,h2,h3,h4⟩:=h;refine⟨x,AP,cP,vB,vF, ?_,h2.more (Nat.le_succ _),h3,h4⟩;rw[List.take_add_one,hb];exact h1.append (.skip hn .nil)
theorem X0l {W:World}{o:Option (Pk×Sg)}{v:Value}{w:World}(h:J4w W o v w):∃p q A0 n0 c0 A1 c1 z,v = .tuple #[.agg (pkL p (.slice A0 n0 c0)).toArray, .agg (sgL q (.slice A1 q.xs.length c1)).toArray, .bool z]∧Below W.heap.size W w∧(z=false→o=none)∧(z=true→o=some (p,q)∧w.ownsRow W.heap.size 5 1 (.slice A1 q.xs.length c1) q.xs.length (q.xs.map bv)):=by
 rcases o with _ |⟨p,q⟩
 ·exact⟨.zero, .zero,none,0,0,none,0,false,h.1,h.2,fun _=>rfl,fun h=>by cases h⟩
 ·obtain⟨A0,n0,c0,A,c,rfl,h1,h2⟩:=h
  exact⟨p,q,A0,n0,c0,A,c,true,rfl,h2,fun h=>(by cases h),fun _=>⟨rfl,h1⟩⟩
theorem Z9i (l:List (List UInt8)) (AL:Option Addr) (cL:Nat) (ti port:Int) (hti:inR ti 4294967295=true) (hpo:inR port 65535=true) (w:World) (hL:Z2j w (fun _=>True) AL l) (hl:l.length≤100000) (hlb:∀b∈l,b.length≤140737488351232):
  Calls Tryz.prog 20 #[.slice AL l.length cL,iz ti,iz port] w fun e w'=>∃v,e = .returned v∧∃x A c,v = .tuple #[.slice A x.b.length c, .bool (x.rst||decide (x.nq∈x.fins)),iz 0]∧S1 ti port l .zero x∧Z4d l.length x∧w'.ownsRow w.heap.size 5 1 (.slice A x.b.length c) x.b.length (x.b.map bv)∧Below w.heap.size w w':=by
 go_enter Tryz.func20,Tryz.ntmps20
 refine Z9.start 84 [(0, .slice AL l.length cL),(1,iz ti),(2,iz port)] rfl rfl ⟨rfl,rfl,rfl,trivial⟩ ?_;intro a0 H0;have O0:=X0.start w;refine H0.rg 3 fun a H=>nt ?_;refine H.rg 1 fun a H=>?_;refine H.cq 0 (J3d ti w) fun a H=>?_;rw[hti] at H;refine H.uo (r:=.bool false) 1 fun a H=>?_;refine H.go (H.wt rfl rfl rfl) rfl rfl _ (N2 (.inl rfl) (H.ev rfl)) fun a H=>?_;refine H.call (H.wt rfl rfl rfl) rfl rfl rfl rfl (fun _ _=>by kernel_rfl) (Z6t (Y1c port w)) ?_;rintro a _ _ ⟨rfl,rfl⟩ H;rw[hpo] at H;refine H.un (H.wt rfl rfl rfl) rfl rfl rfl rfl (G5 true _) fun a H=>?_;refine H.pick gz rfl rfl rfl rfl rfl fun a H=>nt (H.condF rfl (Z3 (Z0 ?_)));replace H:=H.kp [0,1,2];refine H.rg 0 fun a H=>?_;refine H.any (w':=w) gz rfl rfl (.agg (Z6v .zero none 0 Z2 Z2).toArray) (by intro cs b h;cases h) (by kernel_rfl) (by kernel_rfl) fun a H=>?_;refine H.bx O0 1 (L:=Z6v .zero none 0 Z2 Z2) fun a w1 O1 H=>nt ?_;generalize hgx:w.heap.size=gx at O1 H;replace H:=H.kp [0,1,2,9];refine H.rg 1 fun a H=>?_;refine H.len gz rfl rfl rfl rfl Tryz.underlying37 fun a H=>?_;refine H.ms 1 fun a H=>nt (wp_block ?_);have J0:X6a w gx ti port l 0 w1:=⟨.zero,none,0,Z2,Z2, .nil,Z4d.zero,hgx▸O1,World.ownsRow_nil _ _ _ _,World.ownsRow_nil _ _ _ _,E0.nil⟩;refine Q7 l.length (fun k a w'=>Z9 a 84 [(1,iz ti),(2,iz port),(9,pz gx),(25, .slice AL l.length cL),(26,iz l.length),(27,iz k)]∧X6a w gx ti port l k w') ⟨H.keep ⟨rfl,rfl,rfl,rfl,rfl,rfl,trivial⟩,J0⟩ ?_;clear H H0 O0 O1 J0;rintro k a w2 hk ⟨H,J⟩;refine H.rg 0 fun a H=>?_;by_cases hlt:k<l.length
 rotate_left
 ·refine H.bb 0 rfl rfl rfl rfl rfl rfl (Q3 _ _ false (by rw[decide_eq_false_iff_not];omega) _ _ _) rfl fun a H=>nt (wp_seq (H.condF rfl ?_))
  refine wp_exit ?_;repeat (with_reducible refine J7 ?_)
  refine X3 (Z0 ?_);have:k=l.length:=by omega
  subst this;obtain⟨x,AP,cP,vB,vF,h1,h2,O,M⟩:=J;rw[List.take_length] at h1;obtain⟨AB,cB,rfl,_,_⟩:=V3 M.1;obtain⟨AF,cF,rfl,_,_⟩:=V3 M.2.1;obtain⟨z,hz⟩:∃z,decide (x.nq∈x.fins)=z:=⟨_,rfl⟩;obtain⟨rs,hrs⟩:∃rs,x.rst=rs:=⟨_,rfl⟩;have O:X0 w w.heap.size [(gx,[iz x.nq, .slice AP x.ps.length cP, .bool x.up, .slice AB x.b.length cB, .bool rs, .slice AF x.fins.length cF])] w2:=by rw[←hrs];exact O
  have hfl:x.fins.length≤1000000000:=by have:=h2.2.2.2.2;omega
  refine H.dq (fun w'=>X0 w w.heap.size [(gx,[iz x.nq, .slice AP x.ps.length cP, .bool x.up, .slice AB x.b.length cB, .bool rs, .slice AF x.fins.length cF])] w'∧Z2h gx x AP (.slice AB x.b.length cB) (.slice AF x.fins.length cF) w') (fun _ _ h hb=>⟨h.1.call hb,h.2.next hb⟩) ⟨O,M⟩ [9] rfl
   [ec 0 64 (pz gx),ec 1 65 (pz gx),ec 2 66 (.pointer (some ⟨gx,3,none⟩)),ec 3 67 (.slice AB x.b.length cB),ec 4 68 (pz gx),ec 5 69 (pz gx),ec 6 70 (.pointer (some ⟨gx,4,none⟩)),ec 7 71 (.bool rs),ec 8 72 (.bool rs),ec 9 73 (gv (!rs) (pz gx)),ec 10 74 (gv (!rs) (pz gx)),ec 11 75 (gv (!rs) (.pointer (some ⟨gx,5,none⟩))),ec 12 76 (gv (!rs) (.slice AF x.fins.length cF)),ec 13 77 (gv (!rs) (pz gx)),ec 14 78 (gv (!rs) (pz gx)),ec 15 79 (gv (!rs) (pz gx)),ec 16 80 (gv (!rs) (pz gx)),ec 17 81 (gv (!rs) (iz x.nq)),ec 18 82 (gv (!rs) (.bool z)),ec 19 83 (.bool (rs||z)),ec 20 6 (.slice AB x.b.length cB),ec 21 7 (.bool (rs||z)),ec 22 8 (iz 0)] rfl
   ⟨jm,jm,jm,jl fun _ h=>U8 _ _ _ _ _ _ ((X0.get h.1 0 rfl).get 3 _ rfl),jm,jm,jm,jl fun _ h=>V0 _ _ _ _ ((X0.get h.1 0 rfl).get 4 _ rfl),jm,(by cases rs;exact jm;exact jo),(by cases rs;exact jm;exact jo),(by cases rs;exact jm;exact jo),(by cases rs;exact jl fun _ h=>D7 _ _ _ _ _ _ ((X0.get h.1 0 rfl).get 5 _ rfl);exact jo),(by cases rs;exact jm;exact jo),(by cases rs;exact jm;exact jo),(by cases rs;exact jm;exact jo),(by cases rs;exact jm;exact jo),(by cases rs;exact jl fun _ h=>J9 _ _ _ _ ((X0.get h.1 0 rfl).get 0 _ rfl);exact jo),(by cases rs;exact jq fun w' h=>hz▸X3l x.fins x.nq AF cF w' _ h.2.2.1 hfl;exact jo),(by (cases rs<;>exact jp)),jm,jm,jm,trivial⟩ trivial ?_
  intro a w3 H _ ⟨O3,M3⟩;refine Z0 (wp_ret ?_);repeat with_reducible first |apply Z4 |apply Z5
  refine bodyPost_ret (U5 rfl _ _ _ _ (H.at_ 6 _ rfl) (H.at_ 7 _ rfl) (H.at_ 8 _ rfl)) H.df ⟨_,rfl,x,AB,cB,by rw[hrs,hz],h1,h2,V2 M3.1 (Nat.le_succ _),hgx▸O3.bel⟩
 refine H.bb 0 rfl rfl rfl rfl rfl rfl (Q3 _ _ true (by rw[decide_eq_true_iff];omega) _ _ _) rfl fun a H=>nt (wp_seq (H.condT rfl ?_));refine Z3 (Z0 (wp_seq (wp_block ?_)));obtain⟨b,hb⟩:∃b,l[k]? = some b:=⟨_,List.getElem?_eq_getElem hlt⟩;have hbel:Below w.heap.size w w2:=by obtain⟨x,AP,cP,vB,vF,h1,h2,O,M⟩:=J;exact O.bel
 have hb8:=hlb b (List.mem_of_getElem? hb);obtain⟨g,o,A',c',rfl,_,hgl,hck,hbc,hrb⟩:=hL k b hb;refine H.rg 0 fun a H=>?_;refine H.index gz rfl rfl rfl rfl rfl (U7 37 Tryz.underlying37 (fun _=>by kernel_rfl) g o l.length cL k hlt w2) fun a H=>?_;refine H.ld 1 (U8 _ _ _ _ _ _ ((hbel.cell (p:=⟨g,o+k,none⟩) hgl).trans hck)) fun a H=>nt ?_;replace H:=H.kp [1,2,9,25,26,27,11];refine H.rg 1 fun a H=>?_;refine H.cl (X0g b A' c' hbc w2 (hrb.rb.next hbel) hb8) ?_;intro a v w3 hv H;obtain⟨p,q,A0,n0,c0,A1,c1,z,rfl,hb3,hz,hsm⟩:=X0l hv;obtain⟨x,AP,cP,vB,vF,h1,h2,O2,M2⟩:=J;have O3:=O2.call hb3;have M3:=M2.next hb3;refine H.ms 1 fun a H=>?_;refine H.ex (r:=.agg (pkL p (.slice A0 n0 c0)).toArray) 0 fun a H=>?_;refine H.ex (r:=.agg (sgL q (.slice A1 q.xs.length c1)).toArray) 0 fun a H=>?_;refine H.ex (r:=.bool z) 0 fun a H=>?_;refine H.al (X0.start w3) 0 Y2q fun a w4 O4 H=>?_;obtain⟨g12,hg12⟩:∃g12,w3.heap.size=g12:=⟨_,rfl⟩;rw[hg12] at O4 H;refine H.al O4 0 Y8k fun a w5 O5 H=>?_;generalize w4.heap.size=g13 at O5 H;refine H.st O5 1 0 (L:=pkL p (.slice A0 n0 c0)) (fun a w6 O6 H=>?_) Z2w;refine H.st O6 0 1 (L:=sgL q (.slice A1 q.xs.length c1)) (fun a w7 O7 H=>nt ?_) Z1s;clear O4 O5 O6;replace H:=H.kp [1,2,9,25,26,27,12,13,14];have hb7:Below w3.heap.size w3 w7:=hg12▸O7.bel;have O8:=O3.call hb7;have M8:=M3.next hb7;cases z with
 |false=>
  have hno:Z0s ti port b=none:=by unfold Z0s;rw[hz rfl]
  refine H.tb (fun w'=>(X0 w w.heap.size [(gx,Z6v x AP cP vB vF)] w'∧Z2h gx x AP vB vF w')∧X0 w3 g12 [(g13,sgL q (.slice A1 q.xs.length c1)),(g12,pkL p (.slice A0 n0 c0))] w') (fun _ _ h hb=>⟨⟨h.1.1.call hb,h.1.2.next hb⟩,h.2.call hb⟩) ⟨⟨O8,M8⟩,O7⟩ [ec 0 37 (.bool false),ec 1 38 (.bool false),ec 2 39 (gv false (pz g12)),ec 3 40 (gv false (iz p.s)),ec 4 41 (gv false (.bool false)),ec 5 42 (.bool false),ec 6 43 (.bool false),ec 7 44 (gv false (.pointer (some ⟨g12,1,none⟩))),ec 8 45 (gv false (iz p.d)),ec 9 46 (gv false (iz ti)),ec 10 47 (gv false (.bool false)),ec 11 48 (.bool false),ec 12 49 (.bool false),ec 13 50 (gv false (pz g13)),ec 14 51 (gv false (iz q.sp)),ec 15 52 (gv false (.bool false)),ec 16 53 (.bool false),ec 17 54 (.bool false),ec 18 55 (gv false (.pointer (some ⟨g13,1,none⟩))),ec 19 56 (gv false (iz q.dp)),ec 20 57 (gv false (iz port)),ec 21 58 (gv false (.bool false)),ec 22 59 (.bool false)] rfl
   ⟨jm,jm,(by exact jo),(by exact jo),(by exact jo),jp,jm,(by exact jo),(by exact jo),(by exact jo),(by exact jo),jp,jm,(by exact jo),(by exact jo),(by exact jo),jp,jm,(by exact jo),(by exact jo),(by exact jo),(by exact jo),jp,trivial⟩ ?_
  intro a w9 H ⟨⟨O9,M9⟩,_⟩;refine Z0 (H.condF rfl (Z3 (Z6 (Z0 ?_))));refine H.rg 0 fun a H=>?_;refine H.bn 1 (E7 k (by omega) _ _ _) fun a H=>nt ?_;exact⟨hlt,H.keep ⟨rfl,rfl,rfl,rfl,rfl,rfl,trivial⟩,X6a.skip ⟨x,AP,cP,vB,vF,h1,h2,O9,M9⟩ hb hno⟩
 |true=>
  obtain⟨hs,hrow⟩:=hsm rfl;have hto:=X3m (ti:=ti) (port:=port) hs;obtain⟨hsq,hsl,hql⟩:=X3k hs;have hqc:=Z4s hrow;have hr3:RBS w3 (Z0w gx vB vF) A1 q.xs:=(RBS.of_row hrow rfl).mono fun kk _ hk=>⟨Nat.lt_of_lt_of_le (O2.lt 0 rfl) hk.1,Q1 M2.1 (.inr hk.1),Q1 M2.2.1 (.inr hk.1)⟩;have hr7:=hr3.grown (X2 hb7 none) (fun k e=>by cases e);obtain⟨z1,hz1⟩:∃z,(p.s==167772161)=z:=⟨_,rfl⟩;obtain⟨z2,hz2⟩:∃z,(p.d==ti)=z:=⟨_,rfl⟩;obtain⟨z3,hz3⟩:∃z,(q.sp==1883)=z:=⟨_,rfl⟩;obtain⟨z4,hz4⟩:∃z,(q.dp==port)=z:=⟨_,rfl⟩;rw[hz1,hz2,hz3,hz4] at hto;refine H.tb (fun w'=>(X0 w w.heap.size [(gx,Z6v x AP cP vB vF)] w'∧Z2h gx x AP vB vF w'∧RBS w' (Z0w gx vB vF) A1 q.xs)∧X0 w3 g12 [(g13,sgL q (.slice A1 q.xs.length c1)),(g12,pkL p (.slice A0 n0 c0))] w') (fun _ _ h hb=>⟨⟨h.1.1.call hb,h.1.2.1.next hb,h.1.2.2.grown (X2 hb none) (fun k e=>by cases e)⟩,h.2.call hb⟩) ⟨⟨O8,M8,hr7⟩,O7⟩ [ec 0 37 (.bool true),ec 1 38 (.bool true),ec 2 39 (pz g12),ec 3 40 (iz p.s),ec 4 41 (.bool z1),ec 5 42 (.bool z1),ec 6 43 (.bool z1),ec 7 44 (gv z1 (.pointer (some ⟨g12,1,none⟩))),ec 8 45 (gv z1 (iz p.d)),ec 9 46 (gv z1 (iz ti)),ec 10 47 (gv z1 (.bool z2)),ec 11 48 (.bool (z1&&z2)),ec 12 49 (.bool (z1&&z2)),ec 13 50 (gv (z1&&z2) (pz g13)),ec 14 51 (gv (z1&&z2) (iz q.sp)),ec 15 52 (gv (z1&&z2) (.bool z3)),ec 16 53 (.bool ((z1&&z2)&&z3)),ec 17 54 (.bool ((z1&&z2)&&z3)),ec 18 55 (gv ((z1&&z2)&&z3) (.pointer (some ⟨g13,1,none⟩))),ec 19 56 (gv ((z1&&z2)&&z3) (iz q.dp)),ec 20 57 (gv ((z1&&z2)&&z3) (iz port)),ec 21 58 (gv ((z1&&z2)&&z3) (.bool z4)),ec 22 59 (.bool (((z1&&z2)&&z3)&&z4))] rfl
   ⟨jm,jm,jm,jl fun _ h=>J9 _ _ _ _ ((X0.get h.2 1 rfl).get 0 _ rfl),jb fun _=>Z7 p.s 167772161 z1 hz1 _ _ _,jp,jm,(by cases z1;exact jo;exact jm),(by cases z1;exact jo;exact jl fun _ h=>J9 _ _ _ _ ((X0.get h.2 1 rfl).get 1 _ rfl)),(by cases z1;exact jo;exact jm),(by cases z1;exact jo;exact jb fun _=>Z7 p.d ti z2 hz2 _ _ _),(by (cases z1<;>exact jp)),jm,(by cases z1;exact jo;cases z2;exact jo;exact jm),(by cases z1;exact jo;cases z2;exact jo;exact jl fun _ h=>J9 _ _ _ _ ((X0.get h.2 0 rfl).get 0 _ rfl)),(by cases z1;exact jo;cases z2;exact jo;exact jb fun _=>Z7 q.sp 1883 z3 hz3 _ _ _),(by cases z1;exact jp;(cases z2<;>exact jp)),jm,(by cases z1;exact jo;cases z2;exact jo;cases z3;exact jo;exact jm),(by cases z1;exact jo;cases z2;exact jo;cases z3;exact jo;exact jl fun _ h=>J9 _ _ _ _ ((X0.get h.2 0 rfl).get 1 _ rfl)),(by cases z1;exact jo;cases z2;exact jo;cases z3;exact jo;exact jm),(by cases z1;exact jo;cases z2;exact jo;cases z3;exact jo;exact jb fun _=>Z7 q.dp port z4 hz4 _ _ _),(by cases z1;exact jp;cases z2;exact jp;(cases z3<;>exact jp)),trivial⟩ ?_
  clear O7 O8 M8 hr7 hr3 hrow O3 M3;intro a w9 H ⟨⟨O9,M9,hr9⟩,Ob⟩;cases hzz:((z1&&z2)&&z3)&&z4 with
  |false=>
   refine Z0 (H.cond (t:=((z1&&z2)&&z3)&&z4) rfl ?_);rw[hzz] at hto ⊢;refine Z3 (Z6 (Z0 ?_));refine H.rg 0 fun a H=>?_;refine H.bn 1 (E7 k (by omega) _ _ _) fun a H=>nt ?_;exact⟨hlt,H.keep ⟨rfl,rfl,rfl,rfl,rfl,rfl,trivial⟩,X6a.skip ⟨x,AP,cP,vB,vF,h1,h2,O9,M9⟩ hb hto⟩
  |true=>
   refine Z0 (H.cond (t:=((z1&&z2)&&z3)&&z4) rfl ?_);rw[hzz] at hto ⊢;replace hto:Z0s ti port b=some q:=hto;refine H.rg 1 fun a H=>?_;refine H.loadS rfl rfl rfl rfl rfl (Ob.get 0 rfl) Tryz.underlying36 rfl Z1s rfl fun a H=>?_;have hok:=h2;obtain⟨k1,k2,k3,k4,k5⟩:=hok;refine H.cl (Q4v w w.heap.size gx x AP cP vB vF q q.sq.toNat hsq hsl A1 c1 w9 O9 M9 hr9 hqc (by omega) k1 (by omega) k3 (by omega) (by omega)) ?_;rintro a _ w10 ⟨x',AP',cP',vB',vF',hG,O10,M10⟩ H;refine wpList_nil (Z6 (Z0 ?_));refine H.rg 0 fun a H=>?_;refine H.bn 1 (E7 k (by omega) _ _ _) fun a H=>nt ?_;refine⟨hlt,H.keep ⟨rfl,rfl,rfl,rfl,rfl,rfl,trivial⟩,x',AP',cP',vB',vF', ?_,X0h hG h2,O10,M10⟩;rw[List.take_add_one,hb];exact h1.append (.take hto hG .nil)
end
section
open Go.RowKit
theorem Q4x (k v:Nat) (hk:k≤7) (hv:v<9223372036854775808) (w:World):
  Calls Tryz.prog 90 #[iz v,iz k] w fun e w'=>∃u,e = .returned u∧(K0 (U1 k v) u w'∧Below w.heap.size w w'):=
 (T8 (v:Int) (k:Int) v k rfl rfl hk hv w).mono fun _ _ ⟨A',c',h1,h2,h3⟩=>⟨_,h1,by
  have:=(Y2.of (Y0 k v) h2).read;exact this,h3⟩
theorem Q7f (k v:Nat) (hk:k≤7) (hv:v<9223372036854775808) (w:World):
  Calls Tryz.prog 90 #[iz v,iz k] w fun e w'=>∃u,e = .returned u∧(Y2 w.heap.size (U1 k v) u w'∧Below w.heap.size w w'):=
 (T8 (v:Int) (k:Int) v k rfl rfl hk hv w).mono fun _ _ ⟨_A',_c',h1,h2,h3⟩=>⟨_,h1,Y2.of (Y0 k v) h2,h3⟩
theorem Y6h (d s t:Nat) (xs:List UInt8) (A:Option Addr) (c:Nat) (w:World) (hd:d<281474976710656) (hs:s<281474976710656) (ht:t<65536) (hx:RB w w.heap.size A xs) (hl:xs.length≤140737488351232):
  Calls Tryz.prog 54 #[.agg ([iz d,iz s,iz t, .slice A xs.length c]:List Value).toArray] w fun e w'=>∃v,e = .returned v∧(Y2 w.heap.size (Z1q d s t xs) v w'∧Below w.heap.size w w'):=by
 go_enter Tryz.func54,Tryz.ntmps54
 refine Z9.start 20 [(0, .agg ([iz d,iz s,iz t, .slice A xs.length c]:List Value).toArray)] rfl rfl ⟨rfl,trivial⟩ ?_;intro a0 H0;have O0:=X0.start w;refine rl ?_;refine H0.bx O0 1 (L:=[iz d,iz s,iz t, .slice A xs.length c]) fun a w1 O1 H=>nt ?_;generalize hg:w.heap.size=g at O1 H;obtain⟨b0,hb0⟩:∃b0,b0=w1.heap.size:=⟨_,rfl⟩;have hgb:g<b0:=by rw[hb0];exact O1.lt 0 rfl
 have ou:∀{w' w'':World},X0 w g [(g,[iz d,iz s,iz t, .slice A xs.length c])] w'→Below b0 w' w''→X0 w g [(g,[iz d,iz s,iz t, .slice A xs.length c])] w'':=fun h hb=>X9v h hb (Nat.le_of_lt hgb) (fun p hp=>by rw[List.mem_singleton.1 hp];exact hgb);replace H:=H.kp [1];refine H.sg (fun w'=>X0 w g [(g,[iz d,iz s,iz t, .slice A xs.length c])] w'∧b0≤w'.heap.size) ⟨O1.drew,by rw[hb0];exact Nat.le_refl _⟩ [1] [ec 0 4 (pz g),ec 1 5 (iz d),ec 3 7 (.pointer (some ⟨g,1,none⟩)),ec 4 8 (iz s)] rfl ?_;refine St.call 2 ⟨jm,jl fun _ h=>h.1.li 0 0,jm,jl fun _ h=>h.1.li 0 1,trivial⟩ (fun wy _=>Q7f 6 d (by decide) (by omega) wy) ?_;rintro wx v wz hh ⟨⟨A2,c2,rfl,hrow⟩,hb⟩;rw[show (U1 6 d).length=6 from Y0 6 d] at hrow ⊢;refine nx (fun w'=>(X0 w g [(g,[iz d,iz s,iz t, .slice A xs.length c])] w'∧b0≤w'.heap.size)∧w'.ownsRow b0 5 1 (.slice A2 6 c2) 6 ((U1 6 d).map bv)) [] [] ⟨⟨hh.1.call hb,Nat.le_trans hh.2 hb.size⟩,V2 hrow hh.2⟩ ?_;refine St.call 5 ⟨jm,jl fun _ h=>h.1.1.li 0 1,trivial⟩ (fun wy _=>Q4x 6 s (by decide) (by omega) wy) ?_;clear hrow hb hh;rintro wx v wz hh ⟨⟨A3,c3,rfl,hr3⟩,hb⟩;rw[show (U1 6 s).length=6 from Y0 6 s];refine nx (fun w'=>((X0 w g [(g,[iz d,iz s,iz t, .slice A xs.length c])] w'∧b0≤w'.heap.size)∧w'.ownsRow b0 5 1 (.slice A2 6 c2) 6 ((U1 6 d).map bv))∧RB w' w'.heap.size A3 (U1 6 s)) [] [] ⟨⟨⟨hh.1.1.call hb,Nat.le_trans hh.1.2 hb.size⟩,Y1 hh.2 hb⟩,hr3⟩ ?_;refine St.app (k:=6) (m:=6) (ys:=(U1 6 s).map bv) 6 J4 trivial (fun _ h=>⟨h.1.2,by have:=h.2;unfold RB at this;rw[show (U1 6 s).length=6 from Y0 6 s] at this;exact this,h.1.1.2⟩) (Z7s _) ⟨by decide,by decide⟩ ?_;clear hh hb hr3;intro wx A4 c4 w' h hO hgr;have hbb:Below b0 wx w':=(Below.refl _ _).grown hgr h.1.1.2 fun k hk=>(h.1.2.lt k hk).1;refine nx (fun w'=>X0 w g [(g,[iz d,iz s,iz t, .slice A xs.length c])] w'∧b0≤w'.heap.size∧Y2 b0 (U1 6 d++U1 6 s) (.slice A4 (6+6) c4) w') [ec 7 3 (.slice A4 (6+6) c4)] [] ⟨ou h.1.1.1 hbb,Nat.le_trans h.1.1.2 hbb.size,Y2.of (by simp[Y0]) (by rw[List.map_append];exact hO)⟩ ?_;refine St.fin ⟨jm,trivial⟩ ?_;clear h hO hgr hbb;rintro a w2 H _ ⟨O2,hs2,hr2⟩;refine Z0 ?_;generalize Value.slice A4 (6+6) c4=v2 at H hr2;replace H:=H.kp [1,3];refine H.rg 2 fun a H=>?_;refine H.ld 0 (O2.li 0 2) fun a H=>?_;refine H.cl (Q4x 2 t (by decide) (by omega) w2) ?_;rintro a u3 x3 ⟨hu3,hbu3⟩ H;have hsu3:=hbu3.size;refine H.appendRow Tryz.underlying31 J4 (gz rfl) rfl rfl rfl rfl rfl (hr2.below hbu3) hu3 (by simp[Y0]) (Nat.le_trans hs2 hsu3) ?_;intro a v3 w3 H hr3 hb3 _;have O3:=ou (O2.call hbu3) hb3;have hs3:b0≤w3.heap.size:=Nat.le_trans (Nat.le_trans hs2 hsu3) hb3.size;refine H.ms 1 fun a H=>nt ?_;replace H:=H.kp [1,3];refine H.rg 2 fun a H=>?_;refine H.ld 0 (U8 _ _ _ _ _ _ ((O3.get 0 rfl).get 3 _ rfl)) fun a H=>?_;refine H.appendRow (ys:=xs) Tryz.underlying31 J4 (gz rfl) rfl rfl rfl rfl rfl hr3 ⟨A,c,rfl,hx.next (hg▸O3.bel)⟩ (by simp[Y0];omega) hs3 ?_;intro a v4 w4 H hr4 hb4 _;have O4:=ou O3 hb4;refine H.ms 1 fun a H=>nt (wp_ret ?_);repeat with_reducible first |apply Z4 |apply Z5
 refine bodyPost_ret (results_tmp rfl _ _ _) H.df ⟨v4,congrArg Ending.returned (H.at_ 2 _ rfl), ?_,hg▸O4.bel⟩;have e:Z1q d s t xs=U1 6 d++U1 6 s++U1 2 t++xs:=by simp[Z1q]
 rw[e];exact hr4.base (Nat.le_of_lt hgb)
end
section
open Go.RowKit
theorem X8w (z:Int) (w:World):(convert 3 33 (iz z)).run Tryz.prog w = .ok (.int .u32 (z%4294967296)) w:=by
 simp[go_sem];rfl
theorem J8w (z:Int) (h0:0≤z) (h1:z<4294967296) (w:World):(convert 33 3 (.int .u32 z)).run Tryz.prog w = .ok (iz z) w:=by
 simp[go_sem];exact IntWalk.i64_in _ (by omega)
theorem Q2f (u v:Int) (x y:Operand) (w:World):(do eqGuard .add 33 x y (.int .u32 u) (.int .u32 v);binOp .add 33 (.int .u32 u) (.int .u32 v):Sem Value).run Tryz.prog w = .ok (.int .u32 ((u+v)%4294967296)) w:=by
 simp[go_sem];rfl
theorem Y4g (s n:Nat) (w:World):Calls Tryz.prog 11 #[iz s,iz n] w fun e w'=>e = .returned (iz (Y6 s n))∧w=w':=by
 go_enter Tryz.func11,Tryz.ntmps11
 refine Z9.start 11 [(0,iz s),(1,iz n)] rfl rfl ⟨rfl,rfl,trivial⟩ ?_;intro a0 H0;refine H0.rg 1 fun a H=>nt ?_;refine H.rg 1 fun a H=>?_;refine H.cv 1 (X8w (s:Int) w) fun a H=>?_;refine H.cv 0 (X8w (n:Int) w) fun a H=>?_;refine H.bn 0 (Q2f ((s:Int)%4294967296) ((n:Int)%4294967296) _ _ w) fun a H=>?_;refine H.cv 1 (J8w (((s:Int)%4294967296+(n:Int)%4294967296)%4294967296) (by omega) (by omega) w) fun a H=>nt (wp_ret ?_);repeat with_reducible first |apply Z4 |apply Z5
 refine bodyPost_ret (results_tmp rfl _ _ _) H.df ⟨?_,rfl⟩;refine(congrArg Ending.returned (H.at_ 4 _ rfl)).trans ?_;have e:((s:Int)%4294967296+(n:Int)%4294967296)%4294967296=((Y6 s n:Nat):Int):=by unfold Y6;omega
 rw[e]
theorem X0m (ti sp port sq ak fl wn:Nat) (xs:List UInt8) (A:Option Addr) (c:Nat) (h:Sg.ok ⟨sp,port,sq,ak,fl,wn,xs⟩=true) (hd:ti<4294967296) (w:World) (hx:RB w w.heap.size A xs):
  Calls Tryz.prog 53 #[iz 167772161,iz ti, .agg #[iz sp,iz port,iz sq,iz ak,iz fl,iz wn, .slice A xs.length c]] w fun e w'=>∃v,e = .returned v∧∃A' c',v = .slice A' (20+xs.length) c'∧w'.ownsRow w.heap.size 5 1 (.slice A' (20+xs.length) c') (20+xs.length) ((D1 167772161 ti sp port sq ak fl wn xs).map bv)∧Below w.heap.size w w':=
 (X1x 167772161 ti sp port sq ak fl wn xs xs.length rfl A c h (by decide) hd w hx).mono fun _ _ ⟨A',c',h1,h2,h3⟩=>⟨_,h1,A',c',rfl,h2,h3⟩
theorem X6b (d:Nat) (xs:List UInt8) (n:Nat) (hl:xs.length=n) (A:Option Addr) (c:Nat) (h:Pk.ok ⟨167772161,d,6,64,0,xs⟩=true) (w:World) (hx:RB w w.heap.size A xs):
  Calls Tryz.prog 55 #[.agg #[iz 167772161,iz d,iz 6,iz 64,iz 0, .slice A n c]] w fun e w'=>∃v,e = .returned v∧∃A' c',v = .slice A' (20+n) c'∧w'.ownsRow w.heap.size 5 1 (.slice A' (20+n) c') (20+n) ((W6 167772161 d 6 64 0 n++xs).map bv)∧Below w.heap.size w w':=
 (X9u 167772161 d 6 64 0 xs n hl A c h w hx).mono fun _ _ ⟨A',c',h1,h2,h3⟩=>⟨_,h1,A',c',rfl,h2,h3⟩
theorem X8x (ti port sq ak fl wn:Nat) (sp0 dp0:Int) (xs:List UInt8) (A:Option Addr) (c:Nat) (hq:Sg.ok ⟨1883,port,sq,ak,fl,wn,xs⟩=true) (hti:ti<4294967296) (w:World) (hx:RB w w.heap.size A xs):
  Calls Tryz.prog 37 #[iz ti,iz port, .agg ([iz sp0,iz dp0,iz sq,iz ak,iz fl,iz wn, .slice A xs.length c]:List Value).toArray] w fun e w'=>∃v,e = .returned v∧(Y2 w.heap.size (Y9t 3 2199023255553 167772161 ti ⟨1883,port,sq,ak,fl,wn,xs⟩) v w'∧Below w.heap.size w w'):=by
 have hl:xs.length≤1460:=(Sg.ok_iff.1 hq).2.2.2.2.2.2;go_enter Tryz.func37,Tryz.ntmps37;refine Z9.start 20 [(0,iz ti),(1,iz port),(2, .agg ([iz sp0,iz dp0,iz sq,iz ak,iz fl,iz wn, .slice A xs.length c]:List Value).toArray)] rfl rfl ⟨rfl,rfl,rfl,trivial⟩ ?_;intro a0 H0;have O0:=X0.start w;refine rl ?_;refine H0.bx O0 1 (L:=[iz sp0,iz dp0,iz sq,iz ak,iz fl,iz wn, .slice A xs.length c]) fun a w1 O1 H=>nt ?_;generalize hg:w.heap.size=g at O1 H;refine H.rg 2 fun a H=>?_;refine H.sc O1 0 1 (D6 g 0 1883 · w1) (fun a w2 O2 H=>?_);refine H.sc O2 0 0 (D6 g 1 (port:Int) · w2) (fun a w3 O3 H=>nt ?_);replace O3:X0 w g [(g,[iz 1883,iz port,iz sq,iz ak,iz fl,iz wn, .slice A xs.length c])] w3:=O3;replace H:=H.kp [0,5];refine H.rg 2 fun a H=>?_;refine H.loadS rfl rfl rfl rfl rfl (O3.get 0 rfl) Tryz.underlying36 rfl Z1s rfl fun a H=>?_;refine H.cl (X0m ti 1883 port sq ak fl wn xs A c hq hti w3 (hx.next (hg▸O3.bel))) ?_;rintro a _ w4 ⟨A1,c1,rfl,hO1,hb4⟩ H;have O4:=O3.call hb4;have hr4:=S4 (Z0n 167772161 ti 1883 port sq ak fl wn xs) hO1 hb4.size;have hpk:=X7v (src:=167772161) (dst:=ti) (q:=⟨1883,port,sq,ak,fl,wn,xs⟩) (by decide) hti hl;refine H.any (w':=w4) gz rfl rfl (.agg ([iz 167772161,iz ti,iz 6,iz 64,iz 0, .slice A1 (20+xs.length) c1]:List Value).toArray) (by intro cs b h;cases h) (by kernel_rfl) (by kernel_rfl) fun a H=>?_;refine H.nk O4 0 (L:=[iz 167772161,iz ti,iz 6,iz 64,iz 0, .slice A1 (20+xs.length) c1]) rfl Y2q Z2w (fun a w5 hb5 O5 _ H=>nt ?_);generalize w4.heap.size=g7 at O5 H;refine H.rg 0 fun a H=>?_;refine H.loadS rfl rfl rfl rfl rfl (O5.get 0 rfl) Tryz.underlying89 rfl Z2w rfl fun a H=>?_;refine H.cl (X6b ti (D1 167772161 ti 1883 port sq ak fl wn xs) (20+xs.length) (Z0n ..) A1 c1 hpk w5 (hr4.next hb5)) ?_;rintro a _ w6 ⟨A2,c2,rfl,hO2,hb6⟩ H;have O6:=O5.call hb6;have hlen:(W6 167772161 ti 6 64 0 (20+xs.length)++D1 167772161 ti 1883 port sq ak fl wn xs).length=20+(20+xs.length):=by simp[Z2b,Z0n]
 have hr6:=S4 hlen hO2 hb6.size;refine H.any (w':=w6) gz rfl rfl (.agg ([iz ((3:Nat):Int),iz ((2199023255553:Nat):Int),iz ((2048:Nat):Int), .slice A2 (20+(20+xs.length)) c2]:List Value).toArray) (by intro cs b h;cases h) (by kernel_rfl) (by kernel_rfl) fun a H=>?_;rw[←hlen] at H;refine H.cl (Y6h 3 2199023255553 2048 (W6 167772161 ti 6 64 0 (20+xs.length)++D1 167772161 ti 1883 port sq ak fl wn xs) A2 c2 w6 (by decide) (by decide) (by decide) hr6 (by rw[hlen];omega)) ?_;rintro a v w7 ⟨hrow,hb7⟩ H;refine H.ms 1 fun a H=>nt (wp_ret ?_);repeat with_reducible first |apply Z4 |apply Z5
 refine bodyPost_ret (results_tmp rfl _ _ _) H.df ⟨v,congrArg Ending.returned (H.at_ 6 _ rfl), ?_,hg▸(O6.call hb7).bel⟩;have e:Y9t 3 2199023255553 167772161 ti ⟨1883,port,sq,ak,fl,wn,xs⟩=Z1q 3 2199023255553 2048 (W6 167772161 ti 6 64 0 (20+xs.length)++D1 167772161 ti 1883 port sq ak fl wn xs):=by
  unfold Y9t Pk.bytes Sg.bytes;show Z1q 3 2199023255553 2048 (W6 167772161 ti 6 64 0 (D1 167772161 ti 1883 port sq ak fl wn xs).length++_)=_;rw[Z0n];rfl
 rw[e];exact hrow.base (hg▸O6.le)
end
section
open Go.RowKit
def Z5w (b:Nat) (x:List UInt8) (u:Value) (w:World):Prop:=∃A c,u = .slice A x.length c∧x.length≤c∧RBS w (fun k=>b≤k) A x
theorem Z5w.next {b:Nat}{x:List UInt8}{u:Value}{w w':World}(h:Z5w b x u w) (hb:Below w.heap.size w w'):Z5w b x u w':=by
 obtain⟨A,c,h1,h2,h3⟩:=h;exact⟨A,c,h1,h2,h3.grown (X2 hb none) (fun k e=>by cases e)⟩
theorem Z5w.base {b b':Nat}{x:List UInt8}{u:Value}{w:World}(h:Z5w b x u w) (hb:b'≤b):Z5w b' x u w:=by
 obtain⟨A,c,h1,h2,h3⟩:=h;exact⟨A,c,h1,h2,h3.mono fun k _ hk=>Nat.le_trans hb hk⟩
theorem Z5w.of {b:Nat}{x:List UInt8}{u:Value}{w:World}(h:Y2 b x u w):Z5w b x u w:=by
 obtain⟨A,c,rfl,hO⟩:=h;exact⟨A,c,rfl,Z4s hO,(RBS.of_row hO rfl).mono fun k _ hk=>hk.1⟩
theorem X0n {b:Nat}{w:World}:∀p∈([]:List (Value×List UInt8)),Z5w b p.2 p.1 w:=fun p hp=>by cases hp
theorem Y1r {b:Nat}{w:World}{u:Value}{x:List UInt8}{l:List (Value×List UInt8)}(h:Z5w b x u w) (hl:∀p∈l,Z5w b p.2 p.1 w):∀p∈(u,x)::l,Z5w b p.2 p.1 w:=fun p hp=>by
 rcases List.mem_cons.1 hp with rfl |hp
 ·exact h
 ·exact hl p hp
theorem Z5w.shape {b:Nat}{x:List UInt8}{u:Value}{w:World}(h:Z5w b x u w):∃A n c,u = .slice A n c∧Z5w b x (.slice A n c) w:=by
 obtain⟨A,c,rfl,h2,h3⟩:=h;exact⟨A,x.length,c,rfl,A,c,rfl,h2,h3⟩
def L4 (b:Nat) (fs:List (Value×List UInt8)) (v:Value) (w:World):Prop:=
 w.ownsRow b 31 1 v fs.length (fs.map (·.1))∧∀p∈fs,∃A c,p.1 = .slice A p.2.length c∧p.2.length≤c∧RBS w (fun k=>some k≠v.ownBlock) A p.2
theorem L4.next {b:Nat}{fs:List (Value×List UInt8)}{v:Value}{w w':World}(h:L4 b fs v w) (hb:Below w.heap.size w w'):L4 b fs v w':=by
 refine⟨Y1 h.1 hb,fun p hp=>?_⟩;obtain⟨A,c,h1,h2,h3⟩:=h.2 p hp;exact⟨A,c,h1,h2,h3.grown (X2 hb none) (fun k e=>by cases e)⟩
theorem L4.frs {b:Nat}{fs:List (Value×List UInt8)}{v:Value}{w:World}(h:L4 b fs v w):∃A c,v = .slice A (fs.map (·.2)).length c∧Z2j w (fun _=>True) A (fs.map (·.2)):=by
 obtain⟨A,c,rfl,_,_⟩:=V3 h.1;refine⟨A,c,by rw[List.length_map],fun k x hk=>?_⟩;rw[List.getElem?_map] at hk;cases hp:fs[k]? with
 |none=>rw[hp] at hk;cases hk
 |some p=>
  rw[hp] at hk;injection hk with hk
  subst hk;have hlt:k<fs.length:=(List.getElem?_eq_some_iff.1 hp).1;obtain⟨g,cap,hA,_,hgl⟩:=h.1.form (by omega);injection hA with e1 _ e2
  subst e1 e2;have hck:=h.1.cells (g:=g) rfl k p.1 (by rw[List.getElem?_map,hp];rfl);rw[Addr.add_mid] at hck;obtain⟨A',c',h1,h2,h3⟩:=h.2 p (List.mem_of_getElem? hp);exact⟨g,0,A',c',rfl,trivial,hgl,by rw[←h1];exact hck,h2,h3.mono fun _ _ _=>trivial⟩
theorem Y2.next {b:Nat}{xs:List UInt8}{v:Value}{w w':World}(h:Y2 b xs v w) (hb:Below w.heap.size w w'):Y2 b xs v w':=h.below hb
theorem Y2.rb {b n c:Nat}{A:Option Addr}{xs:List UInt8}{w:World}(h:Y2 b xs (.slice A n c) w):RB w w.heap.size A xs:=by
 obtain⟨A',c',e,hr⟩:=h.read;injection e with e1 _ _
 rw[e1];exact hr
theorem L4.at_ {b n c:Nat}{A:Option Addr}{fs:List (Value×List UInt8)}{w:World}(h:L4 b fs (.slice A n c) w):Z2j w (fun _=>True) A (fs.map (·.2)):=by
 obtain⟨A',c',e,hf⟩:=h.frs;injection e with e1 _ _
 rw[e1];exact hf
theorem L4.lit {b:Nat}{fs:List (Value×List UInt8)}{w:World}(h:∀p∈fs,Z5w b p.2 p.1 w) (hn:fs.length≤maxLen):L4 w.heap.size fs (.slice (some ⟨w.heap.size,0,none⟩) fs.length fs.length) (w.alloc (.cells (fs.map (·.1)).toArray 31)):=by
 refine⟨J8f w (fs.map (·.1)) 31 1 fs.length (by rw[List.length_map,Nat.mul_one]) hn,fun p hp=>?_⟩;obtain⟨A,c,h1,h2,h3⟩:=h p hp;exact⟨A,c,h1,h2,(h3.mono (S':=fun k=>k<w.heap.size) fun k hk _=>hk).grown (X2 (G0 w _) none) (fun k e=>by cases e) |>.mono fun k _ hk e=>absurd (show k=w.heap.size by injection e) (Nat.ne_of_lt (show k<w.heap.size from hk))⟩
theorem L4.app {b b2:Nat}{fs fs2:List (Value×List UInt8)}{v v':Value}{w w':World}(h:L4 b fs v w) (h2:∀p∈fs2,Z5w b2 p.2 p.1 w) (hv:∀k,b2≤k→some k≠v.ownBlock)
  (hO:w'.ownsRow b 31 1 v' (fs.length+fs2.length) (fs.map (·.1)++fs2.map (·.1))) (hg:w.grownBy w' v.ownBlock) (hfr:v'.ownBlock=v.ownBlock∨v'.ownBlock=some w.heap.size):L4 b (fs++fs2) v' w':=by
 refine⟨by rw[List.length_append,List.map_append];exact hO,fun p hp=>?_⟩;have key:∃A c,p.1 = .slice A p.2.length c∧p.2.length≤c∧RBS w (fun k=>some k≠v.ownBlock) A p.2:=by
  rcases List.mem_append.1 hp with hp |hp
  ·exact h.2 p hp
  ·obtain⟨A,c,h1,h3,h4⟩:=h2 p hp
   exact⟨A,c,h1,h3,h4.mono fun k _ hk=>hv k hk⟩
 obtain⟨A,c,h1,h3,h4⟩:=key;refine⟨A,c,h1,h3,((h4.mono (S':=fun k=>some k≠v.ownBlock∧k<w.heap.size) fun k hk hS=>⟨hS,hk⟩).grown hg (fun k e hS=>hS.1 e.symm)).mono fun k _ hS=>?_⟩;rcases hfr with hf |hf
 ·rw[hf];exact hS.1
 ·rw[hf];intro e;injection e with e;omega
theorem X0o:(Tryz.prog.info? 31).map (fun i=>(i.zero,i.size,i.bytes))=some (some Z2,1,24):=by kernel_rfl
theorem Z9.appF {ops:Array Oper}{rest:List Oper}{o:Oper}{a:Act}{w:World}{Q:Exit→Act→World→Prop}{n:Nat}{l:List (Nat×Value)}(H:Z9 a n l) {s x:Operand}{t e:TypeId}{d base size bytes k m c:Nat}{z u:Value}{A:Option Addr}{xs ys:List Value}(hown:w.ownsRow base e size u k xs) (hi:(Tryz.prog.info? e).map (fun i=>(i.zero,i.size,i.bytes))=some (some z,size,bytes))
  (hr:X4 w w.heap.size size A m ys) (h1:∀u∈ys,u.oneCell'=true) (hn:k+m≤maxLen) (hb:(k+m)*bytes≤140737488355328) (hbase:base≤w.heap.size) (h:∀a' A' c' w',w'.ownsRow base e size (.slice A' (k+m) c') (k+m) (xs++ys)→w.grownBy w' u.ownBlock→((Value.slice A' (k+m) c').ownBlock=u.ownBlock∨(Value.slice A' (k+m) c').ownBlock=some w.heap.size)→Z9 a' n ((d, .slice A' (k+m) c')::l)→wpList Tryz.prog ops Q rest a' w')
  (ho:o.op = .call { callee:=.builtin .append,args:=#[s,x],argTypes:=#[t,t] }:=by rfl) (hd:o.dst=some d:=by rfl) (hnn:Nat.blt d n=true:=by rfl) (hg:o.guard=none:=by rfl) (ht:Tryz.prog.underlying t=some (.slice e):=by kernel_rfl) (hzs:z.cells.size=size:=by rfl) (hsz:0<size:=by decide)
  (hs:W1 l s=some u:=by rfl) (hx:W1 l x=some (.slice A m c):=by rfl):wpList Tryz.prog ops Q (o::rest) a w:=by
 obtain⟨A',c',w',hrun,hO,hgr,hfr⟩:=X3c (a:=a) ho ht hi hzs hsz (H.ev hs) hown (H.ev hx) hr h1 hn hb hbase;exact H.go (gz hg) hd hnn _ hrun fun a' H'=>h a' A' c' w' hO hgr hfr H'
section
variable {ops:Array Oper}{Q:Exit→Act→World→Prop}{n:Nat}{l:List (Nat×Value)}{Wp:World→Prop}{i s:Nat}{v:Value}{o:Oper}
end
end
section
open Go.RowKit
theorem J8x (a b:Nat) (h:a+b<9223372036854775807) (x y:Operand) (w:World):(do eqGuard .add 3 x y (iz a) (iz b);binOp .add 3 (iz a) (iz b):Sem Value).run Tryz.prog w = .ok (iz ((a+b:Nat):Int)) w:=by
 simp[go_sem];exact IntWalk.i64_in _ (by omega)
theorem X8y (a:Nat) (h:0<a) (h2:a<1000000) (x y:Operand) (w:World):(do eqGuard .sub 3 x y (iz a) (iz 1);binOp .sub 3 (iz a) (iz 1):Sem Value).run Tryz.prog w = .ok (iz ((a-1:Nat):Int)) w:=by
 have e:(a:Int)-1=((a-1:Nat):Int):=by omega
 simp[go_sem];rw[e];exact IntWalk.i64_in _ (by omega)
theorem Q4y (a b:Nat) (h:a<4294967296) (h2:b<4294967296) (x y:Operand) (w:World):(do eqGuard .sub 3 x y (iz a) (iz b);binOp .sub 3 (iz a) (iz b):Sem Value).run Tryz.prog w = .ok (iz ((a:Int)-(b:Int))) w:=by
 simp[go_sem];exact IntWalk.i64_in _ (by omega)
theorem Q0t (n:Int) (x y:Operand) (w:World):(do eqGuard .rem 3 x y (iz n) (iz 4294967296);binOp .rem 3 (iz n) (iz 4294967296):Sem Value).run Tryz.prog w = .ok (iz (n.tmod 4294967296)) w:=by
 simp[go_sem]
theorem Q2g (n:Int) (h: -4294967296<n) (h2:n<4294967296):n.tmod 4294967296=n:=by
 rcases Int.lt_or_le n 0 with h0 |h0
 ·obtain⟨k,rfl⟩:∃k:Nat,n = -(k:Int):=⟨(-n).toNat,by omega⟩
  rw[Int.neg_tmod,Int.tmod_eq_emod_of_nonneg (by omega)];omega
 ·rw[Int.tmod_eq_emod_of_nonneg h0]
  omega
theorem J8y (n:Int) (h: -4294967296<n) (h2:n<0) (x y:Operand) (w:World):(do eqGuard .add 3 x y (iz n) (iz 4294967296);binOp .add 3 (iz n) (iz 4294967296):Sem Value).run Tryz.prog w = .ok (iz (n+4294967296)) w:=by
 simp[go_sem];exact IntWalk.i64_in _ (by omega)
theorem Q7g (s f:Nat) (hs:s≤4294967295) (hf:f≤4294967295) (w:World):Calls Tryz.prog 128 #[iz ((s:Int)-(f:Int)),iz 4294967296] w fun e w'=>e = .returned (iz (Z0u s f))∧w=w':=by
 obtain⟨n,hn⟩:∃n:Int,(s:Int)-(f:Int)=n:=⟨_,rfl⟩;have e:((Z0u s f:Nat):Int)=n%4294967296:=by unfold Z0u;omega
 rw[e,hn];go_enter Tryz.func128,Tryz.ntmps128;refine Z9.start 14 [(0,iz n),(1,iz 4294967296)] rfl rfl ⟨rfl,rfl,trivial⟩ ?_;intro a0 H0;refine H0.rg 1 fun a H=>nt ?_;refine H.rg 2 fun a H=>?_;refine H.bn 1 (Q0t n _ _ w) fun a H=>nt ?_;rw[Q2g n (by omega) (by omega)] at H;replace H:=H.kp [0,1];refine Z8 (fun a w'=>w'=w∧Z9 a 14 [(0,iz (n%4294967296))]) ?_ ?_
 ·obtain⟨b1,e1⟩:∃b,decide (n<0)=b:=⟨_,rfl⟩
  refine H.rg 1 fun a H=>?_;refine H.bb 0 rfl rfl rfl rfl rfl rfl (Q3 n 0 b1 e1 _ _ _) rfl fun a H=>nt (H.cond (t:=b1) rfl ?_);cases b1 with
  |false=>
   have:=of_decide_eq_false e1;refine Z3 ⟨rfl, ?_⟩;rw[show n%4294967296=n by omega];exact H.keep ⟨rfl,trivial⟩
  |true=>
   have:=of_decide_eq_true e1;replace H:=H.kp [0,1];refine H.rg 2 fun a H=>?_;refine H.bn 1 (J8y n (by omega) this _ _ w) fun a H=>wpList_nil ?_;refine⟨rfl, ?_⟩;rw[show n%4294967296=n+4294967296 by omega];exact H.keep ⟨rfl,trivial⟩
 ·rintro a w' ⟨hw,H⟩
  subst hw;refine H.rg 2 fun a H=>nt (wp_ret ?_);repeat with_reducible first |apply Z4 |apply Z5
  exact bodyPost_ret (results_tmp rfl _ _ _) H.df ⟨congrArg Ending.returned (H.at_ 4 _ rfl),rfl⟩
theorem Q4z (s f:Nat) (hs:s≤4294967295) (hf:f≤4294967295) (w:World):Calls Tryz.prog 100 #[iz s,iz f] w fun e w'=>e = .returned (iz (Z0u s f))∧w=w':=by
 go_enter Tryz.func100,Tryz.ntmps100
 refine Z9.start 9 [(0,iz s),(1,iz f)] rfl rfl ⟨rfl,rfl,trivial⟩ ?_;intro a0 H0;refine H0.rg 1 fun a H=>nt ?_;refine H.rg 2 fun a H=>?_;refine H.bn 0 (Q4y s f (by omega) (by omega) _ _ w) fun a H=>?_;refine H.cq 1 (Q7g s f hs hf w) fun a H=>nt (wp_ret ?_);repeat with_reducible first |apply Z4 |apply Z5
 exact bodyPost_ret (results_tmp rfl _ _ _) H.df ⟨congrArg Ending.returned (H.at_ 4 _ rfl),rfl⟩
theorem Z8d (o g:Nat) (w:World):(Instr.fieldAt 153 (.pointer (some ⟨g,o,none⟩)) 1).run Tryz.prog w = .ok (.pointer (some ⟨g,o+1,none⟩)) w:=by kernel_rfl
theorem J5k (o g:Nat) (w:World):(Instr.fieldAt 153 (.pointer (some ⟨g,o,none⟩)) 0).run Tryz.prog w = .ok (.pointer (some ⟨g,o,none⟩)) w:=by kernel_rfl
theorem J8z:(Tryz.prog.info? 153).map (fun i=>(i.zero,i.size,i.bytes))=some (some (.agg #[iz 0,Z2]),2,32):=by kernel_rfl
theorem J5l {t e k:Nat}{z:Value}{o:Oper}{a:Act}{w:World}(ht:Tryz.prog.underlying t=some (.slice e)) (hi:(Tryz.prog.info? e).map (fun i=>(i.zero,i.size,i.bytes))=some (some z,1,1)) (hk:k≤1000000) (hp:o.op = .makeSlice t (.const (iz k)) (.const (iz k))):
  (execOp a.eval o).run Tryz.prog w = .ok (.value (.slice (some ⟨w.heap.size,0,none⟩) k k)) (w.alloc (.cells (madeCells z.cells k) e)):=by
 obtain⟨i,hi0,hz0,hz1,hz2⟩:=info_parts (P:=Tryz.prog) hi;have hr:=run_make (P:=Tryz.prog) w t e i z ht hi0 hz0 .i64 .i64 (k:Int) (k:Int) (by omega) (Int.le_refl _) (by rw[hz2];omega) (by omega);rw[Int.toNat_natCast,hz1,Nat.mul_one] at hr;unfold execOp;simp only[hp,Act.eval,Sem.run_bind,hr,Result.andThen_ok,Sem.run_pure]
def S5 (m:List (Option UInt8)):List Value:=Y0b m++[.bool false]
theorem Q2h:S5 B8=List.replicate 2049 (.bool false):=by
 unfold S5;rw[X5p];exact List.replicate_succ'.symm
theorem X3n (m:List (Option UInt8)):(S5 m).length=m.length+1:=by unfold S5;rw[List.length_append,Z8y];rfl
theorem Y4h {m:List (Option UInt8)}{i:Nat}{o:Option UInt8}(h:m[i]? = some o):(S5 m)[i]? = some (.bool o.isSome):=by
 unfold S5;rw[List.getElem?_append_left (by rw[Z8y];exact(List.getElem?_eq_some_iff.1 h).1)];exact Y1n h
theorem J5m {m:List (Option UInt8)}{i:Nat}(h:m.length=i):(S5 m)[i]? = some (.bool false):=by
 unfold S5;rw[List.getElem?_append_right (by rw[Z8y];omega),Z8y,h,Nat.sub_self];rfl
theorem X3o (m:List (Option UInt8)) {i:Nat}(x:UInt8) (h:i<m.length):(S5 m).set i (.bool true)=S5 (m.set i (some x)):=by
 unfold S5;rw[List.set_append_left _ _ (by rw[Z8y];exact h),X2l]
theorem X6c {nx:Nat}{m:List (Option UInt8)}{ps:List (Nat×List UInt8)}{k:Nat}{p:Nat×List UInt8}(h:ps[k]? = some p):Z4o nx m (ps.take (k+1))=Z2i (Z4o nx m (ps.take k)) (Z0u p.1 nx) p.2:=by
 unfold Z4o;rw[List.take_add_one,h,List.foldl_append];rfl
structure Z2z (w:World) (b u nq:Nat) (l:List (Nat×List UInt8)) (cs:List Value):Prop where
 len:cs.length=l.length*2
 at_:∀k p,l[k]? = some p→∃v,cs[k*2]? = some (iz (Y6 nq p.1:Nat))∧cs[k*2+1]? = some v∧Y2 b p.2 v w∧∀q,v.ownBlock=some q→q<u
section
variable {w w':World}{b u u' nq:Nat}{l:List (Nat×List UInt8)}{cs:List Value}
theorem Z2z.next (h:Z2z w b u nq l cs) (hb:Below w.heap.size w w'):Z2z w' b u nq l cs:=⟨h.len,fun k p hk=>by
 obtain⟨v,h1,h2,h3,h4⟩:=h.at_ k p hk;exact⟨v,h1,h2,h3.below hb,h4⟩⟩
theorem Z2z.kept {r:Option Nat}(h:Z2z w b u nq l cs) (hg:w.grownBy w' r) (hr:∀q,r=some q→u≤q):Z2z w' b u nq l cs:=⟨h.len,fun k p hk=>by
 obtain⟨v,h1,h2,⟨A,c,rfl,h3⟩,h4⟩:=h.at_ k p hk;refine⟨_,h1,h2,⟨A,c,rfl,h3.kept hg ?_⟩,h4⟩;cases e:(Value.slice A p.2.length c).ownBlock with
 |none=>exact .inl rfl
 |some q=>
  refine .inr fun e2=>?_;have:=hr q e2.symm;have:=h4 q e;omega⟩
theorem Z2z.apart {b' s n T:Nat}{ys:List Value}{v:Value}(h:Z2z w b u nq l cs) (hO:w.ownsRow b' T s v n ys) (hg:w.grownBy w' v.ownBlock) (hT:Nat.beq 5 T=false):Z2z w' b u nq l cs:=⟨h.len,fun k p hk=>by
 obtain⟨v,h1,h2,⟨A,c,rfl,h3⟩,h4⟩:=h.at_ k p hk;exact⟨_,h1,h2,⟨A,c,rfl,h3.kept hg (G8 h3 hO hT)⟩,h4⟩⟩
theorem Z2z.top (h:Z2z w b u nq l cs):Z2z w b w.heap.size nq l cs:=⟨h.len,fun k p hk=>by
 obtain⟨v,h1,h2,⟨A,c,rfl,h3⟩,h4⟩:=h.at_ k p hk;refine⟨_,h1,h2,⟨A,c,rfl,h3⟩,fun q hq=>?_⟩;exact(h3.lt q hq).2⟩
theorem Z2z.snoc {a:Nat}{ys:List UInt8}{v:Value}(h:Z2z w b u nq l cs) (hv:Y2 b ys v w):Z2z w b w.heap.size nq (l++[(a,ys)]) (cs++[iz (Y6 nq a),v]):=by
 have ht:=h.top;refine⟨by rw[List.length_append,List.length_append,h.len];show _+2=(_+1)*2;omega,fun k p hk=>?_⟩;rcases Nat.lt_or_ge k l.length with hlt |hge
 ·rw[List.getElem?_append_left hlt] at hk
  obtain⟨v',h1,h2,h3,h4⟩:=ht.at_ k p hk;exact⟨v',by rw[List.getElem?_append_left (by rw[h.len];omega)];exact h1,by rw[List.getElem?_append_left (by rw[h.len];omega)];exact h2,h3,h4⟩
 ·have hkl:k=l.length:=by
   have:=(List.getElem?_eq_some_iff.1 hk).1;rw[List.length_append,List.length_singleton] at this;omega
  subst hkl;rw[List.getElem?_append_right (Nat.le_refl _),Nat.sub_self] at hk;injection hk with hk
  subst hk;refine⟨v,by rw[List.getElem?_append_right (by rw[h.len];omega),h.len,Nat.sub_self];rfl,by rw[List.getElem?_append_right (by rw[h.len];omega),h.len,Nat.add_sub_cancel_left];rfl,hv,fun q hq=>?_⟩;obtain⟨A,c,rfl,h3⟩:=hv;exact(h3.lt q hq).2
theorem Z2z.pp (h:Z2z w b u nq l cs):PP w b nq l cs:=⟨h.len,fun k p hk=>by
 obtain⟨v,h1,h2,h3,_⟩:=h.at_ k p hk;exact⟨v,h1,h2,h3⟩⟩
end
def Y6i (m:List (Option UInt8)) (t i:Nat) (pl:List (Nat×List UInt8)):Prop:=∀r,Z0t m i r→Z0t m t (pl++r)
def Y3w (m:List (Option UInt8)) (t i:Nat) (pl:List (Nat×List UInt8)) (a:Nat) (ys:List UInt8):Prop:=
 ∀b zs r,i≤b→b≤m.length→zs.length=b-i→(∀j,i≤j→j<b→∃x,m[j]? = some (some x)∧zs[j-i]? = some x)→(b=m.length∨m[b]? = some none)→Z0t m b r→Z0t m t (pl++(a,ys++zs)::r)
section
variable {m:List (Option UInt8)}{t i a:Nat}{pl:List (Nat×List UInt8)}{ys:List UInt8}
theorem Y8r {r:List (Nat×List UInt8)}(h:Z0t m (i+1) r) (h0:m[i]? = some none):Z0t m i r:=by
 have key:∀j,i≤j→j<i+1→m[j]? = some none:=fun j h1 h2=>by rw[show j=i by omega];exact h0
 cases h with
 |done h=>
  refine .done fun j h1 h2=>?_;rcases Nat.lt_or_ge j (i+1) with h3 |h3
  ·exact key j h1 h3
  ·exact h j h3 h2
 |run g1 g2 g3 g4 g5 g6 g7 g=>
  refine .run (by omega) (fun j h1 h2=>?_) g3 g4 g5 g6 g7 g;rcases Nat.lt_or_ge j (i+1) with h3 |h3
  ·exact key j h1 h3
  ·exact g2 j h3 h2
theorem Y6i.none (h:Y6i m t i pl) (h0:m[i]? = some none):Y6i m t (i+1) pl:=fun r hr=>h r (Y8r hr h0)
theorem Y3w.none (h:Y3w m t i pl a ys) (h0:m[i]? = some none):Y6i m t (i+1) (pl++[(a,ys)]):=fun r hr=>by
 have:=h i [] r (Nat.le_refl _) (Nat.le_of_lt (List.getElem?_eq_some_iff.1 h0).1) (by rw[Nat.sub_self];rfl) (fun j h1 h2=>by omega) (.inr h0) (Y8r hr h0);rw[List.append_nil] at this;rw[List.append_assoc];exact this
theorem Y6i.some {x:UInt8}(h:Y6i m t i pl) (h0:m[i]? = some (some x)):Y3w m t (i+1) pl i [x]:=fun b zs r h1 h2 h3 h4 h5 h6=>by
 refine h _ (.run (Nat.le_refl _) (fun j h1 h2=>by omega) (by omega) h2 (fun j h7 h8=>?_) (by rw[List.length_append,h3];show 1+_=_;omega) h5 h6);rcases Nat.lt_or_ge j (i+1) with h9 |h9
 ·have:j=i:=by omega
  subst this;exact⟨x,h0,by rw[Nat.sub_self];rfl⟩
 ·obtain⟨y,e1,e2⟩:=h4 j h9 h8
  refine⟨y,e1, ?_⟩;rw[show j-i=(j-(i+1))+1 by omega];exact e2
theorem Y3w.some {x:UInt8}(h:Y3w m t i pl a ys) (h0:m[i]? = some (some x)):Y3w m t (i+1) pl a (ys++[x]):=fun b zs r h1 h2 h3 h4 h5 h6=>by
 have:=h b (x::zs) r (by omega) h2 (by rw[List.length_cons,h3];omega) (fun j h7 h8=>by
  rcases Nat.lt_or_ge j (i+1) with h9 |h9
  ·have:j=i:=by omega
   subst this;exact⟨x,h0,by rw[Nat.sub_self];rfl⟩
  ·obtain⟨y,e1,e2⟩:=h4 j h9 h8
   refine⟨y,e1, ?_⟩;rw[show j-i=(j-(i+1))+1 by omega];exact e2) h5 h6
 rw[List.append_assoc];exact this
theorem Y6i.fin (h:Y6i m t i pl) (hi:i=m.length):Z0t m t pl:=by
 have:=h [] (.done fun j h1 h2=>by omega)
 rwa [List.append_nil] at this
theorem Y3w.fin (h:Y3w m t i pl a ys) (hi:i=m.length):Z0t m t (pl++[(a,ys)]):=by
 have:=h i [] [] (Nat.le_refl _) (by omega) (by rw[Nat.sub_self];rfl) (fun j h1 h2=>by omega) (.inl hi) (.done fun j h1 h2=>by omega)
 rwa [List.append_nil] at this
end
theorem J9a {nq sq:Nat}{ps:List (Nat×List UInt8)}{xs:List UInt8}{m:List (Option UInt8)}{t:Nat}{pl:List (Nat×List UInt8)}(hq:nq≤4294967295) (hm:Z4j (Z4o nq B8 ps) (Z0u sq nq) 0 xs=m) (hl:m.length=2048) (ht:t≤2048) (hk:∀j,j<t→∃x,m[j]? = some (some x)) (hn:t=2048∨m[t]? = some none) (hr:Z0t m t pl):
  (8<pl.length→X8u nq ps sq xs nq ps [])∧(pl.length≤8→X8u nq ps sq xs (Y6 nq t) (T2 nq pl) ((Z8z m).take t)):=by
 rcases Nat.eq_zero_or_pos t with h0 |h0
 ·subst h0
  have hm0:m[0]? = some none:=by rcases hn with h |h;cases h;exact h
  have hrest:Z2n nq pl=pl∧Z8a nq pl=nq∧Z4v nq pl=[]:=by
   rcases pl with _ |⟨⟨a,x⟩,r⟩
   ·exact⟨rfl,rfl,rfl⟩
   ·have ha:=Y6g hr hm0 rfl
    have hge:=Z8b hr _ List.mem_cons_self;rw[hl] at hge;have hz:(Y6 nq a==nq)=false:=by
     have:=Z5q (p:=a) hq (by simp only at hge;omega);rw[beq_eq_false_iff_ne];intro e;rw[this] at e;exact ha e
    rw[Z0c,Z2t,Z0z,hz];exact⟨rfl,rfl,rfl⟩
  refine⟨fun h=>⟨pl,by rw[hm];exact hr, .inl ⟨by rw[hrest.1];exact h,rfl,rfl,rfl⟩⟩,fun h=>⟨pl,by rw[hm];exact hr, .inr ⟨by rw[hrest.1];exact h, ?_,by rw[hrest.1],by rw[hrest.2.2];rfl⟩⟩⟩;rw[hrest.2.1,Z9a hq]
 ·have hyl:((Z8z m).take t).length=t:=by rw[List.length_take,Y5p];omega
  have hrun:Z0t m 0 ((0,(Z8z m).take t)::pl):=.run (Nat.le_refl _) (fun j h1 h2=>by omega) h0 (by omega) (fun j _ h2=>by
   obtain⟨x,e⟩:=hk j h2;refine⟨x,e, ?_⟩;rw[Nat.sub_zero,List.getElem?_take,if_pos h2];unfold Z8z;rw[List.getElem?_map,e];rfl) (by omega) (by rw[hl];exact hn) hr
  have hz:(Y6 nq 0==nq)=true:=by rw[Z9a hq];exact beq_self_eq_true _
  refine⟨fun h=>⟨_,by rw[hm];exact hrun, .inl ⟨by rw[Z0c,hz];exact h,rfl,rfl,rfl⟩⟩,fun h=>⟨_,by rw[hm];exact hrun, .inr ⟨by rw[Z0c,hz];exact h, ?_,by rw[Z0c,hz];rfl,by rw[Z0z,hz];rfl⟩⟩⟩;rw[Z2t,hz,cond_true,hyl]
end
section
open Go.RowKit
theorem X3p {W w:World}{B k:Nat}{bs:List (Nat×List Value)}{z:Value}{e:TypeId}{L:List Value}(O:X0 W B bs w) (hz:z.cells = #[z]) (hL:L=List.replicate k z):X0 W B ((w.heap.size,L)::bs) (w.alloc (.cells (madeCells z.cells k) e)):=by
 have hC:(madeCells z.cells k).toList=L:=by rw[hz,toList_madeCells_one,hL]
 exact O.alloc (G0 w _) (by simp) (L:=L) (X5.of_heap (by rw[heap_alloc_new,←hC]))
theorem Q5a (n:Nat) (x y:Operand) (w:World):(do eqGuard .rem 3 x y (iz n) (iz 4294967296);binOp .rem 3 (iz n) (iz 4294967296):Sem Value).run Tryz.prog w = .ok (iz ((n%4294967296:Nat):Int)) w:=by
 rw[Q0t,Int.tmod_eq_emod_of_nonneg (Int.natCast_nonneg n)];rfl
theorem Q5b (n:Nat) (h:n<999999) (x y:Operand) (w:World):(do eqGuard .sub 3 x y (iz ((n+1:Nat):Int)) (iz 1);binOp .sub 3 (iz ((n+1:Nat):Int)) (iz 1):Sem Value).run Tryz.prog w = .ok (iz n) w:=by
 have:=X8y (n+1) (Nat.succ_pos _) (Nat.succ_lt_succ h) x y w
 rwa [Nat.add_sub_cancel] at this
theorem J5n {m:List (Option UInt8)}{i:Nat}{l:List (Nat×List UInt8)}(h:Z0t m i l) {k:Nat}(hk:m.length=k):l.length≤k:=by
 have key:∀{i l},Z0t m i l→i≤m.length→l.length+i≤m.length:=by
  intro i l h
  induction h with
  |done=>intro h;show 0+_≤_;omega
  |run g1 g2 g3 g4 g5 g6 g7 g ih=>intro h;have:=ih g4;rw[List.length_cons];omega
 rcases Nat.lt_or_ge i m.length with h1 |h1
 ·have:=key h (by omega);omega
 ·cases h with
  |done=>exact Nat.zero_le _
  |run g1 g2 g3 g4=>omega
section
variable {ops:Array Oper}{Q:Exit→Act→World→Prop}{n:Nat}{l:List (Nat×Value)}{Wp:World→Prop}{i s:Nat}{o:Oper}
theorem jsq {T:Nat}{x hi:Operand}{u z r:Value}(hq:∀w,(Instr.sliceAt T u none (some z) none).run Tryz.prog w = .ok r w) (ho:ops[i]? = some o:=by rfl) (hp:o.op = .slice T x none (some hi) none:=by rfl) (hd:o.dst=some s:=by rfl) (hg:okG ops l o=true:=by rfl) (hx:W1 l x=some u:=by rfl) (hz:W1 l hi=some z:=by rfl):Z1h ops Q n l Wp i s r:=
 fun _ _ w H _ hK=>V7 ho (Z0g H hg) s hd r w (Z6l hp (H.ev hx) (H.ev hz) (hq w)) hK
end
def Q5c (nq:Nat) (AP:Option Addr) (ps:List (Nat×List UInt8)) (sq:Nat) (xs:List UInt8) (W:World) (v:Value) (w:World):Prop:=
 ∃nq' ps' told AP' c A2 c2,v = .tuple #[.agg ([iz (nq':Nat), .slice AP' (ps':List (Nat×List UInt8)).length c]:List Value).toArray, .slice A2 (told:List UInt8).length c2]∧X8u nq ps sq xs nq' ps' told∧((AP'=AP∧ps'=ps)∨E0 w (SP W.heap.size w) AP' ps')∧RBS w (SP W.heap.size w) A2 told∧Below W.heap.size W w
theorem J5o (nq:Nat) (AP:Option Addr) (cP:Nat) (ps:List (Nat×List UInt8)) (sq:Nat) (xs:List UInt8) (A:Option Addr) (c:Nat) (w:World) (hq:nq≤4294967295) (hs:sq≤4294967295) (hl:ps.length≤100000) (hn:xs.length≤65536) (hP:Z3v w w.heap.size AP ps) (hps:∀p∈ps,p.1≤4294967295∧Z0u p.1 nq+p.2.length≤2048) (hr:RB w w.heap.size A xs):
  Calls Tryz.prog 62 #[.agg ([iz nq, .slice AP ps.length cP]:List Value).toArray,iz sq, .slice A xs.length c] w fun e w'=>∃v,e = .returned v∧Q5c nq AP ps sq xs w v w':=by
 go_enter Tryz.func62,Tryz.ntmps62
 refine Z9.start 167 [(0, .agg ([iz nq, .slice AP ps.length cP]:List Value).toArray),(1,iz sq),(2, .slice A xs.length c)] rfl rfl ⟨rfl,rfl,rfl,trivial⟩ ?_;intro a0 H0;have O0:=X0.start w;refine rl ?_;refine H0.bx O0 0 (L:=[iz nq, .slice AP ps.length cP]) fun a w1 O1 H=>?_;generalize hg3:w.heap.size=g3 at O1 H hP hr ⊢;refine H.al O1 1 Z7e fun a w2 O2 H=>nt ?_;generalize w1.heap.size=g6 at O2 H;replace H:=H.kp [1,2,3,6];clear H0 O0 O1;refine rl ?_;refine H.go gz rfl rfl _ (J5l (k:=2049) Tryz.underlying151 Y8e (by decide) rfl) fun a H=>?_;have O3:=X3p O2 (e:=4) (z:=.bool false) rfl Q2h;generalize w2.alloc (.cells (madeCells (Value.bool false).cells 2049) 4)=w3 at O3;generalize w2.heap.size=gH at O3 H;refine H.ms 1 fun a H=>nt ?_;refine rl ?_;refine H.go gz rfl rfl _ (J5l (k:=2048) Tryz.underlying31 J4 (by decide) rfl) fun a H=>?_;have O4:=X3p O3 (e:=5) (z:=.int .u8 0) rfl X0b;generalize w3.alloc (.cells (madeCells (Value.int .u8 0).cells 2048) 5)=w4 at O4;generalize w3.heap.size=gB at O4 H;refine H.ms 1 fun a H=>nt ?_;replace H:=H.kp [1,2,3,6,8,9];clear O2 O3;have hw0:B8.length=2048:=List.length_replicate;refine Z8 (fun a w'=>Z9 a 167 [(1,iz sq),(2, .slice A xs.length c),(3,pz g3),(6,pz g6),(8, .slice (some ⟨gH,0,none⟩) 2049 2049),(9, .slice (some ⟨gB,0,none⟩) 2048 2048)]∧X0 w g3 [(gB,P2 (Z4o nq B8 ps)),(gH,S5 (Z4o nq B8 ps)),(g6,[iz 0,Z2]),(g3,[iz nq, .slice AP ps.length cP])] w') ?_ ?_
 ·refine H.rg 1 fun a H=>nt ?_
  replace H:=H.kp [1,2,3,6,8,9,10];refine wp_block ?_;refine Q7 ps.length (fun k a w'=>Z9 a 167 [(1,iz sq),(2, .slice A xs.length c),(3,pz g3),(6,pz g6),(8, .slice (some ⟨gH,0,none⟩) 2049 2049),(9, .slice (some ⟨gB,0,none⟩) 2048 2048),(10,iz k)]∧X0 w g3 [(gB,P2 (Z4o nq B8 (ps.take k))),(gH,S5 (Z4o nq B8 (ps.take k))),(g6,[iz 0,Z2]),(g3,[iz nq, .slice AP ps.length cP])] w') ⟨H,by rw[List.take_zero];exact O4⟩ ?_;clear H O4;rintro k a w5 hk ⟨H,O⟩;obtain⟨b1,e1⟩:∃b,decide ((k:Int)<((ps.length:Nat):Int))=b:=⟨_,rfl⟩;refine H.rg 2 fun a H=>?_;refine H.ld 0 (Z8x _ _ _ _ _ _ ((O.get 3 rfl).get 1 _ rfl)) fun a H=>?_;refine H.len gz rfl rfl rfl rfl Tryz.underlying102 fun a H=>?_;refine H.bb 0 rfl rfl rfl rfl rfl rfl (Q3 _ _ b1 e1 _ _ _) rfl fun a H=>nt (H.cond (t:=b1) rfl ?_);cases b1 with
  |false=>
   have:k=ps.length:=by have:=of_decide_eq_false e1;omega
   subst this;rw[List.take_length] at O;refine wp_exit ?_;repeat (with_reducible refine J7 ?_)
   refine X3 ?_;exact⟨H.keep ⟨rfl,rfl,rfl,rfl,rfl,rfl,trivial⟩,O⟩
  |true=>
  have hlt:k<ps.length:=by have:=of_decide_eq_true e1;omega
  clear e1;refine Z3 (Z0 ?_);obtain⟨p,hp⟩:∃p,ps[k]? = some p:=⟨_,List.getElem?_eq_getElem hlt⟩;obtain⟨hp1,hp2⟩:=hps p (List.mem_of_getElem? hp);obtain⟨g,o,A',c',hAP,hgB,hrg,hrp⟩:=hP k p hp;obtain⟨mk,hmk⟩:∃mk,Z4o nq B8 (ps.take k)=mk:=⟨_,rfl⟩;have hml:mk.length=2048:=by rw[←hmk,Y2u,hw0]
  have hnext:=X6c (nx:=nq) (m:=B8) hp;have hoff:=fun w'=>Q4z p.1 nq hp1 hq w';obtain⟨d,hd⟩:∃d,Z0u p.1 nq=d:=⟨_,rfl⟩;rw[hmk] at O hnext;rw[hd] at hnext hp2 hoff;have hixp:∀w',(Instr.indexAt 102 (.slice AP ps.length cP) (iz k)).run Tryz.prog w' = .ok (.pointer (some ⟨g,o+k*2,none⟩)) w':=fun w'=>by rw[hAP];exact Z3u 102 Tryz.underlying102 2 (fun _=>by kernel_rfl) _ _ _ _ _ hlt _
  have pc0:∀{w' m},X0 w g3 [(gB,P2 m),(gH,S5 m),(g6,[iz 0,Z2]),(g3,[iz nq, .slice AP ps.length cP])] w'→w'.cell? ⟨g,o+k*2,none⟩=some (iz p.1):=fun h=>(T6 h.bel hgB).trans (hrg 0 _ rfl);have pc1:∀{w' m},X0 w g3 [(gB,P2 m),(gH,S5 m),(g6,[iz 0,Z2]),(g3,[iz nq, .slice AP ps.length cP])] w'→w'.cell? ⟨g,o+k*2+1,none⟩=some (.slice A' p.2.length c'):=fun h=>(T6 h.bel hgB).trans (hrg 1 _ rfl);replace H:=H.kp [1,2,3,6,8,9,10];refine Z8 (fun a w'=>Z9 a 167 [(1,iz sq),(2, .slice A xs.length c),(3,pz g3),(6,pz g6),(8, .slice (some ⟨gH,0,none⟩) 2049 2049),(9, .slice (some ⟨gB,0,none⟩) 2048 2048),(10,iz k)]∧X0 w g3 [(gB,P2 (Z2i mk d p.2)),(gH,S5 (Z2i mk d p.2)),(g6,[iz 0,Z2]),(g3,[iz nq, .slice AP ps.length cP])] w') ?_ ?_
  rotate_left
  ·rintro a w6 ⟨H,O⟩
   refine H.rg 1 fun a H=>?_;refine H.bb 1 rfl rfl rfl rfl rfl rfl (E7 k (by omega) _ _ _) rfl fun a H=>nt ?_;exact⟨hlt,H.keep ⟨rfl,rfl,rfl,rfl,rfl,rfl,rfl,trivial⟩,by rw[hnext];exact O⟩
  refine wp_block ?_;refine H.dq (fun w'=>X0 w g3 [(gB,P2 mk),(gH,S5 mk),(g6,[iz 0,Z2]),(g3,[iz nq, .slice AP ps.length cP])] w') (fun _ _ h hb=>h.call hb) O [1,2,3,6,8,9,10] rfl [ec 0 29 (.pointer (some ⟨g3,1,none⟩)),ec 1 30 (.slice AP ps.length cP),ec 2 31 (iz k),ec 3 32 (.pointer (some ⟨g,o+k*2,none⟩)),ec 4 33 (.pointer (some ⟨g,o+k*2,none⟩)),ec 5 34 (iz p.1),ec 6 35 (pz g3),ec 7 36 (iz nq),ec 8 37 (iz d),ec 9 11 (iz d)] rfl
   ⟨jm,jl fun _ h=>Z8x _ _ _ _ _ _ ((h.get 3 rfl).get 1 _ rfl),jm,jI rfl rfl rfl rfl rfl rfl hixp,jf fun g w=>J5k (o+k*2) g w,jl fun _ h=>J9 _ _ _ _ (pc0 h),jm,jl fun _ h=>h.li 3 0,jq fun w' _=>hoff w',jm,trivial⟩ trivial ?_
  clear H O;intro a w6 H _ O;refine Z0 ?_;refine H.rg 1 fun a H=>nt ?_;replace H:=H.kp [1,2,3,6,8,9,10,11,12];refine wp_block ?_;refine Q7 p.2.length (fun j a w'=>Z9 a 167 [(1,iz sq),(2, .slice A xs.length c),(3,pz g3),(6,pz g6),(8, .slice (some ⟨gH,0,none⟩) 2049 2049),(9, .slice (some ⟨gB,0,none⟩) 2048 2048),(10,iz k),(11,iz d),(12,iz j)]∧X0 w g3 [(gB,P2 (Z2i mk d (p.2.take j))),(gH,S5 (Z2i mk d (p.2.take j))),(g6,[iz 0,Z2]),(g3,[iz nq, .slice AP ps.length cP])] w') ⟨H,by rw[List.take_zero];exact O⟩ ?_;clear H O;rintro j a w7 hj ⟨H,O⟩;obtain⟨b1,e1⟩:∃b,decide ((j:Int)<((p.2.length:Nat):Int))=b:=⟨_,rfl⟩;refine H.rg 2 fun a H=>?_;refine H.ld 1 (Z8x _ _ _ _ _ _ ((O.get 3 rfl).get 1 _ rfl)) fun a H=>?_;refine H.index gz rfl rfl rfl rfl rfl (hixp _) fun a H=>?_;refine H.go gz rfl rfl _ (S3 rfl (H.ev rfl) fun g w=>Z8d (o+k*2) g w) fun a H=>?_;refine H.ld 0 (U8 _ _ _ _ _ _ (pc1 O)) fun a H=>?_;refine H.len gz rfl rfl rfl rfl Tryz.underlying31 fun a H=>?_;refine H.bb 0 rfl rfl rfl rfl rfl rfl (Q3 _ _ b1 e1 _ _ _) rfl fun a H=>nt (H.cond (t:=b1) rfl ?_);cases b1 with
  |false=>
   have:j=p.2.length:=by have:=of_decide_eq_false e1;omega
   subst this;rw[List.take_length] at O;refine wp_exit ?_;repeat (with_reducible refine J7 ?_)
   refine X3 (Z6 ?_);exact⟨H.keep ⟨rfl,rfl,rfl,rfl,rfl,rfl,rfl,trivial⟩,O⟩
  |true=>
  have hjl:j<p.2.length:=by have:=of_decide_eq_true e1;omega
  clear e1;refine Z3 (Z0 ?_);obtain⟨mj,hmj⟩:∃mj,Z2i mk d (p.2.take j)=mj:=⟨_,rfl⟩;have hmjl:mj.length=2048:=by rw[←hmj,Y2t,hml]
  obtain⟨b,o2,x,hA2,hbB,hx,hcell⟩:=hrp.get hjl;have hnj:=Y6f p.2 mk d j x hx;rw[hmj] at O hnj;have hixd:∀w',(Instr.indexAt 31 (.slice A' p.2.length c') (iz j)).run Tryz.prog w' = .ok (.pointer (some ⟨b,o2+j,none⟩)) w':=fun w'=>by rw[hA2];exact U7 31 Tryz.underlying31 (fun _=>by kernel_rfl) _ _ _ _ _ hjl _
  replace H:=H.kp [1,2,3,6,8,9,10,11,12];refine Z8 (fun a w'=>Z9 a 167 [(1,iz sq),(2, .slice A xs.length c),(3,pz g3),(6,pz g6),(8, .slice (some ⟨gH,0,none⟩) 2049 2049),(9, .slice (some ⟨gB,0,none⟩) 2048 2048),(10,iz k),(11,iz d),(12,iz j)]∧X0 w g3 [(gB,P2 (mj.set (d+j) (some x))),(gH,S5 (mj.set (d+j) (some x))),(g6,[iz 0,Z2]),(g3,[iz nq, .slice AP ps.length cP])] w') ?_ ?_
  rotate_left
  ·rintro a w8 ⟨H,O⟩
   refine H.rg 1 fun a H=>?_;refine H.bb 1 rfl rfl rfl rfl rfl rfl (E7 j (by omega) _ _ _) rfl fun a H=>nt ?_;exact⟨hjl,H.keep ⟨rfl,rfl,rfl,rfl,rfl,rfl,rfl,rfl,rfl,trivial⟩,by rw[hnj];exact O⟩
  refine wp_block ?_;refine H.rg 3 fun a H=>?_;refine H.bn 3 (Y0l d j (by omega) _ _ _) fun a H=>?_;refine H.bn 1 (Y0l d j (by omega) _ _ _) fun a H=>?_;refine H.ld 1 (Z8x _ _ _ _ _ _ ((O.get 3 rfl).get 1 _ rfl)) fun a H=>?_;refine H.index gz rfl rfl rfl rfl rfl (hixp _) fun a H=>?_;refine H.go gz rfl rfl _ (S3 rfl (H.ev rfl) fun g w=>Z8d (o+k*2) g w) fun a H=>?_;refine H.ld 1 (U8 _ _ _ _ _ _ (pc1 O)) fun a H=>?_;refine H.index gz rfl rfl rfl rfl rfl (hixd _) fun a H=>?_;refine H.ld 0 (U3 _ _ _ _ ((T6 O.bel hbB).trans hcell)) fun a H=>?_;refine H.index gz rfl rfl rfl rfl rfl (Z2f gH 2049 2049 (d+j) (by omega) _) fun a H=>?_;refine H.sc O 1 0 (B7 gH (d+j) true · w7) (fun a w8 O8 H=>?_) (hj:=(Nat.blt_eq▸(show d+j<(S5 mj).length by rw[X3n];omega)));refine H.index gz rfl rfl rfl rfl rfl (Z8w gB 2048 2048 (d+j) (by omega) _) fun a H=>?_;refine H.sc O8 0 0 (Y5o gB (d+j) x · w8) (fun a w9 O9 H=>wpList_nil (Z6 ?_)) (hj:=(Nat.blt_eq▸(show d+j<(P2 mj).length by rw[X2m];omega)));have O9:X0 w g3 [(gB,(P2 mj).set (d+j) (bv x)),(gH,(S5 mj).set (d+j) (.bool true)),(g6,[iz 0,Z2]),(g3,[iz nq, .slice AP ps.length cP])] w9:=O9;rw[←Y5m,X3o mj x (by omega)] at O9;exact⟨H.keep ⟨rfl,rfl,rfl,rfl,rfl,rfl,rfl,rfl,rfl,trivial⟩,O9⟩
 clear H O4;rintro a w5 ⟨H,O⟩;obtain⟨m1,hm1⟩:∃m1,Z4o nq B8 ps=m1:=⟨_,rfl⟩;have hm1l:m1.length=2048:=by rw[←hm1,Y2u,hw0]
 rw[hm1] at O;have hoff:=fun w'=>Q4z sq nq hs hq w';have hol:=J5e sq nq;obtain⟨o0,ho0⟩:∃o0,Z0u sq nq=o0:=⟨_,rfl⟩;rw[ho0] at hoff hol;refine H.rg 2 fun a H=>?_;refine H.ld 0 (O.li 3 0) fun a H=>?_;refine H.cq 1 (hoff _) fun a H=>nt ?_;replace H:=H.kp [2,3,6,8,9,13];refine Z8 (fun a w'=>Z9 a 167 [(3,pz g3),(6,pz g6),(8, .slice (some ⟨gH,0,none⟩) 2049 2049),(9, .slice (some ⟨gB,0,none⟩) 2048 2048)]∧X0 w g3 [(gB,P2 (Z4j m1 o0 0 xs)),(gH,S5 (Z4j m1 o0 0 xs)),(g6,[iz 0,Z2]),(g3,[iz nq, .slice AP ps.length cP])] w') ?_ ?_
 ·refine H.rg 1 fun a H=>nt ?_
  replace H:=H.kp [2,3,6,8,9,13,14];refine wp_block ?_;refine Q7 xs.length (fun i a w'=>Z9 a 167 [(2, .slice A xs.length c),(3,pz g3),(6,pz g6),(8, .slice (some ⟨gH,0,none⟩) 2049 2049),(9, .slice (some ⟨gB,0,none⟩) 2048 2048),(13,iz o0),(14,iz i)]∧X0 w g3 [(gB,P2 (Z4j m1 o0 0 (xs.take i))),(gH,S5 (Z4j m1 o0 0 (xs.take i))),(g6,[iz 0,Z2]),(g3,[iz nq, .slice AP ps.length cP])] w') ⟨H,by rw[List.take_zero];exact O⟩ ?_;clear H O;rintro i a w6 hi ⟨H,O⟩;obtain⟨b1,e1⟩:∃b,decide ((i:Int)<((xs.length:Nat):Int))=b:=⟨_,rfl⟩;refine H.rg 2 fun a H=>?_;refine H.len gz rfl rfl rfl rfl Tryz.underlying31 fun a H=>?_;refine H.bb 0 rfl rfl rfl rfl rfl rfl (Q3 _ _ b1 e1 _ _ _) rfl fun a H=>nt (H.cond (t:=b1) rfl ?_);cases b1 with
  |false=>
   have:i=xs.length:=by have:=of_decide_eq_false e1;omega
   subst this;rw[List.take_length] at O;refine wp_exit ?_;repeat (with_reducible refine J7 ?_)
   refine X3 ?_;exact⟨H.keep ⟨rfl,rfl,rfl,rfl,trivial⟩,O⟩
  |true=>
  have hil:i<xs.length:=by have:=of_decide_eq_true e1;omega
  clear e1;refine Z3 (Z0 ?_);obtain⟨mi,hmi⟩:∃mi,Z4j m1 o0 0 (xs.take i)=mi:=⟨_,rfl⟩;have hmil:mi.length=2048:=by rw[←hmi,Y6e,hm1l]
  obtain⟨b,o2,x,hA2,hbB,hx,hcell⟩:=hr.get hil;have hnx:=Y8n xs m1 o0 0 i x hx;rw[Nat.zero_add,hmi] at hnx;rw[hmi] at O;have hixd:∀w',(Instr.indexAt 31 (.slice A xs.length c) (iz i)).run Tryz.prog w' = .ok (.pointer (some ⟨b,o2+i,none⟩)) w':=fun w'=>by rw[hA2];exact U7 31 Tryz.underlying31 (fun _=>by kernel_rfl) _ _ _ _ _ hil _
  obtain⟨mn,hmn⟩:∃mn,Z4j m1 o0 0 (xs.take (i+1))=mn:=⟨_,rfl⟩;rw[hmn] at hnx;replace H:=H.kp [2,3,6,8,9,13,14];refine Z8 (fun a w'=>Z9 a 167 [(2, .slice A xs.length c),(3,pz g3),(6,pz g6),(8, .slice (some ⟨gH,0,none⟩) 2049 2049),(9, .slice (some ⟨gB,0,none⟩) 2048 2048),(13,iz o0),(14,iz i)]∧X0 w g3 [(gB,P2 mn),(gH,S5 mn),(g6,[iz 0,Z2]),(g3,[iz nq, .slice AP ps.length cP])] w') ?_ ?_
  rotate_left
  ·rintro a w8 ⟨H,O⟩
   refine H.rg 1 fun a H=>?_;refine H.bb 1 rfl rfl rfl rfl rfl rfl (E7 i (by omega) _ _ _) rfl fun a H=>nt ?_;exact⟨hil,H.keep ⟨rfl,rfl,rfl,rfl,rfl,rfl,rfl,trivial⟩,by rw[hmn];exact O⟩
  refine wp_block ?_;refine H.rg 2 fun a H=>?_;refine H.bn 0 (J8x o0 i (by omega) _ _ _) fun a H=>?_;refine H.bn 1 (Q5a (o0+i) _ _ _) fun a H=>nt ?_;obtain⟨at_,hat⟩:∃at_,(o0+i)%4294967296=at_:=⟨_,rfl⟩;rw[hat] at H hnx;replace H:=H.kp [2,3,6,8,9,13,14,15];obtain⟨b1,e1⟩:∃b,decide ((at_:Int)<2048)=b:=⟨_,rfl⟩;obtain⟨od,hod⟩:∃od:Option UInt8,b1=true→mi[at_]? = some od:=by
   by_cases h:at_<2048
   ·exact⟨mi[at_],fun _=>List.getElem?_eq_getElem (by omega)⟩
   ·exact⟨none,fun hb=>by rw[hb] at e1;have:=of_decide_eq_true e1;omega⟩
  have h48:b1=true→at_<2048:=fun hb=>by rw[hb] at e1;have:=of_decide_eq_true e1;omega
  refine H.tb (fun w'=>X0 w g3 [(gB,P2 mi),(gH,S5 mi),(g6,[iz 0,Z2]),(g3,[iz nq, .slice AP ps.length cP])] w') (fun _ _ h hb=>h.call hb) O [ec 0 82 (iz at_),ec 1 83 (.bool b1),ec 2 84 (.bool b1),ec 3 85 (gv b1 (.slice (some ⟨gH,0,none⟩) 2049 2049)),ec 4 86 (gv b1 (iz at_)),ec 5 87 (gv b1 (.pointer (some ⟨gH,at_,none⟩))),ec 6 88 (gv b1 (.bool od.isSome)),ec 7 89 (gv b1 (.bool (!od.isSome))),ec 8 90 (.bool (b1 && !od.isSome))] rfl
   ⟨jm,jb fun _=>Q3 _ _ b1 e1 _ _ _,jm,(by cases b1;exact jo;exact jm),(by cases b1;exact jo;exact jm),(by cases b1;exact jo;exact jI rfl rfl rfl rfl rfl rfl (Z2f gH 2049 2049 at_ (by have:=h48 rfl;omega))),(by cases b1;exact jo;exact jl fun _ h=>V0 _ _ _ _ ((h.get 1 rfl).get at_ _ (Y4h (hod rfl)))),(by cases b1;exact jo;exact ju (hq:=G5 od.isSome)),(by cases b1<;>exact jp),trivial⟩ ?_
  clear H O;intro a w7 H O;refine Z0 (H.cond (t:=b1 && !od.isSome) rfl ?_);cases hb:b1 && !od.isSome with
  |false=>
   have hmm:mn=mi:=by
    rw[hnx];by_cases h:at_<2048
    ·rw[if_pos h]
     have hb1:b1=true:=by rw[←e1];exact decide_eq_true (by omega)
     have ho:=hod hb1;rw[hb1,Bool.true_and] at hb;unfold Z1v;rw[if_neg];rw[ho];cases od with
     |none=>cases hb
     |some y=>intro h;cases h
    ·rw[if_neg h]
   refine Z3 (Z6 ?_);exact⟨H.keep ⟨rfl,rfl,rfl,rfl,rfl,rfl,rfl,trivial⟩,by rw[hmm];exact O⟩
  |true=>
  simp only[Bool.and_eq_true] at hb;obtain⟨hb1,hb2⟩:=hb;have hat2:=h48 hb1;have ho:=hod hb1;have hon:od=none:=by
   cases od with
   |none=>rfl
   |some y=>cases hb2
  subst hon;have hmm:mn=mi.set at_ (some x):=by
   rw[hnx,if_pos hat2];unfold Z1v;rw[if_pos ho]
  replace H:=H.kp [2,3,6,8,9,13,14,15];refine H.rg 6 fun a H=>?_;refine H.index gz rfl rfl rfl rfl rfl (hixd _) fun a H=>?_;refine H.ld 0 (U3 _ _ _ _ ((T6 O.bel hbB).trans hcell)) fun a H=>?_;refine H.index gz rfl rfl rfl rfl rfl (Z2f gH 2049 2049 at_ (by omega) _) fun a H=>?_;refine H.sc O 1 0 (B7 gH at_ true · w7) (fun a w8 O8 H=>?_) (hj:=(Nat.blt_eq▸(show at_<(S5 mi).length by rw[X3n];omega)));refine H.index gz rfl rfl rfl rfl rfl (Z8w gB 2048 2048 at_ (by omega) _) fun a H=>?_;refine H.sc O8 0 0 (Y5o gB at_ x · w8) (fun a w9 O9 H=>wpList_nil (Z6 ?_)) (hj:=(Nat.blt_eq▸(show at_<(P2 mi).length by rw[X2m];omega)));have O9:X0 w g3 [(gB,(P2 mi).set at_ (bv x)),(gH,(S5 mi).set at_ (.bool true)),(g6,[iz 0,Z2]),(g3,[iz nq, .slice AP ps.length cP])] w9:=O9;rw[←Y5m,X3o mi x (by omega),←hmm] at O9;exact⟨H.keep ⟨rfl,rfl,rfl,rfl,rfl,rfl,rfl,trivial⟩,O9⟩
 clear H O;rintro a w6 ⟨H,O⟩;obtain⟨m,hm⟩:∃m,Z4j m1 o0 0 xs=m:=⟨_,rfl⟩;have hml:m.length=2048:=by rw[←hm,Y6e,hm1l]
 rw[hm] at O;rw[←hm1,←ho0] at hm;clear hm1l hm1 hoff hol ho0 m1 o0;refine H.rg 1 fun a H=>nt ?_;replace H:=H.kp [3,6,8,9,16];refine Z8 (fun a w'=>∃t:Nat,Z9 a 167 [(3,pz g3),(6,pz g6),(8, .slice (some ⟨gH,0,none⟩) 2049 2049),(9, .slice (some ⟨gB,0,none⟩) 2048 2048),(16,iz t)]∧X0 w g3 [(gB,P2 m),(gH,S5 m),(g6,[iz 0,Z2]),(g3,[iz nq, .slice AP ps.length cP])] w'∧t≤2048∧(∀j,j<t→∃x,m[j]? = some (some x))∧(t=2048∨m[t]? = some none)) ?_ ?_
 ·refine wp_block ?_
  refine Q7 2048 (fun k a w'=>Z9 a 167 [(3,pz g3),(6,pz g6),(8, .slice (some ⟨gH,0,none⟩) 2049 2049),(9, .slice (some ⟨gB,0,none⟩) 2048 2048),(16,iz k)]∧X0 w g3 [(gB,P2 m),(gH,S5 m),(g6,[iz 0,Z2]),(g3,[iz nq, .slice AP ps.length cP])] w'∧∀j,j<k→∃x,m[j]? = some (some x)) ⟨H,O,fun j h=>absurd h (Nat.not_lt_zero _)⟩ ?_;clear H O;rintro k a w7 hk ⟨H,O,hkn⟩;obtain⟨b1,hb1,hb2,hb3⟩:∃b1:Bool,(S5 m)[k]? = some (.bool b1)∧(b1=true→k<2048∧∃x,m[k]? = some (some x))∧(b1=false→k=2048∨m[k]? = some none):=by
   rcases Nat.lt_or_ge k 2048 with h |h
   ·have hg:m[k]? = some m[k]:=List.getElem?_eq_getElem (by omega)
    generalize m[k]=od at hg;refine⟨od.isSome,Y4h hg,fun hs=>⟨h, ?_⟩,fun hs=>.inr ?_⟩
    ·cases od with
     |none=>cases hs
     |some x=>exact⟨x,hg⟩
    ·cases od with
     |none=>exact hg
     |some x=>cases hs
   ·have:k=2048:=by omega
    subst this;exact⟨false,J5m hml,fun h=>(by cases h),fun _=>.inl rfl⟩
  refine H.rg 2 fun a H=>?_;refine H.index gz rfl rfl rfl rfl rfl (Z2f gH 2049 2049 k (by omega) _) fun a H=>?_;refine H.ld 0 (V0 _ _ _ _ ((O.get 1 rfl).get k _ hb1)) fun a H=>nt (H.cond (t:=b1) rfl ?_);cases b1 with
  |false=>
   refine wp_exit ?_;repeat (with_reducible refine J7 ?_)
   refine X3 ?_;exact⟨k,H.keep ⟨rfl,rfl,rfl,rfl,rfl,trivial⟩,O,hk,hkn,hb3 rfl⟩
  |true=>
  obtain⟨hk2,hx2⟩:=hb2 rfl;refine Z3 (Z0 (wp_block ?_));refine H.rg 1 fun a H=>?_;refine H.bb 1 rfl rfl rfl rfl rfl rfl (E7 k (by omega) _ _ _) rfl fun a H=>wpList_nil (Z6 ?_);refine⟨hk2,H.keep ⟨rfl,rfl,rfl,rfl,rfl,trivial⟩,O,fun j hj=>?_⟩;rcases Nat.lt_or_ge j k with h |h
  ·exact hkn j h
  ·rw[show j=k by omega];exact hx2
 clear H O;rintro a w7 ⟨t,H,O,ht,hkn,htn⟩;refine H.rg 1 fun a H=>nt ?_;have hB0:∀q∈[(gB,P2 m),(gH,S5 m),(g6,[iz 0,Z2]),(g3,[Value.int .i64 (nq:Int), .slice AP ps.length cP])],q.1<w7.heap.size:=fun q hq=>(O.mem q hq).2.1;have hg3B:g3≤w7.heap.size:=O.le;generalize hB0e:w7.heap.size=B0 at hB0 hg3B;replace H:=H.kp [3,6,8,9,16,17];refine Z8 (fun a w'=>∃(pl:List (Nat×List UInt8)) (cs:List Value) (Al:Option Addr) (cl:Nat),Z9 a 167 [(3,pz g3),(6,pz g6),(9, .slice (some ⟨gB,0,none⟩) 2048 2048),(16,iz t),(17, .slice Al pl.length cl)]∧X0 w g3 [(gB,P2 m),(gH,S5 m),(g6,[iz 0,Z2]),(g3,[iz nq, .slice AP ps.length cP])] w'∧w'.ownsRow B0 153 2 (.slice Al pl.length cl) pl.length (cs)∧Z0t m t pl∧PP w' B0 nq pl cs∧B0≤w'.heap.size) ?_ ?_
 ·refine H.rg 2 fun a H=>nt ?_
  replace H:=H.kp [3,6,8,9,16,17,18];refine wp_block ?_;refine Q7 (2048-t) (fun k a w'=>∃(pl:List (Nat×List UInt8)) (cs:List Value) (Al:Option Addr) (cl:Nat),Z9 a 167 [(3,pz g3),(6,pz g6),(8, .slice (some ⟨gH,0,none⟩) 2049 2049),(9, .slice (some ⟨gB,0,none⟩) 2048 2048),(16,iz t),(17, .slice Al pl.length cl),(18,iz ((t+k:Nat):Int))]∧X0 w g3 [(gB,P2 m),(gH,S5 m),(g6,[iz 0,Z2]),(g3,[iz nq, .slice AP ps.length cP])] w'∧B0≤w'.heap.size∧w'.ownsRow B0 153 2 (.slice Al pl.length cl) pl.length (cs)∧pl.length≤t+k∧((Y6i m t (t+k) pl∧(t+k=t∨m[t+k-1]? = some none)∧∃u,Z2z w' B0 u nq pl cs)∨(t<t+k∧(∃x,m[t+k-1]? = some (some x))∧∃(pl0:List (Nat×List UInt8)) (a:Nat) (ys:List UInt8) (cs0:List Value) (v:Value) (u:Nat),pl=pl0++[(a,ys)]∧cs=cs0++[iz (Y6 nq a),v]∧Y3w m t (t+k) pl0 a ys∧Z2z w' B0 u nq pl0 cs0∧Y2 u ys v w'∧B0≤u∧u≤w'.heap.size∧ys.length≤t+k))) ⟨[],[],none,0,H,O,by rw[hB0e];exact Nat.le_refl _,World.ownsRow_nil _ _ _ _,Nat.zero_le _, .inl ⟨fun r hr=>hr, .inl rfl,0,rfl,fun k p h=>by simp at h⟩⟩ ?_;clear H O;rintro k a w8 hk ⟨pl,cs,Al,cl,H,O,hsz,hrow,hpl,hLP⟩;obtain⟨i,hi⟩:∃i,t+k=i:=⟨_,rfl⟩;rw[hi] at H hpl hLP;obtain⟨b1,e1⟩:∃b,decide ((i:Int)<2048)=b:=⟨_,rfl⟩;refine H.rg 1 fun a H=>?_;refine H.bb 0 rfl rfl rfl rfl rfl rfl (Q3 _ _ b1 e1 _ _ _) rfl fun a H=>nt (H.cond (t:=b1) rfl ?_);cases b1 with
  |false=>
   have hie:i=m.length:=by have:=of_decide_eq_false e1;omega
   refine wp_exit ?_;repeat (with_reducible refine J7 ?_)
   refine X3 ?_;refine⟨pl,cs,Al,cl,H.keep ⟨rfl,rfl,rfl,rfl,rfl,trivial⟩,O,hrow, ?_, ?_,hsz⟩
   ·rcases hLP with⟨h,_⟩ |⟨_,_,pl0,a,ys,cs0,v,u,rfl,_,h,_⟩
    ·exact h.fin hie
    ·exact h.fin hie
   ·rcases hLP with⟨_,_,u,h⟩ |⟨_,_,pl0,a,ys,cs0,v,u,rfl,rfl,_,h,hv,hu,_,_⟩
    ·exact h.pp
    ·obtain⟨Av,cv,rfl,hvO⟩:=hv
     exact(h.snoc ⟨Av,cv,rfl,V2 hvO hu⟩).pp
  |true=>
  have hi48:i<2048:=by have:=of_decide_eq_true e1;omega
  clear e1;refine Z3 (Z0 ?_);replace H:=H.kp [3,6,8,9,16,17,18];refine Z8 (fun a w'=>∃(pl:List (Nat×List UInt8)) (cs:List Value) (Al:Option Addr) (cl:Nat),Z9 a 167 [(3,pz g3),(6,pz g6),(8, .slice (some ⟨gH,0,none⟩) 2049 2049),(9, .slice (some ⟨gB,0,none⟩) 2048 2048),(16,iz t),(17, .slice Al pl.length cl),(18,iz i)]∧X0 w g3 [(gB,P2 m),(gH,S5 m),(g6,[iz 0,Z2]),(g3,[iz nq, .slice AP ps.length cP])] w'∧B0≤w'.heap.size∧w'.ownsRow B0 153 2 (.slice Al pl.length cl) pl.length (cs)∧pl.length≤i+1∧((Y6i m t (i+1) pl∧(i+1=t∨m[i+1-1]? = some none)∧∃u,Z2z w' B0 u nq pl cs)∨(t<i+1∧(∃x,m[i+1-1]? = some (some x))∧∃(pl0:List (Nat×List UInt8)) (a:Nat) (ys:List UInt8) (cs0:List Value) (v:Value) (u:Nat),pl=pl0++[(a,ys)]∧cs=cs0++[iz (Y6 nq a),v]∧Y3w m t (i+1) pl0 a ys∧Z2z w' B0 u nq pl0 cs0∧Y2 u ys v w'∧B0≤u∧u≤w'.heap.size∧ys.length≤i+1))) ?_ ?_
  rotate_left
  ·clear H O hrow hLP hpl
   rintro a w9 ⟨pl,cs,Al,cl,H,h⟩;refine H.rg 1 fun a H=>?_;refine H.bb 1 rfl rfl rfl rfl rfl rfl (E7 i (by omega) _ _ _) rfl fun a H=>nt ?_;refine⟨by omega,pl,cs,Al,cl, ?_, ?_⟩
   ·rw[←hi] at H
    exact H.keep ⟨rfl,rfl,rfl,rfl,rfl,rfl,rfl,trivial⟩
   ·rw[←hi] at h
    exact h
  refine wp_block ?_;obtain⟨od,hod⟩:∃od,m[i]? = some od:=⟨_,List.getElem?_eq_getElem (by omega)⟩;refine H.rg 2 fun a H=>?_;refine H.index gz rfl rfl rfl rfl rfl (Z2f gH 2049 2049 i (by omega) _) fun a H=>?_;refine H.ld 0 (V0 _ _ _ _ ((O.get 1 rfl).get i _ (Y4h hod))) fun a H=>?_;refine H.un gz rfl rfl rfl rfl (G5 od.isSome _) fun a H=>nt ?_;cases od with
  |none=>
   refine H.condT rfl (wp_exit ?_);repeat (with_reducible refine J7 ?_)
   refine X3 ?_;refine⟨pl,cs,Al,cl,H.keep ⟨rfl,rfl,rfl,rfl,rfl,rfl,rfl,trivial⟩,O,hsz,hrow,Nat.le_succ_of_le hpl, .inl ?_⟩;rcases hLP with⟨h1,_,u,h2⟩ |⟨_,_,pl0,a,ys,cs0,v,u,rfl,rfl,h,h2,hv,hu,_,_⟩
   ·exact⟨h1.none hod, .inr hod,u,h2⟩
   ·obtain⟨Av,cv,rfl,hvO⟩:=hv
    exact⟨h.none hod, .inr hod,_,h2.snoc ⟨Av,cv,rfl,V2 hvO hu⟩⟩
  |some x=>
  refine H.condF rfl (Z3 (Z0 ?_));replace H:=H.kp [3,6,8,9,16,17,18];refine Z8 (fun a w'=>∃(pl0:List (Nat×List UInt8)) (a2:Nat) (ys:List UInt8) (cs0:List Value) (Av:Option Addr) (cv u:Nat) (Al:Option Addr) (cl:Nat),Z9 a 167 [(3,pz g3),(6,pz g6),(8, .slice (some ⟨gH,0,none⟩) 2049 2049),(9, .slice (some ⟨gB,0,none⟩) 2048 2048),(16,iz t),(17, .slice Al (pl0.length+1) cl),(18,iz i)]∧X0 w g3 [(gB,P2 m),(gH,S5 m),(g6,[iz 0,Z2]),(g3,[iz nq, .slice AP ps.length cP])] w'∧B0≤w'.heap.size∧w'.ownsRow B0 153 2 (.slice Al (pl0.length+1) cl) (pl0.length+1) (cs0++[iz (Y6 nq a2), .slice Av ys.length cv])∧pl0.length≤i∧t<i+1∧Y3w m t (i+1) pl0 a2 (ys++[x])∧Z2z w' B0 u nq pl0 cs0∧w'.ownsRow u 5 1 (.slice Av ys.length cv) ys.length (ys.map bv)∧B0≤u∧u≤w'.heap.size∧ys.length≤i) ?_ ?_
  ·have hi0:0<i:=by
    rcases hLP with⟨_,h |h,_⟩ |⟨h,_⟩
    ·rcases htn with h2 |h2
     ·omega
     ·rw[←h,hod] at h2;cases h2
    ·rcases Nat.eq_zero_or_pos i with h0 |h0
     ·subst h0;rw[hod] at h;cases h
     ·exact h0
    ·omega
   obtain⟨s,hs1,hs2,hs3⟩:∃s:Option UInt8,m[i-1]? = some s∧(s=none→Y6i m t i pl∧∃u,Z2z w8 B0 u nq pl cs)∧(s≠none→∃(pl0:List (Nat×List UInt8)) (a:Nat) (ys:List UInt8) (cs0:List Value) (v:Value) (u:Nat),pl=pl0++[(a,ys)]∧cs=cs0++[iz (Y6 nq a),v]∧Y3w m t i pl0 a ys∧Z2z w8 B0 u nq pl0 cs0∧Y2 u ys v w8∧B0≤u∧u≤w8.heap.size∧ys.length≤i):=by
    rcases hLP with⟨h1,h2 |h2,h3⟩ |⟨_,⟨y,h1⟩,h2⟩
    ·rcases htn with h4 |h4
     ·omega
     ·rw[←h2,hod] at h4;cases h4
    ·exact⟨none,h2,fun _=>⟨h1,h3⟩,fun h=>absurd rfl h⟩
    ·exact⟨some y,h1,fun h=>(by cases h),fun _=>h2⟩
   have hti:t<i+1:=by omega
   refine H.tb (fun w'=>X0 w g3 [(gB,P2 m),(gH,S5 m),(g6,[iz 0,Z2]),(g3,[iz nq, .slice AP ps.length cP])] w'∧B0≤w'.heap.size∧Below w8.heap.size w8 w') (fun _ _ h hb=>⟨h.1.call hb,Nat.le_trans h.2.1 hb.size,h.2.2.trans (hb.mono h.2.2.size)⟩) ⟨O,hsz,Below.refl _ _⟩ [ec 0 117 (iz i),ec 1 118 (.bool false),ec 2 119 (.bool false),ec 3 120 (.slice (some ⟨gH,0,none⟩) 2049 2049),ec 4 121 (iz i),ec 5 122 (iz ((i-1:Nat):Int)),ec 6 123 (.pointer (some ⟨gH,i-1,none⟩)),ec 7 124 (.bool s.isSome),ec 8 125 (.bool (!s.isSome)),ec 9 126 (.bool (!s.isSome))] rfl
    ⟨jm,jb fun _=>Z7 ((i:Nat):Int) 0 false (by rw[beq_eq_false_iff_ne];omega) _ _ _,jm,jm,jm,jb fun _=>X8y i hi0 (by omega) _ _ _,jI rfl rfl rfl rfl rfl rfl (Z2f gH 2049 2049 (i-1) (by omega)),jl fun _ h=>V0 _ _ _ _ ((h.1.get 1 rfl).get (i-1) _ (Y4h hs1)),ju (hq:=G5 s.isSome),jp,trivial⟩ ?_
   clear H O;intro a w9 H ⟨O,hsz9,hbl⟩;refine Z0 (H.cond (t:= !s.isSome) rfl ?_);replace hrow:=Y1 hrow hbl;cases s with
   |some y=>
    obtain⟨pl0,a2,ys,cs0,v,u,rfl,rfl,h1,h2,hv,hu,hut,hyl⟩:=hs3 (by intro h;cases h);obtain⟨Av,cv,rfl,hvO⟩:=hv;have hln:(pl0++[(a2,ys)]).length=pl0.length+1:=by rw[List.length_append];rfl
    rw[hln] at H hrow hpl;refine Z3 ⟨pl0,a2,ys,cs0,Av,cv,u,Al,cl,H.keep ⟨rfl,rfl,rfl,rfl,rfl,rfl,rfl,trivial⟩,O,hsz9,hrow,by omega,hti,h1.some hod,h2.next hbl,Y1 hvO hbl,hu,Nat.le_trans hut hbl.size,hyl⟩
   |none=>
   obtain⟨h1,u0,h2⟩:=hs2 rfl;replace H:=H.kp [3,6,8,9,16,17,18];refine H.rg 2 fun a H=>?_;refine H.ld 1 (O.li 3 0) fun a H=>?_;refine H.cq 0 (Y4g nq i w9) fun a H=>?_;refine H.any (w':=w9) gz rfl rfl (.agg ([iz (Y6 nq i),Z2]:List Value).toArray) (by intro cs b h;cases h) (by kernel_rfl) (by kernel_rfl) fun a H=>?_;refine H.any (w':=w9.alloc (.cells ([iz (Y6 nq i),Z2]:List Value).toArray 153)) gz rfl rfl (.slice (some ⟨w9.heap.size,0,none⟩) 1 1) (by intro cs b h;cases h) (by kernel_rfl) (by kernel_rfl) fun a H=>?_;have hb10:Below w9.heap.size w9 (w9.alloc (.cells ([iz (Y6 nq i),Z2]:List Value).toArray 153)):=G0 _ _;have hrd:=X4.lit w9 153 [iz (Y6 nq i),Z2] (0,0) 2 1 rfl;replace h2:=(h2.next hbl).next hb10
   replace O:=O.call hb10;replace hrow:=Y1 hrow hb10;have hsz10:=Nat.le_trans hsz9 hb10.size;generalize w9.alloc (.cells ([iz (Y6 nq i),Z2]:List Value).toArray 153)=w10 at *;generalize w9.heap.size=g9 at H hrd;refine H.appF hrow J8z hrd (by intro u hu;simp only[List.mem_cons,List.not_mem_nil,or_false] at hu;rcases hu with rfl |rfl<;>rfl) (by unfold maxLen;omega) (by omega) hsz10 fun a A4 c4 w11 hO hg hfr H=>?_;have O11:=O.row hrow hg3B hg (fun q hq=>Q1 hrow (.inl (hB0 q hq)));have h3:=(h2.apart hrow hg rfl).top;refine H.ms 1 fun a H=>wpList_nil ?_;exact⟨pl,i,[],cs,none,0,_,A4,c4,H.keep ⟨rfl,rfl,rfl,rfl,rfl,rfl,rfl,trivial⟩,O11,Nat.le_trans hsz10 hg.size,hO,by omega,hti,h1.some hod,h3,World.ownsRow_nil _ _ _ _,Nat.le_trans hsz10 hg.size,Nat.le_refl _,Nat.zero_le _⟩
  clear H O hrow hLP hpl;rintro a w9 ⟨pl0,a2,ys,cs0,Av,cv,u,Al,cl,H,O,hsz9,hrow,hpl,hti,hRB,hPR,hvO,hu,hut,hyl⟩;obtain⟨gl,cap,hv,hcl,hgl⟩:=hrow.form (Nat.succ_pos _);injection hv with hAl _ hcc
  subst hAl hcc;have hix:∀w',(Instr.indexAt 102 (.slice (some ⟨gl,0,none⟩) (pl0.length+1) cl) (iz pl0.length)).run Tryz.prog w' = .ok (.pointer (some ⟨gl,pl0.length*2,none⟩)) w':=fun w'=>by
   have h:=Z3u 102 Tryz.underlying102 2 (fun _=>by kernel_rfl) gl 0 (pl0.length+1) cl pl0.length (Nat.lt_succ_self _) w';rw[Nat.zero_add] at h;exact h
  refine H.rg 2 fun a H=>?_;refine H.len gz rfl rfl rfl rfl Tryz.underlying102 fun a H=>?_;refine H.bn 0 (Q5b pl0.length (by omega) _ _ _) fun a H=>?_;refine H.index gz rfl rfl rfl rfl rfl (hix _) fun a H=>?_;refine H.ms 1 fun a H=>nt ?_;replace H:=H.kp [3,6,8,9,16,17,18,19];have hPl:=hPR.len;have hstab:∀w' w'':World,(X0 w g3 [(gB,P2 m),(gH,S5 m),(g6,[iz 0,Z2]),(g3,[iz nq, .slice AP ps.length cP])] w'∧u≤w'.heap.size∧w'.ownsRow B0 153 2 (.slice (some ⟨gl,0,none⟩) (pl0.length+1) cl) (pl0.length+1) (cs0++[iz (Y6 nq a2), .slice Av ys.length cv])∧Z2z w' B0 u nq pl0 cs0∧w'.ownsRow u 5 1 (.slice Av ys.length cv) ys.length (ys.map bv))→Below w'.heap.size w' w''→(X0 w g3 [(gB,P2 m),(gH,S5 m),(g6,[iz 0,Z2]),(g3,[iz nq, .slice AP ps.length cP])] w''∧u≤w''.heap.size∧w''.ownsRow B0 153 2 (.slice (some ⟨gl,0,none⟩) (pl0.length+1) cl) (pl0.length+1) (cs0++[iz (Y6 nq a2), .slice Av ys.length cv])∧Z2z w'' B0 u nq pl0 cs0∧w''.ownsRow u 5 1 (.slice Av ys.length cv) ys.length (ys.map bv)):=fun _ _ h hb=>⟨h.1.call hb,Nat.le_trans h.2.1 hb.size,Y1 h.2.2.1 hb,h.2.2.2.1.next hb,Y1 h.2.2.2.2 hb⟩;have hdc:∀{w':World},w'.ownsRow B0 153 2 (.slice (some ⟨gl,0,none⟩) (pl0.length+1) cl) (pl0.length+1) (cs0++[iz (Y6 nq a2), .slice Av ys.length cv])→w'.cell? ⟨gl,pl0.length*2+1,none⟩=some (.slice Av ys.length cv):=fun h=>by
   have:=h.cellAt (pl0.length*2+1) (by omega);rw[this,List.getElem?_append_right (by omega),hPl,Nat.add_sub_cancel_left];rfl
  refine H.sg (fun w'=>(X0 w g3 [(gB,P2 m),(gH,S5 m),(g6,[iz 0,Z2]),(g3,[iz nq, .slice AP ps.length cP])] w'∧u≤w'.heap.size∧w'.ownsRow B0 153 2 (.slice (some ⟨gl,0,none⟩) (pl0.length+1) cl) (pl0.length+1) (cs0++[iz (Y6 nq a2), .slice Av ys.length cv])∧Z2z w' B0 u nq pl0 cs0∧w'.ownsRow u 5 1 (.slice Av ys.length cv) ys.length (ys.map bv))) (hstab _ _ ⟨O,hut,hrow,hPR,hvO⟩ (Below.drew (Below.refl _ _))) [3,6,8,9,16,17,18,19] [ec 0 140 (.pointer (some ⟨gl,pl0.length*2,none⟩)),ec 1 141 (.pointer (some ⟨gl,pl0.length*2,none⟩)),ec 2 142 (.pointer (some ⟨gl,pl0.length*2,none⟩)),ec 3 143 (.pointer (some ⟨gl,pl0.length*2+1,none⟩)),ec 4 144 (.slice Av ys.length cv),ec 5 145 (.slice (some ⟨gB,0,none⟩) 2048 2048),ec 6 146 (iz i),ec 7 147 (.pointer (some ⟨gB,i,none⟩)),ec 8 148 (bv x),ec 11 151 (.pointer (some ⟨gl,pl0.length*2,none⟩)),ec 12 152 (.pointer (some ⟨gl,pl0.length*2+1,none⟩))] rfl ?_;refine St.val 9 ⟨jm,jm,jm,jf fun g w=>Z8d (pl0.length*2) g w,jl fun _ h=>U8 _ _ _ _ _ _ (hdc h.2.2.1),jm,jm,jI rfl rfl rfl rfl rfl rfl (Z8w gB 2048 2048 i hi48),jl fun _ h=>U3 _ _ _ _ ((h.1.get 0 rfl).get i _ (X8j hod)),jm,jf fun g w=>Z8d (pl0.length*2) g w,trivial⟩ ?_;intro a wx H _ h;refine⟨.slice (some ⟨wx.heap.size,0,none⟩) 1 1,wx.alloc (.cells #[bv x] 5),Z0f H (by intro cs b h;cases h) (by kernel_rfl) (by kernel_rfl), ?_⟩;have hbx:Below wx.heap.size wx (wx.alloc (.cells #[bv x] 5)):=G0 _ _;have hl:=X4.lit wx 5 [bv x] (0,0) 1 1 rfl;have hh:=hstab _ _ h hbx;generalize wx.heap.size=g9 at hl ⊢;generalize wx.alloc (.cells #[bv x] 5)=wy at hl hbx hh ⊢;refine nx (fun w'=>(X0 w g3 [(gB,P2 m),(gH,S5 m),(g6,[iz 0,Z2]),(g3,[iz nq, .slice AP ps.length cP])] w'∧u≤w'.heap.size∧w'.ownsRow B0 153 2 (.slice (some ⟨gl,0,none⟩) (pl0.length+1) cl) (pl0.length+1) (cs0++[iz (Y6 nq a2), .slice Av ys.length cv])∧Z2z w' B0 u nq pl0 cs0∧w'.ownsRow u 5 1 (.slice Av ys.length cv) ys.length (ys.map bv))∧X4 w' w'.heap.size 1 (some ⟨g9,0,none⟩) 1 [bv x]) [] [] ⟨hh,hl⟩ ?_;clear hh hl hbx h H;refine St.appF (k:=ys.length) (m:=1) 10 J4 ⟨jm,jm,jm,jf fun g w=>Z8d (pl0.length*2) g w,jl fun _ h=>U8 _ _ _ _ _ _ (hdc h.1.2.2.1),jm,jf fun g w=>Z8d (pl0.length*2) g w,trivial⟩ (fun _ h=>⟨h.1.2.2.2.2,h.2,h.1.2.1⟩) (fun u hu=>by rw[List.mem_singleton.1 hu];rfl) ⟨by unfold maxLen;omega,by omega⟩ ?_;intro wx A2 c2 wz h hO hg hfr;obtain⟨⟨h1,h2,h3,h4,h5⟩,_⟩:=h;have O10:=h1.row h5 (Nat.le_trans hg3B hu) hg (fun q hq=>Q1 h5 (.inl (Nat.lt_of_lt_of_le (hB0 q hq) hu)));have row10:=h3.kept hg (G8 h3 h5 rfl);have PR10:=h4.kept hg (fun q hq=>(h5.lt q hq).1);refine nx (fun w'=>X0 w g3 [(gB,P2 m),(gH,S5 m),(g6,[iz 0,Z2]),(g3,[iz nq, .slice AP ps.length cP])] w'∧u≤w'.heap.size∧w'.ownsRow B0 153 2 (.slice (some ⟨gl,0,none⟩) (pl0.length+1) cl) (pl0.length+1) (cs0++[iz (Y6 nq a2), .slice Av ys.length cv])∧Z2z w' B0 u nq pl0 cs0∧w'.ownsRow u 5 1 (.slice A2 (ys.length+1) c2) (ys.length+1) (ys.map bv++[bv x])) [] [] ⟨O10,Nat.le_trans h2 hg.size,row10,PR10,hO⟩ ?_;clear h1 h2 h3 h4 h5 O10 row10 PR10 hO hg hfr;refine St.sto 13 ⟨jm,jm,jf fun g w=>Z8d (pl0.length*2) g w,trivial⟩ ?_;intro a wu H _ ⟨h1,h2,h3,h4,h5⟩;have hst:=h3.stored (pl0.length*2+1) (.slice A2 (ys.length+1) c2);have hset:(cs0++[iz (Y6 nq a2), .slice Av ys.length cv]:List Value).set (pl0.length*2+1) (.slice A2 (ys.length+1) c2)=(cs0++[iz (Y6 nq a2), .slice A2 (ys.length+1) c2]:List Value):=by
   rw[List.set_append_right _ _ (by omega),hPl,Nat.add_sub_cancel_left];rfl
  rw[hset] at hst;refine⟨_,Q6 rfl (H.ev rfl) (H.ev rfl) (Z9r _ _ _ _ _ _ _ (hdc h3) (h3.frozenAt _)),nx0 (fun w'=>X0 w g3 [(gB,P2 m),(gH,S5 m),(g6,[iz 0,Z2]),(g3,[iz nq, .slice AP ps.length cP])] w'∧u≤w'.heap.size∧w'.ownsRow B0 153 2 (.slice (some ⟨gl,0,none⟩) (pl0.length+1) cl) (pl0.length+1) (cs0++[iz (Y6 nq a2), .slice A2 (ys.length+1) c2])∧Z2z w' B0 u nq pl0 cs0∧w'.ownsRow u 5 1 (.slice A2 (ys.length+1) c2) (ys.length+1) (ys.map bv++[bv x])) [] [] ⟨h1.row h3 hg3B hst.2 (fun q hq=>Q1 h3 (.inl (hB0 q hq))),Nat.le_trans h2 hst.2.size,hst.1,h4.apart h3 hst.2 rfl,h5.kept hst.2 (G8 h5 h3 rfl)⟩ (St.fin trivial ?_)⟩;clear h1 h2 h3 h4 h5 hst hset H;intro a w10 H _ ⟨h1,h2,h3,h4,h5⟩;have hln:(pl0++[(a2,ys++[x])]).length=pl0.length+1:=by rw[List.length_append];rfl
  have hy2:(ys++[x]).length=ys.length+1:=by rw[List.length_append];rfl
  refine Z6 ?_;refine⟨pl0++[(a2,ys++[x])],_,_,_, ?_,h1,Nat.le_trans hu h2,by rw[hln];exact h3,by rw[hln];omega, .inr ⟨hti,⟨x,by rw[Nat.add_sub_cancel];exact hod⟩,pl0,a2,ys++[x],cs0,_,u,rfl,rfl,hRB,h4,⟨A2,c2,by rw[hy2],by rw[List.map_append,hy2];exact h5⟩,hu,h2,by omega⟩⟩;rw[hln];exact H.keep ⟨rfl,rfl,rfl,rfl,rfl,rfl,rfl,trivial⟩
 clear H O;rintro a w8 ⟨pl,cs,Al,cl,H,O,hrow,hRun,hPP,hsz8⟩;have hpage:=J9a hq hm hml ht hkn htn hRun;have hbel:Below w.heap.size w w8:=hg3▸O.bel;have hB8:B0≤w8.heap.size:=hsz8;have hpll:pl.length≤2048:=J5n hRun hml;refine H.rg 1 fun a H=>?_;refine H.len gz rfl rfl rfl rfl Tryz.underlying102 fun a H=>?_;by_cases h8:8<pl.length
 ·refine H.bb 0 rfl rfl rfl rfl rfl rfl (S0 _ 8 true (by rw[decide_eq_true_iff];omega) _ _ _) rfl fun a H=>nt (H.condT rfl ?_)
  refine H.rg 0 fun a H=>?_;refine H.loadS rfl rfl rfl rfl rfl (O.get 3 rfl) Tryz.underlying104 rfl N9 rfl fun a H=>?_;refine H.st O 2 1 (L:=[iz nq, .slice AP ps.length cP]) (fun a w9 O9 H=>nt (wp_ret ?_)) N9;repeat with_reducible first |apply Z4 |apply Z5
  exact bodyPost_ret (U0 Tryz.results62 _ _ _ (H.at_ 6 _ rfl) (H.at_ 7 _ rfl) (O9.get 2 rfl) Tryz.underlying104 rfl _ N9 rfl) H.df ⟨_,rfl,nq,ps,[],AP,cP,none,0,rfl,hpage.1 h8, .inl ⟨rfl,rfl⟩,fun h=>absurd h (Nat.lt_irrefl 0),hg3▸O9.bel⟩
 refine H.bb 0 rfl rfl rfl rfl rfl rfl (S0 _ 8 false (by rw[decide_eq_false_iff_not];omega) _ _ _) rfl fun a H=>nt (H.condF rfl (Z3 (Z0 ?_)));replace H:=H.kp [3,6,9,16,17];have hpage:=hpage.2 (by omega);have hyl:((Z8z m).take t).length=t:=by rw[List.length_take,Y5p];omega
 have hstab:∀w' w'':World,(X0 w g3 [(gB,P2 m),(gH,S5 m),(g6,[iz 0,Z2]),(g3,[iz nq, .slice AP ps.length cP])] w'∧w'.ownsRow B0 153 2 (.slice Al pl.length cl) pl.length (cs)∧PP w' B0 nq pl cs)→Below w'.heap.size w' w''→(X0 w g3 [(gB,P2 m),(gH,S5 m),(g6,[iz 0,Z2]),(g3,[iz nq, .slice AP ps.length cP])] w''∧w''.ownsRow B0 153 2 (.slice Al pl.length cl) pl.length (cs)∧PP w'' B0 nq pl cs):=fun _ _ h hb=>⟨h.1.call hb,Y1 h.2.1 hb,h.2.2.beneath hb⟩;have KK:∀wy,(X0 w g3 [(gB,P2 m),(gH,S5 m),(g6,[iz 0,Z2]),(g3,[iz nq, .slice AP ps.length cP])] wy∧wy.ownsRow B0 153 2 (.slice Al pl.length cl) pl.length (cs)∧PP wy B0 nq pl cs)∧w8.heap.size≤wy.heap.size→Calls Tryz.prog 59 ([.slice (some ⟨gB,0,none⟩) t 2048]:List Value).toArray wy fun e w'=>∃v,e = .returned v∧((∃A' c',v = .slice A' t c'∧w'.ownsRow wy.heap.size 5 1 (.slice A' t c') t (((Z8z m).take t).map bv))∧Below wy.heap.size wy w'):=fun wy h=>
  (X7r ((Z8z m).take t) t hyl (some ⟨gB,0,none⟩) 2048 wy ((X2n (by rw[←X8k];exact h.1.1.get 0 rfl) (h.1.1.lt 0 rfl)).take t) (by omega)).mono fun _ _ ⟨A',c',e,h1,h2⟩=>⟨_,e,⟨A',c',rfl,h1⟩,h2⟩
 refine H.sg (fun w'=>(X0 w g3 [(gB,P2 m),(gH,S5 m),(g6,[iz 0,Z2]),(g3,[iz nq, .slice AP ps.length cP])] w'∧w'.ownsRow B0 153 2 (.slice Al pl.length cl) pl.length (cs)∧PP w' B0 nq pl cs)∧w8.heap.size≤w'.heap.size) ⟨hstab _ _ ⟨O,hrow,hPP⟩ (Below.drew (Below.refl _ _)),(Below.drew (Below.refl w8.heap.size _)).size⟩ [3,6,9,16,17] [ec 0 157 (pz g3),ec 1 158 (iz nq),ec 2 159 (iz t),ec 3 160 (iz (Y6 nq t)),ec 4 161 (.slice Al pl.length cl),ec 5 162 (.agg ([iz (Y6 nq t), .slice Al pl.length cl]:List Value).toArray),ec 6 163 (.slice (some ⟨gB,0,none⟩) 2048 2048),ec 7 164 (iz t),ec 8 165 (.slice (some ⟨gB,0,none⟩) t 2048)] rfl ?_;refine St.call 9 ⟨jm,jl fun _ h=>h.1.1.li 3 0,jm,jq fun w' _=>Y4g nq t w',jm,ja (fun _=>by kernel_rfl),jm,jm,jsq fun w'=>Z4t (some ⟨gB,0,none⟩) 2048 2048 t ht (Nat.le_refl _) w',trivial⟩ KK ?_;clear KK;rintro wx v wz hh ⟨⟨A2,c2,rfl,hO2⟩,hb2⟩;have hh2:=hstab _ _ hh.1 hb2;replace hO2:=V2 hO2 hh.2;refine nx (fun w'=>((X0 w g3 [(gB,P2 m),(gH,S5 m),(g6,[iz 0,Z2]),(g3,[iz nq, .slice AP ps.length cP])] w'∧w'.ownsRow B0 153 2 (.slice Al pl.length cl) pl.length (cs)∧PP w' B0 nq pl cs)∧w'.ownsRow w8.heap.size 5 1 (.slice A2 t c2) t (((Z8z m).take t).map bv))) [ec 11 7 (.slice A2 t c2)] [] ⟨hh2,hO2⟩ ?_;clear hh hh2 hO2 hb2;refine St.sto 10 ⟨jm,jm,ja (fun _=>by kernel_rfl),trivial⟩ ?_;intro a wu H _ ⟨⟨h1,h2,h3⟩,h4⟩;obtain⟨wv,hrun,hg,hC⟩:=Y8m (R:=[]) (a:=iz (Y6 nq t)) (b:=.slice Al pl.length cl) (h1.get 2 rfl) rfl;have O9:=h1.turn 2 rfl hg hC;have hg6:g6<B0:=hB0 (g6,_) (.tail _ (.tail _ (.head _)));have row9:=h2.kept hg (.inr (Q1 h2 (.inl hg6)).symm);have PP9:PP wv B0 nq pl cs:=⟨h3.1,fun k p hk=>by
  obtain⟨v,q1,q2,Av,cv,e,q3⟩:=h3.2 k p hk;exact⟨v,q1,q2,Av,cv,e,q3.kept hg (.inr (Q1 q3 (.inl hg6)).symm)⟩⟩
 have hO9:=h4.kept hg (.inr (Q1 h4 (.inl (Nat.lt_of_lt_of_le hg6 hB8))).symm);refine⟨_,Q6 rfl (H.ev rfl) (H.ev rfl) hrun,nx0 (fun w'=>X0 w g3 [(gB,P2 m),(gH,S5 m),(g6,[iz (Y6 nq t), .slice Al pl.length cl]),(g3,[iz nq, .slice AP ps.length cP])] w'∧(w'.ownsRow B0 153 2 (.slice Al pl.length cl) pl.length (cs)∧PP w' B0 nq pl cs)∧w'.ownsRow w8.heap.size 5 1 (.slice A2 t c2) t (((Z8z m).take t).map bv)) [] [] ⟨O9,⟨row9,PP9⟩,hO9⟩ (St.fin ⟨jm,trivial⟩ ?_)⟩;clear h1 h2 h3 h4 O9 row9 PP9 hO9 hg hC hrun H;intro a w9 H _ ⟨O9,⟨row9,PP9⟩,hO9⟩;refine Z0 (wp_ret ?_);repeat with_reducible first |apply Z4 |apply Z5
 have hw3:w.heap.size≤B0:=by omega
 have hPS:E0 w9 (SP w.heap.size w9) Al (T2 nq pl):=(E0.of_row row9 PP9).mono fun k _ h=>⟨Nat.le_trans hw3 h.1,h.2⟩;have hRS:RBS w9 (SP w.heap.size w9) A2 ((Z8z m).take t):=(RBS.of_row hO9 hyl).mono fun k _ h=>⟨Nat.le_trans (Nat.le_trans hw3 hB8) h.1,h.2⟩;have hps2:(T2 nq pl).length=pl.length:=List.length_map _;exact bodyPost_ret (U0 Tryz.results62 _ _ _ (H.at_ 6 _ rfl) (H.at_ 7 _ rfl) (O9.get 2 rfl) Tryz.underlying104 rfl _ N9 rfl) H.df ⟨_,rfl,Y6 nq t,T2 nq pl,(Z8z m).take t,Al,cl,A2,c2,by rw[hps2,hyl],hpage, .inr hPS,hRS,hg3▸O9.bel⟩
end
section
open Go.RowKit
def Q5d (w:World) (r:Frm×Int) (v:Value) (w':World):Prop:=
 ∃A c,v = .tuple #[.agg #[iz r.1.d,iz r.1.s,iz r.1.t, .slice A r.1.xs.length c],iz r.2]∧w'.ownsRow w.heap.size 5 1 (.slice A r.1.xs.length c) r.1.xs.length (r.1.xs.map bv)∧Below w.heap.size w w'
theorem Z5x:(Tryz.prog.info? 85).map (·.size)=some 4:=by kernel_rfl
theorem X3q (w:World):(zeroValue 85).run Tryz.prog w = .ok (.agg ([iz 0,iz 0,iz 0,Z2]:List Value).toArray) w:=by kernel_rfl
theorem Y6j (xs:List UInt8) (k m:Nat):(xs.take (k+m)).drop k=(xs.drop k).take m:=by
 rw[List.drop_take,Nat.add_sub_cancel_left]
theorem Q2i (xs:List UInt8) (n:Nat) (hl:xs.length=n) (A:Option Addr) (c:Nat) (w:World) (hx:RB w w.heap.size A xs) (hn:n≤140737488351232):
  Calls Tryz.prog 59 #[.slice A n c] w fun e w'=>∃v,e = .returned v∧(∃A' c',v = .slice A' n c'∧w'.ownsRow w.heap.size 5 1 (.slice A' n c') n (xs.map bv)∧Below w.heap.size w w'):=
 (X7r xs n hl A c w hx hn).mono fun _ _ ⟨A',c',h1,h2⟩=>⟨_,h1,A',c',rfl,h2⟩
theorem X6d (xs:List UInt8) (n:Nat) (hn:xs.length=n) (A:Option Addr) (c:Nat) (hnc:n≤c) (w:World) (hx:RB w w.heap.size A xs) (hl:n≤140737488351232):
  Calls Tryz.prog 78 #[.slice A n c] w fun e w'=>∃v,e = .returned v∧Q5d w (E6 xs) v w':=by
 go_enter Tryz.func78,Tryz.ntmps78
 refine Z9.start 25 [(0, .slice A n c)] rfl rfl ⟨rfl,trivial⟩ ?_;intro a0 H0;have O0:=X0.start w;refine rl ?_;refine H0.al O0 1 X3q fun a1 w1 O1 H1=>nt ?_;generalize hg:w.heap.size=g at O1 H1;refine H1.rg 1 fun a2 H2=>?_;refine H2.len gz rfl rfl rfl rfl Tryz.underlying31 fun a3 H3=>?_;by_cases h14:n<14
 ·refine H3.bb 0 rfl rfl rfl rfl rfl rfl (Q3 _ _ true (by rw[decide_eq_true_iff];omega) _ _ _) rfl fun a4 H4=>nt (H4.condT rfl ?_)
  refine rl ?_;refine H4.any (w':=w1) gz rfl rfl (.agg ([iz 0,iz 0,iz 0,Z2]:List Value).toArray) (by intro cs b h;cases h) (by kernel_rfl) (by kernel_rfl) fun a5 H5=>?_;refine H5.st O1 0 1 (L:=[iz 0,iz 0,iz 0,Z2]) (fun a6 w2 O2 H6=>nt (wp_ret ?_)) Z5x;repeat with_reducible first |apply Z4 |apply Z5
  refine bodyPost_ret (U0 Tryz.results78 _ _ _ (H6.at_ 2 _ rfl) (H6.at_ 3 _ rfl) (O2.get 0 rfl) Tryz.underlying85 rfl _ Z5x rfl) H6.df ⟨_,rfl, ?_⟩;unfold E6;rw[if_pos (by omega)];exact⟨none,0,rfl,World.ownsRow_nil _ _ _ _,hg▸O2.bel⟩
 refine H3.bb 0 rfl rfl rfl rfl rfl rfl (Q3 _ _ false (by rw[decide_eq_false_iff_not];omega) _ _ _) rfl fun a4 H4=>nt (H4.condF rfl (Z3 (Z0 ?_)));refine H4.rg 1 fun a5 H5=>?_;refine H5.len gz rfl rfl rfl rfl Tryz.underlying31 fun a6 H6=>?_;by_cases h15:1514<n
 ·refine H6.bb 0 rfl rfl rfl rfl rfl rfl (S0 _ _ true (by rw[decide_eq_true_iff];omega) _ _ _) rfl fun a7 H7=>nt (H7.condT rfl ?_)
  refine rl ?_;refine H7.any (w':=w1) gz rfl rfl (.agg ([iz 0,iz 0,iz 0,Z2]:List Value).toArray) (by intro cs b h;cases h) (by kernel_rfl) (by kernel_rfl) fun a8 H8=>?_;refine H8.st O1 0 1 (L:=[iz 0,iz 0,iz 0,Z2]) (fun a9 w2 O2 H9=>nt (wp_ret ?_)) Z5x;repeat with_reducible first |apply Z4 |apply Z5
  refine bodyPost_ret (U0 Tryz.results78 _ _ _ (H9.at_ 2 _ rfl) (H9.at_ 3 _ rfl) (O2.get 0 rfl) Tryz.underlying85 rfl _ Z5x rfl) H9.df ⟨_,rfl, ?_⟩;unfold E6;rw[if_neg (by omega),if_pos (by omega)];exact⟨none,0,rfl,World.ownsRow_nil _ _ _ _,hg▸O2.bel⟩
 refine H6.bb 0 rfl rfl rfl rfl rfl rfl (S0 _ _ false (by rw[decide_eq_false_iff_not];omega) _ _ _) rfl fun a7 H7=>nt (H7.condF rfl (Z3 (Z0 ?_)));replace H7:=H7.kp [0,2];have l1:(xs.take 6).length=6:=by rw[List.length_take];omega
 have l2:((xs.drop 6).take 6).length=6:=by rw[List.length_take,List.length_drop];omega
 have l3:((xs.drop 12).take 2).length=2:=by rw[List.length_take,List.length_drop];omega
 have l4:(xs.drop 14).length=n-14:=by rw[List.length_drop];omega
 have bl:∀{w':World},X0 w g [(g,[iz 0,iz 0,iz 0,Z2])] w'→Below w.heap.size w w':=fun h=>hg▸h.bel;have r2:∀{w':World},Below w.heap.size w w'→RB w' w'.heap.size (if c=6 then A else A.map (·.add 6)) ((xs.drop 6).take 6):=fun h=>by
  have:=((hx.next h).take 12).cut (k:=6) (cap:=c) (by rw[List.length_take];omega) (by rw[List.length_take];omega);rw[show (12:Nat)=6+6 from rfl,Y6j] at this;exact this
 have r3:∀{w':World},Below w.heap.size w w'→RB w' w'.heap.size (if c=12 then A else A.map (·.add 12)) ((xs.drop 12).take 2):=fun h=>by
  have:=((hx.next h).take 14).cut (k:=12) (cap:=c) (by rw[List.length_take];omega) (by rw[List.length_take];omega);rw[show (14:Nat)=12+2 from rfl,Y6j] at this;exact this
 have r4:∀{w':World},Below w.heap.size w w'→RB w' w'.heap.size (if c=14 then A else A.map (·.add 14)) (xs.drop 14):=fun h=>(hx.next h).cut (k:=14) (cap:=c) (by omega) (by omega);refine H7.sg (fun w'=>X0 w g [(g,[iz 0,iz 0,iz 0,Z2])] w') O1.drew [0,2]
  [ec 0 12 (.slice A n c),ec 1 13 (.slice A 6 c),ec 2 14 (iz (V4 xs 0 6)),ec 3 15 (.slice A n c),ec 4 16 (.slice (if c=6 then A else A.map (·.add 6)) 6 (c-6)),ec 5 17 (iz (V4 xs 6 6)),ec 6 18 (.slice A n c),ec 7 19 (.slice (if c=12 then A else A.map (·.add 12)) 2 (c-12)),ec 8 20 (iz (V4 xs 12 2)),
   ec 9 21 (.slice A n c),ec 10 22 (.slice (if c=14 then A else A.map (·.add 14)) (n-14) (c-14)),ec 14 3 (iz 0)] rfl ?_
 refine St.call 11 ⟨jm,jh fun _=>Z4t A n c 6 (by omega) hnc _,jq fun w' h=>ofW (xs.take 6) 6 l1 A c w' ((hx.next (bl h)).take 6) (by decide),jm,js2 fun _=>N0 A n c 6 12 (by decide) (by omega) hnc _,jq fun w' h=>ofW _ 6 l2 _ _ w' (r2 (bl h)) (by decide),jm,js2 fun _=>N0 A n c 12 14 (by decide) (by omega) hnc _,jq fun w' h=>ofW _ 2 l3 _ _ w' (r3 (bl h)) (by decide),jm,js1 fun _=>Z7d A n c 14 (by omega) hnc _,jm,trivial⟩
  (fun wy h=>Q2i (xs.drop 14) (n-14) l4 _ (c-14) wy (r4 (bl h)) (by omega)) ?_
 rintro wy _ wz hh ⟨A1,c1,rfl,hO,hb⟩;have hgy:g<wy.heap.size:=hh.lt 0 rfl;have Oz:=hh.call hb;clear hb;generalize wy.heap.size=bb at hO hgy;refine nx (fun w'=>X0 w g [(g,[iz 0,iz 0,iz 0,Z2])] w'∧w'.ownsRow bb 5 1 (.slice A1 (n-14) c1) (n-14) ((xs.drop 14).map bv)) [ec 12 24 (.agg ([iz (V4 xs 0 6),iz (V4 xs 6 6),iz (V4 xs 12 2), .slice A1 (n-14) c1]:List Value).toArray)] [] ⟨Oz,hO⟩ ?_;refine St.sto 13 ⟨ja (fun _=>by kernel_rfl),jm,trivial⟩ ?_;rintro a8 wu H8 _ ⟨Ou,hOu⟩;obtain⟨w',hr,hg2,hs2,hC2⟩:=(Ou.get 0 rfl).sto (L:=[iz (V4 xs 0 6),iz (V4 xs 6 6),iz (V4 xs 12 2), .slice A1 (n-14) c1]) Z5x rfl rfl rfl;refine⟨w',Q6 rfl (H8.ev rfl) (H8.ev rfl) hr,nx0 (fun w'=>X0 w g [(g,[iz (V4 xs 0 6),iz (V4 xs 6 6),iz (V4 xs 12 2), .slice A1 (n-14) c1])] w'∧w'.ownsRow bb 5 1 (.slice A1 (n-14) c1) (n-14) ((xs.drop 14).map bv)) [] [] ⟨Ou.store 0 rfl hg2 hs2 hC2,hOu.kept hg2 (.inr (Q1 hOu (.inl hgy)).symm)⟩ ?_⟩;refine St.fin ⟨jm,trivial⟩ ?_ (hF:=.inl rfl);rintro a9 w3 H9 _ ⟨O3,hO3⟩;refine Z0 (wp_ret ?_);repeat with_reducible first |apply Z4 |apply Z5
 refine bodyPost_ret (U0 Tryz.results78 _ _ _ (H9.at_ 2 _ rfl) (H9.at_ 3 _ rfl) (O3.get 0 rfl) Tryz.underlying85 rfl _ Z5x rfl) H9.df ⟨_,rfl, ?_⟩;unfold E6;rw[if_neg (by omega),if_neg (by omega)];refine⟨A1,c1, ?_, ?_,hg▸O3.bel⟩
 ·simp only[l4]
 ·simp only[l4]
  exact V2 hO3 (by omega)
end
section
open Go.RowKit
theorem X6e (v:Nat) (h:v<65536) (x y:Operand) (w:World):(do eqGuard .and 3 x y (iz v) (iz 16383);binOp .and 3 (iz v) (iz 16383):Sem Value).run Tryz.prog w = .ok (iz ((v%16384:Nat):Int)) w:=by
 have g:∀(u v:Int) (w:World),(do eqGuard .and 3 x y (iz u) (iz v);binOp .and 3 (iz u) (iz v):Sem Value).run Tryz.prog w = .ok (iz (bits .and .i64 u v)) w:=fun _ _ _=>by kernel_rfl
 rw[←J3c v h];exact g _ _ _
theorem Q0u (y:List UInt8) (n:Nat) (hn:y.length=n) (A:Option Addr) (c:Nat) (w:World) (hx:RB w w.heap.size A y) (hl:n≤140737488351232):
  Calls Tryz.prog 59 #[.slice A n c] w fun e w'=>∃v,e = .returned v∧(∃A' c',v = .slice A' n c'∧w'.ownsRow w.heap.size 5 1 (.slice A' n c') n (y.map bv)∧Below w.heap.size w w'):=
 (X7r y n hn A c w hx hl).mono fun _ _ ⟨A',c',h1,h2,h3⟩=>⟨_,h1,A',c',rfl,h2,h3⟩
theorem ofN (xs:List UInt8) (n:Nat) (hl:xs.length=n) (A:Option Addr) (c:Nat) (hnc:n≤c) (w:World) (hx:RB w w.heap.size A xs) (k m:Nat) (hkm:k+m≤n) (hm:m≤7) (v:Nat) (hv:V4 xs k m=v):
  Calls Tryz.prog 107 #[.slice (if c=k then A else A.map (·.add k)) m (c-k)] w fun e w'=>e = .returned (iz v)∧w=w':=by
 subst hv;exact ofW ((xs.drop k).take m) m (by rw[List.length_take,List.length_drop];omega) _ _ w (hx.piece (by omega) (by omega)) hm
theorem X3r (xs : List UInt8) (n : Nat) (hl : xs.length = n) (A : Option Addr) (c : Nat) (hnc : n ≤ c) (w : World) (hx : RB w w.heap.size A xs) (hn : n ≤ 140737488351232) :
    Calls Tryz.prog 96 #[.slice A n c] w (Y4x w (X1 xs)) := by
  go_enter Tryz.func96, Tryz.ntmps96
  refine Z9.start 78 [(0, .slice A n c)] rfl rfl ⟨rfl, trivial⟩ ?_
  intro a0 H0
  refine rl ?_
  refine H0.al (X0.start w) 1 X2x fun a w1 O1 H => nt ?_
  obtain ⟨g, hg⟩ : ∃ g, w.heap.size = g := ⟨_, rfl⟩
  rw [hg] at O1 H
  have bl : ∀ {bs : List (Nat × List Value)} {w'}, X0 w g bs w' → Below w.heap.size w w' := fun h => hg ▸ h.bel
  have fin : ∀ (er : Int) (a : Act) (w2 : World), Z9 a 78 [(2, pz g), (3, iz er)] → X0 w g [(g, pz6)] w2 → X1 xs = (.zero, er) → bodyPost Tryz.prog Tryz.f96 (Y4x w (X1 xs)) .ret a w2 := fun er a w2 H O2 he => by
    refine bodyPost_ret (U0 Tryz.results96 _ _ _ (H.at_ 2 _ rfl) (H.at_ 3 _ rfl) (O2.get 0 rfl) Tryz.underlying89 rfl _ S9 rfl) H.df ?_
    rw [he]
    exact ⟨none, 0, rfl, World.ownsRow_nil _ _ _ _, bl O2⟩
  obtain ⟨N, hN⟩ : ∃ N, ipN xs = N := ⟨_, rfl⟩
  have hN60 : N ≤ 60 := by rw [← hN]; unfold ipN; omega
  obtain ⟨L, hL⟩ : ∃ L, V4 xs 2 2 = L := ⟨_, rfl⟩
  obtain ⟨S, hS⟩ : ∃ S, Sm.check (xs.take N) = S := ⟨_, rfl⟩
  obtain ⟨F, hF⟩ : ∃ F, V4 xs 6 2 = F := ⟨_, rfl⟩
  have x1 := hx.next (bl O1)
  refine H.rg 1 fun a H => ?_
  refine H.len gz rfl rfl rfl rfl Tryz.underlying31 fun a H => ?_
  by_cases h20 : n < 20
  · refine H.bb 0 rfl rfl rfl rfl rfl rfl (Q3 _ _ true (by rw [decide_eq_true_iff]; omega) _ _ _) rfl fun a H => nt (H.condT rfl ?_)
    refine rl ?_
    refine H.any (w' := w1) gz rfl rfl (.agg pz6.toArray) (by intro cs b h; cases h) (by kernel_rfl) (by kernel_rfl) fun a H => ?_
    refine H.st O1 0 1 (L := pz6) (fun a w2 O2 H => nt (wp_ret ?_)) S9
    repeat with_reducible first | apply Z4 | apply Z5
    exact fin 7 _ _ (H.keep ⟨rfl, rfl, trivial⟩) O2 (by unfold X1; rw [if_pos (by omega)])
  refine H.bb 0 rfl rfl rfl rfl rfl rfl (Q3 _ _ false (by rw [decide_eq_false_iff_not]; omega) _ _ _) rfl fun a H => nt (H.condF rfl (Z3 (Z0 ?_)))
  replace H := H.kp [0, 2]
  obtain ⟨b, o, _, hA, hbB, _, _⟩ := x1.get (k := 0) (by omega)
  have hrb : ∀ {bs : List (Nat × List Value)} {w'}, X0 w g bs w' → RB w' w'.heap.size (some ⟨b, o, none⟩) xs := fun h => hA ▸ hx.next (bl h)
  have c0 := (hrb O1).b8 (k := 0) (by omega)
  have hix : ∀ k, k < n → ∀ w', (Instr.indexAt 31 (.slice A n c) (iz k)).run Tryz.prog w' = .ok (.pointer (some ⟨b, o + k, none⟩)) w' := fun k hk w' => by rw [hA]; exact U7 31 Tryz.underlying31 (fun _ => by kernel_rfl) b o n c k hk w'
  have hb0 := Z1w xs 0
  refine H.rg 1 fun a H => ?_
  refine H.index gz rfl rfl rfl rfl rfl (hix 0 (by omega) _) fun a H => ?_
  refine H.ld 0 (U3 _ _ _ _ c0) fun a H => ?_
  refine H.bn 0 (X8q (b8 xs 0) hb0 _ _ _) fun a H => ?_
  refine H.cv 0 (Z0l (b8 xs 0 % 16) (by omega) _) fun a H => ?_
  refine H.bn 1 (X0e (b8 xs 0 % 16) (by omega) _ _ _) fun a H => nt ?_
  rw [show 4 * (b8 xs 0 % 16) = N from hN] at H
  replace H := H.kp [0, 2, 4]
  obtain ⟨z4, hz4⟩ : ∃ z, (((b8 xs 0 / 16 : Nat) : Int) != 4) = z := ⟨_, rfl⟩
  refine H.rg 1 fun a H => ?_
  refine H.index gz rfl rfl rfl rfl rfl (hix 0 (by omega) _) fun a H => ?_
  refine H.ld 0 (U3 _ _ _ _ c0) fun a H => ?_
  refine H.bn 0 (X0d (b8 xs 0) hb0 _ _ _) fun a H => ?_
  refine H.bn 1 (J4u _ _ z4 hz4 _ _ _) fun a H => ?_
  cases z4 with
  | true =>
    refine H.offs 2 rfl fun a H => ?_
    refine H.pick gz rfl rfl rfl rfl rfl fun a H => nt (H.condT rfl ?_)
    have h4 : b8 xs 0 / 16 ≠ 4 := by intro e; rw [e] at hz4; cases hz4
    refine rl ?_
    refine H.any (w' := w1) gz rfl rfl (.agg pz6.toArray) (by intro cs b h; cases h) (by kernel_rfl) (by kernel_rfl) fun a H => ?_
    refine H.st O1 0 1 (L := pz6) (fun a w2 O2 H => nt (wp_ret ?_)) S9
    repeat with_reducible first | apply Z4 | apply Z5
    exact fin 1 _ _ (H.keep ⟨rfl, rfl, trivial⟩) O2 (by unfold X1; rw [if_neg (by omega), if_pos (.inl h4)])
  | false =>
  have h4 : b8 xs 0 / 16 = 4 := by simpa [← Int.natCast_inj] using hz4
  refine H.go (H.wt rfl rfl rfl) rfl rfl _ (N2 (.inl rfl) (H.ev rfl)) fun a H => ?_
  by_cases hN20 : N < 20
  · refine H.bin (H.wt rfl rfl rfl) rfl rfl rfl rfl rfl (Q3 _ _ true (by rw [decide_eq_true_iff]; omega) _ _ _) fun a H => ?_
    refine H.pick gz rfl rfl rfl rfl rfl fun a H => nt (H.condT rfl ?_)
    refine rl ?_
    refine H.any (w' := w1) gz rfl rfl (.agg pz6.toArray) (by intro cs b h; cases h) (by kernel_rfl) (by kernel_rfl) fun a H => ?_
    refine H.st O1 0 1 (L := pz6) (fun a w2 O2 H => nt (wp_ret ?_)) S9
    repeat with_reducible first | apply Z4 | apply Z5
    exact fin 1 _ _ (H.keep ⟨rfl, rfl, trivial⟩) O2 (by unfold X1; rw [if_neg (by omega), if_pos (.inr (by omega))])
  refine H.bin (H.wt rfl rfl rfl) rfl rfl rfl rfl rfl (Q3 _ _ false (by rw [decide_eq_false_iff_not]; omega) _ _ _) fun a H => ?_
  refine H.pick gz rfl rfl rfl rfl rfl fun a H => nt (H.condF rfl (Z3 (Z0 ?_)))
  have hg2 : ¬ (b8 xs 0 / 16 ≠ 4 ∨ ipN xs < 20) := by omega
  replace H := H.kp [0, 2, 4]
  refine H.rg 1 fun a H => ?_
  refine H.len gz rfl rfl rfl rfl Tryz.underlying31 fun a H => ?_
  refine H.ms 1 fun a H => ?_
  by_cases hnN : n < N
  · refine H.bb 0 rfl rfl rfl rfl rfl rfl (Q3 _ _ true (by rw [decide_eq_true_iff]; omega) _ _ _) rfl fun a H => nt (H.condT rfl ?_)
    refine rl ?_
    refine H.any (w' := w1) gz rfl rfl (.agg pz6.toArray) (by intro cs b h; cases h) (by kernel_rfl) (by kernel_rfl) fun a H => ?_
    refine H.st O1 0 1 (L := pz6) (fun a w2 O2 H => nt (wp_ret ?_)) S9
    repeat with_reducible first | apply Z4 | apply Z5
    exact fin 7 _ _ (H.keep ⟨rfl, rfl, trivial⟩) O2 (by unfold X1; rw [if_neg (by omega), if_neg hg2, if_pos (by omega)])
  refine H.bb 0 rfl rfl rfl rfl rfl rfl (Q3 _ _ false (by rw [decide_eq_false_iff_not]; omega) _ _ _) rfl fun a H => nt (H.condF rfl (Z3 (Z0 ?_)))
  replace H := H.kp [0, 2, 4]
  refine H.rg 1 fun a H => ?_
  refine H.go gz rfl rfl _ (Z5b rfl (H.ev rfl) (H.ev rfl) (H.ev rfl) (N0 A n c 2 4 (by decide) (by omega) hnc _)) fun a H => ?_
  refine H.cq 1 (ofN xs n hl A c hnc w1 x1 2 2 (by omega) (by decide) L hL) fun a H => nt ?_
  replace H := H.kp [0, 2, 4, 5]
  refine H.rg 2 fun a H => ?_
  by_cases hLN : L < N
  · refine H.bb 0 rfl rfl rfl rfl rfl rfl (Q3 _ _ true (by rw [decide_eq_true_iff]; omega) _ _ _) rfl fun a H => nt (H.condT rfl ?_)
    refine rl ?_
    refine H.any (w' := w1) gz rfl rfl (.agg pz6.toArray) (by intro cs b h; cases h) (by kernel_rfl) (by kernel_rfl) fun a H => ?_
    refine H.st O1 0 1 (L := pz6) (fun a w2 O2 H => nt (wp_ret ?_)) S9
    repeat with_reducible first | apply Z4 | apply Z5
    exact fin 1 _ _ (H.keep ⟨rfl, rfl, trivial⟩) O2 (by unfold X1; rw [if_neg (by omega), if_neg hg2, if_neg (by omega), if_pos (by omega)])
  refine H.bb 0 rfl rfl rfl rfl rfl rfl (Q3 _ _ false (by rw [decide_eq_false_iff_not]; omega) _ _ _) rfl fun a H => nt (H.condF rfl (Z3 (Z0 ?_)))
  replace H := H.kp [0, 2, 4, 5]
  refine H.rg 1 fun a H => ?_
  refine H.len gz rfl rfl rfl rfl Tryz.underlying31 fun a H => ?_
  refine H.ms 1 fun a H => ?_
  by_cases hnL : n < L
  · refine H.bb 0 rfl rfl rfl rfl rfl rfl (Q3 _ _ true (by rw [decide_eq_true_iff]; omega) _ _ _) rfl fun a H => nt (H.condT rfl ?_)
    refine rl ?_
    refine H.any (w' := w1) gz rfl rfl (.agg pz6.toArray) (by intro cs b h; cases h) (by kernel_rfl) (by kernel_rfl) fun a H => ?_
    refine H.st O1 0 1 (L := pz6) (fun a w2 O2 H => nt (wp_ret ?_)) S9
    repeat with_reducible first | apply Z4 | apply Z5
    exact fin 7 _ _ (H.keep ⟨rfl, rfl, trivial⟩) O2 (by unfold X1; rw [if_neg (by omega), if_neg hg2, if_neg (by omega), if_neg (by omega), if_pos (by omega)])
  refine H.bb 0 rfl rfl rfl rfl rfl rfl (Q3 _ _ false (by rw [decide_eq_false_iff_not]; omega) _ _ _) rfl fun a H => nt (H.condF rfl (Z3 (Z0 ?_)))
  replace H := H.kp [0, 2, 4, 5]
  refine H.rg 2 fun a H => ?_
  refine H.go gz rfl rfl _ (Z6l rfl (H.ev rfl) (H.ev rfl) (Z4t A n c N (by omega) hnc _)) fun a H => ?_
  refine H.cq 0 (hS ▸ X1t (xs.take N) N (by rw [List.length_take]; omega) A c w1 (x1.take N) (by omega)) fun a H => ?_
  obtain ⟨zs, hzs⟩ : ∃ z, ((S : Int) != 0) = z := ⟨_, rfl⟩
  refine H.bn 0 (Z1c _ _ zs hzs _ _ _) fun a H => nt ?_
  cases zs with
  | true =>
    refine H.condT rfl ?_
    have h8 : S ≠ 0 := by intro e; rw [e] at hzs; cases hzs
    refine rl ?_
    refine H.any (w' := w1) gz rfl rfl (.agg pz6.toArray) (by intro cs b h; cases h) (by kernel_rfl) (by kernel_rfl) fun a H => ?_
    refine H.st O1 0 1 (L := pz6) (fun a w2 O2 H => nt (wp_ret ?_)) S9
    repeat with_reducible first | apply Z4 | apply Z5
    exact fin 8 _ _ (H.keep ⟨rfl, rfl, trivial⟩) O2 (by unfold X1; rw [if_neg (by omega), if_neg hg2, if_neg (by omega), if_neg (by omega), if_neg (by omega), hN, hS, if_pos h8])
  | false =>
  have h8 : S = 0 := by simpa using hzs
  refine H.condF rfl (Z3 (Z0 ?_))
  replace H := H.kp [0, 2, 4, 5]
  have hFl : F < 65536 := hF ▸ X2y xs 6 2
  refine H.rg 1 fun a H => ?_
  refine H.go gz rfl rfl _ (Z5b rfl (H.ev rfl) (H.ev rfl) (H.ev rfl) (N0 A n c 6 8 (by decide) (by omega) hnc _)) fun a H => ?_
  refine H.cq 0 (ofN xs n hl A c hnc w1 x1 6 2 (by omega) (by decide) F hF) fun a H => ?_
  refine H.bn 0 (X6e F hFl _ _ _) fun a H => ?_
  obtain ⟨zf, hzf⟩ : ∃ z, (((F % 16384 : Nat) : Int) != 0) = z := ⟨_, rfl⟩
  refine H.bn 0 (Z1c _ _ zf hzf _ _ _) fun a H => nt ?_
  have hrest : X1 xs = if F % 16384 ≠ 0 then (.zero, 9) else (Z8n xs, 0) := by unfold X1; rw [if_neg (by omega), if_neg hg2, if_neg (by omega), if_neg (by omega), if_neg (by omega), hN, hS, if_neg (by omega), hF]
  cases zf with
  | true =>
    refine H.condT rfl ?_
    have h9 : F % 16384 ≠ 0 := by intro e; rw [e] at hzf; cases hzf
    refine rl ?_
    refine H.any (w' := w1) gz rfl rfl (.agg pz6.toArray) (by intro cs b h; cases h) (by kernel_rfl) (by kernel_rfl) fun a H => ?_
    refine H.st O1 0 1 (L := pz6) (fun a w2 O2 H => nt (wp_ret ?_)) S9
    repeat with_reducible first | apply Z4 | apply Z5
    exact fin 9 _ _ (H.keep ⟨rfl, rfl, trivial⟩) O2 (by rw [hrest, if_pos h9])
  | false =>
  rw [if_neg (by have : ((F % 16384 : Nat) : Int) = 0 := by simpa using hzf
                 omega)] at hrest
  refine H.condF rfl (Z3 (Z0 ?_))
  replace H := H.kp [0, 2, 4, 5]
  have hcl : ((xs.take L).drop N).length = L - N := by rw [List.length_drop, List.length_take]; omega
  refine H.sg (fun w' => X0 w g [(g, pz6)] w') O1.drew [0, 2, 4, 5] [ec 0 55 (.slice A n c), ec 1 56 (.slice (if c = 12 then A else A.map (·.add 12)) 4 (c - 12)), ec 2 57 (iz (V4 xs 12 4)), ec 3 58 (.slice A n c), ec 4 59 (.slice (if c = 16 then A else A.map (·.add 16)) 4 (c - 16)), ec 5 60 (iz (V4 xs 16 4)), ec 6 61 (.slice A n c), ec 7 62 (.pointer (some ⟨b, o + 9, none⟩)), ec 8 63 (.int .u8 ((b8 xs 9 : Nat) : Int)), ec 9 64 (iz (b8 xs 9)), ec 10 65 (.slice A n c), ec 11 66 (.pointer (some ⟨b, o + 8, none⟩)), ec 12 67 (.int .u8 ((b8 xs 8 : Nat) : Int)), ec 13 68 (iz (b8 xs 8)), ec 14 69 (.slice A n c), ec 15 70 (.slice (if c = 4 then A else A.map (·.add 4)) 2 (c - 4)), ec 16 71 (iz (V4 xs 4 2)), ec 17 72 (.slice A n c), ec 18 73 (iz N), ec 19 74 (iz L), ec 20 75 (.slice (if c = N then A else A.map (·.add N)) (L - N) (c - N)), ec 24 3 (iz 0)] rfl ?_
  refine St.call 21 ⟨jm, js2 fun _ => N0 A n c 12 16 (by omega) (by omega) hnc _, jq fun w' h => ofN xs n hl A c hnc w' (hx.next (bl h)) 12 4 (by omega) (by decide) _ rfl, jm, js2 fun _ => N0 A n c 16 20 (by omega) (by omega) hnc _, jq fun w' h => ofN xs n hl A c hnc w' (hx.next (bl h)) 16 4 (by omega) (by decide) _ rfl, jm, jI rfl rfl rfl rfl rfl rfl (hix 9 (by omega)), jl fun _ h => U3 _ _ _ _ ((hrb h).b8 (k := 9) (by omega)), jc fun _ => Z0l (b8 xs 9) (Z1w xs 9) _, jm, jI rfl rfl rfl rfl rfl rfl (hix 8 (by omega)), jl fun _ h => U3 _ _ _ _ ((hrb h).b8 (k := 8) (by omega)), jc fun _ => Z0l (b8 xs 8) (Z1w xs 8) _, jm, js2 fun _ => N0 A n c 4 6 (by omega) (by omega) hnc _, jq fun w' h => ofN xs n hl A c hnc w' (hx.next (bl h)) 4 2 (by omega) (by decide) _ rfl, jm, jm, jm, js2 fun _ => N0 A n c N L (by omega) (by omega) hnc _, jm, trivial⟩ (fun wy h => Q0u ((xs.take L).drop N) (L - N) hcl _ (c - N) wy (((hx.next (bl h)).take L).cut (k := N) (cap := c) (by rw [List.length_take]; omega) (by rw [List.length_take]; omega)) (by omega)) ?_
  rintro wy _ wz hh ⟨A1, c1, rfl, hO, hb⟩
  have hgy : g < wy.heap.size := hh.lt 0 rfl
  have Oz := hh.call hb
  clear hb
  generalize wy.heap.size = bb at hO hgy
  refine nx (fun w' => X0 w g [(g, pz6)] w' ∧ w'.ownsRow bb 5 1 (.slice A1 (L - N) c1) (L - N) (((xs.take L).drop N).map bv)) [ec 22 77 (.agg ([iz (V4 xs 12 4), iz (V4 xs 16 4), iz (b8 xs 9), iz (b8 xs 8), iz (V4 xs 4 2), .slice A1 (L - N) c1] : List Value).toArray)] [] ⟨Oz, hO⟩ ?_
  refine St.sto 23 ⟨ja (fun _ => by kernel_rfl), jm, jI rfl rfl rfl rfl rfl rfl (hix 9 (by omega)), jl fun _ h => U3 _ _ _ _ ((hrb h.1).b8 (k := 9) (by omega)), jc fun _ => Z0l (b8 xs 9) (Z1w xs 9) _, jm, jI rfl rfl rfl rfl rfl rfl (hix 8 (by omega)), jl fun _ h => U3 _ _ _ _ ((hrb h.1).b8 (k := 8) (by omega)), jc fun _ => Z0l (b8 xs 8) (Z1w xs 8) _, jm, trivial⟩ ?_
  rintro a wu H _ ⟨Ou, hOu⟩
  obtain ⟨w', hr, hg3, hs3, hC3⟩ := (Ou.get 0 rfl).sto (L := [iz (V4 xs 12 4), iz (V4 xs 16 4), iz (b8 xs 9), iz (b8 xs 8), iz (V4 xs 4 2), .slice A1 (L - N) c1]) S9 rfl rfl rfl
  refine ⟨w', Q6 rfl (H.ev rfl) (H.ev rfl) hr, nx0 (fun w' => X0 w g [(g, [iz (V4 xs 12 4), iz (V4 xs 16 4), iz (b8 xs 9), iz (b8 xs 8), iz (V4 xs 4 2), .slice A1 (L - N) c1])] w' ∧ w'.ownsRow bb 5 1 (.slice A1 (L - N) c1) (L - N) (((xs.take L).drop N).map bv)) [] [] ⟨Ou.store 0 rfl hg3 hs3 hC3, hOu.kept hg3 (.inr (Q1 hOu (.inl hgy)).symm)⟩ (St.fin ⟨jm, trivial⟩ ?_ (hF := .inl rfl))⟩
  rintro a w3 H _ ⟨O3, hO3⟩
  refine Z0 (wp_ret ?_)
  repeat with_reducible first | apply Z4 | apply Z5
  refine bodyPost_ret (U0 Tryz.results96 _ _ _ (H.at_ 2 _ rfl) (H.at_ 3 _ rfl) (O3.get 0 rfl) Tryz.underlying89 rfl _ S9 rfl) H.df ?_
  rw [hrest]
  unfold Z8n
  rw [hN, hL]
  refine ⟨A1, c1, ?_, ?_, bl O3⟩
  · simp only [hcl]
  · simp only [hcl]; exact V2 hO3 (by omega)
end
section
open Go.RowKit
theorem X8z (v:Nat) (h:v<256) (x y:Operand) (w:World):(do eqGuard .and 5 x y (.int .u8 (v:Int)) (.int .u8 63);binOp .and 5 (.int .u8 (v:Int)) (.int .u8 63):Sem Value).run Tryz.prog w = .ok (.int .u8 ((v%64:Nat):Int)) w:=by
 have e:bits .and .u8 (v:Int) 63=((v%64:Nat):Int):=by
  have:=u8_and_nat v 63 h (by omega);rw[show (63:Nat)=2^6-1 from rfl,Nat.and_two_pow_sub_one_eq_mod] at this;exact this
 rw[←e];exact J4t _ _ _ _ _
theorem X0p (src dst:Int) (xs:List UInt8) (n:Nat) (hl:xs.length=n) (A:Option Addr) (c:Nat) (hnc:n≤c) (w:World) (hx:RB w w.heap.size A xs) (hn:n≤140737488351232):
  Calls Tryz.prog 97 #[iz src,iz dst, .slice A n c] w (Y2g w (G7 src dst xs)):=by
 go_enter Tryz.func97,Tryz.ntmps97
 refine Z9.start 75 [(0,iz src),(1,iz dst),(2, .slice A n c)] rfl rfl ⟨rfl,rfl,rfl,trivial⟩ ?_;intro a0 H0;refine rl ?_;refine H0.al (X0.start w) 1 X2z fun a w1 O1 H=>nt ?_;obtain⟨g,hg⟩:∃g,w.heap.size=g:=⟨_,rfl⟩;rw[hg] at O1 H;have bl:∀{bs:List (Nat×List Value)}{w'},X0 w g bs w'→Below w.heap.size w w':=fun h=>hg▸h.bel;have fin:∀(er:Int) (a:Act) (w2:World),Z9 a 75 [(6,pz g),(7,iz er)]→X0 w g [(g,sz7)] w2→G7 src dst xs=(.zero,er)→bodyPost Tryz.prog Tryz.f97 (Y2g w (G7 src dst xs)) .ret a w2:=fun er a w2 H O2 he=>by
  refine bodyPost_ret (U0 Tryz.results97 _ _ _ (H.at_ 6 _ rfl) (H.at_ 7 _ rfl) (O2.get 0 rfl) Tryz.underlying36 rfl _ Z0j rfl) H.df ?_;rw[he];exact⟨none,0,rfl,World.ownsRow_nil _ _ _ _,bl O2⟩
 obtain⟨N,hN⟩:∃N,sgN xs=N:=⟨_,rfl⟩;have hN60:N≤60:=by have:=Z1w xs 12;rw[←hN];unfold sgN;omega
 have x1:=hx.next (bl O1);replace H:=H.kp [0,1,2,6];obtain⟨b1,h1⟩:∃b,Z5i src=b:=⟨_,rfl⟩;obtain⟨b2,h2⟩:∃b,Z5i dst=b:=⟨_,rfl⟩;refine H.rg 1 fun a H=>?_;refine H.cq 0 (X1y src b1 h1 w1) fun a H=>?_;refine H.un gz rfl rfl rfl rfl (G5 b1 _) fun a H=>?_;refine H.ms 1 fun a H=>?_;cases b1 with
 |false=>
  refine H.offs 3 rfl fun a H=>?_;refine H.pick gz rfl rfl rfl rfl rfl fun a H=>nt (H.condT rfl ?_);refine rl ?_;refine H.any (w':=w1) gz rfl rfl (.agg sz7.toArray) (by intro cs b h;cases h) (by kernel_rfl) (by kernel_rfl) fun a H=>?_;refine H.st O1 0 1 (L:=sz7) (fun a w9 O9 H=>nt (wp_ret ?_)) Z0j;repeat with_reducible first |apply Z4 |apply Z5
  exact fin 1 _ _ (H.keep ⟨rfl,rfl,trivial⟩) O9 (by unfold G7;rw[if_pos (.inl h1)])
 |true=>
 refine H.go (H.wt rfl rfl rfl) rfl rfl _ (N2 (.inl rfl) (H.ev rfl)) fun a H=>?_;refine H.call (H.wt rfl rfl rfl) rfl rfl rfl rfl (fun _ _=>by kernel_rfl) (Z6t (X1y dst b2 h2 w1)) ?_;rintro a _ _ ⟨rfl,rfl⟩ H;refine H.un (H.wt rfl rfl rfl) rfl rfl rfl rfl (G5 b2 _) fun a H=>?_;refine H.pick gz rfl rfl rfl rfl rfl fun a H=>nt ?_;cases b2 with
 |false=>
  refine H.condT rfl ?_;refine rl ?_;refine H.any (w':=w1) gz rfl rfl (.agg sz7.toArray) (by intro cs b h;cases h) (by kernel_rfl) (by kernel_rfl) fun a H=>?_;refine H.st O1 0 1 (L:=sz7) (fun a w9 O9 H=>nt (wp_ret ?_)) Z0j;repeat with_reducible first |apply Z4 |apply Z5
  exact fin 1 _ _ (H.keep ⟨rfl,rfl,trivial⟩) O9 (by unfold G7;rw[if_pos (.inr h2)])
 |true=>
 refine H.condF rfl (Z3 (Z0 ?_));obtain⟨src,rfl⟩:=Int.eq_ofNat_of_zero_le (T5.1 h1).1;obtain⟨dst,rfl⟩:=Int.eq_ofNat_of_zero_le (T5.1 h2).1;have hs:=(T5.1 h1).2;have hd:=(T5.1 h2).2;have h12:¬(Z5i (src:Int)=false∨Z5i (dst:Int)=false):=by rw[h1,h2];simp
 replace H:=H.kp [0,1,2,6];refine H.rg 1 fun a H=>?_;refine H.len gz rfl rfl rfl rfl Tryz.underlying31 fun a H=>?_;by_cases h20:n<20
 ·refine H.bb 0 rfl rfl rfl rfl rfl rfl (Q3 _ _ true (by rw[decide_eq_true_iff];omega) _ _ _) rfl fun a H=>nt (H.condT rfl ?_)
  refine rl ?_;refine H.any (w':=w1) gz rfl rfl (.agg sz7.toArray) (by intro cs b h;cases h) (by kernel_rfl) (by kernel_rfl) fun a H=>?_;refine H.st O1 0 1 (L:=sz7) (fun a w9 O9 H=>nt (wp_ret ?_)) Z0j;repeat with_reducible first |apply Z4 |apply Z5
  exact fin 7 _ _ (H.keep ⟨rfl,rfl,trivial⟩) O9 (by unfold G7;rw[if_neg h12,if_pos (by omega)])
 refine H.bb 0 rfl rfl rfl rfl rfl rfl (Q3 _ _ false (by rw[decide_eq_false_iff_not];omega) _ _ _) rfl fun a H=>nt (H.condF rfl (Z3 (Z0 ?_)));replace H:=H.kp [0,1,2,6];obtain⟨b,o,_,hA,hbB,_,_⟩:=x1.get (k:=0) (by omega);have hrb:∀{bs:List (Nat×List Value)}{w'},X0 w g bs w'→RB w' w'.heap.size (some ⟨b,o,none⟩) xs:=fun h=>hA▸hx.next (bl h);have hix:∀k,k<n→∀w',(Instr.indexAt 31 (.slice A n c) (iz k)).run Tryz.prog w' = .ok (.pointer (some ⟨b,o+k,none⟩)) w':=fun k hk w'=>by rw[hA];exact U7 31 Tryz.underlying31 (fun _=>by kernel_rfl) b o n c k hk w'
 have hb0:=Z1w xs 12;refine H.rg 1 fun a H=>?_;refine H.index gz rfl rfl rfl rfl rfl (hix 12 (by omega) _) fun a H=>?_;refine H.ld 0 (U3 _ _ _ _ ((hrb O1).b8 (k:=12) (by omega))) fun a H=>?_;refine H.bn 0 (X0d (b8 xs 12) hb0 _ _ _) fun a H=>?_;refine H.cv 0 (Z0l (b8 xs 12/16) (by omega) _) fun a H=>?_;refine H.bn 1 (X0e (b8 xs 12/16) (by omega) _ _ _) fun a H=>nt ?_;rw[show 4*(b8 xs 12/16)=N from hN] at H;replace H:=H.kp [0,1,2,6,8];refine H.rg 1 fun a H=>?_;by_cases hN20:N<20
 ·refine H.bb 0 rfl rfl rfl rfl rfl rfl (Q3 _ _ true (by rw[decide_eq_true_iff];omega) _ _ _) rfl fun a H=>nt (H.condT rfl ?_)
  refine rl ?_;refine H.any (w':=w1) gz rfl rfl (.agg sz7.toArray) (by intro cs b h;cases h) (by kernel_rfl) (by kernel_rfl) fun a H=>?_;refine H.st O1 0 1 (L:=sz7) (fun a w9 O9 H=>nt (wp_ret ?_)) Z0j;repeat with_reducible first |apply Z4 |apply Z5
  exact fin 1 _ _ (H.keep ⟨rfl,rfl,trivial⟩) O9 (by unfold G7;rw[if_neg h12,if_neg (by omega),if_pos (by omega)])
 refine H.bb 0 rfl rfl rfl rfl rfl rfl (Q3 _ _ false (by rw[decide_eq_false_iff_not];omega) _ _ _) rfl fun a H=>nt (H.condF rfl (Z3 (Z0 ?_)));replace H:=H.kp [0,1,2,6,8];refine H.rg 1 fun a H=>?_;refine H.len gz rfl rfl rfl rfl Tryz.underlying31 fun a H=>?_;refine H.ms 1 fun a H=>?_;by_cases hnN:n<N
 ·refine H.bb 0 rfl rfl rfl rfl rfl rfl (Q3 _ _ true (by rw[decide_eq_true_iff];omega) _ _ _) rfl fun a H=>nt (H.condT rfl ?_)
  refine rl ?_;refine H.any (w':=w1) gz rfl rfl (.agg sz7.toArray) (by intro cs b h;cases h) (by kernel_rfl) (by kernel_rfl) fun a H=>?_;refine H.st O1 0 1 (L:=sz7) (fun a w9 O9 H=>nt (wp_ret ?_)) Z0j;repeat with_reducible first |apply Z4 |apply Z5
  exact fin 7 _ _ (H.keep ⟨rfl,rfl,trivial⟩) O9 (by unfold G7;rw[if_neg h12,if_neg (by omega),if_neg (by omega),if_pos (by omega)])
 refine H.bb 0 rfl rfl rfl rfl rfl rfl (Q3 _ _ false (by rw[decide_eq_false_iff_not];omega) _ _ _) rfl fun a H=>nt (H.condF rfl (Z3 (Z0 ?_)));replace H:=H.kp [0,1,2,6,8];refine H.rg 1 fun a H=>?_;refine H.len gz rfl rfl rfl rfl Tryz.underlying31 fun a H=>?_;by_cases hbig:1480<n
 ·refine H.bb 0 rfl rfl rfl rfl rfl rfl (S0 _ _ true (by rw[decide_eq_true_iff];omega) _ _ _) rfl fun a H=>nt (H.condT rfl ?_)
  refine rl ?_;refine H.any (w':=w1) gz rfl rfl (.agg sz7.toArray) (by intro cs b h;cases h) (by kernel_rfl) (by kernel_rfl) fun a H=>?_;refine H.st O1 0 1 (L:=sz7) (fun a w9 O9 H=>nt (wp_ret ?_)) Z0j;repeat with_reducible first |apply Z4 |apply Z5
  exact fin 2 _ _ (H.keep ⟨rfl,rfl,trivial⟩) O9 (by unfold G7;rw[if_neg h12,if_neg (by omega),if_neg (by omega),if_neg (by omega),if_pos (by omega)])
 refine H.bb 0 rfl rfl rfl rfl rfl rfl (S0 _ _ false (by rw[decide_eq_false_iff_not];omega) _ _ _) rfl fun a H=>nt (H.condF rfl (Z3 (Z0 ?_)));replace H:=H.kp [0,1,2,6,8];obtain⟨S,hS⟩:∃S,Z1x src dst xs=S:=⟨_,rfl⟩;refine H.rg 3 fun a H=>?_;refine H.len gz rfl rfl rfl rfl Tryz.underlying31 fun a H=>?_;have KH:Calls Tryz.prog 92 #[iz src,iz dst,iz n] w1 fun e w'=>∃v,e = .returned v∧∃A' c',v = .slice A' 12 c'∧w'.ownsRow w1.heap.size 5 1 (.slice A' 12 c') 12 ((L8 src dst n).map bv)∧Below w1.heap.size w1 w':=(X7z src dst n (by omega) (by omega) (by omega) w1).mono fun _ _ ⟨A',c',h1,h2,h3⟩=>⟨_,h1,A',c',rfl,h2,h3⟩;refine H.cl KH ?_;rintro a _ w2 ⟨A2,c2,rfl,hO2,hb2⟩ H;have O2:=O1.call hb2;have ha1:=Sm.add_le 0 (L8 src dst n);have ha2:=Sm.add_le (Sm.add 0 (L8 src dst n)) xs;have hsum:=Y0g src dst xs;rw[hl,hS] at hsum;refine H.cq 1 (Y3y 0 0 rfl (by decide) (L8 src dst n) 12 (Z3b ..) A2 c2 w2 (RB.of_ownN hO2) (by decide)) fun a H=>?_;refine H.cq 0 (Y3y (Sm.add 0 (L8 src dst n)) _ rfl (by omega) xs n hl A c w2 (hx.next (bl O2)) (by omega)) fun a H=>?_;have hrest:G7 src dst xs=if S≠0 then (.zero,8) else (Z5h xs,0):=by unfold G7;rw[if_neg h12,if_neg (by omega),if_neg (by omega),if_neg (by omega),if_neg (by omega),Int.toNat_natCast,Int.toNat_natCast,hS]
 obtain⟨zs,hzs⟩:∃z,(((Sm.add (Sm.add 0 (L8 src dst n)) xs:Nat):Int) != 65535)=z:=⟨_,rfl⟩;refine H.bn 0 (Z1c _ _ zs hzs _ _ _) fun a H=>nt ?_;cases zs with
 |true=>
  refine H.condT rfl ?_;have hz:¬((Sm.add (Sm.add 0 (L8 src dst n)) xs:Nat):Int)=65535:=by simpa using hzs
  have h8:S≠0:=by omega
  refine rl ?_;refine H.any (w':=w2) gz rfl rfl (.agg sz7.toArray) (by intro cs b h;cases h) (by kernel_rfl) (by kernel_rfl) fun a H=>?_;refine H.st O2 0 1 (L:=sz7) (fun a w9 O9 H=>nt (wp_ret ?_)) Z0j;repeat with_reducible first |apply Z4 |apply Z5
  exact fin 8 _ _ (H.keep ⟨rfl,rfl,trivial⟩) O9 (by rw[hrest,if_pos h8])
 |false=>
 have hz:((Sm.add (Sm.add 0 (L8 src dst n)) xs:Nat):Int)=65535:=by simpa using hzs
 have h8:S=0:=by omega
 rw[if_neg (by omega)] at hrest;refine H.condF rfl (Z3 (Z0 ?_));replace H:=H.kp [2,6,8];have hcl:(xs.drop N).length=n-N:=by rw[List.length_drop];omega
 refine H.sg (fun w'=>X0 w g [(g,sz7)] w') O2.drew [2,6,8] [ec 0 50 (.slice A n c),ec 1 51 (.slice A 2 c),ec 2 52 (iz (V4 xs 0 2)),ec 3 53 (.slice A n c),ec 4 54 (.slice (if c=2 then A else A.map (·.add 2)) 2 (c-2)),ec 5 55 (iz (V4 xs 2 2)),ec 6 56 (.slice A n c),ec 7 57 (.slice (if c=4 then A else A.map (·.add 4)) 4 (c-4)),ec 8 58 (iz (V4 xs 4 4)),ec 9 59 (.slice A n c),ec 10 60 (.slice (if c=8 then A else A.map (·.add 8)) 4 (c-8)),ec 11 61 (iz (V4 xs 8 4)),ec 12 62 (.slice A n c),ec 13 63 (.pointer (some ⟨b,o+13,none⟩)),ec 14 64 (.int .u8 ((b8 xs 13:Nat):Int)),ec 15 65 (.int .u8 ((b8 xs 13%64:Nat):Int)),ec 16 66 (iz ((b8 xs 13%64:Nat):Int)),ec 17 67 (.slice A n c),ec 18 68 (.slice (if c=14 then A else A.map (·.add 14)) 2 (c-14)),ec 19 69 (iz (V4 xs 14 2)),ec 20 70 (.slice A n c),ec 21 71 (iz N),ec 22 72 (.slice (if c=N then A else A.map (·.add N)) (n-N) (c-N)),ec 26 7 (iz 0)] rfl ?_;refine St.call 23 ⟨jm,jh fun _=>Z4t A n c 2 (by omega) hnc _,jq fun w' h=>ofW (xs.take 2) 2 (by rw[List.length_take];omega) A c w' ((hx.next (bl h)).take 2) (by decide),jm,js2 fun _=>N0 A n c 2 4 (by omega) (by omega) hnc _,jq fun w' h=>ofN xs n hl A c hnc w' (hx.next (bl h)) 2 2 (by omega) (by decide) _ rfl,jm,js2 fun _=>N0 A n c 4 8 (by omega) (by omega) hnc _,jq fun w' h=>ofN xs n hl A c hnc w' (hx.next (bl h)) 4 4 (by omega) (by decide) _ rfl,jm,js2 fun _=>N0 A n c 8 12 (by omega) (by omega) hnc _,jq fun w' h=>ofN xs n hl A c hnc w' (hx.next (bl h)) 8 4 (by omega) (by decide) _ rfl,jm,jI rfl rfl rfl rfl rfl rfl (hix 13 (by omega)),jl fun _ h=>U3 _ _ _ _ ((hrb h).b8 (k:=13) (by omega)),jb fun _=>X8z (b8 xs 13) (Z1w xs 13) _ _ _,jc fun _=>Z0l (b8 xs 13%64) (by have:=Z1w xs 13;omega) _,jm,js2 fun _=>N0 A n c 14 16 (by omega) (by omega) hnc _,jq fun w' h=>ofN xs n hl A c hnc w' (hx.next (bl h)) 14 2 (by omega) (by decide) _ rfl,jm,jm,js1 fun _=>Z7d A n c N (by omega) hnc _,jm,trivial⟩ (fun wy h=>Q0u (xs.drop N) (n-N) hcl _ (c-N) wy ((hx.next (bl h)).cut (k:=N) (cap:=c) (by omega) (by omega)) (by omega)) ?_;rintro wy _ wz hh ⟨A1,c1,rfl,hO,hb⟩;have hgy:g<wy.heap.size:=hh.lt 0 rfl;have Oz:=hh.call hb;clear hb;generalize wy.heap.size=bb at hO hgy;refine nx (fun w'=>X0 w g [(g,sz7)] w'∧w'.ownsRow bb 5 1 (.slice A1 (n-N) c1) (n-N) ((xs.drop N).map bv)) [ec 24 74 (.agg ([iz (V4 xs 0 2),iz (V4 xs 2 2),iz (V4 xs 4 4),iz (V4 xs 8 4),iz ((b8 xs 13%64:Nat):Int),iz (V4 xs 14 2), .slice A1 (n-N) c1]:List Value).toArray)] [] ⟨Oz,hO⟩ ?_;refine St.sto 25 ⟨ja (fun _=>by kernel_rfl),jm,jI rfl rfl rfl rfl rfl rfl (hix 13 (by omega)),jl fun _ h=>U3 _ _ _ _ ((hrb h.1).b8 (k:=13) (by omega)),jb fun _=>X8z (b8 xs 13) (Z1w xs 13) _ _ _,jc fun _=>Z0l (b8 xs 13%64) (by have:=Z1w xs 13;omega) _,jm,trivial⟩ ?_;rintro a wu H _ ⟨Ou,hOu⟩;obtain⟨w',hr,hg3,hs3,hC3⟩:=(Ou.get 0 rfl).sto (L:=[iz (V4 xs 0 2),iz (V4 xs 2 2),iz (V4 xs 4 4),iz (V4 xs 8 4),iz ((b8 xs 13%64:Nat):Int),iz (V4 xs 14 2), .slice A1 (n-N) c1]) Z0j rfl rfl rfl;refine⟨w',Q6 rfl (H.ev rfl) (H.ev rfl) hr,nx0 (fun w'=>X0 w g [(g,[iz (V4 xs 0 2),iz (V4 xs 2 2),iz (V4 xs 4 4),iz (V4 xs 8 4),iz ((b8 xs 13%64:Nat):Int),iz (V4 xs 14 2), .slice A1 (n-N) c1])] w'∧w'.ownsRow bb 5 1 (.slice A1 (n-N) c1) (n-N) ((xs.drop N).map bv)) [] [] ⟨Ou.store 0 rfl hg3 hs3 hC3,hOu.kept hg3 (.inr (Q1 hOu (.inl hgy)).symm)⟩ (St.fin ⟨jm,trivial⟩ ?_ (hF:=.inl rfl))⟩;rintro a w3 H _ ⟨O3,hO3⟩;refine Z0 (wp_ret ?_);repeat with_reducible first |apply Z4 |apply Z5
 refine bodyPost_ret (U0 Tryz.results97 _ _ _ (H.at_ 6 _ rfl) (H.at_ 7 _ rfl) (O3.get 0 rfl) Tryz.underlying36 rfl _ Z0j rfl) H.df ?_;rw[hrest];unfold Z5h;rw[hN];refine⟨A1,c1, ?_, ?_,bl O3⟩
 ·simp only[hcl]
 ·simp only[hcl];exact V2 hO3 (by omega)
end
section
open Go.RowKit
def Q2j (w:World) (r:Sg×Bool) (v:Value) (w':World):Prop:=
 ∃A c,v = .tuple #[.agg #[iz r.1.sp,iz r.1.dp,iz r.1.sq,iz r.1.ak,iz r.1.fl,iz r.1.wn, .slice A r.1.xs.length c], .bool r.2]∧w'.ownsRow w.heap.size 5 1 (.slice A r.1.xs.length c) r.1.xs.length (r.1.xs.map bv)∧Below w.heap.size w w'
theorem Z3w:(Tryz.prog.info? 36).map (·.size)=some 7:=by kernel_rfl
theorem X0q (w:World):(zeroValue 36).run Tryz.prog w = .ok (.agg ([iz 0,iz 0,iz 0,iz 0,iz 0,iz 0,Z2]:List Value).toArray) w:=by kernel_rfl
theorem J9c:(Tryz.prog.info? 89).map (·.size)=some 6:=by kernel_rfl
theorem J9d (w:World):(zeroValue 89).run Tryz.prog w = .ok (.agg ([iz 0,iz 0,iz 0,iz 0,iz 0,Z2]:List Value).toArray) w:=by kernel_rfl
theorem J5p (xs:List UInt8) (n:Nat) (hl:xs.length=n) (A:Option Addr) (c:Nat) (hnc:n≤c) (w:World) (hx:RB w w.heap.size A xs) (hn:n≤140737488351232) (ps pd pp pt pi er:Int) (zs:List UInt8) (hp:X1 xs=(⟨ps,pd,pp,pt,pi,zs⟩,er)):
  Calls Tryz.prog 96 #[.slice A n c] w fun e w'=>∃v,e = .returned v∧(∃A2 c2,v = .tuple #[.agg ([iz ps,iz pd,iz pp,iz pt,iz pi, .slice A2 zs.length c2]:List Value).toArray,iz er]∧w'.ownsRow w.heap.size 5 1 (.slice A2 zs.length c2) zs.length (zs.map bv)∧Below w.heap.size w w'):=by
 have h:=X3r xs n hl A c hnc w hx hn;rw[hp] at h;exact h.mono fun _ _ ⟨A',c',h1,h2⟩=>⟨_,h1,A',c',rfl,h2⟩
theorem J5q (src dst:Int) (xs:List UInt8) (n:Nat) (hl:xs.length=n) (A:Option Addr) (c:Nat) (hnc:n≤c) (w:World) (hx:RB w w.heap.size A xs) (hn:n≤140737488351232) (q:Sg) (er:Int) (hp:G7 src dst xs=(q,er)):
  Calls Tryz.prog 97 #[iz src,iz dst, .slice A n c] w fun e w'=>∃v,e = .returned v∧(∃A3 c3,v = .tuple #[.agg ([iz q.sp,iz q.dp,iz q.sq,iz q.ak,iz q.fl,iz q.wn, .slice A3 q.xs.length c3]:List Value).toArray,iz er]∧w'.ownsRow w.heap.size 5 1 (.slice A3 q.xs.length c3) q.xs.length (q.xs.map bv)∧Below w.heap.size w w'):=by
 have h:=X0p src dst xs n hl A c hnc w hx hn;rw[hp] at h;exact h.mono fun _ _ ⟨A',c',h1,h2⟩=>⟨_,h1,A',c',rfl,h2⟩
theorem X0r (xs:List UInt8):(X1 xs).1.xs.length≤xs.length:=by
 unfold X1;repeat' split
 all_goals simp[Pk.zero,Z8n]
 all_goals omega
theorem J9e (xs:List UInt8) (n:Nat) (hn:xs.length=n) (A:Option Addr) (c:Nat) (hnc:n≤c) (src sport dst dport:Int) (w:World) (hx:RB w w.heap.size A xs) (hl:n≤140737488351232):
  Calls Tryz.prog 57 #[.slice A n c,iz src,iz sport,iz dst,iz dport] w fun e w'=>∃v,e = .returned v∧Q2j w (Y4w xs src sport dst dport) v w':=by
 rcases hf:E6 xs with⟨⟨fd,fs,ft,ys⟩,e1⟩
 have hyl:ys.length≤n:=by have:=Y7s xs;rw[hf] at this;rw[←hn];exact this
 rcases hp:X1 ys with⟨⟨ps,pd,pp,pt,pi,zs⟩,e2⟩
 have hzl:zs.length≤n:=by have:=X0r ys;rw[hp] at this;exact Nat.le_trans this hyl
 rcases hs:G7 src dst zs with⟨q,e3⟩
 have hst:Y4w xs src sport dst dport=if ((e1 != 0)||((ft:Int) != 2048))=true then (Sg.zero,false) else if ((((e2 != 0)||(ps != src))||(pd != dst))||(pp != 6))=true then (Sg.zero,false) else (q,((e3==0)&&(q.sp==sport))&&(q.dp==dport)):=by
  unfold Y4w;rw[hf];simp only[hp,hs];have h1:(e1≠0∨ft≠2048)↔((e1 != 0)||((ft:Int) != 2048))=true:=by
   simp only[Bool.or_eq_true,bne_iff_ne,ne_eq];omega
  have h2:(e2≠0∨ps≠src∨pd≠dst∨pp≠6)↔((((e2 != 0)||(ps != src))||(pd != dst))||(pp != 6))=true:=by
   simp only[Bool.or_eq_true,bne_iff_ne,ne_eq,or_assoc]
  simp only[h1,h2,Bool.and_assoc]
 rw[hst];clear hst;go_enter Tryz.func57,Tryz.ntmps57;refine Z9.start 78 [(0, .slice A n c),(1,iz src),(2,iz sport),(3,iz dst),(4,iz dport)] rfl rfl ⟨rfl,rfl,rfl,rfl,rfl,trivial⟩ ?_;intro a0 H0;have O0:=X0.start w;refine rl ?_;refine H0.al O0 1 X0q fun a1 w1 O1 H1=>nt ?_;generalize hg:w.heap.size=g at O1 H1;have bl:∀{w':World}{bs:List (Nat×List Value)},X0 w g bs w'→Below w.heap.size w w':=fun h=>hg▸h.bel;refine H1.rg 1 fun a2 H2=>?_;refine H2.cl (X6d xs n hn A c hnc w1 (hx.next (bl O1)) hl) ?_;rintro a3 _ w2 ⟨A1,c1,hv,hO2,hb2⟩ H3;rw[hf] at hv hO2;subst hv;have hr2:=S4 rfl hO2 hb2.size;have hc2:=Z4s hO2;have O2:=O1.call hb2;clear hO2 hb2;refine H3.ms 1 fun a4 H4=>?_;refine H4.ex (r:=.agg ([iz fd,iz fs,iz ft, .slice A1 ys.length c1]:List Value).toArray) 0 fun a5 H5=>?_;refine H5.ex (r:=iz e1) 0 fun a6 H6=>?_;refine H6.nk O2 1 (L:=[iz fd,iz fs,iz ft, .slice A1 ys.length c1]) rfl X3q Z5x fun a7 w3 hb3 O3 _ H7=>nt ?_;have hr3:=hr2.next hb3;generalize w2.heap.size=g2 at O3 H7;replace H7:=H7.kp [1,2,3,4,10,12,13];clear H1 H2 H3 H4 H5 H6 O2 hb3 hr2;obtain⟨x1,hx1⟩:∃b,(e1 != 0)=b:=⟨_,rfl⟩;obtain⟨x2,hx2⟩:∃b,((ft:Int) != 2048)=b:=⟨_,rfl⟩;rw[hx1,hx2];refine H7.tb (fun w'=>X0 w g [(g2,[iz fd,iz fs,iz ft, .slice A1 ys.length c1]),(g,[iz 0,iz 0,iz 0,iz 0,iz 0,iz 0,Z2])] w'∧RB w' w'.heap.size A1 ys) (fun _ _ h hb=>⟨h.1.call hb,h.2.next hb⟩) ⟨O3,hr3⟩
  [ec 0 21 (iz e1),ec 1 22 (.bool x1),ec 2 23 (.bool x1),ec 3 24 (gv (!x1) (.pointer (some ⟨g2,2,none⟩))),ec 4 25 (gv (!x1) (iz ft)),ec 5 26 (gv (!x1) (.bool x2)),ec 6 27 (.bool (x1||x2))] rfl
  ⟨jm,jb fun _=>Z1c _ _ x1 hx1 _ _ _,jm,(by cases x1;exact jm;exact jo),(by cases x1;exact jl fun _ h=>h.1.li 0 2;exact jo),(by cases x1;exact jb fun _=>Z1c _ _ x2 hx2 _ _ _;exact jo),(by cases x1<;>exact jp),trivial⟩ ?_
 clear H7 O3 hr3;rintro a8 w4 H8 ⟨O4,hr4⟩;refine Z0 (H8.cond (t:=x1||x2) rfl ?_);replace H8:=H8.kp [1,2,3,4,10,12];cases hxx:x1||x2 with
 |true=>
  refine rl ?_;refine H8.any (w':=w4) gz rfl rfl (.agg ([iz 0,iz 0,iz 0,iz 0,iz 0,iz 0,Z2]:List Value).toArray) (by intro cs b h;cases h) (by kernel_rfl) (by kernel_rfl) fun a9 H9=>?_;refine H9.st O4 1 1 (L:=[iz 0,iz 0,iz 0,iz 0,iz 0,iz 0,Z2]) (fun a10 w5 O5 H10=>nt (wp_ret ?_)) Z3w;repeat with_reducible first |apply Z4 |apply Z5
  refine bodyPost_ret (U0 Tryz.results57 _ _ _ (H10.at_ 10 _ rfl) (H10.at_ 11 _ rfl) (O5.get 1 rfl) Tryz.underlying36 rfl _ Z3w rfl) H10.df ⟨_,rfl, ?_⟩;rw[if_pos rfl];exact⟨none,0,rfl,World.ownsRow_nil _ _ _ _,bl O5⟩
 |false=>
 rw[if_neg (by decide)];refine Z3 (Z0 ?_);refine rl ?_;refine H8.ms 1 fun a H=>?_;refine H.ld 0 (U8 _ _ _ _ _ _ ((O4.get 0 rfl).get 3 _ rfl)) fun a H=>?_;refine H.cl (J5p ys ys.length rfl A1 c1 hc2 w4 hr4 (by omega) ps pd pp pt pi e2 zs hp) ?_;rintro a9 _ w5 ⟨A2,c2,rfl,hO5,hb5⟩ H9;have hr5:=S4 rfl hO5 hb5.size;have hc5:=Z4s hO5;have O5:=O4.call hb5;clear hO5 hb5 hr4;refine H9.ms 1 fun a10 H10=>?_;refine H10.ex (r:=.agg ([iz ps,iz pd,iz pp,iz pt,iz pi, .slice A2 zs.length c2]:List Value).toArray) 0 fun a11 H11=>?_;refine H11.ex (r:=iz e2) 0 fun a12 H12=>?_;refine H12.nk O5 1 (L:=[iz ps,iz pd,iz pp,iz pt,iz pi, .slice A2 zs.length c2]) rfl J9d J9c fun a13 w6 hb6 O6 _ H13=>nt ?_;have hr6:=hr5.next hb6;generalize w5.heap.size=g5 at O6 H13;replace H13:=H13.kp [1,2,3,4,10,13,14];clear H8 H9 H10 H11 H12 H O5 hb6 hr5;obtain⟨y1,hy1⟩:∃b,(e2 != 0)=b:=⟨_,rfl⟩;obtain⟨y2,hy2⟩:∃b,(ps != src)=b:=⟨_,rfl⟩;obtain⟨y3,hy3⟩:∃b,(pd != dst)=b:=⟨_,rfl⟩;obtain⟨y4,hy4⟩:∃b,(pp != 6)=b:=⟨_,rfl⟩;rw[hy1,hy2,hy3,hy4];refine H13.tb (fun w'=>X0 w g [(g5,[iz ps,iz pd,iz pp,iz pt,iz pi, .slice A2 zs.length c2]),(g2,[iz fd,iz fs,iz ft, .slice A1 ys.length c1]),(g,[iz 0,iz 0,iz 0,iz 0,iz 0,iz 0,Z2])] w'∧RB w' w'.heap.size A2 zs) (fun _ _ h hb=>⟨h.1.call hb,h.2.next hb⟩) ⟨O6,hr6⟩
  [ec 0 35 (iz e2),ec 1 36 (.bool y1),ec 2 37 (.bool y1),ec 3 38 (gv (!y1) (pz g5)),ec 4 39 (gv (!y1) (iz ps)),ec 5 40 (gv (!y1) (iz src)),ec 6 41 (gv (!y1) (.bool y2)),ec 7 42 (.bool (y1||y2)),ec 8 43 (.bool (y1||y2)),
   ec 9 44 (gv (!(y1||y2)) (.pointer (some ⟨g5,1,none⟩))),ec 10 45 (gv (!(y1||y2)) (iz pd)),ec 11 46 (gv (!(y1||y2)) (iz dst)),ec 12 47 (gv (!(y1||y2)) (.bool y3)),ec 13 48 (.bool ((y1||y2)||y3)),ec 14 49 (.bool ((y1||y2)||y3)),
   ec 15 50 (gv (!((y1||y2)||y3)) (.pointer (some ⟨g5,2,none⟩))),ec 16 51 (gv (!((y1||y2)||y3)) (iz pp)),ec 17 52 (gv (!((y1||y2)||y3)) (.bool y4)),ec 18 53 (.bool (((y1||y2)||y3)||y4))] rfl
  ⟨jm,jb fun _=>Z1c _ _ y1 hy1 _ _ _,jm,(by cases y1;exact jm;exact jo),(by cases y1;exact jl fun _ h=>h.1.li 0 0;exact jo),(by cases y1;exact jm;exact jo),(by cases y1;exact jb fun _=>Z1c _ _ y2 hy2 _ _ _;exact jo),(by cases y1<;>exact jp),jm,
   (by cases y1<;>cases y2<;>first |exact jo |exact jm),(by cases y1<;>cases y2<;>first |exact jo |exact jl fun _ h=>h.1.li 0 1),(by cases y1<;>cases y2<;>first |exact jo |exact jm),(by cases y1<;>cases y2<;>first |exact jo |exact jb fun _=>Z1c _ _ y3 hy3 _ _ _),(by cases y1<;>cases y2<;>exact jp),jm,
   (by cases y1<;>cases y2<;>cases y3<;>first |exact jo |exact jm),(by cases y1<;>cases y2<;>cases y3<;>first |exact jo |exact jl fun _ h=>h.1.li 0 2),(by cases y1<;>cases y2<;>cases y3<;>first |exact jo |exact jb fun _=>Z1c _ _ y4 hy4 _ _ _),(by cases y1<;>cases y2<;>cases y3<;>exact jp),trivial⟩ ?_
 clear H13 O6 hr6;rintro a14 w7 H14 ⟨O7,hr7⟩;refine Z0 (H14.cond (t:=((y1||y2)||y3)||y4) rfl ?_);replace H14:=H14.kp [1,2,3,4,10,14];cases hyy:((y1||y2)||y3)||y4 with
 |true=>
  refine rl ?_;refine H14.any (w':=w7) gz rfl rfl (.agg ([iz 0,iz 0,iz 0,iz 0,iz 0,iz 0,Z2]:List Value).toArray) (by intro cs b h;cases h) (by kernel_rfl) (by kernel_rfl) fun a15 H15=>?_;refine H15.st O7 2 1 (L:=[iz 0,iz 0,iz 0,iz 0,iz 0,iz 0,Z2]) (fun a16 w8 O8 H16=>nt (wp_ret ?_)) Z3w;repeat with_reducible first |apply Z4 |apply Z5
  refine bodyPost_ret (U0 Tryz.results57 _ _ _ (H16.at_ 10 _ rfl) (H16.at_ 11 _ rfl) (O8.get 2 rfl) Tryz.underlying36 rfl _ Z3w rfl) H16.df ⟨_,rfl, ?_⟩;rw[if_pos rfl];exact⟨none,0,rfl,World.ownsRow_nil _ _ _ _,bl O8⟩
 |false=>
 rw[if_neg (by decide)];refine Z3 (Z0 ?_);refine H14.rg 3 fun a H=>?_;refine H.ld 0 (U8 _ _ _ _ _ _ ((O7.get 0 rfl).get 5 _ rfl)) fun a H=>?_;refine H.cl (J5q src dst zs zs.length rfl A2 c2 hc5 w7 hr7 (by omega) q e3 hs) ?_;rintro a15 _ w8 ⟨A3,c3,rfl,hO8,hb8⟩ H15;have O8:=O7.call hb8;have hs7:g<w7.heap.size:=O7.lt 2 rfl;clear hr7;refine H15.ms 1 fun a16 H16=>?_;refine H16.ex (r:=.agg ([iz q.sp,iz q.dp,iz q.sq,iz q.ak,iz q.fl,iz q.wn, .slice A3 q.xs.length c3]:List Value).toArray) 0 fun a17 H17=>?_;refine H17.ex (r:=iz e3) 0 fun a18 H18=>?_;refine H18.nk O8 1 (L:=[iz q.sp,iz q.dp,iz q.sq,iz q.ak,iz q.fl,iz q.wn, .slice A3 q.xs.length c3]) rfl X0q Z3w fun a19 w9 hb9 O9 _ H19=>nt ?_;have hO9:=Y1 hO8 hb9;generalize w8.heap.size=g8 at O9 H19;replace H19:=H19.kp [2,4,10,13,15];clear H14 H15 H16 H17 H18 H O8 hb9 hO8;obtain⟨z1,hz1⟩:∃b,(e3==0)=b:=⟨_,rfl⟩;obtain⟨z2,hz2⟩:∃b,(q.sp==sport)=b:=⟨_,rfl⟩;obtain⟨z3,hz3⟩:∃b,(q.dp==dport)=b:=⟨_,rfl⟩;rw[hz1,hz2,hz3];generalize w7.heap.size=bb at hO9 hs7;refine H19.sg (fun w'=>X0 w g [(g8,[iz q.sp,iz q.dp,iz q.sq,iz q.ak,iz q.fl,iz q.wn, .slice A3 q.xs.length c3]),(g5,[iz ps,iz pd,iz pp,iz pt,iz pi, .slice A2 zs.length c2]),(g2,[iz fd,iz fs,iz ft, .slice A1 ys.length c1]),(g,[iz 0,iz 0,iz 0,iz 0,iz 0,iz 0,Z2])] w'∧w'.ownsRow bb 5 1 (.slice A3 q.xs.length c3) q.xs.length (q.xs.map bv)) ⟨O9.drew,hO9⟩ [2,4,10,13,15]
  [ec 0 63 (.agg ([iz q.sp,iz q.dp,iz q.sq,iz q.ak,iz q.fl,iz q.wn, .slice A3 q.xs.length c3]:List Value).toArray),ec 1 64 (iz e3),ec 2 65 (.bool z1),ec 3 66 (.bool z1),ec 4 67 (gv z1 (pz g8)),ec 5 68 (gv z1 (iz q.sp)),ec 6 69 (gv z1 (iz sport)),ec 7 70 (gv z1 (.bool z2)),ec 8 71 (.bool (z1&&z2)),ec 9 72 (.bool (z1&&z2)),
   ec 10 73 (gv (z1&&z2) (.pointer (some ⟨g8,1,none⟩))),ec 11 74 (gv (z1&&z2) (iz q.dp)),ec 12 75 (gv (z1&&z2) (iz dport)),ec 13 76 (gv (z1&&z2) (.bool z3)),ec 14 77 (.bool ((z1&&z2)&&z3)),ec 16 11 (.bool ((z1&&z2)&&z3))] rfl ?_
 refine St.sto 15 ⟨jl fun _ h=>Y5k (h.1.get 0 rfl) Tryz.underlying36 rfl Z3w rfl,jm,jb fun _=>Z7 _ _ z1 hz1 _ _ _,jm,(by cases z1;exact jo;exact jm),(by cases z1;exact jo;exact jl fun _ h=>h.1.li 0 0),(by cases z1;exact jo;exact jm),(by cases z1;exact jo;exact jb fun _=>Z7 _ _ z2 hz2 _ _ _),(by cases z1<;>exact jp),jm,
   (by cases z1<;>cases z2<;>first |exact jo |exact jm),(by cases z1<;>cases z2<;>first |exact jo |exact jl fun _ h=>h.1.li 0 1),(by cases z1<;>cases z2<;>first |exact jo |exact jm),(by cases z1<;>cases z2<;>first |exact jo |exact jb fun _=>Z7 _ _ z3 hz3 _ _ _),(by cases z1<;>cases z2<;>exact jp),jm,trivial⟩ ?_
 rintro a20 wu H20 _ ⟨Ou,hOu⟩;obtain⟨w',hr,hg2,hs2,hC2⟩:=(Ou.get 3 rfl).sto (L:=[iz q.sp,iz q.dp,iz q.sq,iz q.ak,iz q.fl,iz q.wn, .slice A3 q.xs.length c3]) Z3w rfl rfl rfl;refine⟨w',Q6 rfl (H20.ev rfl) (H20.ev rfl) hr,nx0 (fun w'=>X0 w g [(g8,[iz q.sp,iz q.dp,iz q.sq,iz q.ak,iz q.fl,iz q.wn, .slice A3 q.xs.length c3]),(g5,[iz ps,iz pd,iz pp,iz pt,iz pi, .slice A2 zs.length c2]),(g2,[iz fd,iz fs,iz ft, .slice A1 ys.length c1]),(g,[iz q.sp,iz q.dp,iz q.sq,iz q.ak,iz q.fl,iz q.wn, .slice A3 q.xs.length c3])] w'∧w'.ownsRow bb 5 1 (.slice A3 q.xs.length c3) q.xs.length (q.xs.map bv)) [] [] ⟨Ou.store 3 rfl hg2 hs2 hC2,hOu.kept hg2 (.inr (Q1 hOu (.inl hs7)).symm)⟩ ?_⟩;refine St.fin ⟨(by cases z1<;>cases z2<;>first |exact jo |exact jm),(by cases z1<;>cases z2<;>first |exact jo |exact jl fun _ h=>h.1.li 0 1),(by cases z1<;>cases z2<;>first |exact jo |exact jm),(by cases z1<;>cases z2<;>first |exact jo |exact jb fun _=>Z7 _ _ z3 hz3 _ _ _),(by cases z1<;>cases z2<;>exact jp),jm,trivial⟩ ?_ (hF:=.inl rfl);rintro a21 w11 H21 _ ⟨O11,hO11⟩;refine Z0 (wp_ret ?_);repeat with_reducible first |apply Z4 |apply Z5
 refine bodyPost_ret (U0 Tryz.results57 _ _ _ (H21.at_ 10 _ rfl) (H21.at_ 11 _ rfl) (O11.get 3 rfl) Tryz.underlying36 rfl _ Z3w rfl) H21.df ⟨_,rfl,A3,c3,rfl,V2 hO11 (by omega),bl O11⟩
end
section
open Go.RowKit
def Y7k (v:Nat):Nat→List Nat→Int
 |_,[]=> -1
 |k,f::fs=>if f=v then (k:Int) else Y7k v (k+1) fs
theorem X3s (v:Nat):∀(k:Nat) (fs:List Nat),decide (0≤Y7k v k fs)=decide (v∈fs)
 |_,[]=>rfl
 |k,f::fs=>by
  unfold Y7k;by_cases h:f=v
  ·rw[if_pos h,decide_eq_true (Int.natCast_nonneg k),decide_eq_true (by rw[h];exact List.mem_cons_self)]
  ·rw[if_neg h,X3s v (k+1) fs]
   refine decide_eq_decide.2 ⟨fun hm=>List.mem_cons_of_mem _ hm,fun hm=>?_⟩;rcases List.mem_cons.1 hm with e |e
   ·exact absurd e.symm h
   ·exact e
theorem Q2k (fs:List Nat) (v:Nat) (A:Option Addr) (c:Nat) (w:World) (b:Nat) (hr:w.ownsRow b 3 1 (.slice A fs.length c) fs.length (fs.map Z7l)) (hn:fs.length≤1000000000):
  Calls Tryz.prog 63 #[.slice A fs.length c,iz v] w fun e w'=>e = .returned (iz (Y7k v 0 fs))∧w=w':=by
 go_enter Tryz.func63,Tryz.ntmps63
 refine Z9.start 19 [(0, .slice A fs.length c),(1,iz v)] rfl rfl ⟨rfl,rfl,trivial⟩ ?_;intro a0 H0;refine H0.rg 1 fun a H=>nt ?_;replace H:=H.kp [0,1];refine Z8 (fun a w'=>Z9 a 19 []∧Y7k v 0 fs = -1∧w=w') ?_ ?_
 ·refine H.rg 1 fun a H=>nt (wp_block ?_)
  refine Q7 fs.length (fun k a w'=>Z9 a 19 [(0, .slice A fs.length c),(1,iz v),(5,iz k)]∧Y7k v 0 fs=Y7k v k (fs.drop k)∧w=w') ⟨H.keep ⟨rfl,rfl,rfl,trivial⟩,rfl,rfl⟩ ?_;clear H;rintro k a w1 hk ⟨H,hv,rfl⟩;obtain⟨b1,e1⟩:∃b,decide ((k:Int)<((fs.length:Nat):Int))=b:=⟨_,rfl⟩;refine H.rg 2 fun a H=>?_;refine H.len gz rfl rfl rfl rfl Tryz.underlying45 fun a H=>?_;refine H.bb 0 rfl rfl rfl rfl rfl rfl (Q3 _ _ b1 e1 _ _ _) rfl fun a H=>nt (H.cond (t:=b1) rfl ?_);cases b1 with
  |false=>
   have hke:fs.length≤k:=by have:=of_decide_eq_false e1;omega
   rw[List.drop_eq_nil_of_le hke] at hv;refine wp_exit ?_;repeat (with_reducible refine J7 ?_)
   refine X3 ?_;exact⟨H.keep trivial,hv,rfl⟩
  |true=>
  have hlt:k<fs.length:=by have:=of_decide_eq_true e1;omega
  clear e1;rw[List.drop_eq_getElem_cons hlt] at hv;refine Z3 (Z0 (wp_seq (wp_block ?_)));obtain⟨g,cap,hA,_,_⟩:=hr.form (by omega);injection hA with e1 _ e2
  subst e1 e2;have hck:=hr.cells (g:=g) rfl k (Z7l fs[k]) (by rw[List.getElem?_map,List.getElem?_eq_getElem hlt];rfl);rw[Addr.add_mid] at hck;refine H.rg 2 fun a H=>?_;refine H.index gz rfl rfl rfl rfl rfl (U7 45 Tryz.underlying45 (fun _=>by kernel_rfl) g 0 fs.length c k hlt w) fun a H=>?_;refine H.ld 1 (J9 _ _ _ _ hck) fun a H=>?_;obtain⟨b2,e2⟩:∃b,(((fs[k]:Nat):Int)==(v:Int))=b:=⟨_,rfl⟩;refine H.bb 0 rfl rfl rfl rfl rfl rfl (Z7 _ _ b2 e2 _ _ _) rfl fun a H=>nt (H.cond (t:=b2) rfl ?_);cases b2 with
  |true=>
   have he:fs[k]=v:=by have:=beq_iff_eq.1 e2;omega
   rw[Y7k,if_pos he] at hv;refine H.rg 2 fun a H=>nt (wp_ret ?_);repeat with_reducible first |apply Z4 |apply Z5
   exact bodyPost_ret (results_tmp rfl _ _ _) H.df ⟨(congrArg Ending.returned (H.at_ 4 _ rfl)).trans (by rw[hv]),rfl⟩
  |false=>
   have he:fs[k]≠v:=by have:=beq_eq_false_iff_ne.1 e2;omega
   rw[Y7k,if_neg he] at hv;refine Z3 (Z6 (Z0 ?_));refine H.rg 1 fun a H=>?_;refine H.bb 1 rfl rfl rfl rfl rfl rfl (E7 k (by omega) _ _ _) rfl fun a H=>nt ?_;exact⟨hlt,H.keep ⟨rfl,rfl,rfl,trivial⟩,hv,rfl⟩
 ·rintro a w' ⟨H,hv,rfl⟩
  refine H.rg 1 fun a H=>nt (wp_ret ?_);repeat with_reducible first |apply Z4 |apply Z5
  exact bodyPost_ret (results_tmp rfl _ _ _) H.df ⟨(congrArg Ending.returned (H.at_ 4 _ rfl)).trans (by rw[hv]),rfl⟩
theorem Z2h.tell {g:Nat}{x:Lst}{AP:Option Addr}{vB vF vB':Value}{told:List UInt8}{w w':World}(h:Z2h g x AP vB vF w) (hO:w'.ownsRow (g+1) 5 1 vB' (x.b.length+told.length) (x.b.map bv++told.map bv)) (hg:w.grownBy w' vB.ownBlock) (hfr:vB'.ownBlock=vB.ownBlock∨vB'.ownBlock=some w.heap.size):Z2h g { x with b:=x.b++told } AP vB' vF w':=
 ⟨by
  show w'.ownsRow (g+1) 5 1 vB' (x.b++told).length ((x.b++told).map bv);rw[List.length_append,List.map_append];exact hO,
  h.2.1.kept hg (G8 h.2.1 h.1 rfl),
  ((h.2.2.mono (S':=fun k=>Z0w g vB vF k∧k<w.heap.size) (fun _ hk hS=>⟨hS,hk⟩)).grown hg (fun k e hS=>hS.1.2.1 e.symm)).mono fun _ _ hS=>Z0w.turnB hfr hS⟩
theorem X6f {ti port:Int}{l:List (List UInt8)}{x y:Lst}(h:S1 ti port l x y) (hx:x.up=false→x = .zero) (hu:y.up=false):y = .zero:=by
 induction h with
 |nil=>exact hx hu
 |skip _ _ ih=>exact ih hx hu
 |take _ h2 _ ih=>
  refine ih (fun h1=>?_) hu;unfold Z0x at h2
  split at h2
  ·rw[h2] at h1;cases h1
  ·split at h2
   ·next h3=>rw[h2];exact hx h3
   ·obtain⟨_,_,_,_,rfl⟩:=h2
    cases h1
structure PgJ (W:World) (g:Nat) (ti port:Int) (l:List (List UInt8)) (k:Nat) (x:Lst) (AP:Option Addr) (cP:Nat) (vB vF:Value) (w:World):Prop where
 heard:S1 ti port (l.take k) .zero x
 ok:Z4d k x
 r:Q2d x
 own:X0 W W.heap.size [(g,[iz x.nq, .slice AP x.ps.length cP])] w
 m:Z2h g x AP vB vF w
theorem PgJ.next {W:World}{g:Nat}{ti port:Int}{l:List (List UInt8)}{k:Nat}{x:Lst}{AP:Option Addr}{cP:Nat}{vB vF:Value}{w w':World}(h:PgJ W g ti port l k x AP cP vB vF w) (hb:Below w.heap.size w w'):PgJ W g ti port l k x AP cP vB vF w':=⟨h.heard,h.ok,h.r,h.own.call hb,h.m.next hb⟩
theorem PgJ.skip {W:World}{g:Nat}{ti port:Int}{l:List (List UInt8)}{k:Nat}{x:Lst}{AP:Option Addr}{cP:Nat}{vB vF:Value}{w:World}{b:List UInt8}(h:PgJ W g ti port l k x AP cP vB vF w) (hb:l[k]? = some b) (hn:Z0s ti port b=none):PgJ W g ti port l (k+1) x AP cP vB vF w:=by
 refine⟨?_,h.ok.more (Nat.le_succ _),h.r,h.own,h.m⟩;rw[List.take_add_one,hb];exact h.heard.append (.skip hn .nil)
theorem PgJ.take {W:World}{g:Nat}{ti port:Int}{l:List (List UInt8)}{k:Nat}{x x':Lst}{AP AP':Option Addr}{cP cP':Nat}{vB vF vB' vF':Value}{w w':World}{b:List UInt8}{q:Sg}(h:PgJ W g ti port l k x AP cP vB vF w) (hb:l[k]? = some b) (hn:Z0s ti port b=some q) (hh:Z0x q q.sq.toNat x x') (hO:X0 W W.heap.size [(g,[iz x'.nq, .slice AP' x'.ps.length cP'])] w') (hM:Z2h g x' AP' vB' vF' w'):PgJ W g ti port l (k+1) x' AP' cP' vB' vF' w':=by
 refine⟨?_,X0h hh h.ok,Q2e hh h.r h.ok.1,hO,hM⟩;rw[List.take_add_one,hb];exact h.heard.append (.take hn hh .nil)
theorem Y6k (l:List (List UInt8)) (AL:Option Addr) (cL:Nat) (ti port:Int) (w:World) (hL:Z2j w (fun _=>True) AL l) (hl:l.length≤100000) (hlb:∀b∈l,b.length≤140737488351232) (nl:Nat) (hnl:l.length=nl):
  Calls Tryz.prog 27 #[.slice AL nl cL,iz ti,iz port] w fun e w'=>∃v,e = .returned v∧∃x A c,v = .tuple #[.slice A x.b.length c, .bool (x.rst||decide (x.nq∈x.fins))]∧S1 ti port l .zero x∧Z4d l.length x∧w'.ownsRow w.heap.size 5 1 (.slice A x.b.length c) x.b.length (x.b.map bv)∧Below w.heap.size w w':=by
 subst hnl;go_enter Tryz.func27,Tryz.ntmps27;refine Z9.start 88 [(0, .slice AL l.length cL),(1,iz ti),(2,iz port)] rfl rfl ⟨rfl,rfl,rfl,trivial⟩ ?_;intro a0 H0;have O0:=X0.start w;refine H0.rg 2 fun a H=>nt ?_;refine H.rg 1 fun a H=>nt ?_;refine H.rg 1 fun a H=>nt ?_;refine rl ?_;refine H.al O0 0 Z7e fun a w1 O1 H=>nt ?_;refine H.rg 2 fun a H=>nt ?_;obtain⟨g,hg⟩:∃g,w.heap.size=g:=⟨_,rfl⟩;rw[hg] at H;replace H:=H.kp [0,1,2,8,9,10,11,12];have J0:PgJ w g ti port l 0 .zero none 0 (.slice none ([]:List UInt8).length 0) (.slice none ([]:List Nat).length 0) w1:=⟨.nil,Z4d.zero,X8v 0,hg▸O1,World.ownsRow_nil _ _ _ _,World.ownsRow_nil _ _ _ _,E0.nil⟩;clear O1 O0 H0;refine Z8 (fun a w'=>∃(x:Lst) (AP:Option Addr) (cP:Nat) (AB:Option Addr) (cB:Nat) (AF:Option Addr) (cF:Nat),Z9 a 88 [(0, .slice AL l.length cL),(1,iz ti),(2,iz port),(8, .slice AB x.b.length cB),(9, .slice AF x.fins.length cF),(10,pz g),(11, .bool x.up),(12, .bool x.rst)]∧PgJ w g ti port l (l.length) x AP cP (.slice AB x.b.length cB) (.slice AF x.fins.length cF) w') ?_ ?_
 ·refine H.rg 1 fun a H=>nt (wp_block ?_)
  refine Q7 l.length (fun k a w'=>∃(x:Lst) (AP:Option Addr) (cP:Nat) (AB:Option Addr) (cB:Nat) (AF:Option Addr) (cF:Nat),Z9 a 88 [(0, .slice AL l.length cL),(1,iz ti),(2,iz port),(8, .slice AB x.b.length cB),(9, .slice AF x.fins.length cF),(10,pz g),(11, .bool x.up),(12, .bool x.rst),(13,iz k)]∧PgJ w g ti port l (k) x AP cP (.slice AB x.b.length cB) (.slice AF x.fins.length cF) w') ⟨.zero,none,0,none,0,none,0,H.keep ⟨rfl,rfl,rfl,rfl,rfl,rfl,rfl,rfl,rfl,trivial⟩,J0⟩ ?_;clear H J0;rintro k a w2 hk ⟨x,AP,cP,AB,cB,AF,cF,H,J⟩;obtain⟨b1,e1⟩:∃b,decide ((k:Int)<((l.length:Nat):Int))=b:=⟨_,rfl⟩;refine H.rg 2 fun a H=>?_;refine H.len gz rfl rfl rfl rfl Tryz.underlying37 fun a H=>?_;refine H.bb 0 rfl rfl rfl rfl rfl rfl (Q3 _ _ b1 e1 _ _ _) rfl fun a H=>nt (H.cond (t:=b1) rfl ?_);cases b1 with
  |false=>
   have:k=l.length:=by have:=of_decide_eq_false e1;omega
   subst this;refine wp_exit ?_;repeat (with_reducible refine J7 ?_)
   refine X3 ?_;exact⟨x,AP,cP,AB,cB,AF,cF,H.keep ⟨rfl,rfl,rfl,rfl,rfl,rfl,rfl,rfl,trivial⟩,J⟩
  |true=>
  have hlt:k<l.length:=by have:=of_decide_eq_true e1;omega
  clear e1;refine Z3 (Z0 ?_);replace H:=H.kp [0,1,2,8,9,10,11,12,13];refine Z8 (fun a w'=>∃(x:Lst) (AP:Option Addr) (cP:Nat) (AB:Option Addr) (cB:Nat) (AF:Option Addr) (cF:Nat),Z9 a 88 [(0, .slice AL l.length cL),(1,iz ti),(2,iz port),(8, .slice AB x.b.length cB),(9, .slice AF x.fins.length cF),(10,pz g),(11, .bool x.up),(12, .bool x.rst),(13,iz k)]∧PgJ w g ti port l (k+1) x AP cP (.slice AB x.b.length cB) (.slice AF x.fins.length cF) w') ?_ ?_
  rotate_left
  ·clear H J
   rintro a w3 ⟨x,AP,cP,AB,cB,AF,cF,H,J⟩;refine H.rg 1 fun a H=>?_;refine H.bb 1 rfl rfl rfl rfl rfl rfl (E7 k (by omega) _ _ _) rfl fun a H=>nt ?_;exact⟨hlt,x,AP,cP,AB,cB,AF,cF,H.keep ⟨rfl,rfl,rfl,rfl,rfl,rfl,rfl,rfl,rfl,trivial⟩,J⟩
  refine wp_block ?_;obtain⟨b,hb⟩:∃b,l[k]? = some b:=⟨_,List.getElem?_eq_getElem hlt⟩;have hb8:=hlb b (List.mem_of_getElem? hb);obtain⟨gf,of,A',c',hAL,_,hgl,hck,hbc,hrb⟩:=hL k b hb;have hbel:=J.own.bel;have hgw2:g<w2.heap.size:=J.own.lt 0 rfl;have hseg:=J5i b ti port;rcases hs:Y4w b 167772161 1883 ti port with⟨q,z⟩
  have KS:=fun w' hx=>J9e b b.length rfl A' c' hbc 167772161 1883 ti port w' hx hb8;rw[hs] at KS hseg;have hix:∀w',(Instr.indexAt 37 (.slice AL l.length cL) (iz k)).run Tryz.prog w' = .ok (.pointer (some ⟨gf,of+k,none⟩)) w':=fun w'=>by rw[hAL];exact U7 37 Tryz.underlying37 (fun _=>by kernel_rfl) gf of l.length cL k hlt w'
  refine H.rg 2 fun a H=>?_;refine H.index gz rfl rfl rfl rfl rfl (hix _) fun a H=>?_;refine H.ld 2 (U8 _ _ _ _ _ _ ((hbel.cell (p:=⟨gf,of+k,none⟩) hgl).trans hck)) fun a H=>?_;refine H.cl (KS w2 (hrb.rb.next hbel)) ?_;rintro a _ w3 ⟨A1,c1,rfl,hO1,hb3⟩ H;replace J:=J.next hb3;refine H.ms 1 fun a H=>?_;refine H.ex (r:=.agg (sgL q (.slice A1 q.xs.length c1)).toArray) 0 fun a H=>?_;refine H.ex (r:=.bool z) 0 fun a H=>?_;have hsB:=Q1 J.m.1 (.inr (Nat.le_refl w3.heap.size));have hsF:=Q1 J.m.2.1 (.inr (Nat.le_refl w3.heap.size));refine H.nk J.own 1 (L:=sgL q (.slice A1 q.xs.length c1)) rfl X0q Z3w fun a w4 hb4 O4 _ H=>nt ?_;replace J:=J.next hb4;replace hO1:=Y1 hO1 hb4;have hs3:=hb3.size;have hs4:=hb4.size;clear hb3 hb4 hbel KS hck hrb hix;generalize w3.heap.size=gs at O4 H hs3 hs4 hsB hsF;replace H:=H.kp [0,1,2,8,9,10,11,12,13,14,15];refine H.rg 1 fun a H=>?_;refine H.un gz rfl rfl rfl rfl (G5 z _) fun a H=>nt ?_;have fin:∀(x':Lst) (AP':Option Addr) (cP':Nat) (AB':Option Addr) (cB':Nat) (AF':Option Addr) (cF':Nat) {a:Act}{w':World},True:=fun _ _ _ _ _ _ _=>trivial;clear fin;cases z with
  |false=>
   refine H.condT rfl (wp_exit ?_);repeat (with_reducible refine J7 ?_)
   refine X3 ?_;exact⟨x,AP,cP,AB,cB,AF,cF,H.keep ⟨rfl,rfl,rfl,rfl,rfl,rfl,rfl,rfl,rfl,trivial⟩,J.skip hb hseg⟩
  |true=>
  have hto:Z0s ti port b=some q:=hseg;have hsi:q.sq=(q.sq.toNat:Int)∧q.sq.toNat≤4294967295∧q.xs.length≤1480:=by
   unfold Z0s at hto;cases h:Z9f b with
   |none=>rw[h] at hto;cases hto
   |some r=>
    rw[h] at hto;obtain⟨p,q'⟩:=r;have h2:(if p.s=167772161∧p.d=ti∧q'.sp=1883∧q'.dp=port then some q' else none)=some q:=hto
    split at h2
    ·injection h2 with h2
     subst h2;exact X3k h
    ·cases h2
  obtain⟨hsq,hsl,hql⟩:=hsi;refine H.condF rfl (Z3 (Z0 ?_));replace H:=H.kp [0,1,2,8,9,10,11,12,13,14];obtain⟨z2,hz2⟩:∃z,(bits .and .i64 q.fl 2 != 0)=z:=⟨_,rfl⟩;refine H.rg 1 fun a H=>?_;refine H.ld 0 (O4.li 0 4) fun a H=>?_;refine H.bn 0 (Z7m q.fl 2 _ _ _) fun a H=>?_;refine H.bb 0 rfl rfl rfl rfl rfl rfl (Z1c (bits .and .i64 q.fl 2) 0 z2 hz2 _ _ _) rfl fun a H=>nt (H.cond (t:=z2) rfl ?_);cases z2 with
  |true=>
   refine H.rg 4 fun a H=>nt ?_;refine H.rg 1 fun a H=>?_;refine H.ld 0 (O4.li 0 2) fun a H=>?_;rw[hsq] at H;refine H.cq 0 (Y4g q.sq.toNat 1 w4) fun a H=>?_;refine H.any (w':=w4) gz rfl rfl (.agg ([iz (Y6 q.sq.toNat 1),Z2]:List Value).toArray) (by intro cs b h;cases h) (by kernel_rfl) (by kernel_rfl) fun a H=>?_;refine H.st O4 1 0 (L:=[iz (Y6 q.sq.toNat 1),Z2]) (fun a w5 O5 H=>nt (wp_exit ?_)) N9;repeat (with_reducible refine J7 ?_)
   refine X3 ?_;exact⟨⟨true,Y6 q.sq.toNat 1,[],[],false,[]⟩,none,0,none,0,none,0,H.keep ⟨rfl,rfl,rfl,rfl,rfl,rfl,rfl,rfl,rfl,trivial⟩,J.take hb hto (by unfold Z0x;rw[if_pos hz2]) (O5.sub (List.sublist_cons_self _ _)) ⟨World.ownsRow_nil _ _ _ _,World.ownsRow_nil _ _ _ _,E0.nil⟩⟩
  |false=>
  refine Z3 (Z0 ?_);replace H:=H.kp [0,1,2,8,9,10,11,12,13,14];refine H.rg 1 fun a H=>?_;refine H.un gz rfl rfl rfl rfl (G5 x.up _) fun a H=>nt ?_;cases hup:x.up with
  |false=>
   rw[hup] at H;refine H.condT rfl (wp_exit ?_);repeat (with_reducible refine J7 ?_)
   refine X3 ?_;refine⟨x,AP,cP,AB,cB,AF,cF, ?_,J.take hb hto (by unfold Z0x;rw[if_neg (by rw[hz2];decide),if_pos hup]) J.own J.m⟩;rw[hup];exact H.keep ⟨rfl,rfl,rfl,rfl,rfl,rfl,rfl,rfl,rfl,trivial⟩
  |true=>
  rw[hup] at H;refine H.condF rfl (Z3 (Z0 ?_));replace H:=H.kp [0,1,2,8,9,10,11,12,13,14];obtain⟨z4,hz4⟩:∃z,(bits .and .i64 q.fl 4 != 0)=z:=⟨_,rfl⟩;obtain⟨rs,hrs⟩:∃z,(x.rst||z4)=z:=⟨_,rfl⟩;refine Z8 (fun a w'=>w'=w4∧Z9 a 88 [(0, .slice AL l.length cL),(1,iz ti),(2,iz port),(8, .slice AB x.b.length cB),(9, .slice AF x.fins.length cF),(10,pz g),(11, .bool true),(12, .bool rs),(13,iz k),(14,pz gs)]) ?_ ?_
  ·refine H.rg 1 fun a H=>?_
   refine H.ld 0 (O4.li 0 4) fun a H=>?_;refine H.bn 0 (Z7m q.fl 4 _ _ _) fun a H=>?_;refine H.bb 0 rfl rfl rfl rfl rfl rfl (Z1c (bits .and .i64 q.fl 4) 0 z4 hz4 _ _ _) rfl fun a H=>nt (H.cond (t:=z4) rfl ?_);cases z4 with
   |true=>
    rw[Bool.or_true] at hrs;subst hrs;refine H.rg 1 fun a H=>wpList_nil ?_;exact⟨rfl,H.keep ⟨rfl,rfl,rfl,rfl,rfl,rfl,rfl,rfl,rfl,rfl,trivial⟩⟩
   |false=>
    rw[Bool.or_false] at hrs;rw[hrs] at H;exact Z3 ⟨rfl,H.keep ⟨rfl,rfl,rfl,rfl,rfl,rfl,rfl,rfl,rfl,rfl,trivial⟩⟩
  clear H;rintro a w' ⟨rfl,H⟩;have hpk:=J.ok;have hq1:RB w' w'.heap.size A1 q.xs:=S4 rfl hO1 (by omega);refine H.rg 0 fun a H=>?_;refine H.loadS rfl rfl rfl rfl rfl (O4.get 1 rfl) Tryz.underlying104 rfl N9 rfl fun a H=>?_;refine H.ms 1 fun a H=>?_;refine H.ld 1 (O4.li 0 2) fun a H=>?_;rw[hsq] at H;refine H.ld 0 (U8 _ _ _ _ _ _ ((O4.get 0 rfl).get 6 _ rfl)) fun a H=>?_;refine H.cl (J5o x.nq AP cP x.ps q.sq.toNat q.xs A1 c1 w' hpk.1 hsl (by have:=hpk.2.1;omega) (by omega) J.m.2.2.at_ (fun p hp=>by
   obtain⟨h1,h2,h3⟩:=hpk.2.2.1 p hp;have:=Y2s h2;exact⟨h1,by omega⟩) hq1) ?_
  rintro a v w5 ⟨nq',ps',told,AP',cP',A2,c2,rfl,hPG,hPS,hRS,hb5⟩ H;have hput:=J5f hPG J.r hpk.1 hpk.2.1 (by omega);have htl:=(X8l hput hpk.1 hpk.2.1 hpk.2.2.1).2.2.2;have hPS5:E0 w5 (Z0w g (.slice AB x.b.length cB) (.slice AF x.fins.length cF)) AP' ps':=by
   rcases hPS with⟨rfl,rfl⟩ |h
   ·exact(J.m.next hb5).2.2
   ·exact h.mono fun k _ hk=>⟨by have:=hk.1;omega,Q1 J.m.1 (.inr hk.1),Q1 J.m.2.1 (.inr hk.1)⟩
  have O5:=O4.call hb5;have M5:Z2h g ⟨true,nq',ps',x.b,rs,x.fins⟩ AP' (.slice AB x.b.length cB) (.slice AF x.fins.length cF) w5:=⟨(J.m.next hb5).1,(J.m.next hb5).2.1,hPS5⟩;have hT5:RBS w5 (fun k=>g<k) A2 told:=hRS.mono fun k _ hk=>by have:=hk.1;omega
  clear hPS hPS5 hb5 hq1 hRS;refine H.ms 1 fun a H=>?_;refine H.ex (r:=.agg ([iz (nq':Nat), .slice AP' ps'.length cP']:List Value).toArray) 0 fun a H=>?_;refine H.ex (r:=.slice A2 told.length c2) 0 fun a H=>?_;refine H.nk O5 1 (L:=[iz (nq':Nat), .slice AP' ps'.length cP']) rfl Z7e N9 fun a w6 hb6 O6 _ H=>nt ?_;have M6:=M5.next hb6;have hT6:=hT5.grown (X2 hb6 none) (fun k e=>by cases e);clear M5 O5 O4 hb6 hT5;generalize w5.heap.size=gx at O6 H;refine H.rg 0 fun a H=>?_;refine H.loadS rfl rfl rfl rfl rfl (O6.get 0 rfl) Tryz.underlying104 rfl N9 rfl fun a H=>?_;refine H.storeS rfl rfl rfl rfl rfl (O6.get 2 rfl) N9 rfl rfl rfl fun a w7 H hg7 hs7 hC7=>nt ?_;have O7:=O6.store 2 rfl hg7 hs7 hC7;have M7:=M6.box hg7 (Nat.le_refl _);have hT7:=(hT6.grown hg7 (fun k e hS=>by injection e with e;omega)).rb;clear M6 O6 hg7 hs7 hC7 hT6;replace H:=H.kp [0,1,2,8,9,10,11,12,13,14,17];have hbl:=hpk.2.2.2.1;have O7':X0 w w.heap.size [(gs,sgL q (.slice A1 q.xs.length c1)),(g,[iz (nq':Nat), .slice AP' ps'.length cP'])] w7:=O7.sub (List.sublist_cons_self _ _);have hw7:=O7.lt 2 rfl;have hr7:w7.ownsRow (g+1) 5 1 (.slice AB x.b.length cB) x.b.length (x.b.map bv):=M7.1;have hgW:w.heap.size≤g+1:=by omega
  refine H.rg 2 fun a H=>?_;refine H.appF (k:=x.b.length) (m:=told.length) hr7 J4 hT7 (Z7s told) (by unfold maxLen;omega) (by omega) (Nat.succ_le_of_lt hw7) fun a A8 c8 w8 hO8 hg8 hfr8 H=>?_;have O8:=O7'.row hr7 hgW hg8 (fun p hp=>by
   simp only[List.mem_cons,List.not_mem_nil,or_false] at hp;rcases hp with rfl |rfl
   ·exact hsB
   ·exact Q1 hr7 (.inl (Nat.lt_succ_self _)))
  have M8:Z2h g ⟨true,nq',ps',x.b++told,rs,x.fins⟩ AP' (.slice A8 (x.b.length+told.length) c8) (.slice AF x.fins.length cF) w8:=M7.tell hO8 hg8 hfr8;refine H.ms 1 fun a H=>nt ?_;clear O7 O7' M7 hr7 hO8 hg8 hfr8 hT7;replace H:=H.kp [0,1,2,8,9,10,11,12,13,14];obtain⟨z1,hz1⟩:∃z,(bits .and .i64 q.fl 1 != 0)=z:=⟨_,rfl⟩;have hln:(x.b++told).length=x.b.length+told.length:=List.length_append;have hG:∀(fs:List Nat),(if z1=true then x.fins++[Y6 q.sq.toNat q.xs.length] else x.fins)=fs→Z0x q q.sq.toNat x ⟨true,nq',ps',x.b++told,rs,fs⟩:=by
   intro fs hfs;unfold Z0x;rw[if_neg (by rw[hz2];decide),if_neg (by rw[hup];decide)];exact⟨nq',ps',told,hput,by rw[hz4,hrs,hz1,hfs]⟩
  refine H.rg 1 fun a H=>?_;refine H.ld 0 (O8.li 0 4) fun a H=>?_;refine H.bn 0 (Z7m q.fl 1 _ _ _) fun a H=>?_;refine H.bb 0 rfl rfl rfl rfl rfl rfl (Z1c (bits .and .i64 q.fl 1) 0 z1 hz1 _ _ _) rfl fun a H=>nt (H.cond (t:=z1) rfl ?_);cases z1 with
  |false=>
   refine Z3 (Z6 ?_);refine⟨⟨true,nq',ps',x.b++told,rs,x.fins⟩,AP',cP',A8,c8,AF,cF, ?_, ?_⟩
   ·show Z9 a 88 [(0, .slice AL l.length cL),(1,iz ti),(2,iz port),(8, .slice A8 (x.b++told).length c8),(9, .slice AF x.fins.length cF),(10,pz g),(11, .bool true),(12, .bool rs),(13,iz k)]
    rw[hln];exact H.keep ⟨rfl,rfl,rfl,rfl,rfl,rfl,rfl,rfl,rfl,trivial⟩
   ·refine J.take hb hto (hG _ rfl) (O8.sub (List.sublist_cons_self _ _)) ?_
    show Z2h g _ AP' (.slice A8 (x.b++told).length c8) _ w8;rw[hln];exact M8
  |true=>
  replace H:=H.kp [0,1,2,8,9,10,11,12,13,14];refine H.rg 2 fun a H=>?_;refine H.ld 1 (O8.li 0 2) fun a H=>?_;rw[hsq] at H;refine H.ld 0 (U8 _ _ _ _ _ _ ((O8.get 0 rfl).get 6 _ rfl)) fun a H=>?_;refine H.len gz rfl rfl rfl rfl Tryz.underlying31 fun a H=>?_;refine H.cq 0 (Y4g q.sq.toNat q.xs.length w8) fun a H=>?_;refine H.any (w':=w8.alloc (.cells ([iz (Y6 q.sq.toNat q.xs.length)]:List Value).toArray 3)) gz rfl rfl (.slice (some ⟨w8.heap.size,0,none⟩) 1 1) (by intro cs b h;cases h) (by kernel_rfl) (by kernel_rfl) fun a H=>?_;have hb9:Below w8.heap.size w8 (w8.alloc (.cells ([iz (Y6 q.sq.toNat q.xs.length)]:List Value).toArray 3)):=G0 _ _;have hrd:=X4.lit w8 3 [iz (Y6 q.sq.toNat q.xs.length)] (0,0) 1 1 rfl;have O9:=O8.call hb9;have M9:=M8.next hb9;generalize w8.alloc (.cells ([iz (Y6 q.sq.toNat q.xs.length)]:List Value).toArray 3)=w9 at *;generalize w8.heap.size=g9 at H hrd;have hfl:=hpk.2.2.2.2;have hr9:w9.ownsRow (g+1) 3 1 (.slice AF x.fins.length cF) x.fins.length (x.fins.map Z7l):=M9.2.1;have hw9:=O9.lt 1 rfl;refine H.appF (k:=x.fins.length) (m:=1) hr9 X8s hrd (fun u hu=>by rw[List.mem_singleton.1 hu];rfl) (by unfold maxLen;omega) (by omega) (Nat.succ_le_of_lt hw9) fun a A7 c7 w10 hO10 hg10 hfr10 H=>?_;have O10:=O9.row hr9 hgW hg10 (fun p hp=>by
   simp only[List.mem_cons,List.not_mem_nil,or_false] at hp;rcases hp with rfl |rfl
   ·exact hsF
   ·exact Q1 hr9 (.inl (Nat.lt_succ_self _)))
  have M10:Z2h g ⟨true,nq',ps',x.b++told,rs,x.fins++[Y6 q.sq.toNat q.xs.length]⟩ AP' (.slice A8 (x.b.length+told.length) c8) (.slice A7 (x.fins.length+1) c7) w10:=M9.fin hO10 hg10 hfr10;refine H.ms 1 fun a H=>wpList_nil (Z6 ?_);have hln2:(x.fins++[Y6 q.sq.toNat q.xs.length]).length=x.fins.length+1:=List.length_append;refine⟨⟨true,nq',ps',x.b++told,rs,x.fins++[Y6 q.sq.toNat q.xs.length]⟩,AP',cP',A8,c8,A7,c7, ?_, ?_⟩
  ·show Z9 a 88 [(0, .slice AL l.length cL),(1,iz ti),(2,iz port),(8, .slice A8 (x.b++told).length c8),(9, .slice A7 (x.fins++[Y6 q.sq.toNat q.xs.length]).length c7),(10,pz g),(11, .bool true),(12, .bool rs),(13,iz k)]
   rw[hln,hln2];exact H.keep ⟨rfl,rfl,rfl,rfl,rfl,rfl,rfl,rfl,rfl,trivial⟩
  ·refine J.take hb hto (hG _ rfl) (O10.sub (List.sublist_cons_self _ _)) ?_
   show Z2h g _ AP' (.slice A8 (x.b++told).length c8) (.slice A7 (x.fins++[Y6 q.sq.toNat q.xs.length]).length c7) w10;rw[hln,hln2];exact M10
 clear H J0;rintro a w2 ⟨x,AP,cP,AB,cB,AF,cF,H,J⟩;obtain⟨rs,hrs⟩:∃z,x.rst=z:=⟨_,rfl⟩;obtain⟨up,hup⟩:∃z,x.up=z:=⟨_,rfl⟩;obtain⟨z,hz⟩:∃z,decide (x.nq∈x.fins)=z:=⟨_,rfl⟩;have hin:=X3s x.nq 0 x.fins;rw[hz] at hin;have hov:(rs||(up&&z))=(x.rst||decide (x.nq∈x.fins)):=by
  rw[hrs,hz];cases up with
  |true=>rfl
  |false=>
   have hd:=J.heard;rw[List.take_length] at hd;have:=X6f hd (fun _=>rfl) hup;subst this;have hz2:z=false:=by rw[←hz];rfl
   rw[hz2];rfl
 rw[hrs,hup] at H;have hfl:=J.ok.2.2.2.2;have hw2:=J.own.lt 0 rfl;refine H.tb (fun w'=>(X0 w w.heap.size [(g,[iz x.nq, .slice AP x.ps.length cP])] w'∧Z2h g x AP (.slice AB x.b.length cB) (.slice AF x.fins.length cF) w')) (fun _ _ h hb=>⟨h.1.call hb,h.2.next hb⟩) ⟨J.own,J.m⟩ [ec 0 76 (.slice AB x.b.length cB),ec 1 77 (.bool rs),ec 2 78 (.bool rs),ec 3 79 (gv (!rs) (.bool up)),ec 4 80 (gv (!rs) (.bool up)),ec 5 81 (gv (!rs&&up) (.slice AF x.fins.length cF)),ec 6 82 (gv (!rs&&up) (pz g)),ec 7 83 (gv (!rs&&up) (iz x.nq)),ec 8 84 (gv (!rs&&up) (iz (Y7k x.nq 0 x.fins))),ec 9 85 (gv (!rs&&up) (.bool z)),ec 10 86 (gv (!rs) (.bool (up&&z))),ec 11 87 (.bool (rs||(up&&z))),ec 12 6 (.slice AB x.b.length cB),ec 13 7 (.bool (rs||(up&&z)))] rfl
  ⟨jm,jm,jm,(by cases rs;exact jm;exact jo),(by cases rs;exact jm;exact jo),(by cases rs;(cases up;exact jo;exact jm);exact jo),(by cases rs;(cases up;exact jo;exact jm);exact jo),(by cases rs;(cases up;exact jo;exact jl fun _ h=>h.1.li 0 0);exact jo),(by cases rs;(cases up;exact jo;exact jq fun w' h=>Q2k x.fins x.nq AF cF w' _ h.2.2.1 (by omega));exact jo),(by cases rs;(cases up;exact jo;exact jb fun _=>Z6k _ 0 z hin _ _ _);exact jo),(by cases rs;(cases up<;>exact jp);exact jo),(by cases rs<;>exact jp),jm,jm,trivial⟩ ?_
 intro a w3 H ⟨O3,M3⟩;refine Z0 (wp_ret ?_);repeat with_reducible first |apply Z4 |apply Z5
 refine bodyPost_ret (V9 rfl _ _ _ (H.at_ 6 _ rfl) (H.at_ 7 _ rfl)) H.df ⟨_,rfl,x,AB,cB,by rw[hov], ?_,J.ok,V2 M3.1 (by omega),O3.bel⟩;have hd:=J.heard;rw[List.take_length] at hd;exact hd
end
section
open Go.RowKit
theorem Y0o (l:List (ByteArray×Int)) (k:Nat) (x:ByteArray×Int) (h:l[k]? = some x):(wv l)[k*2+0]? = some (.string x.1)∧(wv l)[k*2+1]? = some (.int .i64 x.2):=by
 induction l generalizing k with
 |nil=>simp at h
 |cons y ys ih=>
  cases k with
  |zero=>simp at h;subst h;simp[wv]
  |succ k=>
   have:=ih k (by simpa using h);rw[show (k+1)*2=k*2+1+1 by omega]
   simpa [wv,Nat.add_right_comm] using this
theorem Y4i {α:Type}{l:List α}{k:Nat}{x:α}(h:l[k]? = some x):l.drop k=x::l.drop (k+1):=Z2s l k x h
theorem J1h (l:List Int) (n:Nat) (hl:l.length=n) (A:Option Addr) (c:Nat) (hn:n≤140737488351232) (w:World) (hr:X4 w w.heap.size 1 A n (l.map iv)):
  Calls Tryz.prog 155 #[.slice A n c] w fun e w'=>e = .returned (.bool (C3 l))∧w=w':=by
 have HF:=Lib.hid (show G4 (l.drop 0)=G4 l from rfl);have KW:=Lib.hid (fun x w1=>P7 x 0 2 w1);have KE:=Lib.hid (fun w1=>P7 (n:Int) 1 8 w1);have HO:=Lib.hid (show C3 l=(G4 l&&V6 n 1 8) by unfold C3;rw[hl]);generalize C3 l=Z at *;have HL:=Lib.hid hl;clear hl;go_enter Tryz.func155,Tryz.ntmps155
 go_wp2
 go_loop [7] (fun i=>∃k:Nat,i = .int .i64 k∧k≤n∧Hid (G4 (l.drop k)=G4 l)) (fun i=>n-(intOf i).toNat)
 case atStart=>exact⟨0,rfl,Nat.zero_le _,HF⟩
 case round=>
  obtain⟨k,rfl,hk,hf⟩:=hrel;by_cases hlt:k<n
  ·obtain⟨b,o,v,rfl,_,hv,cv⟩:=hr.get1 hlt
   rw[List.getElem?_map] at hv;obtain⟨x,hx,rfl⟩:=Option.map_eq_some_iff.1 hv;have hd:=Y4i hx;have hf2:=hf.out;rw[hd,G4] at hf2;cases h1:V6 x 0 2 with
   |true=>
    have K:=Lib.hid (fun w1=>h1▸KW.out x w1);have HP:Hid (G4 (l.drop (k+1))=G4 l):=by rw[h1] at hf2;exact hf2
    clear hv hx hd hf2 hf
    go_wp2_with (go_at_call 151;(with_reducible refine(K.out _).mono ?_);rintro _ w2 ⟨rfl,rfl⟩)
    go_round
    case rel=>exact⟨k+1,by go_num,by omega,HP⟩
    case measure=>simp[intOf];omega
   |false=>
    have K:=Lib.hid (fun w1=>h1▸KW.out x w1);by_cases h2:x=128
    ·subst h2
     have HP:Hid (G4 (l.drop (k+1))=G4 l):=by rw[h1] at hf2;exact hf2
     clear hv hx hd hf2 hf
     go_wp2_with (go_at_call 151;(with_reducible refine(K.out _).mono ?_);rintro _ w2 ⟨rfl,rfl⟩)
     go_round
     case rel=>exact⟨k+1,by go_num,by omega,HP⟩
     case measure=>simp[intOf];omega
    ·have h3:(x==128)=false:=by rw[beq_eq_false_iff_ne];exact h2
     have HP:Hid (G4 l=false):=by rw[h1,h3] at hf2;exact hf2.symm
     clear hv hx hd hf2 hf h2
     go_wp2_with (go_at_call 151;(with_reducible refine(K.out _).mono ?_);rintro _ w2 ⟨rfl,rfl⟩)
     go_ret
     exact⟨by rw[HO.out,HP.out];rfl,rfl⟩
  ·have HP:Hid (G4 l=true):=by
    have:=hf.out;rw[List.drop_eq_nil_of_le (by rw[HL.out];omega)] at this;exact this.symm
   clear hf
   go_wp2_with (go_at_call 151;(with_reducible refine(KE.out _).mono ?_);rintro _ w2 ⟨rfl,rfl⟩)
   go_ret
   exact⟨by rw[HO.out,HP.out];simp,rfl⟩
abbrev Y0c (s:ByteArray):Prop:=s.size≤140737488351232
theorem X3t (l:List ByteArray) (n:Nat) (hl:l.length=n) (hfit:∀s∈l,Y0c s) (A:Option Addr) (c:Nat) (hn:n≤140737488351232) (w:World) (hT:Wd w) (hr:X4 w w.heap.size 1 A n (l.map sv)):
  Calls Tryz.prog 156 #[.slice A n c] w fun e w'=>e = .returned (.bool (M0 l))∧Below w.heap.size w w':=by
 have HF:=Lib.hid (show Q2 (l.drop 0)=Q2 l from rfl);have KE:=Lib.hid (fun w1=>P7 (n:Int) 1 8 w1);have HO:=Lib.hid (show M0 l=(Q2 l&&V6 n 1 8) by unfold M0;rw[hl]);generalize M0 l=Z at *;have HL:=Lib.hid hl;have HFit:=Lib.hid hfit;have HR:=Lib.hid hr;have HT:=Lib.hid hT;clear hl hfit hr hT;go_enter Tryz.func156,Tryz.ntmps156
 go_wp2
 go_loopw [7] (fun i wr=>∃k:Nat,i = .int .i64 k∧k≤n∧Below w.heap.size w wr∧Hid (Q2 (l.drop k)=Q2 l)) (fun i _=>n-(intOf i).toNat)
 case atStart=>exact⟨0,rfl,Nat.zero_le _,Below.refl _ _,HF⟩
 case round=>
  obtain⟨k,rfl,hk,hb,hf⟩:=hrel;by_cases hlt:k<n
  ·obtain⟨b,o,v,rfl,_,hv,cv⟩:=(HR.out.below hb).get1 hlt
   rw[List.getElem?_map] at hv;obtain⟨x,hx,rfl⟩:=Option.map_eq_some_iff.1 hv;have hd:=Y4i hx;have hf2:=hf.out;rw[hd,Q2] at hf2;have K:=Lib.hid (Z5c x (HFit.out x (List.mem_of_getElem? hx)) 1 64 wr (HT.out.below hb));have HB:=Lib.hid hb;cases h1:G3 x 1 64 with
   |true=>
    rw[h1] at K;have HP:Hid (Q2 (l.drop (k+1))=Q2 l):=by rw[h1] at hf2;exact hf2
    clear hv hx hd hf2 hf hb h1
    go_wp2_with (go_at_call 165;(with_reducible refine K.out.mono ?_);rintro _ w2 ⟨rfl,hb2⟩;have HB2:=Lib.hid (HB.out.trans (hb2.mono HB.out.size));clear hb2)
    go_roundw
    case rel=>exact⟨k+1,by go_num,by omega,HB2.out,HP⟩
    case measure=>simp[intOf];omega
   |false=>
    rw[h1] at K;have HP:Hid (Q2 l=false):=by rw[h1] at hf2;exact hf2.symm
    clear hv hx hd hf2 hf hb h1
    go_wp2_with (go_at_call 165;(with_reducible refine K.out.mono ?_);rintro _ w2 ⟨rfl,hb2⟩;have HB2:=Lib.hid (HB.out.trans (hb2.mono HB.out.size));clear hb2)
    go_ret
    exact⟨by rw[HO.out,HP.out];rfl,HB2.out⟩
  ·have HP:Hid (Q2 l=true):=by
    have:=hf.out;rw[List.drop_eq_nil_of_le (by rw[HL.out];omega)] at this;exact this.symm
   clear hf
   go_wp2_with (go_at_call 151;(with_reducible refine(KE.out _).mono ?_);rintro _ w2 ⟨rfl,rfl⟩)
   go_ret
   exact⟨by rw[HO.out,HP.out];simp,hb⟩
theorem X6g (l:List (ByteArray×Int)) (n:Nat) (hl:l.length=n) (hfit:∀s∈l,Y0c s.1) (A:Option Addr) (c:Nat) (hn:n≤140737488351232) (w:World) (hT:Wd w) (hr:X4 w w.heap.size 2 A n (wv l)):
  Calls Tryz.prog 154 #[.slice A n c] w fun e w'=>e = .returned (.bool (E8 l))∧Below w.heap.size w w':=by
 have HF:=Lib.hid (show Q4 (l.drop 0)=Q4 l from rfl);have KW:=Lib.hid (fun x w1=>P7 x 0 2 w1);have KE:=Lib.hid (fun w1=>P7 (n:Int) 1 8 w1);have HO:=Lib.hid (show E8 l=(Q4 l&&V6 n 1 8) by unfold E8;rw[hl]);generalize E8 l=Z at *;have HL:=Lib.hid hl;have HFit:=Lib.hid hfit;have HR:=Lib.hid hr;have HT:=Lib.hid hT;clear hl hfit hr hT;go_enter Tryz.func154,Tryz.ntmps154
 go_wp2
 go_loopw [7] (fun i wr=>∃k:Nat,i = .int .i64 k∧k≤n∧Below w.heap.size w wr∧Hid (Q4 (l.drop k)=Q4 l)) (fun i _=>n-(intOf i).toNat)
 case atStart=>exact⟨0,rfl,Nat.zero_le _,Below.refl _ _,HF⟩
 case round=>
  obtain⟨k,rfl,hk,hb,hf⟩:=hrel;by_cases hlt:k<n
  ·obtain⟨b,o,rfl,_,hcv⟩:=(HR.out.below hb).get2 hlt
   obtain⟨x,hx⟩:∃x,l[k]? = some x:=⟨l[k]'(by rw[HL.out];omega),List.getElem?_eq_getElem _⟩;obtain⟨g0,g1⟩:=Y0o l k x hx;have cv0:=hcv 0 _ (by omega) g0;have cv1:=hcv 1 _ (by omega) g1;rw[Nat.add_zero] at cv0;have hd:=Y4i hx;have hf2:=hf.out;rw[hd,Q4] at hf2;have hba:=G0 wr (.cells #[.string x.1, .int .i64 x.2] 161);have HB:=Lib.hid (hb.trans (hba.mono hb.size));have K:=Lib.hid (Z5c x.1 (HFit.out x (List.mem_of_getElem? hx)) 1 64 _ (HT.out.below HB.out));have hlt2:wr.heap.size<(wr.alloc (.cells #[.string x.1, .int .i64 x.2] 161)).heap.size:=T7 _ _;have K2:=Lib.hid (fun w1=>KW.out x.2 w1);cases h1:G3 x.1 1 64 with
   |true=>
    rw[h1] at K hf2;cases h2:V6 x.2 0 2 with
    |true=>
     rw[h2] at K2 hf2;have HP:Hid (Q4 (l.drop (k+1))=Q4 l):=hf2;clear hx hd hf2 hf hb h1 h2 g0 g1 hcv hba
     go_wp2_with (first
      |(go_at_call 165;(with_reducible refine K.out.mono ?_);rintro _ w2 ⟨rfl,hb2⟩;have HB2:=Lib.hid (HB.out.trans (hb2.mono HB.out.size));have c1:w2.cell? ⟨wr.heap.size,1,none⟩=some (.int .i64 x.2):=(by rw[T6 hb2 hlt2];simp);clear hb2)
      |(go_at_call 151;(with_reducible refine(K2.out _).mono ?_);rintro _ w3 ⟨rfl,rfl⟩))
     go_roundw
     case rel=>exact⟨k+1,by go_num,by omega,HB2.out,HP⟩
     case measure=>simp[intOf];omega
    |false=>
     rw[h2] at K2 hf2;have HP:Hid (Q4 l=false):=hf2.symm;clear hx hd hf2 hf hb h1 h2 g0 g1 hcv hba
     go_wp2_with (first
      |(go_at_call 165;(with_reducible refine K.out.mono ?_);rintro _ w2 ⟨rfl,hb2⟩;have HB2:=Lib.hid (HB.out.trans (hb2.mono HB.out.size));have c1:w2.cell? ⟨wr.heap.size,1,none⟩=some (.int .i64 x.2):=(by rw[T6 hb2 hlt2];simp);clear hb2)
      |(go_at_call 151;(with_reducible refine(K2.out _).mono ?_);rintro _ w3 ⟨rfl,rfl⟩))
     go_ret
     exact⟨by rw[HO.out,HP.out];rfl,HB2.out⟩
   |false=>
    rw[h1] at K hf2;have HP:Hid (Q4 l=false):=hf2.symm;clear hx hd hf2 hf hb h1 g0 g1 hcv hba
    go_wp2_with (go_at_call 165;(with_reducible refine K.out.mono ?_);rintro _ w2 ⟨rfl,hb2⟩;have HB2:=Lib.hid (HB.out.trans (hb2.mono HB.out.size));clear hb2)
    go_ret
    exact⟨by rw[HO.out,HP.out];rfl,HB2.out⟩
  ·have HP:Hid (Q4 l=true):=by
    have:=hf.out;rw[List.drop_eq_nil_of_le (by rw[HL.out];omega)] at this;exact this.symm
   clear hf
   go_wp2_with (go_at_call 151;(with_reducible refine(KE.out _).mono ?_);rintro _ w2 ⟨rfl,rfl⟩)
   go_ret
   exact⟨by rw[HO.out,HP.out];simp,hb⟩
end
section
open Go.RowKit
def eqG {α:Type} [DecidableEq α] (xs ys:List α):Bool:=decide (xs=ys)
theorem Z5y {α:Type} [DecidableEq α] (xs:List α):eqG xs xs=true:=by simp[eqG]
theorem Z0d {α:Type} [DecidableEq α] {xs ys:List α}(h:xs≠ys):eqG xs ys=false:=by simpa [eqG] using h
theorem Z5d {α:Type}{xs ys:List α}{k:Nat}(hk:k=xs.length) (hl:xs.length=ys.length) (h:xs.take k=ys.take k):xs=ys:=by
 subst hk;rw[List.take_length] at h;rw[hl,List.take_length] at h;exact h
theorem Z3q {α:Type}{xs ys:List α}{k:Nat}{x y:α}(hx:xs[k]? = some x) (hy:ys[k]? = some y) (h:xs.take k=ys.take k) (e:x=y):xs.take (k+1)=ys.take (k+1):=by
 rw[E5 xs k x hx,E5 ys k y hy,h,e]
theorem Y2w {α:Type}{xs ys:List α}{k:Nat}{x y:α}(hx:xs[k]? = some x) (hy:ys[k]? = some y) (e:x≠y):xs≠ys:=by
 rintro rfl;rw[hx] at hy;exact e (by simpa using hy)
theorem X0s {u v:ByteArray}(h:¬u=v):(u.toList==v.toList)=false:=by
 rw[beq_eq_false_iff_ne,Lib.toList_data,Lib.toList_data];intro e;exact h (ByteArray.ext (Array.toList_inj.1 e))
theorem U6 {B:Nat}{w0 w:World}(h:Below B w0 w) (n:Nat):Below B w0 (w.drewN n):=Z6g h n
theorem Q2l (xs ys:List (Int)) (A B:Option Addr) (c d:Nat) (w:World) (hx:X4 w w.heap.size 1 A xs.length (xs.map iv)) (hy:X4 w w.heap.size 1 B ys.length (ys.map iv)) (hn:xs.length≤140737488351232):
  Calls Tryz.prog 102 #[.slice A xs.length c, .slice B ys.length d] w fun e w'=>e = .returned (.bool (eqG xs ys))∧Below w.heap.size w w':=by
 by_cases hl:xs.length=ys.length
 ·have hne:(((xs.length:Int)) != ((ys.length:Nat):Int))=false:=by simp[hl]
  have hl':=Lib.hid hl;have hlt2:∀k,k<xs.length→k<ys.length:=by rw[hl];exact fun _ h=>h
  clear hl;go_enter Tryz.func102,Tryz.ntmps102
  go_wp2
  go_loopw [5] (fun i wr=>∃k n:Nat,k≤xs.length∧i = .int .i64 k∧wr=w.drewN n∧Hid (xs.take k=ys.take k)) (fun i _=>xs.length-(intOf i).toNat)
  case atStart=>exact⟨0,0,Nat.zero_le _,rfl,rfl,rfl⟩
  case round=>
   obtain⟨k,n,hk,rfl,rfl,ht⟩:=hrel;by_cases hlt:k<xs.length
   ·have hlty:=hlt2 k hlt
    obtain⟨b,o,uu,rfl,_,hu,cu0⟩:=hx.get1 (w:=w) hlt;obtain⟨b2,o2,vv,rfl,_,hv,cv0⟩:=hy.get1 (w:=w) hlty;rw[List.getElem?_map] at hu hv;obtain⟨u,hu2,rfl⟩:=Option.map_eq_some_iff.1 hu;obtain⟨v,hv2,rfl⟩:=Option.map_eq_some_iff.1 hv;clear hu hv;have hu:=hu2;have hv:=hv2;clear hu2 hv2;clear hlt2;have hu':=Lib.hid hu;have hv':=Lib.hid hv;have hi:(k:Int)<(xs.length:Int):=by omega
    have hi2:(k:Int)<(ys.length:Int):=by omega
    clear hu hv;by_cases he:u=v
    ·have HT:Hid (xs.take (k+1)=ys.take (k+1)):=Z3q hu'.out hv'.out ht.out he
     have hne2:(u != v)=false:=by simp[he]
     go_wp2_with fail
     go_quiet (fail)
     go_wp2
     go_roundw
     case rel=>exact⟨k+1,_,by omega,by go_num,rfl,HT⟩
     case measure=>simp[intOf];omega
    ·have HT:Hid (eqG xs ys=false):=Z0d (Y2w hu'.out hv'.out he)
     have hne2:(u != v)=true:=by simpa using he
     go_wp2_with fail
     go_quiet (fail)
     go_wp2
     go_ret
     exact⟨by rw[HT.out];rfl,U6 (U6 (Below.refl _ _) _) _⟩
   ·have HT:Hid (eqG xs ys=true):=by rw[Z5d (by omega) hl'.out ht.out];exact Z5y _
    go_wp2
    go_ret
    exact⟨by rw[HT.out];rfl,U6 (Below.refl _ _) _⟩
 ·have hne:(((xs.length:Int)) != ((ys.length:Nat):Int))=true:=by
   simp only[bne_iff_ne,ne_eq,Int.natCast_inj];exact hl
  have HT:Hid (eqG xs ys=false):=Z0d (fun h=>hl (by rw[h]));clear hl;go_enter Tryz.func102,Tryz.ntmps102
  go_wp2
  go_ret
  exact⟨by rw[HT.out];rfl,Below.refl _ _⟩
theorem Q2m (xs ys:List (ByteArray)) (A B:Option Addr) (c d:Nat) (w:World) (hx:X4 w w.heap.size 1 A xs.length (xs.map sv)) (hy:X4 w w.heap.size 1 B ys.length (ys.map sv)) (hn:xs.length≤140737488351232):
  Calls Tryz.prog 104 #[.slice A xs.length c, .slice B ys.length d] w fun e w'=>e = .returned (.bool (eqG xs ys))∧Below w.heap.size w w':=by
 by_cases hl:xs.length=ys.length
 ·have hne:(((xs.length:Int)) != ((ys.length:Nat):Int))=false:=by simp[hl]
  have hl':=Lib.hid hl;have hlt2:∀k,k<xs.length→k<ys.length:=by rw[hl];exact fun _ h=>h
  clear hl;go_enter Tryz.func104,Tryz.ntmps104
  go_wp2
  go_loopw [5] (fun i wr=>∃k n:Nat,k≤xs.length∧i = .int .i64 k∧wr=w.drewN n∧Hid (xs.take k=ys.take k)) (fun i _=>xs.length-(intOf i).toNat)
  case atStart=>exact⟨0,0,Nat.zero_le _,rfl,rfl,rfl⟩
  case round=>
   obtain⟨k,n,hk,rfl,rfl,ht⟩:=hrel;by_cases hlt:k<xs.length
   ·have hlty:=hlt2 k hlt
    obtain⟨b,o,uu,rfl,_,hu,cu0⟩:=hx.get1 (w:=w) hlt;obtain⟨b2,o2,vv,rfl,_,hv,cv0⟩:=hy.get1 (w:=w) hlty;rw[List.getElem?_map] at hu hv;obtain⟨u,hu2,rfl⟩:=Option.map_eq_some_iff.1 hu;obtain⟨v,hv2,rfl⟩:=Option.map_eq_some_iff.1 hv;clear hu hv;have hu:=hu2;have hv:=hv2;clear hu2 hv2;clear hlt2;have hu':=Lib.hid hu;have hv':=Lib.hid hv;have hi:(k:Int)<(xs.length:Int):=by omega
    have hi2:(k:Int)<(ys.length:Int):=by omega
    clear hu hv;by_cases he:u=v
    ·have HT:Hid (xs.take (k+1)=ys.take (k+1)):=Z3q hu'.out hv'.out ht.out he
     subst he
     go_wp2_with fail
     go_quiet (fail)
     go_wp2
     go_roundw
     case rel=>exact⟨k+1,_,by omega,by go_num,rfl,HT⟩
     case measure=>simp[intOf];omega
    ·have HT:Hid (eqG xs ys=false):=Z0d (Y2w hu'.out hv'.out he)
     have hne2:=X0s he
     go_wp2_with fail
     go_quiet (fail)
     go_wp2
     go_ret
     exact⟨by rw[HT.out];rfl,U6 (U6 (Below.refl _ _) _) _⟩
   ·have HT:Hid (eqG xs ys=true):=by rw[Z5d (by omega) hl'.out ht.out];exact Z5y _
    go_wp2
    go_ret
    exact⟨by rw[HT.out];rfl,U6 (Below.refl _ _) _⟩
 ·have hne:(((xs.length:Int)) != ((ys.length:Nat):Int))=true:=by
   simp only[bne_iff_ne,ne_eq,Int.natCast_inj];exact hl
  have HT:Hid (eqG xs ys=false):=Z0d (fun h=>hl (by rw[h]));clear hl;go_enter Tryz.func104,Tryz.ntmps104
  go_wp2
  go_ret
  exact⟨by rw[HT.out];rfl,Below.refl _ _⟩
theorem J5r (xs ys:List (ByteArray×Int)) (A B:Option Addr) (c d:Nat) (w:World) (hx:X4 w w.heap.size 2 A xs.length (wv xs)) (hy:X4 w w.heap.size 2 B ys.length (wv ys)) (hn:xs.length≤140737488351232):
  Calls Tryz.prog 103 #[.slice A xs.length c, .slice B ys.length d] w fun e w'=>e = .returned (.bool (eqG xs ys))∧Below w.heap.size w w':=by
 by_cases hl:xs.length=ys.length
 ·have hne:(((xs.length:Int)) != ((ys.length:Nat):Int))=false:=by simp[hl]
  have hl':=Lib.hid hl;have hlt2:∀k,k<xs.length→k<ys.length:=by rw[hl];exact fun _ h=>h
  clear hl;go_enter Tryz.func103,Tryz.ntmps103
  go_wp2
  go_loopw [5] (fun i wr=>∃k n:Nat,k≤xs.length∧i = .int .i64 k∧wr=w.drewN n∧Hid (xs.take k=ys.take k)) (fun i _=>xs.length-(intOf i).toNat)
  case atStart=>exact⟨0,0,Nat.zero_le _,rfl,rfl,rfl⟩
  case round=>
   obtain⟨k,n,hk,rfl,rfl,ht⟩:=hrel;by_cases hlt:k<xs.length
   ·have hlty:=hlt2 k hlt
    obtain⟨b,o,rfl,_,hcv⟩:=hx.get2 (w:=w) hlt;obtain⟨b2,o2,rfl,_,hcv2⟩:=hy.get2 (w:=w) hlty;obtain⟨u,hu⟩:∃u,xs[k]? = some u:=⟨xs[k]'hlt,List.getElem?_eq_getElem _⟩;obtain⟨v,hv⟩:∃v,ys[k]? = some v:=⟨ys[k]'hlty,List.getElem?_eq_getElem _⟩;obtain⟨g0,g1⟩:=Y0o xs k u hu;obtain⟨p0,p1⟩:=Y0o ys k v hv;have cu0:=hcv 0 _ (by omega) g0;have cu1:=hcv 1 _ (by omega) g1;have cv0:=hcv2 0 _ (by omega) p0;have cv1:=hcv2 1 _ (by omega) p1;rw[Nat.add_zero] at cu0 cv0;clear g0 g1 p0 p1 hcv hcv2;clear hlt2;have hu':=Lib.hid hu;have hv':=Lib.hid hv;have hi:(k:Int)<(xs.length:Int):=by omega
    have hi2:(k:Int)<(ys.length:Int):=by omega
    clear hu hv;by_cases he:u=v
    ·have HT:Hid (xs.take (k+1)=ys.take (k+1)):=Z3q hu'.out hv'.out ht.out he
     subst he
     go_wp2_with fail
     go_quiet (fail)
     go_wp2
     go_roundw
     case rel=>exact⟨k+1,_,by omega,by go_num,rfl,HT⟩
     case measure=>simp[intOf];omega
    ·have HT:Hid (eqG xs ys=false):=Z0d (Y2w hu'.out hv'.out he)
     by_cases h1:u.1=v.1
     ·have h2:¬u.2=v.2:=fun h=>he (Prod.ext h1 h)
      clear he;have h3:(u.2==v.2)=false:=by rw[beq_eq_false_iff_ne];exact h2
      go_wp2_with fail
      go_quiet (fail)
      go_wp2
      go_ret
      exact⟨by rw[HT.out];rfl,U6 (U6 (Below.refl _ _) _) _⟩
     ·have h3:=X0s h1
      clear he h1
      go_wp2_with fail
      go_quiet (fail)
      go_wp2
      go_ret
      exact⟨by rw[HT.out];rfl,U6 (U6 (Below.refl _ _) _) _⟩
   ·have HT:Hid (eqG xs ys=true):=by rw[Z5d (by omega) hl'.out ht.out];exact Z5y _
    go_wp2
    go_ret
    exact⟨by rw[HT.out];rfl,U6 (Below.refl _ _) _⟩
 ·have hne:(((xs.length:Int)) != ((ys.length:Nat):Int))=true:=by
   simp only[bne_iff_ne,ne_eq,Int.natCast_inj];exact hl
  have HT:Hid (eqG xs ys=false):=Z0d (fun h=>hl (by rw[h]));clear hl;go_enter Tryz.func103,Tryz.ntmps103
  go_wp2
  go_ret
  exact⟨by rw[HT.out];rfl,Below.refl _ _⟩
theorem Q2n (xs ys:List (Int)) (A B:Option Addr) (c d:Nat) (w:World) (hx:X4 w w.heap.size 1 A xs.length (xs.map iv)) (hy:X4 w w.heap.size 1 B ys.length (ys.map iv)) (hn:xs.length≤140737488351232):
  Calls Tryz.prog 157 #[.slice A xs.length c, .slice B ys.length d] w fun e w'=>e = .returned (.bool (eqG xs ys))∧Below w.heap.size w w':=by
 by_cases hl:xs.length=ys.length
 ·have hne:(((xs.length:Int)) != ((ys.length:Nat):Int))=false:=by simp[hl]
  have hl':=Lib.hid hl;have hlt2:∀k,k<xs.length→k<ys.length:=by rw[hl];exact fun _ h=>h
  clear hl;go_enter Tryz.func157,Tryz.ntmps157
  go_wp2
  go_loopw [13] (fun i wr=>∃k n:Nat,k≤xs.length∧i = .int .i64 k∧wr=w.drewN n∧Hid (xs.take k=ys.take k)) (fun i _=>xs.length-(intOf i).toNat)
  case atStart=>exact⟨0,0,Nat.zero_le _,rfl,rfl,rfl⟩
  case round=>
   obtain⟨k,n,hk,rfl,rfl,ht⟩:=hrel;by_cases hlt:k<xs.length
   ·have hlty:=hlt2 k hlt
    obtain⟨b,o,uu,rfl,_,hu,cu0⟩:=hx.get1 (w:=w) hlt;obtain⟨b2,o2,vv,rfl,_,hv,cv0⟩:=hy.get1 (w:=w) hlty;rw[List.getElem?_map] at hu hv;obtain⟨u,hu2,rfl⟩:=Option.map_eq_some_iff.1 hu;obtain⟨v,hv2,rfl⟩:=Option.map_eq_some_iff.1 hv;clear hu hv;have hu:=hu2;have hv:=hv2;clear hu2 hv2;clear hlt2;have hu':=Lib.hid hu;have hv':=Lib.hid hv;have hi:(k:Int)<(xs.length:Int):=by omega
    have hi2:(k:Int)<(ys.length:Int):=by omega
    clear hu hv;by_cases he:u=v
    ·have HT:Hid (xs.take (k+1)=ys.take (k+1)):=Z3q hu'.out hv'.out ht.out he
     have hne2:(u != v)=false:=by simp[he]
     go_wp2_with fail
     go_quiet (fail)
     go_wp2
     go_roundw
     case rel=>exact⟨k+1,_,by omega,by go_num,rfl,HT⟩
     case measure=>simp[intOf];omega
    ·have HT:Hid (eqG xs ys=false):=Z0d (Y2w hu'.out hv'.out he)
     have hne2:(u != v)=true:=by simpa using he
     go_wp2_with fail
     go_quiet (fail)
     go_wp2
     go_ret
     exact⟨by rw[HT.out];rfl,U6 (U6 (Below.refl _ _) _) _⟩
   ·have HT:Hid (eqG xs ys=true):=by rw[Z5d (by omega) hl'.out ht.out];exact Z5y _
    go_wp2
    go_ret
    exact⟨by rw[HT.out];rfl,U6 (Below.refl _ _) _⟩
 ·have hne:(((xs.length:Int)) != ((ys.length:Nat):Int))=true:=by
   simp only[bne_iff_ne,ne_eq,Int.natCast_inj];exact hl
  have HT:Hid (eqG xs ys=false):=Z0d (fun h=>hl (by rw[h]));clear hl;go_enter Tryz.func157,Tryz.ntmps157
  go_wp2
  go_ret
  exact⟨by rw[HT.out];rfl,Below.refl _ _⟩
theorem Q2o (xs ys:List (ByteArray)) (A B:Option Addr) (c d:Nat) (w:World) (hx:X4 w w.heap.size 1 A xs.length (xs.map sv)) (hy:X4 w w.heap.size 1 B ys.length (ys.map sv)) (hn:xs.length≤140737488351232):
  Calls Tryz.prog 159 #[.slice A xs.length c, .slice B ys.length d] w fun e w'=>e = .returned (.bool (eqG xs ys))∧Below w.heap.size w w':=by
 by_cases hl:xs.length=ys.length
 ·have hne:(((xs.length:Int)) != ((ys.length:Nat):Int))=false:=by simp[hl]
  have hl':=Lib.hid hl;have hlt2:∀k,k<xs.length→k<ys.length:=by rw[hl];exact fun _ h=>h
  clear hl;go_enter Tryz.func159,Tryz.ntmps159
  go_wp2
  go_loopw [13] (fun i wr=>∃k n:Nat,k≤xs.length∧i = .int .i64 k∧wr=w.drewN n∧Hid (xs.take k=ys.take k)) (fun i _=>xs.length-(intOf i).toNat)
  case atStart=>exact⟨0,0,Nat.zero_le _,rfl,rfl,rfl⟩
  case round=>
   obtain⟨k,n,hk,rfl,rfl,ht⟩:=hrel;by_cases hlt:k<xs.length
   ·have hlty:=hlt2 k hlt
    obtain⟨b,o,uu,rfl,_,hu,cu0⟩:=hx.get1 (w:=w) hlt;obtain⟨b2,o2,vv,rfl,_,hv,cv0⟩:=hy.get1 (w:=w) hlty;rw[List.getElem?_map] at hu hv;obtain⟨u,hu2,rfl⟩:=Option.map_eq_some_iff.1 hu;obtain⟨v,hv2,rfl⟩:=Option.map_eq_some_iff.1 hv;clear hu hv;have hu:=hu2;have hv:=hv2;clear hu2 hv2;clear hlt2;have hu':=Lib.hid hu;have hv':=Lib.hid hv;have hi:(k:Int)<(xs.length:Int):=by omega
    have hi2:(k:Int)<(ys.length:Int):=by omega
    clear hu hv;by_cases he:u=v
    ·have HT:Hid (xs.take (k+1)=ys.take (k+1)):=Z3q hu'.out hv'.out ht.out he
     subst he
     go_wp2_with fail
     go_quiet (fail)
     go_wp2
     go_roundw
     case rel=>exact⟨k+1,_,by omega,by go_num,rfl,HT⟩
     case measure=>simp[intOf];omega
    ·have HT:Hid (eqG xs ys=false):=Z0d (Y2w hu'.out hv'.out he)
     have hne2:=X0s he
     go_wp2_with fail
     go_quiet (fail)
     go_wp2
     go_ret
     exact⟨by rw[HT.out];rfl,U6 (U6 (Below.refl _ _) _) _⟩
   ·have HT:Hid (eqG xs ys=true):=by rw[Z5d (by omega) hl'.out ht.out];exact Z5y _
    go_wp2
    go_ret
    exact⟨by rw[HT.out];rfl,U6 (Below.refl _ _) _⟩
 ·have hne:(((xs.length:Int)) != ((ys.length:Nat):Int))=true:=by
   simp only[bne_iff_ne,ne_eq,Int.natCast_inj];exact hl
  have HT:Hid (eqG xs ys=false):=Z0d (fun h=>hl (by rw[h]));clear hl;go_enter Tryz.func159,Tryz.ntmps159
  go_wp2
  go_ret
  exact⟨by rw[HT.out];rfl,Below.refl _ _⟩
theorem J5s (xs ys:List (ByteArray×Int)) (A B:Option Addr) (c d:Nat) (w:World) (hx:X4 w w.heap.size 2 A xs.length (wv xs)) (hy:X4 w w.heap.size 2 B ys.length (wv ys)) (hn:xs.length≤140737488351232):
  Calls Tryz.prog 158 #[.slice A xs.length c, .slice B ys.length d] w fun e w'=>e = .returned (.bool (eqG xs ys))∧Below w.heap.size w w':=by
 by_cases hl:xs.length=ys.length
 ·have hne:(((xs.length:Int)) != ((ys.length:Nat):Int))=false:=by simp[hl]
  have hl':=Lib.hid hl;have hlt2:∀k,k<xs.length→k<ys.length:=by rw[hl];exact fun _ h=>h
  clear hl;go_enter Tryz.func158,Tryz.ntmps158
  go_wp2
  go_loopw [13] (fun i wr=>∃k n:Nat,k≤xs.length∧i = .int .i64 k∧wr=w.drewN n∧Hid (xs.take k=ys.take k)) (fun i _=>xs.length-(intOf i).toNat)
  case atStart=>exact⟨0,0,Nat.zero_le _,rfl,rfl,rfl⟩
  case round=>
   obtain⟨k,n,hk,rfl,rfl,ht⟩:=hrel;by_cases hlt:k<xs.length
   ·have hlty:=hlt2 k hlt
    obtain⟨b,o,rfl,_,hcv⟩:=hx.get2 (w:=w) hlt;obtain⟨b2,o2,rfl,_,hcv2⟩:=hy.get2 (w:=w) hlty;obtain⟨u,hu⟩:∃u,xs[k]? = some u:=⟨xs[k]'hlt,List.getElem?_eq_getElem _⟩;obtain⟨v,hv⟩:∃v,ys[k]? = some v:=⟨ys[k]'hlty,List.getElem?_eq_getElem _⟩;obtain⟨g0,g1⟩:=Y0o xs k u hu;obtain⟨p0,p1⟩:=Y0o ys k v hv;have cu0:=hcv 0 _ (by omega) g0;have cu1:=hcv 1 _ (by omega) g1;have cv0:=hcv2 0 _ (by omega) p0;have cv1:=hcv2 1 _ (by omega) p1;rw[Nat.add_zero] at cu0 cv0;clear g0 g1 p0 p1 hcv hcv2;clear hlt2;have hu':=Lib.hid hu;have hv':=Lib.hid hv;have hi:(k:Int)<(xs.length:Int):=by omega
    have hi2:(k:Int)<(ys.length:Int):=by omega
    clear hu hv;by_cases he:u=v
    ·have HT:Hid (xs.take (k+1)=ys.take (k+1)):=Z3q hu'.out hv'.out ht.out he
     subst he
     go_wp2_with fail
     go_quiet (fail)
     go_wp2
     go_roundw
     case rel=>exact⟨k+1,_,by omega,by go_num,rfl,HT⟩
     case measure=>simp[intOf];omega
    ·have HT:Hid (eqG xs ys=false):=Z0d (Y2w hu'.out hv'.out he)
     by_cases h1:u.1=v.1
     ·have h2:¬u.2=v.2:=fun h=>he (Prod.ext h1 h)
      clear he;have h3:(u.2==v.2)=false:=by rw[beq_eq_false_iff_ne];exact h2
      go_wp2_with fail
      go_quiet (fail)
      go_wp2
      go_ret
      exact⟨by rw[HT.out];rfl,U6 (U6 (Below.refl _ _) _) _⟩
     ·have h3:=X0s h1
      clear he h1
      go_wp2_with fail
      go_quiet (fail)
      go_wp2
      go_ret
      exact⟨by rw[HT.out];rfl,U6 (U6 (Below.refl _ _) _) _⟩
   ·have HT:Hid (eqG xs ys=true):=by rw[Z5d (by omega) hl'.out ht.out];exact Z5y _
    go_wp2
    go_ret
    exact⟨by rw[HT.out];rfl,U6 (Below.refl _ _) _⟩
 ·have hne:(((xs.length:Int)) != ((ys.length:Nat):Int))=true:=by
   simp only[bne_iff_ne,ne_eq,Int.natCast_inj];exact hl
  have HT:Hid (eqG xs ys=false):=Z0d (fun h=>hl (by rw[h]));clear hl;go_enter Tryz.func158,Tryz.ntmps158
  go_wp2
  go_ret
  exact⟨by rw[HT.out];rfl,Below.refl _ _⟩
end
section
open Go.RowKit
structure Fr (a:Act) (n ga gb k:Nat) (c:Bool):Prop where
 sz:a.tmps.size=n
 df:a.defers=[]
 t2:a.eval (.tmp 2)=pz ga
 t3:a.eval (.tmp 3)=pz gb
 tk:a.eval (.tmp k) = .bool c
theorem Fr.put {a:Act}{n ga gb k:Nat}{c:Bool}(h:Fr a n ga gb k c) (d:Nat) (hd:3<d) (hk:d≠k) (v:Value):Fr (a.put (some d) v) n ga gb k c:=
 ⟨by rw[Act.size_put,h.sz],by rw[Act.defers_put',h.df],by rw[Act.eval_put_ne _ _ _ _ (by omega),h.t2],by rw[Act.eval_put_ne _ _ _ _ (by omega),h.t3],by rw[Act.eval_put_ne _ _ _ _ hk,h.tk]⟩
theorem Fr.res {a:Act}{n ga gb k:Nat}{c:Bool}(h:Fr a n ga gb k c) (d:Nat) (hd:3<d) (hn:d<n) (b:Bool):Fr (a.put (some d) (.bool b)) n ga gb d b:=
 ⟨by rw[Act.size_put,h.sz],by rw[Act.defers_put',h.df],by rw[Act.eval_put_ne _ _ _ _ (by omega),h.t2],by rw[Act.eval_put_ne _ _ _ _ (by omega),h.t3],Act.eval_put_same _ _ _ (by rw[h.sz];exact hn)⟩
section
variable {P:Program}{ops:Array Oper}{rest:List Oper}{a:Act}{w:World}{Q:Exit→Act→World→Prop}{n ga gb k j d0 d1 d2 d3 d4 d5 d6 S T T' f off:Nat}{c e:Bool}{va vb:Value}
 {y0 y1 y2 y3 y4 y5 y6:TypeId}{p0 p1 p2 p3 p4 p5 p6:String}{f0 f1 f2 f3 f4 f5 f6:Array Edge}
theorem Q0 (hF:Fr a n ga gb k c) (hk:3<k) (hd0:d0=k+1) (hd1:d1=k+2) (hd2:d2=k+3) (hd3:d3=k+4) (hd4:d4=k+5) (hd5:d5=k+6) (hd6:d6=k+7) (hn:k+7<n)
  (hj:(ops[j]?).bind (·.dst)=some d0)
  (hf:∀g w,(Instr.fieldAt S (pz g) f).run P w = .ok (.pointer (some ⟨g,off,none⟩)) w)
  (ha:(Instr.loadAt T (.pointer (some ⟨ga,off,none⟩))).run P w = .ok va w) (hb:(Instr.loadAt T (.pointer (some ⟨gb,off,none⟩))).run P w = .ok vb w)
  (hq:(do eqGuard .eql T (.tmp d2) (.tmp d4) va vb;binOp .eql T va vb:Sem Value).run P w = .ok (.bool e) w)
  (h:∀a',Fr a' n ga gb d6 (c&&e)→wpList P ops Q rest a' w):
  wpList P ops Q (⟨some d0, .move (.tmp k),y0,p0,f0,none⟩::⟨some d1, .fieldAddr S (.tmp 2) f,y1,p1,f1,some (j,true)⟩::⟨some d2, .load T (.tmp d1),y2,p2,f2,some (j,true)⟩ ::
   ⟨some d3, .fieldAddr S (.tmp 3) f,y3,p3,f3,some (j,true)⟩::⟨some d4, .load T (.tmp d3),y4,p4,f4,some (j,true)⟩ ::
   ⟨some d5, .binOp .eql T (.tmp d2) (.tmp d4) T',y5,p5,f5,some (j,true)⟩::⟨some d6, .pick (.tmp d0) (.tmp d5) (.const (.bool false)),y6,p6,f6,none⟩::rest) a w:=by
 have run1:∀(v:Value),(pure (.value v):Sem Next).run P w = .ok (.value v) w:=fun v=>rfl;refine N5 (T0 rfl _) d0 rfl (.bool c) w (by rw[←hF.tk];rfl) ?_;have F0:=hF.res d0 (by omega) (by omega) c;generalize a.put (some d0) (.bool c)=a0 at F0;have pick:∀(a5:Act) (ee:Bool),Fr a5 n ga gb d0 c→a5.eval (.tmp d5) = .bool ee∨(c=false)→(c=true→ee=e) →
   wpList P ops Q (⟨some d6, .pick (.tmp d0) (.tmp d5) (.const (.bool false)),y6,p6,f6,none⟩::rest) a5 w:=by
  intro a5 ee F5 h5 hee;refine N5 (T0 rfl _) d6 rfl (.bool (c&&e)) w ?_ (h _ (F5.res d6 (by omega) (by omega) (c&&e)));unfold execOp;simp only[F5.tk];cases c with
  |false=>rfl
  |true=>
   rcases h5 with h5 |h5
   ·rw[h5,hee rfl]
    rfl
   ·cases h5
 cases c with
 |false=>
  have wf:∀(aa:Act) (o:Oper),o.guard=some (j,true)→Fr aa n ga gb d0 false→Region.wanted o (yielded ops aa.tmps)=false:=fun aa o ho hFF=>Z4z ho (Z3m hj hFF.tk);have F1:=F0.put d1 (by omega) (by omega) undef;have F2:=F1.put d2 (by omega) (by omega) undef;have F3:=F2.put d3 (by omega) (by omega) undef;have F4:=F3.put d4 (by omega) (by omega) undef;have F5:=F4.put d5 (by omega) (by omega) undef;refine P5 (wf _ _ rfl F0) d1 rfl (P5 (wf _ _ rfl F1) d2 rfl (P5 (wf _ _ rfl F2) d3 rfl (P5 (wf _ _ rfl F3) d4 rfl (P5 (wf _ _ rfl F4) d5 rfl ?_))));exact pick _ e F5 (.inr rfl) (fun h=>rfl)
 |true=>
  have wt:∀(aa:Act) (o:Oper),o.guard=some (j,true)→Fr aa n ga gb d0 true→Region.wanted o (yielded ops aa.tmps)=true:=fun aa o ho hFF=>Z4z ho (Z3m hj hFF.tk);have F1:=F0.put d1 (by omega) (by omega) (.pointer (some ⟨ga,off,none⟩));have e1:(a0.put (some d1) (.pointer (some ⟨ga,off,none⟩))).eval (.tmp d1)=_:=Act.eval_put_same _ _ _ (by rw[F0.sz];omega);refine N5 (wt _ _ rfl F0) d1 rfl (.pointer (some ⟨ga,off,none⟩)) w ?_ ?_
  ·unfold execOp
   simp only[F0.t2,Sem.run_bind,hf,Result.andThen_ok,Sem.run_pure]
  generalize a0.put (some d1) (.pointer (some ⟨ga,off,none⟩))=a1 at F1 e1;have F2:=F1.put d2 (by omega) (by omega) va;have e2:(a1.put (some d2) va).eval (.tmp d2)=_:=Act.eval_put_same _ _ _ (by rw[F1.sz];omega);refine N5 (wt _ _ rfl F1) d2 rfl va w ?_ ?_
  ·unfold execOp
   simp only[e1,Sem.run_bind,ha,Result.andThen_ok,Sem.run_pure]
  generalize a1.put (some d2) va=a2 at F2 e2;have F3:=F2.put d3 (by omega) (by omega) (.pointer (some ⟨gb,off,none⟩));have e3:(a2.put (some d3) (.pointer (some ⟨gb,off,none⟩))).eval (.tmp d3)=_:=Act.eval_put_same _ _ _ (by rw[F2.sz];omega);have e32:(a2.put (some d3) (.pointer (some ⟨gb,off,none⟩))).eval (.tmp d2)=va:=by rw[Act.eval_put_ne _ _ _ _ (by omega),e2]
  refine N5 (wt _ _ rfl F2) d3 rfl (.pointer (some ⟨gb,off,none⟩)) w ?_ ?_
  ·unfold execOp
   simp only[F2.t3,Sem.run_bind,hf,Result.andThen_ok,Sem.run_pure]
  generalize a2.put (some d3) (.pointer (some ⟨gb,off,none⟩))=a3 at F3 e3 e32;have F4:=F3.put d4 (by omega) (by omega) vb;have e4:(a3.put (some d4) vb).eval (.tmp d4)=_:=Act.eval_put_same _ _ _ (by rw[F3.sz];omega);have e42:(a3.put (some d4) vb).eval (.tmp d2)=va:=by rw[Act.eval_put_ne _ _ _ _ (by omega),e32]
  refine N5 (wt _ _ rfl F3) d4 rfl vb w ?_ ?_
  ·unfold execOp
   simp only[e3,Sem.run_bind,hb,Result.andThen_ok,Sem.run_pure]
  generalize a3.put (some d4) vb=a4 at F4 e4 e42;have F5:=F4.put d5 (by omega) (by omega) (.bool e);refine N5 (wt _ _ rfl F4) d5 rfl (.bool e) w ?_ ?_
  ·unfold execOp
   rw[Sem.run_bind] at hq;simp only[e42,e4,Sem.run_bind,hq,Result.andThen_ok,Sem.run_pure]
  exact pick _ e F5 (.inl (Act.eval_put_same _ _ _ (by rw[F4.sz];omega))) (fun _=>rfl)
theorem Z1t {fn:FuncId}{ats:Array TypeId}(hF:Fr a n ga gb k c) (hk:3<k) (hd0:d0=k+1) (hd1:d1=k+2) (hd2:d2=k+3) (hd3:d3=k+4) (hd4:d4=k+5) (hd5:d5=k+6) (hd6:d6=k+7) (hn:k+7<n)
  (hj:(ops[j]?).bind (·.dst)=some d0)
  (hf:∀g w,(Instr.fieldAt S (pz g) f).run P w = .ok (.pointer (some ⟨g,off,none⟩)) w)
  (ha:(Instr.loadAt T (.pointer (some ⟨ga,off,none⟩))).run P w = .ok va w) (hb:(Instr.loadAt T (.pointer (some ⟨gb,off,none⟩))).run P w = .ok vb w)
  (hen:∀(args:Array Value) (w:World),(callFunc fn args).run P w = .ok (.enter fn args) w)
  (hq:Calls P fn #[va,vb] w fun r w'=>r = .returned (.bool e)∧Below w.heap.size w w')
  (h:∀a' w',Fr a' n ga gb d6 (c&&e)→Below w.heap.size w w'→wpList P ops Q rest a' w'):
  wpList P ops Q (⟨some d0, .move (.tmp k),y0,p0,f0,none⟩::⟨some d1, .fieldAddr S (.tmp 2) f,y1,p1,f1,some (j,true)⟩::⟨some d2, .load T (.tmp d1),y2,p2,f2,some (j,true)⟩ ::
   ⟨some d3, .fieldAddr S (.tmp 3) f,y3,p3,f3,some (j,true)⟩::⟨some d4, .load T (.tmp d3),y4,p4,f4,some (j,true)⟩ ::
   ⟨some d5, .call { callee:=.value (.func fn),args:=#[.tmp d2, .tmp d4],argTypes:=ats },y5,p5,f5,some (j,true)⟩::⟨some d6, .pick (.tmp d0) (.tmp d5) (.const (.bool false)),y6,p6,f6,none⟩::rest) a w:=by
 have hw0:Below w.heap.size w w:=Below.refl _ _;obtain⟨w0,hw0e⟩:∃w0:World,w0=w:=⟨_,rfl⟩;rw[←hw0e] at hq h hw0;refine N5 (T0 rfl _) d0 rfl (.bool c) w (by rw[←hF.tk];rfl) ?_;have F0:=hF.res d0 (by omega) (by omega) c;generalize a.put (some d0) (.bool c)=a0 at F0;have pick:∀(a5:Act) (w:World) (ee:Bool) (hB:Below w0.heap.size w0 w),Fr a5 n ga gb d0 c→a5.eval (.tmp d5) = .bool ee∨(c=false)→(c=true→ee=e) →
   wpList P ops Q (⟨some d6, .pick (.tmp d0) (.tmp d5) (.const (.bool false)),y6,p6,f6,none⟩::rest) a5 w:=by
  intro a5 w ee hB F5 h5 hee;refine N5 (T0 rfl _) d6 rfl (.bool (c&&e)) w ?_ (h _ _ (F5.res d6 (by omega) (by omega) (c&&e)) hB);unfold execOp;simp only[F5.tk];cases c with
  |false=>rfl
  |true=>
   rcases h5 with h5 |h5
   ·rw[h5,hee rfl]
    rfl
   ·cases h5
 cases c with
 |false=>
  have wf:∀(aa:Act) (o:Oper),o.guard=some (j,true)→Fr aa n ga gb d0 false→Region.wanted o (yielded ops aa.tmps)=false:=fun aa o ho hFF=>Z4z ho (Z3m hj hFF.tk);have F1:=F0.put d1 (by omega) (by omega) undef;have F2:=F1.put d2 (by omega) (by omega) undef;have F3:=F2.put d3 (by omega) (by omega) undef;have F4:=F3.put d4 (by omega) (by omega) undef;have F5:=F4.put d5 (by omega) (by omega) undef;refine P5 (wf _ _ rfl F0) d1 rfl (P5 (wf _ _ rfl F1) d2 rfl (P5 (wf _ _ rfl F2) d3 rfl (P5 (wf _ _ rfl F3) d4 rfl (P5 (wf _ _ rfl F4) d5 rfl ?_))));exact pick _ w e (by rw[←hw0e];exact hw0) F5 (.inr rfl) (fun h=>rfl)
 |true=>
  have wt:∀(aa:Act) (o:Oper),o.guard=some (j,true)→Fr aa n ga gb d0 true→Region.wanted o (yielded ops aa.tmps)=true:=fun aa o ho hFF=>Z4z ho (Z3m hj hFF.tk);have F1:=F0.put d1 (by omega) (by omega) (.pointer (some ⟨ga,off,none⟩));have e1:(a0.put (some d1) (.pointer (some ⟨ga,off,none⟩))).eval (.tmp d1)=_:=Act.eval_put_same _ _ _ (by rw[F0.sz];omega);refine N5 (wt _ _ rfl F0) d1 rfl (.pointer (some ⟨ga,off,none⟩)) w ?_ ?_
  ·unfold execOp
   simp only[F0.t2,Sem.run_bind,hf,Result.andThen_ok,Sem.run_pure]
  generalize a0.put (some d1) (.pointer (some ⟨ga,off,none⟩))=a1 at F1 e1;have F2:=F1.put d2 (by omega) (by omega) va;have e2:(a1.put (some d2) va).eval (.tmp d2)=_:=Act.eval_put_same _ _ _ (by rw[F1.sz];omega);refine N5 (wt _ _ rfl F1) d2 rfl va w ?_ ?_
  ·unfold execOp
   simp only[e1,Sem.run_bind,ha,Result.andThen_ok,Sem.run_pure]
  generalize a1.put (some d2) va=a2 at F2 e2;have F3:=F2.put d3 (by omega) (by omega) (.pointer (some ⟨gb,off,none⟩));have e3:(a2.put (some d3) (.pointer (some ⟨gb,off,none⟩))).eval (.tmp d3)=_:=Act.eval_put_same _ _ _ (by rw[F2.sz];omega);have e32:(a2.put (some d3) (.pointer (some ⟨gb,off,none⟩))).eval (.tmp d2)=va:=by rw[Act.eval_put_ne _ _ _ _ (by omega),e2]
  refine N5 (wt _ _ rfl F2) d3 rfl (.pointer (some ⟨gb,off,none⟩)) w ?_ ?_
  ·unfold execOp
   simp only[F2.t3,Sem.run_bind,hf,Result.andThen_ok,Sem.run_pure]
  generalize a2.put (some d3) (.pointer (some ⟨gb,off,none⟩))=a3 at F3 e3 e32;have F4:=F3.put d4 (by omega) (by omega) vb;have e4:(a3.put (some d4) vb).eval (.tmp d4)=_:=Act.eval_put_same _ _ _ (by rw[F3.sz];omega);have e42:(a3.put (some d4) vb).eval (.tmp d2)=va:=by rw[Act.eval_put_ne _ _ _ _ (by omega),e32]
  refine N5 (wt _ _ rfl F3) d4 rfl vb w ?_ ?_
  ·unfold execOp
   simp only[e3,Sem.run_bind,hb,Result.andThen_ok,Sem.run_pure]
  generalize a3.put (some d4) vb=a4 at F4 e4 e42;have F5:=F4.put d5 (by omega) (by omega) (.bool e);refine Z7v (wt _ _ rfl F4) d5 rfl fn #[va,vb] ?_ (fun v w'=>v = .bool e∧Below w0.heap.size w0 w') (by rw[←hw0e];exact hq.mono fun _ _ h=>⟨_,h.1,rfl,h.2⟩) ?_
  ·rw[execOp_call_go,hen]
   simp[e42,e4]
  rintro v w' ⟨rfl,hB⟩;exact pick _ w' e hB F5 (.inl (Act.eval_put_same _ _ _ (by rw[F4.sz];omega))) (fun _=>rfl)
theorem Y1s (hsz:a.tmps.size=n) (hdf:a.defers=[]) (ht2:a.eval (.tmp 2)=pz ga) (ht3:a.eval (.tmp 3)=pz gb)
  (hk:3<d1) (hd2:d2=d1+1) (hd3:d3=d1+2) (hd4:d4=d1+3) (hd5:d5=d1+4) (hn:d1+4<n)
  (hf:∀g w,(Instr.fieldAt S (pz g) f).run P w = .ok (.pointer (some ⟨g,off,none⟩)) w)
  (ha:(Instr.loadAt T (.pointer (some ⟨ga,off,none⟩))).run P w = .ok va w) (hb:(Instr.loadAt T (.pointer (some ⟨gb,off,none⟩))).run P w = .ok vb w)
  (hq:(do eqGuard .eql T (.tmp d2) (.tmp d4) va vb;binOp .eql T va vb:Sem Value).run P w = .ok (.bool e) w)
  (h:∀a',Fr a' n ga gb d5 e→wpList P ops Q rest a' w):
  wpList P ops Q (⟨some d1, .fieldAddr S (.tmp 2) f,y1,p1,f1,none⟩::⟨some d2, .load T (.tmp d1),y2,p2,f2,none⟩ ::
   ⟨some d3, .fieldAddr S (.tmp 3) f,y3,p3,f3,none⟩::⟨some d4, .load T (.tmp d3),y4,p4,f4,none⟩ ::
   ⟨some d5, .binOp .eql T (.tmp d2) (.tmp d4) T',y5,p5,f5,none⟩::rest) a w:=by
 obtain⟨aa,haa⟩:∃aa:Act,aa=a.put (some d1) (.bool true):=⟨_,rfl⟩;have FF:Fr aa n ga gb d1 true:=by
  rw[haa];exact⟨by rw[Act.size_put,hsz],by rw[Act.defers_put',hdf],by rw[Act.eval_put_ne _ _ _ _ (by omega),ht2],by rw[Act.eval_put_ne _ _ _ _ (by omega),ht3],Act.eval_put_same _ _ _ (by rw[hsz];omega)⟩
 have z1:(a.put (some d1) (.pointer (some ⟨ga,off,none⟩))).tmps.size=n:=by rw[Act.size_put,hsz]
 have g1:(a.put (some d1) (.pointer (some ⟨ga,off,none⟩))).defers=[]:=by rw[Act.defers_put',hdf]
 have u1:(a.put (some d1) (.pointer (some ⟨ga,off,none⟩))).eval (.tmp 2)=_:=(Act.eval_put_ne _ _ _ _ (by omega)).trans ht2;have v1:(a.put (some d1) (.pointer (some ⟨ga,off,none⟩))).eval (.tmp 3)=_:=(Act.eval_put_ne _ _ _ _ (by omega)).trans ht3;have e1:(a.put (some d1) (.pointer (some ⟨ga,off,none⟩))).eval (.tmp d1)=_:=Act.eval_put_same _ _ _ (by rw[hsz];omega);refine N5 (T0 rfl _) d1 rfl (.pointer (some ⟨ga,off,none⟩)) w ?_ ?_
 ·unfold execOp
  simp only[ht2,Sem.run_bind,hf,Result.andThen_ok,Sem.run_pure]
 generalize a.put (some d1) (.pointer (some ⟨ga,off,none⟩))=a1 at *;have z2:(a1.put (some d2) va).tmps.size=n:=by rw[Act.size_put,z1]
 have g2:(a1.put (some d2) va).defers=[]:=by rw[Act.defers_put',g1]
 have u2:(a1.put (some d2) va).eval (.tmp 2)=_:=(Act.eval_put_ne _ _ _ _ (by omega)).trans u1;have v2:(a1.put (some d2) va).eval (.tmp 3)=_:=(Act.eval_put_ne _ _ _ _ (by omega)).trans v1;have e2:(a1.put (some d2) va).eval (.tmp d2)=_:=Act.eval_put_same _ _ _ (by rw[z1];omega);refine N5 (T0 rfl _) d2 rfl va w ?_ ?_
 ·unfold execOp
  simp only[e1,Sem.run_bind,ha,Result.andThen_ok,Sem.run_pure]
 generalize a1.put (some d2) va=a2 at *;have z3:(a2.put (some d3) (.pointer (some ⟨gb,off,none⟩))).tmps.size=n:=by rw[Act.size_put,z2]
 have g3:(a2.put (some d3) (.pointer (some ⟨gb,off,none⟩))).defers=[]:=by rw[Act.defers_put',g2]
 have u3:(a2.put (some d3) (.pointer (some ⟨gb,off,none⟩))).eval (.tmp 2)=_:=(Act.eval_put_ne _ _ _ _ (by omega)).trans u2;have v3:(a2.put (some d3) (.pointer (some ⟨gb,off,none⟩))).eval (.tmp 3)=_:=(Act.eval_put_ne _ _ _ _ (by omega)).trans v2;have e3:(a2.put (some d3) (.pointer (some ⟨gb,off,none⟩))).eval (.tmp d3)=_:=Act.eval_put_same _ _ _ (by rw[z2];omega);have e32:(a2.put (some d3) (.pointer (some ⟨gb,off,none⟩))).eval (.tmp d2)=va:=(Act.eval_put_ne _ _ _ _ (by omega)).trans e2;refine N5 (T0 rfl _) d3 rfl (.pointer (some ⟨gb,off,none⟩)) w ?_ ?_
 ·unfold execOp
  simp only[v2,Sem.run_bind,hf,Result.andThen_ok,Sem.run_pure]
 generalize a2.put (some d3) (.pointer (some ⟨gb,off,none⟩))=a3 at *;have z4:(a3.put (some d4) vb).tmps.size=n:=by rw[Act.size_put,z3]
 have g4:(a3.put (some d4) vb).defers=[]:=by rw[Act.defers_put',g3]
 have u4:(a3.put (some d4) vb).eval (.tmp 2)=_:=(Act.eval_put_ne _ _ _ _ (by omega)).trans u3;have v4:(a3.put (some d4) vb).eval (.tmp 3)=_:=(Act.eval_put_ne _ _ _ _ (by omega)).trans v3;have e4:(a3.put (some d4) vb).eval (.tmp d4)=_:=Act.eval_put_same _ _ _ (by rw[z3];omega);have e42:(a3.put (some d4) vb).eval (.tmp d2)=va:=(Act.eval_put_ne _ _ _ _ (by omega)).trans e32;refine N5 (T0 rfl _) d4 rfl vb w ?_ ?_
 ·unfold execOp
  simp only[e3,Sem.run_bind,hb,Result.andThen_ok,Sem.run_pure]
 generalize a3.put (some d4) vb=a4 at *;refine N5 (T0 rfl _) d5 rfl (.bool e) w ?_ ?_
 ·unfold execOp
  rw[Sem.run_bind] at hq;simp only[e42,e4,Sem.run_bind,hq,Result.andThen_ok,Sem.run_pure]
 refine h _ ⟨by rw[Act.size_put,z4],by rw[Act.defers_put',g4],(Act.eval_put_ne _ _ _ _ (by omega)).trans u4,(Act.eval_put_ne _ _ _ _ (by omega)).trans v4,Act.eval_put_same _ _ _ (by rw[z4];omega)⟩
end
end
section
open Go.RowKit
theorem X9a (g:Nat) (w:World):(Instr.fieldAt 49 (pz g) 0).run Tryz.prog w = .ok (pz g) w:=by kernel_rfl
theorem X9b (g:Nat) (w:World):(Instr.fieldAt 49 (pz g) 1).run Tryz.prog w = .ok (.pointer (some ⟨g,1,none⟩)) w:=by kernel_rfl
theorem X9c (g:Nat) (w:World):(Instr.fieldAt 49 (pz g) 2).run Tryz.prog w = .ok (.pointer (some ⟨g,2,none⟩)) w:=by kernel_rfl
theorem X0t (g:Nat) (w:World):(Instr.fieldAt 49 (pz g) 3).run Tryz.prog w = .ok (.pointer (some ⟨g,3,none⟩)) w:=by kernel_rfl
theorem X0u (g:Nat) (w:World):(Instr.fieldAt 49 (pz g) 4).run Tryz.prog w = .ok (.pointer (some ⟨g,4,none⟩)) w:=by kernel_rfl
theorem Y4j (g:Nat) (w:World):(Instr.fieldAt 49 (pz g) 5).run Tryz.prog w = .ok (.pointer (some ⟨g,9,none⟩)) w:=by kernel_rfl
theorem X0v (g:Nat) (w:World):(Instr.fieldAt 49 (pz g) 6).run Tryz.prog w = .ok (.pointer (some ⟨g,10,none⟩)) w:=by kernel_rfl
theorem Y4k (g:Nat) (w:World):(Instr.fieldAt 49 (pz g) 7).run Tryz.prog w = .ok (.pointer (some ⟨g,11,none⟩)) w:=by kernel_rfl
theorem Y4l (g:Nat) (w:World):(Instr.fieldAt 49 (pz g) 8).run Tryz.prog w = .ok (.pointer (some ⟨g,12,none⟩)) w:=by kernel_rfl
theorem X0w (g:Nat) (w:World):(Instr.fieldAt 49 (pz g) 9).run Tryz.prog w = .ok (.pointer (some ⟨g,13,none⟩)) w:=by kernel_rfl
theorem Y6l (g:Nat) (w:World):(Instr.fieldAt 49 (pz g) 10).run Tryz.prog w = .ok (.pointer (some ⟨g,14,none⟩)) w:=by kernel_rfl
theorem Z7n (g:Nat) (w:World):(Instr.fieldAt 49 (pz g) 11).run Tryz.prog w = .ok (.pointer (some ⟨g,15,none⟩)) w:=by kernel_rfl
theorem Y6m (g:Nat) (w:World):(Instr.fieldAt 49 (pz g) 12).run Tryz.prog w = .ok (.pointer (some ⟨g,16,none⟩)) w:=by kernel_rfl
theorem Y6n (g:Nat) (w:World):(Instr.fieldAt 49 (pz g) 13).run Tryz.prog w = .ok (.pointer (some ⟨g,17,none⟩)) w:=by kernel_rfl
theorem X3u (g:Nat) (w:World):(Instr.fieldAt 49 (pz g) 14).run Tryz.prog w = .ok (.pointer (some ⟨g,18,none⟩)) w:=by kernel_rfl
theorem Y6o (g:Nat) (w:World):(Instr.fieldAt 49 (pz g) 15).run Tryz.prog w = .ok (.pointer (some ⟨g,19,none⟩)) w:=by kernel_rfl
theorem Y1t (g:Nat) (w:World):(Instr.fieldAt 49 (pz g) 16).run Tryz.prog w = .ok (.pointer (some ⟨g,20,none⟩)) w:=by kernel_rfl
theorem Y6p (g:Nat) (w:World):(Instr.fieldAt 49 (pz g) 17).run Tryz.prog w = .ok (.pointer (some ⟨g,21,none⟩)) w:=by kernel_rfl
theorem Y6q (g:Nat) (w:World):(Instr.fieldAt 49 (pz g) 18).run Tryz.prog w = .ok (.pointer (some ⟨g,22,none⟩)) w:=by kernel_rfl
theorem Z9j (g:Nat) (w:World):(Instr.fieldAt 49 (pz g) 19).run Tryz.prog w = .ok (.pointer (some ⟨g,23,none⟩)) w:=by kernel_rfl
theorem Z2x (g:Nat) (l:List Value) (a:Bool) (b c:ByteArray) (d:Int) (e:Bool) (w:World) (hC:X5 w g l) (h4:l[4]? = some (.bool a)) (h5:l[5]? = some (.string b)) (h6:l[6]? = some (.string c)) (h7:l[7]? = some (iz d)) (h8:l[8]? = some (.bool e)):
  (Instr.loadAt 44 (.pointer (some ⟨g,4,none⟩))).run Tryz.prog w = .ok (.agg #[.bool a, .string b, .string c,iz d, .bool e]) w:=by
 have c4:=hC.get 4 _ h4;have c5:=hC.get 5 _ h5;have c6:=hC.get 6 _ h6;have c7:=hC.get 7 _ h7;have c8:=hC.get 8 _ h8;simp[go_sem,c4,c5,c6,c7,c8]
theorem Q0v (a a':Bool) (b b' c c':ByteArray) (d d':Int) (e e':Bool) (x y:Operand) (w:World):(do eqGuard .eql 44 x y (.agg #[.bool a, .string b, .string c,iz d, .bool e]) (.agg #[.bool a', .string b', .string c',iz d', .bool e']);binOp .eql 44 (.agg #[.bool a, .string b, .string c,iz d, .bool e]) (.agg #[.bool a', .string b', .string c',iz d', .bool e']):Sem Value).run Tryz.prog w =
  .ok (.bool (a==a'&&(b.toList==b'.toList&&(c.toList==c'.toList&&(d==d'&&e==e'))))) w:=by
 simp[go_sem];by_cases h1:a=a'
 ·by_cases h2:b.toList=b'.toList
  ·by_cases h3:c.toList=c'.toList
   ·by_cases h4:d=d'
    ·by_cases h5:e=e'<;>simp[h1,h2,h3,h4,h5]
    ·simp[h1,h2,h3,h4]
   ·simp[h1,h2,h3]
  ·simp[h1,h2]
 ·simp[h1]
theorem X6h (args:Array Value) (w:World):(callFunc 157 args).run Tryz.prog w = .ok (.enter 157 args) w:=by kernel_rfl
theorem X6i (args:Array Value) (w:World):(callFunc 102 args).run Tryz.prog w = .ok (.enter 102 args) w:=by kernel_rfl
theorem X0x (args:Array Value) (w:World):(callFunc 158 args).run Tryz.prog w = .ok (.enter 158 args) w:=by kernel_rfl
theorem X0y (args:Array Value) (w:World):(callFunc 103 args).run Tryz.prog w = .ok (.enter 103 args) w:=by kernel_rfl
theorem X6j (args:Array Value) (w:World):(callFunc 159 args).run Tryz.prog w = .ok (.enter 159 args) w:=by kernel_rfl
theorem X6k (args:Array Value) (w:World):(callFunc 104 args).run Tryz.prog w = .ok (.enter 104 args) w:=by kernel_rfl
end
end Go.Proofs.YtlacidnnankjlaaGreatDoor
